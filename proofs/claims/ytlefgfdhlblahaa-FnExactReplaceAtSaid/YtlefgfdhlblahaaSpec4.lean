/-
  The reference model's tests of nodes.
-/
import Derived.Test.YtlefgfdhlblahaaSpec3
namespace Go.Proofs.Ytlefgfdhlblahaa
open Go Go.RowKit
namespace Gw
section blaws
variable {P : Program} {Γ : Ctx} {env : Env} {hp : List Ent} {G : IM} {ty : TypeId}
theorem pure_bneq_s {x y : Operand} {t t' : TypeId} {i : TyR} [hI : TyI P t i] (hd : i.desc = .bool) {r : Bool} (hx : evo env x = some (.bool r)) (hy : evo env y = some (.bool r)) :
    PureOp P Γ ⟨env, hp, G⟩ (.binOp .neq t x y t') ty (.bool false) := by
  have h := pure_bneq (P := P) (Γ := Γ) (hp := hp) (G := G) (t := t) (t' := t') (ty := ty) hd hx hy
  rwa [decide_eq_false (by simp)] at h
theorem pure_bneq_tf {x y : Operand} {t t' : TypeId} {i : TyR} [hI : TyI P t i] (hd : i.desc = .bool) (hx : evo env x = some (.bool true)) (hy : evo env y = some (.bool false)) :
    PureOp P Γ ⟨env, hp, G⟩ (.binOp .neq t x y t') ty (.bool true) := pure_bneq hd hx hy
theorem pure_bneq_ft {x y : Operand} {t t' : TypeId} {i : TyR} [hI : TyI P t i] (hd : i.desc = .bool) (hx : evo env x = some (.bool false)) (hy : evo env y = some (.bool true)) :
    PureOp P Γ ⟨env, hp, G⟩ (.binOp .neq t x y t') ty (.bool true) := pure_bneq hd hx hy
end blaws
theorem absLb_spec (n : Int) : ((1 ≤ absLb n ∧ absLb n ≤ 99) ↔ labelOk n = true) := by
  unfold absLb labelOk withinB
  simp only [Bool.or_eq_true, decide_eq_true_eq]
  split
  · omega
  · split <;> omega
set_option maxHeartbeats 0 in
set_option maxRecDepth 100000 in
theorem l4Own_fn (k : Int) (nm : ByteArray) (num : Int) (ty fr : Ty) (lb : Int) (ks : List Tm) (G : IM) (cells : List Value) (hr : RTm G (.mk k nm num ty fr lb ks) cells) (R : Bool)
    (hi : R = true ↔ nm = ⟨#[]⟩ ∧ num = 0 ∧ (1 ≤ absLb lb ∧ absLb lb ≤ 99) ∧ tValid ty = true ∧ tValid fr = true ∧ tCons fr ty = true) :
    Fn Try.prog 107 [.agg ⟨cells⟩] [] G (Val (.bool R) G) := by
  obtain ⟨tk, tks⟩ := ty
  obtain ⟨fk, fks⟩ := fr
  obtain ⟨pt, ct, pf, cf, p, c, es, rfl, hk, hnum, hlb, hty, hfr, hsl, hkl⟩ := hr.open9
  clear hr
  have o3 := sTypeValid_fn _ G _ hty
  have o4 := sTypeValid_fn _ G _ hfr
  have o6 := l1Abs_fn lb G
  refine fn_enter Try.func107 rfl Try.ntmps107 Try.results107 rfl ?_
  intro w0
  refine tri_seq ?_
  refine tri_region ?_
  (refine seq_step (step_box_a rfl rfl) rfl ?_; rintro _ ⟨b3, rfl⟩)
  refine seq_pure (pure_assign rfl) rfl rfl ?_
  refine seq_done ?_
  refine nrm_seq ?_
  refine tri_seq ?_
  refine tri_region ?_
  refine seq_pure (pure_fieldAddr0 rfl) rfl rfl ?_
  refine seq_load (load_bs rfl rfl (by repeat (first | exact List.Mem.head _ | apply List.Mem.tail)) (by rfl)) rfl rfl ?_
  refine seq_val rfl (o6) rfl rfl ?_
  refine seq_pure (pure_assign rfl) rfl rfl ?_
  refine seq_done ?_
  refine nrm_seq ?_
  refine tri_seq ?_
  refine tri_region ?_
  refine seq_pure (pure_fieldAddr0 rfl) rfl rfl ?_
  refine seq_load (load_bs rfl rfl (by repeat (first | exact List.Mem.head _ | apply List.Mem.tail)) (by rfl)) rfl rfl ?_
  refine seq_bool (pure_seql rfl rfl) rfl rfl (fun h19 => ?_) (fun h19 => ?_)
  · refine seq_pure (pure_move rfl) rfl rfl ?_
    refine seq_pure (pure_fieldAddr0 rfl) rfl rfl ?_
    refine seq_load (load_bs rfl rfl (by repeat (first | exact List.Mem.head _ | apply List.Mem.tail)) (by rfl)) rfl rfl ?_
    refine seq_bool (pure_eql rfl rfl) rfl rfl (fun h23 => ?_) (fun h23 => ?_)
    · refine seq_pure (pure_pick_t rfl rfl) rfl rfl ?_
      refine seq_pure (pure_move rfl) rfl rfl ?_
      refine seq_pure (pure_move rfl) rfl rfl ?_
      refine seq_bool (pure_geq rfl rfl) rfl rfl (fun h27 => ?_) (fun h27 => ?_)
      · refine seq_pure (pure_pick_t rfl rfl) rfl rfl ?_
        refine seq_pure (pure_move rfl) rfl rfl ?_
        refine seq_pure (pure_move rfl) rfl rfl ?_
        refine seq_bool (pure_leq rfl rfl) rfl rfl (fun h31 => ?_) (fun h31 => ?_)
        · refine seq_pure (pure_pick_t rfl rfl) rfl rfl ?_
          refine seq_pure (pure_move rfl) rfl rfl ?_
          refine seq_pure (pure_fieldAddr0 rfl) rfl rfl ?_
          refine seq_load (load_ba rfl rfl (by repeat (first | exact List.Mem.head _ | apply List.Mem.tail)) (by rfl)) rfl rfl ?_
          refine seq_valb rfl (o3) rfl rfl (fun h36 => ?_) (fun h36 => ?_)
          · refine seq_pure (pure_pick_t rfl rfl) rfl rfl ?_
            refine seq_pure (pure_move rfl) rfl rfl ?_
            refine seq_pure (pure_fieldAddr0 rfl) rfl rfl ?_
            refine seq_load (load_ba rfl rfl (by repeat (first | exact List.Mem.head _ | apply List.Mem.tail)) (by rfl)) rfl rfl ?_
            refine seq_valb rfl (o4) rfl rfl (fun h41 => ?_) (fun h41 => ?_)
            · refine seq_pure (pure_pick_t rfl rfl) rfl rfl ?_
              refine seq_pure (pure_move rfl) rfl rfl ?_
              refine seq_pure (pure_fieldAddr0 rfl) rfl rfl ?_
              refine seq_load (load_ba rfl rfl (by repeat (first | exact List.Mem.head _ | apply List.Mem.tail)) (by rfl)) rfl rfl ?_
              refine seq_pure (pure_fieldAddr0 rfl) rfl rfl ?_
              refine seq_load (load_ba rfl rfl (by repeat (first | exact List.Mem.head _ | apply List.Mem.tail)) (by rfl)) rfl rfl ?_
              refine seq_valb rfl (l1Consistent_fn _ _ G _ _ _ _ (by assumption) (by assumption) hfr hty) rfl rfl (fun h48 => ?_) (fun h48 => ?_)
              · refine seq_pure (pure_pick_t rfl rfl) rfl rfl ?_
                refine seq_pure (pure_assign rfl) rfl rfl ?_
                refine seq_done ?_
                refine nrm_seq ?_
                refine tri_ret ?_
                refine ret_fin1 (res_tmp rfl) ?_
                exact ⟨rfl, by rw [hi.2 ⟨by (first | assumption | exact Classical.not_not.1 (by assumption)), by omega, by omega, by assumption, by assumption, by assumption⟩], rfl⟩
              · refine seq_pure (pure_pick_t rfl rfl) rfl rfl ?_
                refine seq_pure (pure_assign rfl) rfl rfl ?_
                refine seq_done ?_
                refine nrm_seq ?_
                refine tri_ret ?_
                refine ret_fin1 (res_tmp rfl) ?_
                exact ⟨rfl, by (cases R with | false => rfl | true => (exfalso; obtain ⟨i1, i2, i3, i4, i5, i6⟩ := hi.1 rfl; first | omega | (simp_all; done))), rfl⟩
            · refine seq_pure (pure_pick_t rfl rfl) rfl rfl ?_
              refine seq_pure (pure_move rfl) rfl rfl ?_
              refine seq_skip rfl rfl ?_
              refine seq_skip rfl rfl ?_
              refine seq_skip rfl rfl ?_
              refine seq_skip rfl rfl ?_
              refine seq_skip rfl rfl ?_
              refine seq_pure (pure_pick_f rfl rfl) rfl rfl ?_
              refine seq_pure (pure_assign rfl) rfl rfl ?_
              refine seq_done ?_
              refine nrm_seq ?_
              refine tri_ret ?_
              refine ret_fin1 (res_tmp rfl) ?_
              exact ⟨rfl, by (cases R with | false => rfl | true => (exfalso; obtain ⟨i1, i2, i3, i4, i5, i6⟩ := hi.1 rfl; first | omega | (simp_all; done))), rfl⟩
          · refine seq_pure (pure_pick_t rfl rfl) rfl rfl ?_
            refine seq_pure (pure_move rfl) rfl rfl ?_
            refine seq_skip rfl rfl ?_
            refine seq_skip rfl rfl ?_
            refine seq_skip rfl rfl ?_
            refine seq_pure (pure_pick_f rfl rfl) rfl rfl ?_
            refine seq_pure (pure_move rfl) rfl rfl ?_
            refine seq_skip rfl rfl ?_
            refine seq_skip rfl rfl ?_
            refine seq_skip rfl rfl ?_
            refine seq_skip rfl rfl ?_
            refine seq_skip rfl rfl ?_
            refine seq_pure (pure_pick_f rfl rfl) rfl rfl ?_
            refine seq_pure (pure_assign rfl) rfl rfl ?_
            refine seq_done ?_
            refine nrm_seq ?_
            refine tri_ret ?_
            refine ret_fin1 (res_tmp rfl) ?_
            exact ⟨rfl, by (cases R with | false => rfl | true => (exfalso; obtain ⟨i1, i2, i3, i4, i5, i6⟩ := hi.1 rfl; first | omega | (simp_all; done))), rfl⟩
        · refine seq_pure (pure_pick_t rfl rfl) rfl rfl ?_
          refine seq_pure (pure_move rfl) rfl rfl ?_
          refine seq_skip rfl rfl ?_
          refine seq_skip rfl rfl ?_
          refine seq_skip rfl rfl ?_
          refine seq_pure (pure_pick_f rfl rfl) rfl rfl ?_
          refine seq_pure (pure_move rfl) rfl rfl ?_
          refine seq_skip rfl rfl ?_
          refine seq_skip rfl rfl ?_
          refine seq_skip rfl rfl ?_
          refine seq_pure (pure_pick_f rfl rfl) rfl rfl ?_
          refine seq_pure (pure_move rfl) rfl rfl ?_
          refine seq_skip rfl rfl ?_
          refine seq_skip rfl rfl ?_
          refine seq_skip rfl rfl ?_
          refine seq_skip rfl rfl ?_
          refine seq_skip rfl rfl ?_
          refine seq_pure (pure_pick_f rfl rfl) rfl rfl ?_
          refine seq_pure (pure_assign rfl) rfl rfl ?_
          refine seq_done ?_
          refine nrm_seq ?_
          refine tri_ret ?_
          refine ret_fin1 (res_tmp rfl) ?_
          exact ⟨rfl, by (cases R with | false => rfl | true => (exfalso; obtain ⟨i1, i2, i3, i4, i5, i6⟩ := hi.1 rfl; first | omega | (simp_all; done))), rfl⟩
      · refine seq_pure (pure_pick_t rfl rfl) rfl rfl ?_
        refine seq_pure (pure_move rfl) rfl rfl ?_
        refine seq_skip rfl rfl ?_
        refine seq_skip rfl rfl ?_
        refine seq_pure (pure_pick_f rfl rfl) rfl rfl ?_
        refine seq_pure (pure_move rfl) rfl rfl ?_
        refine seq_skip rfl rfl ?_
        refine seq_skip rfl rfl ?_
        refine seq_skip rfl rfl ?_
        refine seq_pure (pure_pick_f rfl rfl) rfl rfl ?_
        refine seq_pure (pure_move rfl) rfl rfl ?_
        refine seq_skip rfl rfl ?_
        refine seq_skip rfl rfl ?_
        refine seq_skip rfl rfl ?_
        refine seq_pure (pure_pick_f rfl rfl) rfl rfl ?_
        refine seq_pure (pure_move rfl) rfl rfl ?_
        refine seq_skip rfl rfl ?_
        refine seq_skip rfl rfl ?_
        refine seq_skip rfl rfl ?_
        refine seq_skip rfl rfl ?_
        refine seq_skip rfl rfl ?_
        refine seq_pure (pure_pick_f rfl rfl) rfl rfl ?_
        refine seq_pure (pure_assign rfl) rfl rfl ?_
        refine seq_done ?_
        refine nrm_seq ?_
        refine tri_ret ?_
        refine ret_fin1 (res_tmp rfl) ?_
        exact ⟨rfl, by (cases R with | false => rfl | true => (exfalso; obtain ⟨i1, i2, i3, i4, i5, i6⟩ := hi.1 rfl; first | omega | (simp_all; done))), rfl⟩
    · refine seq_pure (pure_pick_t rfl rfl) rfl rfl ?_
      refine seq_pure (pure_move rfl) rfl rfl ?_
      refine seq_skip rfl rfl ?_
      refine seq_skip rfl rfl ?_
      refine seq_pure (pure_pick_f rfl rfl) rfl rfl ?_
      refine seq_pure (pure_move rfl) rfl rfl ?_
      refine seq_skip rfl rfl ?_
      refine seq_skip rfl rfl ?_
      refine seq_pure (pure_pick_f rfl rfl) rfl rfl ?_
      refine seq_pure (pure_move rfl) rfl rfl ?_
      refine seq_skip rfl rfl ?_
      refine seq_skip rfl rfl ?_
      refine seq_skip rfl rfl ?_
      refine seq_pure (pure_pick_f rfl rfl) rfl rfl ?_
      refine seq_pure (pure_move rfl) rfl rfl ?_
      refine seq_skip rfl rfl ?_
      refine seq_skip rfl rfl ?_
      refine seq_skip rfl rfl ?_
      refine seq_pure (pure_pick_f rfl rfl) rfl rfl ?_
      refine seq_pure (pure_move rfl) rfl rfl ?_
      refine seq_skip rfl rfl ?_
      refine seq_skip rfl rfl ?_
      refine seq_skip rfl rfl ?_
      refine seq_skip rfl rfl ?_
      refine seq_skip rfl rfl ?_
      refine seq_pure (pure_pick_f rfl rfl) rfl rfl ?_
      refine seq_pure (pure_assign rfl) rfl rfl ?_
      refine seq_done ?_
      refine nrm_seq ?_
      refine tri_ret ?_
      refine ret_fin1 (res_tmp rfl) ?_
      exact ⟨rfl, by (cases R with | false => rfl | true => (exfalso; obtain ⟨i1, i2, i3, i4, i5, i6⟩ := hi.1 rfl; first | omega | (simp_all; done))), rfl⟩
  · refine seq_pure (pure_move rfl) rfl rfl ?_
    refine seq_skip rfl rfl ?_
    refine seq_skip rfl rfl ?_
    refine seq_skip rfl rfl ?_
    refine seq_pure (pure_pick_f rfl rfl) rfl rfl ?_
    refine seq_pure (pure_move rfl) rfl rfl ?_
    refine seq_skip rfl rfl ?_
    refine seq_skip rfl rfl ?_
    refine seq_pure (pure_pick_f rfl rfl) rfl rfl ?_
    refine seq_pure (pure_move rfl) rfl rfl ?_
    refine seq_skip rfl rfl ?_
    refine seq_skip rfl rfl ?_
    refine seq_pure (pure_pick_f rfl rfl) rfl rfl ?_
    refine seq_pure (pure_move rfl) rfl rfl ?_
    refine seq_skip rfl rfl ?_
    refine seq_skip rfl rfl ?_
    refine seq_skip rfl rfl ?_
    refine seq_pure (pure_pick_f rfl rfl) rfl rfl ?_
    refine seq_pure (pure_move rfl) rfl rfl ?_
    refine seq_skip rfl rfl ?_
    refine seq_skip rfl rfl ?_
    refine seq_skip rfl rfl ?_
    refine seq_pure (pure_pick_f rfl rfl) rfl rfl ?_
    refine seq_pure (pure_move rfl) rfl rfl ?_
    refine seq_skip rfl rfl ?_
    refine seq_skip rfl rfl ?_
    refine seq_skip rfl rfl ?_
    refine seq_skip rfl rfl ?_
    refine seq_skip rfl rfl ?_
    refine seq_pure (pure_pick_f rfl rfl) rfl rfl ?_
    refine seq_pure (pure_assign rfl) rfl rfl ?_
    refine seq_done ?_
    refine nrm_seq ?_
    refine tri_ret ?_
    refine ret_fin1 (res_tmp rfl) ?_
    exact ⟨rfl, by (cases R with | false => rfl | true => (exfalso; obtain ⟨i1, i2, i3, i4, i5, i6⟩ := hi.1 rfl; first | omega | (simp_all; done))), rfl⟩
set_option maxHeartbeats 0 in
set_option maxRecDepth 100000 in
theorem l2Own_fn (k : Int) (nm : ByteArray) (num : Int) (ty fr : Ty) (lb : Int) (ks : List Tm) (G : IM) (cells : List Value) (hr : RTm G (.mk k nm num ty fr lb ks) cells) (R : Bool)
    (hi : R = true ↔ (k = 1 ∨ k = 5 → nameOk nm = true) ∧ (¬(k = 1 ∨ k = 5) → nm = ⟨#[]⟩) ∧ (k = 5 ∨ k = 13 ∨ k = 14 → tValid ty = true) ∧ (¬(k = 5 ∨ k = 13 ∨ k = 14) → tNone ty = true) ∧ (k ≠ 14 → tNone fr = true ∧ lb = 0) ∧ (k = 2 → 0 ≤ num ∧ num ≤ 999) ∧ (k ≠ 2 → num = 0)) :
    Fn Try.prog 106 [.agg ⟨cells⟩] [] G (Val (.bool R) G) := by
  have he : nm = ⟨#[]⟩ → nameOk nm = false := by rintro rfl; rfl
  obtain ⟨tk, tks⟩ := ty
  obtain ⟨fk, fks⟩ := fr
  obtain ⟨pt, ct, pf, cf, p, c, es, rfl, hk, hnum, hlb, hty, hfr, hsl, hkl⟩ := hr.open9
  clear hr
  have o2 := l2Name_fn nm G
  have o3 := sTypeValid_fn _ G _ hty
  have o4 := l2None_fn _ G _ hty
  have o7 := l2None_fn _ G _ hfr
  refine fn_enter Try.func106 rfl Try.ntmps106 Try.results106 rfl ?_
  intro w0
  refine tri_seq ?_
  refine tri_region ?_
  (refine seq_step (step_box_a rfl rfl) rfl ?_; rintro _ ⟨b3, rfl⟩)
  refine seq_pure (pure_assign rfl) rfl rfl ?_
  refine seq_done ?_
  refine nrm_seq ?_
  refine tri_seq ?_
  refine tri_region ?_
  refine seq_pure (pure_fieldAddr0 rfl) rfl rfl ?_
  refine seq_load (load_bs rfl rfl (by repeat (first | exact List.Mem.head _ | apply List.Mem.tail)) (by rfl)) rfl rfl ?_
  refine seq_bool (pure_eql rfl rfl) rfl rfl (fun h11 => ?_) (fun h11 => ?_)
  · refine seq_pure (pure_move rfl) rfl rfl ?_
    refine seq_skip rfl rfl ?_
    refine seq_skip rfl rfl ?_
    refine seq_skip rfl rfl ?_
    refine seq_pure (pure_pick_t rfl rfl) rfl rfl ?_
    refine seq_pure (pure_assign rfl) rfl rfl ?_
    refine seq_done ?_
    refine nrm_seq ?_
    refine tri_seq ?_
    refine tri_region ?_
    refine seq_pure (pure_fieldAddr0 rfl) rfl rfl ?_
    refine seq_load (load_bs rfl rfl (by repeat (first | exact List.Mem.head _ | apply List.Mem.tail)) (by rfl)) rfl rfl ?_
    refine seq_pure (pure_eql_f rfl rfl (by omega)) rfl rfl ?_
    refine seq_pure (pure_move rfl) rfl rfl ?_
    refine seq_pure (pure_fieldAddr0 rfl) rfl rfl ?_
    refine seq_load (load_bs rfl rfl (by repeat (first | exact List.Mem.head _ | apply List.Mem.tail)) (by rfl)) rfl rfl ?_
    refine seq_pure (pure_eql_f rfl rfl (by omega)) rfl rfl ?_
    refine seq_pure (pure_pick_f rfl rfl) rfl rfl ?_
    refine seq_pure (pure_move rfl) rfl rfl ?_
    refine seq_pure (pure_fieldAddr0 rfl) rfl rfl ?_
    refine seq_load (load_bs rfl rfl (by repeat (first | exact List.Mem.head _ | apply List.Mem.tail)) (by rfl)) rfl rfl ?_
    refine seq_pure (pure_eql_f rfl rfl (by omega)) rfl rfl ?_
    refine seq_pure (pure_pick_f rfl rfl) rfl rfl ?_
    refine seq_pure (pure_assign rfl) rfl rfl ?_
    refine seq_done ?_
    refine nrm_seq ?_
    refine tri_seq ?_
    refine tri_seq ?_
    refine tri_region ?_
    refine seq_pure (pure_move rfl) rfl rfl ?_
    refine seq_pure (pure_fieldAddr0 rfl) rfl rfl ?_
    refine seq_load (load_bs rfl rfl (by repeat (first | exact List.Mem.head _ | apply List.Mem.tail)) (by rfl)) rfl rfl ?_
    refine seq_valb rfl (o2) rfl rfl (fun h44 => ?_) (fun h44 => ?_)
    · refine seq_pure (pure_bneq_s rfl rfl rfl) rfl rfl ?_
      refine seq_pure (pure_move rfl) rfl rfl ?_
      refine seq_pure (pure_move rfl) rfl rfl ?_
      refine seq_pure (pure_not_t rfl) rfl rfl ?_
      refine seq_pure (pure_move rfl) rfl rfl ?_
      refine seq_skip rfl rfl ?_
      refine seq_skip rfl rfl ?_
      refine seq_skip rfl rfl ?_
      refine seq_pure (pure_pick_f rfl rfl) rfl rfl ?_
      refine seq_pure (pure_pick_f rfl rfl) rfl rfl ?_
      refine seq_pure (pure_move rfl) rfl rfl ?_
      refine seq_pure (pure_move rfl) rfl rfl ?_
      refine seq_pure (pure_move rfl) rfl rfl ?_
      refine seq_skip rfl rfl ?_
      refine seq_skip rfl rfl ?_
      refine seq_skip rfl rfl ?_
      refine seq_skip rfl rfl ?_
      refine seq_pure (pure_pick_f rfl rfl) rfl rfl ?_
      refine seq_pure (pure_pick_f rfl rfl) rfl rfl ?_
      refine seq_pure (pure_move rfl) rfl rfl ?_
      refine seq_pure (pure_move rfl) rfl rfl ?_
      refine seq_pure (pure_not_f rfl) rfl rfl ?_
      refine seq_pure (pure_move rfl) rfl rfl ?_
      refine seq_pure (pure_fieldAddr0 rfl) rfl rfl ?_
      refine seq_load (load_ba rfl rfl (by repeat (first | exact List.Mem.head _ | apply List.Mem.tail)) (by rfl)) rfl rfl ?_
      refine seq_valb rfl (o4) rfl rfl (fun h70 => ?_) (fun h70 => ?_)
      · refine seq_pure (pure_not_t rfl) rfl rfl ?_
        refine seq_pure (pure_pick_t rfl rfl) rfl rfl ?_
        refine seq_pure (pure_pick_f rfl rfl) rfl rfl ?_
        refine seq_done ?_
        refine nrm_seq ?_
        refine tri_cond_f rfl ?_
        refine tri_skip ?_
        refine nrm_seq ?_
        refine tri_seq ?_
        refine tri_seq ?_
        refine tri_region ?_
        refine seq_pure (pure_fieldAddr0 rfl) rfl rfl ?_
        refine seq_load (load_bs rfl rfl (by repeat (first | exact List.Mem.head _ | apply List.Mem.tail)) (by rfl)) rfl rfl ?_
        refine seq_pure (pure_neq_t rfl rfl (by omega)) rfl rfl ?_
        refine seq_pure (pure_move rfl) rfl rfl ?_
        refine seq_pure (pure_fieldAddr0 rfl) rfl rfl ?_
        refine seq_load (load_ba rfl rfl (by repeat (first | exact List.Mem.head _ | apply List.Mem.tail)) (by rfl)) rfl rfl ?_
        refine seq_valb rfl (o7) rfl rfl (fun h88 => ?_) (fun h88 => ?_)
        · refine seq_pure (pure_not_t rfl) rfl rfl ?_
          refine seq_pure (pure_move rfl) rfl rfl ?_
          refine seq_pure (pure_fieldAddr0 rfl) rfl rfl ?_
          refine seq_load (load_bs rfl rfl (by repeat (first | exact List.Mem.head _ | apply List.Mem.tail)) (by rfl)) rfl rfl ?_
          refine seq_bool (pure_neq rfl rfl) rfl rfl (fun h93 => ?_) (fun h93 => ?_)
          · refine seq_pure (pure_pick_f rfl rfl) rfl rfl ?_
            refine seq_pure (pure_pick_t rfl rfl) rfl rfl ?_
            refine seq_done ?_
            refine nrm_seq ?_
            refine tri_cond_t rfl ?_
            refine tri_seq ?_
            refine tri_region ?_
            refine seq_pure (pure_assign rfl) rfl rfl ?_
            refine seq_done ?_
            refine nrm_seq ?_
            refine tri_ret ?_
            refine ret_seq ?_
            refine ret_fin1 (res_tmp rfl) ?_
            exact ⟨rfl, by (cases R with | false => rfl | true => (exfalso; obtain ⟨i1, i2, i3, i4, i5, i6, i7⟩ := hi.1 rfl; first | omega | (have j := i1 (by omega); simp_all; done) | (have j := he (i2 (by omega)); simp_all; done) | (have j := i2 (by omega); simp_all; done) | (have j := i3 (by omega); simp_all; done) | (have j := i4 (by omega); simp_all; done) | (have j := i5 (by omega); simp_all; done))), rfl⟩
          · refine seq_pure (pure_pick_f rfl rfl) rfl rfl ?_
            refine seq_pure (pure_pick_t rfl rfl) rfl rfl ?_
            refine seq_done ?_
            refine nrm_seq ?_
            refine tri_cond_f rfl ?_
            refine tri_skip ?_
            refine nrm_seq ?_
            refine tri_seq ?_
            refine tri_seq ?_
            refine tri_region ?_
            refine seq_pure (pure_fieldAddr0 rfl) rfl rfl ?_
            refine seq_load (load_bs rfl rfl (by repeat (first | exact List.Mem.head _ | apply List.Mem.tail)) (by rfl)) rfl rfl ?_
            refine seq_pure (pure_eql_f rfl rfl (by omega)) rfl rfl ?_
            refine seq_done ?_
            refine nrm_seq ?_
            refine tri_cond_f rfl ?_
            refine tri_skip ?_
            refine nrm_seq ?_
            refine tri_seq ?_
            refine tri_region ?_
            refine seq_pure (pure_fieldAddr0 rfl) rfl rfl ?_
            refine seq_load (load_bs rfl rfl (by repeat (first | exact List.Mem.head _ | apply List.Mem.tail)) (by rfl)) rfl rfl ?_
            refine seq_bool (pure_eql rfl rfl) rfl rfl (fun h130 => ?_) (fun h130 => ?_)
            · refine seq_pure (pure_assign rfl) rfl rfl ?_
              refine seq_done ?_
              refine nrm_seq ?_
              refine tri_ret ?_
              refine ret_fin1 (res_tmp rfl) ?_
              exact ⟨rfl, by rw [hi.2 ⟨fun _ => by (first | assumption | (exfalso; omega)), fun _ => by (first | assumption | (exfalso; omega) | exact Classical.not_not.1 (by assumption)), fun _ => by (first | assumption | (exfalso; omega)), fun _ => by (first | assumption | (exfalso; omega)), fun _ => ⟨by (first | assumption | (exfalso; omega)), by (first | assumption | omega)⟩, by omega, by omega⟩], rfl⟩
            · refine seq_pure (pure_assign rfl) rfl rfl ?_
              refine seq_done ?_
              refine nrm_seq ?_
              refine tri_ret ?_
              refine ret_fin1 (res_tmp rfl) ?_
              exact ⟨rfl, by (cases R with | false => rfl | true => (exfalso; obtain ⟨i1, i2, i3, i4, i5, i6, i7⟩ := hi.1 rfl; first | omega | (have j := i1 (by omega); simp_all; done) | (have j := he (i2 (by omega)); simp_all; done) | (have j := i2 (by omega); simp_all; done) | (have j := i3 (by omega); simp_all; done) | (have j := i4 (by omega); simp_all; done) | (have j := i5 (by omega); simp_all; done))), rfl⟩
        · refine seq_pure (pure_not_f rfl) rfl rfl ?_
          refine seq_pure (pure_move rfl) rfl rfl ?_
          refine seq_skip rfl rfl ?_
          refine seq_skip rfl rfl ?_
          refine seq_skip rfl rfl ?_
          refine seq_pure (pure_pick_t rfl rfl) rfl rfl ?_
          refine seq_pure (pure_pick_t rfl rfl) rfl rfl ?_
          refine seq_done ?_
          refine nrm_seq ?_
          refine tri_cond_t rfl ?_
          refine tri_seq ?_
          refine tri_region ?_
          refine seq_pure (pure_assign rfl) rfl rfl ?_
          refine seq_done ?_
          refine nrm_seq ?_
          refine tri_ret ?_
          refine ret_seq ?_
          refine ret_fin1 (res_tmp rfl) ?_
          exact ⟨rfl, by (cases R with | false => rfl | true => (exfalso; obtain ⟨i1, i2, i3, i4, i5, i6, i7⟩ := hi.1 rfl; first | omega | (have j := i1 (by omega); simp_all; done) | (have j := he (i2 (by omega)); simp_all; done) | (have j := i2 (by omega); simp_all; done) | (have j := i3 (by omega); simp_all; done) | (have j := i4 (by omega); simp_all; done) | (have j := i5 (by omega); simp_all; done))), rfl⟩
      · refine seq_pure (pure_not_f rfl) rfl rfl ?_
        refine seq_pure (pure_pick_t rfl rfl) rfl rfl ?_
        refine seq_pure (pure_pick_f rfl rfl) rfl rfl ?_
        refine seq_done ?_
        refine nrm_seq ?_
        refine tri_cond_t rfl ?_
        refine tri_seq ?_
        refine tri_region ?_
        refine seq_pure (pure_assign rfl) rfl rfl ?_
        refine seq_done ?_
        refine nrm_seq ?_
        refine tri_ret ?_
        refine ret_seq ?_
        refine ret_fin1 (res_tmp rfl) ?_
        exact ⟨rfl, by (cases R with | false => rfl | true => (exfalso; obtain ⟨i1, i2, i3, i4, i5, i6, i7⟩ := hi.1 rfl; first | omega | (have j := i1 (by omega); simp_all; done) | (have j := he (i2 (by omega)); simp_all; done) | (have j := i2 (by omega); simp_all; done) | (have j := i3 (by omega); simp_all; done) | (have j := i4 (by omega); simp_all; done) | (have j := i5 (by omega); simp_all; done))), rfl⟩
    · refine seq_pure (pure_bneq_tf rfl rfl rfl) rfl rfl ?_
      refine seq_pure (pure_move rfl) rfl rfl ?_
      refine seq_skip rfl rfl ?_
      refine seq_skip rfl rfl ?_
      refine seq_skip rfl rfl ?_
      refine seq_skip rfl rfl ?_
      refine seq_skip rfl rfl ?_
      refine seq_skip rfl rfl ?_
      refine seq_skip rfl rfl ?_
      refine seq_pure (pure_pick_t rfl rfl) rfl rfl ?_
      refine seq_pure (pure_move rfl) rfl rfl ?_
      refine seq_skip rfl rfl ?_
      refine seq_skip rfl rfl ?_
      refine seq_skip rfl rfl ?_
      refine seq_skip rfl rfl ?_
      refine seq_skip rfl rfl ?_
      refine seq_skip rfl rfl ?_
      refine seq_skip rfl rfl ?_
      refine seq_pure (pure_pick_t rfl rfl) rfl rfl ?_
      refine seq_pure (pure_move rfl) rfl rfl ?_
      refine seq_skip rfl rfl ?_
      refine seq_skip rfl rfl ?_
      refine seq_skip rfl rfl ?_
      refine seq_skip rfl rfl ?_
      refine seq_skip rfl rfl ?_
      refine seq_skip rfl rfl ?_
      refine seq_skip rfl rfl ?_
      refine seq_skip rfl rfl ?_
      refine seq_pure (pure_pick_t rfl rfl) rfl rfl ?_
      refine seq_done ?_
      refine nrm_seq ?_
      refine tri_cond_t rfl ?_
      refine tri_seq ?_
      refine tri_region ?_
      refine seq_pure (pure_assign rfl) rfl rfl ?_
      refine seq_done ?_
      refine nrm_seq ?_
      refine tri_ret ?_
      refine ret_seq ?_
      refine ret_fin1 (res_tmp rfl) ?_
      exact ⟨rfl, by (cases R with | false => rfl | true => (exfalso; obtain ⟨i1, i2, i3, i4, i5, i6, i7⟩ := hi.1 rfl; first | omega | (have j := i1 (by omega); simp_all; done) | (have j := he (i2 (by omega)); simp_all; done) | (have j := i2 (by omega); simp_all; done) | (have j := i3 (by omega); simp_all; done) | (have j := i4 (by omega); simp_all; done) | (have j := i5 (by omega); simp_all; done))), rfl⟩
  · refine seq_pure (pure_move rfl) rfl rfl ?_
    refine seq_pure (pure_fieldAddr0 rfl) rfl rfl ?_
    refine seq_load (load_bs rfl rfl (by repeat (first | exact List.Mem.head _ | apply List.Mem.tail)) (by rfl)) rfl rfl ?_
    refine seq_bool (pure_eql rfl rfl) rfl rfl (fun h221 => ?_) (fun h221 => ?_)
    · refine seq_pure (pure_pick_f rfl rfl) rfl rfl ?_
      refine seq_pure (pure_assign rfl) rfl rfl ?_
      refine seq_done ?_
      refine nrm_seq ?_
      refine tri_seq ?_
      refine tri_region ?_
      refine seq_pure (pure_fieldAddr0 rfl) rfl rfl ?_
      refine seq_load (load_bs rfl rfl (by repeat (first | exact List.Mem.head _ | apply List.Mem.tail)) (by rfl)) rfl rfl ?_
      refine seq_pure (pure_eql_t rfl rfl (by omega)) rfl rfl ?_
      refine seq_pure (pure_move rfl) rfl rfl ?_
      refine seq_skip rfl rfl ?_
      refine seq_skip rfl rfl ?_
      refine seq_skip rfl rfl ?_
      refine seq_pure (pure_pick_t rfl rfl) rfl rfl ?_
      refine seq_pure (pure_move rfl) rfl rfl ?_
      refine seq_skip rfl rfl ?_
      refine seq_skip rfl rfl ?_
      refine seq_skip rfl rfl ?_
      refine seq_pure (pure_pick_t rfl rfl) rfl rfl ?_
      refine seq_pure (pure_assign rfl) rfl rfl ?_
      refine seq_done ?_
      refine nrm_seq ?_
      refine tri_seq ?_
      refine tri_seq ?_
      refine tri_region ?_
      refine seq_pure (pure_move rfl) rfl rfl ?_
      refine seq_pure (pure_fieldAddr0 rfl) rfl rfl ?_
      refine seq_load (load_bs rfl rfl (by repeat (first | exact List.Mem.head _ | apply List.Mem.tail)) (by rfl)) rfl rfl ?_
      refine seq_valb rfl (o2) rfl rfl (fun h250 => ?_) (fun h250 => ?_)
      · refine seq_pure (pure_bneq_s rfl rfl rfl) rfl rfl ?_
        refine seq_pure (pure_move rfl) rfl rfl ?_
        refine seq_pure (pure_move rfl) rfl rfl ?_
        refine seq_pure (pure_not_t rfl) rfl rfl ?_
        refine seq_pure (pure_move rfl) rfl rfl ?_
        refine seq_skip rfl rfl ?_
        refine seq_skip rfl rfl ?_
        refine seq_skip rfl rfl ?_
        refine seq_pure (pure_pick_f rfl rfl) rfl rfl ?_
        refine seq_pure (pure_pick_f rfl rfl) rfl rfl ?_
        refine seq_pure (pure_move rfl) rfl rfl ?_
        refine seq_pure (pure_move rfl) rfl rfl ?_
        refine seq_pure (pure_move rfl) rfl rfl ?_
        refine seq_pure (pure_fieldAddr0 rfl) rfl rfl ?_
        refine seq_load (load_ba rfl rfl (by repeat (first | exact List.Mem.head _ | apply List.Mem.tail)) (by rfl)) rfl rfl ?_
        refine seq_valb rfl (o3) rfl rfl (fun h266 => ?_) (fun h266 => ?_)
        · refine seq_pure (pure_not_t rfl) rfl rfl ?_
          refine seq_pure (pure_pick_t rfl rfl) rfl rfl ?_
          refine seq_pure (pure_pick_f rfl rfl) rfl rfl ?_
          refine seq_pure (pure_move rfl) rfl rfl ?_
          refine seq_pure (pure_move rfl) rfl rfl ?_
          refine seq_pure (pure_not_t rfl) rfl rfl ?_
          refine seq_pure (pure_move rfl) rfl rfl ?_
          refine seq_skip rfl rfl ?_
          refine seq_skip rfl rfl ?_
          refine seq_skip rfl rfl ?_
          refine seq_skip rfl rfl ?_
          refine seq_pure (pure_pick_f rfl rfl) rfl rfl ?_
          refine seq_pure (pure_pick_f rfl rfl) rfl rfl ?_
          refine seq_done ?_
          refine nrm_seq ?_
          refine tri_cond_f rfl ?_
          refine tri_skip ?_
          refine nrm_seq ?_
          refine tri_seq ?_
          refine tri_seq ?_
          refine tri_region ?_
          refine seq_pure (pure_fieldAddr0 rfl) rfl rfl ?_
          refine seq_load (load_bs rfl rfl (by repeat (first | exact List.Mem.head _ | apply List.Mem.tail)) (by rfl)) rfl rfl ?_
          refine seq_pure (pure_neq_t rfl rfl (by omega)) rfl rfl ?_
          refine seq_pure (pure_move rfl) rfl rfl ?_
          refine seq_pure (pure_fieldAddr0 rfl) rfl rfl ?_
          refine seq_load (load_ba rfl rfl (by repeat (first | exact List.Mem.head _ | apply List.Mem.tail)) (by rfl)) rfl rfl ?_
          refine seq_valb rfl (o7) rfl rfl (fun h294 => ?_) (fun h294 => ?_)
          · refine seq_pure (pure_not_t rfl) rfl rfl ?_
            refine seq_pure (pure_move rfl) rfl rfl ?_
            refine seq_pure (pure_fieldAddr0 rfl) rfl rfl ?_
            refine seq_load (load_bs rfl rfl (by repeat (first | exact List.Mem.head _ | apply List.Mem.tail)) (by rfl)) rfl rfl ?_
            refine seq_bool (pure_neq rfl rfl) rfl rfl (fun h299 => ?_) (fun h299 => ?_)
            · refine seq_pure (pure_pick_f rfl rfl) rfl rfl ?_
              refine seq_pure (pure_pick_t rfl rfl) rfl rfl ?_
              refine seq_done ?_
              refine nrm_seq ?_
              refine tri_cond_t rfl ?_
              refine tri_seq ?_
              refine tri_region ?_
              refine seq_pure (pure_assign rfl) rfl rfl ?_
              refine seq_done ?_
              refine nrm_seq ?_
              refine tri_ret ?_
              refine ret_seq ?_
              refine ret_fin1 (res_tmp rfl) ?_
              exact ⟨rfl, by (cases R with | false => rfl | true => (exfalso; obtain ⟨i1, i2, i3, i4, i5, i6, i7⟩ := hi.1 rfl; first | omega | (have j := i1 (by omega); simp_all; done) | (have j := he (i2 (by omega)); simp_all; done) | (have j := i2 (by omega); simp_all; done) | (have j := i3 (by omega); simp_all; done) | (have j := i4 (by omega); simp_all; done) | (have j := i5 (by omega); simp_all; done))), rfl⟩
            · refine seq_pure (pure_pick_f rfl rfl) rfl rfl ?_
              refine seq_pure (pure_pick_t rfl rfl) rfl rfl ?_
              refine seq_done ?_
              refine nrm_seq ?_
              refine tri_cond_f rfl ?_
              refine tri_skip ?_
              refine nrm_seq ?_
              refine tri_seq ?_
              refine tri_seq ?_
              refine tri_region ?_
              refine seq_pure (pure_fieldAddr0 rfl) rfl rfl ?_
              refine seq_load (load_bs rfl rfl (by repeat (first | exact List.Mem.head _ | apply List.Mem.tail)) (by rfl)) rfl rfl ?_
              refine seq_pure (pure_eql_f rfl rfl (by omega)) rfl rfl ?_
              refine seq_done ?_
              refine nrm_seq ?_
              refine tri_cond_f rfl ?_
              refine tri_skip ?_
              refine nrm_seq ?_
              refine tri_seq ?_
              refine tri_region ?_
              refine seq_pure (pure_fieldAddr0 rfl) rfl rfl ?_
              refine seq_load (load_bs rfl rfl (by repeat (first | exact List.Mem.head _ | apply List.Mem.tail)) (by rfl)) rfl rfl ?_
              refine seq_bool (pure_eql rfl rfl) rfl rfl (fun h336 => ?_) (fun h336 => ?_)
              · refine seq_pure (pure_assign rfl) rfl rfl ?_
                refine seq_done ?_
                refine nrm_seq ?_
                refine tri_ret ?_
                refine ret_fin1 (res_tmp rfl) ?_
                exact ⟨rfl, by rw [hi.2 ⟨fun _ => by (first | assumption | (exfalso; omega)), fun _ => by (first | assumption | (exfalso; omega) | exact Classical.not_not.1 (by assumption)), fun _ => by (first | assumption | (exfalso; omega)), fun _ => by (first | assumption | (exfalso; omega)), fun _ => ⟨by (first | assumption | (exfalso; omega)), by (first | assumption | omega)⟩, by omega, by omega⟩], rfl⟩
              · refine seq_pure (pure_assign rfl) rfl rfl ?_
                refine seq_done ?_
                refine nrm_seq ?_
                refine tri_ret ?_
                refine ret_fin1 (res_tmp rfl) ?_
                exact ⟨rfl, by (cases R with | false => rfl | true => (exfalso; obtain ⟨i1, i2, i3, i4, i5, i6, i7⟩ := hi.1 rfl; first | omega | (have j := i1 (by omega); simp_all; done) | (have j := he (i2 (by omega)); simp_all; done) | (have j := i2 (by omega); simp_all; done) | (have j := i3 (by omega); simp_all; done) | (have j := i4 (by omega); simp_all; done) | (have j := i5 (by omega); simp_all; done))), rfl⟩
          · refine seq_pure (pure_not_f rfl) rfl rfl ?_
            refine seq_pure (pure_move rfl) rfl rfl ?_
            refine seq_skip rfl rfl ?_
            refine seq_skip rfl rfl ?_
            refine seq_skip rfl rfl ?_
            refine seq_pure (pure_pick_t rfl rfl) rfl rfl ?_
            refine seq_pure (pure_pick_t rfl rfl) rfl rfl ?_
            refine seq_done ?_
            refine nrm_seq ?_
            refine tri_cond_t rfl ?_
            refine tri_seq ?_
            refine tri_region ?_
            refine seq_pure (pure_assign rfl) rfl rfl ?_
            refine seq_done ?_
            refine nrm_seq ?_
            refine tri_ret ?_
            refine ret_seq ?_
            refine ret_fin1 (res_tmp rfl) ?_
            exact ⟨rfl, by (cases R with | false => rfl | true => (exfalso; obtain ⟨i1, i2, i3, i4, i5, i6, i7⟩ := hi.1 rfl; first | omega | (have j := i1 (by omega); simp_all; done) | (have j := he (i2 (by omega)); simp_all; done) | (have j := i2 (by omega); simp_all; done) | (have j := i3 (by omega); simp_all; done) | (have j := i4 (by omega); simp_all; done) | (have j := i5 (by omega); simp_all; done))), rfl⟩
        · refine seq_pure (pure_not_f rfl) rfl rfl ?_
          refine seq_pure (pure_pick_t rfl rfl) rfl rfl ?_
          refine seq_pure (pure_pick_f rfl rfl) rfl rfl ?_
          refine seq_pure (pure_move rfl) rfl rfl ?_
          refine seq_skip rfl rfl ?_
          refine seq_skip rfl rfl ?_
          refine seq_skip rfl rfl ?_
          refine seq_skip rfl rfl ?_
          refine seq_skip rfl rfl ?_
          refine seq_skip rfl rfl ?_
          refine seq_skip rfl rfl ?_
          refine seq_skip rfl rfl ?_
          refine seq_pure (pure_pick_t rfl rfl) rfl rfl ?_
          refine seq_done ?_
          refine nrm_seq ?_
          refine tri_cond_t rfl ?_
          refine tri_seq ?_
          refine tri_region ?_
          refine seq_pure (pure_assign rfl) rfl rfl ?_
          refine seq_done ?_
          refine nrm_seq ?_
          refine tri_ret ?_
          refine ret_seq ?_
          refine ret_fin1 (res_tmp rfl) ?_
          exact ⟨rfl, by (cases R with | false => rfl | true => (exfalso; obtain ⟨i1, i2, i3, i4, i5, i6, i7⟩ := hi.1 rfl; first | omega | (have j := i1 (by omega); simp_all; done) | (have j := he (i2 (by omega)); simp_all; done) | (have j := i2 (by omega); simp_all; done) | (have j := i3 (by omega); simp_all; done) | (have j := i4 (by omega); simp_all; done) | (have j := i5 (by omega); simp_all; done))), rfl⟩
      · refine seq_pure (pure_bneq_tf rfl rfl rfl) rfl rfl ?_
        refine seq_pure (pure_move rfl) rfl rfl ?_
        refine seq_skip rfl rfl ?_
        refine seq_skip rfl rfl ?_
        refine seq_skip rfl rfl ?_
        refine seq_skip rfl rfl ?_
        refine seq_skip rfl rfl ?_
        refine seq_skip rfl rfl ?_
        refine seq_skip rfl rfl ?_
        refine seq_pure (pure_pick_t rfl rfl) rfl rfl ?_
        refine seq_pure (pure_move rfl) rfl rfl ?_
        refine seq_skip rfl rfl ?_
        refine seq_skip rfl rfl ?_
        refine seq_skip rfl rfl ?_
        refine seq_skip rfl rfl ?_
        refine seq_skip rfl rfl ?_
        refine seq_skip rfl rfl ?_
        refine seq_skip rfl rfl ?_
        refine seq_pure (pure_pick_t rfl rfl) rfl rfl ?_
        refine seq_pure (pure_move rfl) rfl rfl ?_
        refine seq_skip rfl rfl ?_
        refine seq_skip rfl rfl ?_
        refine seq_skip rfl rfl ?_
        refine seq_skip rfl rfl ?_
        refine seq_skip rfl rfl ?_
        refine seq_skip rfl rfl ?_
        refine seq_skip rfl rfl ?_
        refine seq_skip rfl rfl ?_
        refine seq_pure (pure_pick_t rfl rfl) rfl rfl ?_
        refine seq_done ?_
        refine nrm_seq ?_
        refine tri_cond_t rfl ?_
        refine tri_seq ?_
        refine tri_region ?_
        refine seq_pure (pure_assign rfl) rfl rfl ?_
        refine seq_done ?_
        refine nrm_seq ?_
        refine tri_ret ?_
        refine ret_seq ?_
        refine ret_fin1 (res_tmp rfl) ?_
        exact ⟨rfl, by (cases R with | false => rfl | true => (exfalso; obtain ⟨i1, i2, i3, i4, i5, i6, i7⟩ := hi.1 rfl; first | omega | (have j := i1 (by omega); simp_all; done) | (have j := he (i2 (by omega)); simp_all; done) | (have j := i2 (by omega); simp_all; done) | (have j := i3 (by omega); simp_all; done) | (have j := i4 (by omega); simp_all; done) | (have j := i5 (by omega); simp_all; done))), rfl⟩
    · refine seq_pure (pure_pick_f rfl rfl) rfl rfl ?_
      refine seq_pure (pure_assign rfl) rfl rfl ?_
      refine seq_done ?_
      refine nrm_seq ?_
      refine tri_seq ?_
      refine tri_region ?_
      refine seq_pure (pure_fieldAddr0 rfl) rfl rfl ?_
      refine seq_load (load_bs rfl rfl (by repeat (first | exact List.Mem.head _ | apply List.Mem.tail)) (by rfl)) rfl rfl ?_
      refine seq_pure (pure_eql_f rfl rfl (by omega)) rfl rfl ?_
      refine seq_pure (pure_move rfl) rfl rfl ?_
      refine seq_pure (pure_fieldAddr0 rfl) rfl rfl ?_
      refine seq_load (load_bs rfl rfl (by repeat (first | exact List.Mem.head _ | apply List.Mem.tail)) (by rfl)) rfl rfl ?_
      refine seq_bool (pure_eql rfl rfl) rfl rfl (fun h446 => ?_) (fun h446 => ?_)
      · refine seq_pure (pure_pick_f rfl rfl) rfl rfl ?_
        refine seq_pure (pure_move rfl) rfl rfl ?_
        refine seq_skip rfl rfl ?_
        refine seq_skip rfl rfl ?_
        refine seq_skip rfl rfl ?_
        refine seq_pure (pure_pick_t rfl rfl) rfl rfl ?_
        refine seq_pure (pure_assign rfl) rfl rfl ?_
        refine seq_done ?_
        refine nrm_seq ?_
        refine tri_seq ?_
        refine tri_seq ?_
        refine tri_region ?_
        refine seq_pure (pure_move rfl) rfl rfl ?_
        refine seq_pure (pure_fieldAddr0 rfl) rfl rfl ?_
        refine seq_load (load_bs rfl rfl (by repeat (first | exact List.Mem.head _ | apply List.Mem.tail)) (by rfl)) rfl rfl ?_
        refine seq_valb rfl (o2) rfl rfl (fun h462 => ?_) (fun h462 => ?_)
        · refine seq_pure (pure_bneq_ft rfl rfl rfl) rfl rfl ?_
          refine seq_pure (pure_move rfl) rfl rfl ?_
          refine seq_skip rfl rfl ?_
          refine seq_skip rfl rfl ?_
          refine seq_skip rfl rfl ?_
          refine seq_skip rfl rfl ?_
          refine seq_skip rfl rfl ?_
          refine seq_skip rfl rfl ?_
          refine seq_skip rfl rfl ?_
          refine seq_pure (pure_pick_t rfl rfl) rfl rfl ?_
          refine seq_pure (pure_move rfl) rfl rfl ?_
          refine seq_skip rfl rfl ?_
          refine seq_skip rfl rfl ?_
          refine seq_skip rfl rfl ?_
          refine seq_skip rfl rfl ?_
          refine seq_skip rfl rfl ?_
          refine seq_skip rfl rfl ?_
          refine seq_skip rfl rfl ?_
          refine seq_pure (pure_pick_t rfl rfl) rfl rfl ?_
          refine seq_pure (pure_move rfl) rfl rfl ?_
          refine seq_skip rfl rfl ?_
          refine seq_skip rfl rfl ?_
          refine seq_skip rfl rfl ?_
          refine seq_skip rfl rfl ?_
          refine seq_skip rfl rfl ?_
          refine seq_skip rfl rfl ?_
          refine seq_skip rfl rfl ?_
          refine seq_skip rfl rfl ?_
          refine seq_pure (pure_pick_t rfl rfl) rfl rfl ?_
          refine seq_done ?_
          refine nrm_seq ?_
          refine tri_cond_t rfl ?_
          refine tri_seq ?_
          refine tri_region ?_
          refine seq_pure (pure_assign rfl) rfl rfl ?_
          refine seq_done ?_
          refine nrm_seq ?_
          refine tri_ret ?_
          refine ret_seq ?_
          refine ret_fin1 (res_tmp rfl) ?_
          exact ⟨rfl, by (cases R with | false => rfl | true => (exfalso; obtain ⟨i1, i2, i3, i4, i5, i6, i7⟩ := hi.1 rfl; first | omega | (have j := i1 (by omega); simp_all; done) | (have j := he (i2 (by omega)); simp_all; done) | (have j := i2 (by omega); simp_all; done) | (have j := i3 (by omega); simp_all; done) | (have j := i4 (by omega); simp_all; done) | (have j := i5 (by omega); simp_all; done))), rfl⟩
        · refine seq_pure (pure_bneq_s rfl rfl rfl) rfl rfl ?_
          refine seq_pure (pure_move rfl) rfl rfl ?_
          refine seq_pure (pure_move rfl) rfl rfl ?_
          refine seq_pure (pure_not_f rfl) rfl rfl ?_
          refine seq_pure (pure_move rfl) rfl rfl ?_
          refine seq_pure (pure_fieldAddr0 rfl) rfl rfl ?_
          refine seq_load (load_bs rfl rfl (by repeat (first | exact List.Mem.head _ | apply List.Mem.tail)) (by rfl)) rfl rfl ?_
          refine seq_bool (pure_sneq rfl rfl) rfl rfl (fun h511 => ?_) (fun h511 => ?_)
          · refine seq_pure (pure_pick_t rfl rfl) rfl rfl ?_
            refine seq_pure (pure_pick_f rfl rfl) rfl rfl ?_
            refine seq_pure (pure_move rfl) rfl rfl ?_
            refine seq_skip rfl rfl ?_
            refine seq_skip rfl rfl ?_
            refine seq_skip rfl rfl ?_
            refine seq_skip rfl rfl ?_
            refine seq_skip rfl rfl ?_
            refine seq_skip rfl rfl ?_
            refine seq_skip rfl rfl ?_
            refine seq_pure (pure_pick_t rfl rfl) rfl rfl ?_
            refine seq_pure (pure_move rfl) rfl rfl ?_
            refine seq_skip rfl rfl ?_
            refine seq_skip rfl rfl ?_
            refine seq_skip rfl rfl ?_
            refine seq_skip rfl rfl ?_
            refine seq_skip rfl rfl ?_
            refine seq_skip rfl rfl ?_
            refine seq_skip rfl rfl ?_
            refine seq_skip rfl rfl ?_
            refine seq_pure (pure_pick_t rfl rfl) rfl rfl ?_
            refine seq_done ?_
            refine nrm_seq ?_
            refine tri_cond_t rfl ?_
            refine tri_seq ?_
            refine tri_region ?_
            refine seq_pure (pure_assign rfl) rfl rfl ?_
            refine seq_done ?_
            refine nrm_seq ?_
            refine tri_ret ?_
            refine ret_seq ?_
            refine ret_fin1 (res_tmp rfl) ?_
            exact ⟨rfl, by (cases R with | false => rfl | true => (exfalso; obtain ⟨i1, i2, i3, i4, i5, i6, i7⟩ := hi.1 rfl; first | omega | (have j := i1 (by omega); simp_all; done) | (have j := he (i2 (by omega)); simp_all; done) | (have j := i2 (by omega); simp_all; done) | (have j := i3 (by omega); simp_all; done) | (have j := i4 (by omega); simp_all; done) | (have j := i5 (by omega); simp_all; done))), rfl⟩
          · refine seq_pure (pure_pick_t rfl rfl) rfl rfl ?_
            refine seq_pure (pure_pick_f rfl rfl) rfl rfl ?_
            refine seq_pure (pure_move rfl) rfl rfl ?_
            refine seq_pure (pure_move rfl) rfl rfl ?_
            refine seq_pure (pure_move rfl) rfl rfl ?_
            refine seq_pure (pure_fieldAddr0 rfl) rfl rfl ?_
            refine seq_load (load_ba rfl rfl (by repeat (first | exact List.Mem.head _ | apply List.Mem.tail)) (by rfl)) rfl rfl ?_
            refine seq_valb rfl (o3) rfl rfl (fun h552 => ?_) (fun h552 => ?_)
            · refine seq_pure (pure_not_t rfl) rfl rfl ?_
              refine seq_pure (pure_pick_t rfl rfl) rfl rfl ?_
              refine seq_pure (pure_pick_f rfl rfl) rfl rfl ?_
              refine seq_pure (pure_move rfl) rfl rfl ?_
              refine seq_pure (pure_move rfl) rfl rfl ?_
              refine seq_pure (pure_not_t rfl) rfl rfl ?_
              refine seq_pure (pure_move rfl) rfl rfl ?_
              refine seq_skip rfl rfl ?_
              refine seq_skip rfl rfl ?_
              refine seq_skip rfl rfl ?_
              refine seq_skip rfl rfl ?_
              refine seq_pure (pure_pick_f rfl rfl) rfl rfl ?_
              refine seq_pure (pure_pick_f rfl rfl) rfl rfl ?_
              refine seq_done ?_
              refine nrm_seq ?_
              refine tri_cond_f rfl ?_
              refine tri_skip ?_
              refine nrm_seq ?_
              refine tri_seq ?_
              refine tri_seq ?_
              refine tri_region ?_
              refine seq_pure (pure_fieldAddr0 rfl) rfl rfl ?_
              refine seq_load (load_bs rfl rfl (by repeat (first | exact List.Mem.head _ | apply List.Mem.tail)) (by rfl)) rfl rfl ?_
              refine seq_pure (pure_neq_t rfl rfl (by omega)) rfl rfl ?_
              refine seq_pure (pure_move rfl) rfl rfl ?_
              refine seq_pure (pure_fieldAddr0 rfl) rfl rfl ?_
              refine seq_load (load_ba rfl rfl (by repeat (first | exact List.Mem.head _ | apply List.Mem.tail)) (by rfl)) rfl rfl ?_
              refine seq_valb rfl (o7) rfl rfl (fun h580 => ?_) (fun h580 => ?_)
              · refine seq_pure (pure_not_t rfl) rfl rfl ?_
                refine seq_pure (pure_move rfl) rfl rfl ?_
                refine seq_pure (pure_fieldAddr0 rfl) rfl rfl ?_
                refine seq_load (load_bs rfl rfl (by repeat (first | exact List.Mem.head _ | apply List.Mem.tail)) (by rfl)) rfl rfl ?_
                refine seq_bool (pure_neq rfl rfl) rfl rfl (fun h585 => ?_) (fun h585 => ?_)
                · refine seq_pure (pure_pick_f rfl rfl) rfl rfl ?_
                  refine seq_pure (pure_pick_t rfl rfl) rfl rfl ?_
                  refine seq_done ?_
                  refine nrm_seq ?_
                  refine tri_cond_t rfl ?_
                  refine tri_seq ?_
                  refine tri_region ?_
                  refine seq_pure (pure_assign rfl) rfl rfl ?_
                  refine seq_done ?_
                  refine nrm_seq ?_
                  refine tri_ret ?_
                  refine ret_seq ?_
                  refine ret_fin1 (res_tmp rfl) ?_
                  exact ⟨rfl, by (cases R with | false => rfl | true => (exfalso; obtain ⟨i1, i2, i3, i4, i5, i6, i7⟩ := hi.1 rfl; first | omega | (have j := i1 (by omega); simp_all; done) | (have j := he (i2 (by omega)); simp_all; done) | (have j := i2 (by omega); simp_all; done) | (have j := i3 (by omega); simp_all; done) | (have j := i4 (by omega); simp_all; done) | (have j := i5 (by omega); simp_all; done))), rfl⟩
                · refine seq_pure (pure_pick_f rfl rfl) rfl rfl ?_
                  refine seq_pure (pure_pick_t rfl rfl) rfl rfl ?_
                  refine seq_done ?_
                  refine nrm_seq ?_
                  refine tri_cond_f rfl ?_
                  refine tri_skip ?_
                  refine nrm_seq ?_
                  refine tri_seq ?_
                  refine tri_seq ?_
                  refine tri_region ?_
                  refine seq_pure (pure_fieldAddr0 rfl) rfl rfl ?_
                  refine seq_load (load_bs rfl rfl (by repeat (first | exact List.Mem.head _ | apply List.Mem.tail)) (by rfl)) rfl rfl ?_
                  refine seq_pure (pure_eql_f rfl rfl (by omega)) rfl rfl ?_
                  refine seq_done ?_
                  refine nrm_seq ?_
                  refine tri_cond_f rfl ?_
                  refine tri_skip ?_
                  refine nrm_seq ?_
                  refine tri_seq ?_
                  refine tri_region ?_
                  refine seq_pure (pure_fieldAddr0 rfl) rfl rfl ?_
                  refine seq_load (load_bs rfl rfl (by repeat (first | exact List.Mem.head _ | apply List.Mem.tail)) (by rfl)) rfl rfl ?_
                  refine seq_bool (pure_eql rfl rfl) rfl rfl (fun h622 => ?_) (fun h622 => ?_)
                  · refine seq_pure (pure_assign rfl) rfl rfl ?_
                    refine seq_done ?_
                    refine nrm_seq ?_
                    refine tri_ret ?_
                    refine ret_fin1 (res_tmp rfl) ?_
                    exact ⟨rfl, by rw [hi.2 ⟨fun _ => by (first | assumption | (exfalso; omega)), fun _ => by (first | assumption | (exfalso; omega) | exact Classical.not_not.1 (by assumption)), fun _ => by (first | assumption | (exfalso; omega)), fun _ => by (first | assumption | (exfalso; omega)), fun _ => ⟨by (first | assumption | (exfalso; omega)), by (first | assumption | omega)⟩, by omega, by omega⟩], rfl⟩
                  · refine seq_pure (pure_assign rfl) rfl rfl ?_
                    refine seq_done ?_
                    refine nrm_seq ?_
                    refine tri_ret ?_
                    refine ret_fin1 (res_tmp rfl) ?_
                    exact ⟨rfl, by (cases R with | false => rfl | true => (exfalso; obtain ⟨i1, i2, i3, i4, i5, i6, i7⟩ := hi.1 rfl; first | omega | (have j := i1 (by omega); simp_all; done) | (have j := he (i2 (by omega)); simp_all; done) | (have j := i2 (by omega); simp_all; done) | (have j := i3 (by omega); simp_all; done) | (have j := i4 (by omega); simp_all; done) | (have j := i5 (by omega); simp_all; done))), rfl⟩
              · refine seq_pure (pure_not_f rfl) rfl rfl ?_
                refine seq_pure (pure_move rfl) rfl rfl ?_
                refine seq_skip rfl rfl ?_
                refine seq_skip rfl rfl ?_
                refine seq_skip rfl rfl ?_
                refine seq_pure (pure_pick_t rfl rfl) rfl rfl ?_
                refine seq_pure (pure_pick_t rfl rfl) rfl rfl ?_
                refine seq_done ?_
                refine nrm_seq ?_
                refine tri_cond_t rfl ?_
                refine tri_seq ?_
                refine tri_region ?_
                refine seq_pure (pure_assign rfl) rfl rfl ?_
                refine seq_done ?_
                refine nrm_seq ?_
                refine tri_ret ?_
                refine ret_seq ?_
                refine ret_fin1 (res_tmp rfl) ?_
                exact ⟨rfl, by (cases R with | false => rfl | true => (exfalso; obtain ⟨i1, i2, i3, i4, i5, i6, i7⟩ := hi.1 rfl; first | omega | (have j := i1 (by omega); simp_all; done) | (have j := he (i2 (by omega)); simp_all; done) | (have j := i2 (by omega); simp_all; done) | (have j := i3 (by omega); simp_all; done) | (have j := i4 (by omega); simp_all; done) | (have j := i5 (by omega); simp_all; done))), rfl⟩
            · refine seq_pure (pure_not_f rfl) rfl rfl ?_
              refine seq_pure (pure_pick_t rfl rfl) rfl rfl ?_
              refine seq_pure (pure_pick_f rfl rfl) rfl rfl ?_
              refine seq_pure (pure_move rfl) rfl rfl ?_
              refine seq_skip rfl rfl ?_
              refine seq_skip rfl rfl ?_
              refine seq_skip rfl rfl ?_
              refine seq_skip rfl rfl ?_
              refine seq_skip rfl rfl ?_
              refine seq_skip rfl rfl ?_
              refine seq_skip rfl rfl ?_
              refine seq_skip rfl rfl ?_
              refine seq_pure (pure_pick_t rfl rfl) rfl rfl ?_
              refine seq_done ?_
              refine nrm_seq ?_
              refine tri_cond_t rfl ?_
              refine tri_seq ?_
              refine tri_region ?_
              refine seq_pure (pure_assign rfl) rfl rfl ?_
              refine seq_done ?_
              refine nrm_seq ?_
              refine tri_ret ?_
              refine ret_seq ?_
              refine ret_fin1 (res_tmp rfl) ?_
              exact ⟨rfl, by (cases R with | false => rfl | true => (exfalso; obtain ⟨i1, i2, i3, i4, i5, i6, i7⟩ := hi.1 rfl; first | omega | (have j := i1 (by omega); simp_all; done) | (have j := he (i2 (by omega)); simp_all; done) | (have j := i2 (by omega); simp_all; done) | (have j := i3 (by omega); simp_all; done) | (have j := i4 (by omega); simp_all; done) | (have j := i5 (by omega); simp_all; done))), rfl⟩
      · refine seq_pure (pure_pick_f rfl rfl) rfl rfl ?_
        refine seq_pure (pure_move rfl) rfl rfl ?_
        refine seq_pure (pure_fieldAddr0 rfl) rfl rfl ?_
        refine seq_load (load_bs rfl rfl (by repeat (first | exact List.Mem.head _ | apply List.Mem.tail)) (by rfl)) rfl rfl ?_
        refine seq_bool (pure_eql rfl rfl) rfl rfl (fun h683 => ?_) (fun h683 => ?_)
        · refine seq_pure (pure_pick_f rfl rfl) rfl rfl ?_
          refine seq_pure (pure_assign rfl) rfl rfl ?_
          refine seq_done ?_
          refine nrm_seq ?_
          refine tri_seq ?_
          refine tri_seq ?_
          refine tri_region ?_
          refine seq_pure (pure_move rfl) rfl rfl ?_
          refine seq_pure (pure_fieldAddr0 rfl) rfl rfl ?_
          refine seq_load (load_bs rfl rfl (by repeat (first | exact List.Mem.head _ | apply List.Mem.tail)) (by rfl)) rfl rfl ?_
          refine seq_valb rfl (o2) rfl rfl (fun h694 => ?_) (fun h694 => ?_)
          · refine seq_pure (pure_bneq_ft rfl rfl rfl) rfl rfl ?_
            refine seq_pure (pure_move rfl) rfl rfl ?_
            refine seq_skip rfl rfl ?_
            refine seq_skip rfl rfl ?_
            refine seq_skip rfl rfl ?_
            refine seq_skip rfl rfl ?_
            refine seq_skip rfl rfl ?_
            refine seq_skip rfl rfl ?_
            refine seq_skip rfl rfl ?_
            refine seq_pure (pure_pick_t rfl rfl) rfl rfl ?_
            refine seq_pure (pure_move rfl) rfl rfl ?_
            refine seq_skip rfl rfl ?_
            refine seq_skip rfl rfl ?_
            refine seq_skip rfl rfl ?_
            refine seq_skip rfl rfl ?_
            refine seq_skip rfl rfl ?_
            refine seq_skip rfl rfl ?_
            refine seq_skip rfl rfl ?_
            refine seq_pure (pure_pick_t rfl rfl) rfl rfl ?_
            refine seq_pure (pure_move rfl) rfl rfl ?_
            refine seq_skip rfl rfl ?_
            refine seq_skip rfl rfl ?_
            refine seq_skip rfl rfl ?_
            refine seq_skip rfl rfl ?_
            refine seq_skip rfl rfl ?_
            refine seq_skip rfl rfl ?_
            refine seq_skip rfl rfl ?_
            refine seq_skip rfl rfl ?_
            refine seq_pure (pure_pick_t rfl rfl) rfl rfl ?_
            refine seq_done ?_
            refine nrm_seq ?_
            refine tri_cond_t rfl ?_
            refine tri_seq ?_
            refine tri_region ?_
            refine seq_pure (pure_assign rfl) rfl rfl ?_
            refine seq_done ?_
            refine nrm_seq ?_
            refine tri_ret ?_
            refine ret_seq ?_
            refine ret_fin1 (res_tmp rfl) ?_
            exact ⟨rfl, by (cases R with | false => rfl | true => (exfalso; obtain ⟨i1, i2, i3, i4, i5, i6, i7⟩ := hi.1 rfl; first | omega | (have j := i1 (by omega); simp_all; done) | (have j := he (i2 (by omega)); simp_all; done) | (have j := i2 (by omega); simp_all; done) | (have j := i3 (by omega); simp_all; done) | (have j := i4 (by omega); simp_all; done) | (have j := i5 (by omega); simp_all; done))), rfl⟩
          · refine seq_pure (pure_bneq_s rfl rfl rfl) rfl rfl ?_
            refine seq_pure (pure_move rfl) rfl rfl ?_
            refine seq_pure (pure_move rfl) rfl rfl ?_
            refine seq_pure (pure_not_f rfl) rfl rfl ?_
            refine seq_pure (pure_move rfl) rfl rfl ?_
            refine seq_pure (pure_fieldAddr0 rfl) rfl rfl ?_
            refine seq_load (load_bs rfl rfl (by repeat (first | exact List.Mem.head _ | apply List.Mem.tail)) (by rfl)) rfl rfl ?_
            refine seq_bool (pure_sneq rfl rfl) rfl rfl (fun h743 => ?_) (fun h743 => ?_)
            · refine seq_pure (pure_pick_t rfl rfl) rfl rfl ?_
              refine seq_pure (pure_pick_f rfl rfl) rfl rfl ?_
              refine seq_pure (pure_move rfl) rfl rfl ?_
              refine seq_skip rfl rfl ?_
              refine seq_skip rfl rfl ?_
              refine seq_skip rfl rfl ?_
              refine seq_skip rfl rfl ?_
              refine seq_skip rfl rfl ?_
              refine seq_skip rfl rfl ?_
              refine seq_skip rfl rfl ?_
              refine seq_pure (pure_pick_t rfl rfl) rfl rfl ?_
              refine seq_pure (pure_move rfl) rfl rfl ?_
              refine seq_skip rfl rfl ?_
              refine seq_skip rfl rfl ?_
              refine seq_skip rfl rfl ?_
              refine seq_skip rfl rfl ?_
              refine seq_skip rfl rfl ?_
              refine seq_skip rfl rfl ?_
              refine seq_skip rfl rfl ?_
              refine seq_skip rfl rfl ?_
              refine seq_pure (pure_pick_t rfl rfl) rfl rfl ?_
              refine seq_done ?_
              refine nrm_seq ?_
              refine tri_cond_t rfl ?_
              refine tri_seq ?_
              refine tri_region ?_
              refine seq_pure (pure_assign rfl) rfl rfl ?_
              refine seq_done ?_
              refine nrm_seq ?_
              refine tri_ret ?_
              refine ret_seq ?_
              refine ret_fin1 (res_tmp rfl) ?_
              exact ⟨rfl, by (cases R with | false => rfl | true => (exfalso; obtain ⟨i1, i2, i3, i4, i5, i6, i7⟩ := hi.1 rfl; first | omega | (have j := i1 (by omega); simp_all; done) | (have j := he (i2 (by omega)); simp_all; done) | (have j := i2 (by omega); simp_all; done) | (have j := i3 (by omega); simp_all; done) | (have j := i4 (by omega); simp_all; done) | (have j := i5 (by omega); simp_all; done))), rfl⟩
            · refine seq_pure (pure_pick_t rfl rfl) rfl rfl ?_
              refine seq_pure (pure_pick_f rfl rfl) rfl rfl ?_
              refine seq_pure (pure_move rfl) rfl rfl ?_
              refine seq_pure (pure_move rfl) rfl rfl ?_
              refine seq_pure (pure_move rfl) rfl rfl ?_
              refine seq_pure (pure_fieldAddr0 rfl) rfl rfl ?_
              refine seq_load (load_ba rfl rfl (by repeat (first | exact List.Mem.head _ | apply List.Mem.tail)) (by rfl)) rfl rfl ?_
              refine seq_valb rfl (o3) rfl rfl (fun h784 => ?_) (fun h784 => ?_)
              · refine seq_pure (pure_not_t rfl) rfl rfl ?_
                refine seq_pure (pure_pick_t rfl rfl) rfl rfl ?_
                refine seq_pure (pure_pick_f rfl rfl) rfl rfl ?_
                refine seq_pure (pure_move rfl) rfl rfl ?_
                refine seq_pure (pure_move rfl) rfl rfl ?_
                refine seq_pure (pure_not_t rfl) rfl rfl ?_
                refine seq_pure (pure_move rfl) rfl rfl ?_
                refine seq_skip rfl rfl ?_
                refine seq_skip rfl rfl ?_
                refine seq_skip rfl rfl ?_
                refine seq_skip rfl rfl ?_
                refine seq_pure (pure_pick_f rfl rfl) rfl rfl ?_
                refine seq_pure (pure_pick_f rfl rfl) rfl rfl ?_
                refine seq_done ?_
                refine nrm_seq ?_
                refine tri_cond_f rfl ?_
                refine tri_skip ?_
                refine nrm_seq ?_
                refine tri_seq ?_
                refine tri_seq ?_
                refine tri_region ?_
                refine seq_pure (pure_fieldAddr0 rfl) rfl rfl ?_
                refine seq_load (load_bs rfl rfl (by repeat (first | exact List.Mem.head _ | apply List.Mem.tail)) (by rfl)) rfl rfl ?_
                refine seq_pure (pure_neq_f rfl rfl (by omega)) rfl rfl ?_
                refine seq_pure (pure_move rfl) rfl rfl ?_
                refine seq_skip rfl rfl ?_
                refine seq_skip rfl rfl ?_
                refine seq_skip rfl rfl ?_
                refine seq_skip rfl rfl ?_
                refine seq_skip rfl rfl ?_
                refine seq_skip rfl rfl ?_
                refine seq_skip rfl rfl ?_
                refine seq_skip rfl rfl ?_
                refine seq_skip rfl rfl ?_
                refine seq_pure (pure_pick_f rfl rfl) rfl rfl ?_
                refine seq_done ?_
                refine nrm_seq ?_
                refine tri_cond_f rfl ?_
                refine tri_skip ?_
                refine nrm_seq ?_
                refine tri_seq ?_
                refine tri_seq ?_
                refine tri_region ?_
                refine seq_pure (pure_fieldAddr0 rfl) rfl rfl ?_
                refine seq_load (load_bs rfl rfl (by repeat (first | exact List.Mem.head _ | apply List.Mem.tail)) (by rfl)) rfl rfl ?_
                refine seq_pure (pure_eql_f rfl rfl (by omega)) rfl rfl ?_
                refine seq_done ?_
                refine nrm_seq ?_
                refine tri_cond_f rfl ?_
                refine tri_skip ?_
                refine nrm_seq ?_
                refine tri_seq ?_
                refine tri_region ?_
                refine seq_pure (pure_fieldAddr0 rfl) rfl rfl ?_
                refine seq_load (load_bs rfl rfl (by repeat (first | exact List.Mem.head _ | apply List.Mem.tail)) (by rfl)) rfl rfl ?_
                refine seq_bool (pure_eql rfl rfl) rfl rfl (fun h840 => ?_) (fun h840 => ?_)
                · refine seq_pure (pure_assign rfl) rfl rfl ?_
                  refine seq_done ?_
                  refine nrm_seq ?_
                  refine tri_ret ?_
                  refine ret_fin1 (res_tmp rfl) ?_
                  exact ⟨rfl, by rw [hi.2 ⟨fun _ => by (first | assumption | (exfalso; omega)), fun _ => by (first | assumption | (exfalso; omega) | exact Classical.not_not.1 (by assumption)), fun _ => by (first | assumption | (exfalso; omega)), fun _ => by (first | assumption | (exfalso; omega)), fun _ => ⟨by (first | assumption | (exfalso; omega)), by (first | assumption | omega)⟩, by omega, by omega⟩], rfl⟩
                · refine seq_pure (pure_assign rfl) rfl rfl ?_
                  refine seq_done ?_
                  refine nrm_seq ?_
                  refine tri_ret ?_
                  refine ret_fin1 (res_tmp rfl) ?_
                  exact ⟨rfl, by (cases R with | false => rfl | true => (exfalso; obtain ⟨i1, i2, i3, i4, i5, i6, i7⟩ := hi.1 rfl; first | omega | (have j := i1 (by omega); simp_all; done) | (have j := he (i2 (by omega)); simp_all; done) | (have j := i2 (by omega); simp_all; done) | (have j := i3 (by omega); simp_all; done) | (have j := i4 (by omega); simp_all; done) | (have j := i5 (by omega); simp_all; done))), rfl⟩
              · refine seq_pure (pure_not_f rfl) rfl rfl ?_
                refine seq_pure (pure_pick_t rfl rfl) rfl rfl ?_
                refine seq_pure (pure_pick_f rfl rfl) rfl rfl ?_
                refine seq_pure (pure_move rfl) rfl rfl ?_
                refine seq_skip rfl rfl ?_
                refine seq_skip rfl rfl ?_
                refine seq_skip rfl rfl ?_
                refine seq_skip rfl rfl ?_
                refine seq_skip rfl rfl ?_
                refine seq_skip rfl rfl ?_
                refine seq_skip rfl rfl ?_
                refine seq_skip rfl rfl ?_
                refine seq_pure (pure_pick_t rfl rfl) rfl rfl ?_
                refine seq_done ?_
                refine nrm_seq ?_
                refine tri_cond_t rfl ?_
                refine tri_seq ?_
                refine tri_region ?_
                refine seq_pure (pure_assign rfl) rfl rfl ?_
                refine seq_done ?_
                refine nrm_seq ?_
                refine tri_ret ?_
                refine ret_seq ?_
                refine ret_fin1 (res_tmp rfl) ?_
                exact ⟨rfl, by (cases R with | false => rfl | true => (exfalso; obtain ⟨i1, i2, i3, i4, i5, i6, i7⟩ := hi.1 rfl; first | omega | (have j := i1 (by omega); simp_all; done) | (have j := he (i2 (by omega)); simp_all; done) | (have j := i2 (by omega); simp_all; done) | (have j := i3 (by omega); simp_all; done) | (have j := i4 (by omega); simp_all; done) | (have j := i5 (by omega); simp_all; done))), rfl⟩
        · refine seq_pure (pure_pick_f rfl rfl) rfl rfl ?_
          refine seq_pure (pure_assign rfl) rfl rfl ?_
          refine seq_done ?_
          refine nrm_seq ?_
          refine tri_seq ?_
          refine tri_seq ?_
          refine tri_region ?_
          refine seq_pure (pure_move rfl) rfl rfl ?_
          refine seq_pure (pure_fieldAddr0 rfl) rfl rfl ?_
          refine seq_load (load_bs rfl rfl (by repeat (first | exact List.Mem.head _ | apply List.Mem.tail)) (by rfl)) rfl rfl ?_
          refine seq_valb rfl (o2) rfl rfl (fun h888 => ?_) (fun h888 => ?_)
          · refine seq_pure (pure_bneq_ft rfl rfl rfl) rfl rfl ?_
            refine seq_pure (pure_move rfl) rfl rfl ?_
            refine seq_skip rfl rfl ?_
            refine seq_skip rfl rfl ?_
            refine seq_skip rfl rfl ?_
            refine seq_skip rfl rfl ?_
            refine seq_skip rfl rfl ?_
            refine seq_skip rfl rfl ?_
            refine seq_skip rfl rfl ?_
            refine seq_pure (pure_pick_t rfl rfl) rfl rfl ?_
            refine seq_pure (pure_move rfl) rfl rfl ?_
            refine seq_skip rfl rfl ?_
            refine seq_skip rfl rfl ?_
            refine seq_skip rfl rfl ?_
            refine seq_skip rfl rfl ?_
            refine seq_skip rfl rfl ?_
            refine seq_skip rfl rfl ?_
            refine seq_skip rfl rfl ?_
            refine seq_pure (pure_pick_t rfl rfl) rfl rfl ?_
            refine seq_pure (pure_move rfl) rfl rfl ?_
            refine seq_skip rfl rfl ?_
            refine seq_skip rfl rfl ?_
            refine seq_skip rfl rfl ?_
            refine seq_skip rfl rfl ?_
            refine seq_skip rfl rfl ?_
            refine seq_skip rfl rfl ?_
            refine seq_skip rfl rfl ?_
            refine seq_skip rfl rfl ?_
            refine seq_pure (pure_pick_t rfl rfl) rfl rfl ?_
            refine seq_done ?_
            refine nrm_seq ?_
            refine tri_cond_t rfl ?_
            refine tri_seq ?_
            refine tri_region ?_
            refine seq_pure (pure_assign rfl) rfl rfl ?_
            refine seq_done ?_
            refine nrm_seq ?_
            refine tri_ret ?_
            refine ret_seq ?_
            refine ret_fin1 (res_tmp rfl) ?_
            exact ⟨rfl, by (cases R with | false => rfl | true => (exfalso; obtain ⟨i1, i2, i3, i4, i5, i6, i7⟩ := hi.1 rfl; first | omega | (have j := i1 (by omega); simp_all; done) | (have j := he (i2 (by omega)); simp_all; done) | (have j := i2 (by omega); simp_all; done) | (have j := i3 (by omega); simp_all; done) | (have j := i4 (by omega); simp_all; done) | (have j := i5 (by omega); simp_all; done))), rfl⟩
          · refine seq_pure (pure_bneq_s rfl rfl rfl) rfl rfl ?_
            refine seq_pure (pure_move rfl) rfl rfl ?_
            refine seq_pure (pure_move rfl) rfl rfl ?_
            refine seq_pure (pure_not_f rfl) rfl rfl ?_
            refine seq_pure (pure_move rfl) rfl rfl ?_
            refine seq_pure (pure_fieldAddr0 rfl) rfl rfl ?_
            refine seq_load (load_bs rfl rfl (by repeat (first | exact List.Mem.head _ | apply List.Mem.tail)) (by rfl)) rfl rfl ?_
            refine seq_bool (pure_sneq rfl rfl) rfl rfl (fun h937 => ?_) (fun h937 => ?_)
            · refine seq_pure (pure_pick_t rfl rfl) rfl rfl ?_
              refine seq_pure (pure_pick_f rfl rfl) rfl rfl ?_
              refine seq_pure (pure_move rfl) rfl rfl ?_
              refine seq_skip rfl rfl ?_
              refine seq_skip rfl rfl ?_
              refine seq_skip rfl rfl ?_
              refine seq_skip rfl rfl ?_
              refine seq_skip rfl rfl ?_
              refine seq_skip rfl rfl ?_
              refine seq_skip rfl rfl ?_
              refine seq_pure (pure_pick_t rfl rfl) rfl rfl ?_
              refine seq_pure (pure_move rfl) rfl rfl ?_
              refine seq_skip rfl rfl ?_
              refine seq_skip rfl rfl ?_
              refine seq_skip rfl rfl ?_
              refine seq_skip rfl rfl ?_
              refine seq_skip rfl rfl ?_
              refine seq_skip rfl rfl ?_
              refine seq_skip rfl rfl ?_
              refine seq_skip rfl rfl ?_
              refine seq_pure (pure_pick_t rfl rfl) rfl rfl ?_
              refine seq_done ?_
              refine nrm_seq ?_
              refine tri_cond_t rfl ?_
              refine tri_seq ?_
              refine tri_region ?_
              refine seq_pure (pure_assign rfl) rfl rfl ?_
              refine seq_done ?_
              refine nrm_seq ?_
              refine tri_ret ?_
              refine ret_seq ?_
              refine ret_fin1 (res_tmp rfl) ?_
              exact ⟨rfl, by (cases R with | false => rfl | true => (exfalso; obtain ⟨i1, i2, i3, i4, i5, i6, i7⟩ := hi.1 rfl; first | omega | (have j := i1 (by omega); simp_all; done) | (have j := he (i2 (by omega)); simp_all; done) | (have j := i2 (by omega); simp_all; done) | (have j := i3 (by omega); simp_all; done) | (have j := i4 (by omega); simp_all; done) | (have j := i5 (by omega); simp_all; done))), rfl⟩
            · refine seq_pure (pure_pick_t rfl rfl) rfl rfl ?_
              refine seq_pure (pure_pick_f rfl rfl) rfl rfl ?_
              refine seq_pure (pure_move rfl) rfl rfl ?_
              refine seq_pure (pure_move rfl) rfl rfl ?_
              refine seq_pure (pure_move rfl) rfl rfl ?_
              refine seq_skip rfl rfl ?_
              refine seq_skip rfl rfl ?_
              refine seq_skip rfl rfl ?_
              refine seq_skip rfl rfl ?_
              refine seq_pure (pure_pick_f rfl rfl) rfl rfl ?_
              refine seq_pure (pure_pick_f rfl rfl) rfl rfl ?_
              refine seq_pure (pure_move rfl) rfl rfl ?_
              refine seq_pure (pure_move rfl) rfl rfl ?_
              refine seq_pure (pure_not_f rfl) rfl rfl ?_
              refine seq_pure (pure_move rfl) rfl rfl ?_
              refine seq_pure (pure_fieldAddr0 rfl) rfl rfl ?_
              refine seq_load (load_ba rfl rfl (by repeat (first | exact List.Mem.head _ | apply List.Mem.tail)) (by rfl)) rfl rfl ?_
              refine seq_valb rfl (o4) rfl rfl (fun h988 => ?_) (fun h988 => ?_)
              · refine seq_pure (pure_not_t rfl) rfl rfl ?_
                refine seq_pure (pure_pick_t rfl rfl) rfl rfl ?_
                refine seq_pure (pure_pick_f rfl rfl) rfl rfl ?_
                refine seq_done ?_
                refine nrm_seq ?_
                refine tri_cond_f rfl ?_
                refine tri_skip ?_
                refine nrm_seq ?_
                refine tri_seq ?_
                refine tri_seq ?_
                refine tri_region ?_
                refine seq_pure (pure_fieldAddr0 rfl) rfl rfl ?_
                refine seq_load (load_bs rfl rfl (by repeat (first | exact List.Mem.head _ | apply List.Mem.tail)) (by rfl)) rfl rfl ?_
                refine seq_pure (pure_neq_t rfl rfl (by omega)) rfl rfl ?_
                refine seq_pure (pure_move rfl) rfl rfl ?_
                refine seq_pure (pure_fieldAddr0 rfl) rfl rfl ?_
                refine seq_load (load_ba rfl rfl (by repeat (first | exact List.Mem.head _ | apply List.Mem.tail)) (by rfl)) rfl rfl ?_
                refine seq_valb rfl (o7) rfl rfl (fun h1006 => ?_) (fun h1006 => ?_)
                · refine seq_pure (pure_not_t rfl) rfl rfl ?_
                  refine seq_pure (pure_move rfl) rfl rfl ?_
                  refine seq_pure (pure_fieldAddr0 rfl) rfl rfl ?_
                  refine seq_load (load_bs rfl rfl (by repeat (first | exact List.Mem.head _ | apply List.Mem.tail)) (by rfl)) rfl rfl ?_
                  refine seq_bool (pure_neq rfl rfl) rfl rfl (fun h1011 => ?_) (fun h1011 => ?_)
                  · refine seq_pure (pure_pick_f rfl rfl) rfl rfl ?_
                    refine seq_pure (pure_pick_t rfl rfl) rfl rfl ?_
                    refine seq_done ?_
                    refine nrm_seq ?_
                    refine tri_cond_t rfl ?_
                    refine tri_seq ?_
                    refine tri_region ?_
                    refine seq_pure (pure_assign rfl) rfl rfl ?_
                    refine seq_done ?_
                    refine nrm_seq ?_
                    refine tri_ret ?_
                    refine ret_seq ?_
                    refine ret_fin1 (res_tmp rfl) ?_
                    exact ⟨rfl, by (cases R with | false => rfl | true => (exfalso; obtain ⟨i1, i2, i3, i4, i5, i6, i7⟩ := hi.1 rfl; first | omega | (have j := i1 (by omega); simp_all; done) | (have j := he (i2 (by omega)); simp_all; done) | (have j := i2 (by omega); simp_all; done) | (have j := i3 (by omega); simp_all; done) | (have j := i4 (by omega); simp_all; done) | (have j := i5 (by omega); simp_all; done))), rfl⟩
                  · refine seq_pure (pure_pick_f rfl rfl) rfl rfl ?_
                    refine seq_pure (pure_pick_t rfl rfl) rfl rfl ?_
                    refine seq_done ?_
                    refine nrm_seq ?_
                    refine tri_cond_f rfl ?_
                    refine tri_skip ?_
                    refine nrm_seq ?_
                    refine tri_seq ?_
                    refine tri_seq ?_
                    refine tri_region ?_
                    refine seq_pure (pure_fieldAddr0 rfl) rfl rfl ?_
                    refine seq_load (load_bs rfl rfl (by repeat (first | exact List.Mem.head _ | apply List.Mem.tail)) (by rfl)) rfl rfl ?_
                    refine seq_bool (pure_eql rfl rfl) rfl rfl (fun h1038 => ?_) (fun h1038 => ?_)
                    · refine seq_done ?_
                      refine nrm_seq ?_
                      refine tri_cond_t rfl ?_
                      refine tri_seq ?_
                      refine tri_region ?_
                      refine seq_pure (pure_fieldAddr0 rfl) rfl rfl ?_
                      refine seq_load (load_bs rfl rfl (by repeat (first | exact List.Mem.head _ | apply List.Mem.tail)) (by rfl)) rfl rfl ?_
                      refine seq_bool (pure_geq rfl rfl) rfl rfl (fun h1046 => ?_) (fun h1046 => ?_)
                      · refine seq_pure (pure_move rfl) rfl rfl ?_
                        refine seq_pure (pure_fieldAddr0 rfl) rfl rfl ?_
                        refine seq_load (load_bs rfl rfl (by repeat (first | exact List.Mem.head _ | apply List.Mem.tail)) (by rfl)) rfl rfl ?_
                        refine seq_bool (pure_leq rfl rfl) rfl rfl (fun h1050 => ?_) (fun h1050 => ?_)
                        · refine seq_pure (pure_pick_t rfl rfl) rfl rfl ?_
                          refine seq_pure (pure_assign rfl) rfl rfl ?_
                          refine seq_done ?_
                          refine nrm_seq ?_
                          refine tri_ret ?_
                          refine ret_seq ?_
                          refine ret_fin1 (res_tmp rfl) ?_
                          exact ⟨rfl, by rw [hi.2 ⟨fun _ => by (first | assumption | (exfalso; omega)), fun _ => by (first | assumption | (exfalso; omega) | exact Classical.not_not.1 (by assumption)), fun _ => by (first | assumption | (exfalso; omega)), fun _ => by (first | assumption | (exfalso; omega)), fun _ => ⟨by (first | assumption | (exfalso; omega)), by (first | assumption | omega)⟩, by omega, by omega⟩], rfl⟩
                        · refine seq_pure (pure_pick_t rfl rfl) rfl rfl ?_
                          refine seq_pure (pure_assign rfl) rfl rfl ?_
                          refine seq_done ?_
                          refine nrm_seq ?_
                          refine tri_ret ?_
                          refine ret_seq ?_
                          refine ret_fin1 (res_tmp rfl) ?_
                          exact ⟨rfl, by (cases R with | false => rfl | true => (exfalso; obtain ⟨i1, i2, i3, i4, i5, i6, i7⟩ := hi.1 rfl; first | omega | (have j := i1 (by omega); simp_all; done) | (have j := he (i2 (by omega)); simp_all; done) | (have j := i2 (by omega); simp_all; done) | (have j := i3 (by omega); simp_all; done) | (have j := i4 (by omega); simp_all; done) | (have j := i5 (by omega); simp_all; done))), rfl⟩
                      · refine seq_pure (pure_move rfl) rfl rfl ?_
                        refine seq_skip rfl rfl ?_
                        refine seq_skip rfl rfl ?_
                        refine seq_skip rfl rfl ?_
                        refine seq_pure (pure_pick_f rfl rfl) rfl rfl ?_
                        refine seq_pure (pure_assign rfl) rfl rfl ?_
                        refine seq_done ?_
                        refine nrm_seq ?_
                        refine tri_ret ?_
                        refine ret_seq ?_
                        refine ret_fin1 (res_tmp rfl) ?_
                        exact ⟨rfl, by (cases R with | false => rfl | true => (exfalso; obtain ⟨i1, i2, i3, i4, i5, i6, i7⟩ := hi.1 rfl; first | omega | (have j := i1 (by omega); simp_all; done) | (have j := he (i2 (by omega)); simp_all; done) | (have j := i2 (by omega); simp_all; done) | (have j := i3 (by omega); simp_all; done) | (have j := i4 (by omega); simp_all; done) | (have j := i5 (by omega); simp_all; done))), rfl⟩
                    · refine seq_done ?_
                      refine nrm_seq ?_
                      refine tri_cond_f rfl ?_
                      refine tri_skip ?_
                      refine nrm_seq ?_
                      refine tri_seq ?_
                      refine tri_region ?_
                      refine seq_pure (pure_fieldAddr0 rfl) rfl rfl ?_
                      refine seq_load (load_bs rfl rfl (by repeat (first | exact List.Mem.head _ | apply List.Mem.tail)) (by rfl)) rfl rfl ?_
                      refine seq_bool (pure_eql rfl rfl) rfl rfl (fun h1088 => ?_) (fun h1088 => ?_)
                      · refine seq_pure (pure_assign rfl) rfl rfl ?_
                        refine seq_done ?_
                        refine nrm_seq ?_
                        refine tri_ret ?_
                        refine ret_fin1 (res_tmp rfl) ?_
                        exact ⟨rfl, by rw [hi.2 ⟨fun _ => by (first | assumption | (exfalso; omega)), fun _ => by (first | assumption | (exfalso; omega) | exact Classical.not_not.1 (by assumption)), fun _ => by (first | assumption | (exfalso; omega)), fun _ => by (first | assumption | (exfalso; omega)), fun _ => ⟨by (first | assumption | (exfalso; omega)), by (first | assumption | omega)⟩, by omega, by omega⟩], rfl⟩
                      · refine seq_pure (pure_assign rfl) rfl rfl ?_
                        refine seq_done ?_
                        refine nrm_seq ?_
                        refine tri_ret ?_
                        refine ret_fin1 (res_tmp rfl) ?_
                        exact ⟨rfl, by (cases R with | false => rfl | true => (exfalso; obtain ⟨i1, i2, i3, i4, i5, i6, i7⟩ := hi.1 rfl; first | omega | (have j := i1 (by omega); simp_all; done) | (have j := he (i2 (by omega)); simp_all; done) | (have j := i2 (by omega); simp_all; done) | (have j := i3 (by omega); simp_all; done) | (have j := i4 (by omega); simp_all; done) | (have j := i5 (by omega); simp_all; done))), rfl⟩
                · refine seq_pure (pure_not_f rfl) rfl rfl ?_
                  refine seq_pure (pure_move rfl) rfl rfl ?_
                  refine seq_skip rfl rfl ?_
                  refine seq_skip rfl rfl ?_
                  refine seq_skip rfl rfl ?_
                  refine seq_pure (pure_pick_t rfl rfl) rfl rfl ?_
                  refine seq_pure (pure_pick_t rfl rfl) rfl rfl ?_
                  refine seq_done ?_
                  refine nrm_seq ?_
                  refine tri_cond_t rfl ?_
                  refine tri_seq ?_
                  refine tri_region ?_
                  refine seq_pure (pure_assign rfl) rfl rfl ?_
                  refine seq_done ?_
                  refine nrm_seq ?_
                  refine tri_ret ?_
                  refine ret_seq ?_
                  refine ret_fin1 (res_tmp rfl) ?_
                  exact ⟨rfl, by (cases R with | false => rfl | true => (exfalso; obtain ⟨i1, i2, i3, i4, i5, i6, i7⟩ := hi.1 rfl; first | omega | (have j := i1 (by omega); simp_all; done) | (have j := he (i2 (by omega)); simp_all; done) | (have j := i2 (by omega); simp_all; done) | (have j := i3 (by omega); simp_all; done) | (have j := i4 (by omega); simp_all; done) | (have j := i5 (by omega); simp_all; done))), rfl⟩
              · refine seq_pure (pure_not_f rfl) rfl rfl ?_
                refine seq_pure (pure_pick_t rfl rfl) rfl rfl ?_
                refine seq_pure (pure_pick_f rfl rfl) rfl rfl ?_
                refine seq_done ?_
                refine nrm_seq ?_
                refine tri_cond_t rfl ?_
                refine tri_seq ?_
                refine tri_region ?_
                refine seq_pure (pure_assign rfl) rfl rfl ?_
                refine seq_done ?_
                refine nrm_seq ?_
                refine tri_ret ?_
                refine ret_seq ?_
                refine ret_fin1 (res_tmp rfl) ?_
                exact ⟨rfl, by (cases R with | false => rfl | true => (exfalso; obtain ⟨i1, i2, i3, i4, i5, i6, i7⟩ := hi.1 rfl; first | omega | (have j := i1 (by omega); simp_all; done) | (have j := he (i2 (by omega)); simp_all; done) | (have j := i2 (by omega); simp_all; done) | (have j := i3 (by omega); simp_all; done) | (have j := i4 (by omega); simp_all; done) | (have j := i5 (by omega); simp_all; done))), rfl⟩
end Gw
end Go.Proofs.Ytlefgfdhlblahaa
