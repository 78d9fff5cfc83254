/-
  TypeSame, TermSame: the same data is the same. The law that paths concatenate: its walk. Slices of numbers read as arguments. Slices of bytes read as arguments.
-/
import Derived.Test.YtlefgfdhlblahaaKb1
import Derived.Test.YtlefgfdhlblahaaKb5
import Derived.Test.YtlefgfdhlblahaaKb7
import Derived.Test.YtlefgfdhlblahaaKb6
import Derived.Test.YtlefgfdhlblahaaKb2
namespace Go.Proofs.Ytlefgfdhlblahaa
open Go Go.RowKit
namespace Gw
theorem pure_seq_s {P : Program} {Γ : Ctx} {env : Env} {hp : List Ent} {G : IM} {ty : TypeId} {x y : Operand} {t t' : TypeId} {r : ByteArray} (hx : evo env x = some (.string r)) (hy : evo env y = some (.string r)) :
  PureOp P Γ ⟨env, hp, G⟩ (.binOp .eql t x y t') ty (.bool true) := by
 have h := pure_seql (P := P) (Γ := Γ) (hp := hp) (G := G) (t := t) (t' := t') (ty := ty) hx hy
 simpa using h
theorem pure_beql_s {P : Program} {Γ : Ctx} {env : Env} {hp : List Ent} {G : IM} {ty : TypeId} {x y : Operand} {t t' : TypeId} {i : TyR} [hI : TyI P t i] (hd : i.desc = .bool) {r : Bool} (hx : evo env x = some (.bool r)) (hy : evo env y = some (.bool r)) :
  PureOp P Γ ⟨env, hp, G⟩ (.binOp .eql t x y t') ty (.bool true) := by
 have h := pure_beql (P := P) (Γ := Γ) (hp := hp) (G := G) (t := t) (t' := t') (ty := ty) (i := i) hd hx hy
 simpa using h
set_option maxRecDepth 100000 in
theorem typeSame_fn : ∀ (t : Ty) (G : IM) (cells cells' : List Value), RTy G t cells → RTy G t cells' → Fn Try.prog 42 [.agg ⟨cells⟩, .agg ⟨cells'⟩] [] G (Val (.bool true) G) := by
 refine Ty.ind fun k ks ih G cells cells' hr hr' => ?_
 obtain ⟨p, c, es, rfl, hk, hsl, hkl⟩ := hr.open
 obtain ⟨p', c', es', rfl, hk', hsl', hkl'⟩ := hr'.open
 simp only [Ty.k, Ty.ks] at hk hsl hkl hk' hsl' hkl' ⊢
 refine fn_enter Try.func42 rfl Try.ntmps42 Try.results42 rfl ?_
 intro w0
 refine tri_seq ?_
 refine tri_region ?_
 (refine seq_step (step_box_a rfl rfl) rfl ?_; rintro _ ⟨b3, rfl⟩)
 (refine seq_step (step_box_a rfl rfl) rfl ?_; rintro _ ⟨b4, rfl⟩)
 refine seq_pure (pure_assign rfl) rfl rfl ?_
 refine seq_done ?_
 refine nrm_seq ?_
 refine tri_seq ?_
 refine tri_region ?_
 refine seq_pure (pure_fieldAddr0 rfl) rfl rfl ?_
 refine seq_load (load_bs rfl rfl (by repeat (first | exact List.Mem.head _ | apply List.Mem.tail)) (by rfl)) rfl rfl ?_
 refine seq_pure (pure_fieldAddr0 rfl) rfl rfl ?_
 refine seq_load (load_bs rfl rfl (by repeat (first | exact List.Mem.head _ | apply List.Mem.tail)) (by rfl)) rfl rfl ?_
 refine seq_pure (pure_eql_t rfl rfl (by omega)) rfl rfl ?_
 refine seq_pure (pure_move rfl) rfl rfl ?_
 refine seq_pure (pure_fieldAddr0 rfl) rfl rfl ?_
 refine seq_load (load_bs rfl rfl (by repeat (first | exact List.Mem.head _ | apply List.Mem.tail)) (by rfl)) rfl rfl ?_
 refine seq_pure (pure_fieldAddr0 rfl) rfl rfl ?_
 refine seq_load (load_bs rfl rfl (by repeat (first | exact List.Mem.head _ | apply List.Mem.tail)) (by rfl)) rfl rfl ?_
 refine seq_val rfl (equalFunc_Type _ _ _ _ _ _ _ _ _ hsl hsl' _ [] [] [] (fun _ => true) true (by simp) (fun i e e' he he' => ih (ks.getD i ty0) (hkl.inv he ty0).1 _ _ _ (hkl.inv he ty0).2 (hkl'.inv he' ty0).2)) rfl rfl ?_
 refine seq_pure (pure_pick_t rfl rfl) rfl rfl ?_
 refine seq_pure (pure_assign rfl) rfl rfl ?_
 refine seq_done ?_
 refine nrm_seq ?_
 refine tri_ret ?_
 refine ret_fin1 (res_tmp rfl) ?_
 exact ⟨rfl, rfl, rfl⟩
set_option maxRecDepth 100000 in
theorem equalFunc_Term (G : IM) (p p' : Option Addr) (n c c' : Nat) (es es' : List (List Value)) (hsl : SlE G p n c 9 es) (hsl' : SlE G p' n c' 9 es') (fid : FuncId) [FunI Try.prog fid]
  (hq : ∀ (i : Nat) (e e' : List Value), es[i]? = some e → es'[i]? = some e' → Fn Try.prog fid [.agg ⟨e⟩, .agg ⟨e'⟩] [] G (ValO (.bool true) [] G)) :
  Fn Try.prog 43 [.slice p n c, .slice p' n c', .func (.func fid) ⟨[]⟩ ⟨[]⟩] [] G (Val (.bool true) G) := by
 have hn := hsl.le
 refine fn_enter Try.func43 rfl Try.ntmps43 Try.results43 rfl ?_
 intro w0
 refine tri_seq ?_
 refine tri_region ?_
 refine seq_pure (pure_assign rfl) rfl rfl ?_
 refine seq_done ?_
 refine nrm_seq ?_
 refine tri_seq ?_
 refine tri_seq ?_
 refine tri_region ?_
 refine seq_pure (pure_move rfl) rfl rfl ?_
 refine seq_pure (pure_len rfl rfl) rfl rfl ?_
 refine seq_pure (pure_move rfl) rfl rfl ?_
 refine seq_pure (pure_len rfl rfl) rfl rfl ?_
 refine seq_pure (pure_neq_f rfl rfl (by omega)) rfl rfl ?_
 refine seq_done ?_
 refine nrm_seq ?_
 refine tri_cond_f rfl ?_
 refine tri_skip ?_
 refine nrm_seq ?_
 refine tri_seq ?_
 refine tri_seq ?_
 refine tri_region ?_
 refine seq_pure (pure_move rfl) rfl rfl ?_
 refine seq_pure (pure_len rfl rfl) rfl rfl ?_
 refine seq_pure (pure_move rfl) rfl rfl ?_
 refine seq_done ?_
 refine nrm_seq ?_
 refine tri_block ?_
 refine tri_loopN (fun i : Nat => ⟨[(17, .int .i64 i), (16, .int .i64 n), (15, .slice p n c), (2, .func (.func fid) ⟨[]⟩ ⟨[]⟩), (1, .slice p' n c'), (0, .slice p n c)], [], G⟩) (fun i => i ≤ n) (fun i => n - i) 0 ?_ ?_ ?_
 ·exact sub_mk (by repeat (first | exact SubE.nil | refine SubE.cons rfl ?_)) (by repeat (first | exact SubH.refl | exact SubH.nil | refine SubH.cons (by repeat (first | exact Pk.here | apply Pk.there)) ?_ | apply SubH.drop))
 ·exact Nat.zero_le _
 ·rintro i hi
  refine tri_seq ?_
  refine tri_region ?_
  refine seq_bool (pure_lss rfl rfl) rfl rfl (fun h34 => ?_) (fun h34 => ?_)
  ·refine seq_done ?_
   refine nrm_seq ?_
   refine tri_seq ?_
   refine tri_cond_t rfl ?_
   refine tri_skip ?_
   refine nrm_seq ?_
   refine tri_seq ?_
   refine tri_block ?_
   refine tri_seq ?_
   refine tri_region ?_
   refine seq_pure (pure_move rfl) rfl rfl ?_
   (obtain ⟨e, b, o, he, rfl, hl, _, hat, _⟩ := hsl.get (i := i) (by omega); refine seq_pure (pure_indexAddrN rfl rfl rfl (by omega)) rfl rfl ?_)
   refine seq_load (load_a rfl rfl (hat _) hl) rfl rfl ?_
   (refine seq_step (step_alloc rfl) rfl ?_; rintro _ ⟨b48, rfl⟩)
   refine seq_pure (pure_assign rfl) rfl rfl ?_
   refine seq_store rfl rfl rfl (by assumption) (by assumption) rfl (by repeat (first | exact Sw.here | apply Sw.there)) (by exact upd_all (by symm; assumption)) ?_
   refine seq_done ?_
   refine nrm_seq ?_
   refine tri_seq ?_
   refine tri_region ?_
   refine seq_pure (pure_move rfl) rfl rfl ?_
   refine seq_pure (pure_move rfl) rfl rfl ?_
   (obtain ⟨e', b', o', he', rfl, hl', _, hat', _⟩ := hsl'.get (i := i) (by omega); refine seq_pure (pure_indexAddrN rfl rfl rfl (by omega)) rfl rfl ?_)
   refine seq_load (load_a rfl rfl (hat' _) hl') rfl rfl ?_
   (refine seq_step (step_alloc rfl) rfl ?_; rintro _ ⟨b59, rfl⟩)
   refine seq_store rfl rfl rfl (by assumption) (by assumption) rfl (by repeat (first | exact Sw.here | apply Sw.there)) (by exact upd_all (by symm; assumption)) ?_
   refine seq_done ?_
   refine nrm_seq ?_
   refine tri_seq ?_
   refine tri_region ?_
   refine seq_pure (pure_move rfl) rfl rfl ?_
   refine seq_load (load_a rfl rfl (at_blk_all (by repeat (first | exact List.Mem.head _ | apply List.Mem.tail))) (by assumption)) rfl rfl ?_
   refine seq_load (load_a rfl rfl (at_blk_all (by repeat (first | exact List.Mem.head _ | apply List.Mem.tail))) (by assumption)) rfl rfl ?_
   refine seq_vvalbo rfl rfl (hq i e e' he he') perm_two rfl rfl (fun h68 => ?_) (fun h68 => ?_)
   ·simp only [Bool.not_eq_true', Bool.not_eq_false'] at h68
    refine seq_pure (pure_not_t rfl) rfl rfl ?_
    refine seq_done ?_
    refine nrm_seq ?_
    refine tri_cond_f rfl ?_
    refine tri_skip ?_
    refine nrm_block ?_
    refine nrm_seq ?_
    refine tri_region ?_
    refine seq_pure (pure_add rfl rfl (by omega) (by omega)) rfl rfl ?_
    refine seq_pure (pure_move rfl) rfl rfl ?_
    refine seq_done ?_
    refine nrm_loopN (i + 1) ?_ ?_ ?_
    ·exact sub_mk (by repeat (first | exact SubE.nil | refine SubE.cons rfl ?_)) (by repeat (first | exact SubH.refl | exact SubH.nil | refine SubH.cons (by repeat (first | exact Pk.here | apply Pk.there)) ?_ | apply SubH.drop))
    ·omega
    ·omega
   ·refine seq_pure (pure_not_f rfl) rfl rfl ?_
    refine seq_done ?_
    refine nrm_seq ?_
    refine tri_cond_t rfl ?_
    refine tri_seq ?_
    refine tri_region ?_
    refine seq_pure (pure_assign rfl) rfl rfl ?_
    refine seq_done ?_
    refine nrm_seq ?_
    refine tri_ret ?_
    refine ret_block ?_
    refine ret_seq ?_
    refine ret_loopN ?_
    refine ret_block ?_
    refine ret_seq ?_
    refine ret_fin1 (res_tmp rfl) ?_
    (exact absurd (by assumption) (by decide))
  ·refine seq_done ?_
   refine nrm_seq ?_
   refine tri_seq ?_
   refine tri_cond_f rfl ?_
   refine tri_exit ?_
   refine ext_seq ?_
   refine ext_loopN ?_
   refine ext_block_eq ?_
   refine nrm_seq ?_
   refine tri_seq ?_
   refine tri_region ?_
   refine seq_pure (pure_assign rfl) rfl rfl ?_
   refine seq_done ?_
   refine nrm_seq ?_
   refine tri_ret ?_
   refine ret_fin1 (res_tmp rfl) ?_
   exact ⟨rfl, rfl, rfl⟩
set_option maxHeartbeats 0 in
set_option maxRecDepth 100000 in
theorem termSame_fn : ∀ (t : Tm) (G : IM) (cells cells' : List Value), RTm G t cells → RTm G t cells' → Fn Try.prog 12 [.agg ⟨cells⟩, .agg ⟨cells'⟩] [] G (Val (.bool true) G) := by
 refine Tm.ind fun k nm num ty fr lb ks ih G cells cells' hr hr' => ?_
 obtain ⟨tk, tks⟩ := ty
 obtain ⟨fk, fks⟩ := fr
 obtain ⟨pt, ct, pf, cf, p, c, es, rfl, hk, hnum, hlb, hty, hfr, hsl, hkl⟩ := hr.open9
 obtain ⟨pt', ct', pf', cf', p', c', es', rfl, _, _, _, hty', hfr', hsl', hkl'⟩ := hr'.open9
 have h1 := typeSame_fn (.mk tk tks) G _ _ hty hty'
 have h2 := typeSame_fn (.mk fk fks) G _ _ hfr hfr'
 refine fn_enter Try.func12 rfl Try.ntmps12 Try.results12 rfl ?_
 intro w0
 refine tri_seq ?_
 refine tri_region ?_
 (refine seq_step (step_box_a rfl rfl) rfl ?_; rintro _ ⟨b3, rfl⟩)
 (refine seq_step (step_box_a rfl rfl) rfl ?_; rintro _ ⟨b4, rfl⟩)
 refine seq_pure (pure_assign rfl) rfl rfl ?_
 refine seq_done ?_
 refine nrm_seq ?_
 refine tri_seq ?_
 refine tri_region ?_
 refine seq_pure (pure_fieldAddr0 rfl) rfl rfl ?_
 refine seq_load (load_bs rfl rfl (by repeat (first | exact List.Mem.head _ | apply List.Mem.tail)) (by rfl)) rfl rfl ?_
 refine seq_pure (pure_fieldAddr0 rfl) rfl rfl ?_
 refine seq_load (load_bs rfl rfl (by repeat (first | exact List.Mem.head _ | apply List.Mem.tail)) (by rfl)) rfl rfl ?_
 refine seq_pure (pure_eql_t rfl rfl (by omega)) rfl rfl ?_
 refine seq_pure (pure_move rfl) rfl rfl ?_
 refine seq_pure (pure_fieldAddr0 rfl) rfl rfl ?_
 refine seq_load (load_bs rfl rfl (by repeat (first | exact List.Mem.head _ | apply List.Mem.tail)) (by rfl)) rfl rfl ?_
 refine seq_pure (pure_fieldAddr0 rfl) rfl rfl ?_
 refine seq_load (load_bs rfl rfl (by repeat (first | exact List.Mem.head _ | apply List.Mem.tail)) (by rfl)) rfl rfl ?_
 refine seq_pure (pure_seq_s rfl rfl) rfl rfl ?_
 refine seq_pure (pure_pick_t rfl rfl) rfl rfl ?_
 refine seq_pure (pure_move rfl) rfl rfl ?_
 refine seq_pure (pure_fieldAddr0 rfl) rfl rfl ?_
 refine seq_load (load_bs rfl rfl (by repeat (first | exact List.Mem.head _ | apply List.Mem.tail)) (by rfl)) rfl rfl ?_
 refine seq_pure (pure_fieldAddr0 rfl) rfl rfl ?_
 refine seq_load (load_bs rfl rfl (by repeat (first | exact List.Mem.head _ | apply List.Mem.tail)) (by rfl)) rfl rfl ?_
 refine seq_pure (pure_eql_t rfl rfl (by omega)) rfl rfl ?_
 refine seq_pure (pure_pick_t rfl rfl) rfl rfl ?_
 refine seq_pure (pure_move rfl) rfl rfl ?_
 refine seq_pure (pure_fieldAddr0 rfl) rfl rfl ?_
 refine seq_load (load_ba rfl rfl (by repeat (first | exact List.Mem.head _ | apply List.Mem.tail)) (by rfl)) rfl rfl ?_
 refine seq_pure (pure_fieldAddr0 rfl) rfl rfl ?_
 refine seq_load (load_ba rfl rfl (by repeat (first | exact List.Mem.head _ | apply List.Mem.tail)) (by rfl)) rfl rfl ?_
 refine seq_val rfl (h1) rfl rfl ?_
 refine seq_pure (pure_pick_t rfl rfl) rfl rfl ?_
 refine seq_pure (pure_move rfl) rfl rfl ?_
 refine seq_pure (pure_fieldAddr0 rfl) rfl rfl ?_
 refine seq_load (load_ba rfl rfl (by repeat (first | exact List.Mem.head _ | apply List.Mem.tail)) (by rfl)) rfl rfl ?_
 refine seq_pure (pure_fieldAddr0 rfl) rfl rfl ?_
 refine seq_load (load_ba rfl rfl (by repeat (first | exact List.Mem.head _ | apply List.Mem.tail)) (by rfl)) rfl rfl ?_
 refine seq_val rfl (h2) rfl rfl ?_
 refine seq_pure (pure_pick_t rfl rfl) rfl rfl ?_
 refine seq_pure (pure_move rfl) rfl rfl ?_
 refine seq_pure (pure_fieldAddr0 rfl) rfl rfl ?_
 refine seq_load (load_bs rfl rfl (by repeat (first | exact List.Mem.head _ | apply List.Mem.tail)) (by rfl)) rfl rfl ?_
 refine seq_pure (pure_fieldAddr0 rfl) rfl rfl ?_
 refine seq_load (load_bs rfl rfl (by repeat (first | exact List.Mem.head _ | apply List.Mem.tail)) (by rfl)) rfl rfl ?_
 refine seq_pure (pure_eql_t rfl rfl (by omega)) rfl rfl ?_
 refine seq_pure (pure_pick_t rfl rfl) rfl rfl ?_
 refine seq_pure (pure_move rfl) rfl rfl ?_
 refine seq_pure (pure_fieldAddr0 rfl) rfl rfl ?_
 refine seq_load (load_bs rfl rfl (by repeat (first | exact List.Mem.head _ | apply List.Mem.tail)) (by rfl)) rfl rfl ?_
 refine seq_pure (pure_fieldAddr0 rfl) rfl rfl ?_
 refine seq_load (load_bs rfl rfl (by repeat (first | exact List.Mem.head _ | apply List.Mem.tail)) (by rfl)) rfl rfl ?_
 refine seq_val rfl (equalFunc_Term _ _ _ _ _ _ _ _ hsl hsl' _ (fun i e e' he he' => ih (ks.getD i tm0) (hkl.inv he tm0).1 _ _ _ (hkl.inv he tm0).2 (hkl'.inv he' tm0).2)) rfl rfl ?_
 refine seq_pure (pure_pick_t rfl rfl) rfl rfl ?_
 refine seq_pure (pure_assign rfl) rfl rfl ?_
 refine seq_done ?_
 refine nrm_seq ?_
 refine tri_ret ?_
 refine ret_fin1 (res_tmp rfl) ?_
 exact ⟨rfl, rfl, rfl⟩
end Gw
end Go.Proofs.Ytlefgfdhlblahaa
namespace Go.Proofs.Ytlefgfdhlblahaa
open Go Go.RowKit
namespace Gw
mutual
theorem sShape_down (D N : Int) : ∀ (t : Tm) (d d' : Int), d' ≤ d → sShape D N t d = true → sShape D N t d' = true
 | .mk k nm num ty fr lb ks, d, d', hd, h => by
  obtain ⟨h1, h2, h3, h4⟩ := sShape_go2 h
  rw [sShape_go (by omega) h2 h3]
  exact sShapeL_down D N ks _ _ (by omega) h4
theorem sShapeL_down (D N : Int) : ∀ (ts : List Tm) (d d' : Int), d' ≤ d → sShapeL D N ts d = true → sShapeL D N ts d' = true
 | [], d, d', hd, h => by rw [sShapeL]
 | t :: ts, d, d', hd, h => by
  rw [sShapeL, Bool.and_eq_true] at h ⊢
  exact ⟨sShape_down D N t d d' hd h.1, sShapeL_down D N ts d d' hd h.2⟩
end
theorem cast_kid {t : Tm} (h : castValid t = true) {i : Nat} (hi : i < t.ks.length) : castValid t.ks[i] = true := by
 obtain ⟨k, nm, num, ty, fr, lb, ks⟩ := t
 simp only [Tm.ks] at hi ⊢
 obtain ⟨h1, h2⟩ := (castValid_iff _).1 h
 obtain ⟨_, _, _, h6⟩ := sShape_go2 h1
 refine (castValid_iff _).2 ⟨sShape_down 40 13 _ _ 1 (by omega) ((sShapeL_iff 40 13 ks _).1 h6 i hi), ?_⟩
 rw [tmCount] at h2
 have := tmCountL_take hi
 omega
theorem cast_at : ∀ {path : List Int} {t x : Tm}, castValid t = true → tAt t path = some x → castValid x = true
 | [], t, x, h, hx => by rw [tAt_nil] at hx; cases hx; exact h
 | i :: is, t, x, h, hx => by
  by_cases hi : 0 ≤ i ∧ i < t.ks.length
  ·rw [tAt_go hi.1 hi.2] at hx
   exact cast_at (cast_kid h _) hx
  ·rw [tAt_no hi] at hx; cases hx
theorem tAt_app : ∀ {a b : List Int} {t x : Tm}, tAt t (a ++ b) = some x → ∃ y, tAt t a = some y ∧ tAt y b = some x
 | [], b, t, x, h => ⟨t, by rw [tAt_nil], h⟩
 | i :: is, b, t, x, h => by
  rw [List.cons_append] at h
  by_cases hi : 0 ≤ i ∧ i < t.ks.length
  ·rw [tAt_go hi.1 hi.2] at h ⊢
   exact tAt_app h
  ·rw [tAt_no hi] at h; cases h
theorem termAt_split {t x : Tm} {l : List Int} (h : mTermAt t l = (x, true)) (k : Nat) (hs : t.small) : ∃ y, mTermAt t (l.take k) = (y, true) ∧ mTermAt y (l.drop k) = (x, true) ∧ castValid x = true ∧ y.small ∧ x.small := by
 by_cases hv : castValid t = true
 ·cases hx : tAt t l with
  | none => rw [mTermAt_no hx] at h; cases h
  | some z =>
   rw [mTermAt_yes hv hx] at h
   cases h
   obtain ⟨y, h1, h2⟩ := tAt_app (a := l.take k) (b := l.drop k) (by rw [List.take_append_drop]; exact hx)
   exact ⟨y, mTermAt_yes hv h1, mTermAt_yes (cast_at hv h1) h2, cast_at hv hx, tAt_small h1 hs, tAt_small hx hs⟩
 ·rw [mTermAt_bad hv] at h; cases h
theorem ints_take (l : List Int) (k : Nat) : ints (l.take k) = (ints l).take k := by unfold ints; rw [List.map_take]
theorem ints_dropK (l : List Int) (k : Nat) : ints (l.drop k) = (ints l).drop (k * 1) := by rw [Nat.mul_one]; unfold ints; rw [List.map_drop]
section slaw
variable {P : Program} {Γ : Ctx} {env : Env} {hp : List Ent} {G : IM} {ty : TypeId}
theorem pure_slice_from0 {x y : Operand} {t el : TypeId} {i : TyR} {sz by' : Nat} {zs : List Value} [hI : TyI P t i] (hd' : i.desc = .slice el) [hE : TySz P el sz by' zs] {p : Option Addr} {n c : Nat}
  (hx : evo env x = some (.slice p n c)) (hy : evo env y = some (.int .i64 ((0 : Nat) : Int))) :
  PureOp P Γ ⟨env, hp, G⟩ (.slice t x (some y) none none) ty (.slice p n c) := by
 refine ⟨fun a _ hs _ _ _ _ w => ?_⟩
 have hu := hI.und
 rw [hd'] at hu
 obtain ⟨d, hE⟩ := hE.ok
 obtain ⟨inf, z, t1, t2, t3, _⟩ := run_tyI (P := P) (t := el)
 have e1 : a.eval x = _ := hs.evo hx
 have e2 : a.eval y = _ := hs.evo hy
 have hb : ∀ code, (Instr.sliceBound (.int .i64 ((0 : Nat) : Int)) n code).run P w = .ok 0 w := fun code => run_bound (Nat.zero_le n) code
 simp only [execOp, Option.map, e1, e2, Instr.sliceAt, Sem.run_bind, run_underlying hu, Result.andThen_ok, Instr.slice, Instr.sliceBounds, Sem.run_pure, hb, t3]
 by_cases h : c = 0
 ·subst h; simp
 ·simp [h]; cases p <;> simp [Addr.add]
end slaw
set_option maxHeartbeats 0 in
set_option maxRecDepth 100000 in
theorem termAtLaw_fn (bs ms : List UInt8) (G : IM) (q : Option Addr) (c : Nat) (q2 : Option Addr) (c2 : Nat) (hb : Sl G q bs.length c 1 (byts bs)) (hm : Sl G q2 ms.length c2 1 (byts ms)) :
  Fn Try.prog 8 [.slice q bs.length c, .slice q2 ms.length c2] [] G (Imm fun _ v => v = .bool true) := by
 have hn := hb.le
 have hn2 := hm.le
 refine fn_enter Try.func8 rfl Try.ntmps8 Try.results8 rfl ?_
 intro w0
 refine tri_seq ?_
 refine tri_region ?_
 refine seq_pure (pure_assign rfl) rfl rfl ?_
 refine seq_done ?_
 refine nrm_seq ?_
 refine tri_seq ?_
 refine tri_seq ?_
 refine tri_region ?_
 refine seq_pure (pure_move rfl) rfl rfl ?_
 refine seq_pure (pure_len rfl rfl) rfl rfl ?_
 refine seq_bool (pure_gtr rfl rfl) rfl rfl (fun h11 => ?_) (fun h11 => ?_)
 ·refine seq_pure (pure_move rfl) rfl rfl ?_
  refine seq_skip rfl rfl ?_
  refine seq_skip rfl rfl ?_
  refine seq_skip rfl rfl ?_
  refine seq_pure (pure_pick_t rfl rfl) rfl rfl ?_
  refine seq_done ?_
  refine nrm_seq ?_
  refine tri_cond_t rfl ?_
  refine tri_seq ?_
  refine tri_region ?_
  refine seq_pure (pure_assign rfl) rfl rfl ?_
  refine seq_done ?_
  refine nrm_seq ?_
  refine tri_ret ?_
  refine ret_seq ?_
  refine ret_fin1 (res_tmp rfl) ?_
  exact ⟨rfl, rfl⟩
 ·refine seq_pure (pure_move rfl) rfl rfl ?_
  refine seq_pure (pure_move rfl) rfl rfl ?_
  refine seq_pure (pure_len rfl rfl) rfl rfl ?_
  refine seq_bool (pure_gtr rfl rfl) rfl rfl (fun h32 => ?_) (fun h32 => ?_)
  ·refine seq_pure (pure_pick_f rfl rfl) rfl rfl ?_
   refine seq_done ?_
   refine nrm_seq ?_
   refine tri_cond_t rfl ?_
   refine tri_seq ?_
   refine tri_region ?_
   refine seq_pure (pure_assign rfl) rfl rfl ?_
   refine seq_done ?_
   refine nrm_seq ?_
   refine tri_ret ?_
   refine ret_seq ?_
   refine ret_fin1 (res_tmp rfl) ?_
   exact ⟨rfl, rfl⟩
  ·refine seq_pure (pure_pick_f rfl rfl) rfl rfl ?_
   refine seq_done ?_
   refine nrm_seq ?_
   refine tri_cond_f rfl ?_
   refine tri_skip ?_
   refine nrm_seq ?_
   refine tri_seq ?_
   refine tri_region ?_
   refine seq_pure (pure_move rfl) rfl rfl ?_
   (refine seq_imm rfl (drawTermAt_fn G q _ c bs hb) rfl rfl (fun v G1 hle1 hh => ?_); obtain ⟨t, ct, l, pl, cl, rfl, hrt, hft, hsl, hl100⟩ := hh; obtain ⟨hf1, hf2⟩ := hft; have hl1 := hrt.len; have ho1 := hrt.one; have hll := hsl.le; have hlc := hsl.2.1; have hA := termAt_g t l G1 ct pl cl hf1 hrt hsl; obtain ⟨x, rb, hrr⟩ : ∃ x rb, mTermAt t l = (x, rb) := ⟨_, _, rfl⟩; rw [hrr] at hA; cases rb)
   ·refine seq_pure (pure_move rfl) rfl rfl ?_
    refine seq_pure (pure_extract rfl rfl) rfl rfl ?_
    refine seq_pure (pure_extract rfl rfl) rfl rfl ?_
    (refine seq_step (step_alloc rfl) rfl ?_; rintro _ ⟨b59, rfl⟩)
    refine seq_store rfl rfl rfl hl1 ho1 rfl (by repeat (first | exact Sw.here | apply Sw.there)) (by exact upd_all hl1.symm) ?_
    refine seq_pure (pure_assign rfl) rfl rfl ?_
    refine seq_done ?_
    refine nrm_seq ?_
    refine tri_seq ?_
    refine tri_region ?_
    refine seq_load (load_a rfl rfl (at_blk_all (by repeat (first | exact List.Mem.head _ | apply List.Mem.tail))) hl1) rfl rfl ?_
    refine seq_pure (pure_move rfl) rfl rfl ?_
    (refine seq_imm rfl hA rfl rfl (fun v G2 hle2 hh => ?_); obtain ⟨c2x, F2, rfl, hs2, hn22⟩ := hh; have hB := sTermAt_g t l G2 ct pl cl hf1 (by omega) (hrt.mono hle2) (hsl.mono hle2); rw [hrr] at hB; have hl2 := hs2.R.len; have ho2 := hs2.R.one)
    refine seq_pure (pure_move rfl) rfl rfl ?_
    refine seq_pure (pure_extract rfl rfl) rfl rfl ?_
    refine seq_pure (pure_extract rfl rfl) rfl rfl ?_
    (refine seq_step (step_alloc rfl) rfl ?_; rintro _ ⟨b72, rfl⟩)
    refine seq_store rfl rfl rfl hl2 ho2 rfl (by repeat (first | exact Sw.here | apply Sw.there)) (by exact upd_all hl2.symm) ?_
    refine seq_pure (pure_assign rfl) rfl rfl ?_
    refine seq_done ?_
    refine nrm_seq ?_
    refine tri_seq ?_
    refine tri_region ?_
    refine seq_load (load_a rfl rfl (at_blk_all (by repeat (first | exact List.Mem.head _ | apply List.Mem.tail))) hl1) rfl rfl ?_
    refine seq_pure (pure_move rfl) rfl rfl ?_
    (refine seq_imm rfl hB rfl rfl (fun v G3 hle3 hh => ?_); obtain ⟨c3x, F3, rfl, hs3, hn3⟩ := hh; have hl3 := hs3.R.len; have ho3 := hs3.R.one; have hr2 := hs2.R.mono ((Dif.le G2 G1).trans hle3); have hr3 := hs3.R.mono (Dif.le G3 G2); have hT := termSame_fn x G3 _ _ hr2 hr3; have hle13 := hle2.trans hle3)
    refine seq_pure (pure_move rfl) rfl rfl ?_
    refine seq_pure (pure_extract rfl rfl) rfl rfl ?_
    refine seq_pure (pure_extract rfl rfl) rfl rfl ?_
    (refine seq_step (step_alloc rfl) rfl ?_; rintro _ ⟨b85, rfl⟩)
    refine seq_store rfl rfl rfl hl3 ho3 rfl (by repeat (first | exact Sw.here | apply Sw.there)) (by exact upd_all hl3.symm) ?_
    refine seq_pure (pure_assign rfl) rfl rfl ?_
    refine seq_done ?_
    refine nrm_seq ?_
    refine tri_seq ?_
    refine tri_seq ?_
    refine tri_region ?_
    refine seq_pure (pure_move rfl) rfl rfl ?_
    refine seq_pure (pure_move rfl) rfl rfl ?_
    refine seq_pure (pure_bneq_s rfl rfl rfl) rfl rfl ?_
    refine seq_pure (pure_move rfl) rfl rfl ?_
    refine seq_load (load_a rfl rfl (at_blk_all (by repeat (first | exact List.Mem.head _ | apply List.Mem.tail))) hl2) rfl rfl ?_
    refine seq_load (load_a rfl rfl (at_blk_all (by repeat (first | exact List.Mem.head _ | apply List.Mem.tail))) hl3) rfl rfl ?_
    refine seq_val rfl (hT) rfl rfl ?_
    refine seq_pure (pure_not_t rfl) rfl rfl ?_
    refine seq_pure (pure_pick_f rfl rfl) rfl rfl ?_
    refine seq_pure (pure_move rfl) rfl rfl ?_
    refine seq_pure (pure_move rfl) rfl rfl ?_
    refine seq_pure (pure_not_f rfl) rfl rfl ?_
    refine seq_pure (pure_pick_f rfl rfl) rfl rfl ?_
    refine seq_done ?_
    refine nrm_seq ?_
    refine tri_cond_t rfl ?_
    refine tri_seq ?_
    refine tri_region ?_
    refine seq_pure (pure_move rfl) rfl rfl ?_
    refine seq_pure (pure_move rfl) rfl rfl ?_
    refine seq_pure (pure_beql_s rfl rfl rfl) rfl rfl ?_
    refine seq_pure (pure_move rfl) rfl rfl ?_
    refine seq_load (load_a rfl rfl (at_blk_all (by repeat (first | exact List.Mem.head _ | apply List.Mem.tail))) hl2) rfl rfl ?_
    refine seq_load (load_a rfl rfl (at_blk_all (by repeat (first | exact List.Mem.head _ | apply List.Mem.tail))) hl3) rfl rfl ?_
    refine seq_val rfl (hT) rfl rfl ?_
    refine seq_pure (pure_pick_t rfl rfl) rfl rfl ?_
    refine seq_pure (pure_assign rfl) rfl rfl ?_
    refine seq_done ?_
    refine nrm_seq ?_
    refine tri_ret ?_
    refine ret_seq ?_
    refine ret_fin1 (res_tmp rfl) ?_
    exact ⟨rfl, rfl⟩
   ·refine seq_pure (pure_move rfl) rfl rfl ?_
    refine seq_pure (pure_extract rfl rfl) rfl rfl ?_
    refine seq_pure (pure_extract rfl rfl) rfl rfl ?_
    (refine seq_step (step_alloc rfl) rfl ?_; rintro _ ⟨b129, rfl⟩)
    refine seq_store rfl rfl rfl hl1 ho1 rfl (by repeat (first | exact Sw.here | apply Sw.there)) (by exact upd_all hl1.symm) ?_
    refine seq_pure (pure_assign rfl) rfl rfl ?_
    refine seq_done ?_
    refine nrm_seq ?_
    refine tri_seq ?_
    refine tri_region ?_
    refine seq_load (load_a rfl rfl (at_blk_all (by repeat (first | exact List.Mem.head _ | apply List.Mem.tail))) hl1) rfl rfl ?_
    refine seq_pure (pure_move rfl) rfl rfl ?_
    (refine seq_imm rfl hA rfl rfl (fun v G2 hle2 hh => ?_); obtain ⟨c2x, F2, rfl, hs2, hn22⟩ := hh; have hB := sTermAt_g t l G2 ct pl cl hf1 (by omega) (hrt.mono hle2) (hsl.mono hle2); rw [hrr] at hB; have hl2 := hs2.R.len; have ho2 := hs2.R.one)
    refine seq_pure (pure_move rfl) rfl rfl ?_
    refine seq_pure (pure_extract rfl rfl) rfl rfl ?_
    refine seq_pure (pure_extract rfl rfl) rfl rfl ?_
    (refine seq_step (step_alloc rfl) rfl ?_; rintro _ ⟨b142, rfl⟩)
    refine seq_store rfl rfl rfl hl2 ho2 rfl (by repeat (first | exact Sw.here | apply Sw.there)) (by exact upd_all hl2.symm) ?_
    refine seq_pure (pure_assign rfl) rfl rfl ?_
    refine seq_done ?_
    refine nrm_seq ?_
    refine tri_seq ?_
    refine tri_region ?_
    refine seq_load (load_a rfl rfl (at_blk_all (by repeat (first | exact List.Mem.head _ | apply List.Mem.tail))) hl1) rfl rfl ?_
    refine seq_pure (pure_move rfl) rfl rfl ?_
    (refine seq_imm rfl hB rfl rfl (fun v G3 hle3 hh => ?_); obtain ⟨c3x, F3, rfl, hs3, hn3⟩ := hh; have hl3 := hs3.R.len; have ho3 := hs3.R.one; have hr2 := hs2.R.mono ((Dif.le G2 G1).trans hle3); have hr3 := hs3.R.mono (Dif.le G3 G2); have hT := termSame_fn x G3 _ _ hr2 hr3; have hle13 := hle2.trans hle3)
    refine seq_pure (pure_move rfl) rfl rfl ?_
    refine seq_pure (pure_extract rfl rfl) rfl rfl ?_
    refine seq_pure (pure_extract rfl rfl) rfl rfl ?_
    (refine seq_step (step_alloc rfl) rfl ?_; rintro _ ⟨b155, rfl⟩)
    refine seq_store rfl rfl rfl hl3 ho3 rfl (by repeat (first | exact Sw.here | apply Sw.there)) (by exact upd_all hl3.symm) ?_
    refine seq_pure (pure_assign rfl) rfl rfl ?_
    refine seq_done ?_
    refine nrm_seq ?_
    refine tri_seq ?_
    refine tri_seq ?_
    refine tri_region ?_
    refine seq_pure (pure_move rfl) rfl rfl ?_
    refine seq_pure (pure_move rfl) rfl rfl ?_
    refine seq_pure (pure_bneq_s rfl rfl rfl) rfl rfl ?_
    refine seq_pure (pure_move rfl) rfl rfl ?_
    refine seq_load (load_a rfl rfl (at_blk_all (by repeat (first | exact List.Mem.head _ | apply List.Mem.tail))) hl2) rfl rfl ?_
    refine seq_load (load_a rfl rfl (at_blk_all (by repeat (first | exact List.Mem.head _ | apply List.Mem.tail))) hl3) rfl rfl ?_
    refine seq_val rfl (hT) rfl rfl ?_
    refine seq_pure (pure_not_t rfl) rfl rfl ?_
    refine seq_pure (pure_pick_f rfl rfl) rfl rfl ?_
    refine seq_pure (pure_move rfl) rfl rfl ?_
    refine seq_pure (pure_move rfl) rfl rfl ?_
    refine seq_pure (pure_not_t rfl) rfl rfl ?_
    refine seq_pure (pure_pick_f rfl rfl) rfl rfl ?_
    refine seq_done ?_
    refine nrm_seq ?_
    refine tri_cond_f rfl ?_
    refine tri_skip ?_
    refine nrm_seq ?_
    refine tri_seq ?_
    refine tri_region ?_
    refine seq_pure (pure_move rfl) rfl rfl ?_
    refine seq_pure (pure_len rfl rfl) rfl rfl ?_
    refine seq_pure (pure_move rfl) rfl rfl ?_
    refine seq_pure (pure_len rfl rfl) rfl rfl ?_
    refine seq_pure (pure_add_nat (n := 1) rfl rfl (by omega)) rfl rfl ?_
    refine seq_pure (pure_rem_nat rfl rfl (by omega)) rfl rfl ?_
    refine seq_pure (pure_assign rfl) rfl rfl ?_
    refine seq_done ?_
    refine nrm_seq ?_
    refine tri_seq ?_
    (have hgt := hT; obtain ⟨kk, hkk⟩ : ∃ kk, HMod.hMod ms.length (l.length + 1) = kk := ⟨_, rfl⟩; have hkl : kk ≤ l.length := (by have := Nat.mod_lt ms.length (show 0 < l.length + 1 by omega); omega); rw [hkk]; obtain ⟨y, hy1, hy2, hvx, hys, hxs⟩ := termAt_split hrr kk hf1; have hP := (hsl.mono hle13).pre hkl; rw [← ints_take] at hP; have hC := termAt_g t (l.take kk) G3 ct pl cl hf1 (hrt.mono hle13) (by rw [List.length_take, Nat.min_eq_left hkl]; exact hP); rw [hy1, List.length_take, Nat.min_eq_left hkl] at hC; refine tri_draw mixed rfl ?_)
    refine any_load (i := 0) (listed' := [tt,ff,ff,ff,ff,ff,ff,ff,ff,ff,ff]) rfl (by repeat (first | exact np_ret | exact np_cut | apply np_cutr | apply np_seq | apply np_block | apply np_loopN')) (load_a rfl rfl (at_blk_all (by repeat (first | exact List.Mem.head _ | apply List.Mem.tail))) hl1) rfl (by kernel_rfl) rfl rfl ?_
    refine any_pure (i := 1) (listed' := [tt,tt,ff,ff,ff,ff,ff,ff,ff,ff,ff]) rfl (by repeat (first | exact np_ret | exact np_cut | apply np_cutr | apply np_seq | apply np_block | apply np_loopN')) (pure_move rfl) rfl (by kernel_rfl) rfl rfl ?_
    refine any_pure (i := 2) (listed' := [tt,tt,tt,ff,ff,ff,ff,ff,ff,ff,ff]) rfl (by repeat (first | exact np_ret | exact np_cut | apply np_cutr | apply np_seq | apply np_block | apply np_loopN')) (pure_move rfl) rfl (by kernel_rfl) rfl rfl ?_
    refine any_pure (i := 3) (listed' := [tt,tt,tt,tt,ff,ff,ff,ff,ff,ff,ff]) rfl (by repeat (first | exact np_ret | exact np_cut | apply np_cutr | apply np_seq | apply np_block | apply np_loopN')) (pure_slice_to (l := kk) rfl rfl rfl (by omega)) rfl (by kernel_rfl) rfl rfl ?_
    refine any_two (j := 4) (j' := 8) (by kernel_rfl) ?_ ?_
    ·(refine one_imm (listed' := [tt,tt,tt,tt,tt,ff,ff,ff,ff,ff,ff]) rfl rfl hC rfl rfl rfl (fun v G4 hle4 hh => ?_); obtain ⟨c4x, F4, rfl, hs4, hn4⟩ := hh; have hl4 := hs4.R.len; have ho4 := hs4.R.one; have hr4 := hs4.R.mono (Dif.le G4 G3); have hsl4 := hsl.mono (hle13.trans hle4); replace hr2 := hr2.mono hle4; rcases Nat.eq_zero_or_pos kk with h0 | h0)
     ·refine any_pure (i := 5) (listed' := [tt,tt,tt,tt,tt,tt,ff,ff,ff,ff,ff]) rfl (by repeat (first | exact np_ret | exact np_cut | apply np_cutr | apply np_seq | apply np_block | apply np_loopN')) (pure_move rfl) rfl (by kernel_rfl) rfl rfl ?_
      refine any_pure (i := 6) (listed' := [tt,tt,tt,tt,tt,tt,tt,ff,ff,ff,ff]) rfl (by repeat (first | exact np_ret | exact np_cut | apply np_cutr | apply np_seq | apply np_block | apply np_loopN')) (pure_extract rfl rfl) rfl (by kernel_rfl) rfl rfl ?_
      refine any_pure (i := 7) (listed' := [tt,tt,tt,tt,tt,tt,tt,tt,ff,ff,ff]) rfl (by repeat (first | exact np_ret | exact np_cut | apply np_cutr | apply np_seq | apply np_block | apply np_loopN')) (pure_extract rfl rfl) rfl (by kernel_rfl) rfl rfl ?_
      refine any_one (j := 8) (by kernel_rfl) ?_
      (refine one_step0 (listed' := [tt,tt,tt,tt,tt,tt,tt,tt,tt,ff,ff]) rfl (step_alloc rfl) rfl rfl ?_; rintro _ ⟨b204, rfl⟩)
      refine any_one (j := 9) (by kernel_rfl) ?_
      refine one_storeM rfl rfl rfl rfl hl4 ho4 rfl rfl (by repeat (first | exact Sw.here | apply Sw.there)) (by exact upd_all hl4.symm) (by repeat (first | exact HmOk.nil | apply HmOk.dep (by decide +kernel) | apply HmOk.blk (by decide +kernel) (by repeat (first | exact Pk.here | apply Pk.there)) (by repeat (first | exact List.Mem.head _ | apply List.Mem.tail)))) ?_
      refine any_pure (i := 10) (listed' := [tt,tt,tt,tt,tt,tt,tt,tt,tt,tt,tt]) rfl (by repeat (first | exact np_ret | exact np_cut | apply np_cutr | apply np_seq | apply np_block | apply np_loopN')) (pure_assign rfl) rfl (by kernel_rfl) rfl rfl ?_
      refine any_done (by kernel_rfl) ?_
      refine nrm_seq ?_
      refine tri_seq ?_
      (have hq4 := hs4; subst h0; have hD := termAt_g y l G4 c4x pl cl hys hr4 hsl4; rw [show l.drop 0 = l from rfl] at hy2; rw [hy2] at hD; refine tri_draw mixed rfl ?_)
      refine any_load (i := 0) (listed' := [tt,ff,ff,ff,ff,ff,ff,ff,ff,ff,ff]) rfl (by repeat (first | exact np_ret | exact np_cut | apply np_cutr | apply np_seq | apply np_block | apply np_loopN')) (load_a rfl rfl (at_blk_all (by repeat (first | exact List.Mem.head _ | apply List.Mem.tail))) hl4) rfl (by kernel_rfl) rfl rfl ?_
      refine any_pure (i := 1) (listed' := [tt,tt,ff,ff,ff,ff,ff,ff,ff,ff,ff]) rfl (by repeat (first | exact np_ret | exact np_cut | apply np_cutr | apply np_seq | apply np_block | apply np_loopN')) (pure_move rfl) rfl (by kernel_rfl) rfl rfl ?_
      refine any_pure (i := 2) (listed' := [tt,tt,tt,ff,ff,ff,ff,ff,ff,ff,ff]) rfl (by repeat (first | exact np_ret | exact np_cut | apply np_cutr | apply np_seq | apply np_block | apply np_loopN')) (pure_move rfl) rfl (by kernel_rfl) rfl rfl ?_
      refine any_pure (i := 3) (listed' := [tt,tt,tt,tt,ff,ff,ff,ff,ff,ff,ff]) rfl (by repeat (first | exact np_ret | exact np_cut | apply np_cutr | apply np_seq | apply np_block | apply np_loopN')) (pure_slice_from0 rfl rfl rfl) rfl (by kernel_rfl) rfl rfl ?_
      refine any_two (j := 4) (j' := 8) (by kernel_rfl) ?_ ?_
      ·(refine one_imm (listed' := [tt,tt,tt,tt,tt,ff,ff,ff,ff,ff,ff]) rfl rfl hD rfl rfl rfl (fun v G5 hle5 hh => ?_); obtain ⟨c5x, F5, rfl, hs5, hn5⟩ := hh; have hl5 := hs5.R.len; have ho5 := hs5.R.one; have hr5 := hs5.R.mono (Dif.le G5 G4); replace hr2 := hr2.mono hle5; have hT2 := termSame_fn x G5 _ _ hr5 hr2; have hV := castValid_fn x G5 _ hr2; rw [hvx] at hV)
       refine any_pure (i := 5) (listed' := [tt,tt,tt,tt,tt,tt,ff,ff,ff,ff,ff]) rfl (by repeat (first | exact np_ret | exact np_cut | apply np_cutr | apply np_seq | apply np_block | apply np_loopN')) (pure_move rfl) rfl (by kernel_rfl) rfl rfl ?_
       refine any_pure (i := 6) (listed' := [tt,tt,tt,tt,tt,tt,tt,ff,ff,ff,ff]) rfl (by repeat (first | exact np_ret | exact np_cut | apply np_cutr | apply np_seq | apply np_block | apply np_loopN')) (pure_extract rfl rfl) rfl (by kernel_rfl) rfl rfl ?_
       refine any_pure (i := 7) (listed' := [tt,tt,tt,tt,tt,tt,tt,tt,ff,ff,ff]) rfl (by repeat (first | exact np_ret | exact np_cut | apply np_cutr | apply np_seq | apply np_block | apply np_loopN')) (pure_extract rfl rfl) rfl (by kernel_rfl) rfl rfl ?_
       refine any_one (j := 8) (by kernel_rfl) ?_
       (refine one_step0 (listed' := [tt,tt,tt,tt,tt,tt,tt,tt,tt,ff,ff]) rfl (step_alloc rfl) rfl rfl ?_; rintro _ ⟨b222, rfl⟩)
       refine any_one (j := 9) (by kernel_rfl) ?_
       refine one_storeM rfl rfl rfl rfl hl5 ho5 rfl rfl (by repeat (first | exact Sw.here | apply Sw.there)) (by exact upd_all hl5.symm) (by repeat (first | exact HmOk.nil | apply HmOk.dep (by decide +kernel) | apply HmOk.blk (by decide +kernel) (by repeat (first | exact Pk.here | apply Pk.there)) (by repeat (first | exact List.Mem.head _ | apply List.Mem.tail)))) ?_
       refine any_pure (i := 10) (listed' := [tt,tt,tt,tt,tt,tt,tt,tt,tt,tt,tt]) rfl (by repeat (first | exact np_ret | exact np_cut | apply np_cutr | apply np_seq | apply np_block | apply np_loopN')) (pure_assign rfl) rfl (by kernel_rfl) rfl rfl ?_
       refine any_done (by kernel_rfl) ?_
       refine nrm_seq ?_
       refine tri_seq ?_
       refine tri_region ?_
       refine seq_pure (pure_move rfl) rfl rfl ?_
       refine seq_pure (pure_move rfl) rfl rfl ?_
       refine seq_pure (pure_move rfl) rfl rfl ?_
       refine seq_pure (pure_pick_t rfl rfl) rfl rfl ?_
       refine seq_pure (pure_move rfl) rfl rfl ?_
       refine seq_load (load_a rfl rfl (at_blk_all (by repeat (first | exact List.Mem.head _ | apply List.Mem.tail))) hl5) rfl rfl ?_
       refine seq_load (load_a rfl rfl (at_blk_all (by repeat (first | exact List.Mem.head _ | apply List.Mem.tail))) hl2) rfl rfl ?_
       refine seq_val rfl (hT2) rfl rfl ?_
       refine seq_pure (pure_pick_t rfl rfl) rfl rfl ?_
       refine seq_pure (pure_move rfl) rfl rfl ?_
       refine seq_load (load_a rfl rfl (at_blk_all (by repeat (first | exact List.Mem.head _ | apply List.Mem.tail))) hl2) rfl rfl ?_
       refine seq_val rfl (hV) rfl rfl ?_
       refine seq_pure (pure_pick_t rfl rfl) rfl rfl ?_
       refine seq_pure (pure_assign rfl) rfl rfl ?_
       refine seq_done ?_
       refine nrm_seq ?_
       refine tri_ret ?_
       refine ret_fin1 (res_tmp rfl) ?_
       exact ⟨rfl, rfl⟩
      ·(refine one_step0 (listed' := [tt,tt,tt,tt,ff,ff,ff,ff,tt,ff,ff]) rfl (step_alloc rfl) rfl rfl ?_; rintro _ ⟨b249, rfl⟩)
       refine any_one (j := 4) (by kernel_rfl) ?_
       (refine one_imm (listed' := [tt,tt,tt,tt,tt,ff,ff,ff,tt,ff,ff]) rfl rfl hD rfl rfl rfl (fun v G5 hle5 hh => ?_); obtain ⟨c5x, F5, rfl, hs5, hn5⟩ := hh; have hl5 := hs5.R.len; have ho5 := hs5.R.one; have hr5 := hs5.R.mono (Dif.le G5 G4); replace hr2 := hr2.mono hle5; have hT2 := termSame_fn x G5 _ _ hr5 hr2; have hV := castValid_fn x G5 _ hr2; rw [hvx] at hV)
       refine any_pure (i := 5) (listed' := [tt,tt,tt,tt,tt,tt,ff,ff,tt,ff,ff]) rfl (by repeat (first | exact np_ret | exact np_cut | apply np_cutr | apply np_seq | apply np_block | apply np_loopN')) (pure_move rfl) rfl (by kernel_rfl) rfl rfl ?_
       refine any_pure (i := 6) (listed' := [tt,tt,tt,tt,tt,tt,tt,ff,tt,ff,ff]) rfl (by repeat (first | exact np_ret | exact np_cut | apply np_cutr | apply np_seq | apply np_block | apply np_loopN')) (pure_extract rfl rfl) rfl (by kernel_rfl) rfl rfl ?_
       refine any_pure (i := 7) (listed' := [tt,tt,tt,tt,tt,tt,tt,tt,tt,ff,ff]) rfl (by repeat (first | exact np_ret | exact np_cut | apply np_cutr | apply np_seq | apply np_block | apply np_loopN')) (pure_extract rfl rfl) rfl (by kernel_rfl) rfl rfl ?_
       refine any_one (j := 9) (by kernel_rfl) ?_
       refine one_storeM rfl rfl rfl rfl hl5 ho5 rfl rfl (by repeat (first | exact Sw.here | apply Sw.there)) (by exact upd_all hl5.symm) (by repeat (first | exact HmOk.nil | apply HmOk.dep (by decide +kernel) | apply HmOk.blk (by decide +kernel) (by repeat (first | exact Pk.here | apply Pk.there)) (by repeat (first | exact List.Mem.head _ | apply List.Mem.tail)))) ?_
       refine any_pure (i := 10) (listed' := [tt,tt,tt,tt,tt,tt,tt,tt,tt,tt,tt]) rfl (by repeat (first | exact np_ret | exact np_cut | apply np_cutr | apply np_seq | apply np_block | apply np_loopN')) (pure_assign rfl) rfl (by kernel_rfl) rfl rfl ?_
       refine any_done (by kernel_rfl) ?_
       refine nrm_seq ?_
       refine tri_seq ?_
       refine tri_region ?_
       refine seq_pure (pure_move rfl) rfl rfl ?_
       refine seq_pure (pure_move rfl) rfl rfl ?_
       refine seq_pure (pure_move rfl) rfl rfl ?_
       refine seq_pure (pure_pick_t rfl rfl) rfl rfl ?_
       refine seq_pure (pure_move rfl) rfl rfl ?_
       refine seq_load (load_a rfl rfl (at_blk_all (by repeat (first | exact List.Mem.head _ | apply List.Mem.tail))) hl5) rfl rfl ?_
       refine seq_load (load_a rfl rfl (at_blk_all (by repeat (first | exact List.Mem.head _ | apply List.Mem.tail))) hl2) rfl rfl ?_
       refine seq_val rfl (hT2) rfl rfl ?_
       refine seq_pure (pure_pick_t rfl rfl) rfl rfl ?_
       refine seq_pure (pure_move rfl) rfl rfl ?_
       refine seq_load (load_a rfl rfl (at_blk_all (by repeat (first | exact List.Mem.head _ | apply List.Mem.tail))) hl2) rfl rfl ?_
       refine seq_val rfl (hV) rfl rfl ?_
       refine seq_pure (pure_pick_t rfl rfl) rfl rfl ?_
       refine seq_pure (pure_assign rfl) rfl rfl ?_
       refine seq_done ?_
       refine nrm_seq ?_
       refine tri_ret ?_
       refine ret_fin1 (res_tmp rfl) ?_
       exact ⟨rfl, rfl⟩
     ·refine any_pure (i := 5) (listed' := [tt,tt,tt,tt,tt,tt,ff,ff,ff,ff,ff]) rfl (by repeat (first | exact np_ret | exact np_cut | apply np_cutr | apply np_seq | apply np_block | apply np_loopN')) (pure_move rfl) rfl (by kernel_rfl) rfl rfl ?_
      refine any_pure (i := 6) (listed' := [tt,tt,tt,tt,tt,tt,tt,ff,ff,ff,ff]) rfl (by repeat (first | exact np_ret | exact np_cut | apply np_cutr | apply np_seq | apply np_block | apply np_loopN')) (pure_extract rfl rfl) rfl (by kernel_rfl) rfl rfl ?_
      refine any_pure (i := 7) (listed' := [tt,tt,tt,tt,tt,tt,tt,tt,ff,ff,ff]) rfl (by repeat (first | exact np_ret | exact np_cut | apply np_cutr | apply np_seq | apply np_block | apply np_loopN')) (pure_extract rfl rfl) rfl (by kernel_rfl) rfl rfl ?_
      refine any_one (j := 8) (by kernel_rfl) ?_
      (refine one_step0 (listed' := [tt,tt,tt,tt,tt,tt,tt,tt,tt,ff,ff]) rfl (step_alloc rfl) rfl rfl ?_; rintro _ ⟨b285, rfl⟩)
      refine any_one (j := 9) (by kernel_rfl) ?_
      refine one_storeM rfl rfl rfl rfl hl4 ho4 rfl rfl (by repeat (first | exact Sw.here | apply Sw.there)) (by exact upd_all hl4.symm) (by repeat (first | exact HmOk.nil | apply HmOk.dep (by decide +kernel) | apply HmOk.blk (by decide +kernel) (by repeat (first | exact Pk.here | apply Pk.there)) (by repeat (first | exact List.Mem.head _ | apply List.Mem.tail)))) ?_
      refine any_pure (i := 10) (listed' := [tt,tt,tt,tt,tt,tt,tt,tt,tt,tt,tt]) rfl (by repeat (first | exact np_ret | exact np_cut | apply np_cutr | apply np_seq | apply np_block | apply np_loopN')) (pure_assign rfl) rfl (by kernel_rfl) rfl rfl ?_
      refine any_done (by kernel_rfl) ?_
      refine nrm_seq ?_
      refine tri_seq ?_
      (have hq4 := hs4; have hlp : 0 < l.length := (by omega); obtain ⟨bq, oq, fq, rfl, _, _⟩ := hsl4.2.2.2.resolve_left (by omega); have hF := hsl4.from hkl; rw [← ints_dropK] at hF; have hD := termAt_g y (l.drop kk) G4 c4x _ (cl - kk) hys hr4 (by rw [List.length_drop]; exact hF); rw [hy2, List.length_drop] at hD; refine tri_draw mixed rfl ?_)
      refine any_load (i := 0) (listed' := [tt,ff,ff,ff,ff,ff,ff,ff,ff,ff,ff]) rfl (by repeat (first | exact np_ret | exact np_cut | apply np_cutr | apply np_seq | apply np_block | apply np_loopN')) (load_a rfl rfl (at_blk_all (by repeat (first | exact List.Mem.head _ | apply List.Mem.tail))) hl4) rfl (by kernel_rfl) rfl rfl ?_
      refine any_pure (i := 1) (listed' := [tt,tt,ff,ff,ff,ff,ff,ff,ff,ff,ff]) rfl (by repeat (first | exact np_ret | exact np_cut | apply np_cutr | apply np_seq | apply np_block | apply np_loopN')) (pure_move rfl) rfl (by kernel_rfl) rfl rfl ?_
      refine any_pure (i := 2) (listed' := [tt,tt,tt,ff,ff,ff,ff,ff,ff,ff,ff]) rfl (by repeat (first | exact np_ret | exact np_cut | apply np_cutr | apply np_seq | apply np_block | apply np_loopN')) (pure_move rfl) rfl (by kernel_rfl) rfl rfl ?_
      refine any_pure (i := 3) (listed' := [tt,tt,tt,tt,ff,ff,ff,ff,ff,ff,ff]) rfl (by repeat (first | exact np_ret | exact np_cut | apply np_cutr | apply np_seq | apply np_block | apply np_loopN')) (pure_slice_from (l := kk) rfl rfl rfl (by omega)) rfl (by kernel_rfl) rfl rfl ?_
      refine any_two (j := 4) (j' := 8) (by kernel_rfl) ?_ ?_
      ·(refine one_imm (listed' := [tt,tt,tt,tt,tt,ff,ff,ff,ff,ff,ff]) rfl rfl hD rfl rfl rfl (fun v G5 hle5 hh => ?_); obtain ⟨c5x, F5, rfl, hs5, hn5⟩ := hh; have hl5 := hs5.R.len; have ho5 := hs5.R.one; have hr5 := hs5.R.mono (Dif.le G5 G4); replace hr2 := hr2.mono hle5; have hT2 := termSame_fn x G5 _ _ hr5 hr2; have hV := castValid_fn x G5 _ hr2; rw [hvx] at hV)
       refine any_pure (i := 5) (listed' := [tt,tt,tt,tt,tt,tt,ff,ff,ff,ff,ff]) rfl (by repeat (first | exact np_ret | exact np_cut | apply np_cutr | apply np_seq | apply np_block | apply np_loopN')) (pure_move rfl) rfl (by kernel_rfl) rfl rfl ?_
       refine any_pure (i := 6) (listed' := [tt,tt,tt,tt,tt,tt,tt,ff,ff,ff,ff]) rfl (by repeat (first | exact np_ret | exact np_cut | apply np_cutr | apply np_seq | apply np_block | apply np_loopN')) (pure_extract rfl rfl) rfl (by kernel_rfl) rfl rfl ?_
       refine any_pure (i := 7) (listed' := [tt,tt,tt,tt,tt,tt,tt,tt,ff,ff,ff]) rfl (by repeat (first | exact np_ret | exact np_cut | apply np_cutr | apply np_seq | apply np_block | apply np_loopN')) (pure_extract rfl rfl) rfl (by kernel_rfl) rfl rfl ?_
       refine any_one (j := 8) (by kernel_rfl) ?_
       (refine one_step0 (listed' := [tt,tt,tt,tt,tt,tt,tt,tt,tt,ff,ff]) rfl (step_alloc rfl) rfl rfl ?_; rintro _ ⟨b303, rfl⟩)
       refine any_one (j := 9) (by kernel_rfl) ?_
       refine one_storeM rfl rfl rfl rfl hl5 ho5 rfl rfl (by repeat (first | exact Sw.here | apply Sw.there)) (by exact upd_all hl5.symm) (by repeat (first | exact HmOk.nil | apply HmOk.dep (by decide +kernel) | apply HmOk.blk (by decide +kernel) (by repeat (first | exact Pk.here | apply Pk.there)) (by repeat (first | exact List.Mem.head _ | apply List.Mem.tail)))) ?_
       refine any_pure (i := 10) (listed' := [tt,tt,tt,tt,tt,tt,tt,tt,tt,tt,tt]) rfl (by repeat (first | exact np_ret | exact np_cut | apply np_cutr | apply np_seq | apply np_block | apply np_loopN')) (pure_assign rfl) rfl (by kernel_rfl) rfl rfl ?_
       refine any_done (by kernel_rfl) ?_
       refine nrm_seq ?_
       refine tri_seq ?_
       refine tri_region ?_
       refine seq_pure (pure_move rfl) rfl rfl ?_
       refine seq_pure (pure_move rfl) rfl rfl ?_
       refine seq_pure (pure_move rfl) rfl rfl ?_
       refine seq_pure (pure_pick_t rfl rfl) rfl rfl ?_
       refine seq_pure (pure_move rfl) rfl rfl ?_
       refine seq_load (load_a rfl rfl (at_blk_all (by repeat (first | exact List.Mem.head _ | apply List.Mem.tail))) hl5) rfl rfl ?_
       refine seq_load (load_a rfl rfl (at_blk_all (by repeat (first | exact List.Mem.head _ | apply List.Mem.tail))) hl2) rfl rfl ?_
       refine seq_val rfl (hT2) rfl rfl ?_
       refine seq_pure (pure_pick_t rfl rfl) rfl rfl ?_
       refine seq_pure (pure_move rfl) rfl rfl ?_
       refine seq_load (load_a rfl rfl (at_blk_all (by repeat (first | exact List.Mem.head _ | apply List.Mem.tail))) hl2) rfl rfl ?_
       refine seq_val rfl (hV) rfl rfl ?_
       refine seq_pure (pure_pick_t rfl rfl) rfl rfl ?_
       refine seq_pure (pure_assign rfl) rfl rfl ?_
       refine seq_done ?_
       refine nrm_seq ?_
       refine tri_ret ?_
       refine ret_fin1 (res_tmp rfl) ?_
       exact ⟨rfl, rfl⟩
      ·(refine one_step0 (listed' := [tt,tt,tt,tt,ff,ff,ff,ff,tt,ff,ff]) rfl (step_alloc rfl) rfl rfl ?_; rintro _ ⟨b330, rfl⟩)
       refine any_one (j := 4) (by kernel_rfl) ?_
       (refine one_imm (listed' := [tt,tt,tt,tt,tt,ff,ff,ff,tt,ff,ff]) rfl rfl hD rfl rfl rfl (fun v G5 hle5 hh => ?_); obtain ⟨c5x, F5, rfl, hs5, hn5⟩ := hh; have hl5 := hs5.R.len; have ho5 := hs5.R.one; have hr5 := hs5.R.mono (Dif.le G5 G4); replace hr2 := hr2.mono hle5; have hT2 := termSame_fn x G5 _ _ hr5 hr2; have hV := castValid_fn x G5 _ hr2; rw [hvx] at hV)
       refine any_pure (i := 5) (listed' := [tt,tt,tt,tt,tt,tt,ff,ff,tt,ff,ff]) rfl (by repeat (first | exact np_ret | exact np_cut | apply np_cutr | apply np_seq | apply np_block | apply np_loopN')) (pure_move rfl) rfl (by kernel_rfl) rfl rfl ?_
       refine any_pure (i := 6) (listed' := [tt,tt,tt,tt,tt,tt,tt,ff,tt,ff,ff]) rfl (by repeat (first | exact np_ret | exact np_cut | apply np_cutr | apply np_seq | apply np_block | apply np_loopN')) (pure_extract rfl rfl) rfl (by kernel_rfl) rfl rfl ?_
       refine any_pure (i := 7) (listed' := [tt,tt,tt,tt,tt,tt,tt,tt,tt,ff,ff]) rfl (by repeat (first | exact np_ret | exact np_cut | apply np_cutr | apply np_seq | apply np_block | apply np_loopN')) (pure_extract rfl rfl) rfl (by kernel_rfl) rfl rfl ?_
       refine any_one (j := 9) (by kernel_rfl) ?_
       refine one_storeM rfl rfl rfl rfl hl5 ho5 rfl rfl (by repeat (first | exact Sw.here | apply Sw.there)) (by exact upd_all hl5.symm) (by repeat (first | exact HmOk.nil | apply HmOk.dep (by decide +kernel) | apply HmOk.blk (by decide +kernel) (by repeat (first | exact Pk.here | apply Pk.there)) (by repeat (first | exact List.Mem.head _ | apply List.Mem.tail)))) ?_
       refine any_pure (i := 10) (listed' := [tt,tt,tt,tt,tt,tt,tt,tt,tt,tt,tt]) rfl (by repeat (first | exact np_ret | exact np_cut | apply np_cutr | apply np_seq | apply np_block | apply np_loopN')) (pure_assign rfl) rfl (by kernel_rfl) rfl rfl ?_
       refine any_done (by kernel_rfl) ?_
       refine nrm_seq ?_
       refine tri_seq ?_
       refine tri_region ?_
       refine seq_pure (pure_move rfl) rfl rfl ?_
       refine seq_pure (pure_move rfl) rfl rfl ?_
       refine seq_pure (pure_move rfl) rfl rfl ?_
       refine seq_pure (pure_pick_t rfl rfl) rfl rfl ?_
       refine seq_pure (pure_move rfl) rfl rfl ?_
       refine seq_load (load_a rfl rfl (at_blk_all (by repeat (first | exact List.Mem.head _ | apply List.Mem.tail))) hl5) rfl rfl ?_
       refine seq_load (load_a rfl rfl (at_blk_all (by repeat (first | exact List.Mem.head _ | apply List.Mem.tail))) hl2) rfl rfl ?_
       refine seq_val rfl (hT2) rfl rfl ?_
       refine seq_pure (pure_pick_t rfl rfl) rfl rfl ?_
       refine seq_pure (pure_move rfl) rfl rfl ?_
       refine seq_load (load_a rfl rfl (at_blk_all (by repeat (first | exact List.Mem.head _ | apply List.Mem.tail))) hl2) rfl rfl ?_
       refine seq_val rfl (hV) rfl rfl ?_
       refine seq_pure (pure_pick_t rfl rfl) rfl rfl ?_
       refine seq_pure (pure_assign rfl) rfl rfl ?_
       refine seq_done ?_
       refine nrm_seq ?_
       refine tri_ret ?_
       refine ret_fin1 (res_tmp rfl) ?_
       exact ⟨rfl, rfl⟩
    ·(refine one_step0 (listed' := [tt,tt,tt,tt,ff,ff,ff,ff,tt,ff,ff]) rfl (step_alloc rfl) rfl rfl ?_; rintro _ ⟨b362, rfl⟩)
     refine any_one (j := 4) (by kernel_rfl) ?_
     (refine one_imm (listed' := [tt,tt,tt,tt,tt,ff,ff,ff,tt,ff,ff]) rfl rfl hC rfl rfl rfl (fun v G4 hle4 hh => ?_); obtain ⟨c4x, F4, rfl, hs4, hn4⟩ := hh; have hl4 := hs4.R.len; have ho4 := hs4.R.one; have hr4 := hs4.R.mono (Dif.le G4 G3); have hsl4 := hsl.mono (hle13.trans hle4); replace hr2 := hr2.mono hle4; rcases Nat.eq_zero_or_pos kk with h0 | h0)
     ·refine any_pure (i := 5) (listed' := [tt,tt,tt,tt,tt,tt,ff,ff,tt,ff,ff]) rfl (by repeat (first | exact np_ret | exact np_cut | apply np_cutr | apply np_seq | apply np_block | apply np_loopN')) (pure_move rfl) rfl (by kernel_rfl) rfl rfl ?_
      refine any_pure (i := 6) (listed' := [tt,tt,tt,tt,tt,tt,tt,ff,tt,ff,ff]) rfl (by repeat (first | exact np_ret | exact np_cut | apply np_cutr | apply np_seq | apply np_block | apply np_loopN')) (pure_extract rfl rfl) rfl (by kernel_rfl) rfl rfl ?_
      refine any_pure (i := 7) (listed' := [tt,tt,tt,tt,tt,tt,tt,tt,tt,ff,ff]) rfl (by repeat (first | exact np_ret | exact np_cut | apply np_cutr | apply np_seq | apply np_block | apply np_loopN')) (pure_extract rfl rfl) rfl (by kernel_rfl) rfl rfl ?_
      refine any_one (j := 9) (by kernel_rfl) ?_
      refine one_storeM rfl rfl rfl rfl hl4 ho4 rfl rfl (by repeat (first | exact Sw.here | apply Sw.there)) (by exact upd_all hl4.symm) (by repeat (first | exact HmOk.nil | apply HmOk.dep (by decide +kernel) | apply HmOk.blk (by decide +kernel) (by repeat (first | exact Pk.here | apply Pk.there)) (by repeat (first | exact List.Mem.head _ | apply List.Mem.tail)))) ?_
      refine any_pure (i := 10) (listed' := [tt,tt,tt,tt,tt,tt,tt,tt,tt,tt,tt]) rfl (by repeat (first | exact np_ret | exact np_cut | apply np_cutr | apply np_seq | apply np_block | apply np_loopN')) (pure_assign rfl) rfl (by kernel_rfl) rfl rfl ?_
      refine any_done (by kernel_rfl) ?_
      refine nrm_seq ?_
      refine tri_seq ?_
      (have hq4 := hs4; subst h0; have hD := termAt_g y l G4 c4x pl cl hys hr4 hsl4; rw [show l.drop 0 = l from rfl] at hy2; rw [hy2] at hD; refine tri_draw mixed rfl ?_)
      refine any_load (i := 0) (listed' := [tt,ff,ff,ff,ff,ff,ff,ff,ff,ff,ff]) rfl (by repeat (first | exact np_ret | exact np_cut | apply np_cutr | apply np_seq | apply np_block | apply np_loopN')) (load_a rfl rfl (at_blk_all (by repeat (first | exact List.Mem.head _ | apply List.Mem.tail))) hl4) rfl (by kernel_rfl) rfl rfl ?_
      refine any_pure (i := 1) (listed' := [tt,tt,ff,ff,ff,ff,ff,ff,ff,ff,ff]) rfl (by repeat (first | exact np_ret | exact np_cut | apply np_cutr | apply np_seq | apply np_block | apply np_loopN')) (pure_move rfl) rfl (by kernel_rfl) rfl rfl ?_
      refine any_pure (i := 2) (listed' := [tt,tt,tt,ff,ff,ff,ff,ff,ff,ff,ff]) rfl (by repeat (first | exact np_ret | exact np_cut | apply np_cutr | apply np_seq | apply np_block | apply np_loopN')) (pure_move rfl) rfl (by kernel_rfl) rfl rfl ?_
      refine any_pure (i := 3) (listed' := [tt,tt,tt,tt,ff,ff,ff,ff,ff,ff,ff]) rfl (by repeat (first | exact np_ret | exact np_cut | apply np_cutr | apply np_seq | apply np_block | apply np_loopN')) (pure_slice_from0 rfl rfl rfl) rfl (by kernel_rfl) rfl rfl ?_
      refine any_two (j := 4) (j' := 8) (by kernel_rfl) ?_ ?_
      ·(refine one_imm (listed' := [tt,tt,tt,tt,tt,ff,ff,ff,ff,ff,ff]) rfl rfl hD rfl rfl rfl (fun v G5 hle5 hh => ?_); obtain ⟨c5x, F5, rfl, hs5, hn5⟩ := hh; have hl5 := hs5.R.len; have ho5 := hs5.R.one; have hr5 := hs5.R.mono (Dif.le G5 G4); replace hr2 := hr2.mono hle5; have hT2 := termSame_fn x G5 _ _ hr5 hr2; have hV := castValid_fn x G5 _ hr2; rw [hvx] at hV)
       refine any_pure (i := 5) (listed' := [tt,tt,tt,tt,tt,tt,ff,ff,ff,ff,ff]) rfl (by repeat (first | exact np_ret | exact np_cut | apply np_cutr | apply np_seq | apply np_block | apply np_loopN')) (pure_move rfl) rfl (by kernel_rfl) rfl rfl ?_
       refine any_pure (i := 6) (listed' := [tt,tt,tt,tt,tt,tt,tt,ff,ff,ff,ff]) rfl (by repeat (first | exact np_ret | exact np_cut | apply np_cutr | apply np_seq | apply np_block | apply np_loopN')) (pure_extract rfl rfl) rfl (by kernel_rfl) rfl rfl ?_
       refine any_pure (i := 7) (listed' := [tt,tt,tt,tt,tt,tt,tt,tt,ff,ff,ff]) rfl (by repeat (first | exact np_ret | exact np_cut | apply np_cutr | apply np_seq | apply np_block | apply np_loopN')) (pure_extract rfl rfl) rfl (by kernel_rfl) rfl rfl ?_
       refine any_one (j := 8) (by kernel_rfl) ?_
       (refine one_step0 (listed' := [tt,tt,tt,tt,tt,tt,tt,tt,tt,ff,ff]) rfl (step_alloc rfl) rfl rfl ?_; rintro _ ⟨b385, rfl⟩)
       refine any_one (j := 9) (by kernel_rfl) ?_
       refine one_storeM rfl rfl rfl rfl hl5 ho5 rfl rfl (by repeat (first | exact Sw.here | apply Sw.there)) (by exact upd_all hl5.symm) (by repeat (first | exact HmOk.nil | apply HmOk.dep (by decide +kernel) | apply HmOk.blk (by decide +kernel) (by repeat (first | exact Pk.here | apply Pk.there)) (by repeat (first | exact List.Mem.head _ | apply List.Mem.tail)))) ?_
       refine any_pure (i := 10) (listed' := [tt,tt,tt,tt,tt,tt,tt,tt,tt,tt,tt]) rfl (by repeat (first | exact np_ret | exact np_cut | apply np_cutr | apply np_seq | apply np_block | apply np_loopN')) (pure_assign rfl) rfl (by kernel_rfl) rfl rfl ?_
       refine any_done (by kernel_rfl) ?_
       refine nrm_seq ?_
       refine tri_seq ?_
       refine tri_region ?_
       refine seq_pure (pure_move rfl) rfl rfl ?_
       refine seq_pure (pure_move rfl) rfl rfl ?_
       refine seq_pure (pure_move rfl) rfl rfl ?_
       refine seq_pure (pure_pick_t rfl rfl) rfl rfl ?_
       refine seq_pure (pure_move rfl) rfl rfl ?_
       refine seq_load (load_a rfl rfl (at_blk_all (by repeat (first | exact List.Mem.head _ | apply List.Mem.tail))) hl5) rfl rfl ?_
       refine seq_load (load_a rfl rfl (at_blk_all (by repeat (first | exact List.Mem.head _ | apply List.Mem.tail))) hl2) rfl rfl ?_
       refine seq_val rfl (hT2) rfl rfl ?_
       refine seq_pure (pure_pick_t rfl rfl) rfl rfl ?_
       refine seq_pure (pure_move rfl) rfl rfl ?_
       refine seq_load (load_a rfl rfl (at_blk_all (by repeat (first | exact List.Mem.head _ | apply List.Mem.tail))) hl2) rfl rfl ?_
       refine seq_val rfl (hV) rfl rfl ?_
       refine seq_pure (pure_pick_t rfl rfl) rfl rfl ?_
       refine seq_pure (pure_assign rfl) rfl rfl ?_
       refine seq_done ?_
       refine nrm_seq ?_
       refine tri_ret ?_
       refine ret_fin1 (res_tmp rfl) ?_
       exact ⟨rfl, rfl⟩
      ·(refine one_step0 (listed' := [tt,tt,tt,tt,ff,ff,ff,ff,tt,ff,ff]) rfl (step_alloc rfl) rfl rfl ?_; rintro _ ⟨b412, rfl⟩)
       refine any_one (j := 4) (by kernel_rfl) ?_
       (refine one_imm (listed' := [tt,tt,tt,tt,tt,ff,ff,ff,tt,ff,ff]) rfl rfl hD rfl rfl rfl (fun v G5 hle5 hh => ?_); obtain ⟨c5x, F5, rfl, hs5, hn5⟩ := hh; have hl5 := hs5.R.len; have ho5 := hs5.R.one; have hr5 := hs5.R.mono (Dif.le G5 G4); replace hr2 := hr2.mono hle5; have hT2 := termSame_fn x G5 _ _ hr5 hr2; have hV := castValid_fn x G5 _ hr2; rw [hvx] at hV)
       refine any_pure (i := 5) (listed' := [tt,tt,tt,tt,tt,tt,ff,ff,tt,ff,ff]) rfl (by repeat (first | exact np_ret | exact np_cut | apply np_cutr | apply np_seq | apply np_block | apply np_loopN')) (pure_move rfl) rfl (by kernel_rfl) rfl rfl ?_
       refine any_pure (i := 6) (listed' := [tt,tt,tt,tt,tt,tt,tt,ff,tt,ff,ff]) rfl (by repeat (first | exact np_ret | exact np_cut | apply np_cutr | apply np_seq | apply np_block | apply np_loopN')) (pure_extract rfl rfl) rfl (by kernel_rfl) rfl rfl ?_
       refine any_pure (i := 7) (listed' := [tt,tt,tt,tt,tt,tt,tt,tt,tt,ff,ff]) rfl (by repeat (first | exact np_ret | exact np_cut | apply np_cutr | apply np_seq | apply np_block | apply np_loopN')) (pure_extract rfl rfl) rfl (by kernel_rfl) rfl rfl ?_
       refine any_one (j := 9) (by kernel_rfl) ?_
       refine one_storeM rfl rfl rfl rfl hl5 ho5 rfl rfl (by repeat (first | exact Sw.here | apply Sw.there)) (by exact upd_all hl5.symm) (by repeat (first | exact HmOk.nil | apply HmOk.dep (by decide +kernel) | apply HmOk.blk (by decide +kernel) (by repeat (first | exact Pk.here | apply Pk.there)) (by repeat (first | exact List.Mem.head _ | apply List.Mem.tail)))) ?_
       refine any_pure (i := 10) (listed' := [tt,tt,tt,tt,tt,tt,tt,tt,tt,tt,tt]) rfl (by repeat (first | exact np_ret | exact np_cut | apply np_cutr | apply np_seq | apply np_block | apply np_loopN')) (pure_assign rfl) rfl (by kernel_rfl) rfl rfl ?_
       refine any_done (by kernel_rfl) ?_
       refine nrm_seq ?_
       refine tri_seq ?_
       refine tri_region ?_
       refine seq_pure (pure_move rfl) rfl rfl ?_
       refine seq_pure (pure_move rfl) rfl rfl ?_
       refine seq_pure (pure_move rfl) rfl rfl ?_
       refine seq_pure (pure_pick_t rfl rfl) rfl rfl ?_
       refine seq_pure (pure_move rfl) rfl rfl ?_
       refine seq_load (load_a rfl rfl (at_blk_all (by repeat (first | exact List.Mem.head _ | apply List.Mem.tail))) hl5) rfl rfl ?_
       refine seq_load (load_a rfl rfl (at_blk_all (by repeat (first | exact List.Mem.head _ | apply List.Mem.tail))) hl2) rfl rfl ?_
       refine seq_val rfl (hT2) rfl rfl ?_
       refine seq_pure (pure_pick_t rfl rfl) rfl rfl ?_
       refine seq_pure (pure_move rfl) rfl rfl ?_
       refine seq_load (load_a rfl rfl (at_blk_all (by repeat (first | exact List.Mem.head _ | apply List.Mem.tail))) hl2) rfl rfl ?_
       refine seq_val rfl (hV) rfl rfl ?_
       refine seq_pure (pure_pick_t rfl rfl) rfl rfl ?_
       refine seq_pure (pure_assign rfl) rfl rfl ?_
       refine seq_done ?_
       refine nrm_seq ?_
       refine tri_ret ?_
       refine ret_fin1 (res_tmp rfl) ?_
       exact ⟨rfl, rfl⟩
     ·refine any_pure (i := 5) (listed' := [tt,tt,tt,tt,tt,tt,ff,ff,tt,ff,ff]) rfl (by repeat (first | exact np_ret | exact np_cut | apply np_cutr | apply np_seq | apply np_block | apply np_loopN')) (pure_move rfl) rfl (by kernel_rfl) rfl rfl ?_
      refine any_pure (i := 6) (listed' := [tt,tt,tt,tt,tt,tt,tt,ff,tt,ff,ff]) rfl (by repeat (first | exact np_ret | exact np_cut | apply np_cutr | apply np_seq | apply np_block | apply np_loopN')) (pure_extract rfl rfl) rfl (by kernel_rfl) rfl rfl ?_
      refine any_pure (i := 7) (listed' := [tt,tt,tt,tt,tt,tt,tt,tt,tt,ff,ff]) rfl (by repeat (first | exact np_ret | exact np_cut | apply np_cutr | apply np_seq | apply np_block | apply np_loopN')) (pure_extract rfl rfl) rfl (by kernel_rfl) rfl rfl ?_
      refine any_one (j := 9) (by kernel_rfl) ?_
      refine one_storeM rfl rfl rfl rfl hl4 ho4 rfl rfl (by repeat (first | exact Sw.here | apply Sw.there)) (by exact upd_all hl4.symm) (by repeat (first | exact HmOk.nil | apply HmOk.dep (by decide +kernel) | apply HmOk.blk (by decide +kernel) (by repeat (first | exact Pk.here | apply Pk.there)) (by repeat (first | exact List.Mem.head _ | apply List.Mem.tail)))) ?_
      refine any_pure (i := 10) (listed' := [tt,tt,tt,tt,tt,tt,tt,tt,tt,tt,tt]) rfl (by repeat (first | exact np_ret | exact np_cut | apply np_cutr | apply np_seq | apply np_block | apply np_loopN')) (pure_assign rfl) rfl (by kernel_rfl) rfl rfl ?_
      refine any_done (by kernel_rfl) ?_
      refine nrm_seq ?_
      refine tri_seq ?_
      (have hq4 := hs4; have hlp : 0 < l.length := (by omega); obtain ⟨bq, oq, fq, rfl, _, _⟩ := hsl4.2.2.2.resolve_left (by omega); have hF := hsl4.from hkl; rw [← ints_dropK] at hF; have hD := termAt_g y (l.drop kk) G4 c4x _ (cl - kk) hys hr4 (by rw [List.length_drop]; exact hF); rw [hy2, List.length_drop] at hD; refine tri_draw mixed rfl ?_)
      refine any_load (i := 0) (listed' := [tt,ff,ff,ff,ff,ff,ff,ff,ff,ff,ff]) rfl (by repeat (first | exact np_ret | exact np_cut | apply np_cutr | apply np_seq | apply np_block | apply np_loopN')) (load_a rfl rfl (at_blk_all (by repeat (first | exact List.Mem.head _ | apply List.Mem.tail))) hl4) rfl (by kernel_rfl) rfl rfl ?_
      refine any_pure (i := 1) (listed' := [tt,tt,ff,ff,ff,ff,ff,ff,ff,ff,ff]) rfl (by repeat (first | exact np_ret | exact np_cut | apply np_cutr | apply np_seq | apply np_block | apply np_loopN')) (pure_move rfl) rfl (by kernel_rfl) rfl rfl ?_
      refine any_pure (i := 2) (listed' := [tt,tt,tt,ff,ff,ff,ff,ff,ff,ff,ff]) rfl (by repeat (first | exact np_ret | exact np_cut | apply np_cutr | apply np_seq | apply np_block | apply np_loopN')) (pure_move rfl) rfl (by kernel_rfl) rfl rfl ?_
      refine any_pure (i := 3) (listed' := [tt,tt,tt,tt,ff,ff,ff,ff,ff,ff,ff]) rfl (by repeat (first | exact np_ret | exact np_cut | apply np_cutr | apply np_seq | apply np_block | apply np_loopN')) (pure_slice_from (l := kk) rfl rfl rfl (by omega)) rfl (by kernel_rfl) rfl rfl ?_
      refine any_two (j := 4) (j' := 8) (by kernel_rfl) ?_ ?_
      ·(refine one_imm (listed' := [tt,tt,tt,tt,tt,ff,ff,ff,ff,ff,ff]) rfl rfl hD rfl rfl rfl (fun v G5 hle5 hh => ?_); obtain ⟨c5x, F5, rfl, hs5, hn5⟩ := hh; have hl5 := hs5.R.len; have ho5 := hs5.R.one; have hr5 := hs5.R.mono (Dif.le G5 G4); replace hr2 := hr2.mono hle5; have hT2 := termSame_fn x G5 _ _ hr5 hr2; have hV := castValid_fn x G5 _ hr2; rw [hvx] at hV)
       refine any_pure (i := 5) (listed' := [tt,tt,tt,tt,tt,tt,ff,ff,ff,ff,ff]) rfl (by repeat (first | exact np_ret | exact np_cut | apply np_cutr | apply np_seq | apply np_block | apply np_loopN')) (pure_move rfl) rfl (by kernel_rfl) rfl rfl ?_
       refine any_pure (i := 6) (listed' := [tt,tt,tt,tt,tt,tt,tt,ff,ff,ff,ff]) rfl (by repeat (first | exact np_ret | exact np_cut | apply np_cutr | apply np_seq | apply np_block | apply np_loopN')) (pure_extract rfl rfl) rfl (by kernel_rfl) rfl rfl ?_
       refine any_pure (i := 7) (listed' := [tt,tt,tt,tt,tt,tt,tt,tt,ff,ff,ff]) rfl (by repeat (first | exact np_ret | exact np_cut | apply np_cutr | apply np_seq | apply np_block | apply np_loopN')) (pure_extract rfl rfl) rfl (by kernel_rfl) rfl rfl ?_
       refine any_one (j := 8) (by kernel_rfl) ?_
       (refine one_step0 (listed' := [tt,tt,tt,tt,tt,tt,tt,tt,tt,ff,ff]) rfl (step_alloc rfl) rfl rfl ?_; rintro _ ⟨b464, rfl⟩)
       refine any_one (j := 9) (by kernel_rfl) ?_
       refine one_storeM rfl rfl rfl rfl hl5 ho5 rfl rfl (by repeat (first | exact Sw.here | apply Sw.there)) (by exact upd_all hl5.symm) (by repeat (first | exact HmOk.nil | apply HmOk.dep (by decide +kernel) | apply HmOk.blk (by decide +kernel) (by repeat (first | exact Pk.here | apply Pk.there)) (by repeat (first | exact List.Mem.head _ | apply List.Mem.tail)))) ?_
       refine any_pure (i := 10) (listed' := [tt,tt,tt,tt,tt,tt,tt,tt,tt,tt,tt]) rfl (by repeat (first | exact np_ret | exact np_cut | apply np_cutr | apply np_seq | apply np_block | apply np_loopN')) (pure_assign rfl) rfl (by kernel_rfl) rfl rfl ?_
       refine any_done (by kernel_rfl) ?_
       refine nrm_seq ?_
       refine tri_seq ?_
       refine tri_region ?_
       refine seq_pure (pure_move rfl) rfl rfl ?_
       refine seq_pure (pure_move rfl) rfl rfl ?_
       refine seq_pure (pure_move rfl) rfl rfl ?_
       refine seq_pure (pure_pick_t rfl rfl) rfl rfl ?_
       refine seq_pure (pure_move rfl) rfl rfl ?_
       refine seq_load (load_a rfl rfl (at_blk_all (by repeat (first | exact List.Mem.head _ | apply List.Mem.tail))) hl5) rfl rfl ?_
       refine seq_load (load_a rfl rfl (at_blk_all (by repeat (first | exact List.Mem.head _ | apply List.Mem.tail))) hl2) rfl rfl ?_
       refine seq_val rfl (hT2) rfl rfl ?_
       refine seq_pure (pure_pick_t rfl rfl) rfl rfl ?_
       refine seq_pure (pure_move rfl) rfl rfl ?_
       refine seq_load (load_a rfl rfl (at_blk_all (by repeat (first | exact List.Mem.head _ | apply List.Mem.tail))) hl2) rfl rfl ?_
       refine seq_val rfl (hV) rfl rfl ?_
       refine seq_pure (pure_pick_t rfl rfl) rfl rfl ?_
       refine seq_pure (pure_assign rfl) rfl rfl ?_
       refine seq_done ?_
       refine nrm_seq ?_
       refine tri_ret ?_
       refine ret_fin1 (res_tmp rfl) ?_
       exact ⟨rfl, rfl⟩
      ·(refine one_step0 (listed' := [tt,tt,tt,tt,ff,ff,ff,ff,tt,ff,ff]) rfl (step_alloc rfl) rfl rfl ?_; rintro _ ⟨b491, rfl⟩)
       refine any_one (j := 4) (by kernel_rfl) ?_
       (refine one_imm (listed' := [tt,tt,tt,tt,tt,ff,ff,ff,tt,ff,ff]) rfl rfl hD rfl rfl rfl (fun v G5 hle5 hh => ?_); obtain ⟨c5x, F5, rfl, hs5, hn5⟩ := hh; have hl5 := hs5.R.len; have ho5 := hs5.R.one; have hr5 := hs5.R.mono (Dif.le G5 G4); replace hr2 := hr2.mono hle5; have hT2 := termSame_fn x G5 _ _ hr5 hr2; have hV := castValid_fn x G5 _ hr2; rw [hvx] at hV)
       refine any_pure (i := 5) (listed' := [tt,tt,tt,tt,tt,tt,ff,ff,tt,ff,ff]) rfl (by repeat (first | exact np_ret | exact np_cut | apply np_cutr | apply np_seq | apply np_block | apply np_loopN')) (pure_move rfl) rfl (by kernel_rfl) rfl rfl ?_
       refine any_pure (i := 6) (listed' := [tt,tt,tt,tt,tt,tt,tt,ff,tt,ff,ff]) rfl (by repeat (first | exact np_ret | exact np_cut | apply np_cutr | apply np_seq | apply np_block | apply np_loopN')) (pure_extract rfl rfl) rfl (by kernel_rfl) rfl rfl ?_
       refine any_pure (i := 7) (listed' := [tt,tt,tt,tt,tt,tt,tt,tt,tt,ff,ff]) rfl (by repeat (first | exact np_ret | exact np_cut | apply np_cutr | apply np_seq | apply np_block | apply np_loopN')) (pure_extract rfl rfl) rfl (by kernel_rfl) rfl rfl ?_
       refine any_one (j := 9) (by kernel_rfl) ?_
       refine one_storeM rfl rfl rfl rfl hl5 ho5 rfl rfl (by repeat (first | exact Sw.here | apply Sw.there)) (by exact upd_all hl5.symm) (by repeat (first | exact HmOk.nil | apply HmOk.dep (by decide +kernel) | apply HmOk.blk (by decide +kernel) (by repeat (first | exact Pk.here | apply Pk.there)) (by repeat (first | exact List.Mem.head _ | apply List.Mem.tail)))) ?_
       refine any_pure (i := 10) (listed' := [tt,tt,tt,tt,tt,tt,tt,tt,tt,tt,tt]) rfl (by repeat (first | exact np_ret | exact np_cut | apply np_cutr | apply np_seq | apply np_block | apply np_loopN')) (pure_assign rfl) rfl (by kernel_rfl) rfl rfl ?_
       refine any_done (by kernel_rfl) ?_
       refine nrm_seq ?_
       refine tri_seq ?_
       refine tri_region ?_
       refine seq_pure (pure_move rfl) rfl rfl ?_
       refine seq_pure (pure_move rfl) rfl rfl ?_
       refine seq_pure (pure_move rfl) rfl rfl ?_
       refine seq_pure (pure_pick_t rfl rfl) rfl rfl ?_
       refine seq_pure (pure_move rfl) rfl rfl ?_
       refine seq_load (load_a rfl rfl (at_blk_all (by repeat (first | exact List.Mem.head _ | apply List.Mem.tail))) hl5) rfl rfl ?_
       refine seq_load (load_a rfl rfl (at_blk_all (by repeat (first | exact List.Mem.head _ | apply List.Mem.tail))) hl2) rfl rfl ?_
       refine seq_val rfl (hT2) rfl rfl ?_
       refine seq_pure (pure_pick_t rfl rfl) rfl rfl ?_
       refine seq_pure (pure_move rfl) rfl rfl ?_
       refine seq_load (load_a rfl rfl (at_blk_all (by repeat (first | exact List.Mem.head _ | apply List.Mem.tail))) hl2) rfl rfl ?_
       refine seq_val rfl (hV) rfl rfl ?_
       refine seq_pure (pure_pick_t rfl rfl) rfl rfl ?_
       refine seq_pure (pure_assign rfl) rfl rfl ?_
       refine seq_done ?_
       refine nrm_seq ?_
       refine tri_ret ?_
       refine ret_fin1 (res_tmp rfl) ?_
       exact ⟨rfl, rfl⟩
end Gw
end Go.Proofs.Ytlefgfdhlblahaa
namespace Go.Proofs.Ytlefgfdhlblahaa
open Go Go.RowKit Go.ChangeShapes Go.WideShapes Go.ChangeAt
namespace Gw
section read2
variable {H : Type} {enc : TypeId × Value → H} {w : World} {sp : Nat → Bool} {held : Bool}
end read2
end Gw
end Go.Proofs.Ytlefgfdhlblahaa
namespace Go.Proofs.Ytlefgfdhlblahaa
open Go Go.RowKit Go.ChangeShapes Go.WideShapes Go.ChangeAt
namespace Gw
theorem cellsU : Try.prog.cellsOf 5 = 1 := by kernel_rfl
theorem build_byte {q : Nat → Value → Prop} : ∀ {n : Nat}, (∀ i, i < n → ∃ k : UInt8, q i (.int .u8 (k.toNat : Int))) → ∃ l : List UInt8, l.length = n ∧ ∀ i v, (byts l)[i]? = some v → q i v
 | 0, _ => ⟨[], rfl, by simp [byts]⟩
 | n + 1, h => by
  obtain ⟨l, h1, h2⟩ := build_byte (n := n) fun i hi => h i (by omega)
  obtain ⟨k, hk⟩ := h n (by omega)
  refine ⟨l ++ [k], by simp [h1], fun i v hv => ?_⟩
  rw [show byts (l ++ [k]) = byts l ++ [.int .u8 (k.toNat : Int)] from by simp [byts], List.getElem?_append] at hv
  split at hv
  ·exact h2 i v hv
  ·rename_i hi
   rw [byts_len] at hi hv
   have : i - l.length = 0 := by
    have := (List.getElem?_eq_some_iff.1 hv).1; simp at this; omega
   rw [this] at hv; simp at hv; subst hv
   rw [show i = n by omega]; exact hk
section read2
variable {H : Type} {enc : TypeId × Value → H} {w : World} {sp : Nat → Bool} {held : Bool}
set_option maxRecDepth 100000 in
theorem read_bytes (n : Nat) (cs : List Value) (x : DataW H × List MemPlace) (h : DataW.trod enc Try.prog w 0 sp held n 22 cs = some x) : ∃ (l : List UInt8) (p : Option Addr) (c : Nat), cs = [.slice p l.length c] ∧ Sl (GW w) p l.length c 1 (byts l) := by
 rcases DataW.trod_slice Try.underlying22 h with ⟨rfl, _⟩ | ⟨ad, len, cap, elems, rest, n', rfl, rfl, _, _, hlc, hcm, hel, hele, _, _⟩
 ·exact ⟨[], none, 0, rfl, Sl.nil _ _⟩
 ·rw [cellsU] at hele
  obtain ⟨l, h1, h2⟩ := build_byte (q := fun i v => w.cells? 0 (ad.add (i * 1)) 1 = some [v]) (n := len) fun i hi => by
   have := hele i hi
   rw [List.getElem?_eq_getElem (by omega)] at this
   obtain ⟨cs', c1, c2⟩ := Option.bind_eq_some_iff.1 this
   obtain ⟨k, rfl, _, hw⟩ := DataW.trod_int Try.underlying5 c2
   have hk : 0 ≤ k ∧ k < 256 := by
    have hw2 : (decide ((0 : Int) ≤ k) && decide (k ≤ (255 : Int))) = true := hw
    simp only [Bool.and_eq_true, decide_eq_true_eq] at hw2
    omega
   refine ⟨UInt8.ofNat k.toNat, ?_⟩
   rw [show ((UInt8.ofNat k.toNat).toNat : Int) = k from by
    rw [UInt8.toNat_ofNat']; omega]
   exact c1
  subst h1
  refine ⟨l, some ad, cap, rfl, ?_⟩
  have := sl_read (w := w) (a := ad) (n := l.length) (c := cap) (sz := 1) (es := (byts l).map fun v => [v]) (by simp [byts_len]) (by omega) hlc hcm fun i e he => by
   rw [List.getElem?_map] at he
   cases hv : (byts l)[i]? with
   | none => rw [hv] at he; simp at he
   | some v => rw [hv] at he; simp at he; subst he; exact h2 i v hv
  have hf : ((byts l).map fun v => [v]).flatten = byts l := by
   generalize byts l = L
   induction L with
   | nil => rfl
   | cons a L ih => simp [ih]
  rwa [hf] at this
end read2
end Gw
end Go.Proofs.Ytlefgfdhlblahaa
