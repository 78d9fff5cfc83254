/-
  The reference model's scan of terms with casts. The reference model's count of nodes, its CastValid. append of a slice in memory that no longer changes, empty or not. The reference model's paths. The reference model's AllPaths. The law that AllPaths gives what the reference model gives: its walk. Nodes at paths, casts by their labels. Copies of types and terms: the reference model's, the program's, the laws' of paths. Terms each node of which is changed, operands first; own copies. The node of a term at a path. The reference model's TermValid.
-/
import Derived.Test.YteneckdjdfnjoaaKc1
import Derived.Test.YteneckdjdfnjoaaKc2
import Derived.Test.YteneckdjdfnjoaaKc0
namespace Go.Proofs.Yteneckdjdfnjoaa
open Go Go.RowKit
namespace Gw
mutual
def sShape (D N : Int) : Tm → Int → Bool
 | .mk k nm num ty fr lb ks, deep => decide (deep ≤ D) && decide (k ≠ N) && tmNode k nm num ty fr lb ks.length && sShapeL D N ks (deep + 1)
def sShapeL (D N : Int) : List Tm → Int → Bool
 | [], _ => true
 | t :: ts, deep => sShape D N t deep && sShapeL D N ts deep
end
theorem sShapeL_iff (D N : Int) : ∀ (ts : List Tm) (d : Int), sShapeL D N ts d = true ↔ ∀ i, (h : i < ts.length) → sShape D N ts[i] d = true
 | [], d => by simp [sShapeL]
 | t :: ts, d => by
  simp only [sShapeL, Bool.and_eq_true, sShapeL_iff D N ts d]
  constructor
  ·rintro ⟨h1, h2⟩ i hi
   cases i with
   | zero => exact h1
   | succ i => exact h2 i (by simpa using hi)
  ·intro h
   exact ⟨h 0 (by simp), fun i hi => h (i + 1) (by simpa using hi)⟩
theorem sShape_no {D N : Int} {k : Int} {nm : ByteArray} {num : Int} {ty fr : Ty} {lb : Int} {ks : List Tm} {d : Int} (h : D < d ∨ k = N ∨ tmNode k nm num ty fr lb ks.length = false) : sShape D N (.mk k nm num ty fr lb ks) d = false := by
 rw [sShape]
 rcases h with h | h | h
 ·rw [decide_eq_false (by omega)]; rfl
 ·rw [decide_eq_false (p := k ≠ N) (by omega), Bool.and_false]; rfl
 ·rw [h, Bool.and_false]; rfl
theorem sShape_go {D N : Int} {k : Int} {nm : ByteArray} {num : Int} {ty fr : Ty} {lb : Int} {ks : List Tm} {d : Int} (h1 : d ≤ D) (h2 : k ≠ N) (h3 : tmNode k nm num ty fr lb ks.length = true) : sShape D N (.mk k nm num ty fr lb ks) d = sShapeL D N ks (d + 1) := by
 rw [sShape, decide_eq_true h1, decide_eq_true h2, h3]; rfl
theorem sShapeL_f {D N : Int} {ks : List Tm} {d : Int} {i : Nat} (hi : i < ks.length) (h : sShape D N ks[i] d = false) : sShapeL D N ks d = false := by
 cases hx : sShapeL D N ks d with
 | false => rfl
 | true => rw [(sShapeL_iff D N ks d).1 hx i hi] at h; cases h
theorem tmNode_14 {k : Int} {nm : ByteArray} {num : Int} {ty fr : Ty} {lb : Int} {n : Nat} (hk : k = 14) (ha : tmOps k = n) : tmNode k nm num ty fr lb n = true ↔ nm = ⟨#[]⟩ ∧ num = 0 ∧ (1 ≤ absLb lb ∧ absLb lb ≤ 99) ∧ tValid ty = true ∧ tValid fr = true ∧ tCons fr ty = true := by
 rw [tmNode_iff, absLb_spec]
 simp only [withinB, tConsistent, decide_eq_true_eq, Bool.and_eq_true]
 constructor
 ·rintro ⟨_, _, h3, _, h5, h6, _, h8, _⟩
  have h8 := h8 hk
  exact ⟨h3 (by omega), by have := h5 (by omega); omega, h8.2, h6 (by omega), h8.1.1.1, h8.1.2⟩
 ·rintro ⟨h1, h2, h3, h4, h5, h6⟩
  exact ⟨ha, fun h => absurd h (by omega), fun _ => h1, fun h => absurd h (by omega), fun _ => by omega, fun _ => h4, fun h => absurd h (by omega), fun _ => ⟨⟨⟨h5, h4⟩, h6⟩, h3⟩, fun h => absurd hk h⟩
theorem tmNode_ne {k : Int} {nm : ByteArray} {num : Int} {ty fr : Ty} {lb : Int} {n : Nat} (hk : k ≠ 14) (ha : tmOps k = n) : tmNode k nm num ty fr lb n = true ↔
  (k = 1 ∨ k = 5 → nameOk nm = true) ∧ (¬(k = 1 ∨ k = 5) → nm = ⟨#[]⟩) ∧ (k = 5 ∨ k = 13 ∨ k = 14 → tValid ty = true) ∧ (¬(k = 5 ∨ k = 13 ∨ k = 14) → tNone ty = true) ∧ (k ≠ 14 → tNone fr = true ∧ lb = 0) ∧ (k = 2 → 0 ≤ num ∧ num ≤ 999) ∧ (k ≠ 2 → num = 0) := by
 rw [tmNode_iff]
 simp only [withinB, decide_eq_true_eq]
 constructor
 ·rintro ⟨_, h2, h3, h4, h5, h6, h7, _, h9⟩
  exact ⟨h2, h3, h6, h7, h9, h4, fun h => by have := h5 h; omega⟩
 ·rintro ⟨h2, h3, h6, h7, h9, h4, h5⟩
  exact ⟨ha, h2, h3, h4, fun h => by have := h5 h; omega, h6, h7, fun h => absurd h hk, h9⟩
set_option maxHeartbeats 0 in
set_option maxRecDepth 100000 in
theorem l4Shape_fn : ∀ (t : Tm) (d : Int) (G : IM) (cells : List Value), 0 ≤ d ∧ d ≤ 40 → RTm G t cells →
  Fn Try.prog 43 [.agg ⟨cells⟩, .int .i64 d] [] G (Val (.bool (sShape 40 13 t (41 - d))) G) := by
 refine Tm.ind fun k nm num ty fr lb ks ih d G cells hd hr => ?_
 have hr0 := hr
 have h14 := fun h : k = 14 => @tmNode_14 k nm num ty fr lb ks.length h
 have hne := fun h : k ≠ 14 => @tmNode_ne k nm num ty fr lb ks.length h
 have har := fun h : tmNode k nm num ty fr lb ks.length = true => (tmNode_iff.1 h).1
 obtain ⟨R, hR⟩ : ∃ R, tmNode k nm num ty fr lb ks.length = R := ⟨_, rfl⟩
 rw [hR] at h14 hne har
 have hlo := l4Own_fn k nm num ty fr lb ks G cells hr0 R
 have hl2 := l2Own_fn k nm num ty fr lb ks G cells hr0 R
 have hk1 := l2Kids_fn k G
 obtain ⟨tk, tks⟩ := ty
 obtain ⟨fk, fks⟩ := fr
 obtain ⟨pt, ct, pf, cf, p, c, es, rfl, hk, hnum, hlb, hty, hfr, hsl, hkl⟩ := hr.open9
 have hn := hsl.le
 clear hr hr0
 refine fn_enter Try.func43 rfl Try.ntmps43 Try.results43 rfl ?_
 intro w0
 refine tri_seq ?_
 refine tri_region ?_
 (refine seq_step (step_box_a rfl rfl) rfl ?_; rintro _ ⟨b3, rfl⟩)
 refine seq_pure (pure_assign rfl) rfl rfl ?_
 refine seq_done ?_
 refine nrm_seq ?_
 refine tri_seq ?_
 refine tri_seq ?_
 refine tri_draw mixed rfl ?_
 refine any_pure (i := 0) (listed' := [tt,ff,ff,ff,ff,ff,ff,ff,ff,ff,ff,ff,ff,ff,ff,ff,ff,ff,ff,ff,ff,ff,ff,ff,ff,ff,ff,ff,ff,ff,ff,ff,ff,ff,ff,ff]) rfl (by repeat (first | exact np_ret | apply np_seq | apply np_block | apply np_loopN')) (pure_move rfl) rfl (by kernel_rfl) rfl rfl ?_
 refine any_bool (i := 1) (listed' := [tt,tt,ff,ff,ff,ff,ff,ff,ff,ff,ff,ff,ff,ff,ff,ff,ff,ff,ff,ff,ff,ff,ff,ff,ff,ff,ff,ff,ff,ff,ff,ff,ff,ff,ff,ff]) rfl (by repeat (first | exact np_ret | apply np_seq | apply np_block | apply np_loopN')) (pure_lss rfl rfl) rfl (by kernel_rfl) rfl rfl (fun h11 => ?_) (fun h11 => ?_)
 ·refine any_pure (i := 2) (listed' := [tt,tt,tt,ff,ff,ff,ff,ff,ff,ff,ff,ff,ff,ff,ff,ff,ff,ff,ff,ff,ff,ff,ff,ff,ff,ff,ff,ff,ff,ff,ff,ff,ff,ff,ff,ff]) rfl (by repeat (first | exact np_ret | apply np_seq | apply np_block | apply np_loopN')) (pure_move rfl) rfl (by kernel_rfl) rfl rfl ?_
  refine any_skip (i := 3) (listed' := [tt,tt,tt,tt,ff,ff,ff,ff,ff,ff,ff,ff,ff,ff,ff,ff,ff,ff,ff,ff,ff,ff,ff,ff,ff,ff,ff,ff,ff,ff,ff,ff,ff,ff,ff,ff]) rfl (by repeat (first | exact np_ret | apply np_seq | apply np_block | apply np_loopN')) rfl (by kernel_rfl) rfl rfl ?_
  refine any_skip (i := 4) (listed' := [tt,tt,tt,tt,tt,ff,ff,ff,ff,ff,ff,ff,ff,ff,ff,ff,ff,ff,ff,ff,ff,ff,ff,ff,ff,ff,ff,ff,ff,ff,ff,ff,ff,ff,ff,ff]) rfl (by repeat (first | exact np_ret | apply np_seq | apply np_block | apply np_loopN')) rfl (by kernel_rfl) rfl rfl ?_
  refine any_skip (i := 6) (listed' := [tt,tt,tt,tt,tt,ff,tt,ff,ff,ff,ff,ff,ff,ff,ff,ff,ff,ff,ff,ff,ff,ff,ff,ff,ff,ff,ff,ff,ff,ff,ff,ff,ff,ff,ff,ff]) rfl (by repeat (first | exact np_ret | apply np_seq | apply np_block | apply np_loopN')) rfl (by kernel_rfl) rfl rfl ?_
  refine any_skip (i := 7) (listed' := [tt,tt,tt,tt,tt,ff,tt,tt,ff,ff,ff,ff,ff,ff,ff,ff,ff,ff,ff,ff,ff,ff,ff,ff,ff,ff,ff,ff,ff,ff,ff,ff,ff,ff,ff,ff]) rfl (by repeat (first | exact np_ret | apply np_seq | apply np_block | apply np_loopN')) rfl (by kernel_rfl) rfl rfl ?_
  refine any_skip (i := 8) (listed' := [tt,tt,tt,tt,tt,ff,tt,tt,tt,ff,ff,ff,ff,ff,ff,ff,ff,ff,ff,ff,ff,ff,ff,ff,ff,ff,ff,ff,ff,ff,ff,ff,ff,ff,ff,ff]) rfl (by repeat (first | exact np_ret | apply np_seq | apply np_block | apply np_loopN')) rfl (by kernel_rfl) rfl rfl ?_
  refine any_skip (i := 5) (listed' := [tt,tt,tt,tt,tt,tt,tt,tt,tt,ff,ff,ff,ff,ff,ff,ff,ff,ff,ff,ff,ff,ff,ff,ff,ff,ff,ff,ff,ff,ff,ff,ff,ff,ff,ff,ff]) rfl (by repeat (first | exact np_ret | apply np_seq | apply np_block | apply np_loopN')) rfl (by kernel_rfl) rfl rfl ?_
  refine any_skip (i := 9) (listed' := [tt,tt,tt,tt,tt,tt,tt,tt,tt,tt,ff,ff,ff,ff,ff,ff,ff,ff,ff,ff,ff,ff,ff,ff,ff,ff,ff,ff,ff,ff,ff,ff,ff,ff,ff,ff]) rfl (by repeat (first | exact np_ret | apply np_seq | apply np_block | apply np_loopN')) rfl (by kernel_rfl) rfl rfl ?_
  refine any_pure (i := 10) (listed' := [tt,tt,tt,tt,tt,tt,tt,tt,tt,tt,tt,ff,ff,ff,ff,ff,ff,ff,ff,ff,ff,ff,ff,ff,ff,ff,ff,ff,ff,ff,ff,ff,ff,ff,ff,ff]) rfl (by repeat (first | exact np_ret | apply np_seq | apply np_block | apply np_loopN')) (pure_pick_t rfl rfl) rfl (by kernel_rfl) rfl rfl ?_
  refine any_pure (i := 11) (listed' := [tt,tt,tt,tt,tt,tt,tt,tt,tt,tt,tt,tt,ff,ff,ff,ff,ff,ff,ff,ff,ff,ff,ff,ff,ff,ff,ff,ff,ff,ff,ff,ff,ff,ff,ff,ff]) rfl (by repeat (first | exact np_ret | apply np_seq | apply np_block | apply np_loopN')) (pure_move rfl) rfl (by kernel_rfl) rfl rfl ?_
  refine any_skip (i := 12) (listed' := [tt,tt,tt,tt,tt,tt,tt,tt,tt,tt,tt,tt,tt,ff,ff,ff,ff,ff,ff,ff,ff,ff,ff,ff,ff,ff,ff,ff,ff,ff,ff,ff,ff,ff,ff,ff]) rfl (by repeat (first | exact np_ret | apply np_seq | apply np_block | apply np_loopN')) rfl (by kernel_rfl) rfl rfl ?_
  refine any_skip (i := 13) (listed' := [tt,tt,tt,tt,tt,tt,tt,tt,tt,tt,tt,tt,tt,tt,ff,ff,ff,ff,ff,ff,ff,ff,ff,ff,ff,ff,ff,ff,ff,ff,ff,ff,ff,ff,ff,ff]) rfl (by repeat (first | exact np_ret | apply np_seq | apply np_block | apply np_loopN')) rfl (by kernel_rfl) rfl rfl ?_
  refine any_skip (i := 14) (listed' := [tt,tt,tt,tt,tt,tt,tt,tt,tt,tt,tt,tt,tt,tt,tt,ff,ff,ff,ff,ff,ff,ff,ff,ff,ff,ff,ff,ff,ff,ff,ff,ff,ff,ff,ff,ff]) rfl (by repeat (first | exact np_ret | apply np_seq | apply np_block | apply np_loopN')) rfl (by kernel_rfl) rfl rfl ?_
  refine any_pure (i := 15) (listed' := [tt,tt,tt,tt,tt,tt,tt,tt,tt,tt,tt,tt,tt,tt,tt,tt,ff,ff,ff,ff,ff,ff,ff,ff,ff,ff,ff,ff,ff,ff,ff,ff,ff,ff,ff,ff]) rfl (by repeat (first | exact np_ret | apply np_seq | apply np_block | apply np_loopN')) (pure_pick_t rfl rfl) rfl (by kernel_rfl) rfl rfl ?_
  refine any_pure (i := 16) (listed' := [tt,tt,tt,tt,tt,tt,tt,tt,tt,tt,tt,tt,tt,tt,tt,tt,tt,ff,ff,ff,ff,ff,ff,ff,ff,ff,ff,ff,ff,ff,ff,ff,ff,ff,ff,ff]) rfl (by repeat (first | exact np_ret | apply np_seq | apply np_block | apply np_loopN')) (pure_move rfl) rfl (by kernel_rfl) rfl rfl ?_
  refine any_skip (i := 17) (listed' := [tt,tt,tt,tt,tt,tt,tt,tt,tt,tt,tt,tt,tt,tt,tt,tt,tt,tt,ff,ff,ff,ff,ff,ff,ff,ff,ff,ff,ff,ff,ff,ff,ff,ff,ff,ff]) rfl (by repeat (first | exact np_ret | apply np_seq | apply np_block | apply np_loopN')) rfl (by kernel_rfl) rfl rfl ?_
  refine any_skip (i := 18) (listed' := [tt,tt,tt,tt,tt,tt,tt,tt,tt,tt,tt,tt,tt,tt,tt,tt,tt,tt,tt,ff,ff,ff,ff,ff,ff,ff,ff,ff,ff,ff,ff,ff,ff,ff,ff,ff]) rfl (by repeat (first | exact np_ret | apply np_seq | apply np_block | apply np_loopN')) rfl (by kernel_rfl) rfl rfl ?_
  refine any_skip (i := 19) (listed' := [tt,tt,tt,tt,tt,tt,tt,tt,tt,tt,tt,tt,tt,tt,tt,tt,tt,tt,tt,tt,ff,ff,ff,ff,ff,ff,ff,ff,ff,ff,ff,ff,ff,ff,ff,ff]) rfl (by repeat (first | exact np_ret | apply np_seq | apply np_block | apply np_loopN')) rfl (by kernel_rfl) rfl rfl ?_
  refine any_skip (i := 20) (listed' := [tt,tt,tt,tt,tt,tt,tt,tt,tt,tt,tt,tt,tt,tt,tt,tt,tt,tt,tt,tt,tt,ff,ff,ff,ff,ff,ff,ff,ff,ff,ff,ff,ff,ff,ff,ff]) rfl (by repeat (first | exact np_ret | apply np_seq | apply np_block | apply np_loopN')) rfl (by kernel_rfl) rfl rfl ?_
  refine any_skip (i := 21) (listed' := [tt,tt,tt,tt,tt,tt,tt,tt,tt,tt,tt,tt,tt,tt,tt,tt,tt,tt,tt,tt,tt,tt,ff,ff,ff,ff,ff,ff,ff,ff,ff,ff,ff,ff,ff,ff]) rfl (by repeat (first | exact np_ret | apply np_seq | apply np_block | apply np_loopN')) rfl (by kernel_rfl) rfl rfl ?_
  refine any_skip (i := 22) (listed' := [tt,tt,tt,tt,tt,tt,tt,tt,tt,tt,tt,tt,tt,tt,tt,tt,tt,tt,tt,tt,tt,tt,tt,ff,ff,ff,ff,ff,ff,ff,ff,ff,ff,ff,ff,ff]) rfl (by repeat (first | exact np_ret | apply np_seq | apply np_block | apply np_loopN')) rfl (by kernel_rfl) rfl rfl ?_
  refine any_skip (i := 23) (listed' := [tt,tt,tt,tt,tt,tt,tt,tt,tt,tt,tt,tt,tt,tt,tt,tt,tt,tt,tt,tt,tt,tt,tt,tt,ff,ff,ff,ff,ff,ff,ff,ff,ff,ff,ff,ff]) rfl (by repeat (first | exact np_ret | apply np_seq | apply np_block | apply np_loopN')) rfl (by kernel_rfl) rfl rfl ?_
  refine any_skip (i := 24) (listed' := [tt,tt,tt,tt,tt,tt,tt,tt,tt,tt,tt,tt,tt,tt,tt,tt,tt,tt,tt,tt,tt,tt,tt,tt,tt,ff,ff,ff,ff,ff,ff,ff,ff,ff,ff,ff]) rfl (by repeat (first | exact np_ret | apply np_seq | apply np_block | apply np_loopN')) rfl (by kernel_rfl) rfl rfl ?_
  refine any_pure (i := 25) (listed' := [tt,tt,tt,tt,tt,tt,tt,tt,tt,tt,tt,tt,tt,tt,tt,tt,tt,tt,tt,tt,tt,tt,tt,tt,tt,tt,ff,ff,ff,ff,ff,ff,ff,ff,ff,ff]) rfl (by repeat (first | exact np_ret | apply np_seq | apply np_block | apply np_loopN')) (pure_pick_t rfl rfl) rfl (by kernel_rfl) rfl rfl ?_
  refine any_pure (i := 26) (listed' := [tt,tt,tt,tt,tt,tt,tt,tt,tt,tt,tt,tt,tt,tt,tt,tt,tt,tt,tt,tt,tt,tt,tt,tt,tt,tt,tt,ff,ff,ff,ff,ff,ff,ff,ff,ff]) rfl (by repeat (first | exact np_ret | apply np_seq | apply np_block | apply np_loopN')) (pure_move rfl) rfl (by kernel_rfl) rfl rfl ?_
  refine any_skip (i := 27) (listed' := [tt,tt,tt,tt,tt,tt,tt,tt,tt,tt,tt,tt,tt,tt,tt,tt,tt,tt,tt,tt,tt,tt,tt,tt,tt,tt,tt,tt,ff,ff,ff,ff,ff,ff,ff,ff]) rfl (by repeat (first | exact np_ret | apply np_seq | apply np_block | apply np_loopN')) rfl (by kernel_rfl) rfl rfl ?_
  refine any_skip (i := 28) (listed' := [tt,tt,tt,tt,tt,tt,tt,tt,tt,tt,tt,tt,tt,tt,tt,tt,tt,tt,tt,tt,tt,tt,tt,tt,tt,tt,tt,tt,tt,ff,ff,ff,ff,ff,ff,ff]) rfl (by repeat (first | exact np_ret | apply np_seq | apply np_block | apply np_loopN')) rfl (by kernel_rfl) rfl rfl ?_
  refine any_skip (i := 29) (listed' := [tt,tt,tt,tt,tt,tt,tt,tt,tt,tt,tt,tt,tt,tt,tt,tt,tt,tt,tt,tt,tt,tt,tt,tt,tt,tt,tt,tt,tt,tt,ff,ff,ff,ff,ff,ff]) rfl (by repeat (first | exact np_ret | apply np_seq | apply np_block | apply np_loopN')) rfl (by kernel_rfl) rfl rfl ?_
  refine any_skip (i := 30) (listed' := [tt,tt,tt,tt,tt,tt,tt,tt,tt,tt,tt,tt,tt,tt,tt,tt,tt,tt,tt,tt,tt,tt,tt,tt,tt,tt,tt,tt,tt,tt,tt,ff,ff,ff,ff,ff]) rfl (by repeat (first | exact np_ret | apply np_seq | apply np_block | apply np_loopN')) rfl (by kernel_rfl) rfl rfl ?_
  refine any_skip (i := 31) (listed' := [tt,tt,tt,tt,tt,tt,tt,tt,tt,tt,tt,tt,tt,tt,tt,tt,tt,tt,tt,tt,tt,tt,tt,tt,tt,tt,tt,tt,tt,tt,tt,tt,ff,ff,ff,ff]) rfl (by repeat (first | exact np_ret | apply np_seq | apply np_block | apply np_loopN')) rfl (by kernel_rfl) rfl rfl ?_
  refine any_skip (i := 32) (listed' := [tt,tt,tt,tt,tt,tt,tt,tt,tt,tt,tt,tt,tt,tt,tt,tt,tt,tt,tt,tt,tt,tt,tt,tt,tt,tt,tt,tt,tt,tt,tt,tt,tt,ff,ff,ff]) rfl (by repeat (first | exact np_ret | apply np_seq | apply np_block | apply np_loopN')) rfl (by kernel_rfl) rfl rfl ?_
  refine any_skip (i := 33) (listed' := [tt,tt,tt,tt,tt,tt,tt,tt,tt,tt,tt,tt,tt,tt,tt,tt,tt,tt,tt,tt,tt,tt,tt,tt,tt,tt,tt,tt,tt,tt,tt,tt,tt,tt,ff,ff]) rfl (by repeat (first | exact np_ret | apply np_seq | apply np_block | apply np_loopN')) rfl (by kernel_rfl) rfl rfl ?_
  refine any_skip (i := 34) (listed' := [tt,tt,tt,tt,tt,tt,tt,tt,tt,tt,tt,tt,tt,tt,tt,tt,tt,tt,tt,tt,tt,tt,tt,tt,tt,tt,tt,tt,tt,tt,tt,tt,tt,tt,tt,ff]) rfl (by repeat (first | exact np_ret | apply np_seq | apply np_block | apply np_loopN')) rfl (by kernel_rfl) rfl rfl ?_
  refine any_pure (i := 35) (listed' := [tt,tt,tt,tt,tt,tt,tt,tt,tt,tt,tt,tt,tt,tt,tt,tt,tt,tt,tt,tt,tt,tt,tt,tt,tt,tt,tt,tt,tt,tt,tt,tt,tt,tt,tt,tt]) rfl (by repeat (first | exact np_ret | apply np_seq | apply np_block | apply np_loopN')) (pure_pick_t rfl rfl) rfl (by kernel_rfl) rfl rfl ?_
  refine any_done (by kernel_rfl) ?_
  refine nrm_seq ?_
  refine tri_cond_t rfl ?_
  refine tri_seq ?_
  refine tri_region ?_
  refine seq_pure (pure_assign rfl) rfl rfl ?_
  refine seq_done ?_
  refine nrm_seq ?_
  refine tri_ret ?_
  refine ret_seq ?_
  refine ret_fin1 (res_tmp rfl) ?_
  (rw [sShape_no (by rw [hR]; first | omega | exact .inr (.inr (by assumption)) | exact .inr (.inr (by cases R with | false => rfl | true => exact absurd (har rfl) (by omega))))]; exact ⟨rfl, rfl, rfl⟩)
 ·refine any_pure (i := 2) (listed' := [tt,tt,tt,ff,ff,ff,ff,ff,ff,ff,ff,ff,ff,ff,ff,ff,ff,ff,ff,ff,ff,ff,ff,ff,ff,ff,ff,ff,ff,ff,ff,ff,ff,ff,ff,ff]) rfl (by repeat (first | exact np_ret | apply np_seq | apply np_block | apply np_loopN')) (pure_move rfl) rfl (by kernel_rfl) rfl rfl ?_
  refine any_pure (i := 3) (listed' := [tt,tt,tt,tt,ff,ff,ff,ff,ff,ff,ff,ff,ff,ff,ff,ff,ff,ff,ff,ff,ff,ff,ff,ff,ff,ff,ff,ff,ff,ff,ff,ff,ff,ff,ff,ff]) rfl (by repeat (first | exact np_ret | apply np_seq | apply np_block | apply np_loopN')) (pure_fieldAddr0 rfl) rfl (by kernel_rfl) rfl rfl ?_
  refine any_load (i := 4) (listed' := [tt,tt,tt,tt,tt,ff,ff,ff,ff,ff,ff,ff,ff,ff,ff,ff,ff,ff,ff,ff,ff,ff,ff,ff,ff,ff,ff,ff,ff,ff,ff,ff,ff,ff,ff,ff]) rfl (by repeat (first | exact np_ret | apply np_seq | apply np_block | apply np_loopN')) (load_bs rfl rfl (by repeat (first | exact List.Mem.head _ | apply List.Mem.tail)) (by rfl)) rfl (by kernel_rfl) rfl rfl ?_
  refine any_pure (i := 6) (listed' := [tt,tt,tt,tt,tt,ff,tt,ff,ff,ff,ff,ff,ff,ff,ff,ff,ff,ff,ff,ff,ff,ff,ff,ff,ff,ff,ff,ff,ff,ff,ff,ff,ff,ff,ff,ff]) rfl (by repeat (first | exact np_ret | apply np_seq | apply np_block | apply np_loopN')) (pure_fieldAddr0 rfl) rfl (by kernel_rfl) rfl rfl ?_
  refine any_load (i := 7) (listed' := [tt,tt,tt,tt,tt,ff,tt,tt,ff,ff,ff,ff,ff,ff,ff,ff,ff,ff,ff,ff,ff,ff,ff,ff,ff,ff,ff,ff,ff,ff,ff,ff,ff,ff,ff,ff]) rfl (by repeat (first | exact np_ret | apply np_seq | apply np_block | apply np_loopN')) (load_bs rfl rfl (by repeat (first | exact List.Mem.head _ | apply List.Mem.tail)) (by rfl)) rfl (by kernel_rfl) rfl rfl ?_
  refine any_pure (i := 8) (listed' := [tt,tt,tt,tt,tt,ff,tt,tt,tt,ff,ff,ff,ff,ff,ff,ff,ff,ff,ff,ff,ff,ff,ff,ff,ff,ff,ff,ff,ff,ff,ff,ff,ff,ff,ff,ff]) rfl (by repeat (first | exact np_ret | apply np_seq | apply np_block | apply np_loopN')) (pure_len rfl rfl) rfl (by kernel_rfl) rfl rfl ?_
  refine any_one (j := 5) (by kernel_rfl) ?_
  refine one_val (listed' := [tt,tt,tt,tt,tt,tt,tt,tt,tt,ff,ff,ff,ff,ff,ff,ff,ff,ff,ff,ff,ff,ff,ff,ff,ff,ff,ff,ff,ff,ff,ff,ff,ff,ff,ff,ff]) rfl rfl (hk1) rfl rfl rfl ?_
  refine any_bool (i := 9) (listed' := [tt,tt,tt,tt,tt,tt,tt,tt,tt,tt,ff,ff,ff,ff,ff,ff,ff,ff,ff,ff,ff,ff,ff,ff,ff,ff,ff,ff,ff,ff,ff,ff,ff,ff,ff,ff]) rfl (by repeat (first | exact np_ret | apply np_seq | apply np_block | apply np_loopN')) (pure_neq rfl rfl) rfl (by kernel_rfl) rfl rfl (fun h66 => ?_) (fun h66 => ?_)
  ·refine any_pure (i := 10) (listed' := [tt,tt,tt,tt,tt,tt,tt,tt,tt,tt,tt,ff,ff,ff,ff,ff,ff,ff,ff,ff,ff,ff,ff,ff,ff,ff,ff,ff,ff,ff,ff,ff,ff,ff,ff,ff]) rfl (by repeat (first | exact np_ret | apply np_seq | apply np_block | apply np_loopN')) (pure_pick_f rfl rfl) rfl (by kernel_rfl) rfl rfl ?_
   refine any_pure (i := 11) (listed' := [tt,tt,tt,tt,tt,tt,tt,tt,tt,tt,tt,tt,ff,ff,ff,ff,ff,ff,ff,ff,ff,ff,ff,ff,ff,ff,ff,ff,ff,ff,ff,ff,ff,ff,ff,ff]) rfl (by repeat (first | exact np_ret | apply np_seq | apply np_block | apply np_loopN')) (pure_move rfl) rfl (by kernel_rfl) rfl rfl ?_
   refine any_skip (i := 12) (listed' := [tt,tt,tt,tt,tt,tt,tt,tt,tt,tt,tt,tt,tt,ff,ff,ff,ff,ff,ff,ff,ff,ff,ff,ff,ff,ff,ff,ff,ff,ff,ff,ff,ff,ff,ff,ff]) rfl (by repeat (first | exact np_ret | apply np_seq | apply np_block | apply np_loopN')) rfl (by kernel_rfl) rfl rfl ?_
   refine any_skip (i := 13) (listed' := [tt,tt,tt,tt,tt,tt,tt,tt,tt,tt,tt,tt,tt,tt,ff,ff,ff,ff,ff,ff,ff,ff,ff,ff,ff,ff,ff,ff,ff,ff,ff,ff,ff,ff,ff,ff]) rfl (by repeat (first | exact np_ret | apply np_seq | apply np_block | apply np_loopN')) rfl (by kernel_rfl) rfl rfl ?_
   refine any_skip (i := 14) (listed' := [tt,tt,tt,tt,tt,tt,tt,tt,tt,tt,tt,tt,tt,tt,tt,ff,ff,ff,ff,ff,ff,ff,ff,ff,ff,ff,ff,ff,ff,ff,ff,ff,ff,ff,ff,ff]) rfl (by repeat (first | exact np_ret | apply np_seq | apply np_block | apply np_loopN')) rfl (by kernel_rfl) rfl rfl ?_
   refine any_pure (i := 15) (listed' := [tt,tt,tt,tt,tt,tt,tt,tt,tt,tt,tt,tt,tt,tt,tt,tt,ff,ff,ff,ff,ff,ff,ff,ff,ff,ff,ff,ff,ff,ff,ff,ff,ff,ff,ff,ff]) rfl (by repeat (first | exact np_ret | apply np_seq | apply np_block | apply np_loopN')) (pure_pick_t rfl rfl) rfl (by kernel_rfl) rfl rfl ?_
   refine any_pure (i := 16) (listed' := [tt,tt,tt,tt,tt,tt,tt,tt,tt,tt,tt,tt,tt,tt,tt,tt,tt,ff,ff,ff,ff,ff,ff,ff,ff,ff,ff,ff,ff,ff,ff,ff,ff,ff,ff,ff]) rfl (by repeat (first | exact np_ret | apply np_seq | apply np_block | apply np_loopN')) (pure_move rfl) rfl (by kernel_rfl) rfl rfl ?_
   refine any_skip (i := 17) (listed' := [tt,tt,tt,tt,tt,tt,tt,tt,tt,tt,tt,tt,tt,tt,tt,tt,tt,tt,ff,ff,ff,ff,ff,ff,ff,ff,ff,ff,ff,ff,ff,ff,ff,ff,ff,ff]) rfl (by repeat (first | exact np_ret | apply np_seq | apply np_block | apply np_loopN')) rfl (by kernel_rfl) rfl rfl ?_
   refine any_skip (i := 18) (listed' := [tt,tt,tt,tt,tt,tt,tt,tt,tt,tt,tt,tt,tt,tt,tt,tt,tt,tt,tt,ff,ff,ff,ff,ff,ff,ff,ff,ff,ff,ff,ff,ff,ff,ff,ff,ff]) rfl (by repeat (first | exact np_ret | apply np_seq | apply np_block | apply np_loopN')) rfl (by kernel_rfl) rfl rfl ?_
   refine any_skip (i := 19) (listed' := [tt,tt,tt,tt,tt,tt,tt,tt,tt,tt,tt,tt,tt,tt,tt,tt,tt,tt,tt,tt,ff,ff,ff,ff,ff,ff,ff,ff,ff,ff,ff,ff,ff,ff,ff,ff]) rfl (by repeat (first | exact np_ret | apply np_seq | apply np_block | apply np_loopN')) rfl (by kernel_rfl) rfl rfl ?_
   refine any_skip (i := 20) (listed' := [tt,tt,tt,tt,tt,tt,tt,tt,tt,tt,tt,tt,tt,tt,tt,tt,tt,tt,tt,tt,tt,ff,ff,ff,ff,ff,ff,ff,ff,ff,ff,ff,ff,ff,ff,ff]) rfl (by repeat (first | exact np_ret | apply np_seq | apply np_block | apply np_loopN')) rfl (by kernel_rfl) rfl rfl ?_
   refine any_skip (i := 21) (listed' := [tt,tt,tt,tt,tt,tt,tt,tt,tt,tt,tt,tt,tt,tt,tt,tt,tt,tt,tt,tt,tt,tt,ff,ff,ff,ff,ff,ff,ff,ff,ff,ff,ff,ff,ff,ff]) rfl (by repeat (first | exact np_ret | apply np_seq | apply np_block | apply np_loopN')) rfl (by kernel_rfl) rfl rfl ?_
   refine any_skip (i := 22) (listed' := [tt,tt,tt,tt,tt,tt,tt,tt,tt,tt,tt,tt,tt,tt,tt,tt,tt,tt,tt,tt,tt,tt,tt,ff,ff,ff,ff,ff,ff,ff,ff,ff,ff,ff,ff,ff]) rfl (by repeat (first | exact np_ret | apply np_seq | apply np_block | apply np_loopN')) rfl (by kernel_rfl) rfl rfl ?_
   refine any_skip (i := 23) (listed' := [tt,tt,tt,tt,tt,tt,tt,tt,tt,tt,tt,tt,tt,tt,tt,tt,tt,tt,tt,tt,tt,tt,tt,tt,ff,ff,ff,ff,ff,ff,ff,ff,ff,ff,ff,ff]) rfl (by repeat (first | exact np_ret | apply np_seq | apply np_block | apply np_loopN')) rfl (by kernel_rfl) rfl rfl ?_
   refine any_skip (i := 24) (listed' := [tt,tt,tt,tt,tt,tt,tt,tt,tt,tt,tt,tt,tt,tt,tt,tt,tt,tt,tt,tt,tt,tt,tt,tt,tt,ff,ff,ff,ff,ff,ff,ff,ff,ff,ff,ff]) rfl (by repeat (first | exact np_ret | apply np_seq | apply np_block | apply np_loopN')) rfl (by kernel_rfl) rfl rfl ?_
   refine any_pure (i := 25) (listed' := [tt,tt,tt,tt,tt,tt,tt,tt,tt,tt,tt,tt,tt,tt,tt,tt,tt,tt,tt,tt,tt,tt,tt,tt,tt,tt,ff,ff,ff,ff,ff,ff,ff,ff,ff,ff]) rfl (by repeat (first | exact np_ret | apply np_seq | apply np_block | apply np_loopN')) (pure_pick_t rfl rfl) rfl (by kernel_rfl) rfl rfl ?_
   refine any_pure (i := 26) (listed' := [tt,tt,tt,tt,tt,tt,tt,tt,tt,tt,tt,tt,tt,tt,tt,tt,tt,tt,tt,tt,tt,tt,tt,tt,tt,tt,tt,ff,ff,ff,ff,ff,ff,ff,ff,ff]) rfl (by repeat (first | exact np_ret | apply np_seq | apply np_block | apply np_loopN')) (pure_move rfl) rfl (by kernel_rfl) rfl rfl ?_
   refine any_skip (i := 27) (listed' := [tt,tt,tt,tt,tt,tt,tt,tt,tt,tt,tt,tt,tt,tt,tt,tt,tt,tt,tt,tt,tt,tt,tt,tt,tt,tt,tt,tt,ff,ff,ff,ff,ff,ff,ff,ff]) rfl (by repeat (first | exact np_ret | apply np_seq | apply np_block | apply np_loopN')) rfl (by kernel_rfl) rfl rfl ?_
   refine any_skip (i := 28) (listed' := [tt,tt,tt,tt,tt,tt,tt,tt,tt,tt,tt,tt,tt,tt,tt,tt,tt,tt,tt,tt,tt,tt,tt,tt,tt,tt,tt,tt,tt,ff,ff,ff,ff,ff,ff,ff]) rfl (by repeat (first | exact np_ret | apply np_seq | apply np_block | apply np_loopN')) rfl (by kernel_rfl) rfl rfl ?_
   refine any_skip (i := 29) (listed' := [tt,tt,tt,tt,tt,tt,tt,tt,tt,tt,tt,tt,tt,tt,tt,tt,tt,tt,tt,tt,tt,tt,tt,tt,tt,tt,tt,tt,tt,tt,ff,ff,ff,ff,ff,ff]) rfl (by repeat (first | exact np_ret | apply np_seq | apply np_block | apply np_loopN')) rfl (by kernel_rfl) rfl rfl ?_
   refine any_skip (i := 30) (listed' := [tt,tt,tt,tt,tt,tt,tt,tt,tt,tt,tt,tt,tt,tt,tt,tt,tt,tt,tt,tt,tt,tt,tt,tt,tt,tt,tt,tt,tt,tt,tt,ff,ff,ff,ff,ff]) rfl (by repeat (first | exact np_ret | apply np_seq | apply np_block | apply np_loopN')) rfl (by kernel_rfl) rfl rfl ?_
   refine any_skip (i := 31) (listed' := [tt,tt,tt,tt,tt,tt,tt,tt,tt,tt,tt,tt,tt,tt,tt,tt,tt,tt,tt,tt,tt,tt,tt,tt,tt,tt,tt,tt,tt,tt,tt,tt,ff,ff,ff,ff]) rfl (by repeat (first | exact np_ret | apply np_seq | apply np_block | apply np_loopN')) rfl (by kernel_rfl) rfl rfl ?_
   refine any_skip (i := 32) (listed' := [tt,tt,tt,tt,tt,tt,tt,tt,tt,tt,tt,tt,tt,tt,tt,tt,tt,tt,tt,tt,tt,tt,tt,tt,tt,tt,tt,tt,tt,tt,tt,tt,tt,ff,ff,ff]) rfl (by repeat (first | exact np_ret | apply np_seq | apply np_block | apply np_loopN')) rfl (by kernel_rfl) rfl rfl ?_
   refine any_skip (i := 33) (listed' := [tt,tt,tt,tt,tt,tt,tt,tt,tt,tt,tt,tt,tt,tt,tt,tt,tt,tt,tt,tt,tt,tt,tt,tt,tt,tt,tt,tt,tt,tt,tt,tt,tt,tt,ff,ff]) rfl (by repeat (first | exact np_ret | apply np_seq | apply np_block | apply np_loopN')) rfl (by kernel_rfl) rfl rfl ?_
   refine any_skip (i := 34) (listed' := [tt,tt,tt,tt,tt,tt,tt,tt,tt,tt,tt,tt,tt,tt,tt,tt,tt,tt,tt,tt,tt,tt,tt,tt,tt,tt,tt,tt,tt,tt,tt,tt,tt,tt,tt,ff]) rfl (by repeat (first | exact np_ret | apply np_seq | apply np_block | apply np_loopN')) rfl (by kernel_rfl) rfl rfl ?_
   refine any_pure (i := 35) (listed' := [tt,tt,tt,tt,tt,tt,tt,tt,tt,tt,tt,tt,tt,tt,tt,tt,tt,tt,tt,tt,tt,tt,tt,tt,tt,tt,tt,tt,tt,tt,tt,tt,tt,tt,tt,tt]) rfl (by repeat (first | exact np_ret | apply np_seq | apply np_block | apply np_loopN')) (pure_pick_t rfl rfl) rfl (by kernel_rfl) rfl rfl ?_
   refine any_done (by kernel_rfl) ?_
   refine nrm_seq ?_
   refine tri_cond_t rfl ?_
   refine tri_seq ?_
   refine tri_region ?_
   refine seq_pure (pure_assign rfl) rfl rfl ?_
   refine seq_done ?_
   refine nrm_seq ?_
   refine tri_ret ?_
   refine ret_seq ?_
   refine ret_fin1 (res_tmp rfl) ?_
   (rw [sShape_no (by rw [hR]; first | omega | exact .inr (.inr (by assumption)) | exact .inr (.inr (by cases R with | false => rfl | true => exact absurd (har rfl) (by omega))))]; exact ⟨rfl, rfl, rfl⟩)
  ·refine any_pure (i := 10) (listed' := [tt,tt,tt,tt,tt,tt,tt,tt,tt,tt,tt,ff,ff,ff,ff,ff,ff,ff,ff,ff,ff,ff,ff,ff,ff,ff,ff,ff,ff,ff,ff,ff,ff,ff,ff,ff]) rfl (by repeat (first | exact np_ret | apply np_seq | apply np_block | apply np_loopN')) (pure_pick_f rfl rfl) rfl (by kernel_rfl) rfl rfl ?_
   refine any_pure (i := 11) (listed' := [tt,tt,tt,tt,tt,tt,tt,tt,tt,tt,tt,tt,ff,ff,ff,ff,ff,ff,ff,ff,ff,ff,ff,ff,ff,ff,ff,ff,ff,ff,ff,ff,ff,ff,ff,ff]) rfl (by repeat (first | exact np_ret | apply np_seq | apply np_block | apply np_loopN')) (pure_move rfl) rfl (by kernel_rfl) rfl rfl ?_
   refine any_pure (i := 12) (listed' := [tt,tt,tt,tt,tt,tt,tt,tt,tt,tt,tt,tt,tt,ff,ff,ff,ff,ff,ff,ff,ff,ff,ff,ff,ff,ff,ff,ff,ff,ff,ff,ff,ff,ff,ff,ff]) rfl (by repeat (first | exact np_ret | apply np_seq | apply np_block | apply np_loopN')) (pure_fieldAddr0 rfl) rfl (by kernel_rfl) rfl rfl ?_
   refine any_load (i := 13) (listed' := [tt,tt,tt,tt,tt,tt,tt,tt,tt,tt,tt,tt,tt,tt,ff,ff,ff,ff,ff,ff,ff,ff,ff,ff,ff,ff,ff,ff,ff,ff,ff,ff,ff,ff,ff,ff]) rfl (by repeat (first | exact np_ret | apply np_seq | apply np_block | apply np_loopN')) (load_bs rfl rfl (by repeat (first | exact List.Mem.head _ | apply List.Mem.tail)) (by rfl)) rfl (by kernel_rfl) rfl rfl ?_
   refine any_bool (i := 14) (listed' := [tt,tt,tt,tt,tt,tt,tt,tt,tt,tt,tt,tt,tt,tt,tt,ff,ff,ff,ff,ff,ff,ff,ff,ff,ff,ff,ff,ff,ff,ff,ff,ff,ff,ff,ff,ff]) rfl (by repeat (first | exact np_ret | apply np_seq | apply np_block | apply np_loopN')) (pure_eql rfl rfl) rfl (by kernel_rfl) rfl rfl (fun h109 => ?_) (fun h109 => ?_)
   ·refine any_pure (i := 15) (listed' := [tt,tt,tt,tt,tt,tt,tt,tt,tt,tt,tt,tt,tt,tt,tt,tt,ff,ff,ff,ff,ff,ff,ff,ff,ff,ff,ff,ff,ff,ff,ff,ff,ff,ff,ff,ff]) rfl (by repeat (first | exact np_ret | apply np_seq | apply np_block | apply np_loopN')) (pure_pick_f rfl rfl) rfl (by kernel_rfl) rfl rfl ?_
    refine any_pure (i := 16) (listed' := [tt,tt,tt,tt,tt,tt,tt,tt,tt,tt,tt,tt,tt,tt,tt,tt,tt,ff,ff,ff,ff,ff,ff,ff,ff,ff,ff,ff,ff,ff,ff,ff,ff,ff,ff,ff]) rfl (by repeat (first | exact np_ret | apply np_seq | apply np_block | apply np_loopN')) (pure_move rfl) rfl (by kernel_rfl) rfl rfl ?_
    refine any_skip (i := 17) (listed' := [tt,tt,tt,tt,tt,tt,tt,tt,tt,tt,tt,tt,tt,tt,tt,tt,tt,tt,ff,ff,ff,ff,ff,ff,ff,ff,ff,ff,ff,ff,ff,ff,ff,ff,ff,ff]) rfl (by repeat (first | exact np_ret | apply np_seq | apply np_block | apply np_loopN')) rfl (by kernel_rfl) rfl rfl ?_
    refine any_skip (i := 18) (listed' := [tt,tt,tt,tt,tt,tt,tt,tt,tt,tt,tt,tt,tt,tt,tt,tt,tt,tt,tt,ff,ff,ff,ff,ff,ff,ff,ff,ff,ff,ff,ff,ff,ff,ff,ff,ff]) rfl (by repeat (first | exact np_ret | apply np_seq | apply np_block | apply np_loopN')) rfl (by kernel_rfl) rfl rfl ?_
    refine any_skip (i := 19) (listed' := [tt,tt,tt,tt,tt,tt,tt,tt,tt,tt,tt,tt,tt,tt,tt,tt,tt,tt,tt,tt,ff,ff,ff,ff,ff,ff,ff,ff,ff,ff,ff,ff,ff,ff,ff,ff]) rfl (by repeat (first | exact np_ret | apply np_seq | apply np_block | apply np_loopN')) rfl (by kernel_rfl) rfl rfl ?_
    refine any_skip (i := 20) (listed' := [tt,tt,tt,tt,tt,tt,tt,tt,tt,tt,tt,tt,tt,tt,tt,tt,tt,tt,tt,tt,tt,ff,ff,ff,ff,ff,ff,ff,ff,ff,ff,ff,ff,ff,ff,ff]) rfl (by repeat (first | exact np_ret | apply np_seq | apply np_block | apply np_loopN')) rfl (by kernel_rfl) rfl rfl ?_
    refine any_skip (i := 21) (listed' := [tt,tt,tt,tt,tt,tt,tt,tt,tt,tt,tt,tt,tt,tt,tt,tt,tt,tt,tt,tt,tt,tt,ff,ff,ff,ff,ff,ff,ff,ff,ff,ff,ff,ff,ff,ff]) rfl (by repeat (first | exact np_ret | apply np_seq | apply np_block | apply np_loopN')) rfl (by kernel_rfl) rfl rfl ?_
    refine any_skip (i := 22) (listed' := [tt,tt,tt,tt,tt,tt,tt,tt,tt,tt,tt,tt,tt,tt,tt,tt,tt,tt,tt,tt,tt,tt,tt,ff,ff,ff,ff,ff,ff,ff,ff,ff,ff,ff,ff,ff]) rfl (by repeat (first | exact np_ret | apply np_seq | apply np_block | apply np_loopN')) rfl (by kernel_rfl) rfl rfl ?_
    refine any_skip (i := 23) (listed' := [tt,tt,tt,tt,tt,tt,tt,tt,tt,tt,tt,tt,tt,tt,tt,tt,tt,tt,tt,tt,tt,tt,tt,tt,ff,ff,ff,ff,ff,ff,ff,ff,ff,ff,ff,ff]) rfl (by repeat (first | exact np_ret | apply np_seq | apply np_block | apply np_loopN')) rfl (by kernel_rfl) rfl rfl ?_
    refine any_skip (i := 24) (listed' := [tt,tt,tt,tt,tt,tt,tt,tt,tt,tt,tt,tt,tt,tt,tt,tt,tt,tt,tt,tt,tt,tt,tt,tt,tt,ff,ff,ff,ff,ff,ff,ff,ff,ff,ff,ff]) rfl (by repeat (first | exact np_ret | apply np_seq | apply np_block | apply np_loopN')) rfl (by kernel_rfl) rfl rfl ?_
    refine any_pure (i := 25) (listed' := [tt,tt,tt,tt,tt,tt,tt,tt,tt,tt,tt,tt,tt,tt,tt,tt,tt,tt,tt,tt,tt,tt,tt,tt,tt,tt,ff,ff,ff,ff,ff,ff,ff,ff,ff,ff]) rfl (by repeat (first | exact np_ret | apply np_seq | apply np_block | apply np_loopN')) (pure_pick_t rfl rfl) rfl (by kernel_rfl) rfl rfl ?_
    refine any_pure (i := 26) (listed' := [tt,tt,tt,tt,tt,tt,tt,tt,tt,tt,tt,tt,tt,tt,tt,tt,tt,tt,tt,tt,tt,tt,tt,tt,tt,tt,tt,ff,ff,ff,ff,ff,ff,ff,ff,ff]) rfl (by repeat (first | exact np_ret | apply np_seq | apply np_block | apply np_loopN')) (pure_move rfl) rfl (by kernel_rfl) rfl rfl ?_
    refine any_skip (i := 27) (listed' := [tt,tt,tt,tt,tt,tt,tt,tt,tt,tt,tt,tt,tt,tt,tt,tt,tt,tt,tt,tt,tt,tt,tt,tt,tt,tt,tt,tt,ff,ff,ff,ff,ff,ff,ff,ff]) rfl (by repeat (first | exact np_ret | apply np_seq | apply np_block | apply np_loopN')) rfl (by kernel_rfl) rfl rfl ?_
    refine any_skip (i := 28) (listed' := [tt,tt,tt,tt,tt,tt,tt,tt,tt,tt,tt,tt,tt,tt,tt,tt,tt,tt,tt,tt,tt,tt,tt,tt,tt,tt,tt,tt,tt,ff,ff,ff,ff,ff,ff,ff]) rfl (by repeat (first | exact np_ret | apply np_seq | apply np_block | apply np_loopN')) rfl (by kernel_rfl) rfl rfl ?_
    refine any_skip (i := 29) (listed' := [tt,tt,tt,tt,tt,tt,tt,tt,tt,tt,tt,tt,tt,tt,tt,tt,tt,tt,tt,tt,tt,tt,tt,tt,tt,tt,tt,tt,tt,tt,ff,ff,ff,ff,ff,ff]) rfl (by repeat (first | exact np_ret | apply np_seq | apply np_block | apply np_loopN')) rfl (by kernel_rfl) rfl rfl ?_
    refine any_skip (i := 30) (listed' := [tt,tt,tt,tt,tt,tt,tt,tt,tt,tt,tt,tt,tt,tt,tt,tt,tt,tt,tt,tt,tt,tt,tt,tt,tt,tt,tt,tt,tt,tt,tt,ff,ff,ff,ff,ff]) rfl (by repeat (first | exact np_ret | apply np_seq | apply np_block | apply np_loopN')) rfl (by kernel_rfl) rfl rfl ?_
    refine any_skip (i := 31) (listed' := [tt,tt,tt,tt,tt,tt,tt,tt,tt,tt,tt,tt,tt,tt,tt,tt,tt,tt,tt,tt,tt,tt,tt,tt,tt,tt,tt,tt,tt,tt,tt,tt,ff,ff,ff,ff]) rfl (by repeat (first | exact np_ret | apply np_seq | apply np_block | apply np_loopN')) rfl (by kernel_rfl) rfl rfl ?_
    refine any_skip (i := 32) (listed' := [tt,tt,tt,tt,tt,tt,tt,tt,tt,tt,tt,tt,tt,tt,tt,tt,tt,tt,tt,tt,tt,tt,tt,tt,tt,tt,tt,tt,tt,tt,tt,tt,tt,ff,ff,ff]) rfl (by repeat (first | exact np_ret | apply np_seq | apply np_block | apply np_loopN')) rfl (by kernel_rfl) rfl rfl ?_
    refine any_skip (i := 33) (listed' := [tt,tt,tt,tt,tt,tt,tt,tt,tt,tt,tt,tt,tt,tt,tt,tt,tt,tt,tt,tt,tt,tt,tt,tt,tt,tt,tt,tt,tt,tt,tt,tt,tt,tt,ff,ff]) rfl (by repeat (first | exact np_ret | apply np_seq | apply np_block | apply np_loopN')) rfl (by kernel_rfl) rfl rfl ?_
    refine any_skip (i := 34) (listed' := [tt,tt,tt,tt,tt,tt,tt,tt,tt,tt,tt,tt,tt,tt,tt,tt,tt,tt,tt,tt,tt,tt,tt,tt,tt,tt,tt,tt,tt,tt,tt,tt,tt,tt,tt,ff]) rfl (by repeat (first | exact np_ret | apply np_seq | apply np_block | apply np_loopN')) rfl (by kernel_rfl) rfl rfl ?_
    refine any_pure (i := 35) (listed' := [tt,tt,tt,tt,tt,tt,tt,tt,tt,tt,tt,tt,tt,tt,tt,tt,tt,tt,tt,tt,tt,tt,tt,tt,tt,tt,tt,tt,tt,tt,tt,tt,tt,tt,tt,tt]) rfl (by repeat (first | exact np_ret | apply np_seq | apply np_block | apply np_loopN')) (pure_pick_t rfl rfl) rfl (by kernel_rfl) rfl rfl ?_
    refine any_done (by kernel_rfl) ?_
    refine nrm_seq ?_
    refine tri_cond_t rfl ?_
    refine tri_seq ?_
    refine tri_region ?_
    refine seq_pure (pure_assign rfl) rfl rfl ?_
    refine seq_done ?_
    refine nrm_seq ?_
    refine tri_ret ?_
    refine ret_seq ?_
    refine ret_fin1 (res_tmp rfl) ?_
    (rw [sShape_no (by rw [hR]; first | omega | exact .inr (.inr (by assumption)) | exact .inr (.inr (by cases R with | false => rfl | true => exact absurd (har rfl) (by omega))))]; exact ⟨rfl, rfl, rfl⟩)
   ·refine any_pure (i := 15) (listed' := [tt,tt,tt,tt,tt,tt,tt,tt,tt,tt,tt,tt,tt,tt,tt,tt,ff,ff,ff,ff,ff,ff,ff,ff,ff,ff,ff,ff,ff,ff,ff,ff,ff,ff,ff,ff]) rfl (by repeat (first | exact np_ret | apply np_seq | apply np_block | apply np_loopN')) (pure_pick_f rfl rfl) rfl (by kernel_rfl) rfl rfl ?_
    refine any_pure (i := 16) (listed' := [tt,tt,tt,tt,tt,tt,tt,tt,tt,tt,tt,tt,tt,tt,tt,tt,tt,ff,ff,ff,ff,ff,ff,ff,ff,ff,ff,ff,ff,ff,ff,ff,ff,ff,ff,ff]) rfl (by repeat (first | exact np_ret | apply np_seq | apply np_block | apply np_loopN')) (pure_move rfl) rfl (by kernel_rfl) rfl rfl ?_
    refine any_pure (i := 17) (listed' := [tt,tt,tt,tt,tt,tt,tt,tt,tt,tt,tt,tt,tt,tt,tt,tt,tt,tt,ff,ff,ff,ff,ff,ff,ff,ff,ff,ff,ff,ff,ff,ff,ff,ff,ff,ff]) rfl (by repeat (first | exact np_ret | apply np_seq | apply np_block | apply np_loopN')) (pure_fieldAddr0 rfl) rfl (by kernel_rfl) rfl rfl ?_
    refine any_load (i := 18) (listed' := [tt,tt,tt,tt,tt,tt,tt,tt,tt,tt,tt,tt,tt,tt,tt,tt,tt,tt,tt,ff,ff,ff,ff,ff,ff,ff,ff,ff,ff,ff,ff,ff,ff,ff,ff,ff]) rfl (by repeat (first | exact np_ret | apply np_seq | apply np_block | apply np_loopN')) (load_bs rfl rfl (by repeat (first | exact List.Mem.head _ | apply List.Mem.tail)) (by rfl)) rfl (by kernel_rfl) rfl rfl ?_
    refine any_bool (i := 19) (listed' := [tt,tt,tt,tt,tt,tt,tt,tt,tt,tt,tt,tt,tt,tt,tt,tt,tt,tt,tt,tt,ff,ff,ff,ff,ff,ff,ff,ff,ff,ff,ff,ff,ff,ff,ff,ff]) rfl (by repeat (first | exact np_ret | apply np_seq | apply np_block | apply np_loopN')) (pure_eql rfl rfl) rfl (by kernel_rfl) rfl rfl (fun h147 => ?_) (fun h147 => ?_)
    ·refine any_pure (i := 20) (listed' := [tt,tt,tt,tt,tt,tt,tt,tt,tt,tt,tt,tt,tt,tt,tt,tt,tt,tt,tt,tt,tt,ff,ff,ff,ff,ff,ff,ff,ff,ff,ff,ff,ff,ff,ff,ff]) rfl (by repeat (first | exact np_ret | apply np_seq | apply np_block | apply np_loopN')) (pure_move rfl) rfl (by kernel_rfl) rfl rfl ?_
     refine any_load (i := 21) (listed' := [tt,tt,tt,tt,tt,tt,tt,tt,tt,tt,tt,tt,tt,tt,tt,tt,tt,tt,tt,tt,tt,tt,ff,ff,ff,ff,ff,ff,ff,ff,ff,ff,ff,ff,ff,ff]) rfl (by repeat (first | exact np_ret | apply np_seq | apply np_block | apply np_loopN')) (load_ba rfl rfl (by repeat (first | exact List.Mem.head _ | apply List.Mem.tail)) (by rfl)) rfl (by kernel_rfl) rfl rfl ?_
     refine any_one (j := 22) (by kernel_rfl) ?_
     refine one_valb (listed' := [tt,tt,tt,tt,tt,tt,tt,tt,tt,tt,tt,tt,tt,tt,tt,tt,tt,tt,tt,tt,tt,tt,tt,ff,ff,ff,ff,ff,ff,ff,ff,ff,ff,ff,ff,ff]) rfl rfl (hlo (h14 (by omega) (by omega))) rfl rfl rfl (fun h151 => ?_) (fun h151 => ?_)
     ·refine any_pure (i := 23) (listed' := [tt,tt,tt,tt,tt,tt,tt,tt,tt,tt,tt,tt,tt,tt,tt,tt,tt,tt,tt,tt,tt,tt,tt,tt,ff,ff,ff,ff,ff,ff,ff,ff,ff,ff,ff,ff]) rfl (by repeat (first | exact np_ret | apply np_seq | apply np_block | apply np_loopN')) (pure_not_t rfl) rfl (by kernel_rfl) rfl rfl ?_
      refine any_pure (i := 24) (listed' := [tt,tt,tt,tt,tt,tt,tt,tt,tt,tt,tt,tt,tt,tt,tt,tt,tt,tt,tt,tt,tt,tt,tt,tt,tt,ff,ff,ff,ff,ff,ff,ff,ff,ff,ff,ff]) rfl (by repeat (first | exact np_ret | apply np_seq | apply np_block | apply np_loopN')) (pure_pick_t rfl rfl) rfl (by kernel_rfl) rfl rfl ?_
      refine any_pure (i := 25) (listed' := [tt,tt,tt,tt,tt,tt,tt,tt,tt,tt,tt,tt,tt,tt,tt,tt,tt,tt,tt,tt,tt,tt,tt,tt,tt,tt,ff,ff,ff,ff,ff,ff,ff,ff,ff,ff]) rfl (by repeat (first | exact np_ret | apply np_seq | apply np_block | apply np_loopN')) (pure_pick_f rfl rfl) rfl (by kernel_rfl) rfl rfl ?_
      refine any_pure (i := 26) (listed' := [tt,tt,tt,tt,tt,tt,tt,tt,tt,tt,tt,tt,tt,tt,tt,tt,tt,tt,tt,tt,tt,tt,tt,tt,tt,tt,tt,ff,ff,ff,ff,ff,ff,ff,ff,ff]) rfl (by repeat (first | exact np_ret | apply np_seq | apply np_block | apply np_loopN')) (pure_move rfl) rfl (by kernel_rfl) rfl rfl ?_
      refine any_pure (i := 27) (listed' := [tt,tt,tt,tt,tt,tt,tt,tt,tt,tt,tt,tt,tt,tt,tt,tt,tt,tt,tt,tt,tt,tt,tt,tt,tt,tt,tt,tt,ff,ff,ff,ff,ff,ff,ff,ff]) rfl (by repeat (first | exact np_ret | apply np_seq | apply np_block | apply np_loopN')) (pure_fieldAddr0 rfl) rfl (by kernel_rfl) rfl rfl ?_
      refine any_load (i := 28) (listed' := [tt,tt,tt,tt,tt,tt,tt,tt,tt,tt,tt,tt,tt,tt,tt,tt,tt,tt,tt,tt,tt,tt,tt,tt,tt,tt,tt,tt,tt,ff,ff,ff,ff,ff,ff,ff]) rfl (by repeat (first | exact np_ret | apply np_seq | apply np_block | apply np_loopN')) (load_bs rfl rfl (by repeat (first | exact List.Mem.head _ | apply List.Mem.tail)) (by rfl)) rfl (by kernel_rfl) rfl rfl ?_
      refine any_pure (i := 29) (listed' := [tt,tt,tt,tt,tt,tt,tt,tt,tt,tt,tt,tt,tt,tt,tt,tt,tt,tt,tt,tt,tt,tt,tt,tt,tt,tt,tt,tt,tt,tt,ff,ff,ff,ff,ff,ff]) rfl (by repeat (first | exact np_ret | apply np_seq | apply np_block | apply np_loopN')) (pure_neq_f rfl rfl (by omega)) rfl (by kernel_rfl) rfl rfl ?_
      refine any_pure (i := 30) (listed' := [tt,tt,tt,tt,tt,tt,tt,tt,tt,tt,tt,tt,tt,tt,tt,tt,tt,tt,tt,tt,tt,tt,tt,tt,tt,tt,tt,tt,tt,tt,tt,ff,ff,ff,ff,ff]) rfl (by repeat (first | exact np_ret | apply np_seq | apply np_block | apply np_loopN')) (pure_move rfl) rfl (by kernel_rfl) rfl rfl ?_
      refine any_skip (i := 31) (listed' := [tt,tt,tt,tt,tt,tt,tt,tt,tt,tt,tt,tt,tt,tt,tt,tt,tt,tt,tt,tt,tt,tt,tt,tt,tt,tt,tt,tt,tt,tt,tt,tt,ff,ff,ff,ff]) rfl (by repeat (first | exact np_ret | apply np_seq | apply np_block | apply np_loopN')) rfl (by kernel_rfl) rfl rfl ?_
      refine any_skip (i := 32) (listed' := [tt,tt,tt,tt,tt,tt,tt,tt,tt,tt,tt,tt,tt,tt,tt,tt,tt,tt,tt,tt,tt,tt,tt,tt,tt,tt,tt,tt,tt,tt,tt,tt,tt,ff,ff,ff]) rfl (by repeat (first | exact np_ret | apply np_seq | apply np_block | apply np_loopN')) rfl (by kernel_rfl) rfl rfl ?_
      refine any_skip (i := 33) (listed' := [tt,tt,tt,tt,tt,tt,tt,tt,tt,tt,tt,tt,tt,tt,tt,tt,tt,tt,tt,tt,tt,tt,tt,tt,tt,tt,tt,tt,tt,tt,tt,tt,tt,tt,ff,ff]) rfl (by repeat (first | exact np_ret | apply np_seq | apply np_block | apply np_loopN')) rfl (by kernel_rfl) rfl rfl ?_
      refine any_pure (i := 34) (listed' := [tt,tt,tt,tt,tt,tt,tt,tt,tt,tt,tt,tt,tt,tt,tt,tt,tt,tt,tt,tt,tt,tt,tt,tt,tt,tt,tt,tt,tt,tt,tt,tt,tt,tt,tt,ff]) rfl (by repeat (first | exact np_ret | apply np_seq | apply np_block | apply np_loopN')) (pure_pick_f rfl rfl) rfl (by kernel_rfl) rfl rfl ?_
      refine any_pure (i := 35) (listed' := [tt,tt,tt,tt,tt,tt,tt,tt,tt,tt,tt,tt,tt,tt,tt,tt,tt,tt,tt,tt,tt,tt,tt,tt,tt,tt,tt,tt,tt,tt,tt,tt,tt,tt,tt,tt]) rfl (by repeat (first | exact np_ret | apply np_seq | apply np_block | apply np_loopN')) (pure_pick_f rfl rfl) rfl (by kernel_rfl) rfl rfl ?_
      refine any_done (by kernel_rfl) ?_
      refine nrm_seq ?_
      refine tri_cond_f rfl ?_
      refine tri_skip ?_
      refine nrm_seq ?_
      refine tri_seq ?_
      refine tri_seq ?_
      refine tri_region ?_
      refine seq_pure (pure_assign rfl) rfl rfl ?_
      refine seq_done ?_
      refine nrm_seq ?_
      refine tri_block ?_
      (refine tri_loopN (fun (i : Nat) => ⟨[(5, .int .i64 i), (2, .pointer (some ⟨b3, 0, none⟩)), (1, .int .i64 d)], [.blk b3 [.int .i64 k, .string nm, .int .i64 num, .int .i64 tk, .slice pt tks.length ct, .int .i64 fk, .slice pf fks.length cf, .int .i64 lb, .slice p ks.length c]], G⟩) (fun i => i ≤ ks.length ∧ ∀ j (h : j < ks.length), j < i → sShape 40 13 ks[j] (41 - d + 1) = true) (fun i => ks.length - i) 0 ?_ ?_ ?_)
      ·exact sub_mk (by repeat (first | exact SubE.nil | refine SubE.cons rfl ?_)) (by repeat (first | exact SubH.refl | exact SubH.nil | refine SubH.cons (by repeat (first | exact Pk.here | apply Pk.there)) ?_ | apply SubH.drop))
      ·exact ⟨by omega, by omega⟩
      ·(rintro i ⟨hi, hf⟩)
       refine tri_seq ?_
       refine tri_seq ?_
       refine tri_region ?_
       refine seq_pure (pure_move rfl) rfl rfl ?_
       refine seq_pure (pure_fieldAddr0 rfl) rfl rfl ?_
       refine seq_load (load_bs rfl rfl (by repeat (first | exact List.Mem.head _ | apply List.Mem.tail)) (by rfl)) rfl rfl ?_
       refine seq_pure (pure_len rfl rfl) rfl rfl ?_
       refine seq_bool (pure_lss rfl rfl) rfl rfl (fun h188 => ?_) (fun h188 => ?_)
       ·refine seq_done ?_
        refine nrm_seq ?_
        refine tri_cond_t rfl ?_
        refine tri_skip ?_
        refine nrm_seq ?_
        refine tri_seq ?_
        refine tri_block ?_
        refine tri_seq ?_
        refine tri_region ?_
        refine seq_pure (pure_fieldAddr0 rfl) rfl rfl ?_
        refine seq_load (load_bs rfl rfl (by repeat (first | exact List.Mem.head _ | apply List.Mem.tail)) (by rfl)) rfl rfl ?_
        refine seq_pure (pure_move rfl) rfl rfl ?_
        (obtain ⟨b, o, e, rfl, hl, hat, hre, hgb⟩ := hsl.kidTm hkl (i := i) (by omega) (by omega); refine seq_pure (pure_indexAddrN rfl rfl rfl (by omega)) rfl rfl ?_)
        refine seq_load (load_a rfl rfl (hat _) hl) rfl rfl ?_
        refine seq_pure (pure_move rfl) rfl rfl ?_
        refine seq_pure (pure_sub rfl rfl (by omega) (by omega)) rfl rfl ?_
        (have hih := ih ks[i] (List.getElem_mem (by omega)) (d - 1) G _ (by omega) hre; rw [show 41 - (d - 1) = 41 - d + 1 by omega] at hih; refine seq_valb rfl hih rfl rfl (fun h205 => ?_) (fun h205 => ?_))
        ·refine seq_pure (pure_not_t rfl) rfl rfl ?_
         refine seq_done ?_
         refine nrm_seq ?_
         refine tri_cond_f rfl ?_
         refine tri_skip ?_
         refine nrm_block ?_
         refine nrm_seq ?_
         refine tri_region ?_
         refine seq_pure (pure_move rfl) rfl rfl ?_
         refine seq_pure (pure_add rfl rfl (by omega) (by omega)) rfl rfl ?_
         refine seq_pure (pure_assign rfl) rfl rfl ?_
         refine seq_done ?_
         refine nrm_loopN (i + 1) ?_ ?_ ?_
         ·exact sub_mk (by repeat (first | exact SubE.nil | refine SubE.cons rfl ?_)) (by repeat (first | exact SubH.refl | exact SubH.nil | refine SubH.cons (by repeat (first | exact Pk.here | apply Pk.there)) ?_ | apply SubH.drop))
         ·exact ⟨by omega, fun j hj hji => by (by_cases he : j = i; (subst he; assumption); exact hf j hj (by omega))⟩
         ·omega
        ·refine seq_pure (pure_not_f rfl) rfl rfl ?_
         refine seq_done ?_
         refine nrm_seq ?_
         refine tri_cond_t rfl ?_
         refine tri_seq ?_
         refine tri_region ?_
         refine seq_pure (pure_assign rfl) rfl rfl ?_
         refine seq_done ?_
         refine nrm_seq ?_
         refine tri_ret ?_
         refine ret_block ?_
         refine ret_seq ?_
         refine ret_loopN ?_
         refine ret_block ?_
         refine ret_seq ?_
         refine ret_fin1 (res_tmp rfl) ?_
         (rw [sShape_go (by omega) (by omega) (hR.trans (by assumption)), sShapeL_f (i := i) (by omega) (by assumption)]; exact ⟨rfl, rfl, rfl⟩)
       ·refine seq_done ?_
        refine nrm_seq ?_
        refine tri_cond_f rfl ?_
        refine tri_exit ?_
        refine ext_seq ?_
        refine ext_loopN ?_
        refine ext_block_eq ?_
        refine nrm_seq ?_
        refine tri_seq ?_
        refine tri_region ?_
        refine seq_pure (pure_assign rfl) rfl rfl ?_
        refine seq_done ?_
        refine nrm_seq ?_
        refine tri_ret ?_
        refine ret_fin1 (res_tmp rfl) ?_
        (rw [sShape_go (by omega) (by omega) (hR.trans (by assumption)), (sShapeL_iff 40 13 ks _).2 (fun j hj => hf j hj (by omega))]; exact ⟨rfl, rfl, rfl⟩)
     ·refine any_pure (i := 23) (listed' := [tt,tt,tt,tt,tt,tt,tt,tt,tt,tt,tt,tt,tt,tt,tt,tt,tt,tt,tt,tt,tt,tt,tt,tt,ff,ff,ff,ff,ff,ff,ff,ff,ff,ff,ff,ff]) rfl (by repeat (first | exact np_ret | apply np_seq | apply np_block | apply np_loopN')) (pure_not_f rfl) rfl (by kernel_rfl) rfl rfl ?_
      refine any_pure (i := 24) (listed' := [tt,tt,tt,tt,tt,tt,tt,tt,tt,tt,tt,tt,tt,tt,tt,tt,tt,tt,tt,tt,tt,tt,tt,tt,tt,ff,ff,ff,ff,ff,ff,ff,ff,ff,ff,ff]) rfl (by repeat (first | exact np_ret | apply np_seq | apply np_block | apply np_loopN')) (pure_pick_t rfl rfl) rfl (by kernel_rfl) rfl rfl ?_
      refine any_pure (i := 25) (listed' := [tt,tt,tt,tt,tt,tt,tt,tt,tt,tt,tt,tt,tt,tt,tt,tt,tt,tt,tt,tt,tt,tt,tt,tt,tt,tt,ff,ff,ff,ff,ff,ff,ff,ff,ff,ff]) rfl (by repeat (first | exact np_ret | apply np_seq | apply np_block | apply np_loopN')) (pure_pick_f rfl rfl) rfl (by kernel_rfl) rfl rfl ?_
      refine any_pure (i := 26) (listed' := [tt,tt,tt,tt,tt,tt,tt,tt,tt,tt,tt,tt,tt,tt,tt,tt,tt,tt,tt,tt,tt,tt,tt,tt,tt,tt,tt,ff,ff,ff,ff,ff,ff,ff,ff,ff]) rfl (by repeat (first | exact np_ret | apply np_seq | apply np_block | apply np_loopN')) (pure_move rfl) rfl (by kernel_rfl) rfl rfl ?_
      refine any_skip (i := 27) (listed' := [tt,tt,tt,tt,tt,tt,tt,tt,tt,tt,tt,tt,tt,tt,tt,tt,tt,tt,tt,tt,tt,tt,tt,tt,tt,tt,tt,tt,ff,ff,ff,ff,ff,ff,ff,ff]) rfl (by repeat (first | exact np_ret | apply np_seq | apply np_block | apply np_loopN')) rfl (by kernel_rfl) rfl rfl ?_
      refine any_skip (i := 28) (listed' := [tt,tt,tt,tt,tt,tt,tt,tt,tt,tt,tt,tt,tt,tt,tt,tt,tt,tt,tt,tt,tt,tt,tt,tt,tt,tt,tt,tt,tt,ff,ff,ff,ff,ff,ff,ff]) rfl (by repeat (first | exact np_ret | apply np_seq | apply np_block | apply np_loopN')) rfl (by kernel_rfl) rfl rfl ?_
      refine any_skip (i := 29) (listed' := [tt,tt,tt,tt,tt,tt,tt,tt,tt,tt,tt,tt,tt,tt,tt,tt,tt,tt,tt,tt,tt,tt,tt,tt,tt,tt,tt,tt,tt,tt,ff,ff,ff,ff,ff,ff]) rfl (by repeat (first | exact np_ret | apply np_seq | apply np_block | apply np_loopN')) rfl (by kernel_rfl) rfl rfl ?_
      refine any_skip (i := 30) (listed' := [tt,tt,tt,tt,tt,tt,tt,tt,tt,tt,tt,tt,tt,tt,tt,tt,tt,tt,tt,tt,tt,tt,tt,tt,tt,tt,tt,tt,tt,tt,tt,ff,ff,ff,ff,ff]) rfl (by repeat (first | exact np_ret | apply np_seq | apply np_block | apply np_loopN')) rfl (by kernel_rfl) rfl rfl ?_
      refine any_skip (i := 31) (listed' := [tt,tt,tt,tt,tt,tt,tt,tt,tt,tt,tt,tt,tt,tt,tt,tt,tt,tt,tt,tt,tt,tt,tt,tt,tt,tt,tt,tt,tt,tt,tt,tt,ff,ff,ff,ff]) rfl (by repeat (first | exact np_ret | apply np_seq | apply np_block | apply np_loopN')) rfl (by kernel_rfl) rfl rfl ?_
      refine any_skip (i := 32) (listed' := [tt,tt,tt,tt,tt,tt,tt,tt,tt,tt,tt,tt,tt,tt,tt,tt,tt,tt,tt,tt,tt,tt,tt,tt,tt,tt,tt,tt,tt,tt,tt,tt,tt,ff,ff,ff]) rfl (by repeat (first | exact np_ret | apply np_seq | apply np_block | apply np_loopN')) rfl (by kernel_rfl) rfl rfl ?_
      refine any_skip (i := 33) (listed' := [tt,tt,tt,tt,tt,tt,tt,tt,tt,tt,tt,tt,tt,tt,tt,tt,tt,tt,tt,tt,tt,tt,tt,tt,tt,tt,tt,tt,tt,tt,tt,tt,tt,tt,ff,ff]) rfl (by repeat (first | exact np_ret | apply np_seq | apply np_block | apply np_loopN')) rfl (by kernel_rfl) rfl rfl ?_
      refine any_skip (i := 34) (listed' := [tt,tt,tt,tt,tt,tt,tt,tt,tt,tt,tt,tt,tt,tt,tt,tt,tt,tt,tt,tt,tt,tt,tt,tt,tt,tt,tt,tt,tt,tt,tt,tt,tt,tt,tt,ff]) rfl (by repeat (first | exact np_ret | apply np_seq | apply np_block | apply np_loopN')) rfl (by kernel_rfl) rfl rfl ?_
      refine any_pure (i := 35) (listed' := [tt,tt,tt,tt,tt,tt,tt,tt,tt,tt,tt,tt,tt,tt,tt,tt,tt,tt,tt,tt,tt,tt,tt,tt,tt,tt,tt,tt,tt,tt,tt,tt,tt,tt,tt,tt]) rfl (by repeat (first | exact np_ret | apply np_seq | apply np_block | apply np_loopN')) (pure_pick_t rfl rfl) rfl (by kernel_rfl) rfl rfl ?_
      refine any_done (by kernel_rfl) ?_
      refine nrm_seq ?_
      refine tri_cond_t rfl ?_
      refine tri_seq ?_
      refine tri_region ?_
      refine seq_pure (pure_assign rfl) rfl rfl ?_
      refine seq_done ?_
      refine nrm_seq ?_
      refine tri_ret ?_
      refine ret_seq ?_
      refine ret_fin1 (res_tmp rfl) ?_
      (rw [sShape_no (by rw [hR]; first | omega | exact .inr (.inr (by assumption)) | exact .inr (.inr (by cases R with | false => rfl | true => exact absurd (har rfl) (by omega))))]; exact ⟨rfl, rfl, rfl⟩)
    ·refine any_pure (i := 20) (listed' := [tt,tt,tt,tt,tt,tt,tt,tt,tt,tt,tt,tt,tt,tt,tt,tt,tt,tt,tt,tt,tt,ff,ff,ff,ff,ff,ff,ff,ff,ff,ff,ff,ff,ff,ff,ff]) rfl (by repeat (first | exact np_ret | apply np_seq | apply np_block | apply np_loopN')) (pure_move rfl) rfl (by kernel_rfl) rfl rfl ?_
     refine any_skip (i := 21) (listed' := [tt,tt,tt,tt,tt,tt,tt,tt,tt,tt,tt,tt,tt,tt,tt,tt,tt,tt,tt,tt,tt,tt,ff,ff,ff,ff,ff,ff,ff,ff,ff,ff,ff,ff,ff,ff]) rfl (by repeat (first | exact np_ret | apply np_seq | apply np_block | apply np_loopN')) rfl (by kernel_rfl) rfl rfl ?_
     refine any_skip (i := 22) (listed' := [tt,tt,tt,tt,tt,tt,tt,tt,tt,tt,tt,tt,tt,tt,tt,tt,tt,tt,tt,tt,tt,tt,tt,ff,ff,ff,ff,ff,ff,ff,ff,ff,ff,ff,ff,ff]) rfl (by repeat (first | exact np_ret | apply np_seq | apply np_block | apply np_loopN')) rfl (by kernel_rfl) rfl rfl ?_
     refine any_skip (i := 23) (listed' := [tt,tt,tt,tt,tt,tt,tt,tt,tt,tt,tt,tt,tt,tt,tt,tt,tt,tt,tt,tt,tt,tt,tt,tt,ff,ff,ff,ff,ff,ff,ff,ff,ff,ff,ff,ff]) rfl (by repeat (first | exact np_ret | apply np_seq | apply np_block | apply np_loopN')) rfl (by kernel_rfl) rfl rfl ?_
     refine any_pure (i := 24) (listed' := [tt,tt,tt,tt,tt,tt,tt,tt,tt,tt,tt,tt,tt,tt,tt,tt,tt,tt,tt,tt,tt,tt,tt,tt,tt,ff,ff,ff,ff,ff,ff,ff,ff,ff,ff,ff]) rfl (by repeat (first | exact np_ret | apply np_seq | apply np_block | apply np_loopN')) (pure_pick_f rfl rfl) rfl (by kernel_rfl) rfl rfl ?_
     refine any_pure (i := 25) (listed' := [tt,tt,tt,tt,tt,tt,tt,tt,tt,tt,tt,tt,tt,tt,tt,tt,tt,tt,tt,tt,tt,tt,tt,tt,tt,tt,ff,ff,ff,ff,ff,ff,ff,ff,ff,ff]) rfl (by repeat (first | exact np_ret | apply np_seq | apply np_block | apply np_loopN')) (pure_pick_f rfl rfl) rfl (by kernel_rfl) rfl rfl ?_
     refine any_pure (i := 26) (listed' := [tt,tt,tt,tt,tt,tt,tt,tt,tt,tt,tt,tt,tt,tt,tt,tt,tt,tt,tt,tt,tt,tt,tt,tt,tt,tt,tt,ff,ff,ff,ff,ff,ff,ff,ff,ff]) rfl (by repeat (first | exact np_ret | apply np_seq | apply np_block | apply np_loopN')) (pure_move rfl) rfl (by kernel_rfl) rfl rfl ?_
     refine any_pure (i := 27) (listed' := [tt,tt,tt,tt,tt,tt,tt,tt,tt,tt,tt,tt,tt,tt,tt,tt,tt,tt,tt,tt,tt,tt,tt,tt,tt,tt,tt,tt,ff,ff,ff,ff,ff,ff,ff,ff]) rfl (by repeat (first | exact np_ret | apply np_seq | apply np_block | apply np_loopN')) (pure_fieldAddr0 rfl) rfl (by kernel_rfl) rfl rfl ?_
     refine any_load (i := 28) (listed' := [tt,tt,tt,tt,tt,tt,tt,tt,tt,tt,tt,tt,tt,tt,tt,tt,tt,tt,tt,tt,tt,tt,tt,tt,tt,tt,tt,tt,tt,ff,ff,ff,ff,ff,ff,ff]) rfl (by repeat (first | exact np_ret | apply np_seq | apply np_block | apply np_loopN')) (load_bs rfl rfl (by repeat (first | exact List.Mem.head _ | apply List.Mem.tail)) (by rfl)) rfl (by kernel_rfl) rfl rfl ?_
     refine any_pure (i := 29) (listed' := [tt,tt,tt,tt,tt,tt,tt,tt,tt,tt,tt,tt,tt,tt,tt,tt,tt,tt,tt,tt,tt,tt,tt,tt,tt,tt,tt,tt,tt,tt,ff,ff,ff,ff,ff,ff]) rfl (by repeat (first | exact np_ret | apply np_seq | apply np_block | apply np_loopN')) (pure_neq_t rfl rfl (by omega)) rfl (by kernel_rfl) rfl rfl ?_
     refine any_pure (i := 30) (listed' := [tt,tt,tt,tt,tt,tt,tt,tt,tt,tt,tt,tt,tt,tt,tt,tt,tt,tt,tt,tt,tt,tt,tt,tt,tt,tt,tt,tt,tt,tt,tt,ff,ff,ff,ff,ff]) rfl (by repeat (first | exact np_ret | apply np_seq | apply np_block | apply np_loopN')) (pure_move rfl) rfl (by kernel_rfl) rfl rfl ?_
     refine any_load (i := 31) (listed' := [tt,tt,tt,tt,tt,tt,tt,tt,tt,tt,tt,tt,tt,tt,tt,tt,tt,tt,tt,tt,tt,tt,tt,tt,tt,tt,tt,tt,tt,tt,tt,tt,ff,ff,ff,ff]) rfl (by repeat (first | exact np_ret | apply np_seq | apply np_block | apply np_loopN')) (load_ba rfl rfl (by repeat (first | exact List.Mem.head _ | apply List.Mem.tail)) (by rfl)) rfl (by kernel_rfl) rfl rfl ?_
     refine any_one (j := 32) (by kernel_rfl) ?_
     refine one_valb (listed' := [tt,tt,tt,tt,tt,tt,tt,tt,tt,tt,tt,tt,tt,tt,tt,tt,tt,tt,tt,tt,tt,tt,tt,tt,tt,tt,tt,tt,tt,tt,tt,tt,tt,ff,ff,ff]) rfl rfl (hl2 (hne (by omega) (by omega))) rfl rfl rfl (fun h293 => ?_) (fun h293 => ?_)
     ·refine any_pure (i := 33) (listed' := [tt,tt,tt,tt,tt,tt,tt,tt,tt,tt,tt,tt,tt,tt,tt,tt,tt,tt,tt,tt,tt,tt,tt,tt,tt,tt,tt,tt,tt,tt,tt,tt,tt,tt,ff,ff]) rfl (by repeat (first | exact np_ret | apply np_seq | apply np_block | apply np_loopN')) (pure_not_t rfl) rfl (by kernel_rfl) rfl rfl ?_
      refine any_pure (i := 34) (listed' := [tt,tt,tt,tt,tt,tt,tt,tt,tt,tt,tt,tt,tt,tt,tt,tt,tt,tt,tt,tt,tt,tt,tt,tt,tt,tt,tt,tt,tt,tt,tt,tt,tt,tt,tt,ff]) rfl (by repeat (first | exact np_ret | apply np_seq | apply np_block | apply np_loopN')) (pure_pick_t rfl rfl) rfl (by kernel_rfl) rfl rfl ?_
      refine any_pure (i := 35) (listed' := [tt,tt,tt,tt,tt,tt,tt,tt,tt,tt,tt,tt,tt,tt,tt,tt,tt,tt,tt,tt,tt,tt,tt,tt,tt,tt,tt,tt,tt,tt,tt,tt,tt,tt,tt,tt]) rfl (by repeat (first | exact np_ret | apply np_seq | apply np_block | apply np_loopN')) (pure_pick_f rfl rfl) rfl (by kernel_rfl) rfl rfl ?_
      refine any_done (by kernel_rfl) ?_
      refine nrm_seq ?_
      refine tri_cond_f rfl ?_
      refine tri_skip ?_
      refine nrm_seq ?_
      refine tri_seq ?_
      refine tri_seq ?_
      refine tri_region ?_
      refine seq_pure (pure_assign rfl) rfl rfl ?_
      refine seq_done ?_
      refine nrm_seq ?_
      refine tri_block ?_
      (refine tri_loopN (fun (i : Nat) => ⟨[(5, .int .i64 i), (2, .pointer (some ⟨b3, 0, none⟩)), (1, .int .i64 d)], [.blk b3 [.int .i64 k, .string nm, .int .i64 num, .int .i64 tk, .slice pt tks.length ct, .int .i64 fk, .slice pf fks.length cf, .int .i64 lb, .slice p ks.length c]], G⟩) (fun i => i ≤ ks.length ∧ ∀ j (h : j < ks.length), j < i → sShape 40 13 ks[j] (41 - d + 1) = true) (fun i => ks.length - i) 0 ?_ ?_ ?_)
      ·exact sub_mk (by repeat (first | exact SubE.nil | refine SubE.cons rfl ?_)) (by repeat (first | exact SubH.refl | exact SubH.nil | refine SubH.cons (by repeat (first | exact Pk.here | apply Pk.there)) ?_ | apply SubH.drop))
      ·exact ⟨by omega, by omega⟩
      ·(rintro i ⟨hi, hf⟩)
       refine tri_seq ?_
       refine tri_seq ?_
       refine tri_region ?_
       refine seq_pure (pure_move rfl) rfl rfl ?_
       refine seq_pure (pure_fieldAddr0 rfl) rfl rfl ?_
       refine seq_load (load_bs rfl rfl (by repeat (first | exact List.Mem.head _ | apply List.Mem.tail)) (by rfl)) rfl rfl ?_
       refine seq_pure (pure_len rfl rfl) rfl rfl ?_
       refine seq_bool (pure_lss rfl rfl) rfl rfl (fun h320 => ?_) (fun h320 => ?_)
       ·refine seq_done ?_
        refine nrm_seq ?_
        refine tri_cond_t rfl ?_
        refine tri_skip ?_
        refine nrm_seq ?_
        refine tri_seq ?_
        refine tri_block ?_
        refine tri_seq ?_
        refine tri_region ?_
        refine seq_pure (pure_fieldAddr0 rfl) rfl rfl ?_
        refine seq_load (load_bs rfl rfl (by repeat (first | exact List.Mem.head _ | apply List.Mem.tail)) (by rfl)) rfl rfl ?_
        refine seq_pure (pure_move rfl) rfl rfl ?_
        (obtain ⟨b, o, e, rfl, hl, hat, hre, hgb⟩ := hsl.kidTm hkl (i := i) (by omega) (by omega); refine seq_pure (pure_indexAddrN rfl rfl rfl (by omega)) rfl rfl ?_)
        refine seq_load (load_a rfl rfl (hat _) hl) rfl rfl ?_
        refine seq_pure (pure_move rfl) rfl rfl ?_
        refine seq_pure (pure_sub rfl rfl (by omega) (by omega)) rfl rfl ?_
        (have hih := ih ks[i] (List.getElem_mem (by omega)) (d - 1) G _ (by omega) hre; rw [show 41 - (d - 1) = 41 - d + 1 by omega] at hih; refine seq_valb rfl hih rfl rfl (fun h337 => ?_) (fun h337 => ?_))
        ·refine seq_pure (pure_not_t rfl) rfl rfl ?_
         refine seq_done ?_
         refine nrm_seq ?_
         refine tri_cond_f rfl ?_
         refine tri_skip ?_
         refine nrm_block ?_
         refine nrm_seq ?_
         refine tri_region ?_
         refine seq_pure (pure_move rfl) rfl rfl ?_
         refine seq_pure (pure_add rfl rfl (by omega) (by omega)) rfl rfl ?_
         refine seq_pure (pure_assign rfl) rfl rfl ?_
         refine seq_done ?_
         refine nrm_loopN (i + 1) ?_ ?_ ?_
         ·exact sub_mk (by repeat (first | exact SubE.nil | refine SubE.cons rfl ?_)) (by repeat (first | exact SubH.refl | exact SubH.nil | refine SubH.cons (by repeat (first | exact Pk.here | apply Pk.there)) ?_ | apply SubH.drop))
         ·exact ⟨by omega, fun j hj hji => by (by_cases he : j = i; (subst he; assumption); exact hf j hj (by omega))⟩
         ·omega
        ·refine seq_pure (pure_not_f rfl) rfl rfl ?_
         refine seq_done ?_
         refine nrm_seq ?_
         refine tri_cond_t rfl ?_
         refine tri_seq ?_
         refine tri_region ?_
         refine seq_pure (pure_assign rfl) rfl rfl ?_
         refine seq_done ?_
         refine nrm_seq ?_
         refine tri_ret ?_
         refine ret_block ?_
         refine ret_seq ?_
         refine ret_loopN ?_
         refine ret_block ?_
         refine ret_seq ?_
         refine ret_fin1 (res_tmp rfl) ?_
         (rw [sShape_go (by omega) (by omega) (hR.trans (by assumption)), sShapeL_f (i := i) (by omega) (by assumption)]; exact ⟨rfl, rfl, rfl⟩)
       ·refine seq_done ?_
        refine nrm_seq ?_
        refine tri_cond_f rfl ?_
        refine tri_exit ?_
        refine ext_seq ?_
        refine ext_loopN ?_
        refine ext_block_eq ?_
        refine nrm_seq ?_
        refine tri_seq ?_
        refine tri_region ?_
        refine seq_pure (pure_assign rfl) rfl rfl ?_
        refine seq_done ?_
        refine nrm_seq ?_
        refine tri_ret ?_
        refine ret_fin1 (res_tmp rfl) ?_
        (rw [sShape_go (by omega) (by omega) (hR.trans (by assumption)), (sShapeL_iff 40 13 ks _).2 (fun j hj => hf j hj (by omega))]; exact ⟨rfl, rfl, rfl⟩)
     ·refine any_pure (i := 33) (listed' := [tt,tt,tt,tt,tt,tt,tt,tt,tt,tt,tt,tt,tt,tt,tt,tt,tt,tt,tt,tt,tt,tt,tt,tt,tt,tt,tt,tt,tt,tt,tt,tt,tt,tt,ff,ff]) rfl (by repeat (first | exact np_ret | apply np_seq | apply np_block | apply np_loopN')) (pure_not_f rfl) rfl (by kernel_rfl) rfl rfl ?_
      refine any_pure (i := 34) (listed' := [tt,tt,tt,tt,tt,tt,tt,tt,tt,tt,tt,tt,tt,tt,tt,tt,tt,tt,tt,tt,tt,tt,tt,tt,tt,tt,tt,tt,tt,tt,tt,tt,tt,tt,tt,ff]) rfl (by repeat (first | exact np_ret | apply np_seq | apply np_block | apply np_loopN')) (pure_pick_t rfl rfl) rfl (by kernel_rfl) rfl rfl ?_
      refine any_pure (i := 35) (listed' := [tt,tt,tt,tt,tt,tt,tt,tt,tt,tt,tt,tt,tt,tt,tt,tt,tt,tt,tt,tt,tt,tt,tt,tt,tt,tt,tt,tt,tt,tt,tt,tt,tt,tt,tt,tt]) rfl (by repeat (first | exact np_ret | apply np_seq | apply np_block | apply np_loopN')) (pure_pick_f rfl rfl) rfl (by kernel_rfl) rfl rfl ?_
      refine any_done (by kernel_rfl) ?_
      refine nrm_seq ?_
      refine tri_cond_t rfl ?_
      refine tri_seq ?_
      refine tri_region ?_
      refine seq_pure (pure_assign rfl) rfl rfl ?_
      refine seq_done ?_
      refine nrm_seq ?_
      refine tri_ret ?_
      refine ret_seq ?_
      refine ret_fin1 (res_tmp rfl) ?_
      (rw [sShape_no (by rw [hR]; first | omega | exact .inr (.inr (by assumption)) | exact .inr (.inr (by cases R with | false => rfl | true => exact absurd (har rfl) (by omega))))]; exact ⟨rfl, rfl, rfl⟩)
end Gw
end Go.Proofs.Yteneckdjdfnjoaa
namespace Go.Proofs.Yteneckdjdfnjoaa
open Go Go.RowKit
namespace Gw
theorem sShape_inv {D N : Int} {k : Int} {nm : ByteArray} {num : Int} {ty fr : Ty} {lb : Int} {ks : List Tm} {d : Int} (h : sShape D N (.mk k nm num ty fr lb ks) d = true) : d ≤ D ∧ ∀ i, (hi : i < ks.length) → sShape D N ks[i] (d + 1) = true := by
 rw [sShape] at h
 simp only [Bool.and_eq_true, decide_eq_true_eq] at h
 exact ⟨h.1.1.1, (sShapeL_iff D N ks _).1 h.2⟩
mutual
theorem mScan_shape (M D N : Int) : ∀ (t : Tm) (deep c : Int), c ≤ M → ((mScan M D N t deep c).1 = true ↔ sShape D N t deep = true ∧ c + tmCount t ≤ M)
 | .mk k nm num ty fr lb ks, deep, c, hc => by
  rw [mScan, tmCount]
  by_cases h : c + 1 > M ∨ deep > D ∨ k = N ∨ tmNode k nm num ty fr lb ks.length = false
  ·rw [if_pos h]
   constructor
   ·intro h; cases h
   ·rintro ⟨h1, h2⟩
    rcases h with h | h
    ·omega
    ·rw [sShape_no h] at h1; cases h1
  ·rw [if_neg h]
   have hn : tmNode k nm num ty fr lb ks.length = true := by
    cases hx : tmNode k nm num ty fr lb ks.length with
    | true => rfl
    | false => exact absurd (Or.inr (Or.inr (Or.inr hx))) h
   rw [sShape_go (by omega) (by omega) hn, mScanL_shape M D N ks (deep + 1) (c + 1) (by omega)]
   constructor
   ·rintro ⟨a, b⟩; exact ⟨a, by omega⟩
   ·rintro ⟨a, b⟩; exact ⟨a, by omega⟩
theorem mScanL_shape (M D N : Int) : ∀ (ts : List Tm) (deep c : Int), c ≤ M → ((mScanL M D N ts deep c).1 = true ↔ sShapeL D N ts deep = true ∧ c + tmCountL ts ≤ M)
 | [], deep, c, hc => by simp [mScanL, sShapeL, tmCountL]; omega
 | t :: ts, deep, c, hc => by
  have h0 := mScan_shape M D N t deep c hc
  rw [mScanL, sShapeL, tmCountL, Bool.and_eq_true]
  by_cases h : (mScan M D N t deep c).1 = true
  ·rw [if_pos h, mScan_count M D N t deep c h, mScanL_shape M D N ts deep _ (h0.1 h).2]
   have := h0.1 h
   constructor
   ·rintro ⟨a, b⟩; exact ⟨⟨this.1, a⟩, by omega⟩
   ·rintro ⟨⟨_, a⟩, b⟩; exact ⟨a, by omega⟩
  ·rw [if_neg h]
   constructor
   ·intro h'; cases h'
   ·rintro ⟨⟨a, _⟩, b⟩
    exact absurd (h0.2 ⟨a, by omega⟩) h
end
theorem castValid_iff (t : Tm) : castValid t = true ↔ sShape 40 13 t 1 = true ∧ tmCount t ≤ 200 := by
 have := mScan_shape 200 40 13 t 1 0 (by omega)
 rw [castValid, this]
 constructor
 ·rintro ⟨a, b⟩; exact ⟨a, by omega⟩
 ·rintro ⟨a, b⟩; exact ⟨a, by omega⟩
set_option maxRecDepth 100000 in
theorem l2Count_fn (D N : Int) : ∀ (t : Tm) (d : Int) (G : IM) (cells : List Value), d ≤ 40 → sShape D N t (D + 1 - d) = true → tmCount t ≤ 4294967296 → RTm G t cells →
  Fn Try.prog 44 [.agg ⟨cells⟩, .int .i64 d] [] G (Val (.int .i64 (tmCount t : Int)) G) := by
 refine Tm.ind fun k nm num ty fr lb ks ih d G cells hd hv hcnt hr => ?_
 have hone := hr.one
 obtain ⟨hv1, hv2⟩ := sShape_inv hv
 obtain ⟨tk, tks⟩ := ty
 obtain ⟨fk, fks⟩ := fr
 obtain ⟨pt, ct, pf, cf, p, c, es, rfl, hk, hnum, hlb, hty, hfr, hsl, hkl⟩ := hr.open9
 have hn := hsl.le
 clear hr
 rw [tmCount] at hcnt ⊢
 refine fn_enter Try.func44 rfl Try.ntmps44 Try.results44 rfl ?_
 intro w0
 refine tri_seq ?_
 refine tri_region ?_
 (refine seq_step (step_box_a rfl rfl) rfl ?_; rintro _ ⟨b3, rfl⟩)
 refine seq_pure (pure_assign rfl) rfl rfl ?_
 refine seq_done ?_
 refine nrm_seq ?_
 refine tri_seq ?_
 refine tri_region ?_
 refine seq_pure (pure_assign rfl) rfl rfl ?_
 refine seq_done ?_
 refine nrm_seq ?_
 refine tri_seq ?_
 refine tri_seq ?_
 refine tri_region ?_
 refine seq_pure (pure_assign rfl) rfl rfl ?_
 refine seq_done ?_
 refine nrm_seq ?_
 refine tri_block ?_
 (refine tri_loopN (fun (i : Nat) => ⟨[(6, .int .i64 i), (5, .int .i64 ((tmCountL (ks.take i) + 1 : Nat) : Int)), (2, .pointer (some ⟨b3, 0, none⟩)), (1, .int .i64 d)], [.blk b3 [.int .i64 k, .string nm, .int .i64 num, .int .i64 tk, .slice pt tks.length ct, .int .i64 fk, .slice pf fks.length cf, .int .i64 lb, .slice p ks.length c]], G⟩) (fun i => i ≤ ks.length) (fun i => ks.length - i) 0 ?_ ?_ ?_)
 ·exact sub_mk (by repeat (first | exact SubE.nil | refine SubE.cons rfl ?_)) (by repeat (first | exact SubH.refl | exact SubH.nil | refine SubH.cons (by repeat (first | exact Pk.here | apply Pk.there)) ?_ | apply SubH.drop))
 ·exact Nat.zero_le _
 ·(rintro i hi)
  refine tri_seq ?_
  refine tri_seq ?_
  refine tri_region ?_
  refine seq_pure (pure_move rfl) rfl rfl ?_
  refine seq_pure (pure_fieldAddr0 rfl) rfl rfl ?_
  refine seq_load (load_bs rfl rfl (by repeat (first | exact List.Mem.head _ | apply List.Mem.tail)) (by rfl)) rfl rfl ?_
  refine seq_pure (pure_len rfl rfl) rfl rfl ?_
  refine seq_bool (pure_lss rfl rfl) rfl rfl (fun h30 => ?_) (fun h30 => ?_)
  ·refine seq_pure (pure_move rfl) rfl rfl ?_
   refine seq_pure (pure_move rfl) rfl rfl ?_
   refine seq_pure (pure_gtr_t rfl rfl (by omega)) rfl rfl ?_
   refine seq_pure (pure_pick_t rfl rfl) rfl rfl ?_
   refine seq_done ?_
   refine nrm_seq ?_
   refine tri_cond_t rfl ?_
   refine tri_skip ?_
   refine nrm_seq ?_
   refine tri_seq ?_
   refine tri_block ?_
   refine tri_region ?_
   refine seq_pure (pure_move rfl) rfl rfl ?_
   refine seq_pure (pure_fieldAddr0 rfl) rfl rfl ?_
   refine seq_load (load_bs rfl rfl (by repeat (first | exact List.Mem.head _ | apply List.Mem.tail)) (by rfl)) rfl rfl ?_
   refine seq_pure (pure_move rfl) rfl rfl ?_
   (obtain ⟨b, o, e, rfl, hl, hat, hre, hgb⟩ := hsl.kidTm hkl (i := i) (by omega) (by omega); have htk := tmCountL_take (ks := ks) (i := i) (by omega); refine seq_pure (pure_indexAddrN rfl rfl rfl (by omega)) rfl rfl ?_)
   refine seq_load (load_a rfl rfl (hat _) hl) rfl rfl ?_
   refine seq_pure (pure_move rfl) rfl rfl ?_
   refine seq_pure (pure_sub rfl rfl (by omega) (by omega)) rfl rfl ?_
   (have hvk := hv2 i (by omega); rw [show D + 1 - d + 1 = D + 1 - (d - 1) by omega] at hvk; refine seq_val rfl (ih ks[i] (List.getElem_mem (by omega)) (d - 1) G _ (by omega) hvk (by omega) hre) rfl rfl ?_)
   refine seq_pure (pure_add rfl rfl (by omega) (by omega)) rfl rfl ?_
   refine seq_pure (pure_assign rfl) rfl rfl ?_
   refine seq_done ?_
   refine nrm_block ?_
   refine nrm_seq ?_
   refine tri_region ?_
   refine seq_pure (pure_move rfl) rfl rfl ?_
   refine seq_pure (pure_add rfl rfl (by omega) (by omega)) rfl rfl ?_
   refine seq_pure (pure_assign rfl) rfl rfl ?_
   refine seq_done ?_
   (refine nrm_loopN (i + 1) ?_ ?_ ?_; rw [show ((tmCountL (ks.take (i + 1)) + 1 : Nat) : Int) = ((tmCountL (ks.take i) + 1 : Nat) : Int) + (tmCount ks[i] : Int) from by rw [tmCountL_succ (by omega)]; omega])
   ·exact sub_mk (by repeat (first | exact SubE.nil | refine SubE.cons rfl ?_)) (by repeat (first | exact SubH.refl | exact SubH.nil | refine SubH.cons (by repeat (first | exact Pk.here | apply Pk.there)) ?_ | apply SubH.drop))
   ·omega
   ·omega
  ·refine seq_pure (pure_move rfl) rfl rfl ?_
   refine seq_skip rfl rfl ?_
   refine seq_skip rfl rfl ?_
   refine seq_pure (pure_pick_f rfl rfl) rfl rfl ?_
   refine seq_done ?_
   refine nrm_seq ?_
   refine tri_cond_f rfl ?_
   refine tri_exit ?_
   refine ext_seq ?_
   refine ext_loopN ?_
   refine ext_block_eq ?_
   refine nrm_seq ?_
   refine tri_seq ?_
   refine tri_region ?_
   refine seq_pure (pure_move rfl) rfl rfl ?_
   refine seq_pure (pure_assign rfl) rfl rfl ?_
   refine seq_done ?_
   refine nrm_seq ?_
   refine tri_ret ?_
   refine ret_fin1 (res_tmp rfl) ?_
   (obtain rfl : i = ks.length := (by omega); rw [List.take_length]; exact ⟨rfl, rfl, rfl⟩)
set_option maxRecDepth 100000 in
theorem sCastValid_fn (t : Tm) (G : IM) (cells : List Value) (hcnt : tmCount t ≤ 4294967296) (hr : RTm G t cells) :
  Fn Try.prog 24 [.agg ⟨cells⟩] [] G (Val (.bool (castValid t)) G) := by
 have hl := hr.len
 have hv := l4Shape_fn t 40 G cells (by omega) hr
 have hc := fun h => l2Count_fn 40 13 t 40 G cells (by omega) h hcnt hr
 have hi := castValid_iff t
 obtain ⟨R, hR⟩ : ∃ R, castValid t = R := ⟨_, rfl⟩
 rw [hR] at hi ⊢
 refine fn_enter Try.func24 rfl Try.ntmps24 Try.results24 rfl ?_
 intro w0
 refine tri_seq ?_
 refine tri_region ?_
 (refine seq_step (step_box_a rfl rfl) rfl ?_; rintro _ ⟨b3, rfl⟩)
 refine seq_pure (pure_assign rfl) rfl rfl ?_
 refine seq_done ?_
 refine nrm_seq ?_
 refine tri_seq ?_
 refine tri_region ?_
 refine seq_load (load_a rfl rfl (at_blk_all (by repeat (first | exact List.Mem.head _ | apply List.Mem.tail))) (by assumption)) rfl rfl ?_
 refine seq_valb rfl (hv) rfl rfl (fun h10 => ?_) (fun h10 => ?_)
 ·refine seq_pure (pure_move rfl) rfl rfl ?_
  refine seq_load (load_a rfl rfl (at_blk_all (by repeat (first | exact List.Mem.head _ | apply List.Mem.tail))) (by assumption)) rfl rfl ?_
  refine seq_val rfl (hc (by assumption)) rfl rfl ?_
  refine seq_bool (pure_leq rfl rfl) rfl rfl (fun h14 => ?_) (fun h14 => ?_)
  ·refine seq_pure (pure_pick_t rfl rfl) rfl rfl ?_
   refine seq_pure (pure_assign rfl) rfl rfl ?_
   refine seq_done ?_
   refine nrm_seq ?_
   refine tri_ret ?_
   refine ret_fin1 (res_tmp rfl) ?_
   exact ⟨rfl, by rw [hi.2 ⟨by assumption, by omega⟩], rfl⟩
  ·refine seq_pure (pure_pick_t rfl rfl) rfl rfl ?_
   refine seq_pure (pure_assign rfl) rfl rfl ?_
   refine seq_done ?_
   refine nrm_seq ?_
   refine tri_ret ?_
   refine ret_fin1 (res_tmp rfl) ?_
   exact ⟨rfl, by (cases R with | false => rfl | true => (exfalso; have h0 := hi.1 rfl; first | omega | simp_all)), rfl⟩
 ·refine seq_pure (pure_move rfl) rfl rfl ?_
  refine seq_skip rfl rfl ?_
  refine seq_skip rfl rfl ?_
  refine seq_skip rfl rfl ?_
  refine seq_pure (pure_pick_f rfl rfl) rfl rfl ?_
  refine seq_pure (pure_assign rfl) rfl rfl ?_
  refine seq_done ?_
  refine nrm_seq ?_
  refine tri_ret ?_
  refine ret_fin1 (res_tmp rfl) ?_
  exact ⟨rfl, by (cases R with | false => rfl | true => (exfalso; have h0 := hi.1 rfl; first | omega | simp_all)), rfl⟩
end Gw
end Go.Proofs.Yteneckdjdfnjoaa
namespace Go.Proofs.Yteneckdjdfnjoaa
open Go Go.RowKit
namespace Gw
theorem Sw.same {hp hp' : List Ent} {e : Ent} (h : Sw hp e e hp') : hp' = hp := by
 generalize he : e = e' at h
 have : ∀ {hp e e' hp'}, Sw hp e e' hp' → e = e' → hp' = hp := by
  intro hp e e' hp' h
  induction h with
  | here => rintro rfl; rfl
  | there _ ih => intro he; rw [ih he]
 subst he
 exact this h rfl
section
variable {P : Program} {Γ : Ctx} {env : Env} {hp : List Ent} {G : IM} {ty : TypeId}
theorem step_appendSl {d : Nat} {x y : Operand} {t el : TypeId} {i : TyR} {sz by' : Nat} {zs : List Value} [hI : TyI P t i] {ie : TyR} [hEl : TyI P el ie] (hd' : i.desc = .slice el) [hE : TySz P el sz by' zs] {p q : Option Addr} {c n m c2 : Nat} {cs news : List Value} {hp' : Option Addr → Nat → List Ent}
  (hd : Nat.blt d Γ.n = true) (hx : evo env x = some (.slice p n c)) (hy : evo env y = some (.slice q m c2)) (hsz : Nat.blt 0 sz = true)
  (hm : ∀ p' c', Sw hp (.slc p c el sz n cs) (.slc p' c' el sz (n + m) (cs ++ news)) (hp' p' c'))
  (hS : Sl G q m c2 sz news) (h1 : ∀ u ∈ news, u.oneCell' = true) (hc : n ≤ c)
  (h63 : n + m ≤ maxLen) (hb : (n + m) * by' ≤ 140737488355328) :
  StepOp P Γ ⟨env, hp, G⟩ (some d) (.call ⟨.builtin .append, ⟨[x, y]⟩, ⟨[t, t]⟩⟩) ty (vfp p) (fun σ' => ∃ p' c', σ' = ⟨(d, .slice p' (n + m) c') :: env, hp' p' c', G⟩) := by
 obtain ⟨hl, _, _, hat⟩ := hS
 rcases Nat.eq_zero_or_pos m with rfl | hm0
 ·obtain rfl : news = [] := List.length_eq_zero_iff.1 (by omega)
  have hpu := pure_append0 (P := P) (Γ := Γ) (hp := hp) (G := G) (ty := ty) (t := t) (el := el) hd' hx hy hc
  refine ⟨fun a w hs pos af gd Q next hn => ?_⟩
  simp only [Oper.wp, hpu.run a w hs, Oper.upon]
  refine hn _ _ _ (hs.put d _ (by simpa using hd) hs.res) (Ext.refl _ _) ⟨p, c, ?_⟩
  have h0 := hm p c
  simp only [Nat.add_zero, List.append_nil] at h0 ⊢
  rw [h0.same]
 ·obtain ⟨b, o, full, rfl, hg, hv⟩ := hat.resolve_left (by omega)
  exact step_append hd' hd hx hy hsz hm (at_im hg hv) hl h1 h63 hb
variable {K : Po} {ops : Array Oper} {rest : List Oper} {pos : String} {af : Array Edge} {gd : Option (Nat × Bool)}
theorem seq_appendSl {d : Nat} {x y : Operand} {t el : TypeId} {i : TyR} {sz by' : Nat} {zs : List Value} [hI : TyI P t i] {ie : TyR} [hEl : TyI P el ie] [hE : TySz P el sz by' zs] {p q : Option Addr} {c n m c2 : Nat} {cs news : List Value} {hp' : Option Addr → Nat → List Ent}
  (hd' : i.desc = .slice el) (hd : Nat.blt d Γ.n = true) (hx : evo env x = some (.slice p n c)) (hy : evo env y = some (.slice q m c2)) (hsz : Nat.blt 0 sz = true)
  (hm : ∀ p' c', Sw hp (.slc p c el sz n cs) (.slc p' c' el sz (n + m) (cs ++ news)) (hp' p' c'))
  (hS : Sl G q m c2 sz news) (h1 : ∀ u ∈ news, u.oneCell' = true) (hc : n ≤ c)
  (h63 : n + m ≤ maxLen) (hb : (n + m) * by' ≤ 140737488355328) (hw : wantG ops env gd = some true)
  (k : ∀ p' c', TriL P Γ ops rest K ⟨(d, .slice p' (n + m) c') :: env, hp' p' c', G⟩) : TriL P Γ ops (⟨some d, .call ⟨.builtin .append, ⟨[x, y]⟩, ⟨[t, t]⟩⟩, ty, pos, af, gd⟩ :: rest) K ⟨env, hp, G⟩ :=
 seq_step (step_appendSl hd' hd hx hy hsz hm hS h1 hc h63 hb) hw (by rintro _ ⟨p', c', rfl⟩; exact k p' c')
theorem one_appendSl {H : List (Nat × Nat)} {fuel : Nat} {listed listed' : List Bool} {j d : Nat} {cs : List Value} {x y : Operand} {t el : TypeId} {i : TyR} {sz by' : Nat} {zs : List Value} [hI : TyI P t i] {ie : TyR} [hEl : TyI P el ie] [hE : TySz P el sz by' zs] {p q : Option Addr} {c n m c2 : Nat} {news : List Value} {hp' : Option Addr → Nat → List Ent} {H' : List (Nat × Nat)}
  (hi : ops[j]? = some ⟨some d, .call ⟨.builtin .append, ⟨[x, y]⟩, ⟨[t, t]⟩⟩, ty, pos, af, gd⟩) (hd' : i.desc = .slice el)
  (hd : Nat.blt d Γ.n = true) (hx : evo env x = some (.slice p n c)) (hy : evo env y = some (.slice q m c2)) (hsz : Nat.blt 0 sz = true)
  (hm : ∀ p' c', Sw hp (.slc p c el sz n cs) (.slc p' c' el sz (n + m) (cs ++ news)) (hp' p' c'))
  (hS : Sl G q m c2 sz news) (h1 : ∀ u ∈ news, u.oneCell' = true) (hc : n ≤ c)
  (h63 : n + m ≤ maxLen) (hb : (n + m) * by' ≤ 140737488355328) (hw : wantG ops env gd = some true) (hl : listed.set j true = listed')
  (hok : HmOk ops j hp G (.slc p c el sz n cs) H H')
  (k : ∀ p' c', AnyL P Γ ops K H' fuel listed' ⟨(d, .slice p' (n + m) c') :: env, hp' p' c', G⟩) : One P Γ ops K H fuel listed j ⟨env, hp, G⟩ :=
 one_stepM hi (step_appendSl hd' hd hx hy hsz hm hS h1 hc h63 hb) hw hl (fun _ _ hs => hok.spec hs) hok.filter (by rintro _ ⟨p', c', rfl⟩; exact k p' c')
/-- The callee is handed an own entry; what it hands back comes in its place. -/
theorem one_take {H H' : List (Nat × Nat)} {fuel : Nat} {listed listed' : List Bool} {j d : Nat} {f : FuncId} [hF : FunI P f] {xs : List Operand} {ats : Array TypeId} {vs : List Value} {e : Ent} {rst : List Ent} {post : IM → Value → List Ent → Prop}
  (hi : ops[j]? = some ⟨some d, .call ⟨.value (.func f), ⟨xs⟩, ats⟩, ty, pos, af, gd⟩) (hx : evl env xs = some vs) (h : Fn P f vs [e] G post) (hp' : hp.Perm ([e] ++ rst)) (hw : wantG ops env gd = some true) (hd : Nat.blt d Γ.n = true) (hl : listed.set j true = listed')
  (hok : HmOk ops j hp G e H H')
  (k : ∀ v G' outs, IMle G G' → post G' v outs → AnyL P Γ ops K H' fuel listed' ⟨(d, v) :: env, outs ++ rst, G'⟩) : One P Γ ops K H fuel listed j ⟨env, hp, G⟩ :=
 one_stepM hi (step_call_own hx h hp' hd) hw hl (fun _ _ hs => by simpa [Fp] using hok.spec hs) hok.filter (by rintro _ ⟨v, G', outs, rfl, hle, hq⟩; exact k v G' outs hle hq)
end
end Gw
end Go.Proofs.Yteneckdjdfnjoaa
namespace Go.Proofs.Yteneckdjdfnjoaa
open Go Go.RowKit
namespace Gw
set_option maxHeartbeats 0 in
set_option maxRecDepth 100000 in
theorem l16Paths_fn : ∀ (t : Tm) (path : List Int) (G : IM) (cells : List Value) (pp : Option Addr) (pc : Nat) (pn : Option Addr) (m cn : Nat) (es0 : List Value), RTm G t cells → Sl G pp path.length pc 1 (ints path) → path.length + 2 * tmCount t + m ≤ 4294967296 →
  Fn Try.prog 25 [.slice pn m cn, .agg ⟨cells⟩, .slice pp path.length pc] [.slc pn cn 35 1 m es0] G
   (fun G' v outs => ∃ p' c' es F, v = .slice p' (m + tmCount t) c' ∧ outs = [.slc p' c' 35 1 (m + tmCount t) (es0 ++ es)] ∧ SPs (Dif G' G) (mPaths t path) es F ∧ F.Nodup) := by
 refine Tm.ind fun k nm num ty fr lb ks ih path G cells pp pc pn m cn es0 hr hpath hcnt => ?_
 have hone := hr.one
 obtain ⟨tk, tks⟩ := ty
 obtain ⟨fk, fks⟩ := fr
 obtain ⟨pt, ct, pf, cf, p, cp, es, rfl, hk, hnum, hlb, hty, hfr, hsl, hkl⟩ := hr.open9
 rw [tmCount] at hcnt
 have hn := len_le_count ks
 refine fn_enter Try.func25 rfl Try.ntmps25 Try.results25 rfl ?_
 intro w0
 refine tri_seq ?_
 refine tri_region ?_
 (refine seq_step (step_box_a rfl rfl) rfl ?_; rintro _ ⟨b3, rfl⟩)
 refine seq_pure (pure_assign rfl) rfl rfl ?_
 refine seq_done ?_
 refine nrm_seq ?_
 refine tri_seq ?_
 refine tri_region ?_
 refine seq_pure (pure_move rfl) rfl rfl ?_
 (refine seq_step (step_buildSlice rfl rfl rfl (by omega) (by unfold maxLen; omega) rfl) rfl ?_; rintro _ ⟨b10, rfl⟩)
 refine seq_pure (pure_move rfl) rfl rfl ?_
 (refine seq_appendSl rfl rfl rfl rfl rfl (fun _ _ => by repeat (first | exact Sw.here | apply Sw.there)) hpath (ints_one _) (Nat.zero_le _) (by unfold maxLen; omega) (by omega) rfl (fun p2 c2 => ?_); simp only [Nat.zero_add, List.nil_append]; refine triL_freeze (cs := ints path) (by repeat (first | exact Pk.here | apply Pk.there)) (fun G2 hle2 hsl2 hno2 => ?_); obtain ⟨hf1, hf2⟩ := SPs.first hsl2 hno2 hsl2.nn hle2)
 (refine seq_step (step_buildSlice rfl rfl rfl (by omega) (by unfold maxLen; omega) rfl) rfl ?_; rintro _ ⟨b13, rfl⟩)
 (refine seq_append rfl rfl rfl rfl rfl (fun _ _ => by repeat (first | exact Sw.here | apply Sw.there)) (at_slc_all (by repeat (first | exact List.Mem.head _ | apply List.Mem.tail))) rfl (by simp [Value.oneCell']) (by unfold maxLen; omega) (by omega) rfl (fun p3 c3 => ?_))
 refine seq_pure (pure_assign rfl) rfl rfl ?_
 refine seq_done ?_
 refine nrm_seq ?_
 refine tri_seq ?_
 refine tri_seq ?_
 refine tri_region ?_
 refine seq_pure (pure_assign rfl) rfl rfl ?_
 refine seq_done ?_
 refine nrm_seq ?_
 refine tri_block ?_
 (refine tri_loopN (fun (x : Nat × Option Addr × Nat × Nat × List Value × List Nat × IM) => ⟨[(7, .int .i64 x.1), (0, .slice x.2.1 (m + x.2.2.1) x.2.2.2.1), (4, .pointer (some ⟨b3, 0, none⟩)), (2, .slice pp path.length pc)], [.slc x.2.1 x.2.2.2.1 35 1 (m + x.2.2.1) (es0 ++ x.2.2.2.2.1), .blk b3 [.int .i64 k, .string nm, .int .i64 num, .int .i64 tk, .slice pt tks.length ct, .int .i64 fk, .slice pf fks.length cf, .int .i64 lb, .slice p ks.length cp]], x.2.2.2.2.2.2⟩) (fun x => x.1 ≤ ks.length ∧ x.2.2.1 = tmCountL (ks.take x.1) + 1 ∧ IMle G x.2.2.2.2.2.2 ∧ SPs (Dif x.2.2.2.2.2.2 G) (path :: mPathsL (ks.take x.1) 0 path) x.2.2.2.2.1 x.2.2.2.2.2.1 ∧ x.2.2.2.2.2.1.Nodup) (fun x => ks.length - x.1) (0, p3, 1, c3, [.slice p2 path.length c2], vfp p2, G2) ?_ ?_ ?_)
 ·(simp only [flat_snoc]; exact sub_mk (by repeat (first | exact SubE.nil | refine SubE.cons rfl ?_)) (by repeat (first | exact SubH.refl | exact SubH.nil | refine SubH.cons (by repeat (first | exact Pk.here | apply Pk.there)) ?_ | apply SubH.drop)))
 ·exact ⟨Nat.zero_le _, rfl, hle2, hf1, hf2⟩
 ·(rintro ⟨i, pn', m', cn', es', F, Gi⟩ ⟨hi, hm, hleI, hst, hnd⟩; simp only [] at hi hm hleI hst hnd ⊢; replace hsl := hsl.mono hleI; replace hkl := hkl.mono hleI; replace hpath := hpath.mono hleI)
  refine tri_seq ?_
  refine tri_seq ?_
  refine tri_region ?_
  refine seq_pure (pure_move rfl) rfl rfl ?_
  refine seq_pure (pure_fieldAddr0 rfl) rfl rfl ?_
  refine seq_load (load_bs rfl rfl (by repeat (first | exact List.Mem.head _ | apply List.Mem.tail)) (by rfl)) rfl rfl ?_
  refine seq_pure (pure_len rfl rfl) rfl rfl ?_
  refine seq_bool (pure_lss rfl rfl) rfl rfl (fun h36 => ?_) (fun h36 => ?_)
  ·refine seq_done ?_
   refine nrm_seq ?_
   refine tri_cond_t rfl ?_
   refine tri_skip ?_
   refine nrm_seq ?_
   refine tri_seq ?_
   refine tri_block ?_
   (obtain ⟨b, o, e, rfl, hl, hat, hre, hgb⟩ := hsl.kidTm hkl (i := i) (by omega) (by omega); have hone := hre.one; have htk := tmCountL_take (ks := ks) (i := i) (by omega); refine tri_draw mixed rfl ?_)
   refine any_pure (i := 0) (listed' := [tt,ff,ff,ff,ff,ff,ff,ff,ff,ff,ff,ff,ff,ff]) rfl (by repeat (first | exact np_ret | apply np_seq | apply np_block | apply np_loopN')) (pure_move rfl) rfl (by kernel_rfl) rfl rfl ?_
   refine any_pure (i := 1) (listed' := [tt,tt,ff,ff,ff,ff,ff,ff,ff,ff,ff,ff,ff,ff]) rfl (by repeat (first | exact np_ret | apply np_seq | apply np_block | apply np_loopN')) (pure_fieldAddr0 rfl) rfl (by kernel_rfl) rfl rfl ?_
   refine any_load (i := 2) (listed' := [tt,tt,tt,ff,ff,ff,ff,ff,ff,ff,ff,ff,ff,ff]) rfl (by repeat (first | exact np_ret | apply np_seq | apply np_block | apply np_loopN')) (load_bs rfl rfl (by repeat (first | exact List.Mem.head _ | apply List.Mem.tail)) (by rfl)) rfl (by kernel_rfl) rfl rfl ?_
   refine any_pure (i := 3) (listed' := [tt,tt,tt,tt,ff,ff,ff,ff,ff,ff,ff,ff,ff,ff]) rfl (by repeat (first | exact np_ret | apply np_seq | apply np_block | apply np_loopN')) (pure_move rfl) rfl (by kernel_rfl) rfl rfl ?_
   refine any_pure (i := 4) (listed' := [tt,tt,tt,tt,tt,ff,ff,ff,ff,ff,ff,ff,ff,ff]) rfl (by repeat (first | exact np_ret | apply np_seq | apply np_block | apply np_loopN')) (pure_indexAddrN rfl rfl rfl (by omega)) rfl (by kernel_rfl) rfl rfl ?_
   refine any_load (i := 5) (listed' := [tt,tt,tt,tt,tt,tt,ff,ff,ff,ff,ff,ff,ff,ff]) rfl (by repeat (first | exact np_ret | apply np_seq | apply np_block | apply np_loopN')) (load_a rfl rfl (hat _) hl) rfl (by kernel_rfl) rfl rfl ?_
   refine any_pure (i := 7) (listed' := [tt,tt,tt,tt,tt,tt,ff,tt,ff,ff,ff,ff,ff,ff]) rfl (by repeat (first | exact np_ret | apply np_seq | apply np_block | apply np_loopN')) (pure_move rfl) rfl (by kernel_rfl) rfl rfl ?_
   refine any_pure (i := 9) (listed' := [tt,tt,tt,tt,tt,tt,ff,tt,ff,tt,ff,ff,ff,ff]) rfl (by repeat (first | exact np_ret | apply np_seq | apply np_block | apply np_loopN')) (pure_move rfl) rfl (by kernel_rfl) rfl rfl ?_
   refine any_two (j := 6) (j' := 10) (by kernel_rfl) ?_ ?_
   ·(refine one_step0 (listed' := [tt,tt,tt,tt,tt,tt,tt,tt,ff,tt,ff,ff,ff,ff]) rfl (step_buildSlice rfl rfl rfl (by omega) (by unfold maxLen; omega) rfl) rfl rfl ?_; rintro _ ⟨b54, rfl⟩)
    refine any_two (j := 8) (j' := 10) (by kernel_rfl) ?_ ?_
    ·(refine one_appendSl (listed' := [tt,tt,tt,tt,tt,tt,tt,tt,tt,tt,ff,ff,ff,ff]) rfl rfl rfl rfl rfl rfl (fun _ _ => by repeat (first | exact Sw.here | apply Sw.there)) hpath (ints_one _) (Nat.zero_le _) (by unfold maxLen; omega) (by omega) rfl rfl (by repeat (first | exact HmOk.nil | apply HmOk.dep (by decide +kernel) | apply HmOk.im (by decide +kernel) hgb (by repeat (first | exact List.Mem.head _ | apply List.Mem.tail)) | apply HmOk.blk (by decide +kernel) (by repeat (first | exact Pk.here | apply Pk.there)) (by repeat (first | exact List.Mem.head _ | apply List.Mem.tail)))) (fun p4 c4 => ?_); simp only [Nat.zero_add, List.nil_append])
     refine any_one (j := 10) (by kernel_rfl) ?_
     (refine one_step0 (listed' := [tt,tt,tt,tt,tt,tt,tt,tt,tt,tt,tt,ff,ff,ff]) rfl (step_buildSlice rfl rfl rfl (by omega) (by unfold maxLen; omega) rfl) rfl rfl ?_; rintro _ ⟨b58, rfl⟩)
     refine any_one (j := 11) (by kernel_rfl) ?_
     (refine one_append (listed' := [tt,tt,tt,tt,tt,tt,tt,tt,tt,tt,tt,tt,ff,ff]) rfl rfl rfl rfl rfl rfl (fun _ _ => by repeat (first | exact Sw.here | apply Sw.there)) (at_slc_all (by repeat (first | exact List.Mem.head _ | apply List.Mem.tail))) rfl (by simp [Value.oneCell']) (by unfold maxLen; omega) (by omega) rfl rfl (by repeat (first | exact HmOk.nil | apply HmOk.dep (by decide +kernel) | apply HmOk.im (by decide +kernel) hgb (by repeat (first | exact List.Mem.head _ | apply List.Mem.tail)) | apply HmOk.blk (by decide +kernel) (by repeat (first | exact Pk.here | apply Pk.there)) (by repeat (first | exact List.Mem.head _ | apply List.Mem.tail)))) (fun p5 c5 => ?_))
     (refine any_freeze (cs := ints path ++ [.int .i64 (i : Int)]) (by repeat (first | exact Pk.here | apply Pk.there)) (fun Gf hle61 hslf hnof => ?_); rw [← ints_snoc] at hslf; replace hre := hre.mono hle61; have hlef := hle61)
     replace hkl := hkl.mono hle61
     replace hpath := hpath.mono hle61
     replace hsl := hsl.mono hle61
     refine any_one (j := 12) (by kernel_rfl) ?_
     (have hih := ih ks[i] (List.getElem_mem (by omega)) (path ++ [(i : Int)]) Gf e p5 c5 pn' (m + m') cn' (es0 ++ es') hre; rw [show (path ++ [(i : Int)]).length = path.length + 1 from by simp] at hih; replace hih := hih hslf (by omega); refine one_take (listed' := [tt,tt,tt,tt,tt,tt,tt,tt,tt,tt,tt,tt,tt,ff]) rfl rfl hih (Pk.perm (by repeat (first | exact Pk.here | apply Pk.there))) rfl rfl rfl (by repeat (first | exact HmOk.nil | apply HmOk.dep (by decide +kernel))) (fun v G1 outs hle1 hh => ?_); obtain ⟨p6, c6, es6, F6, rfl, rfl, hsp6, hnd6⟩ := hh; rw [show m + m' + tmCount ks[i] = m + (m' + tmCount ks[i]) from Nat.add_assoc _ _ _, List.append_assoc es0])
     refine any_pure (i := 13) (listed' := [tt,tt,tt,tt,tt,tt,tt,tt,tt,tt,tt,tt,tt,tt]) rfl (by repeat (first | exact np_ret | apply np_seq | apply np_block | apply np_loopN')) (pure_assign rfl) rfl (by kernel_rfl) rfl rfl ?_
     refine any_done (by kernel_rfl) ?_
     refine nrm_block ?_
     refine nrm_seq ?_
     refine tri_region ?_
     refine seq_pure (pure_move rfl) rfl rfl ?_
     refine seq_pure (pure_add rfl rfl (by omega) (by omega)) rfl rfl ?_
     refine seq_pure (pure_assign rfl) rfl rfl ?_
     refine seq_done ?_
     (obtain ⟨q1, q2⟩ := SPs.step hst hnd hleI hlef hle1 hsp6 hnd6; have hsu := tmCountL_succ (ks := ks) (i := i) (by omega); refine nrm_loopN (i + 1, p6, m' + tmCount ks[i], c6, es' ++ es6, F ++ F6, G1) ?_ ?_ ?_)
     ·(simp only [flat_snoc]; exact sub_mk (by repeat (first | exact SubE.nil | refine SubE.cons rfl ?_)) (by repeat (first | exact SubH.refl | exact SubH.nil | refine SubH.cons (by repeat (first | exact Pk.here | apply Pk.there)) ?_ | apply SubH.drop)))
     ·(dsimp only; exact ⟨by omega, by omega, (hleI.trans hlef).trans hle1, by rw [mPathsL_take (by omega)]; exact q1, q2⟩)
     ·(show ks.length - (i + 1) < ks.length - i; omega)
    ·(refine one_step0 (listed' := [tt,tt,tt,tt,tt,tt,tt,tt,ff,tt,tt,ff,ff,ff]) rfl (step_buildSlice rfl rfl rfl (by omega) (by unfold maxLen; omega) rfl) rfl rfl ?_; rintro _ ⟨b77, rfl⟩)
     refine any_one (j := 8) (by kernel_rfl) ?_
     (refine one_appendSl (listed' := [tt,tt,tt,tt,tt,tt,tt,tt,tt,tt,tt,ff,ff,ff]) rfl rfl rfl rfl rfl rfl (fun _ _ => by repeat (first | exact Sw.here | apply Sw.there)) hpath (ints_one _) (Nat.zero_le _) (by unfold maxLen; omega) (by omega) rfl rfl (by repeat (first | exact HmOk.nil | apply HmOk.dep (by decide +kernel) | apply HmOk.im (by decide +kernel) hgb (by repeat (first | exact List.Mem.head _ | apply List.Mem.tail)) | apply HmOk.blk (by decide +kernel) (by repeat (first | exact Pk.here | apply Pk.there)) (by repeat (first | exact List.Mem.head _ | apply List.Mem.tail)))) (fun p4 c4 => ?_); simp only [Nat.zero_add, List.nil_append])
     refine any_one (j := 11) (by kernel_rfl) ?_
     (refine one_append (listed' := [tt,tt,tt,tt,tt,tt,tt,tt,tt,tt,tt,tt,ff,ff]) rfl rfl rfl rfl rfl rfl (fun _ _ => by repeat (first | exact Sw.here | apply Sw.there)) (at_slc_all (by repeat (first | exact List.Mem.head _ | apply List.Mem.tail))) rfl (by simp [Value.oneCell']) (by unfold maxLen; omega) (by omega) rfl rfl (by repeat (first | exact HmOk.nil | apply HmOk.dep (by decide +kernel) | apply HmOk.im (by decide +kernel) hgb (by repeat (first | exact List.Mem.head _ | apply List.Mem.tail)) | apply HmOk.blk (by decide +kernel) (by repeat (first | exact Pk.here | apply Pk.there)) (by repeat (first | exact List.Mem.head _ | apply List.Mem.tail)))) (fun p5 c5 => ?_))
     (refine any_freeze (cs := ints path ++ [.int .i64 (i : Int)]) (by repeat (first | exact Pk.here | apply Pk.there)) (fun Gf hle82 hslf hnof => ?_); rw [← ints_snoc] at hslf; replace hre := hre.mono hle82; have hlef := hle82)
     replace hkl := hkl.mono hle82
     replace hpath := hpath.mono hle82
     replace hsl := hsl.mono hle82
     refine any_one (j := 12) (by kernel_rfl) ?_
     (have hih := ih ks[i] (List.getElem_mem (by omega)) (path ++ [(i : Int)]) Gf e p5 c5 pn' (m + m') cn' (es0 ++ es') hre; rw [show (path ++ [(i : Int)]).length = path.length + 1 from by simp] at hih; replace hih := hih hslf (by omega); refine one_take (listed' := [tt,tt,tt,tt,tt,tt,tt,tt,tt,tt,tt,tt,tt,ff]) rfl rfl hih (Pk.perm (by repeat (first | exact Pk.here | apply Pk.there))) rfl rfl rfl (by repeat (first | exact HmOk.nil | apply HmOk.dep (by decide +kernel))) (fun v G1 outs hle1 hh => ?_); obtain ⟨p6, c6, es6, F6, rfl, rfl, hsp6, hnd6⟩ := hh; rw [show m + m' + tmCount ks[i] = m + (m' + tmCount ks[i]) from Nat.add_assoc _ _ _, List.append_assoc es0])
     refine any_pure (i := 13) (listed' := [tt,tt,tt,tt,tt,tt,tt,tt,tt,tt,tt,tt,tt,tt]) rfl (by repeat (first | exact np_ret | apply np_seq | apply np_block | apply np_loopN')) (pure_assign rfl) rfl (by kernel_rfl) rfl rfl ?_
     refine any_done (by kernel_rfl) ?_
     refine nrm_block ?_
     refine nrm_seq ?_
     refine tri_region ?_
     refine seq_pure (pure_move rfl) rfl rfl ?_
     refine seq_pure (pure_add rfl rfl (by omega) (by omega)) rfl rfl ?_
     refine seq_pure (pure_assign rfl) rfl rfl ?_
     refine seq_done ?_
     (obtain ⟨q1, q2⟩ := SPs.step hst hnd hleI hlef hle1 hsp6 hnd6; have hsu := tmCountL_succ (ks := ks) (i := i) (by omega); refine nrm_loopN (i + 1, p6, m' + tmCount ks[i], c6, es' ++ es6, F ++ F6, G1) ?_ ?_ ?_)
     ·(simp only [flat_snoc]; exact sub_mk (by repeat (first | exact SubE.nil | refine SubE.cons rfl ?_)) (by repeat (first | exact SubH.refl | exact SubH.nil | refine SubH.cons (by repeat (first | exact Pk.here | apply Pk.there)) ?_ | apply SubH.drop)))
     ·(dsimp only; exact ⟨by omega, by omega, (hleI.trans hlef).trans hle1, by rw [mPathsL_take (by omega)]; exact q1, q2⟩)
     ·(show ks.length - (i + 1) < ks.length - i; omega)
   ·(refine one_step0 (listed' := [tt,tt,tt,tt,tt,tt,ff,tt,ff,tt,tt,ff,ff,ff]) rfl (step_buildSlice rfl rfl rfl (by omega) (by unfold maxLen; omega) rfl) rfl rfl ?_; rintro _ ⟨b98, rfl⟩)
    refine any_one (j := 6) (by kernel_rfl) ?_
    (refine one_step0 (listed' := [tt,tt,tt,tt,tt,tt,tt,tt,ff,tt,tt,ff,ff,ff]) rfl (step_buildSlice rfl rfl rfl (by omega) (by unfold maxLen; omega) rfl) rfl rfl ?_; rintro _ ⟨b100, rfl⟩)
    refine any_one (j := 8) (by kernel_rfl) ?_
    (refine one_appendSl (listed' := [tt,tt,tt,tt,tt,tt,tt,tt,tt,tt,tt,ff,ff,ff]) rfl rfl rfl rfl rfl rfl (fun _ _ => by repeat (first | exact Sw.here | apply Sw.there)) hpath (ints_one _) (Nat.zero_le _) (by unfold maxLen; omega) (by omega) rfl rfl (by repeat (first | exact HmOk.nil | apply HmOk.dep (by decide +kernel) | apply HmOk.im (by decide +kernel) hgb (by repeat (first | exact List.Mem.head _ | apply List.Mem.tail)) | apply HmOk.blk (by decide +kernel) (by repeat (first | exact Pk.here | apply Pk.there)) (by repeat (first | exact List.Mem.head _ | apply List.Mem.tail)))) (fun p4 c4 => ?_); simp only [Nat.zero_add, List.nil_append])
    refine any_one (j := 11) (by kernel_rfl) ?_
    (refine one_append (listed' := [tt,tt,tt,tt,tt,tt,tt,tt,tt,tt,tt,tt,ff,ff]) rfl rfl rfl rfl rfl rfl (fun _ _ => by repeat (first | exact Sw.here | apply Sw.there)) (at_slc_all (by repeat (first | exact List.Mem.head _ | apply List.Mem.tail))) rfl (by simp [Value.oneCell']) (by unfold maxLen; omega) (by omega) rfl rfl (by repeat (first | exact HmOk.nil | apply HmOk.dep (by decide +kernel) | apply HmOk.im (by decide +kernel) hgb (by repeat (first | exact List.Mem.head _ | apply List.Mem.tail)) | apply HmOk.blk (by decide +kernel) (by repeat (first | exact Pk.here | apply Pk.there)) (by repeat (first | exact List.Mem.head _ | apply List.Mem.tail)))) (fun p5 c5 => ?_))
    (refine any_freeze (cs := ints path ++ [.int .i64 (i : Int)]) (by repeat (first | exact Pk.here | apply Pk.there)) (fun Gf hle105 hslf hnof => ?_); rw [← ints_snoc] at hslf; replace hre := hre.mono hle105; have hlef := hle105)
    replace hkl := hkl.mono hle105
    replace hpath := hpath.mono hle105
    replace hsl := hsl.mono hle105
    refine any_one (j := 12) (by kernel_rfl) ?_
    (have hih := ih ks[i] (List.getElem_mem (by omega)) (path ++ [(i : Int)]) Gf e p5 c5 pn' (m + m') cn' (es0 ++ es') hre; rw [show (path ++ [(i : Int)]).length = path.length + 1 from by simp] at hih; replace hih := hih hslf (by omega); refine one_take (listed' := [tt,tt,tt,tt,tt,tt,tt,tt,tt,tt,tt,tt,tt,ff]) rfl rfl hih (Pk.perm (by repeat (first | exact Pk.here | apply Pk.there))) rfl rfl rfl (by repeat (first | exact HmOk.nil | apply HmOk.dep (by decide +kernel))) (fun v G1 outs hle1 hh => ?_); obtain ⟨p6, c6, es6, F6, rfl, rfl, hsp6, hnd6⟩ := hh; rw [show m + m' + tmCount ks[i] = m + (m' + tmCount ks[i]) from Nat.add_assoc _ _ _, List.append_assoc es0])
    refine any_pure (i := 13) (listed' := [tt,tt,tt,tt,tt,tt,tt,tt,tt,tt,tt,tt,tt,tt]) rfl (by repeat (first | exact np_ret | apply np_seq | apply np_block | apply np_loopN')) (pure_assign rfl) rfl (by kernel_rfl) rfl rfl ?_
    refine any_done (by kernel_rfl) ?_
    refine nrm_block ?_
    refine nrm_seq ?_
    refine tri_region ?_
    refine seq_pure (pure_move rfl) rfl rfl ?_
    refine seq_pure (pure_add rfl rfl (by omega) (by omega)) rfl rfl ?_
    refine seq_pure (pure_assign rfl) rfl rfl ?_
    refine seq_done ?_
    (obtain ⟨q1, q2⟩ := SPs.step hst hnd hleI hlef hle1 hsp6 hnd6; have hsu := tmCountL_succ (ks := ks) (i := i) (by omega); refine nrm_loopN (i + 1, p6, m' + tmCount ks[i], c6, es' ++ es6, F ++ F6, G1) ?_ ?_ ?_)
    ·(simp only [flat_snoc]; exact sub_mk (by repeat (first | exact SubE.nil | refine SubE.cons rfl ?_)) (by repeat (first | exact SubH.refl | exact SubH.nil | refine SubH.cons (by repeat (first | exact Pk.here | apply Pk.there)) ?_ | apply SubH.drop)))
    ·(dsimp only; exact ⟨by omega, by omega, (hleI.trans hlef).trans hle1, by rw [mPathsL_take (by omega)]; exact q1, q2⟩)
    ·(show ks.length - (i + 1) < ks.length - i; omega)
  ·refine seq_done ?_
   refine nrm_seq ?_
   refine tri_cond_f rfl ?_
   refine tri_exit ?_
   refine ext_seq ?_
   refine ext_loopN ?_
   refine ext_block_eq ?_
   refine nrm_seq ?_
   refine tri_seq ?_
   refine tri_region ?_
   refine seq_pure (pure_move rfl) rfl rfl ?_
   refine seq_pure (pure_assign rfl) rfl rfl ?_
   refine seq_done ?_
   refine nrm_seq ?_
   refine tri_ret ?_
   (obtain rfl : i = ks.length := (by omega); refine ret_own1 (res_tmp rfl) (SubH.cons Pk.here SubH.nil) ?_)
   (rw [List.take_length] at hst hm; subst hm; rw [tmCount, mPaths]; exact ⟨pn', cn', es', F, rfl, rfl, hst, hnd⟩)
end Gw
end Go.Proofs.Yteneckdjdfnjoaa
namespace Go.Proofs.Yteneckdjdfnjoaa
open Go Go.RowKit
namespace Gw
set_option maxRecDepth 100000 in
theorem sAllPaths_fn (t : Tm) (G : IM) (cells : List Value) (hcnt : tmCount t ≤ 4294967296) (hr : RTm G t cells) :
  Fn Try.prog 9 [.agg ⟨cells⟩] [] G (Imm fun G' v => ∃ p c, v = .slice p (mAll t).length c ∧ RPs (Dif G' G) (mAll t) p c) := by
 have hl := hr.len
 have hv := sCastValid_fn t G cells hcnt hr
 have hcnt := @castValid_count t
 refine fn_enter Try.func9 rfl Try.ntmps9 Try.results9 rfl ?_
 intro w0
 refine tri_seq ?_
 refine tri_region ?_
 (refine seq_step (step_box_a rfl rfl) rfl ?_; rintro _ ⟨b3, rfl⟩)
 refine seq_pure (pure_assign rfl) rfl rfl ?_
 refine seq_done ?_
 refine nrm_seq ?_
 refine tri_seq ?_
 refine tri_seq ?_
 refine tri_region ?_
 refine seq_load (load_a rfl rfl (at_blk_all (by repeat (first | exact List.Mem.head _ | apply List.Mem.tail))) (by assumption)) rfl rfl ?_
 refine seq_valb rfl (hv) rfl rfl (fun h11 => ?_) (fun h11 => ?_)
 ·refine seq_pure (pure_not_t rfl) rfl rfl ?_
  refine seq_done ?_
  refine nrm_seq ?_
  refine tri_cond_f rfl ?_
  refine tri_skip ?_
  refine nrm_seq ?_
  refine tri_seq ?_
  refine tri_region ?_
  (refine seq_step (step_buildSlice rfl rfl rfl (by omega) (by unfold maxLen; omega) rfl) rfl ?_; rintro _ ⟨bq, rfl⟩)
  refine seq_load (load_a rfl rfl (at_blk_all (by repeat (first | exact List.Mem.head _ | apply List.Mem.tail))) (by assumption)) rfl rfl ?_
  (have hih := l16Paths_fn t [] G cells none 0 (some ⟨bq, 0, none⟩) 0 0 [] hr (Sl.nil G 1) (by have := hcnt (by assumption); simp; omega); refine seq_step (step_call_own rfl hih (Pk.perm (by repeat (first | exact Pk.here | apply Pk.there))) rfl) rfl ?_; rintro _ ⟨v, G1, outs, rfl, hle1, hh⟩; obtain ⟨p6, c6, es6, F6, rfl, rfl, hsp6, hnd6⟩ := hh; simp only [List.nil_append, Nat.zero_add])
  refine seq_pure (pure_assign rfl) rfl rfl ?_
  refine seq_done ?_
  refine nrm_seq ?_
  (refine ret_freeze (by repeat (first | exact Pk.here | apply Pk.there)) (fun G3 hle3 hsl3 hno3 => ?_))
  refine tri_ret ?_
  refine ret_fin1 (res_tmp rfl) ?_
  (have hm : mAll t = mPaths t [] := if_pos (by assumption); rw [hm]; have hfin := RPs.fin hsp6 hnd6 hle1 hle3 hsl3 (by rw [mPaths_len]) hno3; exact ⟨rfl, p6, c6, by rw [mPaths_len], hfin⟩)
 ·refine seq_pure (pure_not_f rfl) rfl rfl ?_
  refine seq_done ?_
  refine nrm_seq ?_
  refine tri_cond_t rfl ?_
  refine tri_seq ?_
  refine tri_region ?_
  (refine seq_step (step_buildSlice rfl rfl rfl (by omega) (by unfold maxLen; omega) rfl) rfl ?_; rintro _ ⟨bq, rfl⟩)
  refine seq_pure (pure_assign rfl) rfl rfl ?_
  refine seq_done ?_
  refine nrm_seq ?_
  (refine ret_freeze (by repeat (first | exact Pk.here | apply Pk.there)) (fun G3 hle3 hsl3 hno3 => ?_))
  refine tri_ret ?_
  refine ret_seq ?_
  refine ret_fin1 (res_tmp rfl) ?_
  (have hm : mAll t = [] := if_neg (by simp [*]); rw [hm]; exact ⟨rfl, _, _, rfl, RPs.fin (Gi := G) (es := []) (F := []) ⟨rfl, rfl⟩ (by simp) (IMle.refl _) hle3 hsl3 rfl hno3⟩)
end Gw
end Go.Proofs.Yteneckdjdfnjoaa
namespace Go.Proofs.Yteneckdjdfnjoaa
open Go Go.RowKit
namespace Gw
section forget
variable {P : Program} {Γ : Ctx} {env : Env} {hp : List Ent} {G : IM} {K : Po} {ops : Array Oper} {rest : List Oper} {ty : TypeId} {pos : String} {af : Array Edge} {gd : Option (Nat × Bool)}
end forget
end Gw
end Go.Proofs.Yteneckdjdfnjoaa
namespace Go.Proofs.Yteneckdjdfnjoaa
open Go Go.RowKit
namespace Gw
/-- The node at a path. -/
def tAt : Tm → List Int → Option Tm
 | t, [] => some t
 | .mk _ _ _ _ _ _ ks, i :: is => if h : 0 ≤ i ∧ i < ks.length then tAt (ks[i.toNat]'(by omega)) is else none
theorem tAt_nil (t : Tm) : tAt t [] = some t := by cases t; rw [tAt]
theorem tAt_go {t : Tm} {i : Int} {is : List Int} (h0 : 0 ≤ i) (h : i < t.ks.length) : tAt t (i :: is) = tAt (t.ks[i.toNat]'(by omega)) is := by
 cases t; rw [tAt, dif_pos ⟨h0, h⟩]; rfl
theorem tAt_no {t : Tm} {i : Int} {is : List Int} (h : ¬ (0 ≤ i ∧ i < t.ks.length)) : tAt t (i :: is) = none := by
 cases t; rw [tAt]; exact dif_neg h
def z9 : List Value := [.int .i64 0, .string ⟨⟨[]⟩⟩, .int .i64 0, .int .i64 0, .slice none 0 0, .int .i64 0, .slice none 0 0, .int .i64 0, .slice none 0 0]
def AtP (t : Tm) (path : List Int) (G : IM) : IM → Value → List Ent → Prop := fun G' v outs => G' = G ∧ outs = [] ∧
 ((∃ x cells, tAt t path = some x ∧ RTm G x cells ∧ v = .tuple ⟨[.agg ⟨cells⟩, .bool true]⟩) ∨ (tAt t path = none ∧ v = .tuple ⟨[.agg ⟨z9⟩, .bool false]⟩))
theorem ints_at {l : List Int} {i : Nat} {v : Value} (h : (ints l)[i]? = some v) (hi : i < l.length) : v = .int .i64 l[i] := (ints_get h).2
set_option maxHeartbeats 0 in
set_option maxRecDepth 100000 in
theorem at_fn (t : Tm) (path : List Int) (G : IM) (cells : List Value) (p : Option Addr) (c : Nat) (hr : RTm G t cells) (hp : Sl G p path.length c 1 (ints path)) :
  Fn Try.prog 26 [.agg ⟨cells⟩, .slice p path.length c] [] G (AtP t path G) := by
 have hn := hp.le
 have hl := hr.len
 have hone := hr.one
 refine fn_enter Try.func26 rfl Try.ntmps26 Try.results26 rfl ?_
 intro w0
 refine tri_seq ?_
 refine tri_region ?_
 (refine seq_step (step_box_a rfl rfl) rfl ?_; rintro _ ⟨b3, rfl⟩)
 (refine seq_step (step_alloc rfl) rfl ?_; rintro _ ⟨b4, rfl⟩)
 refine seq_pure (pure_assign rfl) rfl rfl ?_
 refine seq_done ?_
 refine nrm_seq ?_
 refine tri_seq ?_
 refine tri_seq ?_
 refine tri_region ?_
 refine seq_pure (pure_move rfl) rfl rfl ?_
 refine seq_pure (pure_len rfl rfl) rfl rfl ?_
 refine seq_pure (pure_move rfl) rfl rfl ?_
 refine seq_done ?_
 refine nrm_seq ?_
 refine tri_block ?_
 refine tri_loopN (fun (x : Nat × Tm × List Value) => ⟨[(10, .int .i64 x.1), (9, .int .i64 path.length), (8, .slice p path.length c), (2, .pointer (some ⟨b3, 0, none⟩)), (4, .pointer (some ⟨b4, 0, none⟩)), (5, .bool false)], [.blk b4 z9, .blk b3 x.2.2], G⟩) (fun x => x.1 ≤ path.length ∧ RTm G x.2.1 x.2.2 ∧ tAt t path = tAt x.2.1 (path.drop x.1)) (fun x => path.length - x.1) (0, t, cells) ?_ ?_ ?_
 ·(simp only [flat_snoc]; exact sub_mk (by repeat (first | exact SubE.nil | refine SubE.cons rfl ?_)) (by repeat (first | exact SubH.refl | exact SubH.nil | refine SubH.cons (by repeat (first | exact Pk.here | apply Pk.there)) ?_ | apply SubH.drop)))
 ·exact ⟨by simp, hr, rfl⟩
 ·(rintro ⟨i, ⟨k, nm, num, ⟨tk, tks⟩, ⟨fk, fks⟩, lb, ks⟩, ce⟩ ⟨hi, hre, hat⟩; simp only [] at hi hre hat ⊢; obtain ⟨pt, ct, pf, cf, pk, ck, es, rfl, hk, hnum, hlb, hty, hfr, hsl, hkl⟩ := hre.open9; have hle := hsl.le; have hone := hre.one)
  refine tri_seq ?_
  refine tri_region ?_
  refine seq_bool (pure_lss rfl rfl) rfl rfl (fun h23 => ?_) (fun h23 => ?_)
  ·refine seq_done ?_
   refine nrm_seq ?_
   refine tri_seq ?_
   refine tri_cond_t rfl ?_
   refine tri_skip ?_
   refine nrm_seq ?_
   refine tri_seq ?_
   refine tri_block ?_
   refine tri_seq ?_
   refine tri_region ?_
   (obtain ⟨b, o, v, rfl, hv, hatc, hgb⟩ := hp.kid (i := i) (by omega); obtain rfl := ints_at hv (by omega); rw [List.drop_eq_getElem_cons (by omega)] at hat; generalize path[i]'(by omega) = pi at *; refine seq_pure (pure_indexAddrN rfl rfl rfl (by omega)) rfl rfl ?_)
   refine seq_load (load_s rfl rfl (hatc _)) rfl rfl ?_
   refine seq_pure (pure_assign rfl) rfl rfl ?_
   refine seq_done ?_
   refine nrm_seq ?_
   refine tri_seq ?_
   refine tri_seq ?_
   refine tri_region ?_
   refine seq_pure (pure_move rfl) rfl rfl ?_
   refine seq_pure (pure_fieldAddr0 rfl) rfl rfl ?_
   refine seq_load (load_bs rfl rfl (by repeat (first | exact List.Mem.head _ | apply List.Mem.tail)) (by rfl)) rfl rfl ?_
   refine seq_pure (pure_len rfl rfl) rfl rfl ?_
   refine seq_pure (pure_sub rfl rfl (by omega) (by omega)) rfl rfl ?_
   refine seq_valb rfl (within_fn pi 0 ((ks.length : Int) - 1) G) rfl rfl (fun h47 => ?_) (fun h47 => ?_)
   ·refine seq_pure (pure_not_t rfl) rfl rfl ?_
    refine seq_done ?_
    refine nrm_seq ?_
    refine tri_cond_f rfl ?_
    refine tri_skip ?_
    refine nrm_seq ?_
    refine tri_region ?_
    refine seq_pure (pure_fieldAddr0 rfl) rfl rfl ?_
    refine seq_load (load_bs rfl rfl (by repeat (first | exact List.Mem.head _ | apply List.Mem.tail)) (by rfl)) rfl rfl ?_
    refine seq_pure (pure_move rfl) rfl rfl ?_
    (have hwi := withinB_t (by assumption); obtain ⟨j, rfl⟩ := Int.eq_ofNat_of_zero_le hwi.1; obtain ⟨b', o', e, rfl, hl', hate, hre', hgb'⟩ := hsl.kidTm hkl (i := j) (by omega) (by omega); have hone' := hre'.one; refine seq_pure (pure_indexAddrN rfl rfl rfl (by omega)) rfl rfl ?_)
    refine seq_load (load_a rfl rfl (hate _) hl') rfl rfl ?_
    refine seq_store rfl rfl rfl (by assumption) (by assumption) rfl (by repeat (first | exact Sw.here | apply Sw.there)) (by exact upd_all (by symm; assumption)) ?_
    refine seq_done ?_
    refine nrm_block ?_
    refine nrm_seq ?_
    refine tri_region ?_
    refine seq_pure (pure_add rfl rfl (by omega) (by omega)) rfl rfl ?_
    refine seq_pure (pure_move rfl) rfl rfl ?_
    refine seq_done ?_
    refine nrm_loopN (i + 1, ks[j], e) ?_ ?_ ?_
    ·(simp only [flat_snoc]; exact sub_mk (by repeat (first | exact SubE.nil | refine SubE.cons rfl ?_)) (by repeat (first | exact SubH.refl | exact SubH.nil | refine SubH.cons (by repeat (first | exact Pk.here | apply Pk.there)) ?_ | apply SubH.drop)))
    ·(dsimp only; exact ⟨by omega, hre', by rw [hat, tAt_go (by omega) (by simp only [Tm.ks]; omega)]; rfl⟩)
    ·(show path.length - (i + 1) < path.length - i; omega)
   ·refine seq_pure (pure_not_f rfl) rfl rfl ?_
    refine seq_done ?_
    refine nrm_seq ?_
    refine tri_cond_t rfl ?_
    refine tri_seq ?_
    refine tri_region ?_
    refine seq_pure (pure_build rfl rfl) rfl rfl ?_
    refine seq_store rfl rfl rfl rfl rfl rfl (by repeat (first | exact Sw.here | apply Sw.there)) (by rfl) ?_
    refine seq_pure (pure_assign rfl) rfl rfl ?_
    refine seq_done ?_
    refine nrm_seq ?_
    refine tri_ret ?_
    refine ret_seq ?_
    refine ret_block ?_
    refine ret_seq ?_
    refine ret_loopN ?_
    refine ret_block ?_
    refine ret_seq ?_
    refine ret_fin2 (res_cell rfl (load_ba rfl rfl (by repeat (first | exact List.Mem.head _ | apply List.Mem.tail)) (by rfl))) (res_tmp rfl) ?_
    (have hwi := withinB_f (by assumption); rw [tAt_no (by simp only [Tm.ks]; omega)] at hat; exact ⟨rfl, rfl, .inr ⟨hat, rfl⟩⟩)
  ·refine seq_done ?_
   refine nrm_seq ?_
   refine tri_seq ?_
   refine tri_cond_f rfl ?_
   refine tri_exit ?_
   refine ext_seq ?_
   refine ext_loopN ?_
   refine ext_block_eq ?_
   refine nrm_seq ?_
   refine tri_seq ?_
   refine tri_region ?_
   refine seq_load (load_ba rfl rfl (by repeat (first | exact List.Mem.head _ | apply List.Mem.tail)) (by rfl)) rfl rfl ?_
   refine seq_store rfl rfl rfl rfl rfl rfl (by repeat (first | exact Sw.here | apply Sw.there)) (by rfl) ?_
   refine seq_pure (pure_assign rfl) rfl rfl ?_
   refine seq_done ?_
   refine nrm_seq ?_
   refine tri_ret ?_
   refine ret_fin2 (res_cell rfl (load_ba rfl rfl (by repeat (first | exact List.Mem.head _ | apply List.Mem.tail)) (by rfl))) (res_tmp rfl) ?_
   (obtain rfl : i = path.length := (by omega); rw [List.drop_length, tAt_nil] at hat; exact ⟨rfl, rfl, .inl ⟨_, _, hat, hre, rfl⟩⟩)
set_option maxHeartbeats 0 in
set_option maxRecDepth 100000 in
theorem l16At_fn (t : Tm) (path : List Int) (G : IM) (cells : List Value) (p : Option Addr) (c : Nat) (hr : RTm G t cells) (hp : Sl G p path.length c 1 (ints path)) :
  Fn Try.prog 35 [.agg ⟨cells⟩, .slice p path.length c] [] G (AtP t path G) := by
 have hn := hp.le
 have hl := hr.len
 have hone := hr.one
 refine fn_enter Try.func35 rfl Try.ntmps35 Try.results35 rfl ?_
 intro w0
 refine tri_seq ?_
 refine tri_region ?_
 (refine seq_step (step_box_a rfl rfl) rfl ?_; rintro _ ⟨b3, rfl⟩)
 (refine seq_step (step_alloc rfl) rfl ?_; rintro _ ⟨b4, rfl⟩)
 refine seq_pure (pure_assign rfl) rfl rfl ?_
 refine seq_done ?_
 refine nrm_seq ?_
 refine tri_seq ?_
 refine tri_seq ?_
 refine tri_region ?_
 refine seq_pure (pure_assign rfl) rfl rfl ?_
 refine seq_done ?_
 refine nrm_seq ?_
 refine tri_block ?_
 refine tri_loopN (fun (x : Nat × Tm × List Value) => ⟨[(6, .int .i64 x.1), (1, .slice p path.length c), (2, .pointer (some ⟨b3, 0, none⟩)), (4, .pointer (some ⟨b4, 0, none⟩)), (5, .bool false)], [.blk b4 z9, .blk b3 x.2.2], G⟩) (fun x => x.1 ≤ path.length ∧ RTm G x.2.1 x.2.2 ∧ tAt t path = tAt x.2.1 (path.drop x.1)) (fun x => path.length - x.1) (0, t, cells) ?_ ?_ ?_
 ·(simp only [flat_snoc]; exact sub_mk (by repeat (first | exact SubE.nil | refine SubE.cons rfl ?_)) (by repeat (first | exact SubH.refl | exact SubH.nil | refine SubH.cons (by repeat (first | exact Pk.here | apply Pk.there)) ?_ | apply SubH.drop)))
 ·exact ⟨by simp, hr, rfl⟩
 ·(rintro ⟨i, ⟨k, nm, num, ⟨tk, tks⟩, ⟨fk, fks⟩, lb, ks⟩, ce⟩ ⟨hi, hre, hat⟩; simp only [] at hi hre hat ⊢; obtain ⟨pt, ct, pf, cf, pk, ck, es, rfl, hk, hnum, hlb, hty, hfr, hsl, hkl⟩ := hre.open9; have hle := hsl.le; have hone := hre.one)
  refine tri_seq ?_
  refine tri_seq ?_
  refine tri_region ?_
  refine seq_pure (pure_move rfl) rfl rfl ?_
  refine seq_pure (pure_move rfl) rfl rfl ?_
  refine seq_pure (pure_len rfl rfl) rfl rfl ?_
  refine seq_bool (pure_lss rfl rfl) rfl rfl (fun h25 => ?_) (fun h25 => ?_)
  ·refine seq_done ?_
   refine nrm_seq ?_
   refine tri_cond_t rfl ?_
   refine tri_skip ?_
   refine nrm_seq ?_
   refine tri_seq ?_
   refine tri_block ?_
   refine tri_seq ?_
   refine tri_seq ?_
   (obtain ⟨b, o, v, rfl, hv, hatc, hgb⟩ := hp.kid (i := i) (by omega); obtain rfl := ints_at hv (by omega); rw [List.drop_eq_getElem_cons (by omega)] at hat; generalize path[i]'(by omega) = pi at *; refine tri_draw mixed rfl ?_)
   refine any_pure (i := 0) (listed' := [tt,ff,ff,ff,ff,ff,ff,ff,ff,ff,ff,ff,ff,ff,ff]) rfl (by repeat (first | exact np_ret | apply np_seq | apply np_block | apply np_loopN')) (pure_move rfl) rfl (by kernel_rfl) rfl rfl ?_
   refine any_pure (i := 1) (listed' := [tt,tt,ff,ff,ff,ff,ff,ff,ff,ff,ff,ff,ff,ff,ff]) rfl (by repeat (first | exact np_ret | apply np_seq | apply np_block | apply np_loopN')) (pure_move rfl) rfl (by kernel_rfl) rfl rfl ?_
   refine any_pure (i := 2) (listed' := [tt,tt,tt,ff,ff,ff,ff,ff,ff,ff,ff,ff,ff,ff,ff]) rfl (by repeat (first | exact np_ret | apply np_seq | apply np_block | apply np_loopN')) (pure_indexAddrN rfl rfl rfl (by omega)) rfl (by kernel_rfl) rfl rfl ?_
   refine any_load (i := 3) (listed' := [tt,tt,tt,tt,ff,ff,ff,ff,ff,ff,ff,ff,ff,ff,ff]) rfl (by repeat (first | exact np_ret | apply np_seq | apply np_block | apply np_loopN')) (load_s rfl rfl (hatc _)) rfl (by kernel_rfl) rfl rfl ?_
   refine any_bool (i := 4) (listed' := [tt,tt,tt,tt,tt,ff,ff,ff,ff,ff,ff,ff,ff,ff,ff]) rfl (by repeat (first | exact np_ret | apply np_seq | apply np_block | apply np_loopN')) (pure_lss rfl rfl) rfl (by kernel_rfl) rfl rfl (fun h40 => ?_) (fun h40 => ?_)
   ·refine any_pure (i := 5) (listed' := [tt,tt,tt,tt,tt,tt,ff,ff,ff,ff,ff,ff,ff,ff,ff]) rfl (by repeat (first | exact np_ret | apply np_seq | apply np_block | apply np_loopN')) (pure_move rfl) rfl (by kernel_rfl) rfl rfl ?_
    refine any_skip (i := 6) (listed' := [tt,tt,tt,tt,tt,tt,tt,ff,ff,ff,ff,ff,ff,ff,ff]) rfl (by repeat (first | exact np_ret | apply np_seq | apply np_block | apply np_loopN')) rfl (by kernel_rfl) rfl rfl ?_
    refine any_skip (i := 7) (listed' := [tt,tt,tt,tt,tt,tt,tt,tt,ff,ff,ff,ff,ff,ff,ff]) rfl (by repeat (first | exact np_ret | apply np_seq | apply np_block | apply np_loopN')) rfl (by kernel_rfl) rfl rfl ?_
    refine any_skip (i := 8) (listed' := [tt,tt,tt,tt,tt,tt,tt,tt,tt,ff,ff,ff,ff,ff,ff]) rfl (by repeat (first | exact np_ret | apply np_seq | apply np_block | apply np_loopN')) rfl (by kernel_rfl) rfl rfl ?_
    refine any_skip (i := 9) (listed' := [tt,tt,tt,tt,tt,tt,tt,tt,tt,tt,ff,ff,ff,ff,ff]) rfl (by repeat (first | exact np_ret | apply np_seq | apply np_block | apply np_loopN')) rfl (by kernel_rfl) rfl rfl ?_
    refine any_skip (i := 10) (listed' := [tt,tt,tt,tt,tt,tt,tt,tt,tt,tt,tt,ff,ff,ff,ff]) rfl (by repeat (first | exact np_ret | apply np_seq | apply np_block | apply np_loopN')) rfl (by kernel_rfl) rfl rfl ?_
    refine any_skip (i := 11) (listed' := [tt,tt,tt,tt,tt,tt,tt,tt,tt,tt,tt,tt,ff,ff,ff]) rfl (by repeat (first | exact np_ret | apply np_seq | apply np_block | apply np_loopN')) rfl (by kernel_rfl) rfl rfl ?_
    refine any_skip (i := 12) (listed' := [tt,tt,tt,tt,tt,tt,tt,tt,tt,tt,tt,tt,tt,ff,ff]) rfl (by repeat (first | exact np_ret | apply np_seq | apply np_block | apply np_loopN')) rfl (by kernel_rfl) rfl rfl ?_
    refine any_skip (i := 13) (listed' := [tt,tt,tt,tt,tt,tt,tt,tt,tt,tt,tt,tt,tt,tt,ff]) rfl (by repeat (first | exact np_ret | apply np_seq | apply np_block | apply np_loopN')) rfl (by kernel_rfl) rfl rfl ?_
    refine any_pure (i := 14) (listed' := [tt,tt,tt,tt,tt,tt,tt,tt,tt,tt,tt,tt,tt,tt,tt]) rfl (by repeat (first | exact np_ret | apply np_seq | apply np_block | apply np_loopN')) (pure_pick_t rfl rfl) rfl (by kernel_rfl) rfl rfl ?_
    refine any_done (by kernel_rfl) ?_
    refine nrm_seq ?_
    refine tri_cond_t rfl ?_
    refine tri_seq ?_
    refine tri_region ?_
    refine seq_pure (pure_build rfl rfl) rfl rfl ?_
    refine seq_store rfl rfl rfl rfl rfl rfl (by repeat (first | exact Sw.here | apply Sw.there)) (by rfl) ?_
    refine seq_pure (pure_assign rfl) rfl rfl ?_
    refine seq_done ?_
    refine nrm_seq ?_
    refine tri_ret ?_
    refine ret_seq ?_
    refine ret_block ?_
    refine ret_seq ?_
    refine ret_loopN ?_
    refine ret_block ?_
    refine ret_seq ?_
    refine ret_fin2 (res_cell rfl (load_ba rfl rfl (by repeat (first | exact List.Mem.head _ | apply List.Mem.tail)) (by rfl))) (res_tmp rfl) ?_
    (rw [tAt_no (by simp only [Tm.ks]; omega)] at hat; exact ⟨rfl, rfl, .inr ⟨hat, rfl⟩⟩)
   ·refine any_pure (i := 5) (listed' := [tt,tt,tt,tt,tt,tt,ff,ff,ff,ff,ff,ff,ff,ff,ff]) rfl (by repeat (first | exact np_ret | apply np_seq | apply np_block | apply np_loopN')) (pure_move rfl) rfl (by kernel_rfl) rfl rfl ?_
    refine any_pure (i := 6) (listed' := [tt,tt,tt,tt,tt,tt,tt,ff,ff,ff,ff,ff,ff,ff,ff]) rfl (by repeat (first | exact np_ret | apply np_seq | apply np_block | apply np_loopN')) (pure_move rfl) rfl (by kernel_rfl) rfl rfl ?_
    refine any_pure (i := 7) (listed' := [tt,tt,tt,tt,tt,tt,tt,tt,ff,ff,ff,ff,ff,ff,ff]) rfl (by repeat (first | exact np_ret | apply np_seq | apply np_block | apply np_loopN')) (pure_move rfl) rfl (by kernel_rfl) rfl rfl ?_
    refine any_pure (i := 8) (listed' := [tt,tt,tt,tt,tt,tt,tt,tt,tt,ff,ff,ff,ff,ff,ff]) rfl (by repeat (first | exact np_ret | apply np_seq | apply np_block | apply np_loopN')) (pure_indexAddrN rfl rfl rfl (by omega)) rfl (by kernel_rfl) rfl rfl ?_
    refine any_load (i := 9) (listed' := [tt,tt,tt,tt,tt,tt,tt,tt,tt,tt,ff,ff,ff,ff,ff]) rfl (by repeat (first | exact np_ret | apply np_seq | apply np_block | apply np_loopN')) (load_s rfl rfl (hatc _)) rfl (by kernel_rfl) rfl rfl ?_
    refine any_pure (i := 10) (listed' := [tt,tt,tt,tt,tt,tt,tt,tt,tt,tt,tt,ff,ff,ff,ff]) rfl (by repeat (first | exact np_ret | apply np_seq | apply np_block | apply np_loopN')) (pure_fieldAddr0 rfl) rfl (by kernel_rfl) rfl rfl ?_
    refine any_load (i := 11) (listed' := [tt,tt,tt,tt,tt,tt,tt,tt,tt,tt,tt,tt,ff,ff,ff]) rfl (by repeat (first | exact np_ret | apply np_seq | apply np_block | apply np_loopN')) (load_bs rfl rfl (by repeat (first | exact List.Mem.head _ | apply List.Mem.tail)) (by rfl)) rfl (by kernel_rfl) rfl rfl ?_
    refine any_pure (i := 12) (listed' := [tt,tt,tt,tt,tt,tt,tt,tt,tt,tt,tt,tt,tt,ff,ff]) rfl (by repeat (first | exact np_ret | apply np_seq | apply np_block | apply np_loopN')) (pure_len rfl rfl) rfl (by kernel_rfl) rfl rfl ?_
    refine any_bool (i := 13) (listed' := [tt,tt,tt,tt,tt,tt,tt,tt,tt,tt,tt,tt,tt,tt,ff]) rfl (by repeat (first | exact np_ret | apply np_seq | apply np_block | apply np_loopN')) (pure_geq rfl rfl) rfl (by kernel_rfl) rfl rfl (fun h78 => ?_) (fun h78 => ?_)
    ·refine any_pure (i := 14) (listed' := [tt,tt,tt,tt,tt,tt,tt,tt,tt,tt,tt,tt,tt,tt,tt]) rfl (by repeat (first | exact np_ret | apply np_seq | apply np_block | apply np_loopN')) (pure_pick_f rfl rfl) rfl (by kernel_rfl) rfl rfl ?_
     refine any_done (by kernel_rfl) ?_
     refine nrm_seq ?_
     refine tri_cond_t rfl ?_
     refine tri_seq ?_
     refine tri_region ?_
     refine seq_pure (pure_build rfl rfl) rfl rfl ?_
     refine seq_store rfl rfl rfl rfl rfl rfl (by repeat (first | exact Sw.here | apply Sw.there)) (by rfl) ?_
     refine seq_pure (pure_assign rfl) rfl rfl ?_
     refine seq_done ?_
     refine nrm_seq ?_
     refine tri_ret ?_
     refine ret_seq ?_
     refine ret_block ?_
     refine ret_seq ?_
     refine ret_loopN ?_
     refine ret_block ?_
     refine ret_seq ?_
     refine ret_fin2 (res_cell rfl (load_ba rfl rfl (by repeat (first | exact List.Mem.head _ | apply List.Mem.tail)) (by rfl))) (res_tmp rfl) ?_
     (rw [tAt_no (by simp only [Tm.ks]; omega)] at hat; exact ⟨rfl, rfl, .inr ⟨hat, rfl⟩⟩)
    ·refine any_pure (i := 14) (listed' := [tt,tt,tt,tt,tt,tt,tt,tt,tt,tt,tt,tt,tt,tt,tt]) rfl (by repeat (first | exact np_ret | apply np_seq | apply np_block | apply np_loopN')) (pure_pick_f rfl rfl) rfl (by kernel_rfl) rfl rfl ?_
     refine any_done (by kernel_rfl) ?_
     refine nrm_seq ?_
     refine tri_cond_f rfl ?_
     refine tri_skip ?_
     refine nrm_seq ?_
     (obtain ⟨j, rfl⟩ := Int.eq_ofNat_of_zero_le (show 0 ≤ pi by omega); obtain ⟨b', o', e, rfl, hl', hate, hre', hgb'⟩ := hsl.kidTm hkl (i := j) (by omega) (by omega); have hone' := hre'.one; refine tri_draw mixed rfl ?_)
     refine any_pure (i := 0) (listed' := [tt,ff,ff,ff,ff,ff,ff,ff,ff]) rfl (by repeat (first | exact np_ret | apply np_seq | apply np_block | apply np_loopN')) (pure_fieldAddr0 rfl) rfl (by kernel_rfl) rfl rfl ?_
     refine any_load (i := 1) (listed' := [tt,tt,ff,ff,ff,ff,ff,ff,ff]) rfl (by repeat (first | exact np_ret | apply np_seq | apply np_block | apply np_loopN')) (load_bs rfl rfl (by repeat (first | exact List.Mem.head _ | apply List.Mem.tail)) (by rfl)) rfl (by kernel_rfl) rfl rfl ?_
     refine any_pure (i := 2) (listed' := [tt,tt,tt,ff,ff,ff,ff,ff,ff]) rfl (by repeat (first | exact np_ret | apply np_seq | apply np_block | apply np_loopN')) (pure_move rfl) rfl (by kernel_rfl) rfl rfl ?_
     refine any_pure (i := 3) (listed' := [tt,tt,tt,tt,ff,ff,ff,ff,ff]) rfl (by repeat (first | exact np_ret | apply np_seq | apply np_block | apply np_loopN')) (pure_move rfl) rfl (by kernel_rfl) rfl rfl ?_
     refine any_pure (i := 4) (listed' := [tt,tt,tt,tt,tt,ff,ff,ff,ff]) rfl (by repeat (first | exact np_ret | apply np_seq | apply np_block | apply np_loopN')) (pure_indexAddrN rfl rfl rfl (by omega)) rfl (by kernel_rfl) rfl rfl ?_
     refine any_load (i := 5) (listed' := [tt,tt,tt,tt,tt,tt,ff,ff,ff]) rfl (by repeat (first | exact np_ret | apply np_seq | apply np_block | apply np_loopN')) (load_s rfl rfl (hatc _)) rfl (by kernel_rfl) rfl rfl ?_
     refine any_pure (i := 6) (listed' := [tt,tt,tt,tt,tt,tt,tt,ff,ff]) rfl (by repeat (first | exact np_ret | apply np_seq | apply np_block | apply np_loopN')) (pure_indexAddrN rfl rfl rfl (by omega)) rfl (by kernel_rfl) rfl rfl ?_
     refine any_load (i := 7) (listed' := [tt,tt,tt,tt,tt,tt,tt,tt,ff]) rfl (by repeat (first | exact np_ret | apply np_seq | apply np_block | apply np_loopN')) (load_a rfl rfl (hate _) hl') rfl (by kernel_rfl) rfl rfl ?_
     refine any_one (j := 8) (by kernel_rfl) ?_
     refine one_store rfl rfl rfl rfl hl' hone' rfl rfl (by kernel_rfl) (by repeat (first | exact Sw.here | apply Sw.there)) (by exact upd_all hl'.symm) ?_
     refine any_done (by kernel_rfl) ?_
     refine nrm_block ?_
     refine nrm_seq ?_
     refine tri_region ?_
     refine seq_pure (pure_move rfl) rfl rfl ?_
     refine seq_pure (pure_add rfl rfl (by omega) (by omega)) rfl rfl ?_
     refine seq_pure (pure_assign rfl) rfl rfl ?_
     refine seq_done ?_
     refine nrm_loopN (i + 1, ks[j], e) ?_ ?_ ?_
     ·(simp only [flat_snoc]; exact sub_mk (by repeat (first | exact SubE.nil | refine SubE.cons rfl ?_)) (by repeat (first | exact SubH.refl | exact SubH.nil | refine SubH.cons (by repeat (first | exact Pk.here | apply Pk.there)) ?_ | apply SubH.drop)))
     ·(dsimp only; exact ⟨by omega, hre', by rw [hat, tAt_go (by omega) (by simp only [Tm.ks]; omega)]; rfl⟩)
     ·(show path.length - (i + 1) < path.length - i; omega)
  ·refine seq_done ?_
   refine nrm_seq ?_
   refine tri_cond_f rfl ?_
   refine tri_exit ?_
   refine ext_seq ?_
   refine ext_loopN ?_
   refine ext_block_eq ?_
   refine nrm_seq ?_
   refine tri_seq ?_
   refine tri_region ?_
   refine seq_load (load_ba rfl rfl (by repeat (first | exact List.Mem.head _ | apply List.Mem.tail)) (by rfl)) rfl rfl ?_
   refine seq_store rfl rfl rfl rfl rfl rfl (by repeat (first | exact Sw.here | apply Sw.there)) (by rfl) ?_
   refine seq_pure (pure_assign rfl) rfl rfl ?_
   refine seq_done ?_
   refine nrm_seq ?_
   refine tri_ret ?_
   refine ret_fin2 (res_cell rfl (load_ba rfl rfl (by repeat (first | exact List.Mem.head _ | apply List.Mem.tail)) (by rfl))) (res_tmp rfl) ?_
   (obtain rfl : i = path.length := (by omega); rw [List.drop_length, tAt_nil] at hat; exact ⟨rfl, rfl, .inl ⟨_, _, hat, hre, rfl⟩⟩)
end Gw
end Go.Proofs.Yteneckdjdfnjoaa
namespace Go.Proofs.Yteneckdjdfnjoaa
open Go Go.RowKit
namespace Gw
set_option maxRecDepth 100000 in
theorem ownType_fn : ∀ (t : Ty) (G : IM) (cells : List Value), t.small → RTy G t cells →
  Fn Try.prog 40 [.agg ⟨cells⟩] [] G (Imm fun G' v => ∃ cells' F, v = .agg ⟨cells'⟩ ∧ STy (Dif G' G) t cells' F ∧ F.Nodup) := by
 refine Ty.ind fun k ks ih G cells hts hr => ?_
 simp only [Ty.small] at hts
 obtain ⟨hsm, hks⟩ := hts
 obtain ⟨p, c, es, rfl, hk, hsl, hkl⟩ := hr.open
 simp only [Ty.k, Ty.ks] at hk hsl hkl ⊢
 have hn := hsl.le
 refine fn_enter Try.func40 rfl Try.ntmps40 Try.results40 rfl ?_
 intro w0
 refine tri_seq ?_
 refine tri_region ?_
 (refine seq_step (step_box_a rfl rfl) rfl ?_; rintro _ ⟨b3, rfl⟩)
 (refine seq_step (step_alloc rfl) rfl ?_; rintro _ ⟨b4, rfl⟩)
 refine seq_done ?_
 refine nrm_seq ?_
 refine tri_seq ?_
 refine tri_region ?_
 refine seq_pure (pure_fieldAddr0 rfl) rfl rfl ?_
 refine seq_load (load_bs rfl rfl (by repeat (first | exact List.Mem.head _ | apply List.Mem.tail)) (by rfl)) rfl rfl ?_
 refine seq_pure (pure_build rfl rfl) rfl rfl ?_
 (refine seq_step (step_alloc rfl) rfl ?_; rintro _ ⟨b12, rfl⟩)
 refine seq_store rfl rfl rfl rfl rfl rfl (by repeat (first | exact Sw.here | apply Sw.there)) (by rfl) ?_
 refine seq_done ?_
 refine nrm_seq ?_
 refine tri_seq ?_
 refine tri_seq ?_
 refine tri_region ?_
 refine seq_pure (pure_fieldAddr0 rfl) rfl rfl ?_
 refine seq_load (load_bs rfl rfl (by repeat (first | exact List.Mem.head _ | apply List.Mem.tail)) (by rfl)) rfl rfl ?_
 refine seq_pure (pure_len rfl rfl) rfl rfl ?_
 refine seq_pure (pure_move rfl) rfl rfl ?_
 refine seq_done ?_
 refine nrm_seq ?_
 refine tri_block ?_
 (refine tri_nil 25 2 ?_; refine tri_loopN (fun (x : Nat × Option Addr × Nat × List (List Value) × List Nat × IM) => ⟨[(12, .int .i64 x.1), (11, .int .i64 ks.length), (10, .slice p ks.length c), (3, .pointer (some ⟨b12, 0, none⟩)), (2, .pointer (some ⟨b4, 0, none⟩))], [.blk b12 [.int .i64 k, .slice x.2.1 x.1 x.2.2.1], .slc x.2.1 x.2.2.1 25 2 x.1 x.2.2.2.1.flatten, .blk b4 [.int .i64 0, .slice none 0 0]], x.2.2.2.2.2⟩) (fun x => x.1 ≤ ks.length ∧ IMle G x.2.2.2.2.2 ∧ STyL (Dif x.2.2.2.2.2 G) (ks.take x.1) x.2.2.2.1 x.2.2.2.2.1 ∧ x.2.2.2.2.1.Nodup) (fun x => ks.length - x.1) (0, none, 0, [], [], G) ?_ ?_ ?_)
 ·(simp only [flat_snoc]; exact sub_mk (by repeat (first | exact SubE.nil | refine SubE.cons rfl ?_)) (by repeat (first | exact SubH.refl | exact SubH.nil | refine SubH.cons (by repeat (first | exact Pk.here | apply Pk.there)) ?_)))
 ·exact ⟨by simp, IMle.refl _, by simp [STyL], by simp⟩
 ·(rintro ⟨i, pn, cn, es', F, Gi⟩ ⟨hi, hle, hst, hnd⟩; simp only [] at hi hle hst hnd ⊢; replace hsl := hsl.mono hle; replace hkl := hkl.mono hle)
  refine tri_seq ?_
  refine tri_region ?_
  refine seq_bool (pure_lss rfl rfl) rfl rfl (fun h32 => ?_) (fun h32 => ?_)
  ·refine seq_done ?_
   refine nrm_seq ?_
   refine tri_seq ?_
   refine tri_cond_t rfl ?_
   refine tri_skip ?_
   refine nrm_seq ?_
   refine tri_seq ?_
   refine tri_block ?_
   refine tri_seq ?_
   refine tri_region ?_
   (obtain ⟨b, o, p2, c2, rfl, hat, hre, hgb⟩ := hsl.kidTy hkl (i := i) (by omega) (by omega); refine seq_pure (pure_indexAddrN rfl rfl rfl (by omega)) rfl rfl ?_)
   refine seq_load (load_a rfl rfl (hat _) rfl) rfl rfl ?_
   (refine seq_step (step_alloc rfl) rfl ?_; rintro _ ⟨b45, rfl⟩)
   refine seq_store rfl rfl rfl rfl rfl rfl (by repeat (first | exact Sw.here | apply Sw.there)) (by rfl) ?_
   refine seq_done ?_
   refine nrm_seq ?_
   refine tri_draw mixed rfl ?_
   refine any_pure (i := 0) (listed' := [tt,ff,ff,ff,ff,ff,ff,ff]) rfl (by repeat (first | exact np_ret | apply np_seq | apply np_block | apply np_loopN')) (pure_fieldAddr0 rfl) rfl (by kernel_rfl) rfl rfl ?_
   refine any_load (i := 1) (listed' := [tt,tt,ff,ff,ff,ff,ff,ff]) rfl (by repeat (first | exact np_ret | apply np_seq | apply np_block | apply np_loopN')) (load_bs rfl rfl (by repeat (first | exact List.Mem.head _ | apply List.Mem.tail)) (by rfl)) rfl (by kernel_rfl) rfl rfl ?_
   refine any_load (i := 2) (listed' := [tt,tt,tt,ff,ff,ff,ff,ff]) rfl (by repeat (first | exact np_ret | apply np_seq | apply np_block | apply np_loopN')) (load_ba rfl rfl (by repeat (first | exact List.Mem.head _ | apply List.Mem.tail)) (by rfl)) rfl (by kernel_rfl) rfl rfl ?_
   refine any_one (j := 3) (by kernel_rfl) ?_
   (refine one_imm (listed' := [tt,tt,tt,tt,ff,ff,ff,ff]) rfl rfl (ih _ (List.getElem_mem (by omega)) _ _ (Ty.smallL_mem hks _ (List.getElem_mem (by omega))) hre) rfl rfl rfl (fun v G1 hle1 hh => ?_); obtain ⟨cells', F', rfl, hs', hnd'⟩ := hh; obtain ⟨p3, c3, es3, rfl, _⟩ := hs'.R.open)
   refine any_one (j := 4) (by kernel_rfl) ?_
   (refine one_step0 (listed' := [tt,tt,tt,tt,tt,ff,ff,ff]) rfl (step_buildSlice rfl rfl rfl (by omega) (by unfold maxLen; omega) rfl) rfl rfl ?_; rintro _ ⟨b56, rfl⟩)
   refine any_one (j := 5) (by kernel_rfl) ?_
   refine one_append (listed' := [tt,tt,tt,tt,tt,tt,ff,ff]) rfl rfl rfl rfl rfl rfl (fun _ _ => by repeat (first | exact Sw.here | apply Sw.there)) (at_slc_all (by repeat (first | exact List.Mem.head _ | apply List.Mem.tail))) rfl (by simp [Value.oneCell']) (by unfold maxLen; omega) (by omega) rfl rfl (by repeat (first | exact HmOk.nil | apply HmOk.dep (by kernel_rfl) | apply HmOk.blk (by kernel_rfl) (by repeat (first | exact Pk.here | apply Pk.there)) (by repeat (first | exact List.Mem.head _ | apply List.Mem.tail)))) (fun pn' cn' => ?_)
   refine any_pure (i := 6) (listed' := [tt,tt,tt,tt,tt,tt,tt,ff]) rfl (by repeat (first | exact np_ret | apply np_seq | apply np_block | apply np_loopN')) (pure_fieldAddr0 rfl) rfl (by kernel_rfl) rfl rfl ?_
   refine any_one (j := 7) (by kernel_rfl) ?_
   refine one_store (listed' := [tt,tt,tt,tt,tt,tt,tt,tt]) rfl rfl rfl rfl rfl rfl rfl rfl (by kernel_rfl) (by repeat (first | exact Sw.here | apply Sw.there)) (by rfl) ?_
   refine any_done (by kernel_rfl) ?_
   refine nrm_block ?_
   refine nrm_seq ?_
   refine tri_region ?_
   refine seq_pure (pure_add rfl rfl (by omega) (by omega)) rfl rfl ?_
   refine seq_pure (pure_move rfl) rfl rfl ?_
   refine seq_done ?_
   refine nrm_loopN (i + 1, pn', cn', es' ++ [[.int .i64 ks[i].k, .slice p3 ks[i].ks.length c3]], F ++ F', G1) ?_ ?_ ?_
   ·(simp only [flat_snoc]; exact sub_mk (by repeat (first | exact SubE.nil | refine SubE.cons rfl ?_)) (by repeat (first | exact SubH.refl | exact SubH.nil | refine SubH.cons (by repeat (first | exact Pk.here | apply Pk.there)) ?_)))
   ·exact ⟨by omega, hle.trans hle1, STyL.step hst hnd hle hle1 (by omega) hs' hnd'⟩
   ·(show ks.length - (i + 1) < ks.length - i; omega)
  ·refine seq_done ?_
   refine nrm_seq ?_
   refine tri_seq ?_
   refine tri_cond_f rfl ?_
   refine tri_exit ?_
   refine ext_seq ?_
   refine ext_loopN ?_
   refine ext_block_eq ?_
   refine nrm_seq ?_
   refine tri_seq ?_
   refine tri_region ?_
   refine seq_load (load_ba rfl rfl (by repeat (first | exact List.Mem.head _ | apply List.Mem.tail)) (by rfl)) rfl rfl ?_
   refine seq_store rfl rfl rfl rfl rfl rfl (by repeat (first | exact Sw.here | apply Sw.there)) (by rfl) ?_
   refine seq_done ?_
   refine nrm_seq ?_
   (refine ret_freeze (by repeat (first | exact Pk.here | apply Pk.there)) (fun G2 hle2 hsl2 hno2 => ?_); obtain rfl : i = ks.length := by omega)
   refine tri_ret ?_
   refine ret_fin1 (res_cell rfl (load_ba rfl rfl (by repeat (first | exact List.Mem.head _ | apply List.Mem.tail)) (by rfl))) ?_
   (rw [List.take_length] at hst; obtain ⟨F2, hf1, hf2⟩ := STy.fin hst hnd hle hle2 hsl2 hno2 hk; exact ⟨rfl, _, F2, rfl, hf1, hf2⟩)
end Gw
end Go.Proofs.Yteneckdjdfnjoaa
namespace Go.Proofs.Yteneckdjdfnjoaa
open Go Go.RowKit
namespace Gw
set_option maxHeartbeats 0 in
set_option maxRecDepth 100000 in
theorem l1Copy_fn : ∀ (t : Ty) (G : IM) (cells : List Value), t.small → RTy G t cells → Fn Try.prog 78 [.agg ⟨cells⟩] [] G (ToTy t G) := by
 refine Ty.ind fun k ks ih G cells hts hr => ?_
 simp only [Ty.small] at hts
 obtain ⟨hsm, hks⟩ := hts
 obtain ⟨p, c, es, rfl, hk, hsl, hkl⟩ := hr.open
 simp only [Ty.k, Ty.ks] at hk hsl hkl ⊢
 have hn := hsl.le
 refine fn_enter Try.func78 rfl Try.ntmps78 Try.results78 rfl ?_
 intro w0
 refine tri_seq ?_
 refine tri_region ?_
 (refine seq_step (step_box_a rfl rfl) rfl ?_; rintro _ ⟨b3, rfl⟩)
 (refine seq_step (step_alloc rfl) rfl ?_; rintro _ ⟨b4, rfl⟩)
 refine seq_done ?_
 refine nrm_seq ?_
 refine tri_seq ?_
 refine tri_region ?_
 refine seq_pure (pure_fieldAddr0 rfl) rfl rfl ?_
 refine seq_load (load_bs rfl rfl (by repeat (first | exact List.Mem.head _ | apply List.Mem.tail)) (by rfl)) rfl rfl ?_
 refine seq_pure (pure_build rfl rfl) rfl rfl ?_
 (refine seq_step (step_alloc rfl) rfl ?_; rintro _ ⟨b12, rfl⟩)
 refine seq_store rfl rfl rfl rfl rfl rfl (by repeat (first | exact Sw.here | apply Sw.there)) (by rfl) ?_
 refine seq_done ?_
 refine nrm_seq ?_
 refine tri_seq ?_
 refine tri_seq ?_
 refine tri_region ?_
 refine seq_pure (pure_assign rfl) rfl rfl ?_
 refine seq_done ?_
 refine nrm_seq ?_
 refine tri_block ?_
 (refine tri_nil 25 2 ?_; refine tri_loopN (fun (x : Nat × Option Addr × Nat × List (List Value) × List Nat × IM) => ⟨[(4, .int .i64 x.1), (3, .pointer (some ⟨b12, 0, none⟩)), (1, .pointer (some ⟨b3, 0, none⟩)), (2, .pointer (some ⟨b4, 0, none⟩))], [.blk b12 [.int .i64 k, .slice x.2.1 x.1 x.2.2.1], .slc x.2.1 x.2.2.1 25 2 x.1 x.2.2.2.1.flatten, .blk b4 [.int .i64 0, .slice none 0 0], .blk b3 [.int .i64 k, .slice p ks.length c]], x.2.2.2.2.2⟩) (fun x => x.1 ≤ ks.length ∧ IMle G x.2.2.2.2.2 ∧ STyL (Dif x.2.2.2.2.2 G) (ks.take x.1) x.2.2.2.1 x.2.2.2.2.1 ∧ x.2.2.2.2.1.Nodup) (fun x => ks.length - x.1) (0, none, 0, [], [], G) ?_ ?_ ?_)
 ·(simp only [flat_snoc]; exact sub_mk (by repeat (first | exact SubE.nil | refine SubE.cons rfl ?_)) (by repeat (first | exact SubH.refl | exact SubH.nil | refine SubH.cons (by repeat (first | exact Pk.here | apply Pk.there)) ?_ | apply SubH.drop)))
 ·exact ⟨by simp, IMle.refl _, by simp [STyL], by simp⟩
 ·(rintro ⟨i, pn, cn, es', F, Gi⟩ ⟨hi, hle, hst, hnd⟩; simp only [] at hi hle hst hnd ⊢; replace hsl := hsl.mono hle; replace hkl := hkl.mono hle)
  refine tri_seq ?_
  refine tri_seq ?_
  refine tri_region ?_
  refine seq_pure (pure_move rfl) rfl rfl ?_
  refine seq_pure (pure_fieldAddr0 rfl) rfl rfl ?_
  refine seq_load (load_bs rfl rfl (by repeat (first | exact List.Mem.head _ | apply List.Mem.tail)) (by rfl)) rfl rfl ?_
  refine seq_pure (pure_len rfl rfl) rfl rfl ?_
  refine seq_bool (pure_lss rfl rfl) rfl rfl (fun h34 => ?_) (fun h34 => ?_)
  ·refine seq_done ?_
   refine nrm_seq ?_
   refine tri_cond_t rfl ?_
   refine tri_skip ?_
   refine nrm_seq ?_
   refine tri_seq ?_
   refine tri_block ?_
   (obtain ⟨b, o, p2, c2, rfl, hat, hre, hgb⟩ := hsl.kidTy hkl (i := i) (by omega) (by omega); refine tri_draw mixed rfl ?_)
   refine any_pure (i := 0) (listed' := [tt,ff,ff,ff,ff,ff,ff,ff,ff,ff,ff,ff]) rfl (by repeat (first | exact np_ret | apply np_seq | apply np_block | apply np_loopN')) (pure_fieldAddr0 rfl) rfl (by kernel_rfl) rfl rfl ?_
   refine any_load (i := 1) (listed' := [tt,tt,ff,ff,ff,ff,ff,ff,ff,ff,ff,ff]) rfl (by repeat (first | exact np_ret | apply np_seq | apply np_block | apply np_loopN')) (load_bs rfl rfl (by repeat (first | exact List.Mem.head _ | apply List.Mem.tail)) (by rfl)) rfl (by kernel_rfl) rfl rfl ?_
   refine any_pure (i := 2) (listed' := [tt,tt,tt,ff,ff,ff,ff,ff,ff,ff,ff,ff]) rfl (by repeat (first | exact np_ret | apply np_seq | apply np_block | apply np_loopN')) (pure_fieldAddr0 rfl) rfl (by kernel_rfl) rfl rfl ?_
   refine any_load (i := 3) (listed' := [tt,tt,tt,tt,ff,ff,ff,ff,ff,ff,ff,ff]) rfl (by repeat (first | exact np_ret | apply np_seq | apply np_block | apply np_loopN')) (load_bs rfl rfl (by repeat (first | exact List.Mem.head _ | apply List.Mem.tail)) (by rfl)) rfl (by kernel_rfl) rfl rfl ?_
   refine any_pure (i := 4) (listed' := [tt,tt,tt,tt,tt,ff,ff,ff,ff,ff,ff,ff]) rfl (by repeat (first | exact np_ret | apply np_seq | apply np_block | apply np_loopN')) (pure_move rfl) rfl (by kernel_rfl) rfl rfl ?_
   refine any_pure (i := 5) (listed' := [tt,tt,tt,tt,tt,tt,ff,ff,ff,ff,ff,ff]) rfl (by repeat (first | exact np_ret | apply np_seq | apply np_block | apply np_loopN')) (pure_indexAddrN rfl rfl rfl (by omega)) rfl (by kernel_rfl) rfl rfl ?_
   refine any_load (i := 6) (listed' := [tt,tt,tt,tt,tt,tt,tt,ff,ff,ff,ff,ff]) rfl (by repeat (first | exact np_ret | apply np_seq | apply np_block | apply np_loopN')) (load_a rfl rfl (hat _) rfl) rfl (by kernel_rfl) rfl rfl ?_
   refine any_one (j := 7) (by kernel_rfl) ?_
   (refine one_imm (listed' := [tt,tt,tt,tt,tt,tt,tt,tt,ff,ff,ff,ff]) rfl rfl (ih ks[i] (List.getElem_mem (by omega)) _ _ (Ty.smallL_mem hks _ (List.getElem_mem (by omega))) hre) rfl rfl rfl (fun v G1 hle1 hh => ?_); obtain ⟨cells', F', rfl, hs', hnd'⟩ := hh; obtain ⟨p3, c3, es3, rfl, _⟩ := hs'.R.open)
   refine any_one (j := 8) (by kernel_rfl) ?_
   (refine one_step0 (listed' := [tt,tt,tt,tt,tt,tt,tt,tt,tt,ff,ff,ff]) rfl (step_buildSlice rfl rfl rfl (by omega) (by unfold maxLen; omega) rfl) rfl rfl ?_; rintro _ ⟨b53, rfl⟩)
   refine any_one (j := 9) (by kernel_rfl) ?_
   refine one_append (listed' := [tt,tt,tt,tt,tt,tt,tt,tt,tt,tt,ff,ff]) rfl rfl rfl rfl rfl rfl (fun _ _ => by repeat (first | exact Sw.here | apply Sw.there)) (at_slc_all (by repeat (first | exact List.Mem.head _ | apply List.Mem.tail))) rfl (by simp [Value.oneCell']) (by unfold maxLen; omega) (by omega) rfl rfl (by repeat (first | exact HmOk.nil | apply HmOk.dep (by decide +kernel) | apply HmOk.blk (by decide +kernel) (by repeat (first | exact Pk.here | apply Pk.there)) (by repeat (first | exact List.Mem.head _ | apply List.Mem.tail)))) (fun pn' cn' => ?_)
   refine any_pure (i := 10) (listed' := [tt,tt,tt,tt,tt,tt,tt,tt,tt,tt,tt,ff]) rfl (by repeat (first | exact np_ret | apply np_seq | apply np_block | apply np_loopN')) (pure_fieldAddr0 rfl) rfl (by kernel_rfl) rfl rfl ?_
   refine any_one (j := 11) (by kernel_rfl) ?_
   refine one_store (listed' := [tt,tt,tt,tt,tt,tt,tt,tt,tt,tt,tt,tt]) rfl rfl rfl rfl rfl rfl rfl rfl (by kernel_rfl) (by repeat (first | exact Sw.here | apply Sw.there)) (by rfl) ?_
   refine any_done (by kernel_rfl) ?_
   refine nrm_block ?_
   refine nrm_seq ?_
   refine tri_region ?_
   refine seq_pure (pure_move rfl) rfl rfl ?_
   refine seq_pure (pure_add rfl rfl (by omega) (by omega)) rfl rfl ?_
   refine seq_pure (pure_assign rfl) rfl rfl ?_
   refine seq_done ?_
   refine nrm_loopN (i + 1, pn', cn', es' ++ [[.int .i64 ks[i].k, .slice p3 ks[i].ks.length c3]], F ++ F', G1) ?_ ?_ ?_
   ·(simp only [flat_snoc]; exact sub_mk (by repeat (first | exact SubE.nil | refine SubE.cons rfl ?_)) (by repeat (first | exact SubH.refl | exact SubH.nil | refine SubH.cons (by repeat (first | exact Pk.here | apply Pk.there)) ?_ | apply SubH.drop)))
   ·exact ⟨by omega, hle.trans hle1, STyL.step hst hnd hle hle1 (by omega) hs' hnd'⟩
   ·(show ks.length - (i + 1) < ks.length - i; omega)
  ·refine seq_done ?_
   refine nrm_seq ?_
   refine tri_cond_f rfl ?_
   refine tri_exit ?_
   refine ext_seq ?_
   refine ext_loopN ?_
   refine ext_block_eq ?_
   refine nrm_seq ?_
   refine tri_seq ?_
   refine tri_region ?_
   refine seq_load (load_ba rfl rfl (by repeat (first | exact List.Mem.head _ | apply List.Mem.tail)) (by rfl)) rfl rfl ?_
   refine seq_store rfl rfl rfl rfl rfl rfl (by repeat (first | exact Sw.here | apply Sw.there)) (by rfl) ?_
   refine seq_done ?_
   refine nrm_seq ?_
   (refine ret_freeze (by repeat (first | exact Pk.here | apply Pk.there)) (fun G2 hle2 hsl2 hno2 => ?_); obtain rfl : i = ks.length := (by omega))
   refine tri_ret ?_
   refine ret_fin1 (res_cell rfl (load_ba rfl rfl (by repeat (first | exact List.Mem.head _ | apply List.Mem.tail)) (by rfl))) ?_
   (rw [List.take_length] at hst; obtain ⟨F2, hf1, hf2⟩ := STy.fin hst hnd hle hle2 hsl2 hno2 hk; exact ⟨rfl, _, F2, rfl, hf1, hf2⟩)
set_option maxHeartbeats 0 in
set_option maxRecDepth 100000 in
theorem l2Copy_fn : ∀ (t : Tm) (G : IM) (cells : List Value), t.small → RTm G t cells → Fn Try.prog 61 [.agg ⟨cells⟩] [] G (ToTm t G) := by
 refine Tm.ind fun k nm num ty fr lb ks ih G cells hts hr => ?_
 have hone := hr.one
 simp only [Tm.small] at hts
 obtain ⟨hnm, hty', hfr', hsm, hks⟩ := hts
 obtain ⟨tk, tks⟩ := ty
 obtain ⟨fk, fks⟩ := fr
 obtain ⟨pt, ct, pf, cf, p, c, es, rfl, hk, hnum, hlb, hty, hfr, hsl, hkl⟩ := hr.open9
 have hn := hsl.le
 have hT := l1Copy_fn (.mk tk tks) G _ hty' hty
 refine fn_enter Try.func61 rfl Try.ntmps61 Try.results61 rfl ?_
 intro w0
 refine tri_seq ?_
 refine tri_region ?_
 (refine seq_step (step_box_a rfl rfl) rfl ?_; rintro _ ⟨b3, rfl⟩)
 (refine seq_step (step_alloc rfl) rfl ?_; rintro _ ⟨b4, rfl⟩)
 refine seq_done ?_
 refine nrm_seq ?_
 refine tri_seq ?_
 refine tri_region ?_
 refine seq_load (load_ba rfl rfl (by repeat (first | exact List.Mem.head _ | apply List.Mem.tail)) (by rfl)) rfl rfl ?_
 (refine seq_step (step_alloc rfl) rfl ?_; rintro _ ⟨b10, rfl⟩)
 refine seq_store rfl rfl rfl rfl rfl rfl (by repeat (first | exact Sw.here | apply Sw.there)) (by rfl) ?_
 refine seq_done ?_
 refine nrm_seq ?_
 refine tri_seq ?_
 refine tri_region ?_
 refine seq_pure (pure_fieldAddr0 rfl) rfl rfl ?_
 refine seq_load (load_ba rfl rfl (by repeat (first | exact List.Mem.head _ | apply List.Mem.tail)) (by rfl)) rfl rfl ?_
 (refine seq_imm rfl hT rfl rfl (fun v G1 hle1 hh => ?_); obtain ⟨cs1, F1, rfl, hs1, hn1⟩ := hh; obtain ⟨p1, c1, rfl, _⟩ := hs1.open; have hF := l1Copy_fn (.mk fk fks) G1 _ hfr' (hfr.mono hle1))
 refine seq_pure (pure_fieldAddr0 rfl) rfl rfl ?_
 refine seq_store rfl rfl rfl rfl rfl rfl (by repeat (first | exact Sw.here | apply Sw.there)) (by rfl) ?_
 refine seq_done ?_
 refine nrm_seq ?_
 refine tri_seq ?_
 refine tri_region ?_
 refine seq_pure (pure_fieldAddr0 rfl) rfl rfl ?_
 refine seq_load (load_ba rfl rfl (by repeat (first | exact List.Mem.head _ | apply List.Mem.tail)) (by rfl)) rfl rfl ?_
 (refine seq_imm rfl hF rfl rfl (fun v G2 hle2 hh => ?_); obtain ⟨cs2, F2, rfl, hs2, hn2⟩ := hh; obtain ⟨p2, c2, rfl, _⟩ := hs2.open; replace hsl := hsl.mono (hle1.trans hle2); replace hkl := hkl.mono (hle1.trans hle2))
 refine seq_pure (pure_fieldAddr0 rfl) rfl rfl ?_
 refine seq_store rfl rfl rfl rfl rfl rfl (by repeat (first | exact Sw.here | apply Sw.there)) (by rfl) ?_
 refine seq_done ?_
 refine nrm_seq ?_
 refine tri_seq ?_
 refine tri_region ?_
 refine seq_pure (pure_fieldAddr0 rfl) rfl rfl ?_
 refine seq_store rfl rfl rfl rfl rfl rfl (by repeat (first | exact Sw.here | apply Sw.there)) (by rfl) ?_
 refine seq_done ?_
 refine nrm_seq ?_
 refine tri_seq ?_
 refine tri_seq ?_
 refine tri_region ?_
 refine seq_pure (pure_assign rfl) rfl rfl ?_
 refine seq_done ?_
 refine nrm_seq ?_
 refine tri_block ?_
 (refine tri_nil 28 9 ?_; refine tri_loopN (fun (x : Nat × Option Addr × Nat × List (List Value) × List Nat × IM) => ⟨[(4, .int .i64 x.1), (3, .pointer (some ⟨b10, 0, none⟩)), (1, .pointer (some ⟨b3, 0, none⟩)), (2, .pointer (some ⟨b4, 0, none⟩))], [.blk b10 [.int .i64 k, .string nm, .int .i64 num, .int .i64 tk, .slice p1 tks.length c1, .int .i64 fk, .slice p2 fks.length c2, .int .i64 lb, .slice x.2.1 x.1 x.2.2.1], .slc x.2.1 x.2.2.1 28 9 x.1 x.2.2.2.1.flatten, .blk b4 [.int .i64 0, .string ⟨⟨[]⟩⟩, .int .i64 0, .int .i64 0, .slice none 0 0, .int .i64 0, .slice none 0 0, .int .i64 0, .slice none 0 0], .blk b3 [.int .i64 k, .string nm, .int .i64 num, .int .i64 tk, .slice pt tks.length ct, .int .i64 fk, .slice pf fks.length cf, .int .i64 lb, .slice p ks.length c]], x.2.2.2.2.2⟩) (fun x => x.1 ≤ ks.length ∧ IMle G2 x.2.2.2.2.2 ∧ STmL (Dif x.2.2.2.2.2 G2) (ks.take x.1) x.2.2.2.1 x.2.2.2.2.1 ∧ x.2.2.2.2.1.Nodup) (fun x => ks.length - x.1) (0, none, 0, [], [], G2) ?_ ?_ ?_)
 ·(simp only [flat_snoc]; exact sub_mk (by repeat (first | exact SubE.nil | refine SubE.cons rfl ?_)) (by repeat (first | exact SubH.refl | exact SubH.nil | refine SubH.cons (by repeat (first | exact Pk.here | apply Pk.there)) ?_ | apply SubH.drop)))
 ·exact ⟨by simp, IMle.refl _, by simp [STmL], by simp⟩
 ·(rintro ⟨i, pn, cn, es', F, Gi⟩ ⟨hi, hle, hst, hnd⟩; simp only [] at hi hle hst hnd ⊢; replace hsl := hsl.mono hle; replace hkl := hkl.mono hle)
  refine tri_seq ?_
  refine tri_seq ?_
  refine tri_region ?_
  refine seq_pure (pure_move rfl) rfl rfl ?_
  refine seq_pure (pure_fieldAddr0 rfl) rfl rfl ?_
  refine seq_load (load_bs rfl rfl (by repeat (first | exact List.Mem.head _ | apply List.Mem.tail)) (by rfl)) rfl rfl ?_
  refine seq_pure (pure_len rfl rfl) rfl rfl ?_
  refine seq_bool (pure_lss rfl rfl) rfl rfl (fun h56 => ?_) (fun h56 => ?_)
  ·refine seq_done ?_
   refine nrm_seq ?_
   refine tri_cond_t rfl ?_
   refine tri_skip ?_
   refine nrm_seq ?_
   refine tri_seq ?_
   refine tri_block ?_
   (obtain ⟨b, o, e, rfl, hl, hat, hre, hgb⟩ := hsl.kidTm hkl (i := i) (by omega) (by omega); have hone := hre.one; refine tri_draw mixed rfl ?_)
   refine any_pure (i := 0) (listed' := [tt,ff,ff,ff,ff,ff,ff,ff,ff,ff,ff,ff]) rfl (by repeat (first | exact np_ret | apply np_seq | apply np_block | apply np_loopN')) (pure_fieldAddr0 rfl) rfl (by kernel_rfl) rfl rfl ?_
   refine any_load (i := 1) (listed' := [tt,tt,ff,ff,ff,ff,ff,ff,ff,ff,ff,ff]) rfl (by repeat (first | exact np_ret | apply np_seq | apply np_block | apply np_loopN')) (load_bs rfl rfl (by repeat (first | exact List.Mem.head _ | apply List.Mem.tail)) (by rfl)) rfl (by kernel_rfl) rfl rfl ?_
   refine any_pure (i := 2) (listed' := [tt,tt,tt,ff,ff,ff,ff,ff,ff,ff,ff,ff]) rfl (by repeat (first | exact np_ret | apply np_seq | apply np_block | apply np_loopN')) (pure_fieldAddr0 rfl) rfl (by kernel_rfl) rfl rfl ?_
   refine any_load (i := 3) (listed' := [tt,tt,tt,tt,ff,ff,ff,ff,ff,ff,ff,ff]) rfl (by repeat (first | exact np_ret | apply np_seq | apply np_block | apply np_loopN')) (load_bs rfl rfl (by repeat (first | exact List.Mem.head _ | apply List.Mem.tail)) (by rfl)) rfl (by kernel_rfl) rfl rfl ?_
   refine any_pure (i := 4) (listed' := [tt,tt,tt,tt,tt,ff,ff,ff,ff,ff,ff,ff]) rfl (by repeat (first | exact np_ret | apply np_seq | apply np_block | apply np_loopN')) (pure_move rfl) rfl (by kernel_rfl) rfl rfl ?_
   refine any_pure (i := 5) (listed' := [tt,tt,tt,tt,tt,tt,ff,ff,ff,ff,ff,ff]) rfl (by repeat (first | exact np_ret | apply np_seq | apply np_block | apply np_loopN')) (pure_indexAddrN rfl rfl rfl (by omega)) rfl (by kernel_rfl) rfl rfl ?_
   refine any_load (i := 6) (listed' := [tt,tt,tt,tt,tt,tt,tt,ff,ff,ff,ff,ff]) rfl (by repeat (first | exact np_ret | apply np_seq | apply np_block | apply np_loopN')) (load_a rfl rfl (hat _) hl) rfl (by kernel_rfl) rfl rfl ?_
   refine any_one (j := 7) (by kernel_rfl) ?_
   (refine one_imm (listed' := [tt,tt,tt,tt,tt,tt,tt,tt,ff,ff,ff,ff]) rfl rfl (ih ks[i] (List.getElem_mem (by omega)) _ _ (Tm.smallL_mem hks _ (List.getElem_mem (by omega))) hre) rfl rfl rfl (fun v G3 hle3 hh => ?_); obtain ⟨cells', F', rfl, hs', hnd'⟩ := hh; obtain ⟨qt, dt, et', qf, df, ef', q3, d3, es3, rfl, _⟩ := hs'.R.open)
   refine any_one (j := 8) (by kernel_rfl) ?_
   (refine one_step0 (listed' := [tt,tt,tt,tt,tt,tt,tt,tt,tt,ff,ff,ff]) rfl (step_buildSlice rfl rfl rfl (by omega) (by unfold maxLen; omega) rfl) rfl rfl ?_; rintro _ ⟨b75, rfl⟩)
   refine any_one (j := 9) (by kernel_rfl) ?_
   refine one_append (listed' := [tt,tt,tt,tt,tt,tt,tt,tt,tt,tt,ff,ff]) rfl rfl rfl rfl rfl rfl (fun _ _ => by repeat (first | exact Sw.here | apply Sw.there)) (at_slc_all (by repeat (first | exact List.Mem.head _ | apply List.Mem.tail))) rfl (by simp [Value.oneCell']) (by unfold maxLen; omega) (by omega) rfl rfl (by repeat (first | exact HmOk.nil | apply HmOk.dep (by decide +kernel) | apply HmOk.blk (by decide +kernel) (by repeat (first | exact Pk.here | apply Pk.there)) (by repeat (first | exact List.Mem.head _ | apply List.Mem.tail)))) (fun pn' cn' => ?_)
   refine any_pure (i := 10) (listed' := [tt,tt,tt,tt,tt,tt,tt,tt,tt,tt,tt,ff]) rfl (by repeat (first | exact np_ret | apply np_seq | apply np_block | apply np_loopN')) (pure_fieldAddr0 rfl) rfl (by kernel_rfl) rfl rfl ?_
   refine any_one (j := 11) (by kernel_rfl) ?_
   refine one_store (listed' := [tt,tt,tt,tt,tt,tt,tt,tt,tt,tt,tt,tt]) rfl rfl rfl rfl rfl rfl rfl rfl (by kernel_rfl) (by repeat (first | exact Sw.here | apply Sw.there)) (by rfl) ?_
   refine any_done (by kernel_rfl) ?_
   refine nrm_block ?_
   refine nrm_seq ?_
   refine tri_region ?_
   refine seq_pure (pure_move rfl) rfl rfl ?_
   refine seq_pure (pure_add rfl rfl (by omega) (by omega)) rfl rfl ?_
   refine seq_pure (pure_assign rfl) rfl rfl ?_
   refine seq_done ?_
   refine nrm_loopN (i + 1, pn', cn', es' ++ [[.int .i64 ks[i].k, .string ks[i].nm, .int .i64 ks[i].num, .int .i64 ks[i].ty.k, .slice qt ks[i].ty.ks.length dt, .int .i64 ks[i].fr.k, .slice qf ks[i].fr.ks.length df, .int .i64 ks[i].lb, .slice q3 ks[i].ks.length d3]], F ++ F', G3) ?_ ?_ ?_
   ·(simp only [flat_snoc]; exact sub_mk (by repeat (first | exact SubE.nil | refine SubE.cons rfl ?_)) (by repeat (first | exact SubH.refl | exact SubH.nil | refine SubH.cons (by repeat (first | exact Pk.here | apply Pk.there)) ?_ | apply SubH.drop)))
   ·exact ⟨by omega, hle.trans hle3, STmL.step hst hnd hle hle3 (by omega) hs' hnd'⟩
   ·(show ks.length - (i + 1) < ks.length - i; omega)
  ·refine seq_done ?_
   refine nrm_seq ?_
   refine tri_cond_f rfl ?_
   refine tri_exit ?_
   refine ext_seq ?_
   refine ext_loopN ?_
   refine ext_block_eq ?_
   refine nrm_seq ?_
   refine tri_seq ?_
   refine tri_region ?_
   refine seq_load (load_ba rfl rfl (by repeat (first | exact List.Mem.head _ | apply List.Mem.tail)) (by rfl)) rfl rfl ?_
   refine seq_store rfl rfl rfl rfl rfl rfl (by repeat (first | exact Sw.here | apply Sw.there)) (by rfl) ?_
   refine seq_done ?_
   refine nrm_seq ?_
   (refine ret_freeze (by repeat (first | exact Pk.here | apply Pk.there)) (fun G4 hle4 hsl4 hno4 => ?_); obtain rfl : i = ks.length := (by omega))
   refine tri_ret ?_
   refine ret_fin1 (res_cell rfl (load_ba rfl rfl (by repeat (first | exact List.Mem.head _ | apply List.Mem.tail)) (by rfl))) ?_
   (rw [List.take_length] at hst; obtain ⟨F3, hf1, hf2⟩ := STmS.fin hst hnd hle hle4 hsl4 hno4; obtain ⟨F5, hg1, hg2⟩ := STm.mk3 (nm := nm) hk hnum hlb hle1 hle2 (hle.trans hle4) hs1 hn1 hs2 hn2 hf1 hf2; exact ⟨rfl, _, F5, rfl, hg1, hg2⟩)
end Gw
end Go.Proofs.Yteneckdjdfnjoaa
namespace Go.Proofs.Yteneckdjdfnjoaa
open Go Go.RowKit
namespace Gw
mutual
def mMap (g : Tm → Tm) : Tm → Tm
 | .mk k nm num ty fr lb ks => g (.mk k nm num ty fr lb (mMapL g ks))
def mMapL (g : Tm → Tm) : List Tm → List Tm
 | [] => []
 | t :: ts => mMap g t :: mMapL g ts
end
theorem mMapL_eq (g : Tm → Tm) : ∀ ks, mMapL g ks = ks.map (mMap g)
 | [] => rfl
 | t :: ts => by rw [mMapL, mMapL_eq g ts, List.map_cons]
mutual
theorem mMap_id : ∀ t, mMap id t = t
 | .mk k nm num ty fr lb ks => by rw [mMap, mMapL_id ks]; rfl
theorem mMapL_id : ∀ ks, mMapL id ks = ks
 | [] => rfl
 | t :: ts => by rw [mMapL, mMap_id t, mMapL_id ts]
end
/-- A term put together, its operands first. -/
theorem STm.mk3k {G G1 G2 G3 : IM} {k : Int} {nm : ByteArray} {num : Int} {ty fr : Ty} {lb : Int} {ks : List Tm} {tc fc : List Value} {p : Option Addr} {c : Nat} {F1 F2 F3 : List Nat} (hk : I64 k) (hnum : I64 num) (hlb : I64 lb)
  (hl1 : IMle G G1) (hl2 : IMle G1 G2) (hl3 : IMle G2 G3) (h3 : STmS (Dif G1 G) ks p c F3) (n3 : F3.Nodup) (h1 : STy (Dif G2 G1) ty tc F1) (n1 : F1.Nodup) (h2 : STy (Dif G3 G2) fr fc F2) (n2 : F2.Nodup) :
  ∃ F, STm (Dif G3 G) (.mk k nm num ty fr lb ks) ([.int .i64 k, .string nm, .int .i64 num] ++ tc ++ fc ++ [.int .i64 lb, .slice p ks.length c]) F ∧ F.Nodup := by
 obtain ⟨es, Fs, e1, e2, rfl, e4⟩ := h3
 have i3 : ∀ b ∈ vfp p ++ Fs, Dif G1 G b ≠ none := by
  intro b hb
  rcases List.mem_append.1 hb with hb | hb
  ·exact e4 b hb
  ·exact e2.inG b hb
 have a1 : IMle (Dif G1 G) (Dif G3 G) := Dif.mono (hl2.trans hl3)
 have a2 : IMle (Dif G2 G1) (Dif G3 G) := fun b l h => Dif.mono hl3 b l (Dif.anti hl1 b l h)
 have a3 : IMle (Dif G3 G2) (Dif G3 G) := Dif.anti (hl1.trans hl2)
 refine ⟨F1 ++ (F2 ++ (vfp p ++ Fs)), ?_, ?_⟩
 ·simp only [STm]
  exact ⟨tc, fc, p, c, es, F1, F2, Fs, rfl, hk, hnum, hlb, h1.mono a2, h2.mono a3, e1.mono a1, e2.mono a1, rfl, dmono a1 e4⟩
 ·rw [List.nodup_append, List.nodup_append]
  refine ⟨n1, ⟨n2, n3, ?_⟩, ?_⟩
  ·rintro x hx y hy rfl
   exact dif_no (dmono (Dif.mono hl2) i3) h2.inG x hy x hx rfl
  ·rintro x hx y hy rfl
   rcases List.mem_append.1 hy with hy | hy
   ·exact dif_no (dmono (Dif.anti hl1) h1.inG) h2.inG x hx x hy rfl
   ·exact dif_no i3 h1.inG x hy x hx rfl
/- What is asked of every node that comes to the change. -/
mutual
def mOk (Q : Tm → Prop) (g : Tm → Tm) : Tm → Prop
 | .mk k nm num ty fr lb ks => mOkL Q g ks ∧ Q (.mk k nm num ty fr lb (mMapL g ks))
def mOkL (Q : Tm → Prop) (g : Tm → Tm) : List Tm → Prop
 | [] => True
 | t :: ts => mOk Q g t ∧ mOkL Q g ts
end
theorem mOkL_mem {Q : Tm → Prop} {g : Tm → Tm} : ∀ {ts : List Tm}, mOkL Q g ts → ∀ t ∈ ts, mOk Q g t
 | [], _, t, h => by simp at h
 | t' :: ts, h, t, ht => by
  simp only [mOkL] at h
  rcases List.mem_cons.1 ht with rfl | ht
  ·exact h.1
  ·exact mOkL_mem h.2 t ht
mutual
theorem mOk_true (g : Tm → Tm) : ∀ t, mOk (fun _ => True) g t
 | .mk k nm num ty fr lb ks => by rw [mOk]; exact ⟨mOkL_true g ks, trivial⟩
theorem mOkL_true (g : Tm → Tm) : ∀ ts, mOkL (fun _ => True) g ts
 | [] => by rw [mOkL]; trivial
 | t :: ts => by rw [mOkL]; exact ⟨mOk_true g t, mOkL_true g ts⟩
end
/-- What is asked of a change of nodes. -/
def MapOk (g : Tm → Tm) (Q : Tm → Prop) (fid : FuncId) (us cs : List Value) : Prop := ∀ (t : Tm) (G0 G1 : IM) (cells : List Value) (F : List Nat), Q t → IMle G0 G1 → STm (Dif G1 G0) t cells F → F.Nodup →
 Fn Try.prog fid (us ++ [.agg ⟨cells⟩] ++ cs) [] G1 (Imm fun G2 v => ∃ cells' F', v = .agg ⟨cells'⟩ ∧ STm (Dif G2 G0) (g t) cells' F' ∧ F'.Nodup)
set_option maxHeartbeats 0 in
set_option maxRecDepth 100000 in
theorem mapped_fn (g : Tm → Tm) (Q : Tm → Prop) (fid : FuncId) [FunI Try.prog fid] (us cs : List Value) (hg : MapOk g Q fid us cs) : ∀ (t : Tm) (G : IM) (cells : List Value), mOk Q g t → t.small → RTm G t cells →
  Fn Try.prog 46 [.agg ⟨cells⟩, .func (.func fid) ⟨us⟩ ⟨cs⟩] [] G (ToTm (mMap g t) G) := by
 refine Tm.ind fun k nm num ty fr lb ks ih G cells hmo hts hr => ?_
 have hone := hr.one
 simp only [mOk] at hmo
 obtain ⟨hmoL, hQ⟩ := hmo
 simp only [Tm.small] at hts
 obtain ⟨hnm, hty', hfr', hsm, hks⟩ := hts
 obtain ⟨tk, tks⟩ := ty
 obtain ⟨fk, fks⟩ := fr
 obtain ⟨pt, ct, pf, cf, p, c, es, rfl, hk, hnum, hlb, hty, hfr, hsl, hkl⟩ := hr.open9
 have hn := hsl.le
 have hlen : (mMapL g ks).length = ks.length := by rw [mMapL_eq, List.length_map]
 have hget : ∀ i (h : i < ks.length) (h' : i < (mMapL g ks).length), (mMapL g ks)[i] = mMap g ks[i] := fun i h h' => by simp [mMapL_eq]
 refine fn_enter Try.func46 rfl Try.ntmps46 Try.results46 rfl ?_
 intro w0
 refine tri_seq ?_
 refine tri_region ?_
 (refine seq_step (step_box_a rfl rfl) rfl ?_; rintro _ ⟨b3, rfl⟩)
 (refine seq_step (step_alloc rfl) rfl ?_; rintro _ ⟨b4, rfl⟩)
 refine seq_done ?_
 refine nrm_seq ?_
 refine tri_seq ?_
 refine tri_region ?_
 refine seq_pure (pure_assign rfl) rfl rfl ?_
 refine seq_done ?_
 refine nrm_seq ?_
 refine tri_seq ?_
 refine tri_seq ?_
 refine tri_region ?_
 refine seq_pure (pure_fieldAddr0 rfl) rfl rfl ?_
 refine seq_load (load_bs rfl rfl (by repeat (first | exact List.Mem.head _ | apply List.Mem.tail)) (by rfl)) rfl rfl ?_
 refine seq_pure (pure_len rfl rfl) rfl rfl ?_
 refine seq_pure (pure_move rfl) rfl rfl ?_
 refine seq_done ?_
 refine nrm_seq ?_
 refine tri_block ?_
 (refine tri_nil 28 9 ?_; refine tri_loopN (fun (x : Nat × Option Addr × Nat × List (List Value) × List Nat × IM) => ⟨[(11, .int .i64 x.1), (10, .int .i64 ks.length), (9, .slice p ks.length c), (5, .slice x.2.1 x.1 x.2.2.1), (2, .pointer (some ⟨b3, 0, none⟩)), (1, .func (.func fid) ⟨us⟩ ⟨cs⟩), (4, .pointer (some ⟨b4, 0, none⟩))], [.slc x.2.1 x.2.2.1 28 9 x.1 x.2.2.2.1.flatten, .blk b4 [.int .i64 0, .string ⟨⟨[]⟩⟩, .int .i64 0, .int .i64 0, .slice none 0 0, .int .i64 0, .slice none 0 0, .int .i64 0, .slice none 0 0], .blk b3 [.int .i64 k, .string nm, .int .i64 num, .int .i64 tk, .slice pt tks.length ct, .int .i64 fk, .slice pf fks.length cf, .int .i64 lb, .slice p ks.length c]], x.2.2.2.2.2⟩) (fun x => x.1 ≤ ks.length ∧ IMle G x.2.2.2.2.2 ∧ STmL (Dif x.2.2.2.2.2 G) ((mMapL g ks).take x.1) x.2.2.2.1 x.2.2.2.2.1 ∧ x.2.2.2.2.1.Nodup) (fun x => ks.length - x.1) (0, none, 0, [], [], G) ?_ ?_ ?_)
 ·(simp only [flat_snoc]; exact sub_mk (by repeat (first | exact SubE.nil | refine SubE.cons rfl ?_)) (by repeat (first | exact SubH.refl | exact SubH.nil | refine SubH.cons (by repeat (first | exact Pk.here | apply Pk.there)) ?_ | apply SubH.drop)))
 ·exact ⟨by simp, IMle.refl _, by simp [STmL], by simp⟩
 ·(rintro ⟨i, pn, cn, es', F, Gi⟩ ⟨hi, hle, hst, hnd⟩; simp only [] at hi hle hst hnd ⊢; replace hsl := hsl.mono hle; replace hkl := hkl.mono hle)
  refine tri_seq ?_
  refine tri_region ?_
  refine seq_bool (pure_lss rfl rfl) rfl rfl (fun h28 => ?_) (fun h28 => ?_)
  ·refine seq_done ?_
   refine nrm_seq ?_
   refine tri_seq ?_
   refine tri_cond_t rfl ?_
   refine tri_skip ?_
   refine nrm_seq ?_
   refine tri_seq ?_
   refine tri_block ?_
   refine tri_seq ?_
   refine tri_region ?_
   (obtain ⟨b, o, e, rfl, hl, hat, hre, hgb⟩ := hsl.kidTm hkl (i := i) (by omega) (by omega); have hone := hre.one; refine seq_pure (pure_indexAddrN rfl rfl rfl (by omega)) rfl rfl ?_)
   refine seq_load (load_a rfl rfl (hat _) hl) rfl rfl ?_
   (refine seq_step (step_alloc rfl) rfl ?_; rintro _ ⟨b41, rfl⟩)
   refine seq_store rfl rfl rfl hl hone rfl (by repeat (first | exact Sw.here | apply Sw.there)) (by exact upd_all hl.symm) ?_
   refine seq_done ?_
   refine nrm_seq ?_
   refine tri_region ?_
   refine seq_pure (pure_move rfl) rfl rfl ?_
   refine seq_load (load_a rfl rfl (at_blk_all (by repeat (first | exact List.Mem.head _ | apply List.Mem.tail))) (by assumption)) rfl rfl ?_
   refine seq_pure (pure_move rfl) rfl rfl ?_
   (refine seq_imm rfl (ih ks[i] (List.getElem_mem (by omega)) _ _ (mOkL_mem hmoL _ (List.getElem_mem (by omega))) (Tm.smallL_mem hks _ (List.getElem_mem (by omega))) hre) rfl rfl (fun v G3 hle3 hh => ?_); obtain ⟨cells', F', rfl, hs', hnd'⟩ := hh; rw [← hget i (by omega) (by omega)] at hs'; have hlc := hs'.R.len; have hoc := hs'.R.one)
   (obtain ⟨v1, v2, v3, v4, v5, v6, v7, v8, v9, rfl⟩ : ∃ v1 v2 v3 v4 v5 v6 v7 v8 v9, cells' = [v1, v2, v3, v4, v5, v6, v7, v8, v9] := by obtain ⟨_, _, _, _, _, _, _, _, _, rfl, _⟩ := hs'.R.open; exact ⟨_, _, _, _, _, _, _, _, _, rfl⟩)
   (refine seq_step (step_buildSlice rfl rfl rfl (by omega) (by unfold maxLen; omega) rfl) rfl ?_; rintro _ ⟨b51, rfl⟩)
   refine seq_append rfl rfl rfl rfl rfl (fun _ _ => by repeat (first | exact Sw.here | apply Sw.there)) (at_slc_all (by repeat (first | exact List.Mem.head _ | apply List.Mem.tail))) rfl (fun u hu => List.all_eq_true.1 hoc u hu) (by unfold maxLen; omega) (by omega) rfl (fun pn' cn' => ?_)
   refine seq_pure (pure_assign rfl) rfl rfl ?_
   refine seq_done ?_
   refine nrm_block ?_
   refine nrm_seq ?_
   refine tri_region ?_
   refine seq_pure (pure_add rfl rfl (by omega) (by omega)) rfl rfl ?_
   refine seq_pure (pure_move rfl) rfl rfl ?_
   refine seq_done ?_
   refine nrm_loopN (i + 1, pn', cn', es' ++ [[v1, v2, v3, v4, v5, v6, v7, v8, v9]], F ++ F', G3) ?_ ?_ ?_
   ·(simp only [flat_snoc]; exact sub_mk (by repeat (first | exact SubE.nil | refine SubE.cons rfl ?_)) (by repeat (first | exact SubH.refl | exact SubH.nil | refine SubH.cons (by repeat (first | exact Pk.here | apply Pk.there)) ?_ | apply SubH.drop)))
   ·exact ⟨by omega, hle.trans hle3, STmL.step hst hnd hle hle3 (by omega) hs' hnd'⟩
   ·(show ks.length - (i + 1) < ks.length - i; omega)
  ·refine seq_done ?_
   refine nrm_seq ?_
   refine tri_seq ?_
   refine tri_cond_f rfl ?_
   refine tri_exit ?_
   refine ext_seq ?_
   refine ext_loopN ?_
   refine ext_block_eq ?_
   refine nrm_seq ?_
   refine tri_seq ?_
   (obtain rfl : i = ks.length := (by omega); refine tri_freeze (by repeat (first | exact Pk.here | apply Pk.there)) (fun G2 hle2 hsl2 hno2 => ?_); rw [← hlen, List.take_length] at hst; rw [← hlen] at hsl2; obtain ⟨F3, hf1, hf2⟩ := STmS.fin hst hnd hle hle2 hsl2 hno2; have hleG := hle.trans hle2; have hT := ownType_fn (.mk tk tks) G2 _ hty' (hty.mono hleG); refine tri_draw mixed rfl ?_)
   refine any_pure (i := 0) (listed' := [tt,ff,ff,ff,ff,ff,ff,ff,ff,ff,ff,ff,ff]) rfl (by repeat (first | exact np_ret | exact np_cut | apply np_seq | apply np_block | apply np_loopN')) (pure_fieldAddr0 rfl) rfl (by kernel_rfl) rfl rfl ?_
   refine any_load (i := 1) (listed' := [tt,tt,ff,ff,ff,ff,ff,ff,ff,ff,ff,ff,ff]) rfl (by repeat (first | exact np_ret | exact np_cut | apply np_seq | apply np_block | apply np_loopN')) (load_ba rfl rfl (by repeat (first | exact List.Mem.head _ | apply List.Mem.tail)) (by rfl)) rfl (by kernel_rfl) rfl rfl ?_
   refine any_pure (i := 3) (listed' := [tt,tt,ff,tt,ff,ff,ff,ff,ff,ff,ff,ff,ff]) rfl (by repeat (first | exact np_ret | exact np_cut | apply np_seq | apply np_block | apply np_loopN')) (pure_fieldAddr0 rfl) rfl (by kernel_rfl) rfl rfl ?_
   refine any_load (i := 4) (listed' := [tt,tt,ff,tt,tt,ff,ff,ff,ff,ff,ff,ff,ff]) rfl (by repeat (first | exact np_ret | exact np_cut | apply np_seq | apply np_block | apply np_loopN')) (load_ba rfl rfl (by repeat (first | exact List.Mem.head _ | apply List.Mem.tail)) (by rfl)) rfl (by kernel_rfl) rfl rfl ?_
   refine any_pure (i := 6) (listed' := [tt,tt,ff,tt,tt,ff,tt,ff,ff,ff,ff,ff,ff]) rfl (by repeat (first | exact np_ret | exact np_cut | apply np_seq | apply np_block | apply np_loopN')) (pure_move rfl) rfl (by kernel_rfl) rfl rfl ?_
   refine any_one (j := 2) (by kernel_rfl) ?_
   (refine one_imm (listed' := [tt,tt,tt,tt,tt,ff,tt,ff,ff,ff,ff,ff,ff]) rfl rfl hT rfl rfl rfl (fun v G4 hle4 hh => ?_); obtain ⟨cs1, F1, rfl, hs1, hn1⟩ := hh; obtain ⟨p1, c1, rfl, _⟩ := hs1.open; have hF := ownType_fn (.mk fk fks) G4 _ hfr' (hfr.mono (hleG.trans hle4)))
   refine any_pure (i := 7) (listed' := [tt,tt,tt,tt,tt,ff,tt,tt,ff,ff,ff,ff,ff]) rfl (by repeat (first | exact np_ret | exact np_cut | apply np_seq | apply np_block | apply np_loopN')) (pure_fieldAddr0 rfl) rfl (by kernel_rfl) rfl rfl ?_
   refine any_one (j := 5) (by kernel_rfl) ?_
   (refine one_imm (listed' := [tt,tt,tt,tt,tt,tt,tt,tt,ff,ff,ff,ff,ff]) rfl rfl hF rfl rfl rfl (fun v G5 hle5 hh => ?_); obtain ⟨cs2, F2, rfl, hs2, hn2⟩ := hh; obtain ⟨p2, c2, rfl, _⟩ := hs2.open; obtain ⟨F6, hg1, hg2⟩ := STm.mk3k (nm := nm) hk hnum hlb hleG hle4 hle5 hf1 hf2 hs1 hn1 hs2 hn2; rw [hlen] at hg1; have hch := hg _ G G5 _ F6 hQ (hleG.trans (hle4.trans hle5)) hg1 hg2)
   refine any_one (j := 8) (by kernel_rfl) ?_
   refine one_store (listed' := [tt,tt,tt,tt,tt,tt,tt,tt,tt,ff,ff,ff,ff]) rfl rfl rfl rfl rfl rfl rfl rfl (by kernel_rfl) (by repeat (first | exact Sw.here | apply Sw.there)) (by rfl) ?_
   refine any_pure (i := 9) (listed' := [tt,tt,tt,tt,tt,tt,tt,tt,tt,tt,ff,ff,ff]) rfl (by repeat (first | exact np_ret | exact np_cut | apply np_seq | apply np_block | apply np_loopN')) (pure_fieldAddr0 rfl) rfl (by kernel_rfl) rfl rfl ?_
   refine any_one (j := 10) (by kernel_rfl) ?_
   refine one_store (listed' := [tt,tt,tt,tt,tt,tt,tt,tt,tt,tt,tt,ff,ff]) rfl rfl rfl rfl rfl rfl rfl rfl (by kernel_rfl) (by repeat (first | exact Sw.here | apply Sw.there)) (by rfl) ?_
   refine any_pure (i := 11) (listed' := [tt,tt,tt,tt,tt,tt,tt,tt,tt,tt,tt,tt,ff]) rfl (by repeat (first | exact np_ret | exact np_cut | apply np_seq | apply np_block | apply np_loopN')) (pure_fieldAddr0 rfl) rfl (by kernel_rfl) rfl rfl ?_
   refine any_one (j := 12) (by kernel_rfl) ?_
   refine one_store (listed' := [tt,tt,tt,tt,tt,tt,tt,tt,tt,tt,tt,tt,tt]) rfl rfl rfl rfl rfl rfl rfl rfl (by kernel_rfl) (by repeat (first | exact Sw.here | apply Sw.there)) (by rfl) ?_
   refine any_done (by kernel_rfl) ?_
   refine nrm_seq ?_
   refine tri_seq ?_
   refine tri_region ?_
   refine seq_pure (pure_move rfl) rfl rfl ?_
   refine seq_load (load_ba rfl rfl (by repeat (first | exact List.Mem.head _ | apply List.Mem.tail)) (by rfl)) rfl rfl ?_
   (refine seq_step (step_callv rfl rfl hch (List.Perm.refl _) rfl) rfl ?_; rintro _ ⟨v, G7, outs, rfl, hle7, rfl, cells7, F7, rfl, hs7, hn7⟩; have hl7 := hs7.R.len; have ho7 := hs7.R.one)
   refine seq_store rfl rfl rfl hl7 ho7 rfl (by repeat (first | exact Sw.here | apply Sw.there)) (by exact upd_all hl7.symm) ?_
   refine seq_done ?_
   refine nrm_seq ?_
   refine tri_ret ?_
   refine ret_fin1 (res_cell rfl (load_a rfl rfl (at_blk_all (by repeat (first | exact List.Mem.head _ | apply List.Mem.tail))) hl7)) ?_
   (rw [mMap]; exact ⟨rfl, cells7, F7, rfl, hs7, hn7⟩)
set_option maxRecDepth 100000 in
theorem own1_fn (G : IM) (cells : List Value) (hl : cells.length = 9) (hone : cells.all (·.oneCell') = true) : Fn Try.prog 47 [.agg ⟨cells⟩] [] G (Val (.agg ⟨cells⟩) G) := by
 refine fn_enter Try.func47 rfl Try.ntmps47 Try.results47 rfl ?_
 intro w0
 refine tri_seq ?_
 refine tri_region ?_
 (refine seq_step (step_box_a rfl rfl) rfl ?_; rintro _ ⟨b3, rfl⟩)
 (refine seq_step (step_alloc rfl) rfl ?_; rintro _ ⟨b4, rfl⟩)
 refine seq_done ?_
 refine nrm_seq ?_
 refine tri_seq ?_
 refine tri_region ?_
 refine seq_load (load_a rfl rfl (at_blk_all (by repeat (first | exact List.Mem.head _ | apply List.Mem.tail))) (by assumption)) rfl rfl ?_
 refine seq_store rfl rfl rfl hl hone rfl (by repeat (first | exact Sw.here | apply Sw.there)) (by exact upd_all hl.symm) ?_
 refine seq_done ?_
 refine nrm_seq ?_
 refine tri_ret ?_
 refine ret_fin1 (res_cell rfl (load_a rfl rfl (at_blk_all (by repeat (first | exact List.Mem.head _ | apply List.Mem.tail))) hl)) ?_
 exact ⟨rfl, rfl, rfl⟩
theorem mapOk_id : MapOk id (fun _ => True) 47 [] [] := fun t G0 G1 cells F _ hle hs hn =>
 (own1_fn G1 cells hs.R.len hs.R.one).mono fun G' v outs _ ⟨h1, h2, h3⟩ => ⟨h3, cells, F, h2, by rw [h1]; exact hs, hn⟩
set_option maxRecDepth 100000 in
theorem own_fn (t : Tm) (G : IM) (cells : List Value) (hts : t.small) (hr : RTm G t cells) : Fn Try.prog 27 [.agg ⟨cells⟩] [] G (ToTm t G) := by
 have hl := hr.len
 have hone := hr.one
 have hM := mapped_fn id (fun _ => True) 47 [] [] mapOk_id t G cells (mOk_true _ t) hts hr
 rw [mMap_id] at hM
 refine fn_enter Try.func27 rfl Try.ntmps27 Try.results27 rfl ?_
 intro w0
 refine tri_seq ?_
 refine tri_region ?_
 (refine seq_step (step_box_a rfl rfl) rfl ?_; rintro _ ⟨b3, rfl⟩)
 (refine seq_step (step_alloc rfl) rfl ?_; rintro _ ⟨b4, rfl⟩)
 refine seq_done ?_
 refine nrm_seq ?_
 refine tri_seq ?_
 refine tri_region ?_
 refine seq_load (load_a rfl rfl (at_blk_all (by repeat (first | exact List.Mem.head _ | apply List.Mem.tail))) (by assumption)) rfl rfl ?_
 (refine seq_imm rfl hM rfl rfl (fun v G3 hle3 hh => ?_); obtain ⟨cells', F', rfl, hs', hnd'⟩ := hh; have hl' := hs'.R.len; have ho' := hs'.R.one)
 refine seq_store rfl rfl rfl hl' ho' rfl (by repeat (first | exact Sw.here | apply Sw.there)) (by exact upd_all hl'.symm) ?_
 refine seq_done ?_
 refine nrm_seq ?_
 refine tri_ret ?_
 refine ret_fin1 (res_cell rfl (load_a rfl rfl (at_blk_all (by repeat (first | exact List.Mem.head _ | apply List.Mem.tail))) hl')) ?_
 exact ⟨rfl, cells', F', rfl, hs', hnd'⟩
end Gw
end Go.Proofs.Yteneckdjdfnjoaa
namespace Go.Proofs.Yteneckdjdfnjoaa
open Go Go.RowKit
namespace Gw
def tm0 : Tm := .mk 0 ⟨⟨[]⟩⟩ 0 (.mk 0 []) (.mk 0 []) 0 []
theorem STm.zero (G : IM) : STm G tm0 z9 [] := by
 simp only [tm0, STm, STy, STyL, STmL, z9]
 refine ⟨[.int .i64 0, .slice none 0 0], [.int .i64 0, .slice none 0 0], none, 0, [], [], [], [], rfl, ⟨by omega, by omega⟩, ⟨by omega, by omega⟩, ⟨by omega, by omega⟩, ?_, ?_, SlE.nil _ _, ⟨rfl, rfl⟩, rfl, by simp [vfp]⟩
 ·exact ⟨none, 0, [], [], rfl, ⟨by omega, by omega⟩, SlE.nil _ _, ⟨rfl, rfl⟩, rfl, by simp [vfp]⟩
 ·exact ⟨none, 0, [], [], rfl, ⟨by omega, by omega⟩, SlE.nil _ _, ⟨rfl, rfl⟩, rfl, by simp [vfp]⟩
theorem tAt_small : ∀ {path : List Int} {t x : Tm}, tAt t path = some x → t.small → x.small
 | [], t, x, h, hs => by rw [tAt_nil] at h; cases h; exact hs
 | i :: is, t, x, h, hs => by
  by_cases hi : 0 ≤ i ∧ i < t.ks.length
  ·rw [tAt_go hi.1 hi.2] at h
   refine tAt_small h ?_
   obtain ⟨k, nm, num, ty, fr, lb, ks⟩ := t
   simp only [Tm.small] at hs
   exact Tm.smallL_mem hs.2.2.2.2 _ (List.getElem_mem _)
  ·rw [tAt_no hi] at h; cases h
/-- TermAt in plain words. -/
def mTermAt (t : Tm) (path : List Int) : Tm × Bool := if castValid t = true then (match tAt t path with | some x => (x, true) | none => (tm0, false)) else (tm0, false)
theorem mTermAt_yes {t x : Tm} {path : List Int} (h : castValid t = true) (hx : tAt t path = some x) : mTermAt t path = (x, true) := by unfold mTermAt; rw [if_pos h, hx]
theorem mTermAt_no {t : Tm} {path : List Int} (hx : tAt t path = none) : mTermAt t path = (tm0, false) := by unfold mTermAt; rw [hx]; split <;> rfl
theorem mTermAt_bad {t : Tm} {path : List Int} (h : ¬ castValid t = true) : mTermAt t path = (tm0, false) := by unfold mTermAt; rw [if_neg h]
/-- A term and a truth value, the term in memory of its own. -/
def TbP (r : Tm × Bool) (G : IM) : IM → Value → List Ent → Prop := Imm fun G' v => ∃ cells F, v = .tuple ⟨[.agg ⟨cells⟩, .bool r.2]⟩ ∧ STm (Dif G' G) r.1 cells F ∧ F.Nodup
theorem TbP.mk {r : Tm × Bool} {x : Tm} {b : Bool} {G G' : IM} {cells : List Value} {F : List Nat} (h : r = (x, b)) (hs : STm (Dif G' G) x cells F) (hn : F.Nodup) : TbP r G G' (.tuple ⟨[.agg ⟨cells⟩, .bool b]⟩) [] := by
 subst h; exact ⟨rfl, cells, F, rfl, hs, hn⟩
theorem not_t {b : Bool} (h : b = false) : ¬ b = true := by rw [h]; simp
set_option maxHeartbeats 0 in
set_option maxRecDepth 100000 in
theorem termAt_g (t : Tm) (path : List Int) (G : IM) (cells : List Value) (p : Option Addr) (c : Nat) (hts : t.small) (hr : RTm G t cells) (hp : Sl G p path.length c 1 (ints path)) :
  Fn Try.prog 10 [.agg ⟨cells⟩, .slice p path.length c] [] G (TbP (mTermAt t path) G) := by
 have hl := hr.len
 have hone := hr.one
 have hv := castValid_fn t G cells hr
 have hA := at_fn t path G cells p c hr hp
 refine fn_enter Try.func10 rfl Try.ntmps10 Try.results10 rfl ?_
 intro w0
 refine tri_seq ?_
 refine tri_region ?_
 (refine seq_step (step_box_a rfl rfl) rfl ?_; rintro _ ⟨b3, rfl⟩)
 (refine seq_step (step_alloc rfl) rfl ?_; rintro _ ⟨b4, rfl⟩)
 refine seq_pure (pure_assign rfl) rfl rfl ?_
 refine seq_done ?_
 refine nrm_seq ?_
 refine tri_seq ?_
 refine tri_seq ?_
 refine tri_region ?_
 refine seq_load (load_a rfl rfl (at_blk_all (by repeat (first | exact List.Mem.head _ | apply List.Mem.tail))) (by assumption)) rfl rfl ?_
 refine seq_valb rfl (hv) rfl rfl (fun h12 => ?_) (fun h12 => ?_)
 ·refine seq_pure (pure_not_t rfl) rfl rfl ?_
  refine seq_done ?_
  refine nrm_seq ?_
  refine tri_cond_f rfl ?_
  refine tri_skip ?_
  refine nrm_seq ?_
  refine tri_seq ?_
  refine tri_region ?_
  refine seq_load (load_a rfl rfl (at_blk_all (by repeat (first | exact List.Mem.head _ | apply List.Mem.tail))) (by assumption)) rfl rfl ?_
  refine seq_pure (pure_move rfl) rfl rfl ?_
  (refine seq_own rfl hA rfl rfl (fun v23 G23 outs23 hle23 h23 => ?_); obtain ⟨hG, rfl, hh⟩ := h23; replace hG := hG.symm; subst hG; rcases hh with ⟨x, cx, hx, hrx, rfl⟩ | ⟨hx, rfl⟩)
  ·refine seq_pure (pure_move rfl) rfl rfl ?_
   refine seq_pure (pure_extract rfl rfl) rfl rfl ?_
   refine seq_pure (pure_extract rfl rfl) rfl rfl ?_
   (refine seq_step (step_alloc rfl) rfl ?_; rintro _ ⟨b27, rfl⟩)
   refine seq_store rfl rfl rfl hrx.len hrx.one rfl (by repeat (first | exact Sw.here | apply Sw.there)) (by exact upd_all hrx.len.symm) ?_
   refine seq_pure (pure_assign rfl) rfl rfl ?_
   refine seq_done ?_
   refine nrm_seq ?_
   refine tri_seq ?_
   refine tri_seq ?_
   refine tri_region ?_
   refine seq_pure (pure_move rfl) rfl rfl ?_
   refine seq_pure (pure_not_t rfl) rfl rfl ?_
   refine seq_done ?_
   refine nrm_seq ?_
   refine tri_cond_f rfl ?_
   refine tri_skip ?_
   refine nrm_seq ?_
   refine tri_seq ?_
   refine tri_region ?_
   refine seq_load (load_a rfl rfl (at_blk_all (by repeat (first | exact List.Mem.head _ | apply List.Mem.tail))) hrx.len) rfl rfl ?_
   (refine seq_imm rfl (own_fn x G cx (tAt_small hx hts) hrx) rfl rfl (fun v G3 hle3 hh => ?_); obtain ⟨cells', F', rfl, hs', hnd'⟩ := hh; have hl' := hs'.R.len; have ho' := hs'.R.one)
   refine seq_store rfl rfl rfl hl' ho' rfl (by repeat (first | exact Sw.here | apply Sw.there)) (by exact upd_all hl'.symm) ?_
   refine seq_pure (pure_assign rfl) rfl rfl ?_
   refine seq_done ?_
   refine nrm_seq ?_
   refine tri_ret ?_
   refine ret_fin2 (res_cell rfl (load_a rfl rfl (at_blk_all (by repeat (first | exact List.Mem.head _ | apply List.Mem.tail))) hl')) (res_tmp rfl) ?_
   exact TbP.mk (mTermAt_yes (by assumption) hx) hs' hnd'
  ·refine seq_pure (pure_move rfl) rfl rfl ?_
   refine seq_pure (pure_extract rfl rfl) rfl rfl ?_
   refine seq_pure (pure_extract rfl rfl) rfl rfl ?_
   (refine seq_step (step_alloc rfl) rfl ?_; rintro _ ⟨b56, rfl⟩)
   refine seq_store rfl rfl rfl rfl rfl rfl (by repeat (first | exact Sw.here | apply Sw.there)) (by rfl) ?_
   refine seq_pure (pure_assign rfl) rfl rfl ?_
   refine seq_done ?_
   refine nrm_seq ?_
   refine tri_seq ?_
   refine tri_seq ?_
   refine tri_region ?_
   refine seq_pure (pure_move rfl) rfl rfl ?_
   refine seq_pure (pure_not_f rfl) rfl rfl ?_
   refine seq_done ?_
   refine nrm_seq ?_
   refine tri_cond_t rfl ?_
   refine tri_seq ?_
   refine tri_region ?_
   refine seq_pure (pure_build rfl rfl) rfl rfl ?_
   refine seq_store rfl rfl rfl rfl rfl rfl (by repeat (first | exact Sw.here | apply Sw.there)) (by rfl) ?_
   refine seq_pure (pure_assign rfl) rfl rfl ?_
   refine seq_done ?_
   refine nrm_seq ?_
   refine tri_ret ?_
   refine ret_seq ?_
   refine ret_fin2 (res_cell rfl (load_ba rfl rfl (by repeat (first | exact List.Mem.head _ | apply List.Mem.tail)) (by rfl))) (res_tmp rfl) ?_
   exact TbP.mk (mTermAt_no hx) (STm.zero _) (by simp)
 ·refine seq_pure (pure_not_f rfl) rfl rfl ?_
  refine seq_done ?_
  refine nrm_seq ?_
  refine tri_cond_t rfl ?_
  refine tri_seq ?_
  refine tri_region ?_
  refine seq_pure (pure_build rfl rfl) rfl rfl ?_
  refine seq_store rfl rfl rfl rfl rfl rfl (by repeat (first | exact Sw.here | apply Sw.there)) (by rfl) ?_
  refine seq_pure (pure_assign rfl) rfl rfl ?_
  refine seq_done ?_
  refine nrm_seq ?_
  refine tri_ret ?_
  refine ret_seq ?_
  refine ret_fin2 (res_cell rfl (load_ba rfl rfl (by repeat (first | exact List.Mem.head _ | apply List.Mem.tail)) (by rfl))) (res_tmp rfl) ?_
  exact TbP.mk (mTermAt_bad (not_t (by assumption))) (STm.zero _) (by simp)
end Gw
end Go.Proofs.Yteneckdjdfnjoaa
namespace Go.Proofs.Yteneckdjdfnjoaa
open Go Go.RowKit
namespace Gw
theorem termValid_iff (t : Tm) : termValid t = true ↔ sShape 12 14 t 1 = true ∧ tmCount t ≤ 30 := by
 have := mScan_shape 30 12 14 t 1 0 (by omega)
 rw [termValid, this]
 constructor
 ·rintro ⟨a, b⟩; exact ⟨a, by omega⟩
 ·rintro ⟨a, b⟩; exact ⟨a, by omega⟩
set_option maxHeartbeats 0 in
set_option maxRecDepth 100000 in
theorem l2Shape_fn : ∀ (t : Tm) (d : Int) (G : IM) (cells : List Value), 0 ≤ d ∧ d ≤ 12 → RTm G t cells →
  Fn Try.prog 108 [.agg ⟨cells⟩, .int .i64 d] [] G (Val (.bool (sShape 12 14 t (13 - d))) G) := by
 refine Tm.ind fun k nm num ty fr lb ks ih d G cells hd hr => ?_
 have hr0 := hr
 have hne := fun h : k ≠ 14 => @tmNode_ne k nm num ty fr lb ks.length h
 have har := fun h : tmNode k nm num ty fr lb ks.length = true => (tmNode_iff.1 h).1
 obtain ⟨R, hR⟩ : ∃ R, tmNode k nm num ty fr lb ks.length = R := ⟨_, rfl⟩
 rw [hR] at hne har
 have hl2 := l2Own_fn k nm num ty fr lb ks G cells hr0 R
 have hk1 := l2Kids_fn k G
 obtain ⟨tk, tks⟩ := ty
 obtain ⟨fk, fks⟩ := fr
 obtain ⟨pt, ct, pf, cf, p, c, es, rfl, hk, hnum, hlb, hty, hfr, hsl, hkl⟩ := hr.open9
 have hn := hsl.le
 clear hr hr0
 refine fn_enter Try.func108 rfl Try.ntmps108 Try.results108 rfl ?_
 intro w0
 refine tri_seq ?_
 refine tri_region ?_
 (refine seq_step (step_box_a rfl rfl) rfl ?_; rintro _ ⟨b3, rfl⟩)
 refine seq_pure (pure_assign rfl) rfl rfl ?_
 refine seq_done ?_
 refine nrm_seq ?_
 refine tri_seq ?_
 refine tri_seq ?_
 refine tri_draw mixed rfl ?_
 refine any_pure (i := 0) (listed' := [tt,ff,ff,ff,ff,ff,ff,ff,ff,ff,ff,ff,ff,ff,ff,ff,ff,ff,ff,ff,ff]) rfl (by repeat (first | exact np_ret | exact np_cut | apply np_seq | apply np_block | apply np_loopN')) (pure_move rfl) rfl (by kernel_rfl) rfl rfl ?_
 refine any_bool (i := 1) (listed' := [tt,tt,ff,ff,ff,ff,ff,ff,ff,ff,ff,ff,ff,ff,ff,ff,ff,ff,ff,ff,ff]) rfl (by repeat (first | exact np_ret | exact np_cut | apply np_seq | apply np_block | apply np_loopN')) (pure_lss rfl rfl) rfl (by kernel_rfl) rfl rfl (fun h11 => ?_) (fun h11 => ?_)
 ·refine any_pure (i := 2) (listed' := [tt,tt,tt,ff,ff,ff,ff,ff,ff,ff,ff,ff,ff,ff,ff,ff,ff,ff,ff,ff,ff]) rfl (by repeat (first | exact np_ret | exact np_cut | apply np_seq | apply np_block | apply np_loopN')) (pure_move rfl) rfl (by kernel_rfl) rfl rfl ?_
  refine any_skip (i := 3) (listed' := [tt,tt,tt,tt,ff,ff,ff,ff,ff,ff,ff,ff,ff,ff,ff,ff,ff,ff,ff,ff,ff]) rfl (by repeat (first | exact np_ret | exact np_cut | apply np_seq | apply np_block | apply np_loopN')) rfl (by kernel_rfl) rfl rfl ?_
  refine any_skip (i := 4) (listed' := [tt,tt,tt,tt,tt,ff,ff,ff,ff,ff,ff,ff,ff,ff,ff,ff,ff,ff,ff,ff,ff]) rfl (by repeat (first | exact np_ret | exact np_cut | apply np_seq | apply np_block | apply np_loopN')) rfl (by kernel_rfl) rfl rfl ?_
  refine any_skip (i := 6) (listed' := [tt,tt,tt,tt,tt,ff,tt,ff,ff,ff,ff,ff,ff,ff,ff,ff,ff,ff,ff,ff,ff]) rfl (by repeat (first | exact np_ret | exact np_cut | apply np_seq | apply np_block | apply np_loopN')) rfl (by kernel_rfl) rfl rfl ?_
  refine any_skip (i := 7) (listed' := [tt,tt,tt,tt,tt,ff,tt,tt,ff,ff,ff,ff,ff,ff,ff,ff,ff,ff,ff,ff,ff]) rfl (by repeat (first | exact np_ret | exact np_cut | apply np_seq | apply np_block | apply np_loopN')) rfl (by kernel_rfl) rfl rfl ?_
  refine any_skip (i := 8) (listed' := [tt,tt,tt,tt,tt,ff,tt,tt,tt,ff,ff,ff,ff,ff,ff,ff,ff,ff,ff,ff,ff]) rfl (by repeat (first | exact np_ret | exact np_cut | apply np_seq | apply np_block | apply np_loopN')) rfl (by kernel_rfl) rfl rfl ?_
  refine any_skip (i := 5) (listed' := [tt,tt,tt,tt,tt,tt,tt,tt,tt,ff,ff,ff,ff,ff,ff,ff,ff,ff,ff,ff,ff]) rfl (by repeat (first | exact np_ret | exact np_cut | apply np_seq | apply np_block | apply np_loopN')) rfl (by kernel_rfl) rfl rfl ?_
  refine any_skip (i := 9) (listed' := [tt,tt,tt,tt,tt,tt,tt,tt,tt,tt,ff,ff,ff,ff,ff,ff,ff,ff,ff,ff,ff]) rfl (by repeat (first | exact np_ret | exact np_cut | apply np_seq | apply np_block | apply np_loopN')) rfl (by kernel_rfl) rfl rfl ?_
  refine any_pure (i := 10) (listed' := [tt,tt,tt,tt,tt,tt,tt,tt,tt,tt,tt,ff,ff,ff,ff,ff,ff,ff,ff,ff,ff]) rfl (by repeat (first | exact np_ret | exact np_cut | apply np_seq | apply np_block | apply np_loopN')) (pure_pick_t rfl rfl) rfl (by kernel_rfl) rfl rfl ?_
  refine any_pure (i := 11) (listed' := [tt,tt,tt,tt,tt,tt,tt,tt,tt,tt,tt,tt,ff,ff,ff,ff,ff,ff,ff,ff,ff]) rfl (by repeat (first | exact np_ret | exact np_cut | apply np_seq | apply np_block | apply np_loopN')) (pure_move rfl) rfl (by kernel_rfl) rfl rfl ?_
  refine any_skip (i := 12) (listed' := [tt,tt,tt,tt,tt,tt,tt,tt,tt,tt,tt,tt,tt,ff,ff,ff,ff,ff,ff,ff,ff]) rfl (by repeat (first | exact np_ret | exact np_cut | apply np_seq | apply np_block | apply np_loopN')) rfl (by kernel_rfl) rfl rfl ?_
  refine any_skip (i := 13) (listed' := [tt,tt,tt,tt,tt,tt,tt,tt,tt,tt,tt,tt,tt,tt,ff,ff,ff,ff,ff,ff,ff]) rfl (by repeat (first | exact np_ret | exact np_cut | apply np_seq | apply np_block | apply np_loopN')) rfl (by kernel_rfl) rfl rfl ?_
  refine any_skip (i := 14) (listed' := [tt,tt,tt,tt,tt,tt,tt,tt,tt,tt,tt,tt,tt,tt,tt,ff,ff,ff,ff,ff,ff]) rfl (by repeat (first | exact np_ret | exact np_cut | apply np_seq | apply np_block | apply np_loopN')) rfl (by kernel_rfl) rfl rfl ?_
  refine any_pure (i := 15) (listed' := [tt,tt,tt,tt,tt,tt,tt,tt,tt,tt,tt,tt,tt,tt,tt,tt,ff,ff,ff,ff,ff]) rfl (by repeat (first | exact np_ret | exact np_cut | apply np_seq | apply np_block | apply np_loopN')) (pure_pick_t rfl rfl) rfl (by kernel_rfl) rfl rfl ?_
  refine any_pure (i := 16) (listed' := [tt,tt,tt,tt,tt,tt,tt,tt,tt,tt,tt,tt,tt,tt,tt,tt,tt,ff,ff,ff,ff]) rfl (by repeat (first | exact np_ret | exact np_cut | apply np_seq | apply np_block | apply np_loopN')) (pure_move rfl) rfl (by kernel_rfl) rfl rfl ?_
  refine any_skip (i := 17) (listed' := [tt,tt,tt,tt,tt,tt,tt,tt,tt,tt,tt,tt,tt,tt,tt,tt,tt,tt,ff,ff,ff]) rfl (by repeat (first | exact np_ret | exact np_cut | apply np_seq | apply np_block | apply np_loopN')) rfl (by kernel_rfl) rfl rfl ?_
  refine any_skip (i := 18) (listed' := [tt,tt,tt,tt,tt,tt,tt,tt,tt,tt,tt,tt,tt,tt,tt,tt,tt,tt,tt,ff,ff]) rfl (by repeat (first | exact np_ret | exact np_cut | apply np_seq | apply np_block | apply np_loopN')) rfl (by kernel_rfl) rfl rfl ?_
  refine any_skip (i := 19) (listed' := [tt,tt,tt,tt,tt,tt,tt,tt,tt,tt,tt,tt,tt,tt,tt,tt,tt,tt,tt,tt,ff]) rfl (by repeat (first | exact np_ret | exact np_cut | apply np_seq | apply np_block | apply np_loopN')) rfl (by kernel_rfl) rfl rfl ?_
  refine any_pure (i := 20) (listed' := [tt,tt,tt,tt,tt,tt,tt,tt,tt,tt,tt,tt,tt,tt,tt,tt,tt,tt,tt,tt,tt]) rfl (by repeat (first | exact np_ret | exact np_cut | apply np_seq | apply np_block | apply np_loopN')) (pure_pick_t rfl rfl) rfl (by kernel_rfl) rfl rfl ?_
  refine any_done (by kernel_rfl) ?_
  refine nrm_seq ?_
  refine tri_cond_t rfl ?_
  refine tri_seq ?_
  refine tri_region ?_
  refine seq_pure (pure_assign rfl) rfl rfl ?_
  refine seq_done ?_
  refine nrm_seq ?_
  refine tri_ret ?_
  refine ret_seq ?_
  refine ret_fin1 (res_tmp rfl) ?_
  (rw [sShape_no (by rw [hR]; first | omega | exact .inr (.inr (by assumption)) | exact .inr (.inr (by cases R with | false => rfl | true => exact absurd (har rfl) (by omega))))]; exact ⟨rfl, rfl, rfl⟩)
 ·refine any_pure (i := 2) (listed' := [tt,tt,tt,ff,ff,ff,ff,ff,ff,ff,ff,ff,ff,ff,ff,ff,ff,ff,ff,ff,ff]) rfl (by repeat (first | exact np_ret | exact np_cut | apply np_seq | apply np_block | apply np_loopN')) (pure_move rfl) rfl (by kernel_rfl) rfl rfl ?_
  refine any_pure (i := 3) (listed' := [tt,tt,tt,tt,ff,ff,ff,ff,ff,ff,ff,ff,ff,ff,ff,ff,ff,ff,ff,ff,ff]) rfl (by repeat (first | exact np_ret | exact np_cut | apply np_seq | apply np_block | apply np_loopN')) (pure_fieldAddr0 rfl) rfl (by kernel_rfl) rfl rfl ?_
  refine any_load (i := 4) (listed' := [tt,tt,tt,tt,tt,ff,ff,ff,ff,ff,ff,ff,ff,ff,ff,ff,ff,ff,ff,ff,ff]) rfl (by repeat (first | exact np_ret | exact np_cut | apply np_seq | apply np_block | apply np_loopN')) (load_bs rfl rfl (by repeat (first | exact List.Mem.head _ | apply List.Mem.tail)) (by rfl)) rfl (by kernel_rfl) rfl rfl ?_
  refine any_pure (i := 6) (listed' := [tt,tt,tt,tt,tt,ff,tt,ff,ff,ff,ff,ff,ff,ff,ff,ff,ff,ff,ff,ff,ff]) rfl (by repeat (first | exact np_ret | exact np_cut | apply np_seq | apply np_block | apply np_loopN')) (pure_fieldAddr0 rfl) rfl (by kernel_rfl) rfl rfl ?_
  refine any_load (i := 7) (listed' := [tt,tt,tt,tt,tt,ff,tt,tt,ff,ff,ff,ff,ff,ff,ff,ff,ff,ff,ff,ff,ff]) rfl (by repeat (first | exact np_ret | exact np_cut | apply np_seq | apply np_block | apply np_loopN')) (load_bs rfl rfl (by repeat (first | exact List.Mem.head _ | apply List.Mem.tail)) (by rfl)) rfl (by kernel_rfl) rfl rfl ?_
  refine any_pure (i := 8) (listed' := [tt,tt,tt,tt,tt,ff,tt,tt,tt,ff,ff,ff,ff,ff,ff,ff,ff,ff,ff,ff,ff]) rfl (by repeat (first | exact np_ret | exact np_cut | apply np_seq | apply np_block | apply np_loopN')) (pure_len rfl rfl) rfl (by kernel_rfl) rfl rfl ?_
  refine any_one (j := 5) (by kernel_rfl) ?_
  refine one_val (listed' := [tt,tt,tt,tt,tt,tt,tt,tt,tt,ff,ff,ff,ff,ff,ff,ff,ff,ff,ff,ff,ff]) rfl rfl (hk1) rfl rfl rfl ?_
  refine any_bool (i := 9) (listed' := [tt,tt,tt,tt,tt,tt,tt,tt,tt,tt,ff,ff,ff,ff,ff,ff,ff,ff,ff,ff,ff]) rfl (by repeat (first | exact np_ret | exact np_cut | apply np_seq | apply np_block | apply np_loopN')) (pure_neq rfl rfl) rfl (by kernel_rfl) rfl rfl (fun h51 => ?_) (fun h51 => ?_)
  ·refine any_pure (i := 10) (listed' := [tt,tt,tt,tt,tt,tt,tt,tt,tt,tt,tt,ff,ff,ff,ff,ff,ff,ff,ff,ff,ff]) rfl (by repeat (first | exact np_ret | exact np_cut | apply np_seq | apply np_block | apply np_loopN')) (pure_pick_f rfl rfl) rfl (by kernel_rfl) rfl rfl ?_
   refine any_pure (i := 11) (listed' := [tt,tt,tt,tt,tt,tt,tt,tt,tt,tt,tt,tt,ff,ff,ff,ff,ff,ff,ff,ff,ff]) rfl (by repeat (first | exact np_ret | exact np_cut | apply np_seq | apply np_block | apply np_loopN')) (pure_move rfl) rfl (by kernel_rfl) rfl rfl ?_
   refine any_skip (i := 12) (listed' := [tt,tt,tt,tt,tt,tt,tt,tt,tt,tt,tt,tt,tt,ff,ff,ff,ff,ff,ff,ff,ff]) rfl (by repeat (first | exact np_ret | exact np_cut | apply np_seq | apply np_block | apply np_loopN')) rfl (by kernel_rfl) rfl rfl ?_
   refine any_skip (i := 13) (listed' := [tt,tt,tt,tt,tt,tt,tt,tt,tt,tt,tt,tt,tt,tt,ff,ff,ff,ff,ff,ff,ff]) rfl (by repeat (first | exact np_ret | exact np_cut | apply np_seq | apply np_block | apply np_loopN')) rfl (by kernel_rfl) rfl rfl ?_
   refine any_skip (i := 14) (listed' := [tt,tt,tt,tt,tt,tt,tt,tt,tt,tt,tt,tt,tt,tt,tt,ff,ff,ff,ff,ff,ff]) rfl (by repeat (first | exact np_ret | exact np_cut | apply np_seq | apply np_block | apply np_loopN')) rfl (by kernel_rfl) rfl rfl ?_
   refine any_pure (i := 15) (listed' := [tt,tt,tt,tt,tt,tt,tt,tt,tt,tt,tt,tt,tt,tt,tt,tt,ff,ff,ff,ff,ff]) rfl (by repeat (first | exact np_ret | exact np_cut | apply np_seq | apply np_block | apply np_loopN')) (pure_pick_t rfl rfl) rfl (by kernel_rfl) rfl rfl ?_
   refine any_pure (i := 16) (listed' := [tt,tt,tt,tt,tt,tt,tt,tt,tt,tt,tt,tt,tt,tt,tt,tt,tt,ff,ff,ff,ff]) rfl (by repeat (first | exact np_ret | exact np_cut | apply np_seq | apply np_block | apply np_loopN')) (pure_move rfl) rfl (by kernel_rfl) rfl rfl ?_
   refine any_skip (i := 17) (listed' := [tt,tt,tt,tt,tt,tt,tt,tt,tt,tt,tt,tt,tt,tt,tt,tt,tt,tt,ff,ff,ff]) rfl (by repeat (first | exact np_ret | exact np_cut | apply np_seq | apply np_block | apply np_loopN')) rfl (by kernel_rfl) rfl rfl ?_
   refine any_skip (i := 18) (listed' := [tt,tt,tt,tt,tt,tt,tt,tt,tt,tt,tt,tt,tt,tt,tt,tt,tt,tt,tt,ff,ff]) rfl (by repeat (first | exact np_ret | exact np_cut | apply np_seq | apply np_block | apply np_loopN')) rfl (by kernel_rfl) rfl rfl ?_
   refine any_skip (i := 19) (listed' := [tt,tt,tt,tt,tt,tt,tt,tt,tt,tt,tt,tt,tt,tt,tt,tt,tt,tt,tt,tt,ff]) rfl (by repeat (first | exact np_ret | exact np_cut | apply np_seq | apply np_block | apply np_loopN')) rfl (by kernel_rfl) rfl rfl ?_
   refine any_pure (i := 20) (listed' := [tt,tt,tt,tt,tt,tt,tt,tt,tt,tt,tt,tt,tt,tt,tt,tt,tt,tt,tt,tt,tt]) rfl (by repeat (first | exact np_ret | exact np_cut | apply np_seq | apply np_block | apply np_loopN')) (pure_pick_t rfl rfl) rfl (by kernel_rfl) rfl rfl ?_
   refine any_done (by kernel_rfl) ?_
   refine nrm_seq ?_
   refine tri_cond_t rfl ?_
   refine tri_seq ?_
   refine tri_region ?_
   refine seq_pure (pure_assign rfl) rfl rfl ?_
   refine seq_done ?_
   refine nrm_seq ?_
   refine tri_ret ?_
   refine ret_seq ?_
   refine ret_fin1 (res_tmp rfl) ?_
   (rw [sShape_no (by rw [hR]; first | omega | exact .inr (.inr (by assumption)) | exact .inr (.inr (by cases R with | false => rfl | true => exact absurd (har rfl) (by omega))))]; exact ⟨rfl, rfl, rfl⟩)
  ·refine any_pure (i := 10) (listed' := [tt,tt,tt,tt,tt,tt,tt,tt,tt,tt,tt,ff,ff,ff,ff,ff,ff,ff,ff,ff,ff]) rfl (by repeat (first | exact np_ret | exact np_cut | apply np_seq | apply np_block | apply np_loopN')) (pure_pick_f rfl rfl) rfl (by kernel_rfl) rfl rfl ?_
   refine any_pure (i := 11) (listed' := [tt,tt,tt,tt,tt,tt,tt,tt,tt,tt,tt,tt,ff,ff,ff,ff,ff,ff,ff,ff,ff]) rfl (by repeat (first | exact np_ret | exact np_cut | apply np_seq | apply np_block | apply np_loopN')) (pure_move rfl) rfl (by kernel_rfl) rfl rfl ?_
   refine any_pure (i := 12) (listed' := [tt,tt,tt,tt,tt,tt,tt,tt,tt,tt,tt,tt,tt,ff,ff,ff,ff,ff,ff,ff,ff]) rfl (by repeat (first | exact np_ret | exact np_cut | apply np_seq | apply np_block | apply np_loopN')) (pure_fieldAddr0 rfl) rfl (by kernel_rfl) rfl rfl ?_
   refine any_load (i := 13) (listed' := [tt,tt,tt,tt,tt,tt,tt,tt,tt,tt,tt,tt,tt,tt,ff,ff,ff,ff,ff,ff,ff]) rfl (by repeat (first | exact np_ret | exact np_cut | apply np_seq | apply np_block | apply np_loopN')) (load_bs rfl rfl (by repeat (first | exact List.Mem.head _ | apply List.Mem.tail)) (by rfl)) rfl (by kernel_rfl) rfl rfl ?_
   refine any_bool (i := 14) (listed' := [tt,tt,tt,tt,tt,tt,tt,tt,tt,tt,tt,tt,tt,tt,tt,ff,ff,ff,ff,ff,ff]) rfl (by repeat (first | exact np_ret | exact np_cut | apply np_seq | apply np_block | apply np_loopN')) (pure_eql rfl rfl) rfl (by kernel_rfl) rfl rfl (fun h79 => ?_) (fun h79 => ?_)
   ·refine any_pure (i := 15) (listed' := [tt,tt,tt,tt,tt,tt,tt,tt,tt,tt,tt,tt,tt,tt,tt,tt,ff,ff,ff,ff,ff]) rfl (by repeat (first | exact np_ret | exact np_cut | apply np_seq | apply np_block | apply np_loopN')) (pure_pick_f rfl rfl) rfl (by kernel_rfl) rfl rfl ?_
    refine any_pure (i := 16) (listed' := [tt,tt,tt,tt,tt,tt,tt,tt,tt,tt,tt,tt,tt,tt,tt,tt,tt,ff,ff,ff,ff]) rfl (by repeat (first | exact np_ret | exact np_cut | apply np_seq | apply np_block | apply np_loopN')) (pure_move rfl) rfl (by kernel_rfl) rfl rfl ?_
    refine any_skip (i := 17) (listed' := [tt,tt,tt,tt,tt,tt,tt,tt,tt,tt,tt,tt,tt,tt,tt,tt,tt,tt,ff,ff,ff]) rfl (by repeat (first | exact np_ret | exact np_cut | apply np_seq | apply np_block | apply np_loopN')) rfl (by kernel_rfl) rfl rfl ?_
    refine any_skip (i := 18) (listed' := [tt,tt,tt,tt,tt,tt,tt,tt,tt,tt,tt,tt,tt,tt,tt,tt,tt,tt,tt,ff,ff]) rfl (by repeat (first | exact np_ret | exact np_cut | apply np_seq | apply np_block | apply np_loopN')) rfl (by kernel_rfl) rfl rfl ?_
    refine any_skip (i := 19) (listed' := [tt,tt,tt,tt,tt,tt,tt,tt,tt,tt,tt,tt,tt,tt,tt,tt,tt,tt,tt,tt,ff]) rfl (by repeat (first | exact np_ret | exact np_cut | apply np_seq | apply np_block | apply np_loopN')) rfl (by kernel_rfl) rfl rfl ?_
    refine any_pure (i := 20) (listed' := [tt,tt,tt,tt,tt,tt,tt,tt,tt,tt,tt,tt,tt,tt,tt,tt,tt,tt,tt,tt,tt]) rfl (by repeat (first | exact np_ret | exact np_cut | apply np_seq | apply np_block | apply np_loopN')) (pure_pick_t rfl rfl) rfl (by kernel_rfl) rfl rfl ?_
    refine any_done (by kernel_rfl) ?_
    refine nrm_seq ?_
    refine tri_cond_t rfl ?_
    refine tri_seq ?_
    refine tri_region ?_
    refine seq_pure (pure_assign rfl) rfl rfl ?_
    refine seq_done ?_
    refine nrm_seq ?_
    refine tri_ret ?_
    refine ret_seq ?_
    refine ret_fin1 (res_tmp rfl) ?_
    (rw [sShape_no (by rw [hR]; first | omega | exact .inr (.inr (by assumption)) | exact .inr (.inr (by cases R with | false => rfl | true => exact absurd (har rfl) (by omega))))]; exact ⟨rfl, rfl, rfl⟩)
   ·refine any_pure (i := 15) (listed' := [tt,tt,tt,tt,tt,tt,tt,tt,tt,tt,tt,tt,tt,tt,tt,tt,ff,ff,ff,ff,ff]) rfl (by repeat (first | exact np_ret | exact np_cut | apply np_seq | apply np_block | apply np_loopN')) (pure_pick_f rfl rfl) rfl (by kernel_rfl) rfl rfl ?_
    refine any_pure (i := 16) (listed' := [tt,tt,tt,tt,tt,tt,tt,tt,tt,tt,tt,tt,tt,tt,tt,tt,tt,ff,ff,ff,ff]) rfl (by repeat (first | exact np_ret | exact np_cut | apply np_seq | apply np_block | apply np_loopN')) (pure_move rfl) rfl (by kernel_rfl) rfl rfl ?_
    refine any_load (i := 17) (listed' := [tt,tt,tt,tt,tt,tt,tt,tt,tt,tt,tt,tt,tt,tt,tt,tt,tt,tt,ff,ff,ff]) rfl (by repeat (first | exact np_ret | exact np_cut | apply np_seq | apply np_block | apply np_loopN')) (load_ba rfl rfl (by repeat (first | exact List.Mem.head _ | apply List.Mem.tail)) (by rfl)) rfl (by kernel_rfl) rfl rfl ?_
    refine any_one (j := 18) (by kernel_rfl) ?_
    refine one_valb (listed' := [tt,tt,tt,tt,tt,tt,tt,tt,tt,tt,tt,tt,tt,tt,tt,tt,tt,tt,tt,ff,ff]) rfl rfl (hl2 (hne (by omega) (by omega))) rfl rfl rfl (fun h102 => ?_) (fun h102 => ?_)
    ·refine any_pure (i := 19) (listed' := [tt,tt,tt,tt,tt,tt,tt,tt,tt,tt,tt,tt,tt,tt,tt,tt,tt,tt,tt,tt,ff]) rfl (by repeat (first | exact np_ret | exact np_cut | apply np_seq | apply np_block | apply np_loopN')) (pure_not_t rfl) rfl (by kernel_rfl) rfl rfl ?_
     refine any_pure (i := 20) (listed' := [tt,tt,tt,tt,tt,tt,tt,tt,tt,tt,tt,tt,tt,tt,tt,tt,tt,tt,tt,tt,tt]) rfl (by repeat (first | exact np_ret | exact np_cut | apply np_seq | apply np_block | apply np_loopN')) (pure_pick_f rfl rfl) rfl (by kernel_rfl) rfl rfl ?_
     refine any_done (by kernel_rfl) ?_
     refine nrm_seq ?_
     refine tri_cond_f rfl ?_
     refine tri_skip ?_
     refine nrm_seq ?_
     refine tri_seq ?_
     refine tri_seq ?_
     refine tri_region ?_
     refine seq_pure (pure_assign rfl) rfl rfl ?_
     refine seq_done ?_
     refine nrm_seq ?_
     refine tri_block ?_
     (refine tri_loopN (fun (i : Nat) => ⟨[(5, .int .i64 i), (2, .pointer (some ⟨b3, 0, none⟩)), (1, .int .i64 d)], [.blk b3 [.int .i64 k, .string nm, .int .i64 num, .int .i64 tk, .slice pt tks.length ct, .int .i64 fk, .slice pf fks.length cf, .int .i64 lb, .slice p ks.length c]], G⟩) (fun i => i ≤ ks.length ∧ ∀ j (h : j < ks.length), j < i → sShape 12 14 ks[j] (13 - d + 1) = true) (fun i => ks.length - i) 0 ?_ ?_ ?_)
     ·exact sub_mk (by repeat (first | exact SubE.nil | refine SubE.cons rfl ?_)) (by repeat (first | exact SubH.refl | exact SubH.nil | refine SubH.cons (by repeat (first | exact Pk.here | apply Pk.there)) ?_ | apply SubH.drop))
     ·exact ⟨by omega, by omega⟩
     ·(rintro i ⟨hi, hf⟩)
      refine tri_seq ?_
      refine tri_seq ?_
      refine tri_region ?_
      refine seq_pure (pure_move rfl) rfl rfl ?_
      refine seq_pure (pure_fieldAddr0 rfl) rfl rfl ?_
      refine seq_load (load_bs rfl rfl (by repeat (first | exact List.Mem.head _ | apply List.Mem.tail)) (by rfl)) rfl rfl ?_
      refine seq_pure (pure_len rfl rfl) rfl rfl ?_
      refine seq_bool (pure_lss rfl rfl) rfl rfl (fun h128 => ?_) (fun h128 => ?_)
      ·refine seq_done ?_
       refine nrm_seq ?_
       refine tri_cond_t rfl ?_
       refine tri_skip ?_
       refine nrm_seq ?_
       refine tri_seq ?_
       refine tri_block ?_
       refine tri_seq ?_
       refine tri_region ?_
       refine seq_pure (pure_fieldAddr0 rfl) rfl rfl ?_
       refine seq_load (load_bs rfl rfl (by repeat (first | exact List.Mem.head _ | apply List.Mem.tail)) (by rfl)) rfl rfl ?_
       refine seq_pure (pure_move rfl) rfl rfl ?_
       (obtain ⟨b, o, e, rfl, hl, hat, hre, hgb⟩ := hsl.kidTm hkl (i := i) (by omega) (by omega); refine seq_pure (pure_indexAddrN rfl rfl rfl (by omega)) rfl rfl ?_)
       refine seq_load (load_a rfl rfl (hat _) hl) rfl rfl ?_
       refine seq_pure (pure_move rfl) rfl rfl ?_
       refine seq_pure (pure_sub rfl rfl (by omega) (by omega)) rfl rfl ?_
       (have hih := ih ks[i] (List.getElem_mem (by omega)) (d - 1) G _ (by omega) hre; rw [show 13 - (d - 1) = 13 - d + 1 by omega] at hih; refine seq_valb rfl hih rfl rfl (fun h145 => ?_) (fun h145 => ?_))
       ·refine seq_pure (pure_not_t rfl) rfl rfl ?_
        refine seq_done ?_
        refine nrm_seq ?_
        refine tri_cond_f rfl ?_
        refine tri_skip ?_
        refine nrm_block ?_
        refine nrm_seq ?_
        refine tri_region ?_
        refine seq_pure (pure_move rfl) rfl rfl ?_
        refine seq_pure (pure_add rfl rfl (by omega) (by omega)) rfl rfl ?_
        refine seq_pure (pure_assign rfl) rfl rfl ?_
        refine seq_done ?_
        refine nrm_loopN (i + 1) ?_ ?_ ?_
        ·exact sub_mk (by repeat (first | exact SubE.nil | refine SubE.cons rfl ?_)) (by repeat (first | exact SubH.refl | exact SubH.nil | refine SubH.cons (by repeat (first | exact Pk.here | apply Pk.there)) ?_ | apply SubH.drop))
        ·exact ⟨by omega, fun j hj hji => by (by_cases he : j = i; (subst he; assumption); exact hf j hj (by omega))⟩
        ·omega
       ·refine seq_pure (pure_not_f rfl) rfl rfl ?_
        refine seq_done ?_
        refine nrm_seq ?_
        refine tri_cond_t rfl ?_
        refine tri_seq ?_
        refine tri_region ?_
        refine seq_pure (pure_assign rfl) rfl rfl ?_
        refine seq_done ?_
        refine nrm_seq ?_
        refine tri_ret ?_
        refine ret_block ?_
        refine ret_seq ?_
        refine ret_loopN ?_
        refine ret_block ?_
        refine ret_seq ?_
        refine ret_fin1 (res_tmp rfl) ?_
        (rw [sShape_go (by omega) (by omega) (hR.trans (by assumption)), sShapeL_f (i := i) (by omega) (by assumption)]; exact ⟨rfl, rfl, rfl⟩)
      ·refine seq_done ?_
       refine nrm_seq ?_
       refine tri_cond_f rfl ?_
       refine tri_exit ?_
       refine ext_seq ?_
       refine ext_loopN ?_
       refine ext_block_eq ?_
       refine nrm_seq ?_
       refine tri_seq ?_
       refine tri_region ?_
       refine seq_pure (pure_assign rfl) rfl rfl ?_
       refine seq_done ?_
       refine nrm_seq ?_
       refine tri_ret ?_
       refine ret_fin1 (res_tmp rfl) ?_
       (rw [sShape_go (by omega) (by omega) (hR.trans (by assumption)), (sShapeL_iff 12 14 ks _).2 (fun j hj => hf j hj (by omega))]; exact ⟨rfl, rfl, rfl⟩)
    ·refine any_pure (i := 19) (listed' := [tt,tt,tt,tt,tt,tt,tt,tt,tt,tt,tt,tt,tt,tt,tt,tt,tt,tt,tt,tt,ff]) rfl (by repeat (first | exact np_ret | exact np_cut | apply np_seq | apply np_block | apply np_loopN')) (pure_not_f rfl) rfl (by kernel_rfl) rfl rfl ?_
     refine any_pure (i := 20) (listed' := [tt,tt,tt,tt,tt,tt,tt,tt,tt,tt,tt,tt,tt,tt,tt,tt,tt,tt,tt,tt,tt]) rfl (by repeat (first | exact np_ret | exact np_cut | apply np_seq | apply np_block | apply np_loopN')) (pure_pick_f rfl rfl) rfl (by kernel_rfl) rfl rfl ?_
     refine any_done (by kernel_rfl) ?_
     refine nrm_seq ?_
     refine tri_cond_t rfl ?_
     refine tri_seq ?_
     refine tri_region ?_
     refine seq_pure (pure_assign rfl) rfl rfl ?_
     refine seq_done ?_
     refine nrm_seq ?_
     refine tri_ret ?_
     refine ret_seq ?_
     refine ret_fin1 (res_tmp rfl) ?_
     (rw [sShape_no (by rw [hR]; first | omega | exact .inr (.inr (by assumption)) | exact .inr (.inr (by cases R with | false => rfl | true => exact absurd (har rfl) (by omega))))]; exact ⟨rfl, rfl, rfl⟩)
set_option maxRecDepth 100000 in
theorem sTermValid_fn (t : Tm) (G : IM) (cells : List Value) (hcnt : tmCount t ≤ 4294967296) (hr : RTm G t cells) :
  Fn Try.prog 97 [.agg ⟨cells⟩] [] G (Val (.bool (termValid t)) G) := by
 have hl := hr.len
 have hv := l2Shape_fn t 12 G cells (by omega) hr
 have hc := fun h => l2Count_fn 12 14 t 12 G cells (by omega) h hcnt hr
 have hi := termValid_iff t
 obtain ⟨R, hR⟩ : ∃ R, termValid t = R := ⟨_, rfl⟩
 rw [hR] at hi ⊢
 refine fn_enter Try.func97 rfl Try.ntmps97 Try.results97 rfl ?_
 intro w0
 refine tri_seq ?_
 refine tri_region ?_
 (refine seq_step (step_box_a rfl rfl) rfl ?_; rintro _ ⟨b3, rfl⟩)
 refine seq_pure (pure_assign rfl) rfl rfl ?_
 refine seq_done ?_
 refine nrm_seq ?_
 refine tri_seq ?_
 refine tri_region ?_
 refine seq_load (load_a rfl rfl (at_blk_all (by repeat (first | exact List.Mem.head _ | apply List.Mem.tail))) (by assumption)) rfl rfl ?_
 refine seq_valb rfl (hv) rfl rfl (fun h10 => ?_) (fun h10 => ?_)
 ·refine seq_pure (pure_move rfl) rfl rfl ?_
  refine seq_load (load_a rfl rfl (at_blk_all (by repeat (first | exact List.Mem.head _ | apply List.Mem.tail))) (by assumption)) rfl rfl ?_
  refine seq_val rfl (hc (by assumption)) rfl rfl ?_
  refine seq_bool (pure_leq rfl rfl) rfl rfl (fun h14 => ?_) (fun h14 => ?_)
  ·refine seq_pure (pure_pick_t rfl rfl) rfl rfl ?_
   refine seq_pure (pure_assign rfl) rfl rfl ?_
   refine seq_done ?_
   refine nrm_seq ?_
   refine tri_ret ?_
   refine ret_fin1 (res_tmp rfl) ?_
   exact ⟨rfl, by rw [hi.2 ⟨by assumption, by omega⟩], rfl⟩
  ·refine seq_pure (pure_pick_t rfl rfl) rfl rfl ?_
   refine seq_pure (pure_assign rfl) rfl rfl ?_
   refine seq_done ?_
   refine nrm_seq ?_
   refine tri_ret ?_
   refine ret_fin1 (res_tmp rfl) ?_
   exact ⟨rfl, by (cases R with | false => rfl | true => (exfalso; have h0 := hi.1 rfl; first | omega | simp_all)), rfl⟩
 ·refine seq_pure (pure_move rfl) rfl rfl ?_
  refine seq_skip rfl rfl ?_
  refine seq_skip rfl rfl ?_
  refine seq_skip rfl rfl ?_
  refine seq_pure (pure_pick_f rfl rfl) rfl rfl ?_
  refine seq_pure (pure_assign rfl) rfl rfl ?_
  refine seq_done ?_
  refine nrm_seq ?_
  refine tri_ret ?_
  refine ret_fin1 (res_tmp rfl) ?_
  exact ⟨rfl, by (cases R with | false => rfl | true => (exfalso; have h0 := hi.1 rfl; first | omega | simp_all)), rfl⟩
end Gw
end Go.Proofs.Yteneckdjdfnjoaa
