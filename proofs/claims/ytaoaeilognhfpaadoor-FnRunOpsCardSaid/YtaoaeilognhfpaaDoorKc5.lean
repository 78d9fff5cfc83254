/-
  The reference model's typing: it ends, and what it gives is a type whose nodes have their operands, not wider than the term is big. The reference model's terms that are sometimes made invalid; drawn arguments. Casts put in: one cast, the types that are asked for. InsertCasts of the reference model: it ends, and what it gives is not much bigger than what it is given. Which names are free, at which place a name is bound: what comes out is small. BareTerm, CountNodes: the program's and the reference model's. BareTerm, CountNodes: the reference model's, the program's. A function that only reads may be handed an own slice. The reference's compiler: what comes out is a small code. Drawn terms that often have a type: one lambda, given the terms below.
-/
import Derived.Test.YtaoaeilognhfpaaDoorKc3
import Derived.Test.YtaoaeilognhfpaaDoorKc2
import Derived.Test.YtaoaeilognhfpaaDoorKc1
import Derived.Test.YtaoaeilognhfpaaDoorKc0
import Derived.Test.YtaoaeilognhfpaaDoorKc4
namespace Go.Proofs.YtaoaeilognhfpaaDoor
open Go Go.RowKit
namespace Gw
theorem tm_ops {k : Int} {n : Nat} (h : tmOps k = n) : (k = 6 ∨ k = 7 ∨ k = 8 ∨ k = 10 → n = 2) ∧ (k = 9 → n = 3) ∧ (k = 5 ∨ k = 11 ∨ k = 12 ∨ k = 13 → n = 1) := by
 refine ⟨?_, ?_, ?_⟩
 ·rintro (rfl | rfl | rfl | rfl)
  ·rw [show tmOps 6 = 2 from rfl] at h; omega
  ·rw [show tmOps 7 = 2 from rfl] at h; omega
  ·rw [show tmOps 8 = 2 from rfl] at h; omega
  ·rw [show tmOps 10 = 2 from rfl] at h; omega
 ·rintro rfl
  rw [show tmOps 9 = 3 from rfl] at h; omega
 ·rintro (rfl | rfl | rfl | rfl)
  ·rw [show tmOps 5 = 1 from rfl] at h; omega
  ·rw [show tmOps 11 = 1 from rfl] at h; omega
  ·rw [show tmOps 12 = 1 from rfl] at h; omega
  ·rw [show tmOps 13 = 1 from rfl] at h; omega
theorem sumTy_get {ts : List Ty} {i : Nat} (h : i < ts.length) : szTy ts[i] ≤ sumTy ts := sumTy_mem (List.getElem_mem h)
theorem sumTy_two {ts : List Ty} {i j : Nat} (h : j < ts.length) (hij : i < j) : szTy ts[i] + szTy ts[j] ≤ sumTy ts := by
 have h1 := sumTy_succ (ks := ts) (i := i) (by omega)
 have h2 := sumTy_succ (ks := ts) (i := j) h
 have h3 := sumTy_take ts (j + 1)
 have h4 : sumTy (ts.take (i + 1)) ≤ sumTy (ts.take j) := by
  have := sumTy_take (ts.take j) (i + 1)
  rwa [List.take_take, Nat.min_eq_left (by omega)] at this
 have h5 : 0 ≤ sumTy (ts.take i) := sumTy_nn _
 omega
set_option maxHeartbeats 0 in
set_option maxRecDepth 100000 in
theorem l3Result_fn (k : Int) (nm : ByteArray) (num : Int) (ty fr : Ty) (lb : Int) (ks : List Tm) (ts : List Ty) (G : IM) (cells : List Value) (p : Option Addr) (c : Nat) (es : List (List Value))
  (hops : tmOps k = ts.length) (hty : tAr ty ∧ szTy ty ≤ 30) (hr : RTm G (.mk k nm num ty fr lb ks) cells) (hsl : SlE G p ts.length c 2 es) (hkl : RTyL G ts es) (har : ∀ t ∈ ts, tAr t) :
  Fn Tryd.prog 90 [.agg ⟨cells⟩, .slice p ts.length c] [] G (TyB (sumTy ts + 32) G) := by
 have hone := hr.one
 have hop := tm_ops hops
 have hnn := sumTy_nn ts
 have hz0 := fun h : 0 < ts.length => sumTy_get h
 have hz1 := fun h : 1 < ts.length => sumTy_get h
 have hz01 := fun h : 1 < ts.length => sumTy_two (i := 0) h (by omega)
 have hz12 := fun h : 2 < ts.length => sumTy_two (i := 1) h (by omega)
 have ha0 := fun h : 0 < ts.length => har _ (List.getElem_mem h)
 have ha1 := fun h : 1 < ts.length => har _ (List.getElem_mem h)
 have ha2 := fun h : 2 < ts.length => har _ (List.getElem_mem h)
 obtain ⟨tk, tks⟩ := ty
 obtain ⟨fk, fks⟩ := fr
 obtain ⟨pt, ct, pf, cf, pk, ck, ek, rfl, hk, hnum, hlb, hrty, hrfr, _, _⟩ := hr.open9
 refine fn_enter Tryd.func90 rfl Tryd.ntmps90 Tryd.results90 rfl ?_
 intro w0
 refine tri_seq (tri_region ?_)
 (refine seq_step (step_box_a rfl rfl) rfl ?_; rintro _ ⟨b3, rfl⟩)
 (refine seq_step (step_alloc rfl) rfl ?_; rintro _ ⟨b4, rfl⟩)
 refine seq_pure (pure_assign rfl) rfl rfl ?_
 refine seq_done (nrm_seq (tri_seq (tri_seq (tri_region (seq_pure (pure_fieldAddr0 rfl) rfl rfl ?_)))))
 refine seq_load (load_bs rfl rfl (by repeat first | exact mH | apply mT) (by rfl)) rfl rfl ?_
 refine seq_done (nrm_seq (tri_block (tri_seq (tri_region (seq_bool (pure_eql rfl rfl) rfl rfl (fun h18 => ?_) (fun h18 => ?_))))))
 refine seq_pure (pure_assign rfl) rfl rfl ?_
 refine seq_done (nrm_seq (tri_cond_t rfl ?_))
 refine tri_seq (tri_region (seq_pure (pure_move rfl) rfl rfl ?_))
 (have hl2 : ts.length = 2 := hop.1 (by omega); obtain ⟨b0, o0, q0, d0, hp0, hat0, hre0, hg0⟩ := hsl.kidTy hkl (i := 0) (by omega) (by omega); obtain ⟨b1, o1, q1, d1, hp1, hat1, hre1, hg1⟩ := hsl.kidTy hkl (i := 1) (by omega) (by omega); cases hp0; cases hp1; refine seq_pure (pure_indexAddrN (j := 0) rfl rfl rfl (by omega)) rfl rfl ?_)
 refine seq_load (load_a rfl rfl (hat0 _) rfl) rfl rfl ?_
 (refine seq_imm rfl (l3Match_fn 4 ts[0] G _ (.inl rfl) (ha0 (by omega)) hre0) rfl rfl (fun v G1 hle1 hh => ?_); obtain ⟨ma, mca, mb, mcb, mx, rfl, hma, hma2, hma3, hmb, hmb2, hmb3⟩ := hh; obtain ⟨p1, c1, e1, rfl, _⟩ := hma.open; obtain ⟨p2, c2, e2, rfl, _⟩ := hmb.open; replace hsl := hsl.mono hle1; replace hkl := hkl.mono hle1; cases mx)
 refine seq_pure (pure_move rfl) rfl rfl ?_
 refine seq_pure (pure_extract rfl rfl) rfl rfl ?_
 refine seq_pure (pure_extract rfl rfl) rfl rfl ?_
 refine seq_pure (pure_extract rfl rfl) rfl rfl ?_
 (refine seq_step (step_alloc rfl) rfl ?_; rintro _ ⟨b33, rfl⟩)
 (refine seq_step (step_alloc rfl) rfl ?_; rintro _ ⟨b34, rfl⟩)
 refine seq_store rfl rfl rfl rfl rfl rfl (by repeat first | exact Sw.here | apply Sw.there) (by rfl) ?_
 refine seq_store rfl rfl rfl rfl rfl rfl (by repeat first | exact Sw.here | apply Sw.there) (by rfl) ?_
 refine seq_pure (pure_assign rfl) rfl rfl ?_
 refine seq_done (nrm_seq (tri_seq ?_))
 (have hl2 : ts.length = 2 := hop.1 (by omega); obtain ⟨b0, o0, q0, d0, hp0, hat0, hre0, hg0⟩ := hsl.kidTy hkl (i := 0) (by omega) (by omega); obtain ⟨b1, o1, q1, d1, hp1, hat1, hre1, hg1⟩ := hsl.kidTy hkl (i := 1) (by omega) (by omega); cases hp0; cases hp1; refine tri_draw mixed rfl ?_)
 refine any_load (i := 0) (listed' := [tt,ff,ff,ff,ff,ff,ff,ff,ff,ff,ff]) rfl npI (load_ba rfl rfl (by repeat first | exact mH | apply mT) (by rfl)) rfl (by kernel_rfl) rfl rfl ?_
 refine any_pure (i := 1) (listed' := [tt,tt,ff,ff,ff,ff,ff,ff,ff,ff,ff]) rfl npI (pure_move rfl) rfl (by kernel_rfl) rfl rfl ?_
 refine any_pure (i := 2) (listed' := [tt,tt,tt,ff,ff,ff,ff,ff,ff,ff,ff]) rfl npI (pure_move rfl) rfl (by kernel_rfl) rfl rfl ?_
 refine any_skip (i := 3) (listed' := [tt,tt,tt,tt,ff,ff,ff,ff,ff,ff,ff]) rfl npI rfl (by kernel_rfl) rfl rfl ?_
 refine any_skip (i := 4) (listed' := [tt,tt,tt,tt,tt,ff,ff,ff,ff,ff,ff]) rfl npI rfl (by kernel_rfl) rfl rfl ?_
 refine any_skip (i := 5) (listed' := [tt,tt,tt,tt,tt,tt,ff,ff,ff,ff,ff]) rfl npI rfl (by kernel_rfl) rfl rfl ?_
 refine any_skip (i := 6) (listed' := [tt,tt,tt,tt,tt,tt,tt,ff,ff,ff,ff]) rfl npI rfl (by kernel_rfl) rfl rfl ?_
 refine any_skip (i := 7) (listed' := [tt,tt,tt,tt,tt,tt,tt,tt,ff,ff,ff]) rfl npI rfl (by kernel_rfl) rfl rfl ?_
 refine any_pure (i := 8) (listed' := [tt,tt,tt,tt,tt,tt,tt,tt,tt,ff,ff]) rfl npI (pure_pick_f rfl rfl) rfl (by kernel_rfl) rfl rfl ?_
 refine any_one (j := 9) (by kernel_rfl) ?_
 refine one_store (listed' := [tt,tt,tt,tt,tt,tt,tt,tt,tt,tt,ff]) rfl rfl rfl rfl rfl rfl rfl rfl (by kernel_rfl) (by repeat first | exact Sw.here | apply Sw.there) (by rfl) ?_
 refine any_pure (i := 10) (listed' := [tt,tt,tt,tt,tt,tt,tt,tt,tt,tt,tt]) rfl npI (pure_assign rfl) rfl (by kernel_rfl) rfl rfl ?_
 refine any_done (by kernel_rfl) ?_
 refine nrm_seq (tri_ret (ret_block (ret_seq (ret_fin2 (res_cell rfl (load_ba rfl rfl (by repeat first | exact mH | apply mT) (by rfl))) (res_tmp rfl) ?_))))
 (have h0 := hz0 (by omega); exact ⟨rfl, _, _, _, rfl, hmb, hmb2, by omega⟩)
 refine seq_pure (pure_move rfl) rfl rfl ?_
 refine seq_pure (pure_extract rfl rfl) rfl rfl ?_
 refine seq_pure (pure_extract rfl rfl) rfl rfl ?_
 refine seq_pure (pure_extract rfl rfl) rfl rfl ?_
 (refine seq_step (step_alloc rfl) rfl ?_; rintro _ ⟨b65, rfl⟩)
 (refine seq_step (step_alloc rfl) rfl ?_; rintro _ ⟨b66, rfl⟩)
 refine seq_store rfl rfl rfl rfl rfl rfl (by repeat first | exact Sw.here | apply Sw.there) (by rfl) ?_
 refine seq_store rfl rfl rfl rfl rfl rfl (by repeat first | exact Sw.here | apply Sw.there) (by rfl) ?_
 refine seq_pure (pure_assign rfl) rfl rfl ?_
 refine seq_done (nrm_seq (tri_seq ?_))
 (have hl2 : ts.length = 2 := hop.1 (by omega); obtain ⟨b0, o0, q0, d0, hp0, hat0, hre0, hg0⟩ := hsl.kidTy hkl (i := 0) (by omega) (by omega); obtain ⟨b1, o1, q1, d1, hp1, hat1, hre1, hg1⟩ := hsl.kidTy hkl (i := 1) (by omega) (by omega); cases hp0; cases hp1; refine tri_draw mixed rfl ?_)
 refine any_load (i := 0) (listed' := [tt,ff,ff,ff,ff,ff,ff,ff,ff,ff,ff]) rfl npI (load_ba rfl rfl (by repeat first | exact mH | apply mT) (by rfl)) rfl (by kernel_rfl) rfl rfl ?_
 refine any_pure (i := 1) (listed' := [tt,tt,ff,ff,ff,ff,ff,ff,ff,ff,ff]) rfl npI (pure_move rfl) rfl (by kernel_rfl) rfl rfl ?_
 refine any_pure (i := 2) (listed' := [tt,tt,tt,ff,ff,ff,ff,ff,ff,ff,ff]) rfl npI (pure_move rfl) rfl (by kernel_rfl) rfl rfl ?_
 refine any_pure (i := 3) (listed' := [tt,tt,tt,tt,ff,ff,ff,ff,ff,ff,ff]) rfl npI (pure_move rfl) rfl (by kernel_rfl) rfl rfl ?_
 refine any_pure (i := 4) (listed' := [tt,tt,tt,tt,tt,ff,ff,ff,ff,ff,ff]) rfl npI (pure_indexAddrN (j := 1) rfl rfl rfl (by omega)) rfl (by kernel_rfl) rfl rfl ?_
 refine any_load (i := 5) (listed' := [tt,tt,tt,tt,tt,tt,ff,ff,ff,ff,ff]) rfl npI (load_a rfl rfl (hat1 _) rfl) rfl (by kernel_rfl) rfl rfl ?_
 refine any_load (i := 6) (listed' := [tt,tt,tt,tt,tt,tt,tt,ff,ff,ff,ff]) rfl npI (load_ba rfl rfl (by repeat first | exact mH | apply mT) (by rfl)) rfl (by kernel_rfl) rfl rfl ?_
 refine any_one (j := 7) (by kernel_rfl) ?_
 refine one_val (listed' := [tt,tt,tt,tt,tt,tt,tt,tt,ff,ff,ff]) rfl rfl ((l1ConsistentA_fn ts[1] ma _ _ _ (ha1 (by omega)) hma2 hre1 hma)) rfl rfl rfl ?_
 refine any_pure (i := 8) (listed' := [tt,tt,tt,tt,tt,tt,tt,tt,tt,ff,ff]) rfl npI (pure_pick_t rfl rfl) rfl (by kernel_rfl) rfl rfl ?_
 refine any_one (j := 9) (by kernel_rfl) ?_
 refine one_store (listed' := [tt,tt,tt,tt,tt,tt,tt,tt,tt,tt,ff]) rfl rfl rfl rfl rfl rfl rfl rfl (by kernel_rfl) (by repeat first | exact Sw.here | apply Sw.there) (by rfl) ?_
 refine any_pure (i := 10) (listed' := [tt,tt,tt,tt,tt,tt,tt,tt,tt,tt,tt]) rfl npI (pure_assign rfl) rfl (by kernel_rfl) rfl rfl ?_
 refine any_done (by kernel_rfl) ?_
 refine nrm_seq (tri_ret (ret_block (ret_seq (ret_fin2 (res_cell rfl (load_ba rfl rfl (by repeat first | exact mH | apply mT) (by rfl))) (res_tmp rfl) ?_))))
 (have h0 := hz0 (by omega); exact ⟨rfl, _, _, _, rfl, hmb, hmb2, by omega⟩)
 refine seq_pure (pure_assign rfl) rfl rfl ?_
 refine seq_done (nrm_seq (tri_cond_f rfl ?_))
 refine tri_seq (tri_region (seq_bool (pure_eql rfl rfl) rfl rfl (fun h100 => ?_) (fun h100 => ?_)))
 refine seq_pure (pure_assign rfl) rfl rfl ?_
 refine seq_done (nrm_seq (tri_cond_t rfl ?_))
 refine tri_seq ?_
 (have hl2 : ts.length = 2 := hop.1 (by omega); obtain ⟨b0, o0, q0, d0, hp0, hat0, hre0, hg0⟩ := hsl.kidTy hkl (i := 0) (by omega) (by omega); obtain ⟨b1, o1, q1, d1, hp1, hat1, hre1, hg1⟩ := hsl.kidTy hkl (i := 1) (by omega) (by omega); cases hp0; cases hp1; refine tri_draw mixed rfl ?_)
 refine any_pure (i := 1) (listed' := [ff,tt,ff,ff,ff,ff,ff,ff,ff,ff,ff,ff,ff,ff,ff]) rfl npI (pure_move rfl) rfl (by kernel_rfl) rfl rfl ?_
 refine any_pure (i := 2) (listed' := [ff,tt,tt,ff,ff,ff,ff,ff,ff,ff,ff,ff,ff,ff,ff]) rfl npI (pure_indexAddrN (j := 0) rfl rfl rfl (by omega)) rfl (by kernel_rfl) rfl rfl ?_
 refine any_load (i := 3) (listed' := [ff,tt,tt,tt,ff,ff,ff,ff,ff,ff,ff,ff,ff,ff,ff]) rfl npI (load_a rfl rfl (hat0 _) rfl) rfl (by kernel_rfl) rfl rfl ?_
 refine any_one (j := 0) (by kernel_rfl) ?_
 refine one_val (listed' := [tt,tt,tt,tt,ff,ff,ff,ff,ff,ff,ff,ff,ff,ff,ff]) rfl rfl ((l3Int_fn _)) rfl rfl rfl ?_
 refine any_one (j := 4) (by kernel_rfl) ?_
 refine one_val (listed' := [tt,tt,tt,tt,tt,ff,ff,ff,ff,ff,ff,ff,ff,ff,ff]) rfl rfl ((l3Int_fn _)) rfl rfl rfl ?_
 refine any_one (j := 5) (by kernel_rfl) ?_
 refine one_valb (listed' := [tt,tt,tt,tt,tt,tt,ff,ff,ff,ff,ff,ff,ff,ff,ff]) rfl rfl ((l1ConsistentA_fn ts[0] (.mk 2 []) _ _ _ (ha0 (by omega)) (tAr_leaf (by decide) (by decide)) hre0 (tyLeaf_r _ ⟨by omega, by omega⟩))) rfl rfl rfl (fun h115 => ?_) (fun h115 => ?_)
 refine any_pure (i := 6) (listed' := [tt,tt,tt,tt,tt,tt,tt,ff,ff,ff,ff,ff,ff,ff,ff]) rfl npI (pure_move rfl) rfl (by kernel_rfl) rfl rfl ?_
 refine any_pure (i := 7) (listed' := [tt,tt,tt,tt,tt,tt,tt,tt,ff,ff,ff,ff,ff,ff,ff]) rfl npI (pure_move rfl) rfl (by kernel_rfl) rfl rfl ?_
 refine any_pure (i := 8) (listed' := [tt,tt,tt,tt,tt,tt,tt,tt,tt,ff,ff,ff,ff,ff,ff]) rfl npI (pure_indexAddrN (j := 1) rfl rfl rfl (by omega)) rfl (by kernel_rfl) rfl rfl ?_
 refine any_load (i := 9) (listed' := [tt,tt,tt,tt,tt,tt,tt,tt,tt,tt,ff,ff,ff,ff,ff]) rfl npI (load_a rfl rfl (hat1 _) rfl) rfl (by kernel_rfl) rfl rfl ?_
 refine any_one (j := 10) (by kernel_rfl) ?_
 refine one_val (listed' := [tt,tt,tt,tt,tt,tt,tt,tt,tt,tt,tt,ff,ff,ff,ff]) rfl rfl ((l3Int_fn _)) rfl rfl rfl ?_
 refine any_one (j := 11) (by kernel_rfl) ?_
 refine one_val (listed' := [tt,tt,tt,tt,tt,tt,tt,tt,tt,tt,tt,tt,ff,ff,ff]) rfl rfl ((l1ConsistentA_fn ts[1] (.mk 2 []) _ _ _ (ha1 (by omega)) (tAr_leaf (by decide) (by decide)) hre1 (tyLeaf_r _ ⟨by omega, by omega⟩))) rfl rfl rfl ?_
 refine any_pure (i := 12) (listed' := [tt,tt,tt,tt,tt,tt,tt,tt,tt,tt,tt,tt,tt,ff,ff]) rfl npI (pure_pick_t rfl rfl) rfl (by kernel_rfl) rfl rfl ?_
 refine any_one (j := 13) (by kernel_rfl) ?_
 refine one_store (listed' := [tt,tt,tt,tt,tt,tt,tt,tt,tt,tt,tt,tt,tt,tt,ff]) rfl rfl rfl rfl rfl rfl rfl rfl (by kernel_rfl) (by repeat first | exact Sw.here | apply Sw.there) (by rfl) ?_
 refine any_pure (i := 14) (listed' := [tt,tt,tt,tt,tt,tt,tt,tt,tt,tt,tt,tt,tt,tt,tt]) rfl npI (pure_assign rfl) rfl (by kernel_rfl) rfl rfl ?_
 refine any_done (by kernel_rfl) ?_
 refine nrm_seq (tri_ret (ret_block (ret_seq (ret_fin2 (res_cell rfl (load_ba rfl rfl (by repeat first | exact mH | apply mT) (by rfl))) (res_tmp rfl) ?_))))
 (exact ⟨rfl, _, _, _, rfl, tyLeaf_r _ ⟨by omega, by omega⟩, tAr_leaf (by omega) (by omega), by rw [szLeaf]; omega⟩)
 refine any_pure (i := 6) (listed' := [tt,tt,tt,tt,tt,tt,tt,ff,ff,ff,ff,ff,ff,ff,ff]) rfl npI (pure_move rfl) rfl (by kernel_rfl) rfl rfl ?_
 refine any_skip (i := 7) (listed' := [tt,tt,tt,tt,tt,tt,tt,tt,ff,ff,ff,ff,ff,ff,ff]) rfl npI rfl (by kernel_rfl) rfl rfl ?_
 refine any_skip (i := 8) (listed' := [tt,tt,tt,tt,tt,tt,tt,tt,tt,ff,ff,ff,ff,ff,ff]) rfl npI rfl (by kernel_rfl) rfl rfl ?_
 refine any_skip (i := 9) (listed' := [tt,tt,tt,tt,tt,tt,tt,tt,tt,tt,ff,ff,ff,ff,ff]) rfl npI rfl (by kernel_rfl) rfl rfl ?_
 refine any_skip (i := 10) (listed' := [tt,tt,tt,tt,tt,tt,tt,tt,tt,tt,tt,ff,ff,ff,ff]) rfl npI rfl (by kernel_rfl) rfl rfl ?_
 refine any_skip (i := 11) (listed' := [tt,tt,tt,tt,tt,tt,tt,tt,tt,tt,tt,tt,ff,ff,ff]) rfl npI rfl (by kernel_rfl) rfl rfl ?_
 refine any_pure (i := 12) (listed' := [tt,tt,tt,tt,tt,tt,tt,tt,tt,tt,tt,tt,tt,ff,ff]) rfl npI (pure_pick_f rfl rfl) rfl (by kernel_rfl) rfl rfl ?_
 refine any_one (j := 13) (by kernel_rfl) ?_
 refine one_store (listed' := [tt,tt,tt,tt,tt,tt,tt,tt,tt,tt,tt,tt,tt,tt,ff]) rfl rfl rfl rfl rfl rfl rfl rfl (by kernel_rfl) (by repeat first | exact Sw.here | apply Sw.there) (by rfl) ?_
 refine any_pure (i := 14) (listed' := [tt,tt,tt,tt,tt,tt,tt,tt,tt,tt,tt,tt,tt,tt,tt]) rfl npI (pure_assign rfl) rfl (by kernel_rfl) rfl rfl ?_
 refine any_done (by kernel_rfl) ?_
 refine nrm_seq (tri_ret (ret_block (ret_seq (ret_fin2 (res_cell rfl (load_ba rfl rfl (by repeat first | exact mH | apply mT) (by rfl))) (res_tmp rfl) ?_))))
 (exact ⟨rfl, _, _, _, rfl, tyLeaf_r _ ⟨by omega, by omega⟩, tAr_leaf (by omega) (by omega), by rw [szLeaf]; omega⟩)
 refine seq_pure (pure_assign rfl) rfl rfl ?_
 refine seq_done (nrm_seq (tri_cond_f rfl ?_))
 refine tri_seq (tri_region (seq_bool (pure_eql rfl rfl) rfl rfl (fun h158 => ?_) (fun h158 => ?_)))
 refine seq_pure (pure_assign rfl) rfl rfl ?_
 refine seq_done (nrm_seq (tri_cond_t rfl ?_))
 refine tri_seq ?_
 (have hl2 : ts.length = 2 := hop.1 (by omega); obtain ⟨b0, o0, q0, d0, hp0, hat0, hre0, hg0⟩ := hsl.kidTy hkl (i := 0) (by omega) (by omega); obtain ⟨b1, o1, q1, d1, hp1, hat1, hre1, hg1⟩ := hsl.kidTy hkl (i := 1) (by omega) (by omega); cases hp0; cases hp1; refine tri_draw mixed rfl ?_)
 refine any_pure (i := 1) (listed' := [ff,tt,ff,ff,ff,ff,ff,ff,ff,ff,ff,ff,ff,ff,ff]) rfl npI (pure_move rfl) rfl (by kernel_rfl) rfl rfl ?_
 refine any_pure (i := 2) (listed' := [ff,tt,tt,ff,ff,ff,ff,ff,ff,ff,ff,ff,ff,ff,ff]) rfl npI (pure_indexAddrN (j := 0) rfl rfl rfl (by omega)) rfl (by kernel_rfl) rfl rfl ?_
 refine any_load (i := 3) (listed' := [ff,tt,tt,tt,ff,ff,ff,ff,ff,ff,ff,ff,ff,ff,ff]) rfl npI (load_a rfl rfl (hat0 _) rfl) rfl (by kernel_rfl) rfl rfl ?_
 refine any_one (j := 0) (by kernel_rfl) ?_
 refine one_val (listed' := [tt,tt,tt,tt,ff,ff,ff,ff,ff,ff,ff,ff,ff,ff,ff]) rfl rfl ((l3Bool_fn _)) rfl rfl rfl ?_
 refine any_one (j := 4) (by kernel_rfl) ?_
 refine one_val (listed' := [tt,tt,tt,tt,tt,ff,ff,ff,ff,ff,ff,ff,ff,ff,ff]) rfl rfl ((l3Int_fn _)) rfl rfl rfl ?_
 refine any_one (j := 5) (by kernel_rfl) ?_
 refine one_valb (listed' := [tt,tt,tt,tt,tt,tt,ff,ff,ff,ff,ff,ff,ff,ff,ff]) rfl rfl ((l1ConsistentA_fn ts[0] (.mk 2 []) _ _ _ (ha0 (by omega)) (tAr_leaf (by decide) (by decide)) hre0 (tyLeaf_r _ ⟨by omega, by omega⟩))) rfl rfl rfl (fun h173 => ?_) (fun h173 => ?_)
 refine any_pure (i := 6) (listed' := [tt,tt,tt,tt,tt,tt,tt,ff,ff,ff,ff,ff,ff,ff,ff]) rfl npI (pure_move rfl) rfl (by kernel_rfl) rfl rfl ?_
 refine any_pure (i := 7) (listed' := [tt,tt,tt,tt,tt,tt,tt,tt,ff,ff,ff,ff,ff,ff,ff]) rfl npI (pure_move rfl) rfl (by kernel_rfl) rfl rfl ?_
 refine any_pure (i := 8) (listed' := [tt,tt,tt,tt,tt,tt,tt,tt,tt,ff,ff,ff,ff,ff,ff]) rfl npI (pure_indexAddrN (j := 1) rfl rfl rfl (by omega)) rfl (by kernel_rfl) rfl rfl ?_
 refine any_load (i := 9) (listed' := [tt,tt,tt,tt,tt,tt,tt,tt,tt,tt,ff,ff,ff,ff,ff]) rfl npI (load_a rfl rfl (hat1 _) rfl) rfl (by kernel_rfl) rfl rfl ?_
 refine any_one (j := 10) (by kernel_rfl) ?_
 refine one_val (listed' := [tt,tt,tt,tt,tt,tt,tt,tt,tt,tt,tt,ff,ff,ff,ff]) rfl rfl ((l3Int_fn _)) rfl rfl rfl ?_
 refine any_one (j := 11) (by kernel_rfl) ?_
 refine one_val (listed' := [tt,tt,tt,tt,tt,tt,tt,tt,tt,tt,tt,tt,ff,ff,ff]) rfl rfl ((l1ConsistentA_fn ts[1] (.mk 2 []) _ _ _ (ha1 (by omega)) (tAr_leaf (by decide) (by decide)) hre1 (tyLeaf_r _ ⟨by omega, by omega⟩))) rfl rfl rfl ?_
 refine any_pure (i := 12) (listed' := [tt,tt,tt,tt,tt,tt,tt,tt,tt,tt,tt,tt,tt,ff,ff]) rfl npI (pure_pick_t rfl rfl) rfl (by kernel_rfl) rfl rfl ?_
 refine any_one (j := 13) (by kernel_rfl) ?_
 refine one_store (listed' := [tt,tt,tt,tt,tt,tt,tt,tt,tt,tt,tt,tt,tt,tt,ff]) rfl rfl rfl rfl rfl rfl rfl rfl (by kernel_rfl) (by repeat first | exact Sw.here | apply Sw.there) (by rfl) ?_
 refine any_pure (i := 14) (listed' := [tt,tt,tt,tt,tt,tt,tt,tt,tt,tt,tt,tt,tt,tt,tt]) rfl npI (pure_assign rfl) rfl (by kernel_rfl) rfl rfl ?_
 refine any_done (by kernel_rfl) ?_
 refine nrm_seq (tri_ret (ret_block (ret_seq (ret_fin2 (res_cell rfl (load_ba rfl rfl (by repeat first | exact mH | apply mT) (by rfl))) (res_tmp rfl) ?_))))
 (exact ⟨rfl, _, _, _, rfl, tyLeaf_r _ ⟨by omega, by omega⟩, tAr_leaf (by omega) (by omega), by rw [szLeaf]; omega⟩)
 refine any_pure (i := 6) (listed' := [tt,tt,tt,tt,tt,tt,tt,ff,ff,ff,ff,ff,ff,ff,ff]) rfl npI (pure_move rfl) rfl (by kernel_rfl) rfl rfl ?_
 refine any_skip (i := 7) (listed' := [tt,tt,tt,tt,tt,tt,tt,tt,ff,ff,ff,ff,ff,ff,ff]) rfl npI rfl (by kernel_rfl) rfl rfl ?_
 refine any_skip (i := 8) (listed' := [tt,tt,tt,tt,tt,tt,tt,tt,tt,ff,ff,ff,ff,ff,ff]) rfl npI rfl (by kernel_rfl) rfl rfl ?_
 refine any_skip (i := 9) (listed' := [tt,tt,tt,tt,tt,tt,tt,tt,tt,tt,ff,ff,ff,ff,ff]) rfl npI rfl (by kernel_rfl) rfl rfl ?_
 refine any_skip (i := 10) (listed' := [tt,tt,tt,tt,tt,tt,tt,tt,tt,tt,tt,ff,ff,ff,ff]) rfl npI rfl (by kernel_rfl) rfl rfl ?_
 refine any_skip (i := 11) (listed' := [tt,tt,tt,tt,tt,tt,tt,tt,tt,tt,tt,tt,ff,ff,ff]) rfl npI rfl (by kernel_rfl) rfl rfl ?_
 refine any_pure (i := 12) (listed' := [tt,tt,tt,tt,tt,tt,tt,tt,tt,tt,tt,tt,tt,ff,ff]) rfl npI (pure_pick_f rfl rfl) rfl (by kernel_rfl) rfl rfl ?_
 refine any_one (j := 13) (by kernel_rfl) ?_
 refine one_store (listed' := [tt,tt,tt,tt,tt,tt,tt,tt,tt,tt,tt,tt,tt,tt,ff]) rfl rfl rfl rfl rfl rfl rfl rfl (by kernel_rfl) (by repeat first | exact Sw.here | apply Sw.there) (by rfl) ?_
 refine any_pure (i := 14) (listed' := [tt,tt,tt,tt,tt,tt,tt,tt,tt,tt,tt,tt,tt,tt,tt]) rfl npI (pure_assign rfl) rfl (by kernel_rfl) rfl rfl ?_
 refine any_done (by kernel_rfl) ?_
 refine nrm_seq (tri_ret (ret_block (ret_seq (ret_fin2 (res_cell rfl (load_ba rfl rfl (by repeat first | exact mH | apply mT) (by rfl))) (res_tmp rfl) ?_))))
 (exact ⟨rfl, _, _, _, rfl, tyLeaf_r _ ⟨by omega, by omega⟩, tAr_leaf (by omega) (by omega), by rw [szLeaf]; omega⟩)
 refine seq_pure (pure_assign rfl) rfl rfl ?_
 refine seq_done (nrm_seq (tri_cond_f rfl ?_))
 refine tri_seq (tri_region (seq_bool (pure_eql rfl rfl) rfl rfl (fun h216 => ?_) (fun h216 => ?_)))
 refine seq_pure (pure_assign rfl) rfl rfl ?_
 refine seq_done (nrm_seq (tri_cond_t rfl ?_))
 refine tri_seq (tri_seq ?_)
 (have hl3 : ts.length = 3 := hop.2.1 (by omega); obtain ⟨b0, o0, q0, d0, hp0, hat0, hre0, hg0⟩ := hsl.kidTy hkl (i := 0) (by omega) (by omega); obtain ⟨b1, o1, q1, d1, hp1, hat1, hre1, hg1⟩ := hsl.kidTy hkl (i := 1) (by omega) (by omega); obtain ⟨b2, o2, q2, d2, hp2, hat2, hre2, hg2⟩ := hsl.kidTy hkl (i := 2) (by omega) (by omega); cases hp0; cases hp1; cases hp2; refine tri_draw mixed rfl ?_)
 refine any_pure (i := 0) (listed' := [tt,ff,ff,ff,ff,ff,ff,ff]) rfl npI (pure_move rfl) rfl (by kernel_rfl) rfl rfl ?_
 refine any_pure (i := 1) (listed' := [tt,tt,ff,ff,ff,ff,ff,ff]) rfl npI (pure_indexAddrN (j := 1) rfl rfl rfl (by omega)) rfl (by kernel_rfl) rfl rfl ?_
 refine any_load (i := 2) (listed' := [tt,tt,tt,ff,ff,ff,ff,ff]) rfl npI (load_a rfl rfl (hat1 _) rfl) rfl (by kernel_rfl) rfl rfl ?_
 refine any_pure (i := 3) (listed' := [tt,tt,tt,tt,ff,ff,ff,ff]) rfl npI (pure_move rfl) rfl (by kernel_rfl) rfl rfl ?_
 refine any_pure (i := 4) (listed' := [tt,tt,tt,tt,tt,ff,ff,ff]) rfl npI (pure_indexAddrN (j := 2) rfl rfl rfl (by omega)) rfl (by kernel_rfl) rfl rfl ?_
 refine any_load (i := 5) (listed' := [tt,tt,tt,tt,tt,tt,ff,ff]) rfl npI (load_a rfl rfl (hat2 _) rfl) rfl (by kernel_rfl) rfl rfl ?_
 refine any_one (j := 6) (by kernel_rfl) ?_
 refine one_valb (listed' := [tt,tt,tt,tt,tt,tt,tt,ff]) rfl rfl ((l1ConsistentA_fn ts[1] ts[2] _ _ _ (ha1 (by omega)) (ha2 (by omega)) hre1 hre2)) rfl rfl rfl (fun h231 => ?_) (fun h231 => ?_)
 refine any_pure (i := 7) (listed' := [tt,tt,tt,tt,tt,tt,tt,tt]) rfl npI (pure_not_t rfl) rfl (by kernel_rfl) rfl rfl ?_
 refine any_done (by kernel_rfl) ?_
 refine nrm_seq (tri_cond_f rfl ?_)
 refine tri_skip (nrm_seq (tri_seq ?_))
 (have hl3 : ts.length = 3 := hop.2.1 (by omega); obtain ⟨b0, o0, q0, d0, hp0, hat0, hre0, hg0⟩ := hsl.kidTy hkl (i := 0) (by omega) (by omega); obtain ⟨b1, o1, q1, d1, hp1, hat1, hre1, hg1⟩ := hsl.kidTy hkl (i := 1) (by omega) (by omega); obtain ⟨b2, o2, q2, d2, hp2, hat2, hre2, hg2⟩ := hsl.kidTy hkl (i := 2) (by omega) (by omega); cases hp0; cases hp1; cases hp2; refine tri_draw mixed rfl ?_)
 refine any_pure (i := 0) (listed' := [tt,ff,ff,ff,ff,ff,ff,ff,ff,ff,ff,ff,ff,ff]) rfl npI (pure_move rfl) rfl (by kernel_rfl) rfl rfl ?_
 refine any_pure (i := 1) (listed' := [tt,tt,ff,ff,ff,ff,ff,ff,ff,ff,ff,ff,ff,ff]) rfl npI (pure_indexAddrN (j := 1) rfl rfl rfl (by omega)) rfl (by kernel_rfl) rfl rfl ?_
 refine any_load (i := 2) (listed' := [tt,tt,tt,ff,ff,ff,ff,ff,ff,ff,ff,ff,ff,ff]) rfl npI (load_a rfl rfl (hat1 _) rfl) rfl (by kernel_rfl) rfl rfl ?_
 refine any_pure (i := 3) (listed' := [tt,tt,tt,tt,ff,ff,ff,ff,ff,ff,ff,ff,ff,ff]) rfl npI (pure_move rfl) rfl (by kernel_rfl) rfl rfl ?_
 refine any_pure (i := 4) (listed' := [tt,tt,tt,tt,tt,ff,ff,ff,ff,ff,ff,ff,ff,ff]) rfl npI (pure_indexAddrN (j := 2) rfl rfl rfl (by omega)) rfl (by kernel_rfl) rfl rfl ?_
 refine any_load (i := 5) (listed' := [tt,tt,tt,tt,tt,tt,ff,ff,ff,ff,ff,ff,ff,ff]) rfl npI (load_a rfl rfl (hat2 _) rfl) rfl (by kernel_rfl) rfl rfl ?_
 refine any_pure (i := 7) (listed' := [tt,tt,tt,tt,tt,tt,ff,tt,ff,ff,ff,ff,ff,ff]) rfl npI (pure_move rfl) rfl (by kernel_rfl) rfl rfl ?_
 refine any_pure (i := 8) (listed' := [tt,tt,tt,tt,tt,tt,ff,tt,tt,ff,ff,ff,ff,ff]) rfl npI (pure_indexAddrN (j := 0) rfl rfl rfl (by omega)) rfl (by kernel_rfl) rfl rfl ?_
 refine any_load (i := 9) (listed' := [tt,tt,tt,tt,tt,tt,ff,tt,tt,tt,ff,ff,ff,ff]) rfl npI (load_a rfl rfl (hat0 _) rfl) rfl (by kernel_rfl) rfl rfl ?_
 refine any_one (j := 6) (by kernel_rfl) ?_
 (refine one_imm (listed' := [tt,tt,tt,tt,tt,tt,tt,tt,tt,tt,ff,ff,ff,ff]) rfl rfl (l1Meet_fn ts[1] ts[2] G _ _ (by assumption) (ha1 (by omega)) (ha2 (by omega)) hre1 hre2) rfl rfl rfl (fun v G1 hle1 hh => ?_); obtain ⟨mt, mc, rfl, hmr, hma, hms, _⟩ := hh; obtain ⟨p1, c1, e1, rfl, _⟩ := hmr.open; have hre0q := hre0.mono hle1)
 refine any_one (j := 10) (by kernel_rfl) ?_
 refine one_val (listed' := [tt,tt,tt,tt,tt,tt,tt,tt,tt,tt,tt,ff,ff,ff]) rfl rfl ((l3Bool_fn _)) rfl rfl rfl ?_
 refine any_one (j := 11) (by kernel_rfl) ?_
 refine one_val (listed' := [tt,tt,tt,tt,tt,tt,tt,tt,tt,tt,tt,tt,ff,ff]) rfl rfl ((l1ConsistentA_fn ts[0] (.mk 3 []) _ _ _ (ha0 (by omega)) (tAr_leaf (by decide) (by decide)) hre0q (tyLeaf_r _ ⟨by omega, by omega⟩))) rfl rfl rfl ?_
 refine any_one (j := 12) (by kernel_rfl) ?_
 refine one_store (listed' := [tt,tt,tt,tt,tt,tt,tt,tt,tt,tt,tt,tt,tt,ff]) rfl rfl rfl rfl rfl rfl rfl rfl (by kernel_rfl) (by repeat first | exact Sw.here | apply Sw.there) (by rfl) ?_
 refine any_pure (i := 13) (listed' := [tt,tt,tt,tt,tt,tt,tt,tt,tt,tt,tt,tt,tt,tt]) rfl npI (pure_assign rfl) rfl (by kernel_rfl) rfl rfl ?_
 refine any_done (by kernel_rfl) ?_
 refine nrm_seq (tri_ret (ret_block (ret_seq (ret_fin2 (res_cell rfl (load_ba rfl rfl (by repeat first | exact mH | apply mT) (by rfl))) (res_tmp rfl) ?_))))
 (have h0 := hz12 (by omega); exact ⟨rfl, _, _, _, rfl, hmr, hma, by omega⟩)
 refine any_pure (i := 7) (listed' := [tt,tt,tt,tt,tt,tt,tt,tt]) rfl npI (pure_not_f rfl) rfl (by kernel_rfl) rfl rfl ?_
 refine any_done (by kernel_rfl) ?_
 refine nrm_seq (tri_cond_t rfl ?_)
 refine tri_seq (tri_region (seq_pure (pure_build rfl rfl) rfl rfl ?_))
 refine seq_store rfl rfl rfl rfl rfl rfl (by repeat first | exact Sw.here | apply Sw.there) (by rfl) ?_
 refine seq_pure (pure_assign rfl) rfl rfl ?_
 refine seq_done (nrm_seq (tri_ret (ret_seq (ret_block (ret_seq (ret_fin2 (res_cell rfl (load_ba rfl rfl (by repeat first | exact mH | apply mT) (by rfl))) (res_tmp rfl) ?_))))))
 (exact ⟨rfl, _, _, _, rfl, tyLeaf_r _ ⟨by omega, by omega⟩, tAr_leaf (by omega) (by omega), by rw [szLeaf]; omega⟩)
 refine seq_pure (pure_assign rfl) rfl rfl ?_
 refine seq_done (nrm_seq (tri_cond_f rfl ?_))
 refine tri_seq (tri_region (seq_bool (pure_eql rfl rfl) rfl rfl (fun h288 => ?_) (fun h288 => ?_)))
 refine seq_pure (pure_assign rfl) rfl rfl ?_
 refine seq_done (nrm_seq (tri_cond_t rfl ?_))
 refine tri_seq ?_
 (have hl2 : ts.length = 2 := hop.1 (by omega); obtain ⟨b0, o0, q0, d0, hp0, hat0, hre0, hg0⟩ := hsl.kidTy hkl (i := 0) (by omega) (by omega); obtain ⟨b1, o1, q1, d1, hp1, hat1, hre1, hg1⟩ := hsl.kidTy hkl (i := 1) (by omega) (by omega); cases hp0; cases hp1; refine tri_draw mixed rfl ?_)
 refine any_pure (i := 0) (listed' := [tt,ff,ff,ff,ff,ff,ff,ff,ff,ff,ff]) rfl npI (pure_move rfl) rfl (by kernel_rfl) rfl rfl ?_
 refine any_pure (i := 1) (listed' := [tt,tt,ff,ff,ff,ff,ff,ff,ff,ff,ff]) rfl npI (pure_indexAddrN (j := 0) rfl rfl rfl (by omega)) rfl (by kernel_rfl) rfl rfl ?_
 refine any_load (i := 2) (listed' := [tt,tt,tt,ff,ff,ff,ff,ff,ff,ff,ff]) rfl npI (load_a rfl rfl (hat0 _) rfl) rfl (by kernel_rfl) rfl rfl ?_
 refine any_pure (i := 3) (listed' := [tt,tt,tt,tt,ff,ff,ff,ff,ff,ff,ff]) rfl npI (pure_move rfl) rfl (by kernel_rfl) rfl rfl ?_
 refine any_pure (i := 4) (listed' := [tt,tt,tt,tt,tt,ff,ff,ff,ff,ff,ff]) rfl npI (pure_indexAddrN (j := 1) rfl rfl rfl (by omega)) rfl (by kernel_rfl) rfl rfl ?_
 refine any_load (i := 5) (listed' := [tt,tt,tt,tt,tt,tt,ff,ff,ff,ff,ff]) rfl npI (load_a rfl rfl (hat1 _) rfl) rfl (by kernel_rfl) rfl rfl ?_
 refine any_one (j := 6) (by kernel_rfl) ?_
 (refine one_imm (listed' := [tt,tt,tt,tt,tt,tt,tt,ff,ff,ff,ff]) rfl rfl (l3Two_fn 5 ts[0] ts[1] G _ _ (.inr rfl) (ha0 (by omega)) (ha1 (by omega)) hre0 hre1) rfl rfl rfl (fun v G1 hle1 hh => ?_); obtain ⟨mt, mc, mx, rfl, hmr, hma, hms⟩ := hh; obtain ⟨p1, c1, e1, rfl, _⟩ := hmr.open)
 refine any_pure (i := 7) (listed' := [tt,tt,tt,tt,tt,tt,tt,tt,ff,ff,ff]) rfl npI (pure_extract rfl rfl) rfl (by kernel_rfl) rfl rfl ?_
 refine any_pure (i := 8) (listed' := [tt,tt,tt,tt,tt,tt,tt,tt,tt,ff,ff]) rfl npI (pure_extract rfl rfl) rfl (by kernel_rfl) rfl rfl ?_
 refine any_one (j := 9) (by kernel_rfl) ?_
 refine one_store (listed' := [tt,tt,tt,tt,tt,tt,tt,tt,tt,tt,ff]) rfl rfl rfl rfl rfl rfl rfl rfl (by kernel_rfl) (by repeat first | exact Sw.here | apply Sw.there) (by rfl) ?_
 refine any_pure (i := 10) (listed' := [tt,tt,tt,tt,tt,tt,tt,tt,tt,tt,tt]) rfl npI (pure_assign rfl) rfl (by kernel_rfl) rfl rfl ?_
 refine any_done (by kernel_rfl) ?_
 refine nrm_seq (tri_ret (ret_block (ret_seq (ret_fin2 (res_cell rfl (load_ba rfl rfl (by repeat first | exact mH | apply mT) (by rfl))) (res_tmp rfl) ?_))))
 (have h0 := hz01 (by omega); exact ⟨rfl, _, _, _, rfl, hmr, hma, by omega⟩)
 refine seq_pure (pure_assign rfl) rfl rfl ?_
 refine seq_done (nrm_seq (tri_cond_f rfl ?_))
 refine tri_seq (tri_region (seq_bool (pure_eql rfl rfl) rfl rfl (fun h321 => ?_) (fun h321 => ?_)))
 refine seq_pure (pure_assign rfl) rfl rfl ?_
 refine seq_done (nrm_seq (tri_cond_t rfl ?_))
 refine tri_seq (tri_region (seq_pure (pure_move rfl) rfl rfl ?_))
 (have hl1 : ts.length = 1 := hop.2.2 (by omega); obtain ⟨b0, o0, q0, d0, hp0, hat0, hre0, hg0⟩ := hsl.kidTy hkl (i := 0) (by omega) (by omega); cases hp0; refine seq_pure (pure_indexAddrN (j := 0) rfl rfl rfl (by omega)) rfl rfl ?_)
 refine seq_load (load_a rfl rfl (hat0 _) rfl) rfl rfl ?_
 (refine seq_imm rfl (l3Match_fn 5 ts[0] G _ (.inr rfl) (ha0 (by omega)) hre0) rfl rfl (fun v G1 hle1 hh => ?_); obtain ⟨ma, mca, mb, mcb, mx, rfl, hma, hma2, hma3, hmb, hmb2, hmb3⟩ := hh; obtain ⟨p1, c1, e1, rfl, _⟩ := hma.open; obtain ⟨p2, c2, e2, rfl, _⟩ := hmb.open)
 refine seq_pure (pure_move rfl) rfl rfl ?_
 refine seq_pure (pure_extract rfl rfl) rfl rfl ?_
 refine seq_pure (pure_extract rfl rfl) rfl rfl ?_
 refine seq_pure (pure_extract rfl rfl) rfl rfl ?_
 (refine seq_step (step_alloc rfl) rfl ?_; rintro _ ⟨b336, rfl⟩)
 (refine seq_step (step_alloc rfl) rfl ?_; rintro _ ⟨b337, rfl⟩)
 refine seq_store rfl rfl rfl rfl rfl rfl (by repeat first | exact Sw.here | apply Sw.there) (by rfl) ?_
 refine seq_store rfl rfl rfl rfl rfl rfl (by repeat first | exact Sw.here | apply Sw.there) (by rfl) ?_
 refine seq_pure (pure_assign rfl) rfl rfl ?_
 refine seq_done (nrm_seq (tri_seq (tri_region (seq_load (load_ba rfl rfl (by repeat first | exact mH | apply mT) (by rfl)) rfl rfl ?_))))
 refine seq_pure (pure_move rfl) rfl rfl ?_
 refine seq_store rfl rfl rfl rfl rfl rfl (by repeat first | exact Sw.here | apply Sw.there) (by rfl) ?_
 refine seq_pure (pure_assign rfl) rfl rfl ?_
 refine seq_done (nrm_seq (tri_ret (ret_block (ret_seq (ret_fin2 (res_cell rfl (load_ba rfl rfl (by repeat first | exact mH | apply mT) (by rfl))) (res_tmp rfl) ?_)))))
 (have h0 := hz0 (by omega); exact ⟨rfl, _, _, _, rfl, hma, hma2, by omega⟩)
 refine seq_pure (pure_assign rfl) rfl rfl ?_
 refine seq_done (nrm_seq (tri_cond_f rfl ?_))
 refine tri_seq (tri_region (seq_bool (pure_eql rfl rfl) rfl rfl (fun h362 => ?_) (fun h362 => ?_)))
 refine seq_pure (pure_assign rfl) rfl rfl ?_
 refine seq_done (nrm_seq (tri_cond_t rfl ?_))
 refine tri_seq (tri_region (seq_pure (pure_move rfl) rfl rfl ?_))
 (have hl1 : ts.length = 1 := hop.2.2 (by omega); obtain ⟨b0, o0, q0, d0, hp0, hat0, hre0, hg0⟩ := hsl.kidTy hkl (i := 0) (by omega) (by omega); cases hp0; refine seq_pure (pure_indexAddrN (j := 0) rfl rfl rfl (by omega)) rfl rfl ?_)
 refine seq_load (load_a rfl rfl (hat0 _) rfl) rfl rfl ?_
 (refine seq_imm rfl (l3Match_fn 5 ts[0] G _ (.inr rfl) (ha0 (by omega)) hre0) rfl rfl (fun v G1 hle1 hh => ?_); obtain ⟨ma, mca, mb, mcb, mx, rfl, hma, hma2, hma3, hmb, hmb2, hmb3⟩ := hh; obtain ⟨p1, c1, e1, rfl, _⟩ := hma.open; obtain ⟨p2, c2, e2, rfl, _⟩ := hmb.open)
 refine seq_pure (pure_move rfl) rfl rfl ?_
 refine seq_pure (pure_extract rfl rfl) rfl rfl ?_
 refine seq_pure (pure_extract rfl rfl) rfl rfl ?_
 refine seq_pure (pure_extract rfl rfl) rfl rfl ?_
 (refine seq_step (step_alloc rfl) rfl ?_; rintro _ ⟨b377, rfl⟩)
 (refine seq_step (step_alloc rfl) rfl ?_; rintro _ ⟨b378, rfl⟩)
 refine seq_store rfl rfl rfl rfl rfl rfl (by repeat first | exact Sw.here | apply Sw.there) (by rfl) ?_
 refine seq_store rfl rfl rfl rfl rfl rfl (by repeat first | exact Sw.here | apply Sw.there) (by rfl) ?_
 refine seq_pure (pure_assign rfl) rfl rfl ?_
 refine seq_done (nrm_seq (tri_seq (tri_region (seq_load (load_ba rfl rfl (by repeat first | exact mH | apply mT) (by rfl)) rfl rfl ?_))))
 refine seq_pure (pure_move rfl) rfl rfl ?_
 refine seq_store rfl rfl rfl rfl rfl rfl (by repeat first | exact Sw.here | apply Sw.there) (by rfl) ?_
 refine seq_pure (pure_assign rfl) rfl rfl ?_
 refine seq_done (nrm_seq (tri_ret (ret_block (ret_seq (ret_fin2 (res_cell rfl (load_ba rfl rfl (by repeat first | exact mH | apply mT) (by rfl))) (res_tmp rfl) ?_)))))
 (have h0 := hz0 (by omega); exact ⟨rfl, _, _, _, rfl, hmb, hmb2, by omega⟩)
 refine seq_pure (pure_assign rfl) rfl rfl ?_
 refine seq_done (nrm_seq (tri_cond_f rfl ?_))
 refine tri_seq (tri_region (seq_bool (pure_eql rfl rfl) rfl rfl (fun h403 => ?_) (fun h403 => ?_)))
 refine seq_pure (pure_assign rfl) rfl rfl ?_
 refine seq_done (nrm_seq (tri_cond_t rfl ?_))
 refine tri_seq ?_
 (have hl1 : ts.length = 1 := hop.2.2 (by omega); obtain ⟨b0, o0, q0, d0, hp0, hat0, hre0, hg0⟩ := hsl.kidTy hkl (i := 0) (by omega) (by omega); cases hp0; refine tri_draw mixed rfl ?_)
 refine any_pure (i := 0) (listed' := [tt,ff,ff,ff,ff,ff,ff,ff,ff,ff,ff]) rfl npI (pure_fieldAddr0 rfl) rfl (by kernel_rfl) rfl rfl ?_
 refine any_load (i := 1) (listed' := [tt,tt,ff,ff,ff,ff,ff,ff,ff,ff,ff]) rfl npI (load_ba rfl rfl (by repeat first | exact mH | apply mT) (by rfl)) rfl (by kernel_rfl) rfl rfl ?_
 refine any_pure (i := 3) (listed' := [tt,tt,ff,tt,ff,ff,ff,ff,ff,ff,ff]) rfl npI (pure_move rfl) rfl (by kernel_rfl) rfl rfl ?_
 refine any_pure (i := 4) (listed' := [tt,tt,ff,tt,tt,ff,ff,ff,ff,ff,ff]) rfl npI (pure_indexAddrN (j := 0) rfl rfl rfl (by omega)) rfl (by kernel_rfl) rfl rfl ?_
 refine any_load (i := 5) (listed' := [tt,tt,ff,tt,tt,tt,ff,ff,ff,ff,ff]) rfl npI (load_a rfl rfl (hat0 _) rfl) rfl (by kernel_rfl) rfl rfl ?_
 refine any_pure (i := 6) (listed' := [tt,tt,ff,tt,tt,tt,tt,ff,ff,ff,ff]) rfl npI (pure_fieldAddr0 rfl) rfl (by kernel_rfl) rfl rfl ?_
 refine any_load (i := 7) (listed' := [tt,tt,ff,tt,tt,tt,tt,tt,ff,ff,ff]) rfl npI (load_ba rfl rfl (by repeat first | exact mH | apply mT) (by rfl)) rfl (by kernel_rfl) rfl rfl ?_
 refine any_one (j := 2) (by kernel_rfl) ?_
 (refine one_imm (listed' := [tt,tt,tt,tt,tt,tt,tt,tt,ff,ff,ff]) rfl rfl (l1Copy_fn (.mk tk tks) G _ hty.1.small hrty) rfl rfl rfl (fun v G1 hle1 hh => ?_); obtain ⟨cs1, F1, rfl, hs1, hn1⟩ := hh; obtain ⟨p1, c1, rfl, _⟩ := hs1.open; have hmr := hs1.R.mono (Dif.le G1 G); have hre0q := hre0.mono hle1; have hrtyq := hrty.mono hle1)
 refine any_one (j := 8) (by kernel_rfl) ?_
 refine one_val (listed' := [tt,tt,tt,tt,tt,tt,tt,tt,tt,ff,ff]) rfl rfl ((l1ConsistentA_fn ts[0] (.mk tk tks) _ _ _ (ha0 (by omega)) hty.1 hre0q hrtyq)) rfl rfl rfl ?_
 refine any_one (j := 9) (by kernel_rfl) ?_
 refine one_store (listed' := [tt,tt,tt,tt,tt,tt,tt,tt,tt,tt,ff]) rfl rfl rfl rfl rfl rfl rfl rfl (by kernel_rfl) (by repeat first | exact Sw.here | apply Sw.there) (by rfl) ?_
 refine any_pure (i := 10) (listed' := [tt,tt,tt,tt,tt,tt,tt,tt,tt,tt,tt]) rfl npI (pure_assign rfl) rfl (by kernel_rfl) rfl rfl ?_
 refine any_done (by kernel_rfl) ?_
 refine nrm_seq (tri_ret (ret_block (ret_seq (ret_fin2 (res_cell rfl (load_ba rfl rfl (by repeat first | exact mH | apply mT) (by rfl))) (res_tmp rfl) ?_))))
 (exact ⟨rfl, _, _, _, rfl, hmr, hty.1, by omega⟩)
 refine seq_pure (pure_assign rfl) rfl rfl ?_
 refine seq_done (nrm_seq (tri_cond_f rfl ?_))
 refine tri_skip (nrm_block (nrm_seq (tri_seq (tri_region (seq_pure (pure_build rfl rfl) rfl rfl ?_)))))
 refine seq_store rfl rfl rfl rfl rfl rfl (by repeat first | exact Sw.here | apply Sw.there) (by rfl) ?_
 refine seq_pure (pure_assign rfl) rfl rfl ?_
 refine seq_done (nrm_seq (tri_ret (ret_fin2 (res_cell rfl (load_ba rfl rfl (by repeat first | exact mH | apply mT) (by rfl))) (res_tmp rfl) ?_)))
 (exact ⟨rfl, _, _, _, rfl, tyLeaf_r _ ⟨by omega, by omega⟩, tAr_leaf (by omega) (by omega), by rw [szLeaf]; omega⟩)
theorem tScan_ar : ∀ (t : Ty) (d : Int), tScan t d = true → tAr t := by
 refine Ty.ind fun k ks ih d h => ?_
 obtain ⟨h1, h2⟩ := tScan_inv h
 rw [tAr]
 refine ⟨fun hk => ?_, fun h4 h5 => ?_, tArL_mem.2 fun t ht => ?_⟩
 ·have := (tyOps_spec k).2.1 hk
  omega
 ·have h5' := tyOps_spec k
  have h6 := h5'.1
  have h7 := h5'.2.2
  omega
 ·obtain ⟨i, hi, rfl⟩ := List.getElem_of_mem ht
  exact ih _ ht _ (h2 i hi)
theorem tScan_ah : ∀ (n : Nat) (t : Ty) (d : Int), tScan t d = true → 4 - d ≤ n → tAh n t := by
 intro n
 induction n with
 | zero =>
  rintro ⟨k, ks⟩ d h hd
  obtain ⟨h1, h2⟩ := tScan_inv h
  have hks : ks.length = 0 := by
   rcases Nat.eq_zero_or_pos ks.length with h0 | h0
   ·exact h0
   ·have h3 := h2 0 h0
    obtain ⟨k', ks'⟩ : Ty := ks[0]
    have h4 : ∀ (u : Ty) (d : Int), tScan u d = true → d ≤ 4 := by
     rintro ⟨a, b⟩ d hu
     rw [tScan] at hu
     simp only [Bool.and_eq_true, decide_eq_true_eq] at hu
     exact hu.1.1
    have := h4 _ _ h3
    omega
  have h5 := tyOps_spec k
  have h6 := h5.2.1
  exact ⟨List.length_eq_zero_iff.1 hks, by intro h; have := h6 (.inl h); omega, by intro h; have := h6 (.inr h); omega⟩
 | succ n ih =>
  rintro ⟨k, ks⟩ d h hd
  have ha := tScan_ar _ _ h
  rw [tAr] at ha
  obtain ⟨h1, h2⟩ := tScan_inv h
  refine ⟨ha.1, ha.2.1, fun t ht => ?_⟩
  obtain ⟨i, hi, rfl⟩ := List.getElem_of_mem ht
  exact ih _ _ (h2 i hi) (by omega)
theorem tValid_ann {t : Ty} (h : tValid t = true) : tAr t ∧ szTy t ≤ 30 := by
 have h1 := tScan_ah 3 t 1 h (by omega)
 have h2 := tAh_sz h1
 have h3 : ((2 ^ (3 + 1) - 2 : Nat) : Int) = 14 := rfl
 exact ⟨h1.ar, by omega⟩
theorem tNone_ann {t : Ty} (h : tNone t = true) : tAr t ∧ szTy t ≤ 30 := by
 rw [tNone_eq h]
 exact ⟨tAr_leaf (by decide) (by decide), by rw [ty0, szLeaf]; omega⟩
/-- The annotation of a valid node. -/
theorem node_ann {k : Int} {nm : ByteArray} {num : Int} {ty fr : Ty} {lb : Int} {n : Nat} (h : tmNode k nm num ty fr lb n = true) : tAr ty ∧ szTy ty ≤ 30 := by
 have hn := tmNode_iff.1 h
 by_cases hk : k = 5 ∨ k = 13 ∨ k = 14
 ·exact tValid_ann (hn.2.2.2.2.2.1 hk)
 ·exact tNone_ann (hn.2.2.2.2.2.2.1 hk)
set_option maxHeartbeats 0 in
set_option maxRecDepth 100000 in
theorem l3Type_fn : ∀ (e : Tm) (d : Int) (G : IM) (p : Option Addr) (n c : Nat) (cells : List Value), sShape 12 14 e d = true → (n : Int) ≤ d → GCx G p n c → RTm G e cells →
  Fn Tryd.prog 81 [.slice p n c, .agg ⟨cells⟩] [] G (TyB (32 * (tmCount e : Int)) G) := by
 refine Tm.ind fun k nm num ty fr lb ks ih d G p n c cells hv hnd hx hr => ?_
 have hr0 := hr
 have hone := hr.one
 obtain ⟨hv1, hv2, hv3, hv4⟩ := sShape_go2 hv
 have hvk := (sShapeL_iff 12 14 ks _).1 hv4
 have har := (tmNode_iff.1 hv3).1
 have hop := tm_ops har
 obtain ⟨hta, hts⟩ := node_ann hv3
 have hck : tmCount (.mk k nm num ty fr lb ks) = 1 + tmCountL ks := by rw [tmCount]; omega
 rw [hck]
 obtain ⟨tk, tks⟩ := ty
 obtain ⟨fk, fks⟩ := fr
 obtain ⟨pt, ct, pf, cf, q, cq, es, rfl, hk, hnum, hlb, hty, hfr, hsl, hkl⟩ := hr.open9
 have hlen : ks.length ≤ 3 := by have := tmOps_le k; omega
 refine fn_enter Tryd.func81 rfl Tryd.ntmps81 Tryd.results81 rfl ?_
 intro w0
 refine tri_seq (tri_region ?_)
 (refine seq_step (step_box_a rfl rfl) rfl ?_; rintro _ ⟨b3, rfl⟩)
 (refine seq_step (step_alloc rfl) rfl ?_; rintro _ ⟨b4, rfl⟩)
 refine seq_pure (pure_assign rfl) rfl rfl ?_
 refine seq_done (nrm_seq (tri_seq (tri_seq (tri_region (seq_pure (pure_fieldAddr0 rfl) rfl rfl ?_)))))
 refine seq_load (load_bs rfl rfl (by repeat first | exact mH | apply mT) (by rfl)) rfl rfl ?_
 refine seq_done (nrm_seq (tri_block (tri_seq (tri_region (seq_bool (pure_eql rfl rfl) rfl rfl (fun h18 => ?_) (fun h18 => ?_))))))
 refine seq_pure (pure_assign rfl) rfl rfl ?_
 refine seq_done (nrm_seq (tri_cond_t rfl ?_))
 refine tri_seq (tri_region (seq_pure (pure_move rfl) rfl rfl ?_))
 refine seq_pure (pure_fieldAddr0 rfl) rfl rfl ?_
 refine seq_load (load_bs rfl rfl (by repeat first | exact mH | apply mT) (by rfl)) rfl rfl ?_
 (refine seq_imm rfl (l3Look_fn G p n c nm hx) rfl rfl (fun v G1 hle1 hh => ?_); obtain ⟨mt, mc, mx, rfl, hmr, hma, hms⟩ := hh; obtain ⟨p1, c1, e1, rfl, _⟩ := hmr.open)
 refine seq_pure (pure_extract rfl rfl) rfl rfl ?_
 refine seq_pure (pure_extract rfl rfl) rfl rfl ?_
 refine seq_store rfl rfl rfl rfl rfl rfl (by repeat first | exact Sw.here | apply Sw.there) (by rfl) ?_
 refine seq_pure (pure_assign rfl) rfl rfl ?_
 refine seq_done (nrm_seq (tri_ret (ret_block (ret_seq (ret_fin2 (res_cell rfl (load_ba rfl rfl (by repeat first | exact mH | apply mT) (by rfl))) (res_tmp rfl) ?_)))))
 (exact ⟨rfl, _, _, _, rfl, hmr, hma, by omega⟩)
 refine seq_pure (pure_assign rfl) rfl rfl ?_
 refine seq_done (nrm_seq (tri_cond_f rfl ?_))
 refine tri_seq (tri_region (seq_bool (pure_eql rfl rfl) rfl rfl (fun h46 => ?_) (fun h46 => ?_)))
 refine seq_pure (pure_assign rfl) rfl rfl ?_
 refine seq_done (nrm_seq (tri_cond_t rfl ?_))
 refine tri_seq (tri_region (seq_val rfl ((l3Int_fn _)) rfl rfl ?_))
 refine seq_store rfl rfl rfl rfl rfl rfl (by repeat first | exact Sw.here | apply Sw.there) (by rfl) ?_
 refine seq_pure (pure_assign rfl) rfl rfl ?_
 refine seq_done (nrm_seq (tri_ret (ret_block (ret_seq (ret_fin2 (res_cell rfl (load_ba rfl rfl (by repeat first | exact mH | apply mT) (by rfl))) (res_tmp rfl) ?_)))))
 (exact ⟨rfl, _, _, _, rfl, tyLeaf_r _ ⟨by omega, by omega⟩, tAr_leaf (by omega) (by omega), by rw [szLeaf]; omega⟩)
 refine seq_pure (pure_assign rfl) rfl rfl ?_
 refine seq_done (nrm_seq (tri_cond_f rfl ?_))
 refine tri_seq (tri_seq (tri_region (seq_bool (pure_eql rfl rfl) rfl rfl (fun h70 => ?_) (fun h70 => ?_))))
 refine seq_pure (pure_assign rfl) rfl rfl ?_
 refine seq_done (nrm_seq (tri_cond_t rfl ?_))
 refine tri_skip (nrm_seq (tri_cond_t rfl ?_))
 refine tri_seq (tri_region (seq_val rfl ((l3Bool_fn _)) rfl rfl ?_))
 refine seq_store rfl rfl rfl rfl rfl rfl (by repeat first | exact Sw.here | apply Sw.there) (by rfl) ?_
 refine seq_pure (pure_assign rfl) rfl rfl ?_
 refine seq_done (nrm_seq (tri_ret (ret_block (ret_seq (ret_fin2 (res_cell rfl (load_ba rfl rfl (by repeat first | exact mH | apply mT) (by rfl))) (res_tmp rfl) ?_)))))
 (exact ⟨rfl, _, _, _, rfl, tyLeaf_r _ ⟨by omega, by omega⟩, tAr_leaf (by omega) (by omega), by rw [szLeaf]; omega⟩)
 refine seq_pure (pure_assign rfl) rfl rfl ?_
 refine seq_done (nrm_seq (tri_cond_f rfl ?_))
 refine tri_region (seq_bool (pure_eql rfl rfl) rfl rfl (fun h95 => ?_) (fun h95 => ?_))
 refine seq_pure (pure_assign rfl) rfl rfl ?_
 refine seq_done (nrm_seq (tri_cond_t rfl ?_))
 refine tri_seq (tri_region (seq_val rfl ((l3Bool_fn _)) rfl rfl ?_))
 refine seq_store rfl rfl rfl rfl rfl rfl (by repeat first | exact Sw.here | apply Sw.there) (by rfl) ?_
 refine seq_pure (pure_assign rfl) rfl rfl ?_
 refine seq_done (nrm_seq (tri_ret (ret_block (ret_seq (ret_fin2 (res_cell rfl (load_ba rfl rfl (by repeat first | exact mH | apply mT) (by rfl))) (res_tmp rfl) ?_)))))
 (exact ⟨rfl, _, _, _, rfl, tyLeaf_r _ ⟨by omega, by omega⟩, tAr_leaf (by omega) (by omega), by rw [szLeaf]; omega⟩)
 refine seq_pure (pure_assign rfl) rfl rfl ?_
 refine seq_done (nrm_seq (tri_cond_f rfl ?_))
 refine tri_seq (tri_region (seq_bool (pure_eql rfl rfl) rfl rfl (fun h118 => ?_) (fun h118 => ?_)))
 refine seq_pure (pure_assign rfl) rfl rfl ?_
 refine seq_done (nrm_seq (tri_cond_t rfl ?_))
 refine tri_seq ?_
 (have hl1 : ks.length = 1 := hop.2.2 (by omega); obtain ⟨b, o, e, rfl, hl, hat, hre, hgb⟩ := hsl.kidTm hkl (i := 0) (by omega) (by omega); have hMore := l3More_fn G p n c nm (.mk tk tks) _ hx (by omega) hty hta hts; have hcl : tmCountL ks = tmCount ks[0] := (by have := tmCountL_succ (ks := ks) (i := 0) (by omega); rw [List.take_of_length_le (by omega)] at this; simpa [tmCountL] using this); refine tri_draw mixed rfl ?_)
 refine any_pure (i := 0) (listed' := [tt,ff,ff,ff,ff,ff,ff,ff,ff,ff,ff,ff,ff,ff,ff,ff,ff]) rfl npI (pure_move rfl) rfl (by kernel_rfl) rfl rfl ?_
 refine any_pure (i := 1) (listed' := [tt,tt,ff,ff,ff,ff,ff,ff,ff,ff,ff,ff,ff,ff,ff,ff,ff]) rfl npI (pure_fieldAddr0 rfl) rfl (by kernel_rfl) rfl rfl ?_
 refine any_load (i := 2) (listed' := [tt,tt,tt,ff,ff,ff,ff,ff,ff,ff,ff,ff,ff,ff,ff,ff,ff]) rfl npI (load_bs rfl rfl (by repeat first | exact mH | apply mT) (by rfl)) rfl (by kernel_rfl) rfl rfl ?_
 refine any_pure (i := 3) (listed' := [tt,tt,tt,tt,ff,ff,ff,ff,ff,ff,ff,ff,ff,ff,ff,ff,ff]) rfl npI (pure_fieldAddr0 rfl) rfl (by kernel_rfl) rfl rfl ?_
 refine any_load (i := 4) (listed' := [tt,tt,tt,tt,tt,ff,ff,ff,ff,ff,ff,ff,ff,ff,ff,ff,ff]) rfl npI (load_ba rfl rfl (by repeat first | exact mH | apply mT) (by rfl)) rfl (by kernel_rfl) rfl rfl ?_
 refine any_pure (i := 6) (listed' := [tt,tt,tt,tt,tt,ff,tt,ff,ff,ff,ff,ff,ff,ff,ff,ff,ff]) rfl npI (pure_fieldAddr0 rfl) rfl (by kernel_rfl) rfl rfl ?_
 refine any_load (i := 7) (listed' := [tt,tt,tt,tt,tt,ff,tt,tt,ff,ff,ff,ff,ff,ff,ff,ff,ff]) rfl npI (load_bs rfl rfl (by repeat first | exact mH | apply mT) (by rfl)) rfl (by kernel_rfl) rfl rfl ?_
 refine any_pure (i := 8) (listed' := [tt,tt,tt,tt,tt,ff,tt,tt,tt,ff,ff,ff,ff,ff,ff,ff,ff]) rfl npI (pure_indexAddrN (j := 0) rfl rfl rfl (by omega)) rfl (by kernel_rfl) rfl rfl ?_
 refine any_load (i := 9) (listed' := [tt,tt,tt,tt,tt,ff,tt,tt,tt,tt,ff,ff,ff,ff,ff,ff,ff]) rfl npI (load_a rfl rfl (hat _) hl) rfl (by kernel_rfl) rfl rfl ?_
 refine any_two (j := 5) (j' := 14) (by kernel_rfl) ?_ ?_
 (refine one_imm (listed' := [tt,tt,tt,tt,tt,tt,tt,tt,tt,tt,ff,ff,ff,ff,ff,ff,ff]) rfl rfl hMore rfl rfl rfl (fun v G1 hle1 hh => ?_); obtain ⟨pm, cm, rfl, hxm⟩ := hh; have hreM := hre.mono hle1; have hLam := ih ks[0] (List.getElem_mem (by omega)) (d + 1) G1 pm (n + 1) cm _ (hvk 0 (by omega)) (by omega) hxm hreM; have htyM := hty.mono hle1)
 refine any_two (j := 10) (j' := 14) (by kernel_rfl) ?_ ?_
 (refine one_imm (listed' := [tt,tt,tt,tt,tt,tt,tt,tt,tt,tt,tt,ff,ff,ff,ff,ff,ff]) rfl rfl hLam rfl rfl rfl (fun v G2 hle2 hh => ?_); obtain ⟨mt, mc, mx, rfl, hmr, hma, hms⟩ := hh; obtain ⟨p1, c1, e1, rfl, _⟩ := hmr.open; have htyN := htyM.mono hle2; cases mx)
 refine any_pure (i := 11) (listed' := [tt,tt,tt,tt,tt,tt,tt,tt,tt,tt,tt,tt,ff,ff,ff,ff,ff]) rfl npI (pure_move rfl) rfl (by kernel_rfl) rfl rfl ?_
 refine any_pure (i := 12) (listed' := [tt,tt,tt,tt,tt,tt,tt,tt,tt,tt,tt,tt,tt,ff,ff,ff,ff]) rfl npI (pure_extract rfl rfl) rfl (by kernel_rfl) rfl rfl ?_
 refine any_pure (i := 13) (listed' := [tt,tt,tt,tt,tt,tt,tt,tt,tt,tt,tt,tt,tt,tt,ff,ff,ff]) rfl npI (pure_extract rfl rfl) rfl (by kernel_rfl) rfl rfl ?_
 refine any_one (j := 14) (by kernel_rfl) ?_
 (refine one_step0 (listed' := [tt,tt,tt,tt,tt,tt,tt,tt,tt,tt,tt,tt,tt,tt,tt,ff,ff]) rfl (step_alloc rfl) rfl rfl ?_; rintro _ ⟨b142, rfl⟩)
 refine any_one (j := 15) (by kernel_rfl) ?_
 refine one_store (listed' := [tt,tt,tt,tt,tt,tt,tt,tt,tt,tt,tt,tt,tt,tt,tt,tt,ff]) rfl rfl rfl rfl rfl rfl rfl rfl (by kernel_rfl) (by repeat first | exact Sw.here | apply Sw.there) (by rfl) ?_
 refine any_pure (i := 16) (listed' := [tt,tt,tt,tt,tt,tt,tt,tt,tt,tt,tt,tt,tt,tt,tt,tt,tt]) rfl npI (pure_assign rfl) rfl (by kernel_rfl) rfl rfl ?_
 refine any_done (by kernel_rfl) ?_
 refine nrm_seq (tri_seq (tri_seq (tri_region (seq_pure (pure_move rfl) rfl rfl ?_))))
 refine seq_pure (pure_not_f rfl) rfl rfl ?_
 refine seq_done (nrm_seq (tri_cond_t rfl ?_))
 refine tri_seq (tri_region (seq_pure (pure_build rfl rfl) rfl rfl ?_))
 refine seq_store rfl rfl rfl rfl rfl rfl (by repeat first | exact Sw.here | apply Sw.there) (by rfl) ?_
 refine seq_pure (pure_assign rfl) rfl rfl ?_
 refine seq_done (nrm_seq (tri_ret (ret_seq (ret_block (ret_seq (ret_fin2 (res_cell rfl (load_ba rfl rfl (by repeat first | exact mH | apply mT) (by rfl))) (res_tmp rfl) ?_))))))
 (exact ⟨rfl, _, _, _, rfl, tyLeaf_r _ ⟨by omega, by omega⟩, tAr_leaf (by omega) (by omega), by rw [szLeaf]; omega⟩)
 refine any_pure (i := 11) (listed' := [tt,tt,tt,tt,tt,tt,tt,tt,tt,tt,tt,tt,ff,ff,ff,ff,ff]) rfl npI (pure_move rfl) rfl (by kernel_rfl) rfl rfl ?_
 refine any_pure (i := 12) (listed' := [tt,tt,tt,tt,tt,tt,tt,tt,tt,tt,tt,tt,tt,ff,ff,ff,ff]) rfl npI (pure_extract rfl rfl) rfl (by kernel_rfl) rfl rfl ?_
 refine any_pure (i := 13) (listed' := [tt,tt,tt,tt,tt,tt,tt,tt,tt,tt,tt,tt,tt,tt,ff,ff,ff]) rfl npI (pure_extract rfl rfl) rfl (by kernel_rfl) rfl rfl ?_
 refine any_one (j := 14) (by kernel_rfl) ?_
 (refine one_step0 (listed' := [tt,tt,tt,tt,tt,tt,tt,tt,tt,tt,tt,tt,tt,tt,tt,ff,ff]) rfl (step_alloc rfl) rfl rfl ?_; rintro _ ⟨b173, rfl⟩)
 refine any_one (j := 15) (by kernel_rfl) ?_
 refine one_store (listed' := [tt,tt,tt,tt,tt,tt,tt,tt,tt,tt,tt,tt,tt,tt,tt,tt,ff]) rfl rfl rfl rfl rfl rfl rfl rfl (by kernel_rfl) (by repeat first | exact Sw.here | apply Sw.there) (by rfl) ?_
 refine any_pure (i := 16) (listed' := [tt,tt,tt,tt,tt,tt,tt,tt,tt,tt,tt,tt,tt,tt,tt,tt,tt]) rfl npI (pure_assign rfl) rfl (by kernel_rfl) rfl rfl ?_
 refine any_done (by kernel_rfl) ?_
 refine nrm_seq (tri_seq (tri_seq (tri_region (seq_pure (pure_move rfl) rfl rfl ?_))))
 refine seq_pure (pure_not_t rfl) rfl rfl ?_
 refine seq_done (nrm_seq (tri_cond_f rfl ?_))
 refine tri_skip (nrm_seq (tri_seq (tri_region (seq_pure (pure_fieldAddr0 rfl) rfl rfl ?_))))
 refine seq_load (load_ba rfl rfl (by repeat first | exact mH | apply mT) (by rfl)) rfl rfl ?_
 refine seq_load (load_ba rfl rfl (by repeat first | exact mH | apply mT) (by rfl)) rfl rfl ?_
 (refine seq_imm rfl (l3Two_fn 4 (.mk tk tks) mt _ _ _ (.inl rfl) hta hma htyN hmr) rfl rfl (fun v G3 hle3 hh => ?_); obtain ⟨mt2, mc2, mx2, rfl, hmr2, hma2, hms2⟩ := hh; obtain ⟨p2, c2, e2, rfl, _⟩ := hmr2.open)
 refine seq_pure (pure_extract rfl rfl) rfl rfl ?_
 refine seq_pure (pure_extract rfl rfl) rfl rfl ?_
 refine seq_store rfl rfl rfl rfl rfl rfl (by repeat first | exact Sw.here | apply Sw.there) (by rfl) ?_
 refine seq_pure (pure_assign rfl) rfl rfl ?_
 refine seq_done (nrm_seq (tri_ret (ret_block (ret_seq (ret_fin2 (res_cell rfl (load_ba rfl rfl (by repeat first | exact mH | apply mT) (by rfl))) (res_tmp rfl) ?_)))))
 (exact ⟨rfl, _, _, _, rfl, hmr2, hma2, by omega⟩)
 (refine one_step0 (listed' := [tt,tt,tt,tt,tt,tt,tt,tt,tt,tt,ff,ff,ff,ff,tt,ff,ff]) rfl (step_alloc rfl) rfl rfl ?_; rintro _ ⟨b206, rfl⟩)
 refine any_one (j := 10) (by kernel_rfl) ?_
 (refine one_imm (listed' := [tt,tt,tt,tt,tt,tt,tt,tt,tt,tt,tt,ff,ff,ff,tt,ff,ff]) rfl rfl hLam rfl rfl rfl (fun v G2 hle2 hh => ?_); obtain ⟨mt, mc, mx, rfl, hmr, hma, hms⟩ := hh; obtain ⟨p1, c1, e1, rfl, _⟩ := hmr.open; have htyN := htyM.mono hle2; cases mx)
 refine any_pure (i := 11) (listed' := [tt,tt,tt,tt,tt,tt,tt,tt,tt,tt,tt,tt,ff,ff,tt,ff,ff]) rfl npI (pure_move rfl) rfl (by kernel_rfl) rfl rfl ?_
 refine any_pure (i := 12) (listed' := [tt,tt,tt,tt,tt,tt,tt,tt,tt,tt,tt,tt,tt,ff,tt,ff,ff]) rfl npI (pure_extract rfl rfl) rfl (by kernel_rfl) rfl rfl ?_
 refine any_pure (i := 13) (listed' := [tt,tt,tt,tt,tt,tt,tt,tt,tt,tt,tt,tt,tt,tt,tt,ff,ff]) rfl npI (pure_extract rfl rfl) rfl (by kernel_rfl) rfl rfl ?_
 refine any_one (j := 15) (by kernel_rfl) ?_
 refine one_store (listed' := [tt,tt,tt,tt,tt,tt,tt,tt,tt,tt,tt,tt,tt,tt,tt,tt,ff]) rfl rfl rfl rfl rfl rfl rfl rfl (by kernel_rfl) (by repeat first | exact Sw.here | apply Sw.there) (by rfl) ?_
 refine any_pure (i := 16) (listed' := [tt,tt,tt,tt,tt,tt,tt,tt,tt,tt,tt,tt,tt,tt,tt,tt,tt]) rfl npI (pure_assign rfl) rfl (by kernel_rfl) rfl rfl ?_
 refine any_done (by kernel_rfl) ?_
 refine nrm_seq (tri_seq (tri_seq (tri_region (seq_pure (pure_move rfl) rfl rfl ?_))))
 refine seq_pure (pure_not_f rfl) rfl rfl ?_
 refine seq_done (nrm_seq (tri_cond_t rfl ?_))
 refine tri_seq (tri_region (seq_pure (pure_build rfl rfl) rfl rfl ?_))
 refine seq_store rfl rfl rfl rfl rfl rfl (by repeat first | exact Sw.here | apply Sw.there) (by rfl) ?_
 refine seq_pure (pure_assign rfl) rfl rfl ?_
 refine seq_done (nrm_seq (tri_ret (ret_seq (ret_block (ret_seq (ret_fin2 (res_cell rfl (load_ba rfl rfl (by repeat first | exact mH | apply mT) (by rfl))) (res_tmp rfl) ?_))))))
 (exact ⟨rfl, _, _, _, rfl, tyLeaf_r _ ⟨by omega, by omega⟩, tAr_leaf (by omega) (by omega), by rw [szLeaf]; omega⟩)
 refine any_pure (i := 11) (listed' := [tt,tt,tt,tt,tt,tt,tt,tt,tt,tt,tt,tt,ff,ff,tt,ff,ff]) rfl npI (pure_move rfl) rfl (by kernel_rfl) rfl rfl ?_
 refine any_pure (i := 12) (listed' := [tt,tt,tt,tt,tt,tt,tt,tt,tt,tt,tt,tt,tt,ff,tt,ff,ff]) rfl npI (pure_extract rfl rfl) rfl (by kernel_rfl) rfl rfl ?_
 refine any_pure (i := 13) (listed' := [tt,tt,tt,tt,tt,tt,tt,tt,tt,tt,tt,tt,tt,tt,tt,ff,ff]) rfl npI (pure_extract rfl rfl) rfl (by kernel_rfl) rfl rfl ?_
 refine any_one (j := 15) (by kernel_rfl) ?_
 refine one_store (listed' := [tt,tt,tt,tt,tt,tt,tt,tt,tt,tt,tt,tt,tt,tt,tt,tt,ff]) rfl rfl rfl rfl rfl rfl rfl rfl (by kernel_rfl) (by repeat first | exact Sw.here | apply Sw.there) (by rfl) ?_
 refine any_pure (i := 16) (listed' := [tt,tt,tt,tt,tt,tt,tt,tt,tt,tt,tt,tt,tt,tt,tt,tt,tt]) rfl npI (pure_assign rfl) rfl (by kernel_rfl) rfl rfl ?_
 refine any_done (by kernel_rfl) ?_
 refine nrm_seq (tri_seq (tri_seq (tri_region (seq_pure (pure_move rfl) rfl rfl ?_))))
 refine seq_pure (pure_not_t rfl) rfl rfl ?_
 refine seq_done (nrm_seq (tri_cond_f rfl ?_))
 refine tri_skip (nrm_seq (tri_seq (tri_region (seq_pure (pure_fieldAddr0 rfl) rfl rfl ?_))))
 refine seq_load (load_ba rfl rfl (by repeat first | exact mH | apply mT) (by rfl)) rfl rfl ?_
 refine seq_load (load_ba rfl rfl (by repeat first | exact mH | apply mT) (by rfl)) rfl rfl ?_
 (refine seq_imm rfl (l3Two_fn 4 (.mk tk tks) mt _ _ _ (.inl rfl) hta hma htyN hmr) rfl rfl (fun v G3 hle3 hh => ?_); obtain ⟨mt2, mc2, mx2, rfl, hmr2, hma2, hms2⟩ := hh; obtain ⟨p2, c2, e2, rfl, _⟩ := hmr2.open)
 refine seq_pure (pure_extract rfl rfl) rfl rfl ?_
 refine seq_pure (pure_extract rfl rfl) rfl rfl ?_
 refine seq_store rfl rfl rfl rfl rfl rfl (by repeat first | exact Sw.here | apply Sw.there) (by rfl) ?_
 refine seq_pure (pure_assign rfl) rfl rfl ?_
 refine seq_done (nrm_seq (tri_ret (ret_block (ret_seq (ret_fin2 (res_cell rfl (load_ba rfl rfl (by repeat first | exact mH | apply mT) (by rfl))) (res_tmp rfl) ?_)))))
 (exact ⟨rfl, _, _, _, rfl, hmr2, hma2, by omega⟩)
 (refine one_step0 (listed' := [tt,tt,tt,tt,tt,ff,tt,tt,tt,tt,ff,ff,ff,ff,tt,ff,ff]) rfl (step_alloc rfl) rfl rfl ?_; rintro _ ⟨b273, rfl⟩)
 refine any_one (j := 5) (by kernel_rfl) ?_
 (refine one_imm (listed' := [tt,tt,tt,tt,tt,tt,tt,tt,tt,tt,ff,ff,ff,ff,tt,ff,ff]) rfl rfl hMore rfl rfl rfl (fun v G1 hle1 hh => ?_); obtain ⟨pm, cm, rfl, hxm⟩ := hh; have hreM := hre.mono hle1; have hLam := ih ks[0] (List.getElem_mem (by omega)) (d + 1) G1 pm (n + 1) cm _ (hvk 0 (by omega)) (by omega) hxm hreM; have htyM := hty.mono hle1)
 refine any_one (j := 10) (by kernel_rfl) ?_
 (refine one_imm (listed' := [tt,tt,tt,tt,tt,tt,tt,tt,tt,tt,tt,ff,ff,ff,tt,ff,ff]) rfl rfl hLam rfl rfl rfl (fun v G2 hle2 hh => ?_); obtain ⟨mt, mc, mx, rfl, hmr, hma, hms⟩ := hh; obtain ⟨p1, c1, e1, rfl, _⟩ := hmr.open; have htyN := htyM.mono hle2; cases mx)
 refine any_pure (i := 11) (listed' := [tt,tt,tt,tt,tt,tt,tt,tt,tt,tt,tt,tt,ff,ff,tt,ff,ff]) rfl npI (pure_move rfl) rfl (by kernel_rfl) rfl rfl ?_
 refine any_pure (i := 12) (listed' := [tt,tt,tt,tt,tt,tt,tt,tt,tt,tt,tt,tt,tt,ff,tt,ff,ff]) rfl npI (pure_extract rfl rfl) rfl (by kernel_rfl) rfl rfl ?_
 refine any_pure (i := 13) (listed' := [tt,tt,tt,tt,tt,tt,tt,tt,tt,tt,tt,tt,tt,tt,tt,ff,ff]) rfl npI (pure_extract rfl rfl) rfl (by kernel_rfl) rfl rfl ?_
 refine any_one (j := 15) (by kernel_rfl) ?_
 refine one_store (listed' := [tt,tt,tt,tt,tt,tt,tt,tt,tt,tt,tt,tt,tt,tt,tt,tt,ff]) rfl rfl rfl rfl rfl rfl rfl rfl (by kernel_rfl) (by repeat first | exact Sw.here | apply Sw.there) (by rfl) ?_
 refine any_pure (i := 16) (listed' := [tt,tt,tt,tt,tt,tt,tt,tt,tt,tt,tt,tt,tt,tt,tt,tt,tt]) rfl npI (pure_assign rfl) rfl (by kernel_rfl) rfl rfl ?_
 refine any_done (by kernel_rfl) ?_
 refine nrm_seq (tri_seq (tri_seq (tri_region (seq_pure (pure_move rfl) rfl rfl ?_))))
 refine seq_pure (pure_not_f rfl) rfl rfl ?_
 refine seq_done (nrm_seq (tri_cond_t rfl ?_))
 refine tri_seq (tri_region (seq_pure (pure_build rfl rfl) rfl rfl ?_))
 refine seq_store rfl rfl rfl rfl rfl rfl (by repeat first | exact Sw.here | apply Sw.there) (by rfl) ?_
 refine seq_pure (pure_assign rfl) rfl rfl ?_
 refine seq_done (nrm_seq (tri_ret (ret_seq (ret_block (ret_seq (ret_fin2 (res_cell rfl (load_ba rfl rfl (by repeat first | exact mH | apply mT) (by rfl))) (res_tmp rfl) ?_))))))
 (exact ⟨rfl, _, _, _, rfl, tyLeaf_r _ ⟨by omega, by omega⟩, tAr_leaf (by omega) (by omega), by rw [szLeaf]; omega⟩)
 refine any_pure (i := 11) (listed' := [tt,tt,tt,tt,tt,tt,tt,tt,tt,tt,tt,tt,ff,ff,tt,ff,ff]) rfl npI (pure_move rfl) rfl (by kernel_rfl) rfl rfl ?_
 refine any_pure (i := 12) (listed' := [tt,tt,tt,tt,tt,tt,tt,tt,tt,tt,tt,tt,tt,ff,tt,ff,ff]) rfl npI (pure_extract rfl rfl) rfl (by kernel_rfl) rfl rfl ?_
 refine any_pure (i := 13) (listed' := [tt,tt,tt,tt,tt,tt,tt,tt,tt,tt,tt,tt,tt,tt,tt,ff,ff]) rfl npI (pure_extract rfl rfl) rfl (by kernel_rfl) rfl rfl ?_
 refine any_one (j := 15) (by kernel_rfl) ?_
 refine one_store (listed' := [tt,tt,tt,tt,tt,tt,tt,tt,tt,tt,tt,tt,tt,tt,tt,tt,ff]) rfl rfl rfl rfl rfl rfl rfl rfl (by kernel_rfl) (by repeat first | exact Sw.here | apply Sw.there) (by rfl) ?_
 refine any_pure (i := 16) (listed' := [tt,tt,tt,tt,tt,tt,tt,tt,tt,tt,tt,tt,tt,tt,tt,tt,tt]) rfl npI (pure_assign rfl) rfl (by kernel_rfl) rfl rfl ?_
 refine any_done (by kernel_rfl) ?_
 refine nrm_seq (tri_seq (tri_seq (tri_region (seq_pure (pure_move rfl) rfl rfl ?_))))
 refine seq_pure (pure_not_t rfl) rfl rfl ?_
 refine seq_done (nrm_seq (tri_cond_f rfl ?_))
 refine tri_skip (nrm_seq (tri_seq (tri_region (seq_pure (pure_fieldAddr0 rfl) rfl rfl ?_))))
 refine seq_load (load_ba rfl rfl (by repeat first | exact mH | apply mT) (by rfl)) rfl rfl ?_
 refine seq_load (load_ba rfl rfl (by repeat first | exact mH | apply mT) (by rfl)) rfl rfl ?_
 (refine seq_imm rfl (l3Two_fn 4 (.mk tk tks) mt _ _ _ (.inl rfl) hta hma htyN hmr) rfl rfl (fun v G3 hle3 hh => ?_); obtain ⟨mt2, mc2, mx2, rfl, hmr2, hma2, hms2⟩ := hh; obtain ⟨p2, c2, e2, rfl, _⟩ := hmr2.open)
 refine seq_pure (pure_extract rfl rfl) rfl rfl ?_
 refine seq_pure (pure_extract rfl rfl) rfl rfl ?_
 refine seq_store rfl rfl rfl rfl rfl rfl (by repeat first | exact Sw.here | apply Sw.there) (by rfl) ?_
 refine seq_pure (pure_assign rfl) rfl rfl ?_
 refine seq_done (nrm_seq (tri_ret (ret_block (ret_seq (ret_fin2 (res_cell rfl (load_ba rfl rfl (by repeat first | exact mH | apply mT) (by rfl))) (res_tmp rfl) ?_)))))
 (exact ⟨rfl, _, _, _, rfl, hmr2, hma2, by omega⟩)
 refine seq_pure (pure_assign rfl) rfl rfl ?_
 refine seq_done (nrm_seq (tri_cond_f rfl ?_))
 refine tri_skip (nrm_block (nrm_seq (tri_seq (tri_region ?_))))
 (refine seq_step (step_buildSlice rfl rfl rfl (by omega) (by unfold maxLen; omega) rfl) rfl ?_; rintro _ ⟨b351, rfl⟩)
 refine seq_pure (pure_assign rfl) rfl rfl ?_
 refine seq_done (nrm_seq (tri_seq (tri_seq (tri_region (seq_pure (pure_assign rfl) rfl rfl ?_)))))
 refine seq_done (nrm_seq (tri_block ?_))
 (refine tri_loopN (fun (x : Nat × Option Addr × Nat × List Ty × List (List Value) × IM) => ⟨[(9, .int .i64 x.1), (8, .slice x.2.1 x.1 x.2.2.1), (3, .pointer (some ⟨b3, 0, none⟩)), (4, .pointer (some ⟨b4, 0, none⟩)), (0, .slice p n c)], [.slc x.2.1 x.2.2.1 85 2 x.1 x.2.2.2.2.1.flatten, .blk b4 [.int .i64 0, .slice none 0 0], .blk b3 [.int .i64 k, .string nm, .int .i64 num, .int .i64 tk, .slice pt tks.length ct, .int .i64 fk, .slice pf fks.length cf, .int .i64 lb, .slice q ks.length cq]], x.2.2.2.2.2⟩) (fun x => x.1 ≤ ks.length ∧ IMle G x.2.2.2.2.2 ∧ x.2.2.2.1.length = x.1 ∧ RTyL x.2.2.2.2.2 x.2.2.2.1 x.2.2.2.2.1 ∧ (∀ u ∈ x.2.2.2.1, tAr u) ∧ sumTy x.2.2.2.1 ≤ 32 * (tmCountL (ks.take x.1) : Int)) (fun x => ks.length - x.1) (0, some ⟨b351, 0, none⟩, 0, [], [], G) ?_ ?_ ?_)
 (simp only [flat_snoc]; exact sub_mk (by repeat (first | exact SubE.nil | refine SubE.cons rfl ?_)) (by repeat (first | exact SubH.refl | exact SubH.nil | refine SubH.cons (by repeat (first | exact Pk.here | apply Pk.there)) ?_ | apply SubH.drop)))
 (exact ⟨by simp, IMle.refl _, rfl, by simp [RTyL], by simp, by dsimp only; rw [sumTy]; omega⟩)
 (rintro ⟨i, pn, cn, us, es', Gi⟩ ⟨hi, hle, hlu, hst, hau, hsu⟩; simp only [] at hi hle hlu hst hau hsu ⊢; replace hsl := hsl.mono hle; replace hkl := hkl.mono hle; replace hx := hx.mono hle; replace hr0 := hr0.mono hle)
 refine tri_seq (tri_seq (tri_region (seq_pure (pure_move rfl) rfl rfl ?_)))
 refine seq_pure (pure_fieldAddr0 rfl) rfl rfl ?_
 refine seq_load (load_bs rfl rfl (by repeat first | exact mH | apply mT) (by rfl)) rfl rfl ?_
 refine seq_pure (pure_len rfl rfl) rfl rfl ?_
 refine seq_bool (pure_lss rfl rfl) rfl rfl (fun h373 => ?_) (fun h373 => ?_)
 refine seq_done (nrm_seq (tri_cond_t rfl ?_))
 refine tri_skip (nrm_seq (tri_seq (tri_block (tri_seq (tri_region (seq_pure (pure_move rfl) rfl rfl ?_))))))
 refine seq_pure (pure_fieldAddr0 rfl) rfl rfl ?_
 refine seq_load (load_bs rfl rfl (by repeat first | exact mH | apply mT) (by rfl)) rfl rfl ?_
 refine seq_pure (pure_move rfl) rfl rfl ?_
 (obtain ⟨b, o, e, rfl, hl, hat, hre, hgb⟩ := hsl.kidTm hkl (i := i) (by omega) (by omega); have hsc := tmCountL_succ (ks := ks) (i := i) (by omega); refine seq_pure (pure_indexAddrN rfl rfl rfl (by omega)) rfl rfl ?_)
 refine seq_load (load_a rfl rfl (hat _) hl) rfl rfl ?_
 (refine seq_imm rfl (ih ks[i] (List.getElem_mem (by omega)) (d + 1) Gi p n c _ (hvk i (by omega)) (by omega) hx hre) rfl rfl (fun v G2 hle2 hh => ?_); obtain ⟨u, uc, mx, rfl, hru, hua, hus⟩ := hh; obtain ⟨p3, c3, e3, rfl, _⟩ := hru.open; cases mx)
 refine seq_pure (pure_move rfl) rfl rfl ?_
 refine seq_pure (pure_extract rfl rfl) rfl rfl ?_
 refine seq_pure (pure_extract rfl rfl) rfl rfl ?_
 (refine seq_step (step_alloc rfl) rfl ?_; rintro _ ⟨b393, rfl⟩)
 refine seq_store rfl rfl rfl rfl rfl rfl (by repeat first | exact Sw.here | apply Sw.there) (by rfl) ?_
 refine seq_pure (pure_assign rfl) rfl rfl ?_
 refine seq_done (nrm_seq (tri_seq (tri_seq (tri_region (seq_pure (pure_move rfl) rfl rfl ?_)))))
 refine seq_pure (pure_not_f rfl) rfl rfl ?_
 refine seq_done (nrm_seq (tri_cond_t rfl ?_))
 refine tri_seq (tri_region (seq_pure (pure_build rfl rfl) rfl rfl ?_))
 refine seq_store rfl rfl rfl rfl rfl rfl (by repeat first | exact Sw.here | apply Sw.there) (by rfl) ?_
 refine seq_pure (pure_assign rfl) rfl rfl ?_
 refine seq_done (nrm_seq (tri_ret (ret_seq (ret_block (ret_seq (ret_loopN ?_))))))
 refine ret_block (ret_seq (ret_fin2 (res_cell rfl (load_ba rfl rfl (by repeat first | exact mH | apply mT) (by rfl))) (res_tmp rfl) ?_))
 (exact ⟨rfl, _, _, _, rfl, tyLeaf_r _ ⟨by omega, by omega⟩, tAr_leaf (by omega) (by omega), by rw [szLeaf]; omega⟩)
 refine seq_pure (pure_move rfl) rfl rfl ?_
 refine seq_pure (pure_extract rfl rfl) rfl rfl ?_
 refine seq_pure (pure_extract rfl rfl) rfl rfl ?_
 (refine seq_step (step_alloc rfl) rfl ?_; rintro _ ⟨b425, rfl⟩)
 refine seq_store rfl rfl rfl rfl rfl rfl (by repeat first | exact Sw.here | apply Sw.there) (by rfl) ?_
 refine seq_pure (pure_assign rfl) rfl rfl ?_
 refine seq_done (nrm_seq (tri_seq (tri_seq (tri_region (seq_pure (pure_move rfl) rfl rfl ?_)))))
 refine seq_pure (pure_not_t rfl) rfl rfl ?_
 refine seq_done (nrm_seq (tri_cond_f rfl ?_))
 refine tri_skip (nrm_seq (tri_region (seq_pure (pure_move rfl) rfl rfl ?_)))
 refine seq_load (load_ba rfl rfl (by repeat first | exact mH | apply mT) (by rfl)) rfl rfl ?_
 (refine seq_step (step_buildSlice rfl rfl rfl (by omega) (by unfold maxLen; omega) rfl) rfl ?_; rintro _ ⟨b443, rfl⟩)
 refine seq_append rfl rfl rfl rfl rfl (fun _ _ => by repeat (first | exact Sw.here | apply Sw.there)) (at_slc_all (by repeat first | exact mH | apply mT)) rfl (by simp [Value.oneCell']) (by unfold maxLen; omega) (by omega) rfl (fun pn' cn' => ?_)
 refine seq_pure (pure_assign rfl) rfl rfl ?_
 refine seq_done (nrm_block (nrm_seq (tri_region (seq_pure (pure_move rfl) rfl rfl ?_))))
 refine seq_pure (pure_add rfl rfl (by omega) (by omega)) rfl rfl ?_
 refine seq_pure (pure_assign rfl) rfl rfl ?_
 refine seq_done (nrm_loopN (i + 1, pn', cn', us ++ [u], es' ++ [[.int .i64 u.k, .slice p3 u.ks.length c3]], G2) ?_ ?_ ?_)
 (simp only [flat_snoc]; exact sub_mk (by repeat (first | exact SubE.nil | refine SubE.cons rfl ?_)) (by repeat (first | exact SubH.refl | exact SubH.nil | refine SubH.cons (by repeat (first | exact Pk.here | apply Pk.there)) ?_ | apply SubH.drop)))
 (dsimp only; exact ⟨by omega, hle.trans hle2, by simp [hlu], RTyL.snoc (hst.mono hle2) hru, forall_snoc hau hua, by rw [sumTy_snoc]; omega⟩)
 (show ks.length - (i + 1) < ks.length - i; omega)
 refine seq_done (nrm_seq (tri_cond_f rfl ?_))
 refine tri_exit ?_
 refine ext_seq ?_
 refine ext_loopN ?_
 refine ext_block_eq ?_
 refine nrm_seq (tri_seq (tri_region (seq_load (load_ba rfl rfl (by repeat first | exact mH | apply mT) (by rfl)) rfl rfl ?_)))
 refine seq_pure (pure_move rfl) rfl rfl ?_
 (obtain rfl : i = ks.length := (by omega); refine triL_freeze (cs := es'.flatten) (by repeat (first | exact Pk.here | apply Pk.there)) (fun G3 hle3 hsl3 hno3 => ?_); have hst3 := hst.mono hle3; have hRes := l3Result_fn k nm num (.mk tk tks) (.mk fk fks) lb ks us G3 _ pn cn es' (by rw [hlu]; exact har) ⟨hta, hts⟩ (hr0.mono hle3) (by rw [hlu]; exact SlE.of hsl3 (by rw [hst3.len, hlu]) hst3.all (fun e he => (hst3.each e he).2)) hst3 hau; rw [hlu] at hRes; refine seq_imm rfl hRes rfl rfl (fun v G4 hle4 hh => ?_); obtain ⟨mt, mc, mx, rfl, hmr, hma, hms⟩ := hh; obtain ⟨p1, c1, e1, rfl, _⟩ := hmr.open; rw [List.take_length] at hsu)
 refine seq_pure (pure_extract rfl rfl) rfl rfl ?_
 refine seq_pure (pure_extract rfl rfl) rfl rfl ?_
 refine seq_store rfl rfl rfl rfl rfl rfl (by repeat first | exact Sw.here | apply Sw.there) (by rfl) ?_
 refine seq_pure (pure_assign rfl) rfl rfl ?_
 refine seq_done (nrm_seq (tri_ret (ret_fin2 (res_cell rfl (load_ba rfl rfl (by repeat first | exact mH | apply mT) (by rfl))) (res_tmp rfl) ?_)))
 (exact ⟨rfl, _, _, _, rfl, hmr, hma, by omega⟩)
end Gw
end Go.Proofs.YtaoaeilognhfpaaDoor
namespace Go.Proofs.YtaoaeilognhfpaaDoor
open Go Go.RowKit
namespace Gw
theorem RTm.of9 {G : IM} {k : Int} {nm : ByteArray} {num tk fk : Int} {tks fks : List Ty} {lb : Int} {ks : List Tm} {q1 q2 q3 : Option Addr} {c1 c2 c3 : Nat} {es : List (List Value)} (hk : I64 k) (hnum : I64 num) (hlb : I64 lb) (hty : RTy G (.mk tk tks) [.int .i64 tk, .slice q1 tks.length c1])
  (hfr : RTy G (.mk fk fks) [.int .i64 fk, .slice q2 fks.length c2]) (hsl : SlE G q3 ks.length c3 9 es) (hkl : RTmL G ks es) :
  RTm G (.mk k nm num (.mk tk tks) (.mk fk fks) lb ks) [.int .i64 k, .string nm, .int .i64 num, .int .i64 tk, .slice q1 tks.length c1, .int .i64 fk, .slice q2 fks.length c2, .int .i64 lb, .slice q3 ks.length c3] := by
 simp only [RTm]
 exact ⟨_, _, q3, c3, es, rfl, hk, hnum, hlb, hty, hfr, hsl, hkl⟩
/-- A term that is not too big to be worked on. -/
def Tm.fit (t : Tm) (N : Nat) : Prop := t.small ∧ tmCount t ≤ N
end Gw
end Go.Proofs.YtaoaeilognhfpaaDoor
namespace Go.Proofs.YtaoaeilognhfpaaDoor
open Go Go.RowKit
namespace Gw
set_option maxHeartbeats 0 in
set_option maxRecDepth 100000 in
theorem l3SureF_fn (t : Ty) (G : IM) (cells : List Value) (B : Int) (hB : 0 ≤ B) (hr : RTy G t cells) :
  Fn Tryd.prog 80 [.agg ⟨cells⟩, .bool false] [] G (TyB B G) := by
 obtain ⟨q, d, es, rfl, _⟩ := hr.open
 refine fn_enter Tryd.func80 rfl Tryd.ntmps80 Tryd.results80 rfl ?_
 intro w0
 refine tri_seq (tri_region ?_)
 (refine seq_step (step_box_a rfl rfl) rfl ?_; rintro _ ⟨b3, rfl⟩)
 (refine seq_step (step_alloc rfl) rfl ?_; rintro _ ⟨b4, rfl⟩)
 refine seq_pure (pure_assign rfl) rfl rfl ?_
 refine seq_done (nrm_seq (tri_seq (tri_seq (tri_region (seq_pure (pure_move rfl) rfl rfl ?_)))))
 refine seq_pure (pure_not_f rfl) rfl rfl ?_
 refine seq_done (nrm_seq (tri_cond_t rfl ?_))
 refine tri_seq (tri_region (seq_pure (pure_build rfl rfl) rfl rfl ?_))
 refine seq_store rfl rfl rfl rfl rfl rfl (by repeat first | exact Sw.here | apply Sw.there) (by rfl) ?_
 refine seq_pure (pure_assign rfl) rfl rfl ?_
 refine seq_done (nrm_seq (tri_ret (ret_seq (ret_fin2 (res_cell rfl (load_ba rfl rfl (by repeat first | exact mH | apply mT) (by rfl))) (res_tmp rfl) ?_))))
 (exact ⟨rfl, _, _, _, rfl, tyLeaf_r _ ⟨by omega, by omega⟩, tAr_leaf (by omega) (by omega), by rw [szLeaf]; omega⟩)
set_option maxHeartbeats 0 in
set_option maxRecDepth 100000 in
theorem l3SureT_fn (t : Ty) (G : IM) (cells : List Value) (B : Int) (hr : RTy G t cells) (ha : tAr t) (hs : szTy t ≤ B) :
  Fn Tryd.prog 80 [.agg ⟨cells⟩, .bool true] [] G (TyB B G) := by
 obtain ⟨q, d, es, rfl, _⟩ := hr.open
 refine fn_enter Tryd.func80 rfl Tryd.ntmps80 Tryd.results80 rfl ?_
 intro w0
 refine tri_seq (tri_region ?_)
 (refine seq_step (step_box_a rfl rfl) rfl ?_; rintro _ ⟨b3, rfl⟩)
 (refine seq_step (step_alloc rfl) rfl ?_; rintro _ ⟨b4, rfl⟩)
 refine seq_pure (pure_assign rfl) rfl rfl ?_
 refine seq_done (nrm_seq (tri_seq (tri_seq (tri_region (seq_pure (pure_move rfl) rfl rfl ?_)))))
 refine seq_pure (pure_not_t rfl) rfl rfl ?_
 refine seq_done (nrm_seq (tri_cond_f rfl ?_))
 refine tri_skip (nrm_seq (tri_seq (tri_region (seq_load (load_ba rfl rfl (by repeat first | exact mH | apply mT) (by rfl)) rfl rfl ?_))))
 refine seq_store rfl rfl rfl rfl rfl rfl (by repeat first | exact Sw.here | apply Sw.there) (by rfl) ?_
 refine seq_pure (pure_assign rfl) rfl rfl ?_
 refine seq_done (nrm_seq (tri_ret (ret_fin2 (res_cell rfl (load_ba rfl rfl (by repeat first | exact mH | apply mT) (by rfl))) (res_tmp rfl) ?_)))
 (exact ⟨rfl, _, _, _, rfl, hr, ha, hs⟩)
theorem l3Sure_fn (t : Ty) (x : Bool) (G : IM) (cells : List Value) (B : Int) (hB : 0 ≤ B) (hr : RTy G t cells) (ha : tAr t) (hs : szTy t ≤ B) :
  Fn Tryd.prog 80 [.agg ⟨cells⟩, .bool x] [] G (TyB B G) := by
 cases x
 ·exact l3SureF_fn t G cells B hB hr
 ·exact l3SureT_fn t G cells B hr ha hs
/-- A type and whether the term has it; then the term is valid. -/
def TyV (e : Tm) (G : IM) : IM → Value → List Ent → Prop := Imm fun G' v => ∃ t cells b, v = .tuple ⟨[.agg ⟨cells⟩, .bool b]⟩ ∧ RTy G' t cells ∧ tAr t ∧ szTy t ≤ 960 ∧ (b = true → termValid e = true)
set_option maxHeartbeats 0 in
set_option maxRecDepth 100000 in
theorem typeIn_fn (e : Tm) (G : IM) (cells : List Value) (hcnt : tmCount e ≤ 4294967296) (hr : RTm G e cells) :
  Fn Tryd.prog 64 [.slice none 0 0, .agg ⟨cells⟩] [] G (TyV e G) := by
 have hl := hr.len
 have hone := hr.one
 have hw := sTermValid_fn e G cells hcnt hr
 have hT := fun h : termValid e = true => l3Type_fn e 1 G none 0 0 cells ((termValid_iff e).1 h).1 (by omega) (GCx.nil G) hr
 have hc := fun h : termValid e = true => ((termValid_iff e).1 h).2
 refine fn_enter Tryd.func64 rfl Tryd.ntmps64 Tryd.results64 rfl ?_
 intro w0
 refine tri_seq (tri_region ?_)
 (refine seq_step (step_box_a rfl rfl) rfl ?_; rintro _ ⟨b3, rfl⟩)
 (refine seq_step (step_alloc rfl) rfl ?_; rintro _ ⟨b4, rfl⟩)
 refine seq_pure (pure_assign rfl) rfl rfl ?_
 refine seq_done (nrm_seq (tri_seq (tri_seq (tri_region (seq_pure (pure_move rfl) rfl rfl ?_)))))
 refine seq_val rfl ((ctxValid_fn _)) rfl rfl ?_
 refine seq_pure (pure_not_t rfl) rfl rfl ?_
 refine seq_pure (pure_move rfl) rfl rfl ?_
 refine seq_load (load_a rfl rfl (at_blk_all (by repeat first | exact mH | apply mT)) (by assumption)) rfl rfl ?_
 refine seq_valb rfl (hw) rfl rfl (fun h16 => ?_) (fun h16 => ?_)
 refine seq_pure (pure_not_t rfl) rfl rfl ?_
 refine seq_pure (pure_pick_f rfl rfl) rfl rfl ?_
 refine seq_done (nrm_seq (tri_cond_f rfl ?_))
 refine tri_skip (nrm_seq (tri_seq (tri_region (seq_pure (pure_move rfl) rfl rfl ?_))))
 refine seq_load (load_a rfl rfl (at_blk_all (by repeat first | exact mH | apply mT)) (by assumption)) rfl rfl ?_
 (refine seq_imm rfl (hT (by assumption)) rfl rfl (fun v G1 hle1 hh => ?_); obtain ⟨mt, mc, mx, rfl, hmr, hma, hms⟩ := hh; obtain ⟨p1, c1, e1, rfl, _⟩ := hmr.open; have hcc := hc (by assumption))
 refine seq_pure (pure_extract rfl rfl) rfl rfl ?_
 refine seq_pure (pure_extract rfl rfl) rfl rfl ?_
 (refine seq_imm rfl (l3Sure_fn mt mx _ _ 960 (by omega) hmr hma (by omega)) rfl rfl (fun v G2 hle2 hh => ?_); obtain ⟨mt2, mc2, mx2, rfl, hmr2, hma2, hms2⟩ := hh; obtain ⟨p2, c2, e2, rfl, _⟩ := hmr2.open)
 refine seq_pure (pure_extract rfl rfl) rfl rfl ?_
 refine seq_pure (pure_extract rfl rfl) rfl rfl ?_
 refine seq_store rfl rfl rfl rfl rfl rfl (by repeat first | exact Sw.here | apply Sw.there) (by rfl) ?_
 refine seq_pure (pure_assign rfl) rfl rfl ?_
 refine seq_done (nrm_seq (tri_ret (ret_fin2 (res_cell rfl (load_ba rfl rfl (by repeat first | exact mH | apply mT) (by rfl))) (res_tmp rfl) ?_)))
 (exact ⟨rfl, _, _, _, rfl, hmr2, hma2, hms2, fun _ => by assumption⟩)
 refine seq_pure (pure_not_f rfl) rfl rfl ?_
 refine seq_pure (pure_pick_f rfl rfl) rfl rfl ?_
 refine seq_done (nrm_seq (tri_cond_t rfl ?_))
 refine tri_seq (tri_region (seq_pure (pure_build rfl rfl) rfl rfl ?_))
 refine seq_store rfl rfl rfl rfl rfl rfl (by repeat first | exact Sw.here | apply Sw.there) (by rfl) ?_
 refine seq_pure (pure_assign rfl) rfl rfl ?_
 refine seq_done (nrm_seq (tri_ret (ret_seq (ret_fin2 (res_cell rfl (load_ba rfl rfl (by repeat first | exact mH | apply mT) (by rfl))) (res_tmp rfl) ?_))))
 (exact ⟨rfl, _, _, _, rfl, tyLeaf_r _ ⟨by omega, by omega⟩, tAr_leaf (by omega) (by omega), by rw [szLeaf]; omega, fun h => absurd h (by decide)⟩)
set_option maxRecDepth 100000 in
theorem typeOf_fn (e : Tm) (G : IM) (cells : List Value) (hcnt : tmCount e ≤ 4294967296) (hr : RTm G e cells) :
  Fn Tryd.prog 45 [.agg ⟨cells⟩] [] G (TyV e G) := by
 have hl := hr.len
 have hone := hr.one
 refine fn_enter Tryd.func45 rfl Tryd.ntmps45 Tryd.results45 rfl ?_
 intro w0
 refine tri_seq (tri_region ?_)
 (refine seq_step (step_box_a rfl rfl) rfl ?_; rintro _ ⟨b3, rfl⟩)
 (refine seq_step (step_alloc rfl) rfl ?_; rintro _ ⟨b4, rfl⟩)
 refine seq_pure (pure_assign rfl) rfl rfl ?_
 refine seq_done (nrm_seq (tri_seq (tri_region (seq_load (load_a rfl rfl (at_blk_all (by repeat first | exact mH | apply mT)) (by assumption)) rfl rfl ?_))))
 (refine seq_imm rfl (typeIn_fn e G cells hcnt hr) rfl rfl (fun v G1 hle1 hh => ?_); obtain ⟨mt, mc, mx, rfl, hmr, hma, hms, hmv⟩ := hh; obtain ⟨p1, c1, e1, rfl, _⟩ := hmr.open)
 refine seq_pure (pure_extract rfl rfl) rfl rfl ?_
 refine seq_pure (pure_extract rfl rfl) rfl rfl ?_
 refine seq_store rfl rfl rfl rfl rfl rfl (by repeat first | exact Sw.here | apply Sw.there) (by rfl) ?_
 refine seq_pure (pure_assign rfl) rfl rfl ?_
 refine seq_done (nrm_seq (tri_ret (ret_fin2 (res_cell rfl (load_ba rfl rfl (by repeat first | exact mH | apply mT) (by rfl))) (res_tmp rfl) ?_)))
 (exact ⟨rfl, _, _, _, rfl, hmr, hma, hms, hmv⟩)
theorem tm_one {G : IM} {e : Tm} {ce : List Value} {p : Option Addr} {c : Nat} (hr : RTm G e ce) (hs : Sl G p 1 c 9 ce) : SlE G p [e].length c 9 [ce] ∧ RTmL G [e] [ce] := by
 refine ⟨SlE.of (by simpa using hs) rfl (fun x hx => by simp only [List.mem_singleton] at hx; subst hx; exact hr.len) (fun x hx => by simp only [List.mem_singleton] at hx; subst hx; exact hr.one), ?_⟩
 simp only [RTmL]
 exact ⟨ce, [], rfl, hr, rfl⟩
/-- A term that was perhaps cast, and the next label. -/
def CastP (e : Tm) (label : Int) (G : IM) : IM → Value → List Ent → Prop := Imm fun G' v => ∃ u cu l', v = .tuple ⟨[.agg ⟨cu⟩, .int .i64 l']⟩ ∧ RTm G' u cu ∧ (e.small → u.small) ∧ tmCount u ≤ tmCount e + 1 ∧ label ≤ l' ∧ l' ≤ label + 1
/-- Types that are asked for. -/
def WantP (n : Nat) (G : IM) : IM → Value → List Ent → Prop := Imm fun G' v => ∃ p c es ws, v = .slice p n c ∧ ws.length = n ∧ SlE G' p n c 2 es ∧ RTyL G' ws es ∧ ∀ w ∈ ws, tAr w
end Gw
end Go.Proofs.YtaoaeilognhfpaaDoor
namespace Go.Proofs.YtaoaeilognhfpaaDoor
open Go Go.RowKit
namespace Gw
mutual
theorem shape_small : ∀ (t : Tm) (d : Int), sShape 12 14 t d = true → t.small
 | .mk k nm num ty fr lb ks, d, h => by
  obtain ⟨h1, h2, h3, h4⟩ := sShape_go2 h
  have hn := tmNode_iff.1 h3
  rw [Tm.small]
  refine ⟨?_, (node_ann h3).1.small, ?_, ?_, shape_smallL ks _ h4⟩
  ·by_cases hk : k = 1 ∨ k = 5
   ·have := hn.2.1 hk
    simp only [nameOk, decide_eq_true_eq] at this
    omega
   ·rw [hn.2.2.1 hk]; decide
  ·rw [tNone_eq (hn.2.2.2.2.2.2.2.2 (by omega)).1]
   simp [ty0, Ty.small, Ty.smallL]
  ·have := tmOps_le k
   omega
theorem shape_smallL : ∀ (ts : List Tm) (d : Int), sShapeL 12 14 ts d = true → Tm.smallL ts
 | [], d, h => by rw [Tm.smallL]; trivial
 | t :: ts, d, h => by
  rw [sShapeL, Bool.and_eq_true] at h
  rw [Tm.smallL]
  exact ⟨shape_small t d h.1, shape_smallL ts d h.2⟩
end
/-- A term with casts, its type, the next label. -/
def InsP (e : Tm) (label : Int) (G : IM) : IM → Value → List Ent → Prop := Imm fun G' v => ∃ u cu t ct l', v = .tuple ⟨[.agg ⟨cu⟩, .agg ⟨ct⟩, .int .i64 l']⟩ ∧ RTm G' u cu ∧ u.small ∧ tmCount u + 1 ≤ 2 * tmCount e ∧ RTy G' t ct ∧ tAr t ∧ szTy t ≤ 32 * (tmCount e : Int) ∧ label ≤ l' ∧ l' + 1 ≤ label + 2 * (tmCount e : Int)
end Gw
end Go.Proofs.YtaoaeilognhfpaaDoor
namespace Go.Proofs.YtaoaeilognhfpaaDoor
open Go Go.RowKit
namespace Gw
theorem nameOk_size {nm : ByteArray} (h : nameOk nm = true) : nm.size = 1 := by
 unfold nameOk at h
 simp at h
 omega
theorem node_name {k : Int} {nm : ByteArray} {num : Int} {ty fr : Ty} {lb : Int} {n : Nat} (h : tmNode k nm num ty fr lb n = true) : nm.size ≤ 1 := by
 obtain ⟨_, h2, h3, _⟩ := tmNode_iff.1 h
 by_cases hk : k = 1 ∨ k = 5
 ·rw [nameOk_size (h2 hk)]; omega
 ·rw [h3 hk]; decide
theorem cntL_take : ∀ {ks : List Tm} {i : Nat} (h : i < ks.length), tmCountL (ks.take (i + 1)) = tmCountL (ks.take i) + tmCount ks[i]
 | [], i, h => by simp at h
 | t :: ts, 0, h => by simp [tmCountL]
 | t :: ts, i + 1, h => by
  have := cntL_take (ks := ts) (i := i) (by simpa using h)
  simp only [List.take_succ_cons, tmCountL, List.getElem_cons_succ, this]
  omega
theorem cntL_takeLe : ∀ (ks : List Tm) (i : Nat), tmCountL (ks.take i) ≤ tmCountL ks
 | [], i => by simp [tmCountL]
 | t :: ts, 0 => by simp [tmCountL]
 | t :: ts, i + 1 => by
  have := cntL_takeLe ts i
  simp only [List.take_succ_cons, tmCountL]
  omega
set_option maxHeartbeats 0 in
set_option maxRecDepth 100000 in
theorem l2Has_fn (s nm : ByteArray) (G : IM) (hs : s.size ≤ 1000) :
  Fn Tryd.prog 71 [.string s, .string nm] [] G (fun G' v outs => G' = G ∧ outs = [] ∧ ∃ b, v = .bool b) := by
 refine fn_enter Tryd.func71 rfl Tryd.ntmps71 Tryd.results71 rfl ?_
 intro w0
 refine tri_seq (tri_region (seq_pure (pure_assign rfl) rfl rfl ?_))
 refine seq_done (nrm_seq (tri_seq (tri_seq (tri_region (seq_pure (pure_assign rfl) rfl rfl ?_)))))
 refine seq_done (nrm_seq (tri_block ?_))
 (refine tri_loopN (fun (i : Nat) => ⟨[(5, .int .i64 (i : Int)), (0, .string s), (1, .string nm)], [], G⟩) (fun i => i ≤ s.size) (fun i => s.size - i) 0 ?_ ?_ ?_)
 exact sub_mk (by repeat (first | exact SubE.nil | refine SubE.cons rfl ?_)) (by repeat (first | exact SubH.refl | exact SubH.nil | refine SubH.cons (by repeat (first | exact Pk.here | apply Pk.there)) ?_ | apply SubH.drop))
 exact Nat.zero_le _
 (intro i hi)
 refine tri_seq (tri_seq (tri_region (seq_pure (pure_move rfl) rfl rfl ?_)))
 refine seq_pure (pure_move rfl) rfl rfl ?_
 refine seq_pure (pure_len_str rfl rfl) rfl rfl ?_
 refine seq_bool (pure_lss rfl rfl) rfl rfl (fun h23 => ?_) (fun h23 => ?_)
 refine seq_done (nrm_seq (tri_cond_t rfl ?_))
 refine tri_skip (nrm_seq (tri_seq (tri_block (tri_seq (tri_region (seq_pure (pure_move rfl) rfl rfl ?_))))))
 refine seq_pure (pure_move rfl) rfl rfl ?_
 refine seq_pure (pure_move rfl) rfl rfl ?_
 refine seq_pure (pure_add_nat (n := 1) rfl rfl (by omega)) rfl rfl ?_
 refine seq_pure (pure_sslice (h := i + 1) rfl rfl rfl rfl (by omega) (by omega)) rfl rfl ?_
 refine seq_pure (pure_move rfl) rfl rfl ?_
 refine seq_bool (pure_seql rfl rfl) rfl rfl (fun h39 => ?_) (fun h39 => ?_)
 refine seq_done (nrm_seq (tri_cond_t rfl ?_))
 refine tri_seq (tri_region (seq_pure (pure_assign rfl) rfl rfl ?_))
 refine seq_done (nrm_seq (tri_ret (ret_block (ret_seq (ret_loopN (ret_block ?_))))))
 refine ret_seq (ret_own1 (outs := []) (res_tmp rfl) SubH.nil ?_)
 (exact ⟨rfl, rfl, _, rfl⟩)
 refine seq_done (nrm_seq (tri_cond_f rfl ?_))
 refine tri_skip (nrm_block (nrm_seq (tri_region (seq_pure (pure_move rfl) rfl rfl ?_))))
 refine seq_pure (pure_add_nat (n := 1) rfl rfl (by omega)) rfl rfl ?_
 refine seq_pure (pure_assign rfl) rfl rfl ?_
 refine seq_done (nrm_loopN (i + 1) ?_ ?_ ?_)
 exact sub_mk (by repeat (first | exact SubE.nil | refine SubE.cons rfl ?_)) (by repeat (first | exact SubH.refl | exact SubH.nil | refine SubH.cons (by repeat (first | exact Pk.here | apply Pk.there)) ?_ | apply SubH.drop))
 (show _ ≤ s.size; omega)
 (show s.size - _ < s.size - _; omega)
 refine seq_done (nrm_seq (tri_cond_f rfl ?_))
 refine tri_exit ?_
 refine ext_seq ?_
 refine ext_loopN ?_
 refine ext_block_eq ?_
 refine nrm_seq (tri_seq (tri_region (seq_pure (pure_assign rfl) rfl rfl ?_)))
 refine seq_done (nrm_seq (tri_ret (ret_own1 (outs := []) (res_tmp rfl) SubH.nil ?_)))
 (exact ⟨rfl, rfl, _, rfl⟩)
set_option maxHeartbeats 0 in
set_option maxRecDepth 100000 in
theorem l14Index_fn (s nm : ByteArray) (G : IM) (hs : s.size ≤ 1000) :
  Fn Tryd.prog 72 [.string s, .string nm] [] G (fun G' v outs => G' = G ∧ outs = [] ∧ ∃ i, v = .int .i64 i ∧ I64 i) := by
 refine fn_enter Tryd.func72 rfl Tryd.ntmps72 Tryd.results72 rfl ?_
 intro w0
 refine tri_seq (tri_region (seq_pure (pure_assign rfl) rfl rfl ?_))
 refine seq_done (nrm_seq (tri_seq (tri_seq (tri_region (seq_pure (pure_move rfl) rfl rfl ?_)))))
 refine seq_pure (pure_len_str rfl rfl) rfl rfl ?_
 refine seq_pure (pure_sub rfl rfl (by omega) (by omega)) rfl rfl ?_
 refine seq_pure (pure_assign rfl) rfl rfl ?_
 refine seq_done (nrm_seq (tri_block ?_))
 (refine tri_loopN (fun (i : Nat) => ⟨[(5, .int .i64 ((i : Int) - 1)), (0, .string s), (1, .string nm)], [], G⟩) (fun i => i ≤ s.size) (fun i => i) s.size ?_ ?_ ?_)
 exact sub_mk (by repeat (first | exact SubE.nil | refine SubE.cons rfl ?_)) (by repeat (first | exact SubH.refl | exact SubH.nil | refine SubH.cons (by repeat (first | exact Pk.here | apply Pk.there)) ?_ | apply SubH.drop))
 exact Nat.le_refl _
 (intro i hi)
 refine tri_seq (tri_seq (tri_region (seq_pure (pure_move rfl) rfl rfl ?_)))
 refine seq_bool (pure_geq rfl rfl) rfl rfl (fun h24 => ?_) (fun h24 => ?_)
 refine seq_done (nrm_seq (tri_cond_t rfl ?_))
 refine tri_skip (nrm_seq (tri_seq (tri_block (tri_seq ?_))))
 (have hi1 : 1 ≤ i := (by omega); rw [show ((i : Int) - 1) = ((i - 1 : Nat) : Int) from (by omega)])
 refine tri_region (seq_pure (pure_move rfl) rfl rfl ?_)
 refine seq_pure (pure_move rfl) rfl rfl ?_
 refine seq_pure (pure_move rfl) rfl rfl ?_
 refine seq_pure (pure_add_nat (n := 1) rfl rfl (by omega)) rfl rfl ?_
 refine seq_pure (pure_sslice (h := i - 1 + 1) rfl rfl rfl rfl (by omega) (by omega)) rfl rfl ?_
 refine seq_pure (pure_move rfl) rfl rfl ?_
 refine seq_bool (pure_seql rfl rfl) rfl rfl (fun h41 => ?_) (fun h41 => ?_)
 refine seq_done (nrm_seq (tri_cond_t rfl ?_))
 refine tri_seq (tri_region (seq_pure (pure_move rfl) rfl rfl ?_))
 refine seq_pure (pure_len_str rfl rfl) rfl rfl ?_
 refine seq_pure (pure_sub rfl rfl (by omega) (by omega)) rfl rfl ?_
 refine seq_pure (pure_move rfl) rfl rfl ?_
 refine seq_pure (pure_sub rfl rfl (by omega) (by omega)) rfl rfl ?_
 refine seq_pure (pure_assign rfl) rfl rfl ?_
 refine seq_done (nrm_seq (tri_ret (ret_block (ret_seq (ret_loopN (ret_block ?_))))))
 refine ret_seq (ret_own1 (outs := []) (res_tmp rfl) SubH.nil ?_)
 (exact ⟨rfl, rfl, _, rfl, by unfold I64; omega⟩)
 refine seq_done (nrm_seq (tri_cond_f rfl ?_))
 refine tri_skip (nrm_block (nrm_seq (tri_region (seq_pure (pure_move rfl) rfl rfl ?_))))
 refine seq_pure (pure_sub rfl rfl (by omega) (by omega)) rfl rfl ?_
 refine seq_pure (pure_assign rfl) rfl rfl ?_
 refine seq_done (nrm_loopN (i - 1) ?_ ?_ ?_)
 exact sub_mk (by repeat (first | exact SubE.nil | refine SubE.cons rfl ?_)) (by repeat (first | exact SubH.refl | exact SubH.nil | refine SubH.cons (by repeat (first | exact Pk.here | apply Pk.there)) ?_ | apply SubH.drop))
 (show _ ≤ s.size; omega)
 (show i - 1 < i; omega)
 refine seq_done (nrm_seq (tri_cond_f rfl ?_))
 refine tri_exit ?_
 refine ext_seq ?_
 refine ext_loopN ?_
 refine ext_block_eq ?_
 refine nrm_seq (tri_seq (tri_region (seq_pure (pure_assign rfl) rfl rfl ?_)))
 refine seq_done (nrm_seq (tri_ret (ret_own1 (outs := []) (res_tmp rfl) SubH.nil ?_)))
 (exact ⟨rfl, rfl, _, rfl, by unfold I64; omega⟩)
set_option maxHeartbeats 0 in
set_option maxRecDepth 100000 in
theorem l2Free_fn : ∀ (t : Tm) (d : Int) (out bd : ByteArray) (G : IM) (cells : List Value), sShape 12 14 t d = true → out.size + tmCount t ≤ 1000 → bd.size + tmCount t ≤ 1000 → RTm G t cells →
  Fn Tryd.prog 49 [.string out, .agg ⟨cells⟩, .string bd] [] G (fun G' v outs => G' = G ∧ outs = [] ∧ ∃ r, v = .string r ∧ r.size ≤ out.size + tmCount t) := by
 refine Tm.ind fun k nm num ty fr lb ks ih d out bd G cells hv ho hb hr => ?_
 obtain ⟨hv1, hv2, hv3, hv4⟩ := sShape_go2 hv
 have hvk := (sShapeL_iff 12 14 ks _).1 hv4
 have hnm := node_name hv3
 simp only [tmCount] at ho hb ⊢
 obtain ⟨tk, tks⟩ := ty
 obtain ⟨fk, fks⟩ := fr
 obtain ⟨pt, ct, pf, cf, p, c, es, rfl, hk, hnum, hlb, hty, hfr, hsl, hkl⟩ := hr.open9
 have hn := hsl.le
 refine fn_enter Tryd.func49 rfl Tryd.ntmps49 Tryd.results49 rfl ?_
 intro w0
 refine tri_seq (tri_region ?_)
 (refine seq_step (step_box_a rfl rfl) rfl ?_; rintro _ ⟨b3, rfl⟩)
 refine seq_pure (pure_assign rfl) rfl rfl ?_
 refine seq_done (nrm_seq (tri_seq (tri_seq (tri_region (seq_pure (pure_fieldAddr0 rfl) rfl rfl ?_)))))
 refine seq_load (load_bs rfl rfl (by repeat first | exact mH | apply mT) (by rfl)) rfl rfl ?_
 refine seq_bool (pure_eql rfl rfl) rfl rfl (fun h12 => ?_) (fun h12 => ?_)
 refine seq_pure (pure_move rfl) rfl rfl ?_
 refine seq_pure (pure_move rfl) rfl rfl ?_
 refine seq_pure (pure_fieldAddr0 rfl) rfl rfl ?_
 refine seq_load (load_bs rfl rfl (by repeat first | exact mH | apply mT) (by rfl)) rfl rfl ?_
 (refine seq_take rfl (l2Has_fn _ _ _ (by omega)) (List.Perm.refl _) rfl rfl (fun v G1 outs hle1 hh => ?_); obtain ⟨hG, rfl, b, rfl⟩ := hh; replace hG := hG.symm; subst hG; cases b)
 refine seq_pure (pure_not_f rfl) rfl rfl ?_
 refine seq_pure (pure_pick_t rfl rfl) rfl rfl ?_
 refine seq_done (nrm_seq (tri_cond_t rfl ?_))
 refine tri_region (seq_pure (pure_move rfl) rfl rfl ?_)
 refine seq_pure (pure_fieldAddr0 rfl) rfl rfl ?_
 refine seq_load (load_bs rfl rfl (by repeat first | exact mH | apply mT) (by rfl)) rfl rfl ?_
 (refine seq_take rfl (l2Add_fn _ _ _ (by omega) (by omega)) (List.Perm.refl _) rfl rfl (fun v G1 outs hle1 hh => ?_); obtain ⟨hG, rfl, r1, rfl, hr1⟩ := hh; replace hG := hG.symm; subst hG)
 refine seq_pure (pure_assign rfl) rfl rfl ?_
 refine seq_done (nrm_seq (tri_seq (tri_seq (tri_region (seq_pure (pure_fieldAddr0 rfl) rfl rfl ?_)))))
 refine seq_load (load_bs rfl rfl (by repeat first | exact mH | apply mT) (by rfl)) rfl rfl ?_
 refine seq_pure (pure_eql_f rfl rfl (by omega)) rfl rfl ?_
 refine seq_done (nrm_seq (tri_cond_f rfl ?_))
 refine tri_skip (nrm_seq (tri_seq (tri_seq (tri_region (seq_pure (pure_assign rfl) rfl rfl ?_)))))
 refine seq_done (nrm_seq (tri_block ?_))
 (have hq : k = 1 := (by omega); have hr2 := hr1; refine tri_loopN (fun (x : Nat × ByteArray) => ⟨[(7, .int .i64 (x.1 : Int)), (4, .pointer (some ⟨b3, 0, none⟩)), (0, .string x.2), (2, .string bd)], [.blk b3 [.int .i64 k, .string nm, .int .i64 num, .int .i64 tk, .slice pt tks.length ct, .int .i64 fk, .slice pf fks.length cf, .int .i64 lb, .slice p ks.length c]], G⟩) (fun x => x.1 ≤ ks.length ∧ x.2.size ≤ out.size + 1 + tmCountL (ks.take x.1)) (fun x => ks.length - x.1) (0, r1) ?_ ?_ ?_)
 (simp only [flat_snoc]; exact sub_mk (by repeat (first | exact SubE.nil | refine SubE.cons rfl ?_)) (by repeat (first | exact SubH.refl | exact SubH.nil | refine SubH.cons (by repeat (first | exact Pk.here | apply Pk.there)) ?_ | apply SubH.drop)))
 (exact ⟨Nat.zero_le _, by dsimp only; omega⟩)
 (rintro ⟨i, o⟩ ⟨hi, hos⟩; simp only [] at hi hos ⊢; have hct := cntL_takeLe ks (i + 1))
 refine tri_seq (tri_seq (tri_region (seq_pure (pure_move rfl) rfl rfl ?_)))
 refine seq_pure (pure_fieldAddr0 rfl) rfl rfl ?_
 refine seq_load (load_bs rfl rfl (by repeat first | exact mH | apply mT) (by rfl)) rfl rfl ?_
 refine seq_pure (pure_len rfl rfl) rfl rfl ?_
 refine seq_bool (pure_lss rfl rfl) rfl rfl (fun h60 => ?_) (fun h60 => ?_)
 refine seq_done (nrm_seq (tri_cond_t rfl ?_))
 refine tri_skip (nrm_seq (tri_seq (tri_block ?_)))
 (obtain ⟨bx, ox, e, rfl, hl, hat, hre, hgb⟩ := hsl.kidTm hkl (i := i) (by omega) (by omega); rw [cntL_take (by omega)] at hct)
 refine tri_region (seq_pure (pure_move rfl) rfl rfl ?_)
 refine seq_pure (pure_fieldAddr0 rfl) rfl rfl ?_
 refine seq_load (load_bs rfl rfl (by repeat first | exact mH | apply mT) (by rfl)) rfl rfl ?_
 refine seq_pure (pure_move rfl) rfl rfl ?_
 refine seq_pure (pure_indexAddrN (j := i) rfl rfl rfl (by omega)) rfl rfl ?_
 refine seq_load (load_a rfl rfl (hat _) hl) rfl rfl ?_
 refine seq_pure (pure_move rfl) rfl rfl ?_
 (refine seq_take rfl (ih ks[i] (List.getElem_mem (by omega)) _ _ _ _ _ (hvk i (by omega)) (by omega) (by omega) hre) (List.Perm.refl _) rfl rfl (fun v G1 outs hle1 hh => ?_); obtain ⟨hG, rfl, r3, rfl, hr3⟩ := hh; replace hG := hG.symm; subst hG)
 refine seq_pure (pure_assign rfl) rfl rfl ?_
 refine seq_done (nrm_block (nrm_seq (tri_region (seq_pure (pure_move rfl) rfl rfl ?_))))
 refine seq_pure (pure_add rfl rfl (by omega) (by omega)) rfl rfl ?_
 refine seq_pure (pure_assign rfl) rfl rfl ?_
 refine seq_done (nrm_loopN (i + 1, r3) ?_ ?_ ?_)
 (simp only [flat_snoc]; exact sub_mk (by repeat (first | exact SubE.nil | refine SubE.cons rfl ?_)) (by repeat (first | exact SubH.refl | exact SubH.nil | refine SubH.cons (by repeat (first | exact Pk.here | apply Pk.there)) ?_ | apply SubH.drop)))
 (dsimp only; exact ⟨by omega, by rw [cntL_take (by omega)]; omega⟩)
 (show ks.length - (i + 1) < ks.length - i; omega)
 refine seq_done (nrm_seq (tri_cond_f rfl ?_))
 refine tri_exit ?_
 refine ext_seq ?_
 refine ext_loopN ?_
 refine ext_block_eq ?_
 refine nrm_seq (tri_seq (tri_region (seq_pure (pure_move rfl) rfl rfl ?_)))
 refine seq_pure (pure_assign rfl) rfl rfl ?_
 refine seq_done (nrm_seq (tri_ret (ret_own1 (outs := []) (res_tmp rfl) SubH.nil ?_)))
 (exact ⟨rfl, rfl, _, rfl, by have := cntL_takeLe ks i; omega⟩)
 refine seq_pure (pure_not_t rfl) rfl rfl ?_
 refine seq_pure (pure_pick_t rfl rfl) rfl rfl ?_
 refine seq_done (nrm_seq (tri_cond_f rfl ?_))
 refine tri_skip (nrm_seq (tri_seq (tri_seq (tri_region (seq_pure (pure_fieldAddr0 rfl) rfl rfl ?_)))))
 refine seq_load (load_bs rfl rfl (by repeat first | exact mH | apply mT) (by rfl)) rfl rfl ?_
 refine seq_pure (pure_eql_f rfl rfl (by omega)) rfl rfl ?_
 refine seq_done (nrm_seq (tri_cond_f rfl ?_))
 refine tri_skip (nrm_seq (tri_seq (tri_seq (tri_region (seq_pure (pure_assign rfl) rfl rfl ?_)))))
 refine seq_done (nrm_seq (tri_block ?_))
 (refine tri_loopN (fun (x : Nat × ByteArray) => ⟨[(7, .int .i64 (x.1 : Int)), (4, .pointer (some ⟨b3, 0, none⟩)), (0, .string x.2), (2, .string bd)], [.blk b3 [.int .i64 k, .string nm, .int .i64 num, .int .i64 tk, .slice pt tks.length ct, .int .i64 fk, .slice pf fks.length cf, .int .i64 lb, .slice p ks.length c]], G⟩) (fun x => x.1 ≤ ks.length ∧ x.2.size ≤ out.size + 1 + tmCountL (ks.take x.1)) (fun x => ks.length - x.1) (0, out) ?_ ?_ ?_)
 (simp only [flat_snoc]; exact sub_mk (by repeat (first | exact SubE.nil | refine SubE.cons rfl ?_)) (by repeat (first | exact SubH.refl | exact SubH.nil | refine SubH.cons (by repeat (first | exact Pk.here | apply Pk.there)) ?_ | apply SubH.drop)))
 (exact ⟨Nat.zero_le _, by dsimp only; omega⟩)
 (rintro ⟨i, o⟩ ⟨hi, hos⟩; simp only [] at hi hos ⊢; have hct := cntL_takeLe ks (i + 1))
 refine tri_seq (tri_seq (tri_region (seq_pure (pure_move rfl) rfl rfl ?_)))
 refine seq_pure (pure_fieldAddr0 rfl) rfl rfl ?_
 refine seq_load (load_bs rfl rfl (by repeat first | exact mH | apply mT) (by rfl)) rfl rfl ?_
 refine seq_pure (pure_len rfl rfl) rfl rfl ?_
 refine seq_bool (pure_lss rfl rfl) rfl rfl (fun h144 => ?_) (fun h144 => ?_)
 refine seq_done (nrm_seq (tri_cond_t rfl ?_))
 refine tri_skip (nrm_seq (tri_seq (tri_block ?_)))
 (obtain ⟨bx, ox, e, rfl, hl, hat, hre, hgb⟩ := hsl.kidTm hkl (i := i) (by omega) (by omega); rw [cntL_take (by omega)] at hct)
 refine tri_region (seq_pure (pure_move rfl) rfl rfl ?_)
 refine seq_pure (pure_fieldAddr0 rfl) rfl rfl ?_
 refine seq_load (load_bs rfl rfl (by repeat first | exact mH | apply mT) (by rfl)) rfl rfl ?_
 refine seq_pure (pure_move rfl) rfl rfl ?_
 refine seq_pure (pure_indexAddrN (j := i) rfl rfl rfl (by omega)) rfl rfl ?_
 refine seq_load (load_a rfl rfl (hat _) hl) rfl rfl ?_
 refine seq_pure (pure_move rfl) rfl rfl ?_
 (refine seq_take rfl (ih ks[i] (List.getElem_mem (by omega)) _ _ _ _ _ (hvk i (by omega)) (by omega) (by omega) hre) (List.Perm.refl _) rfl rfl (fun v G1 outs hle1 hh => ?_); obtain ⟨hG, rfl, r3, rfl, hr3⟩ := hh; replace hG := hG.symm; subst hG)
 refine seq_pure (pure_assign rfl) rfl rfl ?_
 refine seq_done (nrm_block (nrm_seq (tri_region (seq_pure (pure_move rfl) rfl rfl ?_))))
 refine seq_pure (pure_add rfl rfl (by omega) (by omega)) rfl rfl ?_
 refine seq_pure (pure_assign rfl) rfl rfl ?_
 refine seq_done (nrm_loopN (i + 1, r3) ?_ ?_ ?_)
 (simp only [flat_snoc]; exact sub_mk (by repeat (first | exact SubE.nil | refine SubE.cons rfl ?_)) (by repeat (first | exact SubH.refl | exact SubH.nil | refine SubH.cons (by repeat (first | exact Pk.here | apply Pk.there)) ?_ | apply SubH.drop)))
 (dsimp only; exact ⟨by omega, by rw [cntL_take (by omega)]; omega⟩)
 (show ks.length - (i + 1) < ks.length - i; omega)
 refine seq_done (nrm_seq (tri_cond_f rfl ?_))
 refine tri_exit ?_
 refine ext_seq ?_
 refine ext_loopN ?_
 refine ext_block_eq ?_
 refine nrm_seq (tri_seq (tri_region (seq_pure (pure_move rfl) rfl rfl ?_)))
 refine seq_pure (pure_assign rfl) rfl rfl ?_
 refine seq_done (nrm_seq (tri_ret (ret_own1 (outs := []) (res_tmp rfl) SubH.nil ?_)))
 (exact ⟨rfl, rfl, _, rfl, by have := cntL_takeLe ks i; omega⟩)
 refine seq_pure (pure_move rfl) rfl rfl ?_
 refine seq_skip rfl rfl ?_
 refine seq_skip rfl rfl ?_
 refine seq_skip rfl rfl ?_
 refine seq_skip rfl rfl ?_
 refine seq_skip rfl rfl ?_
 refine seq_pure (pure_pick_f rfl rfl) rfl rfl ?_
 refine seq_done (nrm_seq (tri_cond_f rfl ?_))
 refine tri_skip (nrm_seq (tri_seq (tri_seq (tri_region (seq_pure (pure_fieldAddr0 rfl) rfl rfl ?_)))))
 refine seq_load (load_bs rfl rfl (by repeat first | exact mH | apply mT) (by rfl)) rfl rfl ?_
 refine seq_bool (pure_eql rfl rfl) rfl rfl (fun h209 => ?_) (fun h209 => ?_)
 refine seq_done (nrm_seq (tri_cond_t rfl ?_))
 refine tri_region (seq_pure (pure_move rfl) rfl rfl ?_)
 refine seq_pure (pure_fieldAddr0 rfl) rfl rfl ?_
 refine seq_load (load_bs rfl rfl (by repeat first | exact mH | apply mT) (by rfl)) rfl rfl ?_
 (refine seq_take rfl (l2Add_fn _ _ _ (by omega) (by omega)) (List.Perm.refl _) rfl rfl (fun v G1 outs hle1 hh => ?_); obtain ⟨hG, rfl, r1, rfl, hr1⟩ := hh; replace hG := hG.symm; subst hG)
 refine seq_pure (pure_assign rfl) rfl rfl ?_
 refine seq_done (nrm_seq (tri_seq (tri_seq (tri_region (seq_pure (pure_assign rfl) rfl rfl ?_)))))
 refine seq_done (nrm_seq (tri_block ?_))
 (have hq : k = 5 := (by omega); have hr2 : r1.size ≤ bd.size + 1 := (by omega); refine tri_loopN (fun (x : Nat × ByteArray) => ⟨[(7, .int .i64 (x.1 : Int)), (4, .pointer (some ⟨b3, 0, none⟩)), (0, .string x.2), (2, .string r1)], [.blk b3 [.int .i64 k, .string nm, .int .i64 num, .int .i64 tk, .slice pt tks.length ct, .int .i64 fk, .slice pf fks.length cf, .int .i64 lb, .slice p ks.length c]], G⟩) (fun x => x.1 ≤ ks.length ∧ x.2.size ≤ out.size + 1 + tmCountL (ks.take x.1)) (fun x => ks.length - x.1) (0, out) ?_ ?_ ?_)
 (simp only [flat_snoc]; exact sub_mk (by repeat (first | exact SubE.nil | refine SubE.cons rfl ?_)) (by repeat (first | exact SubH.refl | exact SubH.nil | refine SubH.cons (by repeat (first | exact Pk.here | apply Pk.there)) ?_ | apply SubH.drop)))
 (exact ⟨Nat.zero_le _, by dsimp only; omega⟩)
 (rintro ⟨i, o⟩ ⟨hi, hos⟩; simp only [] at hi hos ⊢; have hct := cntL_takeLe ks (i + 1))
 refine tri_seq (tri_seq (tri_region (seq_pure (pure_move rfl) rfl rfl ?_)))
 refine seq_pure (pure_fieldAddr0 rfl) rfl rfl ?_
 refine seq_load (load_bs rfl rfl (by repeat first | exact mH | apply mT) (by rfl)) rfl rfl ?_
 refine seq_pure (pure_len rfl rfl) rfl rfl ?_
 refine seq_bool (pure_lss rfl rfl) rfl rfl (fun h239 => ?_) (fun h239 => ?_)
 refine seq_done (nrm_seq (tri_cond_t rfl ?_))
 refine tri_skip (nrm_seq (tri_seq (tri_block ?_)))
 (obtain ⟨bx, ox, e, rfl, hl, hat, hre, hgb⟩ := hsl.kidTm hkl (i := i) (by omega) (by omega); rw [cntL_take (by omega)] at hct)
 refine tri_region (seq_pure (pure_move rfl) rfl rfl ?_)
 refine seq_pure (pure_fieldAddr0 rfl) rfl rfl ?_
 refine seq_load (load_bs rfl rfl (by repeat first | exact mH | apply mT) (by rfl)) rfl rfl ?_
 refine seq_pure (pure_move rfl) rfl rfl ?_
 refine seq_pure (pure_indexAddrN (j := i) rfl rfl rfl (by omega)) rfl rfl ?_
 refine seq_load (load_a rfl rfl (hat _) hl) rfl rfl ?_
 refine seq_pure (pure_move rfl) rfl rfl ?_
 (refine seq_take rfl (ih ks[i] (List.getElem_mem (by omega)) _ _ _ _ _ (hvk i (by omega)) (by omega) (by omega) hre) (List.Perm.refl _) rfl rfl (fun v G1 outs hle1 hh => ?_); obtain ⟨hG, rfl, r3, rfl, hr3⟩ := hh; replace hG := hG.symm; subst hG)
 refine seq_pure (pure_assign rfl) rfl rfl ?_
 refine seq_done (nrm_block (nrm_seq (tri_region (seq_pure (pure_move rfl) rfl rfl ?_))))
 refine seq_pure (pure_add rfl rfl (by omega) (by omega)) rfl rfl ?_
 refine seq_pure (pure_assign rfl) rfl rfl ?_
 refine seq_done (nrm_loopN (i + 1, r3) ?_ ?_ ?_)
 (simp only [flat_snoc]; exact sub_mk (by repeat (first | exact SubE.nil | refine SubE.cons rfl ?_)) (by repeat (first | exact SubH.refl | exact SubH.nil | refine SubH.cons (by repeat (first | exact Pk.here | apply Pk.there)) ?_ | apply SubH.drop)))
 (dsimp only; exact ⟨by omega, by rw [cntL_take (by omega)]; omega⟩)
 (show ks.length - (i + 1) < ks.length - i; omega)
 refine seq_done (nrm_seq (tri_cond_f rfl ?_))
 refine tri_exit ?_
 refine ext_seq ?_
 refine ext_loopN ?_
 refine ext_block_eq ?_
 refine nrm_seq (tri_seq (tri_region (seq_pure (pure_move rfl) rfl rfl ?_)))
 refine seq_pure (pure_assign rfl) rfl rfl ?_
 refine seq_done (nrm_seq (tri_ret (ret_own1 (outs := []) (res_tmp rfl) SubH.nil ?_)))
 (exact ⟨rfl, rfl, _, rfl, by have := cntL_takeLe ks i; omega⟩)
 refine seq_done (nrm_seq (tri_cond_f rfl ?_))
 refine tri_skip (nrm_seq (tri_seq (tri_seq (tri_region (seq_pure (pure_assign rfl) rfl rfl ?_)))))
 refine seq_done (nrm_seq (tri_block ?_))
 (refine tri_loopN (fun (x : Nat × ByteArray) => ⟨[(7, .int .i64 (x.1 : Int)), (4, .pointer (some ⟨b3, 0, none⟩)), (0, .string x.2), (2, .string bd)], [.blk b3 [.int .i64 k, .string nm, .int .i64 num, .int .i64 tk, .slice pt tks.length ct, .int .i64 fk, .slice pf fks.length cf, .int .i64 lb, .slice p ks.length c]], G⟩) (fun x => x.1 ≤ ks.length ∧ x.2.size ≤ out.size + 1 + tmCountL (ks.take x.1)) (fun x => ks.length - x.1) (0, out) ?_ ?_ ?_)
 (simp only [flat_snoc]; exact sub_mk (by repeat (first | exact SubE.nil | refine SubE.cons rfl ?_)) (by repeat (first | exact SubH.refl | exact SubH.nil | refine SubH.cons (by repeat (first | exact Pk.here | apply Pk.there)) ?_ | apply SubH.drop)))
 (exact ⟨Nat.zero_le _, by dsimp only; omega⟩)
 (rintro ⟨i, o⟩ ⟨hi, hos⟩; simp only [] at hi hos ⊢; have hct := cntL_takeLe ks (i + 1))
 refine tri_seq (tri_seq (tri_region (seq_pure (pure_move rfl) rfl rfl ?_)))
 refine seq_pure (pure_fieldAddr0 rfl) rfl rfl ?_
 refine seq_load (load_bs rfl rfl (by repeat first | exact mH | apply mT) (by rfl)) rfl rfl ?_
 refine seq_pure (pure_len rfl rfl) rfl rfl ?_
 refine seq_bool (pure_lss rfl rfl) rfl rfl (fun h310 => ?_) (fun h310 => ?_)
 refine seq_done (nrm_seq (tri_cond_t rfl ?_))
 refine tri_skip (nrm_seq (tri_seq (tri_block ?_)))
 (obtain ⟨bx, ox, e, rfl, hl, hat, hre, hgb⟩ := hsl.kidTm hkl (i := i) (by omega) (by omega); rw [cntL_take (by omega)] at hct)
 refine tri_region (seq_pure (pure_move rfl) rfl rfl ?_)
 refine seq_pure (pure_fieldAddr0 rfl) rfl rfl ?_
 refine seq_load (load_bs rfl rfl (by repeat first | exact mH | apply mT) (by rfl)) rfl rfl ?_
 refine seq_pure (pure_move rfl) rfl rfl ?_
 refine seq_pure (pure_indexAddrN (j := i) rfl rfl rfl (by omega)) rfl rfl ?_
 refine seq_load (load_a rfl rfl (hat _) hl) rfl rfl ?_
 refine seq_pure (pure_move rfl) rfl rfl ?_
 (refine seq_take rfl (ih ks[i] (List.getElem_mem (by omega)) _ _ _ _ _ (hvk i (by omega)) (by omega) (by omega) hre) (List.Perm.refl _) rfl rfl (fun v G1 outs hle1 hh => ?_); obtain ⟨hG, rfl, r3, rfl, hr3⟩ := hh; replace hG := hG.symm; subst hG)
 refine seq_pure (pure_assign rfl) rfl rfl ?_
 refine seq_done (nrm_block (nrm_seq (tri_region (seq_pure (pure_move rfl) rfl rfl ?_))))
 refine seq_pure (pure_add rfl rfl (by omega) (by omega)) rfl rfl ?_
 refine seq_pure (pure_assign rfl) rfl rfl ?_
 refine seq_done (nrm_loopN (i + 1, r3) ?_ ?_ ?_)
 (simp only [flat_snoc]; exact sub_mk (by repeat (first | exact SubE.nil | refine SubE.cons rfl ?_)) (by repeat (first | exact SubH.refl | exact SubH.nil | refine SubH.cons (by repeat (first | exact Pk.here | apply Pk.there)) ?_ | apply SubH.drop)))
 (dsimp only; exact ⟨by omega, by rw [cntL_take (by omega)]; omega⟩)
 (show ks.length - (i + 1) < ks.length - i; omega)
 refine seq_done (nrm_seq (tri_cond_f rfl ?_))
 refine tri_exit ?_
 refine ext_seq ?_
 refine ext_loopN ?_
 refine ext_block_eq ?_
 refine nrm_seq (tri_seq (tri_region (seq_pure (pure_move rfl) rfl rfl ?_)))
 refine seq_pure (pure_assign rfl) rfl rfl ?_
 refine seq_done (nrm_seq (tri_ret (ret_own1 (outs := []) (res_tmp rfl) SubH.nil ?_)))
 (exact ⟨rfl, rfl, _, rfl, by have := cntL_takeLe ks i; omega⟩)
end Gw
end Go.Proofs.YtaoaeilognhfpaaDoor
namespace Go.Proofs.YtaoaeilognhfpaaDoor
open Go Go.RowKit
namespace Gw
theorem ty0_s (G : IM) : STy G ty0 [.int .i64 0, .slice none 0 0] [] := by
 simp only [ty0, STy, STyL]
 exact ⟨none, 0, [], [], rfl, ⟨by omega, by omega⟩, SlE.nil _ _, ⟨rfl, rfl⟩, rfl, by simp [vfp]⟩
/-- BareTerm in plain words. -/
def mBareTerm (t : Tm) : Tm × Bool := if termValid t = true ∨ castValid t = true then (mBare t, true) else (tm0, false)
end Gw
end Go.Proofs.YtaoaeilognhfpaaDoor
namespace Go.Proofs.YtaoaeilognhfpaaDoor
open Go Go.RowKit
namespace Gw
theorem STmS.leaf {G : IM} {k : Int} {nm : ByteArray} {num x : Int} {ks : List Tm} {p : Option Addr} {c : Nat} {F : List Nat} (h : STmS G ks p c F) (hk : I64 k) (hnum : I64 num) (hx : I64 x) :
  STm G (.mk k nm num (.mk x []) ty0 0 ks) [.int .i64 k, .string nm, .int .i64 num, .int .i64 x, .slice none 0 0, .int .i64 0, .slice none 0 0, .int .i64 0, .slice p ks.length c] F := by
 obtain ⟨es, Fs, h1, h2, rfl, h4⟩ := h
 have hT : STy G (.mk x []) [.int .i64 x, .slice none 0 0] [] := by
  simp only [STy, STyL]
  exact ⟨none, 0, [], [], rfl, hx, SlE.nil _ _, ⟨rfl, rfl⟩, rfl, by simp [vfp]⟩
 simp only [STm]
 exact ⟨[.int .i64 x, .slice none 0 0], [.int .i64 0, .slice none 0 0], p, c, es, [], [], Fs, rfl, hk, hnum, ⟨by omega, by omega⟩, hT, ty0_s G, h1, h2, rfl, h4⟩
theorem mBare_kid {k : Int} {nm : ByteArray} {num : Int} {ty fr : Ty} {lb : Int} {ks : List Tm} (h : k = 13 ∨ k = 14) (h0 : 0 < ks.length) : mBare (.mk k nm num ty fr lb ks) = mBare ks[0] := by
 cases ks with
 | nil => simp at h0
 | cons x xs => rw [mBare, if_pos h, mBareL]; rfl
theorem mBare_node {k : Int} {nm : ByteArray} {num : Int} {ty fr : Ty} {lb : Int} {ks : List Tm} {x : Int} (h : ¬(k = 13 ∨ k = 14)) (hx : x = if k = 5 then 1 else 0) : mBare (.mk k nm num ty fr lb ks) = .mk k nm num (.mk x []) ty0 0 (mBareL ks) := by
 rw [mBare, if_neg h, hx]
 by_cases h5 : k = 5
 ·rw [if_pos h5, if_pos h5]; rfl
 ·rw [if_neg h5, if_neg h5]; rfl
set_option maxHeartbeats 0 in
set_option maxRecDepth 100000 in
theorem l4Bare_fn (D N : Int) : ∀ (t : Tm) (d : Int) (G : IM) (cells : List Value), sShape D N t d = true → t.small → RTm G t cells →
  Fn Tryd.prog 51 [.agg ⟨cells⟩] [] G (ToTm (mBare t) G) := by
 refine Tm.ind fun k nm num ty fr lb ks ih d G cells hv hts hr => ?_
 have hone := hr.one
 obtain ⟨hv1, hv2, hv3, hv4⟩ := sShape_go2 hv
 have hvk := (sShapeL_iff D N ks _).1 hv4
 have har := (tmNode_iff.1 hv3).1
 have hk0 : k = 13 ∨ k = 14 → 0 < ks.length := by
  rintro (rfl | rfl)
  ·rw [show tmOps 13 = 1 from rfl] at har; omega
  ·rw [show tmOps 14 = 1 from rfl] at har; omega
 simp only [Tm.small] at hts
 obtain ⟨hnm, hty', hfr', hsm, hks⟩ := hts
 obtain ⟨tk, tks⟩ := ty
 obtain ⟨fk, fks⟩ := fr
 obtain ⟨pt, ct, pf, cf, p, c, es, rfl, hk, hnum, hlb, hty, hfr, hsl, hkl⟩ := hr.open9
 have hn := hsl.le
 have hlen : (mBareL ks).length = ks.length := by rw [mBareL_eq, List.length_map]
 have hget : ∀ i (h : i < ks.length) (h' : i < (mBareL ks).length), (mBareL ks)[i] = mBare ks[i] := fun i h h' => by simp [mBareL_eq]
 have hB1 := fun h h0 => @mBare_kid k nm num (.mk tk tks) (.mk fk fks) lb ks h h0
 have hB2 := fun x h hx => @mBare_node k nm num (.mk tk tks) (.mk fk fks) lb ks x h hx
 refine fn_enter Tryd.func51 rfl Tryd.ntmps51 Tryd.results51 rfl ?_
 intro w0
 refine tri_seq (tri_region ?_)
 (refine seq_step (step_box_a rfl rfl) rfl ?_; rintro _ ⟨b3, rfl⟩)
 (refine seq_step (step_alloc rfl) rfl ?_; rintro _ ⟨b4, rfl⟩)
 refine seq_done (nrm_seq (tri_seq (tri_seq (tri_region (seq_pure (pure_fieldAddr0 rfl) rfl rfl ?_)))))
 refine seq_load (load_bs rfl rfl (by repeat first | exact mH | apply mT) (by rfl)) rfl rfl ?_
 refine seq_bool (pure_eql rfl rfl) rfl rfl (fun h12 => ?_) (fun h12 => ?_)
 refine seq_pure (pure_move rfl) rfl rfl ?_
 refine seq_skip rfl rfl ?_
 refine seq_skip rfl rfl ?_
 refine seq_skip rfl rfl ?_
 refine seq_pure (pure_pick_t rfl rfl) rfl rfl ?_
 refine seq_done (nrm_seq (tri_cond_t rfl ?_))
 refine tri_seq (tri_region (seq_pure (pure_fieldAddr0 rfl) rfl rfl ?_))
 refine seq_load (load_bs rfl rfl (by repeat first | exact mH | apply mT) (by rfl)) rfl rfl ?_
 (have hk00 := hk0 (by omega); obtain ⟨b, o, e, rfl, hl, hat, hre, hgb⟩ := hsl.kidTm hkl (i := 0) hk00 hk00; have hK := ih ks[0] (List.getElem_mem _) _ G _ (hvk 0 hk00) (Tm.smallL_mem hks _ (List.getElem_mem _)) hre; rw [← hB1 (by omega) hk00] at hK; refine seq_pure (pure_indexAddrN (j := 0) rfl rfl rfl (by omega)) rfl rfl ?_)
 refine seq_load (load_a rfl rfl (hat _) hl) rfl rfl ?_
 (refine seq_imm rfl hK rfl rfl (fun v G3 hle3 hh => ?_); obtain ⟨cells', F', rfl, hs', hnd'⟩ := hh; have hl' := hs'.R.len; have ho' := hs'.R.one)
 refine seq_store rfl rfl rfl hl' ho' rfl (by repeat first | exact Sw.here | apply Sw.there) (by exact upd_all hl'.symm) ?_
 refine seq_done (nrm_seq (tri_ret (ret_seq (ret_fin1 (res_cell rfl (load_a rfl rfl (at_blk_all (by repeat first | exact mH | apply mT)) hl')) ?_))))
 exact ⟨rfl, cells', F', rfl, hs', hnd'⟩
 refine seq_pure (pure_move rfl) rfl rfl ?_
 refine seq_pure (pure_fieldAddr0 rfl) rfl rfl ?_
 refine seq_load (load_bs rfl rfl (by repeat first | exact mH | apply mT) (by rfl)) rfl rfl ?_
 refine seq_bool (pure_eql rfl rfl) rfl rfl (fun h38 => ?_) (fun h38 => ?_)
 refine seq_pure (pure_pick_f rfl rfl) rfl rfl ?_
 refine seq_done (nrm_seq (tri_cond_t rfl ?_))
 refine tri_seq (tri_region (seq_pure (pure_fieldAddr0 rfl) rfl rfl ?_))
 refine seq_load (load_bs rfl rfl (by repeat first | exact mH | apply mT) (by rfl)) rfl rfl ?_
 (have hk00 := hk0 (by omega); obtain ⟨b, o, e, rfl, hl, hat, hre, hgb⟩ := hsl.kidTm hkl (i := 0) hk00 hk00; have hK := ih ks[0] (List.getElem_mem _) _ G _ (hvk 0 hk00) (Tm.smallL_mem hks _ (List.getElem_mem _)) hre; rw [← hB1 (by omega) hk00] at hK; refine seq_pure (pure_indexAddrN (j := 0) rfl rfl rfl (by omega)) rfl rfl ?_)
 refine seq_load (load_a rfl rfl (hat _) hl) rfl rfl ?_
 (refine seq_imm rfl hK rfl rfl (fun v G3 hle3 hh => ?_); obtain ⟨cells', F', rfl, hs', hnd'⟩ := hh; have hl' := hs'.R.len; have ho' := hs'.R.one)
 refine seq_store rfl rfl rfl hl' ho' rfl (by repeat first | exact Sw.here | apply Sw.there) (by exact upd_all hl'.symm) ?_
 refine seq_done (nrm_seq (tri_ret (ret_seq (ret_fin1 (res_cell rfl (load_a rfl rfl (at_blk_all (by repeat first | exact mH | apply mT)) hl')) ?_))))
 exact ⟨rfl, cells', F', rfl, hs', hnd'⟩
 refine seq_pure (pure_pick_f rfl rfl) rfl rfl ?_
 refine seq_done (nrm_seq (tri_cond_f rfl ?_))
 refine tri_skip (nrm_seq (tri_seq (tri_region (seq_pure (pure_fieldAddr0 rfl) rfl rfl ?_))))
 refine seq_load (load_bs rfl rfl (by repeat first | exact mH | apply mT) (by rfl)) rfl rfl ?_
 refine seq_pure (pure_fieldAddr0 rfl) rfl rfl ?_
 refine seq_load (load_bs rfl rfl (by repeat first | exact mH | apply mT) (by rfl)) rfl rfl ?_
 refine seq_pure (pure_fieldAddr0 rfl) rfl rfl ?_
 refine seq_load (load_bs rfl rfl (by repeat first | exact mH | apply mT) (by rfl)) rfl rfl ?_
 refine seq_pure (pure_build rfl rfl) rfl rfl ?_
 (refine seq_step (step_alloc rfl) rfl ?_; rintro _ ⟨b72, rfl⟩)
 refine seq_store rfl rfl rfl rfl rfl rfl (by repeat first | exact Sw.here | apply Sw.there) (by rfl) ?_
 refine seq_done (nrm_seq (tri_seq (tri_seq (tri_region (seq_pure (pure_fieldAddr0 rfl) rfl rfl ?_)))))
 refine seq_load (load_bs rfl rfl (by repeat first | exact mH | apply mT) (by rfl)) rfl rfl ?_
 refine seq_bool (pure_eql rfl rfl) rfl rfl (fun h81 => ?_) (fun h81 => ?_)
 refine seq_done (nrm_seq ?_)
 (show Tri _ _ (.cond (.tmp 27) _ _) _ _; refine tri_cut (fun (x : Int) => ⟨[(3, .pointer (some ⟨b72, 0, none⟩)), (1, .pointer (some ⟨b3, 0, none⟩)), (2, .pointer (some ⟨b4, 0, none⟩))], [.blk b72 [.int .i64 k, .string nm, .int .i64 num, .int .i64 x, .slice none 0 0, .int .i64 0, .slice none 0 0, .int .i64 0, .slice none 0 0], .blk b4 [.int .i64 0, .string ⟨⟨[]⟩⟩, .int .i64 0, .int .i64 0, .slice none 0 0, .int .i64 0, .slice none 0 0, .int .i64 0, .slice none 0 0], .blk b3 [.int .i64 k, .string nm, .int .i64 num, .int .i64 tk, .slice pt tks.length ct, .int .i64 fk, .slice pf fks.length cf, .int .i64 lb, .slice p ks.length c]], G⟩) (fun x => x = if k = 5 then 1 else 0) ?_ ?_)
 refine tri_cond_t rfl ?_
 refine tri_region (seq_val rfl ((l1Any_fn _)) rfl rfl ?_)
 refine seq_pure (pure_fieldAddr0 rfl) rfl rfl ?_
 refine seq_store rfl rfl rfl rfl rfl rfl (by repeat first | exact Sw.here | apply Sw.there) (by rfl) ?_
 refine seq_done (nrm_cut 1 (sub_mk (by repeat (first | exact SubE.nil | refine SubE.cons rfl ?_)) (by repeat (first | exact SubH.refl | exact SubH.nil | refine SubH.cons (by repeat (first | exact Pk.here | apply Pk.there)) ?_ | apply SubH.drop))) (if_pos (by omega)).symm)
 (intro tx htx; have hxi : I64 tx := (by rw [htx]; split <;> exact ⟨by omega, by omega⟩); have hB3 := hB2 tx (by omega) htx)
 refine tri_seq (tri_seq (tri_region (seq_pure (pure_assign rfl) rfl rfl ?_)))
 refine seq_done (nrm_seq (tri_block ?_))
 (refine tri_nil 88 9 ?_; refine tri_loopN (fun (x : Nat × Option Addr × Nat × List (List Value) × List Nat × IM) => ⟨[(4, .int .i64 x.1), (3, .pointer (some ⟨b72, 0, none⟩)), (1, .pointer (some ⟨b3, 0, none⟩)), (2, .pointer (some ⟨b4, 0, none⟩))], [.blk b72 [.int .i64 k, .string nm, .int .i64 num, .int .i64 tx, .slice none 0 0, .int .i64 0, .slice none 0 0, .int .i64 0, .slice x.2.1 x.1 x.2.2.1], .slc x.2.1 x.2.2.1 88 9 x.1 x.2.2.2.1.flatten, .blk b4 [.int .i64 0, .string ⟨⟨[]⟩⟩, .int .i64 0, .int .i64 0, .slice none 0 0, .int .i64 0, .slice none 0 0, .int .i64 0, .slice none 0 0], .blk b3 [.int .i64 k, .string nm, .int .i64 num, .int .i64 tk, .slice pt tks.length ct, .int .i64 fk, .slice pf fks.length cf, .int .i64 lb, .slice p ks.length c]], x.2.2.2.2.2⟩) (fun x => x.1 ≤ ks.length ∧ IMle G x.2.2.2.2.2 ∧ STmL (Dif x.2.2.2.2.2 G) ((mBareL ks).take x.1) x.2.2.2.1 x.2.2.2.2.1 ∧ x.2.2.2.2.1.Nodup) (fun x => ks.length - x.1) (0, none, 0, [], [], G) ?_ ?_ ?_)
 (simp only [flat_snoc]; exact sub_mk (by repeat (first | exact SubE.nil | refine SubE.cons rfl ?_)) (by repeat (first | exact SubH.refl | exact SubH.nil | refine SubH.cons (by repeat (first | exact Pk.here | apply Pk.there)) ?_ | apply SubH.drop)))
 exact ⟨by simp, IMle.refl _, by simp [STmL], by simp⟩
 (rintro ⟨i, pn, cn, es', F, Gi⟩ ⟨hi, hle, hst, hnd⟩; simp only [] at hi hle hst hnd ⊢; replace hsl := hsl.mono hle; replace hkl := hkl.mono hle)
 refine tri_seq (tri_seq (tri_region (seq_pure (pure_move rfl) rfl rfl ?_)))
 refine seq_pure (pure_fieldAddr0 rfl) rfl rfl ?_
 refine seq_load (load_bs rfl rfl (by repeat first | exact mH | apply mT) (by rfl)) rfl rfl ?_
 refine seq_pure (pure_len rfl rfl) rfl rfl ?_
 refine seq_bool (pure_lss rfl rfl) rfl rfl (fun h111 => ?_) (fun h111 => ?_)
 refine seq_done (nrm_seq (tri_cond_t rfl ?_))
 refine tri_skip (nrm_seq (tri_seq (tri_block ?_)))
 (obtain ⟨b, o, e, rfl, hl, hat, hre, hgb⟩ := hsl.kidTm hkl (i := i) (by omega) (by omega); have hone := hre.one; refine tri_draw mixed rfl ?_)
 refine any_pure (i := 0) (listed' := [tt,ff,ff,ff,ff,ff,ff,ff,ff,ff,ff,ff]) rfl npI (pure_fieldAddr0 rfl) rfl (by kernel_rfl) rfl rfl ?_
 refine any_load (i := 1) (listed' := [tt,tt,ff,ff,ff,ff,ff,ff,ff,ff,ff,ff]) rfl npI (load_bs rfl rfl (by repeat first | exact mH | apply mT) (by rfl)) rfl (by kernel_rfl) rfl rfl ?_
 refine any_pure (i := 2) (listed' := [tt,tt,tt,ff,ff,ff,ff,ff,ff,ff,ff,ff]) rfl npI (pure_fieldAddr0 rfl) rfl (by kernel_rfl) rfl rfl ?_
 refine any_load (i := 3) (listed' := [tt,tt,tt,tt,ff,ff,ff,ff,ff,ff,ff,ff]) rfl npI (load_bs rfl rfl (by repeat first | exact mH | apply mT) (by rfl)) rfl (by kernel_rfl) rfl rfl ?_
 refine any_pure (i := 4) (listed' := [tt,tt,tt,tt,tt,ff,ff,ff,ff,ff,ff,ff]) rfl npI (pure_move rfl) rfl (by kernel_rfl) rfl rfl ?_
 refine any_pure (i := 5) (listed' := [tt,tt,tt,tt,tt,tt,ff,ff,ff,ff,ff,ff]) rfl npI (pure_indexAddrN rfl rfl rfl (by omega)) rfl (by kernel_rfl) rfl rfl ?_
 refine any_load (i := 6) (listed' := [tt,tt,tt,tt,tt,tt,tt,ff,ff,ff,ff,ff]) rfl npI (load_a rfl rfl (hat _) hl) rfl (by kernel_rfl) rfl rfl ?_
 refine any_one (j := 7) (by kernel_rfl) ?_
 (refine one_imm (listed' := [tt,tt,tt,tt,tt,tt,tt,tt,ff,ff,ff,ff]) rfl rfl (ih ks[i] (List.getElem_mem (by omega)) _ _ _ (hvk i (by omega)) (Tm.smallL_mem hks _ (List.getElem_mem (by omega))) hre) rfl rfl rfl (fun v G3 hle3 hh => ?_); obtain ⟨cells', F', rfl, hs', hnd'⟩ := hh; rw [← hget i (by omega) (by omega)] at hs'; obtain ⟨qt, dt, et', qf, df, ef', q3, d3, es3, rfl, _⟩ := hs'.R.open)
 refine any_one (j := 8) (by kernel_rfl) ?_
 (refine one_step0 (listed' := [tt,tt,tt,tt,tt,tt,tt,tt,tt,ff,ff,ff]) rfl (step_buildSlice rfl rfl rfl (by omega) (by unfold maxLen; omega) rfl) rfl rfl ?_; rintro _ ⟨b130, rfl⟩)
 refine any_one (j := 9) (by kernel_rfl) ?_
 refine one_append (listed' := [tt,tt,tt,tt,tt,tt,tt,tt,tt,tt,ff,ff]) rfl rfl rfl rfl rfl rfl (fun _ _ => by repeat (first | exact Sw.here | apply Sw.there)) (at_slc_all (by repeat first | exact mH | apply mT)) rfl (by simp [Value.oneCell']) (by unfold maxLen; omega) (by omega) rfl rfl (by repeat (first | exact HmOk.nil | apply HmOk.dep (by decide +kernel) | apply HmOk.blk (by decide +kernel) (by repeat (first | exact Pk.here | apply Pk.there)) (by repeat first | exact mH | apply mT))) (fun pn' cn' => ?_)
 refine any_pure (i := 10) (listed' := [tt,tt,tt,tt,tt,tt,tt,tt,tt,tt,tt,ff]) rfl npI (pure_fieldAddr0 rfl) rfl (by kernel_rfl) rfl rfl ?_
 refine any_one (j := 11) (by kernel_rfl) ?_
 refine one_store (listed' := [tt,tt,tt,tt,tt,tt,tt,tt,tt,tt,tt,tt]) rfl rfl rfl rfl rfl rfl rfl rfl (by kernel_rfl) (by repeat first | exact Sw.here | apply Sw.there) (by rfl) ?_
 refine any_done (by kernel_rfl) ?_
 refine nrm_block (nrm_seq (tri_region (seq_pure (pure_move rfl) rfl rfl ?_)))
 refine seq_pure (pure_add rfl rfl (by omega) (by omega)) rfl rfl ?_
 refine seq_pure (pure_assign rfl) rfl rfl ?_
 refine seq_done (nrm_loopN (i + 1, pn', cn', es' ++ [[.int .i64 (mBareL ks)[i].k, .string (mBareL ks)[i].nm, .int .i64 (mBareL ks)[i].num, .int .i64 (mBareL ks)[i].ty.k, .slice qt (mBareL ks)[i].ty.ks.length dt, .int .i64 (mBareL ks)[i].fr.k, .slice qf (mBareL ks)[i].fr.ks.length df, .int .i64 (mBareL ks)[i].lb, .slice q3 (mBareL ks)[i].ks.length d3]], F ++ F', G3) ?_ ?_ ?_)
 (simp only [flat_snoc]; exact sub_mk (by repeat (first | exact SubE.nil | refine SubE.cons rfl ?_)) (by repeat (first | exact SubH.refl | exact SubH.nil | refine SubH.cons (by repeat (first | exact Pk.here | apply Pk.there)) ?_ | apply SubH.drop)))
 exact ⟨by omega, hle.trans hle3, STmL.step hst hnd hle hle3 (by omega) hs' hnd'⟩
 (show ks.length - (i + 1) < ks.length - i; omega)
 refine seq_done (nrm_seq (tri_cond_f rfl ?_))
 refine tri_exit ?_
 refine ext_seq ?_
 refine ext_loopN ?_
 refine ext_block_eq ?_
 refine nrm_seq (tri_seq (tri_region (seq_load (load_ba rfl rfl (by repeat first | exact mH | apply mT) (by rfl)) rfl rfl ?_)))
 refine seq_store rfl rfl rfl rfl rfl rfl (by repeat first | exact Sw.here | apply Sw.there) (by rfl) ?_
 refine seq_done (nrm_seq ?_)
 (refine ret_freeze (by repeat (first | exact Pk.here | apply Pk.there)) (fun G4 hle4 hsl4 hno4 => ?_); obtain rfl : i = ks.length := (by omega))
 refine tri_ret (ret_fin1 (res_cell rfl (load_ba rfl rfl (by repeat first | exact mH | apply mT) (by rfl))) ?_)
 (rw [← hlen, List.take_length] at hst; rw [← hlen] at hsl4 ⊢; obtain ⟨F3, hf1, hf2⟩ := STmS.fin hst hnd hle hle4 hsl4 hno4; rw [hB3]; exact ⟨rfl, _, F3, rfl, hf1.leaf hk hnum hxi, hf2⟩)
 refine seq_done (nrm_seq ?_)
 (show Tri _ _ (.cond (.tmp 27) _ _) _ _; refine tri_cut (fun (x : Int) => ⟨[(3, .pointer (some ⟨b72, 0, none⟩)), (1, .pointer (some ⟨b3, 0, none⟩)), (2, .pointer (some ⟨b4, 0, none⟩))], [.blk b72 [.int .i64 k, .string nm, .int .i64 num, .int .i64 x, .slice none 0 0, .int .i64 0, .slice none 0 0, .int .i64 0, .slice none 0 0], .blk b4 [.int .i64 0, .string ⟨⟨[]⟩⟩, .int .i64 0, .int .i64 0, .slice none 0 0, .int .i64 0, .slice none 0 0, .int .i64 0, .slice none 0 0], .blk b3 [.int .i64 k, .string nm, .int .i64 num, .int .i64 tk, .slice pt tks.length ct, .int .i64 fk, .slice pf fks.length cf, .int .i64 lb, .slice p ks.length c]], G⟩) (fun x => x = if k = 5 then 1 else 0) ?_ ?_)
 refine tri_cond_f rfl ?_
 refine tri_skip (nrm_cut 0 (sub_mk (by repeat (first | exact SubE.nil | refine SubE.cons rfl ?_)) (by repeat (first | exact SubH.refl | exact SubH.nil | refine SubH.cons (by repeat (first | exact Pk.here | apply Pk.there)) ?_ | apply SubH.drop))) (if_neg (by omega)).symm)
 (intro tx htx; have hxi : I64 tx := (by rw [htx]; split <;> exact ⟨by omega, by omega⟩); have hB3 := hB2 tx (by omega) htx)
 refine tri_seq (tri_seq (tri_region (seq_pure (pure_assign rfl) rfl rfl ?_)))
 refine seq_done (nrm_seq (tri_block ?_))
 (refine tri_nil 88 9 ?_; refine tri_loopN (fun (x : Nat × Option Addr × Nat × List (List Value) × List Nat × IM) => ⟨[(4, .int .i64 x.1), (3, .pointer (some ⟨b72, 0, none⟩)), (1, .pointer (some ⟨b3, 0, none⟩)), (2, .pointer (some ⟨b4, 0, none⟩))], [.blk b72 [.int .i64 k, .string nm, .int .i64 num, .int .i64 tx, .slice none 0 0, .int .i64 0, .slice none 0 0, .int .i64 0, .slice x.2.1 x.1 x.2.2.1], .slc x.2.1 x.2.2.1 88 9 x.1 x.2.2.2.1.flatten, .blk b4 [.int .i64 0, .string ⟨⟨[]⟩⟩, .int .i64 0, .int .i64 0, .slice none 0 0, .int .i64 0, .slice none 0 0, .int .i64 0, .slice none 0 0], .blk b3 [.int .i64 k, .string nm, .int .i64 num, .int .i64 tk, .slice pt tks.length ct, .int .i64 fk, .slice pf fks.length cf, .int .i64 lb, .slice p ks.length c]], x.2.2.2.2.2⟩) (fun x => x.1 ≤ ks.length ∧ IMle G x.2.2.2.2.2 ∧ STmL (Dif x.2.2.2.2.2 G) ((mBareL ks).take x.1) x.2.2.2.1 x.2.2.2.2.1 ∧ x.2.2.2.2.1.Nodup) (fun x => ks.length - x.1) (0, none, 0, [], [], G) ?_ ?_ ?_)
 (simp only [flat_snoc]; exact sub_mk (by repeat (first | exact SubE.nil | refine SubE.cons rfl ?_)) (by repeat (first | exact SubH.refl | exact SubH.nil | refine SubH.cons (by repeat (first | exact Pk.here | apply Pk.there)) ?_ | apply SubH.drop)))
 exact ⟨by simp, IMle.refl _, by simp [STmL], by simp⟩
 (rintro ⟨i, pn, cn, es', F, Gi⟩ ⟨hi, hle, hst, hnd⟩; simp only [] at hi hle hst hnd ⊢; replace hsl := hsl.mono hle; replace hkl := hkl.mono hle)
 refine tri_seq (tri_seq (tri_region (seq_pure (pure_move rfl) rfl rfl ?_)))
 refine seq_pure (pure_fieldAddr0 rfl) rfl rfl ?_
 refine seq_load (load_bs rfl rfl (by repeat first | exact mH | apply mT) (by rfl)) rfl rfl ?_
 refine seq_pure (pure_len rfl rfl) rfl rfl ?_
 refine seq_bool (pure_lss rfl rfl) rfl rfl (fun h191 => ?_) (fun h191 => ?_)
 refine seq_done (nrm_seq (tri_cond_t rfl ?_))
 refine tri_skip (nrm_seq (tri_seq (tri_block ?_)))
 (obtain ⟨b, o, e, rfl, hl, hat, hre, hgb⟩ := hsl.kidTm hkl (i := i) (by omega) (by omega); have hone := hre.one; refine tri_draw mixed rfl ?_)
 refine any_pure (i := 0) (listed' := [tt,ff,ff,ff,ff,ff,ff,ff,ff,ff,ff,ff]) rfl npI (pure_fieldAddr0 rfl) rfl (by kernel_rfl) rfl rfl ?_
 refine any_load (i := 1) (listed' := [tt,tt,ff,ff,ff,ff,ff,ff,ff,ff,ff,ff]) rfl npI (load_bs rfl rfl (by repeat first | exact mH | apply mT) (by rfl)) rfl (by kernel_rfl) rfl rfl ?_
 refine any_pure (i := 2) (listed' := [tt,tt,tt,ff,ff,ff,ff,ff,ff,ff,ff,ff]) rfl npI (pure_fieldAddr0 rfl) rfl (by kernel_rfl) rfl rfl ?_
 refine any_load (i := 3) (listed' := [tt,tt,tt,tt,ff,ff,ff,ff,ff,ff,ff,ff]) rfl npI (load_bs rfl rfl (by repeat first | exact mH | apply mT) (by rfl)) rfl (by kernel_rfl) rfl rfl ?_
 refine any_pure (i := 4) (listed' := [tt,tt,tt,tt,tt,ff,ff,ff,ff,ff,ff,ff]) rfl npI (pure_move rfl) rfl (by kernel_rfl) rfl rfl ?_
 refine any_pure (i := 5) (listed' := [tt,tt,tt,tt,tt,tt,ff,ff,ff,ff,ff,ff]) rfl npI (pure_indexAddrN rfl rfl rfl (by omega)) rfl (by kernel_rfl) rfl rfl ?_
 refine any_load (i := 6) (listed' := [tt,tt,tt,tt,tt,tt,tt,ff,ff,ff,ff,ff]) rfl npI (load_a rfl rfl (hat _) hl) rfl (by kernel_rfl) rfl rfl ?_
 refine any_one (j := 7) (by kernel_rfl) ?_
 (refine one_imm (listed' := [tt,tt,tt,tt,tt,tt,tt,tt,ff,ff,ff,ff]) rfl rfl (ih ks[i] (List.getElem_mem (by omega)) _ _ _ (hvk i (by omega)) (Tm.smallL_mem hks _ (List.getElem_mem (by omega))) hre) rfl rfl rfl (fun v G3 hle3 hh => ?_); obtain ⟨cells', F', rfl, hs', hnd'⟩ := hh; rw [← hget i (by omega) (by omega)] at hs'; obtain ⟨qt, dt, et', qf, df, ef', q3, d3, es3, rfl, _⟩ := hs'.R.open)
 refine any_one (j := 8) (by kernel_rfl) ?_
 (refine one_step0 (listed' := [tt,tt,tt,tt,tt,tt,tt,tt,tt,ff,ff,ff]) rfl (step_buildSlice rfl rfl rfl (by omega) (by unfold maxLen; omega) rfl) rfl rfl ?_; rintro _ ⟨b210, rfl⟩)
 refine any_one (j := 9) (by kernel_rfl) ?_
 refine one_append (listed' := [tt,tt,tt,tt,tt,tt,tt,tt,tt,tt,ff,ff]) rfl rfl rfl rfl rfl rfl (fun _ _ => by repeat (first | exact Sw.here | apply Sw.there)) (at_slc_all (by repeat first | exact mH | apply mT)) rfl (by simp [Value.oneCell']) (by unfold maxLen; omega) (by omega) rfl rfl (by repeat (first | exact HmOk.nil | apply HmOk.dep (by decide +kernel) | apply HmOk.blk (by decide +kernel) (by repeat (first | exact Pk.here | apply Pk.there)) (by repeat first | exact mH | apply mT))) (fun pn' cn' => ?_)
 refine any_pure (i := 10) (listed' := [tt,tt,tt,tt,tt,tt,tt,tt,tt,tt,tt,ff]) rfl npI (pure_fieldAddr0 rfl) rfl (by kernel_rfl) rfl rfl ?_
 refine any_one (j := 11) (by kernel_rfl) ?_
 refine one_store (listed' := [tt,tt,tt,tt,tt,tt,tt,tt,tt,tt,tt,tt]) rfl rfl rfl rfl rfl rfl rfl rfl (by kernel_rfl) (by repeat first | exact Sw.here | apply Sw.there) (by rfl) ?_
 refine any_done (by kernel_rfl) ?_
 refine nrm_block (nrm_seq (tri_region (seq_pure (pure_move rfl) rfl rfl ?_)))
 refine seq_pure (pure_add rfl rfl (by omega) (by omega)) rfl rfl ?_
 refine seq_pure (pure_assign rfl) rfl rfl ?_
 refine seq_done (nrm_loopN (i + 1, pn', cn', es' ++ [[.int .i64 (mBareL ks)[i].k, .string (mBareL ks)[i].nm, .int .i64 (mBareL ks)[i].num, .int .i64 (mBareL ks)[i].ty.k, .slice qt (mBareL ks)[i].ty.ks.length dt, .int .i64 (mBareL ks)[i].fr.k, .slice qf (mBareL ks)[i].fr.ks.length df, .int .i64 (mBareL ks)[i].lb, .slice q3 (mBareL ks)[i].ks.length d3]], F ++ F', G3) ?_ ?_ ?_)
 (simp only [flat_snoc]; exact sub_mk (by repeat (first | exact SubE.nil | refine SubE.cons rfl ?_)) (by repeat (first | exact SubH.refl | exact SubH.nil | refine SubH.cons (by repeat (first | exact Pk.here | apply Pk.there)) ?_ | apply SubH.drop)))
 exact ⟨by omega, hle.trans hle3, STmL.step hst hnd hle hle3 (by omega) hs' hnd'⟩
 (show ks.length - (i + 1) < ks.length - i; omega)
 refine seq_done (nrm_seq (tri_cond_f rfl ?_))
 refine tri_exit ?_
 refine ext_seq ?_
 refine ext_loopN ?_
 refine ext_block_eq ?_
 refine nrm_seq (tri_seq (tri_region (seq_load (load_ba rfl rfl (by repeat first | exact mH | apply mT) (by rfl)) rfl rfl ?_)))
 refine seq_store rfl rfl rfl rfl rfl rfl (by repeat first | exact Sw.here | apply Sw.there) (by rfl) ?_
 refine seq_done (nrm_seq ?_)
 (refine ret_freeze (by repeat (first | exact Pk.here | apply Pk.there)) (fun G4 hle4 hsl4 hno4 => ?_); obtain rfl : i = ks.length := (by omega))
 refine tri_ret (ret_fin1 (res_cell rfl (load_ba rfl rfl (by repeat first | exact mH | apply mT) (by rfl))) ?_)
 (rw [← hlen, List.take_length] at hst; rw [← hlen] at hsl4 ⊢; obtain ⟨F3, hf1, hf2⟩ := STmS.fin hst hnd hle hle4 hsl4 hno4; rw [hB3]; exact ⟨rfl, _, F3, rfl, hf1.leaf hk hnum hxi, hf2⟩)
def mCountNodes (t : Tm) : Nat := if termValid t = true then tmCount t else 0
end Gw
end Go.Proofs.YtaoaeilognhfpaaDoor
namespace Go.Proofs.YtaoaeilognhfpaaDoor
open Go Go.RowKit
namespace Gw
variable {P : Program} {G : IM}
theorem Fn.look {f : FuncId} {args : List Value} {p : Option Addr} {c el sz n : Nat} {cs : List Value} {v : Value} (h : ∀ G1, IMle G G1 → Sl G1 p n c sz cs → Fn P f args [] G1 (Val v G1)) :
  Fn P f args [.slc p c el sz n cs] G (ValO v [.slc p c el sz n cs] G) := by
 refine ⟨fun w hw => ?_⟩
 obtain ⟨G1, hr, hsl, _⟩ := res_freeze hw
 refine ((h G1 hr.le hsl).run w hr.own).mono ?_
 rintro e w' ⟨u, G', outs, rfl, hres, rfl, rfl, rfl⟩
 have hsame : ∀ b ∈ Fp [Ent.slc p c el sz n cs], w'.heap[b]? = w.heap[b]? := fun b hb => hres.ext.block b (hw.lt b hb) (by simp [Fp])
 refine ⟨u, G, [.slc p c el sz n cs], rfl, ⟨⟨?_, ?_, hw.nodup, hw.disj⟩, ⟨hres.ext.os, hres.ext.tape, hres.ext.output, hres.ext.size, fun k hk _ => hres.ext.block k hk (by simp [Fp])⟩, IMle.refl _, fun _ _ h => .inl h, fun b hb => .inr hb, fun b l h h0 => absurd h (by rw [h0]; simp)⟩, rfl, rfl, rfl⟩
 ·intro b l hb
  exact hres.own.inn b l (hr.le b l hb)
 ·intro x hx
  exact Ent.ok_ext (hw.ok x hx) fun b hb => hsame b (by simp at hx; subst hx; simpa [Fp] using hb)
end Gw
end Go.Proofs.YtaoaeilognhfpaaDoor
namespace Go.Proofs.YtaoaeilognhfpaaDoor
open Go Go.RowKit
namespace Gw
/-- The cells of a code of n instructions. -/
def OpsO (x : List Value) (n : Nat) : Prop := ∃ ops : Opl, n = ops.length ∧ x = (ops.map opCells).flatten ∧ ∀ y ∈ ops, I64 y.1 ∧ I64 y.2
theorem OpsO.nil : OpsO [] 0 := ⟨[], rfl, rfl, by simp⟩
theorem OpsO.app {x y : List Value} {n m : Nat} (h : OpsO x n) (h' : OpsO y m) : OpsO (x ++ y) (n + m) := by
 obtain ⟨a, rfl, rfl, ha⟩ := h
 obtain ⟨b, rfl, rfl, hb⟩ := h'
 refine ⟨a ++ b, by simp, by simp, fun z hz => ?_⟩
 rcases List.mem_append.1 hz with hz | hz
 ·exact ha z hz
 ·exact hb z hz
theorem OpsO.one {a b : Int} (ha : I64 a) (hb : I64 b) : OpsO [.int .i64 a, .int .i64 b] 1 := ⟨[(a, b)], rfl, rfl, by simp; exact ⟨ha, hb⟩⟩
theorem OpsO.snoc {x : List Value} {n : Nat} {a b : Int} (h : OpsO x n) (ha : I64 a) (hb : I64 b) : OpsO (x ++ [.int .i64 a, .int .i64 b]) (n + 1) := h.app (.one ha hb)
theorem OpsO.len {x : List Value} {n : Nat} (h : OpsO x n) : x.length = n * 2 := by
 obtain ⟨a, rfl, rfl, _⟩ := h
 rw [flat_len (sz := 2) (by intro e he; obtain ⟨y, _, rfl⟩ := List.mem_map.1 he; rfl), List.length_map]
theorem OpsO.ones {x : List Value} {n : Nat} (h : OpsO x n) : ∀ u ∈ x, u.oneCell' = true := by
 obtain ⟨a, rfl, rfl, _⟩ := h
 intro u hu
 obtain ⟨e, he, hue⟩ := List.mem_flatten.1 hu
 obtain ⟨y, _, rfl⟩ := List.mem_map.1 he
 simp [opCells] at hue
 rcases hue with rfl | rfl <;> rfl
theorem OpsO.r {G : IM} {x : List Value} {p : Option Addr} {n c : Nat} (h : OpsO x n) (hs : Sl G p n c 2 x) : ∃ ops : Opl, ROps G ops p n c := by
 obtain ⟨a, rfl, rfl, ha⟩ := h
 refine ⟨a, SlE.of hs (by simp) ?_ ?_, rfl, ha⟩
 ·intro e he; obtain ⟨y, _, rfl⟩ := List.mem_map.1 he; rfl
 ·intro e he; obtain ⟨y, _, rfl⟩ := List.mem_map.1 he; rfl
theorem OpsO.take {x : List Value} {n k : Nat} (h : OpsO x n) (hk : k ≤ n) : OpsO (x.take (k * 2)) k := by
 obtain ⟨a, rfl, rfl, ha⟩ := h
 refine ⟨a.take k, by rw [List.length_take]; omega, ?_, fun y hy => ha y (List.mem_of_mem_take hy)⟩
 rw [flat_take k (by intro e he; obtain ⟨y, _, rfl⟩ := List.mem_map.1 he; rfl), List.map_take]
mutual
def cOk : Tm → Prop
 | .mk k nm _ _ _ _ ks => nm.size ≤ 1 ∧ (k = 5 → 1 ≤ ks.length) ∧ (k = 9 → 3 ≤ ks.length) ∧ cOkL ks
def cOkL : List Tm → Prop
 | [] => True
 | t :: ts => cOk t ∧ cOkL ts
end
theorem cOkL_mem : ∀ {ts : List Tm}, cOkL ts → ∀ t ∈ ts, cOk t
 | [], _, t, h => by simp at h
 | t' :: ts, h, t, ht => by
  simp only [cOkL] at h
  rcases List.mem_cons.1 ht with rfl | ht
  ·exact h.1
  ·exact cOkL_mem h.2 t ht
theorem tm0_cok : cOk tm0 := by simp [tm0, cOk, cOkL, ByteArray.size]
mutual
theorem bare_cok (D N : Int) : ∀ (t : Tm) (d : Int), sShape D N t d = true → cOk (mBare t)
 | .mk k nm num ty fr lb ks, d, h => by
  obtain ⟨_, _, h3, h4⟩ := sShape_go2 h
  have hL := bare_cokL D N ks _ h4
  have hn := node_name h3
  obtain ⟨ha, _⟩ := tmNode_iff.1 h3
  rw [mBare]
  split
  ·cases ks with
   | nil => simpa [mBareL] using tm0_cok
   | cons t ts =>
    simp only [mBareL, cOkL] at hL
    simpa [mBareL] using hL.1
  ·simp only [cOk]
   rw [mBareL_eq, List.length_map, ← mBareL_eq]
   refine ⟨hn, fun hk => ?_, fun hk => ?_, hL⟩
   ·subst hk; have : tmOps 5 = 1 := by decide
    omega
   ·subst hk; have : tmOps 9 = 3 := by decide
    omega
theorem bare_cokL (D N : Int) : ∀ (ts : List Tm) (d : Int), sShapeL D N ts d = true → cOkL (mBareL ts)
 | [], _, _ => by rw [mBareL]; trivial
 | t :: ts, d, h => by
  rw [sShapeL, Bool.and_eq_true] at h
  simp only [mBareL, cOkL]
  exact ⟨bare_cok D N t d h.1, bare_cokL D N ts d h.2⟩
end
theorem cnt3 {ks : List Tm} (h : 3 ≤ ks.length) : tmCount (ks[0]'(by omega)) + tmCount (ks[1]'(by omega)) + tmCount (ks[2]'(by omega)) ≤ tmCountL ks := by
 match ks, h with
 | a :: b :: c :: r, _ => simp only [tmCountL, List.getElem_cons_zero, List.getElem_cons_succ]; omega
theorem cnt1 {ks : List Tm} (h : 1 ≤ ks.length) : tmCount (ks[0]'(by omega)) ≤ tmCountL ks := by
 match ks, h with
 | a :: r, _ => simp only [tmCountL, List.getElem_cons_zero]; omega
/-- What a compiled term is. -/
def CompP (G : IM) (B : Nat) : IM → Value → List Ent → Prop := fun G' v outs => G' = G ∧ ∃ p n c x, v = .slice p n c ∧ outs = [.slc p c 34 2 n x] ∧ OpsO x n ∧ 1 ≤ n ∧ n ≤ B
theorem CompP.mk {G : IM} {B n c : Nat} {p : Option Addr} {x : List Value} (h : OpsO x n) (h1 : 1 ≤ n) (h2 : n ≤ B) : CompP G B G (.slice p n c) [.slc p c 34 2 n x] := ⟨rfl, p, n, c, x, rfl, rfl, h, h1, h2⟩
theorem ret_comp {P : Program} {Γ : Ctx} {env : Env} {hp h1 : List Ent} {G : IM} {r : ResultVar} {post : IM → Value → List Ent → Prop} {p : Option Addr} {n c : Nat} {x : List Value} (hr : ResOne P Γ ⟨env, hp, G⟩ r (.slice p n c)) (k1 : Pk hp (.slc p c 34 2 n x) h1)
  (h : post G (.slice p n c) [.slc p c 34 2 n x]) : retK P Γ [r] post .ret ⟨env, hp, G⟩ := ret_own1 hr (.cons k1 .nil) h
theorem i64_nat {n : Nat} (h : n ≤ 4294967296) : I64 (n : Int) := by unfold I64; omega
set_option maxHeartbeats 0 in
set_option maxRecDepth 100000 in
theorem l14Compile_fn : ∀ (t : Tm) (bd : ByteArray) (G : IM) (cells : List Value), cOk t → bd.size + tmCount t ≤ 1000 → RTm G t cells →
  Fn Tryd.prog 50 [.agg ⟨cells⟩, .string bd] [] G (CompP G (2 * tmCount t)) := by
 refine Tm.ind fun k nm num ty fr lb ks ih bd G cells hc hb hr => ?_
 simp only [cOk] at hc
 obtain ⟨hnm, hk5, hk9, hcL⟩ := hc
 have hcl := cOkL_mem hcL
 simp only [tmCount] at hb ⊢
 obtain ⟨tk, tks⟩ := ty
 obtain ⟨fk, fks⟩ := fr
 obtain ⟨pt, ct, pf, cf, p, c, es, rfl, hk, hnum, hlb, hty, hfr, hsl, hkl⟩ := hr.open9
 have hn := hsl.le
 refine fn_enter Tryd.func50 rfl Tryd.ntmps50 Tryd.results50 rfl ?_
 intro w0
 refine tri_seq (tri_region ?_)
 (refine seq_step (step_box_a rfl rfl) rfl ?_; rintro _ ⟨b3, rfl⟩)
 refine seq_pure (pure_assign rfl) rfl rfl ?_
 refine seq_done (nrm_seq (tri_seq (tri_seq (tri_region (seq_pure (pure_fieldAddr0 rfl) rfl rfl ?_)))))
 refine seq_load (load_bs rfl rfl (by repeat first | exact mH | apply mT) (by rfl)) rfl rfl ?_
 refine seq_done (nrm_seq (tri_block (tri_seq (tri_region (seq_bool (pure_eql rfl rfl) rfl rfl (fun h17 => ?_) (fun h17 => ?_))))))
 refine seq_pure (pure_assign rfl) rfl rfl ?_
 refine seq_done (nrm_seq (tri_cond_t rfl ?_))
 refine tri_seq (tri_region (seq_pure (pure_move rfl) rfl rfl ?_))
 refine seq_pure (pure_fieldAddr0 rfl) rfl rfl ?_
 refine seq_load (load_bs rfl rfl (by repeat first | exact mH | apply mT) (by rfl)) rfl rfl ?_
 (refine seq_take rfl (l14Index_fn _ _ _ (by omega)) (List.Perm.refl _) rfl rfl (fun v G1 outs hle1 hh => ?_); obtain ⟨hG, rfl, ix, rfl, hix⟩ := hh; replace hG := hG.symm; subst hG)
 refine seq_pure (pure_build rfl rfl) rfl rfl ?_
 (refine seq_step (step_buildSlice rfl rfl rfl (by omega) (by unfold maxLen; omega) rfl) rfl ?_; rintro _ ⟨b29, rfl⟩)
 refine seq_pure (pure_assign rfl) rfl rfl ?_
 refine seq_done (nrm_seq (tri_ret (ret_block (ret_seq (ret_comp (res_tmp rfl) (by repeat (first | exact Pk.here | apply Pk.there)) ?_)))))
 (exact CompP.mk (.one ⟨by decide, by decide⟩ hix) (by omega) (by omega))
 refine seq_pure (pure_assign rfl) rfl rfl ?_
 refine seq_done (nrm_seq (tri_cond_f rfl ?_))
 refine tri_seq (tri_region (seq_bool (pure_eql rfl rfl) rfl rfl (fun h44 => ?_) (fun h44 => ?_)))
 refine seq_pure (pure_assign rfl) rfl rfl ?_
 refine seq_done (nrm_seq (tri_cond_t rfl ?_))
 refine tri_seq (tri_region (seq_pure (pure_fieldAddr0 rfl) rfl rfl ?_))
 refine seq_load (load_bs rfl rfl (by repeat first | exact mH | apply mT) (by rfl)) rfl rfl ?_
 refine seq_pure (pure_build rfl rfl) rfl rfl ?_
 (refine seq_step (step_buildSlice rfl rfl rfl (by omega) (by unfold maxLen; omega) rfl) rfl ?_; rintro _ ⟨b54, rfl⟩)
 refine seq_pure (pure_assign rfl) rfl rfl ?_
 refine seq_done (nrm_seq (tri_ret (ret_block (ret_seq (ret_comp (res_tmp rfl) (by repeat (first | exact Pk.here | apply Pk.there)) ?_)))))
 (exact CompP.mk (.one ⟨by decide, by decide⟩ hnum) (by omega) (by omega))
 refine seq_pure (pure_assign rfl) rfl rfl ?_
 refine seq_done (nrm_seq (tri_cond_f rfl ?_))
 refine tri_seq (tri_region (seq_bool (pure_eql rfl rfl) rfl rfl (fun h69 => ?_) (fun h69 => ?_)))
 refine seq_pure (pure_assign rfl) rfl rfl ?_
 refine seq_done (nrm_seq (tri_cond_t rfl ?_))
 refine tri_seq (tri_region (seq_pure (pure_build rfl rfl) rfl rfl ?_))
 (refine seq_step (step_buildSlice rfl rfl rfl (by omega) (by unfold maxLen; omega) rfl) rfl ?_; rintro _ ⟨b77, rfl⟩)
 refine seq_pure (pure_assign rfl) rfl rfl ?_
 refine seq_done (nrm_seq (tri_ret (ret_block (ret_seq (ret_comp (res_tmp rfl) (by repeat (first | exact Pk.here | apply Pk.there)) ?_)))))
 (exact CompP.mk (.one ⟨by decide, by decide⟩ ⟨by decide, by decide⟩) (by omega) (by omega))
 refine seq_pure (pure_assign rfl) rfl rfl ?_
 refine seq_done (nrm_seq (tri_cond_f rfl ?_))
 refine tri_seq (tri_region (seq_bool (pure_eql rfl rfl) rfl rfl (fun h92 => ?_) (fun h92 => ?_)))
 refine seq_pure (pure_assign rfl) rfl rfl ?_
 refine seq_done (nrm_seq (tri_cond_t rfl ?_))
 refine tri_seq (tri_region (seq_pure (pure_build rfl rfl) rfl rfl ?_))
 (refine seq_step (step_buildSlice rfl rfl rfl (by omega) (by unfold maxLen; omega) rfl) rfl ?_; rintro _ ⟨b100, rfl⟩)
 refine seq_pure (pure_assign rfl) rfl rfl ?_
 refine seq_done (nrm_seq (tri_ret (ret_block (ret_seq (ret_comp (res_tmp rfl) (by repeat (first | exact Pk.here | apply Pk.there)) ?_)))))
 (exact CompP.mk (.one ⟨by decide, by decide⟩ ⟨by decide, by decide⟩) (by omega) (by omega))
 refine seq_pure (pure_assign rfl) rfl rfl ?_
 refine seq_done (nrm_seq (tri_cond_f rfl ?_))
 refine tri_seq (tri_region (seq_bool (pure_eql rfl rfl) rfl rfl (fun h115 => ?_) (fun h115 => ?_)))
 refine seq_pure (pure_assign rfl) rfl rfl ?_
 refine seq_done (nrm_seq (tri_cond_t rfl ?_))
 refine tri_seq ?_
 (have hq : k = 5 := (by omega); have hq1 := hk5 hq; have hcn := cnt1 hq1; obtain ⟨bx, ox, e, rfl, hl, hat, hre, hgb⟩ := hsl.kidTm hkl (i := 0) (by omega) (by omega); refine tri_draw mixed rfl ?_)
 refine any_pure (i := 0) (listed' := [tt,ff,ff,ff,ff,ff,ff,ff,ff,ff,ff,ff,ff]) rfl npI (pure_fieldAddr0 rfl) rfl (by kernel_rfl) rfl rfl ?_
 refine any_load (i := 1) (listed' := [tt,tt,ff,ff,ff,ff,ff,ff,ff,ff,ff,ff,ff]) rfl npI (load_bs rfl rfl (by repeat first | exact mH | apply mT) (by rfl)) rfl (by kernel_rfl) rfl rfl ?_
 refine any_pure (i := 2) (listed' := [tt,tt,tt,ff,ff,ff,ff,ff,ff,ff,ff,ff,ff]) rfl npI (pure_indexAddrN (j := 0) rfl rfl rfl (by omega)) rfl (by kernel_rfl) rfl rfl ?_
 refine any_load (i := 3) (listed' := [tt,tt,tt,tt,ff,ff,ff,ff,ff,ff,ff,ff,ff]) rfl npI (load_a rfl rfl (hat _) hl) rfl (by kernel_rfl) rfl rfl ?_
 refine any_pure (i := 4) (listed' := [tt,tt,tt,tt,tt,ff,ff,ff,ff,ff,ff,ff,ff]) rfl npI (pure_move rfl) rfl (by kernel_rfl) rfl rfl ?_
 refine any_pure (i := 5) (listed' := [tt,tt,tt,tt,tt,tt,ff,ff,ff,ff,ff,ff,ff]) rfl npI (pure_fieldAddr0 rfl) rfl (by kernel_rfl) rfl rfl ?_
 refine any_load (i := 6) (listed' := [tt,tt,tt,tt,tt,tt,tt,ff,ff,ff,ff,ff,ff]) rfl npI (load_bs rfl rfl (by repeat first | exact mH | apply mT) (by rfl)) rfl (by kernel_rfl) rfl rfl ?_
 refine any_pure (i := 7) (listed' := [tt,tt,tt,tt,tt,tt,tt,tt,ff,ff,ff,ff,ff]) rfl npI (pure_cat rfl rfl (by omega)) rfl (by kernel_rfl) rfl rfl ?_
 refine any_pure (i := 9) (listed' := [tt,tt,tt,tt,tt,tt,tt,tt,ff,tt,ff,ff,ff]) rfl npI (pure_build rfl rfl) rfl (by kernel_rfl) rfl rfl ?_
 refine any_two (j := 8) (j' := 10) (by kernel_rfl) ?_ ?_
 (refine one_takeD (listed' := [tt,tt,tt,tt,tt,tt,tt,tt,tt,tt,ff,ff,ff]) rfl rfl (ih ks[0] (List.getElem_mem (by omega)) (bd ++ nm) G _ (hcl _ (List.getElem_mem (by omega))) (by rw [ByteArray.size_append]; omega) hre) (List.Perm.refl _) rfl rfl rfl (by kernel_rfl) (fun v G3 outs hle3 hh => ?_); obtain ⟨hG, p3, n3, c3, x3, rfl, rfl, ho3, h31, h32⟩ := hh; replace hG := hG.symm; subst hG; refine any_know (fun a w hs => (hs.slc_form (p := p3) (c := c3) (el := 34) (sz := 2) (n := n3) (cs := x3) (by repeat first | exact mH | apply mT)).2.2 (by omega)) (fun hq => ?_); obtain ⟨g3, rfl⟩ := hq)
 refine any_one (j := 10) (by kernel_rfl) ?_
 (refine one_step0 (listed' := [tt,tt,tt,tt,tt,tt,tt,tt,tt,tt,tt,ff,ff]) rfl (step_buildSlice rfl rfl rfl (by omega) (by unfold maxLen; omega) rfl) rfl rfl ?_; rintro _ ⟨b134, rfl⟩)
 refine any_one (j := 11) (by kernel_rfl) ?_
 (refine one_append (listed' := [tt,tt,tt,tt,tt,tt,tt,tt,tt,tt,tt,tt,ff]) rfl rfl rfl rfl rfl rfl (fun _ _ => by repeat (first | exact Sw.here | apply Sw.there)) (at_slc_all (by repeat first | exact mH | apply mT)) rfl (by simp [Value.oneCell']) (by unfold maxLen; omega) (by omega) rfl rfl (by repeat (first | exact HmOk.nil | apply HmOk.dep (by decide +kernel) | apply HmOk.im (by decide +kernel) (by assumption) (by repeat first | exact mH | apply mT) | apply HmOk.blk (by decide +kernel) (by repeat (first | exact Pk.here | apply Pk.there)) (by repeat first | exact mH | apply mT))) (fun p7 c7 => ?_); refine any_know (fun a w hs => (hs.slc_form (p := p7) (c := c7) (el := 34) (sz := 2) (n := n3 + 1) (by repeat first | exact mH | apply mT)).2.2 (by omega)) (fun hq => ?_); obtain ⟨g7, rfl⟩ := hq; have ho7 := ho3.snoc (a := 5) (b := 0) ⟨by decide, by decide⟩ ⟨by decide, by decide⟩)
 refine any_pure (i := 12) (listed' := [tt,tt,tt,tt,tt,tt,tt,tt,tt,tt,tt,tt,tt]) rfl npI (pure_assign rfl) rfl (by kernel_rfl) rfl rfl ?_
 refine any_done (by kernel_rfl) ?_
 refine nrm_seq (tri_seq (tri_region (seq_pure (pure_move rfl) rfl rfl ?_)))
 refine seq_pure (pure_len rfl rfl) rfl rfl ?_
 refine seq_pure (pure_build rfl rfl) rfl rfl ?_
 (refine seq_step (step_buildSlice rfl rfl rfl (by omega) (by unfold maxLen; omega) rfl) rfl ?_; rintro _ ⟨b145, rfl⟩)
 refine seq_pure (pure_move rfl) rfl rfl ?_
 (refine seq_append rfl rfl rfl rfl rfl (fun _ _ => by repeat (first | exact Sw.here | apply Sw.there)) (at_slc_all (by repeat first | exact mH | apply mT)) ho7.len ho7.ones (by unfold maxLen; omega) (by omega) rfl (fun pn cn => ?_))
 refine seq_pure (pure_assign rfl) rfl rfl ?_
 refine seq_done (nrm_seq (tri_ret (ret_block (ret_seq (ret_comp (res_tmp rfl) (by repeat (first | exact Pk.here | apply Pk.there)) ?_)))))
 (exact CompP.mk ((OpsO.one ⟨by decide, by decide⟩ (i64_nat (by omega))).app ho7) (by omega) (by omega))
 (refine one_step0 (listed' := [tt,tt,tt,tt,tt,tt,tt,tt,ff,tt,tt,ff,ff]) rfl (step_buildSlice rfl rfl rfl (by omega) (by unfold maxLen; omega) rfl) rfl rfl ?_; rintro _ ⟨b156, rfl⟩)
 refine any_one (j := 8) (by kernel_rfl) ?_
 (refine one_takeD (listed' := [tt,tt,tt,tt,tt,tt,tt,tt,tt,tt,tt,ff,ff]) rfl rfl (ih ks[0] (List.getElem_mem (by omega)) (bd ++ nm) G _ (hcl _ (List.getElem_mem (by omega))) (by rw [ByteArray.size_append]; omega) hre) (List.Perm.refl _) rfl rfl rfl (by kernel_rfl) (fun v G3 outs hle3 hh => ?_); obtain ⟨hG, p3, n3, c3, x3, rfl, rfl, ho3, h31, h32⟩ := hh; replace hG := hG.symm; subst hG; refine any_know (fun a w hs => (hs.slc_form (p := p3) (c := c3) (el := 34) (sz := 2) (n := n3) (cs := x3) (by repeat first | exact mH | apply mT)).2.2 (by omega)) (fun hq => ?_); obtain ⟨g3, rfl⟩ := hq)
 refine any_one (j := 11) (by kernel_rfl) ?_
 (refine one_append (listed' := [tt,tt,tt,tt,tt,tt,tt,tt,tt,tt,tt,tt,ff]) rfl rfl rfl rfl rfl rfl (fun _ _ => by repeat (first | exact Sw.here | apply Sw.there)) (at_slc_all (by repeat first | exact mH | apply mT)) rfl (by simp [Value.oneCell']) (by unfold maxLen; omega) (by omega) rfl rfl (by repeat (first | exact HmOk.nil | apply HmOk.dep (by decide +kernel) | apply HmOk.im (by decide +kernel) (by assumption) (by repeat first | exact mH | apply mT) | apply HmOk.blk (by decide +kernel) (by repeat (first | exact Pk.here | apply Pk.there)) (by repeat first | exact mH | apply mT))) (fun p7 c7 => ?_); refine any_know (fun a w hs => (hs.slc_form (p := p7) (c := c7) (el := 34) (sz := 2) (n := n3 + 1) (by repeat first | exact mH | apply mT)).2.2 (by omega)) (fun hq => ?_); obtain ⟨g7, rfl⟩ := hq; have ho7 := ho3.snoc (a := 5) (b := 0) ⟨by decide, by decide⟩ ⟨by decide, by decide⟩)
 refine any_pure (i := 12) (listed' := [tt,tt,tt,tt,tt,tt,tt,tt,tt,tt,tt,tt,tt]) rfl npI (pure_assign rfl) rfl (by kernel_rfl) rfl rfl ?_
 refine any_done (by kernel_rfl) ?_
 refine nrm_seq (tri_seq (tri_region (seq_pure (pure_move rfl) rfl rfl ?_)))
 refine seq_pure (pure_len rfl rfl) rfl rfl ?_
 refine seq_pure (pure_build rfl rfl) rfl rfl ?_
 (refine seq_step (step_buildSlice rfl rfl rfl (by omega) (by unfold maxLen; omega) rfl) rfl ?_; rintro _ ⟨b169, rfl⟩)
 refine seq_pure (pure_move rfl) rfl rfl ?_
 (refine seq_append rfl rfl rfl rfl rfl (fun _ _ => by repeat (first | exact Sw.here | apply Sw.there)) (at_slc_all (by repeat first | exact mH | apply mT)) ho7.len ho7.ones (by unfold maxLen; omega) (by omega) rfl (fun pn cn => ?_))
 refine seq_pure (pure_assign rfl) rfl rfl ?_
 refine seq_done (nrm_seq (tri_ret (ret_block (ret_seq (ret_comp (res_tmp rfl) (by repeat (first | exact Pk.here | apply Pk.there)) ?_)))))
 (exact CompP.mk ((OpsO.one ⟨by decide, by decide⟩ (i64_nat (by omega))).app ho7) (by omega) (by omega))
 refine seq_pure (pure_assign rfl) rfl rfl ?_
 refine seq_done (nrm_seq (tri_cond_f rfl ?_))
 refine tri_seq (tri_region (seq_bool (pure_eql rfl rfl) rfl rfl (fun h186 => ?_) (fun h186 => ?_)))
 refine seq_pure (pure_assign rfl) rfl rfl ?_
 refine seq_done (nrm_seq (tri_cond_t rfl ?_))
 refine tri_seq ?_
 (have hq : k = 9 := (by omega); have hq1 := hk9 hq; have hcn := cnt3 hq1; obtain ⟨bx, ox, e0, rfl, hl0, hat0, hre0, hgb0⟩ := hsl.kidTm hkl (i := 0) (by omega) (by omega); obtain ⟨_, _, e1, hp1, hl1, hat1, hre1, hgb1⟩ := hsl.kidTm hkl (i := 1) (by omega) (by omega); cases hp1; obtain ⟨_, _, e2, hp2, hl2, hat2, hre2, hgb2⟩ := hsl.kidTm hkl (i := 2) (by omega) (by omega); cases hp2)
 refine tri_region (seq_pure (pure_fieldAddr0 rfl) rfl rfl ?_)
 refine seq_load (load_bs rfl rfl (by repeat first | exact mH | apply mT) (by rfl)) rfl rfl ?_
 refine seq_pure (pure_indexAddrN (j := 1) rfl rfl rfl (by omega)) rfl rfl ?_
 refine seq_load (load_a rfl rfl (hat1 _) hl1) rfl rfl ?_
 refine seq_pure (pure_move rfl) rfl rfl ?_
 (refine seq_take rfl (ih ks[1] (List.getElem_mem (by omega)) bd G _ (hcl _ (List.getElem_mem (by omega))) (by omega) hre1) (List.Perm.refl _) rfl rfl (fun v G3 outs hle3 hh => ?_); obtain ⟨hG, p4, n4, c4, x4, rfl, rfl, ho4, h41, h42⟩ := hh; replace hG := hG.symm; subst hG; refine triL_know (fun a w hs => (hs.slc_form (p := p4) (c := c4) (el := 34) (sz := 2) (n := n4) (cs := x4) (by repeat first | exact mH | apply mT)).2.2 (by omega)) (fun hq => ?_); obtain ⟨g4, rfl⟩ := hq)
 refine seq_pure (pure_assign rfl) rfl rfl ?_
 refine seq_done (nrm_seq (tri_seq (tri_region (seq_pure (pure_fieldAddr0 rfl) rfl rfl ?_))))
 refine seq_load (load_bs rfl rfl (by repeat first | exact mH | apply mT) (by rfl)) rfl rfl ?_
 refine seq_pure (pure_indexAddrN (j := 2) rfl rfl rfl (by omega)) rfl rfl ?_
 refine seq_load (load_a rfl rfl (hat2 _) hl2) rfl rfl ?_
 refine seq_pure (pure_move rfl) rfl rfl ?_
 (refine seq_take rfl (ih ks[2] (List.getElem_mem (by omega)) bd G _ (hcl _ (List.getElem_mem (by omega))) (by omega) hre2) (List.Perm.refl _) rfl rfl (fun v G3 outs hle3 hh => ?_); obtain ⟨hG, p5, n5, c5, x5, rfl, rfl, ho5, h51, h52⟩ := hh; replace hG := hG.symm; subst hG; refine triL_know (fun a w hs => (hs.slc_form (p := p5) (c := c5) (el := 34) (sz := 2) (n := n5) (cs := x5) (by repeat first | exact mH | apply mT)).2.2 (by omega)) (fun hq => ?_); obtain ⟨g5, rfl⟩ := hq)
 refine seq_pure (pure_assign rfl) rfl rfl ?_
 refine seq_done (nrm_seq (tri_seq (tri_region (seq_pure (pure_fieldAddr0 rfl) rfl rfl ?_))))
 refine seq_load (load_bs rfl rfl (by repeat first | exact mH | apply mT) (by rfl)) rfl rfl ?_
 refine seq_pure (pure_indexAddrN (j := 0) rfl rfl rfl (by omega)) rfl rfl ?_
 refine seq_load (load_a rfl rfl (hat0 _) hl0) rfl rfl ?_
 refine seq_pure (pure_move rfl) rfl rfl ?_
 (refine seq_take rfl (ih ks[0] (List.getElem_mem (by omega)) bd G _ (hcl _ (List.getElem_mem (by omega))) (by omega) hre0) (List.Perm.refl _) rfl rfl (fun v G3 outs hle3 hh => ?_); obtain ⟨hG, p3, n3, c3, x3, rfl, rfl, ho3, h31, h32⟩ := hh; replace hG := hG.symm; subst hG; refine triL_know (fun a w hs => (hs.slc_form (p := p3) (c := c3) (el := 34) (sz := 2) (n := n3) (cs := x3) (by repeat first | exact mH | apply mT)).2.2 (by omega)) (fun hq => ?_); obtain ⟨g3, rfl⟩ := hq)
 refine seq_pure (pure_move rfl) rfl rfl ?_
 refine seq_pure (pure_len rfl rfl) rfl rfl ?_
 refine seq_pure (pure_add rfl rfl (by omega) (by omega)) rfl rfl ?_
 refine seq_pure (pure_build rfl rfl) rfl rfl ?_
 (refine seq_step (step_buildSlice rfl rfl rfl (by omega) (by unfold maxLen; omega) rfl) rfl ?_; rintro _ ⟨b226, rfl⟩)
 (refine seq_append rfl rfl rfl rfl rfl (fun _ _ => by repeat (first | exact Sw.here | apply Sw.there)) (at_slc_all (by repeat first | exact mH | apply mT)) rfl (by simp [Value.oneCell']) (by unfold maxLen; omega) (by omega) rfl (fun pn cn => ?_))
 refine seq_pure (pure_assign rfl) rfl rfl ?_
 refine seq_done (nrm_seq (tri_seq (tri_region (seq_pure (pure_move rfl) rfl rfl ?_))))
 refine seq_pure (pure_move rfl) rfl rfl ?_
 (refine seq_append rfl rfl rfl rfl rfl (fun _ _ => by repeat (first | exact Sw.here | apply Sw.there)) (at_slc_all (by repeat first | exact mH | apply mT)) ho4.len ho4.ones (by unfold maxLen; omega) (by omega) rfl (fun pn cn => ?_))
 refine seq_pure (pure_move rfl) rfl rfl ?_
 refine seq_pure (pure_len rfl rfl) rfl rfl ?_
 refine seq_pure (pure_build rfl rfl) rfl rfl ?_
 (refine seq_step (step_buildSlice rfl rfl rfl (by omega) (by unfold maxLen; omega) rfl) rfl ?_; rintro _ ⟨b239, rfl⟩)
 (refine seq_append rfl rfl rfl rfl rfl (fun _ _ => by repeat (first | exact Sw.here | apply Sw.there)) (at_slc_all (by repeat first | exact mH | apply mT)) rfl (by simp [Value.oneCell']) (by unfold maxLen; omega) (by omega) rfl (fun pn cn => ?_))
 refine seq_pure (pure_assign rfl) rfl rfl ?_
 refine seq_done (nrm_seq (tri_seq (tri_region (seq_pure (pure_move rfl) rfl rfl ?_))))
 refine seq_pure (pure_move rfl) rfl rfl ?_
 (refine seq_append rfl rfl rfl rfl rfl (fun _ _ => by repeat (first | exact Sw.here | apply Sw.there)) (at_slc_all (by repeat first | exact mH | apply mT)) ho5.len ho5.ones (by unfold maxLen; omega) (by omega) rfl (fun pn cn => ?_))
 refine seq_pure (pure_assign rfl) rfl rfl ?_
 refine seq_done (nrm_seq (tri_ret (ret_block (ret_seq (ret_comp (res_tmp rfl) (by repeat (first | exact Pk.here | apply Pk.there)) ?_)))))
 (exact CompP.mk ((((ho3.snoc ⟨by decide, by decide⟩ (i64_nat (n := n4 + 1) (by omega))).app ho4).snoc ⟨by decide, by decide⟩ (i64_nat (n := n5) (by omega))).app ho5) (by omega) (by omega))
 refine seq_pure (pure_assign rfl) rfl rfl ?_
 refine seq_done (nrm_seq (tri_cond_f rfl ?_))
 refine tri_skip (nrm_block (nrm_seq (tri_seq (tri_region ?_))))
 (refine seq_step (step_buildSlice rfl rfl rfl (by omega) (by unfold maxLen; omega) rfl) rfl ?_; rintro _ ⟨b266, rfl⟩)
 refine seq_pure (pure_assign rfl) rfl rfl ?_
 refine seq_done (nrm_seq (tri_seq (tri_seq (tri_region (seq_pure (pure_assign rfl) rfl rfl ?_)))))
 refine seq_done (nrm_seq (tri_block ?_))
 (refine tri_loopN (fun (x : Nat × Option Addr × Nat × Nat × List Value) => ⟨[(10, .int .i64 (x.1 : Int)), (9, .slice x.2.1 x.2.2.1 x.2.2.2.1), (2, .pointer (some ⟨b3, 0, none⟩)), (1, .string bd)], [.slc x.2.1 x.2.2.2.1 34 2 x.2.2.1 x.2.2.2.2, .blk b3 [.int .i64 k, .string nm, .int .i64 num, .int .i64 tk, .slice pt tks.length ct, .int .i64 fk, .slice pf fks.length cf, .int .i64 lb, .slice p ks.length c]], G⟩) (fun x => x.1 ≤ ks.length ∧ OpsO x.2.2.2.2 x.2.2.1 ∧ x.2.2.1 ≤ 2 * tmCountL (ks.take x.1)) (fun x => ks.length - x.1) (0, some ⟨b266, 0, none⟩, 0, 0, []) ?_ ?_ ?_)
 (simp only [flat_snoc]; exact sub_mk (by repeat (first | exact SubE.nil | refine SubE.cons rfl ?_)) (by repeat (first | exact SubH.refl | exact SubH.nil | refine SubH.cons (by repeat (first | exact Pk.here | apply Pk.there)) ?_ | apply SubH.drop)))
 (exact ⟨Nat.zero_le _, OpsO.nil, Nat.zero_le _⟩)
 (rintro ⟨i, pO, nO, cO, xO⟩ ⟨hi, hoO, hnO⟩; simp only [] at hi hoO hnO ⊢; have hct := cntL_takeLe ks (i + 1); have hct0 := cntL_takeLe ks i)
 refine tri_seq (tri_seq (tri_region (seq_pure (pure_move rfl) rfl rfl ?_)))
 refine seq_pure (pure_fieldAddr0 rfl) rfl rfl ?_
 refine seq_load (load_bs rfl rfl (by repeat first | exact mH | apply mT) (by rfl)) rfl rfl ?_
 refine seq_pure (pure_len rfl rfl) rfl rfl ?_
 refine seq_bool (pure_lss rfl rfl) rfl rfl (fun h288 => ?_) (fun h288 => ?_)
 refine seq_done (nrm_seq (tri_cond_t rfl ?_))
 refine tri_skip (nrm_seq (tri_seq (tri_block ?_)))
 (have hil : i < ks.length := (by omega); obtain ⟨bx, ox, e, rfl, hl, hat, hre, hgb⟩ := hsl.kidTm hkl (i := i) (by omega) (by omega); rw [cntL_take (by omega)] at hct)
 refine tri_region (seq_pure (pure_move rfl) rfl rfl ?_)
 refine seq_pure (pure_fieldAddr0 rfl) rfl rfl ?_
 refine seq_load (load_bs rfl rfl (by repeat first | exact mH | apply mT) (by rfl)) rfl rfl ?_
 refine seq_pure (pure_move rfl) rfl rfl ?_
 refine seq_pure (pure_indexAddrN (j := i) rfl rfl rfl (by omega)) rfl rfl ?_
 refine seq_load (load_a rfl rfl (hat _) hl) rfl rfl ?_
 refine seq_pure (pure_move rfl) rfl rfl ?_
 (refine seq_take rfl (ih ks[i] (List.getElem_mem (by omega)) bd G _ (hcl _ (List.getElem_mem (by omega))) (by omega) hre) (List.Perm.refl _) rfl rfl (fun v G3 outs hle3 hh => ?_); obtain ⟨hG, p6, n6, c6, x6, rfl, rfl, ho6, h61, h62⟩ := hh; replace hG := hG.symm; subst hG; refine triL_know (fun a w hs => (hs.slc_form (p := p6) (c := c6) (el := 34) (sz := 2) (n := n6) (cs := x6) (by repeat first | exact mH | apply mT)).2.2 (by omega)) (fun hq => ?_); obtain ⟨g6, rfl⟩ := hq)
 (refine seq_append rfl rfl rfl rfl rfl (fun _ _ => by repeat (first | exact Sw.here | apply Sw.there)) (at_slc_all (by repeat first | exact mH | apply mT)) ho6.len ho6.ones (by unfold maxLen; omega) (by omega) rfl (fun pn cn => ?_))
 refine seq_pure (pure_assign rfl) rfl rfl ?_
 refine seq_done (nrm_block (nrm_seq (tri_region (seq_pure (pure_move rfl) rfl rfl ?_))))
 refine seq_pure (pure_add rfl rfl (by omega) (by omega)) rfl rfl ?_
 refine seq_pure (pure_assign rfl) rfl rfl ?_
 refine seq_done (nrm_loopN (i + 1, pn, nO + n6, cn, xO ++ x6) ?_ ?_ ?_)
 (simp only [flat_snoc]; exact sub_mk (by repeat (first | exact SubE.nil | refine SubE.cons rfl ?_)) (by repeat (first | exact SubH.refl | exact SubH.nil | refine SubH.cons (by repeat (first | exact Pk.here | apply Pk.there)) ?_ | apply SubH.drop)))
 (dsimp only; exact ⟨by omega, hoO.app ho6, by rw [cntL_take (by omega)]; omega⟩)
 (show ks.length - (i + 1) < ks.length - i; omega)
 refine seq_done (nrm_seq (tri_cond_f rfl ?_))
 refine tri_exit ?_
 refine ext_seq ?_
 refine ext_loopN ?_
 refine ext_block_eq ?_
 refine nrm_seq (tri_seq (tri_seq (tri_region (seq_pure (pure_fieldAddr0 rfl) rfl rfl ?_))))
 refine seq_load (load_bs rfl rfl (by repeat first | exact mH | apply mT) (by rfl)) rfl rfl ?_
 refine seq_done (nrm_seq (tri_block (tri_seq (tri_region (seq_bool (pure_eql rfl rfl) rfl rfl (fun h338 => ?_) (fun h338 => ?_))))))
 refine seq_pure (pure_assign rfl) rfl rfl ?_
 refine seq_done (nrm_seq (tri_cond_t rfl ?_))
 refine tri_seq (tri_region (seq_pure (pure_move rfl) rfl rfl ?_))
 refine seq_pure (pure_build rfl rfl) rfl rfl ?_
 (refine seq_step (step_buildSlice rfl rfl rfl (by omega) (by unfold maxLen; omega) rfl) rfl ?_; rintro _ ⟨b347, rfl⟩)
 (refine seq_append rfl rfl rfl rfl rfl (fun _ _ => by repeat (first | exact Sw.here | apply Sw.there)) (at_slc_all (by repeat first | exact mH | apply mT)) rfl (by simp [Value.oneCell']) (by unfold maxLen; omega) (by omega) rfl (fun pn cn => ?_))
 refine seq_pure (pure_assign rfl) rfl rfl ?_
 refine seq_done (nrm_seq (tri_ret (ret_block (ret_seq (ret_comp (res_tmp rfl) (by repeat (first | exact Pk.here | apply Pk.there)) ?_)))))
 (exact CompP.mk (hoO.snoc ⟨by decide, by decide⟩ ⟨by decide, by decide⟩) (by omega) (by omega))
 refine seq_pure (pure_assign rfl) rfl rfl ?_
 refine seq_done (nrm_seq (tri_cond_f rfl ?_))
 refine tri_seq (tri_region (seq_bool (pure_eql rfl rfl) rfl rfl (fun h363 => ?_) (fun h363 => ?_)))
 refine seq_pure (pure_assign rfl) rfl rfl ?_
 refine seq_done (nrm_seq (tri_cond_t rfl ?_))
 refine tri_seq (tri_region (seq_pure (pure_move rfl) rfl rfl ?_))
 refine seq_pure (pure_build rfl rfl) rfl rfl ?_
 (refine seq_step (step_buildSlice rfl rfl rfl (by omega) (by unfold maxLen; omega) rfl) rfl ?_; rintro _ ⟨b372, rfl⟩)
 (refine seq_append rfl rfl rfl rfl rfl (fun _ _ => by repeat (first | exact Sw.here | apply Sw.there)) (at_slc_all (by repeat first | exact mH | apply mT)) rfl (by simp [Value.oneCell']) (by unfold maxLen; omega) (by omega) rfl (fun pn cn => ?_))
 refine seq_pure (pure_assign rfl) rfl rfl ?_
 refine seq_done (nrm_seq (tri_ret (ret_block (ret_seq (ret_comp (res_tmp rfl) (by repeat (first | exact Pk.here | apply Pk.there)) ?_)))))
 (exact CompP.mk (hoO.snoc ⟨by decide, by decide⟩ ⟨by decide, by decide⟩) (by omega) (by omega))
 refine seq_pure (pure_assign rfl) rfl rfl ?_
 refine seq_done (nrm_seq (tri_cond_f rfl ?_))
 refine tri_seq (tri_region (seq_bool (pure_eql rfl rfl) rfl rfl (fun h388 => ?_) (fun h388 => ?_)))
 refine seq_pure (pure_assign rfl) rfl rfl ?_
 refine seq_done (nrm_seq (tri_cond_t rfl ?_))
 refine tri_seq (tri_region (seq_pure (pure_move rfl) rfl rfl ?_))
 refine seq_pure (pure_build rfl rfl) rfl rfl ?_
 (refine seq_step (step_buildSlice rfl rfl rfl (by omega) (by unfold maxLen; omega) rfl) rfl ?_; rintro _ ⟨b397, rfl⟩)
 (refine seq_append rfl rfl rfl rfl rfl (fun _ _ => by repeat (first | exact Sw.here | apply Sw.there)) (at_slc_all (by repeat first | exact mH | apply mT)) rfl (by simp [Value.oneCell']) (by unfold maxLen; omega) (by omega) rfl (fun pn cn => ?_))
 refine seq_pure (pure_assign rfl) rfl rfl ?_
 refine seq_done (nrm_seq (tri_ret (ret_block (ret_seq (ret_comp (res_tmp rfl) (by repeat (first | exact Pk.here | apply Pk.there)) ?_)))))
 (exact CompP.mk (hoO.snoc ⟨by decide, by decide⟩ ⟨by decide, by decide⟩) (by omega) (by omega))
 refine seq_pure (pure_assign rfl) rfl rfl ?_
 refine seq_done (nrm_seq (tri_cond_f rfl ?_))
 refine tri_seq (tri_region (seq_bool (pure_eql rfl rfl) rfl rfl (fun h413 => ?_) (fun h413 => ?_)))
 refine seq_pure (pure_assign rfl) rfl rfl ?_
 refine seq_done (nrm_seq (tri_cond_t rfl ?_))
 refine tri_seq (tri_region (seq_pure (pure_move rfl) rfl rfl ?_))
 refine seq_pure (pure_build rfl rfl) rfl rfl ?_
 (refine seq_step (step_buildSlice rfl rfl rfl (by omega) (by unfold maxLen; omega) rfl) rfl ?_; rintro _ ⟨b422, rfl⟩)
 (refine seq_append rfl rfl rfl rfl rfl (fun _ _ => by repeat (first | exact Sw.here | apply Sw.there)) (at_slc_all (by repeat first | exact mH | apply mT)) rfl (by simp [Value.oneCell']) (by unfold maxLen; omega) (by omega) rfl (fun pn cn => ?_))
 refine seq_pure (pure_assign rfl) rfl rfl ?_
 refine seq_done (nrm_seq (tri_ret (ret_block (ret_seq (ret_comp (res_tmp rfl) (by repeat (first | exact Pk.here | apply Pk.there)) ?_)))))
 (exact CompP.mk (hoO.snoc ⟨by decide, by decide⟩ ⟨by decide, by decide⟩) (by omega) (by omega))
 refine seq_pure (pure_assign rfl) rfl rfl ?_
 refine seq_done (nrm_seq (tri_cond_f rfl ?_))
 refine tri_seq (tri_region (seq_bool (pure_eql rfl rfl) rfl rfl (fun h438 => ?_) (fun h438 => ?_)))
 refine seq_pure (pure_assign rfl) rfl rfl ?_
 refine seq_done (nrm_seq (tri_cond_t rfl ?_))
 refine tri_seq (tri_region (seq_pure (pure_move rfl) rfl rfl ?_))
 refine seq_pure (pure_build rfl rfl) rfl rfl ?_
 (refine seq_step (step_buildSlice rfl rfl rfl (by omega) (by unfold maxLen; omega) rfl) rfl ?_; rintro _ ⟨b447, rfl⟩)
 (refine seq_append rfl rfl rfl rfl rfl (fun _ _ => by repeat (first | exact Sw.here | apply Sw.there)) (at_slc_all (by repeat first | exact mH | apply mT)) rfl (by simp [Value.oneCell']) (by unfold maxLen; omega) (by omega) rfl (fun pn cn => ?_))
 refine seq_pure (pure_assign rfl) rfl rfl ?_
 refine seq_done (nrm_seq (tri_ret (ret_block (ret_seq (ret_comp (res_tmp rfl) (by repeat (first | exact Pk.here | apply Pk.there)) ?_)))))
 (exact CompP.mk (hoO.snoc ⟨by decide, by decide⟩ ⟨by decide, by decide⟩) (by omega) (by omega))
 refine seq_pure (pure_assign rfl) rfl rfl ?_
 refine seq_done (nrm_seq (tri_cond_f rfl ?_))
 refine tri_skip (nrm_block (nrm_seq (tri_seq (tri_region (seq_pure (pure_move rfl) rfl rfl ?_)))))
 refine seq_pure (pure_build rfl rfl) rfl rfl ?_
 (refine seq_step (step_buildSlice rfl rfl rfl (by omega) (by unfold maxLen; omega) rfl) rfl ?_; rintro _ ⟨b468, rfl⟩)
 (refine seq_append rfl rfl rfl rfl rfl (fun _ _ => by repeat (first | exact Sw.here | apply Sw.there)) (at_slc_all (by repeat first | exact mH | apply mT)) rfl (by simp [Value.oneCell']) (by unfold maxLen; omega) (by omega) rfl (fun pn cn => ?_))
 refine seq_pure (pure_assign rfl) rfl rfl ?_
 refine seq_done (nrm_seq (tri_ret (ret_comp (res_tmp rfl) (by repeat (first | exact Pk.here | apply Pk.there)) ?_)))
 (exact CompP.mk (hoO.snoc ⟨by decide, by decide⟩ ⟨by decide, by decide⟩) (by omega) (by omega))
end Gw
end Go.Proofs.YtaoaeilognhfpaaDoor
namespace Go.Proofs.YtaoaeilognhfpaaDoor
open Go Go.RowKit
namespace Gw
theorem RTm.nine {G : IM} {t : Tm} {cells : List Value} (h : RTm G t cells) : ∃ v1 v2 v3 v4 v5 v6 v7 v8 v9, cells = [v1, v2, v3, v4, v5, v6, v7, v8, v9] := by
 obtain ⟨_, _, _, _, _, _, _, _, _, rfl, _⟩ := h.open
 exact ⟨_, _, _, _, _, _, _, _, _, rfl⟩
theorem node1 {G : IM} {e : Tm} {ce : List Value} {k : Int} {nm : ByteArray} {tk : Int} {tks : List Ty} {q p : Option Addr} {d c : Nat} (hk : I64 k) (ht : RTy G (.mk tk tks) [.int .i64 tk, .slice q tks.length d]) (h1 : RTm G e ce) (hs : Sl G p 1 c 9 ce) :
  RTm G (.mk k nm 0 (.mk tk tks) ty0 0 [e]) [.int .i64 k, .string nm, .int .i64 0, .int .i64 tk, .slice q tks.length d, .int .i64 0, .slice none 0 0, .int .i64 0, .slice p 1 c] := by
 obtain ⟨a1, a2⟩ := tm_one h1 hs
 exact RTm.of9 (ks := [e]) hk ⟨by omega, by omega⟩ ⟨by omega, by omega⟩ ht (tyLeaf_r _ ⟨by omega, by omega⟩) a1 a2
theorem node2 {G : IM} {e f : Tm} {ce cf : List Value} {k : Int} {nm : ByteArray} {p : Option Addr} {c : Nat} (hk : I64 k) (h1 : RTm G e ce) (h2 : RTm G f cf) (hs : Sl G p 2 c 9 (ce ++ cf)) :
  RTm G (.mk k nm 0 ty0 ty0 0 [e, f]) [.int .i64 k, .string nm, .int .i64 0, .int .i64 0, .slice none 0 0, .int .i64 0, .slice none 0 0, .int .i64 0, .slice p 2 c] := by
 have hL : RTmL G [e, f] [ce, cf] := by simp only [RTmL]; exact ⟨ce, [cf], rfl, h1, cf, [], rfl, h2, rfl⟩
 exact RTm.of9 (ks := [e, f]) hk ⟨by omega, by omega⟩ ⟨by omega, by omega⟩ (tyLeaf_r _ ⟨by omega, by omega⟩) (tyLeaf_r _ ⟨by omega, by omega⟩)
  (SlE.of (by simpa using hs) rfl hL.all (fun x hx => by obtain ⟨q, hq⟩ := List.getElem?_of_mem hx; exact (hL.inv hq tm0).2.one)) hL
theorem node3 {G : IM} {e f g : Tm} {ce cf cg : List Value} {k : Int} {nm : ByteArray} {p : Option Addr} {c : Nat} (hk : I64 k) (h1 : RTm G e ce) (h2 : RTm G f cf) (h3 : RTm G g cg) (hs : Sl G p 3 c 9 (ce ++ (cf ++ cg))) :
  RTm G (.mk k nm 0 ty0 ty0 0 [e, f, g]) [.int .i64 k, .string nm, .int .i64 0, .int .i64 0, .slice none 0 0, .int .i64 0, .slice none 0 0, .int .i64 0, .slice p 3 c] := by
 have hL : RTmL G [e, f, g] [ce, cf, cg] := by simp only [RTmL]; exact ⟨ce, [cf, cg], rfl, h1, cf, [cg], rfl, h2, cg, [], rfl, h3, rfl⟩
 exact RTm.of9 (ks := [e, f, g]) hk ⟨by omega, by omega⟩ ⟨by omega, by omega⟩ (tyLeaf_r _ ⟨by omega, by omega⟩) (tyLeaf_r _ ⟨by omega, by omega⟩)
  (SlE.of (by simpa using hs) rfl hL.all (fun x hx => by obtain ⟨q, hq⟩ := List.getElem?_of_mem hx; exact (hL.inv hq tm0).2.one)) hL
/-- How many numbers are drawn, and how big the term is. -/
def mB : Nat → Nat
 | 0 => 200
 | n + 1 => 3 * mB n + 200
theorem mB_ge (n : Nat) : 200 ≤ mB n := by cases n <;> simp only [mB] <;> omega
/-- How deep the drawing of a term may still go. -/
def Fuel (n : Nat) (depth : Int) (t : Ty) : Prop := tAh 4 t ∧ (n : Int) - 1000 ≤ depth ∧ depth ≤ 1000 ∧ ((depth ≤ 1 ∧ tAh n t) ∨ (2 ≤ depth ∧ depth + 3 ≤ n))
theorem Fuel.sub {n : Nat} {depth : Int} {t t' : Ty} (h : Fuel (n + 1) depth t) (hd : 1 < depth) (h4 : tAh 4 t') : Fuel n (depth - 1) t' := by
 obtain ⟨h1, h2, h3, h5⟩ := h
 refine ⟨h4, by omega, by omega, ?_⟩
 rcases h5 with ⟨h5, _⟩ | ⟨h5, h6⟩
 ·omega
 ·by_cases h7 : 3 ≤ depth
  ·exact .inr ⟨by omega, by omega⟩
  ·exact .inl ⟨by omega, h4.le (by omega)⟩
theorem Fuel.kid {n : Nat} {depth : Int} {k : Int} {ks : List Ty} {t' : Ty} (h : Fuel (n + 1) depth (.mk k ks)) (ht : t' ∈ ks) : Fuel n (depth - 1) t' := by
 have h4 : tAh 4 t' := (tAh_kid h.1 ht).up
 by_cases hd : 1 < depth
 ·exact h.sub hd h4
 ·obtain ⟨h1, h2, h3, h5⟩ := h
  refine ⟨h4, by omega, by omega, .inl ⟨by omega, ?_⟩⟩
  rcases h5 with ⟨_, h5⟩ | ⟨h5, _⟩
  ·exact tAh_kid h5 ht
  ·omega
theorem Fuel.pos {n : Nat} {depth : Int} {k : Int} {ks : List Ty} (h : Fuel n depth (.mk k ks)) (hd : 1 < depth ∨ k = 4 ∨ k = 5) : ∃ m, n = m + 1 := by
 cases n with
 | succ m => exact ⟨m, rfl⟩
 | zero =>
  obtain ⟨h1, h2, h3, h5⟩ := h
  rcases h5 with ⟨h5, h6⟩ | ⟨h5, h6⟩
  ·have := h6.2
   omega
  ·omega
/-- What the drawing of a term does. -/
def MakeOk (br : Nat) (pb : Option Addr) (nb cb : Nat) (bs : List UInt8) (n : Nat) : Prop := ∀ (depth : Int) (t : Ty) (p : Nat) (G : IM) (pc : Option Addr) (nc cc : Nat) (cells : List Value), Fuel n depth t → (n : Int) - 1000 ≤ depth → depth ≤ 1000 → nc + n ≤ 40 → GCx G pc nc cc → RTy G t cells → Sl G pb nb cb 1 (byts bs) → p + mB n < 1099511627776 →
 Fn Tryd.prog 43 [.pointer (some ⟨br, 0, none⟩), .slice pc nc cc, .agg ⟨cells⟩, .int .i64 depth] [rd br pb nb cb p] G
  (Drew br pb nb cb p (mB n) (fun G' v => ∃ e cells, v = .agg ⟨cells⟩ ∧ RTm G' e cells ∧ tmCount e ≤ mB n))
set_option maxHeartbeats 0 in
set_option maxRecDepth 100000 in
theorem l3Lam_fn (br : Nat) (pb : Option Addr) (nb cb : Nat) (bs : List UInt8) (hnb : nb ≤ 2000) (m : Nat) (hM : MakeOk br pb nb cb bs m) (depth : Int) (a t : Ty) (p : Nat) (G : IM) (pc : Option Addr) (nc cc : Nat) (ca cells : List Value)
  (hfu : Fuel m depth t) (hd0 : (m : Int) - 1000 ≤ depth) (hd1 : depth ≤ 1000) (hnc : nc + 1 + m ≤ 40) (hx : GCx G pc nc cc) (hra : RTy G a ca) (haa : tAr a ∧ szTy a ≤ 30) (hrt : RTy G t cells) (hb : Sl G pb nb cb 1 (byts bs)) (hp : p + 1 + mB m < 1099511627776) :
  Fn Tryd.prog 60 [.pointer (some ⟨br, 0, none⟩), .slice pc nc cc, .agg ⟨ca⟩, .agg ⟨cells⟩, .int .i64 depth] [rd br pb nb cb p] G
   (Drew br pb nb cb p (1 + mB m) (fun G' v => ∃ e cells, v = .agg ⟨cells⟩ ∧ RTm G' e cells ∧ tmCount e ≤ 1 + mB m)) := by
 obtain ⟨ak, aks⟩ := a
 obtain ⟨tk, tks⟩ := t
 obtain ⟨pa, cca, ea, rfl, _⟩ := hra.open
 obtain ⟨pt, cct, et, rfl, _⟩ := hrt.open
 simp only [Ty.k, Ty.ks] at hra hrt ⊢
 refine fn_enter Tryd.func60 rfl Tryd.ntmps60 Tryd.results60 rfl ?_
 intro w0
 refine tri_seq (tri_region ?_)
 (refine seq_step (step_box_a rfl rfl) rfl ?_; rintro _ ⟨b3, rfl⟩)
 (refine seq_step (step_box_a rfl rfl) rfl ?_; rintro _ ⟨b4, rfl⟩)
 (refine seq_step (step_alloc rfl) rfl ?_; rintro _ ⟨b5, rfl⟩)
 refine seq_done (nrm_seq (tri_seq (tri_region (seq_pure (pure_move rfl) rfl rfl ?_))))
 (refine seq_step (step_buildSlice rfl rfl rfl (by omega) (by unfold maxLen; omega) rfl) rfl ?_; rintro _ ⟨b11, rfl⟩)
 (refine triL_freeze (by repeat (first | exact Pk.here | apply Pk.there)) (fun G4 hle4 hsl4 _ => ?_); refine seq_take rfl (of_fn G4 br pb nb cb p bs _ _ _ _ (hb.mono hle4) hnb (by omega) hsl4 (by decide)) (Pk.perm (by repeat (first | exact Pk.here | apply Pk.there))) rfl rfl (fun v G5 outs hle5 hh => ?_); obtain ⟨rfl, rfl, hv⟩ := hh; obtain ⟨nm, rfl⟩ : ∃ nm, v = .string nm := (by simp only [List.mem_cons, List.not_mem_nil, or_false] at hv; rcases hv with rfl | rfl | rfl | rfl <;> exact ⟨_, rfl⟩); replace hra := hra.mono hle4; replace hx := hx.mono hle4; replace hb := hb.mono hle4; replace hrt := hrt.mono hle4;)
 refine seq_pure (pure_assign rfl) rfl rfl ?_
 refine seq_done (nrm_seq (tri_seq (tri_draw mixed rfl ?_)))
 refine any_pure (i := 0) (listed' := [tt,ff,ff,ff,ff,ff,ff,ff,ff,ff,ff,ff,ff,ff]) rfl npI (pure_move rfl) rfl (by kernel_rfl) rfl rfl ?_
 refine any_load (i := 1) (listed' := [tt,tt,ff,ff,ff,ff,ff,ff,ff,ff,ff,ff,ff,ff]) rfl npI (load_ba rfl rfl (by repeat first | exact mH | apply mT) (by rfl)) rfl (by kernel_rfl) rfl rfl ?_
 refine any_pure (i := 3) (listed' := [tt,tt,ff,tt,ff,ff,ff,ff,ff,ff,ff,ff,ff,ff]) rfl npI (pure_move rfl) rfl (by kernel_rfl) rfl rfl ?_
 refine any_pure (i := 4) (listed' := [tt,tt,ff,tt,tt,ff,ff,ff,ff,ff,ff,ff,ff,ff]) rfl npI (pure_move rfl) rfl (by kernel_rfl) rfl rfl ?_
 refine any_pure (i := 5) (listed' := [tt,tt,ff,tt,tt,tt,ff,ff,ff,ff,ff,ff,ff,ff]) rfl npI (pure_move rfl) rfl (by kernel_rfl) rfl rfl ?_
 refine any_load (i := 6) (listed' := [tt,tt,ff,tt,tt,tt,tt,ff,ff,ff,ff,ff,ff,ff]) rfl npI (load_ba rfl rfl (by repeat first | exact mH | apply mT) (by rfl)) rfl (by kernel_rfl) rfl rfl ?_
 refine any_load (i := 8) (listed' := [tt,tt,ff,tt,tt,tt,tt,ff,tt,ff,ff,ff,ff,ff]) rfl npI (load_ba rfl rfl (by repeat first | exact mH | apply mT) (by rfl)) rfl (by kernel_rfl) rfl rfl ?_
 refine any_pure (i := 9) (listed' := [tt,tt,ff,tt,tt,tt,tt,ff,tt,tt,ff,ff,ff,ff]) rfl npI (pure_move rfl) rfl (by kernel_rfl) rfl rfl ?_
 refine any_one (j := 2) (by kernel_rfl) ?_
 (refine one_imm (listed' := [tt,tt,tt,tt,tt,tt,tt,ff,tt,tt,ff,ff,ff,ff]) rfl rfl (l1Copy_fn _ _ _ haa.1.small hra) rfl rfl rfl (fun v G6 hle6 hh => ?_); obtain ⟨cs1, F1, rfl, hs1, hn1⟩ := hh; obtain ⟨p1, c1, rfl, _⟩ := hs1.open; have hr1 := hs1.R.mono (Dif.le G6 _); replace hra := hra.mono hle6; replace hx := hx.mono hle6; replace hb := hb.mono hle6; replace hrt := hrt.mono hle6;)
 refine any_one (j := 7) (by kernel_rfl) ?_
 (refine one_imm (listed' := [tt,tt,tt,tt,tt,tt,tt,tt,tt,tt,ff,ff,ff,ff]) rfl rfl (l3More_fn _ pc nc cc nm (.mk ak aks) _ hx (by omega) hra haa.1 haa.2) rfl rfl rfl (fun v G7 hle7 hh => ?_); obtain ⟨pm, cm, rfl, hxm⟩ := hh; replace hr1 := hr1.mono hle7; replace hx := hx.mono hle7; replace hb := hb.mono hle7; replace hrt := hrt.mono hle7; have hcall := hM depth (.mk tk tks) (p + 1) _ pm (nc + 1) cm _ hfu hd0 hd1 (by omega) hxm hrt hb (by omega))
 refine any_one (j := 10) (by kernel_rfl) ?_
 (refine one_take (listed' := [tt,tt,tt,tt,tt,tt,tt,tt,tt,tt,tt,ff,ff,ff]) rfl rfl hcall (Pk.perm (by repeat (first | exact Pk.here | apply Pk.there))) rfl rfl rfl (by repeat (first | exact HmOk.nil | apply HmOk.dep (by decide +kernel) | apply HmOk.blk (by decide +kernel) (by repeat (first | exact Pk.here | apply Pk.there)) (by repeat first | exact mH | apply mT))) (fun v G8 outs hle8 hh => ?_); obtain ⟨p8, hp81, hp82, rfl, e8, c8, rfl, hr8, hc8⟩ := hh; obtain ⟨a1, a2, a3, a4, a5, a6, a7, a8, a9, rfl⟩ := hr8.nine; replace hr1 := hr1.mono hle8)
 refine any_one (j := 11) (by kernel_rfl) ?_
 (refine one_step0 (listed' := [tt,tt,tt,tt,tt,tt,tt,tt,tt,tt,tt,tt,ff,ff]) rfl (step_buildSlice rfl rfl rfl (by omega) (by unfold maxLen; omega) rfl) rfl rfl ?_; rintro _ ⟨b33, rfl⟩)
 refine any_pure (i := 12) (listed' := [tt,tt,tt,tt,tt,tt,tt,tt,tt,tt,tt,tt,tt,ff]) rfl npI (pure_build rfl rfl) rfl (by kernel_rfl) rfl rfl ?_
 refine any_one (j := 13) (by kernel_rfl) ?_
 refine one_store (listed' := [tt,tt,tt,tt,tt,tt,tt,tt,tt,tt,tt,tt,tt,tt]) rfl rfl rfl rfl rfl rfl rfl rfl (by kernel_rfl) (by repeat first | exact Sw.here | apply Sw.there) (by rfl) ?_
 refine any_done (by kernel_rfl) ?_
 refine nrm_seq ?_
 (refine ret_freeze (cs := [a1, a2, a3, a4, a5, a6, a7, a8, a9]) (by repeat (first | exact Pk.here | apply Pk.there)) (fun G9 hle9 hsl9 hno9 => ?_); have hN := node1 (k := 5) (nm := nm) ⟨by omega, by omega⟩ (hr1.mono hle9) (hr8.mono hle9) hsl9)
 refine tri_ret (ret_own1 (outs := [rd br pb nb cb p8]) (res_cell rfl (load_ba rfl rfl (by repeat first | exact mH | apply mT) (by rfl))) (by repeat (first | exact SubH.nil | refine SubH.cons Pk.here ?_ | refine SubH.cons (Pk.there Pk.here) ?_ | refine SubH.cons (Pk.there (Pk.there Pk.here)) ?_ | apply SubH.drop)) ?_)
 (exact ⟨p8, by omega, by omega, rfl, _, _, rfl, hN, by simp only [tmCount, tmCountL]; omega⟩)
end Gw
end Go.Proofs.YtaoaeilognhfpaaDoor
