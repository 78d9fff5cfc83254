/-
  The reference model's typing: it ends, and what it gives is a type whose nodes have their operands, not wider than the term is big. The reference model's terms that are sometimes made invalid; drawn arguments. Slices of slices; slices of the call's own opened as blocks; one element of a slice of terms replaced. Casts put in: one cast, the types that are asked for. Drawn terms that often have a type: one lambda, given the terms below.
-/
import Derived.Test.YtgclbnfdlddpnaaGreatKa4
import Derived.Test.YtgclbnfdlddpnaaGreatKa3
import Derived.Test.YtgclbnfdlddpnaaGreatKa2
import Derived.Laws.Slices
namespace Go.Proofs.YtgclbnfdlddpnaaGreat
open Go Go.RowKit
namespace Gw
theorem tm_ops {k : Int} {n : Nat} (h : tmOps k = n) : (k = 6 ∨ k = 7 ∨ k = 8 ∨ k = 10 → n = 2) ∧ (k = 9 → n = 3) ∧ (k = 5 ∨ k = 11 ∨ k = 12 ∨ k = 13 → n = 1) := by
 refine ⟨?_, ?_, ?_⟩
 ·rintro (rfl | rfl | rfl | rfl)
  ·rw [show tmOps 6 = 2 from rfl] at h; omega
  ·rw [show tmOps 7 = 2 from rfl] at h; omega
  ·rw [show tmOps 8 = 2 from rfl] at h; omega
  ·rw [show tmOps 10 = 2 from rfl] at h; omega
 ·rintro rfl
  rw [show tmOps 9 = 3 from rfl] at h; omega
 ·rintro (rfl | rfl | rfl | rfl)
  ·rw [show tmOps 5 = 1 from rfl] at h; omega
  ·rw [show tmOps 11 = 1 from rfl] at h; omega
  ·rw [show tmOps 12 = 1 from rfl] at h; omega
  ·rw [show tmOps 13 = 1 from rfl] at h; omega
theorem sumTy_get {ts : List Ty} {i : Nat} (h : i < ts.length) : szTy ts[i] ≤ sumTy ts := sumTy_mem (List.getElem_mem h)
theorem sumTy_two {ts : List Ty} {i j : Nat} (h : j < ts.length) (hij : i < j) : szTy ts[i] + szTy ts[j] ≤ sumTy ts := by
 have h1 := sumTy_succ (ks := ts) (i := i) (by omega)
 have h2 := sumTy_succ (ks := ts) (i := j) h
 have h3 := sumTy_take ts (j + 1)
 have h4 : sumTy (ts.take (i + 1)) ≤ sumTy (ts.take j) := by
  have := sumTy_take (ts.take j) (i + 1)
  rwa [List.take_take, Nat.min_eq_left (by omega)] at this
 have h5 : 0 ≤ sumTy (ts.take i) := sumTy_nn _
 omega
set_option maxHeartbeats 0 in
set_option maxRecDepth 100000 in
theorem l3Result_fn (k : Int) (nm : ByteArray) (num : Int) (ty fr : Ty) (lb : Int) (ks : List Tm) (ts : List Ty) (G : IM) (cells : List Value) (p : Option Addr) (c : Nat) (es : List (List Value))
  (hops : tmOps k = ts.length) (hty : tAr ty ∧ szTy ty ≤ 30) (hr : RTm G (.mk k nm num ty fr lb ks) cells) (hsl : SlE G p ts.length c 2 es) (hkl : RTyL G ts es) (har : ∀ t ∈ ts, tAr t) :
  Fn Tryz.prog 147 [.agg ⟨cells⟩, .slice p ts.length c] [] G (TyB (sumTy ts + 32) G) := by
 have hone := hr.one
 have hop := tm_ops hops
 have hnn := sumTy_nn ts
 have hz0 := fun h : 0 < ts.length => sumTy_get h
 have hz1 := fun h : 1 < ts.length => sumTy_get h
 have hz01 := fun h : 1 < ts.length => sumTy_two (i := 0) h (by omega)
 have hz12 := fun h : 2 < ts.length => sumTy_two (i := 1) h (by omega)
 have ha0 := fun h : 0 < ts.length => har _ (List.getElem_mem h)
 have ha1 := fun h : 1 < ts.length => har _ (List.getElem_mem h)
 have ha2 := fun h : 2 < ts.length => har _ (List.getElem_mem h)
 obtain ⟨tk, tks⟩ := ty
 obtain ⟨fk, fks⟩ := fr
 obtain ⟨pt, ct, pf, cf, pk, ck, ek, rfl, hk, hnum, hlb, hrty, hrfr, _, _⟩ := hr.open9
 refine fn_enter Tryz.func147 rfl Tryz.ntmps147 Tryz.results147 rfl ?_
 intro w0
 refine tri_seq (tri_region ?_)
 (refine seq_step (step_box_a rfl rfl) rfl ?_; rintro _ ⟨b3, rfl⟩)
 (refine seq_step (step_alloc rfl) rfl ?_; rintro _ ⟨b4, rfl⟩)
 refine seq_pure (pure_assign rfl) rfl rfl ?_
 refine seq_done (nrm_seq (tri_seq (tri_seq (tri_region (seq_pure (pure_fieldAddr0 rfl) rfl rfl ?_)))))
 refine seq_load (load_bs rfl rfl (by repeat first | exact mH | apply mT) (by rfl)) rfl rfl ?_
 refine seq_done (nrm_seq (tri_block (tri_seq (tri_region (seq_bool (pure_eql rfl rfl) rfl rfl (fun h18 => ?_) (fun h18 => ?_))))))
 refine seq_pure (pure_assign rfl) rfl rfl ?_
 refine seq_done (nrm_seq (tri_cond_t rfl ?_))
 refine tri_seq (tri_region (seq_pure (pure_move rfl) rfl rfl ?_))
 (have hl2 : ts.length = 2 := hop.1 (by omega); obtain ⟨b0, o0, q0, d0, hp0, hat0, hre0, hg0⟩ := hsl.kidTy hkl (i := 0) (by omega) (by omega); obtain ⟨b1, o1, q1, d1, hp1, hat1, hre1, hg1⟩ := hsl.kidTy hkl (i := 1) (by omega) (by omega); cases hp0; cases hp1; refine seq_pure (pure_indexAddrN (j := 0) rfl rfl rfl (by omega)) rfl rfl ?_)
 refine seq_load (load_a rfl rfl (hat0 _) rfl) rfl rfl ?_
 (refine seq_imm rfl (l3Match_fn 4 ts[0] G _ (.inl rfl) (ha0 (by omega)) hre0) rfl rfl (fun v G1 hle1 hh => ?_); obtain ⟨ma, mca, mb, mcb, mx, rfl, hma, hma2, hma3, hmb, hmb2, hmb3⟩ := hh; obtain ⟨p1, c1, e1, rfl, _⟩ := hma.open; obtain ⟨p2, c2, e2, rfl, _⟩ := hmb.open; replace hsl := hsl.mono hle1; replace hkl := hkl.mono hle1; cases mx)
 refine seq_pure (pure_move rfl) rfl rfl ?_
 refine seq_pure (pure_extract rfl rfl) rfl rfl ?_
 refine seq_pure (pure_extract rfl rfl) rfl rfl ?_
 refine seq_pure (pure_extract rfl rfl) rfl rfl ?_
 (refine seq_step (step_alloc rfl) rfl ?_; rintro _ ⟨b33, rfl⟩)
 (refine seq_step (step_alloc rfl) rfl ?_; rintro _ ⟨b34, rfl⟩)
 refine seq_store rfl rfl rfl rfl rfl rfl (by repeat first | exact Sw.here | apply Sw.there) (by rfl) ?_
 refine seq_store rfl rfl rfl rfl rfl rfl (by repeat first | exact Sw.here | apply Sw.there) (by rfl) ?_
 refine seq_pure (pure_assign rfl) rfl rfl ?_
 refine seq_done (nrm_seq (tri_seq ?_))
 (have hl2 : ts.length = 2 := hop.1 (by omega); obtain ⟨b0, o0, q0, d0, hp0, hat0, hre0, hg0⟩ := hsl.kidTy hkl (i := 0) (by omega) (by omega); obtain ⟨b1, o1, q1, d1, hp1, hat1, hre1, hg1⟩ := hsl.kidTy hkl (i := 1) (by omega) (by omega); cases hp0; cases hp1; refine tri_draw mixed rfl ?_)
 refine any_load (i := 0) (listed' := [tt,ff,ff,ff,ff,ff,ff,ff,ff,ff,ff]) rfl npI (load_ba rfl rfl (by repeat first | exact mH | apply mT) (by rfl)) rfl (by kernel_rfl) rfl rfl ?_
 refine any_pure (i := 1) (listed' := [tt,tt,ff,ff,ff,ff,ff,ff,ff,ff,ff]) rfl npI (pure_move rfl) rfl (by kernel_rfl) rfl rfl ?_
 refine any_pure (i := 2) (listed' := [tt,tt,tt,ff,ff,ff,ff,ff,ff,ff,ff]) rfl npI (pure_move rfl) rfl (by kernel_rfl) rfl rfl ?_
 refine any_skip (i := 3) (listed' := [tt,tt,tt,tt,ff,ff,ff,ff,ff,ff,ff]) rfl npI rfl (by kernel_rfl) rfl rfl ?_
 refine any_skip (i := 4) (listed' := [tt,tt,tt,tt,tt,ff,ff,ff,ff,ff,ff]) rfl npI rfl (by kernel_rfl) rfl rfl ?_
 refine any_skip (i := 5) (listed' := [tt,tt,tt,tt,tt,tt,ff,ff,ff,ff,ff]) rfl npI rfl (by kernel_rfl) rfl rfl ?_
 refine any_skip (i := 6) (listed' := [tt,tt,tt,tt,tt,tt,tt,ff,ff,ff,ff]) rfl npI rfl (by kernel_rfl) rfl rfl ?_
 refine any_skip (i := 7) (listed' := [tt,tt,tt,tt,tt,tt,tt,tt,ff,ff,ff]) rfl npI rfl (by kernel_rfl) rfl rfl ?_
 refine any_pure (i := 8) (listed' := [tt,tt,tt,tt,tt,tt,tt,tt,tt,ff,ff]) rfl npI (pure_pick_f rfl rfl) rfl (by kernel_rfl) rfl rfl ?_
 refine any_one (j := 9) (by kernel_rfl) ?_
 refine one_store (listed' := [tt,tt,tt,tt,tt,tt,tt,tt,tt,tt,ff]) rfl rfl rfl rfl rfl rfl rfl rfl (by kernel_rfl) (by repeat first | exact Sw.here | apply Sw.there) (by rfl) ?_
 refine any_pure (i := 10) (listed' := [tt,tt,tt,tt,tt,tt,tt,tt,tt,tt,tt]) rfl npI (pure_assign rfl) rfl (by kernel_rfl) rfl rfl ?_
 refine any_done (by kernel_rfl) ?_
 refine nrm_seq (tri_ret (ret_block (ret_seq (ret_fin2 (res_cell rfl (load_ba rfl rfl (by repeat first | exact mH | apply mT) (by rfl))) (res_tmp rfl) ?_))))
 (have h0 := hz0 (by omega); exact ⟨rfl, _, _, _, rfl, hmb, hmb2, by omega⟩)
 refine seq_pure (pure_move rfl) rfl rfl ?_
 refine seq_pure (pure_extract rfl rfl) rfl rfl ?_
 refine seq_pure (pure_extract rfl rfl) rfl rfl ?_
 refine seq_pure (pure_extract rfl rfl) rfl rfl ?_
 (refine seq_step (step_alloc rfl) rfl ?_; rintro _ ⟨b65, rfl⟩)
 (refine seq_step (step_alloc rfl) rfl ?_; rintro _ ⟨b66, rfl⟩)
 refine seq_store rfl rfl rfl rfl rfl rfl (by repeat first | exact Sw.here | apply Sw.there) (by rfl) ?_
 refine seq_store rfl rfl rfl rfl rfl rfl (by repeat first | exact Sw.here | apply Sw.there) (by rfl) ?_
 refine seq_pure (pure_assign rfl) rfl rfl ?_
 refine seq_done (nrm_seq (tri_seq ?_))
 (have hl2 : ts.length = 2 := hop.1 (by omega); obtain ⟨b0, o0, q0, d0, hp0, hat0, hre0, hg0⟩ := hsl.kidTy hkl (i := 0) (by omega) (by omega); obtain ⟨b1, o1, q1, d1, hp1, hat1, hre1, hg1⟩ := hsl.kidTy hkl (i := 1) (by omega) (by omega); cases hp0; cases hp1; refine tri_draw mixed rfl ?_)
 refine any_load (i := 0) (listed' := [tt,ff,ff,ff,ff,ff,ff,ff,ff,ff,ff]) rfl npI (load_ba rfl rfl (by repeat first | exact mH | apply mT) (by rfl)) rfl (by kernel_rfl) rfl rfl ?_
 refine any_pure (i := 1) (listed' := [tt,tt,ff,ff,ff,ff,ff,ff,ff,ff,ff]) rfl npI (pure_move rfl) rfl (by kernel_rfl) rfl rfl ?_
 refine any_pure (i := 2) (listed' := [tt,tt,tt,ff,ff,ff,ff,ff,ff,ff,ff]) rfl npI (pure_move rfl) rfl (by kernel_rfl) rfl rfl ?_
 refine any_pure (i := 3) (listed' := [tt,tt,tt,tt,ff,ff,ff,ff,ff,ff,ff]) rfl npI (pure_move rfl) rfl (by kernel_rfl) rfl rfl ?_
 refine any_pure (i := 4) (listed' := [tt,tt,tt,tt,tt,ff,ff,ff,ff,ff,ff]) rfl npI (pure_indexAddrN (j := 1) rfl rfl rfl (by omega)) rfl (by kernel_rfl) rfl rfl ?_
 refine any_load (i := 5) (listed' := [tt,tt,tt,tt,tt,tt,ff,ff,ff,ff,ff]) rfl npI (load_a rfl rfl (hat1 _) rfl) rfl (by kernel_rfl) rfl rfl ?_
 refine any_load (i := 6) (listed' := [tt,tt,tt,tt,tt,tt,tt,ff,ff,ff,ff]) rfl npI (load_ba rfl rfl (by repeat first | exact mH | apply mT) (by rfl)) rfl (by kernel_rfl) rfl rfl ?_
 refine any_one (j := 7) (by kernel_rfl) ?_
 refine one_val (listed' := [tt,tt,tt,tt,tt,tt,tt,tt,ff,ff,ff]) rfl rfl ((l1ConsistentA_fn ts[1] ma _ _ _ (ha1 (by omega)) hma2 hre1 hma)) rfl rfl rfl ?_
 refine any_pure (i := 8) (listed' := [tt,tt,tt,tt,tt,tt,tt,tt,tt,ff,ff]) rfl npI (pure_pick_t rfl rfl) rfl (by kernel_rfl) rfl rfl ?_
 refine any_one (j := 9) (by kernel_rfl) ?_
 refine one_store (listed' := [tt,tt,tt,tt,tt,tt,tt,tt,tt,tt,ff]) rfl rfl rfl rfl rfl rfl rfl rfl (by kernel_rfl) (by repeat first | exact Sw.here | apply Sw.there) (by rfl) ?_
 refine any_pure (i := 10) (listed' := [tt,tt,tt,tt,tt,tt,tt,tt,tt,tt,tt]) rfl npI (pure_assign rfl) rfl (by kernel_rfl) rfl rfl ?_
 refine any_done (by kernel_rfl) ?_
 refine nrm_seq (tri_ret (ret_block (ret_seq (ret_fin2 (res_cell rfl (load_ba rfl rfl (by repeat first | exact mH | apply mT) (by rfl))) (res_tmp rfl) ?_))))
 (have h0 := hz0 (by omega); exact ⟨rfl, _, _, _, rfl, hmb, hmb2, by omega⟩)
 refine seq_pure (pure_assign rfl) rfl rfl ?_
 refine seq_done (nrm_seq (tri_cond_f rfl ?_))
 refine tri_seq (tri_region (seq_bool (pure_eql rfl rfl) rfl rfl (fun h100 => ?_) (fun h100 => ?_)))
 refine seq_pure (pure_assign rfl) rfl rfl ?_
 refine seq_done (nrm_seq (tri_cond_t rfl ?_))
 refine tri_seq ?_
 (have hl2 : ts.length = 2 := hop.1 (by omega); obtain ⟨b0, o0, q0, d0, hp0, hat0, hre0, hg0⟩ := hsl.kidTy hkl (i := 0) (by omega) (by omega); obtain ⟨b1, o1, q1, d1, hp1, hat1, hre1, hg1⟩ := hsl.kidTy hkl (i := 1) (by omega) (by omega); cases hp0; cases hp1; refine tri_draw mixed rfl ?_)
 refine any_pure (i := 1) (listed' := [ff,tt,ff,ff,ff,ff,ff,ff,ff,ff,ff,ff,ff,ff,ff]) rfl npI (pure_move rfl) rfl (by kernel_rfl) rfl rfl ?_
 refine any_pure (i := 2) (listed' := [ff,tt,tt,ff,ff,ff,ff,ff,ff,ff,ff,ff,ff,ff,ff]) rfl npI (pure_indexAddrN (j := 0) rfl rfl rfl (by omega)) rfl (by kernel_rfl) rfl rfl ?_
 refine any_load (i := 3) (listed' := [ff,tt,tt,tt,ff,ff,ff,ff,ff,ff,ff,ff,ff,ff,ff]) rfl npI (load_a rfl rfl (hat0 _) rfl) rfl (by kernel_rfl) rfl rfl ?_
 refine any_one (j := 0) (by kernel_rfl) ?_
 refine one_val (listed' := [tt,tt,tt,tt,ff,ff,ff,ff,ff,ff,ff,ff,ff,ff,ff]) rfl rfl ((l3Int_fn _)) rfl rfl rfl ?_
 refine any_one (j := 4) (by kernel_rfl) ?_
 refine one_val (listed' := [tt,tt,tt,tt,tt,ff,ff,ff,ff,ff,ff,ff,ff,ff,ff]) rfl rfl ((l3Int_fn _)) rfl rfl rfl ?_
 refine any_one (j := 5) (by kernel_rfl) ?_
 refine one_valb (listed' := [tt,tt,tt,tt,tt,tt,ff,ff,ff,ff,ff,ff,ff,ff,ff]) rfl rfl ((l1ConsistentA_fn ts[0] (.mk 2 []) _ _ _ (ha0 (by omega)) (tAr_leaf (by decide) (by decide)) hre0 (tyLeaf_r _ ⟨by omega, by omega⟩))) rfl rfl rfl (fun h115 => ?_) (fun h115 => ?_)
 refine any_pure (i := 6) (listed' := [tt,tt,tt,tt,tt,tt,tt,ff,ff,ff,ff,ff,ff,ff,ff]) rfl npI (pure_move rfl) rfl (by kernel_rfl) rfl rfl ?_
 refine any_pure (i := 7) (listed' := [tt,tt,tt,tt,tt,tt,tt,tt,ff,ff,ff,ff,ff,ff,ff]) rfl npI (pure_move rfl) rfl (by kernel_rfl) rfl rfl ?_
 refine any_pure (i := 8) (listed' := [tt,tt,tt,tt,tt,tt,tt,tt,tt,ff,ff,ff,ff,ff,ff]) rfl npI (pure_indexAddrN (j := 1) rfl rfl rfl (by omega)) rfl (by kernel_rfl) rfl rfl ?_
 refine any_load (i := 9) (listed' := [tt,tt,tt,tt,tt,tt,tt,tt,tt,tt,ff,ff,ff,ff,ff]) rfl npI (load_a rfl rfl (hat1 _) rfl) rfl (by kernel_rfl) rfl rfl ?_
 refine any_one (j := 10) (by kernel_rfl) ?_
 refine one_val (listed' := [tt,tt,tt,tt,tt,tt,tt,tt,tt,tt,tt,ff,ff,ff,ff]) rfl rfl ((l3Int_fn _)) rfl rfl rfl ?_
 refine any_one (j := 11) (by kernel_rfl) ?_
 refine one_val (listed' := [tt,tt,tt,tt,tt,tt,tt,tt,tt,tt,tt,tt,ff,ff,ff]) rfl rfl ((l1ConsistentA_fn ts[1] (.mk 2 []) _ _ _ (ha1 (by omega)) (tAr_leaf (by decide) (by decide)) hre1 (tyLeaf_r _ ⟨by omega, by omega⟩))) rfl rfl rfl ?_
 refine any_pure (i := 12) (listed' := [tt,tt,tt,tt,tt,tt,tt,tt,tt,tt,tt,tt,tt,ff,ff]) rfl npI (pure_pick_t rfl rfl) rfl (by kernel_rfl) rfl rfl ?_
 refine any_one (j := 13) (by kernel_rfl) ?_
 refine one_store (listed' := [tt,tt,tt,tt,tt,tt,tt,tt,tt,tt,tt,tt,tt,tt,ff]) rfl rfl rfl rfl rfl rfl rfl rfl (by kernel_rfl) (by repeat first | exact Sw.here | apply Sw.there) (by rfl) ?_
 refine any_pure (i := 14) (listed' := [tt,tt,tt,tt,tt,tt,tt,tt,tt,tt,tt,tt,tt,tt,tt]) rfl npI (pure_assign rfl) rfl (by kernel_rfl) rfl rfl ?_
 refine any_done (by kernel_rfl) ?_
 refine nrm_seq (tri_ret (ret_block (ret_seq (ret_fin2 (res_cell rfl (load_ba rfl rfl (by repeat first | exact mH | apply mT) (by rfl))) (res_tmp rfl) ?_))))
 (exact ⟨rfl, _, _, _, rfl, tyLeaf_r _ ⟨by omega, by omega⟩, tAr_leaf (by omega) (by omega), by rw [szLeaf]; omega⟩)
 refine any_pure (i := 6) (listed' := [tt,tt,tt,tt,tt,tt,tt,ff,ff,ff,ff,ff,ff,ff,ff]) rfl npI (pure_move rfl) rfl (by kernel_rfl) rfl rfl ?_
 refine any_skip (i := 7) (listed' := [tt,tt,tt,tt,tt,tt,tt,tt,ff,ff,ff,ff,ff,ff,ff]) rfl npI rfl (by kernel_rfl) rfl rfl ?_
 refine any_skip (i := 8) (listed' := [tt,tt,tt,tt,tt,tt,tt,tt,tt,ff,ff,ff,ff,ff,ff]) rfl npI rfl (by kernel_rfl) rfl rfl ?_
 refine any_skip (i := 9) (listed' := [tt,tt,tt,tt,tt,tt,tt,tt,tt,tt,ff,ff,ff,ff,ff]) rfl npI rfl (by kernel_rfl) rfl rfl ?_
 refine any_skip (i := 10) (listed' := [tt,tt,tt,tt,tt,tt,tt,tt,tt,tt,tt,ff,ff,ff,ff]) rfl npI rfl (by kernel_rfl) rfl rfl ?_
 refine any_skip (i := 11) (listed' := [tt,tt,tt,tt,tt,tt,tt,tt,tt,tt,tt,tt,ff,ff,ff]) rfl npI rfl (by kernel_rfl) rfl rfl ?_
 refine any_pure (i := 12) (listed' := [tt,tt,tt,tt,tt,tt,tt,tt,tt,tt,tt,tt,tt,ff,ff]) rfl npI (pure_pick_f rfl rfl) rfl (by kernel_rfl) rfl rfl ?_
 refine any_one (j := 13) (by kernel_rfl) ?_
 refine one_store (listed' := [tt,tt,tt,tt,tt,tt,tt,tt,tt,tt,tt,tt,tt,tt,ff]) rfl rfl rfl rfl rfl rfl rfl rfl (by kernel_rfl) (by repeat first | exact Sw.here | apply Sw.there) (by rfl) ?_
 refine any_pure (i := 14) (listed' := [tt,tt,tt,tt,tt,tt,tt,tt,tt,tt,tt,tt,tt,tt,tt]) rfl npI (pure_assign rfl) rfl (by kernel_rfl) rfl rfl ?_
 refine any_done (by kernel_rfl) ?_
 refine nrm_seq (tri_ret (ret_block (ret_seq (ret_fin2 (res_cell rfl (load_ba rfl rfl (by repeat first | exact mH | apply mT) (by rfl))) (res_tmp rfl) ?_))))
 (exact ⟨rfl, _, _, _, rfl, tyLeaf_r _ ⟨by omega, by omega⟩, tAr_leaf (by omega) (by omega), by rw [szLeaf]; omega⟩)
 refine seq_pure (pure_assign rfl) rfl rfl ?_
 refine seq_done (nrm_seq (tri_cond_f rfl ?_))
 refine tri_seq (tri_region (seq_bool (pure_eql rfl rfl) rfl rfl (fun h158 => ?_) (fun h158 => ?_)))
 refine seq_pure (pure_assign rfl) rfl rfl ?_
 refine seq_done (nrm_seq (tri_cond_t rfl ?_))
 refine tri_seq ?_
 (have hl2 : ts.length = 2 := hop.1 (by omega); obtain ⟨b0, o0, q0, d0, hp0, hat0, hre0, hg0⟩ := hsl.kidTy hkl (i := 0) (by omega) (by omega); obtain ⟨b1, o1, q1, d1, hp1, hat1, hre1, hg1⟩ := hsl.kidTy hkl (i := 1) (by omega) (by omega); cases hp0; cases hp1; refine tri_draw mixed rfl ?_)
 refine any_pure (i := 1) (listed' := [ff,tt,ff,ff,ff,ff,ff,ff,ff,ff,ff,ff,ff,ff,ff]) rfl npI (pure_move rfl) rfl (by kernel_rfl) rfl rfl ?_
 refine any_pure (i := 2) (listed' := [ff,tt,tt,ff,ff,ff,ff,ff,ff,ff,ff,ff,ff,ff,ff]) rfl npI (pure_indexAddrN (j := 0) rfl rfl rfl (by omega)) rfl (by kernel_rfl) rfl rfl ?_
 refine any_load (i := 3) (listed' := [ff,tt,tt,tt,ff,ff,ff,ff,ff,ff,ff,ff,ff,ff,ff]) rfl npI (load_a rfl rfl (hat0 _) rfl) rfl (by kernel_rfl) rfl rfl ?_
 refine any_one (j := 0) (by kernel_rfl) ?_
 refine one_val (listed' := [tt,tt,tt,tt,ff,ff,ff,ff,ff,ff,ff,ff,ff,ff,ff]) rfl rfl ((l3Bool_fn _)) rfl rfl rfl ?_
 refine any_one (j := 4) (by kernel_rfl) ?_
 refine one_val (listed' := [tt,tt,tt,tt,tt,ff,ff,ff,ff,ff,ff,ff,ff,ff,ff]) rfl rfl ((l3Int_fn _)) rfl rfl rfl ?_
 refine any_one (j := 5) (by kernel_rfl) ?_
 refine one_valb (listed' := [tt,tt,tt,tt,tt,tt,ff,ff,ff,ff,ff,ff,ff,ff,ff]) rfl rfl ((l1ConsistentA_fn ts[0] (.mk 2 []) _ _ _ (ha0 (by omega)) (tAr_leaf (by decide) (by decide)) hre0 (tyLeaf_r _ ⟨by omega, by omega⟩))) rfl rfl rfl (fun h173 => ?_) (fun h173 => ?_)
 refine any_pure (i := 6) (listed' := [tt,tt,tt,tt,tt,tt,tt,ff,ff,ff,ff,ff,ff,ff,ff]) rfl npI (pure_move rfl) rfl (by kernel_rfl) rfl rfl ?_
 refine any_pure (i := 7) (listed' := [tt,tt,tt,tt,tt,tt,tt,tt,ff,ff,ff,ff,ff,ff,ff]) rfl npI (pure_move rfl) rfl (by kernel_rfl) rfl rfl ?_
 refine any_pure (i := 8) (listed' := [tt,tt,tt,tt,tt,tt,tt,tt,tt,ff,ff,ff,ff,ff,ff]) rfl npI (pure_indexAddrN (j := 1) rfl rfl rfl (by omega)) rfl (by kernel_rfl) rfl rfl ?_
 refine any_load (i := 9) (listed' := [tt,tt,tt,tt,tt,tt,tt,tt,tt,tt,ff,ff,ff,ff,ff]) rfl npI (load_a rfl rfl (hat1 _) rfl) rfl (by kernel_rfl) rfl rfl ?_
 refine any_one (j := 10) (by kernel_rfl) ?_
 refine one_val (listed' := [tt,tt,tt,tt,tt,tt,tt,tt,tt,tt,tt,ff,ff,ff,ff]) rfl rfl ((l3Int_fn _)) rfl rfl rfl ?_
 refine any_one (j := 11) (by kernel_rfl) ?_
 refine one_val (listed' := [tt,tt,tt,tt,tt,tt,tt,tt,tt,tt,tt,tt,ff,ff,ff]) rfl rfl ((l1ConsistentA_fn ts[1] (.mk 2 []) _ _ _ (ha1 (by omega)) (tAr_leaf (by decide) (by decide)) hre1 (tyLeaf_r _ ⟨by omega, by omega⟩))) rfl rfl rfl ?_
 refine any_pure (i := 12) (listed' := [tt,tt,tt,tt,tt,tt,tt,tt,tt,tt,tt,tt,tt,ff,ff]) rfl npI (pure_pick_t rfl rfl) rfl (by kernel_rfl) rfl rfl ?_
 refine any_one (j := 13) (by kernel_rfl) ?_
 refine one_store (listed' := [tt,tt,tt,tt,tt,tt,tt,tt,tt,tt,tt,tt,tt,tt,ff]) rfl rfl rfl rfl rfl rfl rfl rfl (by kernel_rfl) (by repeat first | exact Sw.here | apply Sw.there) (by rfl) ?_
 refine any_pure (i := 14) (listed' := [tt,tt,tt,tt,tt,tt,tt,tt,tt,tt,tt,tt,tt,tt,tt]) rfl npI (pure_assign rfl) rfl (by kernel_rfl) rfl rfl ?_
 refine any_done (by kernel_rfl) ?_
 refine nrm_seq (tri_ret (ret_block (ret_seq (ret_fin2 (res_cell rfl (load_ba rfl rfl (by repeat first | exact mH | apply mT) (by rfl))) (res_tmp rfl) ?_))))
 (exact ⟨rfl, _, _, _, rfl, tyLeaf_r _ ⟨by omega, by omega⟩, tAr_leaf (by omega) (by omega), by rw [szLeaf]; omega⟩)
 refine any_pure (i := 6) (listed' := [tt,tt,tt,tt,tt,tt,tt,ff,ff,ff,ff,ff,ff,ff,ff]) rfl npI (pure_move rfl) rfl (by kernel_rfl) rfl rfl ?_
 refine any_skip (i := 7) (listed' := [tt,tt,tt,tt,tt,tt,tt,tt,ff,ff,ff,ff,ff,ff,ff]) rfl npI rfl (by kernel_rfl) rfl rfl ?_
 refine any_skip (i := 8) (listed' := [tt,tt,tt,tt,tt,tt,tt,tt,tt,ff,ff,ff,ff,ff,ff]) rfl npI rfl (by kernel_rfl) rfl rfl ?_
 refine any_skip (i := 9) (listed' := [tt,tt,tt,tt,tt,tt,tt,tt,tt,tt,ff,ff,ff,ff,ff]) rfl npI rfl (by kernel_rfl) rfl rfl ?_
 refine any_skip (i := 10) (listed' := [tt,tt,tt,tt,tt,tt,tt,tt,tt,tt,tt,ff,ff,ff,ff]) rfl npI rfl (by kernel_rfl) rfl rfl ?_
 refine any_skip (i := 11) (listed' := [tt,tt,tt,tt,tt,tt,tt,tt,tt,tt,tt,tt,ff,ff,ff]) rfl npI rfl (by kernel_rfl) rfl rfl ?_
 refine any_pure (i := 12) (listed' := [tt,tt,tt,tt,tt,tt,tt,tt,tt,tt,tt,tt,tt,ff,ff]) rfl npI (pure_pick_f rfl rfl) rfl (by kernel_rfl) rfl rfl ?_
 refine any_one (j := 13) (by kernel_rfl) ?_
 refine one_store (listed' := [tt,tt,tt,tt,tt,tt,tt,tt,tt,tt,tt,tt,tt,tt,ff]) rfl rfl rfl rfl rfl rfl rfl rfl (by kernel_rfl) (by repeat first | exact Sw.here | apply Sw.there) (by rfl) ?_
 refine any_pure (i := 14) (listed' := [tt,tt,tt,tt,tt,tt,tt,tt,tt,tt,tt,tt,tt,tt,tt]) rfl npI (pure_assign rfl) rfl (by kernel_rfl) rfl rfl ?_
 refine any_done (by kernel_rfl) ?_
 refine nrm_seq (tri_ret (ret_block (ret_seq (ret_fin2 (res_cell rfl (load_ba rfl rfl (by repeat first | exact mH | apply mT) (by rfl))) (res_tmp rfl) ?_))))
 (exact ⟨rfl, _, _, _, rfl, tyLeaf_r _ ⟨by omega, by omega⟩, tAr_leaf (by omega) (by omega), by rw [szLeaf]; omega⟩)
 refine seq_pure (pure_assign rfl) rfl rfl ?_
 refine seq_done (nrm_seq (tri_cond_f rfl ?_))
 refine tri_seq (tri_region (seq_bool (pure_eql rfl rfl) rfl rfl (fun h216 => ?_) (fun h216 => ?_)))
 refine seq_pure (pure_assign rfl) rfl rfl ?_
 refine seq_done (nrm_seq (tri_cond_t rfl ?_))
 refine tri_seq (tri_seq ?_)
 (have hl3 : ts.length = 3 := hop.2.1 (by omega); obtain ⟨b0, o0, q0, d0, hp0, hat0, hre0, hg0⟩ := hsl.kidTy hkl (i := 0) (by omega) (by omega); obtain ⟨b1, o1, q1, d1, hp1, hat1, hre1, hg1⟩ := hsl.kidTy hkl (i := 1) (by omega) (by omega); obtain ⟨b2, o2, q2, d2, hp2, hat2, hre2, hg2⟩ := hsl.kidTy hkl (i := 2) (by omega) (by omega); cases hp0; cases hp1; cases hp2; refine tri_draw mixed rfl ?_)
 refine any_pure (i := 0) (listed' := [tt,ff,ff,ff,ff,ff,ff,ff]) rfl npI (pure_move rfl) rfl (by kernel_rfl) rfl rfl ?_
 refine any_pure (i := 1) (listed' := [tt,tt,ff,ff,ff,ff,ff,ff]) rfl npI (pure_indexAddrN (j := 1) rfl rfl rfl (by omega)) rfl (by kernel_rfl) rfl rfl ?_
 refine any_load (i := 2) (listed' := [tt,tt,tt,ff,ff,ff,ff,ff]) rfl npI (load_a rfl rfl (hat1 _) rfl) rfl (by kernel_rfl) rfl rfl ?_
 refine any_pure (i := 3) (listed' := [tt,tt,tt,tt,ff,ff,ff,ff]) rfl npI (pure_move rfl) rfl (by kernel_rfl) rfl rfl ?_
 refine any_pure (i := 4) (listed' := [tt,tt,tt,tt,tt,ff,ff,ff]) rfl npI (pure_indexAddrN (j := 2) rfl rfl rfl (by omega)) rfl (by kernel_rfl) rfl rfl ?_
 refine any_load (i := 5) (listed' := [tt,tt,tt,tt,tt,tt,ff,ff]) rfl npI (load_a rfl rfl (hat2 _) rfl) rfl (by kernel_rfl) rfl rfl ?_
 refine any_one (j := 6) (by kernel_rfl) ?_
 refine one_valb (listed' := [tt,tt,tt,tt,tt,tt,tt,ff]) rfl rfl ((l1ConsistentA_fn ts[1] ts[2] _ _ _ (ha1 (by omega)) (ha2 (by omega)) hre1 hre2)) rfl rfl rfl (fun h231 => ?_) (fun h231 => ?_)
 refine any_pure (i := 7) (listed' := [tt,tt,tt,tt,tt,tt,tt,tt]) rfl npI (pure_not_t rfl) rfl (by kernel_rfl) rfl rfl ?_
 refine any_done (by kernel_rfl) ?_
 refine nrm_seq (tri_cond_f rfl ?_)
 refine tri_skip (nrm_seq (tri_seq ?_))
 (have hl3 : ts.length = 3 := hop.2.1 (by omega); obtain ⟨b0, o0, q0, d0, hp0, hat0, hre0, hg0⟩ := hsl.kidTy hkl (i := 0) (by omega) (by omega); obtain ⟨b1, o1, q1, d1, hp1, hat1, hre1, hg1⟩ := hsl.kidTy hkl (i := 1) (by omega) (by omega); obtain ⟨b2, o2, q2, d2, hp2, hat2, hre2, hg2⟩ := hsl.kidTy hkl (i := 2) (by omega) (by omega); cases hp0; cases hp1; cases hp2; refine tri_draw mixed rfl ?_)
 refine any_pure (i := 0) (listed' := [tt,ff,ff,ff,ff,ff,ff,ff,ff,ff,ff,ff,ff,ff]) rfl npI (pure_move rfl) rfl (by kernel_rfl) rfl rfl ?_
 refine any_pure (i := 1) (listed' := [tt,tt,ff,ff,ff,ff,ff,ff,ff,ff,ff,ff,ff,ff]) rfl npI (pure_indexAddrN (j := 1) rfl rfl rfl (by omega)) rfl (by kernel_rfl) rfl rfl ?_
 refine any_load (i := 2) (listed' := [tt,tt,tt,ff,ff,ff,ff,ff,ff,ff,ff,ff,ff,ff]) rfl npI (load_a rfl rfl (hat1 _) rfl) rfl (by kernel_rfl) rfl rfl ?_
 refine any_pure (i := 3) (listed' := [tt,tt,tt,tt,ff,ff,ff,ff,ff,ff,ff,ff,ff,ff]) rfl npI (pure_move rfl) rfl (by kernel_rfl) rfl rfl ?_
 refine any_pure (i := 4) (listed' := [tt,tt,tt,tt,tt,ff,ff,ff,ff,ff,ff,ff,ff,ff]) rfl npI (pure_indexAddrN (j := 2) rfl rfl rfl (by omega)) rfl (by kernel_rfl) rfl rfl ?_
 refine any_load (i := 5) (listed' := [tt,tt,tt,tt,tt,tt,ff,ff,ff,ff,ff,ff,ff,ff]) rfl npI (load_a rfl rfl (hat2 _) rfl) rfl (by kernel_rfl) rfl rfl ?_
 refine any_pure (i := 7) (listed' := [tt,tt,tt,tt,tt,tt,ff,tt,ff,ff,ff,ff,ff,ff]) rfl npI (pure_move rfl) rfl (by kernel_rfl) rfl rfl ?_
 refine any_pure (i := 8) (listed' := [tt,tt,tt,tt,tt,tt,ff,tt,tt,ff,ff,ff,ff,ff]) rfl npI (pure_indexAddrN (j := 0) rfl rfl rfl (by omega)) rfl (by kernel_rfl) rfl rfl ?_
 refine any_load (i := 9) (listed' := [tt,tt,tt,tt,tt,tt,ff,tt,tt,tt,ff,ff,ff,ff]) rfl npI (load_a rfl rfl (hat0 _) rfl) rfl (by kernel_rfl) rfl rfl ?_
 refine any_one (j := 6) (by kernel_rfl) ?_
 (refine one_imm (listed' := [tt,tt,tt,tt,tt,tt,tt,tt,tt,tt,ff,ff,ff,ff]) rfl rfl (l1Meet_fn ts[1] ts[2] G _ _ (by assumption) (ha1 (by omega)) (ha2 (by omega)) hre1 hre2) rfl rfl rfl (fun v G1 hle1 hh => ?_); obtain ⟨mt, mc, rfl, hmr, hma, hms, _⟩ := hh; obtain ⟨p1, c1, e1, rfl, _⟩ := hmr.open; have hre0q := hre0.mono hle1)
 refine any_one (j := 10) (by kernel_rfl) ?_
 refine one_val (listed' := [tt,tt,tt,tt,tt,tt,tt,tt,tt,tt,tt,ff,ff,ff]) rfl rfl ((l3Bool_fn _)) rfl rfl rfl ?_
 refine any_one (j := 11) (by kernel_rfl) ?_
 refine one_val (listed' := [tt,tt,tt,tt,tt,tt,tt,tt,tt,tt,tt,tt,ff,ff]) rfl rfl ((l1ConsistentA_fn ts[0] (.mk 3 []) _ _ _ (ha0 (by omega)) (tAr_leaf (by decide) (by decide)) hre0q (tyLeaf_r _ ⟨by omega, by omega⟩))) rfl rfl rfl ?_
 refine any_one (j := 12) (by kernel_rfl) ?_
 refine one_store (listed' := [tt,tt,tt,tt,tt,tt,tt,tt,tt,tt,tt,tt,tt,ff]) rfl rfl rfl rfl rfl rfl rfl rfl (by kernel_rfl) (by repeat first | exact Sw.here | apply Sw.there) (by rfl) ?_
 refine any_pure (i := 13) (listed' := [tt,tt,tt,tt,tt,tt,tt,tt,tt,tt,tt,tt,tt,tt]) rfl npI (pure_assign rfl) rfl (by kernel_rfl) rfl rfl ?_
 refine any_done (by kernel_rfl) ?_
 refine nrm_seq (tri_ret (ret_block (ret_seq (ret_fin2 (res_cell rfl (load_ba rfl rfl (by repeat first | exact mH | apply mT) (by rfl))) (res_tmp rfl) ?_))))
 (have h0 := hz12 (by omega); exact ⟨rfl, _, _, _, rfl, hmr, hma, by omega⟩)
 refine any_pure (i := 7) (listed' := [tt,tt,tt,tt,tt,tt,tt,tt]) rfl npI (pure_not_f rfl) rfl (by kernel_rfl) rfl rfl ?_
 refine any_done (by kernel_rfl) ?_
 refine nrm_seq (tri_cond_t rfl ?_)
 refine tri_seq (tri_region (seq_pure (pure_build rfl rfl) rfl rfl ?_))
 refine seq_store rfl rfl rfl rfl rfl rfl (by repeat first | exact Sw.here | apply Sw.there) (by rfl) ?_
 refine seq_pure (pure_assign rfl) rfl rfl ?_
 refine seq_done (nrm_seq (tri_ret (ret_seq (ret_block (ret_seq (ret_fin2 (res_cell rfl (load_ba rfl rfl (by repeat first | exact mH | apply mT) (by rfl))) (res_tmp rfl) ?_))))))
 (exact ⟨rfl, _, _, _, rfl, tyLeaf_r _ ⟨by omega, by omega⟩, tAr_leaf (by omega) (by omega), by rw [szLeaf]; omega⟩)
 refine seq_pure (pure_assign rfl) rfl rfl ?_
 refine seq_done (nrm_seq (tri_cond_f rfl ?_))
 refine tri_seq (tri_region (seq_bool (pure_eql rfl rfl) rfl rfl (fun h288 => ?_) (fun h288 => ?_)))
 refine seq_pure (pure_assign rfl) rfl rfl ?_
 refine seq_done (nrm_seq (tri_cond_t rfl ?_))
 refine tri_seq ?_
 (have hl2 : ts.length = 2 := hop.1 (by omega); obtain ⟨b0, o0, q0, d0, hp0, hat0, hre0, hg0⟩ := hsl.kidTy hkl (i := 0) (by omega) (by omega); obtain ⟨b1, o1, q1, d1, hp1, hat1, hre1, hg1⟩ := hsl.kidTy hkl (i := 1) (by omega) (by omega); cases hp0; cases hp1; refine tri_draw mixed rfl ?_)
 refine any_pure (i := 0) (listed' := [tt,ff,ff,ff,ff,ff,ff,ff,ff,ff,ff]) rfl npI (pure_move rfl) rfl (by kernel_rfl) rfl rfl ?_
 refine any_pure (i := 1) (listed' := [tt,tt,ff,ff,ff,ff,ff,ff,ff,ff,ff]) rfl npI (pure_indexAddrN (j := 0) rfl rfl rfl (by omega)) rfl (by kernel_rfl) rfl rfl ?_
 refine any_load (i := 2) (listed' := [tt,tt,tt,ff,ff,ff,ff,ff,ff,ff,ff]) rfl npI (load_a rfl rfl (hat0 _) rfl) rfl (by kernel_rfl) rfl rfl ?_
 refine any_pure (i := 3) (listed' := [tt,tt,tt,tt,ff,ff,ff,ff,ff,ff,ff]) rfl npI (pure_move rfl) rfl (by kernel_rfl) rfl rfl ?_
 refine any_pure (i := 4) (listed' := [tt,tt,tt,tt,tt,ff,ff,ff,ff,ff,ff]) rfl npI (pure_indexAddrN (j := 1) rfl rfl rfl (by omega)) rfl (by kernel_rfl) rfl rfl ?_
 refine any_load (i := 5) (listed' := [tt,tt,tt,tt,tt,tt,ff,ff,ff,ff,ff]) rfl npI (load_a rfl rfl (hat1 _) rfl) rfl (by kernel_rfl) rfl rfl ?_
 refine any_one (j := 6) (by kernel_rfl) ?_
 (refine one_imm (listed' := [tt,tt,tt,tt,tt,tt,tt,ff,ff,ff,ff]) rfl rfl (l3Two_fn 5 ts[0] ts[1] G _ _ (.inr rfl) (ha0 (by omega)) (ha1 (by omega)) hre0 hre1) rfl rfl rfl (fun v G1 hle1 hh => ?_); obtain ⟨mt, mc, mx, rfl, hmr, hma, hms⟩ := hh; obtain ⟨p1, c1, e1, rfl, _⟩ := hmr.open)
 refine any_pure (i := 7) (listed' := [tt,tt,tt,tt,tt,tt,tt,tt,ff,ff,ff]) rfl npI (pure_extract rfl rfl) rfl (by kernel_rfl) rfl rfl ?_
 refine any_pure (i := 8) (listed' := [tt,tt,tt,tt,tt,tt,tt,tt,tt,ff,ff]) rfl npI (pure_extract rfl rfl) rfl (by kernel_rfl) rfl rfl ?_
 refine any_one (j := 9) (by kernel_rfl) ?_
 refine one_store (listed' := [tt,tt,tt,tt,tt,tt,tt,tt,tt,tt,ff]) rfl rfl rfl rfl rfl rfl rfl rfl (by kernel_rfl) (by repeat first | exact Sw.here | apply Sw.there) (by rfl) ?_
 refine any_pure (i := 10) (listed' := [tt,tt,tt,tt,tt,tt,tt,tt,tt,tt,tt]) rfl npI (pure_assign rfl) rfl (by kernel_rfl) rfl rfl ?_
 refine any_done (by kernel_rfl) ?_
 refine nrm_seq (tri_ret (ret_block (ret_seq (ret_fin2 (res_cell rfl (load_ba rfl rfl (by repeat first | exact mH | apply mT) (by rfl))) (res_tmp rfl) ?_))))
 (have h0 := hz01 (by omega); exact ⟨rfl, _, _, _, rfl, hmr, hma, by omega⟩)
 refine seq_pure (pure_assign rfl) rfl rfl ?_
 refine seq_done (nrm_seq (tri_cond_f rfl ?_))
 refine tri_seq (tri_region (seq_bool (pure_eql rfl rfl) rfl rfl (fun h321 => ?_) (fun h321 => ?_)))
 refine seq_pure (pure_assign rfl) rfl rfl ?_
 refine seq_done (nrm_seq (tri_cond_t rfl ?_))
 refine tri_seq (tri_region (seq_pure (pure_move rfl) rfl rfl ?_))
 (have hl1 : ts.length = 1 := hop.2.2 (by omega); obtain ⟨b0, o0, q0, d0, hp0, hat0, hre0, hg0⟩ := hsl.kidTy hkl (i := 0) (by omega) (by omega); cases hp0; refine seq_pure (pure_indexAddrN (j := 0) rfl rfl rfl (by omega)) rfl rfl ?_)
 refine seq_load (load_a rfl rfl (hat0 _) rfl) rfl rfl ?_
 (refine seq_imm rfl (l3Match_fn 5 ts[0] G _ (.inr rfl) (ha0 (by omega)) hre0) rfl rfl (fun v G1 hle1 hh => ?_); obtain ⟨ma, mca, mb, mcb, mx, rfl, hma, hma2, hma3, hmb, hmb2, hmb3⟩ := hh; obtain ⟨p1, c1, e1, rfl, _⟩ := hma.open; obtain ⟨p2, c2, e2, rfl, _⟩ := hmb.open)
 refine seq_pure (pure_move rfl) rfl rfl ?_
 refine seq_pure (pure_extract rfl rfl) rfl rfl ?_
 refine seq_pure (pure_extract rfl rfl) rfl rfl ?_
 refine seq_pure (pure_extract rfl rfl) rfl rfl ?_
 (refine seq_step (step_alloc rfl) rfl ?_; rintro _ ⟨b336, rfl⟩)
 (refine seq_step (step_alloc rfl) rfl ?_; rintro _ ⟨b337, rfl⟩)
 refine seq_store rfl rfl rfl rfl rfl rfl (by repeat first | exact Sw.here | apply Sw.there) (by rfl) ?_
 refine seq_store rfl rfl rfl rfl rfl rfl (by repeat first | exact Sw.here | apply Sw.there) (by rfl) ?_
 refine seq_pure (pure_assign rfl) rfl rfl ?_
 refine seq_done (nrm_seq (tri_seq (tri_region (seq_load (load_ba rfl rfl (by repeat first | exact mH | apply mT) (by rfl)) rfl rfl ?_))))
 refine seq_pure (pure_move rfl) rfl rfl ?_
 refine seq_store rfl rfl rfl rfl rfl rfl (by repeat first | exact Sw.here | apply Sw.there) (by rfl) ?_
 refine seq_pure (pure_assign rfl) rfl rfl ?_
 refine seq_done (nrm_seq (tri_ret (ret_block (ret_seq (ret_fin2 (res_cell rfl (load_ba rfl rfl (by repeat first | exact mH | apply mT) (by rfl))) (res_tmp rfl) ?_)))))
 (have h0 := hz0 (by omega); exact ⟨rfl, _, _, _, rfl, hma, hma2, by omega⟩)
 refine seq_pure (pure_assign rfl) rfl rfl ?_
 refine seq_done (nrm_seq (tri_cond_f rfl ?_))
 refine tri_seq (tri_region (seq_bool (pure_eql rfl rfl) rfl rfl (fun h362 => ?_) (fun h362 => ?_)))
 refine seq_pure (pure_assign rfl) rfl rfl ?_
 refine seq_done (nrm_seq (tri_cond_t rfl ?_))
 refine tri_seq (tri_region (seq_pure (pure_move rfl) rfl rfl ?_))
 (have hl1 : ts.length = 1 := hop.2.2 (by omega); obtain ⟨b0, o0, q0, d0, hp0, hat0, hre0, hg0⟩ := hsl.kidTy hkl (i := 0) (by omega) (by omega); cases hp0; refine seq_pure (pure_indexAddrN (j := 0) rfl rfl rfl (by omega)) rfl rfl ?_)
 refine seq_load (load_a rfl rfl (hat0 _) rfl) rfl rfl ?_
 (refine seq_imm rfl (l3Match_fn 5 ts[0] G _ (.inr rfl) (ha0 (by omega)) hre0) rfl rfl (fun v G1 hle1 hh => ?_); obtain ⟨ma, mca, mb, mcb, mx, rfl, hma, hma2, hma3, hmb, hmb2, hmb3⟩ := hh; obtain ⟨p1, c1, e1, rfl, _⟩ := hma.open; obtain ⟨p2, c2, e2, rfl, _⟩ := hmb.open)
 refine seq_pure (pure_move rfl) rfl rfl ?_
 refine seq_pure (pure_extract rfl rfl) rfl rfl ?_
 refine seq_pure (pure_extract rfl rfl) rfl rfl ?_
 refine seq_pure (pure_extract rfl rfl) rfl rfl ?_
 (refine seq_step (step_alloc rfl) rfl ?_; rintro _ ⟨b377, rfl⟩)
 (refine seq_step (step_alloc rfl) rfl ?_; rintro _ ⟨b378, rfl⟩)
 refine seq_store rfl rfl rfl rfl rfl rfl (by repeat first | exact Sw.here | apply Sw.there) (by rfl) ?_
 refine seq_store rfl rfl rfl rfl rfl rfl (by repeat first | exact Sw.here | apply Sw.there) (by rfl) ?_
 refine seq_pure (pure_assign rfl) rfl rfl ?_
 refine seq_done (nrm_seq (tri_seq (tri_region (seq_load (load_ba rfl rfl (by repeat first | exact mH | apply mT) (by rfl)) rfl rfl ?_))))
 refine seq_pure (pure_move rfl) rfl rfl ?_
 refine seq_store rfl rfl rfl rfl rfl rfl (by repeat first | exact Sw.here | apply Sw.there) (by rfl) ?_
 refine seq_pure (pure_assign rfl) rfl rfl ?_
 refine seq_done (nrm_seq (tri_ret (ret_block (ret_seq (ret_fin2 (res_cell rfl (load_ba rfl rfl (by repeat first | exact mH | apply mT) (by rfl))) (res_tmp rfl) ?_)))))
 (have h0 := hz0 (by omega); exact ⟨rfl, _, _, _, rfl, hmb, hmb2, by omega⟩)
 refine seq_pure (pure_assign rfl) rfl rfl ?_
 refine seq_done (nrm_seq (tri_cond_f rfl ?_))
 refine tri_seq (tri_region (seq_bool (pure_eql rfl rfl) rfl rfl (fun h403 => ?_) (fun h403 => ?_)))
 refine seq_pure (pure_assign rfl) rfl rfl ?_
 refine seq_done (nrm_seq (tri_cond_t rfl ?_))
 refine tri_seq ?_
 (have hl1 : ts.length = 1 := hop.2.2 (by omega); obtain ⟨b0, o0, q0, d0, hp0, hat0, hre0, hg0⟩ := hsl.kidTy hkl (i := 0) (by omega) (by omega); cases hp0; refine tri_draw mixed rfl ?_)
 refine any_pure (i := 0) (listed' := [tt,ff,ff,ff,ff,ff,ff,ff,ff,ff,ff]) rfl npI (pure_fieldAddr0 rfl) rfl (by kernel_rfl) rfl rfl ?_
 refine any_load (i := 1) (listed' := [tt,tt,ff,ff,ff,ff,ff,ff,ff,ff,ff]) rfl npI (load_ba rfl rfl (by repeat first | exact mH | apply mT) (by rfl)) rfl (by kernel_rfl) rfl rfl ?_
 refine any_pure (i := 3) (listed' := [tt,tt,ff,tt,ff,ff,ff,ff,ff,ff,ff]) rfl npI (pure_move rfl) rfl (by kernel_rfl) rfl rfl ?_
 refine any_pure (i := 4) (listed' := [tt,tt,ff,tt,tt,ff,ff,ff,ff,ff,ff]) rfl npI (pure_indexAddrN (j := 0) rfl rfl rfl (by omega)) rfl (by kernel_rfl) rfl rfl ?_
 refine any_load (i := 5) (listed' := [tt,tt,ff,tt,tt,tt,ff,ff,ff,ff,ff]) rfl npI (load_a rfl rfl (hat0 _) rfl) rfl (by kernel_rfl) rfl rfl ?_
 refine any_pure (i := 6) (listed' := [tt,tt,ff,tt,tt,tt,tt,ff,ff,ff,ff]) rfl npI (pure_fieldAddr0 rfl) rfl (by kernel_rfl) rfl rfl ?_
 refine any_load (i := 7) (listed' := [tt,tt,ff,tt,tt,tt,tt,tt,ff,ff,ff]) rfl npI (load_ba rfl rfl (by repeat first | exact mH | apply mT) (by rfl)) rfl (by kernel_rfl) rfl rfl ?_
 refine any_one (j := 2) (by kernel_rfl) ?_
 (refine one_imm (listed' := [tt,tt,tt,tt,tt,tt,tt,tt,ff,ff,ff]) rfl rfl (l1Copy_fn (.mk tk tks) G _ hty.1.small hrty) rfl rfl rfl (fun v G1 hle1 hh => ?_); obtain ⟨cs1, F1, rfl, hs1, hn1⟩ := hh; obtain ⟨p1, c1, rfl, _⟩ := hs1.open; have hmr := hs1.R.mono (Dif.le G1 G); have hre0q := hre0.mono hle1; have hrtyq := hrty.mono hle1)
 refine any_one (j := 8) (by kernel_rfl) ?_
 refine one_val (listed' := [tt,tt,tt,tt,tt,tt,tt,tt,tt,ff,ff]) rfl rfl ((l1ConsistentA_fn ts[0] (.mk tk tks) _ _ _ (ha0 (by omega)) hty.1 hre0q hrtyq)) rfl rfl rfl ?_
 refine any_one (j := 9) (by kernel_rfl) ?_
 refine one_store (listed' := [tt,tt,tt,tt,tt,tt,tt,tt,tt,tt,ff]) rfl rfl rfl rfl rfl rfl rfl rfl (by kernel_rfl) (by repeat first | exact Sw.here | apply Sw.there) (by rfl) ?_
 refine any_pure (i := 10) (listed' := [tt,tt,tt,tt,tt,tt,tt,tt,tt,tt,tt]) rfl npI (pure_assign rfl) rfl (by kernel_rfl) rfl rfl ?_
 refine any_done (by kernel_rfl) ?_
 refine nrm_seq (tri_ret (ret_block (ret_seq (ret_fin2 (res_cell rfl (load_ba rfl rfl (by repeat first | exact mH | apply mT) (by rfl))) (res_tmp rfl) ?_))))
 (exact ⟨rfl, _, _, _, rfl, hmr, hty.1, by omega⟩)
 refine seq_pure (pure_assign rfl) rfl rfl ?_
 refine seq_done (nrm_seq (tri_cond_f rfl ?_))
 refine tri_skip (nrm_block (nrm_seq (tri_seq (tri_region (seq_pure (pure_build rfl rfl) rfl rfl ?_)))))
 refine seq_store rfl rfl rfl rfl rfl rfl (by repeat first | exact Sw.here | apply Sw.there) (by rfl) ?_
 refine seq_pure (pure_assign rfl) rfl rfl ?_
 refine seq_done (nrm_seq (tri_ret (ret_fin2 (res_cell rfl (load_ba rfl rfl (by repeat first | exact mH | apply mT) (by rfl))) (res_tmp rfl) ?_)))
 (exact ⟨rfl, _, _, _, rfl, tyLeaf_r _ ⟨by omega, by omega⟩, tAr_leaf (by omega) (by omega), by rw [szLeaf]; omega⟩)
theorem tScan_ar : ∀ (t : Ty) (d : Int), tScan t d = true → tAr t := by
 refine Ty.ind fun k ks ih d h => ?_
 obtain ⟨h1, h2⟩ := tScan_inv h
 rw [tAr]
 refine ⟨fun hk => ?_, fun h4 h5 => ?_, tArL_mem.2 fun t ht => ?_⟩
 ·have := (tyOps_spec k).2.1 hk
  omega
 ·have h5' := tyOps_spec k
  have h6 := h5'.1
  have h7 := h5'.2.2
  omega
 ·obtain ⟨i, hi, rfl⟩ := List.getElem_of_mem ht
  exact ih _ ht _ (h2 i hi)
theorem tScan_ah : ∀ (n : Nat) (t : Ty) (d : Int), tScan t d = true → 4 - d ≤ n → tAh n t := by
 intro n
 induction n with
 | zero =>
  rintro ⟨k, ks⟩ d h hd
  obtain ⟨h1, h2⟩ := tScan_inv h
  have hks : ks.length = 0 := by
   rcases Nat.eq_zero_or_pos ks.length with h0 | h0
   ·exact h0
   ·have h3 := h2 0 h0
    obtain ⟨k', ks'⟩ : Ty := ks[0]
    have h4 : ∀ (u : Ty) (d : Int), tScan u d = true → d ≤ 4 := by
     rintro ⟨a, b⟩ d hu
     rw [tScan] at hu
     simp only [Bool.and_eq_true, decide_eq_true_eq] at hu
     exact hu.1.1
    have := h4 _ _ h3
    omega
  have h5 := tyOps_spec k
  have h6 := h5.2.1
  exact ⟨List.length_eq_zero_iff.1 hks, by intro h; have := h6 (.inl h); omega, by intro h; have := h6 (.inr h); omega⟩
 | succ n ih =>
  rintro ⟨k, ks⟩ d h hd
  have ha := tScan_ar _ _ h
  rw [tAr] at ha
  obtain ⟨h1, h2⟩ := tScan_inv h
  refine ⟨ha.1, ha.2.1, fun t ht => ?_⟩
  obtain ⟨i, hi, rfl⟩ := List.getElem_of_mem ht
  exact ih _ _ (h2 i hi) (by omega)
theorem tValid_ann {t : Ty} (h : tValid t = true) : tAr t ∧ szTy t ≤ 30 := by
 have h1 := tScan_ah 3 t 1 h (by omega)
 have h2 := tAh_sz h1
 have h3 : ((2 ^ (3 + 1) - 2 : Nat) : Int) = 14 := rfl
 exact ⟨h1.ar, by omega⟩
theorem tNone_ann {t : Ty} (h : tNone t = true) : tAr t ∧ szTy t ≤ 30 := by
 rw [tNone_eq h]
 exact ⟨tAr_leaf (by decide) (by decide), by rw [ty0, szLeaf]; omega⟩
/-- The annotation of a valid node. -/
theorem node_ann {k : Int} {nm : ByteArray} {num : Int} {ty fr : Ty} {lb : Int} {n : Nat} (h : tmNode k nm num ty fr lb n = true) : tAr ty ∧ szTy ty ≤ 30 := by
 have hn := tmNode_iff.1 h
 by_cases hk : k = 5 ∨ k = 13 ∨ k = 14
 ·exact tValid_ann (hn.2.2.2.2.2.1 hk)
 ·exact tNone_ann (hn.2.2.2.2.2.2.1 hk)
set_option maxHeartbeats 0 in
set_option maxRecDepth 100000 in
theorem l3Type_fn : ∀ (e : Tm) (d : Int) (G : IM) (p : Option Addr) (n c : Nat) (cells : List Value), sShape 12 14 e d = true → (n : Int) ≤ d → GCx G p n c → RTm G e cells →
  Fn Tryz.prog 108 [.slice p n c, .agg ⟨cells⟩] [] G (TyB (32 * (tmCount e : Int)) G) := by
 refine Tm.ind fun k nm num ty fr lb ks ih d G p n c cells hv hnd hx hr => ?_
 have hr0 := hr
 have hone := hr.one
 obtain ⟨hv1, hv2, hv3, hv4⟩ := sShape_go2 hv
 have hvk := (sShapeL_iff 12 14 ks _).1 hv4
 have har := (tmNode_iff.1 hv3).1
 have hop := tm_ops har
 obtain ⟨hta, hts⟩ := node_ann hv3
 have hck : tmCount (.mk k nm num ty fr lb ks) = 1 + tmCountL ks := by rw [tmCount]; omega
 rw [hck]
 obtain ⟨tk, tks⟩ := ty
 obtain ⟨fk, fks⟩ := fr
 obtain ⟨pt, ct, pf, cf, q, cq, es, rfl, hk, hnum, hlb, hty, hfr, hsl, hkl⟩ := hr.open9
 have hlen : ks.length ≤ 3 := by have := tmOps_le k; omega
 refine fn_enter Tryz.func108 rfl Tryz.ntmps108 Tryz.results108 rfl ?_
 intro w0
 refine tri_seq (tri_region ?_)
 (refine seq_step (step_box_a rfl rfl) rfl ?_; rintro _ ⟨b3, rfl⟩)
 (refine seq_step (step_alloc rfl) rfl ?_; rintro _ ⟨b4, rfl⟩)
 refine seq_pure (pure_assign rfl) rfl rfl ?_
 refine seq_done (nrm_seq (tri_seq (tri_seq (tri_region (seq_pure (pure_fieldAddr0 rfl) rfl rfl ?_)))))
 refine seq_load (load_bs rfl rfl (by repeat first | exact mH | apply mT) (by rfl)) rfl rfl ?_
 refine seq_done (nrm_seq (tri_block (tri_seq (tri_region (seq_bool (pure_eql rfl rfl) rfl rfl (fun h18 => ?_) (fun h18 => ?_))))))
 refine seq_pure (pure_assign rfl) rfl rfl ?_
 refine seq_done (nrm_seq (tri_cond_t rfl ?_))
 refine tri_seq (tri_region (seq_pure (pure_move rfl) rfl rfl ?_))
 refine seq_pure (pure_fieldAddr0 rfl) rfl rfl ?_
 refine seq_load (load_bs rfl rfl (by repeat first | exact mH | apply mT) (by rfl)) rfl rfl ?_
 (refine seq_imm rfl (l3Look_fn G p n c nm hx) rfl rfl (fun v G1 hle1 hh => ?_); obtain ⟨mt, mc, mx, rfl, hmr, hma, hms⟩ := hh; obtain ⟨p1, c1, e1, rfl, _⟩ := hmr.open)
 refine seq_pure (pure_extract rfl rfl) rfl rfl ?_
 refine seq_pure (pure_extract rfl rfl) rfl rfl ?_
 refine seq_store rfl rfl rfl rfl rfl rfl (by repeat first | exact Sw.here | apply Sw.there) (by rfl) ?_
 refine seq_pure (pure_assign rfl) rfl rfl ?_
 refine seq_done (nrm_seq (tri_ret (ret_block (ret_seq (ret_fin2 (res_cell rfl (load_ba rfl rfl (by repeat first | exact mH | apply mT) (by rfl))) (res_tmp rfl) ?_)))))
 (exact ⟨rfl, _, _, _, rfl, hmr, hma, by omega⟩)
 refine seq_pure (pure_assign rfl) rfl rfl ?_
 refine seq_done (nrm_seq (tri_cond_f rfl ?_))
 refine tri_seq (tri_region (seq_bool (pure_eql rfl rfl) rfl rfl (fun h46 => ?_) (fun h46 => ?_)))
 refine seq_pure (pure_assign rfl) rfl rfl ?_
 refine seq_done (nrm_seq (tri_cond_t rfl ?_))
 refine tri_seq (tri_region (seq_val rfl ((l3Int_fn _)) rfl rfl ?_))
 refine seq_store rfl rfl rfl rfl rfl rfl (by repeat first | exact Sw.here | apply Sw.there) (by rfl) ?_
 refine seq_pure (pure_assign rfl) rfl rfl ?_
 refine seq_done (nrm_seq (tri_ret (ret_block (ret_seq (ret_fin2 (res_cell rfl (load_ba rfl rfl (by repeat first | exact mH | apply mT) (by rfl))) (res_tmp rfl) ?_)))))
 (exact ⟨rfl, _, _, _, rfl, tyLeaf_r _ ⟨by omega, by omega⟩, tAr_leaf (by omega) (by omega), by rw [szLeaf]; omega⟩)
 refine seq_pure (pure_assign rfl) rfl rfl ?_
 refine seq_done (nrm_seq (tri_cond_f rfl ?_))
 refine tri_seq (tri_seq (tri_region (seq_bool (pure_eql rfl rfl) rfl rfl (fun h70 => ?_) (fun h70 => ?_))))
 refine seq_pure (pure_assign rfl) rfl rfl ?_
 refine seq_done (nrm_seq (tri_cond_t rfl ?_))
 refine tri_skip (nrm_seq (tri_cond_t rfl ?_))
 refine tri_seq (tri_region (seq_val rfl ((l3Bool_fn _)) rfl rfl ?_))
 refine seq_store rfl rfl rfl rfl rfl rfl (by repeat first | exact Sw.here | apply Sw.there) (by rfl) ?_
 refine seq_pure (pure_assign rfl) rfl rfl ?_
 refine seq_done (nrm_seq (tri_ret (ret_block (ret_seq (ret_fin2 (res_cell rfl (load_ba rfl rfl (by repeat first | exact mH | apply mT) (by rfl))) (res_tmp rfl) ?_)))))
 (exact ⟨rfl, _, _, _, rfl, tyLeaf_r _ ⟨by omega, by omega⟩, tAr_leaf (by omega) (by omega), by rw [szLeaf]; omega⟩)
 refine seq_pure (pure_assign rfl) rfl rfl ?_
 refine seq_done (nrm_seq (tri_cond_f rfl ?_))
 refine tri_region (seq_bool (pure_eql rfl rfl) rfl rfl (fun h95 => ?_) (fun h95 => ?_))
 refine seq_pure (pure_assign rfl) rfl rfl ?_
 refine seq_done (nrm_seq (tri_cond_t rfl ?_))
 refine tri_seq (tri_region (seq_val rfl ((l3Bool_fn _)) rfl rfl ?_))
 refine seq_store rfl rfl rfl rfl rfl rfl (by repeat first | exact Sw.here | apply Sw.there) (by rfl) ?_
 refine seq_pure (pure_assign rfl) rfl rfl ?_
 refine seq_done (nrm_seq (tri_ret (ret_block (ret_seq (ret_fin2 (res_cell rfl (load_ba rfl rfl (by repeat first | exact mH | apply mT) (by rfl))) (res_tmp rfl) ?_)))))
 (exact ⟨rfl, _, _, _, rfl, tyLeaf_r _ ⟨by omega, by omega⟩, tAr_leaf (by omega) (by omega), by rw [szLeaf]; omega⟩)
 refine seq_pure (pure_assign rfl) rfl rfl ?_
 refine seq_done (nrm_seq (tri_cond_f rfl ?_))
 refine tri_seq (tri_region (seq_bool (pure_eql rfl rfl) rfl rfl (fun h118 => ?_) (fun h118 => ?_)))
 refine seq_pure (pure_assign rfl) rfl rfl ?_
 refine seq_done (nrm_seq (tri_cond_t rfl ?_))
 refine tri_seq ?_
 (have hl1 : ks.length = 1 := hop.2.2 (by omega); obtain ⟨b, o, e, rfl, hl, hat, hre, hgb⟩ := hsl.kidTm hkl (i := 0) (by omega) (by omega); have hMore := l3More_fn G p n c nm (.mk tk tks) _ hx (by omega) hty hta hts; have hcl : tmCountL ks = tmCount ks[0] := (by have := tmCountL_succ (ks := ks) (i := 0) (by omega); rw [List.take_of_length_le (by omega)] at this; simpa [tmCountL] using this); refine tri_draw mixed rfl ?_)
 refine any_pure (i := 0) (listed' := [tt,ff,ff,ff,ff,ff,ff,ff,ff,ff,ff,ff,ff,ff,ff,ff,ff]) rfl npI (pure_move rfl) rfl (by kernel_rfl) rfl rfl ?_
 refine any_pure (i := 1) (listed' := [tt,tt,ff,ff,ff,ff,ff,ff,ff,ff,ff,ff,ff,ff,ff,ff,ff]) rfl npI (pure_fieldAddr0 rfl) rfl (by kernel_rfl) rfl rfl ?_
 refine any_load (i := 2) (listed' := [tt,tt,tt,ff,ff,ff,ff,ff,ff,ff,ff,ff,ff,ff,ff,ff,ff]) rfl npI (load_bs rfl rfl (by repeat first | exact mH | apply mT) (by rfl)) rfl (by kernel_rfl) rfl rfl ?_
 refine any_pure (i := 3) (listed' := [tt,tt,tt,tt,ff,ff,ff,ff,ff,ff,ff,ff,ff,ff,ff,ff,ff]) rfl npI (pure_fieldAddr0 rfl) rfl (by kernel_rfl) rfl rfl ?_
 refine any_load (i := 4) (listed' := [tt,tt,tt,tt,tt,ff,ff,ff,ff,ff,ff,ff,ff,ff,ff,ff,ff]) rfl npI (load_ba rfl rfl (by repeat first | exact mH | apply mT) (by rfl)) rfl (by kernel_rfl) rfl rfl ?_
 refine any_pure (i := 6) (listed' := [tt,tt,tt,tt,tt,ff,tt,ff,ff,ff,ff,ff,ff,ff,ff,ff,ff]) rfl npI (pure_fieldAddr0 rfl) rfl (by kernel_rfl) rfl rfl ?_
 refine any_load (i := 7) (listed' := [tt,tt,tt,tt,tt,ff,tt,tt,ff,ff,ff,ff,ff,ff,ff,ff,ff]) rfl npI (load_bs rfl rfl (by repeat first | exact mH | apply mT) (by rfl)) rfl (by kernel_rfl) rfl rfl ?_
 refine any_pure (i := 8) (listed' := [tt,tt,tt,tt,tt,ff,tt,tt,tt,ff,ff,ff,ff,ff,ff,ff,ff]) rfl npI (pure_indexAddrN (j := 0) rfl rfl rfl (by omega)) rfl (by kernel_rfl) rfl rfl ?_
 refine any_load (i := 9) (listed' := [tt,tt,tt,tt,tt,ff,tt,tt,tt,tt,ff,ff,ff,ff,ff,ff,ff]) rfl npI (load_a rfl rfl (hat _) hl) rfl (by kernel_rfl) rfl rfl ?_
 refine any_two (j := 5) (j' := 14) (by kernel_rfl) ?_ ?_
 (refine one_imm (listed' := [tt,tt,tt,tt,tt,tt,tt,tt,tt,tt,ff,ff,ff,ff,ff,ff,ff]) rfl rfl hMore rfl rfl rfl (fun v G1 hle1 hh => ?_); obtain ⟨pm, cm, rfl, hxm⟩ := hh; have hreM := hre.mono hle1; have hLam := ih ks[0] (List.getElem_mem (by omega)) (d + 1) G1 pm (n + 1) cm _ (hvk 0 (by omega)) (by omega) hxm hreM; have htyM := hty.mono hle1)
 refine any_two (j := 10) (j' := 14) (by kernel_rfl) ?_ ?_
 (refine one_imm (listed' := [tt,tt,tt,tt,tt,tt,tt,tt,tt,tt,tt,ff,ff,ff,ff,ff,ff]) rfl rfl hLam rfl rfl rfl (fun v G2 hle2 hh => ?_); obtain ⟨mt, mc, mx, rfl, hmr, hma, hms⟩ := hh; obtain ⟨p1, c1, e1, rfl, _⟩ := hmr.open; have htyN := htyM.mono hle2; cases mx)
 refine any_pure (i := 11) (listed' := [tt,tt,tt,tt,tt,tt,tt,tt,tt,tt,tt,tt,ff,ff,ff,ff,ff]) rfl npI (pure_move rfl) rfl (by kernel_rfl) rfl rfl ?_
 refine any_pure (i := 12) (listed' := [tt,tt,tt,tt,tt,tt,tt,tt,tt,tt,tt,tt,tt,ff,ff,ff,ff]) rfl npI (pure_extract rfl rfl) rfl (by kernel_rfl) rfl rfl ?_
 refine any_pure (i := 13) (listed' := [tt,tt,tt,tt,tt,tt,tt,tt,tt,tt,tt,tt,tt,tt,ff,ff,ff]) rfl npI (pure_extract rfl rfl) rfl (by kernel_rfl) rfl rfl ?_
 refine any_one (j := 14) (by kernel_rfl) ?_
 (refine one_step0 (listed' := [tt,tt,tt,tt,tt,tt,tt,tt,tt,tt,tt,tt,tt,tt,tt,ff,ff]) rfl (step_alloc rfl) rfl rfl ?_; rintro _ ⟨b142, rfl⟩)
 refine any_one (j := 15) (by kernel_rfl) ?_
 refine one_store (listed' := [tt,tt,tt,tt,tt,tt,tt,tt,tt,tt,tt,tt,tt,tt,tt,tt,ff]) rfl rfl rfl rfl rfl rfl rfl rfl (by kernel_rfl) (by repeat first | exact Sw.here | apply Sw.there) (by rfl) ?_
 refine any_pure (i := 16) (listed' := [tt,tt,tt,tt,tt,tt,tt,tt,tt,tt,tt,tt,tt,tt,tt,tt,tt]) rfl npI (pure_assign rfl) rfl (by kernel_rfl) rfl rfl ?_
 refine any_done (by kernel_rfl) ?_
 refine nrm_seq (tri_seq (tri_seq (tri_region (seq_pure (pure_move rfl) rfl rfl ?_))))
 refine seq_pure (pure_not_f rfl) rfl rfl ?_
 refine seq_done (nrm_seq (tri_cond_t rfl ?_))
 refine tri_seq (tri_region (seq_pure (pure_build rfl rfl) rfl rfl ?_))
 refine seq_store rfl rfl rfl rfl rfl rfl (by repeat first | exact Sw.here | apply Sw.there) (by rfl) ?_
 refine seq_pure (pure_assign rfl) rfl rfl ?_
 refine seq_done (nrm_seq (tri_ret (ret_seq (ret_block (ret_seq (ret_fin2 (res_cell rfl (load_ba rfl rfl (by repeat first | exact mH | apply mT) (by rfl))) (res_tmp rfl) ?_))))))
 (exact ⟨rfl, _, _, _, rfl, tyLeaf_r _ ⟨by omega, by omega⟩, tAr_leaf (by omega) (by omega), by rw [szLeaf]; omega⟩)
 refine any_pure (i := 11) (listed' := [tt,tt,tt,tt,tt,tt,tt,tt,tt,tt,tt,tt,ff,ff,ff,ff,ff]) rfl npI (pure_move rfl) rfl (by kernel_rfl) rfl rfl ?_
 refine any_pure (i := 12) (listed' := [tt,tt,tt,tt,tt,tt,tt,tt,tt,tt,tt,tt,tt,ff,ff,ff,ff]) rfl npI (pure_extract rfl rfl) rfl (by kernel_rfl) rfl rfl ?_
 refine any_pure (i := 13) (listed' := [tt,tt,tt,tt,tt,tt,tt,tt,tt,tt,tt,tt,tt,tt,ff,ff,ff]) rfl npI (pure_extract rfl rfl) rfl (by kernel_rfl) rfl rfl ?_
 refine any_one (j := 14) (by kernel_rfl) ?_
 (refine one_step0 (listed' := [tt,tt,tt,tt,tt,tt,tt,tt,tt,tt,tt,tt,tt,tt,tt,ff,ff]) rfl (step_alloc rfl) rfl rfl ?_; rintro _ ⟨b173, rfl⟩)
 refine any_one (j := 15) (by kernel_rfl) ?_
 refine one_store (listed' := [tt,tt,tt,tt,tt,tt,tt,tt,tt,tt,tt,tt,tt,tt,tt,tt,ff]) rfl rfl rfl rfl rfl rfl rfl rfl (by kernel_rfl) (by repeat first | exact Sw.here | apply Sw.there) (by rfl) ?_
 refine any_pure (i := 16) (listed' := [tt,tt,tt,tt,tt,tt,tt,tt,tt,tt,tt,tt,tt,tt,tt,tt,tt]) rfl npI (pure_assign rfl) rfl (by kernel_rfl) rfl rfl ?_
 refine any_done (by kernel_rfl) ?_
 refine nrm_seq (tri_seq (tri_seq (tri_region (seq_pure (pure_move rfl) rfl rfl ?_))))
 refine seq_pure (pure_not_t rfl) rfl rfl ?_
 refine seq_done (nrm_seq (tri_cond_f rfl ?_))
 refine tri_skip (nrm_seq (tri_seq (tri_region (seq_pure (pure_fieldAddr0 rfl) rfl rfl ?_))))
 refine seq_load (load_ba rfl rfl (by repeat first | exact mH | apply mT) (by rfl)) rfl rfl ?_
 refine seq_load (load_ba rfl rfl (by repeat first | exact mH | apply mT) (by rfl)) rfl rfl ?_
 (refine seq_imm rfl (l3Two_fn 4 (.mk tk tks) mt _ _ _ (.inl rfl) hta hma htyN hmr) rfl rfl (fun v G3 hle3 hh => ?_); obtain ⟨mt2, mc2, mx2, rfl, hmr2, hma2, hms2⟩ := hh; obtain ⟨p2, c2, e2, rfl, _⟩ := hmr2.open)
 refine seq_pure (pure_extract rfl rfl) rfl rfl ?_
 refine seq_pure (pure_extract rfl rfl) rfl rfl ?_
 refine seq_store rfl rfl rfl rfl rfl rfl (by repeat first | exact Sw.here | apply Sw.there) (by rfl) ?_
 refine seq_pure (pure_assign rfl) rfl rfl ?_
 refine seq_done (nrm_seq (tri_ret (ret_block (ret_seq (ret_fin2 (res_cell rfl (load_ba rfl rfl (by repeat first | exact mH | apply mT) (by rfl))) (res_tmp rfl) ?_)))))
 (exact ⟨rfl, _, _, _, rfl, hmr2, hma2, by omega⟩)
 (refine one_step0 (listed' := [tt,tt,tt,tt,tt,tt,tt,tt,tt,tt,ff,ff,ff,ff,tt,ff,ff]) rfl (step_alloc rfl) rfl rfl ?_; rintro _ ⟨b206, rfl⟩)
 refine any_one (j := 10) (by kernel_rfl) ?_
 (refine one_imm (listed' := [tt,tt,tt,tt,tt,tt,tt,tt,tt,tt,tt,ff,ff,ff,tt,ff,ff]) rfl rfl hLam rfl rfl rfl (fun v G2 hle2 hh => ?_); obtain ⟨mt, mc, mx, rfl, hmr, hma, hms⟩ := hh; obtain ⟨p1, c1, e1, rfl, _⟩ := hmr.open; have htyN := htyM.mono hle2; cases mx)
 refine any_pure (i := 11) (listed' := [tt,tt,tt,tt,tt,tt,tt,tt,tt,tt,tt,tt,ff,ff,tt,ff,ff]) rfl npI (pure_move rfl) rfl (by kernel_rfl) rfl rfl ?_
 refine any_pure (i := 12) (listed' := [tt,tt,tt,tt,tt,tt,tt,tt,tt,tt,tt,tt,tt,ff,tt,ff,ff]) rfl npI (pure_extract rfl rfl) rfl (by kernel_rfl) rfl rfl ?_
 refine any_pure (i := 13) (listed' := [tt,tt,tt,tt,tt,tt,tt,tt,tt,tt,tt,tt,tt,tt,tt,ff,ff]) rfl npI (pure_extract rfl rfl) rfl (by kernel_rfl) rfl rfl ?_
 refine any_one (j := 15) (by kernel_rfl) ?_
 refine one_store (listed' := [tt,tt,tt,tt,tt,tt,tt,tt,tt,tt,tt,tt,tt,tt,tt,tt,ff]) rfl rfl rfl rfl rfl rfl rfl rfl (by kernel_rfl) (by repeat first | exact Sw.here | apply Sw.there) (by rfl) ?_
 refine any_pure (i := 16) (listed' := [tt,tt,tt,tt,tt,tt,tt,tt,tt,tt,tt,tt,tt,tt,tt,tt,tt]) rfl npI (pure_assign rfl) rfl (by kernel_rfl) rfl rfl ?_
 refine any_done (by kernel_rfl) ?_
 refine nrm_seq (tri_seq (tri_seq (tri_region (seq_pure (pure_move rfl) rfl rfl ?_))))
 refine seq_pure (pure_not_f rfl) rfl rfl ?_
 refine seq_done (nrm_seq (tri_cond_t rfl ?_))
 refine tri_seq (tri_region (seq_pure (pure_build rfl rfl) rfl rfl ?_))
 refine seq_store rfl rfl rfl rfl rfl rfl (by repeat first | exact Sw.here | apply Sw.there) (by rfl) ?_
 refine seq_pure (pure_assign rfl) rfl rfl ?_
 refine seq_done (nrm_seq (tri_ret (ret_seq (ret_block (ret_seq (ret_fin2 (res_cell rfl (load_ba rfl rfl (by repeat first | exact mH | apply mT) (by rfl))) (res_tmp rfl) ?_))))))
 (exact ⟨rfl, _, _, _, rfl, tyLeaf_r _ ⟨by omega, by omega⟩, tAr_leaf (by omega) (by omega), by rw [szLeaf]; omega⟩)
 refine any_pure (i := 11) (listed' := [tt,tt,tt,tt,tt,tt,tt,tt,tt,tt,tt,tt,ff,ff,tt,ff,ff]) rfl npI (pure_move rfl) rfl (by kernel_rfl) rfl rfl ?_
 refine any_pure (i := 12) (listed' := [tt,tt,tt,tt,tt,tt,tt,tt,tt,tt,tt,tt,tt,ff,tt,ff,ff]) rfl npI (pure_extract rfl rfl) rfl (by kernel_rfl) rfl rfl ?_
 refine any_pure (i := 13) (listed' := [tt,tt,tt,tt,tt,tt,tt,tt,tt,tt,tt,tt,tt,tt,tt,ff,ff]) rfl npI (pure_extract rfl rfl) rfl (by kernel_rfl) rfl rfl ?_
 refine any_one (j := 15) (by kernel_rfl) ?_
 refine one_store (listed' := [tt,tt,tt,tt,tt,tt,tt,tt,tt,tt,tt,tt,tt,tt,tt,tt,ff]) rfl rfl rfl rfl rfl rfl rfl rfl (by kernel_rfl) (by repeat first | exact Sw.here | apply Sw.there) (by rfl) ?_
 refine any_pure (i := 16) (listed' := [tt,tt,tt,tt,tt,tt,tt,tt,tt,tt,tt,tt,tt,tt,tt,tt,tt]) rfl npI (pure_assign rfl) rfl (by kernel_rfl) rfl rfl ?_
 refine any_done (by kernel_rfl) ?_
 refine nrm_seq (tri_seq (tri_seq (tri_region (seq_pure (pure_move rfl) rfl rfl ?_))))
 refine seq_pure (pure_not_t rfl) rfl rfl ?_
 refine seq_done (nrm_seq (tri_cond_f rfl ?_))
 refine tri_skip (nrm_seq (tri_seq (tri_region (seq_pure (pure_fieldAddr0 rfl) rfl rfl ?_))))
 refine seq_load (load_ba rfl rfl (by repeat first | exact mH | apply mT) (by rfl)) rfl rfl ?_
 refine seq_load (load_ba rfl rfl (by repeat first | exact mH | apply mT) (by rfl)) rfl rfl ?_
 (refine seq_imm rfl (l3Two_fn 4 (.mk tk tks) mt _ _ _ (.inl rfl) hta hma htyN hmr) rfl rfl (fun v G3 hle3 hh => ?_); obtain ⟨mt2, mc2, mx2, rfl, hmr2, hma2, hms2⟩ := hh; obtain ⟨p2, c2, e2, rfl, _⟩ := hmr2.open)
 refine seq_pure (pure_extract rfl rfl) rfl rfl ?_
 refine seq_pure (pure_extract rfl rfl) rfl rfl ?_
 refine seq_store rfl rfl rfl rfl rfl rfl (by repeat first | exact Sw.here | apply Sw.there) (by rfl) ?_
 refine seq_pure (pure_assign rfl) rfl rfl ?_
 refine seq_done (nrm_seq (tri_ret (ret_block (ret_seq (ret_fin2 (res_cell rfl (load_ba rfl rfl (by repeat first | exact mH | apply mT) (by rfl))) (res_tmp rfl) ?_)))))
 (exact ⟨rfl, _, _, _, rfl, hmr2, hma2, by omega⟩)
 (refine one_step0 (listed' := [tt,tt,tt,tt,tt,ff,tt,tt,tt,tt,ff,ff,ff,ff,tt,ff,ff]) rfl (step_alloc rfl) rfl rfl ?_; rintro _ ⟨b273, rfl⟩)
 refine any_one (j := 5) (by kernel_rfl) ?_
 (refine one_imm (listed' := [tt,tt,tt,tt,tt,tt,tt,tt,tt,tt,ff,ff,ff,ff,tt,ff,ff]) rfl rfl hMore rfl rfl rfl (fun v G1 hle1 hh => ?_); obtain ⟨pm, cm, rfl, hxm⟩ := hh; have hreM := hre.mono hle1; have hLam := ih ks[0] (List.getElem_mem (by omega)) (d + 1) G1 pm (n + 1) cm _ (hvk 0 (by omega)) (by omega) hxm hreM; have htyM := hty.mono hle1)
 refine any_one (j := 10) (by kernel_rfl) ?_
 (refine one_imm (listed' := [tt,tt,tt,tt,tt,tt,tt,tt,tt,tt,tt,ff,ff,ff,tt,ff,ff]) rfl rfl hLam rfl rfl rfl (fun v G2 hle2 hh => ?_); obtain ⟨mt, mc, mx, rfl, hmr, hma, hms⟩ := hh; obtain ⟨p1, c1, e1, rfl, _⟩ := hmr.open; have htyN := htyM.mono hle2; cases mx)
 refine any_pure (i := 11) (listed' := [tt,tt,tt,tt,tt,tt,tt,tt,tt,tt,tt,tt,ff,ff,tt,ff,ff]) rfl npI (pure_move rfl) rfl (by kernel_rfl) rfl rfl ?_
 refine any_pure (i := 12) (listed' := [tt,tt,tt,tt,tt,tt,tt,tt,tt,tt,tt,tt,tt,ff,tt,ff,ff]) rfl npI (pure_extract rfl rfl) rfl (by kernel_rfl) rfl rfl ?_
 refine any_pure (i := 13) (listed' := [tt,tt,tt,tt,tt,tt,tt,tt,tt,tt,tt,tt,tt,tt,tt,ff,ff]) rfl npI (pure_extract rfl rfl) rfl (by kernel_rfl) rfl rfl ?_
 refine any_one (j := 15) (by kernel_rfl) ?_
 refine one_store (listed' := [tt,tt,tt,tt,tt,tt,tt,tt,tt,tt,tt,tt,tt,tt,tt,tt,ff]) rfl rfl rfl rfl rfl rfl rfl rfl (by kernel_rfl) (by repeat first | exact Sw.here | apply Sw.there) (by rfl) ?_
 refine any_pure (i := 16) (listed' := [tt,tt,tt,tt,tt,tt,tt,tt,tt,tt,tt,tt,tt,tt,tt,tt,tt]) rfl npI (pure_assign rfl) rfl (by kernel_rfl) rfl rfl ?_
 refine any_done (by kernel_rfl) ?_
 refine nrm_seq (tri_seq (tri_seq (tri_region (seq_pure (pure_move rfl) rfl rfl ?_))))
 refine seq_pure (pure_not_f rfl) rfl rfl ?_
 refine seq_done (nrm_seq (tri_cond_t rfl ?_))
 refine tri_seq (tri_region (seq_pure (pure_build rfl rfl) rfl rfl ?_))
 refine seq_store rfl rfl rfl rfl rfl rfl (by repeat first | exact Sw.here | apply Sw.there) (by rfl) ?_
 refine seq_pure (pure_assign rfl) rfl rfl ?_
 refine seq_done (nrm_seq (tri_ret (ret_seq (ret_block (ret_seq (ret_fin2 (res_cell rfl (load_ba rfl rfl (by repeat first | exact mH | apply mT) (by rfl))) (res_tmp rfl) ?_))))))
 (exact ⟨rfl, _, _, _, rfl, tyLeaf_r _ ⟨by omega, by omega⟩, tAr_leaf (by omega) (by omega), by rw [szLeaf]; omega⟩)
 refine any_pure (i := 11) (listed' := [tt,tt,tt,tt,tt,tt,tt,tt,tt,tt,tt,tt,ff,ff,tt,ff,ff]) rfl npI (pure_move rfl) rfl (by kernel_rfl) rfl rfl ?_
 refine any_pure (i := 12) (listed' := [tt,tt,tt,tt,tt,tt,tt,tt,tt,tt,tt,tt,tt,ff,tt,ff,ff]) rfl npI (pure_extract rfl rfl) rfl (by kernel_rfl) rfl rfl ?_
 refine any_pure (i := 13) (listed' := [tt,tt,tt,tt,tt,tt,tt,tt,tt,tt,tt,tt,tt,tt,tt,ff,ff]) rfl npI (pure_extract rfl rfl) rfl (by kernel_rfl) rfl rfl ?_
 refine any_one (j := 15) (by kernel_rfl) ?_
 refine one_store (listed' := [tt,tt,tt,tt,tt,tt,tt,tt,tt,tt,tt,tt,tt,tt,tt,tt,ff]) rfl rfl rfl rfl rfl rfl rfl rfl (by kernel_rfl) (by repeat first | exact Sw.here | apply Sw.there) (by rfl) ?_
 refine any_pure (i := 16) (listed' := [tt,tt,tt,tt,tt,tt,tt,tt,tt,tt,tt,tt,tt,tt,tt,tt,tt]) rfl npI (pure_assign rfl) rfl (by kernel_rfl) rfl rfl ?_
 refine any_done (by kernel_rfl) ?_
 refine nrm_seq (tri_seq (tri_seq (tri_region (seq_pure (pure_move rfl) rfl rfl ?_))))
 refine seq_pure (pure_not_t rfl) rfl rfl ?_
 refine seq_done (nrm_seq (tri_cond_f rfl ?_))
 refine tri_skip (nrm_seq (tri_seq (tri_region (seq_pure (pure_fieldAddr0 rfl) rfl rfl ?_))))
 refine seq_load (load_ba rfl rfl (by repeat first | exact mH | apply mT) (by rfl)) rfl rfl ?_
 refine seq_load (load_ba rfl rfl (by repeat first | exact mH | apply mT) (by rfl)) rfl rfl ?_
 (refine seq_imm rfl (l3Two_fn 4 (.mk tk tks) mt _ _ _ (.inl rfl) hta hma htyN hmr) rfl rfl (fun v G3 hle3 hh => ?_); obtain ⟨mt2, mc2, mx2, rfl, hmr2, hma2, hms2⟩ := hh; obtain ⟨p2, c2, e2, rfl, _⟩ := hmr2.open)
 refine seq_pure (pure_extract rfl rfl) rfl rfl ?_
 refine seq_pure (pure_extract rfl rfl) rfl rfl ?_
 refine seq_store rfl rfl rfl rfl rfl rfl (by repeat first | exact Sw.here | apply Sw.there) (by rfl) ?_
 refine seq_pure (pure_assign rfl) rfl rfl ?_
 refine seq_done (nrm_seq (tri_ret (ret_block (ret_seq (ret_fin2 (res_cell rfl (load_ba rfl rfl (by repeat first | exact mH | apply mT) (by rfl))) (res_tmp rfl) ?_)))))
 (exact ⟨rfl, _, _, _, rfl, hmr2, hma2, by omega⟩)
 refine seq_pure (pure_assign rfl) rfl rfl ?_
 refine seq_done (nrm_seq (tri_cond_f rfl ?_))
 refine tri_skip (nrm_block (nrm_seq (tri_seq (tri_region ?_))))
 (refine seq_step (step_buildSlice rfl rfl rfl (by omega) (by unfold maxLen; omega) rfl) rfl ?_; rintro _ ⟨b351, rfl⟩)
 refine seq_pure (pure_assign rfl) rfl rfl ?_
 refine seq_done (nrm_seq (tri_seq (tri_seq (tri_region (seq_pure (pure_assign rfl) rfl rfl ?_)))))
 refine seq_done (nrm_seq (tri_block ?_))
 (refine tri_loopN (fun (x : Nat × Option Addr × Nat × List Ty × List (List Value) × IM) => ⟨[(9, .int .i64 x.1), (8, .slice x.2.1 x.1 x.2.2.1), (3, .pointer (some ⟨b3, 0, none⟩)), (4, .pointer (some ⟨b4, 0, none⟩)), (0, .slice p n c)], [.slc x.2.1 x.2.2.1 25 2 x.1 x.2.2.2.2.1.flatten, .blk b4 [.int .i64 0, .slice none 0 0], .blk b3 [.int .i64 k, .string nm, .int .i64 num, .int .i64 tk, .slice pt tks.length ct, .int .i64 fk, .slice pf fks.length cf, .int .i64 lb, .slice q ks.length cq]], x.2.2.2.2.2⟩) (fun x => x.1 ≤ ks.length ∧ IMle G x.2.2.2.2.2 ∧ x.2.2.2.1.length = x.1 ∧ RTyL x.2.2.2.2.2 x.2.2.2.1 x.2.2.2.2.1 ∧ (∀ u ∈ x.2.2.2.1, tAr u) ∧ sumTy x.2.2.2.1 ≤ 32 * (tmCountL (ks.take x.1) : Int)) (fun x => ks.length - x.1) (0, some ⟨b351, 0, none⟩, 0, [], [], G) ?_ ?_ ?_)
 (simp only [flat_snoc]; exact sub_mk (by repeat (first | exact SubE.nil | refine SubE.cons rfl ?_)) (by repeat (first | exact SubH.refl | exact SubH.nil | refine SubH.cons (by repeat (first | exact Pk.here | apply Pk.there)) ?_ | apply SubH.drop)))
 (exact ⟨by simp, IMle.refl _, rfl, by simp [RTyL], by simp, by dsimp only; rw [sumTy]; omega⟩)
 (rintro ⟨i, pn, cn, us, es', Gi⟩ ⟨hi, hle, hlu, hst, hau, hsu⟩; simp only [] at hi hle hlu hst hau hsu ⊢; replace hsl := hsl.mono hle; replace hkl := hkl.mono hle; replace hx := hx.mono hle; replace hr0 := hr0.mono hle)
 refine tri_seq (tri_seq (tri_region (seq_pure (pure_move rfl) rfl rfl ?_)))
 refine seq_pure (pure_fieldAddr0 rfl) rfl rfl ?_
 refine seq_load (load_bs rfl rfl (by repeat first | exact mH | apply mT) (by rfl)) rfl rfl ?_
 refine seq_pure (pure_len rfl rfl) rfl rfl ?_
 refine seq_bool (pure_lss rfl rfl) rfl rfl (fun h373 => ?_) (fun h373 => ?_)
 refine seq_done (nrm_seq (tri_cond_t rfl ?_))
 refine tri_skip (nrm_seq (tri_seq (tri_block (tri_seq (tri_region (seq_pure (pure_move rfl) rfl rfl ?_))))))
 refine seq_pure (pure_fieldAddr0 rfl) rfl rfl ?_
 refine seq_load (load_bs rfl rfl (by repeat first | exact mH | apply mT) (by rfl)) rfl rfl ?_
 refine seq_pure (pure_move rfl) rfl rfl ?_
 (obtain ⟨b, o, e, rfl, hl, hat, hre, hgb⟩ := hsl.kidTm hkl (i := i) (by omega) (by omega); have hsc := tmCountL_succ (ks := ks) (i := i) (by omega); refine seq_pure (pure_indexAddrN rfl rfl rfl (by omega)) rfl rfl ?_)
 refine seq_load (load_a rfl rfl (hat _) hl) rfl rfl ?_
 (refine seq_imm rfl (ih ks[i] (List.getElem_mem (by omega)) (d + 1) Gi p n c _ (hvk i (by omega)) (by omega) hx hre) rfl rfl (fun v G2 hle2 hh => ?_); obtain ⟨u, uc, mx, rfl, hru, hua, hus⟩ := hh; obtain ⟨p3, c3, e3, rfl, _⟩ := hru.open; cases mx)
 refine seq_pure (pure_move rfl) rfl rfl ?_
 refine seq_pure (pure_extract rfl rfl) rfl rfl ?_
 refine seq_pure (pure_extract rfl rfl) rfl rfl ?_
 (refine seq_step (step_alloc rfl) rfl ?_; rintro _ ⟨b393, rfl⟩)
 refine seq_store rfl rfl rfl rfl rfl rfl (by repeat first | exact Sw.here | apply Sw.there) (by rfl) ?_
 refine seq_pure (pure_assign rfl) rfl rfl ?_
 refine seq_done (nrm_seq (tri_seq (tri_seq (tri_region (seq_pure (pure_move rfl) rfl rfl ?_)))))
 refine seq_pure (pure_not_f rfl) rfl rfl ?_
 refine seq_done (nrm_seq (tri_cond_t rfl ?_))
 refine tri_seq (tri_region (seq_pure (pure_build rfl rfl) rfl rfl ?_))
 refine seq_store rfl rfl rfl rfl rfl rfl (by repeat first | exact Sw.here | apply Sw.there) (by rfl) ?_
 refine seq_pure (pure_assign rfl) rfl rfl ?_
 refine seq_done (nrm_seq (tri_ret (ret_seq (ret_block (ret_seq (ret_loopN ?_))))))
 refine ret_block (ret_seq (ret_fin2 (res_cell rfl (load_ba rfl rfl (by repeat first | exact mH | apply mT) (by rfl))) (res_tmp rfl) ?_))
 (exact ⟨rfl, _, _, _, rfl, tyLeaf_r _ ⟨by omega, by omega⟩, tAr_leaf (by omega) (by omega), by rw [szLeaf]; omega⟩)
 refine seq_pure (pure_move rfl) rfl rfl ?_
 refine seq_pure (pure_extract rfl rfl) rfl rfl ?_
 refine seq_pure (pure_extract rfl rfl) rfl rfl ?_
 (refine seq_step (step_alloc rfl) rfl ?_; rintro _ ⟨b425, rfl⟩)
 refine seq_store rfl rfl rfl rfl rfl rfl (by repeat first | exact Sw.here | apply Sw.there) (by rfl) ?_
 refine seq_pure (pure_assign rfl) rfl rfl ?_
 refine seq_done (nrm_seq (tri_seq (tri_seq (tri_region (seq_pure (pure_move rfl) rfl rfl ?_)))))
 refine seq_pure (pure_not_t rfl) rfl rfl ?_
 refine seq_done (nrm_seq (tri_cond_f rfl ?_))
 refine tri_skip (nrm_seq (tri_region (seq_pure (pure_move rfl) rfl rfl ?_)))
 refine seq_load (load_ba rfl rfl (by repeat first | exact mH | apply mT) (by rfl)) rfl rfl ?_
 (refine seq_step (step_buildSlice rfl rfl rfl (by omega) (by unfold maxLen; omega) rfl) rfl ?_; rintro _ ⟨b443, rfl⟩)
 refine seq_append rfl rfl rfl rfl rfl (fun _ _ => by repeat (first | exact Sw.here | apply Sw.there)) (at_slc_all (by repeat first | exact mH | apply mT)) rfl (by simp [Value.oneCell']) (by unfold maxLen; omega) (by omega) rfl (fun pn' cn' => ?_)
 refine seq_pure (pure_assign rfl) rfl rfl ?_
 refine seq_done (nrm_block (nrm_seq (tri_region (seq_pure (pure_move rfl) rfl rfl ?_))))
 refine seq_pure (pure_add rfl rfl (by omega) (by omega)) rfl rfl ?_
 refine seq_pure (pure_assign rfl) rfl rfl ?_
 refine seq_done (nrm_loopN (i + 1, pn', cn', us ++ [u], es' ++ [[.int .i64 u.k, .slice p3 u.ks.length c3]], G2) ?_ ?_ ?_)
 (simp only [flat_snoc]; exact sub_mk (by repeat (first | exact SubE.nil | refine SubE.cons rfl ?_)) (by repeat (first | exact SubH.refl | exact SubH.nil | refine SubH.cons (by repeat (first | exact Pk.here | apply Pk.there)) ?_ | apply SubH.drop)))
 (dsimp only; exact ⟨by omega, hle.trans hle2, by simp [hlu], RTyL.snoc (hst.mono hle2) hru, forall_snoc hau hua, by rw [sumTy_snoc]; omega⟩)
 (show ks.length - (i + 1) < ks.length - i; omega)
 refine seq_done (nrm_seq (tri_cond_f rfl ?_))
 refine tri_exit ?_
 refine ext_seq ?_
 refine ext_loopN ?_
 refine ext_block_eq ?_
 refine nrm_seq (tri_seq (tri_region (seq_load (load_ba rfl rfl (by repeat first | exact mH | apply mT) (by rfl)) rfl rfl ?_)))
 refine seq_pure (pure_move rfl) rfl rfl ?_
 (obtain rfl : i = ks.length := (by omega); refine triL_freeze (cs := es'.flatten) (by repeat (first | exact Pk.here | apply Pk.there)) (fun G3 hle3 hsl3 hno3 => ?_); have hst3 := hst.mono hle3; have hRes := l3Result_fn k nm num (.mk tk tks) (.mk fk fks) lb ks us G3 _ pn cn es' (by rw [hlu]; exact har) ⟨hta, hts⟩ (hr0.mono hle3) (by rw [hlu]; exact SlE.of hsl3 (by rw [hst3.len, hlu]) hst3.all (fun e he => (hst3.each e he).2)) hst3 hau; rw [hlu] at hRes; refine seq_imm rfl hRes rfl rfl (fun v G4 hle4 hh => ?_); obtain ⟨mt, mc, mx, rfl, hmr, hma, hms⟩ := hh; obtain ⟨p1, c1, e1, rfl, _⟩ := hmr.open; rw [List.take_length] at hsu)
 refine seq_pure (pure_extract rfl rfl) rfl rfl ?_
 refine seq_pure (pure_extract rfl rfl) rfl rfl ?_
 refine seq_store rfl rfl rfl rfl rfl rfl (by repeat first | exact Sw.here | apply Sw.there) (by rfl) ?_
 refine seq_pure (pure_assign rfl) rfl rfl ?_
 refine seq_done (nrm_seq (tri_ret (ret_fin2 (res_cell rfl (load_ba rfl rfl (by repeat first | exact mH | apply mT) (by rfl))) (res_tmp rfl) ?_)))
 (exact ⟨rfl, _, _, _, rfl, hmr, hma, by omega⟩)
end Gw
end Go.Proofs.YtgclbnfdlddpnaaGreat
namespace Go.Proofs.YtgclbnfdlddpnaaGreat
open Go Go.RowKit
namespace Gw
theorem RTm.of9 {G : IM} {k : Int} {nm : ByteArray} {num tk fk : Int} {tks fks : List Ty} {lb : Int} {ks : List Tm} {q1 q2 q3 : Option Addr} {c1 c2 c3 : Nat} {es : List (List Value)} (hk : I64 k) (hnum : I64 num) (hlb : I64 lb) (hty : RTy G (.mk tk tks) [.int .i64 tk, .slice q1 tks.length c1])
  (hfr : RTy G (.mk fk fks) [.int .i64 fk, .slice q2 fks.length c2]) (hsl : SlE G q3 ks.length c3 9 es) (hkl : RTmL G ks es) :
  RTm G (.mk k nm num (.mk tk tks) (.mk fk fks) lb ks) [.int .i64 k, .string nm, .int .i64 num, .int .i64 tk, .slice q1 tks.length c1, .int .i64 fk, .slice q2 fks.length c2, .int .i64 lb, .slice q3 ks.length c3] := by
 simp only [RTm]
 exact ⟨_, _, q3, c3, es, rfl, hk, hnum, hlb, hty, hfr, hsl, hkl⟩
theorem small9 {k k' : Int} {nm nm' : ByteArray} {num num' : Int} {ty fr ty' fr' : Ty} {lb lb' : Int} {ks : List Tm} (h : (Tm.mk k nm num ty fr lb ks).small) (h1 : nm'.size ≤ 4294967296) (h2 : ty'.small) (h3 : fr'.small) : (Tm.mk k' nm' num' ty' fr' lb' ks).small := by
 simp only [Tm.small] at h ⊢
 exact ⟨h1, h2, h3, h.2.2.2⟩
/-- A term that is not too big to be worked on. -/
def Tm.fit (t : Tm) (N : Nat) : Prop := t.small ∧ tmCount t ≤ N
set_option maxHeartbeats 0 in
set_option maxRecDepth 100000 in
theorem l2Mutate_fn (br : Nat) (pb : Option Addr) (nb cb : Nat) (bs : List UInt8) (hnb : nb ≤ 2000) (p : Nat) (G : IM) (hb : Sl G pb nb cb 1 (byts bs)) (hp : p + 100 < 1099511627776) (t : Tm) (cells : List Value) (N : Nat) (hfit : t.fit N) (hr : RTm G t cells) :
  Fn Tryz.prog 60 [.pointer (some ⟨br, 0, none⟩), .agg ⟨cells⟩] [rd br pb nb cb p] G
   (Drew br pb nb cb p 40 (fun G' v => ∃ t cells, v = .agg ⟨cells⟩ ∧ RTm G' t cells ∧ t.fit N)) := by
 have hl := hr.len
 have hone := hr.one
 obtain ⟨k, nm, num, ⟨tk, tks⟩, ⟨fk, fks⟩, lb, ks⟩ := t
 have hfit0 := hfit
 obtain ⟨hsm, hcn⟩ := hfit0
 replace hfit : (Tm.mk k nm num (.mk tk tks) (.mk fk fks) lb ks).small ∧ tmCount (Tm.mk k nm num (.mk tk tks) (.mk fk fks) lb ks) ≤ N := hfit
 rw [show (Tm.mk k nm num (.mk tk tks) (.mk fk fks) lb ks).small = (nm.size ≤ 4294967296 ∧ (Ty.mk tk tks).small ∧ (Ty.mk fk fks).small ∧ ks.length ≤ 4294967296 ∧ Tm.smallL ks) from by rw [Tm.small]] at hfit
 refine fn_enter Tryz.func60 rfl Tryz.ntmps60 Tryz.results60 rfl ?_
 intro w0
 refine tri_seq (tri_region ?_)
 (refine seq_step (step_box_a rfl rfl) rfl ?_; rintro _ ⟨b3, rfl⟩)
 (refine seq_step (step_alloc rfl) rfl ?_; rintro _ ⟨b4, rfl⟩)
 refine seq_done (nrm_seq (tri_seq (tri_region (seq_load (load_a rfl rfl (at_blk_all (by repeat first | exact mH | apply mT)) (by assumption)) rfl rfl ?_))))
 (refine seq_imm rfl (l2Copy_fn _ G cells hsm hr) rfl rfl (fun v G1 hle1 hh => ?_); obtain ⟨cells1, F1, rfl, hs1, hn1⟩ := hh; have hr1 := hs1.R.mono (Dif.le G1 G); obtain ⟨q1, c1, q2, c2, q3, c3, es, rfl, hk, hnum, hlb, hty, hfr, hsl, hkl⟩ := hr1.open9)
 (refine seq_step (step_alloc rfl) rfl ?_; rintro _ ⟨b11, rfl⟩)
 refine seq_store rfl rfl rfl rfl rfl rfl (by repeat first | exact Sw.here | apply Sw.there) (by rfl) ?_
 refine seq_done (nrm_seq (tri_seq (tri_seq (tri_region (seq_pure (pure_move rfl) rfl rfl ?_)))))
 (refine seq_take rfl (pick_fn _ br pb nb cb p bs 50 (hb.mono hle1) hnb (by omega)) (Pk.perm (by repeat (first | exact Pk.here | apply Pk.there))) rfl rfl (fun v G2 outs hle2 hh => ?_); obtain ⟨rfl, rfl, j, rfl, hj0, hj1⟩ := hh; replace hb := hb.mono hle1)
 refine seq_done (nrm_seq ?_)
 (show Tri _ _ (.block 0 _) _ _; refine tri_cut (fun (x : List Value × Nat × IM) => ⟨[(5, .pointer (some ⟨b11, 0, none⟩)), (4, .pointer (some ⟨b4, 0, none⟩))], [.blk b11 x.1, .blk b4 [.int .i64 0, .string ⟨⟨[]⟩⟩, .int .i64 0, .int .i64 0, .slice none 0 0, .int .i64 0, .slice none 0 0, .int .i64 0, .slice none 0 0], rd br pb nb cb x.2.1], x.2.2⟩) (fun x => IMle G2 x.2.2 ∧ p ≤ x.2.1 ∧ x.2.1 ≤ p + 40 ∧ ∃ t, RTm x.2.2 t x.1 ∧ t.small ∧ tmCount t = tmCount (.mk k nm num (.mk tk tks) (.mk fk fks) lb ks)) ?_ ?_)
 refine tri_block (tri_seq (tri_region (seq_bool (pure_eql rfl rfl) rfl rfl (fun h26 => ?_) (fun h26 => ?_))))
 refine seq_pure (pure_assign rfl) rfl rfl ?_
 refine seq_done (nrm_seq (tri_cond_t rfl ?_))
 refine tri_region (seq_pure (pure_move rfl) rfl rfl ?_)
 (refine seq_step (step_buildSlice rfl rfl rfl (by omega) (by unfold maxLen; omega) rfl) rfl ?_; rintro _ ⟨b33, rfl⟩)
 (refine triL_freeze (by repeat (first | exact Pk.here | apply Pk.there)) (fun G4 hle4 hsl4 _ => ?_); refine seq_take rfl (num_fn G4 br pb nb cb (p + 1) bs _ _ _ _ (hb.mono hle4) hnb (by omega) hsl4 (by decide)) (Pk.perm (by repeat (first | exact Pk.here | apply Pk.there))) rfl rfl (fun v G5 outs hle5 hh => ?_); obtain ⟨rfl, rfl, hv⟩ := hh; obtain ⟨k', rfl, hk'⟩ : ∃ k', v = .int .i64 k' ∧ I64 k' := (by simp only [List.mem_cons, List.not_mem_nil, or_false] at hv; rcases hv with rfl | rfl | rfl | rfl | rfl | rfl <;> exact ⟨_, rfl, by unfold I64; omega⟩))
 refine seq_pure (pure_fieldAddr0 rfl) rfl rfl ?_
 refine seq_store rfl rfl rfl rfl rfl rfl (by repeat first | exact Sw.here | apply Sw.there) (by rfl) ?_
 refine seq_done (nrm_block (nrm_cut ([.int .i64 k', .string nm, .int .i64 num, .int .i64 tk, .slice q1 tks.length c1, .int .i64 fk, .slice q2 fks.length c2, .int .i64 lb, .slice q3 ks.length c3], p + 1 + 1, G5) (sub_mk (by repeat (first | exact SubE.nil | refine SubE.cons rfl ?_)) (by repeat (first | exact SubH.refl | exact SubH.nil | refine SubH.cons (by repeat (first | exact Pk.here | apply Pk.there)) ?_ | apply SubH.drop))) ?_))
 (dsimp only; exact ⟨hle4, by omega, by omega, _, RTm.of9 hk' hnum hlb (hty.mono hle4) (hfr.mono hle4) (hsl.mono hle4) (hkl.mono hle4), small9 hsm hfit.1.1 hfit.1.2.1 hfit.1.2.2.1, rfl⟩)
 refine seq_pure (pure_assign rfl) rfl rfl ?_
 refine seq_done (nrm_seq (tri_cond_f rfl ?_))
 refine tri_seq (tri_region (seq_bool (pure_eql rfl rfl) rfl rfl (fun h47 => ?_) (fun h47 => ?_)))
 refine seq_pure (pure_assign rfl) rfl rfl ?_
 refine seq_done (nrm_seq (tri_cond_t rfl ?_))
 refine tri_region (seq_pure (pure_move rfl) rfl rfl ?_)
 (refine seq_step (step_buildSlice rfl rfl rfl (by omega) (by unfold maxLen; omega) rfl) rfl ?_; rintro _ ⟨b54, rfl⟩)
 (refine triL_freeze (by repeat (first | exact Pk.here | apply Pk.there)) (fun G4 hle4 hsl4 _ => ?_); refine seq_take rfl (of_fn G4 br pb nb cb (p + 1) bs _ _ _ _ (hb.mono hle4) hnb (by omega) hsl4 (by decide)) (Pk.perm (by repeat (first | exact Pk.here | apply Pk.there))) rfl rfl (fun v G5 outs hle5 hh => ?_); obtain ⟨rfl, rfl, hv⟩ := hh; obtain ⟨nm', rfl, hnm'⟩ : ∃ nm', v = .string nm' ∧ nm'.size ≤ 2 := (by simp only [List.mem_cons, List.not_mem_nil, or_false] at hv; rcases hv with rfl | rfl | rfl | rfl <;> exact ⟨_, rfl, by decide⟩))
 refine seq_pure (pure_fieldAddr0 rfl) rfl rfl ?_
 refine seq_store rfl rfl rfl rfl rfl rfl (by repeat first | exact Sw.here | apply Sw.there) (by rfl) ?_
 refine seq_done (nrm_block (nrm_cut ([.int .i64 k, .string nm', .int .i64 num, .int .i64 tk, .slice q1 tks.length c1, .int .i64 fk, .slice q2 fks.length c2, .int .i64 lb, .slice q3 ks.length c3], p + 1 + 1, G5) (sub_mk (by repeat (first | exact SubE.nil | refine SubE.cons rfl ?_)) (by repeat (first | exact SubH.refl | exact SubH.nil | refine SubH.cons (by repeat (first | exact Pk.here | apply Pk.there)) ?_ | apply SubH.drop))) ?_))
 (dsimp only; exact ⟨hle4, by omega, by omega, _, RTm.of9 hk hnum hlb (hty.mono hle4) (hfr.mono hle4) (hsl.mono hle4) (hkl.mono hle4), small9 hsm (by omega) hfit.1.2.1 hfit.1.2.2.1, rfl⟩)
 refine seq_pure (pure_assign rfl) rfl rfl ?_
 refine seq_done (nrm_seq (tri_cond_f rfl ?_))
 refine tri_seq (tri_region (seq_bool (pure_eql rfl rfl) rfl rfl (fun h68 => ?_) (fun h68 => ?_)))
 refine seq_pure (pure_assign rfl) rfl rfl ?_
 refine seq_done (nrm_seq (tri_cond_t rfl ?_))
 refine tri_region (seq_pure (pure_move rfl) rfl rfl ?_)
 (refine seq_step (step_buildSlice rfl rfl rfl (by omega) (by unfold maxLen; omega) rfl) rfl ?_; rintro _ ⟨b75, rfl⟩)
 (refine triL_freeze (by repeat (first | exact Pk.here | apply Pk.there)) (fun G4 hle4 hsl4 _ => ?_); refine seq_take rfl (num_fn G4 br pb nb cb (p + 1) bs _ _ _ _ (hb.mono hle4) hnb (by omega) hsl4 (by decide)) (Pk.perm (by repeat (first | exact Pk.here | apply Pk.there))) rfl rfl (fun v G5 outs hle5 hh => ?_); obtain ⟨rfl, rfl, hv⟩ := hh; obtain ⟨k', rfl, hk'⟩ : ∃ k', v = .int .i64 k' ∧ I64 k' := (by simp only [List.mem_cons, List.not_mem_nil, or_false] at hv; rcases hv with rfl | rfl | rfl | rfl | rfl | rfl <;> exact ⟨_, rfl, by unfold I64; omega⟩))
 refine seq_pure (pure_fieldAddr0 rfl) rfl rfl ?_
 refine seq_store rfl rfl rfl rfl rfl rfl (by repeat first | exact Sw.here | apply Sw.there) (by rfl) ?_
 refine seq_done (nrm_block (nrm_cut ([.int .i64 k, .string nm, .int .i64 k', .int .i64 tk, .slice q1 tks.length c1, .int .i64 fk, .slice q2 fks.length c2, .int .i64 lb, .slice q3 ks.length c3], p + 1 + 1, G5) (sub_mk (by repeat (first | exact SubE.nil | refine SubE.cons rfl ?_)) (by repeat (first | exact SubH.refl | exact SubH.nil | refine SubH.cons (by repeat (first | exact Pk.here | apply Pk.there)) ?_ | apply SubH.drop))) ?_))
 (dsimp only; exact ⟨hle4, by omega, by omega, _, RTm.of9 hk hk' hlb (hty.mono hle4) (hfr.mono hle4) (hsl.mono hle4) (hkl.mono hle4), small9 hsm hfit.1.1 hfit.1.2.1 hfit.1.2.2.1, rfl⟩)
 refine seq_pure (pure_assign rfl) rfl rfl ?_
 refine seq_done (nrm_seq (tri_cond_f rfl ?_))
 refine tri_seq (tri_region (seq_bool (pure_eql rfl rfl) rfl rfl (fun h89 => ?_) (fun h89 => ?_)))
 refine seq_pure (pure_assign rfl) rfl rfl ?_
 refine seq_done (nrm_seq (tri_cond_t rfl ?_))
 refine tri_region (seq_pure (pure_move rfl) rfl rfl ?_)
 refine seq_pure (pure_move rfl) rfl rfl ?_
 (refine seq_take rfl (l1Type_fn br pb nb cb bs hnb (p + 1) _ hb (by omega)) (Pk.perm (by repeat (first | exact Pk.here | apply Pk.there))) rfl rfl (fun v G3 outs hle3 hh => ?_); obtain ⟨p3, hp31, hp32, rfl, t3, cells3, rfl, hr3, hs3⟩ := hh)
 (refine seq_take rfl (l1Mutate_fn br pb nb cb bs hnb p3 _ (hb.mono hle3) (by omega) t3 cells3 hr3 hs3) (Pk.perm (by repeat (first | exact Pk.here | apply Pk.there))) rfl rfl (fun v G4 outs hle4 hh => ?_); obtain ⟨p4, hp41, hp42, rfl, t4, cells4, rfl, hr4, hs4⟩ := hh; have hts4 := small_ty t4 (by omega); obtain ⟨t4k, t4s⟩ := t4; obtain ⟨q4, c4, es4, rfl, _⟩ := hr4.open; have hle24 := hle3.trans hle4)
 refine seq_pure (pure_fieldAddr0 rfl) rfl rfl ?_
 refine seq_store rfl rfl rfl rfl rfl rfl (by repeat first | exact Sw.here | apply Sw.there) (by rfl) ?_
 refine seq_done (nrm_block (nrm_cut ([.int .i64 k, .string nm, .int .i64 num, .int .i64 t4k, .slice q4 t4s.length c4, .int .i64 fk, .slice q2 fks.length c2, .int .i64 lb, .slice q3 ks.length c3], p4, G4) (sub_mk (by repeat (first | exact SubE.nil | refine SubE.cons rfl ?_)) (by repeat (first | exact SubH.refl | exact SubH.nil | refine SubH.cons (by repeat (first | exact Pk.here | apply Pk.there)) ?_ | apply SubH.drop))) ?_))
 (dsimp only; exact ⟨hle24, by omega, by omega, _, RTm.of9 hk hnum hlb hr4 (hfr.mono hle24) (hsl.mono hle24) (hkl.mono hle24), small9 hsm hfit.1.1 hts4 hfit.1.2.2.1, rfl⟩)
 refine seq_pure (pure_assign rfl) rfl rfl ?_
 refine seq_done (nrm_seq (tri_cond_f rfl ?_))
 refine tri_seq (tri_region (seq_bool (pure_eql rfl rfl) rfl rfl (fun h111 => ?_) (fun h111 => ?_)))
 refine seq_pure (pure_assign rfl) rfl rfl ?_
 refine seq_done (nrm_seq (tri_cond_t rfl ?_))
 refine tri_region (seq_pure (pure_fieldAddr0 rfl) rfl rfl ?_)
 refine seq_store rfl rfl rfl rfl rfl rfl (by repeat first | exact Sw.here | apply Sw.there) (by rfl) ?_
 refine seq_done (nrm_block (nrm_cut ([.int .i64 k, .string nm, .int .i64 num, .int .i64 tk, .slice q1 tks.length c1, .int .i64 fk, .slice q2 fks.length c2, .int .i64 1, .slice q3 ks.length c3], p + 1, G2) (sub_mk (by repeat (first | exact SubE.nil | refine SubE.cons rfl ?_)) (by repeat (first | exact SubH.refl | exact SubH.nil | refine SubH.cons (by repeat (first | exact Pk.here | apply Pk.there)) ?_ | apply SubH.drop))) ?_))
 (dsimp only; exact ⟨IMle.refl _, by omega, by omega, _, RTm.of9 hk hnum ⟨by omega, by omega⟩ hty hfr hsl hkl, small9 hsm hfit.1.1 hfit.1.2.1 hfit.1.2.2.1, rfl⟩)
 refine seq_pure (pure_assign rfl) rfl rfl ?_
 refine seq_done (nrm_seq (tri_cond_f rfl ?_))
 refine tri_seq (tri_region (seq_bool (pure_eql rfl rfl) rfl rfl (fun h129 => ?_) (fun h129 => ?_)))
 refine seq_pure (pure_assign rfl) rfl rfl ?_
 refine seq_done (nrm_seq (tri_cond_t rfl ?_))
 refine tri_region (seq_val rfl ((l1Any_fn _)) rfl rfl ?_)
 refine seq_pure (pure_fieldAddr0 rfl) rfl rfl ?_
 refine seq_store rfl rfl rfl rfl rfl rfl (by repeat first | exact Sw.here | apply Sw.there) (by rfl) ?_
 refine seq_done (nrm_block (nrm_cut ([.int .i64 k, .string nm, .int .i64 num, .int .i64 tk, .slice q1 tks.length c1, .int .i64 1, .slice none 0 0, .int .i64 lb, .slice q3 ks.length c3], p + 1, G2) (sub_mk (by repeat (first | exact SubE.nil | refine SubE.cons rfl ?_)) (by repeat (first | exact SubH.refl | exact SubH.nil | refine SubH.cons (by repeat (first | exact Pk.here | apply Pk.there)) ?_ | apply SubH.drop))) ?_))
 (dsimp only; exact ⟨IMle.refl _, by omega, by omega, _, RTm.of9 hk hnum hlb hty (tyAny_r _) hsl hkl, small9 hsm hfit.1.1 hfit.1.2.1 (by simp [Ty.small, Ty.smallL]), rfl⟩)
 refine seq_pure (pure_assign rfl) rfl rfl ?_
 refine seq_done (nrm_seq (tri_cond_f rfl ?_))
 refine tri_skip (nrm_block (nrm_cut ([.int .i64 k, .string nm, .int .i64 num, .int .i64 tk, .slice q1 tks.length c1, .int .i64 fk, .slice q2 fks.length c2, .int .i64 lb, .slice q3 ks.length c3], p + 1, G2) (sub_mk (by repeat (first | exact SubE.nil | refine SubE.cons rfl ?_)) (by repeat (first | exact SubH.refl | exact SubH.nil | refine SubH.cons (by repeat (first | exact Pk.here | apply Pk.there)) ?_ | apply SubH.drop))) ?_))
 (dsimp only; exact ⟨IMle.refl _, by omega, by omega, _, RTm.of9 hk hnum hlb hty hfr hsl hkl, small9 hsm hfit.1.1 hfit.1.2.1 hfit.1.2.2.1, rfl⟩)
 (rintro ⟨cells9, p9, G9⟩ ⟨hle9, hp9, hp9', t9, hr9, hs9, hc9⟩; simp only [] at hle9 hp9 hp9' hr9 hs9 hc9 ⊢; have hl9 := hr9.len; have ho9 := hr9.one)
 refine tri_seq (tri_region (seq_load (load_a rfl rfl (at_blk_all (by repeat first | exact mH | apply mT)) hl9) rfl rfl ?_))
 refine seq_store rfl rfl rfl hl9 ho9 rfl (by repeat first | exact Sw.here | apply Sw.there) (by exact upd_all hl9.symm) ?_
 refine seq_done (nrm_seq (tri_ret (ret_own1 (outs := [rd br pb nb cb p9]) (res_cell rfl (load_a rfl rfl (at_blk_all (by repeat first | exact mH | apply mT)) hl9)) (by repeat (first | exact SubH.nil | refine SubH.cons Pk.here ?_ | refine SubH.cons (Pk.there Pk.here) ?_ | refine SubH.cons (Pk.there (Pk.there Pk.here)) ?_ | apply SubH.drop)) ?_)))
 (exact ⟨p9, by omega, by omega, rfl, t9, cells9, rfl, hr9, hs9, by omega⟩)
end Gw
end Go.Proofs.YtgclbnfdlddpnaaGreat
namespace Go.Proofs.YtgclbnfdlddpnaaGreat
open Go Go.RowKit
namespace Gw
section slaw
variable {P : Program} {Γ : Ctx} {env : Env} {hp : List Ent} {G : IM} {ty : TypeId} {K : Po} {ops : Array Oper} {rest : List Oper}
theorem pure_slice_from {x y : Operand} {t el : TypeId} {i : TyR} {sz by' : Nat} {zs : List Value} [hI : TyI P t i] (hd' : i.desc = .slice el) [hE : TySz P el sz by' zs] {b o n c l : Nat}
  (hx : evo env x = some (.slice (some ⟨b, o, none⟩) n c)) (hy : evo env y = some (.int .i64 (l : Int))) (hl : l ≤ n) :
  PureOp P Γ ⟨env, hp, G⟩ (.slice t x (some y) none none) ty (.slice (some ⟨b, if c = l then o else o + l * sz, none⟩) (n - l) (c - l)) := by
 refine ⟨fun a _ hs _ _ _ _ w => ?_⟩
 have hu := hI.und
 rw [hd'] at hu
 obtain ⟨d, hE⟩ := hE.ok
 obtain ⟨inf, z, t1, t2, t3, _⟩ := run_tyI (P := P) (t := el)
 have e1 : a.eval x = _ := hs.evo hx
 have e2 : a.eval y = _ := hs.evo hy
 have hb : ∀ code, (Instr.sliceBound (.int .i64 (l : Int)) n code).run P w = .ok l w := fun code => by
  have := run_sliceBound (P := P) w .i64 (l : Int) n code (by omega) (by omega)
  simpa using this
 simp only [execOp, Option.map, e1, e2, Instr.sliceAt, Sem.run_bind, run_underlying hu, Result.andThen_ok, Instr.slice, Instr.sliceBounds, Sem.run_pure, hb, t3]
 by_cases h : c = l
 ·simp [h]
 ·simp [h, add_none]
theorem Sl.from {G : IM} {b o n c l sz : Nat} {cs : List Value} (h : Sl G (some ⟨b, o, none⟩) n c sz cs) (hl : l ≤ n) : Sl G (some ⟨b, if c = l then o else o + l * sz, none⟩) (n - l) (c - l) sz (cs.drop (l * sz)) := by
 obtain ⟨h1, h2, h3, h4⟩ := h
 refine ⟨by rw [List.length_drop, h1, Nat.sub_mul], by omega, by omega, ?_⟩
 by_cases h : c = l
 ·left; omega
 ·rcases h4 with h0 | ⟨b', o', full, he, hg, hv⟩
  ·left; omega
  ·right
   cases he
   rw [if_neg h]
   refine ⟨b, _, full, rfl, hg, fun j v hj => ?_⟩
   rw [List.getElem?_drop] at hj
   have := hv _ v hj
   rw [Nat.add_assoc]; exact this
/-- An own slice that is not empty is the head of its block. -/
theorem St.slc_open {a : Act} {w : World} {p : Option Addr} {c el sz n : Nat} {cs : List Value} {hp' : List Ent} (hs : St Γ ⟨env, hp, G⟩ a w) (hk : Pk hp (.slc p c el sz n cs) hp') (h0 : 0 < n) :
  ∃ b C, p = some ⟨b, 0, none⟩ ∧ n ≤ c ∧ c ≤ maxLen ∧ St Γ ⟨env, .blk b (cs ++ C) :: hp', G⟩ a w := by
 have hown : Own [.slc p c el sz n cs] G w := hs.res.own.of_mem hk.perm
 obtain ⟨hl, h⟩ := hown.ok _ List.mem_cons_self
 rcases h with ⟨hv, hn⟩ | ⟨g, cap, cur, hv, _, hg, hnc, hcm, hsz, ht⟩
 ·omega
 ·cases hv
  refine ⟨g, cur.toList.drop cs.length, rfl, hnc, hcm, ?_⟩
  have hcur : cur.toList = cs ++ cur.toList.drop cs.length := by
   have e : cs.length = n * sz := hl
   rw [e]
   conv => lhs; rw [← List.take_append_drop (n * sz) cur.toList, ht]
  have hr : Res [.slc (some ⟨g, 0, none⟩) c el sz n cs] G w [.blk g (cs ++ cur.toList.drop cs.length)] G w := by
   refine ⟨⟨hown.inn, ?_, by simp [Fp, Ent.fp], ?_⟩, Ext.refl _ _, IMle.refl _, fun _ _ h => .inl h, ?_, fun b l h h0 => absurd h (by rw [h0]; simp)⟩
   ·intro e he
    simp at he; subst he
    refine ⟨el, ?_⟩
    rw [← hcur]; simpa using hg
   ·intro b' hb; exact hown.disj b' (by simpa [Fp, Ent.fp, vfp] using hb)
   ·intro b' hb; exact .inr (by simpa [Fp, Ent.fp, vfp] using hb)
  exact ⟨hs.size, hs.nod, hs.env, by have := (hs.res.perm hk.perm).frame hr; simpa using this⟩
theorem triL_open {p : Option Addr} {c el sz n : Nat} {cs : List Value} {hp' : List Ent} (hk : Pk hp (.slc p c el sz n cs) hp') (h0 : 0 < n)
  (h : ∀ b C, p = some ⟨b, 0, none⟩ → n ≤ c → c ≤ maxLen → TriL P Γ ops rest K ⟨env, .blk b (cs ++ C) :: hp', G⟩) : TriL P Γ ops rest K ⟨env, hp, G⟩ :=
 ⟨fun a w hs => let ⟨b, C, h1, h2, h3, h4⟩ := hs.slc_open hk h0; (h b C h1 h2 h3).run a w h4⟩
end slaw
theorem flat_set {es : List (List Value)} {j : Nat} {vs : List Value} (hj : j < es.length) : (es.set j vs).flatten = (es.take j).flatten ++ (vs ++ (es.drop (j + 1)).flatten) := by
 rw [List.set_eq_take_append_cons_drop, if_pos hj]; simp
theorem flat_at {es : List (List Value)} {j : Nat} (hj : j < es.length) : es.flatten = (es.take j).flatten ++ (es[j] ++ (es.drop (j + 1)).flatten) := by
 have h := congrArg List.flatten (List.take_append_drop j es).symm
 rw [List.drop_eq_getElem_cons hj, List.flatten_append, List.flatten_cons] at h
 exact h
theorem upd_set {es : List (List Value)} {C vs : List Value} {j sz : Nat} (hj : j < es.length) (ha : ∀ e ∈ es, e.length = sz) (hv : vs.length = sz) : upd (es.flatten ++ C) (0 + j * sz) vs = some ((es.set j vs).flatten ++ C) := by
 have := upd_at (A := (es.take j).flatten) (B := es[j]) (C := (es.drop (j + 1)).flatten ++ C) (V := vs) (o := 0 + j * sz)
  (by rw [flat_len (fun e he => ha e (List.mem_of_mem_take he)), List.length_take]; rw [Nat.min_eq_left (by omega)]; omega) (by rw [ha _ (List.getElem_mem hj), hv])
 rw [flat_at hj, flat_set hj]
 simp only [List.append_assoc] at this ⊢
 exact this
theorem RTmL.set {G : IM} : ∀ {ks : List Tm} {es : List (List Value)} {j : Nat} {y : Tm} {v : List Value}, RTmL G ks es → RTm G y v → RTmL G (ks.set j y) (es.set j v)
 | [], es, j, y, v, h, h2 => by simp only [RTmL] at h; subst h; simp [RTmL]
 | t :: ts, es, 0, y, v, h, h2 => by
  simp only [RTmL] at h
  obtain ⟨a, r, rfl, h3, h4⟩ := h
  simp only [List.set_cons_zero, RTmL]
  exact ⟨v, r, rfl, h2, h4⟩
 | t :: ts, es, j + 1, y, v, h, h2 => by
  simp only [RTmL] at h
  obtain ⟨a, r, rfl, h3, h4⟩ := h
  simp only [List.set_cons_succ, RTmL]
  exact ⟨a, r.set j v, rfl, h3, RTmL.set h4 h2⟩
/- Data outside taken-back blocks. -/
theorem SlE.wo {G : IM} {B : List Nat} {p : Option Addr} {n c sz : Nat} {es : List (List Value)} (h : SlE G p n c sz es) (hB : ∀ b ∈ vfp p, b ∉ B) : SlE (Wo G B) p n c sz es := by
 refine ⟨?_, h.len, h.all, h.one⟩
 obtain ⟨h1, h2, h3, h4⟩ := h.sl
 refine ⟨h1, h2, h3, h4.imp id ?_⟩
 rintro ⟨b, o, full, rfl, e2, e3⟩
 exact ⟨b, o, full, rfl, by rw [Wo.at (hB b (by simp [vfp]))]; exact e2, e3⟩
mutual
theorem STy.wo {G : IM} {B : List Nat} : ∀ {t : Ty} {cells : List Value} {F : List Nat}, STy G t cells F → (∀ b ∈ F, b ∉ B) → STy (Wo G B) t cells F
 | .mk k ks, cells, F, h, hB => by
  simp only [STy] at h ⊢
  obtain ⟨p, c, es, Fs, h1, h2, h3, h4, rfl, h6⟩ := h
  exact ⟨p, c, es, Fs, h1, h2, h3.wo (fun b hb => hB b (List.mem_append_left _ hb)), STyL.wo h4 (fun b hb => hB b (List.mem_append_right _ hb)), rfl, fun b hb => by rw [Wo.at (hB b (List.mem_append_left _ hb))]; exact h6 b hb⟩
theorem STyL.wo {G : IM} {B : List Nat} : ∀ {ts : List Ty} {es : List (List Value)} {F : List Nat}, STyL G ts es F → (∀ b ∈ F, b ∉ B) → STyL (Wo G B) ts es F
 | [], es, F, h, _ => by simpa only [STyL] using h
 | t :: ts, es, F, h, hB => by
  simp only [STyL] at h ⊢
  obtain ⟨a, r, Fa, Fr, h1, h2, h3, rfl⟩ := h
  exact ⟨a, r, Fa, Fr, h1, STy.wo h2 (fun b hb => hB b (List.mem_append_left _ hb)), STyL.wo h3 (fun b hb => hB b (List.mem_append_right _ hb)), rfl⟩
end
mutual
theorem STm.wo {G : IM} {B : List Nat} : ∀ {t : Tm} {cells : List Value} {F : List Nat}, STm G t cells F → (∀ b ∈ F, b ∉ B) → STm (Wo G B) t cells F
 | .mk k nm num ty fr lb ks, cells, F, h, hB => by
  simp only [STm] at h ⊢
  obtain ⟨tc, fc, p, c, es, Ft, Ff, Fs, h1, h2, h3, h4, h5, h6, h7, h8, rfl, h10⟩ := h
  simp only [List.mem_append] at hB
  exact ⟨tc, fc, p, c, es, Ft, Ff, Fs, h1, h2, h3, h4, h5.wo (fun b hb => hB b (.inl hb)), h6.wo (fun b hb => hB b (.inr (.inl hb))), h7.wo (fun b hb => hB b (.inr (.inr (.inl hb)))), STmL.wo h8 (fun b hb => hB b (.inr (.inr (.inr hb)))), rfl,
   fun b hb => by rw [Wo.at (hB b (.inr (.inr (.inl hb))))]; exact h10 b hb⟩
theorem STmL.wo {G : IM} {B : List Nat} : ∀ {ts : List Tm} {es : List (List Value)} {F : List Nat}, STmL G ts es F → (∀ b ∈ F, b ∉ B) → STmL (Wo G B) ts es F
 | [], es, F, h, _ => by simpa only [STmL] using h
 | t :: ts, es, F, h, hB => by
  simp only [STmL] at h ⊢
  obtain ⟨a, r, Fa, Fr, h1, h2, h3, rfl⟩ := h
  exact ⟨a, r, Fa, Fr, h1, STm.wo h2 (fun b hb => hB b (List.mem_append_left _ hb)), STmL.wo h3 (fun b hb => hB b (List.mem_append_right _ hb)), rfl⟩
end
theorem STmL.set {G : IM} : ∀ {ks : List Tm} {es : List (List Value)} {F F' : List Nat} {j : Nat} {y : Tm} {v : List Value}, STmL G ks es F → STm G y v F' → j < ks.length →
  ∃ F2, STmL G (ks.set j y) (es.set j v) F2 ∧ (∀ x ∈ F2, x ∈ F ∨ x ∈ F') ∧ (F.Nodup → F'.Nodup → (∀ x ∈ F, x ∉ F') → F2.Nodup)
 | [], es, F, F', j, y, v, h, h2, hj => by simp at hj
 | t :: ts, es, F, F', 0, y, v, h, h2, hj => by
  simp only [STmL] at h
  obtain ⟨a, r, Fa, Fr, rfl, h3, h4, rfl⟩ := h
  refine ⟨F' ++ Fr, ?_, ?_, ?_⟩
  ·simp only [List.set_cons_zero, STmL]; exact ⟨v, r, F', Fr, rfl, h2, h4, rfl⟩
  ·intro x hx
   rcases List.mem_append.1 hx with hx | hx
   ·exact .inr hx
   ·exact .inl (List.mem_append_right _ hx)
  ·intro hn hn' hd
   rw [List.nodup_append] at hn ⊢
   refine ⟨hn', hn.2.1, ?_⟩
   rintro x hx z hz rfl
   exact hd x (List.mem_append_right _ hz) hx
 | t :: ts, es, F, F', j + 1, y, v, h, h2, hj => by
  simp only [STmL] at h
  obtain ⟨a, r, Fa, Fr, rfl, h3, h4, rfl⟩ := h
  obtain ⟨F2, g1, g2, g3⟩ := STmL.set (j := j) h4 h2 (by simpa using hj)
  refine ⟨Fa ++ F2, ?_, ?_, ?_⟩
  ·simp only [List.set_cons_succ, STmL]; exact ⟨a, r.set j v, Fa, F2, rfl, h3, g1, rfl⟩
  ·intro x hx
   rcases List.mem_append.1 hx with hx | hx
   ·exact .inl (List.mem_append_left _ hx)
   ·exact (g2 x hx).imp (fun h => List.mem_append_right _ h) id
  ·intro hn hn' hd
   rw [List.nodup_append] at hn ⊢
   refine ⟨hn.1, g3 hn.2.1 hn' (fun x hx => hd x (List.mem_append_right _ hx)), ?_⟩
   rintro x hx z hz rfl
   rcases g2 x hz with hz | hz
   ·exact hn.2.2 x hx x hz rfl
   ·exact hd x (List.mem_append_left _ hx) hz
/-- A node replaced. -/
def mPut : Tm → List Int → Tm → Tm
 | _, [], x => x
 | .mk k nm num ty fr lb ks, i :: is, x => if h : 0 ≤ i ∧ i < ks.length then .mk k nm num ty fr lb (ks.set i.toNat (mPut (ks[i.toNat]'(by omega)) is x)) else .mk k nm num ty fr lb ks
theorem mPut_nil (t x : Tm) : mPut t [] x = x := by cases t; rw [mPut]
theorem mPut_go {k : Int} {nm : ByteArray} {num : Int} {ty fr : Ty} {lb : Int} {ks : List Tm} {j : Nat} {is : List Int} {x : Tm} (h : j < ks.length) : mPut (.mk k nm num ty fr lb ks) ((j : Int) :: is) x = .mk k nm num ty fr lb (ks.set j (mPut ks[j] is x)) := by
 rw [mPut, dif_pos ⟨by omega, by omega⟩]; rfl
/-- Where there is a node. -/
theorem tAt_some {t y : Tm} {i : Int} {is : List Int} (h : tAt t (i :: is) = some y) : ∃ j : Nat, i = j ∧ ∃ hj : j < t.ks.length, tAt t.ks[j] is = some y := by
 by_cases hi : 0 ≤ i ∧ i < t.ks.length
 ·rw [tAt_go hi.1 hi.2] at h
  exact ⟨i.toNat, by omega, by omega, h⟩
 ·rw [tAt_no hi] at h; cases h
end Gw
end Go.Proofs.YtgclbnfdlddpnaaGreat
namespace Go.Proofs.YtgclbnfdlddpnaaGreat
open Go Go.RowKit
namespace Gw
set_option maxHeartbeats 0 in
set_option maxRecDepth 100000 in
theorem l3SureF_fn (t : Ty) (G : IM) (cells : List Value) (B : Int) (hB : 0 ≤ B) (hr : RTy G t cells) :
  Fn Tryz.prog 145 [.agg ⟨cells⟩, .bool false] [] G (TyB B G) := by
 obtain ⟨q, d, es, rfl, _⟩ := hr.open
 refine fn_enter Tryz.func145 rfl Tryz.ntmps145 Tryz.results145 rfl ?_
 intro w0
 refine tri_seq (tri_region ?_)
 (refine seq_step (step_box_a rfl rfl) rfl ?_; rintro _ ⟨b3, rfl⟩)
 (refine seq_step (step_alloc rfl) rfl ?_; rintro _ ⟨b4, rfl⟩)
 refine seq_pure (pure_assign rfl) rfl rfl ?_
 refine seq_done (nrm_seq (tri_seq (tri_seq (tri_region (seq_pure (pure_move rfl) rfl rfl ?_)))))
 refine seq_pure (pure_not_f rfl) rfl rfl ?_
 refine seq_done (nrm_seq (tri_cond_t rfl ?_))
 refine tri_seq (tri_region (seq_pure (pure_build rfl rfl) rfl rfl ?_))
 refine seq_store rfl rfl rfl rfl rfl rfl (by repeat first | exact Sw.here | apply Sw.there) (by rfl) ?_
 refine seq_pure (pure_assign rfl) rfl rfl ?_
 refine seq_done (nrm_seq (tri_ret (ret_seq (ret_fin2 (res_cell rfl (load_ba rfl rfl (by repeat first | exact mH | apply mT) (by rfl))) (res_tmp rfl) ?_))))
 (exact ⟨rfl, _, _, _, rfl, tyLeaf_r _ ⟨by omega, by omega⟩, tAr_leaf (by omega) (by omega), by rw [szLeaf]; omega⟩)
set_option maxHeartbeats 0 in
set_option maxRecDepth 100000 in
theorem l3SureT_fn (t : Ty) (G : IM) (cells : List Value) (B : Int) (hr : RTy G t cells) (ha : tAr t) (hs : szTy t ≤ B) :
  Fn Tryz.prog 145 [.agg ⟨cells⟩, .bool true] [] G (TyB B G) := by
 obtain ⟨q, d, es, rfl, _⟩ := hr.open
 refine fn_enter Tryz.func145 rfl Tryz.ntmps145 Tryz.results145 rfl ?_
 intro w0
 refine tri_seq (tri_region ?_)
 (refine seq_step (step_box_a rfl rfl) rfl ?_; rintro _ ⟨b3, rfl⟩)
 (refine seq_step (step_alloc rfl) rfl ?_; rintro _ ⟨b4, rfl⟩)
 refine seq_pure (pure_assign rfl) rfl rfl ?_
 refine seq_done (nrm_seq (tri_seq (tri_seq (tri_region (seq_pure (pure_move rfl) rfl rfl ?_)))))
 refine seq_pure (pure_not_t rfl) rfl rfl ?_
 refine seq_done (nrm_seq (tri_cond_f rfl ?_))
 refine tri_skip (nrm_seq (tri_seq (tri_region (seq_load (load_ba rfl rfl (by repeat first | exact mH | apply mT) (by rfl)) rfl rfl ?_))))
 refine seq_store rfl rfl rfl rfl rfl rfl (by repeat first | exact Sw.here | apply Sw.there) (by rfl) ?_
 refine seq_pure (pure_assign rfl) rfl rfl ?_
 refine seq_done (nrm_seq (tri_ret (ret_fin2 (res_cell rfl (load_ba rfl rfl (by repeat first | exact mH | apply mT) (by rfl))) (res_tmp rfl) ?_)))
 (exact ⟨rfl, _, _, _, rfl, hr, ha, hs⟩)
theorem l3Sure_fn (t : Ty) (x : Bool) (G : IM) (cells : List Value) (B : Int) (hB : 0 ≤ B) (hr : RTy G t cells) (ha : tAr t) (hs : szTy t ≤ B) :
  Fn Tryz.prog 145 [.agg ⟨cells⟩, .bool x] [] G (TyB B G) := by
 cases x
 ·exact l3SureF_fn t G cells B hB hr
 ·exact l3SureT_fn t G cells B hr ha hs
/-- A type and whether the term has it; then the term is valid. -/
def TyV (e : Tm) (G : IM) : IM → Value → List Ent → Prop := Imm fun G' v => ∃ t cells b, v = .tuple ⟨[.agg ⟨cells⟩, .bool b]⟩ ∧ RTy G' t cells ∧ tAr t ∧ szTy t ≤ 960 ∧ (b = true → termValid e = true)
set_option maxHeartbeats 0 in
set_option maxRecDepth 100000 in
theorem typeIn_fn (e : Tm) (G : IM) (cells : List Value) (hcnt : tmCount e ≤ 4294967296) (hr : RTm G e cells) :
  Fn Tryz.prog 107 [.slice none 0 0, .agg ⟨cells⟩] [] G (TyV e G) := by
 have hl := hr.len
 have hone := hr.one
 have hw := sTermValid_fn e G cells hcnt hr
 have hT := fun h : termValid e = true => l3Type_fn e 1 G none 0 0 cells ((termValid_iff e).1 h).1 (by omega) (GCx.nil G) hr
 have hc := fun h : termValid e = true => ((termValid_iff e).1 h).2
 refine fn_enter Tryz.func107 rfl Tryz.ntmps107 Tryz.results107 rfl ?_
 intro w0
 refine tri_seq (tri_region ?_)
 (refine seq_step (step_box_a rfl rfl) rfl ?_; rintro _ ⟨b3, rfl⟩)
 (refine seq_step (step_alloc rfl) rfl ?_; rintro _ ⟨b4, rfl⟩)
 refine seq_pure (pure_assign rfl) rfl rfl ?_
 refine seq_done (nrm_seq (tri_seq (tri_seq (tri_region (seq_pure (pure_move rfl) rfl rfl ?_)))))
 refine seq_val rfl ((ctxValid_fn _)) rfl rfl ?_
 refine seq_pure (pure_not_t rfl) rfl rfl ?_
 refine seq_pure (pure_move rfl) rfl rfl ?_
 refine seq_load (load_a rfl rfl (at_blk_all (by repeat first | exact mH | apply mT)) (by assumption)) rfl rfl ?_
 refine seq_valb rfl (hw) rfl rfl (fun h16 => ?_) (fun h16 => ?_)
 refine seq_pure (pure_not_t rfl) rfl rfl ?_
 refine seq_pure (pure_pick_f rfl rfl) rfl rfl ?_
 refine seq_done (nrm_seq (tri_cond_f rfl ?_))
 refine tri_skip (nrm_seq (tri_seq (tri_region (seq_pure (pure_move rfl) rfl rfl ?_))))
 refine seq_load (load_a rfl rfl (at_blk_all (by repeat first | exact mH | apply mT)) (by assumption)) rfl rfl ?_
 (refine seq_imm rfl (hT (by assumption)) rfl rfl (fun v G1 hle1 hh => ?_); obtain ⟨mt, mc, mx, rfl, hmr, hma, hms⟩ := hh; obtain ⟨p1, c1, e1, rfl, _⟩ := hmr.open; have hcc := hc (by assumption))
 refine seq_pure (pure_extract rfl rfl) rfl rfl ?_
 refine seq_pure (pure_extract rfl rfl) rfl rfl ?_
 (refine seq_imm rfl (l3Sure_fn mt mx _ _ 960 (by omega) hmr hma (by omega)) rfl rfl (fun v G2 hle2 hh => ?_); obtain ⟨mt2, mc2, mx2, rfl, hmr2, hma2, hms2⟩ := hh; obtain ⟨p2, c2, e2, rfl, _⟩ := hmr2.open)
 refine seq_pure (pure_extract rfl rfl) rfl rfl ?_
 refine seq_pure (pure_extract rfl rfl) rfl rfl ?_
 refine seq_store rfl rfl rfl rfl rfl rfl (by repeat first | exact Sw.here | apply Sw.there) (by rfl) ?_
 refine seq_pure (pure_assign rfl) rfl rfl ?_
 refine seq_done (nrm_seq (tri_ret (ret_fin2 (res_cell rfl (load_ba rfl rfl (by repeat first | exact mH | apply mT) (by rfl))) (res_tmp rfl) ?_)))
 (exact ⟨rfl, _, _, _, rfl, hmr2, hma2, hms2, fun _ => by assumption⟩)
 refine seq_pure (pure_not_f rfl) rfl rfl ?_
 refine seq_pure (pure_pick_f rfl rfl) rfl rfl ?_
 refine seq_done (nrm_seq (tri_cond_t rfl ?_))
 refine tri_seq (tri_region (seq_pure (pure_build rfl rfl) rfl rfl ?_))
 refine seq_store rfl rfl rfl rfl rfl rfl (by repeat first | exact Sw.here | apply Sw.there) (by rfl) ?_
 refine seq_pure (pure_assign rfl) rfl rfl ?_
 refine seq_done (nrm_seq (tri_ret (ret_seq (ret_fin2 (res_cell rfl (load_ba rfl rfl (by repeat first | exact mH | apply mT) (by rfl))) (res_tmp rfl) ?_))))
 (exact ⟨rfl, _, _, _, rfl, tyLeaf_r _ ⟨by omega, by omega⟩, tAr_leaf (by omega) (by omega), by rw [szLeaf]; omega, fun h => absurd h (by decide)⟩)
set_option maxRecDepth 100000 in
theorem typeOf_fn (e : Tm) (G : IM) (cells : List Value) (hcnt : tmCount e ≤ 4294967296) (hr : RTm G e cells) :
  Fn Tryz.prog 78 [.agg ⟨cells⟩] [] G (TyV e G) := by
 have hl := hr.len
 have hone := hr.one
 refine fn_enter Tryz.func78 rfl Tryz.ntmps78 Tryz.results78 rfl ?_
 intro w0
 refine tri_seq (tri_region ?_)
 (refine seq_step (step_box_a rfl rfl) rfl ?_; rintro _ ⟨b3, rfl⟩)
 (refine seq_step (step_alloc rfl) rfl ?_; rintro _ ⟨b4, rfl⟩)
 refine seq_pure (pure_assign rfl) rfl rfl ?_
 refine seq_done (nrm_seq (tri_seq (tri_region (seq_load (load_a rfl rfl (at_blk_all (by repeat first | exact mH | apply mT)) (by assumption)) rfl rfl ?_))))
 (refine seq_imm rfl (typeIn_fn e G cells hcnt hr) rfl rfl (fun v G1 hle1 hh => ?_); obtain ⟨mt, mc, mx, rfl, hmr, hma, hms, hmv⟩ := hh; obtain ⟨p1, c1, e1, rfl, _⟩ := hmr.open)
 refine seq_pure (pure_extract rfl rfl) rfl rfl ?_
 refine seq_pure (pure_extract rfl rfl) rfl rfl ?_
 refine seq_store rfl rfl rfl rfl rfl rfl (by repeat first | exact Sw.here | apply Sw.there) (by rfl) ?_
 refine seq_pure (pure_assign rfl) rfl rfl ?_
 refine seq_done (nrm_seq (tri_ret (ret_fin2 (res_cell rfl (load_ba rfl rfl (by repeat first | exact mH | apply mT) (by rfl))) (res_tmp rfl) ?_)))
 (exact ⟨rfl, _, _, _, rfl, hmr, hma, hms, hmv⟩)
theorem tm_one {G : IM} {e : Tm} {ce : List Value} {p : Option Addr} {c : Nat} (hr : RTm G e ce) (hs : Sl G p 1 c 9 ce) : SlE G p [e].length c 9 [ce] ∧ RTmL G [e] [ce] := by
 refine ⟨SlE.of (by simpa using hs) rfl (fun x hx => by simp only [List.mem_singleton] at hx; subst hx; exact hr.len) (fun x hx => by simp only [List.mem_singleton] at hx; subst hx; exact hr.one), ?_⟩
 simp only [RTmL]
 exact ⟨ce, [], rfl, hr, rfl⟩
/-- A term that was perhaps cast, and the next label. -/
def CastP (e : Tm) (label : Int) (G : IM) : IM → Value → List Ent → Prop := Imm fun G' v => ∃ u cu l', v = .tuple ⟨[.agg ⟨cu⟩, .int .i64 l']⟩ ∧ RTm G' u cu ∧ (e.small → u.small) ∧ tmCount u ≤ tmCount e + 1 ∧ label ≤ l' ∧ l' ≤ label + 1
set_option maxHeartbeats 0 in
set_option maxRecDepth 100000 in
theorem l4Cast_fn (e : Tm) (a b : Ty) (label : Int) (G : IM) (ce ca cb : List Value) (hlab : -1099511627776 ≤ label ∧ label ≤ 1099511627776) (hr : RTm G e ce) (hra : RTy G a ca) (hrb : RTy G b cb) (ha : tAr a) (hb : tAr b) :
  Fn Tryz.prog 57 [.agg ⟨ce⟩, .agg ⟨ca⟩, .agg ⟨cb⟩, .int .i64 label] [] G (CastP e label G) := by
 have hl := hr.len
 have hone := hr.one
 obtain ⟨hlab1, hlab2⟩ := hlab
 have hsa := ha.small
 have hsb := hb.small
 have hSame := sTypeSame_fn a b G ca cb hra hrb
 obtain ⟨ak, aks⟩ := a
 obtain ⟨bk, bks⟩ := b
 obtain ⟨pa, cca, ea, rfl, _⟩ := hra.open
 obtain ⟨pb, ccb, eb, rfl, _⟩ := hrb.open
 simp only [Ty.k, Ty.ks] at hra hrb hSame ⊢
 obtain ⟨v1, v2, v3, v4, v5, v6, v7, v8, v9, rfl⟩ : ∃ v1 v2 v3 v4 v5 v6 v7 v8 v9, ce = [v1, v2, v3, v4, v5, v6, v7, v8, v9] := (by obtain ⟨_, _, _, _, _, _, _, _, _, rfl, _⟩ := hr.open; exact ⟨_, _, _, _, _, _, _, _, _, rfl⟩)
 refine fn_enter Tryz.func57 rfl Tryz.ntmps57 Tryz.results57 rfl ?_
 intro w0
 refine tri_seq (tri_region ?_)
 (refine seq_step (step_box_a rfl rfl) rfl ?_; rintro _ ⟨b3, rfl⟩)
 (refine seq_step (step_box_a rfl rfl) rfl ?_; rintro _ ⟨b4, rfl⟩)
 (refine seq_step (step_box_a rfl rfl) rfl ?_; rintro _ ⟨b5, rfl⟩)
 (refine seq_step (step_alloc rfl) rfl ?_; rintro _ ⟨b6, rfl⟩)
 refine seq_pure (pure_assign rfl) rfl rfl ?_
 refine seq_done (nrm_seq (tri_seq (tri_seq (tri_region (seq_load (load_ba rfl rfl (by repeat first | exact mH | apply mT) (by rfl)) rfl rfl ?_)))))
 refine seq_load (load_ba rfl rfl (by repeat first | exact mH | apply mT) (by rfl)) rfl rfl ?_
 (refine seq_own rfl hSame rfl rfl (fun v Go outs hle hh => ?_); obtain ⟨rfl, ⟨x, rfl⟩, rfl⟩ := hh; cases x)
 refine seq_done (nrm_seq (tri_cond_f rfl ?_))
 refine tri_skip (nrm_seq (tri_seq (tri_draw mixed rfl ?_)))
 refine any_load (i := 5) (listed' := [ff,ff,ff,ff,ff,tt,ff,ff,ff,ff,ff,ff]) rfl npI (load_a rfl rfl (at_blk_all (by repeat first | exact mH | apply mT)) hl) rfl (by kernel_rfl) rfl rfl ?_
 refine any_load (i := 0) (listed' := [tt,ff,ff,ff,ff,tt,ff,ff,ff,ff,ff,ff]) rfl npI (load_ba rfl rfl (by repeat first | exact mH | apply mT) (by rfl)) rfl (by kernel_rfl) rfl rfl ?_
 refine any_load (i := 2) (listed' := [tt,ff,tt,ff,ff,tt,ff,ff,ff,ff,ff,ff]) rfl npI (load_ba rfl rfl (by repeat first | exact mH | apply mT) (by rfl)) rfl (by kernel_rfl) rfl rfl ?_
 refine any_pure (i := 4) (listed' := [tt,ff,tt,ff,tt,tt,ff,ff,ff,ff,ff,ff]) rfl npI (pure_move rfl) rfl (by kernel_rfl) rfl rfl ?_
 refine any_pure (i := 8) (listed' := [tt,ff,tt,ff,tt,tt,ff,ff,tt,ff,ff,ff]) rfl npI (pure_move rfl) rfl (by kernel_rfl) rfl rfl ?_
 refine any_pure (i := 9) (listed' := [tt,ff,tt,ff,tt,tt,ff,ff,tt,tt,ff,ff]) rfl npI (pure_add rfl rfl (by omega) (by omega)) rfl (by kernel_rfl) rfl rfl ?_
 refine any_two (j := 1) (j' := 6) (by kernel_rfl) ?_ ?_
 (refine one_imm (listed' := [tt,tt,tt,ff,tt,tt,ff,ff,tt,tt,ff,ff]) rfl rfl (l1Copy_fn _ _ _ hsa hra) rfl rfl rfl (fun v G1 hle1 hh => ?_); obtain ⟨cs1, F1, rfl, hs1, hn1⟩ := hh; obtain ⟨p1, c1, rfl, _⟩ := hs1.open; have hC2 := l1Copy_fn _ G1 _ hsb (hrb.mono hle1))
 refine any_two (j := 3) (j' := 6) (by kernel_rfl) ?_ ?_
 (refine one_imm (listed' := [tt,tt,tt,tt,tt,tt,ff,ff,tt,tt,ff,ff]) rfl rfl hC2 rfl rfl rfl (fun v G2 hle2 hh => ?_); obtain ⟨cs2, F2, rfl, hs2, hn2⟩ := hh; obtain ⟨p2, c2, rfl, _⟩ := hs2.open; have hr1 := hs1.R.mono ((Dif.le G1 _).trans hle2); have hr2 := hs2.R.mono (Dif.le G2 G1); have hre := hr.mono (hle1.trans hle2))
 refine any_one (j := 6) (by kernel_rfl) ?_
 (refine one_step0 (listed' := [tt,tt,tt,tt,tt,tt,tt,ff,tt,tt,ff,ff]) rfl (step_buildSlice rfl rfl rfl (by omega) (by unfold maxLen; omega) rfl) rfl rfl ?_; rintro _ ⟨b34, rfl⟩)
 refine any_pure (i := 7) (listed' := [tt,tt,tt,tt,tt,tt,tt,tt,tt,tt,ff,ff]) rfl npI (pure_build rfl rfl) rfl (by kernel_rfl) rfl rfl ?_
 refine any_one (j := 10) (by kernel_rfl) ?_
 refine one_store (listed' := [tt,tt,tt,tt,tt,tt,tt,tt,tt,tt,tt,ff]) rfl rfl rfl rfl rfl rfl rfl rfl (by kernel_rfl) (by repeat first | exact Sw.here | apply Sw.there) (by rfl) ?_
 refine any_pure (i := 11) (listed' := [tt,tt,tt,tt,tt,tt,tt,tt,tt,tt,tt,tt]) rfl npI (pure_assign rfl) rfl (by kernel_rfl) rfl rfl ?_
 refine any_done (by kernel_rfl) ?_
 refine nrm_seq ?_
 (refine ret_freeze (cs := [v1, v2, v3, v4, v5, v6, v7, v8, v9]) (by repeat (first | exact Pk.here | apply Pk.there)) (fun G5 hle5 hsl5 hno5 => ?_); obtain ⟨hone1, hone2⟩ := tm_one (hre.mono hle5) hsl5)
 refine tri_ret (ret_fin2 (res_cell rfl (load_ba rfl rfl (by repeat first | exact mH | apply mT) (by rfl))) (res_tmp rfl) ?_)
 (refine ⟨rfl, _, _, _, rfl, RTm.of9 (ks := [e]) ⟨by omega, by omega⟩ ⟨by omega, by omega⟩ ⟨by omega, by omega⟩ (hr2.mono hle5) (hr1.mono hle5) hone1 hone2, fun h => ?_, ?_, by omega, by omega⟩; (try (simp only [Tm.small, Tm.smallL, ByteArray.size]; exact ⟨by simp, hsb, hsa, by simp, h, trivial⟩)); (try (simp only [tmCount, tmCountL]; omega)))
 (refine one_step0 (listed' := [tt,tt,tt,ff,tt,tt,tt,ff,tt,tt,ff,ff]) rfl (step_buildSlice rfl rfl rfl (by omega) (by unfold maxLen; omega) rfl) rfl rfl ?_; rintro _ ⟨b45, rfl⟩)
 refine any_one (j := 3) (by kernel_rfl) ?_
 (refine one_imm (listed' := [tt,tt,tt,tt,tt,tt,tt,ff,tt,tt,ff,ff]) rfl rfl hC2 rfl rfl rfl (fun v G2 hle2 hh => ?_); obtain ⟨cs2, F2, rfl, hs2, hn2⟩ := hh; obtain ⟨p2, c2, rfl, _⟩ := hs2.open; have hr1 := hs1.R.mono ((Dif.le G1 _).trans hle2); have hr2 := hs2.R.mono (Dif.le G2 G1); have hre := hr.mono (hle1.trans hle2))
 refine any_pure (i := 7) (listed' := [tt,tt,tt,tt,tt,tt,tt,tt,tt,tt,ff,ff]) rfl npI (pure_build rfl rfl) rfl (by kernel_rfl) rfl rfl ?_
 refine any_one (j := 10) (by kernel_rfl) ?_
 refine one_store (listed' := [tt,tt,tt,tt,tt,tt,tt,tt,tt,tt,tt,ff]) rfl rfl rfl rfl rfl rfl rfl rfl (by kernel_rfl) (by repeat first | exact Sw.here | apply Sw.there) (by rfl) ?_
 refine any_pure (i := 11) (listed' := [tt,tt,tt,tt,tt,tt,tt,tt,tt,tt,tt,tt]) rfl npI (pure_assign rfl) rfl (by kernel_rfl) rfl rfl ?_
 refine any_done (by kernel_rfl) ?_
 refine nrm_seq ?_
 (refine ret_freeze (cs := [v1, v2, v3, v4, v5, v6, v7, v8, v9]) (by repeat (first | exact Pk.here | apply Pk.there)) (fun G5 hle5 hsl5 hno5 => ?_); obtain ⟨hone1, hone2⟩ := tm_one (hre.mono hle5) hsl5)
 refine tri_ret (ret_fin2 (res_cell rfl (load_ba rfl rfl (by repeat first | exact mH | apply mT) (by rfl))) (res_tmp rfl) ?_)
 (refine ⟨rfl, _, _, _, rfl, RTm.of9 (ks := [e]) ⟨by omega, by omega⟩ ⟨by omega, by omega⟩ ⟨by omega, by omega⟩ (hr2.mono hle5) (hr1.mono hle5) hone1 hone2, fun h => ?_, ?_, by omega, by omega⟩; (try (simp only [Tm.small, Tm.smallL, ByteArray.size]; exact ⟨by simp, hsb, hsa, by simp, h, trivial⟩)); (try (simp only [tmCount, tmCountL]; omega)))
 (refine one_step0 (listed' := [tt,ff,tt,ff,tt,tt,tt,ff,tt,tt,ff,ff]) rfl (step_buildSlice rfl rfl rfl (by omega) (by unfold maxLen; omega) rfl) rfl rfl ?_; rintro _ ⟨b58, rfl⟩)
 refine any_one (j := 1) (by kernel_rfl) ?_
 (refine one_imm (listed' := [tt,tt,tt,ff,tt,tt,tt,ff,tt,tt,ff,ff]) rfl rfl (l1Copy_fn _ _ _ hsa hra) rfl rfl rfl (fun v G1 hle1 hh => ?_); obtain ⟨cs1, F1, rfl, hs1, hn1⟩ := hh; obtain ⟨p1, c1, rfl, _⟩ := hs1.open; have hC2 := l1Copy_fn _ G1 _ hsb (hrb.mono hle1))
 refine any_one (j := 3) (by kernel_rfl) ?_
 (refine one_imm (listed' := [tt,tt,tt,tt,tt,tt,tt,ff,tt,tt,ff,ff]) rfl rfl hC2 rfl rfl rfl (fun v G2 hle2 hh => ?_); obtain ⟨cs2, F2, rfl, hs2, hn2⟩ := hh; obtain ⟨p2, c2, rfl, _⟩ := hs2.open; have hr1 := hs1.R.mono ((Dif.le G1 _).trans hle2); have hr2 := hs2.R.mono (Dif.le G2 G1); have hre := hr.mono (hle1.trans hle2))
 refine any_pure (i := 7) (listed' := [tt,tt,tt,tt,tt,tt,tt,tt,tt,tt,ff,ff]) rfl npI (pure_build rfl rfl) rfl (by kernel_rfl) rfl rfl ?_
 refine any_one (j := 10) (by kernel_rfl) ?_
 refine one_store (listed' := [tt,tt,tt,tt,tt,tt,tt,tt,tt,tt,tt,ff]) rfl rfl rfl rfl rfl rfl rfl rfl (by kernel_rfl) (by repeat first | exact Sw.here | apply Sw.there) (by rfl) ?_
 refine any_pure (i := 11) (listed' := [tt,tt,tt,tt,tt,tt,tt,tt,tt,tt,tt,tt]) rfl npI (pure_assign rfl) rfl (by kernel_rfl) rfl rfl ?_
 refine any_done (by kernel_rfl) ?_
 refine nrm_seq ?_
 (refine ret_freeze (cs := [v1, v2, v3, v4, v5, v6, v7, v8, v9]) (by repeat (first | exact Pk.here | apply Pk.there)) (fun G5 hle5 hsl5 hno5 => ?_); obtain ⟨hone1, hone2⟩ := tm_one (hre.mono hle5) hsl5)
 refine tri_ret (ret_fin2 (res_cell rfl (load_ba rfl rfl (by repeat first | exact mH | apply mT) (by rfl))) (res_tmp rfl) ?_)
 (refine ⟨rfl, _, _, _, rfl, RTm.of9 (ks := [e]) ⟨by omega, by omega⟩ ⟨by omega, by omega⟩ ⟨by omega, by omega⟩ (hr2.mono hle5) (hr1.mono hle5) hone1 hone2, fun h => ?_, ?_, by omega, by omega⟩; (try (simp only [Tm.small, Tm.smallL, ByteArray.size]; exact ⟨by simp, hsb, hsa, by simp, h, trivial⟩)); (try (simp only [tmCount, tmCountL]; omega)))
 refine seq_done (nrm_seq (tri_cond_t rfl ?_))
 refine tri_seq (tri_region (seq_load (load_a rfl rfl (at_blk_all (by repeat first | exact mH | apply mT)) hl) rfl rfl ?_))
 refine seq_pure (pure_move rfl) rfl rfl ?_
 refine seq_store rfl rfl rfl hl hone rfl (by repeat first | exact Sw.here | apply Sw.there) (by exact upd_all hl.symm) ?_
 refine seq_pure (pure_assign rfl) rfl rfl ?_
 refine seq_done (nrm_seq (tri_ret (ret_seq (ret_fin2 (res_cell rfl (load_a rfl rfl (at_blk_all (by repeat first | exact mH | apply mT)) hl)) (res_tmp rfl) ?_))))
 (exact ⟨rfl, e, _, _, rfl, hr, fun h => h, by omega, by omega, by omega⟩)
/-- Types that are asked for. -/
def WantP (n : Nat) (G : IM) : IM → Value → List Ent → Prop := Imm fun G' v => ∃ p c es ws, v = .slice p n c ∧ ws.length = n ∧ SlE G' p n c 2 es ∧ RTyL G' ws es ∧ ∀ w ∈ ws, tAr w
theorem WantP.mk {G G' : IM} {p : Option Addr} {n c : Nat} {ws : List Ty} {es : List (List Value)} (hl : ws.length = n) (hs : Sl G' p n c 2 es.flatten) (hst : RTyL G' ws es) (ha : ∀ w ∈ ws, tAr w) : WantP n G G' (.slice p n c) [] :=
 ⟨rfl, p, c, es, ws, rfl, hl, SlE.of hs (by rw [hst.len, hl]) hst.all (fun e he => (hst.each e he).2), hst, ha⟩
theorem WantP.mk1 {G G' : IM} {p : Option Addr} {n c : Nat} {a : Ty} {ca : List Value} (hn : n = 1) (hs : Sl G' p 1 c 2 ca) (ha : RTy G' a ca) (h1 : tAr a) : WantP n G G' (.slice p 1 c) [] := by
 subst hn
 exact WantP.mk (ws := [a]) (es := [ca]) rfl (by simpa using hs) ⟨_, _, rfl, ha, rfl⟩ (by simp [h1])
theorem WantP.mk2 {G G' : IM} {p : Option Addr} {n c : Nat} {a b : Ty} {ca cb : List Value} (hn : n = 2) (hs : Sl G' p 2 c 2 (ca ++ cb)) (ha : RTy G' a ca) (hb : RTy G' b cb) (h1 : tAr a) (h2 : tAr b) : WantP n G G' (.slice p 2 c) [] := by
 subst hn
 exact WantP.mk (ws := [a, b]) (es := [ca, cb]) rfl (by simpa using hs) ⟨_, _, rfl, ha, _, _, rfl, hb, rfl⟩ (by simp [h1, h2])
theorem WantP.mk3 {G G' : IM} {p : Option Addr} {n c : Nat} {a b d : Ty} {ca cb cd : List Value} (hn : n = 3) (hs : Sl G' p 3 c 2 (ca ++ (cb ++ cd))) (ha : RTy G' a ca) (hb : RTy G' b cb) (hd : RTy G' d cd) (h1 : tAr a) (h2 : tAr b) (h3 : tAr d) : WantP n G G' (.slice p 3 c) [] := by
 subst hn
 exact WantP.mk (ws := [a, b, d]) (es := [ca, cb, cd]) rfl (by simpa using hs) ⟨_, _, rfl, ha, _, _, rfl, hb, _, _, rfl, hd, rfl⟩ (by simp [h1, h2, h3])
set_option maxHeartbeats 0 in
set_option maxRecDepth 100000 in
theorem l4Want_fn (k : Int) (nm : ByteArray) (num : Int) (ty fr : Ty) (lb : Int) (ks : List Tm) (ts : List Ty) (t : Ty) (G : IM) (cells tcells : List Value) (p : Option Addr) (c : Nat) (es : List (List Value))
  (hops : tmOps k = ts.length) (hr : RTm G (.mk k nm num ty fr lb ks) cells) (hsl : SlE G p ts.length c 2 es) (hkl : RTyL G ts es) (har : ∀ t ∈ ts, tAr t) (hrt : RTy G t tcells) (hat : tAr t) :
  Fn Tryz.prog 110 [.agg ⟨cells⟩, .slice p ts.length c, .agg ⟨tcells⟩] [] G (WantP ts.length G) := by
 have hone := hr.one
 have hop := tm_ops hops
 have ha0 := fun h : 0 < ts.length => har _ (List.getElem_mem h)
 obtain ⟨tyk, tyks⟩ := ty
 obtain ⟨fk, fks⟩ := fr
 obtain ⟨tk, tks⟩ := t
 obtain ⟨q9, d9, e9, rfl, _⟩ := hrt.open
 obtain ⟨pt, ct, pf, cf, pk, ck, ek, rfl, hk, hnum, hlb, hrty, hrfr, _, _⟩ := hr.open9
 refine fn_enter Tryz.func110 rfl Tryz.ntmps110 Tryz.results110 rfl ?_
 intro w0
 refine tri_seq (tri_region ?_)
 (refine seq_step (step_box_a rfl rfl) rfl ?_; rintro _ ⟨b3, rfl⟩)
 (refine seq_step (step_box_a rfl rfl) rfl ?_; rintro _ ⟨b4, rfl⟩)
 refine seq_pure (pure_assign rfl) rfl rfl ?_
 refine seq_done (nrm_seq (tri_seq (tri_seq (tri_region (seq_pure (pure_fieldAddr0 rfl) rfl rfl ?_)))))
 refine seq_load (load_bs rfl rfl (by repeat first | exact mH | apply mT) (by rfl)) rfl rfl ?_
 refine seq_done (nrm_seq (tri_block (tri_seq (tri_region (seq_bool (pure_eql rfl rfl) rfl rfl (fun h18 => ?_) (fun h18 => ?_))))))
 refine seq_pure (pure_assign rfl) rfl rfl ?_
 refine seq_done (nrm_seq (tri_cond_t rfl ?_))
 refine tri_seq (tri_region (seq_pure (pure_move rfl) rfl rfl ?_))
 (have hl2 : ts.length = 2 := hop.1 (by omega); obtain ⟨b0, o0, q0, d0, hp0, hat0, hre0, hg0⟩ := hsl.kidTy hkl (i := 0) (by omega) (by omega); cases hp0; refine seq_pure (pure_indexAddrN (j := 0) rfl rfl rfl (by omega)) rfl rfl ?_)
 refine seq_load (load_a rfl rfl (hat0 _) rfl) rfl rfl ?_
 (refine seq_imm rfl (l3Match_fn 4 ts[0] G _ (.inl rfl) (ha0 (by omega)) hre0) rfl rfl (fun v G1 hle1 hh => ?_); obtain ⟨ma, mca, mb, mcb, mx, rfl, hma, hma2, hma3, hmb, hmb2, hmb3⟩ := hh; obtain ⟨p1, c1, e1, rfl, _⟩ := hma.open; obtain ⟨p2, c2, e2, rfl, _⟩ := hmb.open; have hTwo := l3Two_fn 4 ma mb G1 _ _ (.inl rfl) hma2 hmb2 hma hmb)
 refine seq_pure (pure_move rfl) rfl rfl ?_
 refine seq_pure (pure_extract rfl rfl) rfl rfl ?_
 refine seq_pure (pure_extract rfl rfl) rfl rfl ?_
 refine seq_pure (pure_extract rfl rfl) rfl rfl ?_
 (refine seq_step (step_alloc rfl) rfl ?_; rintro _ ⟨b33, rfl⟩)
 (refine seq_step (step_alloc rfl) rfl ?_; rintro _ ⟨b34, rfl⟩)
 refine seq_store rfl rfl rfl rfl rfl rfl (by repeat first | exact Sw.here | apply Sw.there) (by rfl) ?_
 refine seq_store rfl rfl rfl rfl rfl rfl (by repeat first | exact Sw.here | apply Sw.there) (by rfl) ?_
 refine seq_pure (pure_assign rfl) rfl rfl ?_
 refine seq_done (nrm_seq (tri_seq (tri_region (seq_load (load_ba rfl rfl (by repeat first | exact mH | apply mT) (by rfl)) rfl rfl ?_))))
 refine seq_load (load_ba rfl rfl (by repeat first | exact mH | apply mT) (by rfl)) rfl rfl ?_
 (refine seq_imm rfl hTwo rfl rfl (fun v G2 hle2 hh => ?_); obtain ⟨mt, mc, mx2, rfl, hmr, hmta, hms⟩ := hh; obtain ⟨p3, c3, e3, rfl, _⟩ := hmr.open; have hma4 := hma.mono hle2)
 refine seq_pure (pure_move rfl) rfl rfl ?_
 refine seq_pure (pure_extract rfl rfl) rfl rfl ?_
 refine seq_pure (pure_extract rfl rfl) rfl rfl ?_
 (refine seq_step (step_alloc rfl) rfl ?_; rintro _ ⟨b48, rfl⟩)
 refine seq_store rfl rfl rfl rfl rfl rfl (by repeat first | exact Sw.here | apply Sw.there) (by rfl) ?_
 refine seq_pure (pure_assign rfl) rfl rfl ?_
 refine seq_done (nrm_seq (tri_seq (tri_region (seq_load (load_ba rfl rfl (by repeat first | exact mH | apply mT) (by rfl)) rfl rfl ?_))))
 refine seq_load (load_ba rfl rfl (by repeat first | exact mH | apply mT) (by rfl)) rfl rfl ?_
 (refine seq_step (step_buildSlice rfl rfl rfl (by omega) (by unfold maxLen; omega) rfl) rfl ?_; rintro _ ⟨b57, rfl⟩)
 refine seq_pure (pure_assign rfl) rfl rfl ?_
 refine seq_done (nrm_seq ?_)
 (refine ret_freeze (by repeat (first | exact Pk.here | apply Pk.there)) (fun G5 hle5 hsl5 hno5 => ?_))
 refine tri_ret (ret_block (ret_seq (ret_fin1 (res_tmp rfl) ?_)))
 (exact WantP.mk2 (hop.1 (by omega)) hsl5 (hmr.mono hle5) (hma4.mono hle5) hmta hma2)
 refine seq_pure (pure_assign rfl) rfl rfl ?_
 refine seq_done (nrm_seq (tri_cond_f rfl ?_))
 refine tri_seq (tri_seq (tri_region (seq_bool (pure_eql rfl rfl) rfl rfl (fun h74 => ?_) (fun h74 => ?_))))
 refine seq_pure (pure_assign rfl) rfl rfl ?_
 refine seq_done (nrm_seq (tri_cond_t rfl ?_))
 refine tri_skip (nrm_seq (tri_cond_t rfl ?_))
 refine tri_seq (tri_region (seq_val rfl ((l3Int_fn _)) rfl rfl ?_))
 refine seq_val rfl ((l3Int_fn _)) rfl rfl ?_
 (refine seq_step (step_buildSlice rfl rfl rfl (by omega) (by unfold maxLen; omega) rfl) rfl ?_; rintro _ ⟨b86, rfl⟩)
 refine seq_pure (pure_assign rfl) rfl rfl ?_
 refine seq_done (nrm_seq ?_)
 (refine ret_freeze (by repeat (first | exact Pk.here | apply Pk.there)) (fun G5 hle5 hsl5 hno5 => ?_))
 refine tri_ret (ret_block (ret_seq (ret_fin1 (res_tmp rfl) ?_)))
 (exact WantP.mk2 (hop.1 (by omega)) hsl5 (tyLeaf_r _ ⟨by omega, by omega⟩) (tyLeaf_r _ ⟨by omega, by omega⟩) (tAr_leaf (by omega) (by omega)) (tAr_leaf (by omega) (by omega)))
 refine seq_pure (pure_assign rfl) rfl rfl ?_
 refine seq_done (nrm_seq (tri_cond_f rfl ?_))
 refine tri_region (seq_bool (pure_eql rfl rfl) rfl rfl (fun h101 => ?_) (fun h101 => ?_))
 refine seq_pure (pure_assign rfl) rfl rfl ?_
 refine seq_done (nrm_seq (tri_cond_t rfl ?_))
 refine tri_seq (tri_region (seq_val rfl ((l3Int_fn _)) rfl rfl ?_))
 refine seq_val rfl ((l3Int_fn _)) rfl rfl ?_
 (refine seq_step (step_buildSlice rfl rfl rfl (by omega) (by unfold maxLen; omega) rfl) rfl ?_; rintro _ ⟨b110, rfl⟩)
 refine seq_pure (pure_assign rfl) rfl rfl ?_
 refine seq_done (nrm_seq ?_)
 (refine ret_freeze (by repeat (first | exact Pk.here | apply Pk.there)) (fun G5 hle5 hsl5 hno5 => ?_))
 refine tri_ret (ret_block (ret_seq (ret_fin1 (res_tmp rfl) ?_)))
 (exact WantP.mk2 (hop.1 (by omega)) hsl5 (tyLeaf_r _ ⟨by omega, by omega⟩) (tyLeaf_r _ ⟨by omega, by omega⟩) (tAr_leaf (by omega) (by omega)) (tAr_leaf (by omega) (by omega)))
 refine seq_pure (pure_assign rfl) rfl rfl ?_
 refine seq_done (nrm_seq (tri_cond_f rfl ?_))
 refine tri_seq (tri_region (seq_bool (pure_eql rfl rfl) rfl rfl (fun h126 => ?_) (fun h126 => ?_)))
 refine seq_pure (pure_assign rfl) rfl rfl ?_
 refine seq_done (nrm_seq (tri_cond_t rfl ?_))
 refine tri_seq (tri_draw mixed rfl ?_)
 refine any_load (i := 1) (listed' := [ff,tt,ff,ff,ff]) rfl npI (load_ba rfl rfl (by repeat first | exact mH | apply mT) (by rfl)) rfl (by kernel_rfl) rfl rfl ?_
 refine any_load (i := 2) (listed' := [ff,tt,tt,ff,ff]) rfl npI (load_ba rfl rfl (by repeat first | exact mH | apply mT) (by rfl)) rfl (by kernel_rfl) rfl rfl ?_
 refine any_one (j := 0) (by kernel_rfl) ?_
 refine one_val (listed' := [tt,tt,tt,ff,ff]) rfl rfl ((l3Bool_fn _)) rfl rfl rfl ?_
 refine any_one (j := 3) (by kernel_rfl) ?_
 (refine one_step0 (listed' := [tt,tt,tt,tt,ff]) rfl (step_buildSlice rfl rfl rfl (by omega) (by unfold maxLen; omega) rfl) rfl rfl ?_; rintro _ ⟨b138, rfl⟩)
 refine any_pure (i := 4) (listed' := [tt,tt,tt,tt,tt]) rfl npI (pure_assign rfl) rfl (by kernel_rfl) rfl rfl ?_
 refine any_done (by kernel_rfl) ?_
 refine nrm_seq ?_
 (refine ret_freeze (by repeat (first | exact Pk.here | apply Pk.there)) (fun G5 hle5 hsl5 hno5 => ?_))
 refine tri_ret (ret_block (ret_seq (ret_fin1 (res_tmp rfl) ?_)))
 (exact WantP.mk3 (hop.2.1 (by omega)) hsl5 (tyLeaf_r _ ⟨by omega, by omega⟩) (hrt.mono hle5) (hrt.mono hle5) (tAr_leaf (by omega) (by omega)) hat hat)
 refine seq_pure (pure_assign rfl) rfl rfl ?_
 refine seq_done (nrm_seq (tri_cond_f rfl ?_))
 refine tri_seq (tri_seq (tri_region (seq_bool (pure_eql rfl rfl) rfl rfl (fun h155 => ?_) (fun h155 => ?_))))
 refine seq_pure (pure_assign rfl) rfl rfl ?_
 refine seq_done (nrm_seq (tri_cond_t rfl ?_))
 refine tri_skip (nrm_seq (tri_cond_t rfl ?_))
 refine tri_seq (tri_region (seq_pure (pure_move rfl) rfl rfl ?_))
 (have hl1 : ts.length = 1 := hop.2.2 (by omega); obtain ⟨b0, o0, q0, d0, hp0, hat0, hre0, hg0⟩ := hsl.kidTy hkl (i := 0) (by omega) (by omega); cases hp0; refine seq_pure (pure_indexAddrN (j := 0) rfl rfl rfl (by omega)) rfl rfl ?_)
 refine seq_load (load_a rfl rfl (hat0 _) rfl) rfl rfl ?_
 (refine seq_imm rfl (l3Match_fn 5 ts[0] G _ (.inr rfl) (ha0 (by omega)) hre0) rfl rfl (fun v G1 hle1 hh => ?_); obtain ⟨ma, mca, mb, mcb, mx, rfl, hma, hma2, hma3, hmb, hmb2, hmb3⟩ := hh; obtain ⟨p1, c1, e1, rfl, _⟩ := hma.open; obtain ⟨p2, c2, e2, rfl, _⟩ := hmb.open; have hTwo := l3Two_fn 5 ma mb G1 _ _ (.inr rfl) hma2 hmb2 hma hmb)
 refine seq_pure (pure_move rfl) rfl rfl ?_
 refine seq_pure (pure_extract rfl rfl) rfl rfl ?_
 refine seq_pure (pure_extract rfl rfl) rfl rfl ?_
 refine seq_pure (pure_extract rfl rfl) rfl rfl ?_
 (refine seq_step (step_alloc rfl) rfl ?_; rintro _ ⟨b173, rfl⟩)
 (refine seq_step (step_alloc rfl) rfl ?_; rintro _ ⟨b174, rfl⟩)
 refine seq_store rfl rfl rfl rfl rfl rfl (by repeat first | exact Sw.here | apply Sw.there) (by rfl) ?_
 refine seq_store rfl rfl rfl rfl rfl rfl (by repeat first | exact Sw.here | apply Sw.there) (by rfl) ?_
 refine seq_pure (pure_assign rfl) rfl rfl ?_
 refine seq_done (nrm_seq (tri_seq (tri_region (seq_load (load_ba rfl rfl (by repeat first | exact mH | apply mT) (by rfl)) rfl rfl ?_))))
 refine seq_load (load_ba rfl rfl (by repeat first | exact mH | apply mT) (by rfl)) rfl rfl ?_
 (refine seq_imm rfl hTwo rfl rfl (fun v G2 hle2 hh => ?_); obtain ⟨mt, mc, mx2, rfl, hmr, hmta, hms⟩ := hh; obtain ⟨p3, c3, e3, rfl, _⟩ := hmr.open; have hma4 := hma.mono hle2)
 refine seq_pure (pure_move rfl) rfl rfl ?_
 refine seq_pure (pure_extract rfl rfl) rfl rfl ?_
 refine seq_pure (pure_extract rfl rfl) rfl rfl ?_
 (refine seq_step (step_alloc rfl) rfl ?_; rintro _ ⟨b188, rfl⟩)
 refine seq_store rfl rfl rfl rfl rfl rfl (by repeat first | exact Sw.here | apply Sw.there) (by rfl) ?_
 refine seq_pure (pure_assign rfl) rfl rfl ?_
 refine seq_done (nrm_seq (tri_seq (tri_region (seq_load (load_ba rfl rfl (by repeat first | exact mH | apply mT) (by rfl)) rfl rfl ?_))))
 (refine seq_step (step_buildSlice rfl rfl rfl (by omega) (by unfold maxLen; omega) rfl) rfl ?_; rintro _ ⟨b196, rfl⟩)
 refine seq_pure (pure_assign rfl) rfl rfl ?_
 refine seq_done (nrm_seq ?_)
 (refine ret_freeze (by repeat (first | exact Pk.here | apply Pk.there)) (fun G5 hle5 hsl5 hno5 => ?_))
 refine tri_ret (ret_block (ret_seq (ret_fin1 (res_tmp rfl) ?_)))
 (exact WantP.mk1 (hop.2.2 (by omega)) hsl5 (hmr.mono hle5) hmta)
 refine seq_pure (pure_assign rfl) rfl rfl ?_
 refine seq_done (nrm_seq (tri_cond_f rfl ?_))
 refine tri_region (seq_bool (pure_eql rfl rfl) rfl rfl (fun h211 => ?_) (fun h211 => ?_))
 refine seq_pure (pure_assign rfl) rfl rfl ?_
 refine seq_done (nrm_seq (tri_cond_t rfl ?_))
 refine tri_seq (tri_region (seq_pure (pure_move rfl) rfl rfl ?_))
 (have hl1 : ts.length = 1 := hop.2.2 (by omega); obtain ⟨b0, o0, q0, d0, hp0, hat0, hre0, hg0⟩ := hsl.kidTy hkl (i := 0) (by omega) (by omega); cases hp0; refine seq_pure (pure_indexAddrN (j := 0) rfl rfl rfl (by omega)) rfl rfl ?_)
 refine seq_load (load_a rfl rfl (hat0 _) rfl) rfl rfl ?_
 (refine seq_imm rfl (l3Match_fn 5 ts[0] G _ (.inr rfl) (ha0 (by omega)) hre0) rfl rfl (fun v G1 hle1 hh => ?_); obtain ⟨ma, mca, mb, mcb, mx, rfl, hma, hma2, hma3, hmb, hmb2, hmb3⟩ := hh; obtain ⟨p1, c1, e1, rfl, _⟩ := hma.open; obtain ⟨p2, c2, e2, rfl, _⟩ := hmb.open; have hTwo := l3Two_fn 5 ma mb G1 _ _ (.inr rfl) hma2 hmb2 hma hmb)
 refine seq_pure (pure_move rfl) rfl rfl ?_
 refine seq_pure (pure_extract rfl rfl) rfl rfl ?_
 refine seq_pure (pure_extract rfl rfl) rfl rfl ?_
 refine seq_pure (pure_extract rfl rfl) rfl rfl ?_
 (refine seq_step (step_alloc rfl) rfl ?_; rintro _ ⟨b226, rfl⟩)
 (refine seq_step (step_alloc rfl) rfl ?_; rintro _ ⟨b227, rfl⟩)
 refine seq_store rfl rfl rfl rfl rfl rfl (by repeat first | exact Sw.here | apply Sw.there) (by rfl) ?_
 refine seq_store rfl rfl rfl rfl rfl rfl (by repeat first | exact Sw.here | apply Sw.there) (by rfl) ?_
 refine seq_pure (pure_assign rfl) rfl rfl ?_
 refine seq_done (nrm_seq (tri_seq (tri_region (seq_load (load_ba rfl rfl (by repeat first | exact mH | apply mT) (by rfl)) rfl rfl ?_))))
 refine seq_load (load_ba rfl rfl (by repeat first | exact mH | apply mT) (by rfl)) rfl rfl ?_
 (refine seq_imm rfl hTwo rfl rfl (fun v G2 hle2 hh => ?_); obtain ⟨mt, mc, mx2, rfl, hmr, hmta, hms⟩ := hh; obtain ⟨p3, c3, e3, rfl, _⟩ := hmr.open; have hma4 := hma.mono hle2)
 refine seq_pure (pure_move rfl) rfl rfl ?_
 refine seq_pure (pure_extract rfl rfl) rfl rfl ?_
 refine seq_pure (pure_extract rfl rfl) rfl rfl ?_
 (refine seq_step (step_alloc rfl) rfl ?_; rintro _ ⟨b241, rfl⟩)
 refine seq_store rfl rfl rfl rfl rfl rfl (by repeat first | exact Sw.here | apply Sw.there) (by rfl) ?_
 refine seq_pure (pure_assign rfl) rfl rfl ?_
 refine seq_done (nrm_seq (tri_seq (tri_region (seq_load (load_ba rfl rfl (by repeat first | exact mH | apply mT) (by rfl)) rfl rfl ?_))))
 (refine seq_step (step_buildSlice rfl rfl rfl (by omega) (by unfold maxLen; omega) rfl) rfl ?_; rintro _ ⟨b249, rfl⟩)
 refine seq_pure (pure_assign rfl) rfl rfl ?_
 refine seq_done (nrm_seq ?_)
 (refine ret_freeze (by repeat (first | exact Pk.here | apply Pk.there)) (fun G5 hle5 hsl5 hno5 => ?_))
 refine tri_ret (ret_block (ret_seq (ret_fin1 (res_tmp rfl) ?_)))
 (exact WantP.mk1 (hop.2.2 (by omega)) hsl5 (hmr.mono hle5) hmta)
 refine seq_pure (pure_assign rfl) rfl rfl ?_
 refine seq_done (nrm_seq (tri_cond_f rfl ?_))
 refine tri_seq (tri_region (seq_bool (pure_eql rfl rfl) rfl rfl (fun h265 => ?_) (fun h265 => ?_)))
 refine seq_pure (pure_assign rfl) rfl rfl ?_
 refine seq_done (nrm_seq (tri_cond_t rfl ?_))
 refine tri_seq (tri_region (seq_load (load_ba rfl rfl (by repeat first | exact mH | apply mT) (by rfl)) rfl rfl ?_))
 (refine seq_step (step_buildSlice rfl rfl rfl (by omega) (by unfold maxLen; omega) rfl) rfl ?_; rintro _ ⟨b273, rfl⟩)
 refine seq_pure (pure_assign rfl) rfl rfl ?_
 refine seq_done (nrm_seq ?_)
 (refine ret_freeze (by repeat (first | exact Pk.here | apply Pk.there)) (fun G5 hle5 hsl5 hno5 => ?_))
 refine tri_ret (ret_block (ret_seq (ret_fin1 (res_tmp rfl) ?_)))
 (exact WantP.mk1 (hop.2.2 (by omega)) hsl5 (hrt.mono hle5) hat)
 refine seq_pure (pure_assign rfl) rfl rfl ?_
 refine seq_done (nrm_seq (tri_cond_f rfl ?_))
 refine tri_skip (nrm_block (nrm_seq (tri_seq (tri_region (seq_pure (pure_move rfl) rfl rfl ?_)))))
 refine seq_pure (pure_assign rfl) rfl rfl ?_
 refine seq_done (nrm_seq (tri_ret (ret_fin1 (res_tmp rfl) ?_)))
 (exact WantP.mk rfl hsl.sl hkl har)
end Gw
end Go.Proofs.YtgclbnfdlddpnaaGreat
namespace Go.Proofs.YtgclbnfdlddpnaaGreat
open Go Go.RowKit
namespace Gw
theorem RTm.nine {G : IM} {t : Tm} {cells : List Value} (h : RTm G t cells) : ∃ v1 v2 v3 v4 v5 v6 v7 v8 v9, cells = [v1, v2, v3, v4, v5, v6, v7, v8, v9] := by
 obtain ⟨_, _, _, _, _, _, _, _, _, rfl, _⟩ := h.open
 exact ⟨_, _, _, _, _, _, _, _, _, rfl⟩
theorem node1 {G : IM} {e : Tm} {ce : List Value} {k : Int} {nm : ByteArray} {tk : Int} {tks : List Ty} {q p : Option Addr} {d c : Nat} (hk : I64 k) (ht : RTy G (.mk tk tks) [.int .i64 tk, .slice q tks.length d]) (h1 : RTm G e ce) (hs : Sl G p 1 c 9 ce) :
  RTm G (.mk k nm 0 (.mk tk tks) ty0 0 [e]) [.int .i64 k, .string nm, .int .i64 0, .int .i64 tk, .slice q tks.length d, .int .i64 0, .slice none 0 0, .int .i64 0, .slice p 1 c] := by
 obtain ⟨a1, a2⟩ := tm_one h1 hs
 exact RTm.of9 (ks := [e]) hk ⟨by omega, by omega⟩ ⟨by omega, by omega⟩ ht (tyLeaf_r _ ⟨by omega, by omega⟩) a1 a2
theorem node2 {G : IM} {e f : Tm} {ce cf : List Value} {k : Int} {nm : ByteArray} {p : Option Addr} {c : Nat} (hk : I64 k) (h1 : RTm G e ce) (h2 : RTm G f cf) (hs : Sl G p 2 c 9 (ce ++ cf)) :
  RTm G (.mk k nm 0 ty0 ty0 0 [e, f]) [.int .i64 k, .string nm, .int .i64 0, .int .i64 0, .slice none 0 0, .int .i64 0, .slice none 0 0, .int .i64 0, .slice p 2 c] := by
 have hL : RTmL G [e, f] [ce, cf] := by simp only [RTmL]; exact ⟨ce, [cf], rfl, h1, cf, [], rfl, h2, rfl⟩
 exact RTm.of9 (ks := [e, f]) hk ⟨by omega, by omega⟩ ⟨by omega, by omega⟩ (tyLeaf_r _ ⟨by omega, by omega⟩) (tyLeaf_r _ ⟨by omega, by omega⟩)
  (SlE.of (by simpa using hs) rfl hL.all (fun x hx => by obtain ⟨q, hq⟩ := List.getElem?_of_mem hx; exact (hL.inv hq tm0).2.one)) hL
theorem node3 {G : IM} {e f g : Tm} {ce cf cg : List Value} {k : Int} {nm : ByteArray} {p : Option Addr} {c : Nat} (hk : I64 k) (h1 : RTm G e ce) (h2 : RTm G f cf) (h3 : RTm G g cg) (hs : Sl G p 3 c 9 (ce ++ (cf ++ cg))) :
  RTm G (.mk k nm 0 ty0 ty0 0 [e, f, g]) [.int .i64 k, .string nm, .int .i64 0, .int .i64 0, .slice none 0 0, .int .i64 0, .slice none 0 0, .int .i64 0, .slice p 3 c] := by
 have hL : RTmL G [e, f, g] [ce, cf, cg] := by simp only [RTmL]; exact ⟨ce, [cf, cg], rfl, h1, cf, [cg], rfl, h2, cg, [], rfl, h3, rfl⟩
 exact RTm.of9 (ks := [e, f, g]) hk ⟨by omega, by omega⟩ ⟨by omega, by omega⟩ (tyLeaf_r _ ⟨by omega, by omega⟩) (tyLeaf_r _ ⟨by omega, by omega⟩)
  (SlE.of (by simpa using hs) rfl hL.all (fun x hx => by obtain ⟨q, hq⟩ := List.getElem?_of_mem hx; exact (hL.inv hq tm0).2.one)) hL
/-- How many numbers are drawn, and how big the term is. -/
def mB : Nat → Nat
 | 0 => 200
 | n + 1 => 3 * mB n + 200
theorem mB_ge (n : Nat) : 200 ≤ mB n := by cases n <;> simp only [mB] <;> omega
/-- How deep the drawing of a term may still go. -/
def Fuel (n : Nat) (depth : Int) (t : Ty) : Prop := tAh 4 t ∧ (n : Int) - 1000 ≤ depth ∧ depth ≤ 1000 ∧ ((depth ≤ 1 ∧ tAh n t) ∨ (2 ≤ depth ∧ depth + 3 ≤ n))
theorem Fuel.sub {n : Nat} {depth : Int} {t t' : Ty} (h : Fuel (n + 1) depth t) (hd : 1 < depth) (h4 : tAh 4 t') : Fuel n (depth - 1) t' := by
 obtain ⟨h1, h2, h3, h5⟩ := h
 refine ⟨h4, by omega, by omega, ?_⟩
 rcases h5 with ⟨h5, _⟩ | ⟨h5, h6⟩
 ·omega
 ·by_cases h7 : 3 ≤ depth
  ·exact .inr ⟨by omega, by omega⟩
  ·exact .inl ⟨by omega, h4.le (by omega)⟩
theorem Fuel.kid {n : Nat} {depth : Int} {k : Int} {ks : List Ty} {t' : Ty} (h : Fuel (n + 1) depth (.mk k ks)) (ht : t' ∈ ks) : Fuel n (depth - 1) t' := by
 have h4 : tAh 4 t' := (tAh_kid h.1 ht).up
 by_cases hd : 1 < depth
 ·exact h.sub hd h4
 ·obtain ⟨h1, h2, h3, h5⟩ := h
  refine ⟨h4, by omega, by omega, .inl ⟨by omega, ?_⟩⟩
  rcases h5 with ⟨_, h5⟩ | ⟨h5, _⟩
  ·exact tAh_kid h5 ht
  ·omega
theorem Fuel.pos {n : Nat} {depth : Int} {k : Int} {ks : List Ty} (h : Fuel n depth (.mk k ks)) (hd : 1 < depth ∨ k = 4 ∨ k = 5) : ∃ m, n = m + 1 := by
 cases n with
 | succ m => exact ⟨m, rfl⟩
 | zero =>
  obtain ⟨h1, h2, h3, h5⟩ := h
  rcases h5 with ⟨h5, h6⟩ | ⟨h5, h6⟩
  ·have := h6.2
   omega
  ·omega
/-- What the drawing of a term does. -/
def MakeOk (br : Nat) (pb : Option Addr) (nb cb : Nat) (bs : List UInt8) (n : Nat) : Prop := ∀ (depth : Int) (t : Ty) (p : Nat) (G : IM) (pc : Option Addr) (nc cc : Nat) (cells : List Value), Fuel n depth t → (n : Int) - 1000 ≤ depth → depth ≤ 1000 → nc + n ≤ 40 → GCx G pc nc cc → RTy G t cells → Sl G pb nb cb 1 (byts bs) → p + mB n < 1099511627776 →
 Fn Tryz.prog 80 [.pointer (some ⟨br, 0, none⟩), .slice pc nc cc, .agg ⟨cells⟩, .int .i64 depth] [rd br pb nb cb p] G
  (Drew br pb nb cb p (mB n) (fun G' v => ∃ e cells, v = .agg ⟨cells⟩ ∧ RTm G' e cells ∧ tmCount e ≤ mB n))
set_option maxHeartbeats 0 in
set_option maxRecDepth 100000 in
theorem l3Lam_fn (br : Nat) (pb : Option Addr) (nb cb : Nat) (bs : List UInt8) (hnb : nb ≤ 2000) (m : Nat) (hM : MakeOk br pb nb cb bs m) (depth : Int) (a t : Ty) (p : Nat) (G : IM) (pc : Option Addr) (nc cc : Nat) (ca cells : List Value)
  (hfu : Fuel m depth t) (hd0 : (m : Int) - 1000 ≤ depth) (hd1 : depth ≤ 1000) (hnc : nc + 1 + m ≤ 40) (hx : GCx G pc nc cc) (hra : RTy G a ca) (haa : tAr a ∧ szTy a ≤ 30) (hrt : RTy G t cells) (hb : Sl G pb nb cb 1 (byts bs)) (hp : p + 1 + mB m < 1099511627776) :
  Fn Tryz.prog 115 [.pointer (some ⟨br, 0, none⟩), .slice pc nc cc, .agg ⟨ca⟩, .agg ⟨cells⟩, .int .i64 depth] [rd br pb nb cb p] G
   (Drew br pb nb cb p (1 + mB m) (fun G' v => ∃ e cells, v = .agg ⟨cells⟩ ∧ RTm G' e cells ∧ tmCount e ≤ 1 + mB m)) := by
 obtain ⟨ak, aks⟩ := a
 obtain ⟨tk, tks⟩ := t
 obtain ⟨pa, cca, ea, rfl, _⟩ := hra.open
 obtain ⟨pt, cct, et, rfl, _⟩ := hrt.open
 simp only [Ty.k, Ty.ks] at hra hrt ⊢
 refine fn_enter Tryz.func115 rfl Tryz.ntmps115 Tryz.results115 rfl ?_
 intro w0
 refine tri_seq (tri_region ?_)
 (refine seq_step (step_box_a rfl rfl) rfl ?_; rintro _ ⟨b3, rfl⟩)
 (refine seq_step (step_box_a rfl rfl) rfl ?_; rintro _ ⟨b4, rfl⟩)
 (refine seq_step (step_alloc rfl) rfl ?_; rintro _ ⟨b5, rfl⟩)
 refine seq_done (nrm_seq (tri_seq (tri_region (seq_pure (pure_move rfl) rfl rfl ?_))))
 (refine seq_step (step_buildSlice rfl rfl rfl (by omega) (by unfold maxLen; omega) rfl) rfl ?_; rintro _ ⟨b11, rfl⟩)
 (refine triL_freeze (by repeat (first | exact Pk.here | apply Pk.there)) (fun G4 hle4 hsl4 _ => ?_); refine seq_take rfl (of_fn G4 br pb nb cb p bs _ _ _ _ (hb.mono hle4) hnb (by omega) hsl4 (by decide)) (Pk.perm (by repeat (first | exact Pk.here | apply Pk.there))) rfl rfl (fun v G5 outs hle5 hh => ?_); obtain ⟨rfl, rfl, hv⟩ := hh; obtain ⟨nm, rfl⟩ : ∃ nm, v = .string nm := (by simp only [List.mem_cons, List.not_mem_nil, or_false] at hv; rcases hv with rfl | rfl | rfl | rfl <;> exact ⟨_, rfl⟩); replace hra := hra.mono hle4; replace hx := hx.mono hle4; replace hb := hb.mono hle4; replace hrt := hrt.mono hle4;)
 refine seq_pure (pure_assign rfl) rfl rfl ?_
 refine seq_done (nrm_seq (tri_seq (tri_draw mixed rfl ?_)))
 refine any_pure (i := 0) (listed' := [tt,ff,ff,ff,ff,ff,ff,ff,ff,ff,ff,ff,ff,ff]) rfl npI (pure_move rfl) rfl (by kernel_rfl) rfl rfl ?_
 refine any_load (i := 1) (listed' := [tt,tt,ff,ff,ff,ff,ff,ff,ff,ff,ff,ff,ff,ff]) rfl npI (load_ba rfl rfl (by repeat first | exact mH | apply mT) (by rfl)) rfl (by kernel_rfl) rfl rfl ?_
 refine any_pure (i := 3) (listed' := [tt,tt,ff,tt,ff,ff,ff,ff,ff,ff,ff,ff,ff,ff]) rfl npI (pure_move rfl) rfl (by kernel_rfl) rfl rfl ?_
 refine any_pure (i := 4) (listed' := [tt,tt,ff,tt,tt,ff,ff,ff,ff,ff,ff,ff,ff,ff]) rfl npI (pure_move rfl) rfl (by kernel_rfl) rfl rfl ?_
 refine any_pure (i := 5) (listed' := [tt,tt,ff,tt,tt,tt,ff,ff,ff,ff,ff,ff,ff,ff]) rfl npI (pure_move rfl) rfl (by kernel_rfl) rfl rfl ?_
 refine any_load (i := 6) (listed' := [tt,tt,ff,tt,tt,tt,tt,ff,ff,ff,ff,ff,ff,ff]) rfl npI (load_ba rfl rfl (by repeat first | exact mH | apply mT) (by rfl)) rfl (by kernel_rfl) rfl rfl ?_
 refine any_load (i := 8) (listed' := [tt,tt,ff,tt,tt,tt,tt,ff,tt,ff,ff,ff,ff,ff]) rfl npI (load_ba rfl rfl (by repeat first | exact mH | apply mT) (by rfl)) rfl (by kernel_rfl) rfl rfl ?_
 refine any_pure (i := 9) (listed' := [tt,tt,ff,tt,tt,tt,tt,ff,tt,tt,ff,ff,ff,ff]) rfl npI (pure_move rfl) rfl (by kernel_rfl) rfl rfl ?_
 refine any_one (j := 2) (by kernel_rfl) ?_
 (refine one_imm (listed' := [tt,tt,tt,tt,tt,tt,tt,ff,tt,tt,ff,ff,ff,ff]) rfl rfl (l1Copy_fn _ _ _ haa.1.small hra) rfl rfl rfl (fun v G6 hle6 hh => ?_); obtain ⟨cs1, F1, rfl, hs1, hn1⟩ := hh; obtain ⟨p1, c1, rfl, _⟩ := hs1.open; have hr1 := hs1.R.mono (Dif.le G6 _); replace hra := hra.mono hle6; replace hx := hx.mono hle6; replace hb := hb.mono hle6; replace hrt := hrt.mono hle6;)
 refine any_one (j := 7) (by kernel_rfl) ?_
 (refine one_imm (listed' := [tt,tt,tt,tt,tt,tt,tt,tt,tt,tt,ff,ff,ff,ff]) rfl rfl (l3More_fn _ pc nc cc nm (.mk ak aks) _ hx (by omega) hra haa.1 haa.2) rfl rfl rfl (fun v G7 hle7 hh => ?_); obtain ⟨pm, cm, rfl, hxm⟩ := hh; replace hr1 := hr1.mono hle7; replace hx := hx.mono hle7; replace hb := hb.mono hle7; replace hrt := hrt.mono hle7; have hcall := hM depth (.mk tk tks) (p + 1) _ pm (nc + 1) cm _ hfu hd0 hd1 (by omega) hxm hrt hb (by omega))
 refine any_one (j := 10) (by kernel_rfl) ?_
 (refine one_take (listed' := [tt,tt,tt,tt,tt,tt,tt,tt,tt,tt,tt,ff,ff,ff]) rfl rfl hcall (Pk.perm (by repeat (first | exact Pk.here | apply Pk.there))) rfl rfl rfl (by repeat (first | exact HmOk.nil | apply HmOk.dep (by decide +kernel) | apply HmOk.blk (by decide +kernel) (by repeat (first | exact Pk.here | apply Pk.there)) (by repeat first | exact mH | apply mT))) (fun v G8 outs hle8 hh => ?_); obtain ⟨p8, hp81, hp82, rfl, e8, c8, rfl, hr8, hc8⟩ := hh; obtain ⟨a1, a2, a3, a4, a5, a6, a7, a8, a9, rfl⟩ := hr8.nine; replace hr1 := hr1.mono hle8)
 refine any_one (j := 11) (by kernel_rfl) ?_
 (refine one_step0 (listed' := [tt,tt,tt,tt,tt,tt,tt,tt,tt,tt,tt,tt,ff,ff]) rfl (step_buildSlice rfl rfl rfl (by omega) (by unfold maxLen; omega) rfl) rfl rfl ?_; rintro _ ⟨b33, rfl⟩)
 refine any_pure (i := 12) (listed' := [tt,tt,tt,tt,tt,tt,tt,tt,tt,tt,tt,tt,tt,ff]) rfl npI (pure_build rfl rfl) rfl (by kernel_rfl) rfl rfl ?_
 refine any_one (j := 13) (by kernel_rfl) ?_
 refine one_store (listed' := [tt,tt,tt,tt,tt,tt,tt,tt,tt,tt,tt,tt,tt,tt]) rfl rfl rfl rfl rfl rfl rfl rfl (by kernel_rfl) (by repeat first | exact Sw.here | apply Sw.there) (by rfl) ?_
 refine any_done (by kernel_rfl) ?_
 refine nrm_seq ?_
 (refine ret_freeze (cs := [a1, a2, a3, a4, a5, a6, a7, a8, a9]) (by repeat (first | exact Pk.here | apply Pk.there)) (fun G9 hle9 hsl9 hno9 => ?_); have hN := node1 (k := 5) (nm := nm) ⟨by omega, by omega⟩ (hr1.mono hle9) (hr8.mono hle9) hsl9)
 refine tri_ret (ret_own1 (outs := [rd br pb nb cb p8]) (res_cell rfl (load_ba rfl rfl (by repeat first | exact mH | apply mT) (by rfl))) (by repeat (first | exact SubH.nil | refine SubH.cons Pk.here ?_ | refine SubH.cons (Pk.there Pk.here) ?_ | refine SubH.cons (Pk.there (Pk.there Pk.here)) ?_ | apply SubH.drop)) ?_)
 (exact ⟨p8, by omega, by omega, rfl, _, _, rfl, hN, by simp only [tmCount, tmCountL]; omega⟩)
end Gw
end Go.Proofs.YtgclbnfdlddpnaaGreat
