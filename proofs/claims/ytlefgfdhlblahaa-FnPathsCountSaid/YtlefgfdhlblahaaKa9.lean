/-
  BareTerm, CountNodes: the reference model's, the program's. TypeSame, TermSame: the same data is the same. The law that paths are nodes: its walk. Slices of numbers read as arguments. Slices of bytes read as arguments.
-/
import Derived.Test.YtlefgfdhlblahaaKa8
import Derived.Test.YtlefgfdhlblahaaKa2
import Derived.Test.YtlefgfdhlblahaaKa7
import Derived.Test.YtlefgfdhlblahaaKa4
namespace Go.Proofs.Ytlefgfdhlblahaa
open Go Go.RowKit
namespace Gw
theorem STmS.leaf {G : IM} {k : Int} {nm : ByteArray} {num x : Int} {ks : List Tm} {p : Option Addr} {c : Nat} {F : List Nat} (h : STmS G ks p c F) (hk : I64 k) (hnum : I64 num) (hx : I64 x) :
    STm G (.mk k nm num (.mk x []) ty0 0 ks) [.int .i64 k, .string nm, .int .i64 num, .int .i64 x, .slice none 0 0, .int .i64 0, .slice none 0 0, .int .i64 0, .slice p ks.length c] F := by
  obtain ⟨es, Fs, h1, h2, rfl, h4⟩ := h
  have hT : STy G (.mk x []) [.int .i64 x, .slice none 0 0] [] := by
    simp only [STy, STyL]
    exact ⟨none, 0, [], [], rfl, hx, SlE.nil _ _, ⟨rfl, rfl⟩, rfl, by simp [vfp]⟩
  simp only [STm]
  exact ⟨[.int .i64 x, .slice none 0 0], [.int .i64 0, .slice none 0 0], p, c, es, [], [], Fs, rfl, hk, hnum, ⟨by omega, by omega⟩, hT, ty0_s G, h1, h2, rfl, h4⟩
theorem mBare_kid {k : Int} {nm : ByteArray} {num : Int} {ty fr : Ty} {lb : Int} {ks : List Tm} (h : k = 13 ∨ k = 14) (h0 : 0 < ks.length) : mBare (.mk k nm num ty fr lb ks) = mBare ks[0] := by
  cases ks with
  | nil => simp at h0
  | cons x xs => rw [mBare, if_pos h, mBareL]; rfl
theorem mBare_node {k : Int} {nm : ByteArray} {num : Int} {ty fr : Ty} {lb : Int} {ks : List Tm} {x : Int} (h : ¬(k = 13 ∨ k = 14)) (hx : x = if k = 5 then 1 else 0) : mBare (.mk k nm num ty fr lb ks) = .mk k nm num (.mk x []) ty0 0 (mBareL ks) := by
  rw [mBare, if_neg h, hx]
  by_cases h5 : k = 5
  · rw [if_pos h5, if_pos h5]; rfl
  · rw [if_neg h5, if_neg h5]; rfl
set_option maxHeartbeats 0 in
set_option maxRecDepth 100000 in
theorem l4Bare_fn (D N : Int) : ∀ (t : Tm) (d : Int) (G : IM) (cells : List Value), sShape D N t d = true → t.small → RTm G t cells →
    Fn Try.prog 41 [.agg ⟨cells⟩] [] G (ToTm (mBare t) G) := by
  refine Tm.ind fun k nm num ty fr lb ks ih d G cells hv hts hr => ?_
  have hone := hr.one
  obtain ⟨hv1, hv2, hv3, hv4⟩ := sShape_go2 hv
  have hvk := (sShapeL_iff D N ks _).1 hv4
  have har := (tmNode_iff.1 hv3).1
  have hk0 : k = 13 ∨ k = 14 → 0 < ks.length := by
    rintro (rfl | rfl)
    · rw [show tmOps 13 = 1 from rfl] at har; omega
    · rw [show tmOps 14 = 1 from rfl] at har; omega
  simp only [Tm.small] at hts
  obtain ⟨hnm, hty', hfr', hsm, hks⟩ := hts
  obtain ⟨tk, tks⟩ := ty
  obtain ⟨fk, fks⟩ := fr
  obtain ⟨pt, ct, pf, cf, p, c, es, rfl, hk, hnum, hlb, hty, hfr, hsl, hkl⟩ := hr.open9
  have hn := hsl.le
  have hlen : (mBareL ks).length = ks.length := by rw [mBareL_eq, List.length_map]
  have hget : ∀ i (h : i < ks.length) (h' : i < (mBareL ks).length), (mBareL ks)[i] = mBare ks[i] := fun i h h' => by simp [mBareL_eq]
  have hB1 := fun h h0 => @mBare_kid k nm num (.mk tk tks) (.mk fk fks) lb ks h h0
  have hB2 := fun x h hx => @mBare_node k nm num (.mk tk tks) (.mk fk fks) lb ks x h hx
  refine fn_enter Try.func41 rfl Try.ntmps41 Try.results41 rfl ?_
  intro w0
  refine tri_seq ?_
  refine tri_region ?_
  (refine seq_step (step_box_a rfl rfl) rfl ?_; rintro _ ⟨b3, rfl⟩)
  (refine seq_step (step_alloc rfl) rfl ?_; rintro _ ⟨b4, rfl⟩)
  refine seq_done ?_
  refine nrm_seq ?_
  refine tri_seq ?_
  refine tri_seq ?_
  refine tri_region ?_
  refine seq_pure (pure_fieldAddr0 rfl) rfl rfl ?_
  refine seq_load (load_bs rfl rfl (by repeat (first | exact List.Mem.head _ | apply List.Mem.tail)) (by rfl)) rfl rfl ?_
  refine seq_bool (pure_eql rfl rfl) rfl rfl (fun h12 => ?_) (fun h12 => ?_)
  · refine seq_pure (pure_move rfl) rfl rfl ?_
    refine seq_skip rfl rfl ?_
    refine seq_skip rfl rfl ?_
    refine seq_skip rfl rfl ?_
    refine seq_pure (pure_pick_t rfl rfl) rfl rfl ?_
    refine seq_done ?_
    refine nrm_seq ?_
    refine tri_cond_t rfl ?_
    refine tri_seq ?_
    refine tri_region ?_
    refine seq_pure (pure_fieldAddr0 rfl) rfl rfl ?_
    refine seq_load (load_bs rfl rfl (by repeat (first | exact List.Mem.head _ | apply List.Mem.tail)) (by rfl)) rfl rfl ?_
    (have hk00 := hk0 (by omega); obtain ⟨b, o, e, rfl, hl, hat, hre, hgb⟩ := hsl.kidTm hkl (i := 0) hk00 hk00; have hK := ih ks[0] (List.getElem_mem _) _ G _ (hvk 0 hk00) (Tm.smallL_mem hks _ (List.getElem_mem _)) hre; rw [← hB1 (by omega) hk00] at hK; refine seq_pure (pure_indexAddrN (j := 0) rfl rfl rfl (by omega)) rfl rfl ?_)
    refine seq_load (load_a rfl rfl (hat _) hl) rfl rfl ?_
    (refine seq_imm rfl hK rfl rfl (fun v G3 hle3 hh => ?_); obtain ⟨cells', F', rfl, hs', hnd'⟩ := hh; have hl' := hs'.R.len; have ho' := hs'.R.one)
    refine seq_store rfl rfl rfl hl' ho' rfl (by repeat (first | exact Sw.here | apply Sw.there)) (by exact upd_all hl'.symm) ?_
    refine seq_done ?_
    refine nrm_seq ?_
    refine tri_ret ?_
    refine ret_seq ?_
    refine ret_fin1 (res_cell rfl (load_a rfl rfl (at_blk_all (by repeat (first | exact List.Mem.head _ | apply List.Mem.tail))) hl')) ?_
    exact ⟨rfl, cells', F', rfl, hs', hnd'⟩
  · refine seq_pure (pure_move rfl) rfl rfl ?_
    refine seq_pure (pure_fieldAddr0 rfl) rfl rfl ?_
    refine seq_load (load_bs rfl rfl (by repeat (first | exact List.Mem.head _ | apply List.Mem.tail)) (by rfl)) rfl rfl ?_
    refine seq_bool (pure_eql rfl rfl) rfl rfl (fun h38 => ?_) (fun h38 => ?_)
    · refine seq_pure (pure_pick_f rfl rfl) rfl rfl ?_
      refine seq_done ?_
      refine nrm_seq ?_
      refine tri_cond_t rfl ?_
      refine tri_seq ?_
      refine tri_region ?_
      refine seq_pure (pure_fieldAddr0 rfl) rfl rfl ?_
      refine seq_load (load_bs rfl rfl (by repeat (first | exact List.Mem.head _ | apply List.Mem.tail)) (by rfl)) rfl rfl ?_
      (have hk00 := hk0 (by omega); obtain ⟨b, o, e, rfl, hl, hat, hre, hgb⟩ := hsl.kidTm hkl (i := 0) hk00 hk00; have hK := ih ks[0] (List.getElem_mem _) _ G _ (hvk 0 hk00) (Tm.smallL_mem hks _ (List.getElem_mem _)) hre; rw [← hB1 (by omega) hk00] at hK; refine seq_pure (pure_indexAddrN (j := 0) rfl rfl rfl (by omega)) rfl rfl ?_)
      refine seq_load (load_a rfl rfl (hat _) hl) rfl rfl ?_
      (refine seq_imm rfl hK rfl rfl (fun v G3 hle3 hh => ?_); obtain ⟨cells', F', rfl, hs', hnd'⟩ := hh; have hl' := hs'.R.len; have ho' := hs'.R.one)
      refine seq_store rfl rfl rfl hl' ho' rfl (by repeat (first | exact Sw.here | apply Sw.there)) (by exact upd_all hl'.symm) ?_
      refine seq_done ?_
      refine nrm_seq ?_
      refine tri_ret ?_
      refine ret_seq ?_
      refine ret_fin1 (res_cell rfl (load_a rfl rfl (at_blk_all (by repeat (first | exact List.Mem.head _ | apply List.Mem.tail))) hl')) ?_
      exact ⟨rfl, cells', F', rfl, hs', hnd'⟩
    · refine seq_pure (pure_pick_f rfl rfl) rfl rfl ?_
      refine seq_done ?_
      refine nrm_seq ?_
      refine tri_cond_f rfl ?_
      refine tri_skip ?_
      refine nrm_seq ?_
      refine tri_seq ?_
      refine tri_region ?_
      refine seq_pure (pure_fieldAddr0 rfl) rfl rfl ?_
      refine seq_load (load_bs rfl rfl (by repeat (first | exact List.Mem.head _ | apply List.Mem.tail)) (by rfl)) rfl rfl ?_
      refine seq_pure (pure_fieldAddr0 rfl) rfl rfl ?_
      refine seq_load (load_bs rfl rfl (by repeat (first | exact List.Mem.head _ | apply List.Mem.tail)) (by rfl)) rfl rfl ?_
      refine seq_pure (pure_fieldAddr0 rfl) rfl rfl ?_
      refine seq_load (load_bs rfl rfl (by repeat (first | exact List.Mem.head _ | apply List.Mem.tail)) (by rfl)) rfl rfl ?_
      refine seq_pure (pure_build rfl rfl) rfl rfl ?_
      (refine seq_step (step_alloc rfl) rfl ?_; rintro _ ⟨b72, rfl⟩)
      refine seq_store rfl rfl rfl rfl rfl rfl (by repeat (first | exact Sw.here | apply Sw.there)) (by rfl) ?_
      refine seq_done ?_
      refine nrm_seq ?_
      refine tri_seq ?_
      refine tri_seq ?_
      refine tri_region ?_
      refine seq_pure (pure_fieldAddr0 rfl) rfl rfl ?_
      refine seq_load (load_bs rfl rfl (by repeat (first | exact List.Mem.head _ | apply List.Mem.tail)) (by rfl)) rfl rfl ?_
      refine seq_bool (pure_eql rfl rfl) rfl rfl (fun h81 => ?_) (fun h81 => ?_)
      · refine seq_done ?_
        refine nrm_seq ?_
        (show Tri _ _ (.cond (.tmp 27) _ _) _ _; refine tri_cut (fun (x : Int) => ⟨[(3, .pointer (some ⟨b72, 0, none⟩)), (1, .pointer (some ⟨b3, 0, none⟩)), (2, .pointer (some ⟨b4, 0, none⟩))], [.blk b72 [.int .i64 k, .string nm, .int .i64 num, .int .i64 x, .slice none 0 0, .int .i64 0, .slice none 0 0, .int .i64 0, .slice none 0 0], .blk b4 [.int .i64 0, .string ⟨⟨[]⟩⟩, .int .i64 0, .int .i64 0, .slice none 0 0, .int .i64 0, .slice none 0 0, .int .i64 0, .slice none 0 0], .blk b3 [.int .i64 k, .string nm, .int .i64 num, .int .i64 tk, .slice pt tks.length ct, .int .i64 fk, .slice pf fks.length cf, .int .i64 lb, .slice p ks.length c]], G⟩) (fun x => x = if k = 5 then 1 else 0) ?_ ?_)
        · refine tri_cond_t rfl ?_
          refine tri_region ?_
          refine seq_val rfl ((l1Any_fn _)) rfl rfl ?_
          refine seq_pure (pure_fieldAddr0 rfl) rfl rfl ?_
          refine seq_store rfl rfl rfl rfl rfl rfl (by repeat (first | exact Sw.here | apply Sw.there)) (by rfl) ?_
          refine seq_done ?_
          refine nrm_cut 1 (sub_mk (by repeat (first | exact SubE.nil | refine SubE.cons rfl ?_)) (by repeat (first | exact SubH.refl | exact SubH.nil | refine SubH.cons (by repeat (first | exact Pk.here | apply Pk.there)) ?_ | apply SubH.drop))) (if_pos (by omega)).symm
        · (intro tx htx; have hxi : I64 tx := (by rw [htx]; split <;> exact ⟨by omega, by omega⟩); have hB3 := hB2 tx (by omega) htx)
          refine tri_seq ?_
          refine tri_seq ?_
          refine tri_region ?_
          refine seq_pure (pure_assign rfl) rfl rfl ?_
          refine seq_done ?_
          refine nrm_seq ?_
          refine tri_block ?_
          (refine tri_nil 28 9 ?_; refine tri_loopN (fun (x : Nat × Option Addr × Nat × List (List Value) × List Nat × IM) => ⟨[(4, .int .i64 x.1), (3, .pointer (some ⟨b72, 0, none⟩)), (1, .pointer (some ⟨b3, 0, none⟩)), (2, .pointer (some ⟨b4, 0, none⟩))], [.blk b72 [.int .i64 k, .string nm, .int .i64 num, .int .i64 tx, .slice none 0 0, .int .i64 0, .slice none 0 0, .int .i64 0, .slice x.2.1 x.1 x.2.2.1], .slc x.2.1 x.2.2.1 28 9 x.1 x.2.2.2.1.flatten, .blk b4 [.int .i64 0, .string ⟨⟨[]⟩⟩, .int .i64 0, .int .i64 0, .slice none 0 0, .int .i64 0, .slice none 0 0, .int .i64 0, .slice none 0 0], .blk b3 [.int .i64 k, .string nm, .int .i64 num, .int .i64 tk, .slice pt tks.length ct, .int .i64 fk, .slice pf fks.length cf, .int .i64 lb, .slice p ks.length c]], x.2.2.2.2.2⟩) (fun x => x.1 ≤ ks.length ∧ IMle G x.2.2.2.2.2 ∧ STmL (Dif x.2.2.2.2.2 G) ((mBareL ks).take x.1) x.2.2.2.1 x.2.2.2.2.1 ∧ x.2.2.2.2.1.Nodup) (fun x => ks.length - x.1) (0, none, 0, [], [], G) ?_ ?_ ?_)
          · (simp only [flat_snoc]; exact sub_mk (by repeat (first | exact SubE.nil | refine SubE.cons rfl ?_)) (by repeat (first | exact SubH.refl | exact SubH.nil | refine SubH.cons (by repeat (first | exact Pk.here | apply Pk.there)) ?_ | apply SubH.drop)))
          · exact ⟨by simp, IMle.refl _, by simp [STmL], by simp⟩
          · (rintro ⟨i, pn, cn, es', F, Gi⟩ ⟨hi, hle, hst, hnd⟩; simp only [] at hi hle hst hnd ⊢; replace hsl := hsl.mono hle; replace hkl := hkl.mono hle)
            refine tri_seq ?_
            refine tri_seq ?_
            refine tri_region ?_
            refine seq_pure (pure_move rfl) rfl rfl ?_
            refine seq_pure (pure_fieldAddr0 rfl) rfl rfl ?_
            refine seq_load (load_bs rfl rfl (by repeat (first | exact List.Mem.head _ | apply List.Mem.tail)) (by rfl)) rfl rfl ?_
            refine seq_pure (pure_len rfl rfl) rfl rfl ?_
            refine seq_bool (pure_lss rfl rfl) rfl rfl (fun h111 => ?_) (fun h111 => ?_)
            · refine seq_done ?_
              refine nrm_seq ?_
              refine tri_cond_t rfl ?_
              refine tri_skip ?_
              refine nrm_seq ?_
              refine tri_seq ?_
              refine tri_block ?_
              (obtain ⟨b, o, e, rfl, hl, hat, hre, hgb⟩ := hsl.kidTm hkl (i := i) (by omega) (by omega); have hone := hre.one; refine tri_draw mixed rfl ?_)
              refine any_pure (i := 0) (listed' := [true, false, false, false, false, false, false, false, false, false, false, false]) rfl (by repeat (first | exact np_ret | exact np_cut | apply np_seq | apply np_block | apply np_loopN')) (pure_fieldAddr0 rfl) rfl (by kernel_rfl) rfl rfl ?_
              refine any_load (i := 1) (listed' := [true, true, false, false, false, false, false, false, false, false, false, false]) rfl (by repeat (first | exact np_ret | exact np_cut | apply np_seq | apply np_block | apply np_loopN')) (load_bs rfl rfl (by repeat (first | exact List.Mem.head _ | apply List.Mem.tail)) (by rfl)) rfl (by kernel_rfl) rfl rfl ?_
              refine any_pure (i := 2) (listed' := [true, true, true, false, false, false, false, false, false, false, false, false]) rfl (by repeat (first | exact np_ret | exact np_cut | apply np_seq | apply np_block | apply np_loopN')) (pure_fieldAddr0 rfl) rfl (by kernel_rfl) rfl rfl ?_
              refine any_load (i := 3) (listed' := [true, true, true, true, false, false, false, false, false, false, false, false]) rfl (by repeat (first | exact np_ret | exact np_cut | apply np_seq | apply np_block | apply np_loopN')) (load_bs rfl rfl (by repeat (first | exact List.Mem.head _ | apply List.Mem.tail)) (by rfl)) rfl (by kernel_rfl) rfl rfl ?_
              refine any_pure (i := 4) (listed' := [true, true, true, true, true, false, false, false, false, false, false, false]) rfl (by repeat (first | exact np_ret | exact np_cut | apply np_seq | apply np_block | apply np_loopN')) (pure_move rfl) rfl (by kernel_rfl) rfl rfl ?_
              refine any_pure (i := 5) (listed' := [true, true, true, true, true, true, false, false, false, false, false, false]) rfl (by repeat (first | exact np_ret | exact np_cut | apply np_seq | apply np_block | apply np_loopN')) (pure_indexAddrN rfl rfl rfl (by omega)) rfl (by kernel_rfl) rfl rfl ?_
              refine any_load (i := 6) (listed' := [true, true, true, true, true, true, true, false, false, false, false, false]) rfl (by repeat (first | exact np_ret | exact np_cut | apply np_seq | apply np_block | apply np_loopN')) (load_a rfl rfl (hat _) hl) rfl (by kernel_rfl) rfl rfl ?_
              refine any_one (j := 7) (by kernel_rfl) ?_
              (refine one_imm (listed' := [true, true, true, true, true, true, true, true, false, false, false, false]) rfl rfl (ih ks[i] (List.getElem_mem (by omega)) _ _ _ (hvk i (by omega)) (Tm.smallL_mem hks _ (List.getElem_mem (by omega))) hre) rfl rfl rfl (fun v G3 hle3 hh => ?_); obtain ⟨cells', F', rfl, hs', hnd'⟩ := hh; rw [← hget i (by omega) (by omega)] at hs'; obtain ⟨qt, dt, et', qf, df, ef', q3, d3, es3, rfl, _⟩ := hs'.R.open)
              refine any_one (j := 8) (by kernel_rfl) ?_
              (refine one_step0 (listed' := [true, true, true, true, true, true, true, true, true, false, false, false]) rfl (step_buildSlice rfl rfl rfl (by omega) (by unfold maxLen; omega) rfl) rfl rfl ?_; rintro _ ⟨b130, rfl⟩)
              refine any_one (j := 9) (by kernel_rfl) ?_
              refine one_append (listed' := [true, true, true, true, true, true, true, true, true, true, false, false]) rfl rfl rfl rfl rfl rfl (fun _ _ => by repeat (first | exact Sw.here | apply Sw.there)) (at_slc_all (by repeat (first | exact List.Mem.head _ | apply List.Mem.tail))) rfl (by simp [Value.oneCell']) (by unfold maxLen; omega) (by omega) rfl rfl (by repeat (first | exact HmOk.nil | apply HmOk.dep (by decide +kernel) | apply HmOk.blk (by decide +kernel) (by repeat (first | exact Pk.here | apply Pk.there)) (by repeat (first | exact List.Mem.head _ | apply List.Mem.tail)))) (fun pn' cn' => ?_)
              refine any_pure (i := 10) (listed' := [true, true, true, true, true, true, true, true, true, true, true, false]) rfl (by repeat (first | exact np_ret | exact np_cut | apply np_seq | apply np_block | apply np_loopN')) (pure_fieldAddr0 rfl) rfl (by kernel_rfl) rfl rfl ?_
              refine any_one (j := 11) (by kernel_rfl) ?_
              refine one_store (listed' := [true, true, true, true, true, true, true, true, true, true, true, true]) rfl rfl rfl rfl rfl rfl rfl rfl (by kernel_rfl) (by repeat (first | exact Sw.here | apply Sw.there)) (by rfl) ?_
              refine any_done (by kernel_rfl) ?_
              refine nrm_block ?_
              refine nrm_seq ?_
              refine tri_region ?_
              refine seq_pure (pure_move rfl) rfl rfl ?_
              refine seq_pure (pure_add rfl rfl (by omega) (by omega)) rfl rfl ?_
              refine seq_pure (pure_assign rfl) rfl rfl ?_
              refine seq_done ?_
              refine nrm_loopN (i + 1, pn', cn', es' ++ [[.int .i64 (mBareL ks)[i].k, .string (mBareL ks)[i].nm, .int .i64 (mBareL ks)[i].num, .int .i64 (mBareL ks)[i].ty.k, .slice qt (mBareL ks)[i].ty.ks.length dt, .int .i64 (mBareL ks)[i].fr.k, .slice qf (mBareL ks)[i].fr.ks.length df, .int .i64 (mBareL ks)[i].lb, .slice q3 (mBareL ks)[i].ks.length d3]], F ++ F', G3) ?_ ?_ ?_
              · (simp only [flat_snoc]; exact sub_mk (by repeat (first | exact SubE.nil | refine SubE.cons rfl ?_)) (by repeat (first | exact SubH.refl | exact SubH.nil | refine SubH.cons (by repeat (first | exact Pk.here | apply Pk.there)) ?_ | apply SubH.drop)))
              · exact ⟨by omega, hle.trans hle3, STmL.step hst hnd hle hle3 (by omega) hs' hnd'⟩
              · (show ks.length - (i + 1) < ks.length - i; omega)
            · refine seq_done ?_
              refine nrm_seq ?_
              refine tri_cond_f rfl ?_
              refine tri_exit ?_
              refine ext_seq ?_
              refine ext_loopN ?_
              refine ext_block_eq ?_
              refine nrm_seq ?_
              refine tri_seq ?_
              refine tri_region ?_
              refine seq_load (load_ba rfl rfl (by repeat (first | exact List.Mem.head _ | apply List.Mem.tail)) (by rfl)) rfl rfl ?_
              refine seq_store rfl rfl rfl rfl rfl rfl (by repeat (first | exact Sw.here | apply Sw.there)) (by rfl) ?_
              refine seq_done ?_
              refine nrm_seq ?_
              (refine ret_freeze (by repeat (first | exact Pk.here | apply Pk.there)) (fun G4 hle4 hsl4 hno4 => ?_); obtain rfl : i = ks.length := (by omega))
              refine tri_ret ?_
              refine ret_fin1 (res_cell rfl (load_ba rfl rfl (by repeat (first | exact List.Mem.head _ | apply List.Mem.tail)) (by rfl))) ?_
              (rw [← hlen, List.take_length] at hst; rw [← hlen] at hsl4 ⊢; obtain ⟨F3, hf1, hf2⟩ := STmS.fin hst hnd hle hle4 hsl4 hno4; rw [hB3]; exact ⟨rfl, _, F3, rfl, hf1.leaf hk hnum hxi, hf2⟩)
      · refine seq_done ?_
        refine nrm_seq ?_
        (show Tri _ _ (.cond (.tmp 27) _ _) _ _; refine tri_cut (fun (x : Int) => ⟨[(3, .pointer (some ⟨b72, 0, none⟩)), (1, .pointer (some ⟨b3, 0, none⟩)), (2, .pointer (some ⟨b4, 0, none⟩))], [.blk b72 [.int .i64 k, .string nm, .int .i64 num, .int .i64 x, .slice none 0 0, .int .i64 0, .slice none 0 0, .int .i64 0, .slice none 0 0], .blk b4 [.int .i64 0, .string ⟨⟨[]⟩⟩, .int .i64 0, .int .i64 0, .slice none 0 0, .int .i64 0, .slice none 0 0, .int .i64 0, .slice none 0 0], .blk b3 [.int .i64 k, .string nm, .int .i64 num, .int .i64 tk, .slice pt tks.length ct, .int .i64 fk, .slice pf fks.length cf, .int .i64 lb, .slice p ks.length c]], G⟩) (fun x => x = if k = 5 then 1 else 0) ?_ ?_)
        · refine tri_cond_f rfl ?_
          refine tri_skip ?_
          refine nrm_cut 0 (sub_mk (by repeat (first | exact SubE.nil | refine SubE.cons rfl ?_)) (by repeat (first | exact SubH.refl | exact SubH.nil | refine SubH.cons (by repeat (first | exact Pk.here | apply Pk.there)) ?_ | apply SubH.drop))) (if_neg (by omega)).symm
        · (intro tx htx; have hxi : I64 tx := (by rw [htx]; split <;> exact ⟨by omega, by omega⟩); have hB3 := hB2 tx (by omega) htx)
          refine tri_seq ?_
          refine tri_seq ?_
          refine tri_region ?_
          refine seq_pure (pure_assign rfl) rfl rfl ?_
          refine seq_done ?_
          refine nrm_seq ?_
          refine tri_block ?_
          (refine tri_nil 28 9 ?_; refine tri_loopN (fun (x : Nat × Option Addr × Nat × List (List Value) × List Nat × IM) => ⟨[(4, .int .i64 x.1), (3, .pointer (some ⟨b72, 0, none⟩)), (1, .pointer (some ⟨b3, 0, none⟩)), (2, .pointer (some ⟨b4, 0, none⟩))], [.blk b72 [.int .i64 k, .string nm, .int .i64 num, .int .i64 tx, .slice none 0 0, .int .i64 0, .slice none 0 0, .int .i64 0, .slice x.2.1 x.1 x.2.2.1], .slc x.2.1 x.2.2.1 28 9 x.1 x.2.2.2.1.flatten, .blk b4 [.int .i64 0, .string ⟨⟨[]⟩⟩, .int .i64 0, .int .i64 0, .slice none 0 0, .int .i64 0, .slice none 0 0, .int .i64 0, .slice none 0 0], .blk b3 [.int .i64 k, .string nm, .int .i64 num, .int .i64 tk, .slice pt tks.length ct, .int .i64 fk, .slice pf fks.length cf, .int .i64 lb, .slice p ks.length c]], x.2.2.2.2.2⟩) (fun x => x.1 ≤ ks.length ∧ IMle G x.2.2.2.2.2 ∧ STmL (Dif x.2.2.2.2.2 G) ((mBareL ks).take x.1) x.2.2.2.1 x.2.2.2.2.1 ∧ x.2.2.2.2.1.Nodup) (fun x => ks.length - x.1) (0, none, 0, [], [], G) ?_ ?_ ?_)
          · (simp only [flat_snoc]; exact sub_mk (by repeat (first | exact SubE.nil | refine SubE.cons rfl ?_)) (by repeat (first | exact SubH.refl | exact SubH.nil | refine SubH.cons (by repeat (first | exact Pk.here | apply Pk.there)) ?_ | apply SubH.drop)))
          · exact ⟨by simp, IMle.refl _, by simp [STmL], by simp⟩
          · (rintro ⟨i, pn, cn, es', F, Gi⟩ ⟨hi, hle, hst, hnd⟩; simp only [] at hi hle hst hnd ⊢; replace hsl := hsl.mono hle; replace hkl := hkl.mono hle)
            refine tri_seq ?_
            refine tri_seq ?_
            refine tri_region ?_
            refine seq_pure (pure_move rfl) rfl rfl ?_
            refine seq_pure (pure_fieldAddr0 rfl) rfl rfl ?_
            refine seq_load (load_bs rfl rfl (by repeat (first | exact List.Mem.head _ | apply List.Mem.tail)) (by rfl)) rfl rfl ?_
            refine seq_pure (pure_len rfl rfl) rfl rfl ?_
            refine seq_bool (pure_lss rfl rfl) rfl rfl (fun h191 => ?_) (fun h191 => ?_)
            · refine seq_done ?_
              refine nrm_seq ?_
              refine tri_cond_t rfl ?_
              refine tri_skip ?_
              refine nrm_seq ?_
              refine tri_seq ?_
              refine tri_block ?_
              (obtain ⟨b, o, e, rfl, hl, hat, hre, hgb⟩ := hsl.kidTm hkl (i := i) (by omega) (by omega); have hone := hre.one; refine tri_draw mixed rfl ?_)
              refine any_pure (i := 0) (listed' := [true, false, false, false, false, false, false, false, false, false, false, false]) rfl (by repeat (first | exact np_ret | exact np_cut | apply np_seq | apply np_block | apply np_loopN')) (pure_fieldAddr0 rfl) rfl (by kernel_rfl) rfl rfl ?_
              refine any_load (i := 1) (listed' := [true, true, false, false, false, false, false, false, false, false, false, false]) rfl (by repeat (first | exact np_ret | exact np_cut | apply np_seq | apply np_block | apply np_loopN')) (load_bs rfl rfl (by repeat (first | exact List.Mem.head _ | apply List.Mem.tail)) (by rfl)) rfl (by kernel_rfl) rfl rfl ?_
              refine any_pure (i := 2) (listed' := [true, true, true, false, false, false, false, false, false, false, false, false]) rfl (by repeat (first | exact np_ret | exact np_cut | apply np_seq | apply np_block | apply np_loopN')) (pure_fieldAddr0 rfl) rfl (by kernel_rfl) rfl rfl ?_
              refine any_load (i := 3) (listed' := [true, true, true, true, false, false, false, false, false, false, false, false]) rfl (by repeat (first | exact np_ret | exact np_cut | apply np_seq | apply np_block | apply np_loopN')) (load_bs rfl rfl (by repeat (first | exact List.Mem.head _ | apply List.Mem.tail)) (by rfl)) rfl (by kernel_rfl) rfl rfl ?_
              refine any_pure (i := 4) (listed' := [true, true, true, true, true, false, false, false, false, false, false, false]) rfl (by repeat (first | exact np_ret | exact np_cut | apply np_seq | apply np_block | apply np_loopN')) (pure_move rfl) rfl (by kernel_rfl) rfl rfl ?_
              refine any_pure (i := 5) (listed' := [true, true, true, true, true, true, false, false, false, false, false, false]) rfl (by repeat (first | exact np_ret | exact np_cut | apply np_seq | apply np_block | apply np_loopN')) (pure_indexAddrN rfl rfl rfl (by omega)) rfl (by kernel_rfl) rfl rfl ?_
              refine any_load (i := 6) (listed' := [true, true, true, true, true, true, true, false, false, false, false, false]) rfl (by repeat (first | exact np_ret | exact np_cut | apply np_seq | apply np_block | apply np_loopN')) (load_a rfl rfl (hat _) hl) rfl (by kernel_rfl) rfl rfl ?_
              refine any_one (j := 7) (by kernel_rfl) ?_
              (refine one_imm (listed' := [true, true, true, true, true, true, true, true, false, false, false, false]) rfl rfl (ih ks[i] (List.getElem_mem (by omega)) _ _ _ (hvk i (by omega)) (Tm.smallL_mem hks _ (List.getElem_mem (by omega))) hre) rfl rfl rfl (fun v G3 hle3 hh => ?_); obtain ⟨cells', F', rfl, hs', hnd'⟩ := hh; rw [← hget i (by omega) (by omega)] at hs'; obtain ⟨qt, dt, et', qf, df, ef', q3, d3, es3, rfl, _⟩ := hs'.R.open)
              refine any_one (j := 8) (by kernel_rfl) ?_
              (refine one_step0 (listed' := [true, true, true, true, true, true, true, true, true, false, false, false]) rfl (step_buildSlice rfl rfl rfl (by omega) (by unfold maxLen; omega) rfl) rfl rfl ?_; rintro _ ⟨b210, rfl⟩)
              refine any_one (j := 9) (by kernel_rfl) ?_
              refine one_append (listed' := [true, true, true, true, true, true, true, true, true, true, false, false]) rfl rfl rfl rfl rfl rfl (fun _ _ => by repeat (first | exact Sw.here | apply Sw.there)) (at_slc_all (by repeat (first | exact List.Mem.head _ | apply List.Mem.tail))) rfl (by simp [Value.oneCell']) (by unfold maxLen; omega) (by omega) rfl rfl (by repeat (first | exact HmOk.nil | apply HmOk.dep (by decide +kernel) | apply HmOk.blk (by decide +kernel) (by repeat (first | exact Pk.here | apply Pk.there)) (by repeat (first | exact List.Mem.head _ | apply List.Mem.tail)))) (fun pn' cn' => ?_)
              refine any_pure (i := 10) (listed' := [true, true, true, true, true, true, true, true, true, true, true, false]) rfl (by repeat (first | exact np_ret | exact np_cut | apply np_seq | apply np_block | apply np_loopN')) (pure_fieldAddr0 rfl) rfl (by kernel_rfl) rfl rfl ?_
              refine any_one (j := 11) (by kernel_rfl) ?_
              refine one_store (listed' := [true, true, true, true, true, true, true, true, true, true, true, true]) rfl rfl rfl rfl rfl rfl rfl rfl (by kernel_rfl) (by repeat (first | exact Sw.here | apply Sw.there)) (by rfl) ?_
              refine any_done (by kernel_rfl) ?_
              refine nrm_block ?_
              refine nrm_seq ?_
              refine tri_region ?_
              refine seq_pure (pure_move rfl) rfl rfl ?_
              refine seq_pure (pure_add rfl rfl (by omega) (by omega)) rfl rfl ?_
              refine seq_pure (pure_assign rfl) rfl rfl ?_
              refine seq_done ?_
              refine nrm_loopN (i + 1, pn', cn', es' ++ [[.int .i64 (mBareL ks)[i].k, .string (mBareL ks)[i].nm, .int .i64 (mBareL ks)[i].num, .int .i64 (mBareL ks)[i].ty.k, .slice qt (mBareL ks)[i].ty.ks.length dt, .int .i64 (mBareL ks)[i].fr.k, .slice qf (mBareL ks)[i].fr.ks.length df, .int .i64 (mBareL ks)[i].lb, .slice q3 (mBareL ks)[i].ks.length d3]], F ++ F', G3) ?_ ?_ ?_
              · (simp only [flat_snoc]; exact sub_mk (by repeat (first | exact SubE.nil | refine SubE.cons rfl ?_)) (by repeat (first | exact SubH.refl | exact SubH.nil | refine SubH.cons (by repeat (first | exact Pk.here | apply Pk.there)) ?_ | apply SubH.drop)))
              · exact ⟨by omega, hle.trans hle3, STmL.step hst hnd hle hle3 (by omega) hs' hnd'⟩
              · (show ks.length - (i + 1) < ks.length - i; omega)
            · refine seq_done ?_
              refine nrm_seq ?_
              refine tri_cond_f rfl ?_
              refine tri_exit ?_
              refine ext_seq ?_
              refine ext_loopN ?_
              refine ext_block_eq ?_
              refine nrm_seq ?_
              refine tri_seq ?_
              refine tri_region ?_
              refine seq_load (load_ba rfl rfl (by repeat (first | exact List.Mem.head _ | apply List.Mem.tail)) (by rfl)) rfl rfl ?_
              refine seq_store rfl rfl rfl rfl rfl rfl (by repeat (first | exact Sw.here | apply Sw.there)) (by rfl) ?_
              refine seq_done ?_
              refine nrm_seq ?_
              (refine ret_freeze (by repeat (first | exact Pk.here | apply Pk.there)) (fun G4 hle4 hsl4 hno4 => ?_); obtain rfl : i = ks.length := (by omega))
              refine tri_ret ?_
              refine ret_fin1 (res_cell rfl (load_ba rfl rfl (by repeat (first | exact List.Mem.head _ | apply List.Mem.tail)) (by rfl))) ?_
              (rw [← hlen, List.take_length] at hst; rw [← hlen] at hsl4 ⊢; obtain ⟨F3, hf1, hf2⟩ := STmS.fin hst hnd hle hle4 hsl4 hno4; rw [hB3]; exact ⟨rfl, _, F3, rfl, hf1.leaf hk hnum hxi, hf2⟩)
set_option maxHeartbeats 0 in
set_option maxRecDepth 100000 in
theorem sBareTerm_fn (t : Tm) (G : IM) (cells : List Value) (hts : t.small) (hcnt : tmCount t ≤ 4294967296) (hr : RTm G t cells) : Fn Try.prog 11 [.agg ⟨cells⟩] [] G (TbP (mBareTerm t) G) := by
  have hl := hr.len
  have hone := hr.one
  have hv := sCastValid_fn t G cells hcnt hr
  have hw := sTermValid_fn t G cells hcnt hr
  have hA1 := fun h : termValid t = true => l4Bare_fn 12 14 t 1 G cells ((termValid_iff t).1 h).1 hts hr
  have hA2 := fun h : castValid t = true => l4Bare_fn 40 13 t 1 G cells ((castValid_iff t).1 h).1 hts hr
  refine fn_enter Try.func11 rfl Try.ntmps11 Try.results11 rfl ?_
  intro w0
  refine tri_seq ?_
  refine tri_region ?_
  (refine seq_step (step_box_a rfl rfl) rfl ?_; rintro _ ⟨b3, rfl⟩)
  (refine seq_step (step_alloc rfl) rfl ?_; rintro _ ⟨b4, rfl⟩)
  refine seq_pure (pure_assign rfl) rfl rfl ?_
  refine seq_done ?_
  refine nrm_seq ?_
  refine tri_seq ?_
  refine tri_seq ?_
  refine tri_region ?_
  refine seq_load (load_a rfl rfl (at_blk_all (by repeat (first | exact List.Mem.head _ | apply List.Mem.tail))) (by assumption)) rfl rfl ?_
  refine seq_valb rfl (hw) rfl rfl (fun h12 => ?_) (fun h12 => ?_)
  · refine seq_pure (pure_not_t rfl) rfl rfl ?_
    refine seq_pure (pure_move rfl) rfl rfl ?_
    refine seq_skip rfl rfl ?_
    refine seq_skip rfl rfl ?_
    refine seq_skip rfl rfl ?_
    refine seq_pure (pure_pick_f rfl rfl) rfl rfl ?_
    refine seq_done ?_
    refine nrm_seq ?_
    refine tri_cond_f rfl ?_
    refine tri_skip ?_
    refine nrm_seq ?_
    refine tri_seq ?_
    refine tri_region ?_
    refine seq_load (load_a rfl rfl (at_blk_all (by repeat (first | exact List.Mem.head _ | apply List.Mem.tail))) (by assumption)) rfl rfl ?_
    (refine seq_imm rfl (by first | exact hA1 (by assumption) | exact hA2 (by assumption)) rfl rfl (fun v G3 hle3 hh => ?_); obtain ⟨cells', F', rfl, hs', hnd'⟩ := hh; have hl' := hs'.R.len; have ho' := hs'.R.one)
    refine seq_store rfl rfl rfl hl' ho' rfl (by repeat (first | exact Sw.here | apply Sw.there)) (by exact upd_all hl'.symm) ?_
    refine seq_pure (pure_assign rfl) rfl rfl ?_
    refine seq_done ?_
    refine nrm_seq ?_
    refine tri_ret ?_
    refine ret_fin2 (res_cell rfl (load_a rfl rfl (at_blk_all (by repeat (first | exact List.Mem.head _ | apply List.Mem.tail))) hl')) (res_tmp rfl) ?_
    exact TbP.mk (if_pos (by simp [*])) hs' hnd'
  · refine seq_pure (pure_not_f rfl) rfl rfl ?_
    refine seq_pure (pure_move rfl) rfl rfl ?_
    refine seq_load (load_a rfl rfl (at_blk_all (by repeat (first | exact List.Mem.head _ | apply List.Mem.tail))) (by assumption)) rfl rfl ?_
    refine seq_valb rfl (hv) rfl rfl (fun h38 => ?_) (fun h38 => ?_)
    · refine seq_pure (pure_not_t rfl) rfl rfl ?_
      refine seq_pure (pure_pick_t rfl rfl) rfl rfl ?_
      refine seq_done ?_
      refine nrm_seq ?_
      refine tri_cond_f rfl ?_
      refine tri_skip ?_
      refine nrm_seq ?_
      refine tri_seq ?_
      refine tri_region ?_
      refine seq_load (load_a rfl rfl (at_blk_all (by repeat (first | exact List.Mem.head _ | apply List.Mem.tail))) (by assumption)) rfl rfl ?_
      (refine seq_imm rfl (by first | exact hA1 (by assumption) | exact hA2 (by assumption)) rfl rfl (fun v G3 hle3 hh => ?_); obtain ⟨cells', F', rfl, hs', hnd'⟩ := hh; have hl' := hs'.R.len; have ho' := hs'.R.one)
      refine seq_store rfl rfl rfl hl' ho' rfl (by repeat (first | exact Sw.here | apply Sw.there)) (by exact upd_all hl'.symm) ?_
      refine seq_pure (pure_assign rfl) rfl rfl ?_
      refine seq_done ?_
      refine nrm_seq ?_
      refine tri_ret ?_
      refine ret_fin2 (res_cell rfl (load_a rfl rfl (at_blk_all (by repeat (first | exact List.Mem.head _ | apply List.Mem.tail))) hl')) (res_tmp rfl) ?_
      exact TbP.mk (if_pos (by simp [*])) hs' hnd'
    · refine seq_pure (pure_not_f rfl) rfl rfl ?_
      refine seq_pure (pure_pick_t rfl rfl) rfl rfl ?_
      refine seq_done ?_
      refine nrm_seq ?_
      refine tri_cond_t rfl ?_
      refine tri_seq ?_
      refine tri_region ?_
      refine seq_pure (pure_build rfl rfl) rfl rfl ?_
      refine seq_store rfl rfl rfl rfl rfl rfl (by repeat (first | exact Sw.here | apply Sw.there)) (by rfl) ?_
      refine seq_pure (pure_assign rfl) rfl rfl ?_
      refine seq_done ?_
      refine nrm_seq ?_
      refine tri_ret ?_
      refine ret_seq ?_
      refine ret_fin2 (res_cell rfl (load_ba rfl rfl (by repeat (first | exact List.Mem.head _ | apply List.Mem.tail)) (by rfl))) (res_tmp rfl) ?_
      exact TbP.mk (if_neg (by simp [*])) (STm.zero _) (by simp)
set_option maxHeartbeats 0 in
set_option maxRecDepth 100000 in
theorem size_fn : ∀ (t : Tm) (G : IM) (cells : List Value), tmCount t ≤ 4294967296 → RTm G t cells → Fn Try.prog 46 [.agg ⟨cells⟩] [] G (Val (.int .i64 (tmCount t : Int)) G) := by
  refine Tm.ind fun k nm num ty fr lb ks ih G cells hcnt hr => ?_
  have hone := hr.one
  obtain ⟨tk, tks⟩ := ty
  obtain ⟨fk, fks⟩ := fr
  obtain ⟨pt, ct, pf, cf, p, c, es, rfl, hk, hnum, hlb, hty, hfr, hsl, hkl⟩ := hr.open9
  have hn := hsl.le
  clear hr
  rw [tmCount] at hcnt ⊢
  refine fn_enter Try.func46 rfl Try.ntmps46 Try.results46 rfl ?_
  intro w0
  refine tri_seq ?_
  refine tri_region ?_
  (refine seq_step (step_box_a rfl rfl) rfl ?_; rintro _ ⟨b3, rfl⟩)
  refine seq_pure (pure_assign rfl) rfl rfl ?_
  refine seq_done ?_
  refine nrm_seq ?_
  refine tri_seq ?_
  refine tri_region ?_
  refine seq_pure (pure_assign rfl) rfl rfl ?_
  refine seq_done ?_
  refine nrm_seq ?_
  refine tri_seq ?_
  refine tri_seq ?_
  refine tri_region ?_
  refine seq_pure (pure_fieldAddr0 rfl) rfl rfl ?_
  refine seq_load (load_bs rfl rfl (by repeat (first | exact List.Mem.head _ | apply List.Mem.tail)) (by rfl)) rfl rfl ?_
  refine seq_pure (pure_len rfl rfl) rfl rfl ?_
  refine seq_pure (pure_move rfl) rfl rfl ?_
  refine seq_done ?_
  refine nrm_seq ?_
  refine tri_block ?_
  (refine tri_loopN (fun (i : Nat) => ⟨[(9, .int .i64 i), (8, .int .i64 ks.length), (7, .slice p ks.length c), (3, .int .i64 ((tmCountL (ks.take i) + 1 : Nat) : Int))], [], G⟩) (fun i => i ≤ ks.length) (fun i => ks.length - i) 0 ?_ ?_ ?_)
  · exact sub_mk (by repeat (first | exact SubE.nil | refine SubE.cons rfl ?_)) (by repeat (first | exact SubH.refl | exact SubH.nil | refine SubH.cons (by repeat (first | exact Pk.here | apply Pk.there)) ?_ | apply SubH.drop))
  · exact Nat.zero_le _
  · (rintro i hi)
    refine tri_seq ?_
    refine tri_region ?_
    refine seq_bool (pure_lss rfl rfl) rfl rfl (fun h28 => ?_) (fun h28 => ?_)
    · refine seq_done ?_
      refine nrm_seq ?_
      refine tri_seq ?_
      refine tri_cond_t rfl ?_
      refine tri_skip ?_
      refine nrm_seq ?_
      refine tri_seq ?_
      refine tri_block ?_
      refine tri_seq ?_
      refine tri_region ?_
      (obtain ⟨b, o, e, rfl, hl, hat, hre, hgb⟩ := hsl.kidTm hkl (i := i) (by omega) (by omega); have hone := hre.one; have htk := tmCountL_take (ks := ks) (i := i) (by omega); refine seq_pure (pure_indexAddrN rfl rfl rfl (by omega)) rfl rfl ?_)
      refine seq_load (load_a rfl rfl (hat _) hl) rfl rfl ?_
      (refine seq_step (step_alloc rfl) rfl ?_; rintro _ ⟨b41, rfl⟩)
      refine seq_store rfl rfl rfl hl hone rfl (by repeat (first | exact Sw.here | apply Sw.there)) (by exact upd_all hl.symm) ?_
      refine seq_done ?_
      refine nrm_seq ?_
      refine tri_region ?_
      refine seq_pure (pure_move rfl) rfl rfl ?_
      refine seq_load (load_a rfl rfl (at_blk_all (by repeat (first | exact List.Mem.head _ | apply List.Mem.tail))) hl) rfl rfl ?_
      (refine seq_val rfl (ih ks[i] (List.getElem_mem (by omega)) G _ (by omega) hre) rfl rfl ?_)
      refine seq_pure (pure_add rfl rfl (by omega) (by omega)) rfl rfl ?_
      refine seq_pure (pure_assign rfl) rfl rfl ?_
      refine seq_done ?_
      refine nrm_block ?_
      refine nrm_seq ?_
      refine tri_region ?_
      refine seq_pure (pure_add rfl rfl (by omega) (by omega)) rfl rfl ?_
      refine seq_pure (pure_move rfl) rfl rfl ?_
      refine seq_done ?_
      (refine nrm_loopN (i + 1) ?_ ?_ ?_; rw [show ((tmCountL (ks.take (i + 1)) + 1 : Nat) : Int) = ((tmCountL (ks.take i) + 1 : Nat) : Int) + (tmCount ks[i] : Int) from by rw [tmCountL_succ (by omega)]; omega])
      · exact sub_mk (by repeat (first | exact SubE.nil | refine SubE.cons rfl ?_)) (by repeat (first | exact SubH.refl | exact SubH.nil | refine SubH.cons (by repeat (first | exact Pk.here | apply Pk.there)) ?_ | apply SubH.drop))
      · omega
      · omega
    · refine seq_done ?_
      refine nrm_seq ?_
      refine tri_seq ?_
      refine tri_cond_f rfl ?_
      refine tri_exit ?_
      refine ext_seq ?_
      refine ext_loopN ?_
      refine ext_block_eq ?_
      refine nrm_seq ?_
      refine tri_seq ?_
      refine tri_region ?_
      refine seq_pure (pure_move rfl) rfl rfl ?_
      refine seq_pure (pure_assign rfl) rfl rfl ?_
      refine seq_done ?_
      refine nrm_seq ?_
      refine tri_ret ?_
      refine ret_fin1 (res_tmp rfl) ?_
      (obtain rfl : i = ks.length := (by omega); rw [List.take_length]; exact ⟨rfl, rfl, rfl⟩)
def mCountNodes (t : Tm) : Nat := if termValid t = true then tmCount t else 0
set_option maxRecDepth 100000 in
theorem countNodes_fn (t : Tm) (G : IM) (cells : List Value) (hcnt : tmCount t ≤ 4294967296) (hr : RTm G t cells) : Fn Try.prog 15 [.agg ⟨cells⟩] [] G (Val (.int .i64 (mCountNodes t : Int)) G) := by
  have hl := hr.len
  have hone := hr.one
  have hw := termValid_fn t G cells hr
  have hs := size_fn t G cells hcnt hr
  refine fn_enter Try.func15 rfl Try.ntmps15 Try.results15 rfl ?_
  intro w0
  refine tri_seq ?_
  refine tri_region ?_
  (refine seq_step (step_box_a rfl rfl) rfl ?_; rintro _ ⟨b3, rfl⟩)
  refine seq_pure (pure_assign rfl) rfl rfl ?_
  refine seq_done ?_
  refine nrm_seq ?_
  refine tri_seq ?_
  refine tri_seq ?_
  refine tri_region ?_
  refine seq_load (load_a rfl rfl (at_blk_all (by repeat (first | exact List.Mem.head _ | apply List.Mem.tail))) (by assumption)) rfl rfl ?_
  refine seq_valb rfl (hw) rfl rfl (fun h11 => ?_) (fun h11 => ?_)
  · refine seq_pure (pure_not_t rfl) rfl rfl ?_
    refine seq_done ?_
    refine nrm_seq ?_
    refine tri_cond_f rfl ?_
    refine tri_skip ?_
    refine nrm_seq ?_
    refine tri_seq ?_
    refine tri_region ?_
    refine seq_load (load_a rfl rfl (at_blk_all (by repeat (first | exact List.Mem.head _ | apply List.Mem.tail))) (by assumption)) rfl rfl ?_
    refine seq_val rfl (hs) rfl rfl ?_
    refine seq_pure (pure_assign rfl) rfl rfl ?_
    refine seq_done ?_
    refine nrm_seq ?_
    refine tri_ret ?_
    refine ret_fin1 (res_tmp rfl) ?_
    (rw [mCountNodes, if_pos (by assumption)]; exact ⟨rfl, rfl, rfl⟩)
  · refine seq_pure (pure_not_f rfl) rfl rfl ?_
    refine seq_done ?_
    refine nrm_seq ?_
    refine tri_cond_t rfl ?_
    refine tri_seq ?_
    refine tri_region ?_
    refine seq_pure (pure_assign rfl) rfl rfl ?_
    refine seq_done ?_
    refine nrm_seq ?_
    refine tri_ret ?_
    refine ret_seq ?_
    refine ret_fin1 (res_tmp rfl) ?_
    (rw [mCountNodes, if_neg (by simp [*])]; exact ⟨rfl, rfl, rfl⟩)
end Gw
end Go.Proofs.Ytlefgfdhlblahaa
namespace Go.Proofs.Ytlefgfdhlblahaa
open Go Go.RowKit
namespace Gw
theorem pure_seq_s {P : Program} {Γ : Ctx} {env : Env} {hp : List Ent} {G : IM} {ty : TypeId} {x y : Operand} {t t' : TypeId} {r : ByteArray} (hx : evo env x = some (.string r)) (hy : evo env y = some (.string r)) :
    PureOp P Γ ⟨env, hp, G⟩ (.binOp .eql t x y t') ty (.bool true) := by
  have h := pure_seql (P := P) (Γ := Γ) (hp := hp) (G := G) (t := t) (t' := t') (ty := ty) hx hy
  simpa using h
set_option maxRecDepth 100000 in
theorem typeSame_fn : ∀ (t : Ty) (G : IM) (cells cells' : List Value), RTy G t cells → RTy G t cells' → Fn Try.prog 42 [.agg ⟨cells⟩, .agg ⟨cells'⟩] [] G (Val (.bool true) G) := by
  refine Ty.ind fun k ks ih G cells cells' hr hr' => ?_
  obtain ⟨p, c, es, rfl, hk, hsl, hkl⟩ := hr.open
  obtain ⟨p', c', es', rfl, hk', hsl', hkl'⟩ := hr'.open
  simp only [Ty.k, Ty.ks] at hk hsl hkl hk' hsl' hkl' ⊢
  refine fn_enter Try.func42 rfl Try.ntmps42 Try.results42 rfl ?_
  intro w0
  refine tri_seq ?_
  refine tri_region ?_
  (refine seq_step (step_box_a rfl rfl) rfl ?_; rintro _ ⟨b3, rfl⟩)
  (refine seq_step (step_box_a rfl rfl) rfl ?_; rintro _ ⟨b4, rfl⟩)
  refine seq_pure (pure_assign rfl) rfl rfl ?_
  refine seq_done ?_
  refine nrm_seq ?_
  refine tri_seq ?_
  refine tri_region ?_
  refine seq_pure (pure_fieldAddr0 rfl) rfl rfl ?_
  refine seq_load (load_bs rfl rfl (by repeat (first | exact List.Mem.head _ | apply List.Mem.tail)) (by rfl)) rfl rfl ?_
  refine seq_pure (pure_fieldAddr0 rfl) rfl rfl ?_
  refine seq_load (load_bs rfl rfl (by repeat (first | exact List.Mem.head _ | apply List.Mem.tail)) (by rfl)) rfl rfl ?_
  refine seq_pure (pure_eql_t rfl rfl (by omega)) rfl rfl ?_
  refine seq_pure (pure_move rfl) rfl rfl ?_
  refine seq_pure (pure_fieldAddr0 rfl) rfl rfl ?_
  refine seq_load (load_bs rfl rfl (by repeat (first | exact List.Mem.head _ | apply List.Mem.tail)) (by rfl)) rfl rfl ?_
  refine seq_pure (pure_fieldAddr0 rfl) rfl rfl ?_
  refine seq_load (load_bs rfl rfl (by repeat (first | exact List.Mem.head _ | apply List.Mem.tail)) (by rfl)) rfl rfl ?_
  refine seq_val rfl (equalFunc_Type _ _ _ _ _ _ _ _ _ hsl hsl' _ [] [] [] (fun _ => true) true (by simp) (fun i e e' he he' => ih (ks.getD i ty0) (hkl.inv he ty0).1 _ _ _ (hkl.inv he ty0).2 (hkl'.inv he' ty0).2)) rfl rfl ?_
  refine seq_pure (pure_pick_t rfl rfl) rfl rfl ?_
  refine seq_pure (pure_assign rfl) rfl rfl ?_
  refine seq_done ?_
  refine nrm_seq ?_
  refine tri_ret ?_
  refine ret_fin1 (res_tmp rfl) ?_
  exact ⟨rfl, rfl, rfl⟩
set_option maxRecDepth 100000 in
theorem equalFunc_Term (G : IM) (p p' : Option Addr) (n c c' : Nat) (es es' : List (List Value)) (hsl : SlE G p n c 9 es) (hsl' : SlE G p' n c' 9 es') (fid : FuncId) [FunI Try.prog fid]
    (hq : ∀ (i : Nat) (e e' : List Value), es[i]? = some e → es'[i]? = some e' → Fn Try.prog fid [.agg ⟨e⟩, .agg ⟨e'⟩] [] G (ValO (.bool true) [] G)) :
    Fn Try.prog 43 [.slice p n c, .slice p' n c', .func (.func fid) ⟨[]⟩ ⟨[]⟩] [] G (Val (.bool true) G) := by
  have hn := hsl.le
  refine fn_enter Try.func43 rfl Try.ntmps43 Try.results43 rfl ?_
  intro w0
  refine tri_seq ?_
  refine tri_region ?_
  refine seq_pure (pure_assign rfl) rfl rfl ?_
  refine seq_done ?_
  refine nrm_seq ?_
  refine tri_seq ?_
  refine tri_seq ?_
  refine tri_region ?_
  refine seq_pure (pure_move rfl) rfl rfl ?_
  refine seq_pure (pure_len rfl rfl) rfl rfl ?_
  refine seq_pure (pure_move rfl) rfl rfl ?_
  refine seq_pure (pure_len rfl rfl) rfl rfl ?_
  refine seq_pure (pure_neq_f rfl rfl (by omega)) rfl rfl ?_
  refine seq_done ?_
  refine nrm_seq ?_
  refine tri_cond_f rfl ?_
  refine tri_skip ?_
  refine nrm_seq ?_
  refine tri_seq ?_
  refine tri_seq ?_
  refine tri_region ?_
  refine seq_pure (pure_move rfl) rfl rfl ?_
  refine seq_pure (pure_len rfl rfl) rfl rfl ?_
  refine seq_pure (pure_move rfl) rfl rfl ?_
  refine seq_done ?_
  refine nrm_seq ?_
  refine tri_block ?_
  refine tri_loopN (fun i : Nat => ⟨[(17, .int .i64 i), (16, .int .i64 n), (15, .slice p n c), (2, .func (.func fid) ⟨[]⟩ ⟨[]⟩), (1, .slice p' n c'), (0, .slice p n c)], [], G⟩) (fun i => i ≤ n) (fun i => n - i) 0 ?_ ?_ ?_
  · exact sub_mk (by repeat (first | exact SubE.nil | refine SubE.cons rfl ?_)) (by repeat (first | exact SubH.refl | exact SubH.nil | refine SubH.cons (by repeat (first | exact Pk.here | apply Pk.there)) ?_ | apply SubH.drop))
  · exact Nat.zero_le _
  · rintro i hi
    refine tri_seq ?_
    refine tri_region ?_
    refine seq_bool (pure_lss rfl rfl) rfl rfl (fun h34 => ?_) (fun h34 => ?_)
    · refine seq_done ?_
      refine nrm_seq ?_
      refine tri_seq ?_
      refine tri_cond_t rfl ?_
      refine tri_skip ?_
      refine nrm_seq ?_
      refine tri_seq ?_
      refine tri_block ?_
      refine tri_seq ?_
      refine tri_region ?_
      refine seq_pure (pure_move rfl) rfl rfl ?_
      (obtain ⟨e, b, o, he, rfl, hl, _, hat, _⟩ := hsl.get (i := i) (by omega); refine seq_pure (pure_indexAddrN rfl rfl rfl (by omega)) rfl rfl ?_)
      refine seq_load (load_a rfl rfl (hat _) hl) rfl rfl ?_
      (refine seq_step (step_alloc rfl) rfl ?_; rintro _ ⟨b48, rfl⟩)
      refine seq_pure (pure_assign rfl) rfl rfl ?_
      refine seq_store rfl rfl rfl (by assumption) (by assumption) rfl (by repeat (first | exact Sw.here | apply Sw.there)) (by exact upd_all (by symm; assumption)) ?_
      refine seq_done ?_
      refine nrm_seq ?_
      refine tri_seq ?_
      refine tri_region ?_
      refine seq_pure (pure_move rfl) rfl rfl ?_
      refine seq_pure (pure_move rfl) rfl rfl ?_
      (obtain ⟨e', b', o', he', rfl, hl', _, hat', _⟩ := hsl'.get (i := i) (by omega); refine seq_pure (pure_indexAddrN rfl rfl rfl (by omega)) rfl rfl ?_)
      refine seq_load (load_a rfl rfl (hat' _) hl') rfl rfl ?_
      (refine seq_step (step_alloc rfl) rfl ?_; rintro _ ⟨b59, rfl⟩)
      refine seq_store rfl rfl rfl (by assumption) (by assumption) rfl (by repeat (first | exact Sw.here | apply Sw.there)) (by exact upd_all (by symm; assumption)) ?_
      refine seq_done ?_
      refine nrm_seq ?_
      refine tri_seq ?_
      refine tri_region ?_
      refine seq_pure (pure_move rfl) rfl rfl ?_
      refine seq_load (load_a rfl rfl (at_blk_all (by repeat (first | exact List.Mem.head _ | apply List.Mem.tail))) (by assumption)) rfl rfl ?_
      refine seq_load (load_a rfl rfl (at_blk_all (by repeat (first | exact List.Mem.head _ | apply List.Mem.tail))) (by assumption)) rfl rfl ?_
      refine seq_vvalbo rfl rfl (hq i e e' he he') perm_two rfl rfl (fun h68 => ?_) (fun h68 => ?_)
      · simp only [Bool.not_eq_true', Bool.not_eq_false'] at h68
        refine seq_pure (pure_not_t rfl) rfl rfl ?_
        refine seq_done ?_
        refine nrm_seq ?_
        refine tri_cond_f rfl ?_
        refine tri_skip ?_
        refine nrm_block ?_
        refine nrm_seq ?_
        refine tri_region ?_
        refine seq_pure (pure_add rfl rfl (by omega) (by omega)) rfl rfl ?_
        refine seq_pure (pure_move rfl) rfl rfl ?_
        refine seq_done ?_
        refine nrm_loopN (i + 1) ?_ ?_ ?_
        · exact sub_mk (by repeat (first | exact SubE.nil | refine SubE.cons rfl ?_)) (by repeat (first | exact SubH.refl | exact SubH.nil | refine SubH.cons (by repeat (first | exact Pk.here | apply Pk.there)) ?_ | apply SubH.drop))
        · omega
        · omega
      · refine seq_pure (pure_not_f rfl) rfl rfl ?_
        refine seq_done ?_
        refine nrm_seq ?_
        refine tri_cond_t rfl ?_
        refine tri_seq ?_
        refine tri_region ?_
        refine seq_pure (pure_assign rfl) rfl rfl ?_
        refine seq_done ?_
        refine nrm_seq ?_
        refine tri_ret ?_
        refine ret_block ?_
        refine ret_seq ?_
        refine ret_loopN ?_
        refine ret_block ?_
        refine ret_seq ?_
        refine ret_fin1 (res_tmp rfl) ?_
        (exact absurd (by assumption) (by decide))
    · refine seq_done ?_
      refine nrm_seq ?_
      refine tri_seq ?_
      refine tri_cond_f rfl ?_
      refine tri_exit ?_
      refine ext_seq ?_
      refine ext_loopN ?_
      refine ext_block_eq ?_
      refine nrm_seq ?_
      refine tri_seq ?_
      refine tri_region ?_
      refine seq_pure (pure_assign rfl) rfl rfl ?_
      refine seq_done ?_
      refine nrm_seq ?_
      refine tri_ret ?_
      refine ret_fin1 (res_tmp rfl) ?_
      exact ⟨rfl, rfl, rfl⟩
set_option maxHeartbeats 0 in
set_option maxRecDepth 100000 in
theorem termSame_fn : ∀ (t : Tm) (G : IM) (cells cells' : List Value), RTm G t cells → RTm G t cells' → Fn Try.prog 12 [.agg ⟨cells⟩, .agg ⟨cells'⟩] [] G (Val (.bool true) G) := by
  refine Tm.ind fun k nm num ty fr lb ks ih G cells cells' hr hr' => ?_
  obtain ⟨tk, tks⟩ := ty
  obtain ⟨fk, fks⟩ := fr
  obtain ⟨pt, ct, pf, cf, p, c, es, rfl, hk, hnum, hlb, hty, hfr, hsl, hkl⟩ := hr.open9
  obtain ⟨pt', ct', pf', cf', p', c', es', rfl, _, _, _, hty', hfr', hsl', hkl'⟩ := hr'.open9
  have h1 := typeSame_fn (.mk tk tks) G _ _ hty hty'
  have h2 := typeSame_fn (.mk fk fks) G _ _ hfr hfr'
  refine fn_enter Try.func12 rfl Try.ntmps12 Try.results12 rfl ?_
  intro w0
  refine tri_seq ?_
  refine tri_region ?_
  (refine seq_step (step_box_a rfl rfl) rfl ?_; rintro _ ⟨b3, rfl⟩)
  (refine seq_step (step_box_a rfl rfl) rfl ?_; rintro _ ⟨b4, rfl⟩)
  refine seq_pure (pure_assign rfl) rfl rfl ?_
  refine seq_done ?_
  refine nrm_seq ?_
  refine tri_seq ?_
  refine tri_region ?_
  refine seq_pure (pure_fieldAddr0 rfl) rfl rfl ?_
  refine seq_load (load_bs rfl rfl (by repeat (first | exact List.Mem.head _ | apply List.Mem.tail)) (by rfl)) rfl rfl ?_
  refine seq_pure (pure_fieldAddr0 rfl) rfl rfl ?_
  refine seq_load (load_bs rfl rfl (by repeat (first | exact List.Mem.head _ | apply List.Mem.tail)) (by rfl)) rfl rfl ?_
  refine seq_pure (pure_eql_t rfl rfl (by omega)) rfl rfl ?_
  refine seq_pure (pure_move rfl) rfl rfl ?_
  refine seq_pure (pure_fieldAddr0 rfl) rfl rfl ?_
  refine seq_load (load_bs rfl rfl (by repeat (first | exact List.Mem.head _ | apply List.Mem.tail)) (by rfl)) rfl rfl ?_
  refine seq_pure (pure_fieldAddr0 rfl) rfl rfl ?_
  refine seq_load (load_bs rfl rfl (by repeat (first | exact List.Mem.head _ | apply List.Mem.tail)) (by rfl)) rfl rfl ?_
  refine seq_pure (pure_seq_s rfl rfl) rfl rfl ?_
  refine seq_pure (pure_pick_t rfl rfl) rfl rfl ?_
  refine seq_pure (pure_move rfl) rfl rfl ?_
  refine seq_pure (pure_fieldAddr0 rfl) rfl rfl ?_
  refine seq_load (load_bs rfl rfl (by repeat (first | exact List.Mem.head _ | apply List.Mem.tail)) (by rfl)) rfl rfl ?_
  refine seq_pure (pure_fieldAddr0 rfl) rfl rfl ?_
  refine seq_load (load_bs rfl rfl (by repeat (first | exact List.Mem.head _ | apply List.Mem.tail)) (by rfl)) rfl rfl ?_
  refine seq_pure (pure_eql_t rfl rfl (by omega)) rfl rfl ?_
  refine seq_pure (pure_pick_t rfl rfl) rfl rfl ?_
  refine seq_pure (pure_move rfl) rfl rfl ?_
  refine seq_pure (pure_fieldAddr0 rfl) rfl rfl ?_
  refine seq_load (load_ba rfl rfl (by repeat (first | exact List.Mem.head _ | apply List.Mem.tail)) (by rfl)) rfl rfl ?_
  refine seq_pure (pure_fieldAddr0 rfl) rfl rfl ?_
  refine seq_load (load_ba rfl rfl (by repeat (first | exact List.Mem.head _ | apply List.Mem.tail)) (by rfl)) rfl rfl ?_
  refine seq_val rfl (h1) rfl rfl ?_
  refine seq_pure (pure_pick_t rfl rfl) rfl rfl ?_
  refine seq_pure (pure_move rfl) rfl rfl ?_
  refine seq_pure (pure_fieldAddr0 rfl) rfl rfl ?_
  refine seq_load (load_ba rfl rfl (by repeat (first | exact List.Mem.head _ | apply List.Mem.tail)) (by rfl)) rfl rfl ?_
  refine seq_pure (pure_fieldAddr0 rfl) rfl rfl ?_
  refine seq_load (load_ba rfl rfl (by repeat (first | exact List.Mem.head _ | apply List.Mem.tail)) (by rfl)) rfl rfl ?_
  refine seq_val rfl (h2) rfl rfl ?_
  refine seq_pure (pure_pick_t rfl rfl) rfl rfl ?_
  refine seq_pure (pure_move rfl) rfl rfl ?_
  refine seq_pure (pure_fieldAddr0 rfl) rfl rfl ?_
  refine seq_load (load_bs rfl rfl (by repeat (first | exact List.Mem.head _ | apply List.Mem.tail)) (by rfl)) rfl rfl ?_
  refine seq_pure (pure_fieldAddr0 rfl) rfl rfl ?_
  refine seq_load (load_bs rfl rfl (by repeat (first | exact List.Mem.head _ | apply List.Mem.tail)) (by rfl)) rfl rfl ?_
  refine seq_pure (pure_eql_t rfl rfl (by omega)) rfl rfl ?_
  refine seq_pure (pure_pick_t rfl rfl) rfl rfl ?_
  refine seq_pure (pure_move rfl) rfl rfl ?_
  refine seq_pure (pure_fieldAddr0 rfl) rfl rfl ?_
  refine seq_load (load_bs rfl rfl (by repeat (first | exact List.Mem.head _ | apply List.Mem.tail)) (by rfl)) rfl rfl ?_
  refine seq_pure (pure_fieldAddr0 rfl) rfl rfl ?_
  refine seq_load (load_bs rfl rfl (by repeat (first | exact List.Mem.head _ | apply List.Mem.tail)) (by rfl)) rfl rfl ?_
  refine seq_val rfl (equalFunc_Term _ _ _ _ _ _ _ _ hsl hsl' _ (fun i e e' he he' => ih (ks.getD i tm0) (hkl.inv he tm0).1 _ _ _ (hkl.inv he tm0).2 (hkl'.inv he' tm0).2)) rfl rfl ?_
  refine seq_pure (pure_pick_t rfl rfl) rfl rfl ?_
  refine seq_pure (pure_assign rfl) rfl rfl ?_
  refine seq_done ?_
  refine nrm_seq ?_
  refine tri_ret ?_
  refine ret_fin1 (res_tmp rfl) ?_
  exact ⟨rfl, rfl, rfl⟩
end Gw
end Go.Proofs.Ytlefgfdhlblahaa
namespace Go.Proofs.Ytlefgfdhlblahaa
open Go Go.RowKit
namespace Gw
theorem pure_beql_s {P : Program} {Γ : Ctx} {env : Env} {hp : List Ent} {G : IM} {ty : TypeId} {x y : Operand} {t t' : TypeId} {i : TyR} [hI : TyI P t i] (hd : i.desc = .bool) {r : Bool} (hx : evo env x = some (.bool r)) (hy : evo env y = some (.bool r)) :
    PureOp P Γ ⟨env, hp, G⟩ (.binOp .eql t x y t') ty (.bool true) := by
  have h := pure_beql (P := P) (Γ := Γ) (hp := hp) (G := G) (t := t) (t' := t') (ty := ty) (i := i) hd hx hy
  simpa using h
/-- A drawn term. -/
def DrawnTm (N : Nat) (G : IM) : IM → Value → List Ent → Prop := Imm fun G' v => ∃ t cells, v = .agg ⟨cells⟩ ∧ RTm G' t cells ∧ t.fit N
set_option maxHeartbeats 0 in
set_option maxRecDepth 100000 in
theorem drawTermValid_fn (G : IM) (q : Option Addr) (n c : Nat) (bs : List UInt8) (hb : Sl G q n c 1 (byts bs)) : Fn Try.prog 37 [.slice q n c] [] G (DrawnTm 2000 G) := by
  refine fn_enter Try.func37 rfl Try.ntmps37 Try.results37 rfl ?_
  intro w0
  refine tri_seq ?_
  refine tri_region ?_
  (refine seq_step (step_alloc rfl) rfl ?_; rintro _ ⟨b3, rfl⟩)
  refine seq_done ?_
  refine nrm_seq ?_
  refine tri_seq ?_
  refine tri_region ?_
  refine seq_pure (pure_move rfl) rfl rfl ?_
  (refine seq_take rfl (l18Open_fn G q n c bs hb) (List.Perm.refl _) rfl rfl (fun v G1 outs hle1 hh => ?_); obtain ⟨rfl, br, pb, nb, cb, bs', rfl, rfl, hnb, hb'⟩ := hh)
  refine seq_pure (pure_assign rfl) rfl rfl ?_
  refine seq_done ?_
  refine nrm_seq ?_
  refine tri_seq ?_
  refine tri_region ?_
  refine seq_pure (pure_move rfl) rfl rfl ?_
  refine seq_pure (pure_move rfl) rfl rfl ?_
  (refine seq_take rfl (l2Term_fn br pb nb cb bs' hnb 0 _ hb' (by omega)) (Pk.perm (by repeat (first | exact Pk.here | apply Pk.there))) rfl rfl (fun v G3 outs hle3 hh => ?_); obtain ⟨p3, hp31, hp32, rfl, t3, cells3, rfl, hr3, hs3⟩ := hh; have hf3 : t3.fit 2000 := ⟨small_tm t3 (by omega), by have := count_sz t3; omega⟩)
  (refine seq_take rfl (l2Mutate_fn br pb nb cb bs' hnb p3 _ (hb'.mono hle3) (by omega) t3 cells3 2000 hf3 hr3) (Pk.perm (by repeat (first | exact Pk.here | apply Pk.there))) rfl rfl (fun v G4 outs hle4 hh => ?_); obtain ⟨p4, hp41, hp42, rfl, t4, cells4, rfl, hr4, hf4⟩ := hh; have hl4 := hr4.len; have ho4 := hr4.one)
  refine seq_store rfl rfl rfl hl4 ho4 rfl (by repeat (first | exact Sw.here | apply Sw.there)) (by exact upd_all hl4.symm) ?_
  refine seq_done ?_
  refine nrm_seq ?_
  refine tri_ret ?_
  refine ret_fin1 (res_cell rfl (load_a rfl rfl (at_blk_all (by repeat (first | exact List.Mem.head _ | apply List.Mem.tail))) hl4)) ?_
  exact ⟨rfl, t4, cells4, rfl, hr4, hf4⟩
set_option maxRecDepth 100000 in
theorem drawCountNodes_fn (G : IM) (q : Option Addr) (n c : Nat) (bs : List UInt8) (hb : Sl G q n c 1 (byts bs)) : Fn Try.prog 9 [.slice q n c] [] G (DrawnTm 2000 G) := by
  refine fn_enter Try.func9 rfl Try.ntmps9 Try.results9 rfl ?_
  intro w0
  refine tri_seq ?_
  refine tri_region ?_
  (refine seq_step (step_alloc rfl) rfl ?_; rintro _ ⟨b3, rfl⟩)
  refine seq_done ?_
  refine nrm_seq ?_
  refine tri_seq ?_
  refine tri_region ?_
  refine seq_pure (pure_move rfl) rfl rfl ?_
  (refine seq_imm rfl (drawTermValid_fn G q n c bs hb) rfl rfl (fun v G4 hle4 hh => ?_); obtain ⟨t4, cells4, rfl, hr4, hf4⟩ := hh; have hl4 := hr4.len; have ho4 := hr4.one)
  refine seq_store rfl rfl rfl hl4 ho4 rfl (by repeat (first | exact Sw.here | apply Sw.there)) (by exact upd_all hl4.symm) ?_
  refine seq_done ?_
  refine nrm_seq ?_
  refine tri_ret ?_
  refine ret_fin1 (res_cell rfl (load_a rfl rfl (at_blk_all (by repeat (first | exact List.Mem.head _ | apply List.Mem.tail))) hl4)) ?_
  exact ⟨rfl, t4, cells4, rfl, hr4, hf4⟩
theorem bare_paths {t r : Tm} {b : Bool} (h : mBareTerm t = (r, b)) (hb : b = true) (hv : termValid r = true) : (mAll r).length = mCountNodes r := by
  subst hb
  unfold mBareTerm at h
  split at h
  · cases h
    rw [mAll, if_pos (bare_cast hv), mPaths_len, mCountNodes, if_pos hv]
  · cases h
set_option maxHeartbeats 0 in
set_option maxRecDepth 100000 in
theorem bareTm_fit {t r : Tm} {b : Bool} {N : Nat} (h : mBareTerm t = (r, b)) (hf : t.fit N) (hN : 1 ≤ N) : r.fit N := by
  unfold mBareTerm at h
  split at h
  · cases h
    obtain ⟨h1, h2⟩ := bare_small t hf.1
    exact ⟨h1, Nat.le_trans h2 hf.2⟩
  · cases h
    exact ⟨by simp [tm0, Tm.small, Ty.small, Ty.smallL, Tm.smallL, ByteArray.size], by simp only [tm0, tmCount, tmCountL]; omega⟩
set_option maxHeartbeats 0 in
set_option maxRecDepth 100000 in
theorem pathsCount_fn (bs : List UInt8) (G : IM) (q : Option Addr) (c : Nat) (hb : Sl G q bs.length c 1 (byts bs)) : Fn Try.prog 3 [.slice q bs.length c] [] G (Imm fun _ v => v = .bool true) := by
  have hn := hb.le
  refine fn_enter Try.func3 rfl Try.ntmps3 Try.results3 rfl ?_
  intro w0
  refine tri_seq ?_
  refine tri_region ?_
  refine seq_pure (pure_assign rfl) rfl rfl ?_
  refine seq_done ?_
  refine nrm_seq ?_
  refine tri_seq ?_
  refine tri_seq ?_
  refine tri_region ?_
  refine seq_pure (pure_move rfl) rfl rfl ?_
  refine seq_pure (pure_len rfl rfl) rfl rfl ?_
  refine seq_bool (pure_gtr rfl rfl) rfl rfl (fun h11 => ?_) (fun h11 => ?_)
  · refine seq_done ?_
    refine nrm_seq ?_
    refine tri_cond_t rfl ?_
    refine tri_seq ?_
    refine tri_region ?_
    refine seq_pure (pure_assign rfl) rfl rfl ?_
    refine seq_done ?_
    refine nrm_seq ?_
    refine tri_ret ?_
    refine ret_seq ?_
    refine ret_fin1 (res_tmp rfl) ?_
    exact ⟨rfl, rfl⟩
  · refine seq_done ?_
    refine nrm_seq ?_
    refine tri_cond_f rfl ?_
    refine tri_skip ?_
    refine nrm_seq ?_
    refine tri_seq ?_
    refine tri_region ?_
    refine seq_pure (pure_move rfl) rfl rfl ?_
    (refine seq_imm rfl (drawCountNodes_fn G q _ c bs hb) rfl rfl (fun v G1 hle1 hh => ?_); obtain ⟨t1, cells1, rfl, hr1, hf1⟩ := hh; have hl1 := hr1.len; have ho1 := hr1.one; have hB := bareTerm_fn t1 G1 cells1 hf1.1 hr1; obtain ⟨rt, rb, hrr⟩ : ∃ rt rb, mBareTerm t1 = (rt, rb) := ⟨_, _, rfl⟩; rw [hrr] at hB; have hfr := bareTm_fit hrr hf1 (by omega); obtain ⟨hfr1, hfr2⟩ := hfr; obtain ⟨hf11, hf12⟩ := hf1; have hpc := bare_paths hrr; cases rb)
    · (refine seq_step (step_alloc rfl) rfl ?_; rintro _ ⟨b33, rfl⟩)
      refine seq_store rfl rfl rfl hl1 ho1 rfl (by repeat (first | exact Sw.here | apply Sw.there)) (by exact upd_all hl1.symm) ?_
      refine seq_done ?_
      refine nrm_seq ?_
      refine tri_seq ?_
      refine tri_region ?_
      refine seq_load (load_a rfl rfl (at_blk_all (by repeat (first | exact List.Mem.head _ | apply List.Mem.tail))) hl1) rfl rfl ?_
      (refine seq_imm rfl hB rfl rfl (fun v G2 hle2 hh => ?_); obtain ⟨cells2, F2, rfl, hs2, hn2⟩ := hh; have hB2 := sBareTerm_fn t1 G2 cells1 hf11 (by omega) (hr1.mono hle2); rw [hrr] at hB2; have hl2 := hs2.R.len; have ho2 := hs2.R.one)
      refine seq_pure (pure_move rfl) rfl rfl ?_
      refine seq_pure (pure_extract rfl rfl) rfl rfl ?_
      refine seq_pure (pure_extract rfl rfl) rfl rfl ?_
      (refine seq_step (step_alloc rfl) rfl ?_; rintro _ ⟨b44, rfl⟩)
      refine seq_store rfl rfl rfl hl2 ho2 rfl (by repeat (first | exact Sw.here | apply Sw.there)) (by exact upd_all hl2.symm) ?_
      refine seq_pure (pure_assign rfl) rfl rfl ?_
      refine seq_done ?_
      refine nrm_seq ?_
      refine tri_seq ?_
      refine tri_region ?_
      refine seq_load (load_a rfl rfl (at_blk_all (by repeat (first | exact List.Mem.head _ | apply List.Mem.tail))) hl1) rfl rfl ?_
      (refine seq_imm rfl hB2 rfl rfl (fun v G3 hle3 hh => ?_); obtain ⟨cells3, F3, rfl, hs3, hn3⟩ := hh; have hl3 := hs3.R.len; have ho3 := hs3.R.one; have hr2 := hs2.R.mono ((Dif.le G2 G1).trans hle3); have hr3 := hs3.R.mono (Dif.le G3 G2); have hT := termSame_fn rt G3 cells2 cells3 hr2 hr3; have hV := termValid_fn rt G3 cells2 hr2)
      refine seq_pure (pure_move rfl) rfl rfl ?_
      refine seq_pure (pure_extract rfl rfl) rfl rfl ?_
      refine seq_pure (pure_extract rfl rfl) rfl rfl ?_
      (refine seq_step (step_alloc rfl) rfl ?_; rintro _ ⟨b56, rfl⟩)
      refine seq_store rfl rfl rfl hl3 ho3 rfl (by repeat (first | exact Sw.here | apply Sw.there)) (by exact upd_all hl3.symm) ?_
      refine seq_pure (pure_assign rfl) rfl rfl ?_
      refine seq_done ?_
      refine nrm_seq ?_
      refine tri_seq ?_
      refine tri_seq ?_
      refine tri_region ?_
      refine seq_pure (pure_move rfl) rfl rfl ?_
      refine seq_pure (pure_move rfl) rfl rfl ?_
      refine seq_pure (pure_bneq_s rfl rfl rfl) rfl rfl ?_
      refine seq_pure (pure_move rfl) rfl rfl ?_
      refine seq_load (load_a rfl rfl (at_blk_all (by repeat (first | exact List.Mem.head _ | apply List.Mem.tail))) hl2) rfl rfl ?_
      refine seq_load (load_a rfl rfl (at_blk_all (by repeat (first | exact List.Mem.head _ | apply List.Mem.tail))) hl3) rfl rfl ?_
      refine seq_val rfl (hT) rfl rfl ?_
      refine seq_pure (pure_not_t rfl) rfl rfl ?_
      refine seq_pure (pure_pick_f rfl rfl) rfl rfl ?_
      refine seq_pure (pure_move rfl) rfl rfl ?_
      refine seq_pure (pure_move rfl) rfl rfl ?_
      refine seq_pure (pure_not_f rfl) rfl rfl ?_
      refine seq_pure (pure_pick_f rfl rfl) rfl rfl ?_
      refine seq_pure (pure_move rfl) rfl rfl ?_
      refine seq_skip rfl rfl ?_
      refine seq_skip rfl rfl ?_
      refine seq_skip rfl rfl ?_
      refine seq_pure (pure_pick_t rfl rfl) rfl rfl ?_
      refine seq_done ?_
      refine nrm_seq ?_
      refine tri_cond_t rfl ?_
      refine tri_seq ?_
      refine tri_region ?_
      refine seq_pure (pure_move rfl) rfl rfl ?_
      refine seq_pure (pure_move rfl) rfl rfl ?_
      refine seq_pure (pure_beql_s rfl rfl rfl) rfl rfl ?_
      refine seq_pure (pure_move rfl) rfl rfl ?_
      refine seq_load (load_a rfl rfl (at_blk_all (by repeat (first | exact List.Mem.head _ | apply List.Mem.tail))) hl2) rfl rfl ?_
      refine seq_load (load_a rfl rfl (at_blk_all (by repeat (first | exact List.Mem.head _ | apply List.Mem.tail))) hl3) rfl rfl ?_
      refine seq_val rfl (hT) rfl rfl ?_
      refine seq_pure (pure_pick_t rfl rfl) rfl rfl ?_
      refine seq_pure (pure_assign rfl) rfl rfl ?_
      refine seq_done ?_
      refine nrm_seq ?_
      refine tri_ret ?_
      refine ret_seq ?_
      refine ret_fin1 (res_tmp rfl) ?_
      exact ⟨rfl, rfl⟩
    · (refine seq_step (step_alloc rfl) rfl ?_; rintro _ ⟨b102, rfl⟩)
      refine seq_store rfl rfl rfl hl1 ho1 rfl (by repeat (first | exact Sw.here | apply Sw.there)) (by exact upd_all hl1.symm) ?_
      refine seq_done ?_
      refine nrm_seq ?_
      refine tri_seq ?_
      refine tri_region ?_
      refine seq_load (load_a rfl rfl (at_blk_all (by repeat (first | exact List.Mem.head _ | apply List.Mem.tail))) hl1) rfl rfl ?_
      (refine seq_imm rfl hB rfl rfl (fun v G2 hle2 hh => ?_); obtain ⟨cells2, F2, rfl, hs2, hn2⟩ := hh; have hB2 := sBareTerm_fn t1 G2 cells1 hf11 (by omega) (hr1.mono hle2); rw [hrr] at hB2; have hl2 := hs2.R.len; have ho2 := hs2.R.one)
      refine seq_pure (pure_move rfl) rfl rfl ?_
      refine seq_pure (pure_extract rfl rfl) rfl rfl ?_
      refine seq_pure (pure_extract rfl rfl) rfl rfl ?_
      (refine seq_step (step_alloc rfl) rfl ?_; rintro _ ⟨b113, rfl⟩)
      refine seq_store rfl rfl rfl hl2 ho2 rfl (by repeat (first | exact Sw.here | apply Sw.there)) (by exact upd_all hl2.symm) ?_
      refine seq_pure (pure_assign rfl) rfl rfl ?_
      refine seq_done ?_
      refine nrm_seq ?_
      refine tri_seq ?_
      refine tri_region ?_
      refine seq_load (load_a rfl rfl (at_blk_all (by repeat (first | exact List.Mem.head _ | apply List.Mem.tail))) hl1) rfl rfl ?_
      (refine seq_imm rfl hB2 rfl rfl (fun v G3 hle3 hh => ?_); obtain ⟨cells3, F3, rfl, hs3, hn3⟩ := hh; have hl3 := hs3.R.len; have ho3 := hs3.R.one; have hr2 := hs2.R.mono ((Dif.le G2 G1).trans hle3); have hr3 := hs3.R.mono (Dif.le G3 G2); have hT := termSame_fn rt G3 cells2 cells3 hr2 hr3; have hV := termValid_fn rt G3 cells2 hr2)
      refine seq_pure (pure_move rfl) rfl rfl ?_
      refine seq_pure (pure_extract rfl rfl) rfl rfl ?_
      refine seq_pure (pure_extract rfl rfl) rfl rfl ?_
      (refine seq_step (step_alloc rfl) rfl ?_; rintro _ ⟨b125, rfl⟩)
      refine seq_store rfl rfl rfl hl3 ho3 rfl (by repeat (first | exact Sw.here | apply Sw.there)) (by exact upd_all hl3.symm) ?_
      refine seq_pure (pure_assign rfl) rfl rfl ?_
      refine seq_done ?_
      refine nrm_seq ?_
      refine tri_seq ?_
      refine tri_seq ?_
      refine tri_region ?_
      refine seq_pure (pure_move rfl) rfl rfl ?_
      refine seq_pure (pure_move rfl) rfl rfl ?_
      refine seq_pure (pure_bneq_s rfl rfl rfl) rfl rfl ?_
      refine seq_pure (pure_move rfl) rfl rfl ?_
      refine seq_load (load_a rfl rfl (at_blk_all (by repeat (first | exact List.Mem.head _ | apply List.Mem.tail))) hl2) rfl rfl ?_
      refine seq_load (load_a rfl rfl (at_blk_all (by repeat (first | exact List.Mem.head _ | apply List.Mem.tail))) hl3) rfl rfl ?_
      refine seq_val rfl (hT) rfl rfl ?_
      refine seq_pure (pure_not_t rfl) rfl rfl ?_
      refine seq_pure (pure_pick_f rfl rfl) rfl rfl ?_
      refine seq_pure (pure_move rfl) rfl rfl ?_
      refine seq_pure (pure_move rfl) rfl rfl ?_
      refine seq_pure (pure_not_t rfl) rfl rfl ?_
      refine seq_pure (pure_pick_f rfl rfl) rfl rfl ?_
      refine seq_pure (pure_move rfl) rfl rfl ?_
      refine seq_load (load_a rfl rfl (at_blk_all (by repeat (first | exact List.Mem.head _ | apply List.Mem.tail))) hl2) rfl rfl ?_
      refine seq_valb rfl (hV) rfl rfl (fun h148 => ?_) (fun h148 => ?_)
      · refine seq_pure (pure_not_t rfl) rfl rfl ?_
        refine seq_pure (pure_pick_f rfl rfl) rfl rfl ?_
        refine seq_done ?_
        refine nrm_seq ?_
        refine tri_cond_f rfl ?_
        refine tri_skip ?_
        refine nrm_seq ?_
        refine tri_seq ?_
        (have hpp := hpc rfl (by assumption); have hP := allPaths_fn rt G3 cells2 hr2; refine tri_draw mixed rfl ?_)
        refine any_load (i := 0) (listed' := [true, false, false, false, false, false, false]) rfl (by repeat (first | exact np_ret | exact np_cut | apply np_seq | apply np_block | apply np_loopN')) (load_a rfl rfl (at_blk_all (by repeat (first | exact List.Mem.head _ | apply List.Mem.tail))) hl2) rfl (by kernel_rfl) rfl rfl ?_
        refine any_load (i := 3) (listed' := [true, false, false, true, false, false, false]) rfl (by repeat (first | exact np_ret | exact np_cut | apply np_seq | apply np_block | apply np_loopN')) (load_a rfl rfl (at_blk_all (by repeat (first | exact List.Mem.head _ | apply List.Mem.tail))) hl2) rfl (by kernel_rfl) rfl rfl ?_
        refine any_one (j := 1) (by kernel_rfl) ?_
        (refine one_imm (listed' := [true, true, false, true, false, false, false]) rfl rfl hP rfl rfl rfl (fun v G4 hle4 hh => ?_); obtain ⟨pq, cq, rfl, hq⟩ := hh; have hC := countNodes_fn rt G4 cells2 (by omega) (hr2.mono hle4))
        refine any_pure (i := 2) (listed' := [true, true, true, true, false, false, false]) rfl (by repeat (first | exact np_ret | exact np_cut | apply np_seq | apply np_block | apply np_loopN')) (pure_len rfl rfl) rfl (by kernel_rfl) rfl rfl ?_
        refine any_one (j := 4) (by kernel_rfl) ?_
        refine one_val (listed' := [true, true, true, true, true, false, false]) rfl rfl (hC) rfl rfl rfl ?_
        refine any_pure (i := 5) (listed' := [true, true, true, true, true, true, false]) rfl (by repeat (first | exact np_ret | exact np_cut | apply np_seq | apply np_block | apply np_loopN')) (pure_eql_t rfl rfl (by omega)) rfl (by kernel_rfl) rfl rfl ?_
        refine any_pure (i := 6) (listed' := [true, true, true, true, true, true, true]) rfl (by repeat (first | exact np_ret | exact np_cut | apply np_seq | apply np_block | apply np_loopN')) (pure_assign rfl) rfl (by kernel_rfl) rfl rfl ?_
        refine any_done (by kernel_rfl) ?_
        refine nrm_seq ?_
        refine tri_ret ?_
        refine ret_fin1 (res_tmp rfl) ?_
        exact ⟨rfl, rfl⟩
      · refine seq_pure (pure_not_f rfl) rfl rfl ?_
        refine seq_pure (pure_pick_f rfl rfl) rfl rfl ?_
        refine seq_done ?_
        refine nrm_seq ?_
        refine tri_cond_t rfl ?_
        refine tri_seq ?_
        refine tri_region ?_
        refine seq_pure (pure_move rfl) rfl rfl ?_
        refine seq_pure (pure_move rfl) rfl rfl ?_
        refine seq_pure (pure_beql_s rfl rfl rfl) rfl rfl ?_
        refine seq_pure (pure_move rfl) rfl rfl ?_
        refine seq_load (load_a rfl rfl (at_blk_all (by repeat (first | exact List.Mem.head _ | apply List.Mem.tail))) hl2) rfl rfl ?_
        refine seq_load (load_a rfl rfl (at_blk_all (by repeat (first | exact List.Mem.head _ | apply List.Mem.tail))) hl3) rfl rfl ?_
        refine seq_val rfl (hT) rfl rfl ?_
        refine seq_pure (pure_pick_t rfl rfl) rfl rfl ?_
        refine seq_pure (pure_assign rfl) rfl rfl ?_
        refine seq_done ?_
        refine nrm_seq ?_
        refine tri_ret ?_
        refine ret_seq ?_
        refine ret_fin1 (res_tmp rfl) ?_
        exact ⟨rfl, rfl⟩
end Gw
end Go.Proofs.Ytlefgfdhlblahaa
namespace Go.Proofs.Ytlefgfdhlblahaa
open Go Go.RowKit Go.ChangeShapes Go.WideShapes Go.ChangeAt
namespace Gw
theorem build_int {q : Nat → Value → Prop} : ∀ {n : Nat}, (∀ i, i < n → ∃ k : Int, q i (.int .i64 k)) → ∃ l : List Int, l.length = n ∧ ∀ i v, (ints l)[i]? = some v → q i v
  | 0, _ => ⟨[], rfl, by simp [ints]⟩
  | n + 1, h => by
    obtain ⟨l, h1, h2⟩ := build_int (n := n) fun i hi => h i (by omega)
    obtain ⟨k, hk⟩ := h n (by omega)
    refine ⟨l ++ [k], by simp [h1], fun i v hv => ?_⟩
    rw [ints_snoc, List.getElem?_append] at hv
    split at hv
    · exact h2 i v hv
    · rename_i hi
      rw [ints_len] at hi hv
      have : i - l.length = 0 := by
        have := (List.getElem?_eq_some_iff.1 hv).1; simp at this; omega
      rw [this] at hv; simp at hv; subst hv
      rw [show i = n by omega]; exact hk
section read2
variable {H : Type} {enc : TypeId × Value → H} {w : World} {sp : Nat → Bool} {held : Bool}
set_option maxRecDepth 100000 in
theorem read_ints (n : Nat) (cs : List Value) (x : DataW H × List MemPlace) (h : DataW.trod enc Try.prog w 0 sp held n 50 cs = some x) : ∃ (l : List Int) (p : Option Addr) (c : Nat), cs = [.slice p l.length c] ∧ Sl (GW w) p l.length c 1 (ints l) := by
  rcases DataW.trod_slice Try.underlying50 h with ⟨rfl, _⟩ | ⟨ad, len, cap, elems, rest, n', rfl, rfl, _, _, hlc, hcm, hel, hele, _, _⟩
  · exact ⟨[], none, 0, rfl, Sl.nil _ _⟩
  · rw [cellsI] at hele
    obtain ⟨l, h1, h2⟩ := build_int (q := fun i v => w.cells? 0 (ad.add (i * 1)) 1 = some [v]) (n := len) fun i hi => by
      have := hele i hi
      rw [List.getElem?_eq_getElem (by omega)] at this
      obtain ⟨cs', c1, c2⟩ := Option.bind_eq_some_iff.1 this
      obtain ⟨k, rfl, _⟩ := DataW.trod_int Try.underlying3 c2
      exact ⟨k, c1⟩
    subst h1
    refine ⟨l, some ad, cap, rfl, ?_⟩
    have := sl_read (w := w) (a := ad) (n := l.length) (c := cap) (sz := 1) (es := (ints l).map fun v => [v]) (by simp [ints_len]) (by omega) hlc hcm fun i e he => by
      rw [List.getElem?_map] at he
      cases hv : (ints l)[i]? with
      | none => rw [hv] at he; simp at he
      | some v => rw [hv] at he; simp at he; subst he; exact h2 i v hv
    have hf : ((ints l).map fun v => [v]).flatten = ints l := by
      generalize ints l = L
      induction L with
      | nil => rfl
      | cons a L ih => simp [ih]
    rwa [hf] at this
end read2
end Gw
end Go.Proofs.Ytlefgfdhlblahaa
namespace Go.Proofs.Ytlefgfdhlblahaa
open Go Go.RowKit Go.ChangeShapes Go.WideShapes Go.ChangeAt
namespace Gw
theorem cellsU : Try.prog.cellsOf 5 = 1 := by kernel_rfl
theorem build_byte {q : Nat → Value → Prop} : ∀ {n : Nat}, (∀ i, i < n → ∃ k : UInt8, q i (.int .u8 (k.toNat : Int))) → ∃ l : List UInt8, l.length = n ∧ ∀ i v, (byts l)[i]? = some v → q i v
  | 0, _ => ⟨[], rfl, by simp [byts]⟩
  | n + 1, h => by
    obtain ⟨l, h1, h2⟩ := build_byte (n := n) fun i hi => h i (by omega)
    obtain ⟨k, hk⟩ := h n (by omega)
    refine ⟨l ++ [k], by simp [h1], fun i v hv => ?_⟩
    rw [show byts (l ++ [k]) = byts l ++ [.int .u8 (k.toNat : Int)] from by simp [byts], List.getElem?_append] at hv
    split at hv
    · exact h2 i v hv
    · rename_i hi
      rw [byts_len] at hi hv
      have : i - l.length = 0 := by
        have := (List.getElem?_eq_some_iff.1 hv).1; simp at this; omega
      rw [this] at hv; simp at hv; subst hv
      rw [show i = n by omega]; exact hk
section read2
variable {H : Type} {enc : TypeId × Value → H} {w : World} {sp : Nat → Bool} {held : Bool}
set_option maxRecDepth 100000 in
theorem read_bytes (n : Nat) (cs : List Value) (x : DataW H × List MemPlace) (h : DataW.trod enc Try.prog w 0 sp held n 22 cs = some x) : ∃ (l : List UInt8) (p : Option Addr) (c : Nat), cs = [.slice p l.length c] ∧ Sl (GW w) p l.length c 1 (byts l) := by
  rcases DataW.trod_slice Try.underlying22 h with ⟨rfl, _⟩ | ⟨ad, len, cap, elems, rest, n', rfl, rfl, _, _, hlc, hcm, hel, hele, _, _⟩
  · exact ⟨[], none, 0, rfl, Sl.nil _ _⟩
  · rw [cellsU] at hele
    obtain ⟨l, h1, h2⟩ := build_byte (q := fun i v => w.cells? 0 (ad.add (i * 1)) 1 = some [v]) (n := len) fun i hi => by
      have := hele i hi
      rw [List.getElem?_eq_getElem (by omega)] at this
      obtain ⟨cs', c1, c2⟩ := Option.bind_eq_some_iff.1 this
      obtain ⟨k, rfl, _, hw⟩ := DataW.trod_int Try.underlying5 c2
      have hk : 0 ≤ k ∧ k < 256 := by
        have hw2 : (decide ((0 : Int) ≤ k) && decide (k ≤ (255 : Int))) = true := hw
        simp only [Bool.and_eq_true, decide_eq_true_eq] at hw2
        omega
      refine ⟨UInt8.ofNat k.toNat, ?_⟩
      rw [show ((UInt8.ofNat k.toNat).toNat : Int) = k from by
        rw [UInt8.toNat_ofNat']; omega]
      exact c1
    subst h1
    refine ⟨l, some ad, cap, rfl, ?_⟩
    have := sl_read (w := w) (a := ad) (n := l.length) (c := cap) (sz := 1) (es := (byts l).map fun v => [v]) (by simp [byts_len]) (by omega) hlc hcm fun i e he => by
      rw [List.getElem?_map] at he
      cases hv : (byts l)[i]? with
      | none => rw [hv] at he; simp at he
      | some v => rw [hv] at he; simp at he; subst he; exact h2 i v hv
    have hf : ((byts l).map fun v => [v]).flatten = byts l := by
      generalize byts l = L
      induction L with
      | nil => rfl
      | cons a L ih => simp [ih]
    rwa [hf] at this
end read2
end Gw
end Go.Proofs.Ytlefgfdhlblahaa
