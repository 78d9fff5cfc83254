/-
  Terms each node of which is changed, operands first; own copies. slices.Clone of numbers, paths, AllPaths. AllPaths. The reference model's paths. The reference model's AllPaths. The law that AllPaths gives what the reference model gives: its walk. Nodes at paths, casts by their labels. The node of a term at a path. Terms without casts and types, in plain words. BareTerm, CountNodes: the program's and the reference model's.
-/
import Derived.Test.YtlefgfdhlblahaaKa5
import Derived.Test.YtlefgfdhlblahaaKa1
import Derived.Test.YtlefgfdhlblahaaKa3
import Derived.Test.YtlefgfdhlblahaaKa7
import Derived.Test.YtlefgfdhlblahaaKa4
namespace Go.Proofs.Ytlefgfdhlblahaa
open Go Go.RowKit
namespace Gw
mutual
def mMap (g : Tm → Tm) : Tm → Tm
  | .mk k nm num ty fr lb ks => g (.mk k nm num ty fr lb (mMapL g ks))
def mMapL (g : Tm → Tm) : List Tm → List Tm
  | [] => []
  | t :: ts => mMap g t :: mMapL g ts
end
theorem mMapL_eq (g : Tm → Tm) : ∀ ks, mMapL g ks = ks.map (mMap g)
  | [] => rfl
  | t :: ts => by rw [mMapL, mMapL_eq g ts, List.map_cons]
mutual
theorem mMap_id : ∀ t, mMap id t = t
  | .mk k nm num ty fr lb ks => by rw [mMap, mMapL_id ks]; rfl
theorem mMapL_id : ∀ ks, mMapL id ks = ks
  | [] => rfl
  | t :: ts => by rw [mMapL, mMap_id t, mMapL_id ts]
end
/-- A term put together, its operands first. -/
theorem STm.mk3k {G G1 G2 G3 : IM} {k : Int} {nm : ByteArray} {num : Int} {ty fr : Ty} {lb : Int} {ks : List Tm} {tc fc : List Value} {p : Option Addr} {c : Nat} {F1 F2 F3 : List Nat} (hk : I64 k) (hnum : I64 num) (hlb : I64 lb)
    (hl1 : IMle G G1) (hl2 : IMle G1 G2) (hl3 : IMle G2 G3) (h3 : STmS (Dif G1 G) ks p c F3) (n3 : F3.Nodup) (h1 : STy (Dif G2 G1) ty tc F1) (n1 : F1.Nodup) (h2 : STy (Dif G3 G2) fr fc F2) (n2 : F2.Nodup) :
    ∃ F, STm (Dif G3 G) (.mk k nm num ty fr lb ks) ([.int .i64 k, .string nm, .int .i64 num] ++ tc ++ fc ++ [.int .i64 lb, .slice p ks.length c]) F ∧ F.Nodup := by
  obtain ⟨es, Fs, e1, e2, rfl, e4⟩ := h3
  have i3 : ∀ b ∈ vfp p ++ Fs, Dif G1 G b ≠ none := by
    intro b hb
    rcases List.mem_append.1 hb with hb | hb
    · exact e4 b hb
    · exact e2.inG b hb
  have a1 : IMle (Dif G1 G) (Dif G3 G) := Dif.mono (hl2.trans hl3)
  have a2 : IMle (Dif G2 G1) (Dif G3 G) := fun b l h => Dif.mono hl3 b l (Dif.anti hl1 b l h)
  have a3 : IMle (Dif G3 G2) (Dif G3 G) := Dif.anti (hl1.trans hl2)
  refine ⟨F1 ++ (F2 ++ (vfp p ++ Fs)), ?_, ?_⟩
  · simp only [STm]
    exact ⟨tc, fc, p, c, es, F1, F2, Fs, rfl, hk, hnum, hlb, h1.mono a2, h2.mono a3, e1.mono a1, e2.mono a1, rfl, dmono a1 e4⟩
  · rw [List.nodup_append, List.nodup_append]
    refine ⟨n1, ⟨n2, n3, ?_⟩, ?_⟩
    · rintro x hx y hy rfl
      exact dif_no (dmono (Dif.mono hl2) i3) h2.inG x hy x hx rfl
    · rintro x hx y hy rfl
      rcases List.mem_append.1 hy with hy | hy
      · exact dif_no (dmono (Dif.anti hl1) h1.inG) h2.inG x hx x hy rfl
      · exact dif_no i3 h1.inG x hy x hx rfl
/- What is asked of every node that comes to the change. -/
mutual
def mOk (Q : Tm → Prop) (g : Tm → Tm) : Tm → Prop
  | .mk k nm num ty fr lb ks => mOkL Q g ks ∧ Q (.mk k nm num ty fr lb (mMapL g ks))
def mOkL (Q : Tm → Prop) (g : Tm → Tm) : List Tm → Prop
  | [] => True
  | t :: ts => mOk Q g t ∧ mOkL Q g ts
end
theorem mOkL_mem {Q : Tm → Prop} {g : Tm → Tm} : ∀ {ts : List Tm}, mOkL Q g ts → ∀ t ∈ ts, mOk Q g t
  | [], _, t, h => by simp at h
  | t' :: ts, h, t, ht => by
    simp only [mOkL] at h
    rcases List.mem_cons.1 ht with rfl | ht
    · exact h.1
    · exact mOkL_mem h.2 t ht
mutual
theorem mOk_true (g : Tm → Tm) : ∀ t, mOk (fun _ => True) g t
  | .mk k nm num ty fr lb ks => by rw [mOk]; exact ⟨mOkL_true g ks, trivial⟩
theorem mOkL_true (g : Tm → Tm) : ∀ ts, mOkL (fun _ => True) g ts
  | [] => by rw [mOkL]; trivial
  | t :: ts => by rw [mOkL]; exact ⟨mOk_true g t, mOkL_true g ts⟩
end
/-- What is asked of a change of nodes. -/
def MapOk (g : Tm → Tm) (Q : Tm → Prop) (fid : FuncId) (us cs : List Value) : Prop := ∀ (t : Tm) (G0 G1 : IM) (cells : List Value) (F : List Nat), Q t → IMle G0 G1 → STm (Dif G1 G0) t cells F → F.Nodup →
  Fn Try.prog fid (us ++ [.agg ⟨cells⟩] ++ cs) [] G1 (Imm fun G2 v => ∃ cells' F', v = .agg ⟨cells'⟩ ∧ STm (Dif G2 G0) (g t) cells' F' ∧ F'.Nodup)
set_option maxHeartbeats 0 in
set_option maxRecDepth 100000 in
theorem mapped_fn (g : Tm → Tm) (Q : Tm → Prop) (fid : FuncId) [FunI Try.prog fid] (us cs : List Value) (hg : MapOk g Q fid us cs) : ∀ (t : Tm) (G : IM) (cells : List Value), mOk Q g t → t.small → RTm G t cells →
    Fn Try.prog 71 [.agg ⟨cells⟩, .func (.func fid) ⟨us⟩ ⟨cs⟩] [] G (ToTm (mMap g t) G) := by
  refine Tm.ind fun k nm num ty fr lb ks ih G cells hmo hts hr => ?_
  have hone := hr.one
  simp only [mOk] at hmo
  obtain ⟨hmoL, hQ⟩ := hmo
  simp only [Tm.small] at hts
  obtain ⟨hnm, hty', hfr', hsm, hks⟩ := hts
  obtain ⟨tk, tks⟩ := ty
  obtain ⟨fk, fks⟩ := fr
  obtain ⟨pt, ct, pf, cf, p, c, es, rfl, hk, hnum, hlb, hty, hfr, hsl, hkl⟩ := hr.open9
  have hn := hsl.le
  have hlen : (mMapL g ks).length = ks.length := by rw [mMapL_eq, List.length_map]
  have hget : ∀ i (h : i < ks.length) (h' : i < (mMapL g ks).length), (mMapL g ks)[i] = mMap g ks[i] := fun i h h' => by simp [mMapL_eq]
  refine fn_enter Try.func71 rfl Try.ntmps71 Try.results71 rfl ?_
  intro w0
  refine tri_seq ?_
  refine tri_region ?_
  (refine seq_step (step_box_a rfl rfl) rfl ?_; rintro _ ⟨b3, rfl⟩)
  (refine seq_step (step_alloc rfl) rfl ?_; rintro _ ⟨b4, rfl⟩)
  refine seq_done ?_
  refine nrm_seq ?_
  refine tri_seq ?_
  refine tri_region ?_
  refine seq_pure (pure_assign rfl) rfl rfl ?_
  refine seq_done ?_
  refine nrm_seq ?_
  refine tri_seq ?_
  refine tri_seq ?_
  refine tri_region ?_
  refine seq_pure (pure_fieldAddr0 rfl) rfl rfl ?_
  refine seq_load (load_bs rfl rfl (by repeat (first | exact List.Mem.head _ | apply List.Mem.tail)) (by rfl)) rfl rfl ?_
  refine seq_pure (pure_len rfl rfl) rfl rfl ?_
  refine seq_pure (pure_move rfl) rfl rfl ?_
  refine seq_done ?_
  refine nrm_seq ?_
  refine tri_block ?_
  (refine tri_nil 28 9 ?_; refine tri_loopN (fun (x : Nat × Option Addr × Nat × List (List Value) × List Nat × IM) => ⟨[(11, .int .i64 x.1), (10, .int .i64 ks.length), (9, .slice p ks.length c), (5, .slice x.2.1 x.1 x.2.2.1), (2, .pointer (some ⟨b3, 0, none⟩)), (1, .func (.func fid) ⟨us⟩ ⟨cs⟩), (4, .pointer (some ⟨b4, 0, none⟩))], [.slc x.2.1 x.2.2.1 28 9 x.1 x.2.2.2.1.flatten, .blk b4 [.int .i64 0, .string ⟨⟨[]⟩⟩, .int .i64 0, .int .i64 0, .slice none 0 0, .int .i64 0, .slice none 0 0, .int .i64 0, .slice none 0 0], .blk b3 [.int .i64 k, .string nm, .int .i64 num, .int .i64 tk, .slice pt tks.length ct, .int .i64 fk, .slice pf fks.length cf, .int .i64 lb, .slice p ks.length c]], x.2.2.2.2.2⟩) (fun x => x.1 ≤ ks.length ∧ IMle G x.2.2.2.2.2 ∧ STmL (Dif x.2.2.2.2.2 G) ((mMapL g ks).take x.1) x.2.2.2.1 x.2.2.2.2.1 ∧ x.2.2.2.2.1.Nodup) (fun x => ks.length - x.1) (0, none, 0, [], [], G) ?_ ?_ ?_)
  · (simp only [flat_snoc]; exact sub_mk (by repeat (first | exact SubE.nil | refine SubE.cons rfl ?_)) (by repeat (first | exact SubH.refl | exact SubH.nil | refine SubH.cons (by repeat (first | exact Pk.here | apply Pk.there)) ?_ | apply SubH.drop)))
  · exact ⟨by simp, IMle.refl _, by simp [STmL], by simp⟩
  · (rintro ⟨i, pn, cn, es', F, Gi⟩ ⟨hi, hle, hst, hnd⟩; simp only [] at hi hle hst hnd ⊢; replace hsl := hsl.mono hle; replace hkl := hkl.mono hle)
    refine tri_seq ?_
    refine tri_region ?_
    refine seq_bool (pure_lss rfl rfl) rfl rfl (fun h28 => ?_) (fun h28 => ?_)
    · refine seq_done ?_
      refine nrm_seq ?_
      refine tri_seq ?_
      refine tri_cond_t rfl ?_
      refine tri_skip ?_
      refine nrm_seq ?_
      refine tri_seq ?_
      refine tri_block ?_
      refine tri_seq ?_
      refine tri_region ?_
      (obtain ⟨b, o, e, rfl, hl, hat, hre, hgb⟩ := hsl.kidTm hkl (i := i) (by omega) (by omega); have hone := hre.one; refine seq_pure (pure_indexAddrN rfl rfl rfl (by omega)) rfl rfl ?_)
      refine seq_load (load_a rfl rfl (hat _) hl) rfl rfl ?_
      (refine seq_step (step_alloc rfl) rfl ?_; rintro _ ⟨b41, rfl⟩)
      refine seq_store rfl rfl rfl hl hone rfl (by repeat (first | exact Sw.here | apply Sw.there)) (by exact upd_all hl.symm) ?_
      refine seq_done ?_
      refine nrm_seq ?_
      refine tri_region ?_
      refine seq_pure (pure_move rfl) rfl rfl ?_
      refine seq_load (load_a rfl rfl (at_blk_all (by repeat (first | exact List.Mem.head _ | apply List.Mem.tail))) (by assumption)) rfl rfl ?_
      refine seq_pure (pure_move rfl) rfl rfl ?_
      (refine seq_imm rfl (ih ks[i] (List.getElem_mem (by omega)) _ _ (mOkL_mem hmoL _ (List.getElem_mem (by omega))) (Tm.smallL_mem hks _ (List.getElem_mem (by omega))) hre) rfl rfl (fun v G3 hle3 hh => ?_); obtain ⟨cells', F', rfl, hs', hnd'⟩ := hh; rw [← hget i (by omega) (by omega)] at hs'; have hlc := hs'.R.len; have hoc := hs'.R.one)
      (obtain ⟨v1, v2, v3, v4, v5, v6, v7, v8, v9, rfl⟩ : ∃ v1 v2 v3 v4 v5 v6 v7 v8 v9, cells' = [v1, v2, v3, v4, v5, v6, v7, v8, v9] := by obtain ⟨_, _, _, _, _, _, _, _, _, rfl, _⟩ := hs'.R.open; exact ⟨_, _, _, _, _, _, _, _, _, rfl⟩)
      (refine seq_step (step_buildSlice rfl rfl rfl (by omega) (by unfold maxLen; omega) rfl) rfl ?_; rintro _ ⟨b51, rfl⟩)
      refine seq_append rfl rfl rfl rfl rfl (fun _ _ => by repeat (first | exact Sw.here | apply Sw.there)) (at_slc_all (by repeat (first | exact List.Mem.head _ | apply List.Mem.tail))) rfl (fun u hu => List.all_eq_true.1 hoc u hu) (by unfold maxLen; omega) (by omega) rfl (fun pn' cn' => ?_)
      refine seq_pure (pure_assign rfl) rfl rfl ?_
      refine seq_done ?_
      refine nrm_block ?_
      refine nrm_seq ?_
      refine tri_region ?_
      refine seq_pure (pure_add rfl rfl (by omega) (by omega)) rfl rfl ?_
      refine seq_pure (pure_move rfl) rfl rfl ?_
      refine seq_done ?_
      refine nrm_loopN (i + 1, pn', cn', es' ++ [[v1, v2, v3, v4, v5, v6, v7, v8, v9]], F ++ F', G3) ?_ ?_ ?_
      · (simp only [flat_snoc]; exact sub_mk (by repeat (first | exact SubE.nil | refine SubE.cons rfl ?_)) (by repeat (first | exact SubH.refl | exact SubH.nil | refine SubH.cons (by repeat (first | exact Pk.here | apply Pk.there)) ?_ | apply SubH.drop)))
      · exact ⟨by omega, hle.trans hle3, STmL.step hst hnd hle hle3 (by omega) hs' hnd'⟩
      · (show ks.length - (i + 1) < ks.length - i; omega)
    · refine seq_done ?_
      refine nrm_seq ?_
      refine tri_seq ?_
      refine tri_cond_f rfl ?_
      refine tri_exit ?_
      refine ext_seq ?_
      refine ext_loopN ?_
      refine ext_block_eq ?_
      refine nrm_seq ?_
      refine tri_seq ?_
      (obtain rfl : i = ks.length := (by omega); refine tri_freeze (by repeat (first | exact Pk.here | apply Pk.there)) (fun G2 hle2 hsl2 hno2 => ?_); rw [← hlen, List.take_length] at hst; rw [← hlen] at hsl2; obtain ⟨F3, hf1, hf2⟩ := STmS.fin hst hnd hle hle2 hsl2 hno2; have hleG := hle.trans hle2; have hT := ownType_fn (.mk tk tks) G2 _ hty' (hty.mono hleG); refine tri_draw mixed rfl ?_)
      refine any_pure (i := 0) (listed' := [true, false, false, false, false, false, false, false, false, false, false, false, false]) rfl (by repeat (first | exact np_ret | exact np_cut | apply np_seq | apply np_block | apply np_loopN')) (pure_fieldAddr0 rfl) rfl (by kernel_rfl) rfl rfl ?_
      refine any_load (i := 1) (listed' := [true, true, false, false, false, false, false, false, false, false, false, false, false]) rfl (by repeat (first | exact np_ret | exact np_cut | apply np_seq | apply np_block | apply np_loopN')) (load_ba rfl rfl (by repeat (first | exact List.Mem.head _ | apply List.Mem.tail)) (by rfl)) rfl (by kernel_rfl) rfl rfl ?_
      refine any_pure (i := 3) (listed' := [true, true, false, true, false, false, false, false, false, false, false, false, false]) rfl (by repeat (first | exact np_ret | exact np_cut | apply np_seq | apply np_block | apply np_loopN')) (pure_fieldAddr0 rfl) rfl (by kernel_rfl) rfl rfl ?_
      refine any_load (i := 4) (listed' := [true, true, false, true, true, false, false, false, false, false, false, false, false]) rfl (by repeat (first | exact np_ret | exact np_cut | apply np_seq | apply np_block | apply np_loopN')) (load_ba rfl rfl (by repeat (first | exact List.Mem.head _ | apply List.Mem.tail)) (by rfl)) rfl (by kernel_rfl) rfl rfl ?_
      refine any_pure (i := 6) (listed' := [true, true, false, true, true, false, true, false, false, false, false, false, false]) rfl (by repeat (first | exact np_ret | exact np_cut | apply np_seq | apply np_block | apply np_loopN')) (pure_move rfl) rfl (by kernel_rfl) rfl rfl ?_
      refine any_one (j := 2) (by kernel_rfl) ?_
      (refine one_imm (listed' := [true, true, true, true, true, false, true, false, false, false, false, false, false]) rfl rfl hT rfl rfl rfl (fun v G4 hle4 hh => ?_); obtain ⟨cs1, F1, rfl, hs1, hn1⟩ := hh; obtain ⟨p1, c1, rfl, _⟩ := hs1.open; have hF := ownType_fn (.mk fk fks) G4 _ hfr' (hfr.mono (hleG.trans hle4)))
      refine any_pure (i := 7) (listed' := [true, true, true, true, true, false, true, true, false, false, false, false, false]) rfl (by repeat (first | exact np_ret | exact np_cut | apply np_seq | apply np_block | apply np_loopN')) (pure_fieldAddr0 rfl) rfl (by kernel_rfl) rfl rfl ?_
      refine any_one (j := 5) (by kernel_rfl) ?_
      (refine one_imm (listed' := [true, true, true, true, true, true, true, true, false, false, false, false, false]) rfl rfl hF rfl rfl rfl (fun v G5 hle5 hh => ?_); obtain ⟨cs2, F2, rfl, hs2, hn2⟩ := hh; obtain ⟨p2, c2, rfl, _⟩ := hs2.open; obtain ⟨F6, hg1, hg2⟩ := STm.mk3k (nm := nm) hk hnum hlb hleG hle4 hle5 hf1 hf2 hs1 hn1 hs2 hn2; rw [hlen] at hg1; have hch := hg _ G G5 _ F6 hQ (hleG.trans (hle4.trans hle5)) hg1 hg2)
      refine any_one (j := 8) (by kernel_rfl) ?_
      refine one_store (listed' := [true, true, true, true, true, true, true, true, true, false, false, false, false]) rfl rfl rfl rfl rfl rfl rfl rfl (by kernel_rfl) (by repeat (first | exact Sw.here | apply Sw.there)) (by rfl) ?_
      refine any_pure (i := 9) (listed' := [true, true, true, true, true, true, true, true, true, true, false, false, false]) rfl (by repeat (first | exact np_ret | exact np_cut | apply np_seq | apply np_block | apply np_loopN')) (pure_fieldAddr0 rfl) rfl (by kernel_rfl) rfl rfl ?_
      refine any_one (j := 10) (by kernel_rfl) ?_
      refine one_store (listed' := [true, true, true, true, true, true, true, true, true, true, true, false, false]) rfl rfl rfl rfl rfl rfl rfl rfl (by kernel_rfl) (by repeat (first | exact Sw.here | apply Sw.there)) (by rfl) ?_
      refine any_pure (i := 11) (listed' := [true, true, true, true, true, true, true, true, true, true, true, true, false]) rfl (by repeat (first | exact np_ret | exact np_cut | apply np_seq | apply np_block | apply np_loopN')) (pure_fieldAddr0 rfl) rfl (by kernel_rfl) rfl rfl ?_
      refine any_one (j := 12) (by kernel_rfl) ?_
      refine one_store (listed' := [true, true, true, true, true, true, true, true, true, true, true, true, true]) rfl rfl rfl rfl rfl rfl rfl rfl (by kernel_rfl) (by repeat (first | exact Sw.here | apply Sw.there)) (by rfl) ?_
      refine any_done (by kernel_rfl) ?_
      refine nrm_seq ?_
      refine tri_seq ?_
      refine tri_region ?_
      refine seq_pure (pure_move rfl) rfl rfl ?_
      refine seq_load (load_ba rfl rfl (by repeat (first | exact List.Mem.head _ | apply List.Mem.tail)) (by rfl)) rfl rfl ?_
      (refine seq_step (step_callv rfl rfl hch (List.Perm.refl _) rfl) rfl ?_; rintro _ ⟨v, G7, outs, rfl, hle7, rfl, cells7, F7, rfl, hs7, hn7⟩; have hl7 := hs7.R.len; have ho7 := hs7.R.one)
      refine seq_store rfl rfl rfl hl7 ho7 rfl (by repeat (first | exact Sw.here | apply Sw.there)) (by exact upd_all hl7.symm) ?_
      refine seq_done ?_
      refine nrm_seq ?_
      refine tri_ret ?_
      refine ret_fin1 (res_cell rfl (load_a rfl rfl (at_blk_all (by repeat (first | exact List.Mem.head _ | apply List.Mem.tail))) hl7)) ?_
      (rw [mMap]; exact ⟨rfl, cells7, F7, rfl, hs7, hn7⟩)
set_option maxRecDepth 100000 in
theorem own1_fn (G : IM) (cells : List Value) (hl : cells.length = 9) (hone : cells.all (·.oneCell') = true) : Fn Try.prog 88 [.agg ⟨cells⟩] [] G (Val (.agg ⟨cells⟩) G) := by
  refine fn_enter Try.func88 rfl Try.ntmps88 Try.results88 rfl ?_
  intro w0
  refine tri_seq ?_
  refine tri_region ?_
  (refine seq_step (step_box_a rfl rfl) rfl ?_; rintro _ ⟨b3, rfl⟩)
  (refine seq_step (step_alloc rfl) rfl ?_; rintro _ ⟨b4, rfl⟩)
  refine seq_done ?_
  refine nrm_seq ?_
  refine tri_seq ?_
  refine tri_region ?_
  refine seq_load (load_a rfl rfl (at_blk_all (by repeat (first | exact List.Mem.head _ | apply List.Mem.tail))) (by assumption)) rfl rfl ?_
  refine seq_store rfl rfl rfl hl hone rfl (by repeat (first | exact Sw.here | apply Sw.there)) (by exact upd_all hl.symm) ?_
  refine seq_done ?_
  refine nrm_seq ?_
  refine tri_ret ?_
  refine ret_fin1 (res_cell rfl (load_a rfl rfl (at_blk_all (by repeat (first | exact List.Mem.head _ | apply List.Mem.tail))) hl)) ?_
  exact ⟨rfl, rfl, rfl⟩
theorem mapOk_id : MapOk id (fun _ => True) 88 [] [] := fun t G0 G1 cells F _ hle hs hn =>
  (own1_fn G1 cells hs.R.len hs.R.one).mono fun G' v outs _ ⟨h1, h2, h3⟩ => ⟨h3, cells, F, h2, by rw [h1]; exact hs, hn⟩
set_option maxRecDepth 100000 in
theorem own_fn (t : Tm) (G : IM) (cells : List Value) (hts : t.small) (hr : RTm G t cells) : Fn Try.prog 59 [.agg ⟨cells⟩] [] G (ToTm t G) := by
  have hl := hr.len
  have hone := hr.one
  have hM := mapped_fn id (fun _ => True) 88 [] [] mapOk_id t G cells (mOk_true _ t) hts hr
  rw [mMap_id] at hM
  refine fn_enter Try.func59 rfl Try.ntmps59 Try.results59 rfl ?_
  intro w0
  refine tri_seq ?_
  refine tri_region ?_
  (refine seq_step (step_box_a rfl rfl) rfl ?_; rintro _ ⟨b3, rfl⟩)
  (refine seq_step (step_alloc rfl) rfl ?_; rintro _ ⟨b4, rfl⟩)
  refine seq_done ?_
  refine nrm_seq ?_
  refine tri_seq ?_
  refine tri_region ?_
  refine seq_load (load_a rfl rfl (at_blk_all (by repeat (first | exact List.Mem.head _ | apply List.Mem.tail))) (by assumption)) rfl rfl ?_
  (refine seq_imm rfl hM rfl rfl (fun v G3 hle3 hh => ?_); obtain ⟨cells', F', rfl, hs', hnd'⟩ := hh; have hl' := hs'.R.len; have ho' := hs'.R.one)
  refine seq_store rfl rfl rfl hl' ho' rfl (by repeat (first | exact Sw.here | apply Sw.there)) (by exact upd_all hl'.symm) ?_
  refine seq_done ?_
  refine nrm_seq ?_
  refine tri_ret ?_
  refine ret_fin1 (res_cell rfl (load_a rfl rfl (at_blk_all (by repeat (first | exact List.Mem.head _ | apply List.Mem.tail))) hl')) ?_
  exact ⟨rfl, cells', F', rfl, hs', hnd'⟩
end Gw
end Go.Proofs.Ytlefgfdhlblahaa
namespace Go.Proofs.Ytlefgfdhlblahaa
open Go Go.RowKit
namespace Gw
set_option maxRecDepth 100000 in
theorem clone_int (G : IM) (p : Option Addr) (n c : Nat) (cells : List Value) (h : Sl G p n c 1 cells) (ho : ∀ u ∈ cells, u.oneCell' = true) (hn : n ≤ 4294967296) :
    Fn Try.prog 80 [.slice p n c] [] G (fun G' v outs => G' = G ∧ ∃ p' c', v = .slice p' n c' ∧ outs = [.slc p' c' 3 1 n cells]) := by
  have hp := h.nn
  obtain ⟨hl, hc, hm, hat⟩ := h
  refine fn_enter Try.func80 rfl Try.ntmps80 Try.results80 rfl ?_
  intro w0
  cases p with
  | none =>
    obtain rfl := hp rfl
    obtain rfl : cells = [] := List.length_eq_zero_iff.1 (by omega)
    refine tri_nil 3 1 ?_
    refine tri_seq ?_
    refine tri_region ?_
    refine seq_pure (pure_assign rfl) rfl rfl ?_
    refine seq_done ?_
    refine nrm_seq ?_
    refine tri_seq ?_
    refine tri_seq ?_
    refine tri_region ?_
    refine seq_pure (pure_move rfl) rfl rfl ?_
    refine seq_pure (pure_slnil_t rfl rfl rfl) rfl rfl ?_
    refine seq_done ?_
    refine nrm_seq ?_
    refine tri_cond_t rfl ?_
    refine tri_seq ?_
    refine tri_region ?_
    refine seq_pure (pure_assign rfl) rfl rfl ?_
    refine seq_done ?_
    refine nrm_seq ?_
    refine tri_ret ?_
    refine ret_seq ?_
    refine ret_own1 (res_tmp rfl) SubH.refl ?_
    exact ⟨rfl, _, _, rfl, rfl⟩
  | some a =>
    rcases Nat.eq_zero_or_pos n with rfl | hn0
    · obtain rfl : cells = [] := List.length_eq_zero_iff.1 (by omega)
      refine tri_seq ?_
      refine tri_region ?_
      refine seq_pure (pure_assign rfl) rfl rfl ?_
      refine seq_done ?_
      refine nrm_seq ?_
      refine tri_seq ?_
      refine tri_seq ?_
      refine tri_region ?_
      refine seq_pure (pure_move rfl) rfl rfl ?_
      refine seq_pure (pure_slnil_f rfl rfl rfl) rfl rfl ?_
      refine seq_done ?_
      refine nrm_seq ?_
      refine tri_cond_f rfl ?_
      refine tri_skip ?_
      refine nrm_seq ?_
      refine tri_seq ?_
      refine tri_region ?_
      (refine seq_step (step_buildSlice rfl rfl rfl (by omega) (by unfold maxLen; omega) rfl) rfl ?_; rintro _ ⟨b18, rfl⟩)
      refine seq_pure (pure_move rfl) rfl rfl ?_
      refine seq_pure (pure_append0 rfl rfl rfl (Nat.le_refl _)) rfl rfl ?_
      refine seq_pure (pure_assign rfl) rfl rfl ?_
      refine seq_done ?_
      refine nrm_seq ?_
      refine tri_ret ?_
      refine ret_own1 (res_tmp rfl) SubH.refl ?_
      exact ⟨rfl, _, _, rfl, rfl⟩
    · obtain ⟨b, o, full, he, hg, hv⟩ := hat.resolve_left (by omega)
      obtain rfl := Option.some.inj he
      refine tri_seq ?_
      refine tri_region ?_
      refine seq_pure (pure_assign rfl) rfl rfl ?_
      refine seq_done ?_
      refine nrm_seq ?_
      refine tri_seq ?_
      refine tri_seq ?_
      refine tri_region ?_
      refine seq_pure (pure_move rfl) rfl rfl ?_
      refine seq_pure (pure_slnil_f rfl rfl rfl) rfl rfl ?_
      refine seq_done ?_
      refine nrm_seq ?_
      refine tri_cond_f rfl ?_
      refine tri_skip ?_
      refine nrm_seq ?_
      refine tri_seq ?_
      refine tri_region ?_
      (refine seq_step (step_buildSlice rfl rfl rfl (by omega) (by unfold maxLen; omega) rfl) rfl ?_; rintro _ ⟨b18, rfl⟩)
      refine seq_pure (pure_move rfl) rfl rfl ?_
      refine seq_append rfl rfl rfl rfl rfl (fun _ _ => by repeat (first | exact Sw.here | apply Sw.there)) (at_im hg hv) (by omega) ho (by unfold maxLen; omega) (by omega) rfl (fun pn cn => ?_)
      refine seq_pure (pure_assign rfl) rfl rfl ?_
      refine seq_done ?_
      refine nrm_seq ?_
      refine tri_ret ?_
      refine ret_own1 (res_tmp rfl) SubH.refl ?_
      exact ⟨rfl, _, _, by rw [Nat.zero_add], by rw [Nat.zero_add]; rfl⟩
set_option maxHeartbeats 0 in
set_option maxRecDepth 100000 in
theorem paths_fn : ∀ (t : Tm) (path : List Int) (G : IM) (cells : List Value) (pp : Option Addr) (pc : Nat), RTm G t cells → Sl G pp path.length pc 1 (ints path) → path.length + tmCount t ≤ 4294967296 →
    Fn Try.prog 45 [.agg ⟨cells⟩, .slice pp path.length pc] [] G (Imm fun G' v => ∃ p c, v = .slice p (mPaths t path).length c ∧ RPs (Dif G' G) (mPaths t path) p c) := by
  refine Tm.ind fun k nm num ty fr lb ks ih path G cells pp pc hr hpath hcnt => ?_
  have hone := hr.one
  obtain ⟨tk, tks⟩ := ty
  obtain ⟨fk, fks⟩ := fr
  obtain ⟨pt, ct, pf, cf, p, cp, es, rfl, hk, hnum, hlb, hty, hfr, hsl, hkl⟩ := hr.open9
  rw [tmCount] at hcnt
  have hn := len_le_count ks
  refine fn_enter Try.func45 rfl Try.ntmps45 Try.results45 rfl ?_
  intro w0
  refine tri_seq ?_
  refine tri_region ?_
  (refine seq_step (step_box_a rfl rfl) rfl ?_; rintro _ ⟨b3, rfl⟩)
  refine seq_pure (pure_assign rfl) rfl rfl ?_
  refine seq_done ?_
  refine nrm_seq ?_
  refine tri_seq ?_
  refine tri_region ?_
  refine seq_pure (pure_move rfl) rfl rfl ?_
  (refine seq_own rfl (clone_int _ _ _ _ _ hpath (ints_one _) (by omega)) rfl rfl (fun v10 G10 outs10 hle10 h10 => ?_); obtain ⟨hG, p1, c1, rfl, rfl⟩ := h10; replace hG := hG.symm; subst hG)
  replace hpath := hpath.mono hle10
  replace hr := hr.mono hle10
  replace hty := hty.mono hle10
  replace hfr := hfr.mono hle10
  replace hsl := hsl.mono hle10
  replace hkl := hkl.mono hle10
  (refine triL_freeze (cs := ints path) (by repeat (first | exact Pk.here | apply Pk.there)) (fun G2 hle2 hsl2 hno2 => ?_); obtain ⟨hf1, hf2⟩ := SPs.first hsl2 hno2 hsl2.nn hle2; refine seq_step (step_buildSlice rfl rfl rfl (by omega) (by unfold maxLen; omega) rfl) rfl ?_; rintro _ ⟨b11, rfl⟩)
  refine seq_pure (pure_assign rfl) rfl rfl ?_
  refine seq_done ?_
  refine nrm_seq ?_
  refine tri_seq ?_
  refine tri_seq ?_
  refine tri_region ?_
  refine seq_pure (pure_fieldAddr0 rfl) rfl rfl ?_
  refine seq_load (load_bs rfl rfl (by repeat (first | exact List.Mem.head _ | apply List.Mem.tail)) (by rfl)) rfl rfl ?_
  refine seq_pure (pure_len rfl rfl) rfl rfl ?_
  refine seq_pure (pure_move rfl) rfl rfl ?_
  refine seq_done ?_
  refine nrm_seq ?_
  refine tri_block ?_
  (refine tri_loopN (fun (x : Nat × Option Addr × Nat × Nat × List Value × List Nat × IM) => ⟨[(14, .int .i64 x.1), (13, .int .i64 ks.length), (12, .slice p ks.length cp), (5, .slice x.2.1 x.2.2.1 x.2.2.2.1), (1, .slice pp path.length pc)], [.slc x.2.1 x.2.2.2.1 50 1 x.2.2.1 x.2.2.2.2.1], x.2.2.2.2.2.2⟩) (fun x => x.1 ≤ ks.length ∧ x.2.2.1 = tmCountL (ks.take x.1) + 1 ∧ IMle G x.2.2.2.2.2.2 ∧ SPs (Dif x.2.2.2.2.2.2 G) (path :: mPathsL (ks.take x.1) 0 path) x.2.2.2.2.1 x.2.2.2.2.2.1 ∧ x.2.2.2.2.2.1.Nodup) (fun x => ks.length - x.1) (0, some ⟨b11, 0, none⟩, 1, 1, [.slice p1 path.length c1], vfp p1, G2) ?_ ?_ ?_)
  · (simp only [flat_snoc]; exact sub_mk (by repeat (first | exact SubE.nil | refine SubE.cons rfl ?_)) (by repeat (first | exact SubH.refl | exact SubH.nil | refine SubH.cons (by repeat (first | exact Pk.here | apply Pk.there)) ?_ | apply SubH.drop)))
  · exact ⟨Nat.zero_le _, rfl, hle2, hf1, hf2⟩
  · (rintro ⟨i, pn, m, cn, es', F, Gi⟩ ⟨hi, hm, hleI, hst, hnd⟩; simp only [] at hi hm hleI hst hnd ⊢; replace hsl := hsl.mono hleI; replace hkl := hkl.mono hleI; replace hpath := hpath.mono hleI)
    refine tri_seq ?_
    refine tri_region ?_
    refine seq_bool (pure_lss rfl rfl) rfl rfl (fun h31 => ?_) (fun h31 => ?_)
    · refine seq_done ?_
      refine nrm_seq ?_
      refine tri_seq ?_
      refine tri_cond_t rfl ?_
      refine tri_skip ?_
      refine nrm_seq ?_
      refine tri_seq ?_
      refine tri_block ?_
      refine tri_seq ?_
      refine tri_region ?_
      refine seq_pure (pure_move rfl) rfl rfl ?_
      (obtain ⟨b, o, e, rfl, hl, hat, hre, hgb⟩ := hsl.kidTm hkl (i := i) (by omega) (by omega); have hone := hre.one; have htk := tmCountL_take (ks := ks) (i := i) (by omega); refine seq_pure (pure_indexAddrN rfl rfl rfl (by omega)) rfl rfl ?_)
      refine seq_load (load_a rfl rfl (hat _) hl) rfl rfl ?_
      (refine seq_step (step_alloc rfl) rfl ?_; rintro _ ⟨b45, rfl⟩)
      refine seq_pure (pure_assign rfl) rfl rfl ?_
      refine seq_store rfl rfl rfl (by assumption) (by assumption) rfl (by repeat (first | exact Sw.here | apply Sw.there)) (by exact upd_all (by symm; assumption)) ?_
      refine seq_done ?_
      refine nrm_seq ?_
      refine tri_draw mixed rfl ?_
      refine any_pure (i := 0) (listed' := [true, false, false, false, false, false, false, false, false, false]) rfl (by repeat (first | exact np_ret | apply np_seq | apply np_block | apply np_loopN')) (pure_move rfl) rfl (by kernel_rfl) rfl rfl ?_
      refine any_load (i := 1) (listed' := [true, true, false, false, false, false, false, false, false, false]) rfl (by repeat (first | exact np_ret | apply np_seq | apply np_block | apply np_loopN')) (load_a rfl rfl (at_blk_all (by repeat (first | exact List.Mem.head _ | apply List.Mem.tail))) (by assumption)) rfl (by kernel_rfl) rfl rfl ?_
      refine any_pure (i := 2) (listed' := [true, true, true, false, false, false, false, false, false, false]) rfl (by repeat (first | exact np_ret | apply np_seq | apply np_block | apply np_loopN')) (pure_move rfl) rfl (by kernel_rfl) rfl rfl ?_
      refine any_pure (i := 4) (listed' := [true, true, true, false, true, false, false, false, false, false]) rfl (by repeat (first | exact np_ret | apply np_seq | apply np_block | apply np_loopN')) (pure_move rfl) rfl (by kernel_rfl) rfl rfl ?_
      refine any_two (j := 3) (j' := 5) (by kernel_rfl) ?_ ?_
      · (refine one_own (listed' := [true, true, true, true, true, false, false, false, false, false]) rfl rfl (clone_int _ _ _ _ _ hpath (ints_one _) (by omega)) rfl rfl rfl (fun v56 G56 outs56 hle56 h56 => ?_); obtain ⟨hG, p1, c1, rfl, rfl⟩ := h56; replace hG := hG.symm; subst hG)
        replace hkl := hkl.mono hle56
        replace hpath := hpath.mono hle56
        replace hsl := hsl.mono hle56
        replace hre := hre.mono hle56
        refine any_one (j := 5) (by kernel_rfl) ?_
        (refine one_step0 (listed' := [true, true, true, true, true, true, false, false, false, false]) rfl (step_buildSlice rfl rfl rfl (by omega) (by unfold maxLen; omega) rfl) rfl rfl ?_; rintro _ ⟨b58, rfl⟩)
        refine any_one (j := 6) (by kernel_rfl) ?_
        (refine one_append (listed' := [true, true, true, true, true, true, true, false, false, false]) rfl rfl rfl rfl rfl rfl (fun _ _ => by repeat (first | exact Sw.here | apply Sw.there)) (at_slc_all (by repeat (first | exact List.Mem.head _ | apply List.Mem.tail))) rfl (by simp [Value.oneCell']) (by unfold maxLen; omega) (by omega) rfl rfl (by repeat (first | exact HmOk.nil | apply HmOk.dep (by decide +kernel) | apply HmOk.blk (by decide +kernel) (by repeat (first | exact Pk.here | apply Pk.there)) (by repeat (first | exact List.Mem.head _ | apply List.Mem.tail)))) (fun p4 c4 => ?_))
        (refine any_freeze (cs := ints path ++ [.int .i64 (i : Int)]) (by repeat (first | exact Pk.here | apply Pk.there)) (fun Gf hle61 hslf hnof => ?_); rw [← ints_snoc] at hslf; replace hre := hre.mono hle61; have hlef := hle61)
        replace hkl := hkl.mono hle61
        replace hpath := hpath.mono hle61
        replace hsl := hsl.mono hle61
        refine any_one (j := 7) (by kernel_rfl) ?_
        (have hih := ih ks[i] (List.getElem_mem (by omega)) (path ++ [(i : Int)]) Gf e p4 c4 hre; rw [show (path ++ [(i : Int)]).length = path.length + 1 from by simp] at hih; replace hih := hih hslf (by omega); refine one_imm (listed' := [true, true, true, true, true, true, true, true, false, false]) rfl rfl hih rfl rfl rfl (fun v G1 hle1 hh => ?_); obtain ⟨p5, c5, rfl, es5, F5, hsl5, hnb5, hsp5, hnd5⟩ := hh; have hm5 := mPaths_len ks[i] (path ++ [(i : Int)]); have hpos := tmCount_pos ks[i]; obtain ⟨hl5, hc5, hx5, hat5⟩ := hsl5; obtain ⟨b5, o5, full5, rfl, hg5, hv5⟩ := hat5.resolve_left (by omega))
        refine any_one (j := 8) (by kernel_rfl) ?_
        (refine one_append (listed' := [true, true, true, true, true, true, true, true, true, false]) rfl rfl rfl rfl rfl rfl (fun _ _ => by repeat (first | exact Sw.here | apply Sw.there)) (at_im (Dif.le _ _ _ _ hg5) hv5) hl5 hsp5.one (by unfold maxLen; omega) (by omega) rfl rfl (by repeat (first | exact HmOk.nil | apply HmOk.dep (by decide +kernel) | apply HmOk.blk (by decide +kernel) (by repeat (first | exact Pk.here | apply Pk.there)) (by repeat (first | exact List.Mem.head _ | apply List.Mem.tail)))) (fun p6 c6 => ?_))
        refine any_pure (i := 9) (listed' := [true, true, true, true, true, true, true, true, true, true]) rfl (by repeat (first | exact np_ret | apply np_seq | apply np_block | apply np_loopN')) (pure_assign rfl) rfl (by kernel_rfl) rfl rfl ?_
        refine any_done (by kernel_rfl) ?_
        refine nrm_block ?_
        refine nrm_seq ?_
        refine tri_region ?_
        refine seq_pure (pure_add rfl rfl (by omega) (by omega)) rfl rfl ?_
        refine seq_pure (pure_move rfl) rfl rfl ?_
        refine seq_done ?_
        (obtain ⟨q1, q2⟩ := SPs.step hst hnd hleI hlef hle1 hsp5 (List.nodup_append.1 hnd5).2.1; have hsu := tmCountL_succ (ks := ks) (i := i) (by omega); refine nrm_loopN (i + 1, p6, m + (mPaths ks[i] (path ++ [(i : Int)])).length, c6, es' ++ es5, F ++ F5, G1) ?_ ?_ ?_)
        · (simp only [flat_snoc]; exact sub_mk (by repeat (first | exact SubE.nil | refine SubE.cons rfl ?_)) (by repeat (first | exact SubH.refl | exact SubH.nil | refine SubH.cons (by repeat (first | exact Pk.here | apply Pk.there)) ?_ | apply SubH.drop)))
        · (dsimp only; exact ⟨by omega, by omega, (hleI.trans hlef).trans hle1, by rw [mPathsL_take (by omega)]; exact q1, q2⟩)
        · (show ks.length - (i + 1) < ks.length - i; omega)
      · (refine one_step0 (listed' := [true, true, true, false, true, true, false, false, false, false]) rfl (step_buildSlice rfl rfl rfl (by omega) (by unfold maxLen; omega) rfl) rfl rfl ?_; rintro _ ⟨b78, rfl⟩)
        refine any_one (j := 3) (by kernel_rfl) ?_
        (refine one_own (listed' := [true, true, true, true, true, true, false, false, false, false]) rfl rfl (clone_int _ _ _ _ _ hpath (ints_one _) (by omega)) rfl rfl rfl (fun v80 G80 outs80 hle80 h80 => ?_); obtain ⟨hG, p1, c1, rfl, rfl⟩ := h80; replace hG := hG.symm; subst hG)
        replace hkl := hkl.mono hle80
        replace hpath := hpath.mono hle80
        replace hsl := hsl.mono hle80
        replace hre := hre.mono hle80
        refine any_one (j := 6) (by kernel_rfl) ?_
        (refine one_append (listed' := [true, true, true, true, true, true, true, false, false, false]) rfl rfl rfl rfl rfl rfl (fun _ _ => by repeat (first | exact Sw.here | apply Sw.there)) (at_slc_all (by repeat (first | exact List.Mem.head _ | apply List.Mem.tail))) rfl (by simp [Value.oneCell']) (by unfold maxLen; omega) (by omega) rfl rfl (by repeat (first | exact HmOk.nil | apply HmOk.dep (by decide +kernel) | apply HmOk.blk (by decide +kernel) (by repeat (first | exact Pk.here | apply Pk.there)) (by repeat (first | exact List.Mem.head _ | apply List.Mem.tail)))) (fun p4 c4 => ?_))
        (refine any_freeze (cs := ints path ++ [.int .i64 (i : Int)]) (by repeat (first | exact Pk.here | apply Pk.there)) (fun Gf hle83 hslf hnof => ?_); rw [← ints_snoc] at hslf; replace hre := hre.mono hle83; have hlef := hle83)
        replace hkl := hkl.mono hle83
        replace hpath := hpath.mono hle83
        replace hsl := hsl.mono hle83
        refine any_one (j := 7) (by kernel_rfl) ?_
        (have hih := ih ks[i] (List.getElem_mem (by omega)) (path ++ [(i : Int)]) Gf e p4 c4 hre; rw [show (path ++ [(i : Int)]).length = path.length + 1 from by simp] at hih; replace hih := hih hslf (by omega); refine one_imm (listed' := [true, true, true, true, true, true, true, true, false, false]) rfl rfl hih rfl rfl rfl (fun v G1 hle1 hh => ?_); obtain ⟨p5, c5, rfl, es5, F5, hsl5, hnb5, hsp5, hnd5⟩ := hh; have hm5 := mPaths_len ks[i] (path ++ [(i : Int)]); have hpos := tmCount_pos ks[i]; obtain ⟨hl5, hc5, hx5, hat5⟩ := hsl5; obtain ⟨b5, o5, full5, rfl, hg5, hv5⟩ := hat5.resolve_left (by omega))
        refine any_one (j := 8) (by kernel_rfl) ?_
        (refine one_append (listed' := [true, true, true, true, true, true, true, true, true, false]) rfl rfl rfl rfl rfl rfl (fun _ _ => by repeat (first | exact Sw.here | apply Sw.there)) (at_im (Dif.le _ _ _ _ hg5) hv5) hl5 hsp5.one (by unfold maxLen; omega) (by omega) rfl rfl (by repeat (first | exact HmOk.nil | apply HmOk.dep (by decide +kernel) | apply HmOk.blk (by decide +kernel) (by repeat (first | exact Pk.here | apply Pk.there)) (by repeat (first | exact List.Mem.head _ | apply List.Mem.tail)))) (fun p6 c6 => ?_))
        refine any_pure (i := 9) (listed' := [true, true, true, true, true, true, true, true, true, true]) rfl (by repeat (first | exact np_ret | apply np_seq | apply np_block | apply np_loopN')) (pure_assign rfl) rfl (by kernel_rfl) rfl rfl ?_
        refine any_done (by kernel_rfl) ?_
        refine nrm_block ?_
        refine nrm_seq ?_
        refine tri_region ?_
        refine seq_pure (pure_add rfl rfl (by omega) (by omega)) rfl rfl ?_
        refine seq_pure (pure_move rfl) rfl rfl ?_
        refine seq_done ?_
        (obtain ⟨q1, q2⟩ := SPs.step hst hnd hleI hlef hle1 hsp5 (List.nodup_append.1 hnd5).2.1; have hsu := tmCountL_succ (ks := ks) (i := i) (by omega); refine nrm_loopN (i + 1, p6, m + (mPaths ks[i] (path ++ [(i : Int)])).length, c6, es' ++ es5, F ++ F5, G1) ?_ ?_ ?_)
        · (simp only [flat_snoc]; exact sub_mk (by repeat (first | exact SubE.nil | refine SubE.cons rfl ?_)) (by repeat (first | exact SubH.refl | exact SubH.nil | refine SubH.cons (by repeat (first | exact Pk.here | apply Pk.there)) ?_ | apply SubH.drop)))
        · (dsimp only; exact ⟨by omega, by omega, (hleI.trans hlef).trans hle1, by rw [mPathsL_take (by omega)]; exact q1, q2⟩)
        · (show ks.length - (i + 1) < ks.length - i; omega)
    · refine seq_done ?_
      refine nrm_seq ?_
      refine tri_seq ?_
      refine tri_cond_f rfl ?_
      refine tri_exit ?_
      refine ext_seq ?_
      refine ext_loopN ?_
      refine ext_block_eq ?_
      refine nrm_seq ?_
      refine tri_seq ?_
      refine tri_region ?_
      refine seq_pure (pure_move rfl) rfl rfl ?_
      refine seq_pure (pure_assign rfl) rfl rfl ?_
      refine seq_done ?_
      refine nrm_seq ?_
      (refine ret_freeze (by repeat (first | exact Pk.here | apply Pk.there)) (fun G3 hle3 hsl3 hno3 => ?_); obtain rfl : i = ks.length := by omega)
      refine tri_ret ?_
      refine ret_fin1 (res_tmp rfl) ?_
      (rw [List.take_length] at hst hm; have hfin := RPs.fin hst hnd hleI hle3 hsl3 (by rw [List.length_cons, mPathsL_len, hm]) hno3; exact ⟨rfl, pn, cn, by rw [mPaths_len, tmCount, hm], by rw [mPaths]; exact hfin⟩)
end Gw
end Go.Proofs.Ytlefgfdhlblahaa
namespace Go.Proofs.Ytlefgfdhlblahaa
open Go Go.RowKit
namespace Gw
set_option maxRecDepth 100000 in
theorem allPaths_fn (t : Tm) (G : IM) (cells : List Value) (hr : RTm G t cells) :
    Fn Try.prog 14 [.agg ⟨cells⟩] [] G (Imm fun G' v => ∃ p c, v = .slice p (mAll t).length c ∧ RPs (Dif G' G) (mAll t) p c) := by
  have hl := hr.len
  have hv := castValid_fn t G cells hr
  have hcnt := @castValid_count t
  refine fn_enter Try.func14 rfl Try.ntmps14 Try.results14 rfl ?_
  intro w0
  refine tri_seq ?_
  refine tri_region ?_
  (refine seq_step (step_box_a rfl rfl) rfl ?_; rintro _ ⟨b3, rfl⟩)
  refine seq_pure (pure_assign rfl) rfl rfl ?_
  refine seq_done ?_
  refine nrm_seq ?_
  refine tri_seq ?_
  refine tri_seq ?_
  refine tri_region ?_
  refine seq_load (load_a rfl rfl (at_blk_all (by repeat (first | exact List.Mem.head _ | apply List.Mem.tail))) (by assumption)) rfl rfl ?_
  refine seq_valb rfl (hv) rfl rfl (fun h11 => ?_) (fun h11 => ?_)
  · refine seq_pure (pure_not_t rfl) rfl rfl ?_
    refine seq_done ?_
    refine nrm_seq ?_
    refine tri_cond_f rfl ?_
    refine tri_skip ?_
    refine nrm_seq ?_
    refine tri_seq ?_
    refine tri_region ?_
    refine seq_load (load_a rfl rfl (at_blk_all (by repeat (first | exact List.Mem.head _ | apply List.Mem.tail))) (by assumption)) rfl rfl ?_
    (have hp := paths_fn t [] G cells none 0 hr (Sl.nil G 1) (by have := hcnt (by assumption); simp; omega); refine seq_imm rfl hp rfl rfl (fun v21 G21 hle21 hh => ?_); obtain ⟨p1, c1, rfl, hrp⟩ := hh)
    replace hr := hr.mono hle21
    refine seq_pure (pure_assign rfl) rfl rfl ?_
    refine seq_done ?_
    refine nrm_seq ?_
    refine tri_ret ?_
    refine ret_fin1 (res_tmp rfl) ?_
    (have hm : mAll t = mPaths t [] := if_pos (by assumption); rw [hm]; exact ⟨rfl, _, _, rfl, hrp⟩)
  · refine seq_pure (pure_not_f rfl) rfl rfl ?_
    refine seq_done ?_
    refine nrm_seq ?_
    refine tri_cond_t rfl ?_
    refine tri_seq ?_
    refine tri_region ?_
    refine seq_pure (pure_assign rfl) rfl rfl ?_
    refine seq_done ?_
    refine nrm_seq ?_
    refine tri_ret ?_
    refine ret_seq ?_
    refine ret_fin1 (res_tmp rfl) ?_
    (have hm : mAll t = [] := if_neg (by simp [*]); rw [hm]; exact ⟨rfl, _, _, rfl, RPs.nil _⟩)
end Gw
end Go.Proofs.Ytlefgfdhlblahaa
namespace Go.Proofs.Ytlefgfdhlblahaa
open Go Go.RowKit
namespace Gw
set_option maxHeartbeats 0 in
set_option maxRecDepth 100000 in
theorem l16Paths_fn : ∀ (t : Tm) (path : List Int) (G : IM) (cells : List Value) (pp : Option Addr) (pc : Nat) (pn : Option Addr) (m cn : Nat) (es0 : List Value), RTm G t cells → Sl G pp path.length pc 1 (ints path) → path.length + 2 * tmCount t + m ≤ 4294967296 →
    Fn Try.prog 49 [.slice pn m cn, .agg ⟨cells⟩, .slice pp path.length pc] [.slc pn cn 50 1 m es0] G
      (fun G' v outs => ∃ p' c' es F, v = .slice p' (m + tmCount t) c' ∧ outs = [.slc p' c' 50 1 (m + tmCount t) (es0 ++ es)] ∧ SPs (Dif G' G) (mPaths t path) es F ∧ F.Nodup) := by
  refine Tm.ind fun k nm num ty fr lb ks ih path G cells pp pc pn m cn es0 hr hpath hcnt => ?_
  have hone := hr.one
  obtain ⟨tk, tks⟩ := ty
  obtain ⟨fk, fks⟩ := fr
  obtain ⟨pt, ct, pf, cf, p, cp, es, rfl, hk, hnum, hlb, hty, hfr, hsl, hkl⟩ := hr.open9
  rw [tmCount] at hcnt
  have hn := len_le_count ks
  refine fn_enter Try.func49 rfl Try.ntmps49 Try.results49 rfl ?_
  intro w0
  refine tri_seq ?_
  refine tri_region ?_
  (refine seq_step (step_box_a rfl rfl) rfl ?_; rintro _ ⟨b3, rfl⟩)
  refine seq_pure (pure_assign rfl) rfl rfl ?_
  refine seq_done ?_
  refine nrm_seq ?_
  refine tri_seq ?_
  refine tri_region ?_
  refine seq_pure (pure_move rfl) rfl rfl ?_
  (refine seq_step (step_buildSlice rfl rfl rfl (by omega) (by unfold maxLen; omega) rfl) rfl ?_; rintro _ ⟨b10, rfl⟩)
  refine seq_pure (pure_move rfl) rfl rfl ?_
  (refine seq_appendSl rfl rfl rfl rfl rfl (fun _ _ => by repeat (first | exact Sw.here | apply Sw.there)) hpath (ints_one _) (Nat.zero_le _) (by unfold maxLen; omega) (by omega) rfl (fun p2 c2 => ?_); simp only [Nat.zero_add, List.nil_append]; refine triL_freeze (cs := ints path) (by repeat (first | exact Pk.here | apply Pk.there)) (fun G2 hle2 hsl2 hno2 => ?_); obtain ⟨hf1, hf2⟩ := SPs.first hsl2 hno2 hsl2.nn hle2)
  (refine seq_step (step_buildSlice rfl rfl rfl (by omega) (by unfold maxLen; omega) rfl) rfl ?_; rintro _ ⟨b13, rfl⟩)
  (refine seq_append rfl rfl rfl rfl rfl (fun _ _ => by repeat (first | exact Sw.here | apply Sw.there)) (at_slc_all (by repeat (first | exact List.Mem.head _ | apply List.Mem.tail))) rfl (by simp [Value.oneCell']) (by unfold maxLen; omega) (by omega) rfl (fun p3 c3 => ?_))
  refine seq_pure (pure_assign rfl) rfl rfl ?_
  refine seq_done ?_
  refine nrm_seq ?_
  refine tri_seq ?_
  refine tri_seq ?_
  refine tri_region ?_
  refine seq_pure (pure_assign rfl) rfl rfl ?_
  refine seq_done ?_
  refine nrm_seq ?_
  refine tri_block ?_
  (refine tri_loopN (fun (x : Nat × Option Addr × Nat × Nat × List Value × List Nat × IM) => ⟨[(7, .int .i64 x.1), (0, .slice x.2.1 (m + x.2.2.1) x.2.2.2.1), (4, .pointer (some ⟨b3, 0, none⟩)), (2, .slice pp path.length pc)], [.slc x.2.1 x.2.2.2.1 50 1 (m + x.2.2.1) (es0 ++ x.2.2.2.2.1), .blk b3 [.int .i64 k, .string nm, .int .i64 num, .int .i64 tk, .slice pt tks.length ct, .int .i64 fk, .slice pf fks.length cf, .int .i64 lb, .slice p ks.length cp]], x.2.2.2.2.2.2⟩) (fun x => x.1 ≤ ks.length ∧ x.2.2.1 = tmCountL (ks.take x.1) + 1 ∧ IMle G x.2.2.2.2.2.2 ∧ SPs (Dif x.2.2.2.2.2.2 G) (path :: mPathsL (ks.take x.1) 0 path) x.2.2.2.2.1 x.2.2.2.2.2.1 ∧ x.2.2.2.2.2.1.Nodup) (fun x => ks.length - x.1) (0, p3, 1, c3, [.slice p2 path.length c2], vfp p2, G2) ?_ ?_ ?_)
  · (simp only [flat_snoc]; exact sub_mk (by repeat (first | exact SubE.nil | refine SubE.cons rfl ?_)) (by repeat (first | exact SubH.refl | exact SubH.nil | refine SubH.cons (by repeat (first | exact Pk.here | apply Pk.there)) ?_ | apply SubH.drop)))
  · exact ⟨Nat.zero_le _, rfl, hle2, hf1, hf2⟩
  · (rintro ⟨i, pn', m', cn', es', F, Gi⟩ ⟨hi, hm, hleI, hst, hnd⟩; simp only [] at hi hm hleI hst hnd ⊢; replace hsl := hsl.mono hleI; replace hkl := hkl.mono hleI; replace hpath := hpath.mono hleI)
    refine tri_seq ?_
    refine tri_seq ?_
    refine tri_region ?_
    refine seq_pure (pure_move rfl) rfl rfl ?_
    refine seq_pure (pure_fieldAddr0 rfl) rfl rfl ?_
    refine seq_load (load_bs rfl rfl (by repeat (first | exact List.Mem.head _ | apply List.Mem.tail)) (by rfl)) rfl rfl ?_
    refine seq_pure (pure_len rfl rfl) rfl rfl ?_
    refine seq_bool (pure_lss rfl rfl) rfl rfl (fun h36 => ?_) (fun h36 => ?_)
    · refine seq_done ?_
      refine nrm_seq ?_
      refine tri_cond_t rfl ?_
      refine tri_skip ?_
      refine nrm_seq ?_
      refine tri_seq ?_
      refine tri_block ?_
      (obtain ⟨b, o, e, rfl, hl, hat, hre, hgb⟩ := hsl.kidTm hkl (i := i) (by omega) (by omega); have hone := hre.one; have htk := tmCountL_take (ks := ks) (i := i) (by omega); refine tri_draw mixed rfl ?_)
      refine any_pure (i := 0) (listed' := [true, false, false, false, false, false, false, false, false, false, false, false, false, false]) rfl (by repeat (first | exact np_ret | apply np_seq | apply np_block | apply np_loopN')) (pure_move rfl) rfl (by kernel_rfl) rfl rfl ?_
      refine any_pure (i := 1) (listed' := [true, true, false, false, false, false, false, false, false, false, false, false, false, false]) rfl (by repeat (first | exact np_ret | apply np_seq | apply np_block | apply np_loopN')) (pure_fieldAddr0 rfl) rfl (by kernel_rfl) rfl rfl ?_
      refine any_load (i := 2) (listed' := [true, true, true, false, false, false, false, false, false, false, false, false, false, false]) rfl (by repeat (first | exact np_ret | apply np_seq | apply np_block | apply np_loopN')) (load_bs rfl rfl (by repeat (first | exact List.Mem.head _ | apply List.Mem.tail)) (by rfl)) rfl (by kernel_rfl) rfl rfl ?_
      refine any_pure (i := 3) (listed' := [true, true, true, true, false, false, false, false, false, false, false, false, false, false]) rfl (by repeat (first | exact np_ret | apply np_seq | apply np_block | apply np_loopN')) (pure_move rfl) rfl (by kernel_rfl) rfl rfl ?_
      refine any_pure (i := 4) (listed' := [true, true, true, true, true, false, false, false, false, false, false, false, false, false]) rfl (by repeat (first | exact np_ret | apply np_seq | apply np_block | apply np_loopN')) (pure_indexAddrN rfl rfl rfl (by omega)) rfl (by kernel_rfl) rfl rfl ?_
      refine any_load (i := 5) (listed' := [true, true, true, true, true, true, false, false, false, false, false, false, false, false]) rfl (by repeat (first | exact np_ret | apply np_seq | apply np_block | apply np_loopN')) (load_a rfl rfl (hat _) hl) rfl (by kernel_rfl) rfl rfl ?_
      refine any_pure (i := 7) (listed' := [true, true, true, true, true, true, false, true, false, false, false, false, false, false]) rfl (by repeat (first | exact np_ret | apply np_seq | apply np_block | apply np_loopN')) (pure_move rfl) rfl (by kernel_rfl) rfl rfl ?_
      refine any_pure (i := 9) (listed' := [true, true, true, true, true, true, false, true, false, true, false, false, false, false]) rfl (by repeat (first | exact np_ret | apply np_seq | apply np_block | apply np_loopN')) (pure_move rfl) rfl (by kernel_rfl) rfl rfl ?_
      refine any_two (j := 6) (j' := 10) (by kernel_rfl) ?_ ?_
      · (refine one_step0 (listed' := [true, true, true, true, true, true, true, true, false, true, false, false, false, false]) rfl (step_buildSlice rfl rfl rfl (by omega) (by unfold maxLen; omega) rfl) rfl rfl ?_; rintro _ ⟨b54, rfl⟩)
        refine any_two (j := 8) (j' := 10) (by kernel_rfl) ?_ ?_
        · (refine one_appendSl (listed' := [true, true, true, true, true, true, true, true, true, true, false, false, false, false]) rfl rfl rfl rfl rfl rfl (fun _ _ => by repeat (first | exact Sw.here | apply Sw.there)) hpath (ints_one _) (Nat.zero_le _) (by unfold maxLen; omega) (by omega) rfl rfl (by repeat (first | exact HmOk.nil | apply HmOk.dep (by decide +kernel) | apply HmOk.im (by decide +kernel) hgb (by repeat (first | exact List.Mem.head _ | apply List.Mem.tail)) | apply HmOk.blk (by decide +kernel) (by repeat (first | exact Pk.here | apply Pk.there)) (by repeat (first | exact List.Mem.head _ | apply List.Mem.tail)))) (fun p4 c4 => ?_); simp only [Nat.zero_add, List.nil_append])
          refine any_one (j := 10) (by kernel_rfl) ?_
          (refine one_step0 (listed' := [true, true, true, true, true, true, true, true, true, true, true, false, false, false]) rfl (step_buildSlice rfl rfl rfl (by omega) (by unfold maxLen; omega) rfl) rfl rfl ?_; rintro _ ⟨b58, rfl⟩)
          refine any_one (j := 11) (by kernel_rfl) ?_
          (refine one_append (listed' := [true, true, true, true, true, true, true, true, true, true, true, true, false, false]) rfl rfl rfl rfl rfl rfl (fun _ _ => by repeat (first | exact Sw.here | apply Sw.there)) (at_slc_all (by repeat (first | exact List.Mem.head _ | apply List.Mem.tail))) rfl (by simp [Value.oneCell']) (by unfold maxLen; omega) (by omega) rfl rfl (by repeat (first | exact HmOk.nil | apply HmOk.dep (by decide +kernel) | apply HmOk.im (by decide +kernel) hgb (by repeat (first | exact List.Mem.head _ | apply List.Mem.tail)) | apply HmOk.blk (by decide +kernel) (by repeat (first | exact Pk.here | apply Pk.there)) (by repeat (first | exact List.Mem.head _ | apply List.Mem.tail)))) (fun p5 c5 => ?_))
          (refine any_freeze (cs := ints path ++ [.int .i64 (i : Int)]) (by repeat (first | exact Pk.here | apply Pk.there)) (fun Gf hle61 hslf hnof => ?_); rw [← ints_snoc] at hslf; replace hre := hre.mono hle61; have hlef := hle61)
          replace hkl := hkl.mono hle61
          replace hpath := hpath.mono hle61
          replace hsl := hsl.mono hle61
          refine any_one (j := 12) (by kernel_rfl) ?_
          (have hih := ih ks[i] (List.getElem_mem (by omega)) (path ++ [(i : Int)]) Gf e p5 c5 pn' (m + m') cn' (es0 ++ es') hre; rw [show (path ++ [(i : Int)]).length = path.length + 1 from by simp] at hih; replace hih := hih hslf (by omega); refine one_take (listed' := [true, true, true, true, true, true, true, true, true, true, true, true, true, false]) rfl rfl hih (Pk.perm (by repeat (first | exact Pk.here | apply Pk.there))) rfl rfl rfl (by repeat (first | exact HmOk.nil | apply HmOk.dep (by decide +kernel))) (fun v G1 outs hle1 hh => ?_); obtain ⟨p6, c6, es6, F6, rfl, rfl, hsp6, hnd6⟩ := hh; rw [show m + m' + tmCount ks[i] = m + (m' + tmCount ks[i]) from Nat.add_assoc _ _ _, List.append_assoc es0])
          refine any_pure (i := 13) (listed' := [true, true, true, true, true, true, true, true, true, true, true, true, true, true]) rfl (by repeat (first | exact np_ret | apply np_seq | apply np_block | apply np_loopN')) (pure_assign rfl) rfl (by kernel_rfl) rfl rfl ?_
          refine any_done (by kernel_rfl) ?_
          refine nrm_block ?_
          refine nrm_seq ?_
          refine tri_region ?_
          refine seq_pure (pure_move rfl) rfl rfl ?_
          refine seq_pure (pure_add rfl rfl (by omega) (by omega)) rfl rfl ?_
          refine seq_pure (pure_assign rfl) rfl rfl ?_
          refine seq_done ?_
          (obtain ⟨q1, q2⟩ := SPs.step hst hnd hleI hlef hle1 hsp6 hnd6; have hsu := tmCountL_succ (ks := ks) (i := i) (by omega); refine nrm_loopN (i + 1, p6, m' + tmCount ks[i], c6, es' ++ es6, F ++ F6, G1) ?_ ?_ ?_)
          · (simp only [flat_snoc]; exact sub_mk (by repeat (first | exact SubE.nil | refine SubE.cons rfl ?_)) (by repeat (first | exact SubH.refl | exact SubH.nil | refine SubH.cons (by repeat (first | exact Pk.here | apply Pk.there)) ?_ | apply SubH.drop)))
          · (dsimp only; exact ⟨by omega, by omega, (hleI.trans hlef).trans hle1, by rw [mPathsL_take (by omega)]; exact q1, q2⟩)
          · (show ks.length - (i + 1) < ks.length - i; omega)
        · (refine one_step0 (listed' := [true, true, true, true, true, true, true, true, false, true, true, false, false, false]) rfl (step_buildSlice rfl rfl rfl (by omega) (by unfold maxLen; omega) rfl) rfl rfl ?_; rintro _ ⟨b77, rfl⟩)
          refine any_one (j := 8) (by kernel_rfl) ?_
          (refine one_appendSl (listed' := [true, true, true, true, true, true, true, true, true, true, true, false, false, false]) rfl rfl rfl rfl rfl rfl (fun _ _ => by repeat (first | exact Sw.here | apply Sw.there)) hpath (ints_one _) (Nat.zero_le _) (by unfold maxLen; omega) (by omega) rfl rfl (by repeat (first | exact HmOk.nil | apply HmOk.dep (by decide +kernel) | apply HmOk.im (by decide +kernel) hgb (by repeat (first | exact List.Mem.head _ | apply List.Mem.tail)) | apply HmOk.blk (by decide +kernel) (by repeat (first | exact Pk.here | apply Pk.there)) (by repeat (first | exact List.Mem.head _ | apply List.Mem.tail)))) (fun p4 c4 => ?_); simp only [Nat.zero_add, List.nil_append])
          refine any_one (j := 11) (by kernel_rfl) ?_
          (refine one_append (listed' := [true, true, true, true, true, true, true, true, true, true, true, true, false, false]) rfl rfl rfl rfl rfl rfl (fun _ _ => by repeat (first | exact Sw.here | apply Sw.there)) (at_slc_all (by repeat (first | exact List.Mem.head _ | apply List.Mem.tail))) rfl (by simp [Value.oneCell']) (by unfold maxLen; omega) (by omega) rfl rfl (by repeat (first | exact HmOk.nil | apply HmOk.dep (by decide +kernel) | apply HmOk.im (by decide +kernel) hgb (by repeat (first | exact List.Mem.head _ | apply List.Mem.tail)) | apply HmOk.blk (by decide +kernel) (by repeat (first | exact Pk.here | apply Pk.there)) (by repeat (first | exact List.Mem.head _ | apply List.Mem.tail)))) (fun p5 c5 => ?_))
          (refine any_freeze (cs := ints path ++ [.int .i64 (i : Int)]) (by repeat (first | exact Pk.here | apply Pk.there)) (fun Gf hle82 hslf hnof => ?_); rw [← ints_snoc] at hslf; replace hre := hre.mono hle82; have hlef := hle82)
          replace hkl := hkl.mono hle82
          replace hpath := hpath.mono hle82
          replace hsl := hsl.mono hle82
          refine any_one (j := 12) (by kernel_rfl) ?_
          (have hih := ih ks[i] (List.getElem_mem (by omega)) (path ++ [(i : Int)]) Gf e p5 c5 pn' (m + m') cn' (es0 ++ es') hre; rw [show (path ++ [(i : Int)]).length = path.length + 1 from by simp] at hih; replace hih := hih hslf (by omega); refine one_take (listed' := [true, true, true, true, true, true, true, true, true, true, true, true, true, false]) rfl rfl hih (Pk.perm (by repeat (first | exact Pk.here | apply Pk.there))) rfl rfl rfl (by repeat (first | exact HmOk.nil | apply HmOk.dep (by decide +kernel))) (fun v G1 outs hle1 hh => ?_); obtain ⟨p6, c6, es6, F6, rfl, rfl, hsp6, hnd6⟩ := hh; rw [show m + m' + tmCount ks[i] = m + (m' + tmCount ks[i]) from Nat.add_assoc _ _ _, List.append_assoc es0])
          refine any_pure (i := 13) (listed' := [true, true, true, true, true, true, true, true, true, true, true, true, true, true]) rfl (by repeat (first | exact np_ret | apply np_seq | apply np_block | apply np_loopN')) (pure_assign rfl) rfl (by kernel_rfl) rfl rfl ?_
          refine any_done (by kernel_rfl) ?_
          refine nrm_block ?_
          refine nrm_seq ?_
          refine tri_region ?_
          refine seq_pure (pure_move rfl) rfl rfl ?_
          refine seq_pure (pure_add rfl rfl (by omega) (by omega)) rfl rfl ?_
          refine seq_pure (pure_assign rfl) rfl rfl ?_
          refine seq_done ?_
          (obtain ⟨q1, q2⟩ := SPs.step hst hnd hleI hlef hle1 hsp6 hnd6; have hsu := tmCountL_succ (ks := ks) (i := i) (by omega); refine nrm_loopN (i + 1, p6, m' + tmCount ks[i], c6, es' ++ es6, F ++ F6, G1) ?_ ?_ ?_)
          · (simp only [flat_snoc]; exact sub_mk (by repeat (first | exact SubE.nil | refine SubE.cons rfl ?_)) (by repeat (first | exact SubH.refl | exact SubH.nil | refine SubH.cons (by repeat (first | exact Pk.here | apply Pk.there)) ?_ | apply SubH.drop)))
          · (dsimp only; exact ⟨by omega, by omega, (hleI.trans hlef).trans hle1, by rw [mPathsL_take (by omega)]; exact q1, q2⟩)
          · (show ks.length - (i + 1) < ks.length - i; omega)
      · (refine one_step0 (listed' := [true, true, true, true, true, true, false, true, false, true, true, false, false, false]) rfl (step_buildSlice rfl rfl rfl (by omega) (by unfold maxLen; omega) rfl) rfl rfl ?_; rintro _ ⟨b98, rfl⟩)
        refine any_one (j := 6) (by kernel_rfl) ?_
        (refine one_step0 (listed' := [true, true, true, true, true, true, true, true, false, true, true, false, false, false]) rfl (step_buildSlice rfl rfl rfl (by omega) (by unfold maxLen; omega) rfl) rfl rfl ?_; rintro _ ⟨b100, rfl⟩)
        refine any_one (j := 8) (by kernel_rfl) ?_
        (refine one_appendSl (listed' := [true, true, true, true, true, true, true, true, true, true, true, false, false, false]) rfl rfl rfl rfl rfl rfl (fun _ _ => by repeat (first | exact Sw.here | apply Sw.there)) hpath (ints_one _) (Nat.zero_le _) (by unfold maxLen; omega) (by omega) rfl rfl (by repeat (first | exact HmOk.nil | apply HmOk.dep (by decide +kernel) | apply HmOk.im (by decide +kernel) hgb (by repeat (first | exact List.Mem.head _ | apply List.Mem.tail)) | apply HmOk.blk (by decide +kernel) (by repeat (first | exact Pk.here | apply Pk.there)) (by repeat (first | exact List.Mem.head _ | apply List.Mem.tail)))) (fun p4 c4 => ?_); simp only [Nat.zero_add, List.nil_append])
        refine any_one (j := 11) (by kernel_rfl) ?_
        (refine one_append (listed' := [true, true, true, true, true, true, true, true, true, true, true, true, false, false]) rfl rfl rfl rfl rfl rfl (fun _ _ => by repeat (first | exact Sw.here | apply Sw.there)) (at_slc_all (by repeat (first | exact List.Mem.head _ | apply List.Mem.tail))) rfl (by simp [Value.oneCell']) (by unfold maxLen; omega) (by omega) rfl rfl (by repeat (first | exact HmOk.nil | apply HmOk.dep (by decide +kernel) | apply HmOk.im (by decide +kernel) hgb (by repeat (first | exact List.Mem.head _ | apply List.Mem.tail)) | apply HmOk.blk (by decide +kernel) (by repeat (first | exact Pk.here | apply Pk.there)) (by repeat (first | exact List.Mem.head _ | apply List.Mem.tail)))) (fun p5 c5 => ?_))
        (refine any_freeze (cs := ints path ++ [.int .i64 (i : Int)]) (by repeat (first | exact Pk.here | apply Pk.there)) (fun Gf hle105 hslf hnof => ?_); rw [← ints_snoc] at hslf; replace hre := hre.mono hle105; have hlef := hle105)
        replace hkl := hkl.mono hle105
        replace hpath := hpath.mono hle105
        replace hsl := hsl.mono hle105
        refine any_one (j := 12) (by kernel_rfl) ?_
        (have hih := ih ks[i] (List.getElem_mem (by omega)) (path ++ [(i : Int)]) Gf e p5 c5 pn' (m + m') cn' (es0 ++ es') hre; rw [show (path ++ [(i : Int)]).length = path.length + 1 from by simp] at hih; replace hih := hih hslf (by omega); refine one_take (listed' := [true, true, true, true, true, true, true, true, true, true, true, true, true, false]) rfl rfl hih (Pk.perm (by repeat (first | exact Pk.here | apply Pk.there))) rfl rfl rfl (by repeat (first | exact HmOk.nil | apply HmOk.dep (by decide +kernel))) (fun v G1 outs hle1 hh => ?_); obtain ⟨p6, c6, es6, F6, rfl, rfl, hsp6, hnd6⟩ := hh; rw [show m + m' + tmCount ks[i] = m + (m' + tmCount ks[i]) from Nat.add_assoc _ _ _, List.append_assoc es0])
        refine any_pure (i := 13) (listed' := [true, true, true, true, true, true, true, true, true, true, true, true, true, true]) rfl (by repeat (first | exact np_ret | apply np_seq | apply np_block | apply np_loopN')) (pure_assign rfl) rfl (by kernel_rfl) rfl rfl ?_
        refine any_done (by kernel_rfl) ?_
        refine nrm_block ?_
        refine nrm_seq ?_
        refine tri_region ?_
        refine seq_pure (pure_move rfl) rfl rfl ?_
        refine seq_pure (pure_add rfl rfl (by omega) (by omega)) rfl rfl ?_
        refine seq_pure (pure_assign rfl) rfl rfl ?_
        refine seq_done ?_
        (obtain ⟨q1, q2⟩ := SPs.step hst hnd hleI hlef hle1 hsp6 hnd6; have hsu := tmCountL_succ (ks := ks) (i := i) (by omega); refine nrm_loopN (i + 1, p6, m' + tmCount ks[i], c6, es' ++ es6, F ++ F6, G1) ?_ ?_ ?_)
        · (simp only [flat_snoc]; exact sub_mk (by repeat (first | exact SubE.nil | refine SubE.cons rfl ?_)) (by repeat (first | exact SubH.refl | exact SubH.nil | refine SubH.cons (by repeat (first | exact Pk.here | apply Pk.there)) ?_ | apply SubH.drop)))
        · (dsimp only; exact ⟨by omega, by omega, (hleI.trans hlef).trans hle1, by rw [mPathsL_take (by omega)]; exact q1, q2⟩)
        · (show ks.length - (i + 1) < ks.length - i; omega)
    · refine seq_done ?_
      refine nrm_seq ?_
      refine tri_cond_f rfl ?_
      refine tri_exit ?_
      refine ext_seq ?_
      refine ext_loopN ?_
      refine ext_block_eq ?_
      refine nrm_seq ?_
      refine tri_seq ?_
      refine tri_region ?_
      refine seq_pure (pure_move rfl) rfl rfl ?_
      refine seq_pure (pure_assign rfl) rfl rfl ?_
      refine seq_done ?_
      refine nrm_seq ?_
      refine tri_ret ?_
      (obtain rfl : i = ks.length := (by omega); refine ret_own1 (res_tmp rfl) (SubH.cons Pk.here SubH.nil) ?_)
      (rw [List.take_length] at hst hm; subst hm; rw [tmCount, mPaths]; exact ⟨pn', cn', es', F, rfl, rfl, hst, hnd⟩)
end Gw
end Go.Proofs.Ytlefgfdhlblahaa
namespace Go.Proofs.Ytlefgfdhlblahaa
open Go Go.RowKit
namespace Gw
set_option maxRecDepth 100000 in
theorem sAllPaths_fn (t : Tm) (G : IM) (cells : List Value) (hcnt : tmCount t ≤ 4294967296) (hr : RTm G t cells) :
    Fn Try.prog 17 [.agg ⟨cells⟩] [] G (Imm fun G' v => ∃ p c, v = .slice p (mAll t).length c ∧ RPs (Dif G' G) (mAll t) p c) := by
  have hl := hr.len
  have hv := sCastValid_fn t G cells hcnt hr
  have hcnt := @castValid_count t
  refine fn_enter Try.func17 rfl Try.ntmps17 Try.results17 rfl ?_
  intro w0
  refine tri_seq ?_
  refine tri_region ?_
  (refine seq_step (step_box_a rfl rfl) rfl ?_; rintro _ ⟨b3, rfl⟩)
  refine seq_pure (pure_assign rfl) rfl rfl ?_
  refine seq_done ?_
  refine nrm_seq ?_
  refine tri_seq ?_
  refine tri_seq ?_
  refine tri_region ?_
  refine seq_load (load_a rfl rfl (at_blk_all (by repeat (first | exact List.Mem.head _ | apply List.Mem.tail))) (by assumption)) rfl rfl ?_
  refine seq_valb rfl (hv) rfl rfl (fun h11 => ?_) (fun h11 => ?_)
  · refine seq_pure (pure_not_t rfl) rfl rfl ?_
    refine seq_done ?_
    refine nrm_seq ?_
    refine tri_cond_f rfl ?_
    refine tri_skip ?_
    refine nrm_seq ?_
    refine tri_seq ?_
    refine tri_region ?_
    (refine seq_step (step_buildSlice rfl rfl rfl (by omega) (by unfold maxLen; omega) rfl) rfl ?_; rintro _ ⟨bq, rfl⟩)
    refine seq_load (load_a rfl rfl (at_blk_all (by repeat (first | exact List.Mem.head _ | apply List.Mem.tail))) (by assumption)) rfl rfl ?_
    (have hih := l16Paths_fn t [] G cells none 0 (some ⟨bq, 0, none⟩) 0 0 [] hr (Sl.nil G 1) (by have := hcnt (by assumption); simp; omega); refine seq_step (step_call_own rfl hih (Pk.perm (by repeat (first | exact Pk.here | apply Pk.there))) rfl) rfl ?_; rintro _ ⟨v, G1, outs, rfl, hle1, hh⟩; obtain ⟨p6, c6, es6, F6, rfl, rfl, hsp6, hnd6⟩ := hh; simp only [List.nil_append, Nat.zero_add])
    refine seq_pure (pure_assign rfl) rfl rfl ?_
    refine seq_done ?_
    refine nrm_seq ?_
    (refine ret_freeze (by repeat (first | exact Pk.here | apply Pk.there)) (fun G3 hle3 hsl3 hno3 => ?_))
    refine tri_ret ?_
    refine ret_fin1 (res_tmp rfl) ?_
    (have hm : mAll t = mPaths t [] := if_pos (by assumption); rw [hm]; have hfin := RPs.fin hsp6 hnd6 hle1 hle3 hsl3 (by rw [mPaths_len]) hno3; exact ⟨rfl, p6, c6, by rw [mPaths_len], hfin⟩)
  · refine seq_pure (pure_not_f rfl) rfl rfl ?_
    refine seq_done ?_
    refine nrm_seq ?_
    refine tri_cond_t rfl ?_
    refine tri_seq ?_
    refine tri_region ?_
    (refine seq_step (step_buildSlice rfl rfl rfl (by omega) (by unfold maxLen; omega) rfl) rfl ?_; rintro _ ⟨bq, rfl⟩)
    refine seq_pure (pure_assign rfl) rfl rfl ?_
    refine seq_done ?_
    refine nrm_seq ?_
    (refine ret_freeze (by repeat (first | exact Pk.here | apply Pk.there)) (fun G3 hle3 hsl3 hno3 => ?_))
    refine tri_ret ?_
    refine ret_seq ?_
    refine ret_fin1 (res_tmp rfl) ?_
    (have hm : mAll t = [] := if_neg (by simp [*]); rw [hm]; exact ⟨rfl, _, _, rfl, RPs.fin (Gi := G) (es := []) (F := []) ⟨rfl, rfl⟩ (by simp) (IMle.refl _) hle3 hsl3 rfl hno3⟩)
end Gw
end Go.Proofs.Ytlefgfdhlblahaa
namespace Go.Proofs.Ytlefgfdhlblahaa
open Go Go.RowKit
namespace Gw
theorem none_le {G G' : IM} (h : IMle G G') {b : Nat} (hb : G' b = none) : G b = none := by
  cases hg : G b with
  | none => rfl
  | some l => rw [h b l hg] at hb; cases hb
theorem dif_none {G G' : IM} {b : Nat} (h : G b ≠ none) : Dif G' G b = none := by
  cases hd : Dif G' G b with
  | none => rfl
  | some l => exact absurd (Dif.out (by rw [hd]; simp)) h
/-- What is wanted for taking fresh blocks back. -/
theorem thaw_hyp {G0 Ga Gb Gc : IM} {bs : Blks} {F : List Nat} (hi : InG (Dif Gb Ga) bs F) (hn : F.Nodup) (h0 : IMle G0 Ga) (hc : IMle (Dif Gb Ga) Gc) :
    (bs.map Prod.fst).Nodup ∧ (∀ q ∈ bs, Gc q.1 = some q.2 ∧ G0 q.1 = none) ∧ (∀ b ∈ bs.map Prod.fst, Ga b = none ∧ Gb b ≠ none) := by
  have key : ∀ q ∈ bs, Ga q.1 = none ∧ Gb q.1 = some q.2 := fun q hq => ⟨Dif.out (by rw [hi.2 q hq]; simp), Dif.le _ _ _ _ (hi.2 q hq)⟩
  refine ⟨hn.sublist hi.1, fun q hq => ⟨hc _ _ (hi.2 q hq), none_le h0 (key q hq).1⟩, fun b hb => ?_⟩
  obtain ⟨q, hq, rfl⟩ := List.mem_map.1 hb
  exact ⟨(key q hq).1, by rw [(key q hq).2]; simp⟩
theorem Sl.wo {G : IM} {F : List Nat} {p : Option Addr} {n c sz : Nat} {cs : List Value} (h : Sl G p n c sz cs) (hF : ∀ b ∈ vfp p, b ∉ F) : Sl (Wo G F) p n c sz cs := by
  obtain ⟨h1, h2, h3, h4⟩ := h
  refine ⟨h1, h2, h3, h4.imp id ?_⟩
  rintro ⟨b, o, full, rfl, e2, e3⟩
  exact ⟨b, o, full, rfl, by rw [Wo.at (hF b (by simp [vfp]))]; exact e2, e3⟩
section forget
variable {P : Program} {Γ : Ctx} {env : Env} {hp : List Ent} {G : IM} {K : Po} {ops : Array Oper} {rest : List Oper} {ty : TypeId} {pos : String} {af : Array Edge} {gd : Option (Nat × Bool)}
theorem triL_forget {A B : List Ent} (k : TriL P Γ ops rest K ⟨env, B, G⟩) : TriL P Γ ops rest K ⟨env, A ++ B, G⟩ :=
  ⟨fun a w hs => k.run a w ⟨hs.size, hs.nod, hs.env, (hs.res.perm List.perm_append_comm).left⟩⟩
/-- A call that is lent taken-back blocks; they are forgotten behind it. -/
theorem seq_lend_x {d : Nat} {f : FuncId} [hF : FunI P f] {xs : List Operand} {ats : Array TypeId} {vs : List Value} {v0 : Value} {Φ : Blks → Prop} {bs : Blks} (hn : (bs.map Prod.fst).Nodup) (hg : ∀ q ∈ bs, G q.1 = some q.2 ∧ Γ.G0 q.1 = none)
    (hx : evl env xs = some vs) (h : Fn P f vs (blks bs) (Wo G (bs.map Prod.fst)) (Lent v0 (Wo G (bs.map Prod.fst)) Φ)) (hw : wantG ops env gd = some true) (hd : Nat.blt d Γ.n = true)
    (k : TriL P Γ ops rest K ⟨(d, v0) :: env, hp, Wo G (bs.map Prod.fst)⟩) : TriL P Γ ops (⟨some d, .call ⟨.value (.func f), ⟨xs⟩, ats⟩, ty, pos, af, gd⟩ :: rest) K ⟨env, hp, G⟩ := by
  refine triL_thaw bs hn hg ?_
  refine seq_step (step_call_own hx h (List.Perm.refl _) hd) hw ?_
  rintro _ ⟨v, G', outs, rfl, _, rfl, rfl, bs', rfl, hΦ⟩
  exact triL_forget k
/-- A call that is lent taken-back blocks; they are given up again behind it. -/
theorem seq_lend_f {d : Nat} {f : FuncId} [hF : FunI P f] {xs : List Operand} {ats : Array TypeId} {vs : List Value} {v0 : Value} {Φ : Blks → Prop} {bs : Blks} (hn : (bs.map Prod.fst).Nodup) (hg : ∀ q ∈ bs, G q.1 = some q.2 ∧ Γ.G0 q.1 = none)
    (hx : evl env xs = some vs) (h : Fn P f vs (blks bs) (Wo G (bs.map Prod.fst)) (Lent v0 (Wo G (bs.map Prod.fst)) Φ)) (hw : wantG ops env gd = some true) (hd : Nat.blt d Γ.n = true)
    (k : ∀ bs' G', Φ bs' → IMle (Wo G (bs.map Prod.fst)) G' → (∀ q ∈ bs', G' q.1 = some q.2) → TriL P Γ ops rest K ⟨(d, v0) :: env, hp, G'⟩) : TriL P Γ ops (⟨some d, .call ⟨.value (.func f), ⟨xs⟩, ats⟩, ty, pos, af, gd⟩ :: rest) K ⟨env, hp, G⟩ := by
  refine triL_thaw bs hn hg ?_
  refine seq_step (step_call_own hx h (List.Perm.refl _) hd) hw ?_
  rintro _ ⟨v, G', outs, rfl, _, rfl, rfl, bs', rfl, hΦ⟩
  exact triL_freezes (List.Perm.refl _) fun h1 h2 h3 => k bs' _ hΦ h3 fun q hq => Wi.in h1 hq
end forget
set_option maxHeartbeats 0 in
set_option maxRecDepth 100000 in
theorem exactAllPaths_fn (t : Tm) (G : IM) (cells : List Value) (hno : t.nok) (hr : RTm G t cells) :
    Fn Try.prog 4 [.agg ⟨cells⟩] [] G (Imm fun _ v => v = .bool true) := by
  have hl := hr.len
  have hone := hr.one
  have hz := szTerm_fn t 1048576 G cells (by omega) (by omega) hno hr
  have hzn := szTm_nn t
  have hcs := count_sz t
  have hms := marks_sz t
  have hmc := mAll_cnt t
  have hmn := cntIs_nn (mAll t)
  have hm1 := cntTyL_nn t.ty.ks
  have hm2 := cntTyL_nn t.fr.ks
  have hm3 := cntTmL_nn t.ks
  refine fn_enter Try.func4 rfl Try.ntmps4 Try.results4 rfl ?_
  intro w0
  refine tri_seq ?_
  refine tri_region ?_
  (refine seq_step (step_box_a rfl rfl) rfl ?_; rintro _ ⟨b3, rfl⟩)
  refine seq_pure (pure_assign rfl) rfl rfl ?_
  refine seq_done ?_
  refine nrm_seq ?_
  refine tri_seq ?_
  refine tri_region ?_
  refine seq_pure (pure_assign rfl) rfl rfl ?_
  refine seq_done ?_
  refine nrm_seq ?_
  refine tri_seq ?_
  refine tri_region ?_
  refine seq_load (load_a rfl rfl (at_blk_all (by repeat (first | exact List.Mem.head _ | apply List.Mem.tail))) (by assumption)) rfl rfl ?_
  refine seq_pure (pure_move rfl) rfl rfl ?_
  (rcases res_cases 1048576 (szTm t) with ⟨hc, hrs⟩ | ⟨hc, hrs⟩ <;> (rw [hrs] at hz; refine seq_val rfl hz rfl rfl ?_))
  · refine seq_pure (pure_assign rfl) rfl rfl ?_
    refine seq_done ?_
    refine nrm_seq ?_
    refine tri_seq ?_
    refine tri_seq ?_
    refine tri_region ?_
    refine seq_pure (pure_move rfl) rfl rfl ?_
    refine seq_pure (pure_lss_f rfl rfl (by omega)) rfl rfl ?_
    refine seq_done ?_
    refine nrm_seq ?_
    refine tri_cond_f rfl ?_
    refine tri_skip ?_
    refine nrm_seq ?_
    refine tri_seq ?_
    refine tri_region ?_
    refine seq_load (load_a rfl rfl (at_blk_all (by repeat (first | exact List.Mem.head _ | apply List.Mem.tail))) (by assumption)) rfl rfl ?_
    (refine seq_imm rfl (toTerm_fn t G cells (small_tm t (by omega)) hr) rfl rfl (fun v1 G1 hle1 hh => ?_); obtain ⟨cells1, F1, rfl, hs1, hn1⟩ := hh; have hA := sAllPaths_fn t G1 cells1 (by omega) (hs1.R.mono (Dif.le _ _)))
    (refine seq_imm rfl hA rfl rfl (fun v2 G2 hle2 hh => ?_); obtain ⟨p2, c2, rfl, es2, F2, hp2, hb2, hq2, hd2⟩ := hh; have hle02 := hle1.trans hle2; have hr2 := hr.mono hle02)
    refine seq_pure (pure_assign rfl) rfl rfl ?_
    refine seq_done ?_
    refine nrm_seq ?_
    refine tri_seq ?_
    refine tri_region ?_
    refine seq_load (load_a rfl rfl (at_blk_all (by repeat (first | exact List.Mem.head _ | apply List.Mem.tail))) (by assumption)) rfl rfl ?_
    (refine seq_imm rfl (toTerm_fn t G2 cells (small_tm t (by omega)) hr2) rfl rfl (fun v3 G3 hle3 hh => ?_); obtain ⟨cells3, F3, rfl, hs3, hn3⟩ := hh; have hl3 := hs3.R.len; have ho3 := hs3.R.one; have hI := allPaths_fn t G3 cells3 (hs3.R.mono (Dif.le _ _)))
    (refine seq_step (step_alloc rfl) rfl ?_; rintro _ ⟨b42, rfl⟩)
    refine seq_store rfl rfl rfl (by assumption) (by assumption) rfl (by repeat (first | exact Sw.here | apply Sw.there)) (by exact upd_all (by symm; assumption)) ?_
    refine seq_done ?_
    refine nrm_seq ?_
    refine tri_seq ?_
    refine tri_region ?_
    refine seq_load (load_a rfl rfl (at_blk_all (by repeat (first | exact List.Mem.head _ | apply List.Mem.tail))) (by assumption)) rfl rfl ?_
    (refine seq_imm rfl hI rfl rfl (fun v4 G4 hle4 hh => ?_); obtain ⟨p4, c4, rfl, es4, F4, hp4, hb4, hq4, hd4⟩ := hh; have hle24 := hle3.trans hle4; have m2 : IMle (Dif G2 G1) G4 := (Dif.le G2 G1).trans hle24; have hr4 := hr2.mono hle24)
    refine seq_pure (pure_assign rfl) rfl rfl ?_
    refine seq_done ?_
    refine nrm_seq ?_
    refine tri_seq ?_
    refine tri_seq ?_
    refine tri_region ?_
    refine seq_pure (pure_move rfl) rfl rfl ?_
    refine seq_pure (pure_move rfl) rfl rfl ?_
    refine seq_val rfl (eqIntSS_fn (mAll t) G4 p4 p2 c4 c2 es4 es2 F4 F2 (hp4.mono (Dif.le _ _)) (hq4.mono (Dif.le _ _)) (hp2.mono m2) (hq2.mono m2)) rfl rfl ?_
    refine seq_pure (pure_not_t rfl) rfl rfl ?_
    refine seq_done ?_
    refine nrm_seq ?_
    refine tri_cond_f rfl ?_
    refine tri_skip ?_
    refine nrm_seq ?_
    refine tri_seq ?_
    refine tri_seq ?_
    refine tri_draw mixed rfl ?_
    refine any_load (i := 0) (listed' := [true, false, false, false, false]) rfl (by repeat (first | exact np_ret | apply np_seq | apply np_block | apply np_loopN')) (load_a rfl rfl (at_blk_all (by repeat (first | exact List.Mem.head _ | apply List.Mem.tail))) (by assumption)) rfl (by kernel_rfl) rfl rfl ?_
    refine any_load (i := 1) (listed' := [true, true, false, false, false]) rfl (by repeat (first | exact np_ret | apply np_seq | apply np_block | apply np_loopN')) (load_a rfl rfl (at_blk_all (by repeat (first | exact List.Mem.head _ | apply List.Mem.tail))) (by assumption)) rfl (by kernel_rfl) rfl rfl ?_
    refine any_one (j := 2) (by kernel_rfl) ?_
    (refine one_imm (listed' := [true, true, true, false, false]) rfl rfl (toTerm_fn t G4 cells (small_tm t (by omega)) hr4) rfl rfl rfl (fun v5 G5 hle5 hh => ?_); obtain ⟨cells5, F5, rfl, hs5, hn5⟩ := hh)
    refine any_one (j := 3) (by kernel_rfl) ?_
    refine one_val (listed' := [true, true, true, true, false]) rfl rfl (eqTerm_fn t G5 cells3 cells5 (hs3.R.mono ((Dif.le _ _).trans (hle4.trans hle5))) (hs5.R.mono (Dif.le _ _))) rfl rfl rfl ?_
    refine any_pure (i := 4) (listed' := [true, true, true, true, true]) rfl (by repeat (first | exact np_ret | apply np_seq | apply np_block | apply np_loopN')) (pure_not_t rfl) rfl (by kernel_rfl) rfl rfl ?_
    refine any_done (by kernel_rfl) ?_
    refine nrm_seq ?_
    refine tri_cond_f rfl ?_
    refine tri_skip ?_
    refine nrm_seq ?_
    refine tri_seq ?_
    refine tri_region ?_
    refine seq_pure (pure_assign rfl) rfl rfl ?_
    refine seq_done ?_
    refine nrm_seq ?_
    refine tri_seq ?_
    refine tri_region ?_
    refine seq_load (load_a rfl rfl (at_blk_all (by repeat (first | exact List.Mem.head _ | apply List.Mem.tail))) (by assumption)) rfl rfl ?_
    refine seq_pure (pure_move rfl) rfl rfl ?_
    (obtain ⟨bs3, ob3, ib3⟩ := hs3.blks; obtain ⟨nb3, gb3, kb3⟩ := thaw_hyp (Gc := G5) ib3 hn3 hle02 ((Dif.le G3 G2).trans (hle4.trans hle5)); refine seq_lend_x nb3 gb3 rfl (markTerm_fn t 1 _ cells3 bs3 ob3 (by omega) (by omega)) rfl rfl ?_; have h46 : IMle (Dif G4 G3) (Wo G5 (bs3.map Prod.fst)) := Wo.keep ((Dif.le G4 G3).trans hle5) (fun b hb => dif_none (kb3 b hb).2); have h26 : IMle (Dif G2 G1) (Wo G5 (bs3.map Prod.fst)) := Wo.keep (m2.trans hle5) (fun b hb => none_le (Dif.le G2 G1) (kb3 b hb).1); have h06 : IMle G (Wo G5 (bs3.map Prod.fst)) := Wo.keep (hle02.trans (hle24.trans hle5)) (fun b hb => none_le hle02 (kb3 b hb).1); generalize Wo G5 (bs3.map Prod.fst) = G6 at *)
    refine seq_pure (pure_assign rfl) rfl rfl ?_
    refine seq_done ?_
    refine nrm_seq ?_
    refine tri_seq ?_
    refine tri_seq ?_
    refine tri_region ?_
    refine seq_pure (pure_move rfl) rfl rfl ?_
    refine seq_pure (pure_lss_f rfl rfl (by omega)) rfl rfl ?_
    refine seq_pure (pure_move rfl) rfl rfl ?_
    refine seq_pure (pure_move rfl) rfl rfl ?_
    refine seq_pure (pure_move rfl) rfl rfl ?_
    refine seq_val rfl (eqIntSS_fn (mAll t) G6 p4 p2 c4 c2 es4 es2 F4 F2 (hp4.mono h46) (hq4.mono h46) (hp2.mono h26) (hq2.mono h26)) rfl rfl ?_
    refine seq_pure (pure_not_t rfl) rfl rfl ?_
    refine seq_pure (pure_pick_f rfl rfl) rfl rfl ?_
    refine seq_done ?_
    refine nrm_seq ?_
    refine tri_cond_f rfl ?_
    refine tri_skip ?_
    refine nrm_seq ?_
    refine tri_seq ?_
    refine tri_region ?_
    refine seq_pure (pure_assign rfl) rfl rfl ?_
    refine seq_done ?_
    refine nrm_seq ?_
    refine tri_seq ?_
    refine tri_region ?_
    refine seq_pure (pure_move rfl) rfl rfl ?_
    refine seq_pure (pure_move rfl) rfl rfl ?_
    (obtain ⟨bs4, ob4, ib4⟩ := hq4.blks; have hd4' := List.nodup_append.1 hd4; obtain ⟨nb4, gb4, kb4⟩ := thaw_hyp (Gc := G6) ib4 hd4'.2.1 (hle02.trans hle3) h46; have hs7 := (hp4.mono h46).wo (F := bs4.map Prod.fst) (fun b hb hb' => hd4'.2.2 b hb b (ib4.1.subset hb') rfl); refine seq_lend_f nb4 gb4 rfl (markIntSS_fn (mAll t) 1 _ p4 c4 es4 bs4 hs7 ob4 (by omega) (by omega)) rfl rfl (fun bs5 G8 hb5 hle8 hg5 => ?_); have h28 : IMle (Dif G2 G1) G8 := (Wo.keep h26 (fun b hb => none_le (Dif.le G2 G1) (none_le hle3 (kb4 b hb).1))).trans hle8; have h08 : IMle G G8 := (Wo.keep h06 (fun b hb => none_le hle02 (none_le hle3 (kb4 b hb).1))).trans hle8; have hs8 := hs7.mono hle8; have hq8 := hb5.q hg5; have hr8 := hr.mono h08)
    refine seq_pure (pure_assign rfl) rfl rfl ?_
    refine seq_done ?_
    refine nrm_seq ?_
    refine tri_seq ?_
    refine tri_region ?_
    refine seq_pure (pure_assign rfl) rfl rfl ?_
    refine seq_done ?_
    refine nrm_seq ?_
    refine tri_seq ?_
    refine tri_region ?_
    refine seq_pure (pure_move rfl) rfl rfl ?_
    refine seq_pure (pure_move rfl) rfl rfl ?_
    refine seq_val rfl (heldIntSS_fn (mAll t) 1 G8 p4 c4 es4 hs8 hq8 (by omega) (by omega)) rfl rfl ?_
    refine seq_pure (pure_assign rfl) rfl rfl ?_
    refine seq_done ?_
    refine nrm_seq ?_
    refine tri_seq ?_
    refine tri_seq ?_
    refine tri_region ?_
    refine seq_pure (pure_move rfl) rfl rfl ?_
    refine seq_pure (pure_lss_f rfl rfl (by omega)) rfl rfl ?_
    refine seq_done ?_
    refine nrm_seq ?_
    refine tri_cond_f rfl ?_
    refine tri_skip ?_
    refine nrm_seq ?_
    refine tri_seq ?_
    refine tri_seq ?_
    refine tri_region ?_
    refine seq_pure (pure_move rfl) rfl rfl ?_
    refine seq_pure (pure_move rfl) rfl rfl ?_
    refine seq_pure (pure_neq_f rfl rfl (by omega)) rfl rfl ?_
    refine seq_done ?_
    refine nrm_seq ?_
    refine tri_cond_f rfl ?_
    refine tri_skip ?_
    refine nrm_seq ?_
    refine tri_seq ?_
    refine tri_region ?_
    refine seq_load (load_a rfl rfl (at_blk_all (by repeat (first | exact List.Mem.head _ | apply List.Mem.tail))) (by assumption)) rfl rfl ?_
    (refine seq_imm rfl (toTerm_fn t G8 cells (small_tm t (by omega)) hr8) rfl rfl (fun v9 G9 hle9 hh => ?_); obtain ⟨cells9, F9, rfl, hs9, hn9⟩ := hh; have hI9 := allPaths_fn t G9 cells9 (hs9.R.mono (Dif.le _ _)))
    (refine seq_imm rfl hI9 rfl rfl (fun v10 G10 hle10 hh => ?_); obtain ⟨p10, c10, rfl, es10, F10, hp10, hb10, hq10, hd10⟩ := hh; have h210 := h28.trans (hle9.trans hle10))
    refine seq_pure (pure_assign rfl) rfl rfl ?_
    refine seq_done ?_
    refine nrm_seq ?_
    refine tri_seq ?_
    refine tri_seq ?_
    refine tri_region ?_
    refine seq_pure (pure_move rfl) rfl rfl ?_
    refine seq_pure (pure_move rfl) rfl rfl ?_
    refine seq_val rfl (eqIntSS_fn (mAll t) G10 p10 p2 c10 c2 es10 es2 F10 F2 (hp10.mono (Dif.le _ _)) (hq10.mono (Dif.le _ _)) (hp2.mono h210) (hq2.mono h210)) rfl rfl ?_
    refine seq_pure (pure_not_t rfl) rfl rfl ?_
    refine seq_done ?_
    refine nrm_seq ?_
    refine tri_cond_f rfl ?_
    refine tri_skip ?_
    refine nrm_seq ?_
    refine tri_seq ?_
    refine tri_region ?_
    refine seq_pure (pure_assign rfl) rfl rfl ?_
    refine seq_done ?_
    refine nrm_seq ?_
    refine tri_seq ?_
    refine tri_region ?_
    refine seq_pure (pure_move rfl) rfl rfl ?_
    refine seq_pure (pure_move rfl) rfl rfl ?_
    refine seq_val rfl (heldIntSS_fn (mAll t) 1 G10 p4 c4 es4 (hs8.mono (hle9.trans hle10)) (hq8.mono (hle9.trans hle10)) (by omega) (by omega)) rfl rfl ?_
    refine seq_pure (pure_assign rfl) rfl rfl ?_
    refine seq_done ?_
    refine nrm_seq ?_
    refine tri_seq ?_
    refine tri_seq ?_
    refine tri_region ?_
    refine seq_pure (pure_move rfl) rfl rfl ?_
    refine seq_pure (pure_lss_f rfl rfl (by omega)) rfl rfl ?_
    refine seq_done ?_
    refine nrm_seq ?_
    refine tri_cond_f rfl ?_
    refine tri_skip ?_
    refine nrm_seq ?_
    refine tri_seq ?_
    refine tri_seq ?_
    refine tri_region ?_
    refine seq_pure (pure_move rfl) rfl rfl ?_
    refine seq_pure (pure_move rfl) rfl rfl ?_
    refine seq_pure (pure_neq_f rfl rfl (by omega)) rfl rfl ?_
    refine seq_done ?_
    refine nrm_seq ?_
    refine tri_cond_f rfl ?_
    refine tri_skip ?_
    refine nrm_seq ?_
    refine tri_seq ?_
    refine tri_region ?_
    refine seq_pure (pure_assign rfl) rfl rfl ?_
    refine seq_done ?_
    refine nrm_seq ?_
    refine tri_ret ?_
    refine ret_fin1 (res_tmp rfl) ?_
    exact ⟨rfl, rfl⟩
  · refine seq_pure (pure_assign rfl) rfl rfl ?_
    refine seq_done ?_
    refine nrm_seq ?_
    refine tri_seq ?_
    refine tri_seq ?_
    refine tri_region ?_
    refine seq_pure (pure_move rfl) rfl rfl ?_
    refine seq_pure (pure_lss_t rfl rfl (by omega)) rfl rfl ?_
    refine seq_done ?_
    refine nrm_seq ?_
    refine tri_cond_t rfl ?_
    refine tri_seq ?_
    refine tri_region ?_
    refine seq_pure (pure_assign rfl) rfl rfl ?_
    refine seq_done ?_
    refine nrm_seq ?_
    refine tri_ret ?_
    refine ret_seq ?_
    refine ret_fin1 (res_tmp rfl) ?_
    exact ⟨rfl, rfl⟩
end Gw
end Go.Proofs.Ytlefgfdhlblahaa
namespace Go.Proofs.Ytlefgfdhlblahaa
open Go Go.RowKit
namespace Gw
/-- The node at a path. -/
def tAt : Tm → List Int → Option Tm
  | t, [] => some t
  | .mk _ _ _ _ _ _ ks, i :: is => if h : 0 ≤ i ∧ i < ks.length then tAt (ks[i.toNat]'(by omega)) is else none
theorem tAt_nil (t : Tm) : tAt t [] = some t := by cases t; rw [tAt]
theorem tAt_go {t : Tm} {i : Int} {is : List Int} (h0 : 0 ≤ i) (h : i < t.ks.length) : tAt t (i :: is) = tAt (t.ks[i.toNat]'(by omega)) is := by
  cases t; rw [tAt, dif_pos ⟨h0, h⟩]; rfl
theorem tAt_no {t : Tm} {i : Int} {is : List Int} (h : ¬ (0 ≤ i ∧ i < t.ks.length)) : tAt t (i :: is) = none := by
  cases t; rw [tAt]; exact dif_neg h
def z9 : List Value := [.int .i64 0, .string ⟨⟨[]⟩⟩, .int .i64 0, .int .i64 0, .slice none 0 0, .int .i64 0, .slice none 0 0, .int .i64 0, .slice none 0 0]
def AtP (t : Tm) (path : List Int) (G : IM) : IM → Value → List Ent → Prop := fun G' v outs => G' = G ∧ outs = [] ∧
  ((∃ x cells, tAt t path = some x ∧ RTm G x cells ∧ v = .tuple ⟨[.agg ⟨cells⟩, .bool true]⟩) ∨ (tAt t path = none ∧ v = .tuple ⟨[.agg ⟨z9⟩, .bool false]⟩))
theorem ints_at {l : List Int} {i : Nat} {v : Value} (h : (ints l)[i]? = some v) (hi : i < l.length) : v = .int .i64 l[i] := (ints_get h).2
set_option maxHeartbeats 0 in
set_option maxRecDepth 100000 in
theorem at_fn (t : Tm) (path : List Int) (G : IM) (cells : List Value) (p : Option Addr) (c : Nat) (hr : RTm G t cells) (hp : Sl G p path.length c 1 (ints path)) :
    Fn Try.prog 57 [.agg ⟨cells⟩, .slice p path.length c] [] G (AtP t path G) := by
  have hn := hp.le
  have hl := hr.len
  have hone := hr.one
  refine fn_enter Try.func57 rfl Try.ntmps57 Try.results57 rfl ?_
  intro w0
  refine tri_seq ?_
  refine tri_region ?_
  (refine seq_step (step_box_a rfl rfl) rfl ?_; rintro _ ⟨b3, rfl⟩)
  (refine seq_step (step_alloc rfl) rfl ?_; rintro _ ⟨b4, rfl⟩)
  refine seq_pure (pure_assign rfl) rfl rfl ?_
  refine seq_done ?_
  refine nrm_seq ?_
  refine tri_seq ?_
  refine tri_seq ?_
  refine tri_region ?_
  refine seq_pure (pure_move rfl) rfl rfl ?_
  refine seq_pure (pure_len rfl rfl) rfl rfl ?_
  refine seq_pure (pure_move rfl) rfl rfl ?_
  refine seq_done ?_
  refine nrm_seq ?_
  refine tri_block ?_
  refine tri_loopN (fun (x : Nat × Tm × List Value) => ⟨[(10, .int .i64 x.1), (9, .int .i64 path.length), (8, .slice p path.length c), (2, .pointer (some ⟨b3, 0, none⟩)), (4, .pointer (some ⟨b4, 0, none⟩)), (5, .bool false)], [.blk b4 z9, .blk b3 x.2.2], G⟩) (fun x => x.1 ≤ path.length ∧ RTm G x.2.1 x.2.2 ∧ tAt t path = tAt x.2.1 (path.drop x.1)) (fun x => path.length - x.1) (0, t, cells) ?_ ?_ ?_
  · (simp only [flat_snoc]; exact sub_mk (by repeat (first | exact SubE.nil | refine SubE.cons rfl ?_)) (by repeat (first | exact SubH.refl | exact SubH.nil | refine SubH.cons (by repeat (first | exact Pk.here | apply Pk.there)) ?_ | apply SubH.drop)))
  · exact ⟨by simp, hr, rfl⟩
  · (rintro ⟨i, ⟨k, nm, num, ⟨tk, tks⟩, ⟨fk, fks⟩, lb, ks⟩, ce⟩ ⟨hi, hre, hat⟩; simp only [] at hi hre hat ⊢; obtain ⟨pt, ct, pf, cf, pk, ck, es, rfl, hk, hnum, hlb, hty, hfr, hsl, hkl⟩ := hre.open9; have hle := hsl.le; have hone := hre.one)
    refine tri_seq ?_
    refine tri_region ?_
    refine seq_bool (pure_lss rfl rfl) rfl rfl (fun h23 => ?_) (fun h23 => ?_)
    · refine seq_done ?_
      refine nrm_seq ?_
      refine tri_seq ?_
      refine tri_cond_t rfl ?_
      refine tri_skip ?_
      refine nrm_seq ?_
      refine tri_seq ?_
      refine tri_block ?_
      refine tri_seq ?_
      refine tri_region ?_
      (obtain ⟨b, o, v, rfl, hv, hatc, hgb⟩ := hp.kid (i := i) (by omega); obtain rfl := ints_at hv (by omega); rw [List.drop_eq_getElem_cons (by omega)] at hat; generalize path[i]'(by omega) = pi at *; refine seq_pure (pure_indexAddrN rfl rfl rfl (by omega)) rfl rfl ?_)
      refine seq_load (load_s rfl rfl (hatc _)) rfl rfl ?_
      refine seq_pure (pure_assign rfl) rfl rfl ?_
      refine seq_done ?_
      refine nrm_seq ?_
      refine tri_seq ?_
      refine tri_seq ?_
      refine tri_region ?_
      refine seq_pure (pure_move rfl) rfl rfl ?_
      refine seq_pure (pure_fieldAddr0 rfl) rfl rfl ?_
      refine seq_load (load_bs rfl rfl (by repeat (first | exact List.Mem.head _ | apply List.Mem.tail)) (by rfl)) rfl rfl ?_
      refine seq_pure (pure_len rfl rfl) rfl rfl ?_
      refine seq_pure (pure_sub rfl rfl (by omega) (by omega)) rfl rfl ?_
      refine seq_valb rfl (within_fn pi 0 ((ks.length : Int) - 1) G) rfl rfl (fun h47 => ?_) (fun h47 => ?_)
      · refine seq_pure (pure_not_t rfl) rfl rfl ?_
        refine seq_done ?_
        refine nrm_seq ?_
        refine tri_cond_f rfl ?_
        refine tri_skip ?_
        refine nrm_seq ?_
        refine tri_region ?_
        refine seq_pure (pure_fieldAddr0 rfl) rfl rfl ?_
        refine seq_load (load_bs rfl rfl (by repeat (first | exact List.Mem.head _ | apply List.Mem.tail)) (by rfl)) rfl rfl ?_
        refine seq_pure (pure_move rfl) rfl rfl ?_
        (have hwi := withinB_t (by assumption); obtain ⟨j, rfl⟩ := Int.eq_ofNat_of_zero_le hwi.1; obtain ⟨b', o', e, rfl, hl', hate, hre', hgb'⟩ := hsl.kidTm hkl (i := j) (by omega) (by omega); have hone' := hre'.one; refine seq_pure (pure_indexAddrN rfl rfl rfl (by omega)) rfl rfl ?_)
        refine seq_load (load_a rfl rfl (hate _) hl') rfl rfl ?_
        refine seq_store rfl rfl rfl (by assumption) (by assumption) rfl (by repeat (first | exact Sw.here | apply Sw.there)) (by exact upd_all (by symm; assumption)) ?_
        refine seq_done ?_
        refine nrm_block ?_
        refine nrm_seq ?_
        refine tri_region ?_
        refine seq_pure (pure_add rfl rfl (by omega) (by omega)) rfl rfl ?_
        refine seq_pure (pure_move rfl) rfl rfl ?_
        refine seq_done ?_
        refine nrm_loopN (i + 1, ks[j], e) ?_ ?_ ?_
        · (simp only [flat_snoc]; exact sub_mk (by repeat (first | exact SubE.nil | refine SubE.cons rfl ?_)) (by repeat (first | exact SubH.refl | exact SubH.nil | refine SubH.cons (by repeat (first | exact Pk.here | apply Pk.there)) ?_ | apply SubH.drop)))
        · (dsimp only; exact ⟨by omega, hre', by rw [hat, tAt_go (by omega) (by simp only [Tm.ks]; omega)]; rfl⟩)
        · (show path.length - (i + 1) < path.length - i; omega)
      · refine seq_pure (pure_not_f rfl) rfl rfl ?_
        refine seq_done ?_
        refine nrm_seq ?_
        refine tri_cond_t rfl ?_
        refine tri_seq ?_
        refine tri_region ?_
        refine seq_pure (pure_build rfl rfl) rfl rfl ?_
        refine seq_store rfl rfl rfl rfl rfl rfl (by repeat (first | exact Sw.here | apply Sw.there)) (by rfl) ?_
        refine seq_pure (pure_assign rfl) rfl rfl ?_
        refine seq_done ?_
        refine nrm_seq ?_
        refine tri_ret ?_
        refine ret_seq ?_
        refine ret_block ?_
        refine ret_seq ?_
        refine ret_loopN ?_
        refine ret_block ?_
        refine ret_seq ?_
        refine ret_fin2 (res_cell rfl (load_ba rfl rfl (by repeat (first | exact List.Mem.head _ | apply List.Mem.tail)) (by rfl))) (res_tmp rfl) ?_
        (have hwi := withinB_f (by assumption); rw [tAt_no (by simp only [Tm.ks]; omega)] at hat; exact ⟨rfl, rfl, .inr ⟨hat, rfl⟩⟩)
    · refine seq_done ?_
      refine nrm_seq ?_
      refine tri_seq ?_
      refine tri_cond_f rfl ?_
      refine tri_exit ?_
      refine ext_seq ?_
      refine ext_loopN ?_
      refine ext_block_eq ?_
      refine nrm_seq ?_
      refine tri_seq ?_
      refine tri_region ?_
      refine seq_load (load_ba rfl rfl (by repeat (first | exact List.Mem.head _ | apply List.Mem.tail)) (by rfl)) rfl rfl ?_
      refine seq_store rfl rfl rfl rfl rfl rfl (by repeat (first | exact Sw.here | apply Sw.there)) (by rfl) ?_
      refine seq_pure (pure_assign rfl) rfl rfl ?_
      refine seq_done ?_
      refine nrm_seq ?_
      refine tri_ret ?_
      refine ret_fin2 (res_cell rfl (load_ba rfl rfl (by repeat (first | exact List.Mem.head _ | apply List.Mem.tail)) (by rfl))) (res_tmp rfl) ?_
      (obtain rfl : i = path.length := (by omega); rw [List.drop_length, tAt_nil] at hat; exact ⟨rfl, rfl, .inl ⟨_, _, hat, hre, rfl⟩⟩)
set_option maxHeartbeats 0 in
set_option maxRecDepth 100000 in
theorem l16At_fn (t : Tm) (path : List Int) (G : IM) (cells : List Value) (p : Option Addr) (c : Nat) (hr : RTm G t cells) (hp : Sl G p path.length c 1 (ints path)) :
    Fn Try.prog 56 [.agg ⟨cells⟩, .slice p path.length c] [] G (AtP t path G) := by
  have hn := hp.le
  have hl := hr.len
  have hone := hr.one
  refine fn_enter Try.func56 rfl Try.ntmps56 Try.results56 rfl ?_
  intro w0
  refine tri_seq ?_
  refine tri_region ?_
  (refine seq_step (step_box_a rfl rfl) rfl ?_; rintro _ ⟨b3, rfl⟩)
  (refine seq_step (step_alloc rfl) rfl ?_; rintro _ ⟨b4, rfl⟩)
  refine seq_pure (pure_assign rfl) rfl rfl ?_
  refine seq_done ?_
  refine nrm_seq ?_
  refine tri_seq ?_
  refine tri_seq ?_
  refine tri_region ?_
  refine seq_pure (pure_assign rfl) rfl rfl ?_
  refine seq_done ?_
  refine nrm_seq ?_
  refine tri_block ?_
  refine tri_loopN (fun (x : Nat × Tm × List Value) => ⟨[(6, .int .i64 x.1), (1, .slice p path.length c), (2, .pointer (some ⟨b3, 0, none⟩)), (4, .pointer (some ⟨b4, 0, none⟩)), (5, .bool false)], [.blk b4 z9, .blk b3 x.2.2], G⟩) (fun x => x.1 ≤ path.length ∧ RTm G x.2.1 x.2.2 ∧ tAt t path = tAt x.2.1 (path.drop x.1)) (fun x => path.length - x.1) (0, t, cells) ?_ ?_ ?_
  · (simp only [flat_snoc]; exact sub_mk (by repeat (first | exact SubE.nil | refine SubE.cons rfl ?_)) (by repeat (first | exact SubH.refl | exact SubH.nil | refine SubH.cons (by repeat (first | exact Pk.here | apply Pk.there)) ?_ | apply SubH.drop)))
  · exact ⟨by simp, hr, rfl⟩
  · (rintro ⟨i, ⟨k, nm, num, ⟨tk, tks⟩, ⟨fk, fks⟩, lb, ks⟩, ce⟩ ⟨hi, hre, hat⟩; simp only [] at hi hre hat ⊢; obtain ⟨pt, ct, pf, cf, pk, ck, es, rfl, hk, hnum, hlb, hty, hfr, hsl, hkl⟩ := hre.open9; have hle := hsl.le; have hone := hre.one)
    refine tri_seq ?_
    refine tri_seq ?_
    refine tri_region ?_
    refine seq_pure (pure_move rfl) rfl rfl ?_
    refine seq_pure (pure_move rfl) rfl rfl ?_
    refine seq_pure (pure_len rfl rfl) rfl rfl ?_
    refine seq_bool (pure_lss rfl rfl) rfl rfl (fun h25 => ?_) (fun h25 => ?_)
    · refine seq_done ?_
      refine nrm_seq ?_
      refine tri_cond_t rfl ?_
      refine tri_skip ?_
      refine nrm_seq ?_
      refine tri_seq ?_
      refine tri_block ?_
      refine tri_seq ?_
      refine tri_seq ?_
      (obtain ⟨b, o, v, rfl, hv, hatc, hgb⟩ := hp.kid (i := i) (by omega); obtain rfl := ints_at hv (by omega); rw [List.drop_eq_getElem_cons (by omega)] at hat; generalize path[i]'(by omega) = pi at *; refine tri_draw mixed rfl ?_)
      refine any_pure (i := 0) (listed' := [true, false, false, false, false, false, false, false, false, false, false, false, false, false, false]) rfl (by repeat (first | exact np_ret | apply np_seq | apply np_block | apply np_loopN')) (pure_move rfl) rfl (by kernel_rfl) rfl rfl ?_
      refine any_pure (i := 1) (listed' := [true, true, false, false, false, false, false, false, false, false, false, false, false, false, false]) rfl (by repeat (first | exact np_ret | apply np_seq | apply np_block | apply np_loopN')) (pure_move rfl) rfl (by kernel_rfl) rfl rfl ?_
      refine any_pure (i := 2) (listed' := [true, true, true, false, false, false, false, false, false, false, false, false, false, false, false]) rfl (by repeat (first | exact np_ret | apply np_seq | apply np_block | apply np_loopN')) (pure_indexAddrN rfl rfl rfl (by omega)) rfl (by kernel_rfl) rfl rfl ?_
      refine any_load (i := 3) (listed' := [true, true, true, true, false, false, false, false, false, false, false, false, false, false, false]) rfl (by repeat (first | exact np_ret | apply np_seq | apply np_block | apply np_loopN')) (load_s rfl rfl (hatc _)) rfl (by kernel_rfl) rfl rfl ?_
      refine any_bool (i := 4) (listed' := [true, true, true, true, true, false, false, false, false, false, false, false, false, false, false]) rfl (by repeat (first | exact np_ret | apply np_seq | apply np_block | apply np_loopN')) (pure_lss rfl rfl) rfl (by kernel_rfl) rfl rfl (fun h40 => ?_) (fun h40 => ?_)
      · refine any_pure (i := 5) (listed' := [true, true, true, true, true, true, false, false, false, false, false, false, false, false, false]) rfl (by repeat (first | exact np_ret | apply np_seq | apply np_block | apply np_loopN')) (pure_move rfl) rfl (by kernel_rfl) rfl rfl ?_
        refine any_skip (i := 6) (listed' := [true, true, true, true, true, true, true, false, false, false, false, false, false, false, false]) rfl (by repeat (first | exact np_ret | apply np_seq | apply np_block | apply np_loopN')) rfl (by kernel_rfl) rfl rfl ?_
        refine any_skip (i := 7) (listed' := [true, true, true, true, true, true, true, true, false, false, false, false, false, false, false]) rfl (by repeat (first | exact np_ret | apply np_seq | apply np_block | apply np_loopN')) rfl (by kernel_rfl) rfl rfl ?_
        refine any_skip (i := 8) (listed' := [true, true, true, true, true, true, true, true, true, false, false, false, false, false, false]) rfl (by repeat (first | exact np_ret | apply np_seq | apply np_block | apply np_loopN')) rfl (by kernel_rfl) rfl rfl ?_
        refine any_skip (i := 9) (listed' := [true, true, true, true, true, true, true, true, true, true, false, false, false, false, false]) rfl (by repeat (first | exact np_ret | apply np_seq | apply np_block | apply np_loopN')) rfl (by kernel_rfl) rfl rfl ?_
        refine any_skip (i := 10) (listed' := [true, true, true, true, true, true, true, true, true, true, true, false, false, false, false]) rfl (by repeat (first | exact np_ret | apply np_seq | apply np_block | apply np_loopN')) rfl (by kernel_rfl) rfl rfl ?_
        refine any_skip (i := 11) (listed' := [true, true, true, true, true, true, true, true, true, true, true, true, false, false, false]) rfl (by repeat (first | exact np_ret | apply np_seq | apply np_block | apply np_loopN')) rfl (by kernel_rfl) rfl rfl ?_
        refine any_skip (i := 12) (listed' := [true, true, true, true, true, true, true, true, true, true, true, true, true, false, false]) rfl (by repeat (first | exact np_ret | apply np_seq | apply np_block | apply np_loopN')) rfl (by kernel_rfl) rfl rfl ?_
        refine any_skip (i := 13) (listed' := [true, true, true, true, true, true, true, true, true, true, true, true, true, true, false]) rfl (by repeat (first | exact np_ret | apply np_seq | apply np_block | apply np_loopN')) rfl (by kernel_rfl) rfl rfl ?_
        refine any_pure (i := 14) (listed' := [true, true, true, true, true, true, true, true, true, true, true, true, true, true, true]) rfl (by repeat (first | exact np_ret | apply np_seq | apply np_block | apply np_loopN')) (pure_pick_t rfl rfl) rfl (by kernel_rfl) rfl rfl ?_
        refine any_done (by kernel_rfl) ?_
        refine nrm_seq ?_
        refine tri_cond_t rfl ?_
        refine tri_seq ?_
        refine tri_region ?_
        refine seq_pure (pure_build rfl rfl) rfl rfl ?_
        refine seq_store rfl rfl rfl rfl rfl rfl (by repeat (first | exact Sw.here | apply Sw.there)) (by rfl) ?_
        refine seq_pure (pure_assign rfl) rfl rfl ?_
        refine seq_done ?_
        refine nrm_seq ?_
        refine tri_ret ?_
        refine ret_seq ?_
        refine ret_block ?_
        refine ret_seq ?_
        refine ret_loopN ?_
        refine ret_block ?_
        refine ret_seq ?_
        refine ret_fin2 (res_cell rfl (load_ba rfl rfl (by repeat (first | exact List.Mem.head _ | apply List.Mem.tail)) (by rfl))) (res_tmp rfl) ?_
        (rw [tAt_no (by simp only [Tm.ks]; omega)] at hat; exact ⟨rfl, rfl, .inr ⟨hat, rfl⟩⟩)
      · refine any_pure (i := 5) (listed' := [true, true, true, true, true, true, false, false, false, false, false, false, false, false, false]) rfl (by repeat (first | exact np_ret | apply np_seq | apply np_block | apply np_loopN')) (pure_move rfl) rfl (by kernel_rfl) rfl rfl ?_
        refine any_pure (i := 6) (listed' := [true, true, true, true, true, true, true, false, false, false, false, false, false, false, false]) rfl (by repeat (first | exact np_ret | apply np_seq | apply np_block | apply np_loopN')) (pure_move rfl) rfl (by kernel_rfl) rfl rfl ?_
        refine any_pure (i := 7) (listed' := [true, true, true, true, true, true, true, true, false, false, false, false, false, false, false]) rfl (by repeat (first | exact np_ret | apply np_seq | apply np_block | apply np_loopN')) (pure_move rfl) rfl (by kernel_rfl) rfl rfl ?_
        refine any_pure (i := 8) (listed' := [true, true, true, true, true, true, true, true, true, false, false, false, false, false, false]) rfl (by repeat (first | exact np_ret | apply np_seq | apply np_block | apply np_loopN')) (pure_indexAddrN rfl rfl rfl (by omega)) rfl (by kernel_rfl) rfl rfl ?_
        refine any_load (i := 9) (listed' := [true, true, true, true, true, true, true, true, true, true, false, false, false, false, false]) rfl (by repeat (first | exact np_ret | apply np_seq | apply np_block | apply np_loopN')) (load_s rfl rfl (hatc _)) rfl (by kernel_rfl) rfl rfl ?_
        refine any_pure (i := 10) (listed' := [true, true, true, true, true, true, true, true, true, true, true, false, false, false, false]) rfl (by repeat (first | exact np_ret | apply np_seq | apply np_block | apply np_loopN')) (pure_fieldAddr0 rfl) rfl (by kernel_rfl) rfl rfl ?_
        refine any_load (i := 11) (listed' := [true, true, true, true, true, true, true, true, true, true, true, true, false, false, false]) rfl (by repeat (first | exact np_ret | apply np_seq | apply np_block | apply np_loopN')) (load_bs rfl rfl (by repeat (first | exact List.Mem.head _ | apply List.Mem.tail)) (by rfl)) rfl (by kernel_rfl) rfl rfl ?_
        refine any_pure (i := 12) (listed' := [true, true, true, true, true, true, true, true, true, true, true, true, true, false, false]) rfl (by repeat (first | exact np_ret | apply np_seq | apply np_block | apply np_loopN')) (pure_len rfl rfl) rfl (by kernel_rfl) rfl rfl ?_
        refine any_bool (i := 13) (listed' := [true, true, true, true, true, true, true, true, true, true, true, true, true, true, false]) rfl (by repeat (first | exact np_ret | apply np_seq | apply np_block | apply np_loopN')) (pure_geq rfl rfl) rfl (by kernel_rfl) rfl rfl (fun h78 => ?_) (fun h78 => ?_)
        · refine any_pure (i := 14) (listed' := [true, true, true, true, true, true, true, true, true, true, true, true, true, true, true]) rfl (by repeat (first | exact np_ret | apply np_seq | apply np_block | apply np_loopN')) (pure_pick_f rfl rfl) rfl (by kernel_rfl) rfl rfl ?_
          refine any_done (by kernel_rfl) ?_
          refine nrm_seq ?_
          refine tri_cond_t rfl ?_
          refine tri_seq ?_
          refine tri_region ?_
          refine seq_pure (pure_build rfl rfl) rfl rfl ?_
          refine seq_store rfl rfl rfl rfl rfl rfl (by repeat (first | exact Sw.here | apply Sw.there)) (by rfl) ?_
          refine seq_pure (pure_assign rfl) rfl rfl ?_
          refine seq_done ?_
          refine nrm_seq ?_
          refine tri_ret ?_
          refine ret_seq ?_
          refine ret_block ?_
          refine ret_seq ?_
          refine ret_loopN ?_
          refine ret_block ?_
          refine ret_seq ?_
          refine ret_fin2 (res_cell rfl (load_ba rfl rfl (by repeat (first | exact List.Mem.head _ | apply List.Mem.tail)) (by rfl))) (res_tmp rfl) ?_
          (rw [tAt_no (by simp only [Tm.ks]; omega)] at hat; exact ⟨rfl, rfl, .inr ⟨hat, rfl⟩⟩)
        · refine any_pure (i := 14) (listed' := [true, true, true, true, true, true, true, true, true, true, true, true, true, true, true]) rfl (by repeat (first | exact np_ret | apply np_seq | apply np_block | apply np_loopN')) (pure_pick_f rfl rfl) rfl (by kernel_rfl) rfl rfl ?_
          refine any_done (by kernel_rfl) ?_
          refine nrm_seq ?_
          refine tri_cond_f rfl ?_
          refine tri_skip ?_
          refine nrm_seq ?_
          (obtain ⟨j, rfl⟩ := Int.eq_ofNat_of_zero_le (show 0 ≤ pi by omega); obtain ⟨b', o', e, rfl, hl', hate, hre', hgb'⟩ := hsl.kidTm hkl (i := j) (by omega) (by omega); have hone' := hre'.one; refine tri_draw mixed rfl ?_)
          refine any_pure (i := 0) (listed' := [true, false, false, false, false, false, false, false, false]) rfl (by repeat (first | exact np_ret | apply np_seq | apply np_block | apply np_loopN')) (pure_fieldAddr0 rfl) rfl (by kernel_rfl) rfl rfl ?_
          refine any_load (i := 1) (listed' := [true, true, false, false, false, false, false, false, false]) rfl (by repeat (first | exact np_ret | apply np_seq | apply np_block | apply np_loopN')) (load_bs rfl rfl (by repeat (first | exact List.Mem.head _ | apply List.Mem.tail)) (by rfl)) rfl (by kernel_rfl) rfl rfl ?_
          refine any_pure (i := 2) (listed' := [true, true, true, false, false, false, false, false, false]) rfl (by repeat (first | exact np_ret | apply np_seq | apply np_block | apply np_loopN')) (pure_move rfl) rfl (by kernel_rfl) rfl rfl ?_
          refine any_pure (i := 3) (listed' := [true, true, true, true, false, false, false, false, false]) rfl (by repeat (first | exact np_ret | apply np_seq | apply np_block | apply np_loopN')) (pure_move rfl) rfl (by kernel_rfl) rfl rfl ?_
          refine any_pure (i := 4) (listed' := [true, true, true, true, true, false, false, false, false]) rfl (by repeat (first | exact np_ret | apply np_seq | apply np_block | apply np_loopN')) (pure_indexAddrN rfl rfl rfl (by omega)) rfl (by kernel_rfl) rfl rfl ?_
          refine any_load (i := 5) (listed' := [true, true, true, true, true, true, false, false, false]) rfl (by repeat (first | exact np_ret | apply np_seq | apply np_block | apply np_loopN')) (load_s rfl rfl (hatc _)) rfl (by kernel_rfl) rfl rfl ?_
          refine any_pure (i := 6) (listed' := [true, true, true, true, true, true, true, false, false]) rfl (by repeat (first | exact np_ret | apply np_seq | apply np_block | apply np_loopN')) (pure_indexAddrN rfl rfl rfl (by omega)) rfl (by kernel_rfl) rfl rfl ?_
          refine any_load (i := 7) (listed' := [true, true, true, true, true, true, true, true, false]) rfl (by repeat (first | exact np_ret | apply np_seq | apply np_block | apply np_loopN')) (load_a rfl rfl (hate _) hl') rfl (by kernel_rfl) rfl rfl ?_
          refine any_one (j := 8) (by kernel_rfl) ?_
          refine one_store rfl rfl rfl rfl hl' hone' rfl rfl (by kernel_rfl) (by repeat (first | exact Sw.here | apply Sw.there)) (by exact upd_all hl'.symm) ?_
          refine any_done (by kernel_rfl) ?_
          refine nrm_block ?_
          refine nrm_seq ?_
          refine tri_region ?_
          refine seq_pure (pure_move rfl) rfl rfl ?_
          refine seq_pure (pure_add rfl rfl (by omega) (by omega)) rfl rfl ?_
          refine seq_pure (pure_assign rfl) rfl rfl ?_
          refine seq_done ?_
          refine nrm_loopN (i + 1, ks[j], e) ?_ ?_ ?_
          · (simp only [flat_snoc]; exact sub_mk (by repeat (first | exact SubE.nil | refine SubE.cons rfl ?_)) (by repeat (first | exact SubH.refl | exact SubH.nil | refine SubH.cons (by repeat (first | exact Pk.here | apply Pk.there)) ?_ | apply SubH.drop)))
          · (dsimp only; exact ⟨by omega, hre', by rw [hat, tAt_go (by omega) (by simp only [Tm.ks]; omega)]; rfl⟩)
          · (show path.length - (i + 1) < path.length - i; omega)
    · refine seq_done ?_
      refine nrm_seq ?_
      refine tri_cond_f rfl ?_
      refine tri_exit ?_
      refine ext_seq ?_
      refine ext_loopN ?_
      refine ext_block_eq ?_
      refine nrm_seq ?_
      refine tri_seq ?_
      refine tri_region ?_
      refine seq_load (load_ba rfl rfl (by repeat (first | exact List.Mem.head _ | apply List.Mem.tail)) (by rfl)) rfl rfl ?_
      refine seq_store rfl rfl rfl rfl rfl rfl (by repeat (first | exact Sw.here | apply Sw.there)) (by rfl) ?_
      refine seq_pure (pure_assign rfl) rfl rfl ?_
      refine seq_done ?_
      refine nrm_seq ?_
      refine tri_ret ?_
      refine ret_fin2 (res_cell rfl (load_ba rfl rfl (by repeat (first | exact List.Mem.head _ | apply List.Mem.tail)) (by rfl))) (res_tmp rfl) ?_
      (obtain rfl : i = path.length := (by omega); rw [List.drop_length, tAt_nil] at hat; exact ⟨rfl, rfl, .inl ⟨_, _, hat, hre, rfl⟩⟩)
end Gw
end Go.Proofs.Ytlefgfdhlblahaa
namespace Go.Proofs.Ytlefgfdhlblahaa
open Go Go.RowKit
namespace Gw
def tm0 : Tm := .mk 0 ⟨⟨[]⟩⟩ 0 (.mk 0 []) (.mk 0 []) 0 []
theorem STm.zero (G : IM) : STm G tm0 z9 [] := by
  simp only [tm0, STm, STy, STyL, STmL, z9]
  refine ⟨[.int .i64 0, .slice none 0 0], [.int .i64 0, .slice none 0 0], none, 0, [], [], [], [], rfl, ⟨by omega, by omega⟩, ⟨by omega, by omega⟩, ⟨by omega, by omega⟩, ?_, ?_, SlE.nil _ _, ⟨rfl, rfl⟩, rfl, by simp [vfp]⟩
  · exact ⟨none, 0, [], [], rfl, ⟨by omega, by omega⟩, SlE.nil _ _, ⟨rfl, rfl⟩, rfl, by simp [vfp]⟩
  · exact ⟨none, 0, [], [], rfl, ⟨by omega, by omega⟩, SlE.nil _ _, ⟨rfl, rfl⟩, rfl, by simp [vfp]⟩
theorem sumTm_mem : ∀ {ks : List Tm} {t : Tm}, t ∈ ks → szTm t ≤ sumTm ks
  | [], t, h => by simp at h
  | t' :: ts, t, h => by
    rw [sumTm]
    have := szTm_nn t'
    have := sumTm_nn ts
    rcases List.mem_cons.1 h with rfl | h
    · omega
    · have := sumTm_mem h; omega
theorem szTm_kid {t x : Tm} (h : x ∈ t.ks) : szTm x ≤ szTm t := by
  cases t
  rename_i k nm num ty fr lb ks
  have := sumTm_mem (ks := ks) h
  have := szTy_nn ty
  have := szTy_nn fr
  rw [szTm]; omega
theorem tAt_sz : ∀ {path : List Int} {t x : Tm}, tAt t path = some x → szTm x ≤ szTm t
  | [], t, x, h => by rw [tAt_nil] at h; cases h; exact Int.le_refl _
  | i :: is, t, x, h => by
    by_cases hi : 0 ≤ i ∧ i < t.ks.length
    · rw [tAt_go hi.1 hi.2] at h
      have := tAt_sz h
      have := szTm_kid (t := t) (x := t.ks[i.toNat]'(by omega)) (List.getElem_mem _)
      omega
    · rw [tAt_no hi] at h; cases h
/-- TermAt in plain words. -/
def mTermAt (t : Tm) (path : List Int) : Tm × Bool := if castValid t = true then (match tAt t path with | some x => (x, true) | none => (tm0, false)) else (tm0, false)
theorem mTermAt_sz (t : Tm) (path : List Int) : szTm (mTermAt t path).1 ≤ szTm t := by
  have h0 : szTm tm0 ≤ szTm t := by
    have : szTm tm0 = 0 := by decide
    have := szTm_nn t; omega
  unfold mTermAt
  split
  · split
    · rename_i x hx; exact tAt_sz hx
    · exact h0
  · exact h0
theorem mTermAt_yes {t x : Tm} {path : List Int} (h : castValid t = true) (hx : tAt t path = some x) : mTermAt t path = (x, true) := by unfold mTermAt; rw [if_pos h, hx]
theorem mTermAt_no {t : Tm} {path : List Int} (hx : tAt t path = none) : mTermAt t path = (tm0, false) := by unfold mTermAt; rw [hx]; split <;> rfl
theorem mTermAt_bad {t : Tm} {path : List Int} (h : ¬ castValid t = true) : mTermAt t path = (tm0, false) := by unfold mTermAt; rw [if_neg h]
/-- A term and a truth value, the term in memory of its own. -/
def TbP (r : Tm × Bool) (G : IM) : IM → Value → List Ent → Prop := Imm fun G' v => ∃ cells F, v = .tuple ⟨[.agg ⟨cells⟩, .bool r.2]⟩ ∧ STm (Dif G' G) r.1 cells F ∧ F.Nodup
theorem TbP.mk {r : Tm × Bool} {x : Tm} {b : Bool} {G G' : IM} {cells : List Value} {F : List Nat} (h : r = (x, b)) (hs : STm (Dif G' G) x cells F) (hn : F.Nodup) : TbP r G G' (.tuple ⟨[.agg ⟨cells⟩, .bool b]⟩) [] := by
  subst h; exact ⟨rfl, cells, F, rfl, hs, hn⟩
theorem not_t {b : Bool} (h : b = false) : ¬ b = true := by rw [h]; simp
set_option maxHeartbeats 0 in
set_option maxRecDepth 100000 in
theorem termAt_fn (t : Tm) (path : List Int) (G : IM) (cells : List Value) (p : Option Addr) (c : Nat) (hts : szTm t ≤ 4294967296) (hr : RTm G t cells) (hp : Sl G p path.length c 1 (ints path)) :
    Fn Try.prog 31 [.agg ⟨cells⟩, .slice p path.length c] [] G (TbP (mTermAt t path) G) := by
  have hl := hr.len
  have hone := hr.one
  have hv := castValid_fn t G cells hr
  have hA := at_fn t path G cells p c hr hp
  refine fn_enter Try.func31 rfl Try.ntmps31 Try.results31 rfl ?_
  intro w0
  refine tri_seq ?_
  refine tri_region ?_
  (refine seq_step (step_box_a rfl rfl) rfl ?_; rintro _ ⟨b3, rfl⟩)
  (refine seq_step (step_alloc rfl) rfl ?_; rintro _ ⟨b4, rfl⟩)
  refine seq_pure (pure_assign rfl) rfl rfl ?_
  refine seq_done ?_
  refine nrm_seq ?_
  refine tri_seq ?_
  refine tri_seq ?_
  refine tri_region ?_
  refine seq_load (load_a rfl rfl (at_blk_all (by repeat (first | exact List.Mem.head _ | apply List.Mem.tail))) (by assumption)) rfl rfl ?_
  refine seq_valb rfl (hv) rfl rfl (fun h12 => ?_) (fun h12 => ?_)
  · refine seq_pure (pure_not_t rfl) rfl rfl ?_
    refine seq_done ?_
    refine nrm_seq ?_
    refine tri_cond_f rfl ?_
    refine tri_skip ?_
    refine nrm_seq ?_
    refine tri_seq ?_
    refine tri_region ?_
    refine seq_load (load_a rfl rfl (at_blk_all (by repeat (first | exact List.Mem.head _ | apply List.Mem.tail))) (by assumption)) rfl rfl ?_
    refine seq_pure (pure_move rfl) rfl rfl ?_
    (refine seq_own rfl hA rfl rfl (fun v23 G23 outs23 hle23 h23 => ?_); obtain ⟨hG, rfl, hh⟩ := h23; replace hG := hG.symm; subst hG; rcases hh with ⟨x, cx, hx, hrx, rfl⟩ | ⟨hx, rfl⟩)
    · refine seq_pure (pure_move rfl) rfl rfl ?_
      refine seq_pure (pure_extract rfl rfl) rfl rfl ?_
      refine seq_pure (pure_extract rfl rfl) rfl rfl ?_
      (refine seq_step (step_alloc rfl) rfl ?_; rintro _ ⟨b27, rfl⟩)
      refine seq_store rfl rfl rfl hrx.len hrx.one rfl (by repeat (first | exact Sw.here | apply Sw.there)) (by exact upd_all hrx.len.symm) ?_
      refine seq_pure (pure_assign rfl) rfl rfl ?_
      refine seq_done ?_
      refine nrm_seq ?_
      refine tri_seq ?_
      refine tri_seq ?_
      refine tri_region ?_
      refine seq_pure (pure_move rfl) rfl rfl ?_
      refine seq_pure (pure_not_t rfl) rfl rfl ?_
      refine seq_done ?_
      refine nrm_seq ?_
      refine tri_cond_f rfl ?_
      refine tri_skip ?_
      refine nrm_seq ?_
      refine tri_seq ?_
      refine tri_region ?_
      refine seq_load (load_a rfl rfl (at_blk_all (by repeat (first | exact List.Mem.head _ | apply List.Mem.tail))) hrx.len) rfl rfl ?_
      (refine seq_imm rfl (own_fn x G cx (small_tm x (by have := tAt_sz hx; omega)) hrx) rfl rfl (fun v G3 hle3 hh => ?_); obtain ⟨cells', F', rfl, hs', hnd'⟩ := hh; have hl' := hs'.R.len; have ho' := hs'.R.one)
      refine seq_store rfl rfl rfl hl' ho' rfl (by repeat (first | exact Sw.here | apply Sw.there)) (by exact upd_all hl'.symm) ?_
      refine seq_pure (pure_assign rfl) rfl rfl ?_
      refine seq_done ?_
      refine nrm_seq ?_
      refine tri_ret ?_
      refine ret_fin2 (res_cell rfl (load_a rfl rfl (at_blk_all (by repeat (first | exact List.Mem.head _ | apply List.Mem.tail))) hl')) (res_tmp rfl) ?_
      exact TbP.mk (mTermAt_yes (by assumption) hx) hs' hnd'
    · refine seq_pure (pure_move rfl) rfl rfl ?_
      refine seq_pure (pure_extract rfl rfl) rfl rfl ?_
      refine seq_pure (pure_extract rfl rfl) rfl rfl ?_
      (refine seq_step (step_alloc rfl) rfl ?_; rintro _ ⟨b56, rfl⟩)
      refine seq_store rfl rfl rfl rfl rfl rfl (by repeat (first | exact Sw.here | apply Sw.there)) (by rfl) ?_
      refine seq_pure (pure_assign rfl) rfl rfl ?_
      refine seq_done ?_
      refine nrm_seq ?_
      refine tri_seq ?_
      refine tri_seq ?_
      refine tri_region ?_
      refine seq_pure (pure_move rfl) rfl rfl ?_
      refine seq_pure (pure_not_f rfl) rfl rfl ?_
      refine seq_done ?_
      refine nrm_seq ?_
      refine tri_cond_t rfl ?_
      refine tri_seq ?_
      refine tri_region ?_
      refine seq_pure (pure_build rfl rfl) rfl rfl ?_
      refine seq_store rfl rfl rfl rfl rfl rfl (by repeat (first | exact Sw.here | apply Sw.there)) (by rfl) ?_
      refine seq_pure (pure_assign rfl) rfl rfl ?_
      refine seq_done ?_
      refine nrm_seq ?_
      refine tri_ret ?_
      refine ret_seq ?_
      refine ret_fin2 (res_cell rfl (load_ba rfl rfl (by repeat (first | exact List.Mem.head _ | apply List.Mem.tail)) (by rfl))) (res_tmp rfl) ?_
      exact TbP.mk (mTermAt_no hx) (STm.zero _) (by simp)
  · refine seq_pure (pure_not_f rfl) rfl rfl ?_
    refine seq_done ?_
    refine nrm_seq ?_
    refine tri_cond_t rfl ?_
    refine tri_seq ?_
    refine tri_region ?_
    refine seq_pure (pure_build rfl rfl) rfl rfl ?_
    refine seq_store rfl rfl rfl rfl rfl rfl (by repeat (first | exact Sw.here | apply Sw.there)) (by rfl) ?_
    refine seq_pure (pure_assign rfl) rfl rfl ?_
    refine seq_done ?_
    refine nrm_seq ?_
    refine tri_ret ?_
    refine ret_seq ?_
    refine ret_fin2 (res_cell rfl (load_ba rfl rfl (by repeat (first | exact List.Mem.head _ | apply List.Mem.tail)) (by rfl))) (res_tmp rfl) ?_
    exact TbP.mk (mTermAt_bad (not_t (by assumption))) (STm.zero _) (by simp)
set_option maxHeartbeats 0 in
set_option maxRecDepth 100000 in
theorem sTermAt_fn (t : Tm) (path : List Int) (G : IM) (cells : List Value) (p : Option Addr) (c : Nat) (hts : szTm t ≤ 4294967295) (hr : RTm G t cells) (hp : Sl G p path.length c 1 (ints path)) :
    Fn Try.prog 29 [.agg ⟨cells⟩, .slice p path.length c] [] G (TbP (mTermAt t path) G) := by
  have hl := hr.len
  have hone := hr.one
  have hv := sCastValid_fn t G cells (by have := count_sz t; omega) hr
  have hA := l16At_fn t path G cells p c hr hp
  refine fn_enter Try.func29 rfl Try.ntmps29 Try.results29 rfl ?_
  intro w0
  refine tri_seq ?_
  refine tri_region ?_
  (refine seq_step (step_box_a rfl rfl) rfl ?_; rintro _ ⟨b3, rfl⟩)
  (refine seq_step (step_alloc rfl) rfl ?_; rintro _ ⟨b4, rfl⟩)
  refine seq_pure (pure_assign rfl) rfl rfl ?_
  refine seq_done ?_
  refine nrm_seq ?_
  refine tri_seq ?_
  refine tri_region ?_
  refine seq_load (load_a rfl rfl (at_blk_all (by repeat (first | exact List.Mem.head _ | apply List.Mem.tail))) (by assumption)) rfl rfl ?_
  refine seq_pure (pure_move rfl) rfl rfl ?_
  (refine seq_own rfl hA rfl rfl (fun v12 G12 outs12 hle12 h12 => ?_); obtain ⟨hG, rfl, hh⟩ := h12; replace hG := hG.symm; subst hG; rcases hh with ⟨x, cx, hx, hrx, rfl⟩ | ⟨hx, rfl⟩)
  · refine seq_pure (pure_move rfl) rfl rfl ?_
    refine seq_pure (pure_extract rfl rfl) rfl rfl ?_
    refine seq_pure (pure_extract rfl rfl) rfl rfl ?_
    (refine seq_step (step_alloc rfl) rfl ?_; rintro _ ⟨b16, rfl⟩)
    refine seq_store rfl rfl rfl hrx.len hrx.one rfl (by repeat (first | exact Sw.here | apply Sw.there)) (by exact upd_all hrx.len.symm) ?_
    refine seq_pure (pure_assign rfl) rfl rfl ?_
    refine seq_done ?_
    refine nrm_seq ?_
    refine tri_seq ?_
    refine tri_seq ?_
    refine tri_region ?_
    refine seq_load (load_a rfl rfl (at_blk_all (by repeat (first | exact List.Mem.head _ | apply List.Mem.tail))) (by assumption)) rfl rfl ?_
    refine seq_valb rfl (hv) rfl rfl (fun h25 => ?_) (fun h25 => ?_)
    · refine seq_pure (pure_not_t rfl) rfl rfl ?_
      refine seq_pure (pure_move rfl) rfl rfl ?_
      refine seq_pure (pure_move rfl) rfl rfl ?_
      refine seq_pure (pure_not_t rfl) rfl rfl ?_
      refine seq_pure (pure_pick_f rfl rfl) rfl rfl ?_
      refine seq_done ?_
      refine nrm_seq ?_
      refine tri_cond_f rfl ?_
      refine tri_skip ?_
      refine nrm_seq ?_
      refine tri_seq ?_
      refine tri_region ?_
      refine seq_load (load_a rfl rfl (at_blk_all (by repeat (first | exact List.Mem.head _ | apply List.Mem.tail))) hrx.len) rfl rfl ?_
      (refine seq_imm rfl (l2Copy_fn x G cx (small_tm x (by have := tAt_sz hx; omega)) hrx) rfl rfl (fun v G3 hle3 hh => ?_); obtain ⟨cells', F', rfl, hs', hnd'⟩ := hh; have hl' := hs'.R.len; have ho' := hs'.R.one)
      refine seq_store rfl rfl rfl hl' ho' rfl (by repeat (first | exact Sw.here | apply Sw.there)) (by exact upd_all hl'.symm) ?_
      refine seq_pure (pure_assign rfl) rfl rfl ?_
      refine seq_done ?_
      refine nrm_seq ?_
      refine tri_ret ?_
      refine ret_fin2 (res_cell rfl (load_a rfl rfl (at_blk_all (by repeat (first | exact List.Mem.head _ | apply List.Mem.tail))) hl')) (res_tmp rfl) ?_
      exact TbP.mk (mTermAt_yes (by assumption) hx) hs' hnd'
    · refine seq_pure (pure_not_f rfl) rfl rfl ?_
      refine seq_pure (pure_move rfl) rfl rfl ?_
      refine seq_skip rfl rfl ?_
      refine seq_skip rfl rfl ?_
      refine seq_pure (pure_pick_t rfl rfl) rfl rfl ?_
      refine seq_done ?_
      refine nrm_seq ?_
      refine tri_cond_t rfl ?_
      refine tri_seq ?_
      refine tri_region ?_
      refine seq_pure (pure_build rfl rfl) rfl rfl ?_
      refine seq_store rfl rfl rfl rfl rfl rfl (by repeat (first | exact Sw.here | apply Sw.there)) (by rfl) ?_
      refine seq_pure (pure_assign rfl) rfl rfl ?_
      refine seq_done ?_
      refine nrm_seq ?_
      refine tri_ret ?_
      refine ret_seq ?_
      refine ret_fin2 (res_cell rfl (load_ba rfl rfl (by repeat (first | exact List.Mem.head _ | apply List.Mem.tail)) (by rfl))) (res_tmp rfl) ?_
      exact TbP.mk (mTermAt_bad (not_t (by assumption))) (STm.zero _) (by simp)
  · refine seq_pure (pure_move rfl) rfl rfl ?_
    refine seq_pure (pure_extract rfl rfl) rfl rfl ?_
    refine seq_pure (pure_extract rfl rfl) rfl rfl ?_
    (refine seq_step (step_alloc rfl) rfl ?_; rintro _ ⟨b69, rfl⟩)
    refine seq_store rfl rfl rfl rfl rfl rfl (by repeat (first | exact Sw.here | apply Sw.there)) (by rfl) ?_
    refine seq_pure (pure_assign rfl) rfl rfl ?_
    refine seq_done ?_
    refine nrm_seq ?_
    refine tri_seq ?_
    refine tri_seq ?_
    refine tri_region ?_
    refine seq_load (load_a rfl rfl (at_blk_all (by repeat (first | exact List.Mem.head _ | apply List.Mem.tail))) (by assumption)) rfl rfl ?_
    refine seq_valb rfl (hv) rfl rfl (fun h78 => ?_) (fun h78 => ?_)
    · refine seq_pure (pure_not_t rfl) rfl rfl ?_
      refine seq_pure (pure_move rfl) rfl rfl ?_
      refine seq_pure (pure_move rfl) rfl rfl ?_
      refine seq_pure (pure_not_f rfl) rfl rfl ?_
      refine seq_pure (pure_pick_f rfl rfl) rfl rfl ?_
      refine seq_done ?_
      refine nrm_seq ?_
      refine tri_cond_t rfl ?_
      refine tri_seq ?_
      refine tri_region ?_
      refine seq_pure (pure_build rfl rfl) rfl rfl ?_
      refine seq_store rfl rfl rfl rfl rfl rfl (by repeat (first | exact Sw.here | apply Sw.there)) (by rfl) ?_
      refine seq_pure (pure_assign rfl) rfl rfl ?_
      refine seq_done ?_
      refine nrm_seq ?_
      refine tri_ret ?_
      refine ret_seq ?_
      refine ret_fin2 (res_cell rfl (load_ba rfl rfl (by repeat (first | exact List.Mem.head _ | apply List.Mem.tail)) (by rfl))) (res_tmp rfl) ?_
      exact TbP.mk (mTermAt_no hx) (STm.zero _) (by simp)
    · refine seq_pure (pure_not_f rfl) rfl rfl ?_
      refine seq_pure (pure_move rfl) rfl rfl ?_
      refine seq_skip rfl rfl ?_
      refine seq_skip rfl rfl ?_
      refine seq_pure (pure_pick_t rfl rfl) rfl rfl ?_
      refine seq_done ?_
      refine nrm_seq ?_
      refine tri_cond_t rfl ?_
      refine tri_seq ?_
      refine tri_region ?_
      refine seq_pure (pure_build rfl rfl) rfl rfl ?_
      refine seq_store rfl rfl rfl rfl rfl rfl (by repeat (first | exact Sw.here | apply Sw.there)) (by rfl) ?_
      refine seq_pure (pure_assign rfl) rfl rfl ?_
      refine seq_done ?_
      refine nrm_seq ?_
      refine tri_ret ?_
      refine ret_seq ?_
      refine ret_fin2 (res_cell rfl (load_ba rfl rfl (by repeat (first | exact List.Mem.head _ | apply List.Mem.tail)) (by rfl))) (res_tmp rfl) ?_
      exact TbP.mk (mTermAt_no hx) (STm.zero _) (by simp)
end Gw
end Go.Proofs.Ytlefgfdhlblahaa
namespace Go.Proofs.Ytlefgfdhlblahaa
open Go Go.RowKit
namespace Gw
mutual
def mBare : Tm → Tm
  | .mk k nm num ty fr lb ks => if k = 13 ∨ k = 14 then (mBareL ks).headD tm0 else .mk k nm num (if k = 5 then tyAny else ty0) ty0 0 (mBareL ks)
def mBareL : List Tm → List Tm
  | [] => []
  | t :: ts => mBare t :: mBareL ts
end
theorem mBareL_eq : ∀ ks, mBareL ks = ks.map mBare
  | [] => rfl
  | t :: ts => by rw [mBareL, mBareL_eq ts, List.map_cons]
/-- The change that is made at a node. -/
def bareG : Tm → Tm
  | .mk k nm num ty fr lb ks => if k = 13 ∨ k = 14 then ks.headD tm0 else if k = 5 then .mk k nm num tyAny fr lb ks else .mk k nm num ty fr lb ks
def bareQ : Tm → Prop
  | .mk k _ _ _ _ _ ks => k = 13 ∨ k = 14 → ks ≠ []
theorem tNone_eq {t : Ty} (h : tNone t = true) : t = ty0 := by
  obtain ⟨k, ks⟩ := t
  obtain ⟨h1, h2⟩ : (Ty.mk k ks).k = 0 ∧ (Ty.mk k ks).ks.length = 0 := of_decide_eq_true h
  simp only [Ty.k, Ty.ks] at h1 h2
  have h3 : ks = [] := List.length_eq_zero_iff.1 (by omega)
  rw [h3, ty0]
  congr
theorem sShape_go2 {D N : Int} {k : Int} {nm : ByteArray} {num : Int} {ty fr : Ty} {lb : Int} {ks : List Tm} {d : Int} (h : sShape D N (.mk k nm num ty fr lb ks) d = true) : d ≤ D ∧ k ≠ N ∧ tmNode k nm num ty fr lb ks.length = true ∧ sShapeL D N ks (d + 1) = true := by
  rw [sShape] at h
  simp only [Bool.and_eq_true, decide_eq_true_eq] at h
  exact ⟨h.1.1.1, h.1.1.2, h.1.2, h.2⟩
mutual
theorem bare_map (D N : Int) : ∀ (t : Tm) (d : Int), sShape D N t d = true → mMap bareG t = mBare t ∧ mOk bareQ bareG t
  | .mk k nm num ty fr lb ks, d, h => by
    obtain ⟨h1, h2, h3, h4⟩ := sShape_go2 h
    obtain ⟨e1, e2⟩ := bare_mapL D N ks _ h4
    have hn := tmNode_iff.1 h3
    rw [mMap, mBare, mOk, e1]
    refine ⟨?_, e2, ?_⟩
    · rw [bareG]
      by_cases hk : k = 13 ∨ k = 14
      · rw [if_pos hk, if_pos hk]
      · rw [if_neg hk, if_neg hk]
        obtain ⟨hf, hl⟩ := hn.2.2.2.2.2.2.2.2 (by omega)
        rw [tNone_eq hf, hl]
        by_cases hk5 : k = 5
        · rw [if_pos hk5, if_pos hk5]
        · rw [if_neg hk5, if_neg hk5, tNone_eq (hn.2.2.2.2.2.2.1 (by omega))]
    · rw [bareQ]
      intro hk he
      have ha := hn.1
      have : ks.length = 0 := by
        have := congrArg List.length he
        rw [mBareL_eq, List.length_map] at this
        simpa using this
      rcases hk with rfl | rfl <;> (rw [this] at ha; revert ha; decide)
theorem bare_mapL (D N : Int) : ∀ (ts : List Tm) (d : Int), sShapeL D N ts d = true → mMapL bareG ts = mBareL ts ∧ mOkL bareQ bareG ts
  | [], d, h => by rw [mMapL, mBareL, mOkL]; exact ⟨rfl, trivial⟩
  | t :: ts, d, h => by
    rw [sShapeL, Bool.and_eq_true] at h
    obtain ⟨a1, a2⟩ := bare_map D N t d h.1
    obtain ⟨b1, b2⟩ := bare_mapL D N ts d h.2
    rw [mMapL, mBareL, mOkL, a1, b1]
    exact ⟨rfl, a2, b2⟩
end
mutual
theorem bare_shape : ∀ (t : Tm) (d : Int), sShape 12 14 (mBare t) d = true → sShape 40 13 (mBare t) d = true
  | .mk k nm num ty fr lb ks, d, h => by
    rw [mBare] at h ⊢
    by_cases hk : k = 13 ∨ k = 14
    · rw [if_pos hk] at h ⊢
      cases ks with
      | nil => exact absurd (sShape_go2 (D := 12) (N := 14) h).2.2.1 (by decide)
      | cons x xs =>
        rw [mBareL] at h ⊢
        exact bare_shape x d h
    · rw [if_neg hk] at h ⊢
      obtain ⟨h1, h2, h3, h4⟩ := sShape_go2 h
      rw [sShape_go (by omega) (by omega) h3]
      exact bare_shapeL ks _ h4
theorem bare_shapeL : ∀ (ts : List Tm) (d : Int), sShapeL 12 14 (mBareL ts) d = true → sShapeL 40 13 (mBareL ts) d = true
  | [], d, h => by rw [mBareL, sShapeL]
  | t :: ts, d, h => by
    rw [mBareL, sShapeL, Bool.and_eq_true] at h ⊢
    exact ⟨bare_shape t d h.1, bare_shapeL ts d h.2⟩
end
theorem bare_cast {t : Tm} (h : termValid (mBare t) = true) : castValid (mBare t) = true := by
  obtain ⟨h1, h2⟩ := (termValid_iff _).1 h
  exact (castValid_iff _).2 ⟨bare_shape t 1 h1, by omega⟩
mutual
theorem bare_small : ∀ t : Tm, t.small → (mBare t).small ∧ tmCount (mBare t) ≤ tmCount t
  | .mk k nm num ty fr lb ks, h => by
    simp only [Tm.small] at h
    obtain ⟨h1, h2, h3, h4, h5⟩ := h
    obtain ⟨b1, b2⟩ := bare_smallL ks h5
    rw [mBare]
    by_cases hk : k = 13 ∨ k = 14
    · rw [if_pos hk]
      cases ks with
      | nil => exact ⟨by simp [mBareL, tm0, Tm.small, Ty.small, Ty.smallL, Tm.smallL, ByteArray.size], by rw [tmCount]; simp [mBareL, tm0, tmCount, tmCountL]⟩
      | cons x xs =>
        simp only [Tm.smallL] at h5
        obtain ⟨c1, c2⟩ := bare_small x h5.1
        rw [mBareL, tmCount, tmCountL]
        exact ⟨c1, by show tmCount (mBare x) ≤ _; omega⟩
    · rw [if_neg hk]
      simp only [Tm.small, tmCount]
      refine ⟨⟨h1, ?_, by simp [ty0, Ty.small, Ty.smallL], by rw [mBareL_eq, List.length_map]; exact h4, b1⟩, by omega⟩
      by_cases hk5 : k = 5
      · rw [if_pos hk5]; simp [tyAny, Ty.small, Ty.smallL]
      · rw [if_neg hk5]; simp [ty0, Ty.small, Ty.smallL]
theorem bare_smallL : ∀ ts : List Tm, Tm.smallL ts → Tm.smallL (mBareL ts) ∧ tmCountL (mBareL ts) ≤ tmCountL ts
  | [], h => by rw [mBareL]; simp [Tm.smallL]
  | t :: ts, h => by
    simp only [Tm.smallL] at h
    obtain ⟨a1, a2⟩ := bare_small t h.1
    obtain ⟨b1, b2⟩ := bare_smallL ts h.2
    rw [mBareL, tmCountL, tmCountL]
    simp only [Tm.smallL]
    exact ⟨⟨a1, b1⟩, by omega⟩
end
end Gw
end Go.Proofs.Ytlefgfdhlblahaa
namespace Go.Proofs.Ytlefgfdhlblahaa
open Go Go.RowKit
namespace Gw
theorem tyAny_s (G : IM) : STy G tyAny [.int .i64 1, .slice none 0 0] [] := by
  simp only [tyAny, STy, STyL]
  exact ⟨none, 0, [], [], rfl, ⟨by omega, by omega⟩, SlE.nil _ _, ⟨rfl, rfl⟩, rfl, by simp [vfp]⟩
theorem ty0_s (G : IM) : STy G ty0 [.int .i64 0, .slice none 0 0] [] := by
  simp only [ty0, STy, STyL]
  exact ⟨none, 0, [], [], rfl, ⟨by omega, by omega⟩, SlE.nil _ _, ⟨rfl, rfl⟩, rfl, by simp [vfp]⟩
set_option maxHeartbeats 0 in
set_option maxRecDepth 100000 in
theorem bare1_fn (t : Tm) (G0 G1 : IM) (cells : List Value) (F : List Nat) (hQ : bareQ t) (hle : IMle G0 G1) (hs : STm (Dif G1 G0) t cells F) (hn : F.Nodup) :
    Fn Try.prog 72 [.agg ⟨cells⟩] [] G1 (Imm fun G2 v => G2 = G1 ∧ ∃ cells' F', v = .agg ⟨cells'⟩ ∧ STm (Dif G1 G0) (bareG t) cells' F' ∧ F'.Nodup) := by
  obtain ⟨k, nm, num, ty, fr, lb, ks⟩ := t
  have hs0 := hs
  rw [bareQ] at hQ
  have hbA : k = 13 ∨ k = 14 → bareG (.mk k nm num ty fr lb ks) = ks.headD tm0 := fun h => by rw [bareG, if_pos h]
  have hbB : k = 5 → bareG (.mk k nm num ty fr lb ks) = .mk k nm num tyAny fr lb ks := fun h => by rw [bareG, if_neg (by omega), if_pos h]
  have hbC : ¬(k = 13 ∨ k = 14) → k ≠ 5 → bareG (.mk k nm num ty fr lb ks) = .mk k nm num ty fr lb ks := fun h h' => by rw [bareG, if_neg h, if_neg h']
  simp only [STm] at hs
  obtain ⟨tc, fc, p, c, es, F1, F2, Fs, rfl, hk, hnum, hlb, hty, hfr, hsl, hkl, rfl, hin⟩ := hs
  obtain ⟨pt, ct, rfl, htk, hts⟩ := hty.open
  obtain ⟨pf, cf, rfl, hfk, hfs⟩ := hfr.open
  have hslG := hsl.mono (Dif.le G1 G0)
  have hnd := hn
  rw [List.nodup_append, List.nodup_append] at hnd
  obtain ⟨n1, ⟨n2, n3, n4⟩, n5⟩ := hnd
  have hB : STm (Dif G1 G0) (.mk k nm num tyAny fr lb ks) [.int .i64 k, .string nm, .int .i64 num, .int .i64 1, .slice none 0 0, .int .i64 fr.k, .slice pf fr.ks.length cf, .int .i64 lb, .slice p ks.length c] ([] ++ (F2 ++ (vfp p ++ Fs))) := by
    simp only [STm]
    exact ⟨[.int .i64 1, .slice none 0 0], [.int .i64 fr.k, .slice pf fr.ks.length cf], p, c, es, [], F2, Fs, rfl, hk, hnum, hlb, tyAny_s _, hfr, hsl, hkl, rfl, hin⟩
  have hBn : ([] ++ (F2 ++ (vfp p ++ Fs))).Nodup := by
    rw [List.nil_append, List.nodup_append]; exact ⟨n2, n3, n4⟩
  refine fn_enter Try.func72 rfl Try.ntmps72 Try.results72 rfl ?_
  intro w0
  refine tri_seq ?_
  refine tri_region ?_
  (refine seq_step (step_box_a rfl rfl) rfl ?_; rintro _ ⟨b3, rfl⟩)
  (refine seq_step (step_alloc rfl) rfl ?_; rintro _ ⟨b4, rfl⟩)
  refine seq_done ?_
  refine nrm_seq ?_
  refine tri_seq ?_
  refine tri_seq ?_
  refine tri_region ?_
  refine seq_pure (pure_fieldAddr0 rfl) rfl rfl ?_
  refine seq_load (load_bs rfl rfl (by repeat (first | exact List.Mem.head _ | apply List.Mem.tail)) (by rfl)) rfl rfl ?_
  refine seq_done ?_
  refine nrm_seq ?_
  refine tri_block ?_
  refine tri_seq ?_
  refine tri_seq ?_
  refine tri_region ?_
  refine seq_bool (pure_eql rfl rfl) rfl rfl (fun h18 => ?_) (fun h18 => ?_)
  · refine seq_pure (pure_assign rfl) rfl rfl ?_
    refine seq_done ?_
    refine nrm_seq ?_
    refine tri_cond_t rfl ?_
    refine tri_skip ?_
    refine nrm_seq ?_
    refine tri_cond_t rfl ?_
    refine tri_seq ?_
    refine tri_region ?_
    refine seq_pure (pure_fieldAddr0 rfl) rfl rfl ?_
    refine seq_load (load_bs rfl rfl (by repeat (first | exact List.Mem.head _ | apply List.Mem.tail)) (by rfl)) rfl rfl ?_
    (obtain ⟨x, xs, rfl⟩ : ∃ x xs, ks = x :: xs := List.exists_cons_of_ne_nil (hQ (by omega)); simp only [STmL] at hkl; obtain ⟨e0, es0, Fa, Fb, rfl, hx, hxs, rfl⟩ := hkl; obtain ⟨e', b, o, he', rfl, hl, _, hat, _⟩ := hslG.get (i := 0) (by simp); simp only [List.getElem?_cons_zero, Option.some.injEq] at he'; subst he'; refine seq_pure (pure_indexAddrN (j := 0) rfl rfl rfl (by simp)) rfl rfl ?_)
    refine seq_load (load_a rfl rfl (hat _) hl) rfl rfl ?_
    refine seq_store rfl rfl rfl hl hx.R.one rfl (by repeat (first | exact Sw.here | apply Sw.there)) (by exact upd_all hl.symm) ?_
    refine seq_done ?_
    refine nrm_seq ?_
    refine tri_ret ?_
    refine ret_block ?_
    refine ret_seq ?_
    refine ret_fin1 (res_cell rfl (load_a rfl rfl (at_blk_all (by repeat (first | exact List.Mem.head _ | apply List.Mem.tail))) hl)) ?_
    (rw [hbA (by omega)]; exact ⟨rfl, rfl, _, _, rfl, hx, by rw [List.nodup_append, List.nodup_append] at n3; exact n3.2.1.1⟩)
  · refine seq_pure (pure_assign rfl) rfl rfl ?_
    refine seq_done ?_
    refine nrm_seq ?_
    refine tri_cond_f rfl ?_
    refine tri_region ?_
    refine seq_bool (pure_eql rfl rfl) rfl rfl (fun h45 => ?_) (fun h45 => ?_)
    · refine seq_pure (pure_assign rfl) rfl rfl ?_
      refine seq_done ?_
      refine nrm_seq ?_
      refine tri_cond_t rfl ?_
      refine tri_seq ?_
      refine tri_region ?_
      refine seq_pure (pure_fieldAddr0 rfl) rfl rfl ?_
      refine seq_load (load_bs rfl rfl (by repeat (first | exact List.Mem.head _ | apply List.Mem.tail)) (by rfl)) rfl rfl ?_
      (obtain ⟨x, xs, rfl⟩ : ∃ x xs, ks = x :: xs := List.exists_cons_of_ne_nil (hQ (by omega)); simp only [STmL] at hkl; obtain ⟨e0, es0, Fa, Fb, rfl, hx, hxs, rfl⟩ := hkl; obtain ⟨e', b, o, he', rfl, hl, _, hat, _⟩ := hslG.get (i := 0) (by simp); simp only [List.getElem?_cons_zero, Option.some.injEq] at he'; subst he'; refine seq_pure (pure_indexAddrN (j := 0) rfl rfl rfl (by simp)) rfl rfl ?_)
      refine seq_load (load_a rfl rfl (hat _) hl) rfl rfl ?_
      refine seq_store rfl rfl rfl hl hx.R.one rfl (by repeat (first | exact Sw.here | apply Sw.there)) (by exact upd_all hl.symm) ?_
      refine seq_done ?_
      refine nrm_seq ?_
      refine tri_ret ?_
      refine ret_block ?_
      refine ret_seq ?_
      refine ret_fin1 (res_cell rfl (load_a rfl rfl (at_blk_all (by repeat (first | exact List.Mem.head _ | apply List.Mem.tail))) hl)) ?_
      (rw [hbA (by omega)]; exact ⟨rfl, rfl, _, _, rfl, hx, by rw [List.nodup_append, List.nodup_append] at n3; exact n3.2.1.1⟩)
    · refine seq_pure (pure_assign rfl) rfl rfl ?_
      refine seq_done ?_
      refine nrm_seq ?_
      refine tri_cond_f rfl ?_
      refine tri_seq ?_
      refine tri_region ?_
      refine seq_bool (pure_eql rfl rfl) rfl rfl (fun h70 => ?_) (fun h70 => ?_)
      · refine seq_pure (pure_assign rfl) rfl rfl ?_
        refine seq_done ?_
        refine nrm_seq ?_
        refine tri_cond_t rfl ?_
        refine tri_region ?_
        refine seq_val rfl (base_fn _ _) rfl rfl ?_
        refine seq_pure (pure_fieldAddr0 rfl) rfl rfl ?_
        refine seq_store rfl rfl rfl rfl rfl rfl (by repeat (first | exact Sw.here | apply Sw.there)) (by rfl) ?_
        refine seq_done ?_
        refine nrm_block ?_
        refine nrm_seq ?_
        refine tri_seq ?_
        refine tri_region ?_
        refine seq_load (load_ba rfl rfl (by repeat (first | exact List.Mem.head _ | apply List.Mem.tail)) (by rfl)) rfl rfl ?_
        refine seq_store rfl rfl rfl rfl rfl rfl (by repeat (first | exact Sw.here | apply Sw.there)) (by rfl) ?_
        refine seq_done ?_
        refine nrm_seq ?_
        refine tri_ret ?_
        refine ret_fin1 (res_cell rfl (load_ba rfl rfl (by repeat (first | exact List.Mem.head _ | apply List.Mem.tail)) (by rfl))) ?_
        (rw [hbB (by omega)]; exact ⟨rfl, rfl, _, _, rfl, hB, hBn⟩)
      · refine seq_pure (pure_assign rfl) rfl rfl ?_
        refine seq_done ?_
        refine nrm_seq ?_
        refine tri_cond_f rfl ?_
        refine tri_skip ?_
        refine nrm_block ?_
        refine nrm_seq ?_
        refine tri_seq ?_
        refine tri_region ?_
        refine seq_load (load_ba rfl rfl (by repeat (first | exact List.Mem.head _ | apply List.Mem.tail)) (by rfl)) rfl rfl ?_
        refine seq_store rfl rfl rfl rfl rfl rfl (by repeat (first | exact Sw.here | apply Sw.there)) (by rfl) ?_
        refine seq_done ?_
        refine nrm_seq ?_
        refine tri_ret ?_
        refine ret_fin1 (res_cell rfl (load_ba rfl rfl (by repeat (first | exact List.Mem.head _ | apply List.Mem.tail)) (by rfl))) ?_
        (rw [hbC (by omega) (by omega)]; exact ⟨rfl, rfl, _, _, rfl, hs0, hn⟩)
theorem mapOk_bare : MapOk bareG bareQ 72 [] [] := fun t G0 G1 cells F hQ hle hs hn =>
  (bare1_fn t G0 G1 cells F hQ hle hs hn).mono fun G' v outs _ ⟨h1, h2, c', F', h3, h4, h5⟩ => ⟨h1, c', F', h3, by rw [h2]; exact h4, h5⟩
set_option maxRecDepth 100000 in
theorem bare_fn (t : Tm) (G : IM) (cells : List Value) (D N : Int) (hv : sShape D N t 1 = true) (hts : t.small) (hr : RTm G t cells) : Fn Try.prog 38 [.agg ⟨cells⟩] [] G (ToTm (mBare t) G) := by
  have hl := hr.len
  have hone := hr.one
  obtain ⟨e1, e2⟩ := bare_map D N t 1 hv
  have hM := mapped_fn bareG bareQ 72 [] [] mapOk_bare t G cells e2 hts hr
  rw [e1] at hM
  refine fn_enter Try.func38 rfl Try.ntmps38 Try.results38 rfl ?_
  intro w0
  refine tri_seq ?_
  refine tri_region ?_
  (refine seq_step (step_box_a rfl rfl) rfl ?_; rintro _ ⟨b3, rfl⟩)
  (refine seq_step (step_alloc rfl) rfl ?_; rintro _ ⟨b4, rfl⟩)
  refine seq_done ?_
  refine nrm_seq ?_
  refine tri_seq ?_
  refine tri_region ?_
  refine seq_load (load_a rfl rfl (at_blk_all (by repeat (first | exact List.Mem.head _ | apply List.Mem.tail))) (by assumption)) rfl rfl ?_
  (refine seq_imm rfl hM rfl rfl (fun v G3 hle3 hh => ?_); obtain ⟨cells', F', rfl, hs', hnd'⟩ := hh; have hl' := hs'.R.len; have ho' := hs'.R.one)
  refine seq_store rfl rfl rfl hl' ho' rfl (by repeat (first | exact Sw.here | apply Sw.there)) (by exact upd_all hl'.symm) ?_
  refine seq_done ?_
  refine nrm_seq ?_
  refine tri_ret ?_
  refine ret_fin1 (res_cell rfl (load_a rfl rfl (at_blk_all (by repeat (first | exact List.Mem.head _ | apply List.Mem.tail))) hl')) ?_
  exact ⟨rfl, cells', F', rfl, hs', hnd'⟩
/-- BareTerm in plain words. -/
def mBareTerm (t : Tm) : Tm × Bool := if termValid t = true ∨ castValid t = true then (mBare t, true) else (tm0, false)
set_option maxHeartbeats 0 in
set_option maxRecDepth 100000 in
theorem bareTerm_fn (t : Tm) (G : IM) (cells : List Value) (hts : t.small) (hr : RTm G t cells) : Fn Try.prog 10 [.agg ⟨cells⟩] [] G (TbP (mBareTerm t) G) := by
  have hl := hr.len
  have hone := hr.one
  have hv := castValid_fn t G cells hr
  have hw := termValid_fn t G cells hr
  have hA1 := fun h : termValid t = true => bare_fn t G cells 12 14 ((termValid_iff t).1 h).1 hts hr
  have hA2 := fun h : castValid t = true => bare_fn t G cells 40 13 ((castValid_iff t).1 h).1 hts hr
  refine fn_enter Try.func10 rfl Try.ntmps10 Try.results10 rfl ?_
  intro w0
  refine tri_seq ?_
  refine tri_region ?_
  (refine seq_step (step_box_a rfl rfl) rfl ?_; rintro _ ⟨b3, rfl⟩)
  (refine seq_step (step_alloc rfl) rfl ?_; rintro _ ⟨b4, rfl⟩)
  refine seq_pure (pure_assign rfl) rfl rfl ?_
  refine seq_done ?_
  refine nrm_seq ?_
  refine tri_seq ?_
  refine tri_seq ?_
  refine tri_region ?_
  refine seq_load (load_a rfl rfl (at_blk_all (by repeat (first | exact List.Mem.head _ | apply List.Mem.tail))) (by assumption)) rfl rfl ?_
  refine seq_valb rfl (hw) rfl rfl (fun h12 => ?_) (fun h12 => ?_)
  · refine seq_pure (pure_not_t rfl) rfl rfl ?_
    refine seq_pure (pure_move rfl) rfl rfl ?_
    refine seq_skip rfl rfl ?_
    refine seq_skip rfl rfl ?_
    refine seq_skip rfl rfl ?_
    refine seq_pure (pure_pick_f rfl rfl) rfl rfl ?_
    refine seq_done ?_
    refine nrm_seq ?_
    refine tri_cond_f rfl ?_
    refine tri_skip ?_
    refine nrm_seq ?_
    refine tri_seq ?_
    refine tri_region ?_
    refine seq_load (load_a rfl rfl (at_blk_all (by repeat (first | exact List.Mem.head _ | apply List.Mem.tail))) (by assumption)) rfl rfl ?_
    (refine seq_imm rfl (by first | exact hA1 (by assumption) | exact hA2 (by assumption)) rfl rfl (fun v G3 hle3 hh => ?_); obtain ⟨cells', F', rfl, hs', hnd'⟩ := hh; have hl' := hs'.R.len; have ho' := hs'.R.one)
    refine seq_store rfl rfl rfl hl' ho' rfl (by repeat (first | exact Sw.here | apply Sw.there)) (by exact upd_all hl'.symm) ?_
    refine seq_pure (pure_assign rfl) rfl rfl ?_
    refine seq_done ?_
    refine nrm_seq ?_
    refine tri_ret ?_
    refine ret_fin2 (res_cell rfl (load_a rfl rfl (at_blk_all (by repeat (first | exact List.Mem.head _ | apply List.Mem.tail))) hl')) (res_tmp rfl) ?_
    exact TbP.mk (if_pos (by simp [*])) hs' hnd'
  · refine seq_pure (pure_not_f rfl) rfl rfl ?_
    refine seq_pure (pure_move rfl) rfl rfl ?_
    refine seq_load (load_a rfl rfl (at_blk_all (by repeat (first | exact List.Mem.head _ | apply List.Mem.tail))) (by assumption)) rfl rfl ?_
    refine seq_valb rfl (hv) rfl rfl (fun h38 => ?_) (fun h38 => ?_)
    · refine seq_pure (pure_not_t rfl) rfl rfl ?_
      refine seq_pure (pure_pick_t rfl rfl) rfl rfl ?_
      refine seq_done ?_
      refine nrm_seq ?_
      refine tri_cond_f rfl ?_
      refine tri_skip ?_
      refine nrm_seq ?_
      refine tri_seq ?_
      refine tri_region ?_
      refine seq_load (load_a rfl rfl (at_blk_all (by repeat (first | exact List.Mem.head _ | apply List.Mem.tail))) (by assumption)) rfl rfl ?_
      (refine seq_imm rfl (by first | exact hA1 (by assumption) | exact hA2 (by assumption)) rfl rfl (fun v G3 hle3 hh => ?_); obtain ⟨cells', F', rfl, hs', hnd'⟩ := hh; have hl' := hs'.R.len; have ho' := hs'.R.one)
      refine seq_store rfl rfl rfl hl' ho' rfl (by repeat (first | exact Sw.here | apply Sw.there)) (by exact upd_all hl'.symm) ?_
      refine seq_pure (pure_assign rfl) rfl rfl ?_
      refine seq_done ?_
      refine nrm_seq ?_
      refine tri_ret ?_
      refine ret_fin2 (res_cell rfl (load_a rfl rfl (at_blk_all (by repeat (first | exact List.Mem.head _ | apply List.Mem.tail))) hl')) (res_tmp rfl) ?_
      exact TbP.mk (if_pos (by simp [*])) hs' hnd'
    · refine seq_pure (pure_not_f rfl) rfl rfl ?_
      refine seq_pure (pure_pick_t rfl rfl) rfl rfl ?_
      refine seq_done ?_
      refine nrm_seq ?_
      refine tri_cond_t rfl ?_
      refine tri_seq ?_
      refine tri_region ?_
      refine seq_pure (pure_build rfl rfl) rfl rfl ?_
      refine seq_store rfl rfl rfl rfl rfl rfl (by repeat (first | exact Sw.here | apply Sw.there)) (by rfl) ?_
      refine seq_pure (pure_assign rfl) rfl rfl ?_
      refine seq_done ?_
      refine nrm_seq ?_
      refine tri_ret ?_
      refine ret_seq ?_
      refine ret_fin2 (res_cell rfl (load_ba rfl rfl (by repeat (first | exact List.Mem.head _ | apply List.Mem.tail)) (by rfl))) (res_tmp rfl) ?_
      exact TbP.mk (if_neg (by simp [*])) (STm.zero _) (by simp)
end Gw
end Go.Proofs.Ytlefgfdhlblahaa
