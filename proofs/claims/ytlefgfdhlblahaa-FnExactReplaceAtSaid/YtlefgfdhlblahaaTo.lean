/-
  The laws' copies of types and terms.
-/
import Derived.Test.YtlefgfdhlblahaaSTm
namespace Go.Proofs.Ytlefgfdhlblahaa
open Go Go.RowKit
namespace Gw
/-- What a copy of a type comes to. -/
def ToTy (t : Ty) (G : IM) : IM → Value → List Ent → Prop := Imm fun G' v => ∃ cells' F, v = .agg ⟨cells'⟩ ∧ STy (Dif G' G) t cells' F ∧ F.Nodup
def ToTyS (ks : List Ty) (G : IM) : IM → Value → List Ent → Prop := Imm fun G' v => ∃ p c F, v = .slice p ks.length c ∧ STyS (Dif G' G) ks p c F ∧ F.Nodup
def ToTm (t : Tm) (G : IM) : IM → Value → List Ent → Prop := Imm fun G' v => ∃ cells' F, v = .agg ⟨cells'⟩ ∧ STm (Dif G' G) t cells' F ∧ F.Nodup
def ToTmS (ks : List Tm) (G : IM) : IM → Value → List Ent → Prop := Imm fun G' v => ∃ p c F, v = .slice p ks.length c ∧ STmS (Dif G' G) ks p c F ∧ F.Nodup
set_option maxRecDepth 100000 in
theorem toTypeS_of (ks : List Ty) (ih : ∀ t ∈ ks, ∀ (G : IM) (cells : List Value), t.small → RTy G t cells → Fn Try.prog 50 [.agg ⟨cells⟩] [] G (ToTy t G)) (hks : Ty.smallL ks) (hsm : ks.length ≤ 4294967296)
    (G : IM) (p : Option Addr) (c : Nat) (es : List (List Value)) (hsl : SlE G p ks.length c 2 es) (hkl : RTyL G ks es) :
    Fn Try.prog 82 [.slice p ks.length c] [] G (ToTyS ks G) := by
  have hn := hsl.le
  refine fn_enter Try.func82 rfl Try.ntmps82 Try.results82 rfl ?_
  intro w0
  refine tri_seq ?_
  refine tri_region ?_
  refine seq_pure (pure_assign rfl) rfl rfl ?_
  refine seq_done ?_
  refine nrm_seq ?_
  refine tri_seq ?_
  refine tri_region ?_
  refine seq_pure (pure_move rfl) rfl rfl ?_
  refine seq_pure (pure_len rfl rfl) rfl rfl ?_
  (refine seq_makeBlk rfl rfl rfl (by omega) (by unfold maxLen; omega) rfl (fun bm => ?_))
  refine seq_pure (pure_assign rfl) rfl rfl ?_
  refine seq_done ?_
  refine nrm_seq ?_
  refine tri_seq ?_
  refine tri_seq ?_
  refine tri_region ?_
  refine seq_pure (pure_assign rfl) rfl rfl ?_
  refine seq_done ?_
  refine nrm_seq ?_
  refine tri_block ?_
  (refine tri_loopN (fun (x : Nat × List (List Value) × List Nat × IM) => ⟨[(4, .int .i64 x.1), (3, .slice (some ⟨bm, 0, none⟩) ks.length ks.length), (0, .slice p ks.length c)], [.blk bm (x.2.1.flatten ++ zrep (ks.length - x.1) [.int .i64 0, .slice none 0 0])], x.2.2.2⟩) (fun x => x.1 ≤ ks.length ∧ IMle G x.2.2.2 ∧ STyL (Dif x.2.2.2 G) (ks.take x.1) x.2.1 x.2.2.1 ∧ x.2.2.1.Nodup) (fun x => ks.length - x.1) (0, [], [], G) ?_ ?_ ?_)
  · (simp only [flat_snoc]; exact sub_mk (by repeat (first | exact SubE.nil | refine SubE.cons rfl ?_)) (by repeat (first | exact SubH.refl | exact SubH.nil | refine SubH.cons (by repeat (first | exact Pk.here | apply Pk.there)) ?_ | apply SubH.drop)))
  · exact ⟨by simp, IMle.refl _, by simp [STyL], by simp⟩
  · (rintro ⟨i, es', F, Gi⟩ ⟨hi, hle, hst, hnd⟩; simp only [] at hi hle hst hnd ⊢; replace hsl := hsl.mono hle; replace hkl := hkl.mono hle)
    refine tri_seq ?_
    refine tri_seq ?_
    refine tri_region ?_
    refine seq_pure (pure_move rfl) rfl rfl ?_
    refine seq_pure (pure_move rfl) rfl rfl ?_
    refine seq_pure (pure_len rfl rfl) rfl rfl ?_
    refine seq_bool (pure_lss rfl rfl) rfl rfl (fun h31 => ?_) (fun h31 => ?_)
    · refine seq_done ?_
      refine nrm_seq ?_
      refine tri_cond_t rfl ?_
      refine tri_skip ?_
      refine nrm_seq ?_
      refine tri_seq ?_
      refine tri_block ?_
      refine tri_region ?_
      refine seq_pure (pure_move rfl) rfl rfl ?_
      refine seq_pure (pure_move rfl) rfl rfl ?_
      refine seq_pure (pure_move rfl) rfl rfl ?_
      refine seq_pure (pure_move rfl) rfl rfl ?_
      (obtain ⟨b, o, p2, c2, rfl, hat, hre, hgb⟩ := hsl.kidTy hkl (i := i) (by omega) (by omega); refine seq_pure (pure_indexAddrN rfl rfl rfl (by omega)) rfl rfl ?_)
      refine seq_load (load_a rfl rfl (hat _) rfl) rfl rfl ?_
      (refine seq_imm rfl (ih ks[i] (List.getElem_mem (by omega)) _ _ (Ty.smallL_mem hks _ (List.getElem_mem (by omega))) hre) rfl rfl (fun v G1 hle1 hh => ?_); obtain ⟨cells', F', rfl, hs', hnd'⟩ := hh; obtain ⟨p3, c3, rfl, _⟩ := hs'.open)
      refine seq_pure (pure_indexAddrN rfl rfl rfl (by omega)) rfl rfl ?_
      (refine seq_store rfl rfl rfl rfl rfl rfl (by repeat (first | exact Sw.here | apply Sw.there)) (upd_next (by rw [hst.R.len, List.length_take]; omega) hst.R.all rfl rfl (by omega)) ?_)
      refine seq_done ?_
      refine nrm_block ?_
      refine nrm_seq ?_
      refine tri_region ?_
      refine seq_pure (pure_move rfl) rfl rfl ?_
      refine seq_pure (pure_add rfl rfl (by omega) (by omega)) rfl rfl ?_
      refine seq_pure (pure_assign rfl) rfl rfl ?_
      refine seq_done ?_
      refine nrm_loopN (i + 1, es' ++ [[.int .i64 ks[i].k, .slice p3 ks[i].ks.length c3]], F ++ F', G1) ?_ ?_ ?_
      · (simp only [flat_snoc]; exact sub_mk (by repeat (first | exact SubE.nil | refine SubE.cons rfl ?_)) (by repeat (first | exact SubH.refl | exact SubH.nil | refine SubH.cons (by repeat (first | exact Pk.here | apply Pk.there)) ?_ | apply SubH.drop)))
      · exact ⟨by omega, hle.trans hle1, STyL.step hst hnd hle hle1 (by omega) hs' hnd'⟩
      · (show ks.length - (i + 1) < ks.length - i; omega)
    · refine seq_done ?_
      refine nrm_seq ?_
      refine tri_cond_f rfl ?_
      refine tri_exit ?_
      refine ext_seq ?_
      refine ext_loopN ?_
      refine ext_block_eq ?_
      refine nrm_seq ?_
      refine tri_seq ?_
      refine tri_region ?_
      refine seq_pure (pure_move rfl) rfl rfl ?_
      refine seq_pure (pure_assign rfl) rfl rfl ?_
      refine seq_done ?_
      refine nrm_seq ?_
      (obtain rfl : i = ks.length := (by omega); rw [zrep_self]; refine tri_freezes (bs := [(bm, es'.flatten)]) (List.Perm.refl _) (fun hn2 hd2 hle2 => ?_))
      refine tri_ret ?_
      refine ret_fin1 (res_tmp rfl) ?_
      (rw [List.take_length] at hst; obtain ⟨F2, hf1, hf2⟩ := STyS.fin hst hnd hle hle2 (sl_wi (by rw [flat_len hst.R.all, hst.R.len]) (by unfold maxLen; omega)) (wi_no hd2); exact ⟨rfl, _, _, F2, rfl, hf1, hf2⟩)
set_option maxRecDepth 100000 in
theorem toType_fn : ∀ (t : Ty) (G : IM) (cells : List Value), t.small → RTy G t cells → Fn Try.prog 50 [.agg ⟨cells⟩] [] G (ToTy t G) := by
  refine Ty.ind fun k ks ih G cells hts hr => ?_
  simp only [Ty.small] at hts
  obtain ⟨hsm, hks⟩ := hts
  obtain ⟨p, c, es, rfl, hk, hsl, hkl⟩ := hr.open
  simp only [Ty.k, Ty.ks] at hk hsl hkl ⊢
  have hS := toTypeS_of ks ih hks hsm G p c es hsl hkl
  refine fn_enter Try.func50 rfl Try.ntmps50 Try.results50 rfl ?_
  intro w0
  refine tri_seq ?_
  refine tri_region ?_
  (refine seq_step (step_box_a rfl rfl) rfl ?_; rintro _ ⟨b3, rfl⟩)
  (refine seq_step (step_alloc rfl) rfl ?_; rintro _ ⟨b4, rfl⟩)
  refine seq_done ?_
  refine nrm_seq ?_
  refine tri_seq ?_
  refine tri_region ?_
  (refine seq_step (step_alloc rfl) rfl ?_; rintro _ ⟨b9, rfl⟩)
  refine seq_done ?_
  refine nrm_seq ?_
  refine tri_seq ?_
  refine tri_region ?_
  refine seq_pure (pure_fieldAddr0 rfl) rfl rfl ?_
  refine seq_load (load_bs rfl rfl (by repeat (first | exact List.Mem.head _ | apply List.Mem.tail)) (by rfl)) rfl rfl ?_
  refine seq_pure (pure_fieldAddr0 rfl) rfl rfl ?_
  refine seq_store rfl rfl rfl rfl rfl rfl (by repeat (first | exact Sw.here | apply Sw.there)) (by rfl) ?_
  refine seq_done ?_
  refine nrm_seq ?_
  refine tri_seq ?_
  refine tri_region ?_
  refine seq_pure (pure_fieldAddr0 rfl) rfl rfl ?_
  refine seq_load (load_bs rfl rfl (by repeat (first | exact List.Mem.head _ | apply List.Mem.tail)) (by rfl)) rfl rfl ?_
  (refine seq_imm rfl hS rfl rfl (fun v G1 hle1 hh => ?_); obtain ⟨p1, c1, F1, rfl, hs1, hn1⟩ := hh)
  refine seq_pure (pure_fieldAddr0 rfl) rfl rfl ?_
  refine seq_store rfl rfl rfl rfl rfl rfl (by repeat (first | exact Sw.here | apply Sw.there)) (by rfl) ?_
  refine seq_done ?_
  refine nrm_seq ?_
  refine tri_seq ?_
  refine tri_region ?_
  refine seq_load (load_ba rfl rfl (by repeat (first | exact List.Mem.head _ | apply List.Mem.tail)) (by rfl)) rfl rfl ?_
  refine seq_store rfl rfl rfl rfl rfl rfl (by repeat (first | exact Sw.here | apply Sw.there)) (by rfl) ?_
  refine seq_done ?_
  refine nrm_seq ?_
  refine tri_ret ?_
  refine ret_fin1 (res_cell rfl (load_ba rfl rfl (by repeat (first | exact List.Mem.head _ | apply List.Mem.tail)) (by rfl))) ?_
  exact ⟨rfl, _, F1, rfl, hs1.ty hk, hn1⟩
set_option maxRecDepth 100000 in
theorem toTermS_of (ks : List Tm) (ih : ∀ t ∈ ks, ∀ (G : IM) (cells : List Value), t.small → RTm G t cells → Fn Try.prog 18 [.agg ⟨cells⟩] [] G (ToTm t G)) (hks : Tm.smallL ks) (hsm : ks.length ≤ 4294967296)
    (G : IM) (p : Option Addr) (c : Nat) (es : List (List Value)) (hsl : SlE G p ks.length c 9 es) (hkl : RTmL G ks es) :
    Fn Try.prog 51 [.slice p ks.length c] [] G (ToTmS ks G) := by
  have hn := hsl.le
  refine fn_enter Try.func51 rfl Try.ntmps51 Try.results51 rfl ?_
  intro w0
  refine tri_seq ?_
  refine tri_region ?_
  refine seq_pure (pure_assign rfl) rfl rfl ?_
  refine seq_done ?_
  refine nrm_seq ?_
  refine tri_seq ?_
  refine tri_region ?_
  refine seq_pure (pure_move rfl) rfl rfl ?_
  refine seq_pure (pure_len rfl rfl) rfl rfl ?_
  (refine seq_makeBlk rfl rfl rfl (by omega) (by unfold maxLen; omega) rfl (fun bm => ?_))
  refine seq_pure (pure_assign rfl) rfl rfl ?_
  refine seq_done ?_
  refine nrm_seq ?_
  refine tri_seq ?_
  refine tri_seq ?_
  refine tri_region ?_
  refine seq_pure (pure_assign rfl) rfl rfl ?_
  refine seq_done ?_
  refine nrm_seq ?_
  refine tri_block ?_
  (refine tri_loopN (fun (x : Nat × List (List Value) × List Nat × IM) => ⟨[(4, .int .i64 x.1), (3, .slice (some ⟨bm, 0, none⟩) ks.length ks.length), (0, .slice p ks.length c)], [.blk bm (x.2.1.flatten ++ zrep (ks.length - x.1) [.int .i64 0, .string ⟨⟨[]⟩⟩, .int .i64 0, .int .i64 0, .slice none 0 0, .int .i64 0, .slice none 0 0, .int .i64 0, .slice none 0 0])], x.2.2.2⟩) (fun x => x.1 ≤ ks.length ∧ IMle G x.2.2.2 ∧ STmL (Dif x.2.2.2 G) (ks.take x.1) x.2.1 x.2.2.1 ∧ x.2.2.1.Nodup) (fun x => ks.length - x.1) (0, [], [], G) ?_ ?_ ?_)
  · (simp only [flat_snoc]; exact sub_mk (by repeat (first | exact SubE.nil | refine SubE.cons rfl ?_)) (by repeat (first | exact SubH.refl | exact SubH.nil | refine SubH.cons (by repeat (first | exact Pk.here | apply Pk.there)) ?_ | apply SubH.drop)))
  · exact ⟨by simp, IMle.refl _, by simp [STmL], by simp⟩
  · (rintro ⟨i, es', F, Gi⟩ ⟨hi, hle, hst, hnd⟩; simp only [] at hi hle hst hnd ⊢; replace hsl := hsl.mono hle; replace hkl := hkl.mono hle)
    refine tri_seq ?_
    refine tri_seq ?_
    refine tri_region ?_
    refine seq_pure (pure_move rfl) rfl rfl ?_
    refine seq_pure (pure_move rfl) rfl rfl ?_
    refine seq_pure (pure_len rfl rfl) rfl rfl ?_
    refine seq_bool (pure_lss rfl rfl) rfl rfl (fun h31 => ?_) (fun h31 => ?_)
    · refine seq_done ?_
      refine nrm_seq ?_
      refine tri_cond_t rfl ?_
      refine tri_skip ?_
      refine nrm_seq ?_
      refine tri_seq ?_
      refine tri_block ?_
      refine tri_region ?_
      refine seq_pure (pure_move rfl) rfl rfl ?_
      refine seq_pure (pure_move rfl) rfl rfl ?_
      refine seq_pure (pure_move rfl) rfl rfl ?_
      refine seq_pure (pure_move rfl) rfl rfl ?_
      (obtain ⟨b, o, e, rfl, hl, hat, hre, hgb⟩ := hsl.kidTm hkl (i := i) (by omega) (by omega); refine seq_pure (pure_indexAddrN rfl rfl rfl (by omega)) rfl rfl ?_)
      refine seq_load (load_a rfl rfl (hat _) hl) rfl rfl ?_
      (refine seq_imm rfl (ih ks[i] (List.getElem_mem (by omega)) _ _ (Tm.smallL_mem hks _ (List.getElem_mem (by omega))) hre) rfl rfl (fun v G1 hle1 hh => ?_); obtain ⟨cells', F', rfl, hs', hnd'⟩ := hh; have hl9 := hs'.R.len; have hone := hs'.R.one)
      refine seq_pure (pure_indexAddrN rfl rfl rfl (by omega)) rfl rfl ?_
      (refine seq_store rfl rfl rfl hl9 hone rfl (by repeat (first | exact Sw.here | apply Sw.there)) (upd_next (by rw [hst.R.len, List.length_take]; omega) hst.R.all rfl hl9 (by omega)) ?_)
      refine seq_done ?_
      refine nrm_block ?_
      refine nrm_seq ?_
      refine tri_region ?_
      refine seq_pure (pure_move rfl) rfl rfl ?_
      refine seq_pure (pure_add rfl rfl (by omega) (by omega)) rfl rfl ?_
      refine seq_pure (pure_assign rfl) rfl rfl ?_
      refine seq_done ?_
      refine nrm_loopN (i + 1, es' ++ [cells'], F ++ F', G1) ?_ ?_ ?_
      · (simp only [flat_snoc]; exact sub_mk (by repeat (first | exact SubE.nil | refine SubE.cons rfl ?_)) (by repeat (first | exact SubH.refl | exact SubH.nil | refine SubH.cons (by repeat (first | exact Pk.here | apply Pk.there)) ?_ | apply SubH.drop)))
      · exact ⟨by omega, hle.trans hle1, STmL.step hst hnd hle hle1 (by omega) hs' hnd'⟩
      · (show ks.length - (i + 1) < ks.length - i; omega)
    · refine seq_done ?_
      refine nrm_seq ?_
      refine tri_cond_f rfl ?_
      refine tri_exit ?_
      refine ext_seq ?_
      refine ext_loopN ?_
      refine ext_block_eq ?_
      refine nrm_seq ?_
      refine tri_seq ?_
      refine tri_region ?_
      refine seq_pure (pure_move rfl) rfl rfl ?_
      refine seq_pure (pure_assign rfl) rfl rfl ?_
      refine seq_done ?_
      refine nrm_seq ?_
      (obtain rfl : i = ks.length := (by omega); rw [zrep_self]; refine tri_freezes (bs := [(bm, es'.flatten)]) (List.Perm.refl _) (fun hn2 hd2 hle2 => ?_))
      refine tri_ret ?_
      refine ret_fin1 (res_tmp rfl) ?_
      (rw [List.take_length] at hst; obtain ⟨F2, hf1, hf2⟩ := STmS.fin hst hnd hle hle2 (sl_wi (by rw [flat_len hst.R.all, hst.R.len]) (by unfold maxLen; omega)) (wi_no hd2); exact ⟨rfl, _, _, F2, rfl, hf1, hf2⟩)
set_option maxRecDepth 100000 in
theorem toTerm_fn : ∀ (t : Tm) (G : IM) (cells : List Value), t.small → RTm G t cells → Fn Try.prog 18 [.agg ⟨cells⟩] [] G (ToTm t G) := by
  refine Tm.ind fun k nm num ty fr lb ks ih G cells hts hr => ?_
  have hone := hr.one
  simp only [Tm.small] at hts
  obtain ⟨hnm, hty', hfr', hsm, hks⟩ := hts
  obtain ⟨tk, tks⟩ := ty
  obtain ⟨fk, fks⟩ := fr
  obtain ⟨pt, ct, pf, cf, p, c, es, rfl, hk, hnum, hlb, hty, hfr, hsl, hkl⟩ := hr.open9
  have hT := toType_fn (.mk tk tks) G _ hty' hty
  refine fn_enter Try.func18 rfl Try.ntmps18 Try.results18 rfl ?_
  intro w0
  refine tri_seq ?_
  refine tri_region ?_
  (refine seq_step (step_box_a rfl rfl) rfl ?_; rintro _ ⟨b3, rfl⟩)
  (refine seq_step (step_alloc rfl) rfl ?_; rintro _ ⟨b4, rfl⟩)
  refine seq_done ?_
  refine nrm_seq ?_
  refine tri_seq ?_
  refine tri_region ?_
  (refine seq_step (step_alloc rfl) rfl ?_; rintro _ ⟨b9, rfl⟩)
  refine seq_done ?_
  refine nrm_seq ?_
  refine tri_seq ?_
  refine tri_region ?_
  refine seq_pure (pure_fieldAddr0 rfl) rfl rfl ?_
  refine seq_load (load_bs rfl rfl (by repeat (first | exact List.Mem.head _ | apply List.Mem.tail)) (by rfl)) rfl rfl ?_
  refine seq_pure (pure_fieldAddr0 rfl) rfl rfl ?_
  refine seq_store rfl rfl rfl rfl rfl rfl (by repeat (first | exact Sw.here | apply Sw.there)) (by rfl) ?_
  refine seq_done ?_
  refine nrm_seq ?_
  refine tri_seq ?_
  refine tri_region ?_
  refine seq_pure (pure_fieldAddr0 rfl) rfl rfl ?_
  refine seq_load (load_bs rfl rfl (by repeat (first | exact List.Mem.head _ | apply List.Mem.tail)) (by rfl)) rfl rfl ?_
  refine seq_pure (pure_fieldAddr0 rfl) rfl rfl ?_
  refine seq_store rfl rfl rfl rfl rfl rfl (by repeat (first | exact Sw.here | apply Sw.there)) (by rfl) ?_
  refine seq_done ?_
  refine nrm_seq ?_
  refine tri_seq ?_
  refine tri_region ?_
  refine seq_pure (pure_fieldAddr0 rfl) rfl rfl ?_
  refine seq_load (load_bs rfl rfl (by repeat (first | exact List.Mem.head _ | apply List.Mem.tail)) (by rfl)) rfl rfl ?_
  refine seq_pure (pure_fieldAddr0 rfl) rfl rfl ?_
  refine seq_store rfl rfl rfl rfl rfl rfl (by repeat (first | exact Sw.here | apply Sw.there)) (by rfl) ?_
  refine seq_done ?_
  refine nrm_seq ?_
  refine tri_seq ?_
  refine tri_region ?_
  refine seq_pure (pure_fieldAddr0 rfl) rfl rfl ?_
  refine seq_load (load_ba rfl rfl (by repeat (first | exact List.Mem.head _ | apply List.Mem.tail)) (by rfl)) rfl rfl ?_
  (refine seq_imm rfl hT rfl rfl (fun v G1 hle1 hh => ?_); obtain ⟨cs1, F1, rfl, hs1, hn1⟩ := hh; obtain ⟨p1, c1, rfl, _⟩ := hs1.open; have hF := toType_fn (.mk fk fks) G1 _ hfr' (hfr.mono hle1))
  refine seq_pure (pure_fieldAddr0 rfl) rfl rfl ?_
  refine seq_store rfl rfl rfl rfl rfl rfl (by repeat (first | exact Sw.here | apply Sw.there)) (by rfl) ?_
  refine seq_done ?_
  refine nrm_seq ?_
  refine tri_seq ?_
  refine tri_region ?_
  refine seq_pure (pure_fieldAddr0 rfl) rfl rfl ?_
  refine seq_load (load_ba rfl rfl (by repeat (first | exact List.Mem.head _ | apply List.Mem.tail)) (by rfl)) rfl rfl ?_
  (refine seq_imm rfl hF rfl rfl (fun v G2 hle2 hh => ?_); obtain ⟨cs2, F2, rfl, hs2, hn2⟩ := hh; obtain ⟨p2, c2, rfl, _⟩ := hs2.open; have hS := toTermS_of ks ih hks hsm G2 p c es (hsl.mono (hle1.trans hle2)) (hkl.mono (hle1.trans hle2)))
  refine seq_pure (pure_fieldAddr0 rfl) rfl rfl ?_
  refine seq_store rfl rfl rfl rfl rfl rfl (by repeat (first | exact Sw.here | apply Sw.there)) (by rfl) ?_
  refine seq_done ?_
  refine nrm_seq ?_
  refine tri_seq ?_
  refine tri_region ?_
  refine seq_pure (pure_fieldAddr0 rfl) rfl rfl ?_
  refine seq_load (load_bs rfl rfl (by repeat (first | exact List.Mem.head _ | apply List.Mem.tail)) (by rfl)) rfl rfl ?_
  refine seq_pure (pure_fieldAddr0 rfl) rfl rfl ?_
  refine seq_store rfl rfl rfl rfl rfl rfl (by repeat (first | exact Sw.here | apply Sw.there)) (by rfl) ?_
  refine seq_done ?_
  refine nrm_seq ?_
  refine tri_seq ?_
  refine tri_region ?_
  refine seq_pure (pure_fieldAddr0 rfl) rfl rfl ?_
  refine seq_load (load_bs rfl rfl (by repeat (first | exact List.Mem.head _ | apply List.Mem.tail)) (by rfl)) rfl rfl ?_
  (refine seq_imm rfl hS rfl rfl (fun v G3 hle3 hh => ?_); obtain ⟨p3, c3, F3, rfl, hs3, hn3⟩ := hh)
  refine seq_pure (pure_fieldAddr0 rfl) rfl rfl ?_
  refine seq_store rfl rfl rfl rfl rfl rfl (by repeat (first | exact Sw.here | apply Sw.there)) (by rfl) ?_
  refine seq_done ?_
  refine nrm_seq ?_
  refine tri_seq ?_
  refine tri_region ?_
  refine seq_load (load_ba rfl rfl (by repeat (first | exact List.Mem.head _ | apply List.Mem.tail)) (by rfl)) rfl rfl ?_
  refine seq_store rfl rfl rfl rfl rfl rfl (by repeat (first | exact Sw.here | apply Sw.there)) (by rfl) ?_
  refine seq_done ?_
  refine nrm_seq ?_
  refine tri_ret ?_
  refine ret_fin1 (res_cell rfl (load_ba rfl rfl (by repeat (first | exact List.Mem.head _ | apply List.Mem.tail)) (by rfl))) ?_
  (obtain ⟨F, hf1, hf2⟩ := STm.mk3 (nm := nm) hk hnum hlb hle1 hle2 hle3 hs1 hn1 hs2 hn2 hs3 hn3; exact ⟨rfl, _, F, rfl, hf1, hf2⟩)
end Gw
end Go.Proofs.Ytlefgfdhlblahaa
