/-
  The laws' marking of types.
-/
import Derived.Test.YtlefgfdhlblahaaMark
namespace Go.Proofs.Ytlefgfdhlblahaa
open Go Go.RowKit
namespace Gw
theorem flat_step (D : List (List Value)) (e R : List Value) : D.flatten ++ (e ++ R) = (D ++ [e]).flatten ++ R := by simp
theorem OTyS.ty_mk {k k' : Int} {ks : List Ty} {p : Option Addr} {c : Nat} {bs : Blks} (h : OTyS (mkTyL ks k') p c bs) (hk : I64 k) : OTy (.mk k (mkTyL ks k')) [.int .i64 k, .slice p ks.length c] bs := by
  have := h.ty hk; rwa [mkTyL_len] at this
theorem OTyL.drop {ks : List Ty} {i : Nat} {T : List (List Value)} {r : Blks} (hi : i < ks.length) (h : OTyL (ks.drop i) T r) : ∃ p c e' r1 r2, T = [.int .i64 ks[i].k, .slice p ks[i].ks.length c] :: e' ∧ r = r1 ++ r2 ∧ OTyS ks[i].ks p c r1 ∧ OTyL (ks.drop (i + 1)) e' r2 := by
  rw [List.drop_eq_getElem_cons hi] at h; exact h.cons
theorem OTyL.fin {ks : List Ty} {T : List (List Value)} {r : Blks} (h : OTyL (ks.drop ks.length) T r) : T = [] ∧ r = [] := by
  rw [List.drop_length] at h; simpa only [OTyL] using h
theorem OTyL.done {ks : List Ty} {k : Int} {c : Nat} {b : Nat} {A C : List Value} {D T : List (List Value)} {r0 r1 : Blks} (hc : ks.length ≤ c) (hm : c ≤ maxLen) (hD : OTyL (mkTyL (ks.take ks.length) k) D r0) (hT : OTyL (ks.drop ks.length) T r1) :
    ∃ bs', (Ent.blk b (A ++ (D.flatten ++ (T.flatten ++ C))) :: blks (r0 ++ r1)) = blks bs' ∧ OTyS (mkTyL ks k) (some ⟨b, A.length, none⟩) c bs' := by
  obtain ⟨rfl, rfl⟩ := hT.fin
  rw [List.take_length] at hD
  exact ⟨(b, A ++ (D.flatten ++ C)) :: r0, by simp [blks], by rw [mkTyL_len]; exact hc, hm, .inr ⟨b, A, C, D, r0, rfl, rfl, hD⟩⟩
set_option maxHeartbeats 0 in
set_option maxRecDepth 100000 in
theorem markTypeS_fn : ∀ (t : Ty) (k : Int) (G : IM) (p : Option Addr) (c : Nat) (bs : Blks), OTyS t.ks p c bs → 0 < k → k + cntTyL t.ks ≤ 1099511627776 →
    Fn Try.prog 84 [.slice p t.ks.length c, .int .i64 k] (blks bs) G (Lent (.int .i64 (k + cntTyL t.ks)) G (OTyS (mkTyL t.ks k) p c)) := by
  refine Ty.ind fun k0 ks ih k G p c bs ho hk hb => ?_
  simp only [Ty.ks] at ho hb ⊢
  obtain ⟨hc, hm, h⟩ := ho
  rcases h with ⟨rfl, rfl⟩ | ⟨b, A, C, es, r, rfl, rfl, hL⟩
  · refine fn_enter Try.func84 rfl Try.ntmps84 Try.results84 rfl ?_
    intro w0
    refine tri_seq ?_
    refine tri_region ?_
    refine seq_pure (pure_assign rfl) rfl rfl ?_
    refine seq_done ?_
    refine nrm_seq ?_
    refine tri_seq ?_
    refine tri_seq ?_
    refine tri_region ?_
    refine seq_pure (pure_assign rfl) rfl rfl ?_
    refine seq_done ?_
    refine nrm_seq ?_
    refine tri_block ?_
    refine tri_loopN (fun (_ : Unit) => ⟨[(5, .int .i64 0), (1, .int .i64 k), (0, .slice p 0 c)], [], G⟩) (fun _ => True) (fun _ => 0) () ?_ ?_ ?_
    · exact sub_mk (by repeat (first | exact SubE.nil | refine SubE.cons rfl ?_)) (by repeat (first | exact SubH.refl | exact SubH.nil | refine SubH.cons (by repeat (first | exact Pk.here | apply Pk.there)) ?_ | apply SubH.drop))
    · trivial
    · (rintro _ _)
      refine tri_seq ?_
      refine tri_seq ?_
      refine tri_region ?_
      refine seq_pure (pure_move rfl) rfl rfl ?_
      refine seq_pure (pure_move rfl) rfl rfl ?_
      refine seq_pure (pure_len rfl rfl) rfl rfl ?_
      refine seq_pure (pure_lss_f rfl rfl (by omega)) rfl rfl ?_
      refine seq_done ?_
      refine nrm_seq ?_
      refine tri_cond_f rfl ?_
      refine tri_exit ?_
      refine ext_seq ?_
      refine ext_loopN ?_
      refine ext_block_eq ?_
      refine nrm_seq ?_
      refine tri_seq ?_
      refine tri_region ?_
      refine seq_pure (pure_move rfl) rfl rfl ?_
      refine seq_pure (pure_assign rfl) rfl rfl ?_
      refine seq_done ?_
      refine nrm_seq ?_
      refine tri_ret ?_
      refine ret_own1 (res_tmp rfl) SubH.refl ?_
      exact ⟨rfl, by rw [cntTyL, Int.add_zero], [], rfl, ⟨hc, hm, .inl ⟨rfl, rfl⟩⟩⟩
  · have hcm := hm
    unfold maxLen at hcm
    have hn : ks.length ≤ 9223372036854775807 := by omega
    refine fn_enter (ins := .blk b (A ++ (es.flatten ++ C)) :: blks r) Try.func84 rfl Try.ntmps84 Try.results84 rfl ?_
    intro w0
    refine tri_seq ?_
    refine tri_region ?_
    refine seq_pure (pure_assign rfl) rfl rfl ?_
    refine seq_done ?_
    refine nrm_seq ?_
    refine tri_seq ?_
    refine tri_seq ?_
    refine tri_region ?_
    refine seq_pure (pure_assign rfl) rfl rfl ?_
    refine seq_done ?_
    refine nrm_seq ?_
    refine tri_block ?_
    refine tri_loopN (fun (x : Nat × Int × List (List Value) × List (List Value) × Blks × Blks) => ⟨[(5, .int .i64 x.1), (1, .int .i64 x.2.1), (0, .slice (some ⟨b, A.length, none⟩) ks.length c)], .blk b (A ++ (x.2.2.1.flatten ++ (x.2.2.2.1.flatten ++ C))) :: blks (x.2.2.2.2.1 ++ x.2.2.2.2.2), G⟩) (fun x => x.1 ≤ ks.length ∧ x.2.1 = k + cntTyL (ks.take x.1) ∧ OTyL (mkTyL (ks.take x.1) k) x.2.2.1 x.2.2.2.2.1 ∧ OTyL (ks.drop x.1) x.2.2.2.1 x.2.2.2.2.2) (fun x => ks.length - x.1) (0, k, [], es, [], r) ?_ ?_ ?_
    · (simp only [flat_snoc]; exact sub_mk (by repeat (first | exact SubE.nil | refine SubE.cons rfl ?_)) (by repeat (first | exact SubH.refl | exact SubH.nil | refine SubH.cons (by repeat (first | exact Pk.here | apply Pk.there)) ?_ | apply SubH.drop)))
    · exact ⟨by simp, by simp [cntTyL], by simp [OTyL, mkTyL], by simpa using hL⟩
    · (rintro ⟨i, kk, D, T, r0, r1⟩ ⟨hi, hkk, hD, hT⟩; simp only [] at hi hkk hD hT ⊢; have hDl : D.length = i := (by rw [hD.len, mkTyL_len, List.length_take]; omega); have hall := hD.all; have hnn := cntTyL_nn (ks.take i); have htk := cntTyL_take ks i)
      refine tri_seq ?_
      refine tri_seq ?_
      refine tri_region ?_
      refine seq_pure (pure_move rfl) rfl rfl ?_
      refine seq_pure (pure_move rfl) rfl rfl ?_
      refine seq_pure (pure_len rfl rfl) rfl rfl ?_
      refine seq_bool (pure_lss rfl rfl) rfl rfl (fun h23 => ?_) (fun h23 => ?_)
      · refine seq_done ?_
        refine nrm_seq ?_
        refine tri_cond_t rfl ?_
        refine tri_skip ?_
        refine nrm_seq ?_
        refine tri_seq ?_
        refine tri_block ?_
        refine tri_seq ?_
        refine tri_region ?_
        refine seq_pure (pure_move rfl) rfl rfl ?_
        refine seq_pure (pure_move rfl) rfl rfl ?_
        refine seq_pure (pure_move rfl) rfl rfl ?_
        refine seq_pure (pure_indexAddrN rfl rfl rfl (by omega)) rfl rfl ?_
        refine seq_pure (pure_fieldAddr rfl) rfl rfl ?_
        (obtain ⟨p3, c3, T', r1a, r1b, rfl, rfl, hos, hT'⟩ := hT.drop (by omega); rw [List.flatten_cons, List.append_assoc]; refine seq_store rfl rfl rfl rfl rfl rfl Sw.here (upd_el hDl hall rfl) ?_)
        refine seq_done ?_
        refine nrm_seq ?_
        refine tri_seq ?_
        refine tri_region ?_
        refine seq_pure (pure_move rfl) rfl rfl ?_
        refine seq_pure (pure_add rfl rfl (by omega) (by omega)) rfl rfl ?_
        refine seq_pure (pure_assign rfl) rfl rfl ?_
        refine seq_done ?_
        refine nrm_seq ?_
        refine tri_region ?_
        refine seq_pure (pure_move rfl) rfl rfl ?_
        refine seq_pure (pure_move rfl) rfl rfl ?_
        refine seq_pure (pure_indexAddrN rfl rfl rfl (by omega)) rfl rfl ?_
        refine seq_pure (pure_fieldAddr rfl) rfl rfl ?_
        refine seq_load (load_s rfl rfl (at_el (List.Mem.head _) hDl hall rfl)) rfl rfl ?_
        refine seq_pure (pure_move rfl) rfl rfl ?_
        (have hsu := cntTyL_succ (ks := ks) (i := i) (by omega); have hta := cntTyL_take ks (i + 1); have hce := cntTy_eq ks[i]; refine seq_lend rfl (ih ks[i] (List.getElem_mem (by omega)) (kk + 1) G p3 c3 r1a hos (by omega) (by omega)) rfl rfl rfl (fun r1' hr1 => ?_))
        refine seq_pure (pure_assign rfl) rfl rfl ?_
        refine seq_done ?_
        refine nrm_block ?_
        refine nrm_seq ?_
        refine tri_region ?_
        refine seq_pure (pure_move rfl) rfl rfl ?_
        refine seq_pure (pure_add rfl rfl (by omega) (by omega)) rfl rfl ?_
        refine seq_pure (pure_assign rfl) rfl rfl ?_
        refine seq_done ?_
        (rw [flat_step D, ← List.append_assoc r0]; refine nrm_loopN (i + 1, kk + 1 + cntTyL ks[i].ks, D ++ [[.int .i64 kk, .slice p3 ks[i].ks.length c3]], T', r0 ++ r1', r1b) ?_ ?_ ?_)
        · (simp only [flat_snoc]; exact sub_mk (by repeat (first | exact SubE.nil | refine SubE.cons rfl ?_)) (by repeat (first | exact SubH.refl | exact SubH.nil | refine SubH.cons (by repeat (first | exact Pk.here | apply Pk.there)) ?_ | apply SubH.drop)))
        · (dsimp only; exact ⟨by omega, by omega, by rw [mkTyL_take (by omega), mkTy_eq, ← hkk]; exact hD.snoc (hr1.ty_mk ⟨by omega, by omega⟩), hT'⟩)
        · (show ks.length - (i + 1) < ks.length - i; omega)
      · refine seq_done ?_
        refine nrm_seq ?_
        refine tri_cond_f rfl ?_
        refine tri_exit ?_
        refine ext_seq ?_
        refine ext_loopN ?_
        refine ext_block_eq ?_
        refine nrm_seq ?_
        refine tri_seq ?_
        refine tri_region ?_
        refine seq_pure (pure_move rfl) rfl rfl ?_
        refine seq_pure (pure_assign rfl) rfl rfl ?_
        refine seq_done ?_
        refine nrm_seq ?_
        refine tri_ret ?_
        (obtain rfl : i = ks.length := (by omega); refine ret_own1 (res_tmp rfl) SubH.refl ?_)
        exact ⟨rfl, by rw [hkk, List.take_length], OTyL.done hc hm hD hT⟩
set_option maxRecDepth 100000 in
theorem markType_fn (t : Ty) (k : Int) (G : IM) (cells : List Value) (bs : Blks) (ho : OTy t cells bs) (hk : 0 < k) (hb : k + cntTyL t.ks ≤ 1099511627776) :
    Fn Try.prog 54 [.agg ⟨cells⟩, .int .i64 k] (blks bs) G (Lent (.int .i64 (k + cntTyL t.ks)) G (fun bs' => ∃ p c, cells = [.int .i64 t.k, .slice p t.ks.length c] ∧ OTyS (mkTyL t.ks k) p c bs')) := by
  obtain ⟨p, c, rfl, hi, ho⟩ := ho.open
  have hM := markTypeS_fn t k G p c bs ho hk hb
  refine fn_enter Try.func54 rfl Try.ntmps54 Try.results54 rfl ?_
  intro w0
  refine tri_seq ?_
  refine tri_region ?_
  (refine seq_step (step_box_a rfl rfl) rfl ?_; rintro _ ⟨b3, rfl⟩)
  refine seq_pure (pure_assign rfl) rfl rfl ?_
  refine seq_done ?_
  refine nrm_seq ?_
  refine tri_seq ?_
  refine tri_region ?_
  refine seq_pure (pure_fieldAddr0 rfl) rfl rfl ?_
  refine seq_load (load_bs rfl rfl (by repeat (first | exact List.Mem.head _ | apply List.Mem.tail)) (by rfl)) rfl rfl ?_
  refine seq_pure (pure_move rfl) rfl rfl ?_
  (refine seq_lend (r0 := []) (r2 := []) rfl hM (by simp) rfl rfl (fun r1' hr1 => ?_); rw [List.nil_append, List.append_nil])
  refine seq_pure (pure_assign rfl) rfl rfl ?_
  refine seq_done ?_
  refine nrm_seq ?_
  refine tri_seq ?_
  refine tri_region ?_
  refine seq_pure (pure_move rfl) rfl rfl ?_
  refine seq_pure (pure_assign rfl) rfl rfl ?_
  refine seq_done ?_
  refine nrm_seq ?_
  refine tri_ret ?_
  refine ret_own1 (res_tmp rfl) (SubH.drop SubH.refl) ?_
  exact ⟨rfl, rfl, _, rfl, p, c, rfl, hr1⟩
end Gw
end Go.Proofs.Ytlefgfdhlblahaa
