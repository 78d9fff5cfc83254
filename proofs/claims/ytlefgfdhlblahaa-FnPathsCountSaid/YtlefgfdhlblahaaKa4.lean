/-
  The laws' marking of types. The laws' marking of terms. The laws' marking of terms and paths, and the reading of the marks. The laws' measure of arguments. Arguments that can be read as data lie in memory as trees do; a law that answers true in memory that was there before meets its row. Where ways meet again. The laws' copies of types and terms. Fresh data taken back into the call's own hands, and given up again; sizes.
-/
import Derived.Test.YtlefgfdhlblahaaKa3
import Derived.WalkKit
import Derived.ProofKit
import Derived.OpenShut
import Derived.Carry
import Derived.Test.YtlefgfdhlblahaaKa0
import Derived.Test.YtlefgfdhlblahaaKa1
namespace Go.Proofs.Ytlefgfdhlblahaa
open Go Go.RowKit
namespace Gw
theorem flat_step (D : List (List Value)) (e R : List Value) : D.flatten ++ (e ++ R) = (D ++ [e]).flatten ++ R := by simp
theorem OTyS.ty_mk {k k' : Int} {ks : List Ty} {p : Option Addr} {c : Nat} {bs : Blks} (h : OTyS (mkTyL ks k') p c bs) (hk : I64 k) : OTy (.mk k (mkTyL ks k')) [.int .i64 k, .slice p ks.length c] bs := by
  have := h.ty hk; rwa [mkTyL_len] at this
theorem OTyL.drop {ks : List Ty} {i : Nat} {T : List (List Value)} {r : Blks} (hi : i < ks.length) (h : OTyL (ks.drop i) T r) : ∃ p c e' r1 r2, T = [.int .i64 ks[i].k, .slice p ks[i].ks.length c] :: e' ∧ r = r1 ++ r2 ∧ OTyS ks[i].ks p c r1 ∧ OTyL (ks.drop (i + 1)) e' r2 := by
  rw [List.drop_eq_getElem_cons hi] at h; exact h.cons
theorem OTyL.fin {ks : List Ty} {T : List (List Value)} {r : Blks} (h : OTyL (ks.drop ks.length) T r) : T = [] ∧ r = [] := by
  rw [List.drop_length] at h; simpa only [OTyL] using h
theorem OTyL.done {ks : List Ty} {k : Int} {c : Nat} {b : Nat} {A C : List Value} {D T : List (List Value)} {r0 r1 : Blks} (hc : ks.length ≤ c) (hm : c ≤ maxLen) (hD : OTyL (mkTyL (ks.take ks.length) k) D r0) (hT : OTyL (ks.drop ks.length) T r1) :
    ∃ bs', (Ent.blk b (A ++ (D.flatten ++ (T.flatten ++ C))) :: blks (r0 ++ r1)) = blks bs' ∧ OTyS (mkTyL ks k) (some ⟨b, A.length, none⟩) c bs' := by
  obtain ⟨rfl, rfl⟩ := hT.fin
  rw [List.take_length] at hD
  exact ⟨(b, A ++ (D.flatten ++ C)) :: r0, by simp [blks], by rw [mkTyL_len]; exact hc, hm, .inr ⟨b, A, C, D, r0, rfl, rfl, hD⟩⟩
set_option maxHeartbeats 0 in
set_option maxRecDepth 100000 in
theorem markTypeS_fn : ∀ (t : Ty) (k : Int) (G : IM) (p : Option Addr) (c : Nat) (bs : Blks), OTyS t.ks p c bs → 0 < k → k + cntTyL t.ks ≤ 1099511627776 →
    Fn Try.prog 84 [.slice p t.ks.length c, .int .i64 k] (blks bs) G (Lent (.int .i64 (k + cntTyL t.ks)) G (OTyS (mkTyL t.ks k) p c)) := by
  refine Ty.ind fun k0 ks ih k G p c bs ho hk hb => ?_
  simp only [Ty.ks] at ho hb ⊢
  obtain ⟨hc, hm, h⟩ := ho
  rcases h with ⟨rfl, rfl⟩ | ⟨b, A, C, es, r, rfl, rfl, hL⟩
  · refine fn_enter Try.func84 rfl Try.ntmps84 Try.results84 rfl ?_
    intro w0
    refine tri_seq ?_
    refine tri_region ?_
    refine seq_pure (pure_assign rfl) rfl rfl ?_
    refine seq_done ?_
    refine nrm_seq ?_
    refine tri_seq ?_
    refine tri_seq ?_
    refine tri_region ?_
    refine seq_pure (pure_assign rfl) rfl rfl ?_
    refine seq_done ?_
    refine nrm_seq ?_
    refine tri_block ?_
    refine tri_loopN (fun (_ : Unit) => ⟨[(5, .int .i64 0), (1, .int .i64 k), (0, .slice p 0 c)], [], G⟩) (fun _ => True) (fun _ => 0) () ?_ ?_ ?_
    · exact sub_mk (by repeat (first | exact SubE.nil | refine SubE.cons rfl ?_)) (by repeat (first | exact SubH.refl | exact SubH.nil | refine SubH.cons (by repeat (first | exact Pk.here | apply Pk.there)) ?_ | apply SubH.drop))
    · trivial
    · (rintro _ _)
      refine tri_seq ?_
      refine tri_seq ?_
      refine tri_region ?_
      refine seq_pure (pure_move rfl) rfl rfl ?_
      refine seq_pure (pure_move rfl) rfl rfl ?_
      refine seq_pure (pure_len rfl rfl) rfl rfl ?_
      refine seq_pure (pure_lss_f rfl rfl (by omega)) rfl rfl ?_
      refine seq_done ?_
      refine nrm_seq ?_
      refine tri_cond_f rfl ?_
      refine tri_exit ?_
      refine ext_seq ?_
      refine ext_loopN ?_
      refine ext_block_eq ?_
      refine nrm_seq ?_
      refine tri_seq ?_
      refine tri_region ?_
      refine seq_pure (pure_move rfl) rfl rfl ?_
      refine seq_pure (pure_assign rfl) rfl rfl ?_
      refine seq_done ?_
      refine nrm_seq ?_
      refine tri_ret ?_
      refine ret_own1 (res_tmp rfl) SubH.refl ?_
      exact ⟨rfl, by rw [cntTyL, Int.add_zero], [], rfl, ⟨hc, hm, .inl ⟨rfl, rfl⟩⟩⟩
  · have hcm := hm
    unfold maxLen at hcm
    have hn : ks.length ≤ 9223372036854775807 := by omega
    refine fn_enter (ins := .blk b (A ++ (es.flatten ++ C)) :: blks r) Try.func84 rfl Try.ntmps84 Try.results84 rfl ?_
    intro w0
    refine tri_seq ?_
    refine tri_region ?_
    refine seq_pure (pure_assign rfl) rfl rfl ?_
    refine seq_done ?_
    refine nrm_seq ?_
    refine tri_seq ?_
    refine tri_seq ?_
    refine tri_region ?_
    refine seq_pure (pure_assign rfl) rfl rfl ?_
    refine seq_done ?_
    refine nrm_seq ?_
    refine tri_block ?_
    refine tri_loopN (fun (x : Nat × Int × List (List Value) × List (List Value) × Blks × Blks) => ⟨[(5, .int .i64 x.1), (1, .int .i64 x.2.1), (0, .slice (some ⟨b, A.length, none⟩) ks.length c)], .blk b (A ++ (x.2.2.1.flatten ++ (x.2.2.2.1.flatten ++ C))) :: blks (x.2.2.2.2.1 ++ x.2.2.2.2.2), G⟩) (fun x => x.1 ≤ ks.length ∧ x.2.1 = k + cntTyL (ks.take x.1) ∧ OTyL (mkTyL (ks.take x.1) k) x.2.2.1 x.2.2.2.2.1 ∧ OTyL (ks.drop x.1) x.2.2.2.1 x.2.2.2.2.2) (fun x => ks.length - x.1) (0, k, [], es, [], r) ?_ ?_ ?_
    · (simp only [flat_snoc]; exact sub_mk (by repeat (first | exact SubE.nil | refine SubE.cons rfl ?_)) (by repeat (first | exact SubH.refl | exact SubH.nil | refine SubH.cons (by repeat (first | exact Pk.here | apply Pk.there)) ?_ | apply SubH.drop)))
    · exact ⟨by simp, by simp [cntTyL], by simp [OTyL, mkTyL], by simpa using hL⟩
    · (rintro ⟨i, kk, D, T, r0, r1⟩ ⟨hi, hkk, hD, hT⟩; simp only [] at hi hkk hD hT ⊢; have hDl : D.length = i := (by rw [hD.len, mkTyL_len, List.length_take]; omega); have hall := hD.all; have hnn := cntTyL_nn (ks.take i); have htk := cntTyL_take ks i)
      refine tri_seq ?_
      refine tri_seq ?_
      refine tri_region ?_
      refine seq_pure (pure_move rfl) rfl rfl ?_
      refine seq_pure (pure_move rfl) rfl rfl ?_
      refine seq_pure (pure_len rfl rfl) rfl rfl ?_
      refine seq_bool (pure_lss rfl rfl) rfl rfl (fun h23 => ?_) (fun h23 => ?_)
      · refine seq_done ?_
        refine nrm_seq ?_
        refine tri_cond_t rfl ?_
        refine tri_skip ?_
        refine nrm_seq ?_
        refine tri_seq ?_
        refine tri_block ?_
        refine tri_seq ?_
        refine tri_region ?_
        refine seq_pure (pure_move rfl) rfl rfl ?_
        refine seq_pure (pure_move rfl) rfl rfl ?_
        refine seq_pure (pure_move rfl) rfl rfl ?_
        refine seq_pure (pure_indexAddrN rfl rfl rfl (by omega)) rfl rfl ?_
        refine seq_pure (pure_fieldAddr rfl) rfl rfl ?_
        (obtain ⟨p3, c3, T', r1a, r1b, rfl, rfl, hos, hT'⟩ := hT.drop (by omega); rw [List.flatten_cons, List.append_assoc]; refine seq_store rfl rfl rfl rfl rfl rfl Sw.here (upd_el hDl hall rfl) ?_)
        refine seq_done ?_
        refine nrm_seq ?_
        refine tri_seq ?_
        refine tri_region ?_
        refine seq_pure (pure_move rfl) rfl rfl ?_
        refine seq_pure (pure_add rfl rfl (by omega) (by omega)) rfl rfl ?_
        refine seq_pure (pure_assign rfl) rfl rfl ?_
        refine seq_done ?_
        refine nrm_seq ?_
        refine tri_region ?_
        refine seq_pure (pure_move rfl) rfl rfl ?_
        refine seq_pure (pure_move rfl) rfl rfl ?_
        refine seq_pure (pure_indexAddrN rfl rfl rfl (by omega)) rfl rfl ?_
        refine seq_pure (pure_fieldAddr rfl) rfl rfl ?_
        refine seq_load (load_s rfl rfl (at_el (List.Mem.head _) hDl hall rfl)) rfl rfl ?_
        refine seq_pure (pure_move rfl) rfl rfl ?_
        (have hsu := cntTyL_succ (ks := ks) (i := i) (by omega); have hta := cntTyL_take ks (i + 1); have hce := cntTy_eq ks[i]; refine seq_lend rfl (ih ks[i] (List.getElem_mem (by omega)) (kk + 1) G p3 c3 r1a hos (by omega) (by omega)) rfl rfl rfl (fun r1' hr1 => ?_))
        refine seq_pure (pure_assign rfl) rfl rfl ?_
        refine seq_done ?_
        refine nrm_block ?_
        refine nrm_seq ?_
        refine tri_region ?_
        refine seq_pure (pure_move rfl) rfl rfl ?_
        refine seq_pure (pure_add rfl rfl (by omega) (by omega)) rfl rfl ?_
        refine seq_pure (pure_assign rfl) rfl rfl ?_
        refine seq_done ?_
        (rw [flat_step D, ← List.append_assoc r0]; refine nrm_loopN (i + 1, kk + 1 + cntTyL ks[i].ks, D ++ [[.int .i64 kk, .slice p3 ks[i].ks.length c3]], T', r0 ++ r1', r1b) ?_ ?_ ?_)
        · (simp only [flat_snoc]; exact sub_mk (by repeat (first | exact SubE.nil | refine SubE.cons rfl ?_)) (by repeat (first | exact SubH.refl | exact SubH.nil | refine SubH.cons (by repeat (first | exact Pk.here | apply Pk.there)) ?_ | apply SubH.drop)))
        · (dsimp only; exact ⟨by omega, by omega, by rw [mkTyL_take (by omega), mkTy_eq, ← hkk]; exact hD.snoc (hr1.ty_mk ⟨by omega, by omega⟩), hT'⟩)
        · (show ks.length - (i + 1) < ks.length - i; omega)
      · refine seq_done ?_
        refine nrm_seq ?_
        refine tri_cond_f rfl ?_
        refine tri_exit ?_
        refine ext_seq ?_
        refine ext_loopN ?_
        refine ext_block_eq ?_
        refine nrm_seq ?_
        refine tri_seq ?_
        refine tri_region ?_
        refine seq_pure (pure_move rfl) rfl rfl ?_
        refine seq_pure (pure_assign rfl) rfl rfl ?_
        refine seq_done ?_
        refine nrm_seq ?_
        refine tri_ret ?_
        (obtain rfl : i = ks.length := (by omega); refine ret_own1 (res_tmp rfl) SubH.refl ?_)
        exact ⟨rfl, by rw [hkk, List.take_length], OTyL.done hc hm hD hT⟩
set_option maxRecDepth 100000 in
theorem markType_fn (t : Ty) (k : Int) (G : IM) (cells : List Value) (bs : Blks) (ho : OTy t cells bs) (hk : 0 < k) (hb : k + cntTyL t.ks ≤ 1099511627776) :
    Fn Try.prog 54 [.agg ⟨cells⟩, .int .i64 k] (blks bs) G (Lent (.int .i64 (k + cntTyL t.ks)) G (fun bs' => ∃ p c, cells = [.int .i64 t.k, .slice p t.ks.length c] ∧ OTyS (mkTyL t.ks k) p c bs')) := by
  obtain ⟨p, c, rfl, hi, ho⟩ := ho.open
  have hM := markTypeS_fn t k G p c bs ho hk hb
  refine fn_enter Try.func54 rfl Try.ntmps54 Try.results54 rfl ?_
  intro w0
  refine tri_seq ?_
  refine tri_region ?_
  (refine seq_step (step_box_a rfl rfl) rfl ?_; rintro _ ⟨b3, rfl⟩)
  refine seq_pure (pure_assign rfl) rfl rfl ?_
  refine seq_done ?_
  refine nrm_seq ?_
  refine tri_seq ?_
  refine tri_region ?_
  refine seq_pure (pure_fieldAddr0 rfl) rfl rfl ?_
  refine seq_load (load_bs rfl rfl (by repeat (first | exact List.Mem.head _ | apply List.Mem.tail)) (by rfl)) rfl rfl ?_
  refine seq_pure (pure_move rfl) rfl rfl ?_
  (refine seq_lend (r0 := []) (r2 := []) rfl hM (by simp) rfl rfl (fun r1' hr1 => ?_); rw [List.nil_append, List.append_nil])
  refine seq_pure (pure_assign rfl) rfl rfl ?_
  refine seq_done ?_
  refine nrm_seq ?_
  refine tri_seq ?_
  refine tri_region ?_
  refine seq_pure (pure_move rfl) rfl rfl ?_
  refine seq_pure (pure_assign rfl) rfl rfl ?_
  refine seq_done ?_
  refine nrm_seq ?_
  refine tri_ret ?_
  refine ret_own1 (res_tmp rfl) (SubH.drop SubH.refl) ?_
  exact ⟨rfl, rfl, _, rfl, p, c, rfl, hr1⟩
end Gw
end Go.Proofs.Ytlefgfdhlblahaa
namespace Go.Proofs.Ytlefgfdhlblahaa
open Go Go.RowKit
namespace Gw
theorem upd_el2 {A : List Value} {D : List (List Value)} {e e' R vs : List Value} {i sz o1 o2 : Nat} (hD : D.length = i) (ha : ∀ x ∈ D, x.length = sz) (he : upd e (o1 + o2) vs = some e') :
    upd (A ++ (D.flatten ++ (e ++ R))) (A.length + i * sz + o1 + o2) vs = some (A ++ (D.flatten ++ (e' ++ R))) := by rw [Nat.add_assoc]; exact upd_el hD ha he
theorem at_el2 {hp : List Ent} {G : IM} {b : Nat} {A : List Value} {D : List (List Value)} {e R : List Value} {i sz o1 o2 : Nat} {v : Value} (hm : Ent.blk b (A ++ (D.flatten ++ (e ++ R))) ∈ hp) (hD : D.length = i) (ha : ∀ x ∈ D, x.length = sz) (he : e[o1 + o2]? = some v) :
    At hp G b (A.length + i * sz + o1 + o2) [v] := by rw [Nat.add_assoc]; exact at_el hm hD ha he
theorem OTm.mkm {k : Int} {nm : ByteArray} {num tk fk lb ka kb kd : Int} {a d : List Ty} {ks : List Tm} {pt pf p : Option Addr} {ct cf c : Nat} {bt bf bk : Blks} (ht : OTyS (mkTyL a ka) pt ct bt) (hf : OTyS (mkTyL d kb) pf cf bf) (h : OTmS (mkTmL ks kd) p c bk)
    (hk : I64 k) (hn : I64 num) (htk : I64 tk) (hfk : I64 fk) (hlb : I64 lb) :
    OTm (.mk k nm num (.mk tk (mkTyL a ka)) (.mk fk (mkTyL d kb)) lb (mkTmL ks kd)) [.int .i64 k, .string nm, .int .i64 num, .int .i64 tk, .slice pt a.length ct, .int .i64 fk, .slice pf d.length cf, .int .i64 lb, .slice p ks.length c] (bt ++ (bf ++ bk)) := by
  have := OTm.mk (nm := nm) hk hn htk hfk hlb ht hf h
  rwa [mkTyL_len a, mkTyL_len d, mkTmL_len] at this
theorem OTmL.drop {ks : List Tm} {i : Nat} {T : List (List Value)} {r : Blks} (hi : i < ks.length) (h : OTmL (ks.drop i) T r) : ∃ pt ct pf cf p c e' bt bf bk r2,
    T = [.int .i64 ks[i].k, .string ks[i].nm, .int .i64 ks[i].num, .int .i64 ks[i].ty.k, .slice pt ks[i].ty.ks.length ct, .int .i64 ks[i].fr.k, .slice pf ks[i].fr.ks.length cf, .int .i64 ks[i].lb, .slice p ks[i].ks.length c] :: e' ∧
    r = (bt ++ (bf ++ bk)) ++ r2 ∧ OTyS ks[i].ty.ks pt ct bt ∧ OTyS ks[i].fr.ks pf cf bf ∧ OTmS ks[i].ks p c bk ∧ OTmL (ks.drop (i + 1)) e' r2 := by
  rw [List.drop_eq_getElem_cons hi] at h
  obtain ⟨e, e', r1, r2, rfl, rfl, h1, h2⟩ := h.cons
  obtain ⟨pt, ct, pf, cf, p, c, bt, bf, bk, rfl, h3, h4, h5, rfl⟩ := h1.open
  exact ⟨pt, ct, pf, cf, p, c, e', bt, bf, bk, r2, rfl, rfl, h3, h4, h5, h2⟩
theorem OTmL.fin {ks : List Tm} {T : List (List Value)} {r : Blks} (h : OTmL (ks.drop ks.length) T r) : T = [] ∧ r = [] := by
  rw [List.drop_length] at h; simpa only [OTmL] using h
theorem OTmL.done {ks : List Tm} {k : Int} {c : Nat} {b : Nat} {A C : List Value} {D T : List (List Value)} {r0 r1 : Blks} (hc : ks.length ≤ c) (hm : c ≤ maxLen) (hD : OTmL (mkTmL (ks.take ks.length) k) D r0) (hT : OTmL (ks.drop ks.length) T r1) :
    ∃ bs', (Ent.blk b (A ++ (D.flatten ++ (T.flatten ++ C))) :: blks (r0 ++ r1)) = blks bs' ∧ OTmS (mkTmL ks k) (some ⟨b, A.length, none⟩) c bs' := by
  obtain ⟨rfl, rfl⟩ := hT.fin
  rw [List.take_length] at hD
  exact ⟨(b, A ++ (D.flatten ++ C)) :: r0, by simp [blks], by rw [mkTmL_len]; exact hc, hm, .inr ⟨b, A, C, D, r0, rfl, rfl, hD⟩⟩
theorem triL_hp {P : Program} {Γ : Ctx} {env : Env} {hp hp' : List Ent} {G : IM} {K : Po} {ops : Array Oper} {rest : List Oper} (e : hp = hp') (k : TriL P Γ ops rest K ⟨env, hp', G⟩) : TriL P Γ ops rest K ⟨env, hp, G⟩ := by rw [e]; exact k
theorem markText_int (k : Int) (h0 : 0 < k) (hk : k < 1000000000000000000) (G : IM) : Fn Try.prog 85 [.int .i64 k] [] G (Val (.string (mText k.toNat)) G) := by
  have h := markText_fn k.toNat (by omega) (by omega) G
  rwa [show ((k.toNat : Nat) : Int) = k by omega] at h
set_option maxHeartbeats 0 in
set_option maxRecDepth 100000 in
theorem markTermS_fn : ∀ (t : Tm) (k : Int) (G : IM) (p : Option Addr) (c : Nat) (bs : Blks), OTmS t.ks p c bs → 0 < k → k + cntTmL t.ks ≤ 1099511627776 →
    Fn Try.prog 55 [.slice p t.ks.length c, .int .i64 k] (blks bs) G (Lent (.int .i64 (k + cntTmL t.ks)) G (OTmS (mkTmL t.ks k) p c)) := by
  refine Tm.ind fun k0 nm0 num0 ty0 fr0 lb0 ks ih k G p c bs ho hk hb => ?_
  simp only [Tm.ks] at ho hb ⊢
  obtain ⟨hc, hm, h⟩ := ho
  rcases h with ⟨rfl, rfl⟩ | ⟨b, A, C, es, r, rfl, rfl, hL⟩
  · refine fn_enter Try.func55 rfl Try.ntmps55 Try.results55 rfl ?_
    intro w0
    refine tri_seq ?_
    refine tri_region ?_
    refine seq_pure (pure_assign rfl) rfl rfl ?_
    refine seq_done ?_
    refine nrm_seq ?_
    refine tri_seq ?_
    refine tri_seq ?_
    refine tri_region ?_
    refine seq_pure (pure_assign rfl) rfl rfl ?_
    refine seq_done ?_
    refine nrm_seq ?_
    refine tri_block ?_
    refine tri_loopN (fun (_ : Unit) => ⟨[(5, .int .i64 0), (1, .int .i64 k), (0, .slice p 0 c)], [], G⟩) (fun _ => True) (fun _ => 0) () ?_ ?_ ?_
    · exact sub_mk (by repeat (first | exact SubE.nil | refine SubE.cons rfl ?_)) (by repeat (first | exact SubH.refl | exact SubH.nil | refine SubH.cons (by repeat (first | exact Pk.here | apply Pk.there)) ?_ | apply SubH.drop))
    · trivial
    · (rintro _ _)
      refine tri_seq ?_
      refine tri_seq ?_
      refine tri_region ?_
      refine seq_pure (pure_move rfl) rfl rfl ?_
      refine seq_pure (pure_move rfl) rfl rfl ?_
      refine seq_pure (pure_len rfl rfl) rfl rfl ?_
      refine seq_pure (pure_lss_f rfl rfl (by omega)) rfl rfl ?_
      refine seq_done ?_
      refine nrm_seq ?_
      refine tri_cond_f rfl ?_
      refine tri_exit ?_
      refine ext_seq ?_
      refine ext_loopN ?_
      refine ext_block_eq ?_
      refine nrm_seq ?_
      refine tri_seq ?_
      refine tri_region ?_
      refine seq_pure (pure_move rfl) rfl rfl ?_
      refine seq_pure (pure_assign rfl) rfl rfl ?_
      refine seq_done ?_
      refine nrm_seq ?_
      refine tri_ret ?_
      refine ret_own1 (res_tmp rfl) SubH.refl ?_
      exact ⟨rfl, by rw [cntTmL, Int.add_zero], [], rfl, ⟨hc, hm, .inl ⟨rfl, rfl⟩⟩⟩
  · have hcm := hm
    unfold maxLen at hcm
    have hn : ks.length ≤ 9223372036854775807 := by omega
    refine fn_enter (ins := .blk b (A ++ (es.flatten ++ C)) :: blks r) Try.func55 rfl Try.ntmps55 Try.results55 rfl ?_
    intro w0
    refine tri_seq ?_
    refine tri_region ?_
    refine seq_pure (pure_assign rfl) rfl rfl ?_
    refine seq_done ?_
    refine nrm_seq ?_
    refine tri_seq ?_
    refine tri_seq ?_
    refine tri_region ?_
    refine seq_pure (pure_assign rfl) rfl rfl ?_
    refine seq_done ?_
    refine nrm_seq ?_
    refine tri_block ?_
    refine tri_loopN (fun (x : Nat × Int × List (List Value) × List (List Value) × Blks × Blks) => ⟨[(5, .int .i64 x.1), (1, .int .i64 x.2.1), (0, .slice (some ⟨b, A.length, none⟩) ks.length c)], .blk b (A ++ (x.2.2.1.flatten ++ (x.2.2.2.1.flatten ++ C))) :: blks (x.2.2.2.2.1 ++ x.2.2.2.2.2), G⟩) (fun x => x.1 ≤ ks.length ∧ x.2.1 = k + cntTmL (ks.take x.1) ∧ OTmL (mkTmL (ks.take x.1) k) x.2.2.1 x.2.2.2.2.1 ∧ OTmL (ks.drop x.1) x.2.2.2.1 x.2.2.2.2.2) (fun x => ks.length - x.1) (0, k, [], es, [], r) ?_ ?_ ?_
    · (simp only [flat_snoc]; exact sub_mk (by repeat (first | exact SubE.nil | refine SubE.cons rfl ?_)) (by repeat (first | exact SubH.refl | exact SubH.nil | refine SubH.cons (by repeat (first | exact Pk.here | apply Pk.there)) ?_ | apply SubH.drop)))
    · exact ⟨by simp, by simp [cntTmL], by simp [OTmL, mkTmL], by simpa using hL⟩
    · (rintro ⟨i, kk, D, T, r0, r1⟩ ⟨hi, hkk, hD, hT⟩; simp only [] at hi hkk hD hT ⊢; have hDl : D.length = i := (by rw [hD.len, mkTmL_len, List.length_take]; omega); have hall := hD.all; have hnn := cntTmL_nn (ks.take i); have htk := cntTmL_take ks i)
      refine tri_seq ?_
      refine tri_seq ?_
      refine tri_region ?_
      refine seq_pure (pure_move rfl) rfl rfl ?_
      refine seq_pure (pure_move rfl) rfl rfl ?_
      refine seq_pure (pure_len rfl rfl) rfl rfl ?_
      refine seq_bool (pure_lss rfl rfl) rfl rfl (fun h23 => ?_) (fun h23 => ?_)
      · refine seq_done ?_
        refine nrm_seq ?_
        refine tri_cond_t rfl ?_
        refine tri_skip ?_
        refine nrm_seq ?_
        refine tri_seq ?_
        refine tri_block ?_
        refine tri_seq ?_
        refine tri_region ?_
        refine seq_pure (pure_move rfl) rfl rfl ?_
        refine seq_pure (pure_move rfl) rfl rfl ?_
        refine seq_pure (pure_move rfl) rfl rfl ?_
        refine seq_pure (pure_indexAddrN rfl rfl rfl (by omega)) rfl rfl ?_
        refine seq_pure (pure_fieldAddr rfl) rfl rfl ?_
        (obtain ⟨pt3, ct3, pf3, cf3, p3, c3, T', bt, bf, bk, r1b, rfl, rfl, hot, hof, hos, hT'⟩ := hT.drop (by omega); have hsu := cntTmL_succ (ks := ks) (i := i) (by omega); have hta := cntTmL_take ks (i + 1); have hce := cntTm_eq ks[i]; have hn1 := cntTyL_nn ks[i].ty.ks; have hn2 := cntTyL_nn ks[i].fr.ks; have hn3 := cntTmL_nn ks[i].ks; rw [List.flatten_cons, List.append_assoc]; refine seq_store rfl rfl rfl rfl rfl rfl Sw.here (upd_el hDl hall rfl) ?_)
        refine seq_done ?_
        refine nrm_seq ?_
        refine tri_seq ?_
        refine tri_region ?_
        refine seq_pure (pure_move rfl) rfl rfl ?_
        refine seq_pure (pure_add rfl rfl (by omega) (by omega)) rfl rfl ?_
        refine seq_pure (pure_assign rfl) rfl rfl ?_
        refine seq_done ?_
        refine nrm_seq ?_
        refine tri_seq ?_
        refine tri_region ?_
        refine seq_pure (pure_move rfl) rfl rfl ?_
        refine seq_pure (pure_move rfl) rfl rfl ?_
        refine seq_pure (pure_move rfl) rfl rfl ?_
        refine seq_val rfl (markText_int _ (by omega) (by omega) _) rfl rfl ?_
        refine seq_pure (pure_indexAddrN rfl rfl rfl (by omega)) rfl rfl ?_
        refine seq_pure (pure_fieldAddr rfl) rfl rfl ?_
        refine seq_store rfl rfl rfl rfl rfl rfl Sw.here (upd_el hDl hall rfl) ?_
        refine seq_done ?_
        refine nrm_seq ?_
        refine tri_seq ?_
        refine tri_region ?_
        refine seq_pure (pure_move rfl) rfl rfl ?_
        refine seq_pure (pure_add rfl rfl (by omega) (by omega)) rfl rfl ?_
        refine seq_pure (pure_assign rfl) rfl rfl ?_
        refine seq_done ?_
        refine nrm_seq ?_
        refine tri_seq ?_
        refine tri_region ?_
        refine seq_pure (pure_move rfl) rfl rfl ?_
        refine seq_pure (pure_move rfl) rfl rfl ?_
        refine seq_pure (pure_move rfl) rfl rfl ?_
        refine seq_pure (pure_indexAddrN rfl rfl rfl (by omega)) rfl rfl ?_
        refine seq_pure (pure_fieldAddr rfl) rfl rfl ?_
        refine seq_store rfl rfl rfl rfl rfl rfl Sw.here (upd_el hDl hall rfl) ?_
        refine seq_done ?_
        refine nrm_seq ?_
        refine tri_seq ?_
        refine tri_region ?_
        refine seq_pure (pure_move rfl) rfl rfl ?_
        refine seq_pure (pure_add rfl rfl (by omega) (by omega)) rfl rfl ?_
        refine seq_pure (pure_assign rfl) rfl rfl ?_
        refine seq_done ?_
        refine nrm_seq ?_
        refine tri_seq ?_
        refine tri_region ?_
        refine seq_pure (pure_move rfl) rfl rfl ?_
        refine seq_pure (pure_move rfl) rfl rfl ?_
        refine seq_pure (pure_move rfl) rfl rfl ?_
        refine seq_pure (pure_indexAddrN rfl rfl rfl (by omega)) rfl rfl ?_
        refine seq_pure (pure_fieldAddr rfl) rfl rfl ?_
        refine seq_pure (pure_fieldAddr rfl) rfl rfl ?_
        refine seq_store rfl rfl rfl rfl rfl rfl Sw.here (upd_el hDl hall rfl) ?_
        refine seq_done ?_
        refine nrm_seq ?_
        refine tri_seq ?_
        refine tri_region ?_
        refine seq_pure (pure_move rfl) rfl rfl ?_
        refine seq_pure (pure_add rfl rfl (by omega) (by omega)) rfl rfl ?_
        refine seq_pure (pure_assign rfl) rfl rfl ?_
        refine seq_done ?_
        refine nrm_seq ?_
        refine tri_seq ?_
        refine tri_region ?_
        refine seq_pure (pure_move rfl) rfl rfl ?_
        refine seq_pure (pure_move rfl) rfl rfl ?_
        refine seq_pure (pure_indexAddrN rfl rfl rfl (by omega)) rfl rfl ?_
        refine seq_pure (pure_fieldAddr rfl) rfl rfl ?_
        refine seq_pure (pure_fieldAddr rfl) rfl rfl ?_
        refine seq_load (load_s rfl rfl (at_el2 (List.Mem.head _) hDl hall rfl)) rfl rfl ?_
        refine seq_pure (pure_move rfl) rfl rfl ?_
        (refine seq_lend (r0 := r0) (r1 := bt) (r2 := bf ++ (bk ++ r1b)) rfl (markTypeS_fn ks[i].ty (kk + 1 + 1 + 1 + 1) G pt3 ct3 bt hot (by omega) (by omega)) (by simp) rfl rfl (fun bt' hbt => ?_))
        refine seq_pure (pure_assign rfl) rfl rfl ?_
        refine seq_done ?_
        refine nrm_seq ?_
        refine tri_seq ?_
        refine tri_region ?_
        refine seq_pure (pure_move rfl) rfl rfl ?_
        refine seq_pure (pure_move rfl) rfl rfl ?_
        refine seq_pure (pure_move rfl) rfl rfl ?_
        refine seq_pure (pure_indexAddrN rfl rfl rfl (by omega)) rfl rfl ?_
        refine seq_pure (pure_fieldAddr rfl) rfl rfl ?_
        refine seq_pure (pure_fieldAddr rfl) rfl rfl ?_
        refine seq_store rfl rfl rfl rfl rfl rfl Sw.here (upd_el hDl hall rfl) ?_
        refine seq_done ?_
        refine nrm_seq ?_
        refine tri_seq ?_
        refine tri_region ?_
        refine seq_pure (pure_move rfl) rfl rfl ?_
        refine seq_pure (pure_add rfl rfl (by omega) (by omega)) rfl rfl ?_
        refine seq_pure (pure_assign rfl) rfl rfl ?_
        refine seq_done ?_
        refine nrm_seq ?_
        refine tri_seq ?_
        refine tri_region ?_
        refine seq_pure (pure_move rfl) rfl rfl ?_
        refine seq_pure (pure_move rfl) rfl rfl ?_
        refine seq_pure (pure_indexAddrN rfl rfl rfl (by omega)) rfl rfl ?_
        refine seq_pure (pure_fieldAddr rfl) rfl rfl ?_
        refine seq_pure (pure_fieldAddr rfl) rfl rfl ?_
        refine seq_load (load_s rfl rfl (at_el2 (List.Mem.head _) hDl hall rfl)) rfl rfl ?_
        refine seq_pure (pure_move rfl) rfl rfl ?_
        (refine seq_lend (r0 := r0 ++ bt') (r1 := bf) (r2 := bk ++ r1b) rfl (markTypeS_fn ks[i].fr (kk + 1 + 1 + 1 + 1 + cntTyL ks[i].ty.ks + 1) G pf3 cf3 bf hof (by omega) (by omega)) (by simp) rfl rfl (fun bf' hbf => ?_))
        refine seq_pure (pure_assign rfl) rfl rfl ?_
        refine seq_done ?_
        refine nrm_seq ?_
        refine tri_seq ?_
        refine tri_region ?_
        refine seq_pure (pure_move rfl) rfl rfl ?_
        refine seq_pure (pure_move rfl) rfl rfl ?_
        refine seq_pure (pure_move rfl) rfl rfl ?_
        refine seq_pure (pure_indexAddrN rfl rfl rfl (by omega)) rfl rfl ?_
        refine seq_pure (pure_fieldAddr rfl) rfl rfl ?_
        refine seq_store rfl rfl rfl rfl rfl rfl Sw.here (upd_el hDl hall rfl) ?_
        refine seq_done ?_
        refine nrm_seq ?_
        refine tri_seq ?_
        refine tri_region ?_
        refine seq_pure (pure_move rfl) rfl rfl ?_
        refine seq_pure (pure_add rfl rfl (by omega) (by omega)) rfl rfl ?_
        refine seq_pure (pure_assign rfl) rfl rfl ?_
        refine seq_done ?_
        refine nrm_seq ?_
        refine tri_region ?_
        refine seq_pure (pure_move rfl) rfl rfl ?_
        refine seq_pure (pure_move rfl) rfl rfl ?_
        refine seq_pure (pure_indexAddrN rfl rfl rfl (by omega)) rfl rfl ?_
        refine seq_pure (pure_fieldAddr rfl) rfl rfl ?_
        refine seq_load (load_s rfl rfl (at_el (List.Mem.head _) hDl hall rfl)) rfl rfl ?_
        refine seq_pure (pure_move rfl) rfl rfl ?_
        (refine seq_lend (r0 := r0 ++ bt' ++ bf') (r1 := bk) (r2 := r1b) rfl (ih ks[i] (List.getElem_mem (by omega)) (kk + 1 + 1 + 1 + 1 + cntTyL ks[i].ty.ks + 1 + cntTyL ks[i].fr.ks + 1) G p3 c3 bk hos (by omega) (by omega)) (by simp) rfl rfl (fun bk' hbk => ?_); refine triL_hp (hp' := .blk b (A ++ ((D ++ [([.int .i64 kk, .string (mText (kk + 1).toNat), .int .i64 (kk + 1 + 1), .int .i64 (kk + 1 + 1 + 1), .slice pt3 ks[i].ty.ks.length ct3, .int .i64 (kk + 1 + 1 + 1 + 1 + cntTyL ks[i].ty.ks), .slice pf3 ks[i].fr.ks.length cf3, .int .i64 (kk + 1 + 1 + 1 + 1 + cntTyL ks[i].ty.ks + 1 + cntTyL ks[i].fr.ks), .slice p3 ks[i].ks.length c3] : List Value)]).flatten ++ (T'.flatten ++ C))) :: blks ((r0 ++ (bt' ++ (bf' ++ bk'))) ++ r1b)) (by simp) ?_)
        refine seq_pure (pure_assign rfl) rfl rfl ?_
        refine seq_done ?_
        refine nrm_block ?_
        refine nrm_seq ?_
        refine tri_region ?_
        refine seq_pure (pure_move rfl) rfl rfl ?_
        refine seq_pure (pure_add rfl rfl (by omega) (by omega)) rfl rfl ?_
        refine seq_pure (pure_assign rfl) rfl rfl ?_
        refine seq_done ?_
        (refine nrm_loopN (i + 1, kk + 1 + 1 + 1 + 1 + cntTyL ks[i].ty.ks + 1 + cntTyL ks[i].fr.ks + 1 + cntTmL ks[i].ks, D ++ [[.int .i64 kk, .string (mText (kk + 1).toNat), .int .i64 (kk + 1 + 1), .int .i64 (kk + 1 + 1 + 1), .slice pt3 ks[i].ty.ks.length ct3, .int .i64 (kk + 1 + 1 + 1 + 1 + cntTyL ks[i].ty.ks), .slice pf3 ks[i].fr.ks.length cf3, .int .i64 (kk + 1 + 1 + 1 + 1 + cntTyL ks[i].ty.ks + 1 + cntTyL ks[i].fr.ks), .slice p3 ks[i].ks.length c3]], T', r0 ++ (bt' ++ (bf' ++ bk')), r1b) ?_ ?_ ?_)
        · (simp only [flat_snoc]; exact sub_mk (by repeat (first | exact SubE.nil | refine SubE.cons rfl ?_)) (by repeat (first | exact SubH.refl | exact SubH.nil | refine SubH.cons (by repeat (first | exact Pk.here | apply Pk.there)) ?_ | apply SubH.drop)))
        · (dsimp only; exact ⟨by omega, by omega, by rw [mkTmL_take (by omega), mkTm_eq, ← hkk]; exact hD.snoc (OTm.mkm hbt hbf hbk ⟨by omega, by omega⟩ ⟨by omega, by omega⟩ ⟨by omega, by omega⟩ ⟨by omega, by omega⟩ ⟨by omega, by omega⟩), hT'⟩)
        · (show ks.length - (i + 1) < ks.length - i; omega)
      · refine seq_done ?_
        refine nrm_seq ?_
        refine tri_cond_f rfl ?_
        refine tri_exit ?_
        refine ext_seq ?_
        refine ext_loopN ?_
        refine ext_block_eq ?_
        refine nrm_seq ?_
        refine tri_seq ?_
        refine tri_region ?_
        refine seq_pure (pure_move rfl) rfl rfl ?_
        refine seq_pure (pure_assign rfl) rfl rfl ?_
        refine seq_done ?_
        refine nrm_seq ?_
        refine tri_ret ?_
        (obtain rfl : i = ks.length := (by omega); refine ret_own1 (res_tmp rfl) SubH.refl ?_)
        exact ⟨rfl, by rw [hkk, List.take_length], OTmL.done hc hm hD hT⟩
end Gw
end Go.Proofs.Ytlefgfdhlblahaa
namespace Go.Proofs.Ytlefgfdhlblahaa
open Go Go.RowKit
namespace Gw
theorem OTm.open9 {k : Int} {nm : ByteArray} {num tk fk lb : Int} {tks fks : List Ty} {ks : List Tm} {cells : List Value} {bs : Blks} (h : OTm (.mk k nm num (.mk tk tks) (.mk fk fks) lb ks) cells bs) : ∃ pt ct pf cf p c bt bf bk,
    cells = [.int .i64 k, .string nm, .int .i64 num, .int .i64 tk, .slice pt tks.length ct, .int .i64 fk, .slice pf fks.length cf, .int .i64 lb, .slice p ks.length c] ∧
    OTy (.mk tk tks) [.int .i64 tk, .slice pt tks.length ct] bt ∧ OTy (.mk fk fks) [.int .i64 fk, .slice pf fks.length cf] bf ∧ OTmS ks p c bk ∧ bs = bt ++ (bf ++ bk) := by
  simp only [OTm] at h
  obtain ⟨tc, fc, p, c, bt, bf, bk, h1, _, _, _, h5, h6, h7, h8, h9, h10⟩ := h
  obtain ⟨pt, ct, rfl, _, _⟩ := h5.open
  obtain ⟨pf, cf, rfl, _, _⟩ := h6.open
  exact ⟨pt, ct, pf, cf, p, c, bt, bf, bk, h1, h5, h6, ⟨h7, h8, h9⟩, h10⟩
theorem triL_bl {P : Program} {Γ : Ctx} {env : Env} {x : Ent} {R R' : Blks} {G : IM} {K : Po} {ops : Array Oper} {rest : List Oper} (e : R = R') (k : TriL P Γ ops rest K ⟨env, x :: blks R', G⟩) : TriL P Γ ops rest K ⟨env, x :: blks R, G⟩ := by rw [e]; exact k
/-- What a marked term's memory is. -/
def MTm (t : Tm) (k : Int) (cells : List Value) (bs : Blks) : Prop := ∃ pt ct pf cf p c bt bf bk,
  cells = [.int .i64 t.k, .string t.nm, .int .i64 t.num, .int .i64 t.ty.k, .slice pt t.ty.ks.length ct, .int .i64 t.fr.k, .slice pf t.fr.ks.length cf, .int .i64 t.lb, .slice p t.ks.length c] ∧
  OTyS (mkTyL t.ty.ks k) pt ct bt ∧ OTyS (mkTyL t.fr.ks (k + cntTyL t.ty.ks)) pf cf bf ∧ OTmS (mkTmL t.ks (k + cntTyL t.ty.ks + cntTyL t.fr.ks)) p c bk ∧ bs = bt ++ (bf ++ bk)
set_option maxRecDepth 100000 in
theorem markTerm_fn (t : Tm) (k : Int) (G : IM) (cells : List Value) (bs : Blks) (ho : OTm t cells bs) (hk : 0 < k) (hb : k + cntTyL t.ty.ks + cntTyL t.fr.ks + cntTmL t.ks ≤ 1099511627776) :
    Fn Try.prog 21 [.agg ⟨cells⟩, .int .i64 k] (blks bs) G (Lent (.int .i64 (k + cntTyL t.ty.ks + cntTyL t.fr.ks + cntTmL t.ks)) G (MTm t k cells)) := by
  obtain ⟨k0, nm, num, ⟨tk, tks⟩, ⟨fk, fks⟩, lb, ks⟩ := t
  obtain ⟨pt, ct, pf, cf, p, c, bt, bf, bk, rfl, hot, hof, hos, rfl⟩ := ho.open9
  simp only [Tm.ty, Tm.fr, Tm.ks, Ty.ks] at hb ⊢
  have h1 := cntTyL_nn tks
  have h2 := cntTyL_nn fks
  have h3 := cntTmL_nn ks
  refine fn_enter Try.func21 rfl Try.ntmps21 Try.results21 rfl ?_
  intro w0
  refine tri_seq ?_
  refine tri_region ?_
  (refine seq_step (step_box_a rfl rfl) rfl ?_; rintro _ ⟨b3, rfl⟩)
  refine seq_pure (pure_assign rfl) rfl rfl ?_
  refine seq_done ?_
  refine nrm_seq ?_
  refine tri_seq ?_
  refine tri_region ?_
  refine seq_pure (pure_fieldAddr0 rfl) rfl rfl ?_
  refine seq_load (load_ba rfl rfl (by repeat (first | exact List.Mem.head _ | apply List.Mem.tail)) (by rfl)) rfl rfl ?_
  refine seq_pure (pure_move rfl) rfl rfl ?_
  (refine seq_lend (r0 := []) (r1 := bt) (r2 := bf ++ bk) rfl (markType_fn (.mk tk tks) k G _ bt hot hk (by simp only [Ty.ks]; omega)) rfl rfl rfl (fun bt' hbt => ?_); obtain ⟨p1, c1, he1, hbt⟩ := hbt; simp only [Ty.k, Ty.ks, List.cons.injEq, Value.slice.injEq, true_and, and_true] at he1 hbt ⊢; obtain ⟨rfl, rfl⟩ := he1)
  refine seq_pure (pure_assign rfl) rfl rfl ?_
  refine seq_done ?_
  refine nrm_seq ?_
  refine tri_seq ?_
  refine tri_region ?_
  refine seq_pure (pure_fieldAddr0 rfl) rfl rfl ?_
  refine seq_load (load_ba rfl rfl (by repeat (first | exact List.Mem.head _ | apply List.Mem.tail)) (by rfl)) rfl rfl ?_
  refine seq_pure (pure_move rfl) rfl rfl ?_
  (refine seq_lend (r0 := bt') (r1 := bf) (r2 := bk) rfl (markType_fn (.mk fk fks) (k + cntTyL tks) G _ bf hof (by omega) (by simp only [Ty.ks]; omega)) rfl rfl rfl (fun bf' hbf => ?_); obtain ⟨p2, c2, he2, hbf⟩ := hbf; simp only [Ty.k, Ty.ks, List.cons.injEq, Value.slice.injEq, true_and, and_true] at he2 hbf ⊢; obtain ⟨rfl, rfl⟩ := he2)
  refine seq_pure (pure_assign rfl) rfl rfl ?_
  refine seq_done ?_
  refine nrm_seq ?_
  refine tri_seq ?_
  refine tri_region ?_
  refine seq_pure (pure_fieldAddr0 rfl) rfl rfl ?_
  refine seq_load (load_bs rfl rfl (by repeat (first | exact List.Mem.head _ | apply List.Mem.tail)) (by rfl)) rfl rfl ?_
  refine seq_pure (pure_move rfl) rfl rfl ?_
  (refine seq_lend (r0 := bt' ++ bf') (r1 := bk) (r2 := []) rfl (markTermS_fn (.mk k0 nm num (.mk tk tks) (.mk fk fks) lb ks) (k + cntTyL tks + cntTyL fks) G p c bk hos (by omega) (by simp only [Tm.ks]; omega)) (by simp) rfl rfl (fun bk' hbk => ?_); simp only [Tm.ks] at hbk ⊢; refine triL_bl (R' := bt' ++ (bf' ++ bk')) (by simp) ?_)
  refine seq_pure (pure_assign rfl) rfl rfl ?_
  refine seq_done ?_
  refine nrm_seq ?_
  refine tri_seq ?_
  refine tri_region ?_
  refine seq_pure (pure_move rfl) rfl rfl ?_
  refine seq_pure (pure_assign rfl) rfl rfl ?_
  refine seq_done ?_
  refine nrm_seq ?_
  refine tri_ret ?_
  refine ret_own1 (res_tmp rfl) (SubH.drop SubH.refl) ?_
  exact ⟨rfl, rfl, _, rfl, _, _, _, _, _, _, _, _, _, rfl, hbt, hbf, hbk, rfl⟩

/- Paths. -/
def mkInts : Nat → Int → List Int
  | 0, _ => []
  | n + 1, k => k :: mkInts n (k + 1)
theorem mkInts_len : ∀ (n : Nat) (k : Int), (mkInts n k).length = n
  | 0, k => rfl
  | n + 1, k => by rw [mkInts, List.length_cons, mkInts_len n]
theorem mkInts_get : ∀ (n : Nat) (k : Int) (i : Nat) (h : i < (mkInts n k).length), (mkInts n k)[i] = k + i
  | 0, k, i, h => by simp [mkInts] at h
  | n + 1, k, 0, h => by simp [mkInts]
  | n + 1, k, i + 1, h => by
    have := mkInts_get n (k + 1) i (by rw [mkInts_len] at h ⊢; omega)
    simp only [mkInts, List.getElem_cons_succ, this]; omega
theorem mkInts_snoc : ∀ (n : Nat) (k : Int), mkInts (n + 1) k = mkInts n k ++ [k + n]
  | 0, k => by simp [mkInts]
  | n + 1, k => by rw [mkInts, mkInts_snoc n, mkInts, List.cons_append, show k + 1 + (n : Int) = k + ((n + 1 : Nat) : Int) by omega]
def OIs (l : List Int) (p : Option Addr) (c : Nat) (bs : Blks) : Prop :=
  l.length ≤ c ∧ c ≤ maxLen ∧ ((l = [] ∧ bs = []) ∨ ∃ b A C, p = some ⟨b, A.length, none⟩ ∧ bs = [(b, A ++ (ints l ++ C))])
theorem upd_int {A D R : List Value} {v u : Value} {i : Nat} (h : D.length = i) : upd (A ++ (D ++ (v :: R))) (A.length + i * 1) [u] = some (A ++ (D ++ (u :: R))) := by
  have := upd_in (X := A ++ D) (e := [v]) (e' := [u]) (Y := R) (vs := [u]) (o := 0) rfl
  simpa [h] using this
theorem ints_drop {l : List Int} {i : Nat} (hi : i < l.length) : ints (l.drop i) = .int .i64 l[i] :: ints (l.drop (i + 1)) := by
  rw [List.drop_eq_getElem_cons hi]; rfl
set_option maxRecDepth 100000 in
theorem markIntS_fn (l : List Int) (k : Int) (G : IM) (p : Option Addr) (c : Nat) (bs : Blks) (ho : OIs l p c bs) (hk : 0 < k) (hb : k + l.length ≤ 1099511627776) :
    Fn Try.prog 27 [.slice p l.length c, .int .i64 k] (blks bs) G (Lent (.int .i64 (k + l.length)) G (OIs (mkInts l.length k) p c)) := by
  obtain ⟨hc, hm, h⟩ := ho
  rcases h with ⟨rfl, rfl⟩ | ⟨b, A, C, rfl, rfl⟩
  · refine fn_enter Try.func27 rfl Try.ntmps27 Try.results27 rfl ?_
    intro w0
    refine tri_seq ?_
    refine tri_region ?_
    refine seq_pure (pure_assign rfl) rfl rfl ?_
    refine seq_done ?_
    refine nrm_seq ?_
    refine tri_seq ?_
    refine tri_seq ?_
    refine tri_region ?_
    refine seq_pure (pure_assign rfl) rfl rfl ?_
    refine seq_done ?_
    refine nrm_seq ?_
    refine tri_block ?_
    refine tri_loopN (fun (_ : Unit) => ⟨[(5, .int .i64 0), (1, .int .i64 k), (0, .slice p 0 c)], [], G⟩) (fun _ => True) (fun _ => 0) () ?_ ?_ ?_
    · exact sub_mk (by repeat (first | exact SubE.nil | refine SubE.cons rfl ?_)) (by repeat (first | exact SubH.refl | exact SubH.nil | refine SubH.cons (by repeat (first | exact Pk.here | apply Pk.there)) ?_ | apply SubH.drop))
    · trivial
    · (rintro _ _)
      refine tri_seq ?_
      refine tri_seq ?_
      refine tri_region ?_
      refine seq_pure (pure_move rfl) rfl rfl ?_
      refine seq_pure (pure_move rfl) rfl rfl ?_
      refine seq_pure (pure_len rfl rfl) rfl rfl ?_
      refine seq_pure (pure_lss_f rfl rfl (by omega)) rfl rfl ?_
      refine seq_done ?_
      refine nrm_seq ?_
      refine tri_cond_f rfl ?_
      refine tri_exit ?_
      refine ext_seq ?_
      refine ext_loopN ?_
      refine ext_block_eq ?_
      refine nrm_seq ?_
      refine tri_seq ?_
      refine tri_region ?_
      refine seq_pure (pure_move rfl) rfl rfl ?_
      refine seq_pure (pure_assign rfl) rfl rfl ?_
      refine seq_done ?_
      refine nrm_seq ?_
      refine tri_ret ?_
      refine ret_own1 (res_tmp rfl) SubH.refl ?_
      exact ⟨rfl, by rw [List.length_nil]; simp, [], rfl, ⟨hc, hm, .inl ⟨rfl, rfl⟩⟩⟩
  · refine fn_enter (ins := [.blk b (A ++ (ints l ++ C))]) Try.func27 rfl Try.ntmps27 Try.results27 rfl ?_
    intro w0
    refine tri_seq ?_
    refine tri_region ?_
    refine seq_pure (pure_assign rfl) rfl rfl ?_
    refine seq_done ?_
    refine nrm_seq ?_
    refine tri_seq ?_
    refine tri_seq ?_
    refine tri_region ?_
    refine seq_pure (pure_assign rfl) rfl rfl ?_
    refine seq_done ?_
    refine nrm_seq ?_
    refine tri_block ?_
    refine tri_loopN (fun (x : Nat × Int × List Value × List Value) => ⟨[(5, .int .i64 x.1), (1, .int .i64 x.2.1), (0, .slice (some ⟨b, A.length, none⟩) l.length c)], [.blk b (A ++ (x.2.2.1 ++ (x.2.2.2 ++ C)))], G⟩) (fun x => x.1 ≤ l.length ∧ x.2.1 = k + x.1 ∧ x.2.2.1 = ints (mkInts x.1 k) ∧ x.2.2.2 = ints (l.drop x.1)) (fun x => l.length - x.1) (0, k, [], ints l) ?_ ?_ ?_
    · (simp only [flat_snoc]; exact sub_mk (by repeat (first | exact SubE.nil | refine SubE.cons rfl ?_)) (by repeat (first | exact SubH.refl | exact SubH.nil | refine SubH.cons (by repeat (first | exact Pk.here | apply Pk.there)) ?_ | apply SubH.drop)))
    · exact ⟨by simp, by simp, rfl, rfl⟩
    · (rintro ⟨i, kk, D, T⟩ ⟨hi, hkk, hD, hT⟩; simp only [] at hi hkk hD hT ⊢; have hDl : D.length = i := (by rw [hD, ints_len, mkInts_len]))
      refine tri_seq ?_
      refine tri_seq ?_
      refine tri_region ?_
      refine seq_pure (pure_move rfl) rfl rfl ?_
      refine seq_pure (pure_move rfl) rfl rfl ?_
      refine seq_pure (pure_len rfl rfl) rfl rfl ?_
      refine seq_bool (pure_lss rfl rfl) rfl rfl (fun h23 => ?_) (fun h23 => ?_)
      · refine seq_done ?_
        refine nrm_seq ?_
        refine tri_cond_t rfl ?_
        refine tri_skip ?_
        refine nrm_seq ?_
        refine tri_seq ?_
        refine tri_block ?_
        refine tri_seq ?_
        refine tri_region ?_
        refine seq_pure (pure_move rfl) rfl rfl ?_
        refine seq_pure (pure_move rfl) rfl rfl ?_
        refine seq_pure (pure_move rfl) rfl rfl ?_
        refine seq_pure (pure_indexAddrN rfl rfl rfl (by omega)) rfl rfl ?_
        (rw [ints_drop (by omega)] at hT; subst hT; rw [List.cons_append]; refine seq_store rfl rfl rfl rfl rfl rfl Sw.here (upd_int hDl) ?_)
        refine seq_done ?_
        refine nrm_seq ?_
        refine tri_region ?_
        refine seq_pure (pure_move rfl) rfl rfl ?_
        refine seq_pure (pure_add rfl rfl (by omega) (by omega)) rfl rfl ?_
        refine seq_pure (pure_assign rfl) rfl rfl ?_
        refine seq_done ?_
        refine nrm_block ?_
        refine nrm_seq ?_
        refine tri_region ?_
        refine seq_pure (pure_move rfl) rfl rfl ?_
        refine seq_pure (pure_add rfl rfl (by omega) (by omega)) rfl rfl ?_
        refine seq_pure (pure_assign rfl) rfl rfl ?_
        refine seq_done ?_
        (rw [show D ++ (Value.int .i64 kk :: (ints (l.drop (i + 1)) ++ C)) = (D ++ [.int .i64 kk]) ++ (ints (l.drop (i + 1)) ++ C) from by simp]; refine nrm_loopN (i + 1, kk + 1, D ++ [.int .i64 kk], ints (l.drop (i + 1))) ?_ ?_ ?_)
        · (simp only [flat_snoc]; exact sub_mk (by repeat (first | exact SubE.nil | refine SubE.cons rfl ?_)) (by repeat (first | exact SubH.refl | exact SubH.nil | refine SubH.cons (by repeat (first | exact Pk.here | apply Pk.there)) ?_ | apply SubH.drop)))
        · (dsimp only; exact ⟨by omega, by omega, by rw [mkInts_snoc, hD, hkk]; simp [ints], rfl⟩)
        · (show l.length - (i + 1) < l.length - i; omega)
      · refine seq_done ?_
        refine nrm_seq ?_
        refine tri_cond_f rfl ?_
        refine tri_exit ?_
        refine ext_seq ?_
        refine ext_loopN ?_
        refine ext_block_eq ?_
        refine nrm_seq ?_
        refine tri_seq ?_
        refine tri_region ?_
        refine seq_pure (pure_move rfl) rfl rfl ?_
        refine seq_pure (pure_assign rfl) rfl rfl ?_
        refine seq_done ?_
        refine nrm_seq ?_
        refine tri_ret ?_
        (obtain rfl : i = l.length := (by omega); refine ret_own1 (res_tmp rfl) SubH.refl ?_)
        (rw [List.drop_length] at hT; exact ⟨rfl, by rw [hkk], [(b, A ++ (D ++ (T ++ C)))], rfl, by rw [mkInts_len]; exact hc, hm, .inr ⟨b, A, C, rfl, by rw [hD, hT]; rfl⟩⟩)
/- Lists of paths. -/
def OPs : List (List Int) → List Value → Blks → Prop
  | [], es, bs => es = [] ∧ bs = []
  | l :: ls, es, bs => ∃ p c e' r1 r2, es = .slice p l.length c :: e' ∧ bs = r1 ++ r2 ∧ OIs l p c r1 ∧ OPs ls e' r2
def cntIs : List (List Int) → Int
  | [] => 0
  | l :: ls => l.length + cntIs ls
def mkIs : List (List Int) → Int → List (List Int)
  | [], _ => []
  | l :: ls, k => mkInts l.length k :: mkIs ls (k + l.length)
theorem cntIs_nn : ∀ ls, 0 ≤ cntIs ls
  | [] => by rw [cntIs]; omega
  | l :: ls => by have := cntIs_nn ls; rw [cntIs]; omega
theorem cntIs_append : ∀ a b, cntIs (a ++ b) = cntIs a + cntIs b
  | [], b => by simp [cntIs]
  | l :: a, b => by rw [List.cons_append, cntIs, cntIs, cntIs_append a b]; omega
theorem cntIs_succ {ls : List (List Int)} {i : Nat} (hi : i < ls.length) : cntIs (ls.take (i + 1)) = cntIs (ls.take i) + ls[i].length := by
  rw [List.take_succ_eq_append_getElem hi, cntIs_append, cntIs, cntIs]; omega
theorem cntIs_take (ls : List (List Int)) (i : Nat) : cntIs (ls.take i) ≤ cntIs ls := by
  have h := cntIs_append (ls.take i) (ls.drop i)
  rw [List.take_append_drop] at h
  have := cntIs_nn (ls.drop i); omega
theorem mkIs_snoc : ∀ (ls : List (List Int)) (l : List Int) (k : Int), mkIs (ls ++ [l]) k = mkIs ls k ++ [mkInts l.length (k + cntIs ls)]
  | [], l, k => by simp [mkIs, cntIs]
  | l' :: ls, l, k => by rw [List.cons_append, mkIs, mkIs_snoc ls, mkIs, cntIs, List.cons_append, Int.add_assoc]
theorem mkIs_take {ls : List (List Int)} {i : Nat} (hi : i < ls.length) (k : Int) : mkIs (ls.take (i + 1)) k = mkIs (ls.take i) k ++ [mkInts ls[i].length (k + cntIs (ls.take i))] := by
  rw [List.take_succ_eq_append_getElem hi, mkIs_snoc]
theorem mkIs_len : ∀ (ls : List (List Int)) (k : Int), (mkIs ls k).length = ls.length
  | [], k => rfl
  | l :: ls, k => by rw [mkIs, List.length_cons, mkIs_len ls, List.length_cons]
theorem OPs.len : ∀ {ls : List (List Int)} {es : List Value} {bs : Blks}, OPs ls es bs → es.length = ls.length
  | [], es, bs, h => by rw [h.1]; rfl
  | l :: ls, es, bs, ⟨p, c, e', r1, r2, h1, h2, h3, h4⟩ => by rw [h1, List.length_cons, h4.len, List.length_cons]
theorem OPs.snoc : ∀ {ls : List (List Int)} {es : List Value} {bs : Blks} {l : List Int} {p : Option Addr} {c : Nat} {r : Blks}, OPs ls es bs → OIs l p c r → OPs (ls ++ [l]) (es ++ [.slice p l.length c]) (bs ++ r)
  | [], es, bs, l, p, c, r, ⟨h1, h2⟩, h => by rw [h1, h2]; exact ⟨p, c, [], r, [], rfl, by simp, h, rfl, rfl⟩
  | l' :: ls, es, bs, l, p, c, r, ⟨p', c', e', r1, r2, h1, h2, h3, h4⟩, h => ⟨p', c', e' ++ [.slice p l.length c], r1, r2 ++ r, by rw [h1]; rfl, by rw [h2, List.append_assoc], h3, h4.snoc h⟩
section lend0
variable {P : Program} {Γ : Ctx} {env : Env} {G : IM} {K : Po} {ops : Array Oper} {rest : List Oper} {ty : TypeId} {pos : String} {af : Array Edge} {gd : Option (Nat × Bool)}
theorem perm_lend0 (r0 r1 r2 : Blks) : (blks (r0 ++ (r1 ++ r2))).Perm (blks r1 ++ blks (r0 ++ r2)) := by
  simp only [blks_append]
  rw [← List.append_assoc, ← List.append_assoc]
  exact List.Perm.append_right _ List.perm_append_comm
theorem seq_lend0 {d : Nat} {f : FuncId} [hF : FunI P f] {xs : List Operand} {ats : Array TypeId} {vs : List Value} {v0 : Value} {Φ : Blks → Prop} {R r0 r1 r2 : Blks}
    (hx : evl env xs = some vs) (h : Fn P f vs (blks r1) G (Lent v0 G Φ)) (hR : R = r0 ++ (r1 ++ r2)) (hw : wantG ops env gd = some true) (hd : Nat.blt d Γ.n = true)
    (k : ∀ r1', Φ r1' → TriL P Γ ops rest K ⟨(d, v0) :: env, blks (r0 ++ (r1' ++ r2)), G⟩) : TriL P Γ ops (⟨some d, .call ⟨.value (.func f), ⟨xs⟩, ats⟩, ty, pos, af, gd⟩ :: rest) K ⟨env, blks R, G⟩ := by
  subst hR
  refine seq_step (step_call_own hx h (perm_lend0 r0 r1 r2) hd) hw ?_
  rintro _ ⟨v, G', outs, rfl, _, rfl, rfl, r1', rfl, hΦ⟩
  exact triL_perm (perm_lend0 r0 r1' r2).symm (k r1' hΦ)
end lend0
theorem OPs.drop {ls : List (List Int)} {i : Nat} {es : List Value} {r : Blks} (hi : i < ls.length) (h : OPs (ls.drop i) es r) : ∃ p c e' r1 r2, es = .slice p ls[i].length c :: e' ∧ r = r1 ++ r2 ∧ OIs ls[i] p c r1 ∧ OPs (ls.drop (i + 1)) e' r2 := by
  rw [List.drop_eq_getElem_cons hi] at h; exact h
theorem OIs.mk {n : Nat} {k : Int} {p : Option Addr} {c : Nat} {r : Blks} {ls : List (List Int)} {es : List Value} {bs : Blks} (h : OPs ls es bs) (h2 : OIs (mkInts n k) p c r) : OPs (ls ++ [mkInts n k]) (es ++ [.slice p n c]) (bs ++ r) := by
  have := h.snoc h2; rwa [mkInts_len] at this
set_option maxRecDepth 100000 in
theorem markIntSS_fn (ls : List (List Int)) (k : Int) (G : IM) (p : Option Addr) (c : Nat) (es : List Value) (bs : Blks) (hsl : Sl G p ls.length c 1 es) (ho : OPs ls es bs) (hk : 0 < k) (hb : k + cntIs ls ≤ 1099511627776) :
    Fn Try.prog 22 [.slice p ls.length c, .int .i64 k] (blks bs) G (Lent (.int .i64 (k + cntIs ls)) G (OPs (mkIs ls k) es)) := by
  have hn := hsl.le
  refine fn_enter Try.func22 rfl Try.ntmps22 Try.results22 rfl ?_
  intro w0
  refine tri_seq ?_
  refine tri_region ?_
  refine seq_pure (pure_assign rfl) rfl rfl ?_
  refine seq_done ?_
  refine nrm_seq ?_
  refine tri_seq ?_
  refine tri_seq ?_
  refine tri_region ?_
  refine seq_pure (pure_assign rfl) rfl rfl ?_
  refine seq_done ?_
  refine nrm_seq ?_
  refine tri_block ?_
  refine tri_loopN (fun (x : Nat × Int × List Value × List Value × Blks × Blks) => ⟨[(5, .int .i64 x.1), (1, .int .i64 x.2.1), (0, .slice p ls.length c)], blks (x.2.2.2.2.1 ++ x.2.2.2.2.2), G⟩) (fun x => x.1 ≤ ls.length ∧ x.2.1 = k + cntIs (ls.take x.1) ∧ es = x.2.2.1 ++ x.2.2.2.1 ∧ OPs (mkIs (ls.take x.1) k) x.2.2.1 x.2.2.2.2.1 ∧ OPs (ls.drop x.1) x.2.2.2.1 x.2.2.2.2.2) (fun x => ls.length - x.1) (0, k, [], es, [], bs) ?_ ?_ ?_
  · (simp only [flat_snoc]; exact sub_mk (by repeat (first | exact SubE.nil | refine SubE.cons rfl ?_)) (by repeat (first | exact SubH.refl | exact SubH.nil | refine SubH.cons (by repeat (first | exact Pk.here | apply Pk.there)) ?_ | apply SubH.drop)))
  · exact ⟨by simp, by simp [cntIs], by simp, by simp [OPs, mkIs], ho⟩
  · (rintro ⟨i, kk, D, T, r0, r1⟩ ⟨hi, hkk, hes, hD, hT⟩; simp only [] at hi hkk hes hD hT ⊢; have hDl : D.length = i := (by rw [hD.len, mkIs_len, List.length_take]; omega); have hnn := cntIs_nn (ls.take i); have htk := cntIs_take ls i)
    refine tri_seq ?_
    refine tri_seq ?_
    refine tri_region ?_
    refine seq_pure (pure_move rfl) rfl rfl ?_
    refine seq_pure (pure_move rfl) rfl rfl ?_
    refine seq_pure (pure_len rfl rfl) rfl rfl ?_
    refine seq_bool (pure_lss rfl rfl) rfl rfl (fun h23 => ?_) (fun h23 => ?_)
    · refine seq_done ?_
      refine nrm_seq ?_
      refine tri_cond_t rfl ?_
      refine tri_skip ?_
      refine nrm_seq ?_
      refine tri_seq ?_
      refine tri_block ?_
      refine tri_region ?_
      refine seq_pure (pure_move rfl) rfl rfl ?_
      refine seq_pure (pure_move rfl) rfl rfl ?_
      (obtain ⟨b, o, v, rfl, hv, hat, hgb⟩ := hsl.kid (i := i) (by omega); obtain ⟨p3, c3, T', r1a, r1b, rfl, rfl, hos, hT'⟩ := hT.drop (by omega); rw [hes, List.getElem?_append_right (by omega), show i - D.length = 0 by omega] at hv; obtain rfl := Option.some.inj hv; refine seq_pure (pure_indexAddrN rfl rfl rfl (by omega)) rfl rfl ?_)
      refine seq_load (load_s rfl rfl (hat _)) rfl rfl ?_
      refine seq_pure (pure_move rfl) rfl rfl ?_
      (have hsu := cntIs_succ (ls := ls) (i := i) (by omega); have hta := cntIs_take ls (i + 1); refine seq_lend0 rfl (markIntS_fn ls[i] kk G p3 c3 r1a hos (by omega) (by omega)) rfl rfl rfl (fun r1' hr1 => ?_))
      refine seq_pure (pure_assign rfl) rfl rfl ?_
      refine seq_done ?_
      refine nrm_block ?_
      refine nrm_seq ?_
      refine tri_region ?_
      refine seq_pure (pure_move rfl) rfl rfl ?_
      refine seq_pure (pure_add rfl rfl (by omega) (by omega)) rfl rfl ?_
      refine seq_pure (pure_assign rfl) rfl rfl ?_
      refine seq_done ?_
      (rw [← List.append_assoc r0]; refine nrm_loopN (i + 1, kk + ls[i].length, D ++ [.slice p3 ls[i].length c3], T', r0 ++ r1', r1b) ?_ ?_ ?_)
      · (simp only [flat_snoc]; exact sub_mk (by repeat (first | exact SubE.nil | refine SubE.cons rfl ?_)) (by repeat (first | exact SubH.refl | exact SubH.nil | refine SubH.cons (by repeat (first | exact Pk.here | apply Pk.there)) ?_ | apply SubH.drop)))
      · (dsimp only; exact ⟨by omega, by omega, by rw [hes]; simp, by rw [mkIs_take (by omega), ← hkk]; exact OIs.mk hD hr1, hT'⟩)
      · (show ls.length - (i + 1) < ls.length - i; omega)
    · refine seq_done ?_
      refine nrm_seq ?_
      refine tri_cond_f rfl ?_
      refine tri_exit ?_
      refine ext_seq ?_
      refine ext_loopN ?_
      refine ext_block_eq ?_
      refine nrm_seq ?_
      refine tri_seq ?_
      refine tri_region ?_
      refine seq_pure (pure_move rfl) rfl rfl ?_
      refine seq_pure (pure_assign rfl) rfl rfl ?_
      refine seq_done ?_
      refine nrm_seq ?_
      refine tri_ret ?_
      (obtain rfl : i = ls.length := (by omega); refine ret_own1 (res_tmp rfl) SubH.refl ?_)
      (rw [List.drop_length] at hT; obtain ⟨rfl, rfl⟩ := hT; rw [List.take_length] at hD hkk; exact ⟨rfl, by rw [hkk], r0, by simp, by rw [hes, List.append_nil]; exact hD⟩)
/-- Paths in memory that no longer changes. -/
def QPs (G : IM) : List (List Int) → List Value → Prop
  | [], es => es = []
  | l :: ls, es => ∃ p c r, es = .slice p l.length c :: r ∧ Sl G p l.length c 1 (ints l) ∧ QPs G ls r
theorem QPs.mono {G G' : IM} (hg : IMle G G') : ∀ {ls : List (List Int)} {es : List Value}, QPs G ls es → QPs G' ls es
  | [], es, h => h
  | l :: ls, es, ⟨p, c, r, h1, h2, h3⟩ => ⟨p, c, r, h1, h2.mono hg, h3.mono hg⟩
theorem QPs.get {G : IM} : ∀ {ls : List (List Int)} {es : List Value}, QPs G ls es → ∀ {i : Nat} (hi : i < ls.length), ∃ p c, es[i]? = some (.slice p ls[i].length c) ∧ Sl G p ls[i].length c 1 (ints ls[i])
  | [], es, h, i, hi => by simp at hi
  | l :: ls, es, ⟨p, c, r, h1, h3, h6⟩, i, hi => by
    subst h1
    cases i with
    | zero => exact ⟨p, c, rfl, h3⟩
    | succ i => simpa using h6.get (i := i) (by simpa using hi)
theorem mkIs_get : ∀ (ls : List (List Int)) (k : Int) (i : Nat) (hi : i < ls.length) (h : i < (mkIs ls k).length), (mkIs ls k)[i] = mkInts ls[i].length (k + cntIs (ls.take i))
  | [], k, i, hi, h => by simp at hi
  | l :: ls, k, 0, hi, h => by simp [mkIs, cntIs]
  | l :: ls, k, i + 1, hi, h => by
    have := mkIs_get ls (k + l.length) i (by simpa using hi) (by rw [mkIs_len]; simpa using hi)
    simp only [mkIs, List.getElem_cons_succ, this, List.take_succ_cons, cntIs]
    rw [Int.add_assoc]
set_option maxRecDepth 100000 in
theorem heldIntS_fn (n : Nat) (k : Int) (G : IM) (p : Option Addr) (c : Nat) (h : Sl G p n c 1 (ints (mkInts n k))) (hk : 0 < k) (hb : k + n ≤ 1099511627776) :
    Fn Try.prog 28 [.slice p n c, .int .i64 k] [] G (Val (.int .i64 (k + n)) G) := by
  refine fn_enter Try.func28 rfl Try.ntmps28 Try.results28 rfl ?_
  intro w0
  refine tri_seq ?_
  refine tri_region ?_
  refine seq_pure (pure_assign rfl) rfl rfl ?_
  refine seq_done ?_
  refine nrm_seq ?_
  refine tri_seq ?_
  refine tri_seq ?_
  refine tri_region ?_
  refine seq_pure (pure_assign rfl) rfl rfl ?_
  refine seq_done ?_
  refine nrm_seq ?_
  refine tri_block ?_
  refine tri_loopN (fun (x : Nat × Int) => ⟨[(5, .int .i64 x.1), (1, .int .i64 x.2), (0, .slice p n c)], [], G⟩) (fun x => x.1 ≤ n ∧ x.2 = k + x.1) (fun x => n - x.1) (0, k) ?_ ?_ ?_
  · (simp only [flat_snoc]; exact sub_mk (by repeat (first | exact SubE.nil | refine SubE.cons rfl ?_)) (by repeat (first | exact SubH.refl | exact SubH.nil | refine SubH.cons (by repeat (first | exact Pk.here | apply Pk.there)) ?_ | apply SubH.drop)))
  · exact ⟨by simp, by simp⟩
  · (rintro ⟨i, kk⟩ ⟨hi, hkk⟩; simp only [] at hi hkk ⊢)
    refine tri_seq ?_
    refine tri_seq ?_
    refine tri_region ?_
    refine seq_pure (pure_move rfl) rfl rfl ?_
    refine seq_pure (pure_move rfl) rfl rfl ?_
    refine seq_pure (pure_len rfl rfl) rfl rfl ?_
    refine seq_bool (pure_lss rfl rfl) rfl rfl (fun h23 => ?_) (fun h23 => ?_)
    · refine seq_done ?_
      refine nrm_seq ?_
      refine tri_cond_t rfl ?_
      refine tri_skip ?_
      refine nrm_seq ?_
      refine tri_seq ?_
      refine tri_block ?_
      refine tri_seq ?_
      refine tri_seq ?_
      refine tri_region ?_
      refine seq_pure (pure_move rfl) rfl rfl ?_
      refine seq_pure (pure_move rfl) rfl rfl ?_
      (obtain ⟨b, o, v, rfl, hv, hat, hgb⟩ := h.kid (i := i) (by omega); obtain ⟨hi2, rfl⟩ := ints_get hv; have hg := mkInts_get n k i hi2; refine seq_pure (pure_indexAddrN rfl rfl rfl (by omega)) rfl rfl ?_)
      refine seq_load (load_s rfl rfl (hat _)) rfl rfl ?_
      refine seq_pure (pure_move rfl) rfl rfl ?_
      refine seq_pure (pure_neq_f rfl rfl (by omega)) rfl rfl ?_
      refine seq_done ?_
      refine nrm_seq ?_
      refine tri_cond_f rfl ?_
      refine tri_skip ?_
      refine nrm_seq ?_
      refine tri_region ?_
      refine seq_pure (pure_move rfl) rfl rfl ?_
      refine seq_pure (pure_add rfl rfl (by omega) (by omega)) rfl rfl ?_
      refine seq_pure (pure_assign rfl) rfl rfl ?_
      refine seq_done ?_
      refine nrm_block ?_
      refine nrm_seq ?_
      refine tri_region ?_
      refine seq_pure (pure_move rfl) rfl rfl ?_
      refine seq_pure (pure_add rfl rfl (by omega) (by omega)) rfl rfl ?_
      refine seq_pure (pure_assign rfl) rfl rfl ?_
      refine seq_done ?_
      refine nrm_loopN (i + 1, kk + 1) ?_ ?_ ?_
      · (simp only [flat_snoc]; exact sub_mk (by repeat (first | exact SubE.nil | refine SubE.cons rfl ?_)) (by repeat (first | exact SubH.refl | exact SubH.nil | refine SubH.cons (by repeat (first | exact Pk.here | apply Pk.there)) ?_ | apply SubH.drop)))
      · (dsimp only; exact ⟨by omega, by omega⟩)
      · (show n - (i + 1) < n - i; omega)
    · refine seq_done ?_
      refine nrm_seq ?_
      refine tri_cond_f rfl ?_
      refine tri_exit ?_
      refine ext_seq ?_
      refine ext_loopN ?_
      refine ext_block_eq ?_
      refine nrm_seq ?_
      refine tri_seq ?_
      refine tri_region ?_
      refine seq_pure (pure_move rfl) rfl rfl ?_
      refine seq_pure (pure_assign rfl) rfl rfl ?_
      refine seq_done ?_
      refine nrm_seq ?_
      refine tri_ret ?_
      refine ret_fin1 (res_tmp rfl) ?_
      (obtain rfl : i = n := (by omega); exact ⟨rfl, by rw [hkk], rfl⟩)
set_option maxRecDepth 100000 in
theorem heldIntSS_fn (ls : List (List Int)) (k : Int) (G : IM) (p : Option Addr) (c : Nat) (es : List Value) (hsl : Sl G p ls.length c 1 es) (hq : QPs G (mkIs ls k) es) (hk : 0 < k) (hb : k + cntIs ls ≤ 1099511627776) :
    Fn Try.prog 23 [.slice p ls.length c, .int .i64 k] [] G (Val (.int .i64 (k + cntIs ls)) G) := by
  have hn := hsl.le
  refine fn_enter Try.func23 rfl Try.ntmps23 Try.results23 rfl ?_
  intro w0
  refine tri_seq ?_
  refine tri_region ?_
  refine seq_pure (pure_assign rfl) rfl rfl ?_
  refine seq_done ?_
  refine nrm_seq ?_
  refine tri_seq ?_
  refine tri_seq ?_
  refine tri_region ?_
  refine seq_pure (pure_assign rfl) rfl rfl ?_
  refine seq_done ?_
  refine nrm_seq ?_
  refine tri_block ?_
  refine tri_loopN (fun (x : Nat × Int) => ⟨[(5, .int .i64 x.1), (1, .int .i64 x.2), (0, .slice p ls.length c)], [], G⟩) (fun x => x.1 ≤ ls.length ∧ x.2 = k + cntIs (ls.take x.1)) (fun x => ls.length - x.1) (0, k) ?_ ?_ ?_
  · (simp only [flat_snoc]; exact sub_mk (by repeat (first | exact SubE.nil | refine SubE.cons rfl ?_)) (by repeat (first | exact SubH.refl | exact SubH.nil | refine SubH.cons (by repeat (first | exact Pk.here | apply Pk.there)) ?_ | apply SubH.drop)))
  · exact ⟨by simp, by simp [cntIs]⟩
  · (rintro ⟨i, kk⟩ ⟨hi, hkk⟩; simp only [] at hi hkk ⊢; have hnn := cntIs_nn (ls.take i))
    refine tri_seq ?_
    refine tri_seq ?_
    refine tri_region ?_
    refine seq_pure (pure_move rfl) rfl rfl ?_
    refine seq_pure (pure_move rfl) rfl rfl ?_
    refine seq_pure (pure_len rfl rfl) rfl rfl ?_
    refine seq_bool (pure_lss rfl rfl) rfl rfl (fun h23 => ?_) (fun h23 => ?_)
    · refine seq_done ?_
      refine nrm_seq ?_
      refine tri_cond_t rfl ?_
      refine tri_skip ?_
      refine nrm_seq ?_
      refine tri_seq ?_
      refine tri_block ?_
      refine tri_seq ?_
      refine tri_region ?_
      refine seq_pure (pure_move rfl) rfl rfl ?_
      refine seq_pure (pure_move rfl) rfl rfl ?_
      (obtain ⟨b, o, v, rfl, hv, hat, hgb⟩ := hsl.kid (i := i) (by omega); obtain ⟨p3, c3, hv3, hs3⟩ := hq.get (i := i) (by rw [mkIs_len]; omega); rw [hv] at hv3; obtain rfl := Option.some.inj hv3; rw [mkIs_get ls k i (by omega)] at hs3 hat; rw [mkInts_len] at hs3 hat; rw [← hkk] at hs3; have hsu := cntIs_succ (ls := ls) (i := i) (by omega); have hta := cntIs_take ls (i + 1); refine seq_pure (pure_indexAddrN rfl rfl rfl (by omega)) rfl rfl ?_)
      refine seq_load (load_s rfl rfl (hat _)) rfl rfl ?_
      refine seq_pure (pure_move rfl) rfl rfl ?_
      refine seq_val rfl (heldIntS_fn _ _ _ _ _ hs3 (by omega) (by omega)) rfl rfl ?_
      refine seq_pure (pure_assign rfl) rfl rfl ?_
      refine seq_done ?_
      refine nrm_seq ?_
      refine tri_seq ?_
      refine tri_region ?_
      refine seq_pure (pure_move rfl) rfl rfl ?_
      refine seq_pure (pure_lss_f rfl rfl (by omega)) rfl rfl ?_
      refine seq_done ?_
      refine nrm_seq ?_
      refine tri_cond_f rfl ?_
      refine tri_skip ?_
      refine nrm_block ?_
      refine nrm_seq ?_
      refine tri_region ?_
      refine seq_pure (pure_move rfl) rfl rfl ?_
      refine seq_pure (pure_add rfl rfl (by omega) (by omega)) rfl rfl ?_
      refine seq_pure (pure_assign rfl) rfl rfl ?_
      refine seq_done ?_
      refine nrm_loopN (i + 1, kk + ls[i].length) ?_ ?_ ?_
      · (simp only [flat_snoc]; exact sub_mk (by repeat (first | exact SubE.nil | refine SubE.cons rfl ?_)) (by repeat (first | exact SubH.refl | exact SubH.nil | refine SubH.cons (by repeat (first | exact Pk.here | apply Pk.there)) ?_ | apply SubH.drop)))
      · (dsimp only; exact ⟨by omega, by omega⟩)
      · (show ls.length - (i + 1) < ls.length - i; omega)
    · refine seq_done ?_
      refine nrm_seq ?_
      refine tri_cond_f rfl ?_
      refine tri_exit ?_
      refine ext_seq ?_
      refine ext_loopN ?_
      refine ext_block_eq ?_
      refine nrm_seq ?_
      refine tri_seq ?_
      refine tri_region ?_
      refine seq_pure (pure_move rfl) rfl rfl ?_
      refine seq_pure (pure_assign rfl) rfl rfl ?_
      refine seq_done ?_
      refine nrm_seq ?_
      refine tri_ret ?_
      refine ret_fin1 (res_tmp rfl) ?_
      (obtain rfl : i = ls.length := (by omega); rw [List.take_length] at hkk; exact ⟨rfl, by rw [hkk], rfl⟩)
end Gw
end Go.Proofs.Ytlefgfdhlblahaa
namespace Go.Proofs.Ytlefgfdhlblahaa
open Go Go.RowKit
namespace Gw
mutual
def szTy : Ty → Int
  | .mk _ ks => ks.length + sumTy ks
def sumTy : List Ty → Int
  | [] => 0
  | t :: ts => szTy t + sumTy ts
end
mutual
def szTm : Tm → Int
  | .mk _ nm _ ty fr _ ks => nm.size + szTy ty + szTy fr + (ks.length + sumTm ks)
def sumTm : List Tm → Int
  | [] => 0
  | t :: ts => szTm t + sumTm ts
end
mutual
theorem szTy_nn : ∀ t : Ty, 0 ≤ szTy t
  | .mk _ ks => by have := sumTy_nn ks; rw [szTy]; omega
theorem sumTy_nn : ∀ ts : List Ty, 0 ≤ sumTy ts
  | [] => by rw [sumTy]; omega
  | t :: ts => by have := szTy_nn t; have := sumTy_nn ts; rw [sumTy]; omega
end
mutual
theorem szTm_nn : ∀ t : Tm, 0 ≤ szTm t
  | .mk _ _ _ ty fr _ ks => by have := sumTm_nn ks; have := szTy_nn ty; have := szTy_nn fr; rw [szTm]; omega
theorem sumTm_nn : ∀ ts : List Tm, 0 ≤ sumTm ts
  | [] => by rw [sumTm]; omega
  | t :: ts => by have := szTm_nn t; have := sumTm_nn ts; rw [sumTm]; omega
end
theorem sumTy_append : ∀ a b : List Ty, sumTy (a ++ b) = sumTy a + sumTy b
  | [], b => by simp [sumTy]
  | t :: a, b => by rw [List.cons_append, sumTy, sumTy, sumTy_append a b]; omega
theorem sumTm_append : ∀ a b : List Tm, sumTm (a ++ b) = sumTm a + sumTm b
  | [], b => by simp [sumTm]
  | t :: a, b => by rw [List.cons_append, sumTm, sumTm, sumTm_append a b]; omega
theorem sumTy_succ {ks : List Ty} {i : Nat} (hi : i < ks.length) : sumTy (ks.take (i + 1)) = sumTy (ks.take i) + szTy ks[i] := by
  rw [List.take_succ_eq_append_getElem hi, sumTy_append, sumTy, sumTy]; omega
theorem sumTm_succ {ks : List Tm} {i : Nat} (hi : i < ks.length) : sumTm (ks.take (i + 1)) = sumTm (ks.take i) + szTm ks[i] := by
  rw [List.take_succ_eq_append_getElem hi, sumTm_append, sumTm, sumTm]; omega
theorem sumTy_take (ks : List Ty) (i : Nat) : sumTy (ks.take i) ≤ sumTy ks := by
  have h := sumTy_append (ks.take i) (ks.drop i)
  rw [List.take_append_drop] at h
  have := sumTy_nn (ks.drop i); omega
theorem sumTm_take (ks : List Tm) (i : Nat) : sumTm (ks.take i) ≤ sumTm ks := by
  have h := sumTm_append (ks.take i) (ks.drop i)
  rw [List.take_append_drop] at h
  have := sumTm_nn (ks.drop i); omega
/- No name is longer than Go's strings are. -/
mutual
def Tm.nok : Tm → Prop
  | .mk _ nm _ _ _ _ ks => nm.size ≤ 9223372036854775807 ∧ Tm.nokL ks
def Tm.nokL : List Tm → Prop
  | [] => True
  | t :: ts => t.nok ∧ Tm.nokL ts
end
theorem Tm.nokL_mem : ∀ {ts : List Tm}, Tm.nokL ts → ∀ t ∈ ts, t.nok
  | [], _, t, h => by simp at h
  | t' :: ts, h, t, ht => by
    simp only [Tm.nokL] at h
    rcases List.mem_cons.1 ht with rfl | ht
    · exact h.1
    · exact Tm.nokL_mem h.2 t ht
/-- What is left behind a measure. -/
def resI (left s : Int) : Int := if s ≤ left then left - s else -1
theorem res_cases (left s : Int) : (s ≤ left ∧ resI left s = left - s) ∨ (left < s ∧ resI left s = -1) := by
  unfold resI; split
  · exact .inl ⟨by omega, rfl⟩
  · exact .inr ⟨by omega, rfl⟩
theorem res_yes {left s : Int} (h : s ≤ left) : resI left s = left - s := if_pos h
theorem res_no {left s : Int} (h : left < s) : resI left s = -1 := if_neg (by omega)
set_option maxRecDepth 100000 in
theorem szTypeS_of (ks : List Ty) (ih : ∀ t ∈ ks, ∀ (left : Int) (G : IM) (cells : List Value), 0 ≤ left → left ≤ 1048576 → RTy G t cells → Fn Try.prog 47 [.agg ⟨cells⟩, .int .i64 left] [] G (Val (.int .i64 (resI left (szTy t))) G))
    (left : Int) (G : IM) (p : Option Addr) (c : Nat) (es : List (List Value)) (h0 : 0 ≤ left) (h1 : left ≤ 1048576) (hsl : SlE G p ks.length c 2 es) (hkl : RTyL G ks es) :
    Fn Try.prog 81 [.slice p ks.length c, .int .i64 left] [] G (Val (.int .i64 (resI left (ks.length + sumTy ks))) G) := by
  have hn := hsl.le
  have hs := sumTy_nn ks
  refine fn_enter Try.func81 rfl Try.ntmps81 Try.results81 rfl ?_
  intro w0
  refine tri_seq ?_
  refine tri_region ?_
  refine seq_pure (pure_assign rfl) rfl rfl ?_
  refine seq_done ?_
  refine nrm_seq ?_
  refine tri_seq ?_
  refine tri_region ?_
  refine seq_pure (pure_move rfl) rfl rfl ?_
  refine seq_pure (pure_move rfl) rfl rfl ?_
  refine seq_pure (pure_len rfl rfl) rfl rfl ?_
  refine seq_pure (pure_sub rfl rfl (by omega) (by omega)) rfl rfl ?_
  refine seq_pure (pure_assign rfl) rfl rfl ?_
  refine seq_done ?_
  refine nrm_seq ?_
  refine tri_seq ?_
  refine tri_seq ?_
  refine tri_region ?_
  refine seq_pure (pure_move rfl) rfl rfl ?_
  refine seq_bool (pure_lss rfl rfl) rfl rfl (fun h19 => ?_) (fun h19 => ?_)
  · refine seq_done ?_
    refine nrm_seq ?_
    refine tri_cond_t rfl ?_
    refine tri_seq ?_
    refine tri_region ?_
    refine seq_pure (pure_assign rfl) rfl rfl ?_
    refine seq_done ?_
    refine nrm_seq ?_
    refine tri_ret ?_
    refine ret_seq ?_
    refine ret_fin1 (res_tmp rfl) ?_
    exact ⟨rfl, by rw [res_no (by omega)], rfl⟩
  · refine seq_done ?_
    refine nrm_seq ?_
    refine tri_cond_f rfl ?_
    refine tri_skip ?_
    refine nrm_seq ?_
    refine tri_seq ?_
    refine tri_seq ?_
    refine tri_region ?_
    refine seq_pure (pure_assign rfl) rfl rfl ?_
    refine seq_done ?_
    refine nrm_seq ?_
    refine tri_block ?_
    refine tri_loopN (fun (x : Nat × Int) => ⟨[(5, .int .i64 x.1), (1, .int .i64 x.2), (0, .slice p ks.length c)], [], G⟩) (fun x => x.1 ≤ ks.length ∧ x.2 = left - ks.length - sumTy (ks.take x.1) ∧ 0 ≤ x.2) (fun x => ks.length - x.1) (0, left - ks.length) ?_ ?_ ?_
    · (simp only [flat_snoc]; exact sub_mk (by repeat (first | exact SubE.nil | refine SubE.cons rfl ?_)) (by repeat (first | exact SubH.refl | exact SubH.nil | refine SubH.cons (by repeat (first | exact Pk.here | apply Pk.there)) ?_ | apply SubH.drop)))
    · exact ⟨by simp, by simp [sumTy], by omega⟩
    · (rintro ⟨i, l⟩ ⟨hi, hl, hl0⟩; simp only [] at hi hl hl0 ⊢; have hsn := sumTy_nn (ks.take i))
      refine tri_seq ?_
      refine tri_seq ?_
      refine tri_region ?_
      refine seq_pure (pure_move rfl) rfl rfl ?_
      refine seq_pure (pure_move rfl) rfl rfl ?_
      refine seq_pure (pure_len rfl rfl) rfl rfl ?_
      refine seq_bool (pure_lss rfl rfl) rfl rfl (fun h54 => ?_) (fun h54 => ?_)
      · refine seq_done ?_
        refine nrm_seq ?_
        refine tri_cond_t rfl ?_
        refine tri_skip ?_
        refine nrm_seq ?_
        refine tri_seq ?_
        refine tri_block ?_
        refine tri_seq ?_
        refine tri_region ?_
        refine seq_pure (pure_move rfl) rfl rfl ?_
        refine seq_pure (pure_move rfl) rfl rfl ?_
        (obtain ⟨b, o, p2, c2, rfl, hat, hre, hgb⟩ := hsl.kidTy hkl (i := i) (by omega) (by omega); refine seq_pure (pure_indexAddrN rfl rfl rfl (by omega)) rfl rfl ?_)
        refine seq_load (load_a rfl rfl (hat _) rfl) rfl rfl ?_
        refine seq_pure (pure_move rfl) rfl rfl ?_
        (have hih := ih ks[i] (List.getElem_mem (by omega)) l G _ hl0 (by omega) hre; have hsu := sumTy_succ (ks := ks) (i := i) (by omega); have hta := sumTy_take ks (i + 1); rcases res_cases l (szTy ks[i]) with ⟨hc, hr⟩ | ⟨hc, hr⟩ <;> (rw [hr] at hih; refine seq_val rfl hih rfl rfl ?_))
        · refine seq_pure (pure_assign rfl) rfl rfl ?_
          refine seq_done ?_
          refine nrm_seq ?_
          refine tri_seq ?_
          refine tri_region ?_
          refine seq_pure (pure_move rfl) rfl rfl ?_
          refine seq_pure (pure_lss_f rfl rfl (by omega)) rfl rfl ?_
          refine seq_done ?_
          refine nrm_seq ?_
          refine tri_cond_f rfl ?_
          refine tri_skip ?_
          refine nrm_block ?_
          refine nrm_seq ?_
          refine tri_region ?_
          refine seq_pure (pure_move rfl) rfl rfl ?_
          refine seq_pure (pure_add rfl rfl (by omega) (by omega)) rfl rfl ?_
          refine seq_pure (pure_assign rfl) rfl rfl ?_
          refine seq_done ?_
          refine nrm_loopN (i + 1, l - szTy ks[i]) ?_ ?_ ?_
          · (simp only [flat_snoc]; exact sub_mk (by repeat (first | exact SubE.nil | refine SubE.cons rfl ?_)) (by repeat (first | exact SubH.refl | exact SubH.nil | refine SubH.cons (by repeat (first | exact Pk.here | apply Pk.there)) ?_ | apply SubH.drop)))
          · (dsimp only; exact ⟨by omega, by omega, by omega⟩)
          · (show ks.length - (i + 1) < ks.length - i; omega)
        · refine seq_pure (pure_assign rfl) rfl rfl ?_
          refine seq_done ?_
          refine nrm_seq ?_
          refine tri_seq ?_
          refine tri_region ?_
          refine seq_pure (pure_move rfl) rfl rfl ?_
          refine seq_pure (pure_lss_t rfl rfl (by omega)) rfl rfl ?_
          refine seq_done ?_
          refine nrm_seq ?_
          refine tri_cond_t rfl ?_
          refine tri_seq ?_
          refine tri_region ?_
          refine seq_pure (pure_assign rfl) rfl rfl ?_
          refine seq_done ?_
          refine nrm_seq ?_
          refine tri_ret ?_
          refine ret_block ?_
          refine ret_seq ?_
          refine ret_loopN ?_
          refine ret_block ?_
          refine ret_seq ?_
          refine ret_fin1 (res_tmp rfl) ?_
          exact ⟨rfl, by rw [res_no (by omega)], rfl⟩
      · refine seq_done ?_
        refine nrm_seq ?_
        refine tri_cond_f rfl ?_
        refine tri_exit ?_
        refine ext_seq ?_
        refine ext_loopN ?_
        refine ext_block_eq ?_
        refine nrm_seq ?_
        refine tri_seq ?_
        refine tri_region ?_
        refine seq_pure (pure_move rfl) rfl rfl ?_
        refine seq_pure (pure_assign rfl) rfl rfl ?_
        refine seq_done ?_
        refine nrm_seq ?_
        refine tri_ret ?_
        refine ret_fin1 (res_tmp rfl) ?_
        (obtain rfl : i = ks.length := (by omega); rw [List.take_length] at hl; exact ⟨rfl, by rw [res_yes (by omega), hl]; congr 1; omega, rfl⟩)
set_option maxRecDepth 100000 in
theorem szType_fn : ∀ (t : Ty) (left : Int) (G : IM) (cells : List Value), 0 ≤ left → left ≤ 1048576 → RTy G t cells → Fn Try.prog 47 [.agg ⟨cells⟩, .int .i64 left] [] G (Val (.int .i64 (resI left (szTy t))) G) := by
  refine Ty.ind fun k ks ih left G cells h0 h1 hr => ?_
  obtain ⟨p, c, es, rfl, hk, hsl, hkl⟩ := hr.open
  simp only [Ty.k, Ty.ks] at hk hsl hkl ⊢
  have hS := szTypeS_of ks ih left G p c es h0 h1 hsl hkl
  rw [szTy]
  refine fn_enter Try.func47 rfl Try.ntmps47 Try.results47 rfl ?_
  intro w0
  refine tri_seq ?_
  refine tri_region ?_
  (refine seq_step (step_box_a rfl rfl) rfl ?_; rintro _ ⟨b3, rfl⟩)
  refine seq_pure (pure_assign rfl) rfl rfl ?_
  refine seq_done ?_
  refine nrm_seq ?_
  refine tri_seq ?_
  refine tri_region ?_
  refine seq_pure (pure_fieldAddr0 rfl) rfl rfl ?_
  refine seq_load (load_bs rfl rfl (by repeat (first | exact List.Mem.head _ | apply List.Mem.tail)) (by rfl)) rfl rfl ?_
  refine seq_pure (pure_move rfl) rfl rfl ?_
  (rcases res_cases left (ks.length + sumTy ks) with ⟨hc, hr⟩ | ⟨hc, hr⟩ <;> (rw [hr] at hS; refine seq_val rfl hS rfl rfl ?_))
  · refine seq_pure (pure_assign rfl) rfl rfl ?_
    refine seq_done ?_
    refine nrm_seq ?_
    refine tri_seq ?_
    refine tri_seq ?_
    refine tri_region ?_
    refine seq_pure (pure_move rfl) rfl rfl ?_
    refine seq_pure (pure_lss_f rfl rfl (by omega)) rfl rfl ?_
    refine seq_done ?_
    refine nrm_seq ?_
    refine tri_cond_f rfl ?_
    refine tri_skip ?_
    refine nrm_seq ?_
    refine tri_seq ?_
    refine tri_region ?_
    refine seq_pure (pure_move rfl) rfl rfl ?_
    refine seq_pure (pure_assign rfl) rfl rfl ?_
    refine seq_done ?_
    refine nrm_seq ?_
    refine tri_ret ?_
    refine ret_fin1 (res_tmp rfl) ?_
    exact ⟨rfl, by rw [hr], rfl⟩
  · refine seq_pure (pure_assign rfl) rfl rfl ?_
    refine seq_done ?_
    refine nrm_seq ?_
    refine tri_seq ?_
    refine tri_seq ?_
    refine tri_region ?_
    refine seq_pure (pure_move rfl) rfl rfl ?_
    refine seq_pure (pure_lss_t rfl rfl (by omega)) rfl rfl ?_
    refine seq_done ?_
    refine nrm_seq ?_
    refine tri_cond_t rfl ?_
    refine tri_seq ?_
    refine tri_region ?_
    refine seq_pure (pure_assign rfl) rfl rfl ?_
    refine seq_done ?_
    refine nrm_seq ?_
    refine tri_ret ?_
    refine ret_seq ?_
    refine ret_fin1 (res_tmp rfl) ?_
    exact ⟨rfl, by rw [hr], rfl⟩
set_option maxRecDepth 100000 in
theorem szTermS_of (ks : List Tm) (ih : ∀ t ∈ ks, ∀ (left : Int) (G : IM) (cells : List Value), 0 ≤ left → left ≤ 1048576 → t.nok → RTm G t cells → Fn Try.prog 16 [.agg ⟨cells⟩, .int .i64 left] [] G (Val (.int .i64 (resI left (szTm t))) G))
    (left : Int) (G : IM) (p : Option Addr) (c : Nat) (es : List (List Value)) (h0 : 0 ≤ left) (h1 : left ≤ 1048576) (hnok : Tm.nokL ks) (hsl : SlE G p ks.length c 9 es) (hkl : RTmL G ks es) :
    Fn Try.prog 48 [.slice p ks.length c, .int .i64 left] [] G (Val (.int .i64 (resI left (ks.length + sumTm ks))) G) := by
  have hn := hsl.le
  have hs := sumTm_nn ks
  refine fn_enter Try.func48 rfl Try.ntmps48 Try.results48 rfl ?_
  intro w0
  refine tri_seq ?_
  refine tri_region ?_
  refine seq_pure (pure_assign rfl) rfl rfl ?_
  refine seq_done ?_
  refine nrm_seq ?_
  refine tri_seq ?_
  refine tri_region ?_
  refine seq_pure (pure_move rfl) rfl rfl ?_
  refine seq_pure (pure_move rfl) rfl rfl ?_
  refine seq_pure (pure_len rfl rfl) rfl rfl ?_
  refine seq_pure (pure_sub rfl rfl (by omega) (by omega)) rfl rfl ?_
  refine seq_pure (pure_assign rfl) rfl rfl ?_
  refine seq_done ?_
  refine nrm_seq ?_
  refine tri_seq ?_
  refine tri_seq ?_
  refine tri_region ?_
  refine seq_pure (pure_move rfl) rfl rfl ?_
  refine seq_bool (pure_lss rfl rfl) rfl rfl (fun h19 => ?_) (fun h19 => ?_)
  · refine seq_done ?_
    refine nrm_seq ?_
    refine tri_cond_t rfl ?_
    refine tri_seq ?_
    refine tri_region ?_
    refine seq_pure (pure_assign rfl) rfl rfl ?_
    refine seq_done ?_
    refine nrm_seq ?_
    refine tri_ret ?_
    refine ret_seq ?_
    refine ret_fin1 (res_tmp rfl) ?_
    exact ⟨rfl, by rw [res_no (by omega)], rfl⟩
  · refine seq_done ?_
    refine nrm_seq ?_
    refine tri_cond_f rfl ?_
    refine tri_skip ?_
    refine nrm_seq ?_
    refine tri_seq ?_
    refine tri_seq ?_
    refine tri_region ?_
    refine seq_pure (pure_assign rfl) rfl rfl ?_
    refine seq_done ?_
    refine nrm_seq ?_
    refine tri_block ?_
    refine tri_loopN (fun (x : Nat × Int) => ⟨[(5, .int .i64 x.1), (1, .int .i64 x.2), (0, .slice p ks.length c)], [], G⟩) (fun x => x.1 ≤ ks.length ∧ x.2 = left - ks.length - sumTm (ks.take x.1) ∧ 0 ≤ x.2) (fun x => ks.length - x.1) (0, left - ks.length) ?_ ?_ ?_
    · (simp only [flat_snoc]; exact sub_mk (by repeat (first | exact SubE.nil | refine SubE.cons rfl ?_)) (by repeat (first | exact SubH.refl | exact SubH.nil | refine SubH.cons (by repeat (first | exact Pk.here | apply Pk.there)) ?_ | apply SubH.drop)))
    · exact ⟨by simp, by simp [sumTm], by omega⟩
    · (rintro ⟨i, l⟩ ⟨hi, hl, hl0⟩; simp only [] at hi hl hl0 ⊢; have hsn := sumTm_nn (ks.take i))
      refine tri_seq ?_
      refine tri_seq ?_
      refine tri_region ?_
      refine seq_pure (pure_move rfl) rfl rfl ?_
      refine seq_pure (pure_move rfl) rfl rfl ?_
      refine seq_pure (pure_len rfl rfl) rfl rfl ?_
      refine seq_bool (pure_lss rfl rfl) rfl rfl (fun h54 => ?_) (fun h54 => ?_)
      · refine seq_done ?_
        refine nrm_seq ?_
        refine tri_cond_t rfl ?_
        refine tri_skip ?_
        refine nrm_seq ?_
        refine tri_seq ?_
        refine tri_block ?_
        refine tri_seq ?_
        refine tri_region ?_
        refine seq_pure (pure_move rfl) rfl rfl ?_
        refine seq_pure (pure_move rfl) rfl rfl ?_
        (obtain ⟨b, o, e, rfl, hle, hat, hre, hgb⟩ := hsl.kidTm hkl (i := i) (by omega) (by omega); refine seq_pure (pure_indexAddrN rfl rfl rfl (by omega)) rfl rfl ?_)
        refine seq_load (load_a rfl rfl (hat _) hle) rfl rfl ?_
        refine seq_pure (pure_move rfl) rfl rfl ?_
        (have hih := ih ks[i] (List.getElem_mem (by omega)) l G _ hl0 (by omega) (Tm.nokL_mem hnok _ (List.getElem_mem (by omega))) hre; have hsu := sumTm_succ (ks := ks) (i := i) (by omega); have hta := sumTm_take ks (i + 1); rcases res_cases l (szTm ks[i]) with ⟨hc, hr⟩ | ⟨hc, hr⟩ <;> (rw [hr] at hih; refine seq_val rfl hih rfl rfl ?_))
        · refine seq_pure (pure_assign rfl) rfl rfl ?_
          refine seq_done ?_
          refine nrm_seq ?_
          refine tri_seq ?_
          refine tri_region ?_
          refine seq_pure (pure_move rfl) rfl rfl ?_
          refine seq_pure (pure_lss_f rfl rfl (by omega)) rfl rfl ?_
          refine seq_done ?_
          refine nrm_seq ?_
          refine tri_cond_f rfl ?_
          refine tri_skip ?_
          refine nrm_block ?_
          refine nrm_seq ?_
          refine tri_region ?_
          refine seq_pure (pure_move rfl) rfl rfl ?_
          refine seq_pure (pure_add rfl rfl (by omega) (by omega)) rfl rfl ?_
          refine seq_pure (pure_assign rfl) rfl rfl ?_
          refine seq_done ?_
          refine nrm_loopN (i + 1, l - szTm ks[i]) ?_ ?_ ?_
          · (simp only [flat_snoc]; exact sub_mk (by repeat (first | exact SubE.nil | refine SubE.cons rfl ?_)) (by repeat (first | exact SubH.refl | exact SubH.nil | refine SubH.cons (by repeat (first | exact Pk.here | apply Pk.there)) ?_ | apply SubH.drop)))
          · (dsimp only; exact ⟨by omega, by omega, by omega⟩)
          · (show ks.length - (i + 1) < ks.length - i; omega)
        · refine seq_pure (pure_assign rfl) rfl rfl ?_
          refine seq_done ?_
          refine nrm_seq ?_
          refine tri_seq ?_
          refine tri_region ?_
          refine seq_pure (pure_move rfl) rfl rfl ?_
          refine seq_pure (pure_lss_t rfl rfl (by omega)) rfl rfl ?_
          refine seq_done ?_
          refine nrm_seq ?_
          refine tri_cond_t rfl ?_
          refine tri_seq ?_
          refine tri_region ?_
          refine seq_pure (pure_assign rfl) rfl rfl ?_
          refine seq_done ?_
          refine nrm_seq ?_
          refine tri_ret ?_
          refine ret_block ?_
          refine ret_seq ?_
          refine ret_loopN ?_
          refine ret_block ?_
          refine ret_seq ?_
          refine ret_fin1 (res_tmp rfl) ?_
          exact ⟨rfl, by rw [res_no (by omega)], rfl⟩
      · refine seq_done ?_
        refine nrm_seq ?_
        refine tri_cond_f rfl ?_
        refine tri_exit ?_
        refine ext_seq ?_
        refine ext_loopN ?_
        refine ext_block_eq ?_
        refine nrm_seq ?_
        refine tri_seq ?_
        refine tri_region ?_
        refine seq_pure (pure_move rfl) rfl rfl ?_
        refine seq_pure (pure_assign rfl) rfl rfl ?_
        refine seq_done ?_
        refine nrm_seq ?_
        refine tri_ret ?_
        refine ret_fin1 (res_tmp rfl) ?_
        (obtain rfl : i = ks.length := (by omega); rw [List.take_length] at hl; exact ⟨rfl, by rw [res_yes (by omega), hl]; congr 1; omega, rfl⟩)
set_option maxRecDepth 100000 in
theorem szTerm_fn : ∀ (t : Tm) (left : Int) (G : IM) (cells : List Value), 0 ≤ left → left ≤ 1048576 → t.nok → RTm G t cells → Fn Try.prog 16 [.agg ⟨cells⟩, .int .i64 left] [] G (Val (.int .i64 (resI left (szTm t))) G) := by
  refine Tm.ind fun k nm num ty fr lb ks ih left G cells h0 h1 hno hr => ?_
  simp only [Tm.nok] at hno
  obtain ⟨hnm, hno⟩ := hno
  obtain ⟨tk, tks⟩ := ty
  obtain ⟨fk, fks⟩ := fr
  obtain ⟨pt, ct, pf, cf, p, c, es, rfl, hk, hnum, hlb, hty, hfr, hsl, hkl⟩ := hr.open9
  have n1 := szTy_nn (.mk tk tks)
  have n2 := szTy_nn (.mk fk fks)
  have n3 := sumTm_nn ks
  rw [szTm]
  generalize hs1 : szTy (.mk tk tks) = s1 at *
  generalize hs2 : szTy (.mk fk fks) = s2 at *
  refine fn_enter Try.func16 rfl Try.ntmps16 Try.results16 rfl ?_
  intro w0
  refine tri_seq ?_
  refine tri_region ?_
  (refine seq_step (step_box_a rfl rfl) rfl ?_; rintro _ ⟨b3, rfl⟩)
  refine seq_pure (pure_assign rfl) rfl rfl ?_
  refine seq_done ?_
  refine nrm_seq ?_
  refine tri_seq ?_
  refine tri_region ?_
  refine seq_pure (pure_move rfl) rfl rfl ?_
  refine seq_pure (pure_fieldAddr0 rfl) rfl rfl ?_
  refine seq_load (load_bs rfl rfl (by repeat (first | exact List.Mem.head _ | apply List.Mem.tail)) (by rfl)) rfl rfl ?_
  refine seq_pure (pure_len_str rfl rfl) rfl rfl ?_
  refine seq_pure (pure_sub rfl rfl (by omega) (by omega)) rfl rfl ?_
  refine seq_pure (pure_assign rfl) rfl rfl ?_
  refine seq_done ?_
  refine nrm_seq ?_
  refine tri_seq ?_
  refine tri_seq ?_
  refine tri_region ?_
  refine seq_pure (pure_move rfl) rfl rfl ?_
  refine seq_bool (pure_lss rfl rfl) rfl rfl (fun h21 => ?_) (fun h21 => ?_)
  · refine seq_done ?_
    refine nrm_seq ?_
    refine tri_cond_t rfl ?_
    refine tri_seq ?_
    refine tri_region ?_
    refine seq_pure (pure_assign rfl) rfl rfl ?_
    refine seq_done ?_
    refine nrm_seq ?_
    refine tri_ret ?_
    refine ret_seq ?_
    refine ret_fin1 (res_tmp rfl) ?_
    exact ⟨rfl, by rw [res_no (by omega)], rfl⟩
  · refine seq_done ?_
    refine nrm_seq ?_
    refine tri_cond_f rfl ?_
    refine tri_skip ?_
    refine nrm_seq ?_
    refine tri_seq ?_
    refine tri_region ?_
    refine seq_pure (pure_fieldAddr0 rfl) rfl rfl ?_
    refine seq_load (load_ba rfl rfl (by repeat (first | exact List.Mem.head _ | apply List.Mem.tail)) (by rfl)) rfl rfl ?_
    refine seq_pure (pure_move rfl) rfl rfl ?_
    (have hT := szType_fn (.mk tk tks) (left - nm.size) G _ (by omega) (by omega) hty; rw [hs1] at hT; rcases res_cases (left - nm.size) s1 with ⟨hc1, hr1⟩ | ⟨hc1, hr1⟩ <;> (rw [hr1] at hT; refine seq_val rfl hT rfl rfl ?_))
    · refine seq_pure (pure_assign rfl) rfl rfl ?_
      refine seq_done ?_
      refine nrm_seq ?_
      refine tri_seq ?_
      refine tri_seq ?_
      refine tri_region ?_
      refine seq_pure (pure_move rfl) rfl rfl ?_
      refine seq_pure (pure_lss_f rfl rfl (by omega)) rfl rfl ?_
      refine seq_done ?_
      refine nrm_seq ?_
      refine tri_cond_f rfl ?_
      refine tri_skip ?_
      refine nrm_seq ?_
      refine tri_seq ?_
      refine tri_region ?_
      refine seq_pure (pure_fieldAddr0 rfl) rfl rfl ?_
      refine seq_load (load_ba rfl rfl (by repeat (first | exact List.Mem.head _ | apply List.Mem.tail)) (by rfl)) rfl rfl ?_
      refine seq_pure (pure_move rfl) rfl rfl ?_
      (have hF := szType_fn (.mk fk fks) (left - nm.size - s1) G _ (by omega) (by omega) hfr; rw [hs2] at hF; rcases res_cases (left - nm.size - s1) s2 with ⟨hc2, hr2⟩ | ⟨hc2, hr2⟩ <;> (rw [hr2] at hF; refine seq_val rfl hF rfl rfl ?_))
      · refine seq_pure (pure_assign rfl) rfl rfl ?_
        refine seq_done ?_
        refine nrm_seq ?_
        refine tri_seq ?_
        refine tri_seq ?_
        refine tri_region ?_
        refine seq_pure (pure_move rfl) rfl rfl ?_
        refine seq_pure (pure_lss_f rfl rfl (by omega)) rfl rfl ?_
        refine seq_done ?_
        refine nrm_seq ?_
        refine tri_cond_f rfl ?_
        refine tri_skip ?_
        refine nrm_seq ?_
        refine tri_seq ?_
        refine tri_region ?_
        refine seq_pure (pure_fieldAddr0 rfl) rfl rfl ?_
        refine seq_load (load_bs rfl rfl (by repeat (first | exact List.Mem.head _ | apply List.Mem.tail)) (by rfl)) rfl rfl ?_
        refine seq_pure (pure_move rfl) rfl rfl ?_
        (have hS := szTermS_of ks ih (left - nm.size - s1 - s2) G p c es (by omega) (by omega) hno hsl hkl; rcases res_cases (left - nm.size - s1 - s2) (ks.length + sumTm ks) with ⟨hc3, hr3⟩ | ⟨hc3, hr3⟩ <;> (rw [hr3] at hS; refine seq_val rfl hS rfl rfl ?_))
        · refine seq_pure (pure_assign rfl) rfl rfl ?_
          refine seq_done ?_
          refine nrm_seq ?_
          refine tri_seq ?_
          refine tri_seq ?_
          refine tri_region ?_
          refine seq_pure (pure_move rfl) rfl rfl ?_
          refine seq_pure (pure_lss_f rfl rfl (by omega)) rfl rfl ?_
          refine seq_done ?_
          refine nrm_seq ?_
          refine tri_cond_f rfl ?_
          refine tri_skip ?_
          refine nrm_seq ?_
          refine tri_seq ?_
          refine tri_region ?_
          refine seq_pure (pure_move rfl) rfl rfl ?_
          refine seq_pure (pure_assign rfl) rfl rfl ?_
          refine seq_done ?_
          refine nrm_seq ?_
          refine tri_ret ?_
          refine ret_fin1 (res_tmp rfl) ?_
          exact ⟨rfl, by rw [res_yes (by omega)]; congr 1; omega, rfl⟩
        · refine seq_pure (pure_assign rfl) rfl rfl ?_
          refine seq_done ?_
          refine nrm_seq ?_
          refine tri_seq ?_
          refine tri_seq ?_
          refine tri_region ?_
          refine seq_pure (pure_move rfl) rfl rfl ?_
          refine seq_pure (pure_lss_t rfl rfl (by omega)) rfl rfl ?_
          refine seq_done ?_
          refine nrm_seq ?_
          refine tri_cond_t rfl ?_
          refine tri_seq ?_
          refine tri_region ?_
          refine seq_pure (pure_assign rfl) rfl rfl ?_
          refine seq_done ?_
          refine nrm_seq ?_
          refine tri_ret ?_
          refine ret_seq ?_
          refine ret_fin1 (res_tmp rfl) ?_
          exact ⟨rfl, by rw [res_no (by omega)], rfl⟩
      · refine seq_pure (pure_assign rfl) rfl rfl ?_
        refine seq_done ?_
        refine nrm_seq ?_
        refine tri_seq ?_
        refine tri_seq ?_
        refine tri_region ?_
        refine seq_pure (pure_move rfl) rfl rfl ?_
        refine seq_pure (pure_lss_t rfl rfl (by omega)) rfl rfl ?_
        refine seq_done ?_
        refine nrm_seq ?_
        refine tri_cond_t rfl ?_
        refine tri_seq ?_
        refine tri_region ?_
        refine seq_pure (pure_assign rfl) rfl rfl ?_
        refine seq_done ?_
        refine nrm_seq ?_
        refine tri_ret ?_
        refine ret_seq ?_
        refine ret_fin1 (res_tmp rfl) ?_
        exact ⟨rfl, by rw [res_no (by omega)], rfl⟩
    · refine seq_pure (pure_assign rfl) rfl rfl ?_
      refine seq_done ?_
      refine nrm_seq ?_
      refine tri_seq ?_
      refine tri_seq ?_
      refine tri_region ?_
      refine seq_pure (pure_move rfl) rfl rfl ?_
      refine seq_pure (pure_lss_t rfl rfl (by omega)) rfl rfl ?_
      refine seq_done ?_
      refine nrm_seq ?_
      refine tri_cond_t rfl ?_
      refine tri_seq ?_
      refine tri_region ?_
      refine seq_pure (pure_assign rfl) rfl rfl ?_
      refine seq_done ?_
      refine nrm_seq ?_
      refine tri_ret ?_
      refine ret_seq ?_
      refine ret_fin1 (res_tmp rfl) ?_
      exact ⟨rfl, by rw [res_no (by omega)], rfl⟩
end Gw
end Go.Proofs.Ytlefgfdhlblahaa
namespace Go.Proofs.Ytlefgfdhlblahaa
open Go Go.RowKit Go.ChangeShapes Go.WideShapes Go.ChangeAt
namespace Gw
/-- All that is there. -/
def GW (w : World) : IM := fun b => match w.heap[b]? with
  | some (.cells c _ _) => some c.toList
  | _ => none
theorem own_GW (w : World) : Own [] (GW w) w := by
  refine ⟨?_, by simp, by simp [Fp], by simp [Fp]⟩
  intro b l h
  unfold GW at h
  split at h
  · rename_i c e f hb; cases h; exact ⟨e, f, by simpa using hb⟩
  · cases h
theorem cell_GW {w : World} {b o : Nat} {v : Value} (h : w.cell? ⟨b, o, none⟩ = some v) : ∃ full, GW w b = some full ∧ full[o]? = some v := by
  unfold World.cell? at h
  simp only at h
  split at h
  · rename_i c e f hb
    exact ⟨c.toList, by simp [GW, hb], by simpa using h⟩
  · cases h
theorem flat_inv {sz : Nat} : ∀ {es : List (List Value)}, (∀ e ∈ es, e.length = sz) → ∀ {j : Nat} {v : Value}, es.flatten[j]? = some v → ∃ i e r, es[i]? = some e ∧ e[r]? = some v ∧ j = i * sz + r
  | [], _, j, v, h => by simp at h
  | a :: es, hall, j, v, h => by
    have ha := hall a List.mem_cons_self
    rw [List.flatten_cons, List.getElem?_append] at h
    split at h
    · exact ⟨0, a, j, rfl, h, by simp⟩
    · rename_i hj
      obtain ⟨i, e, r, h1, h2, h3⟩ := flat_inv (fun x hx => hall x (List.mem_cons_of_mem _ hx)) h
      exact ⟨i + 1, e, r, by simpa using h1, h2, by rw [Nat.succ_mul]; omega⟩
theorem sl_read {w : World} {a : Addr} {n c sz : Nat} {es : List (List Value)} (hl : es.length = n) (hsz : 0 < sz) (hc : n ≤ c) (hm : c ≤ maxLen) (h : ∀ i e, es[i]? = some e → w.cells? 0 (a.add (i * sz)) sz = some e) : Sl (GW w) (some a) n c sz es.flatten := by
  have hall : ∀ e ∈ es, e.length = sz := by
    intro e he
    obtain ⟨i, hi⟩ := List.getElem?_of_mem he
    exact (World.cells?_some (h i e hi)).2.1
  refine ⟨by rw [flat_len hall, hl], hc, hm, ?_⟩
  rcases Nat.eq_zero_or_pos n with h0 | h0
  · exact .inl h0
  · right
    obtain ⟨b, o, s⟩ := a
    have hs : s = none := by
      have h1 := (World.cells?_some (h 0 es[0] (List.getElem?_eq_getElem (by omega)))).2
      have h2 := h1.2 0 hsz
      rw [List.getElem?_eq_getElem (by omega)] at h2
      simp only [Nat.zero_mul, Addr.add, if_true] at h2
      unfold World.cell? at h2
      split at h2
      · split at h2
        · cases h2
        · rename_i hn; cases s with
          | none => rfl
          | some x => simp at hn
      · cases h2
    subst hs
    have key : ∀ j v, es.flatten[j]? = some v → w.cell? ⟨b, o + j, none⟩ = some v := by
      intro j v hj
      obtain ⟨i, e, r, h1, h2, rfl⟩ := flat_inv hall hj
      have h3 := (World.cells?_some (h i e h1)).2
      have hr : r < e.length := (List.getElem?_eq_some_iff.1 h2).1
      have h4 := h3.2 r (by omega)
      rw [h2, add_none, add_none] at h4
      rw [← Nat.add_assoc]; exact h4
    have hpos : 0 < es.flatten.length := by rw [flat_len hall, hl]; exact Nat.mul_pos h0 hsz
    obtain ⟨full, hg, _⟩ := cell_GW (key 0 es.flatten[0] (List.getElem?_eq_getElem hpos))
    refine ⟨b, o, full, rfl, hg, fun j v hj => ?_⟩
    obtain ⟨full', hg', hv⟩ := cell_GW (key j v hj)
    rw [hg] at hg'; cases hg'; exact hv
theorem RTyL.snoc {G : IM} : ∀ {ts : List Ty} {es : List (List Value)} {t : Ty} {e : List Value}, RTyL G ts es → RTy G t e → RTyL G (ts ++ [t]) (es ++ [e])
  | [], es, t, e, h, h2 => by
    simp only [RTyL] at h; subst h
    simp only [List.nil_append, RTyL]
    exact ⟨e, [], rfl, h2, rfl⟩
  | t' :: ts, es, t, e, h, h2 => by
    simp only [RTyL] at h
    obtain ⟨a, r, rfl, h3, h4⟩ := h
    simp only [List.cons_append, RTyL]
    exact ⟨a, r ++ [e], rfl, h3, RTyL.snoc h4 h2⟩
theorem RTmL.snoc {G : IM} : ∀ {ts : List Tm} {es : List (List Value)} {t : Tm} {e : List Value}, RTmL G ts es → RTm G t e → RTmL G (ts ++ [t]) (es ++ [e])
  | [], es, t, e, h, h2 => by
    simp only [RTmL] at h; subst h
    simp only [List.nil_append, RTmL]
    exact ⟨e, [], rfl, h2, rfl⟩
  | t' :: ts, es, t, e, h, h2 => by
    simp only [RTmL] at h
    obtain ⟨a, r, rfl, h3, h4⟩ := h
    simp only [List.cons_append, RTmL]
    exact ⟨a, r ++ [e], rfl, h3, RTmL.snoc h4 h2⟩
theorem Tm.nokL_snoc : ∀ {ts : List Tm} {t : Tm}, Tm.nokL ts → t.nok → Tm.nokL (ts ++ [t])
  | [], t, _, h => by simp only [List.nil_append, Tm.nokL]; exact ⟨h, trivial⟩
  | t' :: ts, t, h, h2 => by
    simp only [Tm.nokL] at h
    simp only [List.cons_append, Tm.nokL]
    exact ⟨h.1, Tm.nokL_snoc h.2 h2⟩
theorem build_ty {G : IM} {q : Nat → List Value → Prop} : ∀ {n : Nat}, (∀ i, i < n → ∃ e t, q i e ∧ RTy G t e) → ∃ ts es, ts.length = n ∧ RTyL G ts es ∧ ∀ i e, es[i]? = some e → q i e
  | 0, _ => ⟨[], [], rfl, by simp only [RTyL], by simp⟩
  | n + 1, h => by
    obtain ⟨ts, es, h1, h2, h3⟩ := build_ty (n := n) fun i hi => h i (by omega)
    obtain ⟨e, t, h4, h5⟩ := h n (by omega)
    refine ⟨ts ++ [t], es ++ [e], by simp [h1], h2.snoc h5, fun i x hx => ?_⟩
    have hl := h2.len
    rw [List.getElem?_append] at hx
    split at hx
    · exact h3 i x hx
    · rename_i hi
      have : i - es.length = 0 := by
        have := (List.getElem?_eq_some_iff.1 hx).1; simp at this; omega
      rw [this] at hx; simp at hx; subst hx
      rw [show i = n by omega]; exact h4
theorem build_tm {G : IM} {q : Nat → List Value → Prop} : ∀ {n : Nat}, (∀ i, i < n → ∃ e t, q i e ∧ RTm G t e ∧ t.nok) → ∃ ts es, ts.length = n ∧ RTmL G ts es ∧ Tm.nokL ts ∧ ∀ i e, es[i]? = some e → q i e
  | 0, _ => ⟨[], [], rfl, by simp only [RTmL], by simp only [Tm.nokL], by simp⟩
  | n + 1, h => by
    obtain ⟨ts, es, h1, h2, hn, h3⟩ := build_tm (n := n) fun i hi => h i (by omega)
    obtain ⟨e, t, h4, h5, h6⟩ := h n (by omega)
    refine ⟨ts ++ [t], es ++ [e], by simp [h1], h2.snoc h5, Tm.nokL_snoc hn h6, fun i x hx => ?_⟩
    have hl := h2.len
    rw [List.getElem?_append] at hx
    split at hx
    · exact h3 i x hx
    · rename_i hi
      have : i - es.length = 0 := by
        have := (List.getElem?_eq_some_iff.1 hx).1; simp at this; omega
      rw [this] at hx; simp at hx; subst hx
      rw [show i = n by omega]; exact h4
theorem SlE.mk' {G : IM} {p : Option Addr} {n c sz : Nat} {es : List (List Value)} (h : Sl G p n c sz es.flatten) (hl : es.length = n) (ha : ∀ e ∈ es, e.length = sz ∧ e.all (·.oneCell') = true) : SlE G p n c sz es := ⟨h, hl, fun e he => (ha e he).1, fun e he => (ha e he).2⟩
theorem RTyL.each {G : IM} {ts : List Ty} {es : List (List Value)} (h : RTyL G ts es) : ∀ e ∈ es, e.length = 2 ∧ e.all (·.oneCell') = true := by
  intro e he
  obtain ⟨i, hi⟩ := List.getElem?_of_mem he
  have := (h.inv hi ty0).2
  exact ⟨this.len, this.one⟩
theorem RTmL.each {G : IM} {ts : List Tm} {es : List (List Value)} (h : RTmL G ts es) : ∀ e ∈ es, e.length = 9 ∧ e.all (·.oneCell') = true := by
  intro e he
  obtain ⟨i, hi⟩ := List.getElem?_of_mem he
  have := (h.inv hi (.mk 0 ⟨#[]⟩ 0 ty0 ty0 0 [])).2
  exact ⟨this.len, this.one⟩
theorem i64_of {n : Int} (h : (Lit.int .i64 n).wf = true) : I64 n := by
  simpa [Lit.wf, IntKind.min, IntKind.max, IntKind.signed, IntKind.bits, I64] using h
section read
variable {H : Type} {enc : TypeId × Value → H} {w : World} {sp : Nat → Bool} {held : Bool}
theorem cells2 : Try.prog.cellsOf 40 = 2 := by kernel_rfl
theorem cells9 : Try.prog.cellsOf 43 = 9 := by kernel_rfl
theorem cellsI : Try.prog.cellsOf 3 = 1 := by kernel_rfl
theorem cellsS : Try.prog.cellsOf 9 = 1 := by kernel_rfl
theorem cellsT : Try.prog.cellsOf 38 = 1 := by kernel_rfl
theorem cellsM : Try.prog.cellsOf 41 = 1 := by kernel_rfl
theorem idx2 {α : Type} {xs : List α} {i : Nat} (h : i < xs.length) : ∃ y, xs[i]? = some y := ⟨_, List.getElem?_eq_getElem h⟩
set_option maxRecDepth 100000 in
theorem read_ty : ∀ (n : Nat) (cs : List Value) (x : DataW H × List MemPlace), DataW.trod enc Try.prog w 0 sp held n 40 cs = some x → ∃ t, RTy (GW w) t cs := by
  intro n
  induction n using Nat.strongRecOn with
  | _ n ih =>
  intro cs x h
  obtain ⟨xs, m, rfl, _, hl, hxl, hf⟩ := DataW.trod_struct Try.underlying40 h
  rw [cells2] at hl
  match cs, hl with
  | [a, b], _ =>
  obtain ⟨y0, e0⟩ := idx2 (xs := xs) (i := 0) (by simp [hxl])
  obtain ⟨y1, e1⟩ := idx2 (xs := xs) (i := 1) (by simp [hxl])
  have h0 := hf 0 _ rfl
  have h1 := hf 1 _ rfl
  rw [e0] at h0
  rw [e1] at h1
  simp only [List.getElem_toArray, List.getElem_cons_zero, List.getElem_cons_succ] at h0 h1
  simp only [cellsI, cellsT, List.drop, List.take] at h0 h1
  obtain ⟨k, hk, _, hwf⟩ := DataW.trod_int Try.underlying3 h0
  simp only [List.cons.injEq, and_true] at hk
  subst hk
  rcases DataW.trod_slice Try.underlying38 h1 with ⟨hb, _⟩ | ⟨ad, len, cap, elems, rest, n', rfl, hb, _, _, hlc, hcm, hel, hele, _, _⟩
  · simp only [List.cons.injEq, and_true] at hb
    subst hb
    exact ⟨.mk k [], by simp only [RTy]; exact ⟨none, 0, [], rfl, i64_of hwf, SlE.nil _ _, by simp only [RTyL]⟩⟩
  · simp only [List.cons.injEq, and_true] at hb
    subst hb
    rw [cells2] at hele
    obtain ⟨ts, es, t1, t2, t3⟩ := build_ty (G := GW w) (q := fun i e => w.cells? 0 (ad.add (i * 2)) 2 = some e) (n := len) fun i hi => by
      have := hele i hi
      rw [List.getElem?_eq_getElem (by omega)] at this
      obtain ⟨cs', c1, c2⟩ := Option.bind_eq_some_iff.1 this
      obtain ⟨t, ht⟩ := ih n' (by omega) cs' _ c2
      exact ⟨cs', t, c1, ht⟩
    subst t1
    refine ⟨.mk k ts, ?_⟩
    simp only [RTy]
    exact ⟨some ad, cap, es, rfl, i64_of hwf, SlE.mk' (sl_read t2.len (by omega) hlc hcm t3) t2.len t2.each, t2⟩
set_option maxRecDepth 100000 in
theorem read_tm : ∀ (n : Nat) (cs : List Value) (x : DataW H × List MemPlace), DataW.trod enc Try.prog w 0 sp held n 43 cs = some x → ∃ t, RTm (GW w) t cs ∧ t.nok := by
  intro n
  induction n using Nat.strongRecOn with
  | _ n ih =>
  intro cs x h
  obtain ⟨xs, m, rfl, _, hl, hxl, hf⟩ := DataW.trod_struct Try.underlying43 h
  rw [cells9] at hl
  match cs, hl with
  | [a0, a1, a2, a3, a4, a5, a6, a7, a8], _ =>
  obtain ⟨y0, e0⟩ := idx2 (xs := xs) (i := 0) (by simp [hxl])
  obtain ⟨y1, e1⟩ := idx2 (xs := xs) (i := 1) (by simp [hxl])
  obtain ⟨y2, e2⟩ := idx2 (xs := xs) (i := 2) (by simp [hxl])
  obtain ⟨y3, e3⟩ := idx2 (xs := xs) (i := 3) (by simp [hxl])
  obtain ⟨y4, e4⟩ := idx2 (xs := xs) (i := 4) (by simp [hxl])
  obtain ⟨y5, e5⟩ := idx2 (xs := xs) (i := 5) (by simp [hxl])
  obtain ⟨y6, e6⟩ := idx2 (xs := xs) (i := 6) (by simp [hxl])
  have h0 := hf 0 _ rfl
  have h1 := hf 1 _ rfl
  have h2 := hf 2 _ rfl
  have h3 := hf 3 _ rfl
  have h4 := hf 4 _ rfl
  have h5 := hf 5 _ rfl
  have h6 := hf 6 _ rfl
  rw [e0] at h0
  rw [e1] at h1
  rw [e2] at h2
  rw [e3] at h3
  rw [e4] at h4
  rw [e5] at h5
  rw [e6] at h6
  simp only [List.getElem_toArray, List.getElem_cons_zero, List.getElem_cons_succ] at h0 h1 h2 h3 h4 h5 h6
  simp only [cellsI, cellsS, cells2, cellsM, List.drop, List.take] at h0 h1 h2 h3 h4 h5 h6
  obtain ⟨k, hk, _, hwk⟩ := DataW.trod_int Try.underlying3 h0
  obtain ⟨nm, hnm, _, hsz⟩ := DataW.trod_string Try.underlying9 h1
  obtain ⟨num, hnum, _, hwn⟩ := DataW.trod_int Try.underlying3 h2
  obtain ⟨ty, hty⟩ := read_ty _ _ _ h3
  obtain ⟨fr, hfr⟩ := read_ty _ _ _ h4
  obtain ⟨lb, hlb, _, hwl⟩ := DataW.trod_int Try.underlying3 h5
  simp only [List.cons.injEq, and_true] at hk hnm hnum hlb
  subst hk hnm hnum hlb
  have hsz' : nm.size ≤ 9223372036854775807 := by unfold maxLen at hsz; omega
  rcases DataW.trod_slice Try.underlying41 h6 with ⟨hb, _⟩ | ⟨ad, len, cap, elems, rest, n', rfl, hb, _, _, hlc, hcm, hel, hele, _, _⟩
  · simp only [List.cons.injEq, and_true] at hb
    subst hb
    refine ⟨.mk k nm num ty fr lb [], ?_, by simp only [Tm.nok, Tm.nokL]; exact ⟨hsz', trivial⟩⟩
    simp only [RTm]
    exact ⟨[a3, a4], [a5, a6], none, 0, [], rfl, i64_of hwk, i64_of hwn, i64_of hwl, hty, hfr, SlE.nil _ _, by simp only [RTmL]⟩
  · simp only [List.cons.injEq, and_true] at hb
    subst hb
    rw [cells9] at hele
    obtain ⟨ts, es, t1, t2, t4, t3⟩ := build_tm (G := GW w) (q := fun i e => w.cells? 0 (ad.add (i * 9)) 9 = some e) (n := len) fun i hi => by
      have := hele i hi
      rw [List.getElem?_eq_getElem (by omega)] at this
      obtain ⟨cs', c1, c2⟩ := Option.bind_eq_some_iff.1 this
      obtain ⟨t, ht, hno⟩ := ih n' (by omega) cs' _ c2
      exact ⟨cs', t, c1, ht, hno⟩
    subst t1
    refine ⟨.mk k nm num ty fr lb ts, ?_, by simp only [Tm.nok]; exact ⟨hsz', t4⟩⟩
    simp only [RTm]
    exact ⟨[a3, a4], [a5, a6], some ad, cap, es, rfl, i64_of hwk, i64_of hwn, i64_of hwl, hty, hfr, SlE.mk' (sl_read t2.len (by omega) hlc hcm t3) t2.len t2.each, t2⟩
end read
theorem Ext.below {w w' : World} (h : Ext (Fp []) w w') : Below w.heap.size w w' := ⟨h.os, h.tape, h.output, h.size, fun k hk => h.block k hk (by simp [Fp])⟩
section post
variable {H : Type} {enc : TypeId × Value → H} {P : Program}
/-- Nothing that was there has turned: the arguments read as they did. -/
theorem post_below {f : Func} {s : ChangeSpec} {apart fresh handsOn again : Bool} {W W' : World} {args : Array Value} {v : Value} {ds gs : List (DataW H)} {before : List MemPlace}
    (hW : DataW.Whole enc P f.params.toList s.vars apart W args.toList ds gs before) (hb : Below W.heap.size W W') (hgs : s.vars = [])
    (hres : ∀ (b : Nat) (sp : Nat → Bool) (hd : Bool), DataW.TrodAll enc P W' b sp hd f.resultTypes.toList (v.resultList f.resultTypes.size) (s.fn H (ds ++ gs)).results [])
    (hargs : ∀ sp : Nat → Bool, (∀ p ∈ before, sp p.block = true) → DataW.TrodAll enc P W' 0 sp true f.params.toList args.toList (s.fn H (ds ++ gs)).args before)
    (hv : (s.fn H (ds ++ gs)).vars = [])
    (hok : ∀ (j : Nat) (t : TypeId) (r : Value), f.resultTypes[j]? = some t → (v.resultList f.resultTypes.size)[j]? = some r → Value.okWide P W' .any 0 t r) :
    s.post enc P f apart fresh handsOn again W args v W' := by
  have hold : ∀ p ∈ before, (fun b => decide (b < W.heap.size)) p.block = true := fun p hp => by simpa using hW.lt p hp
  have hvars : ∀ sp : Nat → Bool, DataW.TrodVars enc P W' sp s.vars (s.fn H (ds ++ gs)).vars [] := fun sp => by rw [hgs, hv]; rfl
  have hkept : W.keptBut W' (fun _ => False) := by
    refine ⟨hb.os, hb.output, fun i hi => ?_⟩
    rw [hb.block i hi]
    split
    · rename_i h1 h2; cases h1.symm.trans h2; exact ⟨rfl, rfl, rfl, fun _ _ => rfl⟩
    · rename_i h1 h2; cases h1.symm.trans h2; exact .inr ⟨rfl, rfl⟩
    · rfl
  refine ⟨ds, gs, before, [], before, [], hW, hres _ _ _, hargs _ hold, hvars _, World.keptBut_mono (fun p hp => hp.elim) hkept, fun _ => ?_⟩
  obtain ⟨_, _, _, _, _, hz, hn⟩ := hW
  refine ⟨hok, _, _, ([] ++ before) ++ [], ⟨[] ++ before, [], trodAll_append (hargs _ (fun _ _ => rfl)) (hres _ _ _), hvars _, rfl, ?_, ?_⟩, ?_⟩
  · intro b off hp
    have hp' : MemPlace.cell b off ∈ before := by simpa using hp
    have hlt : b < W.heap.size := of_decide_eq_true (hold _ hp')
    have := hz b off hp'
    unfold World.frozen? at this ⊢
    simp only [hb.block b hlt]
    exact this
  · intro ha; simpa using hn ha
  · intro p hp _; simpa using hp
end post
end Gw
end Go.Proofs.Ytlefgfdhlblahaa
namespace Go.Proofs.Ytlefgfdhlblahaa
open Go Go.RowKit
namespace Gw
structure cutK {ι : Type} (S : ι → Sy) (φ : ι → Prop) (e : Exit) (σ : Sy) : Prop where
  run : match e with
    | .normal => ∃ i, φ i ∧ Sub σ (S i)
    | _ => False
section cut
variable {P : Program} {Γ : Ctx} {K : Po} {σ : Sy} {ι : Type}
/-- All that comes behind a piece of code is walked once. -/
theorem tri_cut {c y : Code} (S : ι → Sy) (φ : ι → Prop) (h : Tri P Γ c (cutK S φ) σ) (k : ∀ i, φ i → Tri P Γ y K (S i)) : Tri P Γ c (seqK P Γ y K) σ := by
  refine tri_post h ?_
  rintro e σ ⟨hk⟩
  cases e with
  | normal => obtain ⟨i, hi, hs⟩ := hk; exact ⟨tri_sub hs (k i hi)⟩
  | _ => exact hk.elim
where
  tri_post {c : Code} {K K' : Po} {σ : Sy} (h : Tri P Γ c K σ) (hk : ∀ e σ, K e σ → K' e σ) : Tri P Γ c K' σ := tri_mono h hk
theorem nrm_cut {S : ι → Sy} {φ : ι → Prop} {σ : Sy} (i : ι) (hs : Sub σ (S i)) (h : φ i) : cutK S φ .normal σ := ⟨⟨i, h, hs⟩⟩
theorem np_cut {S : ι → Sy} {φ : ι → Prop} : noPanic (cutK S φ) := fun _ _ h => h.run
end cut
end Gw
end Go.Proofs.Ytlefgfdhlblahaa
namespace Go.Proofs.Ytlefgfdhlblahaa
open Go Go.RowKit
namespace Gw
set_option maxRecDepth 100000 in
theorem ownType_fn : ∀ (t : Ty) (G : IM) (cells : List Value), t.small → RTy G t cells →
    Fn Try.prog 104 [.agg ⟨cells⟩] [] G (Imm fun G' v => ∃ cells' F, v = .agg ⟨cells'⟩ ∧ STy (Dif G' G) t cells' F ∧ F.Nodup) := by
  refine Ty.ind fun k ks ih G cells hts hr => ?_
  simp only [Ty.small] at hts
  obtain ⟨hsm, hks⟩ := hts
  obtain ⟨p, c, es, rfl, hk, hsl, hkl⟩ := hr.open
  simp only [Ty.k, Ty.ks] at hk hsl hkl ⊢
  have hn := hsl.le
  refine fn_enter Try.func104 rfl Try.ntmps104 Try.results104 rfl ?_
  intro w0
  refine tri_seq ?_
  refine tri_region ?_
  (refine seq_step (step_box_a rfl rfl) rfl ?_; rintro _ ⟨b3, rfl⟩)
  (refine seq_step (step_alloc rfl) rfl ?_; rintro _ ⟨b4, rfl⟩)
  refine seq_done ?_
  refine nrm_seq ?_
  refine tri_seq ?_
  refine tri_region ?_
  refine seq_pure (pure_fieldAddr0 rfl) rfl rfl ?_
  refine seq_load (load_bs rfl rfl (by repeat (first | exact List.Mem.head _ | apply List.Mem.tail)) (by rfl)) rfl rfl ?_
  refine seq_pure (pure_build rfl rfl) rfl rfl ?_
  (refine seq_step (step_alloc rfl) rfl ?_; rintro _ ⟨b12, rfl⟩)
  refine seq_store rfl rfl rfl rfl rfl rfl (by repeat (first | exact Sw.here | apply Sw.there)) (by rfl) ?_
  refine seq_done ?_
  refine nrm_seq ?_
  refine tri_seq ?_
  refine tri_seq ?_
  refine tri_region ?_
  refine seq_pure (pure_fieldAddr0 rfl) rfl rfl ?_
  refine seq_load (load_bs rfl rfl (by repeat (first | exact List.Mem.head _ | apply List.Mem.tail)) (by rfl)) rfl rfl ?_
  refine seq_pure (pure_len rfl rfl) rfl rfl ?_
  refine seq_pure (pure_move rfl) rfl rfl ?_
  refine seq_done ?_
  refine nrm_seq ?_
  refine tri_block ?_
  (refine tri_nil 25 2 ?_; refine tri_loopN (fun (x : Nat × Option Addr × Nat × List (List Value) × List Nat × IM) => ⟨[(12, .int .i64 x.1), (11, .int .i64 ks.length), (10, .slice p ks.length c), (3, .pointer (some ⟨b12, 0, none⟩)), (2, .pointer (some ⟨b4, 0, none⟩))], [.blk b12 [.int .i64 k, .slice x.2.1 x.1 x.2.2.1], .slc x.2.1 x.2.2.1 25 2 x.1 x.2.2.2.1.flatten, .blk b4 [.int .i64 0, .slice none 0 0]], x.2.2.2.2.2⟩) (fun x => x.1 ≤ ks.length ∧ IMle G x.2.2.2.2.2 ∧ STyL (Dif x.2.2.2.2.2 G) (ks.take x.1) x.2.2.2.1 x.2.2.2.2.1 ∧ x.2.2.2.2.1.Nodup) (fun x => ks.length - x.1) (0, none, 0, [], [], G) ?_ ?_ ?_)
  · (simp only [flat_snoc]; exact sub_mk (by repeat (first | exact SubE.nil | refine SubE.cons rfl ?_)) (by repeat (first | exact SubH.refl | exact SubH.nil | refine SubH.cons (by repeat (first | exact Pk.here | apply Pk.there)) ?_)))
  · exact ⟨by simp, IMle.refl _, by simp [STyL], by simp⟩
  · (rintro ⟨i, pn, cn, es', F, Gi⟩ ⟨hi, hle, hst, hnd⟩; simp only [] at hi hle hst hnd ⊢; replace hsl := hsl.mono hle; replace hkl := hkl.mono hle)
    refine tri_seq ?_
    refine tri_region ?_
    refine seq_bool (pure_lss rfl rfl) rfl rfl (fun h32 => ?_) (fun h32 => ?_)
    · refine seq_done ?_
      refine nrm_seq ?_
      refine tri_seq ?_
      refine tri_cond_t rfl ?_
      refine tri_skip ?_
      refine nrm_seq ?_
      refine tri_seq ?_
      refine tri_block ?_
      refine tri_seq ?_
      refine tri_region ?_
      (obtain ⟨b, o, p2, c2, rfl, hat, hre, hgb⟩ := hsl.kidTy hkl (i := i) (by omega) (by omega); refine seq_pure (pure_indexAddrN rfl rfl rfl (by omega)) rfl rfl ?_)
      refine seq_load (load_a rfl rfl (hat _) rfl) rfl rfl ?_
      (refine seq_step (step_alloc rfl) rfl ?_; rintro _ ⟨b45, rfl⟩)
      refine seq_store rfl rfl rfl rfl rfl rfl (by repeat (first | exact Sw.here | apply Sw.there)) (by rfl) ?_
      refine seq_done ?_
      refine nrm_seq ?_
      refine tri_draw mixed rfl ?_
      refine any_pure (i := 0) (listed' := [true, false, false, false, false, false, false, false]) rfl (by repeat (first | exact np_ret | apply np_seq | apply np_block | apply np_loopN')) (pure_fieldAddr0 rfl) rfl (by kernel_rfl) rfl rfl ?_
      refine any_load (i := 1) (listed' := [true, true, false, false, false, false, false, false]) rfl (by repeat (first | exact np_ret | apply np_seq | apply np_block | apply np_loopN')) (load_bs rfl rfl (by repeat (first | exact List.Mem.head _ | apply List.Mem.tail)) (by rfl)) rfl (by kernel_rfl) rfl rfl ?_
      refine any_load (i := 2) (listed' := [true, true, true, false, false, false, false, false]) rfl (by repeat (first | exact np_ret | apply np_seq | apply np_block | apply np_loopN')) (load_ba rfl rfl (by repeat (first | exact List.Mem.head _ | apply List.Mem.tail)) (by rfl)) rfl (by kernel_rfl) rfl rfl ?_
      refine any_one (j := 3) (by kernel_rfl) ?_
      (refine one_imm (listed' := [true, true, true, true, false, false, false, false]) rfl rfl (ih _ (List.getElem_mem (by omega)) _ _ (Ty.smallL_mem hks _ (List.getElem_mem (by omega))) hre) rfl rfl rfl (fun v G1 hle1 hh => ?_); obtain ⟨cells', F', rfl, hs', hnd'⟩ := hh; obtain ⟨p3, c3, es3, rfl, _⟩ := hs'.R.open)
      refine any_one (j := 4) (by kernel_rfl) ?_
      (refine one_step0 (listed' := [true, true, true, true, true, false, false, false]) rfl (step_buildSlice rfl rfl rfl (by omega) (by unfold maxLen; omega) rfl) rfl rfl ?_; rintro _ ⟨b56, rfl⟩)
      refine any_one (j := 5) (by kernel_rfl) ?_
      refine one_append (listed' := [true, true, true, true, true, true, false, false]) rfl rfl rfl rfl rfl rfl (fun _ _ => by repeat (first | exact Sw.here | apply Sw.there)) (at_slc_all (by repeat (first | exact List.Mem.head _ | apply List.Mem.tail))) rfl (by simp [Value.oneCell']) (by unfold maxLen; omega) (by omega) rfl rfl (by repeat (first | exact HmOk.nil | apply HmOk.dep (by kernel_rfl) | apply HmOk.blk (by kernel_rfl) (by repeat (first | exact Pk.here | apply Pk.there)) (by repeat (first | exact List.Mem.head _ | apply List.Mem.tail)))) (fun pn' cn' => ?_)
      refine any_pure (i := 6) (listed' := [true, true, true, true, true, true, true, false]) rfl (by repeat (first | exact np_ret | apply np_seq | apply np_block | apply np_loopN')) (pure_fieldAddr0 rfl) rfl (by kernel_rfl) rfl rfl ?_
      refine any_one (j := 7) (by kernel_rfl) ?_
      refine one_store (listed' := [true, true, true, true, true, true, true, true]) rfl rfl rfl rfl rfl rfl rfl rfl (by kernel_rfl) (by repeat (first | exact Sw.here | apply Sw.there)) (by rfl) ?_
      refine any_done (by kernel_rfl) ?_
      refine nrm_block ?_
      refine nrm_seq ?_
      refine tri_region ?_
      refine seq_pure (pure_add rfl rfl (by omega) (by omega)) rfl rfl ?_
      refine seq_pure (pure_move rfl) rfl rfl ?_
      refine seq_done ?_
      refine nrm_loopN (i + 1, pn', cn', es' ++ [[.int .i64 ks[i].k, .slice p3 ks[i].ks.length c3]], F ++ F', G1) ?_ ?_ ?_
      · (simp only [flat_snoc]; exact sub_mk (by repeat (first | exact SubE.nil | refine SubE.cons rfl ?_)) (by repeat (first | exact SubH.refl | exact SubH.nil | refine SubH.cons (by repeat (first | exact Pk.here | apply Pk.there)) ?_)))
      · exact ⟨by omega, hle.trans hle1, STyL.step hst hnd hle hle1 (by omega) hs' hnd'⟩
      · (show ks.length - (i + 1) < ks.length - i; omega)
    · refine seq_done ?_
      refine nrm_seq ?_
      refine tri_seq ?_
      refine tri_cond_f rfl ?_
      refine tri_exit ?_
      refine ext_seq ?_
      refine ext_loopN ?_
      refine ext_block_eq ?_
      refine nrm_seq ?_
      refine tri_seq ?_
      refine tri_region ?_
      refine seq_load (load_ba rfl rfl (by repeat (first | exact List.Mem.head _ | apply List.Mem.tail)) (by rfl)) rfl rfl ?_
      refine seq_store rfl rfl rfl rfl rfl rfl (by repeat (first | exact Sw.here | apply Sw.there)) (by rfl) ?_
      refine seq_done ?_
      refine nrm_seq ?_
      (refine ret_freeze (by repeat (first | exact Pk.here | apply Pk.there)) (fun G2 hle2 hsl2 hno2 => ?_); obtain rfl : i = ks.length := by omega)
      refine tri_ret ?_
      refine ret_fin1 (res_cell rfl (load_ba rfl rfl (by repeat (first | exact List.Mem.head _ | apply List.Mem.tail)) (by rfl))) ?_
      (rw [List.take_length] at hst; obtain ⟨F2, hf1, hf2⟩ := STy.fin hst hnd hle hle2 hsl2 hno2 hk; exact ⟨rfl, _, F2, rfl, hf1, hf2⟩)
end Gw
end Go.Proofs.Ytlefgfdhlblahaa
namespace Go.Proofs.Ytlefgfdhlblahaa
open Go Go.RowKit
namespace Gw
/-- What a copy of a type comes to. -/
def ToTy (t : Ty) (G : IM) : IM → Value → List Ent → Prop := Imm fun G' v => ∃ cells' F, v = .agg ⟨cells'⟩ ∧ STy (Dif G' G) t cells' F ∧ F.Nodup
def ToTyS (ks : List Ty) (G : IM) : IM → Value → List Ent → Prop := Imm fun G' v => ∃ p c F, v = .slice p ks.length c ∧ STyS (Dif G' G) ks p c F ∧ F.Nodup
def ToTm (t : Tm) (G : IM) : IM → Value → List Ent → Prop := Imm fun G' v => ∃ cells' F, v = .agg ⟨cells'⟩ ∧ STm (Dif G' G) t cells' F ∧ F.Nodup
def ToTmS (ks : List Tm) (G : IM) : IM → Value → List Ent → Prop := Imm fun G' v => ∃ p c F, v = .slice p ks.length c ∧ STmS (Dif G' G) ks p c F ∧ F.Nodup
set_option maxRecDepth 100000 in
theorem toTypeS_of (ks : List Ty) (ih : ∀ t ∈ ks, ∀ (G : IM) (cells : List Value), t.small → RTy G t cells → Fn Try.prog 50 [.agg ⟨cells⟩] [] G (ToTy t G)) (hks : Ty.smallL ks) (hsm : ks.length ≤ 4294967296)
    (G : IM) (p : Option Addr) (c : Nat) (es : List (List Value)) (hsl : SlE G p ks.length c 2 es) (hkl : RTyL G ks es) :
    Fn Try.prog 82 [.slice p ks.length c] [] G (ToTyS ks G) := by
  have hn := hsl.le
  refine fn_enter Try.func82 rfl Try.ntmps82 Try.results82 rfl ?_
  intro w0
  refine tri_seq ?_
  refine tri_region ?_
  refine seq_pure (pure_assign rfl) rfl rfl ?_
  refine seq_done ?_
  refine nrm_seq ?_
  refine tri_seq ?_
  refine tri_region ?_
  refine seq_pure (pure_move rfl) rfl rfl ?_
  refine seq_pure (pure_len rfl rfl) rfl rfl ?_
  (refine seq_makeBlk rfl rfl rfl (by omega) (by unfold maxLen; omega) rfl (fun bm => ?_))
  refine seq_pure (pure_assign rfl) rfl rfl ?_
  refine seq_done ?_
  refine nrm_seq ?_
  refine tri_seq ?_
  refine tri_seq ?_
  refine tri_region ?_
  refine seq_pure (pure_assign rfl) rfl rfl ?_
  refine seq_done ?_
  refine nrm_seq ?_
  refine tri_block ?_
  (refine tri_loopN (fun (x : Nat × List (List Value) × List Nat × IM) => ⟨[(4, .int .i64 x.1), (3, .slice (some ⟨bm, 0, none⟩) ks.length ks.length), (0, .slice p ks.length c)], [.blk bm (x.2.1.flatten ++ zrep (ks.length - x.1) [.int .i64 0, .slice none 0 0])], x.2.2.2⟩) (fun x => x.1 ≤ ks.length ∧ IMle G x.2.2.2 ∧ STyL (Dif x.2.2.2 G) (ks.take x.1) x.2.1 x.2.2.1 ∧ x.2.2.1.Nodup) (fun x => ks.length - x.1) (0, [], [], G) ?_ ?_ ?_)
  · (simp only [flat_snoc]; exact sub_mk (by repeat (first | exact SubE.nil | refine SubE.cons rfl ?_)) (by repeat (first | exact SubH.refl | exact SubH.nil | refine SubH.cons (by repeat (first | exact Pk.here | apply Pk.there)) ?_ | apply SubH.drop)))
  · exact ⟨by simp, IMle.refl _, by simp [STyL], by simp⟩
  · (rintro ⟨i, es', F, Gi⟩ ⟨hi, hle, hst, hnd⟩; simp only [] at hi hle hst hnd ⊢; replace hsl := hsl.mono hle; replace hkl := hkl.mono hle)
    refine tri_seq ?_
    refine tri_seq ?_
    refine tri_region ?_
    refine seq_pure (pure_move rfl) rfl rfl ?_
    refine seq_pure (pure_move rfl) rfl rfl ?_
    refine seq_pure (pure_len rfl rfl) rfl rfl ?_
    refine seq_bool (pure_lss rfl rfl) rfl rfl (fun h31 => ?_) (fun h31 => ?_)
    · refine seq_done ?_
      refine nrm_seq ?_
      refine tri_cond_t rfl ?_
      refine tri_skip ?_
      refine nrm_seq ?_
      refine tri_seq ?_
      refine tri_block ?_
      refine tri_region ?_
      refine seq_pure (pure_move rfl) rfl rfl ?_
      refine seq_pure (pure_move rfl) rfl rfl ?_
      refine seq_pure (pure_move rfl) rfl rfl ?_
      refine seq_pure (pure_move rfl) rfl rfl ?_
      (obtain ⟨b, o, p2, c2, rfl, hat, hre, hgb⟩ := hsl.kidTy hkl (i := i) (by omega) (by omega); refine seq_pure (pure_indexAddrN rfl rfl rfl (by omega)) rfl rfl ?_)
      refine seq_load (load_a rfl rfl (hat _) rfl) rfl rfl ?_
      (refine seq_imm rfl (ih ks[i] (List.getElem_mem (by omega)) _ _ (Ty.smallL_mem hks _ (List.getElem_mem (by omega))) hre) rfl rfl (fun v G1 hle1 hh => ?_); obtain ⟨cells', F', rfl, hs', hnd'⟩ := hh; obtain ⟨p3, c3, rfl, _⟩ := hs'.open)
      refine seq_pure (pure_indexAddrN rfl rfl rfl (by omega)) rfl rfl ?_
      (refine seq_store rfl rfl rfl rfl rfl rfl (by repeat (first | exact Sw.here | apply Sw.there)) (upd_next (by rw [hst.R.len, List.length_take]; omega) hst.R.all rfl rfl (by omega)) ?_)
      refine seq_done ?_
      refine nrm_block ?_
      refine nrm_seq ?_
      refine tri_region ?_
      refine seq_pure (pure_move rfl) rfl rfl ?_
      refine seq_pure (pure_add rfl rfl (by omega) (by omega)) rfl rfl ?_
      refine seq_pure (pure_assign rfl) rfl rfl ?_
      refine seq_done ?_
      refine nrm_loopN (i + 1, es' ++ [[.int .i64 ks[i].k, .slice p3 ks[i].ks.length c3]], F ++ F', G1) ?_ ?_ ?_
      · (simp only [flat_snoc]; exact sub_mk (by repeat (first | exact SubE.nil | refine SubE.cons rfl ?_)) (by repeat (first | exact SubH.refl | exact SubH.nil | refine SubH.cons (by repeat (first | exact Pk.here | apply Pk.there)) ?_ | apply SubH.drop)))
      · exact ⟨by omega, hle.trans hle1, STyL.step hst hnd hle hle1 (by omega) hs' hnd'⟩
      · (show ks.length - (i + 1) < ks.length - i; omega)
    · refine seq_done ?_
      refine nrm_seq ?_
      refine tri_cond_f rfl ?_
      refine tri_exit ?_
      refine ext_seq ?_
      refine ext_loopN ?_
      refine ext_block_eq ?_
      refine nrm_seq ?_
      refine tri_seq ?_
      refine tri_region ?_
      refine seq_pure (pure_move rfl) rfl rfl ?_
      refine seq_pure (pure_assign rfl) rfl rfl ?_
      refine seq_done ?_
      refine nrm_seq ?_
      (obtain rfl : i = ks.length := (by omega); rw [zrep_self]; refine tri_freezes (bs := [(bm, es'.flatten)]) (List.Perm.refl _) (fun hn2 hd2 hle2 => ?_))
      refine tri_ret ?_
      refine ret_fin1 (res_tmp rfl) ?_
      (rw [List.take_length] at hst; obtain ⟨F2, hf1, hf2⟩ := STyS.fin hst hnd hle hle2 (sl_wi (by rw [flat_len hst.R.all, hst.R.len]) (by unfold maxLen; omega)) (wi_no hd2); exact ⟨rfl, _, _, F2, rfl, hf1, hf2⟩)
set_option maxRecDepth 100000 in
theorem toType_fn : ∀ (t : Ty) (G : IM) (cells : List Value), t.small → RTy G t cells → Fn Try.prog 50 [.agg ⟨cells⟩] [] G (ToTy t G) := by
  refine Ty.ind fun k ks ih G cells hts hr => ?_
  simp only [Ty.small] at hts
  obtain ⟨hsm, hks⟩ := hts
  obtain ⟨p, c, es, rfl, hk, hsl, hkl⟩ := hr.open
  simp only [Ty.k, Ty.ks] at hk hsl hkl ⊢
  have hS := toTypeS_of ks ih hks hsm G p c es hsl hkl
  refine fn_enter Try.func50 rfl Try.ntmps50 Try.results50 rfl ?_
  intro w0
  refine tri_seq ?_
  refine tri_region ?_
  (refine seq_step (step_box_a rfl rfl) rfl ?_; rintro _ ⟨b3, rfl⟩)
  (refine seq_step (step_alloc rfl) rfl ?_; rintro _ ⟨b4, rfl⟩)
  refine seq_done ?_
  refine nrm_seq ?_
  refine tri_seq ?_
  refine tri_region ?_
  (refine seq_step (step_alloc rfl) rfl ?_; rintro _ ⟨b9, rfl⟩)
  refine seq_done ?_
  refine nrm_seq ?_
  refine tri_seq ?_
  refine tri_region ?_
  refine seq_pure (pure_fieldAddr0 rfl) rfl rfl ?_
  refine seq_load (load_bs rfl rfl (by repeat (first | exact List.Mem.head _ | apply List.Mem.tail)) (by rfl)) rfl rfl ?_
  refine seq_pure (pure_fieldAddr0 rfl) rfl rfl ?_
  refine seq_store rfl rfl rfl rfl rfl rfl (by repeat (first | exact Sw.here | apply Sw.there)) (by rfl) ?_
  refine seq_done ?_
  refine nrm_seq ?_
  refine tri_seq ?_
  refine tri_region ?_
  refine seq_pure (pure_fieldAddr0 rfl) rfl rfl ?_
  refine seq_load (load_bs rfl rfl (by repeat (first | exact List.Mem.head _ | apply List.Mem.tail)) (by rfl)) rfl rfl ?_
  (refine seq_imm rfl hS rfl rfl (fun v G1 hle1 hh => ?_); obtain ⟨p1, c1, F1, rfl, hs1, hn1⟩ := hh)
  refine seq_pure (pure_fieldAddr0 rfl) rfl rfl ?_
  refine seq_store rfl rfl rfl rfl rfl rfl (by repeat (first | exact Sw.here | apply Sw.there)) (by rfl) ?_
  refine seq_done ?_
  refine nrm_seq ?_
  refine tri_seq ?_
  refine tri_region ?_
  refine seq_load (load_ba rfl rfl (by repeat (first | exact List.Mem.head _ | apply List.Mem.tail)) (by rfl)) rfl rfl ?_
  refine seq_store rfl rfl rfl rfl rfl rfl (by repeat (first | exact Sw.here | apply Sw.there)) (by rfl) ?_
  refine seq_done ?_
  refine nrm_seq ?_
  refine tri_ret ?_
  refine ret_fin1 (res_cell rfl (load_ba rfl rfl (by repeat (first | exact List.Mem.head _ | apply List.Mem.tail)) (by rfl))) ?_
  exact ⟨rfl, _, F1, rfl, hs1.ty hk, hn1⟩
set_option maxRecDepth 100000 in
theorem toTermS_of (ks : List Tm) (ih : ∀ t ∈ ks, ∀ (G : IM) (cells : List Value), t.small → RTm G t cells → Fn Try.prog 18 [.agg ⟨cells⟩] [] G (ToTm t G)) (hks : Tm.smallL ks) (hsm : ks.length ≤ 4294967296)
    (G : IM) (p : Option Addr) (c : Nat) (es : List (List Value)) (hsl : SlE G p ks.length c 9 es) (hkl : RTmL G ks es) :
    Fn Try.prog 51 [.slice p ks.length c] [] G (ToTmS ks G) := by
  have hn := hsl.le
  refine fn_enter Try.func51 rfl Try.ntmps51 Try.results51 rfl ?_
  intro w0
  refine tri_seq ?_
  refine tri_region ?_
  refine seq_pure (pure_assign rfl) rfl rfl ?_
  refine seq_done ?_
  refine nrm_seq ?_
  refine tri_seq ?_
  refine tri_region ?_
  refine seq_pure (pure_move rfl) rfl rfl ?_
  refine seq_pure (pure_len rfl rfl) rfl rfl ?_
  (refine seq_makeBlk rfl rfl rfl (by omega) (by unfold maxLen; omega) rfl (fun bm => ?_))
  refine seq_pure (pure_assign rfl) rfl rfl ?_
  refine seq_done ?_
  refine nrm_seq ?_
  refine tri_seq ?_
  refine tri_seq ?_
  refine tri_region ?_
  refine seq_pure (pure_assign rfl) rfl rfl ?_
  refine seq_done ?_
  refine nrm_seq ?_
  refine tri_block ?_
  (refine tri_loopN (fun (x : Nat × List (List Value) × List Nat × IM) => ⟨[(4, .int .i64 x.1), (3, .slice (some ⟨bm, 0, none⟩) ks.length ks.length), (0, .slice p ks.length c)], [.blk bm (x.2.1.flatten ++ zrep (ks.length - x.1) [.int .i64 0, .string ⟨⟨[]⟩⟩, .int .i64 0, .int .i64 0, .slice none 0 0, .int .i64 0, .slice none 0 0, .int .i64 0, .slice none 0 0])], x.2.2.2⟩) (fun x => x.1 ≤ ks.length ∧ IMle G x.2.2.2 ∧ STmL (Dif x.2.2.2 G) (ks.take x.1) x.2.1 x.2.2.1 ∧ x.2.2.1.Nodup) (fun x => ks.length - x.1) (0, [], [], G) ?_ ?_ ?_)
  · (simp only [flat_snoc]; exact sub_mk (by repeat (first | exact SubE.nil | refine SubE.cons rfl ?_)) (by repeat (first | exact SubH.refl | exact SubH.nil | refine SubH.cons (by repeat (first | exact Pk.here | apply Pk.there)) ?_ | apply SubH.drop)))
  · exact ⟨by simp, IMle.refl _, by simp [STmL], by simp⟩
  · (rintro ⟨i, es', F, Gi⟩ ⟨hi, hle, hst, hnd⟩; simp only [] at hi hle hst hnd ⊢; replace hsl := hsl.mono hle; replace hkl := hkl.mono hle)
    refine tri_seq ?_
    refine tri_seq ?_
    refine tri_region ?_
    refine seq_pure (pure_move rfl) rfl rfl ?_
    refine seq_pure (pure_move rfl) rfl rfl ?_
    refine seq_pure (pure_len rfl rfl) rfl rfl ?_
    refine seq_bool (pure_lss rfl rfl) rfl rfl (fun h31 => ?_) (fun h31 => ?_)
    · refine seq_done ?_
      refine nrm_seq ?_
      refine tri_cond_t rfl ?_
      refine tri_skip ?_
      refine nrm_seq ?_
      refine tri_seq ?_
      refine tri_block ?_
      refine tri_region ?_
      refine seq_pure (pure_move rfl) rfl rfl ?_
      refine seq_pure (pure_move rfl) rfl rfl ?_
      refine seq_pure (pure_move rfl) rfl rfl ?_
      refine seq_pure (pure_move rfl) rfl rfl ?_
      (obtain ⟨b, o, e, rfl, hl, hat, hre, hgb⟩ := hsl.kidTm hkl (i := i) (by omega) (by omega); refine seq_pure (pure_indexAddrN rfl rfl rfl (by omega)) rfl rfl ?_)
      refine seq_load (load_a rfl rfl (hat _) hl) rfl rfl ?_
      (refine seq_imm rfl (ih ks[i] (List.getElem_mem (by omega)) _ _ (Tm.smallL_mem hks _ (List.getElem_mem (by omega))) hre) rfl rfl (fun v G1 hle1 hh => ?_); obtain ⟨cells', F', rfl, hs', hnd'⟩ := hh; have hl9 := hs'.R.len; have hone := hs'.R.one)
      refine seq_pure (pure_indexAddrN rfl rfl rfl (by omega)) rfl rfl ?_
      (refine seq_store rfl rfl rfl hl9 hone rfl (by repeat (first | exact Sw.here | apply Sw.there)) (upd_next (by rw [hst.R.len, List.length_take]; omega) hst.R.all rfl hl9 (by omega)) ?_)
      refine seq_done ?_
      refine nrm_block ?_
      refine nrm_seq ?_
      refine tri_region ?_
      refine seq_pure (pure_move rfl) rfl rfl ?_
      refine seq_pure (pure_add rfl rfl (by omega) (by omega)) rfl rfl ?_
      refine seq_pure (pure_assign rfl) rfl rfl ?_
      refine seq_done ?_
      refine nrm_loopN (i + 1, es' ++ [cells'], F ++ F', G1) ?_ ?_ ?_
      · (simp only [flat_snoc]; exact sub_mk (by repeat (first | exact SubE.nil | refine SubE.cons rfl ?_)) (by repeat (first | exact SubH.refl | exact SubH.nil | refine SubH.cons (by repeat (first | exact Pk.here | apply Pk.there)) ?_ | apply SubH.drop)))
      · exact ⟨by omega, hle.trans hle1, STmL.step hst hnd hle hle1 (by omega) hs' hnd'⟩
      · (show ks.length - (i + 1) < ks.length - i; omega)
    · refine seq_done ?_
      refine nrm_seq ?_
      refine tri_cond_f rfl ?_
      refine tri_exit ?_
      refine ext_seq ?_
      refine ext_loopN ?_
      refine ext_block_eq ?_
      refine nrm_seq ?_
      refine tri_seq ?_
      refine tri_region ?_
      refine seq_pure (pure_move rfl) rfl rfl ?_
      refine seq_pure (pure_assign rfl) rfl rfl ?_
      refine seq_done ?_
      refine nrm_seq ?_
      (obtain rfl : i = ks.length := (by omega); rw [zrep_self]; refine tri_freezes (bs := [(bm, es'.flatten)]) (List.Perm.refl _) (fun hn2 hd2 hle2 => ?_))
      refine tri_ret ?_
      refine ret_fin1 (res_tmp rfl) ?_
      (rw [List.take_length] at hst; obtain ⟨F2, hf1, hf2⟩ := STmS.fin hst hnd hle hle2 (sl_wi (by rw [flat_len hst.R.all, hst.R.len]) (by unfold maxLen; omega)) (wi_no hd2); exact ⟨rfl, _, _, F2, rfl, hf1, hf2⟩)
set_option maxRecDepth 100000 in
theorem toTerm_fn : ∀ (t : Tm) (G : IM) (cells : List Value), t.small → RTm G t cells → Fn Try.prog 18 [.agg ⟨cells⟩] [] G (ToTm t G) := by
  refine Tm.ind fun k nm num ty fr lb ks ih G cells hts hr => ?_
  have hone := hr.one
  simp only [Tm.small] at hts
  obtain ⟨hnm, hty', hfr', hsm, hks⟩ := hts
  obtain ⟨tk, tks⟩ := ty
  obtain ⟨fk, fks⟩ := fr
  obtain ⟨pt, ct, pf, cf, p, c, es, rfl, hk, hnum, hlb, hty, hfr, hsl, hkl⟩ := hr.open9
  have hT := toType_fn (.mk tk tks) G _ hty' hty
  refine fn_enter Try.func18 rfl Try.ntmps18 Try.results18 rfl ?_
  intro w0
  refine tri_seq ?_
  refine tri_region ?_
  (refine seq_step (step_box_a rfl rfl) rfl ?_; rintro _ ⟨b3, rfl⟩)
  (refine seq_step (step_alloc rfl) rfl ?_; rintro _ ⟨b4, rfl⟩)
  refine seq_done ?_
  refine nrm_seq ?_
  refine tri_seq ?_
  refine tri_region ?_
  (refine seq_step (step_alloc rfl) rfl ?_; rintro _ ⟨b9, rfl⟩)
  refine seq_done ?_
  refine nrm_seq ?_
  refine tri_seq ?_
  refine tri_region ?_
  refine seq_pure (pure_fieldAddr0 rfl) rfl rfl ?_
  refine seq_load (load_bs rfl rfl (by repeat (first | exact List.Mem.head _ | apply List.Mem.tail)) (by rfl)) rfl rfl ?_
  refine seq_pure (pure_fieldAddr0 rfl) rfl rfl ?_
  refine seq_store rfl rfl rfl rfl rfl rfl (by repeat (first | exact Sw.here | apply Sw.there)) (by rfl) ?_
  refine seq_done ?_
  refine nrm_seq ?_
  refine tri_seq ?_
  refine tri_region ?_
  refine seq_pure (pure_fieldAddr0 rfl) rfl rfl ?_
  refine seq_load (load_bs rfl rfl (by repeat (first | exact List.Mem.head _ | apply List.Mem.tail)) (by rfl)) rfl rfl ?_
  refine seq_pure (pure_fieldAddr0 rfl) rfl rfl ?_
  refine seq_store rfl rfl rfl rfl rfl rfl (by repeat (first | exact Sw.here | apply Sw.there)) (by rfl) ?_
  refine seq_done ?_
  refine nrm_seq ?_
  refine tri_seq ?_
  refine tri_region ?_
  refine seq_pure (pure_fieldAddr0 rfl) rfl rfl ?_
  refine seq_load (load_bs rfl rfl (by repeat (first | exact List.Mem.head _ | apply List.Mem.tail)) (by rfl)) rfl rfl ?_
  refine seq_pure (pure_fieldAddr0 rfl) rfl rfl ?_
  refine seq_store rfl rfl rfl rfl rfl rfl (by repeat (first | exact Sw.here | apply Sw.there)) (by rfl) ?_
  refine seq_done ?_
  refine nrm_seq ?_
  refine tri_seq ?_
  refine tri_region ?_
  refine seq_pure (pure_fieldAddr0 rfl) rfl rfl ?_
  refine seq_load (load_ba rfl rfl (by repeat (first | exact List.Mem.head _ | apply List.Mem.tail)) (by rfl)) rfl rfl ?_
  (refine seq_imm rfl hT rfl rfl (fun v G1 hle1 hh => ?_); obtain ⟨cs1, F1, rfl, hs1, hn1⟩ := hh; obtain ⟨p1, c1, rfl, _⟩ := hs1.open; have hF := toType_fn (.mk fk fks) G1 _ hfr' (hfr.mono hle1))
  refine seq_pure (pure_fieldAddr0 rfl) rfl rfl ?_
  refine seq_store rfl rfl rfl rfl rfl rfl (by repeat (first | exact Sw.here | apply Sw.there)) (by rfl) ?_
  refine seq_done ?_
  refine nrm_seq ?_
  refine tri_seq ?_
  refine tri_region ?_
  refine seq_pure (pure_fieldAddr0 rfl) rfl rfl ?_
  refine seq_load (load_ba rfl rfl (by repeat (first | exact List.Mem.head _ | apply List.Mem.tail)) (by rfl)) rfl rfl ?_
  (refine seq_imm rfl hF rfl rfl (fun v G2 hle2 hh => ?_); obtain ⟨cs2, F2, rfl, hs2, hn2⟩ := hh; obtain ⟨p2, c2, rfl, _⟩ := hs2.open; have hS := toTermS_of ks ih hks hsm G2 p c es (hsl.mono (hle1.trans hle2)) (hkl.mono (hle1.trans hle2)))
  refine seq_pure (pure_fieldAddr0 rfl) rfl rfl ?_
  refine seq_store rfl rfl rfl rfl rfl rfl (by repeat (first | exact Sw.here | apply Sw.there)) (by rfl) ?_
  refine seq_done ?_
  refine nrm_seq ?_
  refine tri_seq ?_
  refine tri_region ?_
  refine seq_pure (pure_fieldAddr0 rfl) rfl rfl ?_
  refine seq_load (load_bs rfl rfl (by repeat (first | exact List.Mem.head _ | apply List.Mem.tail)) (by rfl)) rfl rfl ?_
  refine seq_pure (pure_fieldAddr0 rfl) rfl rfl ?_
  refine seq_store rfl rfl rfl rfl rfl rfl (by repeat (first | exact Sw.here | apply Sw.there)) (by rfl) ?_
  refine seq_done ?_
  refine nrm_seq ?_
  refine tri_seq ?_
  refine tri_region ?_
  refine seq_pure (pure_fieldAddr0 rfl) rfl rfl ?_
  refine seq_load (load_bs rfl rfl (by repeat (first | exact List.Mem.head _ | apply List.Mem.tail)) (by rfl)) rfl rfl ?_
  (refine seq_imm rfl hS rfl rfl (fun v G3 hle3 hh => ?_); obtain ⟨p3, c3, F3, rfl, hs3, hn3⟩ := hh)
  refine seq_pure (pure_fieldAddr0 rfl) rfl rfl ?_
  refine seq_store rfl rfl rfl rfl rfl rfl (by repeat (first | exact Sw.here | apply Sw.there)) (by rfl) ?_
  refine seq_done ?_
  refine nrm_seq ?_
  refine tri_seq ?_
  refine tri_region ?_
  refine seq_load (load_ba rfl rfl (by repeat (first | exact List.Mem.head _ | apply List.Mem.tail)) (by rfl)) rfl rfl ?_
  refine seq_store rfl rfl rfl rfl rfl rfl (by repeat (first | exact Sw.here | apply Sw.there)) (by rfl) ?_
  refine seq_done ?_
  refine nrm_seq ?_
  refine tri_ret ?_
  refine ret_fin1 (res_cell rfl (load_ba rfl rfl (by repeat (first | exact List.Mem.head _ | apply List.Mem.tail)) (by rfl))) ?_
  (obtain ⟨F, hf1, hf2⟩ := STm.mk3 (nm := nm) hk hnum hlb hle1 hle2 hle3 hs1 hn1 hs2 hn2 hs3 hn3; exact ⟨rfl, _, F, rfl, hf1, hf2⟩)
end Gw
end Go.Proofs.Ytlefgfdhlblahaa
namespace Go.Proofs.Ytlefgfdhlblahaa
open Go Go.RowKit
namespace Gw
theorem split_full {full cs : List Value} {o : Nat} (h : ∀ j v, cs[j]? = some v → full[o + j]? = some v) (hc : cs ≠ []) : full = full.take o ++ (cs ++ full.drop (o + cs.length)) ∧ (full.take o).length = o := by
  have hpos : 0 < cs.length := List.length_pos_iff.2 hc
  have hl : o + cs.length ≤ full.length := by
    have := h (cs.length - 1) cs[cs.length - 1] (List.getElem?_eq_getElem (by omega))
    have := (List.getElem?_eq_some_iff.1 this).1; omega
  have ho : (full.take o).length = o := by simp; omega
  refine ⟨?_, ho⟩
  apply List.ext_getElem?
  intro i
  rw [List.getElem?_append, ho]
  split
  · rename_i hi; rw [List.getElem?_take, if_pos hi]
  · rename_i hi
    rw [List.getElem?_append]
    split
    · rename_i h2
      have := h (i - o) cs[i - o] (List.getElem?_eq_getElem h2)
      rw [show o + (i - o) = i by omega] at this
      rw [this, List.getElem?_eq_getElem h2]
    · rename_i h2
      rw [List.getElem?_drop, show o + cs.length + (i - o - cs.length) = i by omega]
theorem Sl.blk {G : IM} {p : Option Addr} {n c sz : Nat} {cs : List Value} (h : Sl G p n c sz cs) (hc : cs ≠ []) : ∃ b A C, p = some ⟨b, A.length, none⟩ ∧ G b = some (A ++ (cs ++ C)) := by
  obtain ⟨h1, h2, h3, h4⟩ := h
  have hn : n ≠ 0 := by
    rintro rfl
    simp at h1; exact hc h1
  obtain ⟨b, o, full, rfl, hg, hv⟩ := h4.resolve_left hn
  obtain ⟨e1, e2⟩ := split_full hv hc
  exact ⟨b, full.take o, full.drop (o + cs.length), by rw [e2], by rw [← e1]; exact hg⟩
theorem Sl.of_blk {G : IM} {b n c sz : Nat} {A C cs : List Value} (hl : cs.length = n * sz) (hc : n ≤ c) (hm : c ≤ maxLen) (hg : G b = some (A ++ (cs ++ C))) : Sl G (some ⟨b, A.length, none⟩) n c sz cs := by
  refine ⟨hl, hc, hm, .inr ⟨b, A.length, _, rfl, hg, fun j v hj => ?_⟩⟩
  have hlt : j < cs.length := (List.getElem?_eq_some_iff.1 hj).1
  rw [List.getElem?_append, if_neg (by omega), List.getElem?_append, if_pos (by omega), show A.length + j - A.length = j by omega]
  exact hj
/-- These blocks lie in G, and among F. -/
def InG (G : IM) (bs : Blks) (F : List Nat) : Prop := (bs.map Prod.fst).Sublist F ∧ ∀ q ∈ bs, G q.1 = some q.2
theorem InG.nil (G : IM) (F : List Nat) : InG G [] F := ⟨by simp, by simp⟩
theorem InG.app {G : IM} {a b : Blks} {F F' : List Nat} (h : InG G a F) (h' : InG G b F') : InG G (a ++ b) (F ++ F') := by
  refine ⟨by rw [List.map_append]; exact h.1.append h'.1, fun q hq => ?_⟩
  rcases List.mem_append.1 hq with hq | hq
  · exact h.2 q hq
  · exact h'.2 q hq
theorem InG.wid {G : IM} {b : Blks} {F F' : List Nat} (h : InG G b F') : InG G b (F ++ F') := ⟨h.1.trans (List.sublist_append_right _ _), h.2⟩
mutual
theorem STy.blks {G : IM} : ∀ {t : Ty} {cells : List Value} {F : List Nat}, STy G t cells F → ∃ bs, OTy t cells bs ∧ InG G bs F
  | .mk k ks, cells, F, h => by
    simp only [STy] at h
    obtain ⟨p, c, es, Fs, h1, hk, h2, h3, rfl, h5⟩ := h
    obtain ⟨r, hr1, hr2⟩ := STyL.blks h3
    simp only [OTy]
    have hc := h2.sl.2.1
    have hm := h2.sl.2.2.1
    cases ks with
    | nil => exact ⟨[], ⟨p, c, h1, hk, hc, hm, .inl ⟨rfl, rfl⟩⟩, InG.nil _ _⟩
    | cons t ts =>
      have hne : es.flatten ≠ [] := by
        intro h0
        have hl := h2.sl.1
        rw [h0] at hl; simp at hl
      obtain ⟨b, A, C, rfl, hg⟩ := h2.sl.blk hne
      refine ⟨(b, A ++ (es.flatten ++ C)) :: r, ⟨_, c, h1, hk, hc, hm, .inr ⟨b, A, C, es, r, rfl, rfl, hr1⟩⟩, ?_, ?_⟩
      · simpa [vfp] using hr2.1
      · intro q hq
        rcases List.mem_cons.1 hq with rfl | hq
        · exact hg
        · exact hr2.2 q hq
theorem STyL.blks {G : IM} : ∀ {ts : List Ty} {es : List (List Value)} {F : List Nat}, STyL G ts es F → ∃ bs, OTyL ts es bs ∧ InG G bs F
  | [], es, F, h => by
    simp only [STyL] at h
    exact ⟨[], by simp only [OTyL]; exact ⟨h.1, trivial⟩, InG.nil _ _⟩
  | t :: ts, es, F, h => by
    simp only [STyL] at h
    obtain ⟨a, r, Fa, Fr, rfl, h2, h3, rfl⟩ := h
    obtain ⟨b1, o1, i1⟩ := STy.blks h2
    obtain ⟨b2, o2, i2⟩ := STyL.blks h3
    exact ⟨b1 ++ b2, by simp only [OTyL]; exact ⟨a, r, b1, b2, rfl, rfl, o1, o2⟩, i1.app i2⟩
end
mutual
theorem STm.blks {G : IM} : ∀ {t : Tm} {cells : List Value} {F : List Nat}, STm G t cells F → ∃ bs, OTm t cells bs ∧ InG G bs F
  | .mk k nm num ty fr lb ks, cells, F, h => by
    simp only [STm] at h
    obtain ⟨tc, fc, p, c, es, Ft, Ff, Fs, h1, hk, hn, hl, h5, h6, h2, h3, rfl, h10⟩ := h
    obtain ⟨bt, ot, it⟩ := h5.blks
    obtain ⟨bf, of', if'⟩ := h6.blks
    obtain ⟨r, hr1, hr2⟩ := STmL.blks h3
    simp only [OTm]
    have hc := h2.sl.2.1
    have hm := h2.sl.2.2.1
    cases ks with
    | nil => exact ⟨bt ++ (bf ++ []), ⟨tc, fc, p, c, bt, bf, [], h1, hk, hn, hl, ot, of', hc, hm, .inl ⟨rfl, rfl⟩, rfl⟩, it.app (if'.app (InG.nil _ _))⟩
    | cons t ts =>
      have hne : es.flatten ≠ [] := by
        intro h0
        have hl := h2.sl.1
        rw [h0] at hl; simp at hl
      obtain ⟨b, A, C, rfl, hg⟩ := h2.sl.blk hne
      refine ⟨bt ++ (bf ++ ((b, A ++ (es.flatten ++ C)) :: r)), ⟨tc, fc, _, c, bt, bf, _, h1, hk, hn, hl, ot, of', hc, hm, .inr ⟨b, A, C, es, r, rfl, rfl, hr1⟩, rfl⟩, it.app (if'.app ⟨?_, ?_⟩)⟩
      · simpa [vfp] using hr2.1
      · intro q hq
        rcases List.mem_cons.1 hq with rfl | hq
        · exact hg
        · exact hr2.2 q hq
theorem STmL.blks {G : IM} : ∀ {ts : List Tm} {es : List (List Value)} {F : List Nat}, STmL G ts es F → ∃ bs, OTmL ts es bs ∧ InG G bs F
  | [], es, F, h => by
    simp only [STmL] at h
    exact ⟨[], by simp only [OTmL]; exact ⟨h.1, trivial⟩, InG.nil _ _⟩
  | t :: ts, es, F, h => by
    simp only [STmL] at h
    obtain ⟨a, r, Fa, Fr, rfl, h2, h3, rfl⟩ := h
    obtain ⟨b1, o1, i1⟩ := STm.blks h2
    obtain ⟨b2, o2, i2⟩ := STmL.blks h3
    exact ⟨b1 ++ b2, by simp only [OTmL]; exact ⟨a, r, b1, b2, rfl, rfl, o1, o2⟩, i1.app i2⟩
end
theorem SPs.blks {G : IM} : ∀ {ls : List (List Int)} {es : List Value} {F : List Nat}, SPs G ls es F → ∃ bs, OPs ls es bs ∧ InG G bs F
  | [], es, F, h => ⟨[], ⟨h.1, rfl⟩, InG.nil _ _⟩
  | l :: ls, es, F, ⟨p, c, r, Fr, h1, h2, h3, h4, h5, h6⟩ => by
    obtain ⟨b2, o2, i2⟩ := h6.blks
    have hc := h3.2.1
    have hm := h3.2.2.1
    cases l with
    | nil => exact ⟨[] ++ b2, ⟨p, c, r, [], b2, h1, rfl, ⟨hc, hm, .inl ⟨rfl, rfl⟩⟩, o2⟩, by rw [h2]; exact (InG.nil _ _).app i2⟩
    | cons x xs =>
      obtain ⟨b, A, C, rfl, hg⟩ := h3.blk (by simp [ints])
      exact ⟨[(b, A ++ (ints (x :: xs) ++ C))] ++ b2, ⟨_, c, r, _, b2, h1, rfl, ⟨hc, hm, .inr ⟨b, A, C, rfl, rfl⟩⟩, o2⟩, by rw [h2]; exact InG.app ⟨by simp [vfp], by simpa using hg⟩ i2⟩
theorem OIs.sl {G : IM} {l : List Int} {p : Option Addr} {c : Nat} {bs : Blks} (h : OIs l p c bs) (hg : ∀ q ∈ bs, G q.1 = some q.2) : Sl G p l.length c 1 (ints l) := by
  obtain ⟨hc, hm, h⟩ := h
  rcases h with ⟨rfl, rfl⟩ | ⟨b, A, C, rfl, rfl⟩
  · exact ⟨rfl, hc, hm, .inl rfl⟩
  · exact Sl.of_blk (by rw [ints_len]; omega) hc hm (hg _ List.mem_cons_self)
theorem OPs.q {G : IM} : ∀ {ls : List (List Int)} {es : List Value} {bs : Blks}, OPs ls es bs → (∀ q ∈ bs, G q.1 = some q.2) → QPs G ls es
  | [], es, bs, h, _ => h.1
  | l :: ls, es, bs, ⟨p, c, e', r1, r2, h1, h2, h3, h4⟩, hg => by
    subst h2
    exact ⟨p, c, e', h1, h3.sl fun q hq => hg q (List.mem_append_left _ hq), h4.q fun q hq => hg q (List.mem_append_right _ hq)⟩
mutual
theorem OTy.r {G : IM} : ∀ {t : Ty} {cells : List Value} {bs : Blks}, OTy t cells bs → (∀ q ∈ bs, G q.1 = some q.2) → RTy G t cells
  | .mk k ks, cells, bs, h, hg => by
    simp only [OTy] at h
    obtain ⟨p, c, h1, hk, hc, hm, h⟩ := h
    simp only [RTy]
    rcases h with ⟨rfl, rfl⟩ | ⟨b, A, C, es, r, rfl, rfl, hL⟩
    · exact ⟨p, c, [], h1, hk, SlE.of ⟨rfl, hc, hm, .inl rfl⟩ rfl (by simp) (by simp), by simp [RTyL]⟩
    · have hR := OTyL.r hL fun q hq => hg q (List.mem_cons_of_mem _ hq)
      refine ⟨_, c, es, h1, hk, SlE.of (Sl.of_blk (by rw [flat_len hR.all, hR.len]) hc hm (hg _ List.mem_cons_self)) hR.len hR.all (fun e he => ?_), hR⟩
      obtain ⟨i, hi⟩ := List.getElem?_of_mem he
      exact (hR.inv hi ty0).2.one
theorem OTyL.r {G : IM} : ∀ {ts : List Ty} {es : List (List Value)} {bs : Blks}, OTyL ts es bs → (∀ q ∈ bs, G q.1 = some q.2) → RTyL G ts es
  | [], es, bs, h, _ => by simp only [OTyL] at h; simp only [RTyL]; exact h.1
  | t :: ts, es, bs, h, hg => by
    simp only [OTyL] at h
    obtain ⟨e, e', r1, r2, rfl, rfl, h1, h2⟩ := h
    simp only [RTyL]
    exact ⟨e, e', rfl, OTy.r h1 fun q hq => hg q (List.mem_append_left _ hq), OTyL.r h2 fun q hq => hg q (List.mem_append_right _ hq)⟩
end
mutual
theorem OTm.r {G : IM} : ∀ {t : Tm} {cells : List Value} {bs : Blks}, OTm t cells bs → (∀ q ∈ bs, G q.1 = some q.2) → RTm G t cells
  | .mk k nm num ty fr lb ks, cells, bs, h, hg => by
    simp only [OTm] at h
    obtain ⟨tc, fc, p, c, bt, bf, bk, h1, hk, hn, hl, h5, h6, hc, hm, h, rfl⟩ := h
    simp only [RTm]
    have ht := h5.r fun q hq => hg q (List.mem_append_left _ hq)
    have hf := h6.r fun q hq => hg q (List.mem_append_right _ (List.mem_append_left _ hq))
    rcases h with ⟨rfl, rfl⟩ | ⟨b, A, C, es, r, rfl, rfl, hL⟩
    · exact ⟨tc, fc, p, c, [], h1, hk, hn, hl, ht, hf, SlE.of ⟨rfl, hc, hm, .inl rfl⟩ rfl (by simp) (by simp), by simp [RTmL]⟩
    · have hg' : ∀ q ∈ (b, A ++ (es.flatten ++ C)) :: r, G q.1 = some q.2 := fun q hq => hg q (List.mem_append_right _ (List.mem_append_right _ hq))
      have hR := OTmL.r hL fun q hq => hg' q (List.mem_cons_of_mem _ hq)
      refine ⟨tc, fc, _, c, es, h1, hk, hn, hl, ht, hf, SlE.of (Sl.of_blk (by rw [flat_len hR.all, hR.len]) hc hm (hg' _ List.mem_cons_self)) hR.len hR.all (fun e he => ?_), hR⟩
      obtain ⟨i, hi⟩ := List.getElem?_of_mem he
      exact (hR.inv hi (.mk 0 ⟨#[]⟩ 0 ty0 ty0 0 [])).2.one
theorem OTmL.r {G : IM} : ∀ {ts : List Tm} {es : List (List Value)} {bs : Blks}, OTmL ts es bs → (∀ q ∈ bs, G q.1 = some q.2) → RTmL G ts es
  | [], es, bs, h, _ => by simp only [OTmL] at h; simp only [RTmL]; exact h.1
  | t :: ts, es, bs, h, hg => by
    simp only [OTmL] at h
    obtain ⟨e, e', r1, r2, rfl, rfl, h1, h2⟩ := h
    simp only [RTmL]
    exact ⟨e, e', rfl, OTm.r h1 fun q hq => hg q (List.mem_append_left _ hq), OTmL.r h2 fun q hq => hg q (List.mem_append_right _ hq)⟩
end
theorem OTyS.r {G : IM} {ks : List Ty} {p : Option Addr} {c : Nat} {bs : Blks} (h : OTyS ks p c bs) (hg : ∀ q ∈ bs, G q.1 = some q.2) : ∃ es, SlE G p ks.length c 2 es ∧ RTyL G ks es := by
  have := (h.ty (k := 0) ⟨by omega, by omega⟩).r hg
  simp only [RTy] at this
  obtain ⟨p', c', es, he, _, h1, h2⟩ := this
  simp only [List.cons.injEq, Value.slice.injEq, true_and, and_true] at he
  obtain ⟨rfl, rfl⟩ := he
  exact ⟨es, h1, h2⟩
theorem OTmS.r {G : IM} {ks : List Tm} {p : Option Addr} {c : Nat} {bs : Blks} (h : OTmS ks p c bs) (hg : ∀ q ∈ bs, G q.1 = some q.2) : ∃ es, SlE G p ks.length c 9 es ∧ RTmL G ks es := by
  have hz : OTyS [] none 0 [] := ⟨by simp, by simp, .inl ⟨rfl, rfl⟩⟩
  have hi : I64 0 := ⟨by omega, by omega⟩
  have := (OTm.mk (nm := ⟨#[]⟩) hi hi hi hi hi hz hz h).r (G := G) (by simpa using hg)
  obtain ⟨_, _, _, _, p', c', es, he, _, _, _, _, _, h1, h2⟩ := this.open9
  simp only [List.cons.injEq, Value.slice.injEq, true_and, and_true] at he
  obtain ⟨_, _, rfl, rfl⟩ := he
  exact ⟨es, h1, h2⟩

/- Sizes. -/
mutual
theorem small_ty : ∀ t : Ty, szTy t ≤ 4294967296 → t.small
  | .mk _ ks, h => by
    rw [szTy] at h
    have := sumTy_nn ks
    simp only [Ty.small]
    exact ⟨by omega, small_tyL ks (by omega)⟩
theorem small_tyL : ∀ ts : List Ty, sumTy ts ≤ 4294967296 → Ty.smallL ts
  | [], _ => by simp [Ty.smallL]
  | t :: ts, h => by
    rw [sumTy] at h
    have := szTy_nn t
    have := sumTy_nn ts
    simp only [Ty.smallL]
    exact ⟨small_ty t (by omega), small_tyL ts (by omega)⟩
end
mutual
theorem small_tm : ∀ t : Tm, szTm t ≤ 4294967296 → t.small
  | .mk _ nm _ ty fr _ ks, h => by
    rw [szTm] at h
    have := sumTm_nn ks
    have := szTy_nn ty
    have := szTy_nn fr
    simp only [Tm.small]
    exact ⟨by omega, small_ty ty (by omega), small_ty fr (by omega), by omega, small_tmL ks (by omega)⟩
theorem small_tmL : ∀ ts : List Tm, sumTm ts ≤ 4294967296 → Tm.smallL ts
  | [], _ => by simp [Tm.smallL]
  | t :: ts, h => by
    rw [sumTm] at h
    have := szTm_nn t
    have := sumTm_nn ts
    simp only [Tm.smallL]
    exact ⟨small_tm t (by omega), small_tmL ts (by omega)⟩
end
mutual
theorem count_sz : ∀ t : Tm, (tmCount t : Int) ≤ szTm t + 1
  | .mk _ nm _ ty fr _ ks => by
    have := count_szL ks
    have := szTy_nn ty
    have := szTy_nn fr
    rw [szTm, tmCount]; omega
theorem count_szL : ∀ ts : List Tm, (tmCountL ts : Int) ≤ ts.length + sumTm ts
  | [] => by rw [sumTm, tmCountL]; simp
  | t :: ts => by
    have := count_sz t
    have := count_szL ts
    rw [sumTm, tmCountL, List.length_cons]; omega
end
mutual
theorem cnt_szTy : ∀ t : Ty, cntTy t = 1 + szTy t
  | .mk _ ks => by
    have := cnt_szTyL ks
    rw [cntTy, szTy]; omega
theorem cnt_szTyL : ∀ ts : List Ty, cntTyL ts = ts.length + sumTy ts
  | [] => by rw [cntTyL, sumTy]; simp
  | t :: ts => by
    have := cnt_szTy t
    have := cnt_szTyL ts
    rw [cntTyL, sumTy, List.length_cons]; omega
end
theorem szTy_eq (t : Ty) : szTy t = t.ks.length + sumTy t.ks := by cases t; rw [szTy]; rfl
mutual
theorem cnt_szTm : ∀ t : Tm, cntTm t ≤ 6 + 6 * szTm t
  | .mk _ nm _ ty fr _ ks => by
    have := cnt_szTmL ks
    have := cnt_szTyL ty.ks
    have := cnt_szTyL fr.ks
    have := szTy_eq ty
    have := szTy_eq fr
    have := szTy_nn ty
    have := szTy_nn fr
    rw [cntTm, szTm]; omega
theorem cnt_szTmL : ∀ ts : List Tm, cntTmL ts ≤ 6 * (ts.length + sumTm ts)
  | [] => by rw [cntTmL, sumTm]; simp
  | t :: ts => by
    have := cnt_szTm t
    have := cnt_szTmL ts
    rw [cntTmL, sumTm, List.length_cons]; omega
end
/-- How many marks a term takes. -/
theorem marks_sz (t : Tm) : cntTyL t.ty.ks + cntTyL t.fr.ks + cntTmL t.ks ≤ 6 * szTm t := by
  have h := cnt_szTm t
  rw [cntTm_eq] at h; omega
mutual
theorem paths_len : ∀ (t : Tm) (path : List Int), ∀ l ∈ mPaths t path, l.length ≤ path.length + tmCount t
  | .mk _ _ _ _ _ _ ks, path, l, h => by
    rw [mPaths] at h
    rw [tmCount]
    rcases List.mem_cons.1 h with rfl | h
    · omega
    · have := pathsL_len ks 0 path l h; omega
theorem pathsL_len : ∀ (ts : List Tm) (i : Nat) (path : List Int), ∀ l ∈ mPathsL ts i path, l.length ≤ path.length + 1 + tmCountL ts
  | [], i, path, l, h => by rw [mPathsL] at h; cases h
  | t :: ts, i, path, l, h => by
    rw [mPathsL] at h
    rw [tmCountL]
    rcases List.mem_append.1 h with h | h
    · have := paths_len t _ l h
      simp at this; omega
    · have := pathsL_len ts (i + 1) path l h; omega
end
theorem cntIs_le : ∀ (ls : List (List Int)) (m : Nat), (∀ l ∈ ls, l.length ≤ m) → cntIs ls ≤ ls.length * m
  | [], m, _ => by rw [cntIs]; simp
  | l :: ls, m, h => by
    have h1 := h l List.mem_cons_self
    have h2 := cntIs_le ls m fun x hx => h x (List.mem_cons_of_mem _ hx)
    rw [cntIs, List.length_cons]
    have : ((ls.length + 1 : Nat) : Int) * (m : Int) = (ls.length : Int) * m + m := by
      rw [Int.natCast_add, Int.add_mul]; simp
    omega
theorem mAll_cnt (t : Tm) : cntIs (mAll t) ≤ 1000000 := by
  unfold mAll
  split
  · rename_i h
    have hc := castValid_count h
    have h1 := cntIs_le (mPaths t []) 200 (fun l hl => by have := paths_len t [] l hl; simp at this; omega)
    rw [mPaths_len] at h1
    omega
  · rw [cntIs]; omega
end Gw
end Go.Proofs.Ytlefgfdhlblahaa
