/-
  The laws' marking of terms.
-/
import Derived.Test.YtlefgfdhlblahaaMarkTy
namespace Go.Proofs.Ytlefgfdhlblahaa
open Go Go.RowKit
namespace Gw
theorem upd_el2 {A : List Value} {D : List (List Value)} {e e' R vs : List Value} {i sz o1 o2 : Nat} (hD : D.length = i) (ha : ∀ x ∈ D, x.length = sz) (he : upd e (o1 + o2) vs = some e') :
    upd (A ++ (D.flatten ++ (e ++ R))) (A.length + i * sz + o1 + o2) vs = some (A ++ (D.flatten ++ (e' ++ R))) := by rw [Nat.add_assoc]; exact upd_el hD ha he
theorem at_el2 {hp : List Ent} {G : IM} {b : Nat} {A : List Value} {D : List (List Value)} {e R : List Value} {i sz o1 o2 : Nat} {v : Value} (hm : Ent.blk b (A ++ (D.flatten ++ (e ++ R))) ∈ hp) (hD : D.length = i) (ha : ∀ x ∈ D, x.length = sz) (he : e[o1 + o2]? = some v) :
    At hp G b (A.length + i * sz + o1 + o2) [v] := by rw [Nat.add_assoc]; exact at_el hm hD ha he
theorem OTm.mkm {k : Int} {nm : ByteArray} {num tk fk lb ka kb kd : Int} {a d : List Ty} {ks : List Tm} {pt pf p : Option Addr} {ct cf c : Nat} {bt bf bk : Blks} (ht : OTyS (mkTyL a ka) pt ct bt) (hf : OTyS (mkTyL d kb) pf cf bf) (h : OTmS (mkTmL ks kd) p c bk)
    (hk : I64 k) (hn : I64 num) (htk : I64 tk) (hfk : I64 fk) (hlb : I64 lb) :
    OTm (.mk k nm num (.mk tk (mkTyL a ka)) (.mk fk (mkTyL d kb)) lb (mkTmL ks kd)) [.int .i64 k, .string nm, .int .i64 num, .int .i64 tk, .slice pt a.length ct, .int .i64 fk, .slice pf d.length cf, .int .i64 lb, .slice p ks.length c] (bt ++ (bf ++ bk)) := by
  have := OTm.mk (nm := nm) hk hn htk hfk hlb ht hf h
  rwa [mkTyL_len a, mkTyL_len d, mkTmL_len] at this
theorem OTmL.drop {ks : List Tm} {i : Nat} {T : List (List Value)} {r : Blks} (hi : i < ks.length) (h : OTmL (ks.drop i) T r) : ∃ pt ct pf cf p c e' bt bf bk r2,
    T = [.int .i64 ks[i].k, .string ks[i].nm, .int .i64 ks[i].num, .int .i64 ks[i].ty.k, .slice pt ks[i].ty.ks.length ct, .int .i64 ks[i].fr.k, .slice pf ks[i].fr.ks.length cf, .int .i64 ks[i].lb, .slice p ks[i].ks.length c] :: e' ∧
    r = (bt ++ (bf ++ bk)) ++ r2 ∧ OTyS ks[i].ty.ks pt ct bt ∧ OTyS ks[i].fr.ks pf cf bf ∧ OTmS ks[i].ks p c bk ∧ OTmL (ks.drop (i + 1)) e' r2 := by
  rw [List.drop_eq_getElem_cons hi] at h
  obtain ⟨e, e', r1, r2, rfl, rfl, h1, h2⟩ := h.cons
  obtain ⟨pt, ct, pf, cf, p, c, bt, bf, bk, rfl, h3, h4, h5, rfl⟩ := h1.open
  exact ⟨pt, ct, pf, cf, p, c, e', bt, bf, bk, r2, rfl, rfl, h3, h4, h5, h2⟩
theorem OTmL.fin {ks : List Tm} {T : List (List Value)} {r : Blks} (h : OTmL (ks.drop ks.length) T r) : T = [] ∧ r = [] := by
  rw [List.drop_length] at h; simpa only [OTmL] using h
theorem OTmL.done {ks : List Tm} {k : Int} {c : Nat} {b : Nat} {A C : List Value} {D T : List (List Value)} {r0 r1 : Blks} (hc : ks.length ≤ c) (hm : c ≤ maxLen) (hD : OTmL (mkTmL (ks.take ks.length) k) D r0) (hT : OTmL (ks.drop ks.length) T r1) :
    ∃ bs', (Ent.blk b (A ++ (D.flatten ++ (T.flatten ++ C))) :: blks (r0 ++ r1)) = blks bs' ∧ OTmS (mkTmL ks k) (some ⟨b, A.length, none⟩) c bs' := by
  obtain ⟨rfl, rfl⟩ := hT.fin
  rw [List.take_length] at hD
  exact ⟨(b, A ++ (D.flatten ++ C)) :: r0, by simp [blks], by rw [mkTmL_len]; exact hc, hm, .inr ⟨b, A, C, D, r0, rfl, rfl, hD⟩⟩
theorem triL_hp {P : Program} {Γ : Ctx} {env : Env} {hp hp' : List Ent} {G : IM} {K : Po} {ops : Array Oper} {rest : List Oper} (e : hp = hp') (k : TriL P Γ ops rest K ⟨env, hp', G⟩) : TriL P Γ ops rest K ⟨env, hp, G⟩ := by rw [e]; exact k
theorem markText_int (k : Int) (h0 : 0 < k) (hk : k < 1000000000000000000) (G : IM) : Fn Try.prog 85 [.int .i64 k] [] G (Val (.string (mText k.toNat)) G) := by
  have h := markText_fn k.toNat (by omega) (by omega) G
  rwa [show ((k.toNat : Nat) : Int) = k by omega] at h
set_option maxHeartbeats 0 in
set_option maxRecDepth 100000 in
theorem markTermS_fn : ∀ (t : Tm) (k : Int) (G : IM) (p : Option Addr) (c : Nat) (bs : Blks), OTmS t.ks p c bs → 0 < k → k + cntTmL t.ks ≤ 1099511627776 →
    Fn Try.prog 55 [.slice p t.ks.length c, .int .i64 k] (blks bs) G (Lent (.int .i64 (k + cntTmL t.ks)) G (OTmS (mkTmL t.ks k) p c)) := by
  refine Tm.ind fun k0 nm0 num0 ty0 fr0 lb0 ks ih k G p c bs ho hk hb => ?_
  simp only [Tm.ks] at ho hb ⊢
  obtain ⟨hc, hm, h⟩ := ho
  rcases h with ⟨rfl, rfl⟩ | ⟨b, A, C, es, r, rfl, rfl, hL⟩
  · refine fn_enter Try.func55 rfl Try.ntmps55 Try.results55 rfl ?_
    intro w0
    refine tri_seq ?_
    refine tri_region ?_
    refine seq_pure (pure_assign rfl) rfl rfl ?_
    refine seq_done ?_
    refine nrm_seq ?_
    refine tri_seq ?_
    refine tri_seq ?_
    refine tri_region ?_
    refine seq_pure (pure_assign rfl) rfl rfl ?_
    refine seq_done ?_
    refine nrm_seq ?_
    refine tri_block ?_
    refine tri_loopN (fun (_ : Unit) => ⟨[(5, .int .i64 0), (1, .int .i64 k), (0, .slice p 0 c)], [], G⟩) (fun _ => True) (fun _ => 0) () ?_ ?_ ?_
    · exact sub_mk (by repeat (first | exact SubE.nil | refine SubE.cons rfl ?_)) (by repeat (first | exact SubH.refl | exact SubH.nil | refine SubH.cons (by repeat (first | exact Pk.here | apply Pk.there)) ?_ | apply SubH.drop))
    · trivial
    · (rintro _ _)
      refine tri_seq ?_
      refine tri_seq ?_
      refine tri_region ?_
      refine seq_pure (pure_move rfl) rfl rfl ?_
      refine seq_pure (pure_move rfl) rfl rfl ?_
      refine seq_pure (pure_len rfl rfl) rfl rfl ?_
      refine seq_pure (pure_lss_f rfl rfl (by omega)) rfl rfl ?_
      refine seq_done ?_
      refine nrm_seq ?_
      refine tri_cond_f rfl ?_
      refine tri_exit ?_
      refine ext_seq ?_
      refine ext_loopN ?_
      refine ext_block_eq ?_
      refine nrm_seq ?_
      refine tri_seq ?_
      refine tri_region ?_
      refine seq_pure (pure_move rfl) rfl rfl ?_
      refine seq_pure (pure_assign rfl) rfl rfl ?_
      refine seq_done ?_
      refine nrm_seq ?_
      refine tri_ret ?_
      refine ret_own1 (res_tmp rfl) SubH.refl ?_
      exact ⟨rfl, by rw [cntTmL, Int.add_zero], [], rfl, ⟨hc, hm, .inl ⟨rfl, rfl⟩⟩⟩
  · have hcm := hm
    unfold maxLen at hcm
    have hn : ks.length ≤ 9223372036854775807 := by omega
    refine fn_enter (ins := .blk b (A ++ (es.flatten ++ C)) :: blks r) Try.func55 rfl Try.ntmps55 Try.results55 rfl ?_
    intro w0
    refine tri_seq ?_
    refine tri_region ?_
    refine seq_pure (pure_assign rfl) rfl rfl ?_
    refine seq_done ?_
    refine nrm_seq ?_
    refine tri_seq ?_
    refine tri_seq ?_
    refine tri_region ?_
    refine seq_pure (pure_assign rfl) rfl rfl ?_
    refine seq_done ?_
    refine nrm_seq ?_
    refine tri_block ?_
    refine tri_loopN (fun (x : Nat × Int × List (List Value) × List (List Value) × Blks × Blks) => ⟨[(5, .int .i64 x.1), (1, .int .i64 x.2.1), (0, .slice (some ⟨b, A.length, none⟩) ks.length c)], .blk b (A ++ (x.2.2.1.flatten ++ (x.2.2.2.1.flatten ++ C))) :: blks (x.2.2.2.2.1 ++ x.2.2.2.2.2), G⟩) (fun x => x.1 ≤ ks.length ∧ x.2.1 = k + cntTmL (ks.take x.1) ∧ OTmL (mkTmL (ks.take x.1) k) x.2.2.1 x.2.2.2.2.1 ∧ OTmL (ks.drop x.1) x.2.2.2.1 x.2.2.2.2.2) (fun x => ks.length - x.1) (0, k, [], es, [], r) ?_ ?_ ?_
    · (simp only [flat_snoc]; exact sub_mk (by repeat (first | exact SubE.nil | refine SubE.cons rfl ?_)) (by repeat (first | exact SubH.refl | exact SubH.nil | refine SubH.cons (by repeat (first | exact Pk.here | apply Pk.there)) ?_ | apply SubH.drop)))
    · exact ⟨by simp, by simp [cntTmL], by simp [OTmL, mkTmL], by simpa using hL⟩
    · (rintro ⟨i, kk, D, T, r0, r1⟩ ⟨hi, hkk, hD, hT⟩; simp only [] at hi hkk hD hT ⊢; have hDl : D.length = i := (by rw [hD.len, mkTmL_len, List.length_take]; omega); have hall := hD.all; have hnn := cntTmL_nn (ks.take i); have htk := cntTmL_take ks i)
      refine tri_seq ?_
      refine tri_seq ?_
      refine tri_region ?_
      refine seq_pure (pure_move rfl) rfl rfl ?_
      refine seq_pure (pure_move rfl) rfl rfl ?_
      refine seq_pure (pure_len rfl rfl) rfl rfl ?_
      refine seq_bool (pure_lss rfl rfl) rfl rfl (fun h23 => ?_) (fun h23 => ?_)
      · refine seq_done ?_
        refine nrm_seq ?_
        refine tri_cond_t rfl ?_
        refine tri_skip ?_
        refine nrm_seq ?_
        refine tri_seq ?_
        refine tri_block ?_
        refine tri_seq ?_
        refine tri_region ?_
        refine seq_pure (pure_move rfl) rfl rfl ?_
        refine seq_pure (pure_move rfl) rfl rfl ?_
        refine seq_pure (pure_move rfl) rfl rfl ?_
        refine seq_pure (pure_indexAddrN rfl rfl rfl (by omega)) rfl rfl ?_
        refine seq_pure (pure_fieldAddr rfl) rfl rfl ?_
        (obtain ⟨pt3, ct3, pf3, cf3, p3, c3, T', bt, bf, bk, r1b, rfl, rfl, hot, hof, hos, hT'⟩ := hT.drop (by omega); have hsu := cntTmL_succ (ks := ks) (i := i) (by omega); have hta := cntTmL_take ks (i + 1); have hce := cntTm_eq ks[i]; have hn1 := cntTyL_nn ks[i].ty.ks; have hn2 := cntTyL_nn ks[i].fr.ks; have hn3 := cntTmL_nn ks[i].ks; rw [List.flatten_cons, List.append_assoc]; refine seq_store rfl rfl rfl rfl rfl rfl Sw.here (upd_el hDl hall rfl) ?_)
        refine seq_done ?_
        refine nrm_seq ?_
        refine tri_seq ?_
        refine tri_region ?_
        refine seq_pure (pure_move rfl) rfl rfl ?_
        refine seq_pure (pure_add rfl rfl (by omega) (by omega)) rfl rfl ?_
        refine seq_pure (pure_assign rfl) rfl rfl ?_
        refine seq_done ?_
        refine nrm_seq ?_
        refine tri_seq ?_
        refine tri_region ?_
        refine seq_pure (pure_move rfl) rfl rfl ?_
        refine seq_pure (pure_move rfl) rfl rfl ?_
        refine seq_pure (pure_move rfl) rfl rfl ?_
        refine seq_val rfl (markText_int _ (by omega) (by omega) _) rfl rfl ?_
        refine seq_pure (pure_indexAddrN rfl rfl rfl (by omega)) rfl rfl ?_
        refine seq_pure (pure_fieldAddr rfl) rfl rfl ?_
        refine seq_store rfl rfl rfl rfl rfl rfl Sw.here (upd_el hDl hall rfl) ?_
        refine seq_done ?_
        refine nrm_seq ?_
        refine tri_seq ?_
        refine tri_region ?_
        refine seq_pure (pure_move rfl) rfl rfl ?_
        refine seq_pure (pure_add rfl rfl (by omega) (by omega)) rfl rfl ?_
        refine seq_pure (pure_assign rfl) rfl rfl ?_
        refine seq_done ?_
        refine nrm_seq ?_
        refine tri_seq ?_
        refine tri_region ?_
        refine seq_pure (pure_move rfl) rfl rfl ?_
        refine seq_pure (pure_move rfl) rfl rfl ?_
        refine seq_pure (pure_move rfl) rfl rfl ?_
        refine seq_pure (pure_indexAddrN rfl rfl rfl (by omega)) rfl rfl ?_
        refine seq_pure (pure_fieldAddr rfl) rfl rfl ?_
        refine seq_store rfl rfl rfl rfl rfl rfl Sw.here (upd_el hDl hall rfl) ?_
        refine seq_done ?_
        refine nrm_seq ?_
        refine tri_seq ?_
        refine tri_region ?_
        refine seq_pure (pure_move rfl) rfl rfl ?_
        refine seq_pure (pure_add rfl rfl (by omega) (by omega)) rfl rfl ?_
        refine seq_pure (pure_assign rfl) rfl rfl ?_
        refine seq_done ?_
        refine nrm_seq ?_
        refine tri_seq ?_
        refine tri_region ?_
        refine seq_pure (pure_move rfl) rfl rfl ?_
        refine seq_pure (pure_move rfl) rfl rfl ?_
        refine seq_pure (pure_move rfl) rfl rfl ?_
        refine seq_pure (pure_indexAddrN rfl rfl rfl (by omega)) rfl rfl ?_
        refine seq_pure (pure_fieldAddr rfl) rfl rfl ?_
        refine seq_pure (pure_fieldAddr rfl) rfl rfl ?_
        refine seq_store rfl rfl rfl rfl rfl rfl Sw.here (upd_el hDl hall rfl) ?_
        refine seq_done ?_
        refine nrm_seq ?_
        refine tri_seq ?_
        refine tri_region ?_
        refine seq_pure (pure_move rfl) rfl rfl ?_
        refine seq_pure (pure_add rfl rfl (by omega) (by omega)) rfl rfl ?_
        refine seq_pure (pure_assign rfl) rfl rfl ?_
        refine seq_done ?_
        refine nrm_seq ?_
        refine tri_seq ?_
        refine tri_region ?_
        refine seq_pure (pure_move rfl) rfl rfl ?_
        refine seq_pure (pure_move rfl) rfl rfl ?_
        refine seq_pure (pure_indexAddrN rfl rfl rfl (by omega)) rfl rfl ?_
        refine seq_pure (pure_fieldAddr rfl) rfl rfl ?_
        refine seq_pure (pure_fieldAddr rfl) rfl rfl ?_
        refine seq_load (load_s rfl rfl (at_el2 (List.Mem.head _) hDl hall rfl)) rfl rfl ?_
        refine seq_pure (pure_move rfl) rfl rfl ?_
        (refine seq_lend (r0 := r0) (r1 := bt) (r2 := bf ++ (bk ++ r1b)) rfl (markTypeS_fn ks[i].ty (kk + 1 + 1 + 1 + 1) G pt3 ct3 bt hot (by omega) (by omega)) (by simp) rfl rfl (fun bt' hbt => ?_))
        refine seq_pure (pure_assign rfl) rfl rfl ?_
        refine seq_done ?_
        refine nrm_seq ?_
        refine tri_seq ?_
        refine tri_region ?_
        refine seq_pure (pure_move rfl) rfl rfl ?_
        refine seq_pure (pure_move rfl) rfl rfl ?_
        refine seq_pure (pure_move rfl) rfl rfl ?_
        refine seq_pure (pure_indexAddrN rfl rfl rfl (by omega)) rfl rfl ?_
        refine seq_pure (pure_fieldAddr rfl) rfl rfl ?_
        refine seq_pure (pure_fieldAddr rfl) rfl rfl ?_
        refine seq_store rfl rfl rfl rfl rfl rfl Sw.here (upd_el hDl hall rfl) ?_
        refine seq_done ?_
        refine nrm_seq ?_
        refine tri_seq ?_
        refine tri_region ?_
        refine seq_pure (pure_move rfl) rfl rfl ?_
        refine seq_pure (pure_add rfl rfl (by omega) (by omega)) rfl rfl ?_
        refine seq_pure (pure_assign rfl) rfl rfl ?_
        refine seq_done ?_
        refine nrm_seq ?_
        refine tri_seq ?_
        refine tri_region ?_
        refine seq_pure (pure_move rfl) rfl rfl ?_
        refine seq_pure (pure_move rfl) rfl rfl ?_
        refine seq_pure (pure_indexAddrN rfl rfl rfl (by omega)) rfl rfl ?_
        refine seq_pure (pure_fieldAddr rfl) rfl rfl ?_
        refine seq_pure (pure_fieldAddr rfl) rfl rfl ?_
        refine seq_load (load_s rfl rfl (at_el2 (List.Mem.head _) hDl hall rfl)) rfl rfl ?_
        refine seq_pure (pure_move rfl) rfl rfl ?_
        (refine seq_lend (r0 := r0 ++ bt') (r1 := bf) (r2 := bk ++ r1b) rfl (markTypeS_fn ks[i].fr (kk + 1 + 1 + 1 + 1 + cntTyL ks[i].ty.ks + 1) G pf3 cf3 bf hof (by omega) (by omega)) (by simp) rfl rfl (fun bf' hbf => ?_))
        refine seq_pure (pure_assign rfl) rfl rfl ?_
        refine seq_done ?_
        refine nrm_seq ?_
        refine tri_seq ?_
        refine tri_region ?_
        refine seq_pure (pure_move rfl) rfl rfl ?_
        refine seq_pure (pure_move rfl) rfl rfl ?_
        refine seq_pure (pure_move rfl) rfl rfl ?_
        refine seq_pure (pure_indexAddrN rfl rfl rfl (by omega)) rfl rfl ?_
        refine seq_pure (pure_fieldAddr rfl) rfl rfl ?_
        refine seq_store rfl rfl rfl rfl rfl rfl Sw.here (upd_el hDl hall rfl) ?_
        refine seq_done ?_
        refine nrm_seq ?_
        refine tri_seq ?_
        refine tri_region ?_
        refine seq_pure (pure_move rfl) rfl rfl ?_
        refine seq_pure (pure_add rfl rfl (by omega) (by omega)) rfl rfl ?_
        refine seq_pure (pure_assign rfl) rfl rfl ?_
        refine seq_done ?_
        refine nrm_seq ?_
        refine tri_region ?_
        refine seq_pure (pure_move rfl) rfl rfl ?_
        refine seq_pure (pure_move rfl) rfl rfl ?_
        refine seq_pure (pure_indexAddrN rfl rfl rfl (by omega)) rfl rfl ?_
        refine seq_pure (pure_fieldAddr rfl) rfl rfl ?_
        refine seq_load (load_s rfl rfl (at_el (List.Mem.head _) hDl hall rfl)) rfl rfl ?_
        refine seq_pure (pure_move rfl) rfl rfl ?_
        (refine seq_lend (r0 := r0 ++ bt' ++ bf') (r1 := bk) (r2 := r1b) rfl (ih ks[i] (List.getElem_mem (by omega)) (kk + 1 + 1 + 1 + 1 + cntTyL ks[i].ty.ks + 1 + cntTyL ks[i].fr.ks + 1) G p3 c3 bk hos (by omega) (by omega)) (by simp) rfl rfl (fun bk' hbk => ?_); refine triL_hp (hp' := .blk b (A ++ ((D ++ [([.int .i64 kk, .string (mText (kk + 1).toNat), .int .i64 (kk + 1 + 1), .int .i64 (kk + 1 + 1 + 1), .slice pt3 ks[i].ty.ks.length ct3, .int .i64 (kk + 1 + 1 + 1 + 1 + cntTyL ks[i].ty.ks), .slice pf3 ks[i].fr.ks.length cf3, .int .i64 (kk + 1 + 1 + 1 + 1 + cntTyL ks[i].ty.ks + 1 + cntTyL ks[i].fr.ks), .slice p3 ks[i].ks.length c3] : List Value)]).flatten ++ (T'.flatten ++ C))) :: blks ((r0 ++ (bt' ++ (bf' ++ bk'))) ++ r1b)) (by simp) ?_)
        refine seq_pure (pure_assign rfl) rfl rfl ?_
        refine seq_done ?_
        refine nrm_block ?_
        refine nrm_seq ?_
        refine tri_region ?_
        refine seq_pure (pure_move rfl) rfl rfl ?_
        refine seq_pure (pure_add rfl rfl (by omega) (by omega)) rfl rfl ?_
        refine seq_pure (pure_assign rfl) rfl rfl ?_
        refine seq_done ?_
        (refine nrm_loopN (i + 1, kk + 1 + 1 + 1 + 1 + cntTyL ks[i].ty.ks + 1 + cntTyL ks[i].fr.ks + 1 + cntTmL ks[i].ks, D ++ [[.int .i64 kk, .string (mText (kk + 1).toNat), .int .i64 (kk + 1 + 1), .int .i64 (kk + 1 + 1 + 1), .slice pt3 ks[i].ty.ks.length ct3, .int .i64 (kk + 1 + 1 + 1 + 1 + cntTyL ks[i].ty.ks), .slice pf3 ks[i].fr.ks.length cf3, .int .i64 (kk + 1 + 1 + 1 + 1 + cntTyL ks[i].ty.ks + 1 + cntTyL ks[i].fr.ks), .slice p3 ks[i].ks.length c3]], T', r0 ++ (bt' ++ (bf' ++ bk')), r1b) ?_ ?_ ?_)
        · (simp only [flat_snoc]; exact sub_mk (by repeat (first | exact SubE.nil | refine SubE.cons rfl ?_)) (by repeat (first | exact SubH.refl | exact SubH.nil | refine SubH.cons (by repeat (first | exact Pk.here | apply Pk.there)) ?_ | apply SubH.drop)))
        · (dsimp only; exact ⟨by omega, by omega, by rw [mkTmL_take (by omega), mkTm_eq, ← hkk]; exact hD.snoc (OTm.mkm hbt hbf hbk ⟨by omega, by omega⟩ ⟨by omega, by omega⟩ ⟨by omega, by omega⟩ ⟨by omega, by omega⟩ ⟨by omega, by omega⟩), hT'⟩)
        · (show ks.length - (i + 1) < ks.length - i; omega)
      · refine seq_done ?_
        refine nrm_seq ?_
        refine tri_cond_f rfl ?_
        refine tri_exit ?_
        refine ext_seq ?_
        refine ext_loopN ?_
        refine ext_block_eq ?_
        refine nrm_seq ?_
        refine tri_seq ?_
        refine tri_region ?_
        refine seq_pure (pure_move rfl) rfl rfl ?_
        refine seq_pure (pure_assign rfl) rfl rfl ?_
        refine seq_done ?_
        refine nrm_seq ?_
        refine tri_ret ?_
        (obtain rfl : i = ks.length := (by omega); refine ret_own1 (res_tmp rfl) SubH.refl ?_)
        exact ⟨rfl, by rw [hkk, List.take_length], OTmL.done hc hm hD hT⟩
end Gw
end Go.Proofs.Ytlefgfdhlblahaa
