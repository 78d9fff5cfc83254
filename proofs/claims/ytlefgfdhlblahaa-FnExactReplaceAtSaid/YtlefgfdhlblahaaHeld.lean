/-
  The laws' reading of marks in types and terms.
-/
import Derived.Test.YtlefgfdhlblahaaBlk
namespace Go.Proofs.Ytlefgfdhlblahaa
open Go Go.RowKit
namespace Gw
theorem At.sub {hp : List Ent} {G : IM} {b o j : Nat} {vs : List Value} {v : Value} (h : At hp G b o vs) (hj : vs[j]? = some v) : At hp G b (o + j) [v] := by
  have key : ∀ {cs : List Value}, (∀ i u, vs[i]? = some u → cs[o + i]? = some u) → ∀ i u, [v][i]? = some u → cs[o + j + i]? = some u := by
    intro cs hc i u hu
    cases i with
    | zero => simp at hu; subst hu; simpa using hc j v hj
    | succ i => simp at hu
  rcases h with ⟨cs, hm, hv⟩ | ⟨n, c, el, sz, cs, hm, hv⟩ | ⟨full, hg, hv⟩
  · exact .inl ⟨cs, hm, key hv⟩
  · exact .inr (.inl ⟨n, c, el, sz, cs, hm, key hv⟩)
  · exact .inr (.inr ⟨full, hg, key hv⟩)
theorem At.sub2 {hp : List Ent} {G : IM} {b o j j' : Nat} {vs : List Value} {v : Value} (h : At hp G b o vs) (hj : vs[j + j']? = some v) : At hp G b (o + j + j') [v] := by
  rw [Nat.add_assoc]; exact h.sub hj
theorem mkTyL_get : ∀ (ks : List Ty) (k : Int) (i : Nat) (hi : i < ks.length), (mkTyL ks k)[i]? = some (mkTy ks[i] (k + cntTyL (ks.take i)))
  | [], k, i, hi => by simp at hi
  | t :: ts, k, 0, hi => by simp [mkTyL, cntTyL]
  | t :: ts, k, i + 1, hi => by
    have := mkTyL_get ts (k + cntTy t) i (by simpa using hi)
    simp only [mkTyL, List.getElem?_cons_succ, this, List.getElem_cons_succ, List.take_succ_cons, cntTyL]
    rw [Int.add_assoc]
theorem mkTmL_get : ∀ (ks : List Tm) (k : Int) (i : Nat) (hi : i < ks.length), (mkTmL ks k)[i]? = some (mkTm ks[i] (k + cntTmL (ks.take i)))
  | [], k, i, hi => by simp at hi
  | t :: ts, k, 0, hi => by simp [mkTmL, cntTmL]
  | t :: ts, k, i + 1, hi => by
    have := mkTmL_get ts (k + cntTm t) i (by simpa using hi)
    simp only [mkTmL, List.getElem?_cons_succ, this, List.getElem_cons_succ, List.take_succ_cons, cntTmL]
    rw [Int.add_assoc]
theorem held_ty {G : IM} {p : Option Addr} {c : Nat} {es : List (List Value)} {ks : List Ty} {k : Int} (h : SlE G p ks.length c 2 es) (hk : RTyL G (mkTyL ks k) es) {i : Nat} (hi : i < ks.length) :
    ∃ b o p2 c2 es2, p = some ⟨b, o, none⟩ ∧ (∀ hp, At hp G b (o + i * 2) [.int .i64 (k + cntTyL (ks.take i)), .slice p2 ks[i].ks.length c2]) ∧ SlE G p2 ks[i].ks.length c2 2 es2 ∧ RTyL G (mkTyL ks[i].ks (k + cntTyL (ks.take i) + 1)) es2 ∧ G b ≠ none := by
  obtain ⟨e, he, hr⟩ := hk.get (mkTyL_get ks k i hi)
  obtain ⟨e', b, o, he', hp, hl, _, hat, hg⟩ := h.get hi
  rw [he'] at he; cases he
  rw [mkTy_eq] at hr
  obtain ⟨p2, c2, es2, rfl, _, h2, h3⟩ := hr.open
  simp only [Ty.k, Ty.ks] at h2 h3 hat
  rw [mkTyL_len] at h2 hat
  exact ⟨b, o, p2, c2, es2, hp, hat, h2, h3, hg⟩
theorem held_tm {G : IM} {p : Option Addr} {c : Nat} {es : List (List Value)} {ks : List Tm} {k kk : Int} (h : SlE G p ks.length c 9 es) (hk : RTmL G (mkTmL ks k) es) {i : Nat} (hkk : kk = k + cntTmL (ks.take i)) (hi : i < ks.length) :
    ∃ b o pt ct et pf cf ef p2 c2 es2, p = some ⟨b, o, none⟩ ∧
      (∀ hp, At hp G b (o + i * 9) [.int .i64 kk, .string (mText (kk + 1).toNat), .int .i64 (kk + 1 + 1), .int .i64 (kk + 1 + 1 + 1), .slice pt ks[i].ty.ks.length ct, .int .i64 (kk + 1 + 1 + 1 + 1 + cntTyL ks[i].ty.ks), .slice pf ks[i].fr.ks.length cf, .int .i64 (kk + 1 + 1 + 1 + 1 + cntTyL ks[i].ty.ks + 1 + cntTyL ks[i].fr.ks), .slice p2 ks[i].ks.length c2]) ∧
      SlE G pt ks[i].ty.ks.length ct 2 et ∧ RTyL G (mkTyL ks[i].ty.ks (kk + 1 + 1 + 1 + 1)) et ∧ SlE G pf ks[i].fr.ks.length cf 2 ef ∧ RTyL G (mkTyL ks[i].fr.ks (kk + 1 + 1 + 1 + 1 + cntTyL ks[i].ty.ks + 1)) ef ∧
      SlE G p2 ks[i].ks.length c2 9 es2 ∧ RTmL G (mkTmL ks[i].ks (kk + 1 + 1 + 1 + 1 + cntTyL ks[i].ty.ks + 1 + cntTyL ks[i].fr.ks + 1)) es2 ∧ G b ≠ none := by
  obtain ⟨e, he, hr⟩ := hk.get (mkTmL_get ks k i hi)
  obtain ⟨e', b, o, he', hp, hl, _, hat, hg⟩ := h.get hi
  rw [he'] at he; cases he
  rw [mkTm_eq, ← hkk] at hr
  obtain ⟨pt, ct, et, pf, cf, ef, p2, c2, es2, rfl, _, _, _, ⟨_, h2, h3⟩, ⟨_, h4, h5⟩, h6, h7⟩ := hr.open
  simp only [Tm.k, Tm.nm, Tm.num, Tm.ty, Tm.fr, Tm.lb, Tm.ks, Ty.k, Ty.ks] at h2 h3 h4 h5 h6 h7 hat
  rw [mkTyL_len] at h2 h4
  rw [mkTmL_len] at h6
  rw [mkTyL_len, mkTyL_len, mkTmL_len] at hat
  exact ⟨b, o, pt, ct, et, pf, cf, ef, p2, c2, es2, hp, hat, h2, h3, h4, h5, h6, h7, hg⟩
set_option maxHeartbeats 0 in
set_option maxRecDepth 100000 in
theorem heldTypeS_fn : ∀ (t : Ty) (k : Int) (G : IM) (p : Option Addr) (c : Nat) (es : List (List Value)), SlE G p t.ks.length c 2 es → RTyL G (mkTyL t.ks k) es → 0 < k → k + cntTyL t.ks ≤ 1099511627776 →
    Fn Try.prog 89 [.slice p t.ks.length c, .int .i64 k] [] G (Val (.int .i64 (k + cntTyL t.ks)) G) := by
  refine Ty.ind fun k0 ks ih k G p c es hsl hkl hk hb => ?_
  simp only [Ty.ks] at hsl hkl hb ⊢
  have hn := hsl.le
  refine fn_enter Try.func89 rfl Try.ntmps89 Try.results89 rfl ?_
  intro w0
  refine tri_seq ?_
  refine tri_region ?_
  refine seq_pure (pure_assign rfl) rfl rfl ?_
  refine seq_done ?_
  refine nrm_seq ?_
  refine tri_seq ?_
  refine tri_seq ?_
  refine tri_region ?_
  refine seq_pure (pure_assign rfl) rfl rfl ?_
  refine seq_done ?_
  refine nrm_seq ?_
  refine tri_block ?_
  refine tri_loopN (fun (x : Nat × Int) => ⟨[(5, .int .i64 x.1), (1, .int .i64 x.2), (0, .slice p ks.length c)], [], G⟩) (fun x => x.1 ≤ ks.length ∧ x.2 = k + cntTyL (ks.take x.1)) (fun x => ks.length - x.1) (0, k) ?_ ?_ ?_
  · (simp only [flat_snoc]; exact sub_mk (by repeat (first | exact SubE.nil | refine SubE.cons rfl ?_)) (by repeat (first | exact SubH.refl | exact SubH.nil | refine SubH.cons (by repeat (first | exact Pk.here | apply Pk.there)) ?_ | apply SubH.drop)))
  · exact ⟨by simp, by simp [cntTyL]⟩
  · (rintro ⟨i, kk⟩ ⟨hi, hkk⟩; simp only [] at hi hkk ⊢; have hnn := cntTyL_nn (ks.take i))
    refine tri_seq ?_
    refine tri_seq ?_
    refine tri_region ?_
    refine seq_pure (pure_move rfl) rfl rfl ?_
    refine seq_pure (pure_move rfl) rfl rfl ?_
    refine seq_pure (pure_len rfl rfl) rfl rfl ?_
    refine seq_bool (pure_lss rfl rfl) rfl rfl (fun h23 => ?_) (fun h23 => ?_)
    · refine seq_done ?_
      refine nrm_seq ?_
      refine tri_cond_t rfl ?_
      refine tri_skip ?_
      refine nrm_seq ?_
      refine tri_seq ?_
      refine tri_block ?_
      refine tri_seq ?_
      refine tri_seq ?_
      refine tri_region ?_
      refine seq_pure (pure_move rfl) rfl rfl ?_
      refine seq_pure (pure_move rfl) rfl rfl ?_
      (obtain ⟨b, o, p2, c2, es2, rfl, hat, hs2, hk2, hgb⟩ := held_ty hsl hkl (i := i) (by omega); rw [← hkk] at hat hk2; have hsu := cntTyL_succ (ks := ks) (i := i) (by omega); have hta := cntTyL_take ks (i + 1); have hce := cntTy_eq ks[i]; have hn2 := cntTyL_nn ks[i].ks; refine seq_pure (pure_indexAddrN rfl rfl rfl (by omega)) rfl rfl ?_)
      refine seq_pure (pure_fieldAddr rfl) rfl rfl ?_
      refine seq_load (load_s rfl rfl ((hat _).sub rfl)) rfl rfl ?_
      refine seq_pure (pure_move rfl) rfl rfl ?_
      refine seq_pure (pure_neq_f rfl rfl (by omega)) rfl rfl ?_
      refine seq_done ?_
      refine nrm_seq ?_
      refine tri_cond_f rfl ?_
      refine tri_skip ?_
      refine nrm_seq ?_
      refine tri_seq ?_
      refine tri_region ?_
      refine seq_pure (pure_move rfl) rfl rfl ?_
      refine seq_pure (pure_add rfl rfl (by omega) (by omega)) rfl rfl ?_
      refine seq_pure (pure_assign rfl) rfl rfl ?_
      refine seq_done ?_
      refine nrm_seq ?_
      refine tri_seq ?_
      refine tri_region ?_
      refine seq_pure (pure_move rfl) rfl rfl ?_
      refine seq_pure (pure_move rfl) rfl rfl ?_
      refine seq_pure (pure_indexAddrN rfl rfl rfl (by omega)) rfl rfl ?_
      refine seq_pure (pure_fieldAddr rfl) rfl rfl ?_
      refine seq_load (load_s rfl rfl ((hat _).sub rfl)) rfl rfl ?_
      refine seq_pure (pure_move rfl) rfl rfl ?_
      refine seq_val rfl (ih ks[i] (List.getElem_mem (by omega)) (kk + 1) G p2 c2 es2 hs2 hk2 (by omega) (by omega)) rfl rfl ?_
      refine seq_pure (pure_assign rfl) rfl rfl ?_
      refine seq_done ?_
      refine nrm_seq ?_
      refine tri_seq ?_
      refine tri_region ?_
      refine seq_pure (pure_move rfl) rfl rfl ?_
      refine seq_pure (pure_lss_f rfl rfl (by omega)) rfl rfl ?_
      refine seq_done ?_
      refine nrm_seq ?_
      refine tri_cond_f rfl ?_
      refine tri_skip ?_
      refine nrm_block ?_
      refine nrm_seq ?_
      refine tri_region ?_
      refine seq_pure (pure_move rfl) rfl rfl ?_
      refine seq_pure (pure_add rfl rfl (by omega) (by omega)) rfl rfl ?_
      refine seq_pure (pure_assign rfl) rfl rfl ?_
      refine seq_done ?_
      refine nrm_loopN (i + 1, kk + 1 + cntTyL ks[i].ks) ?_ ?_ ?_
      · (simp only [flat_snoc]; exact sub_mk (by repeat (first | exact SubE.nil | refine SubE.cons rfl ?_)) (by repeat (first | exact SubH.refl | exact SubH.nil | refine SubH.cons (by repeat (first | exact Pk.here | apply Pk.there)) ?_ | apply SubH.drop)))
      · (dsimp only; exact ⟨by omega, by omega⟩)
      · (show ks.length - (i + 1) < ks.length - i; omega)
    · refine seq_done ?_
      refine nrm_seq ?_
      refine tri_cond_f rfl ?_
      refine tri_exit ?_
      refine ext_seq ?_
      refine ext_loopN ?_
      refine ext_block_eq ?_
      refine nrm_seq ?_
      refine tri_seq ?_
      refine tri_region ?_
      refine seq_pure (pure_move rfl) rfl rfl ?_
      refine seq_pure (pure_assign rfl) rfl rfl ?_
      refine seq_done ?_
      refine nrm_seq ?_
      refine tri_ret ?_
      refine ret_fin1 (res_tmp rfl) ?_
      (obtain rfl : i = ks.length := (by omega); rw [List.take_length] at hkk; exact ⟨rfl, by rw [hkk], rfl⟩)
set_option maxRecDepth 100000 in
theorem heldType_fn (t : Ty) (k k0 : Int) (G : IM) (p : Option Addr) (c : Nat) (es : List (List Value)) (hsl : SlE G p t.ks.length c 2 es) (hkl : RTyL G (mkTyL t.ks k) es) (hk : 0 < k) (hb : k + cntTyL t.ks ≤ 1099511627776) :
    Fn Try.prog 60 [.agg ⟨[.int .i64 k0, .slice p t.ks.length c]⟩, .int .i64 k] [] G (Val (.int .i64 (k + cntTyL t.ks)) G) := by
  have hH := heldTypeS_fn t k G p c es hsl hkl hk hb
  have hn := cntTyL_nn t.ks
  refine fn_enter Try.func60 rfl Try.ntmps60 Try.results60 rfl ?_
  intro w0
  refine tri_seq ?_
  refine tri_region ?_
  (refine seq_step (step_box_a rfl rfl) rfl ?_; rintro _ ⟨b3, rfl⟩)
  refine seq_pure (pure_assign rfl) rfl rfl ?_
  refine seq_done ?_
  refine nrm_seq ?_
  refine tri_seq ?_
  refine tri_region ?_
  refine seq_pure (pure_fieldAddr0 rfl) rfl rfl ?_
  refine seq_load (load_bs rfl rfl (by repeat (first | exact List.Mem.head _ | apply List.Mem.tail)) (by rfl)) rfl rfl ?_
  refine seq_pure (pure_move rfl) rfl rfl ?_
  refine seq_val rfl (hH) rfl rfl ?_
  refine seq_pure (pure_assign rfl) rfl rfl ?_
  refine seq_done ?_
  refine nrm_seq ?_
  refine tri_seq ?_
  refine tri_seq ?_
  refine tri_region ?_
  refine seq_pure (pure_move rfl) rfl rfl ?_
  refine seq_pure (pure_lss_f rfl rfl (by omega)) rfl rfl ?_
  refine seq_done ?_
  refine nrm_seq ?_
  refine tri_cond_f rfl ?_
  refine tri_skip ?_
  refine nrm_seq ?_
  refine tri_seq ?_
  refine tri_region ?_
  refine seq_pure (pure_move rfl) rfl rfl ?_
  refine seq_pure (pure_assign rfl) rfl rfl ?_
  refine seq_done ?_
  refine nrm_seq ?_
  refine tri_ret ?_
  refine ret_fin1 (res_tmp rfl) ?_
  exact ⟨rfl, rfl, rfl⟩
set_option maxHeartbeats 0 in
set_option maxRecDepth 100000 in
theorem heldTermS_fn : ∀ (t : Tm) (k : Int) (G : IM) (p : Option Addr) (c : Nat) (es : List (List Value)), SlE G p t.ks.length c 9 es → RTmL G (mkTmL t.ks k) es → 0 < k → k + cntTmL t.ks ≤ 1099511627776 →
    Fn Try.prog 61 [.slice p t.ks.length c, .int .i64 k] [] G (Val (.int .i64 (k + cntTmL t.ks)) G) := by
  refine Tm.ind fun k0 nm0 num0 ty0 fr0 lb0 ks ih k G p c es hsl hkl hk hb => ?_
  simp only [Tm.ks] at hsl hkl hb ⊢
  have hn := hsl.le
  refine fn_enter Try.func61 rfl Try.ntmps61 Try.results61 rfl ?_
  intro w0
  refine tri_seq ?_
  refine tri_region ?_
  refine seq_pure (pure_assign rfl) rfl rfl ?_
  refine seq_done ?_
  refine nrm_seq ?_
  refine tri_seq ?_
  refine tri_seq ?_
  refine tri_region ?_
  refine seq_pure (pure_assign rfl) rfl rfl ?_
  refine seq_done ?_
  refine nrm_seq ?_
  refine tri_block ?_
  refine tri_loopN (fun (x : Nat × Int) => ⟨[(5, .int .i64 x.1), (1, .int .i64 x.2), (0, .slice p ks.length c)], [], G⟩) (fun x => x.1 ≤ ks.length ∧ x.2 = k + cntTmL (ks.take x.1)) (fun x => ks.length - x.1) (0, k) ?_ ?_ ?_
  · (simp only [flat_snoc]; exact sub_mk (by repeat (first | exact SubE.nil | refine SubE.cons rfl ?_)) (by repeat (first | exact SubH.refl | exact SubH.nil | refine SubH.cons (by repeat (first | exact Pk.here | apply Pk.there)) ?_ | apply SubH.drop)))
  · exact ⟨by simp, by simp [cntTmL]⟩
  · (rintro ⟨i, kk⟩ ⟨hi, hkk⟩; simp only [] at hi hkk ⊢; have hnn := cntTmL_nn (ks.take i))
    refine tri_seq ?_
    refine tri_seq ?_
    refine tri_region ?_
    refine seq_pure (pure_move rfl) rfl rfl ?_
    refine seq_pure (pure_move rfl) rfl rfl ?_
    refine seq_pure (pure_len rfl rfl) rfl rfl ?_
    refine seq_bool (pure_lss rfl rfl) rfl rfl (fun h23 => ?_) (fun h23 => ?_)
    · refine seq_done ?_
      refine nrm_seq ?_
      refine tri_cond_t rfl ?_
      refine tri_skip ?_
      refine nrm_seq ?_
      refine tri_seq ?_
      refine tri_block ?_
      refine tri_seq ?_
      refine tri_seq ?_
      refine tri_region ?_
      refine seq_pure (pure_move rfl) rfl rfl ?_
      refine seq_pure (pure_move rfl) rfl rfl ?_
      (obtain ⟨b, o, pt, ct, et, pf, cf, ef, p2, c2, es2, rfl, hat, hst, hkt, hsf, hkf, hs2, hk2, hgb⟩ := held_tm hsl hkl (i := i) hkk (by omega); have hsu := cntTmL_succ (ks := ks) (i := i) (by omega); have hta := cntTmL_take ks (i + 1); have hce := cntTm_eq ks[i]; have hn1 := cntTyL_nn ks[i].ty.ks; have hn2 := cntTyL_nn ks[i].fr.ks; have hn3 := cntTmL_nn ks[i].ks; refine seq_pure (pure_indexAddrN rfl rfl rfl (by omega)) rfl rfl ?_)
      refine seq_pure (pure_fieldAddr rfl) rfl rfl ?_
      refine seq_load (load_s rfl rfl ((hat _).sub rfl)) rfl rfl ?_
      refine seq_pure (pure_move rfl) rfl rfl ?_
      refine seq_pure (pure_neq_f rfl rfl (by omega)) rfl rfl ?_
      refine seq_done ?_
      refine nrm_seq ?_
      refine tri_cond_f rfl ?_
      refine tri_skip ?_
      refine nrm_seq ?_
      refine tri_seq ?_
      refine tri_region ?_
      refine seq_pure (pure_move rfl) rfl rfl ?_
      refine seq_pure (pure_add rfl rfl (by omega) (by omega)) rfl rfl ?_
      refine seq_pure (pure_assign rfl) rfl rfl ?_
      refine seq_done ?_
      refine nrm_seq ?_
      refine tri_seq ?_
      refine tri_seq ?_
      refine tri_draw mixed rfl ?_
      refine any_pure (i := 0) (listed' := [true, false, false, false, false, false, false, false]) rfl (by repeat (first | exact np_ret | apply np_seq | apply np_block | apply np_loopN')) (pure_move rfl) rfl (by kernel_rfl) rfl rfl ?_
      refine any_pure (i := 1) (listed' := [true, true, false, false, false, false, false, false]) rfl (by repeat (first | exact np_ret | apply np_seq | apply np_block | apply np_loopN')) (pure_move rfl) rfl (by kernel_rfl) rfl rfl ?_
      refine any_pure (i := 2) (listed' := [true, true, true, false, false, false, false, false]) rfl (by repeat (first | exact np_ret | apply np_seq | apply np_block | apply np_loopN')) (pure_indexAddrN rfl rfl rfl (by omega)) rfl (by kernel_rfl) rfl rfl ?_
      refine any_pure (i := 3) (listed' := [true, true, true, true, false, false, false, false]) rfl (by repeat (first | exact np_ret | apply np_seq | apply np_block | apply np_loopN')) (pure_fieldAddr rfl) rfl (by kernel_rfl) rfl rfl ?_
      refine any_load (i := 4) (listed' := [true, true, true, true, true, false, false, false]) rfl (by repeat (first | exact np_ret | apply np_seq | apply np_block | apply np_loopN')) (load_s rfl rfl ((hat _).sub rfl)) rfl (by kernel_rfl) rfl rfl ?_
      refine any_pure (i := 5) (listed' := [true, true, true, true, true, true, false, false]) rfl (by repeat (first | exact np_ret | apply np_seq | apply np_block | apply np_loopN')) (pure_move rfl) rfl (by kernel_rfl) rfl rfl ?_
      refine any_one (j := 6) (by kernel_rfl) ?_
      refine one_val (listed' := [true, true, true, true, true, true, true, false]) rfl rfl (markText_int _ (by omega) (by omega) _) rfl rfl rfl ?_
      refine any_pure (i := 7) (listed' := [true, true, true, true, true, true, true, true]) rfl (by repeat (first | exact np_ret | apply np_seq | apply np_block | apply np_loopN')) (pure_sneq_s rfl rfl) rfl (by kernel_rfl) rfl rfl ?_
      refine any_done (by kernel_rfl) ?_
      refine nrm_seq ?_
      refine tri_cond_f rfl ?_
      refine tri_skip ?_
      refine nrm_seq ?_
      refine tri_seq ?_
      refine tri_region ?_
      refine seq_pure (pure_move rfl) rfl rfl ?_
      refine seq_pure (pure_add rfl rfl (by omega) (by omega)) rfl rfl ?_
      refine seq_pure (pure_assign rfl) rfl rfl ?_
      refine seq_done ?_
      refine nrm_seq ?_
      refine tri_seq ?_
      refine tri_seq ?_
      refine tri_region ?_
      refine seq_pure (pure_move rfl) rfl rfl ?_
      refine seq_pure (pure_move rfl) rfl rfl ?_
      refine seq_pure (pure_indexAddrN rfl rfl rfl (by omega)) rfl rfl ?_
      refine seq_pure (pure_fieldAddr rfl) rfl rfl ?_
      refine seq_load (load_s rfl rfl ((hat _).sub rfl)) rfl rfl ?_
      refine seq_pure (pure_move rfl) rfl rfl ?_
      refine seq_pure (pure_neq_f rfl rfl (by omega)) rfl rfl ?_
      refine seq_done ?_
      refine nrm_seq ?_
      refine tri_cond_f rfl ?_
      refine tri_skip ?_
      refine nrm_seq ?_
      refine tri_seq ?_
      refine tri_region ?_
      refine seq_pure (pure_move rfl) rfl rfl ?_
      refine seq_pure (pure_add rfl rfl (by omega) (by omega)) rfl rfl ?_
      refine seq_pure (pure_assign rfl) rfl rfl ?_
      refine seq_done ?_
      refine nrm_seq ?_
      refine tri_seq ?_
      refine tri_seq ?_
      refine tri_region ?_
      refine seq_pure (pure_move rfl) rfl rfl ?_
      refine seq_pure (pure_move rfl) rfl rfl ?_
      refine seq_pure (pure_indexAddrN rfl rfl rfl (by omega)) rfl rfl ?_
      refine seq_pure (pure_fieldAddr rfl) rfl rfl ?_
      refine seq_pure (pure_fieldAddr rfl) rfl rfl ?_
      refine seq_load (load_s rfl rfl ((hat _).sub rfl)) rfl rfl ?_
      refine seq_pure (pure_move rfl) rfl rfl ?_
      refine seq_pure (pure_neq_f rfl rfl (by omega)) rfl rfl ?_
      refine seq_done ?_
      refine nrm_seq ?_
      refine tri_cond_f rfl ?_
      refine tri_skip ?_
      refine nrm_seq ?_
      refine tri_seq ?_
      refine tri_region ?_
      refine seq_pure (pure_move rfl) rfl rfl ?_
      refine seq_pure (pure_add rfl rfl (by omega) (by omega)) rfl rfl ?_
      refine seq_pure (pure_assign rfl) rfl rfl ?_
      refine seq_done ?_
      refine nrm_seq ?_
      refine tri_seq ?_
      refine tri_region ?_
      refine seq_pure (pure_move rfl) rfl rfl ?_
      refine seq_pure (pure_move rfl) rfl rfl ?_
      refine seq_pure (pure_indexAddrN rfl rfl rfl (by omega)) rfl rfl ?_
      refine seq_pure (pure_fieldAddr rfl) rfl rfl ?_
      refine seq_pure (pure_fieldAddr rfl) rfl rfl ?_
      refine seq_load (load_s rfl rfl ((hat _).sub2 rfl)) rfl rfl ?_
      refine seq_pure (pure_move rfl) rfl rfl ?_
      refine seq_val rfl (heldTypeS_fn ks[i].ty (kk + 1 + 1 + 1 + 1) G pt ct et hst hkt (by omega) (by omega)) rfl rfl ?_
      refine seq_pure (pure_assign rfl) rfl rfl ?_
      refine seq_done ?_
      refine nrm_seq ?_
      refine tri_seq ?_
      refine tri_seq ?_
      refine tri_region ?_
      refine seq_pure (pure_move rfl) rfl rfl ?_
      refine seq_pure (pure_lss_f rfl rfl (by omega)) rfl rfl ?_
      refine seq_done ?_
      refine nrm_seq ?_
      refine tri_cond_f rfl ?_
      refine tri_skip ?_
      refine nrm_seq ?_
      refine tri_seq ?_
      refine tri_seq ?_
      refine tri_region ?_
      refine seq_pure (pure_move rfl) rfl rfl ?_
      refine seq_pure (pure_move rfl) rfl rfl ?_
      refine seq_pure (pure_indexAddrN rfl rfl rfl (by omega)) rfl rfl ?_
      refine seq_pure (pure_fieldAddr rfl) rfl rfl ?_
      refine seq_pure (pure_fieldAddr rfl) rfl rfl ?_
      refine seq_load (load_s rfl rfl ((hat _).sub rfl)) rfl rfl ?_
      refine seq_pure (pure_move rfl) rfl rfl ?_
      refine seq_pure (pure_neq_f rfl rfl (by omega)) rfl rfl ?_
      refine seq_done ?_
      refine nrm_seq ?_
      refine tri_cond_f rfl ?_
      refine tri_skip ?_
      refine nrm_seq ?_
      refine tri_seq ?_
      refine tri_region ?_
      refine seq_pure (pure_move rfl) rfl rfl ?_
      refine seq_pure (pure_add rfl rfl (by omega) (by omega)) rfl rfl ?_
      refine seq_pure (pure_assign rfl) rfl rfl ?_
      refine seq_done ?_
      refine nrm_seq ?_
      refine tri_seq ?_
      refine tri_region ?_
      refine seq_pure (pure_move rfl) rfl rfl ?_
      refine seq_pure (pure_move rfl) rfl rfl ?_
      refine seq_pure (pure_indexAddrN rfl rfl rfl (by omega)) rfl rfl ?_
      refine seq_pure (pure_fieldAddr rfl) rfl rfl ?_
      refine seq_pure (pure_fieldAddr rfl) rfl rfl ?_
      refine seq_load (load_s rfl rfl ((hat _).sub2 rfl)) rfl rfl ?_
      refine seq_pure (pure_move rfl) rfl rfl ?_
      refine seq_val rfl (heldTypeS_fn ks[i].fr (kk + 1 + 1 + 1 + 1 + cntTyL ks[i].ty.ks + 1) G pf cf ef hsf hkf (by omega) (by omega)) rfl rfl ?_
      refine seq_pure (pure_assign rfl) rfl rfl ?_
      refine seq_done ?_
      refine nrm_seq ?_
      refine tri_seq ?_
      refine tri_seq ?_
      refine tri_region ?_
      refine seq_pure (pure_move rfl) rfl rfl ?_
      refine seq_pure (pure_lss_f rfl rfl (by omega)) rfl rfl ?_
      refine seq_done ?_
      refine nrm_seq ?_
      refine tri_cond_f rfl ?_
      refine tri_skip ?_
      refine nrm_seq ?_
      refine tri_seq ?_
      refine tri_seq ?_
      refine tri_region ?_
      refine seq_pure (pure_move rfl) rfl rfl ?_
      refine seq_pure (pure_move rfl) rfl rfl ?_
      refine seq_pure (pure_indexAddrN rfl rfl rfl (by omega)) rfl rfl ?_
      refine seq_pure (pure_fieldAddr rfl) rfl rfl ?_
      refine seq_load (load_s rfl rfl ((hat _).sub rfl)) rfl rfl ?_
      refine seq_pure (pure_move rfl) rfl rfl ?_
      refine seq_pure (pure_neq_f rfl rfl (by omega)) rfl rfl ?_
      refine seq_done ?_
      refine nrm_seq ?_
      refine tri_cond_f rfl ?_
      refine tri_skip ?_
      refine nrm_seq ?_
      refine tri_seq ?_
      refine tri_region ?_
      refine seq_pure (pure_move rfl) rfl rfl ?_
      refine seq_pure (pure_add rfl rfl (by omega) (by omega)) rfl rfl ?_
      refine seq_pure (pure_assign rfl) rfl rfl ?_
      refine seq_done ?_
      refine nrm_seq ?_
      refine tri_seq ?_
      refine tri_region ?_
      refine seq_pure (pure_move rfl) rfl rfl ?_
      refine seq_pure (pure_move rfl) rfl rfl ?_
      refine seq_pure (pure_indexAddrN rfl rfl rfl (by omega)) rfl rfl ?_
      refine seq_pure (pure_fieldAddr rfl) rfl rfl ?_
      refine seq_load (load_s rfl rfl ((hat _).sub rfl)) rfl rfl ?_
      refine seq_pure (pure_move rfl) rfl rfl ?_
      refine seq_val rfl (ih ks[i] (List.getElem_mem (by omega)) (kk + 1 + 1 + 1 + 1 + cntTyL ks[i].ty.ks + 1 + cntTyL ks[i].fr.ks + 1) G p2 c2 es2 hs2 hk2 (by omega) (by omega)) rfl rfl ?_
      refine seq_pure (pure_assign rfl) rfl rfl ?_
      refine seq_done ?_
      refine nrm_seq ?_
      refine tri_seq ?_
      refine tri_region ?_
      refine seq_pure (pure_move rfl) rfl rfl ?_
      refine seq_pure (pure_lss_f rfl rfl (by omega)) rfl rfl ?_
      refine seq_done ?_
      refine nrm_seq ?_
      refine tri_cond_f rfl ?_
      refine tri_skip ?_
      refine nrm_block ?_
      refine nrm_seq ?_
      refine tri_region ?_
      refine seq_pure (pure_move rfl) rfl rfl ?_
      refine seq_pure (pure_add rfl rfl (by omega) (by omega)) rfl rfl ?_
      refine seq_pure (pure_assign rfl) rfl rfl ?_
      refine seq_done ?_
      refine nrm_loopN (i + 1, kk + 1 + 1 + 1 + 1 + cntTyL ks[i].ty.ks + 1 + cntTyL ks[i].fr.ks + 1 + cntTmL ks[i].ks) ?_ ?_ ?_
      · (simp only [flat_snoc]; exact sub_mk (by repeat (first | exact SubE.nil | refine SubE.cons rfl ?_)) (by repeat (first | exact SubH.refl | exact SubH.nil | refine SubH.cons (by repeat (first | exact Pk.here | apply Pk.there)) ?_ | apply SubH.drop)))
      · (dsimp only; exact ⟨by omega, by omega⟩)
      · (show ks.length - (i + 1) < ks.length - i; omega)
    · refine seq_done ?_
      refine nrm_seq ?_
      refine tri_cond_f rfl ?_
      refine tri_exit ?_
      refine ext_seq ?_
      refine ext_loopN ?_
      refine ext_block_eq ?_
      refine nrm_seq ?_
      refine tri_seq ?_
      refine tri_region ?_
      refine seq_pure (pure_move rfl) rfl rfl ?_
      refine seq_pure (pure_assign rfl) rfl rfl ?_
      refine seq_done ?_
      refine nrm_seq ?_
      refine tri_ret ?_
      refine ret_fin1 (res_tmp rfl) ?_
      (obtain rfl : i = ks.length := (by omega); rw [List.take_length] at hkk; exact ⟨rfl, by rw [hkk], rfl⟩)
/-- A marked term in memory that no longer changes. -/
def HTm (G : IM) (t : Tm) (k : Int) (cells : List Value) : Prop := ∃ pt ct et pf cf ef p c es,
  cells = [.int .i64 t.k, .string t.nm, .int .i64 t.num, .int .i64 t.ty.k, .slice pt t.ty.ks.length ct, .int .i64 t.fr.k, .slice pf t.fr.ks.length cf, .int .i64 t.lb, .slice p t.ks.length c] ∧
  SlE G pt t.ty.ks.length ct 2 et ∧ RTyL G (mkTyL t.ty.ks k) et ∧ SlE G pf t.fr.ks.length cf 2 ef ∧ RTyL G (mkTyL t.fr.ks (k + cntTyL t.ty.ks)) ef ∧ SlE G p t.ks.length c 9 es ∧ RTmL G (mkTmL t.ks (k + cntTyL t.ty.ks + cntTyL t.fr.ks)) es
theorem MTm.h {G : IM} {t : Tm} {k : Int} {cells : List Value} {bs : Blks} (h : MTm t k cells bs) (hg : ∀ q ∈ bs, G q.1 = some q.2) : HTm G t k cells := by
  obtain ⟨pt, ct, pf, cf, p, c, bt, bf, bk, rfl, h1, h2, h3, rfl⟩ := h
  obtain ⟨et, a1, a2⟩ := h1.r fun q hq => hg q (List.mem_append_left _ hq)
  obtain ⟨ef, b1, b2⟩ := h2.r fun q hq => hg q (List.mem_append_right _ (List.mem_append_left _ hq))
  obtain ⟨es, c1, c2⟩ := h3.r fun q hq => hg q (List.mem_append_right _ (List.mem_append_right _ hq))
  rw [mkTyL_len] at a1 b1
  rw [mkTmL_len] at c1
  exact ⟨pt, ct, et, pf, cf, ef, p, c, es, rfl, a1, a2, b1, b2, c1, c2⟩
theorem HTm.mono {G G' : IM} {t : Tm} {k : Int} {cells : List Value} (h : HTm G t k cells) (hg : IMle G G') : HTm G' t k cells := by
  obtain ⟨pt, ct, et, pf, cf, ef, p, c, es, h0, h1, h2, h3, h4, h5, h6⟩ := h
  exact ⟨pt, ct, et, pf, cf, ef, p, c, es, h0, h1.mono hg, h2.mono hg, h3.mono hg, h4.mono hg, h5.mono hg, h6.mono hg⟩
set_option maxRecDepth 100000 in
theorem heldTerm_fn (t : Tm) (k : Int) (G : IM) (cells : List Value) (h : HTm G t k cells) (hk : 0 < k) (hb : k + cntTyL t.ty.ks + cntTyL t.fr.ks + cntTmL t.ks ≤ 1099511627776) :
    Fn Try.prog 32 [.agg ⟨cells⟩, .int .i64 k] [] G (Val (.int .i64 (k + cntTyL t.ty.ks + cntTyL t.fr.ks + cntTmL t.ks)) G) := by
  obtain ⟨pt, ct, et, pf, cf, ef, p, c, es, rfl, a1, a2, b1, b2, c1, c2⟩ := h
  have h1 := cntTyL_nn t.ty.ks
  have h2 := cntTyL_nn t.fr.ks
  have h3 := cntTmL_nn t.ks
  have hT := heldType_fn t.ty k t.ty.k G pt ct et a1 a2 (by omega) (by omega)
  have hF := heldType_fn t.fr (k + cntTyL t.ty.ks) t.fr.k G pf cf ef b1 b2 (by omega) (by omega)
  have hS := heldTermS_fn t (k + cntTyL t.ty.ks + cntTyL t.fr.ks) G p c es c1 c2 (by omega) (by omega)
  refine fn_enter Try.func32 rfl Try.ntmps32 Try.results32 rfl ?_
  intro w0
  refine tri_seq ?_
  refine tri_region ?_
  (refine seq_step (step_box_a rfl rfl) rfl ?_; rintro _ ⟨b3, rfl⟩)
  refine seq_pure (pure_assign rfl) rfl rfl ?_
  refine seq_done ?_
  refine nrm_seq ?_
  refine tri_seq ?_
  refine tri_region ?_
  refine seq_pure (pure_fieldAddr0 rfl) rfl rfl ?_
  refine seq_load (load_ba rfl rfl (by repeat (first | exact List.Mem.head _ | apply List.Mem.tail)) (by rfl)) rfl rfl ?_
  refine seq_pure (pure_move rfl) rfl rfl ?_
  refine seq_val rfl (hT) rfl rfl ?_
  refine seq_pure (pure_assign rfl) rfl rfl ?_
  refine seq_done ?_
  refine nrm_seq ?_
  refine tri_seq ?_
  refine tri_seq ?_
  refine tri_region ?_
  refine seq_pure (pure_move rfl) rfl rfl ?_
  refine seq_pure (pure_lss_f rfl rfl (by omega)) rfl rfl ?_
  refine seq_done ?_
  refine nrm_seq ?_
  refine tri_cond_f rfl ?_
  refine tri_skip ?_
  refine nrm_seq ?_
  refine tri_seq ?_
  refine tri_region ?_
  refine seq_pure (pure_fieldAddr0 rfl) rfl rfl ?_
  refine seq_load (load_ba rfl rfl (by repeat (first | exact List.Mem.head _ | apply List.Mem.tail)) (by rfl)) rfl rfl ?_
  refine seq_pure (pure_move rfl) rfl rfl ?_
  refine seq_val rfl (hF) rfl rfl ?_
  refine seq_pure (pure_assign rfl) rfl rfl ?_
  refine seq_done ?_
  refine nrm_seq ?_
  refine tri_seq ?_
  refine tri_seq ?_
  refine tri_region ?_
  refine seq_pure (pure_move rfl) rfl rfl ?_
  refine seq_pure (pure_lss_f rfl rfl (by omega)) rfl rfl ?_
  refine seq_done ?_
  refine nrm_seq ?_
  refine tri_cond_f rfl ?_
  refine tri_skip ?_
  refine nrm_seq ?_
  refine tri_seq ?_
  refine tri_region ?_
  refine seq_pure (pure_fieldAddr0 rfl) rfl rfl ?_
  refine seq_load (load_bs rfl rfl (by repeat (first | exact List.Mem.head _ | apply List.Mem.tail)) (by rfl)) rfl rfl ?_
  refine seq_pure (pure_move rfl) rfl rfl ?_
  refine seq_val rfl (hS) rfl rfl ?_
  refine seq_pure (pure_assign rfl) rfl rfl ?_
  refine seq_done ?_
  refine nrm_seq ?_
  refine tri_seq ?_
  refine tri_seq ?_
  refine tri_region ?_
  refine seq_pure (pure_move rfl) rfl rfl ?_
  refine seq_pure (pure_lss_f rfl rfl (by omega)) rfl rfl ?_
  refine seq_done ?_
  refine nrm_seq ?_
  refine tri_cond_f rfl ?_
  refine tri_skip ?_
  refine nrm_seq ?_
  refine tri_seq ?_
  refine tri_region ?_
  refine seq_pure (pure_move rfl) rfl rfl ?_
  refine seq_pure (pure_assign rfl) rfl rfl ?_
  refine seq_done ?_
  refine nrm_seq ?_
  refine tri_ret ?_
  refine ret_fin1 (res_tmp rfl) ?_
  exact ⟨rfl, rfl, rfl⟩
end Gw
end Go.Proofs.Ytlefgfdhlblahaa
