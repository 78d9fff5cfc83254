/-
  The reference model's replacing of nodes.
-/
import Derived.Test.YtlefgfdhlblahaaPut
namespace Go.Proofs.Ytlefgfdhlblahaa
open Go Go.RowKit
namespace Gw
theorem upd_setA {A C : List Value} {es : List (List Value)} {vs : List Value} {j sz : Nat} (hj : j < es.length) (ha : ∀ e ∈ es, e.length = sz) (hv : vs.length = sz) : upd (A ++ (es.flatten ++ C)) (A.length + j * sz) vs = some (A ++ ((es.set j vs).flatten ++ C)) := by
  have h := upd_el (A := A) (D := es.take j) (e := es[j]) (e' := vs) (R := (es.drop (j + 1)).flatten ++ C) (vs := vs) (i := j) (sz := sz) (off := 0)
    (by rw [List.length_take]; omega) (fun e he => ha e (List.mem_of_mem_take he)) (upd_all (by rw [ha _ (List.getElem_mem hj), hv]))
  rw [flat_at hj, flat_set hj]
  simp only [List.append_assoc, Nat.add_zero] at h ⊢
  exact h
theorem At.mono' {hp : List Ent} {G G' : IM} {b o : Nat} {vs : List Value} (hg : IMle G G') (h : At [] G b o vs) : At hp G' b o vs := by
  rcases h with ⟨cs, hm, hv⟩ | ⟨n, c, el, sz, cs, hm, hv⟩ | ⟨full, hx, hv⟩
  · cases hm
  · cases hm
  · exact .inr (.inr ⟨full, hg _ _ hx, hv⟩)
theorem STm.repl {G G1 G2 G3 : IM} {bc j c : Nat} {k num lb : Int} {nm : ByteArray} {ty fr : Ty} {ks : List Tm} {y : Tm} {tc fc A C yc : List Value} {es : List (List Value)} {Ft Ff Fs F' : List Nat}
    (hk : I64 k) (hnum : I64 num) (hlb : I64 lb) (hle1 : IMle G G1) (ht : STy (Dif G1 G) ty tc Ft) (hf : STy (Dif G1 G) fr fc Ff) (hkl : STmL (Dif G1 G) ks es Fs) (hg : Dif G1 G bc = some (A ++ (es.flatten ++ C)))
    (hn : (Ft ++ (Ff ++ ([bc] ++ Fs))).Nodup) (hj : j < ks.length) (hc : ks.length ≤ c) (hm : c ≤ maxLen) (hle2 : IMle (Wo G1 [bc]) G2) (hy : STm (Dif G2 (Wo G1 [bc])) y yc F') (hn' : F'.Nodup) (hd : G2 bc = none)
    (hle3 : IMle G2 G3) (h3 : G3 bc = some (A ++ ((es.set j yc).flatten ++ C))) :
    ∃ F, STm (Dif G3 G) (.mk k nm num ty fr lb (ks.set j y)) ([.int .i64 k, .string nm, .int .i64 num] ++ tc ++ fc ++ [.int .i64 lb, .slice (some ⟨bc, A.length, none⟩) (ks.set j y).length c]) F ∧ F.Nodup := by
  have hGb : G bc = none := Dif.out (by rw [hg]; simp)
  rw [List.nodup_append, List.nodup_append, List.nodup_append] at hn
  obtain ⟨n1, ⟨n2, ⟨_, n4, d1⟩, d2⟩, d3⟩ := hn
  have hbt : ∀ x ∈ Ft, x ∉ [bc] := fun x hx hb => d3 x hx x (by simp at hb; subst hb; simp) rfl
  have hbf : ∀ x ∈ Ff, x ∉ [bc] := fun x hx hb => d2 x hx x (by simp at hb; subst hb; simp) rfl
  have hbs : ∀ x ∈ Fs, x ∉ [bc] := fun x hx hb => d1 x hb x hx rfl
  have hH : IMle (Wo (Dif G1 G) [bc]) (Dif G3 G) := by
    intro x l hx
    obtain ⟨h1, h2⟩ := Wo.get hx
    have hgx : G x = none := Dif.out (by rw [h1]; simp)
    have h4 : G3 x = some l := hle3 _ _ (hle2 _ _ (by rw [Wo.at h2]; exact Dif.le _ _ _ _ h1))
    simp [Dif, hgx, h4]
  have hGle : IMle G (Wo G1 [bc]) := Wo.keep hle1 (fun b hb => by simp at hb; subst hb; exact hGb)
  have hyH : IMle (Dif G2 (Wo G1 [bc])) (Dif G3 G) := fun b l h => Dif.mono hle3 b l (Dif.anti hGle b l h)
  have hl := hkl.R.len
  obtain ⟨F2, s1, s2, s3⟩ := STmL.set (j := j) ((hkl.wo hbs).mono hH) (hy.mono hyH) hj
  have hF' : ∀ x ∈ F', Wo G1 [bc] x = none ∧ G2 x ≠ none := fun x hx => by
    have := hy.inG x hx
    refine ⟨Dif.out this, fun h => this ?_⟩
    cases hq : Dif G2 (Wo G1 [bc]) x with
    | none => rfl
    | some l => rw [Dif.le _ _ _ _ hq] at h; cases h
  have old : ∀ {x : Nat}, Dif G1 G x ≠ none → x ∉ [bc] → x ∉ F' := fun {x} h1 h2 h3 => by
    have h4 := (hF' x h3).1
    rw [Wo.at h2] at h4
    exact h1 (none_le (Dif.le G1 G) h4)
  have dbF : bc ∉ F' := fun h => (hF' bc h).2 hd
  have hin : Dif G3 G bc = some (A ++ ((es.set j yc).flatten ++ C)) := by simp [Dif, hGb, h3]
  have hR := s1.R
  refine ⟨Ft ++ (Ff ++ (vfp (some ⟨bc, A.length, none⟩) ++ F2)), ?_, ?_⟩
  · simp only [STm]
    exact ⟨tc, fc, _, c, es.set j yc, Ft, Ff, F2, rfl, hk, hnum, hlb, (ht.wo hbt).mono hH, (hf.wo hbf).mono hH,
      SlE.of (Sl.of_blk (by rw [flat_len hR.all, hR.len]) (by rw [List.length_set]; exact hc) hm hin) hR.len hR.all (fun e he => by obtain ⟨q, hq⟩ := List.getElem?_of_mem he; exact (hR.inv hq tm0).2.one), s1, rfl,
      fun b hb => by simp [vfp] at hb; subst hb; rw [hin]; simp⟩
  · rw [List.nodup_append, List.nodup_append, List.nodup_append]
    refine ⟨n1, ⟨n2, ⟨by simp [vfp], s3 n4 hn' (fun x hx => old (hkl.inG x hx) (hbs x hx)), ?_⟩, ?_⟩, ?_⟩
    · rintro x hx z hz rfl
      simp [vfp] at hx; subst hx
      rcases s2 _ hz with hz | hz
      · exact hbs _ hz (by simp)
      · exact dbF hz
    · rintro x hx z hz rfl
      rcases List.mem_append.1 hz with hz | hz
      · exact hbf x hx (by simpa [vfp] using hz)
      · rcases s2 _ hz with hz | hz
        · exact d2 x hx x (List.mem_append_right _ hz) rfl
        · exact old (hf.inG x hx) (hbf x hx) hz
    · rintro x hx z hz rfl
      rcases List.mem_append.1 hz with hz | hz
      · exact d3 x hx x (List.mem_append_left _ hz) rfl
      · rcases List.mem_append.1 hz with hz | hz
        · exact hbt x hx (by simpa [vfp] using hz)
        · rcases s2 _ hz with hz | hz
          · exact d3 x hx x (List.mem_append_right _ (List.mem_append_right _ hz)) rfl
          · exact old (ht.inG x hx) (hbt x hx) hz
set_option maxHeartbeats 0 in
set_option maxRecDepth 100000 in
theorem l16Replace_fn : ∀ (path : List Int) (t x y : Tm) (G : IM) (cells xcells : List Value) (p : Option Addr) (c : Nat), tAt t path = some y → t.small → x.small → RTm G t cells → RTm G x xcells → Sl G p path.length c 1 (ints path) →
    Fn Try.prog 62 [.agg ⟨cells⟩, .slice p path.length c, .agg ⟨xcells⟩] [] G (ToTm (mPut t path x) G) := by
  intro path
  induction path with
  | nil =>
    intro t x y G cells xcells p c hat hts hxs hr hx hp
    have hl := hr.len
    have hone := hr.one
    have hlx := hx.len
    have hox := hx.one
    simp only [List.length_nil]
    refine fn_enter Try.func62 rfl Try.ntmps62 Try.results62 rfl ?_
    intro w0
    refine tri_seq ?_
    refine tri_region ?_
    (refine seq_step (step_box_a rfl rfl) rfl ?_; rintro _ ⟨b3, rfl⟩)
    (refine seq_step (step_box_a rfl rfl) rfl ?_; rintro _ ⟨b4, rfl⟩)
    (refine seq_step (step_alloc rfl) rfl ?_; rintro _ ⟨b5, rfl⟩)
    refine seq_done ?_
    refine nrm_seq ?_
    refine tri_seq ?_
    refine tri_seq ?_
    refine tri_region ?_
    refine seq_pure (pure_move rfl) rfl rfl ?_
    refine seq_pure (pure_len rfl rfl) rfl rfl ?_
    refine seq_pure (pure_eql_t rfl rfl (by omega)) rfl rfl ?_
    refine seq_done ?_
    refine nrm_seq ?_
    refine tri_cond_t rfl ?_
    refine tri_seq ?_
    refine tri_region ?_
    refine seq_load (load_a rfl rfl (at_blk_all (by repeat (first | exact List.Mem.head _ | apply List.Mem.tail))) (by assumption)) rfl rfl ?_
    (refine seq_imm rfl (l2Copy_fn x G xcells hxs hx) rfl rfl (fun v G3 hle3 hh => ?_); obtain ⟨cells', F', rfl, hs', hnd'⟩ := hh; have hl' := hs'.R.len; have ho' := hs'.R.one)
    refine seq_store rfl rfl rfl hl' ho' rfl (by repeat (first | exact Sw.here | apply Sw.there)) (by exact upd_all hl'.symm) ?_
    refine seq_done ?_
    refine nrm_seq ?_
    refine tri_ret ?_
    refine ret_seq ?_
    refine ret_fin1 (res_cell rfl (load_a rfl rfl (at_blk_all (by repeat (first | exact List.Mem.head _ | apply List.Mem.tail))) hl')) ?_
    (rw [mPut_nil]; exact ⟨rfl, cells', F', rfl, hs', hnd'⟩)
  | cons i is ih =>
    intro t x y G cells xcells p c hat hts hxs hr hx hp
    have hone := hr.one
    have hlx := hx.len
    have hox := hx.one
    have hC := l2Copy_fn t G cells hts hr
    obtain ⟨k, nm, num, ⟨tk, tks⟩, ⟨fk, fks⟩, lb, ks⟩ := t
    obtain ⟨j, rfl, hj, haj⟩ := tAt_some hat
    simp only [Tm.ks] at hj haj
    simp only [Tm.small] at hts
    obtain ⟨hnm, hty', hfr', hsm, hks⟩ := hts
    obtain ⟨pt, ct, pf, cf, pk, ck, es, rfl, hk, hnum, hlb, hty, hfr, hsl, hkl⟩ := hr.open9
    have hn := hsl.le
    have hpn := hp.le
    obtain ⟨pb, po, pv, rfl, hpv, hatp, hpg⟩ := hp.kid (i := 0) (by simp)
    obtain rfl : pv = .int .i64 (j : Int) := by simpa [ints] using hpv.symm
    have hpt := hp.from (l := 1) (by simp)
    rw [show (ints ((j : Int) :: is)).drop (1 * 1) = ints is from rfl] at hpt
    obtain ⟨kb, ko, ke, hpk, hlk, hatk, hrk, hgk⟩ := hsl.kidTm hkl (i := j) hj hj
    subst hpk
    have hok := hrk.one
    rw [mPut_go hj]
    simp only [List.length_cons] at hpt ⊢
    refine fn_enter Try.func62 rfl Try.ntmps62 Try.results62 rfl ?_
    intro w0
    refine tri_seq ?_
    refine tri_region ?_
    (refine seq_step (step_box_a rfl rfl) rfl ?_; rintro _ ⟨b3, rfl⟩)
    (refine seq_step (step_box_a rfl rfl) rfl ?_; rintro _ ⟨b4, rfl⟩)
    (refine seq_step (step_alloc rfl) rfl ?_; rintro _ ⟨b5, rfl⟩)
    refine seq_done ?_
    refine nrm_seq ?_
    refine tri_seq ?_
    refine tri_seq ?_
    refine tri_region ?_
    refine seq_pure (pure_move rfl) rfl rfl ?_
    refine seq_pure (pure_len rfl rfl) rfl rfl ?_
    refine seq_pure (pure_eql_f rfl rfl (by omega)) rfl rfl ?_
    refine seq_done ?_
    refine nrm_seq ?_
    refine tri_cond_f rfl ?_
    refine tri_skip ?_
    refine nrm_seq ?_
    refine tri_seq ?_
    refine tri_region ?_
    refine seq_load (load_ba rfl rfl (by repeat (first | exact List.Mem.head _ | apply List.Mem.tail)) (by rfl)) rfl rfl ?_
    (refine seq_imm rfl hC rfl rfl (fun v G1 hle1 hh => ?_); obtain ⟨cells1, F1, rfl, hs1, hn1⟩ := hh; simp only [STm] at hs1; obtain ⟨tc, fc, p1, c1, es1, Ft, Ff, Fs, rfl, _, _, _, ht1, hf1, hsl1, hkl1, rfl, hg1⟩ := hs1; obtain ⟨p7, c7, rfl, _⟩ := ht1.open; obtain ⟨p8, c8, rfl, _⟩ := hf1.open; simp only [Ty.k, Ty.ks, List.cons_append, List.nil_append]; obtain ⟨bc, A, C, rfl, hgb⟩ := hsl1.sl.blk (fun h0 => by have hq := hsl1.sl.1; rw [h0] at hq; simp at hq; omega); have hc1 := hsl1.sl.2.1; have hm1 := hsl1.sl.2.2.1; have hGb : G bc = none := Dif.out (by rw [hgb]; simp); have hGle : IMle G (Wo G1 [bc]) := Wo.keep hle1 (fun b hb => by simp at hb; subst hb; exact hGb); have hih := ih ks[j] x y (Wo G1 [bc]) ke xcells _ _ haj (Tm.smallL_mem hks _ (List.getElem_mem hj)) hxs (hrk.mono hGle) (hx.mono hGle) (by rw [show is.length = (((j : Int) :: is).length - 1) from rfl]; exact hpt.mono hGle))
    (refine seq_step (step_alloc rfl) rfl ?_; rintro _ ⟨b23, rfl⟩)
    refine seq_store rfl rfl rfl rfl rfl rfl (by repeat (first | exact Sw.here | apply Sw.there)) (by rfl) ?_
    refine seq_done ?_
    refine nrm_seq ?_
    refine tri_seq ?_
    (refine tri_thaw [(bc, A ++ (es1.flatten ++ C))] (by simp) (by simp only [List.mem_singleton, forall_eq]; exact ⟨Dif.le _ _ _ _ hgb, hGb⟩) ?_; refine tri_draw mixed rfl ?_)
    refine any_pure (i := 0) (listed' := [true, false, false, false, false, false, false, false, false, false, false, false, false, false, false, false, false, false]) rfl (by repeat (first | exact np_ret | exact np_cut | apply np_seq | apply np_block | apply np_loopN')) (pure_fieldAddr0 rfl) rfl (by kernel_rfl) rfl rfl ?_
    refine any_load (i := 1) (listed' := [true, true, false, false, false, false, false, false, false, false, false, false, false, false, false, false, false, false]) rfl (by repeat (first | exact np_ret | exact np_cut | apply np_seq | apply np_block | apply np_loopN')) (load_bs rfl rfl (by repeat (first | exact List.Mem.head _ | apply List.Mem.tail)) (by rfl)) rfl (by kernel_rfl) rfl rfl ?_
    refine any_pure (i := 2) (listed' := [true, true, true, false, false, false, false, false, false, false, false, false, false, false, false, false, false, false]) rfl (by repeat (first | exact np_ret | exact np_cut | apply np_seq | apply np_block | apply np_loopN')) (pure_move rfl) rfl (by kernel_rfl) rfl rfl ?_
    refine any_pure (i := 3) (listed' := [true, true, true, true, false, false, false, false, false, false, false, false, false, false, false, false, false, false]) rfl (by repeat (first | exact np_ret | exact np_cut | apply np_seq | apply np_block | apply np_loopN')) (pure_indexAddrN (j := 0) rfl rfl rfl (by omega)) rfl (by kernel_rfl) rfl rfl ?_
    refine any_load (i := 4) (listed' := [true, true, true, true, true, false, false, false, false, false, false, false, false, false, false, false, false, false]) rfl (by repeat (first | exact np_ret | exact np_cut | apply np_seq | apply np_block | apply np_loopN')) (load_s rfl rfl (At.mono' hGle (hatp []))) rfl (by kernel_rfl) rfl rfl ?_
    refine any_pure (i := 5) (listed' := [true, true, true, true, true, true, false, false, false, false, false, false, false, false, false, false, false, false]) rfl (by repeat (first | exact np_ret | exact np_cut | apply np_seq | apply np_block | apply np_loopN')) (pure_fieldAddr0 rfl) rfl (by kernel_rfl) rfl rfl ?_
    refine any_load (i := 6) (listed' := [true, true, true, true, true, true, true, false, false, false, false, false, false, false, false, false, false, false]) rfl (by repeat (first | exact np_ret | exact np_cut | apply np_seq | apply np_block | apply np_loopN')) (load_bs rfl rfl (by repeat (first | exact List.Mem.head _ | apply List.Mem.tail)) (by rfl)) rfl (by kernel_rfl) rfl rfl ?_
    refine any_pure (i := 7) (listed' := [true, true, true, true, true, true, true, true, false, false, false, false, false, false, false, false, false, false]) rfl (by repeat (first | exact np_ret | exact np_cut | apply np_seq | apply np_block | apply np_loopN')) (pure_move rfl) rfl (by kernel_rfl) rfl rfl ?_
    refine any_pure (i := 8) (listed' := [true, true, true, true, true, true, true, true, true, false, false, false, false, false, false, false, false, false]) rfl (by repeat (first | exact np_ret | exact np_cut | apply np_seq | apply np_block | apply np_loopN')) (pure_indexAddrN (j := 0) rfl rfl rfl (by omega)) rfl (by kernel_rfl) rfl rfl ?_
    refine any_load (i := 9) (listed' := [true, true, true, true, true, true, true, true, true, true, false, false, false, false, false, false, false, false]) rfl (by repeat (first | exact np_ret | exact np_cut | apply np_seq | apply np_block | apply np_loopN')) (load_s rfl rfl (At.mono' hGle (hatp []))) rfl (by kernel_rfl) rfl rfl ?_
    refine any_pure (i := 10) (listed' := [true, true, true, true, true, true, true, true, true, true, true, false, false, false, false, false, false, false]) rfl (by repeat (first | exact np_ret | exact np_cut | apply np_seq | apply np_block | apply np_loopN')) (pure_indexAddrN (j := j) rfl rfl rfl (by omega)) rfl (by kernel_rfl) rfl rfl ?_
    refine any_load (i := 11) (listed' := [true, true, true, true, true, true, true, true, true, true, true, true, false, false, false, false, false, false]) rfl (by repeat (first | exact np_ret | exact np_cut | apply np_seq | apply np_block | apply np_loopN')) (load_a rfl rfl (At.mono' hGle (hatk [])) hlk) rfl (by kernel_rfl) rfl rfl ?_
    refine any_pure (i := 12) (listed' := [true, true, true, true, true, true, true, true, true, true, true, true, true, false, false, false, false, false]) rfl (by repeat (first | exact np_ret | exact np_cut | apply np_seq | apply np_block | apply np_loopN')) (pure_move rfl) rfl (by kernel_rfl) rfl rfl ?_
    refine any_pure (i := 13) (listed' := [true, true, true, true, true, true, true, true, true, true, true, true, true, true, false, false, false, false]) rfl (by repeat (first | exact np_ret | exact np_cut | apply np_seq | apply np_block | apply np_loopN')) (pure_slice_from (l := 1) rfl rfl rfl (by omega)) rfl (by kernel_rfl) rfl rfl ?_
    refine any_load (i := 14) (listed' := [true, true, true, true, true, true, true, true, true, true, true, true, true, true, true, false, false, false]) rfl (by repeat (first | exact np_ret | exact np_cut | apply np_seq | apply np_block | apply np_loopN')) (load_a rfl rfl (at_blk_all (by repeat (first | exact List.Mem.head _ | apply List.Mem.tail))) (by assumption)) rfl (by kernel_rfl) rfl rfl ?_
    refine any_one (j := 15) (by kernel_rfl) ?_
    (refine one_imm (listed' := [true, true, true, true, true, true, true, true, true, true, true, true, true, true, true, true, false, false]) rfl rfl hih rfl rfl rfl (fun v2 G2 hle2 hh => ?_); obtain ⟨yc, F', rfl, hsy, hny⟩ := hh; have hly := hsy.R.len; have hoy := hsy.R.one)
    refine any_pure (i := 16) (listed' := [true, true, true, true, true, true, true, true, true, true, true, true, true, true, true, true, true, false]) rfl (by repeat (first | exact np_ret | exact np_cut | apply np_seq | apply np_block | apply np_loopN')) (pure_indexAddrN (j := j) rfl rfl rfl (by omega)) rfl (by kernel_rfl) rfl rfl ?_
    refine any_one (j := 17) (by kernel_rfl) ?_
    refine one_store rfl rfl rfl rfl hly hoy rfl rfl (by kernel_rfl) (by repeat (first | exact Sw.here | apply Sw.there)) (by exact upd_setA (by rw [hkl1.R.len]; omega) (fun e he => (hsl1.all e he)) hly) ?_
    refine any_done (by kernel_rfl) ?_
    refine nrm_seq ?_
    refine tri_seq ?_
    refine tri_region ?_
    refine seq_load (load_ba rfl rfl (by repeat (first | exact List.Mem.head _ | apply List.Mem.tail)) (by rfl)) rfl rfl ?_
    refine seq_store rfl rfl rfl rfl rfl rfl (by repeat (first | exact Sw.here | apply Sw.there)) (by rfl) ?_
    refine seq_done ?_
    refine nrm_seq ?_
    (refine tri_freezes (bs := [(bc, A ++ ((es1.set j yc).flatten ++ C))]) (Pk.perm (by repeat (first | exact Pk.here | apply Pk.there))) (fun hn2 hd2 hle3 => ?_))
    refine tri_ret ?_
    refine ret_fin1 (res_cell rfl (load_ba rfl rfl (by repeat (first | exact List.Mem.head _ | apply List.Mem.tail)) (by rfl))) ?_
    (obtain ⟨F, hf1, hf2⟩ := STm.repl (nm := nm) (j := j) hk hnum hlb hle1 ht1 hf1 hkl1 hgb (by simpa [vfp] using hn1) hj hc1 hm1 hle2 hsy hny (hd2 _ List.mem_cons_self) hle3 (Wi.in hn2 List.mem_cons_self); rw [List.length_set] at hf1; exact ⟨rfl, _, F, rfl, hf1, hf2⟩)
end Gw
end Go.Proofs.Ytlefgfdhlblahaa
