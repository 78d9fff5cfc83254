/-
  Nodes replaced: the program's put, the reference model's l16Replace. The reference model's replacing of nodes. ReplaceAt: the program's and the reference model's. Nodes at paths, in plain words: paths concatenate. Replacing a node, in plain words: what is put is found, and putting back undoes. TypeSame, TermSame: the same data is the same. The law that replacements are found: its walk. Slices of numbers read as arguments. Slices of bytes read as arguments.
-/
import Derived.Test.YteneckdjdfnjoaaKa6
import Derived.Test.YteneckdjdfnjoaaKa5
import Derived.Test.YteneckdjdfnjoaaKa1
import Derived.Test.YteneckdjdfnjoaaKa7
import Derived.Test.YteneckdjdfnjoaaKa2
namespace Go.Proofs.Yteneckdjdfnjoaa
open Go Go.RowKit
namespace Gw
set_option maxRecDepth 100000 in
theorem clone_tm (G : IM) (p : Option Addr) (n c : Nat) (es : List (List Value)) (h : SlE G p n c 9 es) (h0 : 0 < n) (hn : n ≤ 4294967296) :
  Fn Try.prog 60 [.slice p n c] [] G (fun G' v outs => G' = G ∧ ∃ p' c', v = .slice p' n c' ∧ outs = [.slc p' c' 28 9 n es.flatten]) := by
 obtain ⟨hl, hc, hm, hat⟩ := h.sl
 obtain ⟨b, o, full, rfl, hg, hv⟩ := hat.resolve_left (by omega)
 have ho : ∀ u ∈ es.flatten, u.oneCell' = true := by
  intro u hu
  obtain ⟨e, he, hue⟩ := List.mem_flatten.1 hu
  exact List.all_eq_true.1 (h.one e he) u hue
 refine fn_enter Try.func60 rfl Try.ntmps60 Try.results60 rfl ?_
 intro w0
 refine tri_seq ?_
 refine tri_region ?_
 refine seq_pure (pure_assign rfl) rfl rfl ?_
 refine seq_done ?_
 refine nrm_seq ?_
 refine tri_seq ?_
 refine tri_seq ?_
 refine tri_region ?_
 refine seq_pure (pure_move rfl) rfl rfl ?_
 refine seq_pure (pure_slnil_f rfl rfl rfl) rfl rfl ?_
 refine seq_done ?_
 refine nrm_seq ?_
 refine tri_cond_f rfl ?_
 refine tri_skip ?_
 refine nrm_seq ?_
 refine tri_seq ?_
 refine tri_region ?_
 (refine seq_step (step_buildSlice rfl rfl rfl (by omega) (by unfold maxLen; omega) rfl) rfl ?_; rintro _ ⟨b18, rfl⟩)
 refine seq_pure (pure_move rfl) rfl rfl ?_
 refine seq_append rfl rfl rfl rfl rfl (fun _ _ => by repeat (first | exact Sw.here | apply Sw.there)) (at_im hg hv) hl ho (by unfold maxLen; omega) (by omega) rfl (fun pn cn => ?_)
 refine seq_pure (pure_assign rfl) rfl rfl ?_
 refine seq_done ?_
 refine nrm_seq ?_
 refine tri_ret ?_
 refine ret_own1 (res_tmp rfl) SubH.refl ?_
 exact ⟨rfl, _, _, by rw [Nat.zero_add], by rw [Nat.zero_add]; rfl⟩
set_option maxHeartbeats 0 in
set_option maxRecDepth 100000 in
theorem put_fn : ∀ (path : List Int) (t x y : Tm) (G : IM) (cells xcells : List Value) (p : Option Addr) (c : Nat), tAt t path = some y → t.small → RTm G t cells → RTm G x xcells → Sl G p path.length c 1 (ints path) →
  Fn Try.prog 34 [.agg ⟨cells⟩, .slice p path.length c, .agg ⟨xcells⟩] [] G (Imm fun G' v => ∃ cells', v = .agg ⟨cells'⟩ ∧ RTm G' (mPut t path x) cells') := by
 intro path
 induction path with
 | nil =>
  intro t x y G cells xcells p c hat hts hr hx hp
  have hl := hr.len
  have hone := hr.one
  have hlx := hx.len
  have hox := hx.one
  simp only [List.length_nil]
  refine fn_enter Try.func34 rfl Try.ntmps34 Try.results34 rfl ?_
  intro w0
  refine tri_seq ?_
  refine tri_region ?_
  (refine seq_step (step_box_a rfl rfl) rfl ?_; rintro _ ⟨b3, rfl⟩)
  (refine seq_step (step_box_a rfl rfl) rfl ?_; rintro _ ⟨b4, rfl⟩)
  (refine seq_step (step_alloc rfl) rfl ?_; rintro _ ⟨b5, rfl⟩)
  refine seq_done ?_
  refine nrm_seq ?_
  refine tri_seq ?_
  refine tri_seq ?_
  refine tri_region ?_
  refine seq_pure (pure_move rfl) rfl rfl ?_
  refine seq_pure (pure_len rfl rfl) rfl rfl ?_
  refine seq_pure (pure_eql_t rfl rfl (by omega)) rfl rfl ?_
  refine seq_done ?_
  refine nrm_seq ?_
  refine tri_cond_t rfl ?_
  refine tri_seq ?_
  refine tri_region ?_
  refine seq_load (load_a rfl rfl (at_blk_all (by repeat (first | exact List.Mem.head _ | apply List.Mem.tail))) (by assumption)) rfl rfl ?_
  refine seq_store rfl rfl rfl hlx hox rfl (by repeat (first | exact Sw.here | apply Sw.there)) (by exact upd_all hlx.symm) ?_
  refine seq_done ?_
  refine nrm_seq ?_
  refine tri_ret ?_
  refine ret_seq ?_
  refine ret_fin1 (res_cell rfl (load_a rfl rfl (at_blk_all (by repeat (first | exact List.Mem.head _ | apply List.Mem.tail))) hlx)) ?_
  exact ⟨rfl, xcells, rfl, by rw [mPut_nil]; exact hx⟩
 | cons i is ih =>
  intro t x y G cells xcells p c hat hts hr hx hp
  have hone := hr.one
  have hlx := hx.len
  have hox := hx.one
  obtain ⟨k, nm, num, ⟨tk, tks⟩, ⟨fk, fks⟩, lb, ks⟩ := t
  obtain ⟨j, rfl, hj, haj⟩ := tAt_some hat
  simp only [Tm.ks] at hj haj
  simp only [Tm.small] at hts
  obtain ⟨hnm, hty', hfr', hsm, hks⟩ := hts
  obtain ⟨pt, ct, pf, cf, pk, ck, es, rfl, hk, hnum, hlb, hty, hfr, hsl, hkl⟩ := hr.open9
  have hn := hsl.le
  have hpn := hp.le
  have hC := clone_tm G pk ks.length ck es hsl (by omega) hsm
  obtain ⟨pb, po, pv, rfl, hpv, hatp, hpg⟩ := hp.kid (i := 0) (by simp)
  obtain rfl : pv = .int .i64 (j : Int) := by simpa [ints] using hpv.symm
  have hpt := hp.from (l := 1) (by simp)
  rw [show (ints ((j : Int) :: is)).drop (1 * 1) = ints is from rfl] at hpt
  obtain ⟨kb, ko, ke, hpk, hlk, hatk, hrk, hgk⟩ := hsl.kidTm hkl (i := j) hj hj
  subst hpk
  have hok := hrk.one
  have hih := ih ks[j] x y G ke xcells _ _ haj (Tm.smallL_mem hks _ (List.getElem_mem hj)) hrk hx (by rw [show is.length = (((j : Int) :: is).length - 1) from rfl]; exact hpt)
  rw [mPut_go hj]
  simp only [List.length_cons] at hih hpt ⊢
  refine fn_enter Try.func34 rfl Try.ntmps34 Try.results34 rfl ?_
  intro w0
  refine tri_seq ?_
  refine tri_region ?_
  (refine seq_step (step_box_a rfl rfl) rfl ?_; rintro _ ⟨b3, rfl⟩)
  (refine seq_step (step_box_a rfl rfl) rfl ?_; rintro _ ⟨b4, rfl⟩)
  (refine seq_step (step_alloc rfl) rfl ?_; rintro _ ⟨b5, rfl⟩)
  refine seq_done ?_
  refine nrm_seq ?_
  refine tri_seq ?_
  refine tri_seq ?_
  refine tri_region ?_
  refine seq_pure (pure_move rfl) rfl rfl ?_
  refine seq_pure (pure_len rfl rfl) rfl rfl ?_
  refine seq_pure (pure_eql_f rfl rfl (by omega)) rfl rfl ?_
  refine seq_done ?_
  refine nrm_seq ?_
  refine tri_cond_f rfl ?_
  refine tri_skip ?_
  refine nrm_seq ?_
  refine tri_seq ?_
  refine tri_region ?_
  refine seq_load (load_ba rfl rfl (by repeat (first | exact List.Mem.head _ | apply List.Mem.tail)) (by rfl)) rfl rfl ?_
  (refine seq_step (step_alloc rfl) rfl ?_; rintro _ ⟨b22, rfl⟩)
  refine seq_store rfl rfl rfl rfl rfl rfl (by repeat (first | exact Sw.here | apply Sw.there)) (by rfl) ?_
  refine seq_done ?_
  refine nrm_seq ?_
  refine tri_seq ?_
  refine tri_region ?_
  refine seq_pure (pure_fieldAddr0 rfl) rfl rfl ?_
  refine seq_load (load_bs rfl rfl (by repeat (first | exact List.Mem.head _ | apply List.Mem.tail)) (by rfl)) rfl rfl ?_
  (refine seq_own rfl hC rfl rfl (fun v30 G30 outs30 hle30 h30 => ?_); obtain ⟨hG, p1, c1, rfl, rfl⟩ := h30; replace hG := hG.symm; subst hG; refine triL_open (cs := es.flatten) (by repeat (first | exact Pk.here | apply Pk.there)) (by omega) (fun bc C hpe hnc hcm => ?_); subst hpe)
  replace hx := hx.mono hle30
  replace hty := hty.mono hle30
  replace hfr := hfr.mono hle30
  replace hkl := hkl.mono hle30
  replace hp := hp.mono hle30
  replace hpt := hpt.mono hle30
  replace hrk := hrk.mono hle30
  replace hr := hr.mono hle30
  replace hsl := hsl.mono hle30
  refine seq_pure (pure_fieldAddr0 rfl) rfl rfl ?_
  refine seq_store rfl rfl rfl rfl rfl rfl (by repeat (first | exact Sw.here | apply Sw.there)) (by rfl) ?_
  refine seq_done ?_
  refine nrm_seq ?_
  refine tri_seq ?_
  refine tri_draw mixed rfl ?_
  refine any_pure (i := 0) (listed' := [tt,ff,ff,ff,ff,ff,ff,ff,ff,ff,ff,ff,ff,ff,ff,ff,ff,ff]) rfl (by repeat (first | exact np_ret | apply np_seq | apply np_block | apply np_loopN')) (pure_fieldAddr0 rfl) rfl (by kernel_rfl) rfl rfl ?_
  refine any_load (i := 1) (listed' := [tt,tt,ff,ff,ff,ff,ff,ff,ff,ff,ff,ff,ff,ff,ff,ff,ff,ff]) rfl (by repeat (first | exact np_ret | apply np_seq | apply np_block | apply np_loopN')) (load_bs rfl rfl (by repeat (first | exact List.Mem.head _ | apply List.Mem.tail)) (by rfl)) rfl (by kernel_rfl) rfl rfl ?_
  refine any_pure (i := 2) (listed' := [tt,tt,tt,ff,ff,ff,ff,ff,ff,ff,ff,ff,ff,ff,ff,ff,ff,ff]) rfl (by repeat (first | exact np_ret | apply np_seq | apply np_block | apply np_loopN')) (pure_move rfl) rfl (by kernel_rfl) rfl rfl ?_
  refine any_pure (i := 3) (listed' := [tt,tt,tt,tt,ff,ff,ff,ff,ff,ff,ff,ff,ff,ff,ff,ff,ff,ff]) rfl (by repeat (first | exact np_ret | apply np_seq | apply np_block | apply np_loopN')) (pure_indexAddrN (j := 0) rfl rfl rfl (by omega)) rfl (by kernel_rfl) rfl rfl ?_
  refine any_load (i := 4) (listed' := [tt,tt,tt,tt,tt,ff,ff,ff,ff,ff,ff,ff,ff,ff,ff,ff,ff,ff]) rfl (by repeat (first | exact np_ret | apply np_seq | apply np_block | apply np_loopN')) (load_s rfl rfl (hatp _)) rfl (by kernel_rfl) rfl rfl ?_
  refine any_pure (i := 5) (listed' := [tt,tt,tt,tt,tt,tt,ff,ff,ff,ff,ff,ff,ff,ff,ff,ff,ff,ff]) rfl (by repeat (first | exact np_ret | apply np_seq | apply np_block | apply np_loopN')) (pure_fieldAddr0 rfl) rfl (by kernel_rfl) rfl rfl ?_
  refine any_load (i := 6) (listed' := [tt,tt,tt,tt,tt,tt,tt,ff,ff,ff,ff,ff,ff,ff,ff,ff,ff,ff]) rfl (by repeat (first | exact np_ret | apply np_seq | apply np_block | apply np_loopN')) (load_bs rfl rfl (by repeat (first | exact List.Mem.head _ | apply List.Mem.tail)) (by rfl)) rfl (by kernel_rfl) rfl rfl ?_
  refine any_pure (i := 7) (listed' := [tt,tt,tt,tt,tt,tt,tt,tt,ff,ff,ff,ff,ff,ff,ff,ff,ff,ff]) rfl (by repeat (first | exact np_ret | apply np_seq | apply np_block | apply np_loopN')) (pure_move rfl) rfl (by kernel_rfl) rfl rfl ?_
  refine any_pure (i := 8) (listed' := [tt,tt,tt,tt,tt,tt,tt,tt,tt,ff,ff,ff,ff,ff,ff,ff,ff,ff]) rfl (by repeat (first | exact np_ret | apply np_seq | apply np_block | apply np_loopN')) (pure_indexAddrN (j := 0) rfl rfl rfl (by omega)) rfl (by kernel_rfl) rfl rfl ?_
  refine any_load (i := 9) (listed' := [tt,tt,tt,tt,tt,tt,tt,tt,tt,tt,ff,ff,ff,ff,ff,ff,ff,ff]) rfl (by repeat (first | exact np_ret | apply np_seq | apply np_block | apply np_loopN')) (load_s rfl rfl (hatp _)) rfl (by kernel_rfl) rfl rfl ?_
  refine any_pure (i := 10) (listed' := [tt,tt,tt,tt,tt,tt,tt,tt,tt,tt,tt,ff,ff,ff,ff,ff,ff,ff]) rfl (by repeat (first | exact np_ret | apply np_seq | apply np_block | apply np_loopN')) (pure_indexAddrN (j := j) rfl rfl rfl (by omega)) rfl (by kernel_rfl) rfl rfl ?_
  refine any_load (i := 11) (listed' := [tt,tt,tt,tt,tt,tt,tt,tt,tt,tt,tt,tt,ff,ff,ff,ff,ff,ff]) rfl (by repeat (first | exact np_ret | apply np_seq | apply np_block | apply np_loopN')) (load_a rfl rfl (hatk _) hlk) rfl (by kernel_rfl) rfl rfl ?_
  refine any_pure (i := 12) (listed' := [tt,tt,tt,tt,tt,tt,tt,tt,tt,tt,tt,tt,tt,ff,ff,ff,ff,ff]) rfl (by repeat (first | exact np_ret | apply np_seq | apply np_block | apply np_loopN')) (pure_move rfl) rfl (by kernel_rfl) rfl rfl ?_
  refine any_pure (i := 13) (listed' := [tt,tt,tt,tt,tt,tt,tt,tt,tt,tt,tt,tt,tt,tt,ff,ff,ff,ff]) rfl (by repeat (first | exact np_ret | apply np_seq | apply np_block | apply np_loopN')) (pure_slice_from (l := 1) rfl rfl rfl (by omega)) rfl (by kernel_rfl) rfl rfl ?_
  refine any_load (i := 14) (listed' := [tt,tt,tt,tt,tt,tt,tt,tt,tt,tt,tt,tt,tt,tt,tt,ff,ff,ff]) rfl (by repeat (first | exact np_ret | apply np_seq | apply np_block | apply np_loopN')) (load_a rfl rfl (at_blk_all (by repeat (first | exact List.Mem.head _ | apply List.Mem.tail))) (by assumption)) rfl (by kernel_rfl) rfl rfl ?_
  refine any_one (j := 15) (by kernel_rfl) ?_
  (refine one_imm (listed' := [tt,tt,tt,tt,tt,tt,tt,tt,tt,tt,tt,tt,tt,tt,tt,tt,ff,ff]) rfl rfl hih rfl rfl rfl (fun v1 G1 hle1 hh => ?_); obtain ⟨yc, rfl, hry⟩ := hh; have hly := hry.len; have hoy := hry.one)
  refine any_pure (i := 16) (listed' := [tt,tt,tt,tt,tt,tt,tt,tt,tt,tt,tt,tt,tt,tt,tt,tt,tt,ff]) rfl (by repeat (first | exact np_ret | apply np_seq | apply np_block | apply np_loopN')) (pure_indexAddrN (j := j) rfl rfl rfl (by omega)) rfl (by kernel_rfl) rfl rfl ?_
  refine any_one (j := 17) (by kernel_rfl) ?_
  refine one_store rfl rfl rfl rfl hly hoy rfl rfl (by kernel_rfl) (by repeat (first | exact Sw.here | apply Sw.there)) (by exact upd_set (by rw [hkl.len]; omega) (fun e he => (hsl.all e he)) hly) ?_
  refine any_done (by kernel_rfl) ?_
  refine nrm_seq ?_
  refine tri_seq ?_
  refine tri_region ?_
  refine seq_load (load_ba rfl rfl (by repeat (first | exact List.Mem.head _ | apply List.Mem.tail)) (by rfl)) rfl rfl ?_
  refine seq_store rfl rfl rfl rfl rfl rfl (by repeat (first | exact Sw.here | apply Sw.there)) (by rfl) ?_
  refine seq_done ?_
  refine nrm_seq ?_
  (refine tri_freezes (bs := [(bc, (es.set j yc).flatten ++ C)]) (Pk.perm (by repeat (first | exact Pk.here | apply Pk.there))) (fun hn2 hd2 hle2 => ?_))
  refine tri_ret ?_
  refine ret_fin1 (res_cell rfl (load_ba rfl rfl (by repeat (first | exact List.Mem.head _ | apply List.Mem.tail)) (by rfl))) ?_
  (have hks2 := RTmL.set (j := j) ((hkl.mono hle1).mono hle2) (hry.mono hle2); refine ⟨rfl, _, rfl, ?_⟩; simp only [RTm]; exact ⟨_, _, _, _, es.set j yc, by rw [List.length_set]; rfl, hk, hnum, hlb, (hty.mono hle1).mono hle2, (hfr.mono hle1).mono hle2, SlE.of (Sl.of_blk (A := []) (by rw [flat_len hks2.all, hks2.len]) (by rw [List.length_set]; omega) hcm (Wi.in hn2 List.mem_cons_self)) hks2.len hks2.all (fun e he => by obtain ⟨q, hq⟩ := List.getElem?_of_mem he; exact (hks2.inv hq tm0).2.one), hks2⟩)
end Gw
end Go.Proofs.Yteneckdjdfnjoaa
namespace Go.Proofs.Yteneckdjdfnjoaa
open Go Go.RowKit
namespace Gw
theorem upd_setA {A C : List Value} {es : List (List Value)} {vs : List Value} {j sz : Nat} (hj : j < es.length) (ha : ∀ e ∈ es, e.length = sz) (hv : vs.length = sz) : upd (A ++ (es.flatten ++ C)) (A.length + j * sz) vs = some (A ++ ((es.set j vs).flatten ++ C)) := by
 have h := upd_el (A := A) (D := es.take j) (e := es[j]) (e' := vs) (R := (es.drop (j + 1)).flatten ++ C) (vs := vs) (i := j) (sz := sz) (off := 0)
  (by rw [List.length_take]; omega) (fun e he => ha e (List.mem_of_mem_take he)) (upd_all (by rw [ha _ (List.getElem_mem hj), hv]))
 rw [flat_at hj, flat_set hj]
 simp only [List.append_assoc, Nat.add_zero] at h ⊢
 exact h
theorem At.mono' {hp : List Ent} {G G' : IM} {b o : Nat} {vs : List Value} (hg : IMle G G') (h : At [] G b o vs) : At hp G' b o vs := by
 rcases h with ⟨cs, hm, hv⟩ | ⟨n, c, el, sz, cs, hm, hv⟩ | ⟨full, hx, hv⟩
 ·cases hm
 ·cases hm
 ·exact .inr (.inr ⟨full, hg _ _ hx, hv⟩)
theorem STm.repl {G G1 G2 G3 : IM} {bc j c : Nat} {k num lb : Int} {nm : ByteArray} {ty fr : Ty} {ks : List Tm} {y : Tm} {tc fc A C yc : List Value} {es : List (List Value)} {Ft Ff Fs F' : List Nat}
  (hk : I64 k) (hnum : I64 num) (hlb : I64 lb) (hle1 : IMle G G1) (ht : STy (Dif G1 G) ty tc Ft) (hf : STy (Dif G1 G) fr fc Ff) (hkl : STmL (Dif G1 G) ks es Fs) (hg : Dif G1 G bc = some (A ++ (es.flatten ++ C)))
  (hn : (Ft ++ (Ff ++ ([bc] ++ Fs))).Nodup) (hj : j < ks.length) (hc : ks.length ≤ c) (hm : c ≤ maxLen) (hle2 : IMle (Wo G1 [bc]) G2) (hy : STm (Dif G2 (Wo G1 [bc])) y yc F') (hn' : F'.Nodup) (hd : G2 bc = none)
  (hle3 : IMle G2 G3) (h3 : G3 bc = some (A ++ ((es.set j yc).flatten ++ C))) :
  ∃ F, STm (Dif G3 G) (.mk k nm num ty fr lb (ks.set j y)) ([.int .i64 k, .string nm, .int .i64 num] ++ tc ++ fc ++ [.int .i64 lb, .slice (some ⟨bc, A.length, none⟩) (ks.set j y).length c]) F ∧ F.Nodup := by
 have hGb : G bc = none := Dif.out (by rw [hg]; simp)
 rw [List.nodup_append, List.nodup_append, List.nodup_append] at hn
 obtain ⟨n1, ⟨n2, ⟨_, n4, d1⟩, d2⟩, d3⟩ := hn
 have hbt : ∀ x ∈ Ft, x ∉ [bc] := fun x hx hb => d3 x hx x (by simp at hb; subst hb; simp) rfl
 have hbf : ∀ x ∈ Ff, x ∉ [bc] := fun x hx hb => d2 x hx x (by simp at hb; subst hb; simp) rfl
 have hbs : ∀ x ∈ Fs, x ∉ [bc] := fun x hx hb => d1 x hb x hx rfl
 have hH : IMle (Wo (Dif G1 G) [bc]) (Dif G3 G) := by
  intro x l hx
  obtain ⟨h1, h2⟩ := Wo.get hx
  have hgx : G x = none := Dif.out (by rw [h1]; simp)
  have h4 : G3 x = some l := hle3 _ _ (hle2 _ _ (by rw [Wo.at h2]; exact Dif.le _ _ _ _ h1))
  simp [Dif, hgx, h4]
 have hGle : IMle G (Wo G1 [bc]) := Wo.keep hle1 (fun b hb => by simp at hb; subst hb; exact hGb)
 have hyH : IMle (Dif G2 (Wo G1 [bc])) (Dif G3 G) := fun b l h => Dif.mono hle3 b l (Dif.anti hGle b l h)
 have hl := hkl.R.len
 obtain ⟨F2, s1, s2, s3⟩ := STmL.set (j := j) ((hkl.wo hbs).mono hH) (hy.mono hyH) hj
 have hF' : ∀ x ∈ F', Wo G1 [bc] x = none ∧ G2 x ≠ none := fun x hx => by
  have := hy.inG x hx
  refine ⟨Dif.out this, fun h => this ?_⟩
  cases hq : Dif G2 (Wo G1 [bc]) x with
  | none => rfl
  | some l => rw [Dif.le _ _ _ _ hq] at h; cases h
 have old : ∀ {x : Nat}, Dif G1 G x ≠ none → x ∉ [bc] → x ∉ F' := fun {x} h1 h2 h3 => by
  have h4 := (hF' x h3).1
  rw [Wo.at h2] at h4
  exact h1 (none_le (Dif.le G1 G) h4)
 have dbF : bc ∉ F' := fun h => (hF' bc h).2 hd
 have hin : Dif G3 G bc = some (A ++ ((es.set j yc).flatten ++ C)) := by simp [Dif, hGb, h3]
 have hR := s1.R
 refine ⟨Ft ++ (Ff ++ (vfp (some ⟨bc, A.length, none⟩) ++ F2)), ?_, ?_⟩
 ·simp only [STm]
  exact ⟨tc, fc, _, c, es.set j yc, Ft, Ff, F2, rfl, hk, hnum, hlb, (ht.wo hbt).mono hH, (hf.wo hbf).mono hH,
   SlE.of (Sl.of_blk (by rw [flat_len hR.all, hR.len]) (by rw [List.length_set]; exact hc) hm hin) hR.len hR.all (fun e he => by obtain ⟨q, hq⟩ := List.getElem?_of_mem he; exact (hR.inv hq tm0).2.one), s1, rfl,
   fun b hb => by simp [vfp] at hb; subst hb; rw [hin]; simp⟩
 ·rw [List.nodup_append, List.nodup_append, List.nodup_append]
  refine ⟨n1, ⟨n2, ⟨by simp [vfp], s3 n4 hn' (fun x hx => old (hkl.inG x hx) (hbs x hx)), ?_⟩, ?_⟩, ?_⟩
  ·rintro x hx z hz rfl
   simp [vfp] at hx; subst hx
   rcases s2 _ hz with hz | hz
   ·exact hbs _ hz (by simp)
   ·exact dbF hz
  ·rintro x hx z hz rfl
   rcases List.mem_append.1 hz with hz | hz
   ·exact hbf x hx (by simpa [vfp] using hz)
   ·rcases s2 _ hz with hz | hz
    ·exact d2 x hx x (List.mem_append_right _ hz) rfl
    ·exact old (hf.inG x hx) (hbf x hx) hz
  ·rintro x hx z hz rfl
   rcases List.mem_append.1 hz with hz | hz
   ·exact d3 x hx x (List.mem_append_left _ hz) rfl
   ·rcases List.mem_append.1 hz with hz | hz
    ·exact hbt x hx (by simpa [vfp] using hz)
    ·rcases s2 _ hz with hz | hz
     ·exact d3 x hx x (List.mem_append_right _ (List.mem_append_right _ hz)) rfl
     ·exact old (ht.inG x hx) (hbt x hx) hz
set_option maxHeartbeats 0 in
set_option maxRecDepth 100000 in
theorem l16Replace_fn : ∀ (path : List Int) (t x y : Tm) (G : IM) (cells xcells : List Value) (p : Option Addr) (c : Nat), tAt t path = some y → t.small → x.small → RTm G t cells → RTm G x xcells → Sl G p path.length c 1 (ints path) →
  Fn Try.prog 36 [.agg ⟨cells⟩, .slice p path.length c, .agg ⟨xcells⟩] [] G (ToTm (mPut t path x) G) := by
 intro path
 induction path with
 | nil =>
  intro t x y G cells xcells p c hat hts hxs hr hx hp
  have hl := hr.len
  have hone := hr.one
  have hlx := hx.len
  have hox := hx.one
  simp only [List.length_nil]
  refine fn_enter Try.func36 rfl Try.ntmps36 Try.results36 rfl ?_
  intro w0
  refine tri_seq ?_
  refine tri_region ?_
  (refine seq_step (step_box_a rfl rfl) rfl ?_; rintro _ ⟨b3, rfl⟩)
  (refine seq_step (step_box_a rfl rfl) rfl ?_; rintro _ ⟨b4, rfl⟩)
  (refine seq_step (step_alloc rfl) rfl ?_; rintro _ ⟨b5, rfl⟩)
  refine seq_done ?_
  refine nrm_seq ?_
  refine tri_seq ?_
  refine tri_seq ?_
  refine tri_region ?_
  refine seq_pure (pure_move rfl) rfl rfl ?_
  refine seq_pure (pure_len rfl rfl) rfl rfl ?_
  refine seq_pure (pure_eql_t rfl rfl (by omega)) rfl rfl ?_
  refine seq_done ?_
  refine nrm_seq ?_
  refine tri_cond_t rfl ?_
  refine tri_seq ?_
  refine tri_region ?_
  refine seq_load (load_a rfl rfl (at_blk_all (by repeat (first | exact List.Mem.head _ | apply List.Mem.tail))) (by assumption)) rfl rfl ?_
  (refine seq_imm rfl (l2Copy_fn x G xcells hxs hx) rfl rfl (fun v G3 hle3 hh => ?_); obtain ⟨cells', F', rfl, hs', hnd'⟩ := hh; have hl' := hs'.R.len; have ho' := hs'.R.one)
  refine seq_store rfl rfl rfl hl' ho' rfl (by repeat (first | exact Sw.here | apply Sw.there)) (by exact upd_all hl'.symm) ?_
  refine seq_done ?_
  refine nrm_seq ?_
  refine tri_ret ?_
  refine ret_seq ?_
  refine ret_fin1 (res_cell rfl (load_a rfl rfl (at_blk_all (by repeat (first | exact List.Mem.head _ | apply List.Mem.tail))) hl')) ?_
  (rw [mPut_nil]; exact ⟨rfl, cells', F', rfl, hs', hnd'⟩)
 | cons i is ih =>
  intro t x y G cells xcells p c hat hts hxs hr hx hp
  have hone := hr.one
  have hlx := hx.len
  have hox := hx.one
  have hC := l2Copy_fn t G cells hts hr
  obtain ⟨k, nm, num, ⟨tk, tks⟩, ⟨fk, fks⟩, lb, ks⟩ := t
  obtain ⟨j, rfl, hj, haj⟩ := tAt_some hat
  simp only [Tm.ks] at hj haj
  simp only [Tm.small] at hts
  obtain ⟨hnm, hty', hfr', hsm, hks⟩ := hts
  obtain ⟨pt, ct, pf, cf, pk, ck, es, rfl, hk, hnum, hlb, hty, hfr, hsl, hkl⟩ := hr.open9
  have hn := hsl.le
  have hpn := hp.le
  obtain ⟨pb, po, pv, rfl, hpv, hatp, hpg⟩ := hp.kid (i := 0) (by simp)
  obtain rfl : pv = .int .i64 (j : Int) := by simpa [ints] using hpv.symm
  have hpt := hp.from (l := 1) (by simp)
  rw [show (ints ((j : Int) :: is)).drop (1 * 1) = ints is from rfl] at hpt
  obtain ⟨kb, ko, ke, hpk, hlk, hatk, hrk, hgk⟩ := hsl.kidTm hkl (i := j) hj hj
  subst hpk
  have hok := hrk.one
  rw [mPut_go hj]
  simp only [List.length_cons] at hpt ⊢
  refine fn_enter Try.func36 rfl Try.ntmps36 Try.results36 rfl ?_
  intro w0
  refine tri_seq ?_
  refine tri_region ?_
  (refine seq_step (step_box_a rfl rfl) rfl ?_; rintro _ ⟨b3, rfl⟩)
  (refine seq_step (step_box_a rfl rfl) rfl ?_; rintro _ ⟨b4, rfl⟩)
  (refine seq_step (step_alloc rfl) rfl ?_; rintro _ ⟨b5, rfl⟩)
  refine seq_done ?_
  refine nrm_seq ?_
  refine tri_seq ?_
  refine tri_seq ?_
  refine tri_region ?_
  refine seq_pure (pure_move rfl) rfl rfl ?_
  refine seq_pure (pure_len rfl rfl) rfl rfl ?_
  refine seq_pure (pure_eql_f rfl rfl (by omega)) rfl rfl ?_
  refine seq_done ?_
  refine nrm_seq ?_
  refine tri_cond_f rfl ?_
  refine tri_skip ?_
  refine nrm_seq ?_
  refine tri_seq ?_
  refine tri_region ?_
  refine seq_load (load_ba rfl rfl (by repeat (first | exact List.Mem.head _ | apply List.Mem.tail)) (by rfl)) rfl rfl ?_
  (refine seq_imm rfl hC rfl rfl (fun v G1 hle1 hh => ?_); obtain ⟨cells1, F1, rfl, hs1, hn1⟩ := hh; simp only [STm] at hs1; obtain ⟨tc, fc, p1, c1, es1, Ft, Ff, Fs, rfl, _, _, _, ht1, hf1, hsl1, hkl1, rfl, hg1⟩ := hs1; obtain ⟨p7, c7, rfl, _⟩ := ht1.open; obtain ⟨p8, c8, rfl, _⟩ := hf1.open; simp only [Ty.k, Ty.ks, List.cons_append, List.nil_append]; obtain ⟨bc, A, C, rfl, hgb⟩ := hsl1.sl.blk (fun h0 => by have hq := hsl1.sl.1; rw [h0] at hq; simp at hq; omega); have hc1 := hsl1.sl.2.1; have hm1 := hsl1.sl.2.2.1; have hGb : G bc = none := Dif.out (by rw [hgb]; simp); have hGle : IMle G (Wo G1 [bc]) := Wo.keep hle1 (fun b hb => by simp at hb; subst hb; exact hGb); have hih := ih ks[j] x y (Wo G1 [bc]) ke xcells _ _ haj (Tm.smallL_mem hks _ (List.getElem_mem hj)) hxs (hrk.mono hGle) (hx.mono hGle) (by rw [show is.length = (((j : Int) :: is).length - 1) from rfl]; exact hpt.mono hGle))
  (refine seq_step (step_alloc rfl) rfl ?_; rintro _ ⟨b23, rfl⟩)
  refine seq_store rfl rfl rfl rfl rfl rfl (by repeat (first | exact Sw.here | apply Sw.there)) (by rfl) ?_
  refine seq_done ?_
  refine nrm_seq ?_
  refine tri_seq ?_
  (refine tri_thaw [(bc, A ++ (es1.flatten ++ C))] (by simp) (by simp only [List.mem_singleton, forall_eq]; exact ⟨Dif.le _ _ _ _ hgb, hGb⟩) ?_; refine tri_draw mixed rfl ?_)
  refine any_pure (i := 0) (listed' := [tt,ff,ff,ff,ff,ff,ff,ff,ff,ff,ff,ff,ff,ff,ff,ff,ff,ff]) rfl (by repeat (first | exact np_ret | exact np_cut | apply np_seq | apply np_block | apply np_loopN')) (pure_fieldAddr0 rfl) rfl (by kernel_rfl) rfl rfl ?_
  refine any_load (i := 1) (listed' := [tt,tt,ff,ff,ff,ff,ff,ff,ff,ff,ff,ff,ff,ff,ff,ff,ff,ff]) rfl (by repeat (first | exact np_ret | exact np_cut | apply np_seq | apply np_block | apply np_loopN')) (load_bs rfl rfl (by repeat (first | exact List.Mem.head _ | apply List.Mem.tail)) (by rfl)) rfl (by kernel_rfl) rfl rfl ?_
  refine any_pure (i := 2) (listed' := [tt,tt,tt,ff,ff,ff,ff,ff,ff,ff,ff,ff,ff,ff,ff,ff,ff,ff]) rfl (by repeat (first | exact np_ret | exact np_cut | apply np_seq | apply np_block | apply np_loopN')) (pure_move rfl) rfl (by kernel_rfl) rfl rfl ?_
  refine any_pure (i := 3) (listed' := [tt,tt,tt,tt,ff,ff,ff,ff,ff,ff,ff,ff,ff,ff,ff,ff,ff,ff]) rfl (by repeat (first | exact np_ret | exact np_cut | apply np_seq | apply np_block | apply np_loopN')) (pure_indexAddrN (j := 0) rfl rfl rfl (by omega)) rfl (by kernel_rfl) rfl rfl ?_
  refine any_load (i := 4) (listed' := [tt,tt,tt,tt,tt,ff,ff,ff,ff,ff,ff,ff,ff,ff,ff,ff,ff,ff]) rfl (by repeat (first | exact np_ret | exact np_cut | apply np_seq | apply np_block | apply np_loopN')) (load_s rfl rfl (At.mono' hGle (hatp []))) rfl (by kernel_rfl) rfl rfl ?_
  refine any_pure (i := 5) (listed' := [tt,tt,tt,tt,tt,tt,ff,ff,ff,ff,ff,ff,ff,ff,ff,ff,ff,ff]) rfl (by repeat (first | exact np_ret | exact np_cut | apply np_seq | apply np_block | apply np_loopN')) (pure_fieldAddr0 rfl) rfl (by kernel_rfl) rfl rfl ?_
  refine any_load (i := 6) (listed' := [tt,tt,tt,tt,tt,tt,tt,ff,ff,ff,ff,ff,ff,ff,ff,ff,ff,ff]) rfl (by repeat (first | exact np_ret | exact np_cut | apply np_seq | apply np_block | apply np_loopN')) (load_bs rfl rfl (by repeat (first | exact List.Mem.head _ | apply List.Mem.tail)) (by rfl)) rfl (by kernel_rfl) rfl rfl ?_
  refine any_pure (i := 7) (listed' := [tt,tt,tt,tt,tt,tt,tt,tt,ff,ff,ff,ff,ff,ff,ff,ff,ff,ff]) rfl (by repeat (first | exact np_ret | exact np_cut | apply np_seq | apply np_block | apply np_loopN')) (pure_move rfl) rfl (by kernel_rfl) rfl rfl ?_
  refine any_pure (i := 8) (listed' := [tt,tt,tt,tt,tt,tt,tt,tt,tt,ff,ff,ff,ff,ff,ff,ff,ff,ff]) rfl (by repeat (first | exact np_ret | exact np_cut | apply np_seq | apply np_block | apply np_loopN')) (pure_indexAddrN (j := 0) rfl rfl rfl (by omega)) rfl (by kernel_rfl) rfl rfl ?_
  refine any_load (i := 9) (listed' := [tt,tt,tt,tt,tt,tt,tt,tt,tt,tt,ff,ff,ff,ff,ff,ff,ff,ff]) rfl (by repeat (first | exact np_ret | exact np_cut | apply np_seq | apply np_block | apply np_loopN')) (load_s rfl rfl (At.mono' hGle (hatp []))) rfl (by kernel_rfl) rfl rfl ?_
  refine any_pure (i := 10) (listed' := [tt,tt,tt,tt,tt,tt,tt,tt,tt,tt,tt,ff,ff,ff,ff,ff,ff,ff]) rfl (by repeat (first | exact np_ret | exact np_cut | apply np_seq | apply np_block | apply np_loopN')) (pure_indexAddrN (j := j) rfl rfl rfl (by omega)) rfl (by kernel_rfl) rfl rfl ?_
  refine any_load (i := 11) (listed' := [tt,tt,tt,tt,tt,tt,tt,tt,tt,tt,tt,tt,ff,ff,ff,ff,ff,ff]) rfl (by repeat (first | exact np_ret | exact np_cut | apply np_seq | apply np_block | apply np_loopN')) (load_a rfl rfl (At.mono' hGle (hatk [])) hlk) rfl (by kernel_rfl) rfl rfl ?_
  refine any_pure (i := 12) (listed' := [tt,tt,tt,tt,tt,tt,tt,tt,tt,tt,tt,tt,tt,ff,ff,ff,ff,ff]) rfl (by repeat (first | exact np_ret | exact np_cut | apply np_seq | apply np_block | apply np_loopN')) (pure_move rfl) rfl (by kernel_rfl) rfl rfl ?_
  refine any_pure (i := 13) (listed' := [tt,tt,tt,tt,tt,tt,tt,tt,tt,tt,tt,tt,tt,tt,ff,ff,ff,ff]) rfl (by repeat (first | exact np_ret | exact np_cut | apply np_seq | apply np_block | apply np_loopN')) (pure_slice_from (l := 1) rfl rfl rfl (by omega)) rfl (by kernel_rfl) rfl rfl ?_
  refine any_load (i := 14) (listed' := [tt,tt,tt,tt,tt,tt,tt,tt,tt,tt,tt,tt,tt,tt,tt,ff,ff,ff]) rfl (by repeat (first | exact np_ret | exact np_cut | apply np_seq | apply np_block | apply np_loopN')) (load_a rfl rfl (at_blk_all (by repeat (first | exact List.Mem.head _ | apply List.Mem.tail))) (by assumption)) rfl (by kernel_rfl) rfl rfl ?_
  refine any_one (j := 15) (by kernel_rfl) ?_
  (refine one_imm (listed' := [tt,tt,tt,tt,tt,tt,tt,tt,tt,tt,tt,tt,tt,tt,tt,tt,ff,ff]) rfl rfl hih rfl rfl rfl (fun v2 G2 hle2 hh => ?_); obtain ⟨yc, F', rfl, hsy, hny⟩ := hh; have hly := hsy.R.len; have hoy := hsy.R.one)
  refine any_pure (i := 16) (listed' := [tt,tt,tt,tt,tt,tt,tt,tt,tt,tt,tt,tt,tt,tt,tt,tt,tt,ff]) rfl (by repeat (first | exact np_ret | exact np_cut | apply np_seq | apply np_block | apply np_loopN')) (pure_indexAddrN (j := j) rfl rfl rfl (by omega)) rfl (by kernel_rfl) rfl rfl ?_
  refine any_one (j := 17) (by kernel_rfl) ?_
  refine one_store rfl rfl rfl rfl hly hoy rfl rfl (by kernel_rfl) (by repeat (first | exact Sw.here | apply Sw.there)) (by exact upd_setA (by rw [hkl1.R.len]; omega) (fun e he => (hsl1.all e he)) hly) ?_
  refine any_done (by kernel_rfl) ?_
  refine nrm_seq ?_
  refine tri_seq ?_
  refine tri_region ?_
  refine seq_load (load_ba rfl rfl (by repeat (first | exact List.Mem.head _ | apply List.Mem.tail)) (by rfl)) rfl rfl ?_
  refine seq_store rfl rfl rfl rfl rfl rfl (by repeat (first | exact Sw.here | apply Sw.there)) (by rfl) ?_
  refine seq_done ?_
  refine nrm_seq ?_
  (refine tri_freezes (bs := [(bc, A ++ ((es1.set j yc).flatten ++ C))]) (Pk.perm (by repeat (first | exact Pk.here | apply Pk.there))) (fun hn2 hd2 hle3 => ?_))
  refine tri_ret ?_
  refine ret_fin1 (res_cell rfl (load_ba rfl rfl (by repeat (first | exact List.Mem.head _ | apply List.Mem.tail)) (by rfl))) ?_
  (obtain ⟨F, hf1, hf2⟩ := STm.repl (nm := nm) (j := j) hk hnum hlb hle1 ht1 hf1 hkl1 hgb (by simpa [vfp] using hn1) hj hc1 hm1 hle2 hsy hny (hd2 _ List.mem_cons_self) hle3 (Wi.in hn2 List.mem_cons_self); rw [List.length_set] at hf1; exact ⟨rfl, _, F, rfl, hf1, hf2⟩)
end Gw
end Go.Proofs.Yteneckdjdfnjoaa
namespace Go.Proofs.Yteneckdjdfnjoaa
open Go Go.RowKit
namespace Gw
theorem small_setL : ∀ {ks : List Tm} {j : Nat} {y : Tm}, Tm.smallL ks → y.small → Tm.smallL (ks.set j y)
 | [], j, y, h, _ => by simpa using h
 | t :: ts, 0, y, h, h2 => by simp only [List.set_cons_zero, Tm.smallL] at h ⊢; exact ⟨h2, h.2⟩
 | t :: ts, j + 1, y, h, h2 => by simp only [List.set_cons_succ, Tm.smallL] at h ⊢; exact ⟨h.1, small_setL h.2 h2⟩
theorem small_put : ∀ {path : List Int} {t x : Tm}, t.small → x.small → (mPut t path x).small
 | [], t, x, _, h => by rw [mPut_nil]; exact h
 | i :: is, .mk k nm num ty fr lb ks, x, h, h2 => by
  rw [mPut]
  split
  ·rename_i hi
   simp only [Tm.small] at h ⊢
   exact ⟨h.1, h.2.1, h.2.2.1, by rw [List.length_set]; exact h.2.2.2.1, small_setL h.2.2.2.2 (small_put (Tm.smallL_mem h.2.2.2.2 _ (List.getElem_mem _)) h2)⟩
  ·exact h
theorem count_set : ∀ {ks : List Tm} {j : Nat} {y : Tm} (h : j < ks.length), tmCountL (ks.set j y) + tmCount ks[j] = tmCountL ks + tmCount y
 | [], j, y, h => by simp at h
 | t :: ts, 0, y, h => by simp only [List.set_cons_zero, tmCountL, List.getElem_cons_zero]; omega
 | t :: ts, j + 1, y, h => by
  have := count_set (ks := ts) (j := j) (y := y) (by simpa using h)
  simp only [List.set_cons_succ, tmCountL, List.getElem_cons_succ]; omega
theorem count_put : ∀ {path : List Int} {t x : Tm}, tmCount (mPut t path x) ≤ tmCount t + tmCount x
 | [], t, x => by rw [mPut_nil]; omega
 | i :: is, .mk k nm num ty fr lb ks, x => by
  rw [mPut]
  split
  ·rename_i hi
   have h1 := count_put (path := is) (t := ks[i.toNat]'(by omega)) (x := x)
   have h2 := count_set (ks := ks) (j := i.toNat) (y := mPut (ks[i.toNat]'(by omega)) is x) (by omega)
   rw [tmCount, tmCount]; omega
  ·omega
/-- A term that is valid, or none. -/
def mChk (r : Tm) : Tm × Bool := if castValid r = true then (r, true) else (tm0, false)
theorem mChk_t {r : Tm} (h : castValid r = true) : mChk r = (r, true) := if_pos h
theorem mChk_f {r : Tm} (h : castValid r = false) : mChk r = (tm0, false) := if_neg (by rw [h]; simp)
def mReplaceAt (t : Tm) (path : List Int) (x : Tm) : Tm × Bool := if castValid t = true ∧ castValid x = true ∧ tAt t path ≠ none then mChk (mPut t path x) else (tm0, false)
theorem mRep_t {t x y : Tm} {path : List Int} (h1 : castValid t = true) (h2 : castValid x = true) (h3 : tAt t path = some y) : mReplaceAt t path x = mChk (mPut t path x) := if_pos ⟨h1, h2, by rw [h3]; simp⟩
theorem mRep_f1 {t x : Tm} {path : List Int} (h : castValid t = false) : mReplaceAt t path x = (tm0, false) := if_neg (by rw [h]; simp)
theorem mRep_f2 {t x : Tm} {path : List Int} (h : castValid x = false) : mReplaceAt t path x = (tm0, false) := if_neg (by rw [h]; simp)
theorem mRep_f3 {t x : Tm} {path : List Int} (h : tAt t path = none) : mReplaceAt t path x = (tm0, false) := if_neg (by rw [h]; simp)
set_option maxRecDepth 100000 in
theorem checkedCast_fn (r : Tm) (G : IM) (cells : List Value) (hs : r.small) (hr : RTm G r cells) : Fn Try.prog 33 [.agg ⟨cells⟩] [] G (TbP (mChk r) G) := by
 have hl := hr.len
 have hone := hr.one
 have hv := castValid_fn r G cells hr
 refine fn_enter Try.func33 rfl Try.ntmps33 Try.results33 rfl ?_
 intro w0
 refine tri_seq ?_
 refine tri_region ?_
 (refine seq_step (step_box_a rfl rfl) rfl ?_; rintro _ ⟨b3, rfl⟩)
 (refine seq_step (step_alloc rfl) rfl ?_; rintro _ ⟨b4, rfl⟩)
 refine seq_pure (pure_assign rfl) rfl rfl ?_
 refine seq_done ?_
 refine nrm_seq ?_
 refine tri_seq ?_
 refine tri_seq ?_
 refine tri_region ?_
 refine seq_load (load_a rfl rfl (at_blk_all (by repeat (first | exact List.Mem.head _ | apply List.Mem.tail))) (by assumption)) rfl rfl ?_
 refine seq_valb rfl (hv) rfl rfl (fun h12 => ?_) (fun h12 => ?_)
 ·refine seq_pure (pure_not_t rfl) rfl rfl ?_
  refine seq_done ?_
  refine nrm_seq ?_
  refine tri_cond_f rfl ?_
  refine tri_skip ?_
  refine nrm_seq ?_
  refine tri_seq ?_
  refine tri_region ?_
  refine seq_load (load_a rfl rfl (at_blk_all (by repeat (first | exact List.Mem.head _ | apply List.Mem.tail))) (by assumption)) rfl rfl ?_
  (refine seq_imm rfl (own_fn r G cells hs hr) rfl rfl (fun v G3 hle3 hh => ?_); obtain ⟨cells', F', rfl, hs', hnd'⟩ := hh; have hl' := hs'.R.len; have ho' := hs'.R.one)
  refine seq_store rfl rfl rfl hl' ho' rfl (by repeat (first | exact Sw.here | apply Sw.there)) (by exact upd_all hl'.symm) ?_
  refine seq_pure (pure_assign rfl) rfl rfl ?_
  refine seq_done ?_
  refine nrm_seq ?_
  refine tri_ret ?_
  refine ret_fin2 (res_cell rfl (load_a rfl rfl (at_blk_all (by repeat (first | exact List.Mem.head _ | apply List.Mem.tail))) hl')) (res_tmp rfl) ?_
  exact TbP.mk (mChk_t (by assumption)) hs' hnd'
 ·refine seq_pure (pure_not_f rfl) rfl rfl ?_
  refine seq_done ?_
  refine nrm_seq ?_
  refine tri_cond_t rfl ?_
  refine tri_seq ?_
  refine tri_region ?_
  refine seq_pure (pure_build rfl rfl) rfl rfl ?_
  refine seq_store rfl rfl rfl rfl rfl rfl (by repeat (first | exact Sw.here | apply Sw.there)) (by rfl) ?_
  refine seq_pure (pure_assign rfl) rfl rfl ?_
  refine seq_done ?_
  refine nrm_seq ?_
  refine tri_ret ?_
  refine ret_seq ?_
  refine ret_fin2 (res_cell rfl (load_ba rfl rfl (by repeat (first | exact List.Mem.head _ | apply List.Mem.tail)) (by rfl))) (res_tmp rfl) ?_
  exact TbP.mk (mChk_f (by assumption)) (STm.zero _) (by simp)
theorem TbP.of {r r' : Tm × Bool} {G G' : IM} {cells : List Value} {F : List Nat} (h : r = r') (hs : STm (Dif G' G) r'.1 cells F) (hn : F.Nodup) : TbP r G G' (.tuple ⟨[.agg ⟨cells⟩, .bool r'.2]⟩) [] := by
 subst h; exact ⟨rfl, cells, F, rfl, hs, hn⟩
set_option maxHeartbeats 0 in
set_option maxRecDepth 100000 in
theorem replaceAt_fn (t : Tm) (path : List Int) (x : Tm) (G : IM) (cells xcells : List Value) (p : Option Addr) (c : Nat) (hts : t.small) (hxs : x.small) (hr : RTm G t cells) (hx : RTm G x xcells) (hp : Sl G p path.length c 1 (ints path)) :
  Fn Try.prog 14 [.agg ⟨cells⟩, .slice p path.length c, .agg ⟨xcells⟩] [] G (TbP (mReplaceAt t path x) G) := by
 have hl := hr.len
 have hone := hr.one
 have hlx := hx.len
 have hox := hx.one
 have hv := castValid_fn t G cells hr
 have hvx := castValid_fn x G xcells hx
 have hA := at_fn t path G cells p c hr hp
 refine fn_enter Try.func14 rfl Try.ntmps14 Try.results14 rfl ?_
 intro w0
 refine tri_seq ?_
 refine tri_region ?_
 (refine seq_step (step_box_a rfl rfl) rfl ?_; rintro _ ⟨b3, rfl⟩)
 (refine seq_step (step_box_a rfl rfl) rfl ?_; rintro _ ⟨b4, rfl⟩)
 (refine seq_step (step_alloc rfl) rfl ?_; rintro _ ⟨b5, rfl⟩)
 refine seq_pure (pure_assign rfl) rfl rfl ?_
 refine seq_done ?_
 refine nrm_seq ?_
 refine tri_seq ?_
 refine tri_seq ?_
 refine tri_region ?_
 refine seq_load (load_a rfl rfl (at_blk_all (by repeat (first | exact List.Mem.head _ | apply List.Mem.tail))) (by assumption)) rfl rfl ?_
 refine seq_valb rfl (hv) rfl rfl (fun h13 => ?_) (fun h13 => ?_)
 ·refine seq_pure (pure_not_t rfl) rfl rfl ?_
  refine seq_pure (pure_move rfl) rfl rfl ?_
  refine seq_load (load_a rfl rfl (at_blk_all (by repeat (first | exact List.Mem.head _ | apply List.Mem.tail))) (by assumption)) rfl rfl ?_
  refine seq_valb rfl (hvx) rfl rfl (fun h17 => ?_) (fun h17 => ?_)
  ·refine seq_pure (pure_not_t rfl) rfl rfl ?_
   refine seq_pure (pure_pick_f rfl rfl) rfl rfl ?_
   refine seq_done ?_
   refine nrm_seq ?_
   refine tri_cond_f rfl ?_
   refine tri_skip ?_
   refine nrm_seq ?_
   refine tri_seq ?_
   refine tri_seq ?_
   refine tri_region ?_
   refine seq_load (load_a rfl rfl (at_blk_all (by repeat (first | exact List.Mem.head _ | apply List.Mem.tail))) (by assumption)) rfl rfl ?_
   refine seq_pure (pure_move rfl) rfl rfl ?_
   (refine seq_own rfl hA rfl rfl (fun v30 G30 outs30 hle30 h30 => ?_); obtain ⟨hG, rfl, hh⟩ := h30; replace hG := hG.symm; subst hG; rcases hh with ⟨y, cx, hy, hry, rfl⟩ | ⟨hy, rfl⟩)
   ·refine seq_pure (pure_move rfl) rfl rfl ?_
    refine seq_pure (pure_extract rfl rfl) rfl rfl ?_
    refine seq_pure (pure_extract rfl rfl) rfl rfl ?_
    (refine seq_step (step_alloc rfl) rfl ?_; rintro _ ⟨b34, rfl⟩)
    refine seq_store rfl rfl rfl hry.len hry.one rfl (by repeat (first | exact Sw.here | apply Sw.there)) (by exact upd_all hry.len.symm) ?_
    refine seq_pure (pure_assign rfl) rfl rfl ?_
    refine seq_done ?_
    refine nrm_seq ?_
    refine tri_seq ?_
    refine tri_region ?_
    refine seq_pure (pure_move rfl) rfl rfl ?_
    refine seq_pure (pure_not_t rfl) rfl rfl ?_
    refine seq_done ?_
    refine nrm_seq ?_
    refine tri_cond_f rfl ?_
    refine tri_skip ?_
    refine nrm_seq ?_
    refine tri_seq ?_
    refine tri_region ?_
    refine seq_load (load_a rfl rfl (at_blk_all (by repeat (first | exact List.Mem.head _ | apply List.Mem.tail))) (by assumption)) rfl rfl ?_
    refine seq_pure (pure_move rfl) rfl rfl ?_
    refine seq_load (load_a rfl rfl (at_blk_all (by repeat (first | exact List.Mem.head _ | apply List.Mem.tail))) (by assumption)) rfl rfl ?_
    (refine seq_imm rfl (put_fn path t x y G cells xcells p c hy hts hr hx hp) rfl rfl (fun v2 G2 hle2 hh => ?_); obtain ⟨cells2, rfl, hr2⟩ := hh)
    (refine seq_imm rfl (checkedCast_fn _ G2 cells2 (small_put hts hxs) hr2) rfl rfl (fun v3 G3 hle3 hh => ?_); obtain ⟨cells3, F3, rfl, hs', hnd'⟩ := hh)
    refine seq_pure (pure_extract rfl rfl) rfl rfl ?_
    refine seq_pure (pure_extract rfl rfl) rfl rfl ?_
    refine seq_store rfl rfl rfl hs'.R.len hs'.R.one rfl (by repeat (first | exact Sw.here | apply Sw.there)) (by exact upd_all hs'.R.len.symm) ?_
    refine seq_pure (pure_assign rfl) rfl rfl ?_
    refine seq_done ?_
    refine nrm_seq ?_
    refine tri_ret ?_
    refine ret_fin2 (res_cell rfl (load_a rfl rfl (at_blk_all (by repeat (first | exact List.Mem.head _ | apply List.Mem.tail))) hs'.R.len)) (res_tmp rfl) ?_
    exact TbP.of (mRep_t (by assumption) (by assumption) hy) (hs'.mono (Dif.anti hle2)) hnd'
   ·refine seq_pure (pure_move rfl) rfl rfl ?_
    refine seq_pure (pure_extract rfl rfl) rfl rfl ?_
    refine seq_pure (pure_extract rfl rfl) rfl rfl ?_
    (refine seq_step (step_alloc rfl) rfl ?_; rintro _ ⟨b67, rfl⟩)
    refine seq_store rfl rfl rfl rfl rfl rfl (by repeat (first | exact Sw.here | apply Sw.there)) (by rfl) ?_
    refine seq_pure (pure_assign rfl) rfl rfl ?_
    refine seq_done ?_
    refine nrm_seq ?_
    refine tri_seq ?_
    refine tri_region ?_
    refine seq_pure (pure_move rfl) rfl rfl ?_
    refine seq_pure (pure_not_f rfl) rfl rfl ?_
    refine seq_done ?_
    refine nrm_seq ?_
    refine tri_cond_t rfl ?_
    refine tri_seq ?_
    refine tri_region ?_
    refine seq_pure (pure_build rfl rfl) rfl rfl ?_
    refine seq_store rfl rfl rfl rfl rfl rfl (by repeat (first | exact Sw.here | apply Sw.there)) (by rfl) ?_
    refine seq_pure (pure_assign rfl) rfl rfl ?_
    refine seq_done ?_
    refine nrm_seq ?_
    refine tri_ret ?_
    refine ret_seq ?_
    refine ret_fin2 (res_cell rfl (load_ba rfl rfl (by repeat (first | exact List.Mem.head _ | apply List.Mem.tail)) (by rfl))) (res_tmp rfl) ?_
    exact TbP.mk (mRep_f3 hy) (STm.zero _) (by simp)
  ·refine seq_pure (pure_not_f rfl) rfl rfl ?_
   refine seq_pure (pure_pick_f rfl rfl) rfl rfl ?_
   refine seq_done ?_
   refine nrm_seq ?_
   refine tri_cond_t rfl ?_
   refine tri_seq ?_
   refine tri_region ?_
   refine seq_pure (pure_build rfl rfl) rfl rfl ?_
   refine seq_store rfl rfl rfl rfl rfl rfl (by repeat (first | exact Sw.here | apply Sw.there)) (by rfl) ?_
   refine seq_pure (pure_assign rfl) rfl rfl ?_
   refine seq_done ?_
   refine nrm_seq ?_
   refine tri_ret ?_
   refine ret_seq ?_
   refine ret_fin2 (res_cell rfl (load_ba rfl rfl (by repeat (first | exact List.Mem.head _ | apply List.Mem.tail)) (by rfl))) (res_tmp rfl) ?_
   exact TbP.mk (mRep_f2 (by assumption)) (STm.zero _) (by simp)
 ·refine seq_pure (pure_not_f rfl) rfl rfl ?_
  refine seq_pure (pure_move rfl) rfl rfl ?_
  refine seq_skip rfl rfl ?_
  refine seq_skip rfl rfl ?_
  refine seq_skip rfl rfl ?_
  refine seq_pure (pure_pick_t rfl rfl) rfl rfl ?_
  refine seq_done ?_
  refine nrm_seq ?_
  refine tri_cond_t rfl ?_
  refine tri_seq ?_
  refine tri_region ?_
  refine seq_pure (pure_build rfl rfl) rfl rfl ?_
  refine seq_store rfl rfl rfl rfl rfl rfl (by repeat (first | exact Sw.here | apply Sw.there)) (by rfl) ?_
  refine seq_pure (pure_assign rfl) rfl rfl ?_
  refine seq_done ?_
  refine nrm_seq ?_
  refine tri_ret ?_
  refine ret_seq ?_
  refine ret_fin2 (res_cell rfl (load_ba rfl rfl (by repeat (first | exact List.Mem.head _ | apply List.Mem.tail)) (by rfl))) (res_tmp rfl) ?_
  exact TbP.mk (mRep_f1 (by assumption)) (STm.zero _) (by simp)
set_option maxHeartbeats 0 in
set_option maxRecDepth 100000 in
theorem sReplaceAt_g (t : Tm) (path : List Int) (x : Tm) (G : IM) (cells xcells : List Value) (p : Option Addr) (c : Nat) (hts : t.small) (hxs : x.small) (hct : tmCount t ≤ 1048577) (hcx : tmCount x ≤ 1048577) (hr : RTm G t cells) (hx : RTm G x xcells) (hp : Sl G p path.length c 1 (ints path)) :
  Fn Try.prog 15 [.agg ⟨cells⟩, .slice p path.length c, .agg ⟨xcells⟩] [] G (TbP (mReplaceAt t path x) G) := by
 have hl := hr.len
 have hone := hr.one
 have hlx := hx.len
 have hox := hx.one
 have hv := sCastValid_fn t G cells (by omega) hr
 have hvx := sCastValid_fn x G xcells (by omega) hx
 have hA := l16At_fn t path G cells p c hr hp
 refine fn_enter Try.func15 rfl Try.ntmps15 Try.results15 rfl ?_
 intro w0
 refine tri_seq ?_
 refine tri_region ?_
 (refine seq_step (step_box_a rfl rfl) rfl ?_; rintro _ ⟨b3, rfl⟩)
 (refine seq_step (step_box_a rfl rfl) rfl ?_; rintro _ ⟨b4, rfl⟩)
 (refine seq_step (step_alloc rfl) rfl ?_; rintro _ ⟨b5, rfl⟩)
 refine seq_pure (pure_assign rfl) rfl rfl ?_
 refine seq_done ?_
 refine nrm_seq ?_
 refine tri_seq ?_
 refine tri_region ?_
 refine seq_load (load_a rfl rfl (at_blk_all (by repeat (first | exact List.Mem.head _ | apply List.Mem.tail))) (by assumption)) rfl rfl ?_
 refine seq_pure (pure_move rfl) rfl rfl ?_
 (refine seq_own rfl hA rfl rfl (fun v13 G13 outs13 hle13 h13 => ?_); obtain ⟨hG, rfl, hh⟩ := h13; replace hG := hG.symm; subst hG; rcases hh with ⟨y, cx, hy, hry, rfl⟩ | ⟨hy, rfl⟩)
 ·refine seq_pure (pure_move rfl) rfl rfl ?_
  refine seq_pure (pure_extract rfl rfl) rfl rfl ?_
  refine seq_pure (pure_extract rfl rfl) rfl rfl ?_
  (refine seq_step (step_alloc rfl) rfl ?_; rintro _ ⟨b17, rfl⟩)
  refine seq_store rfl rfl rfl hry.len hry.one rfl (by repeat (first | exact Sw.here | apply Sw.there)) (by exact upd_all hry.len.symm) ?_
  refine seq_pure (pure_assign rfl) rfl rfl ?_
  refine seq_done ?_
  refine nrm_seq ?_
  refine tri_seq ?_
  refine tri_seq ?_
  refine tri_region ?_
  refine seq_load (load_a rfl rfl (at_blk_all (by repeat (first | exact List.Mem.head _ | apply List.Mem.tail))) (by assumption)) rfl rfl ?_
  refine seq_valb rfl (hv) rfl rfl (fun h26 => ?_) (fun h26 => ?_)
  ·refine seq_pure (pure_not_t rfl) rfl rfl ?_
   refine seq_pure (pure_move rfl) rfl rfl ?_
   refine seq_load (load_a rfl rfl (at_blk_all (by repeat (first | exact List.Mem.head _ | apply List.Mem.tail))) (by assumption)) rfl rfl ?_
   refine seq_valb rfl (hvx) rfl rfl (fun h30 => ?_) (fun h30 => ?_)
   ·refine seq_pure (pure_not_t rfl) rfl rfl ?_
    refine seq_pure (pure_pick_f rfl rfl) rfl rfl ?_
    refine seq_pure (pure_move rfl) rfl rfl ?_
    refine seq_pure (pure_move rfl) rfl rfl ?_
    refine seq_pure (pure_not_t rfl) rfl rfl ?_
    refine seq_pure (pure_pick_f rfl rfl) rfl rfl ?_
    refine seq_done ?_
    refine nrm_seq ?_
    refine tri_cond_f rfl ?_
    refine tri_skip ?_
    refine nrm_seq ?_
    refine tri_seq ?_
    refine tri_region ?_
    refine seq_load (load_a rfl rfl (at_blk_all (by repeat (first | exact List.Mem.head _ | apply List.Mem.tail))) (by assumption)) rfl rfl ?_
    refine seq_pure (pure_move rfl) rfl rfl ?_
    refine seq_load (load_a rfl rfl (at_blk_all (by repeat (first | exact List.Mem.head _ | apply List.Mem.tail))) (by assumption)) rfl rfl ?_
    (refine seq_imm rfl (l16Replace_fn path t x y G cells xcells p c hy hts hxs hr hx hp) rfl rfl (fun v2 G2 hle2 hh => ?_); obtain ⟨cells2, F2, rfl, hs', hnd'⟩ := hh; have hvp := sCastValid_fn _ G2 cells2 (by have := count_put (path := path) (t := t) (x := x); omega) (hs'.R.mono (Dif.le _ _)))
    (refine seq_step (step_alloc rfl) rfl ?_; rintro _ ⟨b48, rfl⟩)
    refine seq_store rfl rfl rfl hs'.R.len hs'.R.one rfl (by repeat (first | exact Sw.here | apply Sw.there)) (by exact upd_all hs'.R.len.symm) ?_
    refine seq_done ?_
    refine nrm_seq ?_
    refine tri_seq ?_
    refine tri_seq ?_
    refine tri_region ?_
    refine seq_load (load_a rfl rfl (at_blk_all (by repeat (first | exact List.Mem.head _ | apply List.Mem.tail))) hs'.R.len) rfl rfl ?_
    refine seq_valb rfl (hvp) rfl rfl (fun h56 => ?_) (fun h56 => ?_)
    ·refine seq_pure (pure_not_t rfl) rfl rfl ?_
     refine seq_done ?_
     refine nrm_seq ?_
     refine tri_cond_f rfl ?_
     refine tri_skip ?_
     refine nrm_seq ?_
     refine tri_seq ?_
     refine tri_region ?_
     refine seq_load (load_a rfl rfl (at_blk_all (by repeat (first | exact List.Mem.head _ | apply List.Mem.tail))) hs'.R.len) rfl rfl ?_
     refine seq_store rfl rfl rfl hs'.R.len hs'.R.one rfl (by repeat (first | exact Sw.here | apply Sw.there)) (by exact upd_all hs'.R.len.symm) ?_
     refine seq_pure (pure_assign rfl) rfl rfl ?_
     refine seq_done ?_
     refine nrm_seq ?_
     refine tri_ret ?_
     refine ret_fin2 (res_cell rfl (load_a rfl rfl (at_blk_all (by repeat (first | exact List.Mem.head _ | apply List.Mem.tail))) hs'.R.len)) (res_tmp rfl) ?_
     exact TbP.mk ((mRep_t (by assumption) (by assumption) hy).trans (mChk_t (by assumption))) hs' hnd'
    ·refine seq_pure (pure_not_f rfl) rfl rfl ?_
     refine seq_done ?_
     refine nrm_seq ?_
     refine tri_cond_t rfl ?_
     refine tri_seq ?_
     refine tri_region ?_
     refine seq_pure (pure_build rfl rfl) rfl rfl ?_
     refine seq_store rfl rfl rfl rfl rfl rfl (by repeat (first | exact Sw.here | apply Sw.there)) (by rfl) ?_
     refine seq_pure (pure_assign rfl) rfl rfl ?_
     refine seq_done ?_
     refine nrm_seq ?_
     refine tri_ret ?_
     refine ret_seq ?_
     refine ret_fin2 (res_cell rfl (load_ba rfl rfl (by repeat (first | exact List.Mem.head _ | apply List.Mem.tail)) (by rfl))) (res_tmp rfl) ?_
     exact TbP.mk ((mRep_t (by assumption) (by assumption) hy).trans (mChk_f (by assumption))) (STm.zero _) (by simp)
   ·refine seq_pure (pure_not_f rfl) rfl rfl ?_
    refine seq_pure (pure_pick_f rfl rfl) rfl rfl ?_
    refine seq_pure (pure_move rfl) rfl rfl ?_
    refine seq_skip rfl rfl ?_
    refine seq_skip rfl rfl ?_
    refine seq_pure (pure_pick_t rfl rfl) rfl rfl ?_
    refine seq_done ?_
    refine nrm_seq ?_
    refine tri_cond_t rfl ?_
    refine tri_seq ?_
    refine tri_region ?_
    refine seq_pure (pure_build rfl rfl) rfl rfl ?_
    refine seq_store rfl rfl rfl rfl rfl rfl (by repeat (first | exact Sw.here | apply Sw.there)) (by rfl) ?_
    refine seq_pure (pure_assign rfl) rfl rfl ?_
    refine seq_done ?_
    refine nrm_seq ?_
    refine tri_ret ?_
    refine ret_seq ?_
    refine ret_fin2 (res_cell rfl (load_ba rfl rfl (by repeat (first | exact List.Mem.head _ | apply List.Mem.tail)) (by rfl))) (res_tmp rfl) ?_
    exact TbP.mk (mRep_f2 (by assumption)) (STm.zero _) (by simp)
  ·refine seq_pure (pure_not_f rfl) rfl rfl ?_
   refine seq_pure (pure_move rfl) rfl rfl ?_
   refine seq_skip rfl rfl ?_
   refine seq_skip rfl rfl ?_
   refine seq_skip rfl rfl ?_
   refine seq_pure (pure_pick_t rfl rfl) rfl rfl ?_
   refine seq_pure (pure_move rfl) rfl rfl ?_
   refine seq_skip rfl rfl ?_
   refine seq_skip rfl rfl ?_
   refine seq_pure (pure_pick_t rfl rfl) rfl rfl ?_
   refine seq_done ?_
   refine nrm_seq ?_
   refine tri_cond_t rfl ?_
   refine tri_seq ?_
   refine tri_region ?_
   refine seq_pure (pure_build rfl rfl) rfl rfl ?_
   refine seq_store rfl rfl rfl rfl rfl rfl (by repeat (first | exact Sw.here | apply Sw.there)) (by rfl) ?_
   refine seq_pure (pure_assign rfl) rfl rfl ?_
   refine seq_done ?_
   refine nrm_seq ?_
   refine tri_ret ?_
   refine ret_seq ?_
   refine ret_fin2 (res_cell rfl (load_ba rfl rfl (by repeat (first | exact List.Mem.head _ | apply List.Mem.tail)) (by rfl))) (res_tmp rfl) ?_
   exact TbP.mk (mRep_f1 (by assumption)) (STm.zero _) (by simp)
 ·refine seq_pure (pure_move rfl) rfl rfl ?_
  refine seq_pure (pure_extract rfl rfl) rfl rfl ?_
  refine seq_pure (pure_extract rfl rfl) rfl rfl ?_
  (refine seq_step (step_alloc rfl) rfl ?_; rintro _ ⟨b135, rfl⟩)
  refine seq_store rfl rfl rfl rfl rfl rfl (by repeat (first | exact Sw.here | apply Sw.there)) (by rfl) ?_
  refine seq_pure (pure_assign rfl) rfl rfl ?_
  refine seq_done ?_
  refine nrm_seq ?_
  refine tri_seq ?_
  refine tri_seq ?_
  refine tri_region ?_
  refine seq_load (load_a rfl rfl (at_blk_all (by repeat (first | exact List.Mem.head _ | apply List.Mem.tail))) (by assumption)) rfl rfl ?_
  refine seq_valb rfl (hv) rfl rfl (fun h144 => ?_) (fun h144 => ?_)
  ·refine seq_pure (pure_not_t rfl) rfl rfl ?_
   refine seq_pure (pure_move rfl) rfl rfl ?_
   refine seq_load (load_a rfl rfl (at_blk_all (by repeat (first | exact List.Mem.head _ | apply List.Mem.tail))) (by assumption)) rfl rfl ?_
   refine seq_valb rfl (hvx) rfl rfl (fun h148 => ?_) (fun h148 => ?_)
   ·refine seq_pure (pure_not_t rfl) rfl rfl ?_
    refine seq_pure (pure_pick_f rfl rfl) rfl rfl ?_
    refine seq_pure (pure_move rfl) rfl rfl ?_
    refine seq_pure (pure_move rfl) rfl rfl ?_
    refine seq_pure (pure_not_f rfl) rfl rfl ?_
    refine seq_pure (pure_pick_f rfl rfl) rfl rfl ?_
    refine seq_done ?_
    refine nrm_seq ?_
    refine tri_cond_t rfl ?_
    refine tri_seq ?_
    refine tri_region ?_
    refine seq_pure (pure_build rfl rfl) rfl rfl ?_
    refine seq_store rfl rfl rfl rfl rfl rfl (by repeat (first | exact Sw.here | apply Sw.there)) (by rfl) ?_
    refine seq_pure (pure_assign rfl) rfl rfl ?_
    refine seq_done ?_
    refine nrm_seq ?_
    refine tri_ret ?_
    refine ret_seq ?_
    refine ret_fin2 (res_cell rfl (load_ba rfl rfl (by repeat (first | exact List.Mem.head _ | apply List.Mem.tail)) (by rfl))) (res_tmp rfl) ?_
    exact TbP.mk (mRep_f3 hy) (STm.zero _) (by simp)
   ·refine seq_pure (pure_not_f rfl) rfl rfl ?_
    refine seq_pure (pure_pick_f rfl rfl) rfl rfl ?_
    refine seq_pure (pure_move rfl) rfl rfl ?_
    refine seq_skip rfl rfl ?_
    refine seq_skip rfl rfl ?_
    refine seq_pure (pure_pick_t rfl rfl) rfl rfl ?_
    refine seq_done ?_
    refine nrm_seq ?_
    refine tri_cond_t rfl ?_
    refine tri_seq ?_
    refine tri_region ?_
    refine seq_pure (pure_build rfl rfl) rfl rfl ?_
    refine seq_store rfl rfl rfl rfl rfl rfl (by repeat (first | exact Sw.here | apply Sw.there)) (by rfl) ?_
    refine seq_pure (pure_assign rfl) rfl rfl ?_
    refine seq_done ?_
    refine nrm_seq ?_
    refine tri_ret ?_
    refine ret_seq ?_
    refine ret_fin2 (res_cell rfl (load_ba rfl rfl (by repeat (first | exact List.Mem.head _ | apply List.Mem.tail)) (by rfl))) (res_tmp rfl) ?_
    exact TbP.mk (mRep_f3 hy) (STm.zero _) (by simp)
  ·refine seq_pure (pure_not_f rfl) rfl rfl ?_
   refine seq_pure (pure_move rfl) rfl rfl ?_
   refine seq_skip rfl rfl ?_
   refine seq_skip rfl rfl ?_
   refine seq_skip rfl rfl ?_
   refine seq_pure (pure_pick_t rfl rfl) rfl rfl ?_
   refine seq_pure (pure_move rfl) rfl rfl ?_
   refine seq_skip rfl rfl ?_
   refine seq_skip rfl rfl ?_
   refine seq_pure (pure_pick_t rfl rfl) rfl rfl ?_
   refine seq_done ?_
   refine nrm_seq ?_
   refine tri_cond_t rfl ?_
   refine tri_seq ?_
   refine tri_region ?_
   refine seq_pure (pure_build rfl rfl) rfl rfl ?_
   refine seq_store rfl rfl rfl rfl rfl rfl (by repeat (first | exact Sw.here | apply Sw.there)) (by rfl) ?_
   refine seq_pure (pure_assign rfl) rfl rfl ?_
   refine seq_done ?_
   refine nrm_seq ?_
   refine tri_ret ?_
   refine ret_seq ?_
   refine ret_fin2 (res_cell rfl (load_ba rfl rfl (by repeat (first | exact List.Mem.head _ | apply List.Mem.tail)) (by rfl))) (res_tmp rfl) ?_
   exact TbP.mk (mRep_f3 hy) (STm.zero _) (by simp)
end Gw
end Go.Proofs.Yteneckdjdfnjoaa
namespace Go.Proofs.Yteneckdjdfnjoaa
open Go Go.RowKit
namespace Gw
mutual
theorem sShape_down (D N : Int) : ∀ (t : Tm) (d d' : Int), d' ≤ d → sShape D N t d = true → sShape D N t d' = true
 | .mk k nm num ty fr lb ks, d, d', hd, h => by
  obtain ⟨h1, h2, h3, h4⟩ := sShape_go2 h
  rw [sShape_go (by omega) h2 h3]
  exact sShapeL_down D N ks _ _ (by omega) h4
theorem sShapeL_down (D N : Int) : ∀ (ts : List Tm) (d d' : Int), d' ≤ d → sShapeL D N ts d = true → sShapeL D N ts d' = true
 | [], d, d', hd, h => by rw [sShapeL]
 | t :: ts, d, d', hd, h => by
  rw [sShapeL, Bool.and_eq_true] at h ⊢
  exact ⟨sShape_down D N t d d' hd h.1, sShapeL_down D N ts d d' hd h.2⟩
end
theorem cast_kid {t : Tm} (h : castValid t = true) {i : Nat} (hi : i < t.ks.length) : castValid t.ks[i] = true := by
 obtain ⟨k, nm, num, ty, fr, lb, ks⟩ := t
 simp only [Tm.ks] at hi ⊢
 obtain ⟨h1, h2⟩ := (castValid_iff _).1 h
 obtain ⟨_, _, _, h6⟩ := sShape_go2 h1
 refine (castValid_iff _).2 ⟨sShape_down 40 13 _ _ 1 (by omega) ((sShapeL_iff 40 13 ks _).1 h6 i hi), ?_⟩
 rw [tmCount] at h2
 have := tmCountL_take hi
 omega
theorem cast_at : ∀ {path : List Int} {t x : Tm}, castValid t = true → tAt t path = some x → castValid x = true
 | [], t, x, h, hx => by rw [tAt_nil] at hx; cases hx; exact h
 | i :: is, t, x, h, hx => by
  by_cases hi : 0 ≤ i ∧ i < t.ks.length
  ·rw [tAt_go hi.1 hi.2] at hx
   exact cast_at (cast_kid h _) hx
  ·rw [tAt_no hi] at hx; cases hx
end Gw
end Go.Proofs.Yteneckdjdfnjoaa
namespace Go.Proofs.Yteneckdjdfnjoaa
open Go Go.RowKit
namespace Gw
theorem tAt_goN {k : Int} {nm : ByteArray} {num : Int} {ty fr : Ty} {lb : Int} {ks : List Tm} {j : Nat} {is : List Int} (h : j < ks.length) : tAt (.mk k nm num ty fr lb ks) ((j : Int) :: is) = tAt ks[j] is := by
 rw [tAt, dif_pos ⟨by omega, by omega⟩]
 rfl
theorem tAt_put : ∀ {l : List Int} {t x own : Tm}, tAt t l = some own → tAt (mPut t l x) l = some x
 | [], t, x, own, _ => by rw [mPut_nil, tAt_nil]
 | i :: is, .mk k nm num ty fr lb ks, x, own, h => by
  obtain ⟨j, rfl, hj, h2⟩ := tAt_some h
  simp only [Tm.ks] at hj h2
  rw [mPut_go hj, tAt_goN (by rw [List.length_set]; exact hj), List.getElem_set_self]
  exact tAt_put h2
theorem put_self : ∀ {l : List Int} {t own : Tm}, tAt t l = some own → mPut t l own = t
 | [], t, own, h => by rw [tAt_nil] at h; cases h; rw [mPut_nil]
 | i :: is, .mk k nm num ty fr lb ks, own, h => by
  obtain ⟨j, rfl, hj, h2⟩ := tAt_some h
  simp only [Tm.ks] at hj h2
  rw [mPut_go hj, put_self h2, List.set_getElem_self]
theorem put_put : ∀ {l : List Int} {t x own : Tm}, tAt t l = some own → mPut (mPut t l x) l own = t
 | [], t, x, own, h => by rw [tAt_nil] at h; cases h; rw [mPut_nil]
 | i :: is, .mk k nm num ty fr lb ks, x, own, h => by
  obtain ⟨j, rfl, hj, h2⟩ := tAt_some h
  simp only [Tm.ks] at hj h2
  rw [mPut_go hj, mPut_go (by rw [List.length_set]; exact hj), List.getElem_set_self, put_put h2, List.set_set, List.set_getElem_self]
theorem rep_split {t x y : Tm} {l : List Int} (h : mReplaceAt t l x = (y, true)) (hs : t.small) (hx : x.small) :
  ∃ own, mTermAt y l = (x, true) ∧ mTermAt t l = (own, true) ∧ mReplaceAt t l own = (t, true) ∧ mReplaceAt y l own = (t, true) ∧ own.small ∧ y.small := by
 unfold mReplaceAt at h
 split at h
 ·rename_i hc
  obtain ⟨h1, h2, h3⟩ := hc
  unfold mChk at h
  split at h
  ·rename_i hv
   cases h
   cases ho : tAt t l with
   | none => exact absurd ho h3
   | some own =>
    have hown := cast_at h1 ho
    have hy := tAt_put (x := x) ho
    refine ⟨own, mTermAt_yes hv hy, mTermAt_yes h1 ho, ?_, ?_, tAt_small ho hs, small_put hs hx⟩
    ·rw [mRep_t h1 hown ho, put_self ho, mChk_t h1]
    ·rw [mRep_t hv hown hy, put_put ho, mChk_t h1]
  ·cases h
 ·cases h
end Gw
end Go.Proofs.Yteneckdjdfnjoaa
namespace Go.Proofs.Yteneckdjdfnjoaa
open Go Go.RowKit
namespace Gw
theorem pure_seq_s {P : Program} {Γ : Ctx} {env : Env} {hp : List Ent} {G : IM} {ty : TypeId} {x y : Operand} {t t' : TypeId} {r : ByteArray} (hx : evo env x = some (.string r)) (hy : evo env y = some (.string r)) :
  PureOp P Γ ⟨env, hp, G⟩ (.binOp .eql t x y t') ty (.bool true) := by
 have h := pure_seql (P := P) (Γ := Γ) (hp := hp) (G := G) (t := t) (t' := t') (ty := ty) hx hy
 simpa using h
theorem pure_beql_s {P : Program} {Γ : Ctx} {env : Env} {hp : List Ent} {G : IM} {ty : TypeId} {x y : Operand} {t t' : TypeId} {i : TyR} [hI : TyI P t i] (hd : i.desc = .bool) {r : Bool} (hx : evo env x = some (.bool r)) (hy : evo env y = some (.bool r)) :
  PureOp P Γ ⟨env, hp, G⟩ (.binOp .eql t x y t') ty (.bool true) := by
 have h := pure_beql (P := P) (Γ := Γ) (hp := hp) (G := G) (t := t) (t' := t') (ty := ty) (i := i) hd hx hy
 simpa using h
set_option maxRecDepth 100000 in
theorem typeSame_fn : ∀ (t : Ty) (G : IM) (cells cells' : List Value), RTy G t cells → RTy G t cells' → Fn Try.prog 21 [.agg ⟨cells⟩, .agg ⟨cells'⟩] [] G (Val (.bool true) G) := by
 refine Ty.ind fun k ks ih G cells cells' hr hr' => ?_
 obtain ⟨p, c, es, rfl, hk, hsl, hkl⟩ := hr.open
 obtain ⟨p', c', es', rfl, hk', hsl', hkl'⟩ := hr'.open
 simp only [Ty.k, Ty.ks] at hk hsl hkl hk' hsl' hkl' ⊢
 refine fn_enter Try.func21 rfl Try.ntmps21 Try.results21 rfl ?_
 intro w0
 refine tri_seq ?_
 refine tri_region ?_
 (refine seq_step (step_box_a rfl rfl) rfl ?_; rintro _ ⟨b3, rfl⟩)
 (refine seq_step (step_box_a rfl rfl) rfl ?_; rintro _ ⟨b4, rfl⟩)
 refine seq_pure (pure_assign rfl) rfl rfl ?_
 refine seq_done ?_
 refine nrm_seq ?_
 refine tri_seq ?_
 refine tri_region ?_
 refine seq_pure (pure_fieldAddr0 rfl) rfl rfl ?_
 refine seq_load (load_bs rfl rfl (by repeat (first | exact List.Mem.head _ | apply List.Mem.tail)) (by rfl)) rfl rfl ?_
 refine seq_pure (pure_fieldAddr0 rfl) rfl rfl ?_
 refine seq_load (load_bs rfl rfl (by repeat (first | exact List.Mem.head _ | apply List.Mem.tail)) (by rfl)) rfl rfl ?_
 refine seq_pure (pure_eql_t rfl rfl (by omega)) rfl rfl ?_
 refine seq_pure (pure_move rfl) rfl rfl ?_
 refine seq_pure (pure_fieldAddr0 rfl) rfl rfl ?_
 refine seq_load (load_bs rfl rfl (by repeat (first | exact List.Mem.head _ | apply List.Mem.tail)) (by rfl)) rfl rfl ?_
 refine seq_pure (pure_fieldAddr0 rfl) rfl rfl ?_
 refine seq_load (load_bs rfl rfl (by repeat (first | exact List.Mem.head _ | apply List.Mem.tail)) (by rfl)) rfl rfl ?_
 refine seq_val rfl (equalFunc_Type _ _ _ _ _ _ _ _ _ hsl hsl' _ [] [] [] (fun _ => true) true (by simp) (fun i e e' he he' => ih (ks.getD i ty0) (hkl.inv he ty0).1 _ _ _ (hkl.inv he ty0).2 (hkl'.inv he' ty0).2)) rfl rfl ?_
 refine seq_pure (pure_pick_t rfl rfl) rfl rfl ?_
 refine seq_pure (pure_assign rfl) rfl rfl ?_
 refine seq_done ?_
 refine nrm_seq ?_
 refine tri_ret ?_
 refine ret_fin1 (res_tmp rfl) ?_
 exact ⟨rfl, rfl, rfl⟩
set_option maxRecDepth 100000 in
theorem equalFunc_Term (G : IM) (p p' : Option Addr) (n c c' : Nat) (es es' : List (List Value)) (hsl : SlE G p n c 9 es) (hsl' : SlE G p' n c' 9 es') (fid : FuncId) [FunI Try.prog fid]
  (hq : ∀ (i : Nat) (e e' : List Value), es[i]? = some e → es'[i]? = some e' → Fn Try.prog fid [.agg ⟨e⟩, .agg ⟨e'⟩] [] G (ValO (.bool true) [] G)) :
  Fn Try.prog 37 [.slice p n c, .slice p' n c', .func (.func fid) ⟨[]⟩ ⟨[]⟩] [] G (Val (.bool true) G) := by
 have hn := hsl.le
 refine fn_enter Try.func37 rfl Try.ntmps37 Try.results37 rfl ?_
 intro w0
 refine tri_seq ?_
 refine tri_region ?_
 refine seq_pure (pure_assign rfl) rfl rfl ?_
 refine seq_done ?_
 refine nrm_seq ?_
 refine tri_seq ?_
 refine tri_seq ?_
 refine tri_region ?_
 refine seq_pure (pure_move rfl) rfl rfl ?_
 refine seq_pure (pure_len rfl rfl) rfl rfl ?_
 refine seq_pure (pure_move rfl) rfl rfl ?_
 refine seq_pure (pure_len rfl rfl) rfl rfl ?_
 refine seq_pure (pure_neq_f rfl rfl (by omega)) rfl rfl ?_
 refine seq_done ?_
 refine nrm_seq ?_
 refine tri_cond_f rfl ?_
 refine tri_skip ?_
 refine nrm_seq ?_
 refine tri_seq ?_
 refine tri_seq ?_
 refine tri_region ?_
 refine seq_pure (pure_move rfl) rfl rfl ?_
 refine seq_pure (pure_len rfl rfl) rfl rfl ?_
 refine seq_pure (pure_move rfl) rfl rfl ?_
 refine seq_done ?_
 refine nrm_seq ?_
 refine tri_block ?_
 refine tri_loopN (fun i : Nat => ⟨[(17, .int .i64 i), (16, .int .i64 n), (15, .slice p n c), (2, .func (.func fid) ⟨[]⟩ ⟨[]⟩), (1, .slice p' n c'), (0, .slice p n c)], [], G⟩) (fun i => i ≤ n) (fun i => n - i) 0 ?_ ?_ ?_
 ·exact sub_mk (by repeat (first | exact SubE.nil | refine SubE.cons rfl ?_)) (by repeat (first | exact SubH.refl | exact SubH.nil | refine SubH.cons (by repeat (first | exact Pk.here | apply Pk.there)) ?_ | apply SubH.drop))
 ·exact Nat.zero_le _
 ·rintro i hi
  refine tri_seq ?_
  refine tri_region ?_
  refine seq_bool (pure_lss rfl rfl) rfl rfl (fun h34 => ?_) (fun h34 => ?_)
  ·refine seq_done ?_
   refine nrm_seq ?_
   refine tri_seq ?_
   refine tri_cond_t rfl ?_
   refine tri_skip ?_
   refine nrm_seq ?_
   refine tri_seq ?_
   refine tri_block ?_
   refine tri_seq ?_
   refine tri_region ?_
   refine seq_pure (pure_move rfl) rfl rfl ?_
   (obtain ⟨e, b, o, he, rfl, hl, _, hat, _⟩ := hsl.get (i := i) (by omega); refine seq_pure (pure_indexAddrN rfl rfl rfl (by omega)) rfl rfl ?_)
   refine seq_load (load_a rfl rfl (hat _) hl) rfl rfl ?_
   (refine seq_step (step_alloc rfl) rfl ?_; rintro _ ⟨b48, rfl⟩)
   refine seq_pure (pure_assign rfl) rfl rfl ?_
   refine seq_store rfl rfl rfl (by assumption) (by assumption) rfl (by repeat (first | exact Sw.here | apply Sw.there)) (by exact upd_all (by symm; assumption)) ?_
   refine seq_done ?_
   refine nrm_seq ?_
   refine tri_seq ?_
   refine tri_region ?_
   refine seq_pure (pure_move rfl) rfl rfl ?_
   refine seq_pure (pure_move rfl) rfl rfl ?_
   (obtain ⟨e', b', o', he', rfl, hl', _, hat', _⟩ := hsl'.get (i := i) (by omega); refine seq_pure (pure_indexAddrN rfl rfl rfl (by omega)) rfl rfl ?_)
   refine seq_load (load_a rfl rfl (hat' _) hl') rfl rfl ?_
   (refine seq_step (step_alloc rfl) rfl ?_; rintro _ ⟨b59, rfl⟩)
   refine seq_store rfl rfl rfl (by assumption) (by assumption) rfl (by repeat (first | exact Sw.here | apply Sw.there)) (by exact upd_all (by symm; assumption)) ?_
   refine seq_done ?_
   refine nrm_seq ?_
   refine tri_seq ?_
   refine tri_region ?_
   refine seq_pure (pure_move rfl) rfl rfl ?_
   refine seq_load (load_a rfl rfl (at_blk_all (by repeat (first | exact List.Mem.head _ | apply List.Mem.tail))) (by assumption)) rfl rfl ?_
   refine seq_load (load_a rfl rfl (at_blk_all (by repeat (first | exact List.Mem.head _ | apply List.Mem.tail))) (by assumption)) rfl rfl ?_
   refine seq_vvalbo rfl rfl (hq i e e' he he') perm_two rfl rfl (fun h68 => ?_) (fun h68 => ?_)
   ·simp only [Bool.not_eq_true', Bool.not_eq_false'] at h68
    refine seq_pure (pure_not_t rfl) rfl rfl ?_
    refine seq_done ?_
    refine nrm_seq ?_
    refine tri_cond_f rfl ?_
    refine tri_skip ?_
    refine nrm_block ?_
    refine nrm_seq ?_
    refine tri_region ?_
    refine seq_pure (pure_add rfl rfl (by omega) (by omega)) rfl rfl ?_
    refine seq_pure (pure_move rfl) rfl rfl ?_
    refine seq_done ?_
    refine nrm_loopN (i + 1) ?_ ?_ ?_
    ·exact sub_mk (by repeat (first | exact SubE.nil | refine SubE.cons rfl ?_)) (by repeat (first | exact SubH.refl | exact SubH.nil | refine SubH.cons (by repeat (first | exact Pk.here | apply Pk.there)) ?_ | apply SubH.drop))
    ·omega
    ·omega
   ·refine seq_pure (pure_not_f rfl) rfl rfl ?_
    refine seq_done ?_
    refine nrm_seq ?_
    refine tri_cond_t rfl ?_
    refine tri_seq ?_
    refine tri_region ?_
    refine seq_pure (pure_assign rfl) rfl rfl ?_
    refine seq_done ?_
    refine nrm_seq ?_
    refine tri_ret ?_
    refine ret_block ?_
    refine ret_seq ?_
    refine ret_loopN ?_
    refine ret_block ?_
    refine ret_seq ?_
    refine ret_fin1 (res_tmp rfl) ?_
    (exact absurd (by assumption) (by decide))
  ·refine seq_done ?_
   refine nrm_seq ?_
   refine tri_seq ?_
   refine tri_cond_f rfl ?_
   refine tri_exit ?_
   refine ext_seq ?_
   refine ext_loopN ?_
   refine ext_block_eq ?_
   refine nrm_seq ?_
   refine tri_seq ?_
   refine tri_region ?_
   refine seq_pure (pure_assign rfl) rfl rfl ?_
   refine seq_done ?_
   refine nrm_seq ?_
   refine tri_ret ?_
   refine ret_fin1 (res_tmp rfl) ?_
   exact ⟨rfl, rfl, rfl⟩
set_option maxHeartbeats 0 in
set_option maxRecDepth 100000 in
theorem termSame_fn : ∀ (t : Tm) (G : IM) (cells cells' : List Value), RTm G t cells → RTm G t cells' → Fn Try.prog 16 [.agg ⟨cells⟩, .agg ⟨cells'⟩] [] G (Val (.bool true) G) := by
 refine Tm.ind fun k nm num ty fr lb ks ih G cells cells' hr hr' => ?_
 obtain ⟨tk, tks⟩ := ty
 obtain ⟨fk, fks⟩ := fr
 obtain ⟨pt, ct, pf, cf, p, c, es, rfl, hk, hnum, hlb, hty, hfr, hsl, hkl⟩ := hr.open9
 obtain ⟨pt', ct', pf', cf', p', c', es', rfl, _, _, _, hty', hfr', hsl', hkl'⟩ := hr'.open9
 have h1 := typeSame_fn (.mk tk tks) G _ _ hty hty'
 have h2 := typeSame_fn (.mk fk fks) G _ _ hfr hfr'
 refine fn_enter Try.func16 rfl Try.ntmps16 Try.results16 rfl ?_
 intro w0
 refine tri_seq ?_
 refine tri_region ?_
 (refine seq_step (step_box_a rfl rfl) rfl ?_; rintro _ ⟨b3, rfl⟩)
 (refine seq_step (step_box_a rfl rfl) rfl ?_; rintro _ ⟨b4, rfl⟩)
 refine seq_pure (pure_assign rfl) rfl rfl ?_
 refine seq_done ?_
 refine nrm_seq ?_
 refine tri_seq ?_
 refine tri_region ?_
 refine seq_pure (pure_fieldAddr0 rfl) rfl rfl ?_
 refine seq_load (load_bs rfl rfl (by repeat (first | exact List.Mem.head _ | apply List.Mem.tail)) (by rfl)) rfl rfl ?_
 refine seq_pure (pure_fieldAddr0 rfl) rfl rfl ?_
 refine seq_load (load_bs rfl rfl (by repeat (first | exact List.Mem.head _ | apply List.Mem.tail)) (by rfl)) rfl rfl ?_
 refine seq_pure (pure_eql_t rfl rfl (by omega)) rfl rfl ?_
 refine seq_pure (pure_move rfl) rfl rfl ?_
 refine seq_pure (pure_fieldAddr0 rfl) rfl rfl ?_
 refine seq_load (load_bs rfl rfl (by repeat (first | exact List.Mem.head _ | apply List.Mem.tail)) (by rfl)) rfl rfl ?_
 refine seq_pure (pure_fieldAddr0 rfl) rfl rfl ?_
 refine seq_load (load_bs rfl rfl (by repeat (first | exact List.Mem.head _ | apply List.Mem.tail)) (by rfl)) rfl rfl ?_
 refine seq_pure (pure_seq_s rfl rfl) rfl rfl ?_
 refine seq_pure (pure_pick_t rfl rfl) rfl rfl ?_
 refine seq_pure (pure_move rfl) rfl rfl ?_
 refine seq_pure (pure_fieldAddr0 rfl) rfl rfl ?_
 refine seq_load (load_bs rfl rfl (by repeat (first | exact List.Mem.head _ | apply List.Mem.tail)) (by rfl)) rfl rfl ?_
 refine seq_pure (pure_fieldAddr0 rfl) rfl rfl ?_
 refine seq_load (load_bs rfl rfl (by repeat (first | exact List.Mem.head _ | apply List.Mem.tail)) (by rfl)) rfl rfl ?_
 refine seq_pure (pure_eql_t rfl rfl (by omega)) rfl rfl ?_
 refine seq_pure (pure_pick_t rfl rfl) rfl rfl ?_
 refine seq_pure (pure_move rfl) rfl rfl ?_
 refine seq_pure (pure_fieldAddr0 rfl) rfl rfl ?_
 refine seq_load (load_ba rfl rfl (by repeat (first | exact List.Mem.head _ | apply List.Mem.tail)) (by rfl)) rfl rfl ?_
 refine seq_pure (pure_fieldAddr0 rfl) rfl rfl ?_
 refine seq_load (load_ba rfl rfl (by repeat (first | exact List.Mem.head _ | apply List.Mem.tail)) (by rfl)) rfl rfl ?_
 refine seq_val rfl (h1) rfl rfl ?_
 refine seq_pure (pure_pick_t rfl rfl) rfl rfl ?_
 refine seq_pure (pure_move rfl) rfl rfl ?_
 refine seq_pure (pure_fieldAddr0 rfl) rfl rfl ?_
 refine seq_load (load_ba rfl rfl (by repeat (first | exact List.Mem.head _ | apply List.Mem.tail)) (by rfl)) rfl rfl ?_
 refine seq_pure (pure_fieldAddr0 rfl) rfl rfl ?_
 refine seq_load (load_ba rfl rfl (by repeat (first | exact List.Mem.head _ | apply List.Mem.tail)) (by rfl)) rfl rfl ?_
 refine seq_val rfl (h2) rfl rfl ?_
 refine seq_pure (pure_pick_t rfl rfl) rfl rfl ?_
 refine seq_pure (pure_move rfl) rfl rfl ?_
 refine seq_pure (pure_fieldAddr0 rfl) rfl rfl ?_
 refine seq_load (load_bs rfl rfl (by repeat (first | exact List.Mem.head _ | apply List.Mem.tail)) (by rfl)) rfl rfl ?_
 refine seq_pure (pure_fieldAddr0 rfl) rfl rfl ?_
 refine seq_load (load_bs rfl rfl (by repeat (first | exact List.Mem.head _ | apply List.Mem.tail)) (by rfl)) rfl rfl ?_
 refine seq_pure (pure_eql_t rfl rfl (by omega)) rfl rfl ?_
 refine seq_pure (pure_pick_t rfl rfl) rfl rfl ?_
 refine seq_pure (pure_move rfl) rfl rfl ?_
 refine seq_pure (pure_fieldAddr0 rfl) rfl rfl ?_
 refine seq_load (load_bs rfl rfl (by repeat (first | exact List.Mem.head _ | apply List.Mem.tail)) (by rfl)) rfl rfl ?_
 refine seq_pure (pure_fieldAddr0 rfl) rfl rfl ?_
 refine seq_load (load_bs rfl rfl (by repeat (first | exact List.Mem.head _ | apply List.Mem.tail)) (by rfl)) rfl rfl ?_
 refine seq_val rfl (equalFunc_Term _ _ _ _ _ _ _ _ hsl hsl' _ (fun i e e' he he' => ih (ks.getD i tm0) (hkl.inv he tm0).1 _ _ _ (hkl.inv he tm0).2 (hkl'.inv he' tm0).2)) rfl rfl ?_
 refine seq_pure (pure_pick_t rfl rfl) rfl rfl ?_
 refine seq_pure (pure_assign rfl) rfl rfl ?_
 refine seq_done ?_
 refine nrm_seq ?_
 refine tri_ret ?_
 refine ret_fin1 (res_tmp rfl) ?_
 exact ⟨rfl, rfl, rfl⟩
end Gw
end Go.Proofs.Yteneckdjdfnjoaa
namespace Go.Proofs.Yteneckdjdfnjoaa
open Go Go.RowKit
namespace Gw
set_option maxHeartbeats 0 in
set_option maxRecDepth 100000 in
theorem replaceLaw_fn (bs : List UInt8) (G : IM) (q : Option Addr) (c : Nat) (hb : Sl G q bs.length c 1 (byts bs)) :
  Fn Try.prog 4 [.slice q bs.length c] [] G (Imm fun _ v => v = .bool true) := by
 have hn := hb.le
 refine fn_enter Try.func4 rfl Try.ntmps4 Try.results4 rfl ?_
 intro w0
 refine tri_seq ?_
 refine tri_region ?_
 refine seq_pure (pure_assign rfl) rfl rfl ?_
 refine seq_done ?_
 refine nrm_seq ?_
 refine tri_seq ?_
 refine tri_seq ?_
 refine tri_region ?_
 refine seq_pure (pure_move rfl) rfl rfl ?_
 refine seq_pure (pure_len rfl rfl) rfl rfl ?_
 refine seq_bool (pure_gtr rfl rfl) rfl rfl (fun h11 => ?_) (fun h11 => ?_)
 ·refine seq_done ?_
  refine nrm_seq ?_
  refine tri_cond_t rfl ?_
  refine tri_seq ?_
  refine tri_region ?_
  refine seq_pure (pure_assign rfl) rfl rfl ?_
  refine seq_done ?_
  refine nrm_seq ?_
  refine tri_ret ?_
  refine ret_seq ?_
  refine ret_fin1 (res_tmp rfl) ?_
  exact ⟨rfl, rfl⟩
 ·refine seq_done ?_
  refine nrm_seq ?_
  refine tri_cond_f rfl ?_
  refine tri_skip ?_
  refine nrm_seq ?_
  refine tri_seq ?_
  refine tri_region ?_
  refine seq_pure (pure_move rfl) rfl rfl ?_
  (refine seq_imm rfl (drawReplaceAt_fn G q _ c bs hb) rfl rfl (fun v G1 hle1 hh => ?_); obtain ⟨t, ct, l, pl, cl, x, cx, rfl, hrt, hft, hsl, hl100, hrx, hfx⟩ := hh; obtain ⟨hf1, hf2⟩ := hft; obtain ⟨hx1, hx2⟩ := hfx; have hl1 := hrt.len; have ho1 := hrt.one; have hlx := hrx.len; have hox := hrx.one; have hA := replaceAt_fn t l x G1 ct cx pl cl hf1 hx1 hrt hrx hsl; obtain ⟨y, rb, hrr⟩ : ∃ y rb, mReplaceAt t l x = (y, rb) := ⟨_, _, rfl⟩; rw [hrr] at hA; cases rb)
  ·refine seq_pure (pure_move rfl) rfl rfl ?_
   refine seq_pure (pure_extract rfl rfl) rfl rfl ?_
   refine seq_pure (pure_extract rfl rfl) rfl rfl ?_
   refine seq_pure (pure_extract rfl rfl) rfl rfl ?_
   (refine seq_step (step_alloc rfl) rfl ?_; rintro _ ⟨b37, rfl⟩)
   (refine seq_step (step_alloc rfl) rfl ?_; rintro _ ⟨b38, rfl⟩)
   refine seq_store rfl rfl rfl hl1 ho1 rfl (by repeat (first | exact Sw.here | apply Sw.there)) (by exact upd_all hl1.symm) ?_
   refine seq_pure (pure_assign rfl) rfl rfl ?_
   refine seq_store rfl rfl rfl hlx hox rfl (by repeat (first | exact Sw.here | apply Sw.there)) (by exact upd_all hlx.symm) ?_
   refine seq_done ?_
   refine nrm_seq ?_
   refine tri_seq ?_
   refine tri_region ?_
   refine seq_load (load_a rfl rfl (at_blk_all (by repeat (first | exact List.Mem.head _ | apply List.Mem.tail))) hl1) rfl rfl ?_
   refine seq_pure (pure_move rfl) rfl rfl ?_
   refine seq_load (load_a rfl rfl (at_blk_all (by repeat (first | exact List.Mem.head _ | apply List.Mem.tail))) hlx) rfl rfl ?_
   (refine seq_imm rfl hA rfl rfl (fun v G2 hle2 hh => ?_); obtain ⟨c2x, F2, rfl, hs2, hn22⟩ := hh; have hB := sReplaceAt_g t l x G2 ct cx pl cl hf1 hx1 (by omega) (by omega) (hrt.mono hle2) (hrx.mono hle2) (hsl.mono hle2); rw [hrr] at hB; have hl2 := hs2.R.len; have ho2 := hs2.R.one)
   refine seq_pure (pure_move rfl) rfl rfl ?_
   refine seq_pure (pure_extract rfl rfl) rfl rfl ?_
   refine seq_pure (pure_extract rfl rfl) rfl rfl ?_
   (refine seq_step (step_alloc rfl) rfl ?_; rintro _ ⟨b53, rfl⟩)
   refine seq_store rfl rfl rfl hl2 ho2 rfl (by repeat (first | exact Sw.here | apply Sw.there)) (by exact upd_all hl2.symm) ?_
   refine seq_pure (pure_assign rfl) rfl rfl ?_
   refine seq_done ?_
   refine nrm_seq ?_
   refine tri_seq ?_
   refine tri_region ?_
   refine seq_load (load_a rfl rfl (at_blk_all (by repeat (first | exact List.Mem.head _ | apply List.Mem.tail))) hl1) rfl rfl ?_
   refine seq_pure (pure_move rfl) rfl rfl ?_
   refine seq_load (load_a rfl rfl (at_blk_all (by repeat (first | exact List.Mem.head _ | apply List.Mem.tail))) hlx) rfl rfl ?_
   (refine seq_imm rfl hB rfl rfl (fun v G3 hle3 hh => ?_); obtain ⟨c3x, F3, rfl, hs3, hn3⟩ := hh; have hl3 := hs3.R.len; have ho3 := hs3.R.one; have hr2 := hs2.R.mono ((Dif.le G2 G1).trans hle3); have hr3 := hs3.R.mono (Dif.le G3 G2); have hT := termSame_fn y G3 _ _ hr2 hr3; have hle13 := hle2.trans hle3; replace hrt := hrt.mono hle13; replace hrx := hrx.mono hle13; replace hsl := hsl.mono hle13)
   refine seq_pure (pure_move rfl) rfl rfl ?_
   refine seq_pure (pure_extract rfl rfl) rfl rfl ?_
   refine seq_pure (pure_extract rfl rfl) rfl rfl ?_
   (refine seq_step (step_alloc rfl) rfl ?_; rintro _ ⟨b67, rfl⟩)
   refine seq_store rfl rfl rfl hl3 ho3 rfl (by repeat (first | exact Sw.here | apply Sw.there)) (by exact upd_all hl3.symm) ?_
   refine seq_pure (pure_assign rfl) rfl rfl ?_
   refine seq_done ?_
   refine nrm_seq ?_
   refine tri_seq ?_
   refine tri_seq ?_
   refine tri_region ?_
   refine seq_pure (pure_move rfl) rfl rfl ?_
   refine seq_pure (pure_move rfl) rfl rfl ?_
   refine seq_pure (pure_bneq_s rfl rfl rfl) rfl rfl ?_
   refine seq_pure (pure_move rfl) rfl rfl ?_
   refine seq_load (load_a rfl rfl (at_blk_all (by repeat (first | exact List.Mem.head _ | apply List.Mem.tail))) hl2) rfl rfl ?_
   refine seq_load (load_a rfl rfl (at_blk_all (by repeat (first | exact List.Mem.head _ | apply List.Mem.tail))) hl3) rfl rfl ?_
   refine seq_val rfl (hT) rfl rfl ?_
   refine seq_pure (pure_not_t rfl) rfl rfl ?_
   refine seq_pure (pure_pick_f rfl rfl) rfl rfl ?_
   refine seq_pure (pure_move rfl) rfl rfl ?_
   refine seq_pure (pure_move rfl) rfl rfl ?_
   refine seq_pure (pure_not_f rfl) rfl rfl ?_
   refine seq_pure (pure_pick_f rfl rfl) rfl rfl ?_
   refine seq_done ?_
   refine nrm_seq ?_
   refine tri_cond_t rfl ?_
   refine tri_seq ?_
   refine tri_region ?_
   refine seq_pure (pure_move rfl) rfl rfl ?_
   refine seq_pure (pure_move rfl) rfl rfl ?_
   refine seq_pure (pure_beql_s rfl rfl rfl) rfl rfl ?_
   refine seq_pure (pure_move rfl) rfl rfl ?_
   refine seq_load (load_a rfl rfl (at_blk_all (by repeat (first | exact List.Mem.head _ | apply List.Mem.tail))) hl2) rfl rfl ?_
   refine seq_load (load_a rfl rfl (at_blk_all (by repeat (first | exact List.Mem.head _ | apply List.Mem.tail))) hl3) rfl rfl ?_
   refine seq_val rfl (hT) rfl rfl ?_
   refine seq_pure (pure_pick_t rfl rfl) rfl rfl ?_
   refine seq_pure (pure_assign rfl) rfl rfl ?_
   refine seq_done ?_
   refine nrm_seq ?_
   refine tri_ret ?_
   refine ret_seq ?_
   refine ret_fin1 (res_tmp rfl) ?_
   exact ⟨rfl, rfl⟩
  ·refine seq_pure (pure_move rfl) rfl rfl ?_
   refine seq_pure (pure_extract rfl rfl) rfl rfl ?_
   refine seq_pure (pure_extract rfl rfl) rfl rfl ?_
   refine seq_pure (pure_extract rfl rfl) rfl rfl ?_
   (refine seq_step (step_alloc rfl) rfl ?_; rintro _ ⟨b112, rfl⟩)
   (refine seq_step (step_alloc rfl) rfl ?_; rintro _ ⟨b113, rfl⟩)
   refine seq_store rfl rfl rfl hl1 ho1 rfl (by repeat (first | exact Sw.here | apply Sw.there)) (by exact upd_all hl1.symm) ?_
   refine seq_pure (pure_assign rfl) rfl rfl ?_
   refine seq_store rfl rfl rfl hlx hox rfl (by repeat (first | exact Sw.here | apply Sw.there)) (by exact upd_all hlx.symm) ?_
   refine seq_done ?_
   refine nrm_seq ?_
   refine tri_seq ?_
   refine tri_region ?_
   refine seq_load (load_a rfl rfl (at_blk_all (by repeat (first | exact List.Mem.head _ | apply List.Mem.tail))) hl1) rfl rfl ?_
   refine seq_pure (pure_move rfl) rfl rfl ?_
   refine seq_load (load_a rfl rfl (at_blk_all (by repeat (first | exact List.Mem.head _ | apply List.Mem.tail))) hlx) rfl rfl ?_
   (refine seq_imm rfl hA rfl rfl (fun v G2 hle2 hh => ?_); obtain ⟨c2x, F2, rfl, hs2, hn22⟩ := hh; have hB := sReplaceAt_g t l x G2 ct cx pl cl hf1 hx1 (by omega) (by omega) (hrt.mono hle2) (hrx.mono hle2) (hsl.mono hle2); rw [hrr] at hB; have hl2 := hs2.R.len; have ho2 := hs2.R.one)
   refine seq_pure (pure_move rfl) rfl rfl ?_
   refine seq_pure (pure_extract rfl rfl) rfl rfl ?_
   refine seq_pure (pure_extract rfl rfl) rfl rfl ?_
   (refine seq_step (step_alloc rfl) rfl ?_; rintro _ ⟨b128, rfl⟩)
   refine seq_store rfl rfl rfl hl2 ho2 rfl (by repeat (first | exact Sw.here | apply Sw.there)) (by exact upd_all hl2.symm) ?_
   refine seq_pure (pure_assign rfl) rfl rfl ?_
   refine seq_done ?_
   refine nrm_seq ?_
   refine tri_seq ?_
   refine tri_region ?_
   refine seq_load (load_a rfl rfl (at_blk_all (by repeat (first | exact List.Mem.head _ | apply List.Mem.tail))) hl1) rfl rfl ?_
   refine seq_pure (pure_move rfl) rfl rfl ?_
   refine seq_load (load_a rfl rfl (at_blk_all (by repeat (first | exact List.Mem.head _ | apply List.Mem.tail))) hlx) rfl rfl ?_
   (refine seq_imm rfl hB rfl rfl (fun v G3 hle3 hh => ?_); obtain ⟨c3x, F3, rfl, hs3, hn3⟩ := hh; have hl3 := hs3.R.len; have ho3 := hs3.R.one; have hr2 := hs2.R.mono ((Dif.le G2 G1).trans hle3); have hr3 := hs3.R.mono (Dif.le G3 G2); have hT := termSame_fn y G3 _ _ hr2 hr3; have hle13 := hle2.trans hle3; replace hrt := hrt.mono hle13; replace hrx := hrx.mono hle13; replace hsl := hsl.mono hle13)
   refine seq_pure (pure_move rfl) rfl rfl ?_
   refine seq_pure (pure_extract rfl rfl) rfl rfl ?_
   refine seq_pure (pure_extract rfl rfl) rfl rfl ?_
   (refine seq_step (step_alloc rfl) rfl ?_; rintro _ ⟨b142, rfl⟩)
   refine seq_store rfl rfl rfl hl3 ho3 rfl (by repeat (first | exact Sw.here | apply Sw.there)) (by exact upd_all hl3.symm) ?_
   refine seq_pure (pure_assign rfl) rfl rfl ?_
   refine seq_done ?_
   refine nrm_seq ?_
   refine tri_seq ?_
   refine tri_seq ?_
   refine tri_region ?_
   refine seq_pure (pure_move rfl) rfl rfl ?_
   refine seq_pure (pure_move rfl) rfl rfl ?_
   refine seq_pure (pure_bneq_s rfl rfl rfl) rfl rfl ?_
   refine seq_pure (pure_move rfl) rfl rfl ?_
   refine seq_load (load_a rfl rfl (at_blk_all (by repeat (first | exact List.Mem.head _ | apply List.Mem.tail))) hl2) rfl rfl ?_
   refine seq_load (load_a rfl rfl (at_blk_all (by repeat (first | exact List.Mem.head _ | apply List.Mem.tail))) hl3) rfl rfl ?_
   refine seq_val rfl (hT) rfl rfl ?_
   refine seq_pure (pure_not_t rfl) rfl rfl ?_
   refine seq_pure (pure_pick_f rfl rfl) rfl rfl ?_
   refine seq_pure (pure_move rfl) rfl rfl ?_
   refine seq_pure (pure_move rfl) rfl rfl ?_
   refine seq_pure (pure_not_t rfl) rfl rfl ?_
   refine seq_pure (pure_pick_f rfl rfl) rfl rfl ?_
   refine seq_done ?_
   refine nrm_seq ?_
   refine tri_cond_f rfl ?_
   refine tri_skip ?_
   refine nrm_seq ?_
   refine tri_seq ?_
   refine tri_region ?_
   refine seq_load (load_a rfl rfl (at_blk_all (by repeat (first | exact List.Mem.head _ | apply List.Mem.tail))) hl2) rfl rfl ?_
   refine seq_pure (pure_move rfl) rfl rfl ?_
   (obtain ⟨own, hy1, hy2, hy3, hy4, hos, hys⟩ := rep_split hrr hf1 hx1; have hC := termAt_g y l G3 c2x pl cl hys hr2 hsl; rw [hy1] at hC; refine seq_imm rfl hC rfl rfl (fun v G4 hle4 hh => ?_); obtain ⟨c4x, F4, rfl, hs4, hn4⟩ := hh; have hl4 := hs4.R.len; have ho4 := hs4.R.one; have hr4 := hs4.R.mono (Dif.le G4 G3); replace hrt := hrt.mono hle4; replace hrx := hrx.mono hle4; replace hr2 := hr2.mono hle4; replace hsl := hsl.mono hle4)
   refine seq_pure (pure_move rfl) rfl rfl ?_
   refine seq_pure (pure_extract rfl rfl) rfl rfl ?_
   refine seq_pure (pure_extract rfl rfl) rfl rfl ?_
   (refine seq_step (step_alloc rfl) rfl ?_; rintro _ ⟨b176, rfl⟩)
   refine seq_store rfl rfl rfl hl4 ho4 rfl (by repeat (first | exact Sw.here | apply Sw.there)) (by exact upd_all hl4.symm) ?_
   refine seq_pure (pure_assign rfl) rfl rfl ?_
   refine seq_done ?_
   refine nrm_seq ?_
   refine tri_seq ?_
   refine tri_region ?_
   refine seq_load (load_a rfl rfl (at_blk_all (by repeat (first | exact List.Mem.head _ | apply List.Mem.tail))) hl1) rfl rfl ?_
   refine seq_pure (pure_move rfl) rfl rfl ?_
   (have hD := termAt_g t l G4 ct pl cl hf1 hrt hsl; rw [hy2] at hD; refine seq_imm rfl hD rfl rfl (fun v G5 hle5 hh => ?_); obtain ⟨c5x, F5, rfl, hs5, hn5⟩ := hh; have hl5 := hs5.R.len; have ho5 := hs5.R.one; have hr5 := hs5.R.mono (Dif.le G5 G4); replace hrt := hrt.mono hle5; replace hrx := hrx.mono hle5; replace hr2 := hr2.mono hle5; replace hr4 := hr4.mono hle5; replace hsl := hsl.mono hle5)
   refine seq_pure (pure_move rfl) rfl rfl ?_
   refine seq_pure (pure_extract rfl rfl) rfl rfl ?_
   refine seq_pure (pure_extract rfl rfl) rfl rfl ?_
   (refine seq_step (step_alloc rfl) rfl ?_; rintro _ ⟨b189, rfl⟩)
   refine seq_store rfl rfl rfl hl5 ho5 rfl (by repeat (first | exact Sw.here | apply Sw.there)) (by exact upd_all hl5.symm) ?_
   refine seq_pure (pure_assign rfl) rfl rfl ?_
   refine seq_done ?_
   refine nrm_seq ?_
   refine tri_seq ?_
   refine tri_region ?_
   refine seq_load (load_a rfl rfl (at_blk_all (by repeat (first | exact List.Mem.head _ | apply List.Mem.tail))) hl1) rfl rfl ?_
   refine seq_pure (pure_move rfl) rfl rfl ?_
   refine seq_load (load_a rfl rfl (at_blk_all (by repeat (first | exact List.Mem.head _ | apply List.Mem.tail))) hl5) rfl rfl ?_
   (have hE := replaceAt_fn t l own G5 ct c5x pl cl hf1 hos hrt hr5 hsl; rw [hy3] at hE; refine seq_imm rfl hE rfl rfl (fun v G6 hle6 hh => ?_); obtain ⟨c6x, F6, rfl, hs6, hn6⟩ := hh; have hl6 := hs6.R.len; have ho6 := hs6.R.one; have hr6 := hs6.R.mono (Dif.le G6 G5); replace hrt := hrt.mono hle6; replace hrx := hrx.mono hle6; replace hr2 := hr2.mono hle6; replace hr4 := hr4.mono hle6; replace hr5 := hr5.mono hle6; replace hsl := hsl.mono hle6)
   refine seq_pure (pure_move rfl) rfl rfl ?_
   refine seq_pure (pure_extract rfl rfl) rfl rfl ?_
   refine seq_pure (pure_extract rfl rfl) rfl rfl ?_
   (refine seq_step (step_alloc rfl) rfl ?_; rintro _ ⟨b203, rfl⟩)
   refine seq_store rfl rfl rfl hl6 ho6 rfl (by repeat (first | exact Sw.here | apply Sw.there)) (by exact upd_all hl6.symm) ?_
   refine seq_pure (pure_assign rfl) rfl rfl ?_
   refine seq_done ?_
   refine nrm_seq ?_
   refine tri_seq ?_
   refine tri_region ?_
   refine seq_load (load_a rfl rfl (at_blk_all (by repeat (first | exact List.Mem.head _ | apply List.Mem.tail))) hl2) rfl rfl ?_
   refine seq_pure (pure_move rfl) rfl rfl ?_
   refine seq_load (load_a rfl rfl (at_blk_all (by repeat (first | exact List.Mem.head _ | apply List.Mem.tail))) hl5) rfl rfl ?_
   (have hF := replaceAt_fn y l own G6 c2x c5x pl cl hys hos hr2 hr5 hsl; rw [hy4] at hF; refine seq_imm rfl hF rfl rfl (fun v G7 hle7 hh => ?_); obtain ⟨c7x, F7, rfl, hs7, hn7⟩ := hh; have hl7 := hs7.R.len; have ho7 := hs7.R.one; have hr7 := hs7.R.mono (Dif.le G7 G6); replace hrt := hrt.mono hle7; replace hrx := hrx.mono hle7; replace hr4 := hr4.mono hle7; replace hr6 := hr6.mono hle7; have hT2 := termSame_fn x G7 _ _ hr4 hrx; have hT3 := termSame_fn t G7 _ _ hr6 hrt; have hT4 := termSame_fn t G7 _ _ hr7 hrt)
   refine seq_pure (pure_move rfl) rfl rfl ?_
   refine seq_pure (pure_extract rfl rfl) rfl rfl ?_
   refine seq_pure (pure_extract rfl rfl) rfl rfl ?_
   (refine seq_step (step_alloc rfl) rfl ?_; rintro _ ⟨b217, rfl⟩)
   refine seq_store rfl rfl rfl hl7 ho7 rfl (by repeat (first | exact Sw.here | apply Sw.there)) (by exact upd_all hl7.symm) ?_
   refine seq_pure (pure_assign rfl) rfl rfl ?_
   refine seq_done ?_
   refine nrm_seq ?_
   refine tri_seq ?_
   refine tri_region ?_
   refine seq_pure (pure_move rfl) rfl rfl ?_
   refine seq_pure (pure_move rfl) rfl rfl ?_
   refine seq_load (load_a rfl rfl (at_blk_all (by repeat (first | exact List.Mem.head _ | apply List.Mem.tail))) hl4) rfl rfl ?_
   refine seq_load (load_a rfl rfl (at_blk_all (by repeat (first | exact List.Mem.head _ | apply List.Mem.tail))) hlx) rfl rfl ?_
   refine seq_val rfl (hT2) rfl rfl ?_
   refine seq_pure (pure_pick_t rfl rfl) rfl rfl ?_
   refine seq_pure (pure_move rfl) rfl rfl ?_
   refine seq_pure (pure_move rfl) rfl rfl ?_
   refine seq_pure (pure_pick_t rfl rfl) rfl rfl ?_
   refine seq_pure (pure_move rfl) rfl rfl ?_
   refine seq_pure (pure_move rfl) rfl rfl ?_
   refine seq_pure (pure_pick_t rfl rfl) rfl rfl ?_
   refine seq_pure (pure_move rfl) rfl rfl ?_
   refine seq_load (load_a rfl rfl (at_blk_all (by repeat (first | exact List.Mem.head _ | apply List.Mem.tail))) hl6) rfl rfl ?_
   refine seq_load (load_a rfl rfl (at_blk_all (by repeat (first | exact List.Mem.head _ | apply List.Mem.tail))) hl1) rfl rfl ?_
   refine seq_val rfl (hT3) rfl rfl ?_
   refine seq_pure (pure_pick_t rfl rfl) rfl rfl ?_
   refine seq_pure (pure_move rfl) rfl rfl ?_
   refine seq_pure (pure_move rfl) rfl rfl ?_
   refine seq_pure (pure_pick_t rfl rfl) rfl rfl ?_
   refine seq_pure (pure_move rfl) rfl rfl ?_
   refine seq_load (load_a rfl rfl (at_blk_all (by repeat (first | exact List.Mem.head _ | apply List.Mem.tail))) hl7) rfl rfl ?_
   refine seq_load (load_a rfl rfl (at_blk_all (by repeat (first | exact List.Mem.head _ | apply List.Mem.tail))) hl1) rfl rfl ?_
   refine seq_val rfl (hT4) rfl rfl ?_
   refine seq_pure (pure_pick_t rfl rfl) rfl rfl ?_
   refine seq_pure (pure_assign rfl) rfl rfl ?_
   refine seq_done ?_
   refine nrm_seq ?_
   refine tri_ret ?_
   refine ret_fin1 (res_tmp rfl) ?_
   exact ⟨rfl, rfl⟩
end Gw
end Go.Proofs.Yteneckdjdfnjoaa
namespace Go.Proofs.Yteneckdjdfnjoaa
open Go Go.RowKit Go.ChangeShapes Go.WideShapes Go.ChangeAt
namespace Gw
section read2
variable {H : Type} {enc : TypeId × Value → H} {w : World} {sp : Nat → Bool} {held : Bool}
end read2
end Gw
end Go.Proofs.Yteneckdjdfnjoaa
namespace Go.Proofs.Yteneckdjdfnjoaa
open Go Go.RowKit Go.ChangeShapes Go.WideShapes Go.ChangeAt
namespace Gw
theorem cellsU : Try.prog.cellsOf 5 = 1 := by kernel_rfl
theorem build_byte {q : Nat → Value → Prop} : ∀ {n : Nat}, (∀ i, i < n → ∃ k : UInt8, q i (.int .u8 (k.toNat : Int))) → ∃ l : List UInt8, l.length = n ∧ ∀ i v, (byts l)[i]? = some v → q i v
 | 0, _ => ⟨[], rfl, by simp [byts]⟩
 | n + 1, h => by
  obtain ⟨l, h1, h2⟩ := build_byte (n := n) fun i hi => h i (by omega)
  obtain ⟨k, hk⟩ := h n (by omega)
  refine ⟨l ++ [k], by simp [h1], fun i v hv => ?_⟩
  rw [show byts (l ++ [k]) = byts l ++ [.int .u8 (k.toNat : Int)] from by simp [byts], List.getElem?_append] at hv
  split at hv
  ·exact h2 i v hv
  ·rename_i hi
   rw [byts_len] at hi hv
   have : i - l.length = 0 := by
    have := (List.getElem?_eq_some_iff.1 hv).1; simp at this; omega
   rw [this] at hv; simp at hv; subst hv
   rw [show i = n by omega]; exact hk
section read2
variable {H : Type} {enc : TypeId × Value → H} {w : World} {sp : Nat → Bool} {held : Bool}
set_option maxRecDepth 100000 in
theorem read_bytes (n : Nat) (cs : List Value) (x : DataW H × List MemPlace) (h : DataW.trod enc Try.prog w 0 sp held n 22 cs = some x) : ∃ (l : List UInt8) (p : Option Addr) (c : Nat), cs = [.slice p l.length c] ∧ Sl (GW w) p l.length c 1 (byts l) := by
 rcases DataW.trod_slice Try.underlying22 h with ⟨rfl, _⟩ | ⟨ad, len, cap, elems, rest, n', rfl, rfl, _, _, hlc, hcm, hel, hele, _, _⟩
 ·exact ⟨[], none, 0, rfl, Sl.nil _ _⟩
 ·rw [cellsU] at hele
  obtain ⟨l, h1, h2⟩ := build_byte (q := fun i v => w.cells? 0 (ad.add (i * 1)) 1 = some [v]) (n := len) fun i hi => by
   have := hele i hi
   rw [List.getElem?_eq_getElem (by omega)] at this
   obtain ⟨cs', c1, c2⟩ := Option.bind_eq_some_iff.1 this
   obtain ⟨k, rfl, _, hw⟩ := DataW.trod_int Try.underlying5 c2
   have hk : 0 ≤ k ∧ k < 256 := by
    have hw2 : (decide ((0 : Int) ≤ k) && decide (k ≤ (255 : Int))) = true := hw
    simp only [Bool.and_eq_true, decide_eq_true_eq] at hw2
    omega
   refine ⟨UInt8.ofNat k.toNat, ?_⟩
   rw [show ((UInt8.ofNat k.toNat).toNat : Int) = k from by
    rw [UInt8.toNat_ofNat']; omega]
   exact c1
  subst h1
  refine ⟨l, some ad, cap, rfl, ?_⟩
  have := sl_read (w := w) (a := ad) (n := l.length) (c := cap) (sz := 1) (es := (byts l).map fun v => [v]) (by simp [byts_len]) (by omega) hlc hcm fun i e he => by
   rw [List.getElem?_map] at he
   cases hv : (byts l)[i]? with
   | none => rw [hv] at he; simp at he
   | some v => rw [hv] at he; simp at he; subst he; exact h2 i v hv
  have hf : ((byts l).map fun v => [v]).flatten = byts l := by
   generalize byts l = L
   induction L with
   | nil => rfl
   | cons a L ih => simp [ih]
  rwa [hf] at this
end read2
end Gw
end Go.Proofs.Yteneckdjdfnjoaa
