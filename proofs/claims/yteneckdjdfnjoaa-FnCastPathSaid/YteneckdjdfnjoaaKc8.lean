/-
  The casts of a term and their types: walked. Lists of numbers are compared. TypeSame, TermSame: the same data is the same. Nodes replaced: the program's put, the reference model's l16Replace. The reference model's replacing of nodes. The law that casts are found: its walk. Slices of numbers read as arguments. Slices of bytes read as arguments.
-/
import Derived.Test.YteneckdjdfnjoaaKc4
import Derived.Test.YteneckdjdfnjoaaKc3
import Derived.Test.YteneckdjdfnjoaaKc7
import Derived.Test.YteneckdjdfnjoaaKc1
import Derived.Test.YteneckdjdfnjoaaKc6
namespace Go.Proofs.Yteneckdjdfnjoaa
open Go Go.RowKit
namespace Gw
section cap
variable {P : Program} {Γ : Ctx} {env : Env} {hp : List Ent} {G : IM} {K : Po} {ops : Array Oper} {rest : List Oper}
theorem St.slc_cap {a : Act} {w : World} {p : Option Addr} {c el sz n : Nat} {cs : List Value} {hp' : List Ent} (hs : St Γ ⟨env, hp, G⟩ a w) (hk : Pk hp (.slc p c el sz n cs) hp') : n ≤ c := by
 have hown : Own [.slc p c el sz n cs] G w := hs.res.own.of_mem hk.perm
 obtain ⟨hl, h⟩ := hown.ok _ List.mem_cons_self
 rcases h with ⟨hv, hn⟩ | ⟨g, cap, cur, hv, _, hg, hnc, hcm, hsz, ht⟩
 ·omega
 ·cases hv; exact hnc
theorem triL_cap {p : Option Addr} {c el sz n : Nat} {cs : List Value} {hp' : List Ent} (hk : Pk hp (.slc p c el sz n cs) hp') (h : n ≤ c → TriL P Γ ops rest K ⟨env, hp, G⟩) : TriL P Γ ops rest K ⟨env, hp, G⟩ :=
 ⟨fun a w hs => (h (hs.slc_cap hk)).run a w hs⟩
end cap
theorem RTmL.append {G : IM} : ∀ {a b : List Tm} {es fs : List (List Value)}, RTmL G a es → RTmL G b fs → RTmL G (a ++ b) (es ++ fs)
 | [], b, es, fs, h, h2 => by simp only [RTmL] at h; subst h; simpa using h2
 | t :: a, b, es, fs, h, h2 => by
  simp only [RTmL] at h
  obtain ⟨x, r, rfl, h3, h4⟩ := h
  simp only [List.cons_append, RTmL]
  exact ⟨x, r ++ fs, rfl, h3, RTmL.append h4 h2⟩
theorem RTmL.ones {G : IM} {ts : List Tm} {es : List (List Value)} (h : RTmL G ts es) : ∀ u ∈ es.flatten, u.oneCell' = true := by
 intro u hu
 obtain ⟨e, he, hue⟩ := List.mem_flatten.1 hu
 obtain ⟨q, hq⟩ := List.getElem?_of_mem he
 exact List.all_eq_true.1 ((h.inv hq tm0).2.one) u hue
theorem RTmL.one1 {G : IM} {t : Tm} {c : List Value} (h : RTm G t c) : RTmL G [t] [c] := by
 simp only [RTmL]; exact ⟨c, [], rfl, h, rfl⟩
/-- Terms in a slice. -/
def TmSl (ts : List Tm) (G : IM) : IM → Value → List Ent → Prop := Imm fun G' v => ∃ p c es, v = .slice p ts.length c ∧ SlE G' p ts.length c 9 es ∧ RTmL G' ts es
theorem TmSl.mk {ts : List Tm} {n : Nat} {G G' : IM} {p : Option Addr} {c : Nat} {es : List (List Value)} (hn : ts.length = n) (hs : Sl G' p n c 9 es.flatten) (hr : RTmL G' ts es) : TmSl ts G G' (.slice p n c) [] := by
 subst hn
 exact ⟨rfl, p, c, es, rfl, SlE.of hs hr.len hr.all (fun e he => by obtain ⟨q, hq⟩ := List.getElem?_of_mem he; exact (hr.inv hq tm0).2.one), hr⟩
set_option maxHeartbeats 0 in
set_option maxRecDepth 100000 in
theorem casts_fn : ∀ (t : Tm) (G : IM) (cells : List Value), tmCount t ≤ 1000000 → RTm G t cells → Fn Try.prog 39 [.agg ⟨cells⟩] [] G (TmSl (mCasts t) G) := by
 refine Tm.ind fun k nm num ty fr lb ks ih G cells hcnt hr => ?_
 have hone := hr.one
 have hself := hr
 have hc14 : k = 14 → mCasts (.mk k nm num ty fr lb ks) = [.mk k nm num ty fr lb ks] ++ mCastsL ks := fun h => by rw [mCasts, if_pos h]
 have hcne : k ≠ 14 → mCasts (.mk k nm num ty fr lb ks) = [] ++ mCastsL ks := fun h => by rw [mCasts, if_neg h]
 rw [tmCount] at hcnt
 obtain ⟨tk, tks⟩ := ty
 obtain ⟨fk, fks⟩ := fr
 obtain ⟨pt, ct, pf, cf, q, cq, ek, rfl, hk, hnum, hlb, hty, hfr, hsl, hkl⟩ := hr.open9
 have hn := hsl.le
 refine fn_enter Try.func39 rfl Try.ntmps39 Try.results39 rfl ?_
 intro w0
 refine tri_seq ?_
 refine tri_region ?_
 (refine seq_step (step_box_a rfl rfl) rfl ?_; rintro _ ⟨b3, rfl⟩)
 refine seq_pure (pure_assign rfl) rfl rfl ?_
 refine seq_done ?_
 refine nrm_seq ?_
 refine tri_seq ?_
 refine tri_region ?_
 refine seq_pure (pure_assign rfl) rfl rfl ?_
 refine seq_done ?_
 refine nrm_seq ?_
 refine tri_seq ?_
 refine tri_seq ?_
 refine tri_region ?_
 refine seq_pure (pure_fieldAddr0 rfl) rfl rfl ?_
 refine seq_load (load_bs rfl rfl (by repeat (first | exact List.Mem.head _ | apply List.Mem.tail)) (by rfl)) rfl rfl ?_
 refine seq_bool (pure_eql rfl rfl) rfl rfl (fun h17 => ?_) (fun h17 => ?_)
 ·refine seq_done ?_
  refine nrm_seq ?_
  refine tri_cond_t rfl ?_
  (show Tri _ _ (.region 3 ..) _ _; refine tri_nil 28 9 ?_; refine tri_region ?_)
  refine seq_pure (pure_move rfl) rfl rfl ?_
  refine seq_load (load_ba rfl rfl (by repeat (first | exact List.Mem.head _ | apply List.Mem.tail)) (by rfl)) rfl rfl ?_
  (refine seq_step (step_buildSlice rfl rfl rfl (by omega) (by unfold maxLen; omega) rfl) rfl ?_; rintro _ ⟨b24, rfl⟩)
  (refine seq_append rfl rfl rfl rfl rfl (fun _ _ => by repeat (first | exact Sw.here | apply Sw.there)) (at_slc_all (by repeat (first | exact List.Mem.head _ | apply List.Mem.tail))) rfl (by simp [Value.oneCell']) (by unfold maxLen; omega) (by omega) rfl (fun pn0 cn0 => ?_))
  refine seq_pure (pure_assign rfl) rfl rfl ?_
  refine seq_done ?_
  refine nrm_seq ?_
  refine tri_seq ?_
  refine tri_seq ?_
  refine tri_region ?_
  refine seq_pure (pure_fieldAddr0 rfl) rfl rfl ?_
  refine seq_load (load_bs rfl rfl (by repeat (first | exact List.Mem.head _ | apply List.Mem.tail)) (by rfl)) rfl rfl ?_
  refine seq_pure (pure_len rfl rfl) rfl rfl ?_
  refine seq_pure (pure_move rfl) rfl rfl ?_
  refine seq_done ?_
  refine nrm_seq ?_
  refine tri_block ?_
  (have h14 := hc14 (by omega); have hinit := RTmL.one1 hself; refine tri_loopN (fun (x : Nat × Nat × Option Addr × Nat × List (List Value) × IM) => ⟨[(16, .int .i64 x.1), (15, .int .i64 ks.length), (14, .slice q ks.length cq), (3, .slice x.2.2.1 x.2.1 x.2.2.2.1)], [.slc x.2.2.1 x.2.2.2.1 28 9 x.2.1 x.2.2.2.2.1.flatten], x.2.2.2.2.2⟩) (fun x => x.1 ≤ ks.length ∧ IMle G x.2.2.2.2.2 ∧ RTmL x.2.2.2.2.2 ([.mk k nm num (.mk tk tks) (.mk fk fks) lb ks] ++ mCastsL (ks.take x.1)) x.2.2.2.2.1 ∧ ([Tm.mk k nm num (.mk tk tks) (.mk fk fks) lb ks] ++ mCastsL (ks.take x.1)).length = x.2.1) (fun x => ks.length - x.1) (0, 1, pn0, cn0, [[.int .i64 k, .string nm, .int .i64 num, .int .i64 tk, .slice pt tks.length ct, .int .i64 fk, .slice pf fks.length cf, .int .i64 lb, .slice q ks.length cq]], G) ?_ ?_ ?_)
  ·(simp only [flat_snoc]; exact sub_mk (by repeat (first | exact SubE.nil | refine SubE.cons rfl ?_)) (by repeat (first | exact SubH.refl | exact SubH.nil | refine SubH.cons (by repeat (first | exact Pk.here | apply Pk.there)) ?_ | apply SubH.drop)))
  ·(exact ⟨Nat.zero_le _, IMle.refl _, by simpa [mCastsL] using hinit, by simp [mCastsL]⟩)
  ·(rintro ⟨(i : Nat), (m : Nat), pn, cn, es, Gi⟩ ⟨hi, hle, hst, hlen⟩; simp only [] at hi hle hst hlen ⊢; replace hsl := hsl.mono hle; replace hkl := hkl.mono hle; have hb1 := mCastsL_len (ks.take i); have hb2 := mCastsL_len ks; simp only [List.length_append, List.length_singleton, List.length_nil] at hlen)
   refine tri_seq ?_
   refine tri_region ?_
   refine seq_bool (pure_lss rfl rfl) rfl rfl (fun h45 => ?_) (fun h45 => ?_)
   ·refine seq_done ?_
    refine nrm_seq ?_
    refine tri_seq ?_
    refine tri_cond_t rfl ?_
    refine tri_skip ?_
    refine nrm_seq ?_
    refine tri_seq ?_
    refine tri_block ?_
    refine tri_seq ?_
    refine tri_region ?_
    (obtain ⟨b, o, e, rfl, hl, hat, hre, hgb⟩ := hsl.kidTm hkl (i := i) (by omega) (by omega); have hone9 := hre.one; have hsc := tmCountL_succ (ks := ks) (i := i) (by omega); have hsk := tmCountL_take (ks := ks) (i := i) (by omega); refine seq_pure (pure_indexAddrN rfl rfl rfl (by omega)) rfl rfl ?_)
    refine seq_load (load_a rfl rfl (hat _) hl) rfl rfl ?_
    (refine seq_step (step_alloc rfl) rfl ?_; rintro _ ⟨b58, rfl⟩)
    refine seq_store rfl rfl rfl hl hone9 rfl (by repeat (first | exact Sw.here | apply Sw.there)) (by exact upd_all hl.symm) ?_
    refine seq_done ?_
    refine nrm_seq ?_
    refine tri_region ?_
    refine seq_pure (pure_move rfl) rfl rfl ?_
    refine seq_load (load_a rfl rfl (at_blk_all (by repeat (first | exact List.Mem.head _ | apply List.Mem.tail))) hl) rfl rfl ?_
    (refine seq_imm rfl (ih ks[i] (List.getElem_mem (by omega)) _ _ (by omega) hre) rfl rfl (fun v G3 hle3 hh => ?_); obtain ⟨p3, c3, e3, rfl, hs3, hr3⟩ := hh; have hlk := mCasts_len ks[i]; refine triL_cap (cs := es.flatten) (by repeat (first | exact Pk.here | apply Pk.there)) (fun hcap => ?_))
    (refine seq_appendSl rfl rfl rfl rfl rfl (fun _ _ => by repeat (first | exact Sw.here | apply Sw.there)) hs3.1 hr3.ones hcap (by unfold maxLen; omega) (by omega) rfl (fun p4 c4 => ?_))
    refine seq_pure (pure_assign rfl) rfl rfl ?_
    refine seq_done ?_
    refine nrm_block ?_
    refine nrm_seq ?_
    refine tri_region ?_
    refine seq_pure (pure_add rfl rfl (by omega) (by omega)) rfl rfl ?_
    refine seq_pure (pure_move rfl) rfl rfl ?_
    refine seq_done ?_
    (have hap := RTmL.append (hst.mono hle3) hr3; refine nrm_loopN (i + 1, m + (mCasts ks[i]).length, p4, c4, es ++ e3, G3) (by simp only [List.flatten_append]; exact (sub_mk (by repeat (first | exact SubE.nil | refine SubE.cons rfl ?_)) (by repeat (first | exact SubH.refl | exact SubH.nil | refine SubH.cons (by repeat (first | exact Pk.here | apply Pk.there)) ?_ | apply SubH.drop)))) ?_ ?_)
    ·(dsimp only; exact ⟨by omega, hle.trans hle3, by rw [mCastsL_succ (by omega), ← List.append_assoc]; exact hap, by rw [mCastsL_succ (by omega)]; simp only [List.length_append, List.length_singleton, List.length_nil]; omega⟩)
    ·(show ks.length - (i + 1) < ks.length - i; omega)
   ·refine seq_done ?_
    refine nrm_seq ?_
    refine tri_seq ?_
    refine tri_cond_f rfl ?_
    refine tri_exit ?_
    refine ext_seq ?_
    refine ext_loopN ?_
    refine ext_block_eq ?_
    refine nrm_seq ?_
    refine tri_seq ?_
    refine tri_region ?_
    refine seq_pure (pure_move rfl) rfl rfl ?_
    refine seq_pure (pure_assign rfl) rfl rfl ?_
    refine seq_done ?_
    refine nrm_seq ?_
    (refine ret_freeze (cs := es.flatten) (by repeat (first | exact Pk.here | apply Pk.there)) (fun G5 hle5 hsl5 hno5 => ?_); obtain rfl : i = ks.length := (by omega))
    refine tri_ret ?_
    refine ret_fin1 (res_tmp rfl) ?_
    (rw [h14]; rw [List.take_length] at hst hlen; exact TmSl.mk (by simp only [List.length_append, List.length_singleton, List.length_nil]; omega) hsl5 (hst.mono hle5))
 ·refine seq_done ?_
  refine nrm_seq ?_
  refine tri_cond_f rfl ?_
  refine tri_skip ?_
  refine nrm_seq ?_
  refine tri_seq ?_
  refine tri_seq ?_
  refine tri_region ?_
  refine seq_pure (pure_fieldAddr0 rfl) rfl rfl ?_
  refine seq_load (load_bs rfl rfl (by repeat (first | exact List.Mem.head _ | apply List.Mem.tail)) (by rfl)) rfl rfl ?_
  refine seq_pure (pure_len rfl rfl) rfl rfl ?_
  refine seq_pure (pure_move rfl) rfl rfl ?_
  refine seq_done ?_
  refine nrm_seq ?_
  refine tri_block ?_
  (have h14 := hcne (by omega); refine tri_nil 28 9 ?_; refine tri_loopN (fun (x : Nat × Nat × Option Addr × Nat × List (List Value) × IM) => ⟨[(16, .int .i64 x.1), (15, .int .i64 ks.length), (14, .slice q ks.length cq), (3, .slice x.2.2.1 x.2.1 x.2.2.2.1)], [.slc x.2.2.1 x.2.2.2.1 28 9 x.2.1 x.2.2.2.2.1.flatten], x.2.2.2.2.2⟩) (fun x => x.1 ≤ ks.length ∧ IMle G x.2.2.2.2.2 ∧ RTmL x.2.2.2.2.2 ([] ++ mCastsL (ks.take x.1)) x.2.2.2.2.1 ∧ ([] ++ mCastsL (ks.take x.1)).length = x.2.1) (fun x => ks.length - x.1) (0, 0, none, 0, [], G) ?_ ?_ ?_)
  ·(simp only [flat_snoc]; exact sub_mk (by repeat (first | exact SubE.nil | refine SubE.cons rfl ?_)) (by repeat (first | exact SubH.refl | exact SubH.nil | refine SubH.cons (by repeat (first | exact Pk.here | apply Pk.there)) ?_ | apply SubH.drop)))
  ·(exact ⟨Nat.zero_le _, IMle.refl _, by simp [mCastsL, RTmL], by simp [mCastsL]⟩)
  ·(rintro ⟨(i : Nat), (m : Nat), pn, cn, es, Gi⟩ ⟨hi, hle, hst, hlen⟩; simp only [] at hi hle hst hlen ⊢; replace hsl := hsl.mono hle; replace hkl := hkl.mono hle; have hb1 := mCastsL_len (ks.take i); have hb2 := mCastsL_len ks; simp only [List.length_append, List.length_singleton, List.length_nil] at hlen)
   refine tri_seq ?_
   refine tri_region ?_
   refine seq_bool (pure_lss rfl rfl) rfl rfl (fun h118 => ?_) (fun h118 => ?_)
   ·refine seq_done ?_
    refine nrm_seq ?_
    refine tri_seq ?_
    refine tri_cond_t rfl ?_
    refine tri_skip ?_
    refine nrm_seq ?_
    refine tri_seq ?_
    refine tri_block ?_
    refine tri_seq ?_
    refine tri_region ?_
    (obtain ⟨b, o, e, rfl, hl, hat, hre, hgb⟩ := hsl.kidTm hkl (i := i) (by omega) (by omega); have hone9 := hre.one; have hsc := tmCountL_succ (ks := ks) (i := i) (by omega); have hsk := tmCountL_take (ks := ks) (i := i) (by omega); refine seq_pure (pure_indexAddrN rfl rfl rfl (by omega)) rfl rfl ?_)
    refine seq_load (load_a rfl rfl (hat _) hl) rfl rfl ?_
    (refine seq_step (step_alloc rfl) rfl ?_; rintro _ ⟨b131, rfl⟩)
    refine seq_store rfl rfl rfl hl hone9 rfl (by repeat (first | exact Sw.here | apply Sw.there)) (by exact upd_all hl.symm) ?_
    refine seq_done ?_
    refine nrm_seq ?_
    refine tri_region ?_
    refine seq_pure (pure_move rfl) rfl rfl ?_
    refine seq_load (load_a rfl rfl (at_blk_all (by repeat (first | exact List.Mem.head _ | apply List.Mem.tail))) hl) rfl rfl ?_
    (refine seq_imm rfl (ih ks[i] (List.getElem_mem (by omega)) _ _ (by omega) hre) rfl rfl (fun v G3 hle3 hh => ?_); obtain ⟨p3, c3, e3, rfl, hs3, hr3⟩ := hh; have hlk := mCasts_len ks[i]; refine triL_cap (cs := es.flatten) (by repeat (first | exact Pk.here | apply Pk.there)) (fun hcap => ?_))
    (refine seq_appendSl rfl rfl rfl rfl rfl (fun _ _ => by repeat (first | exact Sw.here | apply Sw.there)) hs3.1 hr3.ones hcap (by unfold maxLen; omega) (by omega) rfl (fun p4 c4 => ?_))
    refine seq_pure (pure_assign rfl) rfl rfl ?_
    refine seq_done ?_
    refine nrm_block ?_
    refine nrm_seq ?_
    refine tri_region ?_
    refine seq_pure (pure_add rfl rfl (by omega) (by omega)) rfl rfl ?_
    refine seq_pure (pure_move rfl) rfl rfl ?_
    refine seq_done ?_
    (have hap := RTmL.append (hst.mono hle3) hr3; refine nrm_loopN (i + 1, m + (mCasts ks[i]).length, p4, c4, es ++ e3, G3) (by simp only [List.flatten_append]; exact (sub_mk (by repeat (first | exact SubE.nil | refine SubE.cons rfl ?_)) (by repeat (first | exact SubH.refl | exact SubH.nil | refine SubH.cons (by repeat (first | exact Pk.here | apply Pk.there)) ?_ | apply SubH.drop)))) ?_ ?_)
    ·(dsimp only; exact ⟨by omega, hle.trans hle3, by rw [mCastsL_succ (by omega), ← List.append_assoc]; exact hap, by rw [mCastsL_succ (by omega)]; simp only [List.length_append, List.length_singleton, List.length_nil]; omega⟩)
    ·(show ks.length - (i + 1) < ks.length - i; omega)
   ·refine seq_done ?_
    refine nrm_seq ?_
    refine tri_seq ?_
    refine tri_cond_f rfl ?_
    refine tri_exit ?_
    refine ext_seq ?_
    refine ext_loopN ?_
    refine ext_block_eq ?_
    refine nrm_seq ?_
    refine tri_seq ?_
    refine tri_region ?_
    refine seq_pure (pure_move rfl) rfl rfl ?_
    refine seq_pure (pure_assign rfl) rfl rfl ?_
    refine seq_done ?_
    refine nrm_seq ?_
    (refine ret_freeze (cs := es.flatten) (by repeat (first | exact Pk.here | apply Pk.there)) (fun G5 hle5 hsl5 hno5 => ?_); obtain rfl : i = ks.length := (by omega))
    refine tri_ret ?_
    refine ret_fin1 (res_tmp rfl) ?_
    (rw [h14]; rw [List.take_length] at hst hlen; exact TmSl.mk (by simp only [List.length_append, List.length_singleton, List.length_nil]; omega) hsl5 (hst.mono hle5))
theorem RTy.mk_ {G : IM} {t : Ty} {p : Option Addr} {c : Nat} {es : List (List Value)} (h1 : I64 t.k) (h2 : SlE G p t.ks.length c 2 es) (h3 : RTyL G t.ks es) : RTy G t [.int .i64 t.k, .slice p t.ks.length c] := by
 obtain ⟨k, ks⟩ := t
 simp only [RTy]
 exact ⟨p, c, es, rfl, h1, h2, h3⟩
theorem Tm.small_ty {t : Tm} (h : t.small) : t.ty.small ∧ t.fr.small := by
 obtain ⟨k, nm, num, ty, fr, lb, ks⟩ := t
 simp only [Tm.small] at h
 exact ⟨h.2.1, h.2.2.1⟩
/-- Types in a slice. -/
def TySl (ts : List Ty) (G : IM) : IM → Value → List Ent → Prop := Imm fun G' v => ∃ p c es, v = .slice p ts.length c ∧ SlE G' p ts.length c 2 es ∧ RTyL G' ts es
theorem TySl.mk {ts : List Ty} {n : Nat} {G G' : IM} {p : Option Addr} {c : Nat} {es : List (List Value)} (hn : ts.length = n) (hs : Sl G' p n c 2 es.flatten) (hr : RTyL G' ts es) : TySl ts G G' (.slice p n c) [] := by
 subst hn
 exact ⟨rfl, p, c, es, rfl, SlE.of hs hr.len hr.all (fun e he => (hr.each e he).2), hr⟩
theorem mCasts_mem : ∀ (t x : Tm), x ∈ mCasts t → t.small → x.small := by
 refine Tm.ind fun k nm num ty fr lb ks ih x h hs => ?_
 have hL : ∀ (ts : List Tm), (∀ t ∈ ts, ∀ y, y ∈ mCasts t → t.small → y.small) → Tm.smallL ts → ∀ y, y ∈ mCastsL ts → y.small := by
  intro ts
  induction ts with
  | nil => intro _ _ y hy; rw [mCastsL] at hy; simp at hy
  | cons t ts iht =>
   intro h1 h2 y hy
   rw [mCastsL] at hy
   simp only [Tm.smallL] at h2
   rcases List.mem_append.1 hy with hy | hy
   ·exact h1 t (by simp) y hy h2.1
   ·exact iht (fun u hu => h1 u (List.mem_cons_of_mem _ hu)) h2.2 y hy
 rw [mCasts] at h
 rcases List.mem_append.1 h with h | h
 ·split at h
  ·simp only [List.mem_singleton] at h; subst h; exact hs
  ·simp at h
 ·simp only [Tm.small] at hs
  exact hL ks ih hs.2.2.2.2 x h
set_option maxHeartbeats 0 in
set_option maxRecDepth 100000 in
theorem castTypes_fn (t : Tm) (label : Int) (G : IM) (cells : List Value) (hts : t.small) (hcnt : tmCount t ≤ 1000000) (hr : RTm G t cells) :
  Fn Try.prog 20 [.agg ⟨cells⟩, .int .i64 label] [] G (TySl (mCastTypes t label) G) := by
 have hl := hr.len
 have hone := hr.one
 have hv := castValid_fn t G cells hr
 have hC := casts_fn t G cells hcnt hr
 have hmem := mCasts_mem t
 have hlen0 := mCasts_len t
 have hy : castValid t = true → mCastTypes t label = mCTL label (mCasts t) := fun h => by unfold mCastTypes; rw [if_pos h]
 have hz : castValid t = false → mCastTypes t label = [] := fun h => by unfold mCastTypes; rw [if_neg (by rw [h]; simp)]
 generalize mCasts t = CS at *
 refine fn_enter Try.func20 rfl Try.ntmps20 Try.results20 rfl ?_
 intro w0
 refine tri_seq ?_
 refine tri_region ?_
 (refine seq_step (step_box_a rfl rfl) rfl ?_; rintro _ ⟨b3, rfl⟩)
 refine seq_pure (pure_assign rfl) rfl rfl ?_
 refine seq_done ?_
 refine nrm_seq ?_
 refine tri_seq ?_
 refine tri_seq ?_
 refine tri_region ?_
 refine seq_load (load_a rfl rfl (at_blk_all (by repeat (first | exact List.Mem.head _ | apply List.Mem.tail))) (by assumption)) rfl rfl ?_
 refine seq_valb rfl (hv) rfl rfl (fun h11 => ?_) (fun h11 => ?_)
 ·refine seq_pure (pure_not_t rfl) rfl rfl ?_
  refine seq_done ?_
  refine nrm_seq ?_
  refine tri_cond_f rfl ?_
  refine tri_skip ?_
  refine nrm_seq ?_
  refine tri_seq ?_
  refine tri_region ?_
  refine seq_pure (pure_assign rfl) rfl rfl ?_
  refine seq_done ?_
  refine nrm_seq ?_
  refine tri_seq ?_
  refine tri_seq ?_
  refine tri_region ?_
  refine seq_load (load_a rfl rfl (at_blk_all (by repeat (first | exact List.Mem.head _ | apply List.Mem.tail))) (by assumption)) rfl rfl ?_
  (refine seq_imm rfl hC rfl rfl (fun v G1 hle1 hh => ?_); obtain ⟨p1, c1, es1, rfl, hs1, hr1⟩ := hh; have hyy := hy (by assumption))
  refine seq_pure (pure_len rfl rfl) rfl rfl ?_
  refine seq_pure (pure_move rfl) rfl rfl ?_
  refine seq_done ?_
  refine nrm_seq ?_
  refine tri_block ?_
  (refine tri_nil 25 2 ?_; refine tri_loopN (fun (x : Nat × Nat × Option Addr × Nat × List (List Value) × IM) => ⟨[(14, .int .i64 x.1), (13, .int .i64 CS.length), (12, .slice p1 CS.length c1), (5, .slice x.2.2.1 x.2.1 x.2.2.2.1), (1, .int .i64 label)], [.slc x.2.2.1 x.2.2.2.1 25 2 x.2.1 x.2.2.2.2.1.flatten], x.2.2.2.2.2⟩) (fun x => x.1 ≤ CS.length ∧ IMle G1 x.2.2.2.2.2 ∧ RTyL x.2.2.2.2.2 (mCTL label (CS.take x.1)) x.2.2.2.2.1 ∧ (mCTL label (CS.take x.1)).length = x.2.1) (fun x => CS.length - x.1) (0, 0, none, 0, [], G1) ?_ ?_ ?_)
  ·(simp only [flat_snoc]; exact sub_mk (by repeat (first | exact SubE.nil | refine SubE.cons rfl ?_)) (by repeat (first | exact SubH.refl | exact SubH.nil | refine SubH.cons (by repeat (first | exact Pk.here | apply Pk.there)) ?_ | apply SubH.drop)))
  ·(exact ⟨Nat.zero_le _, IMle.refl _, by simp [mCTL, RTyL], by simp [mCTL]⟩)
  ·(rintro ⟨(i : Nat), (m : Nat), pn, cn, es, Gi⟩ ⟨hi, hle, hst, hlen⟩; simp only [] at hi hle hst hlen ⊢; replace hs1 := hs1.mono hle; replace hr1 := hr1.mono hle; have hb1 := mCTL_len label (CS.take i); rw [List.length_take] at hb1; have hstl := hst.len)
   refine tri_seq ?_
   refine tri_region ?_
   refine seq_bool (pure_lss rfl rfl) rfl rfl (fun h39 => ?_) (fun h39 => ?_)
   ·refine seq_done ?_
    refine nrm_seq ?_
    refine tri_seq ?_
    refine tri_cond_t rfl ?_
    refine tri_skip ?_
    refine nrm_seq ?_
    refine tri_seq ?_
    refine tri_block ?_
    refine tri_seq ?_
    refine tri_region ?_
    (obtain ⟨b, o, e, rfl, hl9, hat, hre, hgb⟩ := hs1.kidTm hr1 (i := i) (by omega) (by omega); have hone9 := hre.one; have hsm := hmem _ (List.getElem_mem (show i < CS.length by omega)) hts; obtain ⟨pt, ct, et, pf, cf, ef, p7, c7, e7, rfl, _, _, _, ⟨t1, t2, t3⟩, ⟨f1, f2, f3⟩, _⟩ := hre.open; have hrt := RTy.mk_ t1 t2 t3; have hrf := RTy.mk_ f1 f2 f3; obtain ⟨hst9, hsf⟩ := Tm.small_ty hsm; have hsu := mCTL_succ (label := label) (cs := CS) (i := i) (by omega); refine seq_pure (pure_indexAddrN rfl rfl rfl (by omega)) rfl rfl ?_)
    refine seq_load (load_a rfl rfl (hat _) hl9) rfl rfl ?_
    (refine seq_step (step_alloc rfl) rfl ?_; rintro _ ⟨b52, rfl⟩)
    refine seq_store rfl rfl rfl hl9 hone9 rfl (by repeat (first | exact Sw.here | apply Sw.there)) (by exact upd_all hl9.symm) ?_
    refine seq_done ?_
    refine nrm_seq ?_
    refine tri_seq ?_
    refine tri_region ?_
    refine seq_pure (pure_fieldAddr0 rfl) rfl rfl ?_
    refine seq_load (load_bs rfl rfl (by repeat (first | exact List.Mem.head _ | apply List.Mem.tail)) (by rfl)) rfl rfl ?_
    refine seq_pure (pure_move rfl) rfl rfl ?_
    refine seq_bool (pure_eql rfl rfl) rfl rfl (fun h61 => ?_) (fun h61 => ?_)
    ·refine seq_done ?_
     refine nrm_seq ?_
     refine tri_cond_t rfl ?_
     (have hO1 := ownType_fn _ Gi _ hsf hrf; refine tri_draw mixed rfl ?_)
     refine any_pure (i := 0) (listed' := [tt,ff,ff,ff,ff,ff,ff,ff,ff,ff]) rfl (by repeat (first | exact np_ret | exact np_cut | apply np_cutr | apply np_seq | apply np_block | apply np_loopN')) (pure_move rfl) rfl (by kernel_rfl) rfl rfl ?_
     refine any_pure (i := 1) (listed' := [tt,tt,ff,ff,ff,ff,ff,ff,ff,ff]) rfl (by repeat (first | exact np_ret | exact np_cut | apply np_cutr | apply np_seq | apply np_block | apply np_loopN')) (pure_fieldAddr0 rfl) rfl (by kernel_rfl) rfl rfl ?_
     refine any_load (i := 2) (listed' := [tt,tt,tt,ff,ff,ff,ff,ff,ff,ff]) rfl (by repeat (first | exact np_ret | exact np_cut | apply np_cutr | apply np_seq | apply np_block | apply np_loopN')) (load_ba rfl rfl (by repeat (first | exact List.Mem.head _ | apply List.Mem.tail)) (by rfl)) rfl (by kernel_rfl) rfl rfl ?_
     refine any_pure (i := 4) (listed' := [tt,tt,tt,ff,tt,ff,ff,ff,ff,ff]) rfl (by repeat (first | exact np_ret | exact np_cut | apply np_cutr | apply np_seq | apply np_block | apply np_loopN')) (pure_fieldAddr0 rfl) rfl (by kernel_rfl) rfl rfl ?_
     refine any_load (i := 5) (listed' := [tt,tt,tt,ff,tt,tt,ff,ff,ff,ff]) rfl (by repeat (first | exact np_ret | exact np_cut | apply np_cutr | apply np_seq | apply np_block | apply np_loopN')) (load_ba rfl rfl (by repeat (first | exact List.Mem.head _ | apply List.Mem.tail)) (by rfl)) rfl (by kernel_rfl) rfl rfl ?_
     refine any_one (j := 3) (by kernel_rfl) ?_
     (refine one_imm (listed' := [tt,tt,tt,tt,tt,tt,ff,ff,ff,ff]) rfl rfl hO1 rfl rfl rfl (fun v G3 hle3 hh => ?_); obtain ⟨cs3, F3, rfl, hs3, hn3⟩ := hh; obtain ⟨p3, c3, rfl, _⟩ := hs3.open; have hO2 := ownType_fn _ G3 _ hst9 (hrt.mono hle3))
     refine any_one (j := 6) (by kernel_rfl) ?_
     (refine one_imm (listed' := [tt,tt,tt,tt,tt,tt,tt,ff,ff,ff]) rfl rfl hO2 rfl rfl rfl (fun v G4 hle4 hh => ?_); obtain ⟨cs4, F4, rfl, hs4, hn4⟩ := hh; obtain ⟨p4, c4, rfl, _⟩ := hs4.open; have hq3 := hs3.R.mono ((Dif.le G3 Gi).trans hle4); have hq4 := hs4.R.mono (Dif.le G4 G3); have hle34 := hle3.trans hle4)
     refine any_one (j := 7) (by kernel_rfl) ?_
     (refine one_step0 (listed' := [tt,tt,tt,tt,tt,tt,tt,tt,ff,ff]) rfl (step_buildSlice rfl rfl rfl (by omega) (by unfold maxLen; omega) rfl) rfl rfl ?_; rintro _ ⟨b76, rfl⟩)
     refine any_one (j := 8) (by kernel_rfl) ?_
     refine one_append (listed' := [tt,tt,tt,tt,tt,tt,tt,tt,tt,ff]) rfl rfl rfl rfl rfl rfl (fun _ _ => by repeat (first | exact Sw.here | apply Sw.there)) (at_slc_all (by repeat (first | exact List.Mem.head _ | apply List.Mem.tail))) rfl (by simp [Value.oneCell']) (by unfold maxLen; omega) (by omega) rfl rfl (by repeat (first | exact HmOk.nil | apply HmOk.dep (by decide +kernel) | apply HmOk.blk (by decide +kernel) (by repeat (first | exact Pk.here | apply Pk.there)) (by repeat (first | exact List.Mem.head _ | apply List.Mem.tail)))) (fun pn' cn' => ?_)
     refine any_pure (i := 9) (listed' := [tt,tt,tt,tt,tt,tt,tt,tt,tt,tt]) rfl (by repeat (first | exact np_ret | exact np_cut | apply np_cutr | apply np_seq | apply np_block | apply np_loopN')) (pure_assign rfl) rfl (by kernel_rfl) rfl rfl ?_
     refine any_done (by kernel_rfl) ?_
     refine nrm_block ?_
     refine nrm_seq ?_
     refine tri_region ?_
     refine seq_pure (pure_add rfl rfl (by omega) (by omega)) rfl rfl ?_
     refine seq_pure (pure_move rfl) rfl rfl ?_
     refine seq_done ?_
     (have hsn := RTyL.snoc (RTyL.snoc (hst.mono hle34) hq3) hq4; rw [if_pos (by omega)] at hsu; refine nrm_loopN (i + 1, m + 2, pn', cn', (es ++ [[.int .i64 CS[i].fr.k, .slice p3 CS[i].fr.ks.length c3]]) ++ [[.int .i64 CS[i].ty.k, .slice p4 CS[i].ty.ks.length c4]], G4) (by simp only [List.flatten_append, List.flatten_cons, List.flatten_nil, List.append_assoc, List.cons_append, List.nil_append, List.append_nil]; exact (sub_mk (by repeat (first | exact SubE.nil | refine SubE.cons rfl ?_)) (by repeat (first | exact SubH.refl | exact SubH.nil | refine SubH.cons (by repeat (first | exact Pk.here | apply Pk.there)) ?_ | apply SubH.drop)))) ?_ ?_)
     ·(dsimp only; exact ⟨by omega, hle.trans hle34, by rw [hsu]; simpa using hsn, by rw [hsu, List.length_append]; simp only [List.length_cons, List.length_nil]; omega⟩)
     ·(show CS.length - (i + 1) < CS.length - i; omega)
    ·refine seq_done ?_
     refine nrm_seq ?_
     refine tri_cond_f rfl ?_
     refine tri_skip ?_
     refine nrm_block ?_
     refine nrm_seq ?_
     refine tri_region ?_
     refine seq_pure (pure_add rfl rfl (by omega) (by omega)) rfl rfl ?_
     refine seq_pure (pure_move rfl) rfl rfl ?_
     refine seq_done ?_
     (rw [if_neg (by omega), List.append_nil] at hsu; have hnone := hst; refine nrm_loopN (i + 1, m, pn, cn, es, Gi) ?_ ?_ ?_)
     ·(simp only [flat_snoc]; exact sub_mk (by repeat (first | exact SubE.nil | refine SubE.cons rfl ?_)) (by repeat (first | exact SubH.refl | exact SubH.nil | refine SubH.cons (by repeat (first | exact Pk.here | apply Pk.there)) ?_ | apply SubH.drop)))
     ·(dsimp only; exact ⟨by omega, hle, by rw [hsu]; exact hst, by rw [hsu]; exact hlen⟩)
     ·(show CS.length - (i + 1) < CS.length - i; omega)
   ·refine seq_done ?_
    refine nrm_seq ?_
    refine tri_seq ?_
    refine tri_cond_f rfl ?_
    refine tri_exit ?_
    refine ext_seq ?_
    refine ext_loopN ?_
    refine ext_block_eq ?_
    refine nrm_seq ?_
    refine tri_seq ?_
    refine tri_region ?_
    refine seq_pure (pure_move rfl) rfl rfl ?_
    refine seq_pure (pure_assign rfl) rfl rfl ?_
    refine seq_done ?_
    refine nrm_seq ?_
    (refine ret_freeze (cs := es.flatten) (by repeat (first | exact Pk.here | apply Pk.there)) (fun G5 hle5 hsl5 hno5 => ?_); obtain rfl : i = CS.length := (by omega))
    refine tri_ret ?_
    refine ret_fin1 (res_tmp rfl) ?_
    (rw [hyy]; rw [List.take_length] at hst hlen; exact TySl.mk hlen hsl5 (hst.mono hle5))
 ·refine seq_pure (pure_not_f rfl) rfl rfl ?_
  refine seq_done ?_
  refine nrm_seq ?_
  refine tri_cond_t rfl ?_
  refine tri_seq ?_
  refine tri_region ?_
  refine seq_pure (pure_assign rfl) rfl rfl ?_
  refine seq_done ?_
  refine nrm_seq ?_
  refine tri_ret ?_
  refine ret_seq ?_
  refine ret_fin1 (res_tmp rfl) ?_
  (rw [hz (by assumption)]; exact TySl.mk (es := []) rfl (Sl.nil _ _) (by simp [RTyL]))
end Gw
end Go.Proofs.Yteneckdjdfnjoaa
namespace Go.Proofs.Yteneckdjdfnjoaa
open Go Go.RowKit
namespace Gw
set_option maxHeartbeats 0 in
set_option maxRecDepth 100000 in
theorem grInts_fn (l l' : List Int) (G : IM) (p p' : Option Addr) (c c' : Nat) (h : Sl G p l.length c 1 (ints l)) (h' : Sl G p' l'.length c' 1 (ints l')) :
  Fn Try.prog 11 [.slice p l.length c, .slice p' l'.length c'] [] G (Val (.bool (decide (l = l'))) G) := by
 have hn := h.le
 have hn' := h'.le
 refine fn_enter Try.func11 rfl Try.ntmps11 Try.results11 rfl ?_
 intro w0
 refine tri_seq ?_
 refine tri_region ?_
 refine seq_pure (pure_assign rfl) rfl rfl ?_
 refine seq_done ?_
 refine nrm_seq ?_
 refine tri_seq ?_
 refine tri_seq ?_
 refine tri_region ?_
 refine seq_pure (pure_move rfl) rfl rfl ?_
 refine seq_pure (pure_len rfl rfl) rfl rfl ?_
 refine seq_pure (pure_move rfl) rfl rfl ?_
 refine seq_pure (pure_len rfl rfl) rfl rfl ?_
 refine seq_bool (pure_neq rfl rfl) rfl rfl (fun h13 => ?_) (fun h13 => ?_)
 ·refine seq_done ?_
  refine nrm_seq ?_
  refine tri_cond_t rfl ?_
  refine tri_seq ?_
  refine tri_region ?_
  refine seq_pure (pure_assign rfl) rfl rfl ?_
  refine seq_done ?_
  refine nrm_seq ?_
  refine tri_ret ?_
  refine ret_seq ?_
  refine ret_fin1 (res_tmp rfl) ?_
  (exact ⟨rfl, by rw [decide_eq_false (fun he => by have := congrArg List.length he; omega)], rfl⟩)
 ·refine seq_done ?_
  refine nrm_seq ?_
  refine tri_cond_f rfl ?_
  refine tri_skip ?_
  refine nrm_seq ?_
  refine tri_seq ?_
  refine tri_seq ?_
  refine tri_region ?_
  refine seq_pure (pure_assign rfl) rfl rfl ?_
  refine seq_done ?_
  refine nrm_seq ?_
  refine tri_block ?_
  (have hll : l.length = l'.length := (by omega); refine tri_loopN (fun (i : Nat) => ⟨[(5, .int .i64 i), (0, .slice p l.length c), (1, .slice p' l'.length c')], [], G⟩) (fun i => i ≤ l.length ∧ ∀ j (h : j < l.length) (h' : j < l'.length), j < i → l[j] = l'[j]) (fun i => l.length - i) 0 ?_ ?_ ?_)
  ·exact sub_mk (by repeat (first | exact SubE.nil | refine SubE.cons rfl ?_)) (by repeat (first | exact SubH.refl | exact SubH.nil | refine SubH.cons (by repeat (first | exact Pk.here | apply Pk.there)) ?_ | apply SubH.drop))
  ·exact ⟨by omega, fun j _ _ hj => absurd hj (by omega)⟩
  ·(rintro i ⟨hi, hf⟩)
   refine tri_seq ?_
   refine tri_seq ?_
   refine tri_region ?_
   refine seq_pure (pure_move rfl) rfl rfl ?_
   refine seq_pure (pure_move rfl) rfl rfl ?_
   refine seq_pure (pure_len rfl rfl) rfl rfl ?_
   refine seq_bool (pure_lss rfl rfl) rfl rfl (fun h48 => ?_) (fun h48 => ?_)
   ·refine seq_done ?_
    refine nrm_seq ?_
    refine tri_cond_t rfl ?_
    refine tri_skip ?_
    refine nrm_seq ?_
    refine tri_seq ?_
    refine tri_block ?_
    refine tri_seq ?_
    (obtain ⟨b, o, v, rfl, hv, hat, _⟩ := h.kid (i := i) (by omega); obtain ⟨hi1, rfl⟩ := ints_get hv; obtain ⟨b', o', v', rfl, hv', hat', _⟩ := h'.kid (i := i) (by omega); obtain ⟨hi2, rfl⟩ := ints_get hv'; refine tri_draw mixed rfl ?_)
    refine any_pure (i := 0) (listed' := [tt,ff,ff,ff,ff,ff,ff,ff,ff]) rfl (by repeat (first | exact np_ret | exact np_cut | apply np_cutr | apply np_seq | apply np_block | apply np_loopN')) (pure_move rfl) rfl (by kernel_rfl) rfl rfl ?_
    refine any_pure (i := 1) (listed' := [tt,tt,ff,ff,ff,ff,ff,ff,ff]) rfl (by repeat (first | exact np_ret | exact np_cut | apply np_cutr | apply np_seq | apply np_block | apply np_loopN')) (pure_move rfl) rfl (by kernel_rfl) rfl rfl ?_
    refine any_pure (i := 2) (listed' := [tt,tt,tt,ff,ff,ff,ff,ff,ff]) rfl (by repeat (first | exact np_ret | exact np_cut | apply np_cutr | apply np_seq | apply np_block | apply np_loopN')) (pure_indexAddrN rfl rfl rfl (by omega)) rfl (by kernel_rfl) rfl rfl ?_
    refine any_load (i := 3) (listed' := [tt,tt,tt,tt,ff,ff,ff,ff,ff]) rfl (by repeat (first | exact np_ret | exact np_cut | apply np_cutr | apply np_seq | apply np_block | apply np_loopN')) (load_s rfl rfl (hat _)) rfl (by kernel_rfl) rfl rfl ?_
    refine any_pure (i := 4) (listed' := [tt,tt,tt,tt,tt,ff,ff,ff,ff]) rfl (by repeat (first | exact np_ret | exact np_cut | apply np_cutr | apply np_seq | apply np_block | apply np_loopN')) (pure_move rfl) rfl (by kernel_rfl) rfl rfl ?_
    refine any_pure (i := 5) (listed' := [tt,tt,tt,tt,tt,tt,ff,ff,ff]) rfl (by repeat (first | exact np_ret | exact np_cut | apply np_cutr | apply np_seq | apply np_block | apply np_loopN')) (pure_move rfl) rfl (by kernel_rfl) rfl rfl ?_
    refine any_pure (i := 6) (listed' := [tt,tt,tt,tt,tt,tt,tt,ff,ff]) rfl (by repeat (first | exact np_ret | exact np_cut | apply np_cutr | apply np_seq | apply np_block | apply np_loopN')) (pure_indexAddrN rfl rfl rfl (by omega)) rfl (by kernel_rfl) rfl rfl ?_
    refine any_load (i := 7) (listed' := [tt,tt,tt,tt,tt,tt,tt,tt,ff]) rfl (by repeat (first | exact np_ret | exact np_cut | apply np_cutr | apply np_seq | apply np_block | apply np_loopN')) (load_s rfl rfl (hat' _)) rfl (by kernel_rfl) rfl rfl ?_
    refine any_bool (i := 8) (listed' := [tt,tt,tt,tt,tt,tt,tt,tt,tt]) rfl (by repeat (first | exact np_ret | exact np_cut | apply np_cutr | apply np_seq | apply np_block | apply np_loopN')) (pure_neq rfl rfl) rfl (by kernel_rfl) rfl rfl (fun h66 => ?_) (fun h66 => ?_)
    ·refine any_done (by kernel_rfl) ?_
     refine nrm_seq ?_
     refine tri_cond_t rfl ?_
     refine tri_seq ?_
     refine tri_region ?_
     refine seq_pure (pure_assign rfl) rfl rfl ?_
     refine seq_done ?_
     refine nrm_seq ?_
     refine tri_ret ?_
     refine ret_block ?_
     refine ret_seq ?_
     refine ret_loopN ?_
     refine ret_block ?_
     refine ret_seq ?_
     refine ret_fin1 (res_tmp rfl) ?_
     (exact ⟨rfl, by rw [decide_eq_false (fun he => by subst he; omega)], rfl⟩)
    ·refine any_done (by kernel_rfl) ?_
     refine nrm_seq ?_
     refine tri_cond_f rfl ?_
     refine tri_skip ?_
     refine nrm_block ?_
     refine nrm_seq ?_
     refine tri_region ?_
     refine seq_pure (pure_move rfl) rfl rfl ?_
     refine seq_pure (pure_add rfl rfl (by omega) (by omega)) rfl rfl ?_
     refine seq_pure (pure_assign rfl) rfl rfl ?_
     refine seq_done ?_
     refine nrm_loopN (i + 1) ?_ ?_ ?_
     ·exact sub_mk (by repeat (first | exact SubE.nil | refine SubE.cons rfl ?_)) (by repeat (first | exact SubH.refl | exact SubH.nil | refine SubH.cons (by repeat (first | exact Pk.here | apply Pk.there)) ?_ | apply SubH.drop))
     ·exact ⟨by omega, fun j hj hj' hji => by (by_cases he : j = i; (subst he; omega); exact hf j hj hj' (by omega))⟩
     ·omega
   ·refine seq_done ?_
    refine nrm_seq ?_
    refine tri_cond_f rfl ?_
    refine tri_exit ?_
    refine ext_seq ?_
    refine ext_loopN ?_
    refine ext_block_eq ?_
    refine nrm_seq ?_
    refine tri_seq ?_
    refine tri_region ?_
    refine seq_pure (pure_assign rfl) rfl rfl ?_
    refine seq_done ?_
    refine nrm_seq ?_
    refine tri_ret ?_
    refine ret_fin1 (res_tmp rfl) ?_
    (exact ⟨rfl, by rw [decide_eq_true (List.ext_getElem hll (fun j h1 h2 => hf j h1 h2 (by omega)))], rfl⟩)
end Gw
end Go.Proofs.Yteneckdjdfnjoaa
namespace Go.Proofs.Yteneckdjdfnjoaa
open Go Go.RowKit
namespace Gw
theorem pure_beql_s {P : Program} {Γ : Ctx} {env : Env} {hp : List Ent} {G : IM} {ty : TypeId} {x y : Operand} {t t' : TypeId} {i : TyR} [hI : TyI P t i] (hd : i.desc = .bool) {r : Bool} (hx : evo env x = some (.bool r)) (hy : evo env y = some (.bool r)) :
  PureOp P Γ ⟨env, hp, G⟩ (.binOp .eql t x y t') ty (.bool true) := by
 have h := pure_beql (P := P) (Γ := Γ) (hp := hp) (G := G) (t := t) (t' := t') (ty := ty) (i := i) hd hx hy
 simpa using h
set_option maxRecDepth 100000 in
theorem typeSame_fn : ∀ (t : Ty) (G : IM) (cells cells' : List Value), RTy G t cells → RTy G t cells' → Fn Try.prog 21 [.agg ⟨cells⟩, .agg ⟨cells'⟩] [] G (Val (.bool true) G) := by
 refine Ty.ind fun k ks ih G cells cells' hr hr' => ?_
 obtain ⟨p, c, es, rfl, hk, hsl, hkl⟩ := hr.open
 obtain ⟨p', c', es', rfl, hk', hsl', hkl'⟩ := hr'.open
 simp only [Ty.k, Ty.ks] at hk hsl hkl hk' hsl' hkl' ⊢
 refine fn_enter Try.func21 rfl Try.ntmps21 Try.results21 rfl ?_
 intro w0
 refine tri_seq ?_
 refine tri_region ?_
 (refine seq_step (step_box_a rfl rfl) rfl ?_; rintro _ ⟨b3, rfl⟩)
 (refine seq_step (step_box_a rfl rfl) rfl ?_; rintro _ ⟨b4, rfl⟩)
 refine seq_pure (pure_assign rfl) rfl rfl ?_
 refine seq_done ?_
 refine nrm_seq ?_
 refine tri_seq ?_
 refine tri_region ?_
 refine seq_pure (pure_fieldAddr0 rfl) rfl rfl ?_
 refine seq_load (load_bs rfl rfl (by repeat (first | exact List.Mem.head _ | apply List.Mem.tail)) (by rfl)) rfl rfl ?_
 refine seq_pure (pure_fieldAddr0 rfl) rfl rfl ?_
 refine seq_load (load_bs rfl rfl (by repeat (first | exact List.Mem.head _ | apply List.Mem.tail)) (by rfl)) rfl rfl ?_
 refine seq_pure (pure_eql_t rfl rfl (by omega)) rfl rfl ?_
 refine seq_pure (pure_move rfl) rfl rfl ?_
 refine seq_pure (pure_fieldAddr0 rfl) rfl rfl ?_
 refine seq_load (load_bs rfl rfl (by repeat (first | exact List.Mem.head _ | apply List.Mem.tail)) (by rfl)) rfl rfl ?_
 refine seq_pure (pure_fieldAddr0 rfl) rfl rfl ?_
 refine seq_load (load_bs rfl rfl (by repeat (first | exact List.Mem.head _ | apply List.Mem.tail)) (by rfl)) rfl rfl ?_
 refine seq_val rfl (equalFunc_Type _ _ _ _ _ _ _ _ _ hsl hsl' _ [] [] [] (fun _ => true) true (by simp) (fun i e e' he he' => ih (ks.getD i ty0) (hkl.inv he ty0).1 _ _ _ (hkl.inv he ty0).2 (hkl'.inv he' ty0).2)) rfl rfl ?_
 refine seq_pure (pure_pick_t rfl rfl) rfl rfl ?_
 refine seq_pure (pure_assign rfl) rfl rfl ?_
 refine seq_done ?_
 refine nrm_seq ?_
 refine tri_ret ?_
 refine ret_fin1 (res_tmp rfl) ?_
 exact ⟨rfl, rfl, rfl⟩
end Gw
end Go.Proofs.Yteneckdjdfnjoaa
namespace Go.Proofs.Yteneckdjdfnjoaa
open Go Go.RowKit
namespace Gw
end Gw
end Go.Proofs.Yteneckdjdfnjoaa
namespace Go.Proofs.Yteneckdjdfnjoaa
open Go Go.RowKit
namespace Gw
theorem At.mono' {hp : List Ent} {G G' : IM} {b o : Nat} {vs : List Value} (hg : IMle G G') (h : At [] G b o vs) : At hp G' b o vs := by
 rcases h with ⟨cs, hm, hv⟩ | ⟨n, c, el, sz, cs, hm, hv⟩ | ⟨full, hx, hv⟩
 ·cases hm
 ·cases hm
 ·exact .inr (.inr ⟨full, hg _ _ hx, hv⟩)
end Gw
end Go.Proofs.Yteneckdjdfnjoaa
namespace Go.Proofs.Yteneckdjdfnjoaa
open Go Go.RowKit
namespace Gw
/-- A drawn term and a drawn number. -/
def DrawnTi (G : IM) : IM → Value → List Ent → Prop := Imm fun G' v => ∃ t cells n, v = .tuple ⟨[.agg ⟨cells⟩, .int .i64 n]⟩ ∧ RTm G' t cells ∧ t.fit 100
set_option maxHeartbeats 0 in
set_option maxRecDepth 100000 in
theorem drawCastTypes_fn (G : IM) (q : Option Addr) (n c : Nat) (bs : List UInt8) (hb : Sl G q n c 1 (byts bs)) : Fn Try.prog 38 [.slice q n c] [] G (DrawnTi G) := by
 refine fn_enter Try.func38 rfl Try.ntmps38 Try.results38 rfl ?_
 intro w0
 refine tri_seq ?_
 refine tri_region ?_
 (refine seq_step (step_alloc rfl) rfl ?_; rintro _ ⟨b3, rfl⟩)
 refine seq_pure (pure_assign rfl) rfl rfl ?_
 refine seq_done ?_
 refine nrm_seq ?_
 refine tri_seq ?_
 refine tri_region ?_
 refine seq_pure (pure_move rfl) rfl rfl ?_
 (refine seq_take rfl (l18Open_fn G q n c bs hb) (List.Perm.refl _) rfl rfl (fun v G1 outs hle1 hh => ?_); obtain ⟨rfl, br, pb, nb, cb, bs', rfl, rfl, hnb, hb'⟩ := hh)
 refine seq_pure (pure_assign rfl) rfl rfl ?_
 refine seq_done ?_
 refine nrm_seq ?_
 refine tri_seq ?_
 refine tri_region ?_
 refine seq_pure (pure_move rfl) rfl rfl ?_
 refine seq_pure (pure_move rfl) rfl rfl ?_
 (have hcall := l4Random_fn br pb nb cb bs' hnb 0 _ hb' (by omega); refine seq_take rfl hcall (Pk.perm (by repeat (first | exact Pk.here | apply Pk.there))) rfl rfl (fun v Gn outs hle1 hh => ?_); obtain ⟨p1, hp11, hp12, rfl, e, ce, rfl, hre, hfe⟩ := hh; replace hb' := hb'.mono hle1)
 (have hcall := l4Mutate_fn br pb nb cb bs' hnb p1 _ hb' (by omega) e ce 100 hfe hre; refine seq_take rfl hcall (Pk.perm (by repeat (first | exact Pk.here | apply Pk.there))) rfl rfl (fun v Gn outs hle3 hh => ?_); obtain ⟨p3, hp31, hp32, rfl, f, cf, rfl, hrf, hff⟩ := hh; have hl2 := hrf.len; have ho2 := hrf.one; replace hb' := hb'.mono hle3)
 (refine seq_step (step_alloc rfl) rfl ?_; rintro _ ⟨b20, rfl⟩)
 refine seq_store rfl rfl rfl hl2 ho2 rfl (by repeat (first | exact Sw.here | apply Sw.there)) (by exact upd_all hl2.symm) ?_
 refine seq_done ?_
 refine nrm_seq ?_
 refine tri_seq ?_
 refine tri_draw mixed rfl ?_
 refine any_load (i := 0) (listed' := [tt,ff,ff,ff,ff,ff]) rfl (by repeat (first | exact np_ret | exact np_cut | apply np_cutr | apply np_seq | apply np_block | apply np_loopN')) (load_a rfl rfl (at_blk_all (by repeat (first | exact List.Mem.head _ | apply List.Mem.tail))) hl2) rfl (by kernel_rfl) rfl rfl ?_
 refine any_pure (i := 1) (listed' := [tt,tt,ff,ff,ff,ff]) rfl (by repeat (first | exact np_ret | exact np_cut | apply np_cutr | apply np_seq | apply np_block | apply np_loopN')) (pure_move rfl) rfl (by kernel_rfl) rfl rfl ?_
 refine any_one (j := 2) (by kernel_rfl) ?_
 (refine one_step0 (listed' := [tt,tt,tt,ff,ff,ff]) rfl (step_buildSlice rfl rfl rfl (by omega) (by unfold maxLen; omega) rfl) rfl rfl ?_; rintro _ ⟨b29, rfl⟩)
 (refine any_freeze (cs := [.int .i64 1, .int .i64 2, .int .i64 51, .int .i64 (-51), .int .i64 3, .int .i64 0, .int .i64 52]) (by repeat (first | exact Pk.here | apply Pk.there)) (fun Gf hlef hslf hnof => ?_); have hnum := num_fn Gf br pb nb cb p3 bs' _ _ _ _ (hb'.mono hlef) hnb (by omega) hslf (by decide); replace hrf := hrf.mono hlef)
 refine any_one (j := 3) (by kernel_rfl) ?_
 (refine one_take (listed' := [tt,tt,tt,tt,ff,ff]) rfl rfl hnum (Pk.perm (by repeat (first | exact Pk.here | apply Pk.there))) rfl rfl rfl (by repeat (first | exact HmOk.nil | apply HmOk.dep (by decide +kernel) | apply HmOk.blk (by decide +kernel) (by repeat (first | exact Pk.here | apply Pk.there)) (by repeat (first | exact List.Mem.head _ | apply List.Mem.tail)))) (fun v Gm outs hlen hh => ?_); obtain ⟨rfl, rfl, hv⟩ := hh; obtain ⟨kn, rfl⟩ : ∃ k, v = .int .i64 k := (by simp only [List.mem_cons, List.not_mem_nil, or_false] at hv; rcases hv with rfl | rfl | rfl | rfl | rfl | rfl | rfl <;> exact ⟨_, rfl⟩))
 refine any_one (j := 4) (by kernel_rfl) ?_
 refine one_storeM rfl rfl rfl rfl hl2 ho2 rfl rfl (by repeat (first | exact Sw.here | apply Sw.there)) (by exact upd_all hl2.symm) (by repeat (first | exact HmOk.nil | apply HmOk.dep (by decide +kernel) | apply HmOk.blk (by decide +kernel) (by repeat (first | exact Pk.here | apply Pk.there)) (by repeat (first | exact List.Mem.head _ | apply List.Mem.tail)))) ?_
 refine any_pure (i := 5) (listed' := [tt,tt,tt,tt,tt,tt]) rfl (by repeat (first | exact np_ret | exact np_cut | apply np_cutr | apply np_seq | apply np_block | apply np_loopN')) (pure_assign rfl) rfl (by kernel_rfl) rfl rfl ?_
 refine any_done (by kernel_rfl) ?_
 refine nrm_seq ?_
 refine tri_ret ?_
 refine ret_fin2 (res_cell rfl (load_a rfl rfl (at_blk_all (by repeat (first | exact List.Mem.head _ | apply List.Mem.tail))) hl2)) (res_tmp rfl) ?_
 (exact ⟨rfl, f, _, _, rfl, hrf, hff⟩)
set_option maxRecDepth 100000 in
theorem drawCastPath_fn (G : IM) (q : Option Addr) (n c : Nat) (bs : List UInt8) (hb : Sl G q n c 1 (byts bs)) : Fn Try.prog 17 [.slice q n c] [] G (DrawnTi G) := by
 refine fn_enter Try.func17 rfl Try.ntmps17 Try.results17 rfl ?_
 intro w0
 refine tri_seq ?_
 refine tri_region ?_
 (refine seq_step (step_alloc rfl) rfl ?_; rintro _ ⟨b3, rfl⟩)
 refine seq_pure (pure_assign rfl) rfl rfl ?_
 refine seq_done ?_
 refine nrm_seq ?_
 refine tri_seq ?_
 refine tri_region ?_
 refine seq_pure (pure_move rfl) rfl rfl ?_
 (refine seq_imm rfl (drawCastTypes_fn G q n c bs hb) rfl rfl (fun v G4 hle4 hh => ?_); obtain ⟨f, cf, kn, rfl, hrf, hff⟩ := hh; have hl2 := hrf.len; have ho2 := hrf.one)
 refine seq_pure (pure_extract rfl rfl) rfl rfl ?_
 refine seq_pure (pure_extract rfl rfl) rfl rfl ?_
 refine seq_store rfl rfl rfl hl2 ho2 rfl (by repeat (first | exact Sw.here | apply Sw.there)) (by exact upd_all hl2.symm) ?_
 refine seq_pure (pure_assign rfl) rfl rfl ?_
 refine seq_done ?_
 refine nrm_seq ?_
 refine tri_ret ?_
 refine ret_fin2 (res_cell rfl (load_a rfl rfl (at_blk_all (by repeat (first | exact List.Mem.head _ | apply List.Mem.tail))) hl2)) (res_tmp rfl) ?_
 (exact ⟨rfl, f, _, _, rfl, hrf, hff⟩)
set_option maxHeartbeats 0 in
set_option maxRecDepth 100000 in
theorem castPathLaw_fn (bs : List UInt8) (G : IM) (q : Option Addr) (c : Nat) (hb : Sl G q bs.length c 1 (byts bs)) :
  Fn Try.prog 5 [.slice q bs.length c] [] G (Imm fun _ v => v = .bool true) := by
 have hn := hb.le
 refine fn_enter Try.func5 rfl Try.ntmps5 Try.results5 rfl ?_
 intro w0
 refine tri_seq ?_
 refine tri_region ?_
 refine seq_pure (pure_assign rfl) rfl rfl ?_
 refine seq_done ?_
 refine nrm_seq ?_
 refine tri_seq ?_
 refine tri_seq ?_
 refine tri_region ?_
 refine seq_pure (pure_move rfl) rfl rfl ?_
 refine seq_pure (pure_len rfl rfl) rfl rfl ?_
 refine seq_bool (pure_gtr rfl rfl) rfl rfl (fun h11 => ?_) (fun h11 => ?_)
 ·refine seq_done ?_
  refine nrm_seq ?_
  refine tri_cond_t rfl ?_
  refine tri_seq ?_
  refine tri_region ?_
  refine seq_pure (pure_assign rfl) rfl rfl ?_
  refine seq_done ?_
  refine nrm_seq ?_
  refine tri_ret ?_
  refine ret_seq ?_
  refine ret_fin1 (res_tmp rfl) ?_
  exact ⟨rfl, rfl⟩
 ·refine seq_done ?_
  refine nrm_seq ?_
  refine tri_cond_f rfl ?_
  refine tri_skip ?_
  refine nrm_seq ?_
  refine tri_seq ?_
  refine tri_region ?_
  refine seq_pure (pure_move rfl) rfl rfl ?_
  (refine seq_imm rfl (drawCastPath_fn G q _ c bs hb) rfl rfl (fun v G1 hle1 hh => ?_); obtain ⟨e, ct, lab, rfl, hrt, hft⟩ := hh; obtain ⟨hf1, hf2⟩ := hft; have hl1 := hrt.len; have ho1 := hrt.one; have hA := castPath_fn e lab G1 ct hrt; obtain ⟨l, rb, hrr⟩ : ∃ l rb, mCast e lab = (l, rb) := ⟨_, _, rfl⟩; cases rb)
  ·refine seq_pure (pure_move rfl) rfl rfl ?_
   refine seq_pure (pure_extract rfl rfl) rfl rfl ?_
   refine seq_pure (pure_extract rfl rfl) rfl rfl ?_
   (refine seq_step (step_alloc rfl) rfl ?_; rintro _ ⟨b36, rfl⟩)
   refine seq_store rfl rfl rfl hl1 ho1 rfl (by repeat (first | exact Sw.here | apply Sw.there)) (by exact upd_all hl1.symm) ?_
   refine seq_pure (pure_assign rfl) rfl rfl ?_
   refine seq_done ?_
   refine nrm_seq ?_
   refine tri_seq ?_
   refine tri_region ?_
   refine seq_load (load_a rfl rfl (at_blk_all (by repeat (first | exact List.Mem.head _ | apply List.Mem.tail))) hl1) rfl rfl ?_
   refine seq_pure (pure_move rfl) rfl rfl ?_
   (refine seq_imm rfl hA rfl rfl (fun v G2 hle2 hh => ?_); obtain ⟨p2, c2, hv2, hs2, _⟩ := hh; rw [hrr] at hv2 hs2; dsimp only at hv2 hs2; subst hv2; replace hs2 := hs2.mono (Dif.le G2 G1); replace hrt := hrt.mono hle2; have hB := sCastPath_fn e lab G2 ct (by omega) hrt)
   refine seq_pure (pure_move rfl) rfl rfl ?_
   refine seq_pure (pure_extract rfl rfl) rfl rfl ?_
   refine seq_pure (pure_extract rfl rfl) rfl rfl ?_
   refine seq_pure (pure_assign rfl) rfl rfl ?_
   refine seq_pure (pure_assign rfl) rfl rfl ?_
   refine seq_done ?_
   refine nrm_seq ?_
   refine tri_seq ?_
   refine tri_region ?_
   refine seq_load (load_a rfl rfl (at_blk_all (by repeat (first | exact List.Mem.head _ | apply List.Mem.tail))) hl1) rfl rfl ?_
   refine seq_pure (pure_move rfl) rfl rfl ?_
   (refine seq_imm rfl hB rfl rfl (fun v G3 hle3 hh => ?_); obtain ⟨p3, c3, hv3, hs3, _⟩ := hh; rw [hrr] at hv3 hs3; dsimp only at hv3 hs3; subst hv3; replace hs3 := hs3.mono (Dif.le G3 G2); replace hs2 := hs2.mono hle3; replace hrt := hrt.mono hle3; have hC := castTypes_fn e lab G3 ct hf1 (by omega) hrt)
   refine seq_pure (pure_move rfl) rfl rfl ?_
   refine seq_pure (pure_extract rfl rfl) rfl rfl ?_
   refine seq_pure (pure_extract rfl rfl) rfl rfl ?_
   refine seq_pure (pure_assign rfl) rfl rfl ?_
   refine seq_pure (pure_assign rfl) rfl rfl ?_
   refine seq_done ?_
   refine nrm_seq ?_
   refine tri_seq ?_
   refine tri_region ?_
   refine seq_load (load_a rfl rfl (at_blk_all (by repeat (first | exact List.Mem.head _ | apply List.Mem.tail))) hl1) rfl rfl ?_
   refine seq_pure (pure_move rfl) rfl rfl ?_
   (refine seq_imm rfl hC rfl rfl (fun v G4 hle4 hh => ?_); obtain ⟨p4, c4, es4, hv4, hs4, hr4⟩ := hh; (first | rw [cast_no hrr] at hv4 hs4 hr4 | (obtain ⟨x, r, hx1, hx2, hx3, hx4⟩ := cast_yes hrr; rw [hx4] at hv4 hs4 hr4)); simp only [List.length_cons, List.length_nil] at hv4; subst hv4; replace hs2 := hs2.mono hle4; replace hs3 := hs3.mono hle4; replace hrt := hrt.mono hle4; have hI := grInts_fn l l G4 p2 p3 c2 c3 hs2 hs3; rw [decide_eq_true rfl] at hI)
   refine seq_pure (pure_assign rfl) rfl rfl ?_
   refine seq_done ?_
   refine nrm_seq ?_
   refine tri_seq ?_
   refine tri_seq ?_
   refine tri_region ?_
   refine seq_pure (pure_move rfl) rfl rfl ?_
   refine seq_pure (pure_move rfl) rfl rfl ?_
   refine seq_pure (pure_bneq_s rfl rfl rfl) rfl rfl ?_
   refine seq_pure (pure_move rfl) rfl rfl ?_
   refine seq_pure (pure_move rfl) rfl rfl ?_
   refine seq_pure (pure_move rfl) rfl rfl ?_
   refine seq_val rfl (hI) rfl rfl ?_
   refine seq_pure (pure_not_t rfl) rfl rfl ?_
   refine seq_pure (pure_pick_f rfl rfl) rfl rfl ?_
   refine seq_pure (pure_move rfl) rfl rfl ?_
   refine seq_pure (pure_move rfl) rfl rfl ?_
   refine seq_pure (pure_not_f rfl) rfl rfl ?_
   refine seq_pure (pure_pick_f rfl rfl) rfl rfl ?_
   refine seq_done ?_
   refine nrm_seq ?_
   refine tri_cond_t rfl ?_
   refine tri_seq ?_
   refine tri_region ?_
   refine seq_pure (pure_move rfl) rfl rfl ?_
   refine seq_pure (pure_move rfl) rfl rfl ?_
   refine seq_pure (pure_beql_s rfl rfl rfl) rfl rfl ?_
   refine seq_pure (pure_move rfl) rfl rfl ?_
   refine seq_pure (pure_move rfl) rfl rfl ?_
   refine seq_pure (pure_move rfl) rfl rfl ?_
   refine seq_val rfl (hI) rfl rfl ?_
   refine seq_pure (pure_pick_t rfl rfl) rfl rfl ?_
   refine seq_pure (pure_move rfl) rfl rfl ?_
   refine seq_pure (pure_move rfl) rfl rfl ?_
   refine seq_pure (pure_len rfl rfl) rfl rfl ?_
   refine seq_pure (pure_eql_t rfl rfl (by omega)) rfl rfl ?_
   refine seq_pure (pure_pick_t rfl rfl) rfl rfl ?_
   refine seq_pure (pure_assign rfl) rfl rfl ?_
   refine seq_done ?_
   refine nrm_seq ?_
   refine tri_ret ?_
   refine ret_seq ?_
   refine ret_fin1 (res_tmp rfl) ?_
   exact ⟨rfl, rfl⟩
  ·refine seq_pure (pure_move rfl) rfl rfl ?_
   refine seq_pure (pure_extract rfl rfl) rfl rfl ?_
   refine seq_pure (pure_extract rfl rfl) rfl rfl ?_
   (refine seq_step (step_alloc rfl) rfl ?_; rintro _ ⟨b117, rfl⟩)
   refine seq_store rfl rfl rfl hl1 ho1 rfl (by repeat (first | exact Sw.here | apply Sw.there)) (by exact upd_all hl1.symm) ?_
   refine seq_pure (pure_assign rfl) rfl rfl ?_
   refine seq_done ?_
   refine nrm_seq ?_
   refine tri_seq ?_
   refine tri_region ?_
   refine seq_load (load_a rfl rfl (at_blk_all (by repeat (first | exact List.Mem.head _ | apply List.Mem.tail))) hl1) rfl rfl ?_
   refine seq_pure (pure_move rfl) rfl rfl ?_
   (refine seq_imm rfl hA rfl rfl (fun v G2 hle2 hh => ?_); obtain ⟨p2, c2, hv2, hs2, _⟩ := hh; rw [hrr] at hv2 hs2; dsimp only at hv2 hs2; subst hv2; replace hs2 := hs2.mono (Dif.le G2 G1); replace hrt := hrt.mono hle2; have hB := sCastPath_fn e lab G2 ct (by omega) hrt)
   refine seq_pure (pure_move rfl) rfl rfl ?_
   refine seq_pure (pure_extract rfl rfl) rfl rfl ?_
   refine seq_pure (pure_extract rfl rfl) rfl rfl ?_
   refine seq_pure (pure_assign rfl) rfl rfl ?_
   refine seq_pure (pure_assign rfl) rfl rfl ?_
   refine seq_done ?_
   refine nrm_seq ?_
   refine tri_seq ?_
   refine tri_region ?_
   refine seq_load (load_a rfl rfl (at_blk_all (by repeat (first | exact List.Mem.head _ | apply List.Mem.tail))) hl1) rfl rfl ?_
   refine seq_pure (pure_move rfl) rfl rfl ?_
   (refine seq_imm rfl hB rfl rfl (fun v G3 hle3 hh => ?_); obtain ⟨p3, c3, hv3, hs3, _⟩ := hh; rw [hrr] at hv3 hs3; dsimp only at hv3 hs3; subst hv3; replace hs3 := hs3.mono (Dif.le G3 G2); replace hs2 := hs2.mono hle3; replace hrt := hrt.mono hle3; have hC := castTypes_fn e lab G3 ct hf1 (by omega) hrt)
   refine seq_pure (pure_move rfl) rfl rfl ?_
   refine seq_pure (pure_extract rfl rfl) rfl rfl ?_
   refine seq_pure (pure_extract rfl rfl) rfl rfl ?_
   refine seq_pure (pure_assign rfl) rfl rfl ?_
   refine seq_pure (pure_assign rfl) rfl rfl ?_
   refine seq_done ?_
   refine nrm_seq ?_
   refine tri_seq ?_
   refine tri_region ?_
   refine seq_load (load_a rfl rfl (at_blk_all (by repeat (first | exact List.Mem.head _ | apply List.Mem.tail))) hl1) rfl rfl ?_
   refine seq_pure (pure_move rfl) rfl rfl ?_
   (refine seq_imm rfl hC rfl rfl (fun v G4 hle4 hh => ?_); obtain ⟨p4, c4, es4, hv4, hs4, hr4⟩ := hh; (first | rw [cast_no hrr] at hv4 hs4 hr4 | (obtain ⟨x, r, hx1, hx2, hx3, hx4⟩ := cast_yes hrr; rw [hx4] at hv4 hs4 hr4)); simp only [List.length_cons, List.length_nil] at hv4; subst hv4; replace hs2 := hs2.mono hle4; replace hs3 := hs3.mono hle4; replace hrt := hrt.mono hle4; have hI := grInts_fn l l G4 p2 p3 c2 c3 hs2 hs3; rw [decide_eq_true rfl] at hI)
   refine seq_pure (pure_assign rfl) rfl rfl ?_
   refine seq_done ?_
   refine nrm_seq ?_
   refine tri_seq ?_
   refine tri_seq ?_
   refine tri_region ?_
   refine seq_pure (pure_move rfl) rfl rfl ?_
   refine seq_pure (pure_move rfl) rfl rfl ?_
   refine seq_pure (pure_bneq_s rfl rfl rfl) rfl rfl ?_
   refine seq_pure (pure_move rfl) rfl rfl ?_
   refine seq_pure (pure_move rfl) rfl rfl ?_
   refine seq_pure (pure_move rfl) rfl rfl ?_
   refine seq_val rfl (hI) rfl rfl ?_
   refine seq_pure (pure_not_t rfl) rfl rfl ?_
   refine seq_pure (pure_pick_f rfl rfl) rfl rfl ?_
   refine seq_pure (pure_move rfl) rfl rfl ?_
   refine seq_pure (pure_move rfl) rfl rfl ?_
   refine seq_pure (pure_not_t rfl) rfl rfl ?_
   refine seq_pure (pure_pick_f rfl rfl) rfl rfl ?_
   refine seq_done ?_
   refine nrm_seq ?_
   refine tri_cond_f rfl ?_
   refine tri_skip ?_
   refine nrm_seq ?_
   refine tri_seq ?_
   refine tri_region ?_
   refine seq_load (load_a rfl rfl (at_blk_all (by repeat (first | exact List.Mem.head _ | apply List.Mem.tail))) hl1) rfl rfl ?_
   refine seq_pure (pure_move rfl) rfl rfl ?_
   (have hD := termAt_g e l G4 ct p2 c2 hf1 hrt hs2; rw [hx1] at hD; refine seq_imm rfl hD rfl rfl (fun v G5 hle5 hh => ?_); obtain ⟨c5x, F5, rfl, hs5, hn5⟩ := hh; have hr5 := hs5.R.mono (Dif.le G5 G4); have hl5 := hr5.len; have ho5 := hr5.one; obtain ⟨qt, dt, et, qf, df, ef, q7, d7, e7, rfl, _, _, _, ⟨t1, t2, t3⟩, ⟨f1, f2, f3⟩, _⟩ := hr5.open; have hrty := RTy.mk_ t1 t2 t3; have hrfr := RTy.mk_ f1 f2 f3; have hk0 := hs4.kidTy hr4 (i := 0) (by simp) (by simp); have hk1 := hs4.kidTy hr4 (i := 1) (by simp) (by simp); simp only [List.getElem_cons_zero, List.getElem_cons_succ] at hk0 hk1; obtain ⟨b0, o0, y0, z0, rfl, hat0, hre0, hg0⟩ := hk0; obtain ⟨b1, o1, y1, z1, hpp, hat1, hre1, hg1⟩ := hk1; cases hpp; have hT1 := typeSame_fn x.fr G5 _ _ (hre0.mono hle5) hrfr; have hT2 := typeSame_fn x.ty G5 _ _ (hre1.mono hle5) hrty; replace hat0 := fun hp => At.mono' (hp := hp) hle5 (hat0 []); replace hat1 := fun hp => At.mono' (hp := hp) hle5 (hat1 []))
   refine seq_pure (pure_move rfl) rfl rfl ?_
   refine seq_pure (pure_extract rfl rfl) rfl rfl ?_
   refine seq_pure (pure_extract rfl rfl) rfl rfl ?_
   (refine seq_step (step_alloc rfl) rfl ?_; rintro _ ⟨b183, rfl⟩)
   refine seq_store rfl rfl rfl hl5 ho5 rfl (by repeat (first | exact Sw.here | apply Sw.there)) (by exact upd_all hl5.symm) ?_
   refine seq_pure (pure_assign rfl) rfl rfl ?_
   refine seq_done ?_
   refine nrm_seq ?_
   refine tri_seq ?_
   refine tri_draw mixed rfl ?_
   refine any_pure (i := 0) (listed' := [tt,ff,ff,ff,ff,ff,ff,ff,ff,ff,ff,ff,ff,ff,ff,ff,ff,ff,ff,ff,ff,ff,ff,ff,ff,ff,ff,ff,ff,ff,ff,ff,ff,ff]) rfl (by repeat (first | exact np_ret | exact np_cut | apply np_cutr | apply np_seq | apply np_block | apply np_loopN')) (pure_move rfl) rfl (by kernel_rfl) rfl rfl ?_
   refine any_pure (i := 1) (listed' := [tt,tt,ff,ff,ff,ff,ff,ff,ff,ff,ff,ff,ff,ff,ff,ff,ff,ff,ff,ff,ff,ff,ff,ff,ff,ff,ff,ff,ff,ff,ff,ff,ff,ff]) rfl (by repeat (first | exact np_ret | exact np_cut | apply np_cutr | apply np_seq | apply np_block | apply np_loopN')) (pure_move rfl) rfl (by kernel_rfl) rfl rfl ?_
   refine any_pure (i := 2) (listed' := [tt,tt,tt,ff,ff,ff,ff,ff,ff,ff,ff,ff,ff,ff,ff,ff,ff,ff,ff,ff,ff,ff,ff,ff,ff,ff,ff,ff,ff,ff,ff,ff,ff,ff]) rfl (by repeat (first | exact np_ret | exact np_cut | apply np_cutr | apply np_seq | apply np_block | apply np_loopN')) (pure_fieldAddr0 rfl) rfl (by kernel_rfl) rfl rfl ?_
   refine any_load (i := 3) (listed' := [tt,tt,tt,tt,ff,ff,ff,ff,ff,ff,ff,ff,ff,ff,ff,ff,ff,ff,ff,ff,ff,ff,ff,ff,ff,ff,ff,ff,ff,ff,ff,ff,ff,ff]) rfl (by repeat (first | exact np_ret | exact np_cut | apply np_cutr | apply np_seq | apply np_block | apply np_loopN')) (load_bs rfl rfl (by repeat (first | exact List.Mem.head _ | apply List.Mem.tail)) (by rfl)) rfl (by kernel_rfl) rfl rfl ?_
   refine any_pure (i := 4) (listed' := [tt,tt,tt,tt,tt,ff,ff,ff,ff,ff,ff,ff,ff,ff,ff,ff,ff,ff,ff,ff,ff,ff,ff,ff,ff,ff,ff,ff,ff,ff,ff,ff,ff,ff]) rfl (by repeat (first | exact np_ret | exact np_cut | apply np_cutr | apply np_seq | apply np_block | apply np_loopN')) (pure_eql_t rfl rfl (by omega)) rfl (by kernel_rfl) rfl rfl ?_
   refine any_pure (i := 5) (listed' := [tt,tt,tt,tt,tt,tt,ff,ff,ff,ff,ff,ff,ff,ff,ff,ff,ff,ff,ff,ff,ff,ff,ff,ff,ff,ff,ff,ff,ff,ff,ff,ff,ff,ff]) rfl (by repeat (first | exact np_ret | exact np_cut | apply np_cutr | apply np_seq | apply np_block | apply np_loopN')) (pure_pick_t rfl rfl) rfl (by kernel_rfl) rfl rfl ?_
   refine any_pure (i := 6) (listed' := [tt,tt,tt,tt,tt,tt,tt,ff,ff,ff,ff,ff,ff,ff,ff,ff,ff,ff,ff,ff,ff,ff,ff,ff,ff,ff,ff,ff,ff,ff,ff,ff,ff,ff]) rfl (by repeat (first | exact np_ret | exact np_cut | apply np_cutr | apply np_seq | apply np_block | apply np_loopN')) (pure_move rfl) rfl (by kernel_rfl) rfl rfl ?_
   refine any_pure (i := 7) (listed' := [tt,tt,tt,tt,tt,tt,tt,tt,ff,ff,ff,ff,ff,ff,ff,ff,ff,ff,ff,ff,ff,ff,ff,ff,ff,ff,ff,ff,ff,ff,ff,ff,ff,ff]) rfl (by repeat (first | exact np_ret | exact np_cut | apply np_cutr | apply np_seq | apply np_block | apply np_loopN')) (pure_fieldAddr0 rfl) rfl (by kernel_rfl) rfl rfl ?_
   refine any_load (i := 8) (listed' := [tt,tt,tt,tt,tt,tt,tt,tt,tt,ff,ff,ff,ff,ff,ff,ff,ff,ff,ff,ff,ff,ff,ff,ff,ff,ff,ff,ff,ff,ff,ff,ff,ff,ff]) rfl (by repeat (first | exact np_ret | exact np_cut | apply np_cutr | apply np_seq | apply np_block | apply np_loopN')) (load_bs rfl rfl (by repeat (first | exact List.Mem.head _ | apply List.Mem.tail)) (by rfl)) rfl (by kernel_rfl) rfl rfl ?_
   refine any_pure (i := 9) (listed' := [tt,tt,tt,tt,tt,tt,tt,tt,tt,tt,ff,ff,ff,ff,ff,ff,ff,ff,ff,ff,ff,ff,ff,ff,ff,ff,ff,ff,ff,ff,ff,ff,ff,ff]) rfl (by repeat (first | exact np_ret | exact np_cut | apply np_cutr | apply np_seq | apply np_block | apply np_loopN')) (pure_move rfl) rfl (by kernel_rfl) rfl rfl ?_
   refine any_pure (i := 10) (listed' := [tt,tt,tt,tt,tt,tt,tt,tt,tt,tt,tt,ff,ff,ff,ff,ff,ff,ff,ff,ff,ff,ff,ff,ff,ff,ff,ff,ff,ff,ff,ff,ff,ff,ff]) rfl (by repeat (first | exact np_ret | exact np_cut | apply np_cutr | apply np_seq | apply np_block | apply np_loopN')) (pure_eql_t rfl rfl (by omega)) rfl (by kernel_rfl) rfl rfl ?_
   refine any_pure (i := 11) (listed' := [tt,tt,tt,tt,tt,tt,tt,tt,tt,tt,tt,tt,ff,ff,ff,ff,ff,ff,ff,ff,ff,ff,ff,ff,ff,ff,ff,ff,ff,ff,ff,ff,ff,ff]) rfl (by repeat (first | exact np_ret | exact np_cut | apply np_cutr | apply np_seq | apply np_block | apply np_loopN')) (pure_pick_t rfl rfl) rfl (by kernel_rfl) rfl rfl ?_
   refine any_pure (i := 12) (listed' := [tt,tt,tt,tt,tt,tt,tt,tt,tt,tt,tt,tt,tt,ff,ff,ff,ff,ff,ff,ff,ff,ff,ff,ff,ff,ff,ff,ff,ff,ff,ff,ff,ff,ff]) rfl (by repeat (first | exact np_ret | exact np_cut | apply np_cutr | apply np_seq | apply np_block | apply np_loopN')) (pure_move rfl) rfl (by kernel_rfl) rfl rfl ?_
   refine any_pure (i := 13) (listed' := [tt,tt,tt,tt,tt,tt,tt,tt,tt,tt,tt,tt,tt,tt,ff,ff,ff,ff,ff,ff,ff,ff,ff,ff,ff,ff,ff,ff,ff,ff,ff,ff,ff,ff]) rfl (by repeat (first | exact np_ret | exact np_cut | apply np_cutr | apply np_seq | apply np_block | apply np_loopN')) (pure_move rfl) rfl (by kernel_rfl) rfl rfl ?_
   refine any_pure (i := 14) (listed' := [tt,tt,tt,tt,tt,tt,tt,tt,tt,tt,tt,tt,tt,tt,tt,ff,ff,ff,ff,ff,ff,ff,ff,ff,ff,ff,ff,ff,ff,ff,ff,ff,ff,ff]) rfl (by repeat (first | exact np_ret | exact np_cut | apply np_cutr | apply np_seq | apply np_block | apply np_loopN')) (pure_len rfl rfl) rfl (by kernel_rfl) rfl rfl ?_
   refine any_pure (i := 15) (listed' := [tt,tt,tt,tt,tt,tt,tt,tt,tt,tt,tt,tt,tt,tt,tt,tt,ff,ff,ff,ff,ff,ff,ff,ff,ff,ff,ff,ff,ff,ff,ff,ff,ff,ff]) rfl (by repeat (first | exact np_ret | exact np_cut | apply np_cutr | apply np_seq | apply np_block | apply np_loopN')) (pure_geq_t rfl rfl (by omega)) rfl (by kernel_rfl) rfl rfl ?_
   refine any_pure (i := 16) (listed' := [tt,tt,tt,tt,tt,tt,tt,tt,tt,tt,tt,tt,tt,tt,tt,tt,tt,ff,ff,ff,ff,ff,ff,ff,ff,ff,ff,ff,ff,ff,ff,ff,ff,ff]) rfl (by repeat (first | exact np_ret | exact np_cut | apply np_cutr | apply np_seq | apply np_block | apply np_loopN')) (pure_pick_t rfl rfl) rfl (by kernel_rfl) rfl rfl ?_
   refine any_pure (i := 17) (listed' := [tt,tt,tt,tt,tt,tt,tt,tt,tt,tt,tt,tt,tt,tt,tt,tt,tt,tt,ff,ff,ff,ff,ff,ff,ff,ff,ff,ff,ff,ff,ff,ff,ff,ff]) rfl (by repeat (first | exact np_ret | exact np_cut | apply np_cutr | apply np_seq | apply np_block | apply np_loopN')) (pure_move rfl) rfl (by kernel_rfl) rfl rfl ?_
   refine any_pure (i := 18) (listed' := [tt,tt,tt,tt,tt,tt,tt,tt,tt,tt,tt,tt,tt,tt,tt,tt,tt,tt,tt,ff,ff,ff,ff,ff,ff,ff,ff,ff,ff,ff,ff,ff,ff,ff]) rfl (by repeat (first | exact np_ret | exact np_cut | apply np_cutr | apply np_seq | apply np_block | apply np_loopN')) (pure_move rfl) rfl (by kernel_rfl) rfl rfl ?_
   refine any_pure (i := 19) (listed' := [tt,tt,tt,tt,tt,tt,tt,tt,tt,tt,tt,tt,tt,tt,tt,tt,tt,tt,tt,tt,ff,ff,ff,ff,ff,ff,ff,ff,ff,ff,ff,ff,ff,ff]) rfl (by repeat (first | exact np_ret | exact np_cut | apply np_cutr | apply np_seq | apply np_block | apply np_loopN')) (pure_indexAddrN (j := 0) rfl rfl rfl (by omega)) rfl (by kernel_rfl) rfl rfl ?_
   refine any_load (i := 20) (listed' := [tt,tt,tt,tt,tt,tt,tt,tt,tt,tt,tt,tt,tt,tt,tt,tt,tt,tt,tt,tt,tt,ff,ff,ff,ff,ff,ff,ff,ff,ff,ff,ff,ff,ff]) rfl (by repeat (first | exact np_ret | exact np_cut | apply np_cutr | apply np_seq | apply np_block | apply np_loopN')) (load_a rfl rfl (hat0 _) rfl) rfl (by kernel_rfl) rfl rfl ?_
   refine any_pure (i := 21) (listed' := [tt,tt,tt,tt,tt,tt,tt,tt,tt,tt,tt,tt,tt,tt,tt,tt,tt,tt,tt,tt,tt,tt,ff,ff,ff,ff,ff,ff,ff,ff,ff,ff,ff,ff]) rfl (by repeat (first | exact np_ret | exact np_cut | apply np_cutr | apply np_seq | apply np_block | apply np_loopN')) (pure_fieldAddr0 rfl) rfl (by kernel_rfl) rfl rfl ?_
   refine any_load (i := 22) (listed' := [tt,tt,tt,tt,tt,tt,tt,tt,tt,tt,tt,tt,tt,tt,tt,tt,tt,tt,tt,tt,tt,tt,tt,ff,ff,ff,ff,ff,ff,ff,ff,ff,ff,ff]) rfl (by repeat (first | exact np_ret | exact np_cut | apply np_cutr | apply np_seq | apply np_block | apply np_loopN')) (load_ba rfl rfl (by repeat (first | exact List.Mem.head _ | apply List.Mem.tail)) (by rfl)) rfl (by kernel_rfl) rfl rfl ?_
   refine any_one (j := 23) (by kernel_rfl) ?_
   refine one_val (listed' := [tt,tt,tt,tt,tt,tt,tt,tt,tt,tt,tt,tt,tt,tt,tt,tt,tt,tt,tt,tt,tt,tt,tt,tt,ff,ff,ff,ff,ff,ff,ff,ff,ff,ff]) rfl rfl (hT1) rfl rfl rfl ?_
   refine any_pure (i := 24) (listed' := [tt,tt,tt,tt,tt,tt,tt,tt,tt,tt,tt,tt,tt,tt,tt,tt,tt,tt,tt,tt,tt,tt,tt,tt,tt,ff,ff,ff,ff,ff,ff,ff,ff,ff]) rfl (by repeat (first | exact np_ret | exact np_cut | apply np_cutr | apply np_seq | apply np_block | apply np_loopN')) (pure_pick_t rfl rfl) rfl (by kernel_rfl) rfl rfl ?_
   refine any_pure (i := 25) (listed' := [tt,tt,tt,tt,tt,tt,tt,tt,tt,tt,tt,tt,tt,tt,tt,tt,tt,tt,tt,tt,tt,tt,tt,tt,tt,tt,ff,ff,ff,ff,ff,ff,ff,ff]) rfl (by repeat (first | exact np_ret | exact np_cut | apply np_cutr | apply np_seq | apply np_block | apply np_loopN')) (pure_move rfl) rfl (by kernel_rfl) rfl rfl ?_
   refine any_pure (i := 26) (listed' := [tt,tt,tt,tt,tt,tt,tt,tt,tt,tt,tt,tt,tt,tt,tt,tt,tt,tt,tt,tt,tt,tt,tt,tt,tt,tt,tt,ff,ff,ff,ff,ff,ff,ff]) rfl (by repeat (first | exact np_ret | exact np_cut | apply np_cutr | apply np_seq | apply np_block | apply np_loopN')) (pure_move rfl) rfl (by kernel_rfl) rfl rfl ?_
   refine any_pure (i := 27) (listed' := [tt,tt,tt,tt,tt,tt,tt,tt,tt,tt,tt,tt,tt,tt,tt,tt,tt,tt,tt,tt,tt,tt,tt,tt,tt,tt,tt,tt,ff,ff,ff,ff,ff,ff]) rfl (by repeat (first | exact np_ret | exact np_cut | apply np_cutr | apply np_seq | apply np_block | apply np_loopN')) (pure_indexAddrN (j := 1) rfl rfl rfl (by omega)) rfl (by kernel_rfl) rfl rfl ?_
   refine any_load (i := 28) (listed' := [tt,tt,tt,tt,tt,tt,tt,tt,tt,tt,tt,tt,tt,tt,tt,tt,tt,tt,tt,tt,tt,tt,tt,tt,tt,tt,tt,tt,tt,ff,ff,ff,ff,ff]) rfl (by repeat (first | exact np_ret | exact np_cut | apply np_cutr | apply np_seq | apply np_block | apply np_loopN')) (load_a rfl rfl (hat1 _) rfl) rfl (by kernel_rfl) rfl rfl ?_
   refine any_pure (i := 29) (listed' := [tt,tt,tt,tt,tt,tt,tt,tt,tt,tt,tt,tt,tt,tt,tt,tt,tt,tt,tt,tt,tt,tt,tt,tt,tt,tt,tt,tt,tt,tt,ff,ff,ff,ff]) rfl (by repeat (first | exact np_ret | exact np_cut | apply np_cutr | apply np_seq | apply np_block | apply np_loopN')) (pure_fieldAddr0 rfl) rfl (by kernel_rfl) rfl rfl ?_
   refine any_load (i := 30) (listed' := [tt,tt,tt,tt,tt,tt,tt,tt,tt,tt,tt,tt,tt,tt,tt,tt,tt,tt,tt,tt,tt,tt,tt,tt,tt,tt,tt,tt,tt,tt,tt,ff,ff,ff]) rfl (by repeat (first | exact np_ret | exact np_cut | apply np_cutr | apply np_seq | apply np_block | apply np_loopN')) (load_ba rfl rfl (by repeat (first | exact List.Mem.head _ | apply List.Mem.tail)) (by rfl)) rfl (by kernel_rfl) rfl rfl ?_
   refine any_one (j := 31) (by kernel_rfl) ?_
   refine one_val (listed' := [tt,tt,tt,tt,tt,tt,tt,tt,tt,tt,tt,tt,tt,tt,tt,tt,tt,tt,tt,tt,tt,tt,tt,tt,tt,tt,tt,tt,tt,tt,tt,tt,ff,ff]) rfl rfl (hT2) rfl rfl rfl ?_
   refine any_pure (i := 32) (listed' := [tt,tt,tt,tt,tt,tt,tt,tt,tt,tt,tt,tt,tt,tt,tt,tt,tt,tt,tt,tt,tt,tt,tt,tt,tt,tt,tt,tt,tt,tt,tt,tt,tt,ff]) rfl (by repeat (first | exact np_ret | exact np_cut | apply np_cutr | apply np_seq | apply np_block | apply np_loopN')) (pure_pick_t rfl rfl) rfl (by kernel_rfl) rfl rfl ?_
   refine any_pure (i := 33) (listed' := [tt,tt,tt,tt,tt,tt,tt,tt,tt,tt,tt,tt,tt,tt,tt,tt,tt,tt,tt,tt,tt,tt,tt,tt,tt,tt,tt,tt,tt,tt,tt,tt,tt,tt]) rfl (by repeat (first | exact np_ret | exact np_cut | apply np_cutr | apply np_seq | apply np_block | apply np_loopN')) (pure_assign rfl) rfl (by kernel_rfl) rfl rfl ?_
   refine any_done (by kernel_rfl) ?_
   refine nrm_seq ?_
   refine tri_ret ?_
   refine ret_fin1 (res_tmp rfl) ?_
   exact ⟨rfl, rfl⟩
end Gw
end Go.Proofs.Yteneckdjdfnjoaa
namespace Go.Proofs.Yteneckdjdfnjoaa
open Go Go.RowKit Go.ChangeShapes Go.WideShapes Go.ChangeAt
namespace Gw
section read2
variable {H : Type} {enc : TypeId × Value → H} {w : World} {sp : Nat → Bool} {held : Bool}
end read2
end Gw
end Go.Proofs.Yteneckdjdfnjoaa
namespace Go.Proofs.Yteneckdjdfnjoaa
open Go Go.RowKit Go.ChangeShapes Go.WideShapes Go.ChangeAt
namespace Gw
theorem cellsU : Try.prog.cellsOf 5 = 1 := by kernel_rfl
theorem build_byte {q : Nat → Value → Prop} : ∀ {n : Nat}, (∀ i, i < n → ∃ k : UInt8, q i (.int .u8 (k.toNat : Int))) → ∃ l : List UInt8, l.length = n ∧ ∀ i v, (byts l)[i]? = some v → q i v
 | 0, _ => ⟨[], rfl, by simp [byts]⟩
 | n + 1, h => by
  obtain ⟨l, h1, h2⟩ := build_byte (n := n) fun i hi => h i (by omega)
  obtain ⟨k, hk⟩ := h n (by omega)
  refine ⟨l ++ [k], by simp [h1], fun i v hv => ?_⟩
  rw [show byts (l ++ [k]) = byts l ++ [.int .u8 (k.toNat : Int)] from by simp [byts], List.getElem?_append] at hv
  split at hv
  ·exact h2 i v hv
  ·rename_i hi
   rw [byts_len] at hi hv
   have : i - l.length = 0 := by
    have := (List.getElem?_eq_some_iff.1 hv).1; simp at this; omega
   rw [this] at hv; simp at hv; subst hv
   rw [show i = n by omega]; exact hk
section read2
variable {H : Type} {enc : TypeId × Value → H} {w : World} {sp : Nat → Bool} {held : Bool}
set_option maxRecDepth 100000 in
theorem read_bytes (n : Nat) (cs : List Value) (x : DataW H × List MemPlace) (h : DataW.trod enc Try.prog w 0 sp held n 22 cs = some x) : ∃ (l : List UInt8) (p : Option Addr) (c : Nat), cs = [.slice p l.length c] ∧ Sl (GW w) p l.length c 1 (byts l) := by
 rcases DataW.trod_slice Try.underlying22 h with ⟨rfl, _⟩ | ⟨ad, len, cap, elems, rest, n', rfl, rfl, _, _, hlc, hcm, hel, hele, _, _⟩
 ·exact ⟨[], none, 0, rfl, Sl.nil _ _⟩
 ·rw [cellsU] at hele
  obtain ⟨l, h1, h2⟩ := build_byte (q := fun i v => w.cells? 0 (ad.add (i * 1)) 1 = some [v]) (n := len) fun i hi => by
   have := hele i hi
   rw [List.getElem?_eq_getElem (by omega)] at this
   obtain ⟨cs', c1, c2⟩ := Option.bind_eq_some_iff.1 this
   obtain ⟨k, rfl, _, hw⟩ := DataW.trod_int Try.underlying5 c2
   have hk : 0 ≤ k ∧ k < 256 := by
    have hw2 : (decide ((0 : Int) ≤ k) && decide (k ≤ (255 : Int))) = true := hw
    simp only [Bool.and_eq_true, decide_eq_true_eq] at hw2
    omega
   refine ⟨UInt8.ofNat k.toNat, ?_⟩
   rw [show ((UInt8.ofNat k.toNat).toNat : Int) = k from by
    rw [UInt8.toNat_ofNat']; omega]
   exact c1
  subst h1
  refine ⟨l, some ad, cap, rfl, ?_⟩
  have := sl_read (w := w) (a := ad) (n := l.length) (c := cap) (sz := 1) (es := (byts l).map fun v => [v]) (by simp [byts_len]) (by omega) hlc hcm fun i e he => by
   rw [List.getElem?_map] at he
   cases hv : (byts l)[i]? with
   | none => rw [hv] at he; simp at he
   | some v => rw [hv] at he; simp at he; subst he; exact h2 i v hv
  have hf : ((byts l).map fun v => [v]).flatten = byts l := by
   generalize byts l = L
   induction L with
   | nil => rfl
   | cons a L ih => simp [ih]
  rwa [hf] at this
end read2
end Gw
end Go.Proofs.Yteneckdjdfnjoaa
