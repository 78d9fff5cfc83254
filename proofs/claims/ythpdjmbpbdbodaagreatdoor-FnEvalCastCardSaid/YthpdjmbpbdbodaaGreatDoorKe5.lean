/-
  The program's evaluator: values, casts, nodes. The program's evaluator: replacing a name, casts, nodes. The program's evaluator: casts, nodes, the rules without casts. The program's evaluator: the rules of casts. The program's evaluator: the rules of casts, selections and casts themselves. The program's evaluator: a step. The program's evaluator: step. The program's evaluator: StepCast, runs of steps, their results. Types are kept by steps; a closed term with a type does not get stuck, and what is blamed is a label of its casts. CastTypeOf. TypeSame, TermSame: the same data is the same. Values of the stack machine: as trees, and as they lie in memory; what an instruction does, in plain words. The reference's decimal digits of a number.
-/
import Derived.Test.YthpdjmbpbdbodaaGreatDoorKe4
import Derived.Test.YthpdjmbpbdbodaaGreatDoorKe1
import Derived.Test.YthpdjmbpbdbodaaGreatDoorKe2
import Derived.Test.YthpdjmbpbdbodaaGreatDoorKe3
import Derived.Lib.ItoaNum
set_option linter.unusedVariables false
set_option linter.unusedSimpArgs false
set_option maxHeartbeats 0
set_option maxRecDepth 100000
set_option synthInstance.maxSize 4000
set_option synthInstance.maxHeartbeats 0
namespace Go.Proofs.YthpdjmbpbdbodaaGreatDoor
open Go Go.RowKit
namespace Gw
theorem indexFunc_Term (G : IM) (p : Option Addr) (n c : Nat) (es : List (List Value)) (hsl : SlE G p n c 9 es) (fid : FuncId) [FunI Tryz.prog fid] (us cs : List Value) (ins : List Ent) (q : Nat → Bool)
  (hq : ∀ i e, es[i]? = some e → Fn Tryz.prog fid (us ++ [.agg ⟨e⟩] ++ cs) ins G (ValO (.bool (q i)) ins G)) :
  Fn Tryz.prog 112 [.slice p n c, .func (.func fid) ⟨us⟩ ⟨cs⟩] ins G (ValO (.int .i64 (firstIx q n)) ins G) := by
 have hn := hsl.le
 refine fn_enter Tryz.func112 rfl Tryz.ntmps112 Tryz.results112 rfl ?_
 intro w0
 refine tS (tR (sQ (qA rfl) rfl (sD (nS (tS (tS ?_))))))
 refine tR (sQ (qM rfl) rfl (sQ (pLn rfl rfl) rfl (sQ (qM rfl) rfl (sD (nS (tri_block ?_))))))
 refine tri_loopN (fun i : Nat => ⟨[(8, .int .i64 i), (7, .int .i64 n), (1, .func (.func fid) ⟨us⟩ ⟨cs⟩), (0, .slice p n c)], ins, G⟩) (fun i => i ≤ n ∧ ∀ j, j < i → q j = false) (fun i => n - i) 0 ?_ ?_ ?_
 exact sMk
 exact ⟨by omega, by omega⟩
 rintro i ⟨hi, hf⟩
 refine tS (tR (sB (pure_lss rfl rfl) rfl rfl (fun h21 => ?_) (fun h21 => ?_)))
 refine sD (nS (tS (qT rfl ?_)))
 refine tK (nS (tS (tri_block (tS (tR (sQ (qM rfl) rfl ?_))))))
 refine sQ (qA rfl) rfl (sD (nS (tS (tR (sQ (qM rfl) rfl (sQ (qM rfl) rfl ?_))))))
 refine sQ (qM rfl) rfl ?_
 (obtain ⟨e, b, o, he, rfl, hl, _, hat, _⟩ := hsl.get (i := i) (by omega); refine sP (pIN rfl rfl rfl (by omega)) rfl rfl ?_)
 refine sL (load_a rfl rfl (hat _) hl) rfl rfl ?_
 refine seq_vvalbo rfl rfl (hq i e he) perm_all rfl rfl (fun h43 => ?_) (fun h43 => ?_)
 refine sD (nS (qT rfl ?_))
 refine tS (tR (sQ (qM rfl) rfl (sQ (qA rfl) rfl (sD (nS (tT ?_))))))
 refine rB (rS (ret_loopN (rB (rS (ret_own1 (rT rfl) SubH.refl ?_)))))
 exact ⟨rfl, by rw [firstIx_some (by omega) hf (by assumption)], rfl⟩
 refine sD (nS (cF rfl ?_))
 refine tK (nrm_block (nS (tR (sP (pure_add rfl rfl (by omega) (by omega)) rfl rfl ?_))))
 refine sQ (qM rfl) rfl (sD (nrm_loopN (i + 1) ?_ ?_ ?_))
 exact sMk
 exact ⟨by omega, fun j hj => by by_cases hji : j = i; (subst hji; assumption); exact hf j (by omega)⟩
 omega
 refine sD (nS (tS (cF rfl ?_)))
 refine tri_exit ?_
 refine ext_seq ?_
 refine ext_loopN ?_
 refine ext_block_eq ?_
 refine nS (tS (tR (sQ (qA rfl) rfl (sD (nS (tT ?_))))))
 refine ret_own1 (rT rfl) SubH.refl ?_
 exact ⟨rfl, by rw [firstIx_none (fun j hj => hf j (by omega))], rfl⟩
theorem containsFunc_Term (G : IM) (p : Option Addr) (n c : Nat) (es : List (List Value)) (hsl : SlE G p n c 9 es) (fid : FuncId) [FunI Tryz.prog fid] (us cs : List Value) (ins : List Ent) (q : Nat → Bool)
  (hq : ∀ i e, es[i]? = some e → Fn Tryz.prog fid (us ++ [.agg ⟨e⟩] ++ cs) ins G (ValO (.bool (q i)) ins G)) :
  Fn Tryz.prog 71 [.slice p n c, .func (.func fid) ⟨us⟩ ⟨cs⟩] ins G (ValO (.bool (decide (0 ≤ firstIx q n))) ins G) := by
 refine fn_enter Tryz.func71 rfl Tryz.ntmps71 Tryz.results71 rfl ?_
 intro w0
 refine tS (tR (sQ (qA rfl) rfl (sD (nS (tS (tR ?_))))))
 refine sQ (qM rfl) rfl (sQ (qM rfl) rfl (seq_valo rfl (indexFunc_Term G p n c es hsl fid us cs ins q hq) perm_all rfl rfl ?_))
 refine sQ (pure_geq rfl rfl) rfl (sQ (qA rfl) rfl (sD (nS (tT (ret_own1 (rT rfl) SubH.refl ?_)))))
 exact ⟨rfl, rfl, rfl⟩
theorem containsNot_Term (G : IM) (p : Option Addr) (n c : Nat) (es : List (List Value)) (hsl : SlE G p n c 9 es) (fid : FuncId) [FunI Tryz.prog fid] (us cs : List Value) (ins : List Ent) (f : Tm → Bool) (ks : List Tm)
  (hn : ks.length = n) {A : Bool} (hA : ks.all f = A) (hq : ∀ i e, es[i]? = some e → Fn Tryz.prog fid (us ++ [.agg ⟨e⟩] ++ cs) ins G (ValO (.bool (!f (ks.getD i tm0))) ins G)) :
  Fn Tryz.prog 71 [.slice p n c, .func (.func fid) ⟨us⟩ ⟨cs⟩] ins G (ValO (.bool (!A)) ins G) := by
 subst hn hA
 rw [← contains_not f ks tm0]
 exact containsFunc_Term G p _ c es hsl fid us cs ins _ hq
theorem mValL_all : ∀ ks, mValL ks = ks.all mVal
 | [] => rfl
 | t :: ts => by rw [mValL, mValL_all ts, List.all_cons]
theorem isValue1_fn (t : Tm) (G : IM) (cells : List Value) (hl : cells.length = 9) (ho : cells.all (·.oneCell') = true) (h : Fn Tryz.prog 37 [.agg ⟨cells⟩] [] G (Val (.bool (mVal t)) G)) :
  Fn Tryz.prog 72 [.agg ⟨cells⟩] [] G (ValO (.bool (!mVal t)) [] G) := by
 refine fn_enter Tryz.func72 rfl Tryz.ntmps72 Tryz.results72 rfl ?_
 intro w0
 refine tS (tR ?_)
 refine sE (step_box_a rfl rfl) rfl (fun b3 => ?_)
 refine sQ (qA rfl) rfl (sD (nS (tS (tR (sL (load_a rfl rfl (at_blk_all (by repeat first | exact mH | apply mT)) hl) rfl rfl ?_)))))
 refine seq_val rfl (h) rfl rfl ?_
 refine sQ (pure_not rfl) rfl (sQ (qA rfl) rfl (sD (nS (tT (rF1 (rT rfl) ?_)))))
 (exact ⟨rfl, rfl, rfl⟩)
theorem prx_mk (k : Int) (nm : ByteArray) (num : Int) (ty fr : Ty) (lb : Int) (ks : List Tm) : prx (.mk k nm num ty fr lb ks) = decide (k = 14 ∧ fr.k = ty.k ∧ (ty.k = 4 ∨ ty.k = 5)) := rfl
theorem inj_mk (k : Int) (nm : ByteArray) (num : Int) (ty fr : Ty) (lb : Int) (ks : List Tm) : inj (.mk k nm num ty fr lb ks) = (decide (k = 14 ∧ ty.k = 1) && isGrd fr) := rfl
theorem val_yes {k : Int} {nm : ByteArray} {num : Int} {ty fr : Ty} {lb : Int} {ks : List Tm} (h : k = 10 ∨ prx (.mk k nm num ty fr lb ks) = true ∨ inj (.mk k nm num ty fr lb ks) = true) : mVal (.mk k nm num ty fr lb ks) = ks.all mVal := by
 rw [mVal, if_pos, mValL_all]
 rw [prx_mk, inj_mk] at h
 simp only [Bool.and_eq_true, decide_eq_true_eq] at h
 rcases h with h | h | h
 ·exact .inl h
 ·exact .inr (.inl h)
 ·exact .inr (.inr ⟨h.1.1, h.1.2, h.2⟩)
theorem val_no {k : Int} {nm : ByteArray} {num : Int} {ty fr : Ty} {lb : Int} {ks : List Tm} (h : ¬k = 10) (h2 : prx (.mk k nm num ty fr lb ks) = false) (h3 : inj (.mk k nm num ty fr lb ks) = false) : mVal (.mk k nm num ty fr lb ks) = decide (k = 2 ∨ k = 3 ∨ k = 4 ∨ k = 5) := by
 rw [mVal, if_neg]
 rw [prx_mk] at h2
 rw [inj_mk] at h3
 simp only [Bool.and_eq_false_iff, decide_eq_false_iff_not] at h2 h3
 rintro (h' | h' | h')
 ·exact h h'
 ·exact h2 h'
 ·rcases h3 with h3 | h3
  ·exact h3 ⟨h'.1, h'.2.1⟩
  ·rw [h3] at h'; cases h'.2.2
theorem isValue_fn : ∀ (t : Tm) (G : IM) (cells : List Value), RTm G t cells → Fn Tryz.prog 37 [.agg ⟨cells⟩] [] G (Val (.bool (mVal t)) G) := by
 refine Tm.ind fun k nm num ty fr lb ks ih G cells hr => ?_
 have hr0 := hr
 have hP := isProxy_fn _ G _ hr
 have hI := isInjection_fn _ G _ hr
 have hPl := isPlain_fn _ G _ hr
 have hy := @val_yes k nm num ty fr lb ks
 have hn := @val_no k nm num ty fr lb ks
 rw [show (Tm.mk k nm num ty fr lb ks).k = k from rfl] at hPl
 obtain ⟨A, hA⟩ : ∃ A, ks.all mVal = A := ⟨_, rfl⟩
 rw [hA] at hy
 generalize hpx : prx (.mk k nm num ty fr lb ks) = bp at hP hy hn
 generalize hij : inj (.mk k nm num ty fr lb ks) = bi at hI hy hn
 generalize mVal (.mk k nm num ty fr lb ks) = R at hy hn ⊢
 obtain ⟨tk, tks⟩ := ty
 obtain ⟨fk, fks⟩ := fr
 obtain ⟨pt, ct, pf, cf, p, c, es, rfl, hk, hnum, hlb, hty, hfr, hsl, hkl⟩ := hr.open9
 have hC := containsNot_Term G p ks.length c es hsl 72 [] [] [] mVal ks rfl hA (fun i e he => by
  have hx := hkl.inv he tm0
  exact isValue1_fn _ G e hx.2.len hx.2.one (ih _ hx.1 G e hx.2))
 refine fn_enter Tryz.func37 rfl Tryz.ntmps37 Tryz.results37 rfl ?_
 intro w0
 refine tS (tR ?_)
 refine sE (step_box_a rfl rfl) rfl (fun b3 => ?_)
 refine sQ (qA rfl) rfl (sD (nS (tS (tS (tR (sQ (qF0 rfl) rfl ?_))))))
 refine sL (lBs rfl rfl) rfl rfl ?_
 refine sB (qE rfl rfl) rfl rfl (fun h12 => ?_) (fun h12 => ?_)
 refine sQ (qM rfl) rfl (sK rfl rfl (sK rfl rfl (sQ (pPt rfl rfl) rfl (sQ (qM rfl) rfl (sK rfl rfl (sK rfl rfl ?_))))))
 refine sQ (pPt rfl rfl) rfl (sD (nS (qT rfl ?_)))
 refine tS (tR (sQ (qF0 rfl) rfl (sL (lBs rfl rfl) rfl rfl ?_)))
 refine seq_valo rfl hC perm_all rfl rfl ?_
 refine sQ (pure_not rfl) rfl (sQ (qA rfl) rfl (sD (nS (tT (rS (rF1 (rT rfl) ?_))))))
 (exact ⟨rfl, by rw [hy (by first | exact .inl (by omega) | exact .inr (.inl (by assumption)) | exact .inr (.inr (by assumption)))]; cases A <;> rfl, rfl⟩)
 refine sQ (qM rfl) rfl (sL (lBa rfl rfl) rfl rfl ?_)
 refine seq_valb rfl (hP) rfl rfl (fun h39 => ?_) (fun h39 => ?_)
 refine sQ (pPf rfl rfl) rfl (sQ (qM rfl) rfl (sK rfl rfl (sK rfl rfl (sQ (pPt rfl rfl) rfl (sD (nS ?_))))))
 refine qT rfl ?_
 refine tS (tR (sQ (qF0 rfl) rfl (sL (lBs rfl rfl) rfl rfl ?_)))
 refine seq_valo rfl hC perm_all rfl rfl ?_
 refine sQ (pure_not rfl) rfl (sQ (qA rfl) rfl (sD (nS (tT (rS (rF1 (rT rfl) ?_))))))
 (exact ⟨rfl, by rw [hy (by first | exact .inl (by omega) | exact .inr (.inl (by assumption)) | exact .inr (.inr (by assumption)))]; cases A <;> rfl, rfl⟩)
 refine sQ (pPf rfl rfl) rfl (sQ (qM rfl) rfl (sL (lBa rfl rfl) rfl rfl ?_))
 refine seq_valb rfl (hI) rfl rfl (fun h64 => ?_) (fun h64 => ?_)
 refine sQ (pPf rfl rfl) rfl (sD (nS (qT rfl ?_)))
 refine tS (tR (sQ (qF0 rfl) rfl (sL (lBs rfl rfl) rfl rfl ?_)))
 refine seq_valo rfl hC perm_all rfl rfl ?_
 refine sQ (pure_not rfl) rfl (sQ (qA rfl) rfl (sD (nS (tT (rS (rF1 (rT rfl) ?_))))))
 (exact ⟨rfl, by rw [hy (by first | exact .inl (by omega) | exact .inr (.inl (by assumption)) | exact .inr (.inr (by assumption)))]; cases A <;> rfl, rfl⟩)
 refine sQ (pPf rfl rfl) rfl (sD (nS (cF rfl ?_)))
 refine tK (nS (tS (tR (sL (lBa rfl rfl) rfl rfl ?_))))
 refine seq_val rfl (hPl) rfl rfl ?_
 refine sQ (qA rfl) rfl (sD (nS (tT (rF1 (rT rfl) ?_))))
 (exact ⟨rfl, by rw [hn (by omega) (by assumption) (by assumption)], rfl⟩)
theorem RTm.put {G : IM} {k : Int} {nm : ByteArray} {num tk fk lb : Int} {tks fks : List Ty} {us : List Tm} {pt pf p : Option Addr} {ct cf n c : Nat} {es : List (List Value)} (hk : I64 k) (hnum : I64 num) (hlb : I64 lb) (hty : RTy G (.mk tk tks) [.int .i64 tk, .slice pt tks.length ct]) (hfr : RTy G (.mk fk fks) [.int .i64 fk, .slice pf fks.length cf])
  (hn : n = us.length) (hs : SlE G p n c 9 es) (hr : RTmL G us es) : RTm G (.mk k nm num (.mk tk tks) (.mk fk fks) lb us) [.int .i64 k, .string nm, .int .i64 num, .int .i64 tk, .slice pt tks.length ct, .int .i64 fk, .slice pf fks.length cf, .int .i64 lb, .slice p n c] := by
 subst hn
 simp only [RTm]
 exact ⟨_, _, p, c, es, rfl, hk, hnum, hlb, hty, hfr, hs, hr⟩
theorem nine {uc : List Value} (h : uc.length = 9) : ∃ v1 v2 v3 v4 v5 v6 v7 v8 v9, uc = [v1, v2, v3, v4, v5, v6, v7, v8, v9] := by
 match uc, h with
 | [a, b, c, d, e, f, g, i, j], _ => exact ⟨a, b, c, d, e, f, g, i, j, rfl⟩
theorem substL_take {x : ByteArray} {v : Tm} {ks : List Tm} {i : Nat} (h : i < ks.length) : (mSubstL x v ks).take (i + 1) = (mSubstL x v ks).take i ++ [mSubst x v ks[i]] := by
 rw [mSubstL_eq, List.take_succ_eq_append_getElem (by rw [List.length_map]; exact h), List.getElem_map]
theorem substL_len (x : ByteArray) (v : Tm) (ks : List Tm) : (mSubstL x v ks).length = ks.length := by rw [mSubstL_eq, List.length_map]
theorem subst_fn (y : ByteArray) (v : Tm) (vc : List Value) : ∀ (t : Tm) (G : IM) (cells : List Value), t.small → RTm G t cells → RTm G v vc → Fn Tryz.prog 168 [.agg ⟨cells⟩, .string y, .agg ⟨vc⟩] [] G (TmP (mSubst y v t)) := by
 refine Tm.ind fun k nm num ty fr lb ks ih G cells hts hr hv => ?_
 have hr0 := hr
 obtain ⟨_, _, _, hsm, hks⟩ := small_mk.1 hts
 have hvl := hv.len
 have hvo := hv.one
 have hRl := hr.len
 have hRo := hr.one
 rw [mSubst]
 obtain ⟨tk, tks⟩ := ty
 obtain ⟨fk, fks⟩ := fr
 obtain ⟨pt, ct, pf, cf, p, c, es, rfl, hk, hnum, hlb, hty, hfr, hsl, hkl⟩ := hr.open9
 have hn := hsl.le
 refine fn_enter Tryz.func168 rfl Tryz.ntmps168 Tryz.results168 rfl ?_
 intro w0
 refine tS (tR ?_)
 refine sE (step_box_a rfl rfl) rfl (fun b3 => ?_)
 refine sE (step_box_a rfl rfl) rfl (fun b4 => ?_)
 refine sE (step_alloc rfl) rfl (fun b5 => ?_)
 refine sD (nS (tS (tri_block (tS (tR (sQ (qF0 rfl) rfl ?_))))))
 refine sL (lBs rfl rfl) rfl rfl ?_
 refine sB (qE rfl rfl) rfl rfl (fun h14 => ?_) (fun h14 => ?_)
 refine sQ (qM rfl) rfl (sQ (qF0 rfl) rfl (sL (lBs rfl rfl) rfl rfl ?_))
 refine sQ (qM rfl) rfl (sB (pure_seql rfl rfl) rfl rfl (fun h19 => ?_) (fun h19 => ?_))
 refine sQ (pPt rfl rfl) rfl (sQ (qA rfl) rfl (sD (nS (qT rfl ?_))))
 refine tS (tR (sL (load_a rfl rfl (at_blk_all (by repeat first | exact mH | apply mT)) hvl) rfl rfl ?_))
 refine sS rfl rfl rfl hvl hvo rfl ?_ (hu := by exact upd_all hvl.symm)
 refine sD (nS (tT (rB (rS (rF1 (rC rfl (load_a rfl rfl (at_blk_all (by repeat first | exact mH | apply mT)) hvl)) ?_)))))
 (rw [if_pos (by refine ⟨by omega, by assumption⟩)]; exact TmP.mk hv)
 refine sQ (pPt rfl rfl) rfl (sQ (qA rfl) rfl (sD (nS (cF rfl ?_))))
 refine tS (tR (sQ (qF0 rfl) rfl (sL (lBs rfl rfl) rfl rfl ?_)))
 refine sP (pure_eql_f rfl rfl (by omega)) rfl rfl ?_
 refine sQ (qM rfl) rfl (sK rfl rfl (sK rfl rfl (sK rfl rfl (sK rfl rfl (sQ (pPf rfl rfl) rfl (sQ (qA rfl) rfl ?_))))))
 refine sD (nS (cF rfl ?_))
 refine tK (nrm_block (nS (tS (tR (sL (lBa rfl rfl) rfl rfl ?_)))))
 refine sE (step_alloc rfl) rfl (fun b62 => ?_)
 refine sS' ?_
 refine sD (nS (tS (tR (sQ (qF0 rfl) rfl (sS' ?_)))))
 refine sD (nS (tS (tS (tR (sQ (qF0 rfl) rfl (sL (lBs rfl rfl) rfl rfl ?_))))))
 refine sQ (pLn rfl rfl) rfl (sQ (qM rfl) rfl (sD (nS (tri_block ?_))))
 (refine tri_nil 28 9 ?_; refine tri_loopN (fun (x : Nat × Option Addr × Nat × List (List Value) × IM) => ⟨[(37, .int .i64 x.1), (36, .int .i64 ks.length), (35, .slice p ks.length c), (1, .string y), (3, .pointer (some ⟨b3, 0, none⟩)), (5, .pointer (some ⟨b4, 0, none⟩)), (6, .pointer (some ⟨b5, 0, none⟩)), (7, .pointer (some ⟨b62, 0, none⟩))], [.blk b62 [.int .i64 k, .string nm, .int .i64 num, .int .i64 tk, .slice pt tks.length ct, .int .i64 fk, .slice pf fks.length cf, .int .i64 lb, .slice x.2.1 x.1 x.2.2.1], .slc x.2.1 x.2.2.1 28 9 x.1 x.2.2.2.1.flatten, .blk b5 [.int .i64 0, .string ⟨⟨[]⟩⟩, .int .i64 0, .int .i64 0, .slice none 0 0, .int .i64 0, .slice none 0 0, .int .i64 0, .slice none 0 0], .blk b4 vc, .blk b3 [.int .i64 k, .string nm, .int .i64 num, .int .i64 tk, .slice pt tks.length ct, .int .i64 fk, .slice pf fks.length cf, .int .i64 lb, .slice p ks.length c]], x.2.2.2.2⟩) (fun x => x.1 ≤ ks.length ∧ IMle G x.2.2.2.2 ∧ RTmL x.2.2.2.2 ((mSubstL y v ks).take x.1) x.2.2.2.1) (fun x => ks.length - x.1) (0, none, 0, [], G) ?_ ?_ ?_)
 (simp only [flat_snoc]; exact sMk)
 (exact ⟨Nat.zero_le _, IMle.refl _, by simp [RTmL]⟩)
 (rintro ⟨i, pn, cn, es', Gi⟩ ⟨hi, hle, hst⟩; simp only [] at hi hle hst ⊢; replace hsl := hsl.mono hle; replace hkl := hkl.mono hle; replace hv := hv.mono hle; replace hty := hty.mono hle; replace hfr := hfr.mono hle; have hsl' := hst.len; rw [List.length_take, substL_len] at hsl')
 refine tS (tR (sB (pure_lss rfl rfl) rfl rfl (fun h88 => ?_) (fun h88 => ?_)))
 refine sD (nS (tS (qT rfl ?_)))
 refine tK (nS (tS (tri_block (tS (tR ?_)))))
 (have hil : i < ks.length := (by omega); obtain ⟨bx, ox, e, rfl, hl, hat, hre, hgb⟩ := hsl.kidTm hkl (i := i) (by omega) (by omega); have hel := hre.len; have heo := hre.one; refine sP (pIN (j := i) rfl rfl rfl (by omega)) rfl rfl ?_)
 refine sL (load_a rfl rfl (hat _) hl) rfl rfl ?_
 refine sE (step_alloc rfl) rfl (fun b101 => ?_)
 refine sS rfl rfl rfl hel heo rfl ?_ (hu := by exact upd_all hel.symm)
 refine sD (nS (tri_draw mixed rfl ?_))
 refine any_load (i := 2) (l' := [ff,ff,tt,ff,ff,ff,ff,ff,ff,ff]) rfl npI (load_a rfl rfl (at_blk_all (by repeat first | exact mH | apply mT)) hel) rfl (by kernel_rfl) rfl rfl ?_
 refine aL 4 rfl (load_a rfl rfl (at_blk_all (by repeat first | exact mH | apply mT)) hvl) rfl ?_
 refine aP 0 rfl (qF0 rfl) rfl ?_
 refine aL 1 rfl (lBs rfl rfl) rfl ?_
 refine aP 3 rfl (qM rfl) rfl ?_
 refine aO' 5 ?_
 (refine one_imm rfl rfl (ih ks[i] (List.getElem_mem (by omega)) Gi _ (Tm.smallL_mem hks _ (List.getElem_mem (by omega))) hre hv) rfl rfl rfl (fun u G1 hle1 hh => ?_); obtain ⟨uc, rfl, hru⟩ := hh; have hul := hru.len; have huo := hru.one; obtain ⟨v1, v2, v3, v4, v5, v6, v7, v8, v9, rfl⟩ := nine hul)
 refine aO' 6 ?_
 (refine one_step0 rfl (step_buildSlice rfl rfl rfl (by omega) (by unfold maxLen; omega) rfl) rfl rfl ?_; rintro _ ⟨b114, rfl⟩)
 refine aO' 7 ?_
 (refine one_append rfl rfl rfl rfl rfl rfl (fun _ _ => by repeat (first | exact Sw.here | apply Sw.there)) (at_slc_all (by repeat first | exact mH | apply mT)) rfl (fun u hu => List.all_eq_true.1 huo u hu) (by unfold maxLen; omega) (by omega) rfl rfl (by repeat (first | exact HmOk.nil | apply HmOk.dep (by decide +kernel) | apply HmOk.im (by decide +kernel) (by assumption) (by repeat first | exact mH | apply mT) | apply HmOk.blk (by decide +kernel) (by repeat (first | exact Pk.here | apply Pk.there)) (by repeat first | exact mH | apply mT))) (fun p7 c7 => ?_))
 refine aP 8 rfl (qF0 rfl) rfl ?_
 refine aO' 9 ?_
 refine one_store rfl rfl rfl rfl rfl rfl rfl rfl (by decide +kernel) (by repeat first | exact Sw.here | apply Sw.there) (by rfl) ?_
 refine aD' ?_
 refine nrm_block (nS (tR (sP (pure_add rfl rfl (by omega) (by omega)) rfl rfl ?_)))
 refine sQ (qM rfl) rfl (sD (nrm_loopN (i + 1, p7, c7, es' ++ [[v1, v2, v3, v4, v5, v6, v7, v8, v9]], G1) ?_ ?_ ?_))
 (simp only [flat_snoc]; exact sMk)
 (dsimp only; exact ⟨by omega, hle.trans hle1, by rw [substL_take (by omega)]; exact RTmL.snoc (hst.mono hle1) hru⟩)
 (show ks.length - (i + 1) < ks.length - i; omega)
 refine sD (nS (tS (cF rfl ?_)))
 refine tri_exit ?_
 refine ext_seq ?_
 refine ext_loopN ?_
 refine ext_block_eq ?_
 refine nS (tS (tR (sL (lBa rfl rfl) rfl rfl ?_)))
 refine sS' ?_
 refine sD (nS ?_)
 (refine ret_freeze (cs := es'.flatten) (by repeat (first | exact Pk.here | apply Pk.there)) (fun G2 hle2 hsl2 hno2 => ?_); obtain rfl : i = ks.length := (by omega))
 refine tT (rF1 (rC rfl (lBa rfl rfl)) ?_)
 (rw [if_neg (by rintro ⟨h1, h2⟩; first | omega | contradiction), if_neg (by rintro ⟨h1, h2⟩; first | omega | contradiction)]; rw [List.take_of_length_le (by rw [substL_len]; omega)] at hst; exact TmP.mk (RTm.put hk hnum hlb (hty.mono hle2) (hfr.mono hle2) (by rw [substL_len]) (SlE.of hsl2 (by omega) hst.all (fun e he => (hst.each e he).2)) (hst.mono hle2)))
 refine sQ (qM rfl) rfl (sK rfl rfl (sK rfl rfl (sK rfl rfl (sK rfl rfl (sQ (pPf rfl rfl) rfl (sQ (qA rfl) rfl ?_))))))
 refine sD (nS (cF rfl ?_))
 refine tS (tR (sQ (qF0 rfl) rfl (sL (lBs rfl rfl) rfl rfl ?_)))
 refine sB (qE rfl rfl) rfl rfl (fun h164 => ?_) (fun h164 => ?_)
 refine sQ (qM rfl) rfl (sQ (qF0 rfl) rfl (sL (lBs rfl rfl) rfl rfl ?_))
 refine sQ (qM rfl) rfl (sB (pure_seql rfl rfl) rfl rfl (fun h169 => ?_) (fun h169 => ?_))
 refine sQ (pPt rfl rfl) rfl (sQ (qA rfl) rfl (sD (nS (qT rfl ?_))))
 refine tS (tR (sL (lBa rfl rfl) rfl rfl ?_))
 refine sS' ?_
 refine sD (nS (tT (rB (rS (rF1 (rC rfl (lBa rfl rfl)) ?_)))))
 (rw [if_neg (by rintro ⟨h1, h2⟩; first | omega | contradiction), if_pos (by refine ⟨by omega, by assumption⟩)]; exact TmP.mk hr0)
 refine sQ (pPt rfl rfl) rfl (sQ (qA rfl) rfl (sD (nS (cF rfl ?_))))
 refine tK (nrm_block (nS (tS (tR (sL (lBa rfl rfl) rfl rfl ?_)))))
 refine sE (step_alloc rfl) rfl (fun b197 => ?_)
 refine sS' ?_
 refine sD (nS (tS (tR (sQ (qF0 rfl) rfl (sS' ?_)))))
 refine sD (nS (tS (tS (tR (sQ (qF0 rfl) rfl (sL (lBs rfl rfl) rfl rfl ?_))))))
 refine sQ (pLn rfl rfl) rfl (sQ (qM rfl) rfl (sD (nS (tri_block ?_))))
 (refine tri_nil 28 9 ?_; refine tri_loopN (fun (x : Nat × Option Addr × Nat × List (List Value) × IM) => ⟨[(37, .int .i64 x.1), (36, .int .i64 ks.length), (35, .slice p ks.length c), (1, .string y), (3, .pointer (some ⟨b3, 0, none⟩)), (5, .pointer (some ⟨b4, 0, none⟩)), (6, .pointer (some ⟨b5, 0, none⟩)), (7, .pointer (some ⟨b197, 0, none⟩))], [.blk b197 [.int .i64 k, .string nm, .int .i64 num, .int .i64 tk, .slice pt tks.length ct, .int .i64 fk, .slice pf fks.length cf, .int .i64 lb, .slice x.2.1 x.1 x.2.2.1], .slc x.2.1 x.2.2.1 28 9 x.1 x.2.2.2.1.flatten, .blk b5 [.int .i64 0, .string ⟨⟨[]⟩⟩, .int .i64 0, .int .i64 0, .slice none 0 0, .int .i64 0, .slice none 0 0, .int .i64 0, .slice none 0 0], .blk b4 vc, .blk b3 [.int .i64 k, .string nm, .int .i64 num, .int .i64 tk, .slice pt tks.length ct, .int .i64 fk, .slice pf fks.length cf, .int .i64 lb, .slice p ks.length c]], x.2.2.2.2⟩) (fun x => x.1 ≤ ks.length ∧ IMle G x.2.2.2.2 ∧ RTmL x.2.2.2.2 ((mSubstL y v ks).take x.1) x.2.2.2.1) (fun x => ks.length - x.1) (0, none, 0, [], G) ?_ ?_ ?_)
 (simp only [flat_snoc]; exact sMk)
 (exact ⟨Nat.zero_le _, IMle.refl _, by simp [RTmL]⟩)
 (rintro ⟨i, pn, cn, es', Gi⟩ ⟨hi, hle, hst⟩; simp only [] at hi hle hst ⊢; replace hsl := hsl.mono hle; replace hkl := hkl.mono hle; replace hv := hv.mono hle; replace hty := hty.mono hle; replace hfr := hfr.mono hle; have hsl' := hst.len; rw [List.length_take, substL_len] at hsl')
 refine tS (tR (sB (pure_lss rfl rfl) rfl rfl (fun h223 => ?_) (fun h223 => ?_)))
 refine sD (nS (tS (qT rfl ?_)))
 refine tK (nS (tS (tri_block (tS (tR ?_)))))
 (have hil : i < ks.length := (by omega); obtain ⟨bx, ox, e, rfl, hl, hat, hre, hgb⟩ := hsl.kidTm hkl (i := i) (by omega) (by omega); have hel := hre.len; have heo := hre.one; refine sP (pIN (j := i) rfl rfl rfl (by omega)) rfl rfl ?_)
 refine sL (load_a rfl rfl (hat _) hl) rfl rfl ?_
 refine sE (step_alloc rfl) rfl (fun b236 => ?_)
 refine sS rfl rfl rfl hel heo rfl ?_ (hu := by exact upd_all hel.symm)
 refine sD (nS (tri_draw mixed rfl ?_))
 refine any_load (i := 2) (l' := [ff,ff,tt,ff,ff,ff,ff,ff,ff,ff]) rfl npI (load_a rfl rfl (at_blk_all (by repeat first | exact mH | apply mT)) hel) rfl (by kernel_rfl) rfl rfl ?_
 refine aL 4 rfl (load_a rfl rfl (at_blk_all (by repeat first | exact mH | apply mT)) hvl) rfl ?_
 refine aP 0 rfl (qF0 rfl) rfl ?_
 refine aL 1 rfl (lBs rfl rfl) rfl ?_
 refine aP 3 rfl (qM rfl) rfl ?_
 refine aO' 5 ?_
 (refine one_imm rfl rfl (ih ks[i] (List.getElem_mem (by omega)) Gi _ (Tm.smallL_mem hks _ (List.getElem_mem (by omega))) hre hv) rfl rfl rfl (fun u G1 hle1 hh => ?_); obtain ⟨uc, rfl, hru⟩ := hh; have hul := hru.len; have huo := hru.one; obtain ⟨v1, v2, v3, v4, v5, v6, v7, v8, v9, rfl⟩ := nine hul)
 refine aO' 6 ?_
 (refine one_step0 rfl (step_buildSlice rfl rfl rfl (by omega) (by unfold maxLen; omega) rfl) rfl rfl ?_; rintro _ ⟨b249, rfl⟩)
 refine aO' 7 ?_
 (refine one_append rfl rfl rfl rfl rfl rfl (fun _ _ => by repeat (first | exact Sw.here | apply Sw.there)) (at_slc_all (by repeat first | exact mH | apply mT)) rfl (fun u hu => List.all_eq_true.1 huo u hu) (by unfold maxLen; omega) (by omega) rfl rfl (by repeat (first | exact HmOk.nil | apply HmOk.dep (by decide +kernel) | apply HmOk.im (by decide +kernel) (by assumption) (by repeat first | exact mH | apply mT) | apply HmOk.blk (by decide +kernel) (by repeat (first | exact Pk.here | apply Pk.there)) (by repeat first | exact mH | apply mT))) (fun p7 c7 => ?_))
 refine aP 8 rfl (qF0 rfl) rfl ?_
 refine aO' 9 ?_
 refine one_store rfl rfl rfl rfl rfl rfl rfl rfl (by decide +kernel) (by repeat first | exact Sw.here | apply Sw.there) (by rfl) ?_
 refine aD' ?_
 refine nrm_block (nS (tR (sP (pure_add rfl rfl (by omega) (by omega)) rfl rfl ?_)))
 refine sQ (qM rfl) rfl (sD (nrm_loopN (i + 1, p7, c7, es' ++ [[v1, v2, v3, v4, v5, v6, v7, v8, v9]], G1) ?_ ?_ ?_))
 (simp only [flat_snoc]; exact sMk)
 (dsimp only; exact ⟨by omega, hle.trans hle1, by rw [substL_take (by omega)]; exact RTmL.snoc (hst.mono hle1) hru⟩)
 (show ks.length - (i + 1) < ks.length - i; omega)
 refine sD (nS (tS (cF rfl ?_)))
 refine tri_exit ?_
 refine ext_seq ?_
 refine ext_loopN ?_
 refine ext_block_eq ?_
 refine nS (tS (tR (sL (lBa rfl rfl) rfl rfl ?_)))
 refine sS' ?_
 refine sD (nS ?_)
 (refine ret_freeze (cs := es'.flatten) (by repeat (first | exact Pk.here | apply Pk.there)) (fun G2 hle2 hsl2 hno2 => ?_); obtain rfl : i = ks.length := (by omega))
 refine tT (rF1 (rC rfl (lBa rfl rfl)) ?_)
 (rw [if_neg (by rintro ⟨h1, h2⟩; first | omega | contradiction), if_neg (by rintro ⟨h1, h2⟩; first | omega | contradiction)]; rw [List.take_of_length_le (by rw [substL_len]; omega)] at hst; exact TmP.mk (RTm.put hk hnum hlb (hty.mono hle2) (hfr.mono hle2) (by rw [substL_len]) (SlE.of hsl2 (by omega) hst.all (fun e he => (hst.each e he).2)) (hst.mono hle2)))
 refine sQ (qM rfl) rfl (sK rfl rfl (sK rfl rfl (sK rfl rfl (sK rfl rfl (sQ (pPf rfl rfl) rfl (sQ (qA rfl) rfl ?_))))))
 refine sD (nS (cF rfl ?_))
 refine tK (nrm_block (nS (tS (tR (sL (lBa rfl rfl) rfl rfl ?_)))))
 refine sE (step_alloc rfl) rfl (fun b301 => ?_)
 refine sS' ?_
 refine sD (nS (tS (tR (sQ (qF0 rfl) rfl (sS' ?_)))))
 refine sD (nS (tS (tS (tR (sQ (qF0 rfl) rfl (sL (lBs rfl rfl) rfl rfl ?_))))))
 refine sQ (pLn rfl rfl) rfl (sQ (qM rfl) rfl (sD (nS (tri_block ?_))))
 (refine tri_nil 28 9 ?_; refine tri_loopN (fun (x : Nat × Option Addr × Nat × List (List Value) × IM) => ⟨[(37, .int .i64 x.1), (36, .int .i64 ks.length), (35, .slice p ks.length c), (1, .string y), (3, .pointer (some ⟨b3, 0, none⟩)), (5, .pointer (some ⟨b4, 0, none⟩)), (6, .pointer (some ⟨b5, 0, none⟩)), (7, .pointer (some ⟨b301, 0, none⟩))], [.blk b301 [.int .i64 k, .string nm, .int .i64 num, .int .i64 tk, .slice pt tks.length ct, .int .i64 fk, .slice pf fks.length cf, .int .i64 lb, .slice x.2.1 x.1 x.2.2.1], .slc x.2.1 x.2.2.1 28 9 x.1 x.2.2.2.1.flatten, .blk b5 [.int .i64 0, .string ⟨⟨[]⟩⟩, .int .i64 0, .int .i64 0, .slice none 0 0, .int .i64 0, .slice none 0 0, .int .i64 0, .slice none 0 0], .blk b4 vc, .blk b3 [.int .i64 k, .string nm, .int .i64 num, .int .i64 tk, .slice pt tks.length ct, .int .i64 fk, .slice pf fks.length cf, .int .i64 lb, .slice p ks.length c]], x.2.2.2.2⟩) (fun x => x.1 ≤ ks.length ∧ IMle G x.2.2.2.2 ∧ RTmL x.2.2.2.2 ((mSubstL y v ks).take x.1) x.2.2.2.1) (fun x => ks.length - x.1) (0, none, 0, [], G) ?_ ?_ ?_)
 (simp only [flat_snoc]; exact sMk)
 (exact ⟨Nat.zero_le _, IMle.refl _, by simp [RTmL]⟩)
 (rintro ⟨i, pn, cn, es', Gi⟩ ⟨hi, hle, hst⟩; simp only [] at hi hle hst ⊢; replace hsl := hsl.mono hle; replace hkl := hkl.mono hle; replace hv := hv.mono hle; replace hty := hty.mono hle; replace hfr := hfr.mono hle; have hsl' := hst.len; rw [List.length_take, substL_len] at hsl')
 refine tS (tR (sB (pure_lss rfl rfl) rfl rfl (fun h327 => ?_) (fun h327 => ?_)))
 refine sD (nS (tS (qT rfl ?_)))
 refine tK (nS (tS (tri_block (tS (tR ?_)))))
 (have hil : i < ks.length := (by omega); obtain ⟨bx, ox, e, rfl, hl, hat, hre, hgb⟩ := hsl.kidTm hkl (i := i) (by omega) (by omega); have hel := hre.len; have heo := hre.one; refine sP (pIN (j := i) rfl rfl rfl (by omega)) rfl rfl ?_)
 refine sL (load_a rfl rfl (hat _) hl) rfl rfl ?_
 refine sE (step_alloc rfl) rfl (fun b340 => ?_)
 refine sS rfl rfl rfl hel heo rfl ?_ (hu := by exact upd_all hel.symm)
 refine sD (nS (tri_draw mixed rfl ?_))
 refine any_load (i := 2) (l' := [ff,ff,tt,ff,ff,ff,ff,ff,ff,ff]) rfl npI (load_a rfl rfl (at_blk_all (by repeat first | exact mH | apply mT)) hel) rfl (by kernel_rfl) rfl rfl ?_
 refine aL 4 rfl (load_a rfl rfl (at_blk_all (by repeat first | exact mH | apply mT)) hvl) rfl ?_
 refine aP 0 rfl (qF0 rfl) rfl ?_
 refine aL 1 rfl (lBs rfl rfl) rfl ?_
 refine aP 3 rfl (qM rfl) rfl ?_
 refine aO' 5 ?_
 (refine one_imm rfl rfl (ih ks[i] (List.getElem_mem (by omega)) Gi _ (Tm.smallL_mem hks _ (List.getElem_mem (by omega))) hre hv) rfl rfl rfl (fun u G1 hle1 hh => ?_); obtain ⟨uc, rfl, hru⟩ := hh; have hul := hru.len; have huo := hru.one; obtain ⟨v1, v2, v3, v4, v5, v6, v7, v8, v9, rfl⟩ := nine hul)
 refine aO' 6 ?_
 (refine one_step0 rfl (step_buildSlice rfl rfl rfl (by omega) (by unfold maxLen; omega) rfl) rfl rfl ?_; rintro _ ⟨b353, rfl⟩)
 refine aO' 7 ?_
 (refine one_append rfl rfl rfl rfl rfl rfl (fun _ _ => by repeat (first | exact Sw.here | apply Sw.there)) (at_slc_all (by repeat first | exact mH | apply mT)) rfl (fun u hu => List.all_eq_true.1 huo u hu) (by unfold maxLen; omega) (by omega) rfl rfl (by repeat (first | exact HmOk.nil | apply HmOk.dep (by decide +kernel) | apply HmOk.im (by decide +kernel) (by assumption) (by repeat first | exact mH | apply mT) | apply HmOk.blk (by decide +kernel) (by repeat (first | exact Pk.here | apply Pk.there)) (by repeat first | exact mH | apply mT))) (fun p7 c7 => ?_))
 refine aP 8 rfl (qF0 rfl) rfl ?_
 refine aO' 9 ?_
 refine one_store rfl rfl rfl rfl rfl rfl rfl rfl (by decide +kernel) (by repeat first | exact Sw.here | apply Sw.there) (by rfl) ?_
 refine aD' ?_
 refine nrm_block (nS (tR (sP (pure_add rfl rfl (by omega) (by omega)) rfl rfl ?_)))
 refine sQ (qM rfl) rfl (sD (nrm_loopN (i + 1, p7, c7, es' ++ [[v1, v2, v3, v4, v5, v6, v7, v8, v9]], G1) ?_ ?_ ?_))
 (simp only [flat_snoc]; exact sMk)
 (dsimp only; exact ⟨by omega, hle.trans hle1, by rw [substL_take (by omega)]; exact RTmL.snoc (hst.mono hle1) hru⟩)
 (show ks.length - (i + 1) < ks.length - i; omega)
 refine sD (nS (tS (cF rfl ?_)))
 refine tri_exit ?_
 refine ext_seq ?_
 refine ext_loopN ?_
 refine ext_block_eq ?_
 refine nS (tS (tR (sL (lBa rfl rfl) rfl rfl ?_)))
 refine sS' ?_
 refine sD (nS ?_)
 (refine ret_freeze (cs := es'.flatten) (by repeat (first | exact Pk.here | apply Pk.there)) (fun G2 hle2 hsl2 hno2 => ?_); obtain rfl : i = ks.length := (by omega))
 refine tT (rF1 (rC rfl (lBa rfl rfl)) ?_)
 (rw [if_neg (by rintro ⟨h1, h2⟩; first | omega | contradiction), if_neg (by rintro ⟨h1, h2⟩; first | omega | contradiction)]; rw [List.take_of_length_le (by rw [substL_len]; omega)] at hst; exact TmP.mk (RTm.put hk hnum hlb (hty.mono hle2) (hfr.mono hle2) (by rw [substL_len]) (SlE.of hsl2 (by omega) hst.all (fun e he => (hst.each e he).2)) (hst.mono hle2)))
theorem casted_fn (e : Tm) (a b : Ty) (l : Int) (G : IM) (ce ca cb : List Value) (hl : I64 l) (he : RTm G e ce) (ha : RTy G a ca) (hb : RTy G b cb) : Fn Tryz.prog 170 [.agg ⟨ce⟩, .agg ⟨ca⟩, .agg ⟨cb⟩, .int .i64 l] [] G (TmP (mCst e a b l)) := by
 have hel := he.len
 have heo := he.one
 obtain ⟨v1, v2, v3, v4, v5, v6, v7, v8, v9, rfl⟩ := nine hel
 obtain ⟨ak, aks⟩ := a
 obtain ⟨bk, bks⟩ := b
 obtain ⟨pa, cca, ea, rfl, _⟩ := ha.open
 obtain ⟨pb, ccb, eb, rfl, _⟩ := hb.open
 refine fn_enter Tryz.func170 rfl Tryz.ntmps170 Tryz.results170 rfl ?_
 intro w0
 refine tS (tR ?_)
 refine sE (step_box_a rfl rfl) rfl (fun b3 => ?_)
 refine sE (step_box_a rfl rfl) rfl (fun b4 => ?_)
 refine sE (step_box_a rfl rfl) rfl (fun b5 => ?_)
 refine sE (step_alloc rfl) rfl (fun b6 => ?_)
 refine sD (nS (tS (tR (sL (load_a rfl rfl (at_blk_all (by repeat first | exact mH | apply mT)) rfl) rfl rfl ?_))))
 refine sL (load_a rfl rfl (at_blk_all (by repeat first | exact mH | apply mT)) rfl) rfl rfl ?_
 refine sQ (qM rfl) rfl (sL (load_a rfl rfl (at_blk_all (by repeat first | exact mH | apply mT)) rfl) rfl rfl ?_)
 (refine seq_step (step_buildSlice rfl rfl rfl (by omega) (by unfold maxLen; omega) rfl) rfl ?_; rintro _ ⟨b15, rfl⟩)
 refine sQ (pBd rfl rfl) rfl (sS' ?_)
 refine sD (nS ?_)
 (refine ret_freeze (cs := [v1, v2, v3, v4, v5, v6, v7, v8, v9]) (by repeat (first | exact Pk.here | apply Pk.there)) (fun G2 hle2 hsl2 hno2 => ?_))
 refine tT (rF1 (rC rfl (lBa rfl rfl)) ?_)
 (exact TmP.mk (RTm.put (us := [e]) (es := [[v1, v2, v3, v4, v5, v6, v7, v8, v9]]) ⟨by decide, by decide⟩ ⟨by decide, by decide⟩ hl (hb.mono hle2) (ha.mono hle2) rfl (SlE.of hsl2 rfl (by intro x hx; obtain rfl := List.mem_singleton.1 hx; rfl) (by intro x hx; obtain rfl := List.mem_singleton.1 hx; exact heo)) (by simp only [RTmL]; exact ⟨_, _, rfl, he.mono hle2, rfl⟩)))
theorem node_fn (k : Int) (p : Option Addr) (n c : Nat) (G : IM) : Fn Tryz.prog 171 [.int .i64 k, .slice p n c] [] G (Val (.agg ⟨[.int .i64 k, .string ⟨⟨[]⟩⟩, .int .i64 0, .int .i64 0, .slice none 0 0, .int .i64 0, .slice none 0 0, .int .i64 0, .slice p n c]⟩) G) := by
 refine fn_enter Tryz.func171 rfl Tryz.ntmps171 Tryz.results171 rfl ?_
 intro w0
 refine tS (tR ?_)
 refine sE (step_alloc rfl) rfl (fun b3 => ?_)
 refine sD (nS (tS (tR (sQ (qM rfl) rfl (sQ (qM rfl) rfl (sQ (pBd rfl rfl) rfl ?_))))))
 refine sS' ?_
 refine sD (nS (tT (rF1 (rC rfl (lBa rfl rfl)) ?_)))
 (exact ⟨rfl, rfl, rfl⟩)
theorem rtm_leaf (G : IM) {k : Int} (hk : I64 k) : RTm G (mNod k []) [.int .i64 k, .string ⟨⟨[]⟩⟩, .int .i64 0, .int .i64 0, .slice none 0 0, .int .i64 0, .slice none 0 0, .int .i64 0, .slice none 0 0] := rtm_nod hk rfl (SlE.nil _ _) rfl
theorem truthT_fn (G : IM) : Fn Tryz.prog 169 [.bool true] [] G (TmP (mTru (true = true))) := by
 refine fn_enter Tryz.func169 rfl Tryz.ntmps169 Tryz.results169 rfl ?_
 intro w0
 refine tS (tR ?_)
 refine sE (step_alloc rfl) rfl (fun b3 => ?_)
 refine sD (nS (tS (tS (tR (sQ (qM rfl) rfl (sD ?_))))))
 refine nS (qT rfl ?_)
 refine tS (tR (seq_val rfl ((node_fn _ _ _ _ _)) rfl rfl ?_))
 refine sS' ?_
 refine sD (nS (tT (rS (rF1 (rC rfl (lBa rfl rfl)) ?_))))
 (exact TmP.mk (rtm_leaf _ ⟨by decide, by decide⟩))
theorem truthF_fn (G : IM) : Fn Tryz.prog 169 [.bool false] [] G (TmP (mTru (false = true))) := by
 refine fn_enter Tryz.func169 rfl Tryz.ntmps169 Tryz.results169 rfl ?_
 intro w0
 refine tS (tR ?_)
 refine sE (step_alloc rfl) rfl (fun b3 => ?_)
 refine sD (nS (tS (tS (tR (sQ (qM rfl) rfl (sD ?_))))))
 refine nS (cF rfl ?_)
 refine tK (nS (tS (tR (seq_val rfl ((node_fn _ _ _ _ _)) rfl rfl ?_))))
 refine sS' ?_
 refine sD (nS (tT (rF1 (rC rfl (lBa rfl rfl)) ?_)))
 (exact TmP.mk (rtm_leaf _ ⟨by decide, by decide⟩))
theorem truth_fn (b : Bool) (G : IM) : Fn Tryz.prog 169 [.bool b] [] G (TmP (mTru (b = true))) := by
 cases b
 ·exact truthF_fn G
 ·exact truthT_fn G
/-- The step of a node by the rules that casts have no part in. -/
theorem tmod_1000' {a b : Int} (h : 0 ≤ a ∧ a ≤ 999) (h' : 0 ≤ b ∧ b ≤ 999) : (a + b).tmod 1000 = (a + b) % 1000 := by
 rw [Int.tmod_eq_emod_of_nonneg (by omega)]
def mRule (k : Int) (ks : List Tm) : Option Tm :=
 if k = 6 then (if (kd ks 0).k = 5 then some (mSubst (kd ks 0).nm (kd ks 1) (kd (kd ks 0).ks 0)) else none)
 else if k = 7 ∨ k = 8 then (if (kd ks 0).k = 2 ∧ (kd ks 1).k = 2 then some (if k = 7 then mNum (((kd ks 0).num + (kd ks 1).num) % 1000) else mTru ((kd ks 0).num < (kd ks 1).num)) else none)
 else if k = 9 then (if (kd ks 0).k = 3 then some (kd ks 1) else if (kd ks 0).k = 4 then some (kd ks 2) else none)
 else if k = 11 ∨ k = 12 then (if (kd ks 0).k = 10 then some (kd (kd ks 0).ks (k - 11).toNat) else none)
 else none
def RulP (o : Option Tm) : IM → Value → List Ent → Prop := Imm fun G' v => ∃ u cells c, v = .tuple ⟨[.agg ⟨cells⟩, .int .i64 c]⟩ ∧ RTm G' u cells ∧ (∀ x, o = some x → c = 1 ∧ u = x) ∧ (o = none → c = 3)
theorem RulP.yes {G : IM} {o : Option Tm} {u : Tm} {cells : List Value} (h : o = some u) (hr : RTm G u cells) : RulP o G (.tuple ⟨[.agg ⟨cells⟩, .int .i64 1]⟩) [] := by
 subst h; exact ⟨rfl, u, cells, 1, rfl, hr, fun x hx => (by cases hx; exact ⟨rfl, rfl⟩), fun h => (by cases h)⟩
theorem RulP.no {G : IM} {o : Option Tm} {u : Tm} {cells : List Value} (h : o = none) (hr : RTm G u cells) : RulP o G (.tuple ⟨[.agg ⟨cells⟩, .int .i64 3]⟩) [] := by
 subst h; exact ⟨rfl, u, cells, 3, rfl, hr, fun x hx => (by cases hx), fun _ => rfl⟩
theorem tm0_r (G : IM) : RTm G tm0 [.int .i64 0, .string ⟨⟨[]⟩⟩, .int .i64 0, .int .i64 0, .slice none 0 0, .int .i64 0, .slice none 0 0, .int .i64 0, .slice none 0 0] := (STm.zero G).R
theorem rule6_fn (a b : Tm) (nm : ByteArray) (num : Int) (ty fr : Ty) (lb : Int) (G : IM) (cells : List Value) (hca : cv a) (hr : RTm G (.mk 6 nm num ty fr lb [a, b]) cells) : Fn Tryz.prog 143 [.agg ⟨cells⟩] [] G (RulP (mRule 6 [a, b])) := by
 have hsm := cv_small a hca
 obtain ⟨ak, anm, anum, ⟨atk, atks⟩, ⟨afk, afks⟩, alb, aks⟩ := a
 obtain ⟨tk, tks⟩ := ty
 obtain ⟨fk, fks⟩ := fr
 obtain ⟨pt, ct, pf, cf, p, c, es, rfl, hk, hnum, hlb, hty, hfr, hsl, hkl⟩ := hr.open9
 obtain ⟨bx, ox, e0, rfl, hl0, hat0, hre0, hgb0⟩ := hsl.kidTm hkl (i := 0) (by simp) (by simp)
 replace hre0 : RTm G (.mk ak anm anum (.mk atk atks) (.mk afk afks) alb aks) e0 := hre0
 obtain ⟨apt, act, apf, acf, ap, ac, aes, rfl, hak, hanum, halb, haty, hafr, hasl, hakl⟩ := hre0.open9
 obtain ⟨_, _, e1, hp1, hl1, hat1, hre1, hgb1⟩ := hsl.kidTm hkl (i := 1) (by simp) (by simp)
 cases hp1
 replace hre1 : RTm G b e1 := hre1
 have ho1 := hre1.one
 obtain ⟨hN, _⟩ := hca.node
 have hops := hN.ops
 obtain ⟨_, _, _, _, hksm⟩ := small_mk.1 hsm
 have h1 : ak = 5 → aks.length = 1 := fun h => by rw [h] at hops; have : tmOps 5 = 1 := rfl; omega
 have hL : ([Tm.mk ak anm anum (.mk atk atks) (.mk afk afks) alb aks, b] : List Tm).length = 2 := rfl
 rw [show mRule 6 [Tm.mk ak anm anum (.mk atk atks) (.mk afk afks) alb aks, b] = (if ak = 5 then some (mSubst anm b (kd aks 0)) else none) from rfl]
 refine fn_enter Tryz.func143 rfl Tryz.ntmps143 Tryz.results143 rfl ?_
 intro w0
 refine tS (tR ?_)
 refine sE (step_box_a rfl rfl) rfl (fun b3 => ?_)
 refine sE (step_alloc rfl) rfl (fun b4 => ?_)
 refine sQ (qA rfl) rfl (sD (nS (tS (tR (sQ (pBd rfl rfl) rfl ?_)))))
 refine sE (step_alloc rfl) rfl (fun b11 => ?_)
 refine sS' ?_
 refine sD (nS (tS (tS (tR (sQ (qF0 rfl) rfl (sL (lBs rfl rfl) rfl rfl ?_))))))
 refine sQ (pLn rfl rfl) rfl (sP (pure_gtr_t rfl rfl (by omega)) rfl rfl ?_)
 refine sD (nS (qT rfl ?_))
 refine tR (sQ (qF0 rfl) rfl (sL (lBs rfl rfl) rfl rfl ?_))
 refine sP (pIN (j := 0) rfl rfl rfl (by simp)) rfl rfl ?_
 refine sL (load_a rfl rfl (hat0 _) rfl) rfl rfl ?_
 refine sS' ?_
 refine sD (nS (tS (tS (tR (sQ (qF0 rfl) rfl (sL (lBs rfl rfl) rfl rfl ?_))))))
 refine sD (nS (tri_block (tS (tR (sP (pure_eql_t rfl rfl (by omega)) rfl rfl ?_)))))
 refine sQ (qA rfl) rfl (sD (nS (qT rfl ?_)))
 refine tS (tR (sQ (qF0 rfl) rfl (sL (lBs rfl rfl) rfl rfl ?_)))
 refine sB (qE rfl rfl) rfl rfl (fun h52 => ?_) (fun h52 => ?_)
 refine sD (nS (qT rfl ?_))
 refine tS ?_
 (have hq : ak = 5 := (by omega); have hq1 := h1 hq; obtain ⟨bq, oq, e3, rfl, hl3, hat3, hre3, hgb3⟩ := hasl.kidTm hakl (i := 0) (by omega) (by omega); have hS := subst_fn anm b e1 aks[0] G e3 (Tm.smallL_mem hksm _ (List.getElem_mem (by omega))) hre3 hre1; refine tri_draw mixed rfl ?_)
 refine any_pure (i := 0) (l' := [tt,ff,ff,ff,ff,ff,ff,ff,ff,ff,ff,ff,ff]) rfl npI (qF0 rfl) rfl (by kernel_rfl) rfl rfl ?_
 refine aL 1 rfl (lBs rfl rfl) rfl ?_
 refine aP 2 rfl (pIN (j := 0) rfl rfl rfl (by omega)) rfl ?_
 refine aL 3 rfl (load_a rfl rfl (hat3 _) hl3) rfl ?_
 refine aP 4 rfl (qF0 rfl) rfl ?_
 refine aL 5 rfl (lBs rfl rfl) rfl ?_
 refine aP 6 rfl (qF0 rfl) rfl ?_
 refine aL 7 rfl (lBs rfl rfl) rfl ?_
 refine aP 8 rfl (pIN (j := 1) rfl rfl rfl (by simp)) rfl ?_
 refine aL 9 rfl (load_a rfl rfl (hat1 _) hl1) rfl ?_
 refine aO' 10 ?_
 (refine one_imm rfl rfl hS rfl rfl rfl (fun u G1 hle1 hh => ?_); obtain ⟨uc, rfl, hru⟩ := hh; have hul := hru.len; have huo := hru.one)
 refine aO' 11 ?_
 (refine oS rfl rfl rfl rfl hul huo rfl rfl ?_ (hu := by exact upd_all hul.symm))
 refine aP 12 rfl (qA rfl) rfl ?_
 refine aD' ?_
 refine nS (tT (rB (rS (rF2 (rC rfl (load_a rfl rfl (at_blk_all (by repeat first | exact mH | apply mT)) hul)) (rT rfl) ?_))))
 (exact RulP.yes (by rw [if_pos (by omega)]; unfold kd; rw [List.getD_eq_getElem?_getD, List.getElem?_eq_getElem (by omega), Option.getD_some]) hru)
 refine sD (nS (cF rfl ?_))
 refine tK (nrm_block (nS (tS (tR (sQ (pBd rfl rfl) rfl (sS' ?_))))))
 refine sQ (qA rfl) rfl (sD (nS (tT (rF2 (rC rfl (lBa rfl rfl)) (rT rfl) ?_))))
 (exact RulP.no (by rw [if_neg (by omega)]) (tm0_r _))
theorem rule78_fn (k : Int) (a b : Tm) (nm : ByteArray) (num : Int) (ty fr : Ty) (lb : Int) (G : IM) (cells : List Value) (hk78 : k = 7 ∨ k = 8) (hca : cv a) (hcb : cv b) (hr : RTm G (.mk k nm num ty fr lb [a, b]) cells) : Fn Tryz.prog 143 [.agg ⟨cells⟩] [] G (RulP (mRule k [a, b])) := by
 obtain ⟨ak, anm, anum, ⟨atk, atks⟩, ⟨afk, afks⟩, alb, aks⟩ := a
 obtain ⟨tk, tks⟩ := ty
 obtain ⟨fk, fks⟩ := fr
 obtain ⟨pt, ct, pf, cf, p, c, es, rfl, hk, hnum, hlb, hty, hfr, hsl, hkl⟩ := hr.open9
 obtain ⟨bx, ox, e0, rfl, hl0, hat0, hre0, hgb0⟩ := hsl.kidTm hkl (i := 0) (by simp) (by simp)
 replace hre0 : RTm G (.mk ak anm anum (.mk atk atks) (.mk afk afks) alb aks) e0 := hre0
 obtain ⟨apt, act, apf, acf, ap, ac, aes, rfl, hak, hanum, halb, haty, hafr, hasl, hakl⟩ := hre0.open9
 obtain ⟨bk, bnm, bnum, ⟨btk, btks⟩, ⟨bfk, bfks⟩, blb, bks⟩ := b
 obtain ⟨_, _, e1, hp1, hl1, hat1, hre1, hgb1⟩ := hsl.kidTm hkl (i := 1) (by simp) (by simp)
 cases hp1
 replace hre1 : RTm G (.mk bk bnm bnum (.mk btk btks) (.mk bfk bfks) blb bks) e1 := hre1
 obtain ⟨bpt, bct, bpf, bcf, bp, bc, bes, rfl, hbk, hbnum, hblb, hbty, hbfr, hbsl, hbkl⟩ := hre1.open9
 obtain ⟨hN, _⟩ := hca.node
 obtain ⟨hM, _⟩ := hcb.node
 obtain ⟨hn1, hn2⟩ := hN.num0
 obtain ⟨hm1, hm2⟩ := hM.num0
 have hL : ([Tm.mk ak anm anum (.mk atk atks) (.mk afk afks) alb aks, Tm.mk bk bnm bnum (.mk btk btks) (.mk bfk bfks) blb bks] : List Tm).length = 2 := rfl
 have hR : mRule k [Tm.mk ak anm anum (.mk atk atks) (.mk afk afks) alb aks, Tm.mk bk bnm bnum (.mk btk btks) (.mk bfk bfks) blb bks] = (if ak = 2 ∧ bk = 2 then some (if k = 7 then mNum ((anum + bnum) % 1000) else mTru (anum < bnum)) else none) := by
  unfold mRule; rw [if_neg (by omega), if_pos hk78]; rfl
 rw [hR]
 have htm : (anum + bnum).tmod 1000 = (anum + bnum) % 1000 := tmod_1000' ⟨hn1, hn2⟩ ⟨hm1, hm2⟩
 have hb : I64 ((anum + bnum) % 1000) := ⟨by omega, by omega⟩
 refine fn_enter Tryz.func143 rfl Tryz.ntmps143 Tryz.results143 rfl ?_
 intro w0
 refine tS (tR ?_)
 refine sE (step_box_a rfl rfl) rfl (fun b3 => ?_)
 refine sE (step_alloc rfl) rfl (fun b4 => ?_)
 refine sQ (qA rfl) rfl (sD (nS (tS (tR (sQ (pBd rfl rfl) rfl ?_)))))
 refine sE (step_alloc rfl) rfl (fun b11 => ?_)
 refine sS' ?_
 refine sD (nS (tS (tS (tR (sQ (qF0 rfl) rfl (sL (lBs rfl rfl) rfl rfl ?_))))))
 refine sQ (pLn rfl rfl) rfl (sP (pure_gtr_t rfl rfl (by omega)) rfl rfl ?_)
 refine sD (nS (qT rfl ?_))
 refine tR (sQ (qF0 rfl) rfl (sL (lBs rfl rfl) rfl rfl ?_))
 refine sP (pIN (j := 0) rfl rfl rfl (by simp)) rfl rfl ?_
 refine sL (load_a rfl rfl (hat0 _) rfl) rfl rfl ?_
 refine sS' ?_
 refine sD (nS (tS (tS (tR (sQ (qF0 rfl) rfl (sL (lBs rfl rfl) rfl rfl ?_))))))
 refine sD (nS (tri_block (tS (tR (sP (pure_eql_f rfl rfl (by omega)) rfl rfl ?_)))))
 refine sQ (qA rfl) rfl (sD (nS (cF rfl ?_)))
 refine tS (tS (tR (sB (qE rfl rfl) rfl rfl (fun h51 => ?_) (fun h51 => ?_))))
 refine sQ (qA rfl) rfl (sD (nS (qT rfl ?_)))
 refine tK (nS (qT rfl ?_))
 refine tS (tR (sQ (qF0 rfl) rfl (sL (lBs rfl rfl) rfl rfl ?_)))
 refine sP (pIN (j := 1) rfl rfl rfl (by simp)) rfl rfl ?_
 refine sL (load_a rfl rfl (hat1 _) rfl) rfl rfl ?_
 refine sE (step_alloc rfl) rfl (fun b65 => ?_)
 refine sS' ?_
 refine sD (nS (tri_block (tS (tR (sQ (qF0 rfl) rfl (sL (lBs rfl rfl) rfl rfl ?_))))))
 refine sB (pure_neq rfl rfl) rfl rfl (fun h74 => ?_) (fun h74 => ?_)
 refine sQ (qM rfl) rfl (sK rfl rfl (sK rfl rfl (sK rfl rfl (sQ (pPt rfl rfl) rfl (sQ (qA rfl) rfl (sD ?_))))))
 refine nS (qT rfl ?_)
 refine tK (nrm_block (nrm_block (nS (tS (tR (sQ (pBd rfl rfl) rfl ?_))))))
 refine sS' ?_
 refine sQ (qA rfl) rfl (sD (nS (tT (rF2 (rC rfl (lBa rfl rfl)) (rT rfl) ?_))))
 (exact RulP.no (by rw [if_neg (by omega)]) (tm0_r _))
 refine sQ (qM rfl) rfl (sQ (qF0 rfl) rfl (sL (lBs rfl rfl) rfl rfl ?_))
 refine sB (pure_neq rfl rfl) rfl rfl (fun h101 => ?_) (fun h101 => ?_)
 refine sQ (pPf rfl rfl) rfl (sQ (qA rfl) rfl (sD (nS (qT rfl ?_))))
 refine tK (nrm_block (nrm_block (nS (tS (tR (sQ (pBd rfl rfl) rfl ?_))))))
 refine sS' ?_
 refine sQ (qA rfl) rfl (sD (nS (tT (rF2 (rC rfl (lBa rfl rfl)) (rT rfl) ?_))))
 (exact RulP.no (by rw [if_neg (by omega)]) (tm0_r _))
 refine sQ (pPf rfl rfl) rfl (sQ (qA rfl) rfl (sD (nS (cF rfl ?_))))
 refine tS (tR (sQ (qF0 rfl) rfl (sL (lBs rfl rfl) rfl rfl ?_)))
 refine sP (pure_eql_t rfl rfl (by omega)) rfl rfl ?_
 refine sQ (qA rfl) rfl (sD (nS (qT rfl ?_)))
 refine tS (tR (sQ (qF0 rfl) rfl (sL (lBs rfl rfl) rfl rfl ?_)))
 refine sQ (qF0 rfl) rfl (sL (lBs rfl rfl) rfl rfl ?_)
 refine sP (pure_add rfl rfl (by omega) (by omega)) rfl rfl ?_
 refine sP (pure_rem rfl rfl (by omega)) rfl rfl ?_
 refine sQ (pBd rfl rfl) rfl ?_
 (rw [htm]; refine sS' ?_)
 refine sQ (qA rfl) rfl (sD (nS (tT (rB (rB (rS ?_))))))
 refine rF2 (rC rfl (lBa rfl rfl)) (rT rfl) ?_
 (exact RulP.yes (u := mNum (HMod.hMod (anum + bnum) 1000)) (by rw [if_pos ⟨by omega, by omega⟩, if_pos (by omega)]) (RTm.put (us := []) ⟨by decide, by decide⟩ hb ⟨by decide, by decide⟩ (ty0_r _) (ty0_r _) rfl (SlE.nil _ _) rfl))
 refine sQ (qA rfl) rfl (sD (nS (cF rfl ?_)))
 refine tR (sP (pure_eql_t rfl rfl (by omega)) rfl rfl ?_)
 refine sQ (qA rfl) rfl (sD (nS (qT rfl ?_)))
 refine tS (tR (sQ (qF0 rfl) rfl (sL (lBs rfl rfl) rfl rfl ?_)))
 refine sP (pIN (j := 1) rfl rfl rfl (by simp)) rfl rfl ?_
 refine sL (load_a rfl rfl (hat1 _) rfl) rfl rfl ?_
 refine sE (step_alloc rfl) rfl (fun b170 => ?_)
 refine sS' ?_
 refine sD (nS (tri_block (tS (tR (sQ (qF0 rfl) rfl (sL (lBs rfl rfl) rfl rfl ?_))))))
 refine sB (pure_neq rfl rfl) rfl rfl (fun h179 => ?_) (fun h179 => ?_)
 refine sQ (qM rfl) rfl (sK rfl rfl (sK rfl rfl (sK rfl rfl (sQ (pPt rfl rfl) rfl (sQ (qA rfl) rfl (sD ?_))))))
 refine nS (qT rfl ?_)
 refine tK (nrm_block (nrm_block (nS (tS (tR (sQ (pBd rfl rfl) rfl ?_))))))
 refine sS' ?_
 refine sQ (qA rfl) rfl (sD (nS (tT (rF2 (rC rfl (lBa rfl rfl)) (rT rfl) ?_))))
 (exact RulP.no (by rw [if_neg (by omega)]) (tm0_r _))
 refine sQ (qM rfl) rfl (sQ (qF0 rfl) rfl (sL (lBs rfl rfl) rfl rfl ?_))
 refine sB (pure_neq rfl rfl) rfl rfl (fun h206 => ?_) (fun h206 => ?_)
 refine sQ (pPf rfl rfl) rfl (sQ (qA rfl) rfl (sD (nS (qT rfl ?_))))
 refine tK (nrm_block (nrm_block (nS (tS (tR (sQ (pBd rfl rfl) rfl ?_))))))
 refine sS' ?_
 refine sQ (qA rfl) rfl (sD (nS (tT (rF2 (rC rfl (lBa rfl rfl)) (rT rfl) ?_))))
 (exact RulP.no (by rw [if_neg (by omega)]) (tm0_r _))
 refine sQ (pPf rfl rfl) rfl (sQ (qA rfl) rfl (sD (nS (cF rfl ?_))))
 refine tS (tR (sQ (qF0 rfl) rfl (sL (lBs rfl rfl) rfl rfl ?_)))
 refine sP (pure_eql_f rfl rfl (by omega)) rfl rfl ?_
 refine sQ (qA rfl) rfl (sD (nS (cF rfl ?_)))
 refine tS (tR (sQ (qF0 rfl) rfl (sL (lBs rfl rfl) rfl rfl ?_)))
 refine sQ (qF0 rfl) rfl (sL (lBs rfl rfl) rfl rfl ?_)
 (refine sB (pure_lss rfl rfl) rfl rfl (fun h246 => ?_) (fun h246 => ?_))
 (refine seq_imm rfl (truth_fn _ _) rfl rfl (fun u G1 hle1 hh => ?_); obtain ⟨uc, rfl, hru⟩ := hh; have hul := hru.len; have huo := hru.one)
 refine sS rfl rfl rfl hul huo rfl ?_ (hu := by exact upd_all hul.symm)
 refine sQ (qA rfl) rfl (sD (nS (tT (rB (rB (rS ?_))))))
 refine rF2 (rC rfl (load_a rfl rfl (at_blk_all (by repeat first | exact mH | apply mT)) hul)) (rT rfl) ?_
 (exact RulP.yes (by rw [if_pos ⟨by omega, by omega⟩, if_neg (by omega)]; unfold mTru; rw [if_pos (by omega), if_pos rfl]) hru)
 (refine seq_imm rfl (truth_fn _ _) rfl rfl (fun u G1 hle1 hh => ?_); obtain ⟨uc, rfl, hru⟩ := hh; have hul := hru.len; have huo := hru.one)
 refine sS rfl rfl rfl hul huo rfl ?_ (hu := by exact upd_all hul.symm)
 refine sQ (qA rfl) rfl (sD (nS (tT (rB (rB (rS ?_))))))
 refine rF2 (rC rfl (load_a rfl rfl (at_blk_all (by repeat first | exact mH | apply mT)) hul)) (rT rfl) ?_
 (exact RulP.yes (by rw [if_pos ⟨by omega, by omega⟩, if_neg (by omega)]; unfold mTru; rw [if_neg (by omega), if_neg (by decide)]) hru)
theorem rule9_fn (a b c0 : Tm) (nm : ByteArray) (num : Int) (ty fr : Ty) (lb : Int) (G : IM) (cells : List Value) (hr : RTm G (.mk 9 nm num ty fr lb [a, b, c0]) cells) : Fn Tryz.prog 143 [.agg ⟨cells⟩] [] G (RulP (mRule 9 [a, b, c0])) := by
 obtain ⟨ak, anm, anum, ⟨atk, atks⟩, ⟨afk, afks⟩, alb, aks⟩ := a
 obtain ⟨tk, tks⟩ := ty
 obtain ⟨fk, fks⟩ := fr
 obtain ⟨pt, ct, pf, cf, p, c, es, rfl, hk, hnum, hlb, hty, hfr, hsl, hkl⟩ := hr.open9
 obtain ⟨bx, ox, e0, rfl, hl0, hat0, hre0, hgb0⟩ := hsl.kidTm hkl (i := 0) (by simp) (by simp)
 replace hre0 : RTm G (.mk ak anm anum (.mk atk atks) (.mk afk afks) alb aks) e0 := hre0
 obtain ⟨apt, act, apf, acf, ap, ac, aes, rfl, hak, hanum, halb, haty, hafr, hasl, hakl⟩ := hre0.open9
 obtain ⟨_, _, e1, hp1, hl1, hat1, hre1, hgb1⟩ := hsl.kidTm hkl (i := 1) (by simp) (by simp)
 cases hp1
 replace hre1 : RTm G b e1 := hre1
 have ho1 := hre1.one
 obtain ⟨_, _, e2, hp2, hl2, hat2, hre2, hgb2⟩ := hsl.kidTm hkl (i := 2) (by simp) (by simp)
 cases hp2
 replace hre2 : RTm G c0 e2 := hre2
 have ho2 := hre2.one
 have hL : ([Tm.mk ak anm anum (.mk atk atks) (.mk afk afks) alb aks, b, c0] : List Tm).length = 3 := rfl
 rw [show mRule 9 [Tm.mk ak anm anum (.mk atk atks) (.mk afk afks) alb aks, b, c0] = (if ak = 3 then some b else if ak = 4 then some c0 else none) from rfl]
 refine fn_enter Tryz.func143 rfl Tryz.ntmps143 Tryz.results143 rfl ?_
 intro w0
 refine tS (tR ?_)
 refine sE (step_box_a rfl rfl) rfl (fun b3 => ?_)
 refine sE (step_alloc rfl) rfl (fun b4 => ?_)
 refine sQ (qA rfl) rfl (sD (nS (tS (tR (sQ (pBd rfl rfl) rfl ?_)))))
 refine sE (step_alloc rfl) rfl (fun b11 => ?_)
 refine sS' ?_
 refine sD (nS (tS (tS (tR (sQ (qF0 rfl) rfl (sL (lBs rfl rfl) rfl rfl ?_))))))
 refine sQ (pLn rfl rfl) rfl (sP (pure_gtr_t rfl rfl (by omega)) rfl rfl ?_)
 refine sD (nS (qT rfl ?_))
 refine tR (sQ (qF0 rfl) rfl (sL (lBs rfl rfl) rfl rfl ?_))
 refine sP (pIN (j := 0) rfl rfl rfl (by simp)) rfl rfl ?_
 refine sL (load_a rfl rfl (hat0 _) rfl) rfl rfl ?_
 refine sS' ?_
 refine sD (nS (tS (tS (tR (sQ (qF0 rfl) rfl (sL (lBs rfl rfl) rfl rfl ?_))))))
 refine sD (nS (tri_block (tS (tR (sP (pure_eql_f rfl rfl (by omega)) rfl rfl ?_)))))
 refine sQ (qA rfl) rfl (sD (nS (cF rfl ?_)))
 refine tS (tS (tR (sP (pure_eql_f rfl rfl (by omega)) rfl rfl ?_)))
 refine sQ (qA rfl) rfl (sD (nS (cF rfl ?_)))
 refine tR (sP (pure_eql_f rfl rfl (by omega)) rfl rfl ?_)
 refine sQ (qA rfl) rfl (sD (nS (cF rfl ?_)))
 refine tS (tR (sP (pure_eql_t rfl rfl (by omega)) rfl rfl ?_))
 refine sQ (qA rfl) rfl (sD (nS (qT rfl ?_)))
 refine tS (tR (sQ (qF0 rfl) rfl (sL (lBs rfl rfl) rfl rfl ?_)))
 refine sD (nS (tri_block (tS (tR (sB (qE rfl rfl) rfl rfl (fun h78 => ?_) (fun h78 => ?_))))))
 refine sQ (qA rfl) rfl (sD (nS (qT rfl ?_)))
 refine tS (tR (sQ (qF0 rfl) rfl (sL (lBs rfl rfl) rfl rfl ?_)))
 refine sP (pIN (j := 1) rfl rfl rfl (by simp)) rfl rfl ?_
 refine sL (load_a rfl rfl (hat1 _) hl1) rfl rfl ?_
 refine sS rfl rfl rfl hl1 ho1 rfl ?_ (hu := by exact upd_all hl1.symm)
 refine sQ (qA rfl) rfl (sD (nS (tT (rB (rB (rS ?_))))))
 refine rF2 (rC rfl (load_a rfl rfl (at_blk_all (by repeat first | exact mH | apply mT)) hl1)) (rT rfl) ?_
 (exact RulP.yes (by rw [if_pos (by omega)]) hre1)
 refine sQ (qA rfl) rfl (sD (nS (cF rfl ?_)))
 refine tS (tR (sB (qE rfl rfl) rfl rfl (fun h105 => ?_) (fun h105 => ?_)))
 refine sQ (qA rfl) rfl (sD (nS (qT rfl ?_)))
 refine tS (tR (sQ (qF0 rfl) rfl (sL (lBs rfl rfl) rfl rfl ?_)))
 refine sP (pIN (j := 2) rfl rfl rfl (by simp)) rfl rfl ?_
 refine sL (load_a rfl rfl (hat2 _) hl2) rfl rfl ?_
 refine sS rfl rfl rfl hl2 ho2 rfl ?_ (hu := by exact upd_all hl2.symm)
 refine sQ (qA rfl) rfl (sD (nS (tT (rB (rB (rS ?_))))))
 refine rF2 (rC rfl (load_a rfl rfl (at_blk_all (by repeat first | exact mH | apply mT)) hl2)) (rT rfl) ?_
 (exact RulP.yes (by rw [if_neg (by omega), if_pos (by omega)]) hre2)
 refine sQ (qA rfl) rfl (sD (nS (cF rfl ?_)))
 refine tK (nrm_block (nrm_block (nS (tS (tR (sQ (pBd rfl rfl) rfl ?_))))))
 refine sS' ?_
 refine sQ (qA rfl) rfl (sD (nS (tT (rF2 (rC rfl (lBa rfl rfl)) (rT rfl) ?_))))
 (exact RulP.no (by rw [if_neg (by omega), if_neg (by omega)]) (tm0_r _))
theorem rule11_fn (k : Int) (a : Tm) (nm : ByteArray) (num : Int) (ty fr : Ty) (lb : Int) (G : IM) (cells : List Value) (hk1 : k = 11 ∨ k = 12) (hca : cv a) (hr : RTm G (.mk k nm num ty fr lb [a]) cells) : Fn Tryz.prog 143 [.agg ⟨cells⟩] [] G (RulP (mRule k [a])) := by
 obtain ⟨ak, anm, anum, ⟨atk, atks⟩, ⟨afk, afks⟩, alb, aks⟩ := a
 obtain ⟨tk, tks⟩ := ty
 obtain ⟨fk, fks⟩ := fr
 obtain ⟨pt, ct, pf, cf, p, c, es, rfl, hk, hnum, hlb, hty, hfr, hsl, hkl⟩ := hr.open9
 obtain ⟨bx, ox, e0, rfl, hl0, hat0, hre0, hgb0⟩ := hsl.kidTm hkl (i := 0) (by simp) (by simp)
 replace hre0 : RTm G (.mk ak anm anum (.mk atk atks) (.mk afk afks) alb aks) e0 := hre0
 obtain ⟨apt, act, apf, acf, ap, ac, aes, rfl, hak, hanum, halb, haty, hafr, hasl, hakl⟩ := hre0.open9
 obtain ⟨hN, _⟩ := hca.node
 have hops := hN.ops
 have h2 : ak = 10 → aks.length = 2 := fun h => by rw [h] at hops; have : tmOps 10 = 2 := rfl; omega
 have hL : ([Tm.mk ak anm anum (.mk atk atks) (.mk afk afks) alb aks] : List Tm).length = 1 := rfl
 have hR : mRule k [Tm.mk ak anm anum (.mk atk atks) (.mk afk afks) alb aks] = (if ak = 10 then some (kd aks (k - 11).toNat) else none) := by
  unfold mRule; rw [if_neg (by omega), if_neg (by omega), if_neg (by omega), if_pos hk1]; rfl
 rw [hR]
 obtain ⟨i, hi⟩ : ∃ i : Nat, (k - 11).toNat = i := ⟨_, rfl⟩
 rw [hi]
 refine fn_enter Tryz.func143 rfl Tryz.ntmps143 Tryz.results143 rfl ?_
 intro w0
 refine tS (tR ?_)
 refine sE (step_box_a rfl rfl) rfl (fun b3 => ?_)
 refine sE (step_alloc rfl) rfl (fun b4 => ?_)
 refine sQ (qA rfl) rfl (sD (nS (tS (tR (sQ (pBd rfl rfl) rfl ?_)))))
 refine sE (step_alloc rfl) rfl (fun b11 => ?_)
 refine sS' ?_
 refine sD (nS (tS (tS (tR (sQ (qF0 rfl) rfl (sL (lBs rfl rfl) rfl rfl ?_))))))
 refine sQ (pLn rfl rfl) rfl (sP (pure_gtr_t rfl rfl (by omega)) rfl rfl ?_)
 refine sD (nS (qT rfl ?_))
 refine tR (sQ (qF0 rfl) rfl (sL (lBs rfl rfl) rfl rfl ?_))
 refine sP (pIN (j := 0) rfl rfl rfl (by simp)) rfl rfl ?_
 refine sL (load_a rfl rfl (hat0 _) rfl) rfl rfl ?_
 refine sS' ?_
 refine sD (nS (tS (tS (tR (sQ (qF0 rfl) rfl (sL (lBs rfl rfl) rfl rfl ?_))))))
 refine sD (nS (tri_block (tS (tR (sP (pure_eql_f rfl rfl (by omega)) rfl rfl ?_)))))
 refine sQ (qA rfl) rfl (sD (nS (cF rfl ?_)))
 refine tS (tS (tR (sP (pure_eql_f rfl rfl (by omega)) rfl rfl ?_)))
 refine sQ (qA rfl) rfl (sD (nS (cF rfl ?_)))
 refine tR (sP (pure_eql_f rfl rfl (by omega)) rfl rfl ?_)
 refine sQ (qA rfl) rfl (sD (nS (cF rfl ?_)))
 refine tS (tR (sP (pure_eql_f rfl rfl (by omega)) rfl rfl ?_))
 refine sQ (qA rfl) rfl (sD (nS (cF rfl ?_)))
 refine tS (tS (tR (sB (qE rfl rfl) rfl rfl (fun h72 => ?_) (fun h72 => ?_))))
 refine sQ (qA rfl) rfl (sD (nS (qT rfl ?_)))
 refine tK (nS (qT rfl ?_))
 refine tS (tR (sQ (qF0 rfl) rfl (sL (lBs rfl rfl) rfl rfl ?_)))
 refine sB (qE rfl rfl) rfl rfl (fun h84 => ?_) (fun h84 => ?_)
 refine sD (nS (qT rfl ?_))
 refine tS ?_
 (have hq : ak = 10 := (by omega); have hq1 := h2 hq; obtain ⟨bq, oq, e3, rfl, hl3, hat3, hre3, hgb3⟩ := hasl.kidTm hakl (i := i) (by omega) (by omega); have ho3 := hre3.one)
 refine tR (sQ (qF0 rfl) rfl (sL (lBs rfl rfl) rfl rfl ?_))
 refine sQ (qF0 rfl) rfl (sL (lBs rfl rfl) rfl rfl ?_)
 refine sP (pure_sub rfl rfl (by omega) (by omega)) rfl rfl ?_
 (rw [show (k - 11 : Int) = ((i : Nat) : Int) from (by omega)]; refine sP (pIN (j := i) rfl rfl rfl (by omega)) rfl rfl ?_)
 refine sL (load_a rfl rfl (hat3 _) hl3) rfl rfl ?_
 refine sS rfl rfl rfl hl3 ho3 rfl ?_ (hu := by exact upd_all hl3.symm)
 refine sQ (qA rfl) rfl (sD (nS (tT (rB (rS (rF2 (rC rfl (load_a rfl rfl (at_blk_all (by repeat first | exact mH | apply mT)) hl3)) (rT rfl) ?_))))))
 (exact RulP.yes (by rw [if_pos (by omega)]; unfold kd; rw [List.getD_eq_getElem?_getD, List.getElem?_eq_getElem (by omega), Option.getD_some]) hre3)
 refine sD (nS (cF rfl ?_))
 refine tK (nrm_block (nS (tS (tR (sQ (pBd rfl rfl) rfl (sS' ?_))))))
 refine sQ (qA rfl) rfl (sD (nS (tT (rF2 (rC rfl (lBa rfl rfl)) (rT rfl) ?_))))
 (exact RulP.no (by rw [if_neg (by omega)]) (tm0_r _))
 refine sQ (qA rfl) rfl (sD (nS (cF rfl ?_)))
 refine tR (sP (pure_eql_t rfl rfl (by omega)) rfl rfl ?_)
 refine sQ (qA rfl) rfl (sD (nS (qT rfl ?_)))
 refine tS (tR (sQ (qF0 rfl) rfl (sL (lBs rfl rfl) rfl rfl ?_)))
 refine sB (qE rfl rfl) rfl rfl (fun h137 => ?_) (fun h137 => ?_)
 refine sD (nS (qT rfl ?_))
 refine tS ?_
 (have hq : ak = 10 := (by omega); have hq1 := h2 hq; obtain ⟨bq, oq, e3, rfl, hl3, hat3, hre3, hgb3⟩ := hasl.kidTm hakl (i := i) (by omega) (by omega); have ho3 := hre3.one)
 refine tR (sQ (qF0 rfl) rfl (sL (lBs rfl rfl) rfl rfl ?_))
 refine sQ (qF0 rfl) rfl (sL (lBs rfl rfl) rfl rfl ?_)
 refine sP (pure_sub rfl rfl (by omega) (by omega)) rfl rfl ?_
 (rw [show (k - 11 : Int) = ((i : Nat) : Int) from (by omega)]; refine sP (pIN (j := i) rfl rfl rfl (by omega)) rfl rfl ?_)
 refine sL (load_a rfl rfl (hat3 _) hl3) rfl rfl ?_
 refine sS rfl rfl rfl hl3 ho3 rfl ?_ (hu := by exact upd_all hl3.symm)
 refine sQ (qA rfl) rfl (sD (nS (tT (rB (rS (rF2 (rC rfl (load_a rfl rfl (at_blk_all (by repeat first | exact mH | apply mT)) hl3)) (rT rfl) ?_))))))
 (exact RulP.yes (by rw [if_pos (by omega)]; unfold kd; rw [List.getD_eq_getElem?_getD, List.getElem?_eq_getElem (by omega), Option.getD_some]) hre3)
 refine sD (nS (cF rfl ?_))
 refine tK (nrm_block (nS (tS (tR (sQ (pBd rfl rfl) rfl (sS' ?_))))))
 refine sQ (qA rfl) rfl (sD (nS (tT (rF2 (rC rfl (lBa rfl rfl)) (rT rfl) ?_))))
 (exact RulP.no (by rw [if_neg (by omega)]) (tm0_r _))
section
variable {P : Program} {Γ : Ctx} {K : Po} {ops : Array Oper} {env : Env} {hp : List Ent} {G : IM}
theorem one_freeze {H : List (Nat × Nat)} {fuel j : Nat} {listed : List Bool} {hp' : List Ent} {p : Option Addr} {c el sz n : Nat} {cs : List Value} (hk : Pk hp (.slc p c el sz n cs) hp')
  (h : ∀ G', IMle G G' → Sl G' p n c sz cs → (∀ b ∈ vfp p, G b = none ∧ G' b ≠ none) → One P Γ ops K H fuel listed j ⟨env, hp', G'⟩) : One P Γ ops K H fuel listed j ⟨env, hp, G⟩ :=
 ⟨fun a w hs => let ⟨G', h1, h2, h3, h4⟩ := hs.freeze hk; (h G' h2 h3 h4).run a w h1⟩
end
theorem RTy.kids {G : IM} {t : Ty} {a : Value} {p : Option Addr} {n c : Nat} (h : RTy G t [a, .slice p n c]) : ∃ es, SlE G p t.ks.length c 2 es ∧ RTyL G t.ks es := by
 obtain ⟨p', c', es, he, _, h1, h2⟩ := h.open
 simp only [List.cons.injEq, Value.slice.injEq, and_true] at he
 obtain ⟨_, rfl, _, rfl⟩ := he
 exact ⟨es, h1, h2⟩
/-- What the rules of casts give. -/
def mCRule (k : Int) (ty fr : Ty) (lb : Int) (ks : List Tm) : Stp :=
 if k = 6 then
  (if prx (kd ks 0) = true ∧ (kd ks 0).ty.k = 4 then (mCst (mNod 6 [kd (kd ks 0).ks 0, mCst (kd ks 1) (kt (kd ks 0).ty.ks 0) (kt (kd ks 0).fr.ks 0) (-(kd ks 0).lb)]) (kt (kd ks 0).fr.ks 1) (kt (kd ks 0).ty.ks 1) (kd ks 0).lb, 1, 0) else stuck)
 else if k = 11 ∨ k = 12 then
  (if prx (kd ks 0) = true ∧ (kd ks 0).ty.k = 5 then (mCst (mNod k [kd (kd ks 0).ks 0]) (kt (kd ks 0).fr.ks (k - 11).toNat) (kt (kd ks 0).ty.ks (k - 11).toNat) (kd ks 0).lb, 1, 0) else stuck)
 else if k = 14 then
  (if fr.k = ty.k then (kd ks 0, 1, 0)
   else if ty.k = 1 then (mCst (mCst (kd ks 0) fr (mGround fr) lb) (mGround fr) ty lb, 1, 0)
   else if isGrd ty = false then (mCst (mCst (kd ks 0) fr (mGround ty) lb) (mGround ty) ty lb, 1, 0)
   else if inj (kd ks 0) = false then stuck
   else if (kd ks 0).fr.k = ty.k then (kd (kd ks 0).ks 0, 1, 0)
   else (tm0, 2, lb))
 else stuck
theorem red_rule (k : Int) (ty fr : Ty) (lb : Int) (ks : List Tm) : mRed k ty fr lb ks = match mRule k ks with | some u => (u, 1, 0) | none => mCRule k ty fr lb ks := by
 unfold mRed mRule mCRule
 by_cases h6 : k = 6
 ·rw [if_pos h6, if_pos h6, if_pos h6]
  by_cases h : (kd ks 0).k = 5
  ·rw [if_pos h, if_pos h]
  ·rw [if_neg h, if_neg h]
 rw [if_neg h6, if_neg h6, if_neg h6]
 by_cases h7 : k = 7 ∨ k = 8
 ·rw [if_pos h7, if_pos h7]
  by_cases h : (kd ks 0).k = 2 ∧ (kd ks 1).k = 2
  ·rw [if_pos h, if_pos h]
  ·rw [if_neg h, if_neg h]; simp only; rw [if_neg (by omega), if_neg (by omega)]
 rw [if_neg h7, if_neg h7]
 by_cases h9 : k = 9
 ·rw [if_pos h9, if_pos h9]
  by_cases h : (kd ks 0).k = 3
  ·rw [if_pos h, if_pos h]
  ·rw [if_neg h, if_neg h]
   by_cases h' : (kd ks 0).k = 4
   ·rw [if_pos h', if_pos h']
   ·rw [if_neg h', if_neg h']; simp only; rw [if_neg (by omega), if_neg (by omega)]
 rw [if_neg h9, if_neg h9]
 by_cases h11 : k = 11 ∨ k = 12
 ·rw [if_pos h11, if_pos h11, if_pos h11]
  by_cases h : (kd ks 0).k = 10
  ·rw [if_pos h, if_pos h]
  ·rw [if_neg h, if_neg h]
 rw [if_neg h11, if_neg h11, if_neg h11]
/-- A step's result. -/
def StpP (r : Stp) : IM → Value → List Ent → Prop := Imm fun G' v => ∃ u cells, v = .tuple ⟨[.agg ⟨cells⟩, .int .i64 r.2.1, .int .i64 r.2.2]⟩ ∧ RTm G' u cells ∧ (r.2.1 = 1 → u = r.1)
theorem StpP.mk {G : IM} {r : Stp} {u : Tm} {cells : List Value} {c l : Int} (h : r = (u, c, l)) (hr : RTm G u cells) : StpP r G (.tuple ⟨[.agg ⟨cells⟩, .int .i64 c, .int .i64 l]⟩) [] := by
 subst h; exact ⟨rfl, u, cells, rfl, hr, fun _ => rfl⟩
theorem kd_at {ks : List Tm} {i : Nat} (h : i < ks.length) : kd ks i = ks[i] := by unfold kd; rw [List.getD_eq_getElem?_getD, List.getElem?_eq_getElem h, Option.getD_some]
theorem kt_at {ks : List Ty} {i : Nat} (h : i < ks.length) : kt ks i = ks[i] := by unfold kt; rw [List.getD_eq_getElem?_getD, List.getElem?_eq_getElem h, Option.getD_some]
theorem grd_eq {t : Ty} (h : isGrd t = true) : t = mGround t := by
 unfold isGrd at h
 rw [Bool.and_eq_true] at h
 exact (tSame_iff _ _).1 h.2
theorem crule6_fn (a b : Tm) (nm : ByteArray) (num : Int) (ty fr : Ty) (lb : Int) (G : IM) (cells : List Value) (hca : cv a) (hr : RTm G (.mk 6 nm num ty fr lb [a, b]) cells) : Fn Tryz.prog 144 [.agg ⟨cells⟩] [] G (StpP (mCRule 6 ty fr lb [a, b])) := by
 obtain ⟨ak, anm, anum, ⟨atk, atks⟩, ⟨afk, afks⟩, alb, aks⟩ := a
 obtain ⟨hN, hkk⟩ := hca.node
 have hops := hN.ops
 have hbl := hN.lbB
 have htyA := hN.tyA
 have hfrA := hN.frA
 rw [tAr] at htyA hfrA
 have h14 : ak = 14 → aks.length = 1 := fun h => by rw [h] at hops; have : tmOps 14 = 1 := rfl; omega
 obtain ⟨tk, tks⟩ := ty
 obtain ⟨fk, fks⟩ := fr
 obtain ⟨pt, ct, pf, cf, p, c, es, rfl, hk, hnum, hlb, hty, hfr, hsl, hkl⟩ := hr.open9
 obtain ⟨bx, ox, e0, rfl, hl0, hat0, hre0, hgb0⟩ := hsl.kidTm hkl (i := 0) (by simp) (by simp)
 replace hre0 : RTm G (Tm.mk ak anm anum (.mk atk atks) (.mk afk afks) alb aks) e0 := hre0
 have hP : Fn Tryz.prog 69 [.agg ⟨e0⟩] [] G (Val (.bool (decide (ak = 14 ∧ afk = atk ∧ (atk = 4 ∨ atk = 5)))) G) := isProxy_fn _ G _ hre0
 obtain ⟨apt, act, apf, acf, ap, ac, aes, rfl, hak, hanum, halb, haty, hafr, hasl, hakl⟩ := hre0.open9
 obtain ⟨tes, htS, htL⟩ := haty.kids
 obtain ⟨fes, hfS, hfL⟩ := hafr.kids
 simp only [Ty.ks] at htS htL hfS hfL
 obtain ⟨_, _, e1, hp1, hl1, hat1, hre1, hgb1⟩ := hsl.kidTm hkl (i := 1) (by simp) (by simp)
 cases hp1
 replace hre1 : RTm G b e1 := hre1
 have ho1 := hre1.one
 have hR : mCRule 6 (.mk tk tks) (.mk fk fks) lb [Tm.mk ak anm anum (.mk atk atks) (.mk afk afks) alb aks, b] = (if (ak = 14 ∧ afk = atk ∧ (atk = 4 ∨ atk = 5)) ∧ atk = 4 then (mCst (mNod 6 [kd aks 0, mCst b (kt atks 0) (kt afks 0) (-alb)]) (kt afks 1) (kt atks 1) alb, 1, 0) else stuck) := by
  unfold mCRule
  rw [if_pos rfl, show kd [Tm.mk ak anm anum (.mk atk atks) (.mk afk afks) alb aks, b] 0 = Tm.mk ak anm anum (.mk atk atks) (.mk afk afks) alb aks from rfl, prx_mk]
  simp only [decide_eq_true_eq]
  rfl
 rw [hR]
 refine fn_enter Tryz.func144 rfl Tryz.ntmps144 Tryz.results144 rfl ?_
 intro w0
 refine tS (tR ?_)
 refine sE (step_box_a rfl rfl) rfl (fun b3 => ?_)
 refine sE (step_alloc rfl) rfl (fun b4 => ?_)
 refine sQ (qA rfl) rfl (sQ (qA rfl) rfl (sD (nS (tS (tR (sQ (qF0 rfl) rfl ?_))))))
 refine sL (lBs rfl rfl) rfl rfl ?_
 refine sP (pIN (j := 0) rfl rfl rfl (by simp)) rfl rfl ?_
 refine sL (load_a rfl rfl (hat0 _) rfl) rfl rfl ?_
 refine sE (step_alloc rfl) rfl (fun b15 => ?_)
 refine sS' ?_
 refine sD (nS (tS (tri_block (tS (tR (sQ (qF0 rfl) rfl ?_))))))
 refine sL (lBs rfl rfl) rfl rfl ?_
 refine sP (pure_eql_t rfl rfl (by omega)) rfl rfl ?_
 refine sQ (qM rfl) rfl (sL (lBa rfl rfl) rfl rfl ?_)
 focus (by_cases hpx : (ak = 14 ∧ afk = atk ∧ (atk = 4 ∨ atk = 5)); rw [decide_eq_true hpx] at hP; rotate_left; rw [decide_eq_false hpx] at hP; rotate_left; all_goals (refine seq_val rfl hP rfl rfl ?_))
 refine sQ (pPt rfl rfl) rfl (sQ (qM rfl) rfl (sQ (qF0 rfl) rfl (sQ (qF rfl) rfl (sL (lBs rfl rfl) rfl rfl ?_))))
 refine sB (qE rfl rfl) rfl rfl (fun h34 => ?_) (fun h34 => ?_)
 refine sQ (pPt rfl rfl) rfl (sQ (qA rfl) rfl (sD (nS (qT rfl ?_))))
 refine tS ?_
 (have hq : (ak = 14 ∧ afk = atk ∧ (atk = 4 ∨ atk = 5)) ∧ atk = 4 := ⟨hpx, by omega⟩; have hq1 := h14 hq.1.1; have hq2 := htyA.1 (by omega); have hq3 := hfrA.1 (by omega); obtain ⟨bq, oq, e3, rfl, hl3, hat3, hre3, hgb3⟩ := hasl.kidTm hakl (i := 0) (by omega) (by omega); have ho3 := hre3.one; obtain ⟨b5, o5, q5, d5, rfl, hat5, hre5, hgb5⟩ := htS.kidTy htL (i := 0) (by omega) (by omega); obtain ⟨_, _, q6, d6, hp6, hat6, hre6, hgb6⟩ := htS.kidTy htL (i := 1) (by omega) (by omega); cases hp6; obtain ⟨b7, o7, q7, d7, rfl, hat7, hre7, hgb7⟩ := hfS.kidTy hfL (i := 0) (by omega) (by omega); obtain ⟨_, _, q8, d8, hp8, hat8, hre8, hgb8⟩ := hfS.kidTy hfL (i := 1) (by omega) (by omega); cases hp8; obtain ⟨x1, x2, x3, x4, x5, x6, x7, x8, x9, rfl⟩ := nine hl3; obtain ⟨y1, y2, y3, y4, y5, y6, y7, y8, y9, rfl⟩ := nine hl1; refine tri_draw mixed rfl ?_)
 refine any_pure (i := 0) (l' := [tt,ff,ff,ff,ff,ff,ff,ff,ff,ff,ff,ff]) rfl npI (qF0 rfl) rfl (by kernel_rfl) rfl rfl ?_
 refine aL 1 rfl (lBs rfl rfl) rfl ?_
 refine aP 2 rfl (pIN (j := 0) rfl rfl rfl (by omega)) rfl ?_
 refine aL 3 rfl (load_a rfl rfl (hat3 _) rfl) rfl ?_
 refine aP 4 rfl (qF0 rfl) rfl ?_
 refine aL 5 rfl (lBs rfl rfl) rfl ?_
 refine aP 6 rfl (pIN (j := 1) rfl rfl rfl (by simp)) rfl ?_
 refine aL 7 rfl (load_a rfl rfl (hat1 _) rfl) rfl ?_
 refine any_two (j := 8) (j' := 9) (by kernel_rfl) ?_ ?_
 (refine one_step0 rfl (step_alloc rfl) rfl rfl ?_; rintro _ ⟨b51, rfl⟩)
 refine aO' 9 ?_
 (refine one_step0 rfl (step_alloc rfl) rfl rfl ?_; rintro _ ⟨b53, rfl⟩)
 refine aO' 10 ?_
 (refine oS rfl rfl rfl rfl rfl ho3 rfl rfl ?_ (hu := by exact upd_all rfl.symm))
 refine aO' 11 ?_
 (refine oS rfl rfl rfl rfl rfl ho1 rfl rfl ?_ (hu := by exact upd_all rfl.symm))
 refine aD' ?_
 refine nS (tS (tri_draw mixed rfl ?_))
 refine any_load (i := 0) (l' := [tt,ff,ff,ff,ff,ff,ff,ff,ff,ff,ff,ff,ff,ff,ff,ff,ff,ff,ff,ff,ff,ff,ff,ff,ff,ff,ff,ff,ff,ff,ff,ff,ff,ff]) rfl npI (load_a rfl rfl (at_blk_all (by repeat first | exact mH | apply mT)) rfl) rfl (by kernel_rfl) rfl rfl ?_
 refine aL 1 rfl (load_a rfl rfl (at_blk_all (by repeat first | exact mH | apply mT)) rfl) rfl ?_
 refine aP 2 rfl (qF0 rfl) rfl ?_
 refine aP 3 rfl (qF rfl) rfl ?_
 refine aL 4 rfl (lBs rfl rfl) rfl ?_
 refine aP 5 rfl (pIN (j := 0) rfl rfl rfl (by omega)) rfl ?_
 refine aL 6 rfl (load_a rfl rfl (hat5 _) rfl) rfl ?_
 refine aP 7 rfl (qF0 rfl) rfl ?_
 refine aP 8 rfl (qF rfl) rfl ?_
 refine aL 9 rfl (lBs rfl rfl) rfl ?_
 refine aP 10 rfl (pIN (j := 0) rfl rfl rfl (by omega)) rfl ?_
 refine aL 11 rfl (load_a rfl rfl (hat7 _) rfl) rfl ?_
 refine aP 12 rfl (qF0 rfl) rfl ?_
 refine aL 13 rfl (lBs rfl rfl) rfl ?_
 refine aP 14 rfl (pure_neg rfl (by omega) (by omega)) rfl ?_
 refine aP 18 rfl (qF0 rfl) rfl ?_
 refine aP 19 rfl (qF rfl) rfl ?_
 refine aL 20 rfl (lBs rfl rfl) rfl ?_
 refine aP 21 rfl (pIN (j := 1) rfl rfl rfl (by omega)) rfl ?_
 refine aL 22 rfl (load_a rfl rfl (hat8 _) rfl) rfl ?_
 refine aP 23 rfl (qF0 rfl) rfl ?_
 refine aP 24 rfl (qF rfl) rfl ?_
 refine aL 25 rfl (lBs rfl rfl) rfl ?_
 refine aP 26 rfl (pIN (j := 1) rfl rfl rfl (by omega)) rfl ?_
 refine aL 27 rfl (load_a rfl rfl (hat6 _) rfl) rfl ?_
 refine aP 28 rfl (qF0 rfl) rfl ?_
 refine aL 29 rfl (lBs rfl rfl) rfl ?_
 refine aO' 15 ?_
 (refine one_imm rfl rfl (casted_fn b atks[0] afks[0] (-alb) G _ _ _ ⟨by omega, by omega⟩ hre1 hre5 hre7) rfl rfl rfl (fun u G1 hle1 hh => ?_); obtain ⟨uc, rfl, hru⟩ := hh; have hul := hru.len; have huo := hru.one; obtain ⟨z1, z2, z3, z4, z5, z6, z7, z8, z9, rfl⟩ := nine hul; replace hre3 := hre3.mono hle1; replace hre6 := hre6.mono hle1; replace hre8 := hre8.mono hle1)
 refine aO' 16 ?_
 (refine one_step0 rfl (step_buildSlice rfl rfl rfl (by omega) (by unfold maxLen; omega) rfl) rfl rfl ?_; rintro _ ⟨b92, rfl⟩)
 refine aO' 17 ?_
 (refine one_freeze (cs := [x1, x2, x3, x4, x5, x6, x7, x8, x9, z1, z2, z3, z4, z5, z6, z7, z8, z9]) (by repeat (first | exact Pk.here | apply Pk.there)) (fun G2 hle2 hsl2 hno2 => ?_); have hrN := rtm_nod (k := 6) (ks := [aks[0], mCst b atks[0] afks[0] (-alb)]) (es := [[x1, x2, x3, x4, x5, x6, x7, x8, x9], [z1, z2, z3, z4, z5, z6, z7, z8, z9]]) ⟨by decide, by decide⟩ rfl (SlE.of hsl2 rfl (by simp) (by intro x hx; rcases List.mem_cons.1 hx with rfl | hx; exact ho3; obtain rfl := List.mem_singleton.1 hx; exact huo)) (by simp only [RTmL]; exact ⟨_, _, rfl, hre3.mono hle2, _, _, rfl, hru.mono hle2, rfl⟩); replace hre6 := hre6.mono hle2; replace hre8 := hre8.mono hle2; refine one_val rfl rfl (node_fn _ _ _ _ _) rfl rfl rfl ?_)
 refine aO' 30 ?_
 (refine one_imm rfl rfl (casted_fn _ afks[1] atks[1] alb G2 _ _ _ ⟨by omega, by omega⟩ hrN hre8 hre6) rfl rfl rfl (fun u G3 hle3 hh => ?_); obtain ⟨wc, rfl, hrw⟩ := hh; have hwl := hrw.len; have hwo := hrw.one)
 refine aO' 31 ?_
 (refine oS rfl rfl rfl rfl hwl hwo rfl rfl ?_ (hu := by exact upd_all hwl.symm))
 refine aP 32 rfl (qA rfl) rfl ?_
 refine aP 33 rfl (qA rfl) rfl ?_
 refine aD' ?_
 refine nS (tT (rB (rS (rF3 (rC rfl (load_a rfl rfl (at_blk_all (by repeat first | exact mH | apply mT)) hwl)) (rT rfl) (rT rfl) ?_))))
 (exact StpP.mk (by rw [if_pos hq, kd_at (by omega), kt_at (by omega), kt_at (by omega), kt_at (by omega), kt_at (by omega)]) hrw)
 (refine one_step0 rfl (step_alloc rfl) rfl rfl ?_; rintro _ ⟨b108, rfl⟩)
 refine aO' 8 ?_
 (refine one_step0 rfl (step_alloc rfl) rfl rfl ?_; rintro _ ⟨b110, rfl⟩)
 refine aO' 10 ?_
 (refine oS rfl rfl rfl rfl rfl ho3 rfl rfl ?_ (hu := by exact upd_all rfl.symm))
 refine aO' 11 ?_
 (refine oS rfl rfl rfl rfl rfl ho1 rfl rfl ?_ (hu := by exact upd_all rfl.symm))
 refine aD' ?_
 refine nS (tS (tri_draw mixed rfl ?_))
 refine any_load (i := 0) (l' := [tt,ff,ff,ff,ff,ff,ff,ff,ff,ff,ff,ff,ff,ff,ff,ff,ff,ff,ff,ff,ff,ff,ff,ff,ff,ff,ff,ff,ff,ff,ff,ff,ff,ff]) rfl npI (load_a rfl rfl (at_blk_all (by repeat first | exact mH | apply mT)) rfl) rfl (by kernel_rfl) rfl rfl ?_
 refine aL 1 rfl (load_a rfl rfl (at_blk_all (by repeat first | exact mH | apply mT)) rfl) rfl ?_
 refine aP 2 rfl (qF0 rfl) rfl ?_
 refine aP 3 rfl (qF rfl) rfl ?_
 refine aL 4 rfl (lBs rfl rfl) rfl ?_
 refine aP 5 rfl (pIN (j := 0) rfl rfl rfl (by omega)) rfl ?_
 refine aL 6 rfl (load_a rfl rfl (hat5 _) rfl) rfl ?_
 refine aP 7 rfl (qF0 rfl) rfl ?_
 refine aP 8 rfl (qF rfl) rfl ?_
 refine aL 9 rfl (lBs rfl rfl) rfl ?_
 refine aP 10 rfl (pIN (j := 0) rfl rfl rfl (by omega)) rfl ?_
 refine aL 11 rfl (load_a rfl rfl (hat7 _) rfl) rfl ?_
 refine aP 12 rfl (qF0 rfl) rfl ?_
 refine aL 13 rfl (lBs rfl rfl) rfl ?_
 refine aP 14 rfl (pure_neg rfl (by omega) (by omega)) rfl ?_
 refine aP 18 rfl (qF0 rfl) rfl ?_
 refine aP 19 rfl (qF rfl) rfl ?_
 refine aL 20 rfl (lBs rfl rfl) rfl ?_
 refine aP 21 rfl (pIN (j := 1) rfl rfl rfl (by omega)) rfl ?_
 refine aL 22 rfl (load_a rfl rfl (hat8 _) rfl) rfl ?_
 refine aP 23 rfl (qF0 rfl) rfl ?_
 refine aP 24 rfl (qF rfl) rfl ?_
 refine aL 25 rfl (lBs rfl rfl) rfl ?_
 refine aP 26 rfl (pIN (j := 1) rfl rfl rfl (by omega)) rfl ?_
 refine aL 27 rfl (load_a rfl rfl (hat6 _) rfl) rfl ?_
 refine aP 28 rfl (qF0 rfl) rfl ?_
 refine aL 29 rfl (lBs rfl rfl) rfl ?_
 refine aO' 15 ?_
 (refine one_imm rfl rfl (casted_fn b atks[0] afks[0] (-alb) G _ _ _ ⟨by omega, by omega⟩ hre1 hre5 hre7) rfl rfl rfl (fun u G1 hle1 hh => ?_); obtain ⟨uc, rfl, hru⟩ := hh; have hul := hru.len; have huo := hru.one; obtain ⟨z1, z2, z3, z4, z5, z6, z7, z8, z9, rfl⟩ := nine hul; replace hre3 := hre3.mono hle1; replace hre6 := hre6.mono hle1; replace hre8 := hre8.mono hle1)
 refine aO' 16 ?_
 (refine one_step0 rfl (step_buildSlice rfl rfl rfl (by omega) (by unfold maxLen; omega) rfl) rfl rfl ?_; rintro _ ⟨b149, rfl⟩)
 refine aO' 17 ?_
 (refine one_freeze (cs := [x1, x2, x3, x4, x5, x6, x7, x8, x9, z1, z2, z3, z4, z5, z6, z7, z8, z9]) (by repeat (first | exact Pk.here | apply Pk.there)) (fun G2 hle2 hsl2 hno2 => ?_); have hrN := rtm_nod (k := 6) (ks := [aks[0], mCst b atks[0] afks[0] (-alb)]) (es := [[x1, x2, x3, x4, x5, x6, x7, x8, x9], [z1, z2, z3, z4, z5, z6, z7, z8, z9]]) ⟨by decide, by decide⟩ rfl (SlE.of hsl2 rfl (by simp) (by intro x hx; rcases List.mem_cons.1 hx with rfl | hx; exact ho3; obtain rfl := List.mem_singleton.1 hx; exact huo)) (by simp only [RTmL]; exact ⟨_, _, rfl, hre3.mono hle2, _, _, rfl, hru.mono hle2, rfl⟩); replace hre6 := hre6.mono hle2; replace hre8 := hre8.mono hle2; refine one_val rfl rfl (node_fn _ _ _ _ _) rfl rfl rfl ?_)
 refine aO' 30 ?_
 (refine one_imm rfl rfl (casted_fn _ afks[1] atks[1] alb G2 _ _ _ ⟨by omega, by omega⟩ hrN hre8 hre6) rfl rfl rfl (fun u G3 hle3 hh => ?_); obtain ⟨wc, rfl, hrw⟩ := hh; have hwl := hrw.len; have hwo := hrw.one)
 refine aO' 31 ?_
 (refine oS rfl rfl rfl rfl hwl hwo rfl rfl ?_ (hu := by exact upd_all hwl.symm))
 refine aP 32 rfl (qA rfl) rfl ?_
 refine aP 33 rfl (qA rfl) rfl ?_
 refine aD' ?_
 refine nS (tT (rB (rS (rF3 (rC rfl (load_a rfl rfl (at_blk_all (by repeat first | exact mH | apply mT)) hwl)) (rT rfl) (rT rfl) ?_))))
 (exact StpP.mk (by rw [if_pos hq, kd_at (by omega), kt_at (by omega), kt_at (by omega), kt_at (by omega), kt_at (by omega)]) hrw)
 refine sQ (pPt rfl rfl) rfl (sQ (qA rfl) rfl (sD (nS (cF rfl ?_))))
 refine tS (tR (sQ (qF0 rfl) rfl (sL (lBs rfl rfl) rfl rfl ?_)))
 refine sP (pure_eql_f rfl rfl (by omega)) rfl rfl ?_
 refine sQ (qM rfl) rfl (sQ (qF0 rfl) rfl (sL (lBs rfl rfl) rfl rfl ?_))
 refine sP (pure_eql_f rfl rfl (by omega)) rfl rfl ?_
 refine sQ (pPf rfl rfl) rfl (sQ (qM rfl) rfl (sK rfl rfl (sK rfl rfl (sQ (pPf rfl rfl) rfl (sQ (qM rfl) rfl (sK rfl rfl ?_))))))
 refine sK rfl rfl (sK rfl rfl (sK rfl rfl (sQ (pPf rfl rfl) rfl (sQ (qA rfl) rfl (sD (nS ?_))))))
 refine cF rfl ?_
 refine tS (tR (sQ (qF0 rfl) rfl (sL (lBs rfl rfl) rfl rfl ?_)))
 refine sP (pure_neq_t rfl rfl (by omega)) rfl rfl ?_
 refine sQ (qA rfl) rfl (sD (nS (qT rfl ?_)))
 refine tS (tR (sQ (pBd rfl rfl) rfl (sS' ?_)))
 refine sQ (qA rfl) rfl (sQ (qA rfl) rfl (sD (nS (tT (rB (rS ?_))))))
 refine rF3 (rC rfl (lBa rfl rfl)) (rT rfl) (rT rfl) ?_
 (exact StpP.mk (by rw [if_neg (by omega)]; rfl) (tm0_r _))
 refine sQ (pPt rfl rfl) rfl (sQ (qM rfl) rfl (sK rfl rfl (sK rfl rfl (sK rfl rfl (sK rfl rfl (sQ (pPf rfl rfl) rfl ?_))))))
 refine sQ (qA rfl) rfl (sD (nS (cF rfl ?_)))
 refine tS (tR (sQ (qF0 rfl) rfl (sL (lBs rfl rfl) rfl rfl ?_)))
 refine sP (pure_eql_f rfl rfl (by omega)) rfl rfl ?_
 refine sQ (qM rfl) rfl (sQ (qF0 rfl) rfl (sL (lBs rfl rfl) rfl rfl ?_))
 refine sP (pure_eql_f rfl rfl (by omega)) rfl rfl ?_
 refine sQ (pPf rfl rfl) rfl (sQ (qM rfl) rfl (sK rfl rfl (sK rfl rfl (sQ (pPf rfl rfl) rfl (sQ (qM rfl) rfl (sK rfl rfl ?_))))))
 refine sK rfl rfl (sK rfl rfl (sK rfl rfl (sQ (pPf rfl rfl) rfl (sQ (qA rfl) rfl (sD (nS ?_))))))
 refine cF rfl ?_
 refine tS (tR (sQ (qF0 rfl) rfl (sL (lBs rfl rfl) rfl rfl ?_)))
 refine sP (pure_neq_t rfl rfl (by omega)) rfl rfl ?_
 refine sQ (qA rfl) rfl (sD (nS (qT rfl ?_)))
 refine tS (tR (sQ (pBd rfl rfl) rfl (sS' ?_)))
 refine sQ (qA rfl) rfl (sQ (qA rfl) rfl (sD (nS (tT (rB (rS ?_))))))
 refine rF3 (rC rfl (lBa rfl rfl)) (rT rfl) (rT rfl) ?_
 (exact StpP.mk (by rw [if_neg (by omega)]; rfl) (tm0_r _))
theorem crule11_fn (k : Int) (a : Tm) (nm : ByteArray) (num : Int) (ty fr : Ty) (lb : Int) (G : IM) (cells : List Value) (hk1 : k = 11 ∨ k = 12) (hca : cv a) (hr : RTm G (.mk k nm num ty fr lb [a]) cells) : Fn Tryz.prog 144 [.agg ⟨cells⟩] [] G (StpP (mCRule k ty fr lb [a])) := by
 obtain ⟨ak, anm, anum, ⟨atk, atks⟩, ⟨afk, afks⟩, alb, aks⟩ := a
 obtain ⟨hN, hkk⟩ := hca.node
 have hops := hN.ops
 have hbl := hN.lbB
 have htyA := hN.tyA
 have hfrA := hN.frA
 rw [tAr] at htyA hfrA
 have h14 : ak = 14 → aks.length = 1 := fun h => by rw [h] at hops; have : tmOps 14 = 1 := rfl; omega
 obtain ⟨tk, tks⟩ := ty
 obtain ⟨fk, fks⟩ := fr
 obtain ⟨pt, ct, pf, cf, p, c, es, rfl, hk, hnum, hlb, hty, hfr, hsl, hkl⟩ := hr.open9
 obtain ⟨bx, ox, e0, rfl, hl0, hat0, hre0, hgb0⟩ := hsl.kidTm hkl (i := 0) (by simp) (by simp)
 replace hre0 : RTm G (Tm.mk ak anm anum (.mk atk atks) (.mk afk afks) alb aks) e0 := hre0
 have hP : Fn Tryz.prog 69 [.agg ⟨e0⟩] [] G (Val (.bool (decide (ak = 14 ∧ afk = atk ∧ (atk = 4 ∨ atk = 5)))) G) := isProxy_fn _ G _ hre0
 have hI := isInjection_fn _ G _ hre0
 have ho0 := hre0.one
 obtain ⟨apt, act, apf, acf, ap, ac, aes, rfl, hak, hanum, halb, haty, hafr, hasl, hakl⟩ := hre0.open9
 have hfk64 : I64 fk := by obtain ⟨_, _, _, _, h, _⟩ := hfr.open; exact h
 have htk64 : I64 tk := by obtain ⟨_, _, _, _, h, _⟩ := hty.open; exact h
 obtain ⟨tes, htS, htL⟩ := haty.kids
 obtain ⟨fes, hfS, hfL⟩ := hafr.kids
 simp only [Ty.ks] at htS htL hfS hfL
 obtain ⟨i, hi⟩ : ∃ i : Nat, (k - 11).toNat = i := ⟨_, rfl⟩
 have hR : mCRule k (.mk tk tks) (.mk fk fks) lb [Tm.mk ak anm anum (.mk atk atks) (.mk afk afks) alb aks] = (if (ak = 14 ∧ afk = atk ∧ (atk = 4 ∨ atk = 5)) ∧ atk = 5 then (mCst (mNod k [kd aks 0]) (kt afks i) (kt atks i) alb, 1, 0) else stuck) := by
  unfold mCRule
  rw [if_neg (by omega), if_pos hk1, hi, show kd [Tm.mk ak anm anum (.mk atk atks) (.mk afk afks) alb aks] 0 = Tm.mk ak anm anum (.mk atk atks) (.mk afk afks) alb aks from rfl, prx_mk]
  simp only [decide_eq_true_eq]
  rfl
 rw [hR]
 refine fn_enter Tryz.func144 rfl Tryz.ntmps144 Tryz.results144 rfl ?_
 intro w0
 refine tS (tR ?_)
 refine sE (step_box_a rfl rfl) rfl (fun b3 => ?_)
 refine sE (step_alloc rfl) rfl (fun b4 => ?_)
 refine sQ (qA rfl) rfl (sQ (qA rfl) rfl (sD (nS (tS (tR (sQ (qF0 rfl) rfl ?_))))))
 refine sL (lBs rfl rfl) rfl rfl ?_
 refine sP (pIN (j := 0) rfl rfl rfl (by simp)) rfl rfl ?_
 refine sL (load_a rfl rfl (hat0 _) rfl) rfl rfl ?_
 refine sE (step_alloc rfl) rfl (fun b15 => ?_)
 refine sS' ?_
 refine sD (nS (tS (tri_block (tS (tR (sQ (qF0 rfl) rfl ?_))))))
 refine sL (lBs rfl rfl) rfl rfl ?_
 refine sP (pure_eql_f rfl rfl (by omega)) rfl rfl ?_
 refine sQ (qM rfl) rfl (sK rfl rfl (sK rfl rfl (sQ (pPf rfl rfl) rfl (sQ (qM rfl) rfl (sK rfl rfl (sK rfl rfl ?_))))))
 refine sK rfl rfl (sK rfl rfl (sQ (pPf rfl rfl) rfl (sQ (qA rfl) rfl (sD (nS (cF rfl ?_))))))
 refine tS (tR (sQ (qF0 rfl) rfl (sL (lBs rfl rfl) rfl rfl ?_)))
 refine sB (qE rfl rfl) rfl rfl (fun h44 => ?_) (fun h44 => ?_)
 refine sQ (qM rfl) rfl (sK rfl rfl (sK rfl rfl (sK rfl rfl (sQ (pPt rfl rfl) rfl (sQ (qM rfl) rfl (sL (lBa rfl rfl) rfl rfl ?_))))))
 focus (by_cases hpx : (ak = 14 ∧ afk = atk ∧ (atk = 4 ∨ atk = 5)); rw [decide_eq_true hpx] at hP; rotate_left; rw [decide_eq_false hpx] at hP; rotate_left; all_goals (refine seq_val rfl hP rfl rfl ?_))
 refine sQ (pPt rfl rfl) rfl (sQ (qM rfl) rfl (sQ (qF0 rfl) rfl (sQ (qF rfl) rfl (sL (lBs rfl rfl) rfl rfl ?_))))
 refine sB (qE rfl rfl) rfl rfl (fun h58 => ?_) (fun h58 => ?_)
 refine sQ (pPt rfl rfl) rfl (sQ (qA rfl) rfl (sD (nS (qT rfl ?_))))
 refine tS (tR (sQ (qF0 rfl) rfl (sL (lBs rfl rfl) rfl rfl ?_)))
 refine sP (pure_sub rfl rfl (by omega) (by omega)) rfl rfl ?_
 refine sQ (qA rfl) rfl (sD (nS (tS ?_)))
 (have hq : (ak = 14 ∧ afk = atk ∧ (atk = 4 ∨ atk = 5)) ∧ atk = 5 := ⟨hpx, by omega⟩; have hq1 := h14 hq.1.1; have hq2 := htyA.1 (by omega); have hq3 := hfrA.1 (by omega); rw [show (k - 11 : Int) = ((i : Nat) : Int) from (by omega)]; obtain ⟨bq, oq, e3, rfl, hl3, hat3, hre3, hgb3⟩ := hasl.kidTm hakl (i := 0) (by omega) (by omega); have ho3 := hre3.one; obtain ⟨b5, o5, q5, d5, rfl, hat5, hre5, hgb5⟩ := htS.kidTy htL (i := i) (by omega) (by omega); obtain ⟨b7, o7, q7, d7, rfl, hat7, hre7, hgb7⟩ := hfS.kidTy hfL (i := i) (by omega) (by omega); obtain ⟨x1, x2, x3, x4, x5, x6, x7, x8, x9, rfl⟩ := nine hl3; refine tri_draw mixed rfl ?_)
 refine any_pure (i := 0) (l' := [tt,ff,ff,ff,ff,ff,ff,ff,ff,ff,ff,ff,ff,ff,ff,ff,ff,ff,ff,ff,ff,ff,ff,ff,ff,ff]) rfl npI (qF0 rfl) rfl (by kernel_rfl) rfl rfl ?_
 refine aL 1 rfl (lBs rfl rfl) rfl ?_
 refine aP 2 rfl (qF0 rfl) rfl ?_
 refine aL 3 rfl (lBs rfl rfl) rfl ?_
 refine aP 4 rfl (pIN (j := 0) rfl rfl rfl (by omega)) rfl ?_
 refine aL 5 rfl (load_a rfl rfl (hat3 _) rfl) rfl ?_
 refine aP 8 rfl (qF0 rfl) rfl ?_
 refine aP 9 rfl (qF rfl) rfl ?_
 refine aL 10 rfl (lBs rfl rfl) rfl ?_
 refine aP 11 rfl (qM rfl) rfl ?_
 refine aP 12 rfl (pIN (j := i) rfl rfl rfl (by omega)) rfl ?_
 refine aL 13 rfl (load_a rfl rfl (hat7 _) rfl) rfl ?_
 refine aP 14 rfl (qF0 rfl) rfl ?_
 refine aP 15 rfl (qF rfl) rfl ?_
 refine aL 16 rfl (lBs rfl rfl) rfl ?_
 refine aP 17 rfl (qM rfl) rfl ?_
 refine aP 18 rfl (pIN (j := i) rfl rfl rfl (by omega)) rfl ?_
 refine aL 19 rfl (load_a rfl rfl (hat5 _) rfl) rfl ?_
 refine aP 20 rfl (qF0 rfl) rfl ?_
 refine aL 21 rfl (lBs rfl rfl) rfl ?_
 refine aO' 6 ?_
 (refine one_step0 rfl (step_buildSlice rfl rfl rfl (by omega) (by unfold maxLen; omega) rfl) rfl rfl ?_; rintro _ ⟨b95, rfl⟩)
 refine aO' 7 ?_
 (refine one_freeze (cs := [x1, x2, x3, x4, x5, x6, x7, x8, x9]) (by repeat (first | exact Pk.here | apply Pk.there)) (fun G2 hle2 hsl2 hno2 => ?_); have hrN := rtm_nod (k := k) (ks := [aks[0]]) (es := [[x1, x2, x3, x4, x5, x6, x7, x8, x9]]) hk rfl (SlE.of hsl2 rfl (by simp) (by intro x hx; obtain rfl := List.mem_singleton.1 hx; exact ho3)) (by simp only [RTmL]; exact ⟨_, _, rfl, hre3.mono hle2, rfl⟩); replace hre5 := hre5.mono hle2; replace hre7 := hre7.mono hle2; refine one_val rfl rfl (node_fn _ _ _ _ _) rfl rfl rfl ?_)
 refine aO' 22 ?_
 (refine one_imm rfl rfl (casted_fn _ afks[i] atks[i] alb G2 _ _ _ ⟨by omega, by omega⟩ hrN hre7 hre5) rfl rfl rfl (fun u G3 hle3 hh => ?_); obtain ⟨wc, rfl, hrw⟩ := hh; have hwl := hrw.len; have hwo := hrw.one)
 refine aO' 23 ?_
 (refine oS rfl rfl rfl rfl hwl hwo rfl rfl ?_ (hu := by exact upd_all hwl.symm))
 refine aP 24 rfl (qA rfl) rfl ?_
 refine aP 25 rfl (qA rfl) rfl ?_
 refine aD' ?_
 refine nS (tT (rB (rS (rF3 (rC rfl (load_a rfl rfl (at_blk_all (by repeat first | exact mH | apply mT)) hwl)) (rT rfl) (rT rfl) ?_))))
 (exact StpP.mk (by rw [if_pos hq, kd_at (by omega), kt_at (by omega), kt_at (by omega)]) hrw)
 refine sQ (pPt rfl rfl) rfl (sQ (qA rfl) rfl (sD (nS (cF rfl ?_))))
 refine tS (tR (sQ (qF0 rfl) rfl (sL (lBs rfl rfl) rfl rfl ?_)))
 refine sP (pure_neq_t rfl rfl (by omega)) rfl rfl ?_
 refine sQ (qA rfl) rfl (sD (nS (qT rfl ?_)))
 refine tS (tR (sQ (pBd rfl rfl) rfl (sS' ?_)))
 refine sQ (qA rfl) rfl (sQ (qA rfl) rfl (sD (nS (tT (rB (rS ?_))))))
 refine rF3 (rC rfl (lBa rfl rfl)) (rT rfl) (rT rfl) ?_
 (exact StpP.mk (by rw [if_neg (by omega)]; rfl) (tm0_r _))
 refine sQ (pPt rfl rfl) rfl (sQ (qM rfl) rfl (sK rfl rfl (sK rfl rfl (sK rfl rfl (sK rfl rfl (sQ (pPf rfl rfl) rfl ?_))))))
 refine sQ (qA rfl) rfl (sD (nS (cF rfl ?_)))
 refine tS (tR (sQ (qF0 rfl) rfl (sL (lBs rfl rfl) rfl rfl ?_)))
 refine sP (pure_neq_t rfl rfl (by omega)) rfl rfl ?_
 refine sQ (qA rfl) rfl (sD (nS (qT rfl ?_)))
 refine tS (tR (sQ (pBd rfl rfl) rfl (sS' ?_)))
 refine sQ (qA rfl) rfl (sQ (qA rfl) rfl (sD (nS (tT (rB (rS ?_))))))
 refine rF3 (rC rfl (lBa rfl rfl)) (rT rfl) (rT rfl) ?_
 (exact StpP.mk (by rw [if_neg (by omega)]; rfl) (tm0_r _))
 refine sQ (qM rfl) rfl (sQ (qF0 rfl) rfl (sL (lBs rfl rfl) rfl rfl ?_))
 refine sP (pure_eql_t rfl rfl (by omega)) rfl rfl ?_
 refine sQ (pPf rfl rfl) rfl (sQ (qM rfl) rfl (sL (lBa rfl rfl) rfl rfl ?_))
 focus (by_cases hpx : (ak = 14 ∧ afk = atk ∧ (atk = 4 ∨ atk = 5)); rw [decide_eq_true hpx] at hP; rotate_left; rw [decide_eq_false hpx] at hP; rotate_left; all_goals (refine seq_val rfl hP rfl rfl ?_))
 refine sQ (pPt rfl rfl) rfl (sQ (qM rfl) rfl (sQ (qF0 rfl) rfl (sQ (qF rfl) rfl (sL (lBs rfl rfl) rfl rfl ?_))))
 refine sB (qE rfl rfl) rfl rfl (fun h184 => ?_) (fun h184 => ?_)
 refine sQ (pPt rfl rfl) rfl (sQ (qA rfl) rfl (sD (nS (qT rfl ?_))))
 refine tS (tR (sQ (qF0 rfl) rfl (sL (lBs rfl rfl) rfl rfl ?_)))
 refine sP (pure_sub rfl rfl (by omega) (by omega)) rfl rfl ?_
 refine sQ (qA rfl) rfl (sD (nS (tS ?_)))
 (have hq : (ak = 14 ∧ afk = atk ∧ (atk = 4 ∨ atk = 5)) ∧ atk = 5 := ⟨hpx, by omega⟩; have hq1 := h14 hq.1.1; have hq2 := htyA.1 (by omega); have hq3 := hfrA.1 (by omega); rw [show (k - 11 : Int) = ((i : Nat) : Int) from (by omega)]; obtain ⟨bq, oq, e3, rfl, hl3, hat3, hre3, hgb3⟩ := hasl.kidTm hakl (i := 0) (by omega) (by omega); have ho3 := hre3.one; obtain ⟨b5, o5, q5, d5, rfl, hat5, hre5, hgb5⟩ := htS.kidTy htL (i := i) (by omega) (by omega); obtain ⟨b7, o7, q7, d7, rfl, hat7, hre7, hgb7⟩ := hfS.kidTy hfL (i := i) (by omega) (by omega); obtain ⟨x1, x2, x3, x4, x5, x6, x7, x8, x9, rfl⟩ := nine hl3; refine tri_draw mixed rfl ?_)
 refine any_pure (i := 0) (l' := [tt,ff,ff,ff,ff,ff,ff,ff,ff,ff,ff,ff,ff,ff,ff,ff,ff,ff,ff,ff,ff,ff,ff,ff,ff,ff]) rfl npI (qF0 rfl) rfl (by kernel_rfl) rfl rfl ?_
 refine aL 1 rfl (lBs rfl rfl) rfl ?_
 refine aP 2 rfl (qF0 rfl) rfl ?_
 refine aL 3 rfl (lBs rfl rfl) rfl ?_
 refine aP 4 rfl (pIN (j := 0) rfl rfl rfl (by omega)) rfl ?_
 refine aL 5 rfl (load_a rfl rfl (hat3 _) rfl) rfl ?_
 refine aP 8 rfl (qF0 rfl) rfl ?_
 refine aP 9 rfl (qF rfl) rfl ?_
 refine aL 10 rfl (lBs rfl rfl) rfl ?_
 refine aP 11 rfl (qM rfl) rfl ?_
 refine aP 12 rfl (pIN (j := i) rfl rfl rfl (by omega)) rfl ?_
 refine aL 13 rfl (load_a rfl rfl (hat7 _) rfl) rfl ?_
 refine aP 14 rfl (qF0 rfl) rfl ?_
 refine aP 15 rfl (qF rfl) rfl ?_
 refine aL 16 rfl (lBs rfl rfl) rfl ?_
 refine aP 17 rfl (qM rfl) rfl ?_
 refine aP 18 rfl (pIN (j := i) rfl rfl rfl (by omega)) rfl ?_
 refine aL 19 rfl (load_a rfl rfl (hat5 _) rfl) rfl ?_
 refine aP 20 rfl (qF0 rfl) rfl ?_
 refine aL 21 rfl (lBs rfl rfl) rfl ?_
 refine aO' 6 ?_
 (refine one_step0 rfl (step_buildSlice rfl rfl rfl (by omega) (by unfold maxLen; omega) rfl) rfl rfl ?_; rintro _ ⟨b221, rfl⟩)
 refine aO' 7 ?_
 (refine one_freeze (cs := [x1, x2, x3, x4, x5, x6, x7, x8, x9]) (by repeat (first | exact Pk.here | apply Pk.there)) (fun G2 hle2 hsl2 hno2 => ?_); have hrN := rtm_nod (k := k) (ks := [aks[0]]) (es := [[x1, x2, x3, x4, x5, x6, x7, x8, x9]]) hk rfl (SlE.of hsl2 rfl (by simp) (by intro x hx; obtain rfl := List.mem_singleton.1 hx; exact ho3)) (by simp only [RTmL]; exact ⟨_, _, rfl, hre3.mono hle2, rfl⟩); replace hre5 := hre5.mono hle2; replace hre7 := hre7.mono hle2; refine one_val rfl rfl (node_fn _ _ _ _ _) rfl rfl rfl ?_)
 refine aO' 22 ?_
 (refine one_imm rfl rfl (casted_fn _ afks[i] atks[i] alb G2 _ _ _ ⟨by omega, by omega⟩ hrN hre7 hre5) rfl rfl rfl (fun u G3 hle3 hh => ?_); obtain ⟨wc, rfl, hrw⟩ := hh; have hwl := hrw.len; have hwo := hrw.one)
 refine aO' 23 ?_
 (refine oS rfl rfl rfl rfl hwl hwo rfl rfl ?_ (hu := by exact upd_all hwl.symm))
 refine aP 24 rfl (qA rfl) rfl ?_
 refine aP 25 rfl (qA rfl) rfl ?_
 refine aD' ?_
 refine nS (tT (rB (rS (rF3 (rC rfl (load_a rfl rfl (at_blk_all (by repeat first | exact mH | apply mT)) hwl)) (rT rfl) (rT rfl) ?_))))
 (exact StpP.mk (by rw [if_pos hq, kd_at (by omega), kt_at (by omega), kt_at (by omega)]) hrw)
 refine sQ (pPt rfl rfl) rfl (sQ (qA rfl) rfl (sD (nS (cF rfl ?_))))
 refine tS (tR (sQ (qF0 rfl) rfl (sL (lBs rfl rfl) rfl rfl ?_)))
 refine sP (pure_neq_t rfl rfl (by omega)) rfl rfl ?_
 refine sQ (qA rfl) rfl (sD (nS (qT rfl ?_)))
 refine tS (tR (sQ (pBd rfl rfl) rfl (sS' ?_)))
 refine sQ (qA rfl) rfl (sQ (qA rfl) rfl (sD (nS (tT (rB (rS ?_))))))
 refine rF3 (rC rfl (lBa rfl rfl)) (rT rfl) (rT rfl) ?_
 (exact StpP.mk (by rw [if_neg (by omega)]; rfl) (tm0_r _))
 refine sQ (pPt rfl rfl) rfl (sQ (qM rfl) rfl (sK rfl rfl (sK rfl rfl (sK rfl rfl (sK rfl rfl (sQ (pPf rfl rfl) rfl ?_))))))
 refine sQ (qA rfl) rfl (sD (nS (cF rfl ?_)))
 refine tS (tR (sQ (qF0 rfl) rfl (sL (lBs rfl rfl) rfl rfl ?_)))
 refine sP (pure_neq_t rfl rfl (by omega)) rfl rfl ?_
 refine sQ (qA rfl) rfl (sD (nS (qT rfl ?_)))
 refine tS (tR (sQ (pBd rfl rfl) rfl (sS' ?_)))
 refine sQ (qA rfl) rfl (sQ (qA rfl) rfl (sD (nS (tT (rB (rS ?_))))))
 refine rF3 (rC rfl (lBa rfl rfl)) (rT rfl) (rT rfl) ?_
 (exact StpP.mk (by rw [if_neg (by omega)]; rfl) (tm0_r _))
theorem inj_k {t : Tm} (h : inj t = true) : t.k = 14 := by
 unfold inj at h
 simp only [Bool.and_eq_true, decide_eq_true_eq] at h
 exact h.1.1
theorem same_k {t u : Ty} (h : isGrd t = true) (h' : isGrd u = true) : tSame t u = decide (t.k = u.k) := by
 have e1 := grd_eq h
 have e2 := grd_eq h'
 by_cases hk : t.k = u.k
 ·rw [decide_eq_true hk, tSame_iff, e1, e2]
  unfold mGround; rw [hk]
 ·rw [decide_eq_false hk]
  cases hs : tSame t u with
  | false => rfl
  | true => exact absurd (congrArg Ty.k ((tSame_iff _ _).1 hs)) hk
theorem inj_grd {t : Tm} (h : inj t = true) : isGrd t.fr = true := by
 unfold inj at h
 rw [Bool.and_eq_true] at h
 exact h.2
theorem crule14_fn (a : Tm) (nm : ByteArray) (num : Int) (ty fr : Ty) (lb : Int) (G : IM) (cells : List Value) (hca : cv a) (hlb9 : -99 ≤ lb ∧ lb ≤ 99) (hr : RTm G (.mk 14 nm num ty fr lb [a]) cells) : Fn Tryz.prog 144 [.agg ⟨cells⟩] [] G (StpP (mCRule 14 ty fr lb [a])) := by
 have hji := @inj_grd a
 have hjk := @inj_k a
 obtain ⟨ak, anm, anum, ⟨atk, atks⟩, ⟨afk, afks⟩, alb, aks⟩ := a
 obtain ⟨hN, hkk⟩ := hca.node
 have hops := hN.ops
 have hbl := hN.lbB
 have htyA := hN.tyA
 have hfrA := hN.frA
 rw [tAr] at htyA hfrA
 have h14 : ak = 14 → aks.length = 1 := fun h => by rw [h] at hops; have : tmOps 14 = 1 := rfl; omega
 obtain ⟨tk, tks⟩ := ty
 obtain ⟨fk, fks⟩ := fr
 obtain ⟨pt, ct, pf, cf, p, c, es, rfl, hk, hnum, hlb, hty, hfr, hsl, hkl⟩ := hr.open9
 obtain ⟨bx, ox, e0, rfl, hl0, hat0, hre0, hgb0⟩ := hsl.kidTm hkl (i := 0) (by simp) (by simp)
 replace hre0 : RTm G (Tm.mk ak anm anum (.mk atk atks) (.mk afk afks) alb aks) e0 := hre0
 have hP : Fn Tryz.prog 69 [.agg ⟨e0⟩] [] G (Val (.bool (decide (ak = 14 ∧ afk = atk ∧ (atk = 4 ∨ atk = 5)))) G) := isProxy_fn _ G _ hre0
 have hI := isInjection_fn _ G _ hre0
 have ho0 := hre0.one
 obtain ⟨apt, act, apf, acf, ap, ac, aes, rfl, hak, hanum, halb, haty, hafr, hasl, hakl⟩ := hre0.open9
 have hfk64 : I64 fk := by obtain ⟨_, _, _, _, h, _⟩ := hfr.open; exact h
 have htk64 : I64 tk := by obtain ⟨_, _, _, _, h, _⟩ := hty.open; exact h
 obtain ⟨tes, htS, htL⟩ := haty.kids
 obtain ⟨fes, hfS, hfL⟩ := hafr.kids
 simp only [Ty.ks] at htS htL hfS hfL
 obtain ⟨J, hJ⟩ : ∃ J, inj (Tm.mk ak anm anum (.mk atk atks) (.mk afk afks) alb aks) = J := ⟨_, rfl⟩
 obtain ⟨D, hD⟩ : ∃ D, isGrd (.mk tk tks) = D := ⟨_, rfl⟩
 have hGr := isGround_fn _ G _ hty
 rw [hD] at hGr
 rw [hJ] at hI hji hjk
 have hR : mCRule 14 (.mk tk tks) (.mk fk fks) lb [Tm.mk ak anm anum (.mk atk atks) (.mk afk afks) alb aks] = (if fk = tk then (Tm.mk ak anm anum (.mk atk atks) (.mk afk afks) alb aks, 1, 0)
   else if tk = 1 then (mCst (mCst (Tm.mk ak anm anum (.mk atk atks) (.mk afk afks) alb aks) (.mk fk fks) (mGk fk) lb) (mGk fk) (.mk tk tks) lb, 1, 0)
   else if D = false then (mCst (mCst (Tm.mk ak anm anum (.mk atk atks) (.mk afk afks) alb aks) (.mk fk fks) (mGk tk) lb) (mGk tk) (.mk tk tks) lb, 1, 0)
   else if J = false then stuck
   else if afk = tk then (kd aks 0, 1, 0)
   else (tm0, 2, lb)) := by
  rw [← hJ, ← hD]; rfl
 rw [hR]
 have hSm : J = true → D = true → tSame (.mk afk afks) (.mk tk tks) = decide (afk = tk) := fun h1 h2 => same_k (hji h1) (hD.trans h2)
 have hTS := typeSameX_fn (.mk afk afks) (.mk tk tks) G _ _ hafr hty
 refine fn_enter Tryz.func144 rfl Tryz.ntmps144 Tryz.results144 rfl ?_
 intro w0
 refine tS (tR ?_)
 refine sE (step_box_a rfl rfl) rfl (fun b3 => ?_)
 refine sE (step_alloc rfl) rfl (fun b4 => ?_)
 refine sQ (qA rfl) rfl (sQ (qA rfl) rfl (sD (nS (tS (tR (sQ (qF0 rfl) rfl ?_))))))
 refine sL (lBs rfl rfl) rfl rfl ?_
 refine sP (pIN (j := 0) rfl rfl rfl (by simp)) rfl rfl ?_
 refine sL (load_a rfl rfl (hat0 _) rfl) rfl rfl ?_
 refine sE (step_alloc rfl) rfl (fun b15 => ?_)
 refine sS' ?_
 refine sD (nS (tS (tri_block (tS (tR (sQ (qF0 rfl) rfl ?_))))))
 refine sL (lBs rfl rfl) rfl rfl ?_
 refine sP (pure_eql_f rfl rfl (by omega)) rfl rfl ?_
 refine sQ (qM rfl) rfl (sK rfl rfl (sK rfl rfl (sQ (pPf rfl rfl) rfl (sQ (qM rfl) rfl (sK rfl rfl (sK rfl rfl ?_))))))
 refine sK rfl rfl (sK rfl rfl (sQ (pPf rfl rfl) rfl (sQ (qA rfl) rfl (sD (nS (cF rfl ?_))))))
 refine tS (tR (sQ (qF0 rfl) rfl (sL (lBs rfl rfl) rfl rfl ?_)))
 refine sP (pure_eql_f rfl rfl (by omega)) rfl rfl ?_
 refine sQ (qM rfl) rfl (sQ (qF0 rfl) rfl (sL (lBs rfl rfl) rfl rfl ?_))
 refine sP (pure_eql_f rfl rfl (by omega)) rfl rfl ?_
 refine sQ (pPf rfl rfl) rfl (sQ (qM rfl) rfl (sK rfl rfl (sK rfl rfl (sQ (pPf rfl rfl) rfl (sQ (qM rfl) rfl (sK rfl rfl ?_))))))
 refine sK rfl rfl (sK rfl rfl (sK rfl rfl (sQ (pPf rfl rfl) rfl (sQ (qA rfl) rfl (sD (nS ?_))))))
 refine cF rfl ?_
 refine tS (tR (sQ (qF0 rfl) rfl (sL (lBs rfl rfl) rfl rfl ?_)))
 refine sP (pure_neq_f rfl rfl (by omega)) rfl rfl ?_
 refine sQ (qA rfl) rfl (sD (nS (cF rfl ?_)))
 refine tS (tR (sQ (qF0 rfl) rfl (sQ (qF rfl) rfl (sL (lBs rfl rfl) rfl rfl ?_))))
 refine sQ (qF0 rfl) rfl (sQ (qF rfl) rfl (sL (lBs rfl rfl) rfl rfl ?_))
 refine sB (qE rfl rfl) rfl rfl (fun h81 => ?_) (fun h81 => ?_)
 refine sQ (qA rfl) rfl (sD (nS (qT rfl ?_)))
 refine tS (tR (sL (lBa rfl rfl) rfl rfl ?_))
 refine sS' ?_
 refine sQ (qA rfl) rfl (sQ (qA rfl) rfl (sD (nS (tT (rB (rS ?_))))))
 refine rF3 (rC rfl (lBa rfl rfl)) (rT rfl) (rT rfl) ?_
 (exact StpP.mk (by rw [if_pos (by omega)]) hre0)
 refine sQ (qA rfl) rfl (sD (nS (cF rfl ?_)))
 refine tS (tR (sQ (qF0 rfl) rfl (sQ (qF rfl) rfl (sL (lBs rfl rfl) rfl rfl ?_))))
 refine sB (qE rfl rfl) rfl rfl (fun h108 => ?_) (fun h108 => ?_)
 refine sQ (qA rfl) rfl (sD (nS (qT rfl ?_)))
 refine tS (tR (sQ (qF0 rfl) rfl (sQ (qF rfl) rfl (sL (lBs rfl rfl) rfl rfl ?_))))
 (refine seq_imm rfl (ground_fn fk G hfk64) rfl rfl (fun u G1 hle1 hh => ?_); obtain ⟨gc, rfl, hrg⟩ := hh; obtain ⟨pg, cg, eg, rfl, _⟩ := hrg.open; have hgk : tk = 1 := (by omega); replace hre0 := hre0.mono hle1; replace hfr := hfr.mono hle1; replace hty := hty.mono hle1)
 refine sE (step_alloc rfl) rfl (fun b119 => ?_)
 refine sS' ?_
 refine sD (nS (tS (tri_draw mixed rfl ?_)))
 refine any_load (i := 0) (l' := [tt,ff,ff,ff,ff,ff,ff,ff,ff,ff,ff,ff,ff,ff,ff,ff]) rfl npI (load_a rfl rfl (at_blk_all (by repeat first | exact mH | apply mT)) rfl) rfl (by kernel_rfl) rfl rfl ?_
 refine aL 3 rfl (load_a rfl rfl (at_blk_all (by repeat first | exact mH | apply mT)) rfl) rfl ?_
 refine aL 7 rfl (load_a rfl rfl (at_blk_all (by repeat first | exact mH | apply mT)) rfl) rfl ?_
 refine aP 1 rfl (qF0 rfl) rfl ?_
 refine aL 2 rfl (lBa rfl rfl) rfl ?_
 refine aP 4 rfl (qF0 rfl) rfl ?_
 refine aL 5 rfl (lBs rfl rfl) rfl ?_
 refine aP 8 rfl (qF0 rfl) rfl ?_
 refine aL 9 rfl (lBa rfl rfl) rfl ?_
 refine aP 10 rfl (qF0 rfl) rfl ?_
 refine aL 11 rfl (lBs rfl rfl) rfl ?_
 refine aO' 6 ?_
 (refine one_imm rfl rfl (casted_fn _ (.mk fk fks) _ lb G1 _ _ _ ⟨by omega, by omega⟩ hre0 hfr hrg) rfl rfl rfl (fun u G3 hle3 hh => ?_); obtain ⟨wc, rfl, hrw⟩ := hh; have hwl := hrw.len; have hwo := hrw.one; replace hrg := hrg.mono hle3; replace hty := hty.mono hle3)
 refine aO' 12 ?_
 (refine one_imm rfl rfl (casted_fn _ _ (.mk tk tks) lb G3 _ _ _ ⟨by omega, by omega⟩ hrw hrg hty) rfl rfl rfl (fun u G4 hle4 hh => ?_); obtain ⟨xc, rfl, hrx⟩ := hh; have hxl := hrx.len; have hxo := hrx.one)
 refine aO' 13 ?_
 (refine oS rfl rfl rfl rfl hxl hxo rfl rfl ?_ (hu := by exact upd_all hxl.symm))
 refine aP 14 rfl (qA rfl) rfl ?_
 refine aP 15 rfl (qA rfl) rfl ?_
 refine aD' ?_
 refine nS (tT (rB (rS (rF3 (rC rfl (load_a rfl rfl (at_blk_all (by repeat first | exact mH | apply mT)) hxl)) (rT rfl) (rT rfl) ?_))))
 (exact StpP.mk (by rw [if_neg (by omega), if_pos (by omega)]) hrx)
 refine sQ (qA rfl) rfl (sD (nS (cF rfl ?_)))
 refine tS (tR (sQ (qF0 rfl) rfl (sL (lBa rfl rfl) rfl rfl ?_)))
 focus (cases hDD : D; all_goals (rw [hDD] at hGr; refine seq_val rfl hGr rfl rfl ?_))
 refine sQ (pNf rfl) rfl (sQ (qA rfl) rfl (sD (nS (qT rfl ?_))))
 refine tS (tR (sQ (qF0 rfl) rfl (sQ (qF rfl) rfl (sL (lBs rfl rfl) rfl rfl ?_))))
 (refine seq_imm rfl (ground_fn tk G htk64) rfl rfl (fun u G1 hle1 hh => ?_); obtain ⟨gc, rfl, hrg⟩ := hh; obtain ⟨pg, cg, eg, rfl, _⟩ := hrg.open; replace hre0 := hre0.mono hle1; replace hfr := hfr.mono hle1; replace hty := hty.mono hle1)
 refine sE (step_alloc rfl) rfl (fun b171 => ?_)
 refine sS' ?_
 refine sD (nS (tS (tri_draw mixed rfl ?_)))
 refine any_load (i := 0) (l' := [tt,ff,ff,ff,ff,ff,ff,ff,ff,ff,ff,ff,ff,ff,ff,ff]) rfl npI (load_a rfl rfl (at_blk_all (by repeat first | exact mH | apply mT)) rfl) rfl (by kernel_rfl) rfl rfl ?_
 refine aL 3 rfl (load_a rfl rfl (at_blk_all (by repeat first | exact mH | apply mT)) rfl) rfl ?_
 refine aL 7 rfl (load_a rfl rfl (at_blk_all (by repeat first | exact mH | apply mT)) rfl) rfl ?_
 refine aP 1 rfl (qF0 rfl) rfl ?_
 refine aL 2 rfl (lBa rfl rfl) rfl ?_
 refine aP 4 rfl (qF0 rfl) rfl ?_
 refine aL 5 rfl (lBs rfl rfl) rfl ?_
 refine aP 8 rfl (qF0 rfl) rfl ?_
 refine aL 9 rfl (lBa rfl rfl) rfl ?_
 refine aP 10 rfl (qF0 rfl) rfl ?_
 refine aL 11 rfl (lBs rfl rfl) rfl ?_
 refine aO' 6 ?_
 (refine one_imm rfl rfl (casted_fn _ (.mk fk fks) _ lb G1 _ _ _ ⟨by omega, by omega⟩ hre0 hfr hrg) rfl rfl rfl (fun u G3 hle3 hh => ?_); obtain ⟨wc, rfl, hrw⟩ := hh; have hwl := hrw.len; have hwo := hrw.one; replace hrg := hrg.mono hle3; replace hty := hty.mono hle3)
 refine aO' 12 ?_
 (refine one_imm rfl rfl (casted_fn _ _ (.mk tk tks) lb G3 _ _ _ ⟨by omega, by omega⟩ hrw hrg hty) rfl rfl rfl (fun u G4 hle4 hh => ?_); obtain ⟨xc, rfl, hrx⟩ := hh; have hxl := hrx.len; have hxo := hrx.one)
 refine aO' 13 ?_
 (refine oS rfl rfl rfl rfl hxl hxo rfl rfl ?_ (hu := by exact upd_all hxl.symm))
 refine aP 14 rfl (qA rfl) rfl ?_
 refine aP 15 rfl (qA rfl) rfl ?_
 refine aD' ?_
 refine nS (tT (rB (rS (rF3 (rC rfl (load_a rfl rfl (at_blk_all (by repeat first | exact mH | apply mT)) hxl)) (rT rfl) (rT rfl) ?_))))
 (exact StpP.mk (by rw [if_neg (by omega), if_neg (by omega), if_pos rfl]) hrx)
 refine sQ (pNt rfl) rfl (sQ (qA rfl) rfl (sD (nS (cF rfl ?_))))
 refine tS (tR (sL (lBa rfl rfl) rfl rfl ?_))
 focus (cases hJJ : J; all_goals (rw [hJJ] at hI; refine seq_val rfl hI rfl rfl ?_))
 refine sQ (pNf rfl) rfl (sQ (qA rfl) rfl (sD (nS (qT rfl ?_))))
 refine tS (tR (sQ (pBd rfl rfl) rfl (sS' ?_)))
 refine sQ (qA rfl) rfl (sQ (qA rfl) rfl (sD (nS (tT (rB (rS ?_))))))
 refine rF3 (rC rfl (lBa rfl rfl)) (rT rfl) (rT rfl) ?_
 (exact StpP.mk (by rw [if_neg (by omega), if_neg (by omega), if_neg (by decide), if_pos rfl]; rfl) (tm0_r _))
 refine sQ (pNt rfl) rfl (sQ (qA rfl) rfl (sD (nS (cF rfl ?_))))
 refine tS (tR (sQ (qF0 rfl) rfl (sL (lBa rfl rfl) rfl rfl ?_)))
 refine sQ (qF0 rfl) rfl (sL (lBa rfl rfl) rfl rfl ?_)
 focus (rw [hSm hJJ hDD] at hTS; by_cases hfk : afk = tk; rw [decide_eq_true hfk] at hTS; rotate_left; rw [decide_eq_false hfk] at hTS; rotate_left; all_goals (refine seq_val rfl hTS rfl rfl ?_))
 refine sQ (qA rfl) rfl (sD (nS (qT rfl ?_)))
 refine tS (tR (sQ (qF0 rfl) rfl (sL (lBs rfl rfl) rfl rfl ?_)))
 (have hq1 := h14 (hjk (by assumption)); obtain ⟨bq, oq, e3, rfl, hl3, hat3, hre3, hgb3⟩ := hasl.kidTm hakl (i := 0) (by omega) (by omega); have ho3 := hre3.one; refine sP (pIN (j := 0) rfl rfl rfl (by omega)) rfl rfl ?_)
 refine sL (load_a rfl rfl (hat3 _) hl3) rfl rfl ?_
 refine sS rfl rfl rfl hl3 ho3 rfl ?_ (hu := by exact upd_all hl3.symm)
 refine sQ (qA rfl) rfl (sQ (qA rfl) rfl (sD (nS (tT (rB (rS ?_))))))
 refine rF3 (rC rfl (load_a rfl rfl (at_blk_all (by repeat first | exact mH | apply mT)) hl3)) (rT rfl) (rT rfl) ?_
 (exact StpP.mk (by rw [if_neg (by omega), if_neg (by omega), if_neg (by decide), if_neg (by decide), if_pos hfk, kd_at (by omega)]) hre3)
 refine sQ (qA rfl) rfl (sD (nS (cF rfl ?_)))
 refine tK (nrm_block (nS (tS (tri_draw mixed rfl ?_))))
 refine any_pure (i := 0) (l' := [tt,ff,ff,ff,ff,ff]) rfl npI (pBd rfl rfl) rfl (by kernel_rfl) rfl rfl ?_
 refine aP 1 rfl (qF0 rfl) rfl ?_
 refine aL 2 rfl (lBs rfl rfl) rfl ?_
 refine aO' 3 ?_
 refine oT' rfl ?_
 refine aP 4 rfl (qA rfl) rfl ?_
 refine aP 5 rfl (qA rfl) rfl ?_
 refine aD' ?_
 refine nS (tT (rF3 (rC rfl (lBa rfl rfl)) (rT rfl) (rT rfl) ?_))
 (exact StpP.mk (by rw [if_neg (by omega), if_neg (by omega), if_neg (by decide), if_neg (by decide), if_neg hfk]) (tm0_r _))
theorem crule78_fn (k : Int) (a b : Tm) (nm : ByteArray) (num : Int) (ty fr : Ty) (lb : Int) (G : IM) (cells : List Value) (hk1 : k = 7 ∨ k = 8) (hca : cv a) (hr : RTm G (.mk k nm num ty fr lb [a, b]) cells) : Fn Tryz.prog 144 [.agg ⟨cells⟩] [] G (StpP (mCRule k ty fr lb [a, b])) := by
 have hR : mCRule k ty fr lb [a, b] = stuck := by unfold mCRule; rw [if_neg (by omega), if_neg (by omega), if_neg (by omega)]
 rw [hR]
 obtain ⟨ak, anm, anum, ⟨atk, atks⟩, ⟨afk, afks⟩, alb, aks⟩ := a
 obtain ⟨hN, hkk⟩ := hca.node
 have hops := hN.ops
 have hbl := hN.lbB
 have htyA := hN.tyA
 have hfrA := hN.frA
 rw [tAr] at htyA hfrA
 have h14 : ak = 14 → aks.length = 1 := fun h => by rw [h] at hops; have : tmOps 14 = 1 := rfl; omega
 obtain ⟨tk, tks⟩ := ty
 obtain ⟨fk, fks⟩ := fr
 obtain ⟨pt, ct, pf, cf, p, c, es, rfl, hk, hnum, hlb, hty, hfr, hsl, hkl⟩ := hr.open9
 obtain ⟨bx, ox, e0, rfl, hl0, hat0, hre0, hgb0⟩ := hsl.kidTm hkl (i := 0) (by simp) (by simp)
 replace hre0 : RTm G (Tm.mk ak anm anum (.mk atk atks) (.mk afk afks) alb aks) e0 := hre0
 have hP : Fn Tryz.prog 69 [.agg ⟨e0⟩] [] G (Val (.bool (decide (ak = 14 ∧ afk = atk ∧ (atk = 4 ∨ atk = 5)))) G) := isProxy_fn _ G _ hre0
 have hI := isInjection_fn _ G _ hre0
 have ho0 := hre0.one
 obtain ⟨apt, act, apf, acf, ap, ac, aes, rfl, hak, hanum, halb, haty, hafr, hasl, hakl⟩ := hre0.open9
 have hfk64 : I64 fk := by obtain ⟨_, _, _, _, h, _⟩ := hfr.open; exact h
 have htk64 : I64 tk := by obtain ⟨_, _, _, _, h, _⟩ := hty.open; exact h
 obtain ⟨tes, htS, htL⟩ := haty.kids
 obtain ⟨fes, hfS, hfL⟩ := hafr.kids
 simp only [Ty.ks] at htS htL hfS hfL
 refine fn_enter Tryz.func144 rfl Tryz.ntmps144 Tryz.results144 rfl ?_
 intro w0
 refine tS (tR ?_)
 refine sE (step_box_a rfl rfl) rfl (fun b3 => ?_)
 refine sE (step_alloc rfl) rfl (fun b4 => ?_)
 refine sQ (qA rfl) rfl (sQ (qA rfl) rfl (sD (nS (tS (tR (sQ (qF0 rfl) rfl ?_))))))
 refine sL (lBs rfl rfl) rfl rfl ?_
 refine sP (pIN (j := 0) rfl rfl rfl (by simp)) rfl rfl ?_
 refine sL (load_a rfl rfl (hat0 _) rfl) rfl rfl ?_
 refine sE (step_alloc rfl) rfl (fun b15 => ?_)
 refine sS' ?_
 refine sD (nS (tS (tri_block (tS (tR (sQ (qF0 rfl) rfl ?_))))))
 refine sL (lBs rfl rfl) rfl rfl ?_
 refine sP (pure_eql_f rfl rfl (by omega)) rfl rfl ?_
 refine sQ (qM rfl) rfl (sK rfl rfl (sK rfl rfl (sQ (pPf rfl rfl) rfl (sQ (qM rfl) rfl (sK rfl rfl (sK rfl rfl ?_))))))
 refine sK rfl rfl (sK rfl rfl (sQ (pPf rfl rfl) rfl (sQ (qA rfl) rfl (sD (nS (cF rfl ?_))))))
 refine tS (tR (sQ (qF0 rfl) rfl (sL (lBs rfl rfl) rfl rfl ?_)))
 refine sP (pure_eql_f rfl rfl (by omega)) rfl rfl ?_
 refine sQ (qM rfl) rfl (sQ (qF0 rfl) rfl (sL (lBs rfl rfl) rfl rfl ?_))
 refine sP (pure_eql_f rfl rfl (by omega)) rfl rfl ?_
 refine sQ (pPf rfl rfl) rfl (sQ (qM rfl) rfl (sK rfl rfl (sK rfl rfl (sQ (pPf rfl rfl) rfl (sQ (qM rfl) rfl (sK rfl rfl ?_))))))
 refine sK rfl rfl (sK rfl rfl (sK rfl rfl (sQ (pPf rfl rfl) rfl (sQ (qA rfl) rfl (sD (nS ?_))))))
 refine cF rfl ?_
 refine tS (tR (sQ (qF0 rfl) rfl (sL (lBs rfl rfl) rfl rfl ?_)))
 refine sP (pure_neq_t rfl rfl (by omega)) rfl rfl ?_
 refine sQ (qA rfl) rfl (sD (nS (qT rfl ?_)))
 refine tS (tR (sQ (pBd rfl rfl) rfl (sS' ?_)))
 refine sQ (qA rfl) rfl (sQ (qA rfl) rfl (sD (nS (tT (rB (rS ?_))))))
 refine rF3 (rC rfl (lBa rfl rfl)) (rT rfl) (rT rfl) ?_
 (exact StpP.mk rfl (tm0_r _))
theorem crule9_fn (a b c0 : Tm) (nm : ByteArray) (num : Int) (ty fr : Ty) (lb : Int) (G : IM) (cells : List Value) (hca : cv a) (hr : RTm G (.mk 9 nm num ty fr lb [a, b, c0]) cells) : Fn Tryz.prog 144 [.agg ⟨cells⟩] [] G (StpP (mCRule 9 ty fr lb [a, b, c0])) := by
 have hR : mCRule 9 ty fr lb [a, b, c0] = stuck := by unfold mCRule; rw [if_neg (by omega), if_neg (by omega), if_neg (by omega)]
 rw [hR]
 obtain ⟨ak, anm, anum, ⟨atk, atks⟩, ⟨afk, afks⟩, alb, aks⟩ := a
 obtain ⟨hN, hkk⟩ := hca.node
 have hops := hN.ops
 have hbl := hN.lbB
 have htyA := hN.tyA
 have hfrA := hN.frA
 rw [tAr] at htyA hfrA
 have h14 : ak = 14 → aks.length = 1 := fun h => by rw [h] at hops; have : tmOps 14 = 1 := rfl; omega
 obtain ⟨tk, tks⟩ := ty
 obtain ⟨fk, fks⟩ := fr
 obtain ⟨pt, ct, pf, cf, p, c, es, rfl, hk, hnum, hlb, hty, hfr, hsl, hkl⟩ := hr.open9
 obtain ⟨bx, ox, e0, rfl, hl0, hat0, hre0, hgb0⟩ := hsl.kidTm hkl (i := 0) (by simp) (by simp)
 replace hre0 : RTm G (Tm.mk ak anm anum (.mk atk atks) (.mk afk afks) alb aks) e0 := hre0
 have hP : Fn Tryz.prog 69 [.agg ⟨e0⟩] [] G (Val (.bool (decide (ak = 14 ∧ afk = atk ∧ (atk = 4 ∨ atk = 5)))) G) := isProxy_fn _ G _ hre0
 have hI := isInjection_fn _ G _ hre0
 have ho0 := hre0.one
 obtain ⟨apt, act, apf, acf, ap, ac, aes, rfl, hak, hanum, halb, haty, hafr, hasl, hakl⟩ := hre0.open9
 have hfk64 : I64 fk := by obtain ⟨_, _, _, _, h, _⟩ := hfr.open; exact h
 have htk64 : I64 tk := by obtain ⟨_, _, _, _, h, _⟩ := hty.open; exact h
 obtain ⟨tes, htS, htL⟩ := haty.kids
 obtain ⟨fes, hfS, hfL⟩ := hafr.kids
 simp only [Ty.ks] at htS htL hfS hfL
 refine fn_enter Tryz.func144 rfl Tryz.ntmps144 Tryz.results144 rfl ?_
 intro w0
 refine tS (tR ?_)
 refine sE (step_box_a rfl rfl) rfl (fun b3 => ?_)
 refine sE (step_alloc rfl) rfl (fun b4 => ?_)
 refine sQ (qA rfl) rfl (sQ (qA rfl) rfl (sD (nS (tS (tR (sQ (qF0 rfl) rfl ?_))))))
 refine sL (lBs rfl rfl) rfl rfl ?_
 refine sP (pIN (j := 0) rfl rfl rfl (by simp)) rfl rfl ?_
 refine sL (load_a rfl rfl (hat0 _) rfl) rfl rfl ?_
 refine sE (step_alloc rfl) rfl (fun b15 => ?_)
 refine sS' ?_
 refine sD (nS (tS (tri_block (tS (tR (sQ (qF0 rfl) rfl ?_))))))
 refine sL (lBs rfl rfl) rfl rfl ?_
 refine sP (pure_eql_f rfl rfl (by omega)) rfl rfl ?_
 refine sQ (qM rfl) rfl (sK rfl rfl (sK rfl rfl (sQ (pPf rfl rfl) rfl (sQ (qM rfl) rfl (sK rfl rfl (sK rfl rfl ?_))))))
 refine sK rfl rfl (sK rfl rfl (sQ (pPf rfl rfl) rfl (sQ (qA rfl) rfl (sD (nS (cF rfl ?_))))))
 refine tS (tR (sQ (qF0 rfl) rfl (sL (lBs rfl rfl) rfl rfl ?_)))
 refine sP (pure_eql_f rfl rfl (by omega)) rfl rfl ?_
 refine sQ (qM rfl) rfl (sQ (qF0 rfl) rfl (sL (lBs rfl rfl) rfl rfl ?_))
 refine sP (pure_eql_f rfl rfl (by omega)) rfl rfl ?_
 refine sQ (pPf rfl rfl) rfl (sQ (qM rfl) rfl (sK rfl rfl (sK rfl rfl (sQ (pPf rfl rfl) rfl (sQ (qM rfl) rfl (sK rfl rfl ?_))))))
 refine sK rfl rfl (sK rfl rfl (sK rfl rfl (sQ (pPf rfl rfl) rfl (sQ (qA rfl) rfl (sD (nS ?_))))))
 refine cF rfl ?_
 refine tS (tR (sQ (qF0 rfl) rfl (sL (lBs rfl rfl) rfl rfl ?_)))
 refine sP (pure_neq_t rfl rfl (by omega)) rfl rfl ?_
 refine sQ (qA rfl) rfl (sD (nS (qT rfl ?_)))
 refine tS (tR (sQ (pBd rfl rfl) rfl (sS' ?_)))
 refine sQ (qA rfl) rfl (sQ (qA rfl) rfl (sD (nS (tT (rB (rS ?_))))))
 refine rF3 (rC rfl (lBa rfl rfl)) (rT rfl) (rT rfl) ?_
 (exact StpP.mk rfl (tm0_r _))
theorem rule1_fn (nm : ByteArray) (num : Int) (ty fr : Ty) (lb : Int) (G : IM) (cells : List Value) (hr : RTm G (.mk 1 nm num ty fr lb []) cells) : Fn Tryz.prog 143 [.agg ⟨cells⟩] [] G (RulP (mRule 1 [])) := by
 rw [show mRule 1 [] = none from rfl]
 obtain ⟨tk, tks⟩ := ty
 obtain ⟨fk, fks⟩ := fr
 obtain ⟨pt, ct, pf, cf, p, c, es, rfl, hk, hnum, hlb, hty, hfr, hsl, hkl⟩ := hr.open9
 have hL : ([] : List Tm).length = 0 := rfl
 refine fn_enter Tryz.func143 rfl Tryz.ntmps143 Tryz.results143 rfl ?_
 intro w0
 refine tS (tR ?_)
 refine sE (step_box_a rfl rfl) rfl (fun b3 => ?_)
 refine sE (step_alloc rfl) rfl (fun b4 => ?_)
 refine sQ (qA rfl) rfl (sD (nS (tS (tR (sQ (pBd rfl rfl) rfl ?_)))))
 refine sE (step_alloc rfl) rfl (fun b11 => ?_)
 refine sS' ?_
 refine sD (nS (tS (tS (tR (sQ (qF0 rfl) rfl (sL (lBs rfl rfl) rfl rfl ?_))))))
 refine sQ (pLn rfl rfl) rfl (sP (pure_gtr_f rfl rfl (by omega)) rfl rfl ?_)
 refine sD (nS (cF rfl ?_))
 refine tK (nS (tS (tS (tR (sQ (qF0 rfl) rfl (sL (lBs rfl rfl) rfl rfl ?_))))))
 refine sD (nS (tri_block (tS (tR (sP (pure_eql_f rfl rfl (by omega)) rfl rfl ?_)))))
 refine sQ (qA rfl) rfl (sD (nS (cF rfl ?_)))
 refine tS (tS (tR (sP (pure_eql_f rfl rfl (by omega)) rfl rfl ?_)))
 refine sQ (qA rfl) rfl (sD (nS (cF rfl ?_)))
 refine tR (sP (pure_eql_f rfl rfl (by omega)) rfl rfl ?_)
 refine sQ (qA rfl) rfl (sD (nS (cF rfl ?_)))
 refine tS (tR (sP (pure_eql_f rfl rfl (by omega)) rfl rfl ?_))
 refine sQ (qA rfl) rfl (sD (nS (cF rfl ?_)))
 refine tS (tS (tR (sP (pure_eql_f rfl rfl (by omega)) rfl rfl ?_)))
 refine sQ (qA rfl) rfl (sD (nS (cF rfl ?_)))
 refine tR (sP (pure_eql_f rfl rfl (by omega)) rfl rfl ?_)
 refine sQ (qA rfl) rfl (sD (nS (cF rfl ?_)))
 refine tK (nrm_block (nS (tS (tR (sQ (pBd rfl rfl) rfl (sS' ?_))))))
 refine sQ (qA rfl) rfl (sD (nS (tT (rF2 (rC rfl (lBa rfl rfl)) (rT rfl) ?_))))
 (exact RulP.no rfl (tm0_r _))
theorem rule14_fn (a : Tm) (nm : ByteArray) (num : Int) (ty fr : Ty) (lb : Int) (G : IM) (cells : List Value) (hr : RTm G (.mk 14 nm num ty fr lb [a]) cells) : Fn Tryz.prog 143 [.agg ⟨cells⟩] [] G (RulP (mRule 14 [a])) := by
 rw [show mRule 14 [a] = none from rfl]
 obtain ⟨tk, tks⟩ := ty
 obtain ⟨fk, fks⟩ := fr
 obtain ⟨pt, ct, pf, cf, p, c, es, rfl, hk, hnum, hlb, hty, hfr, hsl, hkl⟩ := hr.open9
 obtain ⟨bx, ox, e0, rfl, hl0, hat0, hre0, hgb0⟩ := hsl.kidTm hkl (i := 0) (by simp) (by simp)
 have ho0 : e0.all (·.oneCell') = true := (show RTm G a e0 from hre0).one
 refine fn_enter Tryz.func143 rfl Tryz.ntmps143 Tryz.results143 rfl ?_
 intro w0
 refine tS (tR ?_)
 refine sE (step_box_a rfl rfl) rfl (fun b3 => ?_)
 refine sE (step_alloc rfl) rfl (fun b4 => ?_)
 refine sQ (qA rfl) rfl (sD (nS (tS (tR (sQ (pBd rfl rfl) rfl ?_)))))
 refine sE (step_alloc rfl) rfl (fun b11 => ?_)
 refine sS' ?_
 refine sD (nS (tS (tS (tR (sQ (qF0 rfl) rfl (sL (lBs rfl rfl) rfl rfl ?_))))))
 refine sQ (pLn rfl rfl) rfl (sB (pure_gtr rfl rfl) rfl rfl (fun h21 => ?_) (fun h21 => ?_))
 refine sD (nS (qT rfl ?_))
 refine tR (sQ (qF0 rfl) rfl (sL (lBs rfl rfl) rfl rfl ?_))
 refine sP (pIN (j := 0) rfl rfl rfl (by simp)) rfl rfl ?_
 refine sL (load_a rfl rfl (hat0 _) hl0) rfl rfl ?_
 refine sS rfl rfl rfl hl0 ho0 rfl ?_ (hu := by exact upd_all hl0.symm)
 refine sD (nS (tS (tS (tR (sQ (qF0 rfl) rfl (sL (lBs rfl rfl) rfl rfl ?_))))))
 refine sD (nS (tri_block (tS (tR (sP (pure_eql_f rfl rfl (by omega)) rfl rfl ?_)))))
 refine sQ (qA rfl) rfl (sD (nS (cF rfl ?_)))
 refine tS (tS (tR (sP (pure_eql_f rfl rfl (by omega)) rfl rfl ?_)))
 refine sQ (qA rfl) rfl (sD (nS (cF rfl ?_)))
 refine tR (sP (pure_eql_f rfl rfl (by omega)) rfl rfl ?_)
 refine sQ (qA rfl) rfl (sD (nS (cF rfl ?_)))
 refine tS (tR (sP (pure_eql_f rfl rfl (by omega)) rfl rfl ?_))
 refine sQ (qA rfl) rfl (sD (nS (cF rfl ?_)))
 refine tS (tS (tR (sP (pure_eql_f rfl rfl (by omega)) rfl rfl ?_)))
 refine sQ (qA rfl) rfl (sD (nS (cF rfl ?_)))
 refine tR (sP (pure_eql_f rfl rfl (by omega)) rfl rfl ?_)
 refine sQ (qA rfl) rfl (sD (nS (cF rfl ?_)))
 refine tK (nrm_block (nS (tS (tR (sQ (pBd rfl rfl) rfl (sS' ?_))))))
 refine sQ (qA rfl) rfl (sD (nS (tT (rF2 (rC rfl (lBa rfl rfl)) (rT rfl) ?_))))
 (exact RulP.no rfl (tm0_r _))
 refine sD (nS (cF rfl ?_))
 refine tK (nS (tS (tS (tR (sQ (qF0 rfl) rfl (sL (lBs rfl rfl) rfl rfl ?_))))))
 refine sD (nS (tri_block (tS (tR (sP (pure_eql_f rfl rfl (by omega)) rfl rfl ?_)))))
 refine sQ (qA rfl) rfl (sD (nS (cF rfl ?_)))
 refine tS (tS (tR (sP (pure_eql_f rfl rfl (by omega)) rfl rfl ?_)))
 refine sQ (qA rfl) rfl (sD (nS (cF rfl ?_)))
 refine tR (sP (pure_eql_f rfl rfl (by omega)) rfl rfl ?_)
 refine sQ (qA rfl) rfl (sD (nS (cF rfl ?_)))
 refine tS (tR (sP (pure_eql_f rfl rfl (by omega)) rfl rfl ?_))
 refine sQ (qA rfl) rfl (sD (nS (cF rfl ?_)))
 refine tS (tS (tR (sP (pure_eql_f rfl rfl (by omega)) rfl rfl ?_)))
 refine sQ (qA rfl) rfl (sD (nS (cF rfl ?_)))
 refine tR (sP (pure_eql_f rfl rfl (by omega)) rfl rfl ?_)
 refine sQ (qA rfl) rfl (sD (nS (cF rfl ?_)))
 refine tK (nrm_block (nS (tS (tR (sQ (pBd rfl rfl) rfl (sS' ?_))))))
 refine sQ (qA rfl) rfl (sD (nS (tT (rF2 (rC rfl (lBa rfl rfl)) (rT rfl) ?_))))
 (exact RulP.no rfl (tm0_r _))
theorem ks1 {ks : List Tm} (h : ks.length = 1) : ∃ a, ks = [a] := by
 match ks, h with
 | [a], _ => exact ⟨a, rfl⟩
theorem ks2 {ks : List Tm} (h : ks.length = 2) : ∃ a b, ks = [a, b] := by
 match ks, h with
 | [a, b], _ => exact ⟨a, b, rfl⟩
theorem ks3 {ks : List Tm} (h : ks.length = 3) : ∃ a b c, ks = [a, b, c] := by
 match ks, h with
 | [a, b, c], _ => exact ⟨a, b, c, rfl⟩
/-- The rules, whatever the node. -/
theorem ruleAll {k : Int} {nm : ByteArray} {num : Int} {ty fr : Ty} {lb : Int} {ks : List Tm} {G : IM} {cells : List Value} (hc : cv (.mk k nm num ty fr lb ks)) (hk : k = 1 ∨ k = 6 ∨ k = 7 ∨ k = 8 ∨ k = 9 ∨ k = 11 ∨ k = 12 ∨ k = 14) (hr : RTm G (.mk k nm num ty fr lb ks) cells) :
  Fn Tryz.prog 143 [.agg ⟨cells⟩] [] G (RulP (mRule k ks)) := by
 obtain ⟨hN, hkk⟩ := hc.node
 have hops := hN.ops
 rcases hk with rfl | rfl | rfl | rfl | rfl | rfl | rfl | rfl
 ·obtain rfl : ks = [] := List.length_eq_zero_iff.1 (by have : tmOps 1 = 0 := rfl; omega)
  exact rule1_fn _ _ _ _ _ _ _ hr
 ·obtain ⟨a, b, rfl⟩ := ks2 (ks := ks) (by have : tmOps 6 = 2 := rfl; omega)
  exact rule6_fn a b _ _ _ _ _ _ _ (hkk a (by simp)) hr
 ·obtain ⟨a, b, rfl⟩ := ks2 (ks := ks) (by have : tmOps 7 = 2 := rfl; omega)
  exact rule78_fn 7 a b _ _ _ _ _ _ _ (.inl rfl) (hkk a (by simp)) (hkk b (by simp)) hr
 ·obtain ⟨a, b, rfl⟩ := ks2 (ks := ks) (by have : tmOps 8 = 2 := rfl; omega)
  exact rule78_fn 8 a b _ _ _ _ _ _ _ (.inr rfl) (hkk a (by simp)) (hkk b (by simp)) hr
 ·obtain ⟨a, b, c, rfl⟩ := ks3 (ks := ks) (by have : tmOps 9 = 3 := rfl; omega)
  exact rule9_fn a b c _ _ _ _ _ _ _ hr
 ·obtain ⟨a, rfl⟩ := ks1 (ks := ks) (by have : tmOps 11 = 1 := rfl; omega)
  exact rule11_fn 11 a _ _ _ _ _ _ _ (.inl rfl) (hkk a (by simp)) hr
 ·obtain ⟨a, rfl⟩ := ks1 (ks := ks) (by have : tmOps 12 = 1 := rfl; omega)
  exact rule11_fn 12 a _ _ _ _ _ _ _ (.inr rfl) (hkk a (by simp)) hr
 ·obtain ⟨a, rfl⟩ := ks1 (ks := ks) (by have : tmOps 14 = 1 := rfl; omega)
  exact rule14_fn a _ _ _ _ _ _ _ hr
theorem castAll {k : Int} {nm : ByteArray} {num : Int} {ty fr : Ty} {lb : Int} {ks : List Tm} {G : IM} {cells : List Value} (hc : cv (.mk k nm num ty fr lb ks)) (hk : k = 6 ∨ k = 7 ∨ k = 8 ∨ k = 9 ∨ k = 11 ∨ k = 12 ∨ k = 14) (hr : RTm G (.mk k nm num ty fr lb ks) cells) :
  Fn Tryz.prog 144 [.agg ⟨cells⟩] [] G (StpP (mCRule k ty fr lb ks)) := by
 obtain ⟨hN, hkk⟩ := hc.node
 have hops := hN.ops
 rcases hk with rfl | rfl | rfl | rfl | rfl | rfl | rfl
 ·obtain ⟨a, b, rfl⟩ := ks2 (ks := ks) (by have : tmOps 6 = 2 := rfl; omega)
  exact crule6_fn a b _ _ _ _ _ _ _ (hkk a (by simp)) hr
 ·obtain ⟨a, b, rfl⟩ := ks2 (ks := ks) (by have : tmOps 7 = 2 := rfl; omega)
  exact crule78_fn 7 a b _ _ _ _ _ _ _ (.inl rfl) (hkk a (by simp)) hr
 ·obtain ⟨a, b, rfl⟩ := ks2 (ks := ks) (by have : tmOps 8 = 2 := rfl; omega)
  exact crule78_fn 8 a b _ _ _ _ _ _ _ (.inr rfl) (hkk a (by simp)) hr
 ·obtain ⟨a, b, c, rfl⟩ := ks3 (ks := ks) (by have : tmOps 9 = 3 := rfl; omega)
  exact crule9_fn a b c _ _ _ _ _ _ _ (hkk a (by simp)) hr
 ·obtain ⟨a, rfl⟩ := ks1 (ks := ks) (by have : tmOps 11 = 1 := rfl; omega)
  exact crule11_fn 11 a _ _ _ _ _ _ _ (.inl rfl) (hkk a (by simp)) hr
 ·obtain ⟨a, rfl⟩ := ks1 (ks := ks) (by have : tmOps 12 = 1 := rfl; omega)
  exact crule11_fn 12 a _ _ _ _ _ _ _ (.inr rfl) (hkk a (by simp)) hr
 ·obtain ⟨a, rfl⟩ := ks1 (ks := ks) (by have : tmOps 14 = 1 := rfl; omega)
  exact crule14_fn a _ _ _ _ _ _ _ (hkk a (by simp)) hN.lbB hr
/- The operands' steps. -/
theorem stpL_cons (n : Nat) (t : Tm) (ts : List Tm) : mStpL (n + 1) (t :: ts) = if mVal t = true then (match mStpL n ts with | some (us, c, l) => some (t :: us, c, l) | none => none) else some ((mStp t).1 :: ts, (mStp t).2.1, (mStp t).2.2) := by
 rw [mStpL]; rfl
theorem stpL_none : ∀ (n : Nat) (ks : List Tm), (∀ i, i < n → (h : i < ks.length) → mVal ks[i] = true) → mStpL n ks = none
 | n, [], _ => by cases n <;> rfl
 | 0, t :: ts, _ => rfl
 | n + 1, t :: ts, h => by
  rw [stpL_cons, if_pos (show mVal t = true from h 0 (by omega) (by simp)), stpL_none n ts (fun i hi hl => h (i + 1) (by omega) (by simpa using hl))]
theorem stpL_at : ∀ (n : Nat) (ks : List Tm) (i : Nat) (hi : i < ks.length), i < n → (∀ j, j < i → (h : j < ks.length) → mVal ks[j] = true) → mVal ks[i] = false → mStpL n ks = some (ks.set i (mStp ks[i]).1, (mStp ks[i]).2.1, (mStp ks[i]).2.2)
 | n, [], i, hi, _, _, _ => by simp at hi
 | 0, t :: ts, i, _, hn, _, _ => by omega
 | n + 1, t :: ts, 0, _, _, _, hv => by
  rw [stpL_cons, if_neg (by rw [show mVal t = false from hv]; decide)]; rfl
 | n + 1, t :: ts, i + 1, hi, hn, hj, hv => by
  rw [stpL_cons, if_pos (show mVal t = true from hj 0 (by omega) (by simp)), stpL_at n ts i (by simpa using hi) (by omega) (fun j hji hl => hj (j + 1) (by omega) (by simpa using hl)) hv]
  rfl
theorem red_lab {k : Int} {ty fr : Ty} {lb : Int} {ks : List Tm} (h : (mRed k ty fr lb ks).2.1 = 1) : (mRed k ty fr lb ks).2.2 = 0 := by
 revert h
 unfold mRed stuck
 repeat' split
 all_goals first | (intro _; rfl) | (intro h; exfalso; revert h; simp)
theorem stp_lab {k : Int} {nm : ByteArray} {num : Int} {ty fr : Ty} {lb : Int} {ks : List Tm} (h : (mStp (.mk k nm num ty fr lb ks)).2.1 = 1) : (mStp (.mk k nm num ty fr lb ks)).2.2 = 0 := by
 rw [mStp] at h ⊢
 cases hL : mStpL (if k = 9 then 1 else ks.length) ks with
 | none => rw [hL] at h; exact red_lab h
 | some p =>
  obtain ⟨us, c, l⟩ := p
  rw [hL] at h
  simp only at h ⊢
  by_cases hc : c = 1
  ·rw [if_pos hc]
  ·rw [if_neg hc] at h; exact absurd h hc
theorem stp_lab' {t : Tm} (h : (mStp t).2.1 = 1) : (mStp t).2.2 = 0 := by cases t; exact stp_lab h
/-- The step at an operand. -/
theorem stp_kid {k : Int} {nm : ByteArray} {num : Int} {ty fr : Ty} {lb : Int} {ks : List Tm} {i : Nat} (hi : i < ks.length) (hn : i < (if k = 9 then 1 else ks.length)) (hj : ∀ j, j < i → (h : j < ks.length) → mVal ks[j] = true) (hv : mVal ks[i] = false) :
  (mStp (.mk k nm num ty fr lb ks)).2.1 = (mStp ks[i]).2.1 ∧ (mStp (.mk k nm num ty fr lb ks)).2.2 = (mStp ks[i]).2.2 ∧ ((mStp ks[i]).2.1 = 1 → (mStp (.mk k nm num ty fr lb ks)).1 = .mk k nm num ty fr lb (ks.set i (mStp ks[i]).1)) := by
 rw [mStp, stpL_at _ ks i hi hn hj hv]
 simp only
 by_cases hc : (mStp ks[i]).2.1 = 1
 ·rw [if_pos hc]
  exact ⟨hc.symm, (stp_lab' hc).symm, fun _ => rfl⟩
 ·rw [if_neg hc]
  exact ⟨rfl, rfl, fun h => absurd h hc⟩
theorem stp_red {k : Int} {nm : ByteArray} {num : Int} {ty fr : Ty} {lb : Int} {ks : List Tm} (h : ∀ i, i < (if k = 9 then 1 else ks.length) → (hl : i < ks.length) → mVal ks[i] = true) : mStp (.mk k nm num ty fr lb ks) = match mRule k ks with | some u => (u, 1, 0) | none => mCRule k ty fr lb ks := by
 rw [mStp, stpL_none _ _ h]
 exact red_rule k ty fr lb ks
/-- Which nodes are no values, though their operands are. -/
theorem tmOps_rng {k : Int} (h : 0 ≤ tmOps k) : 1 ≤ k ∧ k ≤ 14 := by
 by_cases hk : 1 ≤ k ∧ k ≤ 14
 ·exact hk
 ·rw [tmOps_no hk] at h; omega
theorem stp_kinds {k : Int} {nm : ByteArray} {num : Int} {ty fr : Ty} {lb : Int} {ks : List Tm} (hc : cv (.mk k nm num ty fr lb ks)) (hv : mVal (.mk k nm num ty fr lb ks) = false) (h : ∀ i, i < (if k = 9 then 1 else ks.length) → (hl : i < ks.length) → mVal ks[i] = true) : k = 1 ∨ k = 6 ∨ k = 7 ∨ k = 8 ∨ k = 9 ∨ k = 11 ∨ k = 12 ∨ k = 14 := by
 obtain ⟨hN, _⟩ := hc.node
 have hr := tmOps_rng (by rw [hN.ops]; omega : 0 ≤ tmOps k)
 have h13 := hN.ne
 have h25 : ¬(k = 2 ∨ k = 3 ∨ k = 4 ∨ k = 5) := by
  intro hk
  rw [mVal, if_neg (by omega)] at hv
  rw [decide_eq_true hk] at hv
  cases hv
 have h10 : k ≠ 10 := by
  rintro rfl
  rw [val_yes (.inl rfl), List.all_eq_false] at hv
  obtain ⟨t, ht, hn⟩ := hv
  obtain ⟨i, hi, rfl⟩ := List.mem_iff_getElem.1 ht
  exact hn (h i (by rw [if_neg (by decide)]; exact hi) hi)
 omega
theorem counts_fn (t : Tm) (G : IM) (cells : List Value) (hr : RTm G t cells) : Fn Tryz.prog 141 [.agg ⟨cells⟩] [] G (Val (.int .i64 ((if t.k = 9 then 1 else t.ks.length : Nat) : Int)) G) := by
 obtain ⟨k, nm, num, ⟨tk, tks⟩, ⟨fk, fks⟩, lb, ks⟩ := t
 obtain ⟨pt, ct, pf, cf, p, c, es, rfl, hk, hnum, hlb, hty, hfr, hsl, hkl⟩ := hr.open9
 rw [show (Tm.mk k nm num (.mk tk tks) (.mk fk fks) lb ks).k = k from rfl, show (Tm.mk k nm num (.mk tk tks) (.mk fk fks) lb ks).ks = ks from rfl]
 refine fn_enter Tryz.func141 rfl Tryz.ntmps141 Tryz.results141 rfl ?_
 intro w0
 refine tS (tR ?_)
 refine sE (step_box_a rfl rfl) rfl (fun b3 => ?_)
 refine sQ (qA rfl) rfl (sD (nS (tS (tS (tR (sQ (qF0 rfl) rfl ?_))))))
 refine sL (lBs rfl rfl) rfl rfl ?_
 refine sB (qE rfl rfl) rfl rfl (fun h12 => ?_) (fun h12 => ?_)
 refine sD (nS (qT rfl ?_))
 refine tS (tR (sQ (qA rfl) rfl (sD (nS (tT (rS ?_))))))
 refine rF1 (rT rfl) ?_
 (exact ⟨rfl, by rw [if_pos (by omega)]; rfl, rfl⟩)
 refine sD (nS (cF rfl ?_))
 refine tK (nS (tS (tR (sQ (qF0 rfl) rfl (sL (lBs rfl rfl) rfl rfl ?_)))))
 refine sQ (pLn rfl rfl) rfl (sQ (qA rfl) rfl (sD (nS (tT (rF1 (rT rfl) ?_)))))
 (exact ⟨rfl, by rw [if_neg (by omega)], rfl⟩)
theorem ops0 {k : Int} (h8 : k = 1 ∨ k = 6 ∨ k = 7 ∨ k = 8 ∨ k = 9 ∨ k = 11 ∨ k = 12 ∨ k = 14) (h : tmOps k = 0) : k = 1 := by
 rcases h8 with rfl | rfl | rfl | rfl | rfl | rfl | rfl | rfl
 ·rfl
 all_goals exact absurd h (by decide)
theorem stpP_kid {G : IM} {r r' : Stp} {u : Tm} {cells : List Value} {c l : Int} (h1 : r.2.1 = c) (h2 : r.2.2 = l) (hr : RTm G u cells) (h3 : c = 1 → u = r.1) : StpP r G (.tuple ⟨[.agg ⟨cells⟩, .int .i64 c, .int .i64 l]⟩) [] := by
 subst h1 h2; exact ⟨rfl, u, cells, rfl, hr, h3⟩
theorem step_fn : ∀ (t : Tm) (G : IM) (cells : List Value), cv t → mVal t = false → RTm G t cells → Fn Tryz.prog 99 [.agg ⟨cells⟩] [] G (StpP (mStp t)) := by
 refine Tm.ind fun k nm num ty fr lb ks ih G cells hc hv hr => ?_
 have hr0 := hr
 have hN := hc.node.1
 have hkk := hc.node.2
 have hsm := cv_small _ hc
 obtain ⟨_, _, _, _, hksm⟩ := small_mk.1 hsm
 have hops := hN.ops
 have hle3 := tmOps_le k
 have hkd := @stp_kinds k nm num ty fr lb ks hc hv
 have hrd := @stp_red k nm num ty fr lb ks
 have hkidS := fun (i : Nat) => @stp_kid k nm num ty fr lb ks i
 have hRA := fun h => @ruleAll k nm num ty fr lb ks G cells hc h hr
 have hCA := fun h (G1 : IM) (hle : IMle G G1) => @castAll k nm num ty fr lb ks G1 cells hc h (hr.mono hle)
 have hCt := counts_fn _ G _ hr
 rw [show (Tm.mk k nm num ty fr lb ks).k = k from rfl, show (Tm.mk k nm num ty fr lb ks).ks = ks from rfl] at hCt
 obtain ⟨C, hC⟩ : ∃ C : Nat, (if k = 9 then 1 else ks.length : Nat) = C := ⟨_, rfl⟩
 rw [hC] at hCt hkd hrd
 have hkidS' := fun (i : Nat) (hi : i < ks.length) (hn : i < C) => hkidS i hi (by rw [hC]; exact hn)
 have hC9 : C ≤ ks.length := by rw [← hC]; split; (have : tmOps k = 3 := by (rename_i h9; rw [h9]; rfl)); omega; omega
 have hrul := hkd
 obtain ⟨tk, tks⟩ := ty
 obtain ⟨fk, fks⟩ := fr
 obtain ⟨pt, ct, pf, cf, p, c, es, rfl, hk, hnum, hlb, hty, hfr, hsl, hkl⟩ := hr.open9
 have hn := hsl.le
 have hnc := hsl.sl.2.1
 refine fn_enter Tryz.func99 rfl Tryz.ntmps99 Tryz.results99 rfl ?_
 intro w0
 refine tS (tR ?_)
 refine sE (step_box_a rfl rfl) rfl (fun b3 => ?_)
 refine sE (step_alloc rfl) rfl (fun b4 => ?_)
 refine sQ (qA rfl) rfl (sQ (qA rfl) rfl (sD (nS (tS (tS (tri_draw mixed rfl ?_))))))
 refine any_pure (i := 0) (l' := [tt,ff,ff,ff,ff,ff,ff]) rfl npI (qF0 rfl) rfl (by kernel_rfl) rfl rfl ?_
 refine aL 1 rfl (lBs rfl rfl) rfl ?_
 refine aL 2 rfl (lBa rfl rfl) rfl ?_
 refine aP 6 rfl (qM rfl) rfl ?_
 refine aO' 3 ?_
 refine one_val rfl rfl (hCt) rfl rfl rfl ?_
 refine aP 4 rfl (pure_slice_to (l := C) rfl rfl rfl (by omega)) rfl ?_
 refine aP 5 rfl (pLn rfl rfl) rfl ?_
 refine aD' ?_
 refine nS (tri_block ?_)
 (refine tri_loopN (fun (i : Nat) => ⟨[(19, .int .i64 (i : Int)), (18, .int .i64 (C : Int)), (17, .slice p C c), (1, .pointer (some ⟨b3, 0, none⟩)), (2, .pointer (some ⟨b4, 0, none⟩))], [.blk b4 [.int .i64 0, .string ⟨⟨[]⟩⟩, .int .i64 0, .int .i64 0, .slice none 0 0, .int .i64 0, .slice none 0 0, .int .i64 0, .slice none 0 0], .blk b3 [.int .i64 k, .string nm, .int .i64 num, .int .i64 tk, .slice pt tks.length ct, .int .i64 fk, .slice pf fks.length cf, .int .i64 lb, .slice p ks.length c]], G⟩) (fun i => i ≤ C ∧ ∀ j, j < i → (h : j < ks.length) → mVal ks[j] = true) (fun i => C - i) 0 ?_ ?_ ?_)
 exact sMk
 (exact ⟨Nat.zero_le _, fun j hj => absurd hj (Nat.not_lt_zero j)⟩)
 (rintro i ⟨hi, hj⟩)
 refine tS (tR (sB (pure_lss rfl rfl) rfl rfl (fun h29 => ?_) (fun h29 => ?_)))
 refine sD (nS (tS (qT rfl ?_)))
 refine tK (nS (tS (tri_block (tS (tR (sQ (qM rfl) rfl ?_))))))
 (have hiC : i < C := (by omega); obtain ⟨bx, ox, e, rfl, hl, hat, hre, hgb⟩ := hsl.kidTm hkl (i := i) (by omega) (by omega); have heo := hre.one; have hVi := isValue_fn ks[i] G e hre; refine sP (pIN (j := i) rfl rfl rfl hiC) rfl rfl ?_)
 refine sL (load_a rfl rfl (hat _) hl) rfl rfl ?_
 refine sE (step_alloc rfl) rfl (fun b43 => ?_)
 refine sQ (qA rfl) rfl (sS rfl rfl rfl hl heo rfl ?_ (hu := by exact upd_all hl.symm))
 refine sD (nS (tS (tS (tR (sL (load_a rfl rfl (at_blk_all (by repeat first | exact mH | apply mT)) hl) rfl rfl ?_)))))
 refine seq_valb rfl (hVi) rfl rfl (fun h52 => ?_) (fun h52 => ?_)
 refine sD (nS (qT rfl ?_))
 refine tri_exit ?_
 refine ext_seq ?_
 refine ext_block_eq ?_
 refine nS (tR (sP (pure_add rfl rfl (by omega) (by omega)) rfl rfl ?_))
 refine sQ (qM rfl) rfl (sD (nrm_loopN (i + 1) ?_ ?_ ?_))
 exact sMk
 (exact ⟨by omega, fun j hji hl2 => (by by_cases he : j = i; (subst he; assumption); exact hj j (by omega) hl2)⟩)
 (show C - (i + 1) < C - i; omega)
 refine sD (nS (cF rfl ?_))
 refine tK (nS (tS (tR (sL (load_a rfl rfl (at_blk_all (by repeat first | exact mH | apply mT)) hl) rfl rfl ?_))))
 (have hvF : mVal ks[i] = false := (by assumption); obtain ⟨hs1, hs2, hs3⟩ := hkidS' i (by omega) hiC (fun j hji hl2 => hj j hji hl2) hvF; refine seq_imm rfl (ih ks[i] (List.getElem_mem (by omega)) G e (hkk _ (List.getElem_mem (by omega))) hvF hre) rfl rfl (fun v G1 hle1 hh => ?_); obtain ⟨u, uc, rfl, hru, hu1⟩ := hh; have hul := hru.len; have huo := hru.one; have hClo := clone_tm G1 _ ks.length c es (hsl.mono hle1) (by omega) (by omega))
 refine sQ (qM rfl) rfl (sQ (pX rfl rfl) rfl (sQ (pX rfl rfl) rfl (sQ (pX rfl rfl) rfl ?_)))
 refine sE (step_alloc rfl) rfl (fun b81 => ?_)
 refine sS rfl rfl rfl hul huo rfl ?_ (hu := by exact upd_all hul.symm)
 refine sQ (qA rfl) rfl (sQ (qA rfl) rfl (sD (nS (tS (tR (sL (lBa rfl rfl) rfl rfl ?_))))))
 refine sE (step_alloc rfl) rfl (fun b90 => ?_)
 refine sS' ?_
 refine sD (nS (tS (tR (sQ (qF0 rfl) rfl (sL (lBs rfl rfl) rfl rfl ?_)))))
 (refine seq_own rfl hClo rfl rfl (fun v98 G98 outs98 hle98 h98 => ?_); obtain ⟨hG, p1, c1, rfl, rfl⟩ := h98; replace hG := hG.symm; subst hG; refine triL_open (cs := es.flatten) (by repeat (first | exact Pk.here | apply Pk.there)) (by omega) (fun bc Cc hpe hnc1 hcm => ?_); subst hpe)
 replace hru := hru.mono hle98
 refine sQ (qF0 rfl) rfl (sS' ?_)
 refine sD (nS (tS (tR (sQ (qF0 rfl) rfl (sL (lBs rfl rfl) rfl rfl ?_)))))
 refine sQ (qM rfl) rfl (sL (load_a rfl rfl (at_blk_all (by repeat first | exact mH | apply mT)) hul) rfl rfl ?_)
 refine sP (pIN (j := i) rfl rfl rfl (by omega)) rfl rfl ?_
 refine seq_store rfl rfl rfl hul huo rfl (by repeat first | exact Sw.here | apply Sw.there) (by exact upd_set (by rw [hkl.len]; omega) (fun e he => (hsl.all e he)) hul) ?_
 refine sD (nS (tS (tR (sL (lBa rfl rfl) rfl rfl ?_))))
 refine sQ (qM rfl) rfl (sQ (qM rfl) rfl (sS' ?_))
 refine sQ (qA rfl) rfl (sQ (qA rfl) rfl (sD (nS ?_)))
 (refine tri_freezes (bs := [(bc, (es.set i uc).flatten ++ Cc)]) (Pk.perm (by repeat (first | exact Pk.here | apply Pk.there))) (fun hn2 hd2 hle2 => ?_))
 refine tT (rB (rS (ret_loopN (rB (rS (rF3 (rC rfl (lBa rfl rfl)) (rT rfl) (rT rfl) ?_))))))
 (have hks2 := RTmL.set (j := i) ((hkl.mono hle1).mono hle2) (hru.mono hle2); refine stpP_kid (r' := stuck) hs1 hs2 (RTm.put (us := ks.set i u) (es := es.set i uc) hk hnum hlb ((hty.mono hle1).mono hle2) ((hfr.mono hle1).mono hle2) (by rw [List.length_set]) (SlE.of (Sl.of_blk (A := []) (by rw [flat_len hks2.all, hks2.len, List.length_set]) (by omega) hcm (Wi.in hn2 List.mem_cons_self)) (by rw [hks2.len, List.length_set]) hks2.all (fun e he => by obtain ⟨q, hq⟩ := List.getElem?_of_mem he; exact (hks2.inv hq tm0).2.one)) hks2) (fun h1 => by rw [hs3 h1, hu1 h1]))
 refine sD (nS (tS (cF rfl ?_)))
 refine tri_exit ?_
 refine ext_seq ?_
 refine ext_loopN ?_
 refine ext_block_eq ?_
 refine nS (tS (tS (tR (sL (lBa rfl rfl) rfl rfl ?_))))
 focus (have hall : ∀ i, i < C → (hl : i < ks.length) → mVal ks[i] = true := (fun j hjc hl2 => hj j (by omega) hl2); have hk8 := hkd hall; have hrd' := hrd hall; refine seq_imm rfl (hRA hk8) rfl rfl (fun v G1 hle1 hh => ?_); obtain ⟨u, uc, cc, rfl, hru, hy, hno⟩ := hh; have hul := hru.len; have huo := hru.one; rcases hm : mRule k ks with _ | x; rotate_left; obtain ⟨rfl, rfl⟩ := hy _ hm; rotate_left; obtain rfl := hno hm; rw [hm] at hrd')
 refine sQ (qM rfl) rfl (sQ (pX rfl rfl) rfl (sQ (pX rfl rfl) rfl ?_))
 refine sE (step_alloc rfl) rfl (fun b149 => ?_)
 refine sS rfl rfl rfl hul huo rfl ?_ (hu := by exact upd_all hul.symm)
 refine sQ (qA rfl) rfl (sD (nS (tS (tR (sQ (qM rfl) rfl (sP (pure_eql_f rfl rfl (by omega)) rfl rfl ?_))))))
 refine sD (nS (cF rfl ?_))
 refine tK (nS (tS (tS (tR (sQ (qF0 rfl) rfl (sL (lBs rfl rfl) rfl rfl ?_))))))
 refine sQ (pLn rfl rfl) rfl (sB (qE rfl rfl) rfl rfl (fun h169 => ?_) (fun h169 => ?_))
 refine sD (nS (qT rfl ?_))
 refine tS (tR (sQ (pBd rfl rfl) rfl (sS' ?_)))
 refine sQ (qA rfl) rfl (sQ (qA rfl) rfl (sD (nS (tT (rS (rF3 (rC rfl (lBa rfl rfl)) (rT rfl) (rT rfl) ?_))))))
 (obtain rfl : k = 1 := ops0 hk8 (by omega); rw [hrd']; exact StpP.mk rfl (tm0_r _))
 refine sD (nS (cF rfl ?_))
 refine tK (nS (tS (tR (sL (lBa rfl rfl) rfl rfl ?_))))
 (have hk7 : k = 6 ∨ k = 7 ∨ k = 8 ∨ k = 9 ∨ k = 11 ∨ k = 12 ∨ k = 14 := (by rcases hk8 with h1 | hh; (rw [h1] at hops; have : tmOps 1 = 0 := rfl; omega); exact hh); refine seq_imm rfl (hCA hk7 _ hle1) rfl rfl (fun v G2 hle2 hh => ?_); obtain ⟨w, wc, rfl, hrw, hw1⟩ := hh; have hwl := hrw.len; have hwo := hrw.one)
 refine sQ (pX rfl rfl) rfl (sQ (pX rfl rfl) rfl (sQ (pX rfl rfl) rfl (sS rfl rfl rfl hwl hwo rfl ?_ (hu := by exact upd_all hwl.symm))))
 refine sQ (qA rfl) rfl (sQ (qA rfl) rfl (sD (nS (tT (rF3 (rC rfl (load_a rfl rfl (at_blk_all (by repeat first | exact mH | apply mT)) hwl)) (rT rfl) (rT rfl) ?_)))))
 (rw [hrd']; exact stpP_kid (r' := stuck) rfl rfl hrw hw1)
 refine sQ (qM rfl) rfl (sQ (pX rfl rfl) rfl (sQ (pX rfl rfl) rfl ?_))
 refine sE (step_alloc rfl) rfl (fun b208 => ?_)
 refine sS rfl rfl rfl hul huo rfl ?_ (hu := by exact upd_all hul.symm)
 refine sQ (qA rfl) rfl (sD (nS (tS (tR (sQ (qM rfl) rfl (sP (pure_eql_t rfl rfl (by omega)) rfl rfl ?_))))))
 refine sD (nS (qT rfl ?_))
 refine tS (tR (sL (load_a rfl rfl (at_blk_all (by repeat first | exact mH | apply mT)) hul) rfl rfl ?_))
 refine sQ (qM rfl) rfl (sS rfl rfl rfl hul huo rfl ?_ (hu := by exact upd_all hul.symm))
 refine sQ (qA rfl) rfl (sQ (qA rfl) rfl (sD (nS (tT (rS (rF3 (rC rfl (load_a rfl rfl (at_blk_all (by repeat first | exact mH | apply mT)) hul)) (rT rfl) (rT rfl) ?_))))))
 (rw [hrd', hm]; exact StpP.mk rfl hru)
/-- Exactly what comes of a step. -/
def StpX (r : Stp) : IM → Value → List Ent → Prop := Imm fun G' v => ∃ cells, v = .tuple ⟨[.agg ⟨cells⟩, .int .i64 r.2.1, .int .i64 r.2.2]⟩ ∧ RTm G' r.1 cells
theorem StpX.mk {G : IM} {r : Stp} {u : Tm} {c l : Int} {cells : List Value} (h : r = (u, c, l)) (hr : RTm G u cells) : StpX r G (.tuple ⟨[.agg ⟨cells⟩, .int .i64 c, .int .i64 l]⟩) [] := by
 subst h; exact ⟨rfl, cells, rfl, hr⟩
theorem cV_small {t : Tm} (h : castValid t = true) : t.small := cv_small t (cv_of h).1
theorem stepCast_1 {e : Tm} (h : castValid e = false) : mStepCast e = (tm0, 3, 0) := by unfold mStepCast; rw [if_pos h]; rfl
theorem stepCast_2 {e : Tm} (h : castValid e = true) (h2 : mVal e = true) : mStepCast e = (e, 0, 0) := by unfold mStepCast; rw [if_neg (by rw [h]; decide), if_pos h2]
theorem stepCast_3 {e : Tm} (h : castValid e = true) (h2 : mVal e = false) (h3 : (mStp e).2.1 ≠ 1) : mStepCast e = (tm0, (mStp e).2.1, (mStp e).2.2) := by
 unfold mStepCast; rw [if_neg (by rw [h]; decide), if_neg (by rw [h2]; decide), if_pos h3]
theorem stepCast_4 {e : Tm} (h : castValid e = true) (h2 : mVal e = false) (h3 : (mStp e).2.1 = 1) (h4 : castValid (mStp e).1 = false) : mStepCast e = (tm0, 4, 0) := by
 unfold mStepCast; rw [if_neg (by rw [h]; decide), if_neg (by rw [h2]; decide), if_neg (by omega), if_pos h4]
theorem stepCast_5 {e : Tm} (h : castValid e = true) (h2 : mVal e = false) (h3 : (mStp e).2.1 = 1) (h4 : castValid (mStp e).1 = true) : mStepCast e = ((mStp e).1, 1, 0) := by
 unfold mStepCast; rw [if_neg (by rw [h]; decide), if_neg (by rw [h2]; decide), if_neg (by omega), if_neg (by rw [h4]; decide)]
theorem stepCast_valid {e : Tm} (h : (mStepCast e).2.1 = 1) : castValid (mStepCast e).1 = true := by
 cases h1 : castValid e with
 | false => rw [stepCast_1 h1] at h; simp at h
 | true =>
  cases h2 : mVal e with
  | true => rw [stepCast_2 h1 h2] at h; simp at h
  | false =>
   by_cases h3 : (mStp e).2.1 = 1
   ·cases h4 : castValid (mStp e).1 with
    | false => rw [stepCast_4 h1 h2 h3 h4] at h; simp at h
    | true => rw [stepCast_5 h1 h2 h3 h4]; exact h4
   ·rw [stepCast_3 h1 h2 h3] at h; exact absurd h h3
theorem stepCast_fn (t : Tm) (G : IM) (cells : List Value) (hr : RTm G t cells) : Fn Tryz.prog 63 [.agg ⟨cells⟩] [] G (StpX (mStepCast t)) := by
 have hRl := hr.len
 have hRo := hr.one
 have hV := castValid_fn t G cells hr
 have hI := isValue_fn t G cells hr
 refine fn_enter Tryz.func63 rfl Tryz.ntmps63 Tryz.results63 rfl ?_
 intro w0
 refine tS (tR ?_)
 refine sE (step_box_a rfl rfl) rfl (fun b3 => ?_)
 refine sE (step_alloc rfl) rfl (fun b4 => ?_)
 refine sQ (qA rfl) rfl (sQ (qA rfl) rfl (sD (nS (tS (tri_block (tS ?_))))))
 refine tR (sL (load_a rfl rfl (at_blk_all (by repeat first | exact mH | apply mT)) hRl) rfl rfl ?_)
 refine seq_valb rfl (hV) rfl rfl (fun h14 => ?_) (fun h14 => ?_)
 refine sQ (pNt rfl) rfl (sQ (qA rfl) rfl (sD (nS (cF rfl ?_))))
 refine tS (tR (sL (load_a rfl rfl (at_blk_all (by repeat first | exact mH | apply mT)) hRl) rfl rfl ?_))
 refine seq_valb rfl (hI) rfl rfl (fun h23 => ?_) (fun h23 => ?_)
 refine sQ (qA rfl) rfl (sD (nS (qT rfl ?_)))
 refine tS (tR (sL (load_a rfl rfl (at_blk_all (by repeat first | exact mH | apply mT)) hRl) rfl rfl ?_))
 (refine seq_imm rfl (own_fn t G cells (cV_small (by assumption)) hr) rfl rfl (fun v G1 hle1 hh => ?_); obtain ⟨cs1, F1, rfl, hs1, hn1⟩ := hh; have hul := hs1.R.len; have huo := hs1.R.one)
 refine sS rfl rfl rfl hul huo rfl ?_ (hu := by exact upd_all hul.symm)
 refine sQ (qA rfl) rfl (sQ (qA rfl) rfl (sD (nS (tT (rB (rS ?_))))))
 refine rF3 (rC rfl (load_a rfl rfl (at_blk_all (by repeat first | exact mH | apply mT)) hul)) (rT rfl) (rT rfl) ?_
 (exact StpX.mk (stepCast_2 (by assumption) (by assumption)) (hs1.R.mono (Dif.le _ _)))
 refine sQ (qA rfl) rfl (sD (nS (cF rfl ?_)))
 refine tK (nrm_block (nS (tS (tR (sL (load_a rfl rfl (at_blk_all (by repeat first | exact mH | apply mT)) hRl) rfl rfl ?_)))))
 (refine seq_imm rfl (step_fn t G cells (cv_of (by assumption)).1 (by assumption) hr) rfl rfl (fun v G1 hle1 hh => ?_); obtain ⟨u, uc, rfl, hru, hu1⟩ := hh; have hul := hru.len; have huo := hru.one; have hVu := castValid_fn u G1 uc hru)
 refine sQ (qM rfl) rfl (sQ (pX rfl rfl) rfl (sQ (pX rfl rfl) rfl (sQ (pX rfl rfl) rfl ?_)))
 refine sE (step_alloc rfl) rfl (fun b57 => ?_)
 refine sS rfl rfl rfl hul huo rfl ?_ (hu := by exact upd_all hul.symm)
 refine sQ (qA rfl) rfl (sQ (qA rfl) rfl (sD (nS (tS (tri_block (tS ?_))))))
 refine tR (sQ (qM rfl) rfl (sB (pure_neq rfl rfl) rfl rfl (fun h68 => ?_) (fun h68 => ?_)))
 refine sQ (qA rfl) rfl (sD (nS (qT rfl ?_)))
 refine tS (tR (sQ (pBd rfl rfl) rfl (sQ (qM rfl) rfl (sQ (qM rfl) rfl (sS' ?_)))))
 refine sQ (qA rfl) rfl (sQ (qA rfl) rfl (sD (nS (tT (rB (rS ?_))))))
 refine rF3 (rC rfl (lBa rfl rfl)) (rT rfl) (rT rfl) ?_
 (exact StpX.mk (stepCast_3 (by assumption) (by assumption) (by omega)) (tm0_r _))
 refine sQ (qA rfl) rfl (sD (nS (cF rfl ?_)))
 refine tS (tR (sL (load_a rfl rfl (at_blk_all (by repeat first | exact mH | apply mT)) hul) rfl rfl ?_))
 refine seq_valb rfl (hVu) rfl rfl (fun h95 => ?_) (fun h95 => ?_)
 refine sQ (pNt rfl) rfl (sQ (qA rfl) rfl (sD (nS (cF rfl ?_))))
 refine tK (nrm_block (nS (tS (tR (sL (load_a rfl rfl (at_blk_all (by repeat first | exact mH | apply mT)) hul) rfl rfl ?_)))))
 (refine seq_imm rfl (own_fn u G1 uc (cV_small (by assumption)) hru) rfl rfl (fun v G2 hle2 hh => ?_); obtain ⟨cs2, F2, rfl, hs2, hn2⟩ := hh; have hwl := hs2.R.len; have hwo := hs2.R.one)
 refine sS rfl rfl rfl hwl hwo rfl ?_ (hu := by exact upd_all hwl.symm)
 refine sQ (qA rfl) rfl (sQ (qA rfl) rfl (sD (nS (tT (rF3 (rC rfl (load_a rfl rfl (at_blk_all (by repeat first | exact mH | apply mT)) hwl)) (rT rfl) (rT rfl) ?_)))))
 (have h9 := hu1 (by omega); subst h9; exact StpX.mk (stepCast_5 (by assumption) (by assumption) (by omega) (by assumption)) (hs2.R.mono (Dif.le _ _)))
 refine sQ (pNf rfl) rfl (sQ (qA rfl) rfl (sD (nS (qT rfl ?_))))
 refine tS (tR (sQ (pBd rfl rfl) rfl (sS' ?_)))
 refine sQ (qA rfl) rfl (sQ (qA rfl) rfl (sD (nS (tT (rB (rS ?_))))))
 refine rF3 (rC rfl (lBa rfl rfl)) (rT rfl) (rT rfl) ?_
 (have h9 := hu1 (by omega); subst h9; exact StpX.mk (stepCast_4 (by assumption) (by assumption) (by omega) (by assumption)) (tm0_r _))
 refine sQ (pNf rfl) rfl (sQ (qA rfl) rfl (sD (nS (qT rfl ?_))))
 refine tS (tR (sQ (pBd rfl rfl) rfl (sS' ?_)))
 refine sQ (qA rfl) rfl (sQ (qA rfl) rfl (sD (nS (tT (rB (rS ?_))))))
 refine rF3 (rC rfl (lBa rfl rfl)) (rT rfl) (rT rfl) ?_
 (exact StpX.mk (stepCast_1 (by assumption)) (tm0_r _))
/-- Steps, at most so many, the last one told as it is. -/
def mEvR : Nat → Tm → Tm × Int × Int × Nat
 | 0, e => ((mStepCast e).1, (mStepCast e).2.1, (mStepCast e).2.2, 0)
 | n + 1, e => if (mStepCast e).2.1 = 1 then ((mEvR n (mStepCast e).1).1, (mEvR n (mStepCast e).1).2.1, (mEvR n (mStepCast e).1).2.2.1, (mEvR n (mStepCast e).1).2.2.2 + 1)
  else ((mStepCast e).1, (mStepCast e).2.1, (mStepCast e).2.2, 0)
theorem evR_0 (e : Tm) : mEvR 0 e = ((mStepCast e).1, (mStepCast e).2.1, (mStepCast e).2.2, 0) := by rw [mEvR]
theorem evR_p {n : Nat} {e : Tm} (h : (mStepCast e).2.1 = 1) : mEvR (n + 1) e = ((mEvR n (mStepCast e).1).1, (mEvR n (mStepCast e).1).2.1, (mEvR n (mStepCast e).1).2.2.1, (mEvR n (mStepCast e).1).2.2.2 + 1) := by rw [mEvR, if_pos h]
theorem evR_n {n : Nat} {e : Tm} (h : (mStepCast e).2.1 ≠ 1) : mEvR (n + 1) e = ((mStepCast e).1, (mStepCast e).2.1, (mStepCast e).2.2, 0) := by rw [mEvR, if_neg h]
theorem evR_ev1 : ∀ (n : Nat) (e : Tm), (mEvR n e).2.1 = 1 → mEv n e = (tm0, 5, 0, (mEvR n e).2.2.2)
 | 0, e, h => by rw [evR_0] at h ⊢; rw [mEv, if_pos h]
 | n + 1, e, h => by
  by_cases h1 : (mStepCast e).2.1 = 1
  ·rw [evR_p h1] at h ⊢
   rw [mEv, if_pos h1, evR_ev1 n _ h]
  ·rw [evR_n h1] at h; exact absurd h h1
theorem evR_ev2 : ∀ (n : Nat) (e : Tm), (mEvR n e).2.1 ≠ 1 → mEv n e = mEvR n e
 | 0, e, h => by rw [evR_0] at h ⊢; rw [mEv, if_neg h]
 | n + 1, e, h => by
  by_cases h1 : (mStepCast e).2.1 = 1
  ·rw [evR_p h1] at h ⊢
   rw [mEv, if_pos h1, evR_ev2 n _ h]
  ·rw [evR_n h1]; rw [mEv, if_neg h1]
/-- What evaluate tells. -/
def EvP (r : Tm × Int × Int × Nat) : IM → Value → List Ent → Prop := Imm fun G' v => ∃ cells, v = .tuple ⟨[.agg ⟨cells⟩, .int .i64 r.2.1, .int .i64 r.2.2.1, .int .i64 (r.2.2.2 : Int)]⟩ ∧ RTm G' r.1 cells
def evAdd (i : Nat) (r : Tm × Int × Int × Nat) : Tm × Int × Int × Nat := (r.1, r.2.1, r.2.2.1, r.2.2.2 + i)
theorem evR_end {m i : Nat} {e : Tm} (h : (mStepCast e).2.1 ≠ 1 ∨ m = 0) : evAdd i (mEvR m e) = ((mStepCast e).1, (mStepCast e).2.1, (mStepCast e).2.2, i) := by
 cases m with
 | zero => simp [evAdd, mEvR]
 | succ m =>
  rcases h with h | h
  ·simp only [evAdd, mEvR]; rw [if_neg h]; simp
  ·cases h
theorem evR_go {m i : Nat} {e : Tm} (h : (mStepCast e).2.1 = 1) (hm : 0 < m) : evAdd i (mEvR m e) = evAdd (i + 1) (mEvR (m - 1) (mStepCast e).1) := by
 obtain ⟨k, rfl⟩ : ∃ k, m = k + 1 := ⟨m - 1, by omega⟩
 simp only [evAdd, mEvR]; rw [if_pos h]; simp only [Nat.add_sub_cancel, Nat.add_assoc, Nat.add_comm 1 i]
section fin
variable {P : Program} {Γ : Ctx} {env : Env} {hp : List Ent} {G : IM}
theorem nrm_fin0 {post : IM → Value → List Ent → Prop} {σ : Sy} (hk : post σ.G (.tuple ⟨[]⟩) []) : retK P Γ [] post .normal σ := ⟨[], .nil, [], σ.hp, by simp, hk⟩
theorem ret_fin4 {r r2 r3 r4 : ResultVar} {post : IM → Value → List Ent → Prop} {v v2 v3 v4 : Value} (h : ResOne P Γ ⟨env, hp, G⟩ r v) (h2 : ResOne P Γ ⟨env, hp, G⟩ r2 v2) (h3 : ResOne P Γ ⟨env, hp, G⟩ r3 v3) (h4 : ResOne P Γ ⟨env, hp, G⟩ r4 v4) (hk : post G (.tuple ⟨[v, v2, v3, v4]⟩) []) :
  retK P Γ [r, r2, r3, r4] post .ret ⟨env, hp, G⟩ := ret_fin0 (.cons h (.cons h2 (.cons h3 (.cons h4 .nil)))) hk
end fin
theorem EvP.mk {G : IM} {r : Tm × Int × Int × Nat} {u : Tm} {c l : Int} {i : Nat} {cells : List Value} (h : r = (u, c, l, i)) (hr : RTm G u cells) : EvP r G (.tuple ⟨[.agg ⟨cells⟩, .int .i64 c, .int .i64 l, .int .i64 (i : Int)]⟩) [] := by
 subst h; exact ⟨rfl, cells, rfl, hr⟩
theorem evaluate_fn (e : Tm) (n : Nat) (hn : n ≤ 300) (fid : FuncId) [FunI Tryz.prog fid] (us cs : List Value) (hq : ∀ (G : IM) (u : Tm) (cells : List Value), RTm G u cells → Fn Tryz.prog fid (us ++ [.agg ⟨cells⟩] ++ cs) [] G (Val (.tuple ⟨[]⟩) G))
  (G : IM) (cells : List Value) (hr : RTm G e cells) : Fn Tryz.prog 29 [.agg ⟨cells⟩, .int .i64 (n : Int), .func (.func fid) ⟨us⟩ ⟨cs⟩] [] G (EvP (mEvR n e)) := by
 have hRl := hr.len
 have hRo := hr.one
 have hq0 := hq G e cells hr
 refine fn_enter Tryz.func29 rfl Tryz.ntmps29 Tryz.results29 rfl ?_
 intro w0
 refine tS (tR ?_)
 refine sE (step_box_a rfl rfl) rfl (fun b3 => ?_)
 refine sE (step_alloc rfl) rfl (fun b4 => ?_)
 refine sQ (qA rfl) rfl (sQ (qA rfl) rfl (sQ (qA rfl) rfl (sD (nS (tS (tR ?_))))))
 refine sQ (qM rfl) rfl (sL (load_a rfl rfl (at_blk_all (by repeat first | exact mH | apply mT)) hRl) rfl rfl ?_)
 (refine seq_vval rfl rfl hq0 rfl rfl ?_)
 refine sD (nS (tS (tR (sQ (qA rfl) rfl (sD (nS ?_))))))
 refine tri_block ?_
 (refine tri_loopN (fun (x : Nat × Tm × List Value × IM) => ⟨[(10, .int .i64 (x.1 : Int)), (1, .int .i64 (n : Int)), (2, .func (.func fid) ⟨us⟩ ⟨cs⟩), (3, .pointer (some ⟨b3, 0, none⟩)), (6, .pointer (some ⟨b4, 0, none⟩))], [.blk b3 x.2.2.1, .blk b4 [.int .i64 0, .string ⟨⟨[]⟩⟩, .int .i64 0, .int .i64 0, .slice none 0 0, .int .i64 0, .slice none 0 0, .int .i64 0, .slice none 0 0]], x.2.2.2⟩) (fun x => x.1 ≤ n ∧ IMle G x.2.2.2 ∧ RTm x.2.2.2 x.2.1 x.2.2.1 ∧ evAdd x.1 (mEvR (n - x.1) x.2.1) = mEvR n e) (fun x => n - x.1) (0, e, cells, G) ?_ ?_ ?_)
 (simp only [flat_snoc]; exact sMk)
 (exact ⟨Nat.zero_le _, IMle.refl _, hr, rfl⟩)
 (rintro ⟨i, u, uc, Gi⟩ ⟨hi, hle, hru, hev⟩; simp only [] at hi hle hru hev ⊢; have hul := hru.len; have huo := hru.one)
 refine tS (tri_block (tS (tR (sL (load_a rfl rfl (at_blk_all (by repeat first | exact mH | apply mT)) hul) rfl rfl ?_))))
 (refine seq_imm rfl (stepCast_fn u Gi uc hru) rfl rfl (fun v G1 hle1 hh => ?_); obtain ⟨wc, hv, hrw⟩ := hh; have hwl := hrw.len; have hwo := hrw.one; have hend := @evR_end (n - i) i u; have hgo := @evR_go (n - i) i u; generalize mStepCast u = r at hv hrw hend hgo; obtain ⟨w, c, l⟩ := r; simp only at hv hrw hend hgo; subst hv)
 refine sQ (qM rfl) rfl (sQ (pX rfl rfl) rfl (sQ (pX rfl rfl) rfl (sQ (pX rfl rfl) rfl ?_)))
 refine sE (step_alloc rfl) rfl (fun b37 => ?_)
 refine sS rfl rfl rfl hwl hwo rfl ?_ (hu := by exact upd_all hwl.symm)
 refine sQ (qA rfl) rfl (sQ (qA rfl) rfl (sD (nS (tS (tS (tR ?_))))))
 refine sQ (qM rfl) rfl (sB (pure_neq rfl rfl) rfl rfl (fun h47 => ?_) (fun h47 => ?_))
 refine sQ (qM rfl) rfl (sK rfl rfl (sK rfl rfl (sK rfl rfl (sQ (pPt rfl rfl) rfl (sD (nS ?_))))))
 refine qT rfl ?_
 refine tS (tR (sL (load_a rfl rfl (at_blk_all (by repeat first | exact mH | apply mT)) hwl) rfl rfl ?_))
 refine sQ (qM rfl) rfl (sQ (qM rfl) rfl (sQ (qM rfl) rfl (sS rfl rfl rfl hwl hwo rfl ?_ (hu := by exact upd_all hwl.symm))))
 refine sQ (qA rfl) rfl (sQ (qA rfl) rfl (sQ (qA rfl) rfl (sD (nS (tT (rS ?_))))))
 refine rB (rS (ret_loopN (rB (ret_fin4 (rC rfl (load_a rfl rfl (at_blk_all (by repeat first | exact mH | apply mT)) hwl)) (rT rfl) (rT rfl) (rT rfl) ?_))))
 (exact EvP.mk (by rw [← hev]; exact hend (by omega)) hrw)
 refine sQ (qM rfl) rfl (sQ (qM rfl) rfl (sQ (qM rfl) rfl (sB (qE rfl rfl) rfl rfl (fun h79 => ?_) (fun h79 => ?_))))
 refine sQ (pPf rfl rfl) rfl (sD (nS (qT rfl ?_)))
 refine tS (tR (sL (load_a rfl rfl (at_blk_all (by repeat first | exact mH | apply mT)) hwl) rfl rfl ?_))
 refine sQ (qM rfl) rfl (sQ (qM rfl) rfl (sQ (qM rfl) rfl (sS rfl rfl rfl hwl hwo rfl ?_ (hu := by exact upd_all hwl.symm))))
 refine sQ (qA rfl) rfl (sQ (qA rfl) rfl (sQ (qA rfl) rfl (sD (nS (tT (rS ?_))))))
 refine rB (rS (ret_loopN (rB (ret_fin4 (rC rfl (load_a rfl rfl (at_blk_all (by repeat first | exact mH | apply mT)) hwl)) (rT rfl) (rT rfl) (rT rfl) ?_))))
 (exact EvP.mk (by rw [← hev]; exact hend (by omega)) hrw)
 refine sQ (pPf rfl rfl) rfl (sD (nS (cF rfl ?_)))
 refine tK (nS (tS (tR (sL (load_a rfl rfl (at_blk_all (by repeat first | exact mH | apply mT)) hwl) rfl rfl ?_))))
 refine seq_store rfl rfl rfl hwl hwo rfl (by repeat first | exact Sw.here | apply Sw.there) (by exact upd_all (hul.trans hwl.symm)) ?_
 refine sD (nS (tR (sQ (qM rfl) rfl (sL (load_a rfl rfl (at_blk_all (by repeat first | exact mH | apply mT)) hwl) rfl rfl ?_))))
 (refine seq_vval rfl rfl (hq G1 w wc hrw) rfl rfl ?_)
 refine sD (nrm_block (nS (tR (sQ (qM rfl) rfl (sP (pure_add rfl rfl (by omega) (by omega)) rfl rfl ?_)))))
 refine sQ (qA rfl) rfl (sD (nrm_loopN (i + 1, w, wc, G1) ?_ ?_ ?_))
 (simp only [flat_snoc]; exact sMk)
 (dsimp only; exact ⟨by omega, hle.trans hle1, hrw, by rw [← hev, hgo (by omega) (by omega), show n - (i + 1) = n - i - 1 by omega]⟩)
 (show n - (i + 1) < n - i; omega)
theorem isFuel_fn (fuel : Int) (G : IM) : Fn Tryz.prog 28 [.int .i64 fuel] [] G (Val (.bool (withinB fuel 0 300)) G) := by
 refine fn_enter Tryz.func28 rfl Tryz.ntmps28 Tryz.results28 rfl ?_
 intro w0
 refine tS (tR (sQ (qA rfl) rfl (sD (nS (tS (tR ?_))))))
 refine sQ (qM rfl) rfl (seq_val rfl ((within_fn _ _ _ _)) rfl rfl ?_)
 refine sQ (qA rfl) rfl (sD (nS (tT (rF1 (rT rfl) ?_))))
 (exact ⟨rfl, rfl, rfl⟩)
theorem evalCast_no {e : Tm} {fuel : Int} (h : withinB fuel 0 300 = false) : mEvalCast e fuel = (tm0, 3, 0) := by
 unfold mEvalCast; rw [if_neg (withinB_f h)]; rfl
theorem evalCast_much {e : Tm} {fuel : Int} (h : withinB fuel 0 300 = true) (h1 : (mEvR fuel.toNat e).2.1 = 1) : mEvalCast e fuel = (tm0, 5, 0) := by
 unfold mEvalCast; rw [if_pos (withinB_t h), evR_ev1 _ _ h1]
theorem evalCast_end {e : Tm} {fuel : Int} (h : withinB fuel 0 300 = true) (h1 : (mEvR fuel.toNat e).2.1 ≠ 1) : mEvalCast e fuel = ((mEvR fuel.toNat e).1, (mEvR fuel.toNat e).2.1, (mEvR fuel.toNat e).2.2.1) := by
 unfold mEvalCast; rw [if_pos (withinB_t h), evR_ev2 _ _ h1]
theorem evalCast1_fn (G : IM) (cells : List Value) (hl : cells.length = 9) (ho : cells.all (·.oneCell') = true) : Fn Tryz.prog 30 [.agg ⟨cells⟩] [] G (Val (.tuple ⟨[]⟩) G) := by
 refine fn_enter Tryz.func30 rfl Tryz.ntmps30 Tryz.results30 rfl ?_
 intro w0
 refine tR ?_
 refine sE (step_box_a rfl rfl) rfl (fun b2 => ?_)
 refine sD (nrm_fin0 ?_)
 (exact ⟨rfl, rfl, rfl⟩)
theorem evalCast_fn (e : Tm) (fuel : Int) (G : IM) (cells : List Value) (hr : RTm G e cells) : Fn Tryz.prog 9 [.agg ⟨cells⟩, .int .i64 fuel] [] G (StpX (mEvalCast e fuel)) := by
 have hRl := hr.len
 have hRo := hr.one
 have hno := @evalCast_no e fuel
 have hmu := @evalCast_much e fuel
 have hen := @evalCast_end e fuel
 refine fn_enter Tryz.func9 rfl Tryz.ntmps9 Tryz.results9 rfl ?_
 intro w0
 refine tS (tR ?_)
 refine sE (step_box_a rfl rfl) rfl (fun b3 => ?_)
 refine sE (step_alloc rfl) rfl (fun b4 => ?_)
 refine sQ (qA rfl) rfl (sQ (qA rfl) rfl (sD (nS (tS (tS (tR ?_))))))
 refine sQ (qM rfl) rfl (seq_valb rfl ((isFuel_fn fuel _)) rfl rfl (fun h13 => ?_) (fun h13 => ?_))
 refine sQ (pNt rfl) rfl (sD (nS (cF rfl ?_)))
 refine tK (nS (tS (tR (sL (load_a rfl rfl (at_blk_all (by repeat first | exact mH | apply mT)) hRl) rfl rfl ?_))))
 refine sQ (qM rfl) rfl ?_
 (have hf : withinB fuel 0 300 = true := (by assumption); have hf2 := withinB_t hf; have hE := evaluate_fn e fuel.toNat (by omega) 30 [] [] (fun G u cells hru => evalCast1_fn G cells hru.len hru.one) G cells hr; rw [Int.toNat_of_nonneg hf2.1] at hE; refine seq_imm rfl hE rfl rfl (fun v G1 hle1 hh => ?_); obtain ⟨wc, hv, hrw⟩ := hh; have hwl := hrw.len; have hwo := hrw.one; have hmu := hmu hf; have hen := hen hf; generalize mEvR fuel.toNat e = r at hv hrw hmu hen; obtain ⟨w, c, l, i⟩ := r; simp only at hv hrw hmu hen; subst hv)
 refine sQ (qM rfl) rfl (sQ (pX rfl rfl) rfl (sQ (pX rfl rfl) rfl (sQ (pX rfl rfl) rfl (sQ (pX rfl rfl) rfl ?_))))
 refine sE (step_alloc rfl) rfl (fun b30 => ?_)
 refine sS rfl rfl rfl hwl hwo rfl ?_ (hu := by exact upd_all hwl.symm)
 refine sQ (qA rfl) rfl (sQ (qA rfl) rfl (sQ (qA rfl) rfl (sD (nS (tS (tS ?_))))))
 refine tR (sQ (qM rfl) rfl (sB (qE rfl rfl) rfl rfl (fun h41 => ?_) (fun h41 => ?_)))
 refine sD (nS (qT rfl ?_))
 refine tS (tR (sQ (pBd rfl rfl) rfl (sS' ?_)))
 refine sQ (qA rfl) rfl (sQ (qA rfl) rfl (sD (nS (tT (rS (rF3 (rC rfl (lBa rfl rfl)) (rT rfl) (rT rfl) ?_))))))
 (exact StpX.mk (hmu (by omega)) (tm0_r _))
 refine sD (nS (cF rfl ?_))
 refine tK (nS (tS (tR (sL (load_a rfl rfl (at_blk_all (by repeat first | exact mH | apply mT)) hwl) rfl rfl ?_))))
 refine sQ (qM rfl) rfl (sQ (qM rfl) rfl (sS rfl rfl rfl hwl hwo rfl ?_ (hu := by exact upd_all hwl.symm)))
 refine sQ (qA rfl) rfl (sQ (qA rfl) rfl (sD (nS (tT (rF3 (rC rfl (load_a rfl rfl (at_blk_all (by repeat first | exact mH | apply mT)) hwl)) (rT rfl) (rT rfl) ?_)))))
 (exact StpX.mk (hen (by omega)) hrw)
 refine sQ (pNf rfl) rfl (sD (nS (qT rfl ?_)))
 refine tS (tR (sQ (pBd rfl rfl) rfl (sS' ?_)))
 refine sQ (qA rfl) rfl (sQ (qA rfl) rfl (sD (nS (tT (rS (rF3 (rC rfl (lBa rfl rfl)) (rT rfl) (rT rfl) ?_))))))
 (exact StpX.mk (hno (by assumption)) (tm0_r _))
mutual
/-- All labels of casts are of a kind. -/
def lbOk (L : Int → Prop) : Tm → Prop
 | .mk k nm num ty fr lb ks => (k = 14 → L lb) ∧ lbOkL L ks
def lbOkL (L : Int → Prop) : List Tm → Prop
 | [] => True
 | t :: ts => lbOk L t ∧ lbOkL L ts
end
theorem lbOk_mk {L : Int → Prop} {k : Int} {nm : ByteArray} {num : Int} {ty fr : Ty} {lb : Int} {ks : List Tm} : lbOk L (.mk k nm num ty fr lb ks) ↔ (k = 14 → L lb) ∧ lbOkL L ks := by rw [lbOk]
theorem lbOkL_mem {L : Int → Prop} : ∀ {ts : List Tm}, lbOkL L ts ↔ ∀ t ∈ ts, lbOk L t
 | [] => by simp [lbOkL]
 | t :: ts => by rw [lbOkL, lbOkL_mem (ts := ts)]; simp
theorem lbOk_cst {L : Int → Prop} {e : Tm} {a b : Ty} {l : Int} (hl : L l) (h : lbOk L e) : lbOk L (mCst e a b l) := by
 rw [mCst, lbOk_mk]; exact ⟨fun _ => hl, by simp [lbOkL, h]⟩
theorem lbOk_nod {L : Int → Prop} {k : Int} {ks : List Tm} (hk : k ≠ 14) (h : ∀ t ∈ ks, lbOk L t) : lbOk L (mNod k ks) := by
 rw [mNod, lbOk_mk]; exact ⟨fun e => absurd e hk, lbOkL_mem.2 h⟩
mutual
theorem lbOk_subst {L : Int → Prop} {x : ByteArray} {v : Tm} (hv : lbOk L v) : ∀ t, lbOk L t → lbOk L (mSubst x v t)
 | .mk k nm num ty fr lb ks, h => by
  rw [lbOk_mk] at h
  rw [mSubst]
  split
  ·exact hv
  ·split
   ·rw [lbOk_mk]; exact h
   ·rw [lbOk_mk]; exact ⟨h.1, lbOk_substL hv ks h.2⟩
theorem lbOk_substL {L : Int → Prop} {x : ByteArray} {v : Tm} (hv : lbOk L v) : ∀ ts, lbOkL L ts → lbOkL L (mSubstL x v ts)
 | [], _ => by rw [mSubstL]; trivial
 | t :: ts, h => by rw [mSubstL, lbOkL]; exact ⟨lbOk_subst hv t h.1, lbOk_substL hv ts h.2⟩
end
/-- What a value of a type looks like. -/
theorem canon {f : Tm} {U : Ty} (hv : mVal f = true) (ht : castTy [] f = some U) (hc : cv f) :
  (U.k = 2 → f.k = 2) ∧ (U.k = 3 → f.k = 3 ∨ f.k = 4) ∧ (U.k = 4 → f.k = 5 ∨ (prx f = true ∧ f.ty.k = 4)) ∧ (U.k = 5 → f.k = 10 ∨ (prx f = true ∧ f.ty.k = 5)) ∧ (U.k = 1 → inj f = true) := by
 obtain ⟨k, nm, num, ty, fr, lb, ks⟩ := f
 obtain ⟨hN, _⟩ := hc.node
 have hop := hN.ops
 rw [prx_mk, inj_mk]
 show (U.k = 2 → k = 2) ∧ (U.k = 3 → k = 3 ∨ k = 4) ∧ (U.k = 4 → k = 5 ∨ (_ ∧ ty.k = 4)) ∧ (U.k = 5 → k = 10 ∨ (_ ∧ ty.k = 5)) ∧ (U.k = 1 → _)
 by_cases h10 : k = 10
 ·subst h10
  obtain ⟨a, b, rfl⟩ := ks2 (ks := ks) (by have : tmOps 10 = 2 := rfl; omega)
  obtain ⟨A, B, _, _, rfl⟩ := ty_pair ht
  refine ⟨fun h => ?_, fun h => ?_, fun h => ?_, fun h => .inl rfl, fun h => ?_⟩ <;> (exfalso; simp [Ty.k, tyInt, tyBool] at h)
 by_cases h14 : k = 14
 ·subst h14
  obtain ⟨a, rfl⟩ := ks1 (ks := ks) (by have : tmOps 14 = 1 := rfl; omega)
  obtain ⟨_, rfl⟩ := ty_cast ht
  by_cases hp : fr.k = U.k ∧ (U.k = 4 ∨ U.k = 5)
  ·refine ⟨fun h => by omega, fun h => by omega, fun h => .inr ⟨decide_eq_true ⟨rfl, hp⟩, h⟩, fun h => .inr ⟨decide_eq_true ⟨rfl, hp⟩, h⟩, fun h => by omega⟩
  ·by_cases hi : U.k = 1 ∧ isGrd fr = true
   ·refine ⟨fun h => by omega, fun h => by omega, fun h => by omega, fun h => by omega, fun _ => ?_⟩
    rw [hi.2, decide_eq_true ⟨rfl, hi.1⟩]; rfl
   ·exfalso
    rw [mVal, if_neg (by rintro (h | h | h); exact absurd h (by decide); exact hp h.2; exact hi h.2)] at hv
    exact absurd (of_decide_eq_true hv) (by decide)
 ·have hk : k = 2 ∨ k = 3 ∨ k = 4 ∨ k = 5 := by
   rw [mVal, if_neg (by rintro (h | h | h); exact h10 h; exact h14 h.1; exact h14 h.1)] at hv
   exact of_decide_eq_true hv
  by_cases h5 : k = 5
  ·subst h5
   obtain ⟨a, rfl⟩ := ks1 (ks := ks) (by have : tmOps 5 = 1 := rfl; omega)
   obtain ⟨B, _, rfl⟩ := ty_lam ht
   refine ⟨fun h => ?_, fun h => ?_, fun h => .inl rfl, fun h => ?_, fun h => ?_⟩ <;> (exfalso; simp [Ty.k, tyInt, tyBool] at h)
  ·have hks : ks = [] := List.length_eq_zero_iff.1 (by
    rcases hk with h | h | h | h
    ·subst h; have : tmOps 2 = 0 := rfl; omega
    ·subst h; have : tmOps 3 = 0 := rfl; omega
    ·subst h; have : tmOps 4 = 0 := rfl; omega
    ·exact absurd h h5)
   subst hks
   by_cases h2 : k = 2
   ·subst h2
    obtain rfl := ty_num ht
    refine ⟨fun _ => rfl, fun h => ?_, fun h => ?_, fun h => ?_, fun h => ?_⟩ <;> (exfalso; simp [Ty.k, tyInt, tyBool] at h)
   ·have h34 : k = 3 ∨ k = 4 := by omega
    obtain rfl := ty_tru h34 ht
    refine ⟨fun h => ?_, fun _ => h34, fun h => ?_, fun h => ?_, fun h => ?_⟩ <;> (exfalso; simp [Ty.k, tyInt, tyBool] at h)
theorem prx_spec {k : Int} {nm : ByteArray} {num : Int} {ty fr : Ty} {lb : Int} {ks : List Tm} (h : prx (.mk k nm num ty fr lb ks) = true) : k = 14 ∧ fr.k = ty.k ∧ (ty.k = 4 ∨ ty.k = 5) := by
 rw [prx_mk] at h; exact of_decide_eq_true h
theorem labelOk_ne {n : Int} (h : labelOk n = true) : n ≠ 0 := by
 simp only [labelOk, Bool.or_eq_true, withinB_iff] at h; omega
/-- What a step of a closed term with a type is. -/
def Good (L : Int → Prop) (T : Ty) (r : Stp) : Prop := (r.2.1 = 1 ∧ castTy [] r.1 = some T ∧ lbOk L r.1) ∨ (r.2.1 = 2 ∧ L r.2.2)
theorem grd_same {t : Ty} (h : isGrd t = true) : t = mGround t := by
 unfold isGrd at h
 rw [Bool.and_eq_true] at h
 exact (tSame_iff _ _).1 h.2
theorem ground_of_k {t u : Ty} (h : t.k = u.k) : mGround t = mGround u := by unfold mGround; rw [h]
theorem red_good (L : Int → Prop) (hL : ∀ l, L l → L (-l)) {k : Int} {nm : ByteArray} {num : Int} {ty fr : Ty} {lb : Int} {ks : List Tm} {T : Ty} (hc : cv (.mk k nm num ty fr lb ks))
  (h8 : k = 1 ∨ k = 6 ∨ k = 7 ∨ k = 8 ∨ k = 9 ∨ k = 11 ∨ k = 12 ∨ k = 14) (hnv : mVal (.mk k nm num ty fr lb ks) = false)
  (hval : ∀ i, i < (if k = 9 then 1 else ks.length) → (hl : i < ks.length) → mVal ks[i] = true)
  (ht : castTy [] (.mk k nm num ty fr lb ks) = some T) (hlb : lbOk L (.mk k nm num ty fr lb ks)) : Good L T (mRed k ty fr lb ks) := by
 obtain ⟨hN, hkk⟩ := hc.node
 have hop := hN.ops
 rw [lbOk_mk, lbOkL_mem] at hlb
 obtain ⟨hl14, hlk⟩ := hlb
 have hTv := cv_valid hc ht
 unfold mRed
 by_cases h6 : k = 6
 ·subst h6
  obtain ⟨f, v, rfl⟩ := ks2 (ks := ks) (by have : tmOps 6 = 2 := rfl; omega)
  obtain ⟨A, hf, hv⟩ := ty_app ht
  have hcf := hkk f (by simp)
  have hcv := hkk v (by simp)
  have hlf := hlk f (by simp)
  have hlv := hlk v (by simp)
  have hvf : mVal f = true := hval 0 (by simp) (by simp)
  have hfv := cv_valid hcf hf
  rw [if_pos rfl]
  obtain ⟨_, _, hcan, _⟩ := canon hvf hf hcf
  obtain ⟨fk, fnm, fnum, fty, ffr, flb, fks⟩ := f
  obtain ⟨hNf, hkf⟩ := hcf.node
  have hopf := hNf.ops
  rw [lbOk_mk, lbOkL_mem] at hlf
  show Good L T (if fk = 5 then (mSubst fnm v (kd fks 0), 1, 0) else if prx (.mk fk fnm fnum fty ffr flb fks) = true ∧ fty.k = 4 then (mCst (mNod 6 [kd fks 0, mCst v (kt fty.ks 0) (kt ffr.ks 0) (-flb)]) (kt ffr.ks 1) (kt fty.ks 1) flb, 1, 0) else stuck)
  by_cases h5 : fk = 5
  ·subst h5
   rw [if_pos rfl]
   obtain ⟨b, rfl⟩ := ks1 (ks := fks) (by have : tmOps 5 = 1 := rfl; omega)
   obtain ⟨B, hb, hT⟩ := ty_lam hf
   cases hT
   refine .inl ⟨rfl, ?_, lbOk_subst hlv _ (hlf.2 b (by simp))⟩
   exact subst_ty hv b _ [] _ (hkf b (by simp)) (fun y hy => by rw [mLook_snoc, if_neg (fun e => hy e.symm)]) (by rw [mLook_snoc, if_pos rfl]) hb
  ·rw [if_neg h5]
   have hcan' : prx (.mk fk fnm fnum fty ffr flb fks) = true ∧ fty.k = 4 := (hcan rfl).resolve_left h5
   rw [if_pos hcan']
   obtain ⟨rfl, hfk, _⟩ := prx_spec hcan'.1
   obtain ⟨g, rfl⟩ := ks1 (ks := fks) (by have : tmOps 14 = 1 := rfl; omega)
   obtain ⟨hg, rfl⟩ := ty_cast hf
   obtain ⟨_, hv1, hv2⟩ := hNf.c14 rfl
   obtain ⟨frk, frs⟩ := ffr
   obtain rfl : frk = 4 := hfk.trans hcan'.2
   obtain ⟨C, D, rfl, hC, hD⟩ := two_of (.inl rfl) hv2
   have hfl := hlf.1 rfl
   refine .inl ⟨rfl, ?_, lbOk_cst hfl (lbOk_nod (by decide) (by
    intro t htm
    simp only [List.mem_cons, List.not_mem_nil, or_false] at htm
    rcases htm with rfl | rfl
    ·exact hlf.2 _ (by simp [kd])
    ·exact lbOk_cst (hL _ hfl) hlv))⟩
   exact ty_cast_mk (ty_app_mk (A := C) hD hg (ty_cast_mk hv))
 rw [if_neg h6]
 by_cases h7 : k = 7 ∨ k = 8
 ·obtain ⟨a, b, rfl⟩ := ks2 (ks := ks) (by rcases h7 with h | h <;> subst h <;> (first | (have : tmOps 7 = 2 := rfl; omega) | (have : tmOps 8 = 2 := rfl; omega)))
  obtain ⟨ha, hb, hT⟩ := ty_ar h7 ht
  have hva : mVal a = true := hval 0 (by rw [if_neg (by omega)]; simp) (by simp)
  have hvb : mVal b = true := hval 1 (by rw [if_neg (by omega)]; simp) (by simp)
  have ha2 := (canon hva ha (hkk a (by simp))).1 rfl
  have hb2 := (canon hvb hb (hkk b (by simp))).1 rfl
  rw [if_pos h7, if_pos (show (kd [a, b] 0).k = 2 ∧ (kd [a, b] 1).k = 2 from ⟨ha2, hb2⟩)]
  by_cases hk7 : k = 7
  ·rw [if_pos hk7]
   rw [if_neg (by omega)] at hT
   subst hT
   exact .inl ⟨rfl, rfl, by rw [mNum, lbOk_mk]; exact ⟨fun e => absurd e (by decide), trivial⟩⟩
  ·rw [if_neg hk7]
   rw [if_pos (by omega)] at hT
   subst hT
   refine .inl ⟨rfl, ?_, ?_⟩
   ·unfold mTru; split <;> rfl
   ·unfold mTru; exact lbOk_nod (by split <;> decide) (by simp)
 rw [if_neg h7]
 by_cases h9 : k = 9
 ·subst h9
  obtain ⟨a, b, c, rfl⟩ := ks3 (ks := ks) (by have : tmOps 9 = 3 := rfl; omega)
  obtain ⟨ha, hb, hcc⟩ := ty_if ht
  have hva : mVal a = true := hval 0 (by simp) (by simp)
  have ha2 := (canon hva ha (hkk a (by simp))).2.1 rfl
  rw [if_pos rfl]
  show Good L T (if a.k = 3 then (b, 1, 0) else if a.k = 4 then (c, 1, 0) else stuck)
  by_cases h3 : a.k = 3
  ·rw [if_pos h3]; exact .inl ⟨rfl, hb, hlk b (by simp)⟩
  ·rw [if_neg h3, if_pos (by omega)]; exact .inl ⟨rfl, hcc, hlk c (by simp)⟩
 rw [if_neg h9]
 by_cases h11 : k = 11 ∨ k = 12
 ·obtain ⟨a, rfl⟩ := ks1 (ks := ks) (by rcases h11 with h | h <;> subst h <;> (first | (have : tmOps 11 = 1 := rfl; omega) | (have : tmOps 12 = 1 := rfl; omega)))
  obtain ⟨A, B, ha, hT⟩ := ty_part h11 ht
  have hva : mVal a = true := hval 0 (by rw [if_neg (by omega)]; simp) (by simp)
  have hca := hkk a (by simp)
  have hla := hlk a (by simp)
  have ha2 := (canon hva ha hca).2.2.2.1 rfl
  rw [if_pos h11]
  obtain ⟨fk, fnm, fnum, fty, ffr, flb, fks⟩ := a
  obtain ⟨hNf, hkf⟩ := hca.node
  have hopf := hNf.ops
  rw [lbOk_mk, lbOkL_mem] at hla
  show Good L T (if fk = 10 then (kd fks (k - 11).toNat, 1, 0) else if prx (.mk fk fnm fnum fty ffr flb fks) = true ∧ fty.k = 5 then (mCst (mNod k [kd fks 0]) (kt ffr.ks (k - 11).toNat) (kt fty.ks (k - 11).toNat) flb, 1, 0) else stuck)
  by_cases h10 : fk = 10
  ·subst h10
   rw [if_pos rfl]
   obtain ⟨x, y, rfl⟩ := ks2 (ks := fks) (by have : tmOps 10 = 2 := rfl; omega)
   obtain ⟨A', B', hx, hy, he⟩ := ty_pair ha
   cases he
   rcases h11 with rfl | rfl
   ·rw [if_neg (by decide)] at hT; subst hT; exact .inl ⟨rfl, hx, hla.2 x (by simp)⟩
   ·rw [if_pos rfl] at hT; subst hT; exact .inl ⟨rfl, hy, hla.2 y (by simp)⟩
  ·rw [if_neg h10]
   have hcan' : prx (.mk fk fnm fnum fty ffr flb fks) = true ∧ fty.k = 5 := ha2.resolve_left h10
   rw [if_pos hcan']
   obtain ⟨rfl, hfk, _⟩ := prx_spec hcan'.1
   obtain ⟨g, rfl⟩ := ks1 (ks := fks) (by have : tmOps 14 = 1 := rfl; omega)
   obtain ⟨hg, rfl⟩ := ty_cast ha
   obtain ⟨_, hv1, hv2⟩ := hNf.c14 rfl
   obtain ⟨frk, frs⟩ := ffr
   obtain rfl : frk = 5 := hfk.trans hcan'.2
   obtain ⟨C, D, rfl, hC, hD⟩ := two_of (.inr rfl) hv2
   have hfl := hla.1 rfl
   refine .inl ⟨rfl, ?_, lbOk_cst hfl (lbOk_nod (by omega) (by
    intro t htm
    simp only [List.mem_cons, List.not_mem_nil, or_false] at htm
    subst htm
    exact hla.2 _ (by simp [kd])))⟩
   have hg' : castTy [] (kd [g] 0) = some (.mk 5 [C, D]) := hg
   rcases h11 with rfl | rfl
   ·rw [if_neg (by decide)] at hT; subst hT
    exact ty_cast_mk (ty_part_mk (k := 11) (.inl rfl) (by rw [if_neg (by decide)]; exact hC) hg')
   ·rw [if_pos rfl] at hT; subst hT
    exact ty_cast_mk (ty_part_mk (k := 12) (.inr rfl) (by rw [if_pos rfl]; exact hD) hg')
 rw [if_neg h11]
 by_cases h14 : k = 14
 ·subst h14
  obtain ⟨a, rfl⟩ := ks1 (ks := ks) (by have : tmOps 14 = 1 := rfl; omega)
  obtain ⟨ha, rfl⟩ := ty_cast ht
  have hva : mVal a = true := hval 0 (by simp) (by simp)
  have hca := hkk a (by simp)
  have hla := hlk a (by simp)
  have hlb := hl14 rfl
  obtain ⟨hcons, htv, hfv⟩ := hN.c14 rfl
  rw [if_pos rfl]
  have hnp : ¬(fr.k = T.k ∧ (T.k = 4 ∨ T.k = 5)) := by
   intro hh
   rw [val_yes (.inr (.inl (by rw [prx_mk]; exact decide_eq_true ⟨rfl, hh⟩))), List.all_cons, hva] at hnv
   cases hnv
  by_cases h1 : fr.k = T.k
  ·rw [if_pos h1]
   refine .inl ⟨rfl, ?_, hla⟩
   show castTy [] a = some T
   rw [ha]
   obtain ⟨fk, fs⟩ := fr
   obtain ⟨tk, ts⟩ := T
   obtain rfl : fk = tk := h1
   obtain ⟨_, rfl⟩ := leaf_of hfv (fun e => hnp ⟨rfl, .inl e⟩) (fun e => hnp ⟨rfl, .inr e⟩)
   obtain ⟨_, rfl⟩ := leaf_of htv (fun e => hnp ⟨rfl, .inl e⟩) (fun e => hnp ⟨rfl, .inr e⟩)
   rfl
  ·rw [if_neg h1]
   by_cases h2 : T.k = 1
   ·rw [if_pos h2]
    exact .inl ⟨rfl, ty_cast_mk (ty_cast_mk ha), lbOk_cst hlb (lbOk_cst hlb hla)⟩
   ·rw [if_neg h2]
    by_cases h3 : isGrd T = false
    ·rw [if_pos h3]
     exact .inl ⟨rfl, ty_cast_mk (ty_cast_mk ha), lbOk_cst hlb (lbOk_cst hlb hla)⟩
    ·rw [if_neg h3]
     have hfr1 : fr.k = 1 := by
      obtain ⟨fk, fs⟩ := fr
      obtain ⟨tk, ts⟩ := T
      rw [tCons_mk] at hcons
      simp only [Bool.or_eq_true, Bool.and_eq_true, decide_eq_true_eq] at hcons
      rcases hcons with (h | h) | h
      ·exact h
      ·exact absurd h h2
      ·exact absurd h.1 h1
     have hi := (canon hva ha hca).2.2.2.2 hfr1
     rw [if_neg (by rw [show kd [a] 0 = a from rfl, hi]; decide)]
     have hg : isGrd T = true := by cases h : isGrd T with | true => rfl | false => exact absurd h h3
     obtain ⟨fk, fnm, fnum, fty, ffr, flb, fks⟩ := a
     obtain ⟨hNf, _⟩ := hca.node
     have hopf := hNf.ops
     rw [lbOk_mk, lbOkL_mem] at hla
     have hgi := inj_grd hi
     obtain rfl : fk = 14 := inj_k hi
     obtain ⟨g, rfl⟩ := ks1 (ks := fks) (by have : tmOps 14 = 1 := rfl; omega)
     obtain ⟨hgt, _⟩ := ty_cast ha
     show Good L T (if ffr.k = T.k then (kd [g] 0, 1, 0) else (tm0, 2, lb))
     by_cases h4 : ffr.k = T.k
     ·rw [if_pos h4]
      refine .inl ⟨rfl, ?_, hla.2 g (by simp)⟩
      show castTy [] g = some T
      rw [hgt]
      congr 1
      exact (grd_same hgi).trans ((ground_of_k h4).trans (grd_same hg).symm)
     ·rw [if_neg h4]
      exact .inr ⟨rfl, hlb⟩
 ·exfalso
  obtain rfl : k = 1 := by omega
  have hks : ks = [] := List.length_eq_zero_iff.1 (by have : tmOps 1 = 0 := rfl; omega)
  subst hks
  have := ty_var ht
  simp [mLook, lookN] at this
theorem lbOk_set {L : Int → Prop} {ks : List Tm} {i : Nat} {u : Tm} (h : ∀ t ∈ ks, lbOk L t) (hu : lbOk L u) : ∀ t ∈ ks.set i u, lbOk L t := by
 intro t ht
 rcases List.mem_or_eq_of_mem_set ht with h1 | h1
 ·exact h t h1
 ·rw [h1]; exact hu
theorem stp_good (L : Int → Prop) (hL : ∀ l, L l → L (-l)) : ∀ (e : Tm) (T : Ty), cv e → mVal e = false → castTy [] e = some T → lbOk L e → Good L T (mStp e) := by
 refine Tm.ind fun k nm num ty fr lb ks ih T hc hv ht hlb => ?_
 obtain ⟨hN, hkk⟩ := hc.node
 by_cases hall : ∀ i, i < (if k = 9 then 1 else ks.length) → (hl : i < ks.length) → mVal ks[i] = true
 ·have h8 := stp_kinds hc hv hall
  have := red_good L hL hc h8 hv hall ht hlb
  rw [mStp, stpL_none _ _ hall]
  exact this
 ·-- the first operand that is no value
  have hex : ∃ i, ∃ (hl : i < ks.length), i < (if k = 9 then 1 else ks.length) ∧ mVal ks[i] = false ∧ ∀ j, j < i → (h : j < ks.length) → mVal ks[j] = true := by
   have h0 : ∃ i, ∃ (hl : i < ks.length), i < (if k = 9 then 1 else ks.length) ∧ mVal ks[i] = false := by
    apply Classical.byContradiction
    intro hn
    exact hall fun i hi hl => by
     cases h : mVal ks[i] with
     | true => rfl
     | false => exact absurd ⟨i, hl, hi, h⟩ hn
   obtain ⟨i, h1⟩ := h0
   induction i using Nat.strongRecOn with
   | _ i ih2 =>
    obtain ⟨hl, hi, hvi⟩ := h1
    by_cases hj : ∃ j, j < i ∧ ∃ (h : j < ks.length), mVal ks[j] = false
    ·obtain ⟨j, hji, hjl, hjv⟩ := hj
     exact ih2 j hji ⟨hjl, by omega, hjv⟩
    ·refine ⟨i, hl, hi, hvi, fun j hji hjl => ?_⟩
     cases h : mVal ks[j] with
     | true => rfl
     | false => exact absurd ⟨j, hji, hjl, h⟩ hj
  obtain ⟨i, hl, hi, hvi, hbe⟩ := hex
  obtain ⟨s1, s2, s3⟩ := @stp_kid k nm num ty fr lb ks i hl hi hbe hvi
  have hk5 : k ≠ 5 := by
   rintro rfl
   rw [mVal, if_neg (by omega)] at hv
   exact absurd hv (by decide)
  have hlb2 := (lbOk_mk.1 hlb).2
  rw [lbOkL_mem] at hlb2
  rw [castTy] at ht
  split at ht
  ·cases ht
  ·rename_i us hu
   rw [inCx, if_neg hk5] at hu
   obtain ⟨U, hU, hset⟩ := castTyL_get hu i hl
   have hg := ih ks[i] (List.getElem_mem hl) U (hkk _ (List.getElem_mem hl)) hvi hU (hlb2 _ (List.getElem_mem hl))
   unfold Good
   rw [s1, s2]
   rcases hg with ⟨g1, g2, g3⟩ | ⟨g1, g2⟩
   ·refine .inl ⟨g1, ?_, ?_⟩
    ·rw [s3 g1, castTy, inCx, if_neg hk5, hset _ g2]
     exact ht
    ·rw [s3 g1, lbOk_mk]
     exact ⟨(lbOk_mk.1 hlb).1, lbOkL_mem.2 (lbOk_set hlb2 g3)⟩
   ·exact .inr ⟨g1, g2⟩
mutual
theorem lbOk_cv : ∀ e : Tm, cv e → lbOk (fun l => l ≠ 0) e
 | .mk k nm num ty fr lb ks, h => by
  obtain ⟨hN, hk⟩ := h.node
  obtain ⟨d, hd⟩ := h
  obtain ⟨_, _, h3, _⟩ := sShape_go2 hd
  obtain ⟨_, _, _, _, _, _, _, n8, _⟩ := tmNode_iff.1 h3
  rw [lbOk_mk]
  exact ⟨fun hk14 => labelOk_ne (n8 hk14).2, lbOkL_mem.2 fun t ht => (lbOk_cvL ks hk) t ht⟩
theorem lbOk_cvL : ∀ ts : List Tm, (∀ t ∈ ts, cv t) → ∀ t ∈ ts, lbOk (fun l => l ≠ 0) t
 | [], _ => by simp
 | t :: ts, h => fun u hu => by
  rcases List.mem_cons.1 hu with h1 | hu
  ·rw [h1]; exact lbOk_cv t (h t List.mem_cons_self)
  ·exact lbOk_cvL ts (fun x hx => h x (List.mem_cons_of_mem _ hx)) u hu
end
theorem step_good (L : Int → Prop) (hL : ∀ l, L l → L (-l)) (e : Tm) (T : Ty) (hc : castValid e = true) (ht : castTy [] e = some T) (hl : lbOk L e) :
  (mStepCast e = (e, 0, 0) ∧ mVal e = true) ∨ (∃ l, mStepCast e = (tm0, 2, l) ∧ L l) ∨ mStepCast e = (tm0, 4, 0) ∨ (∃ u, mStepCast e = (u, 1, 0) ∧ castValid u = true ∧ castTy [] u = some T ∧ lbOk L u) := by
 cases hv : mVal e with
 | true => exact .inl ⟨stepCast_2 hc hv, rfl⟩
 | false =>
  rcases stp_good L hL e T (cv_of hc).1 hv ht hl with ⟨g1, g2, g3⟩ | ⟨g1, g2⟩
  ·cases hcv : castValid (mStp e).1 with
   | false => exact .inr (.inr (.inl (stepCast_4 hc hv g1 hcv)))
   | true => exact .inr (.inr (.inr ⟨_, stepCast_5 hc hv g1 hcv, hcv, g2, g3⟩))
  ·exact .inr (.inl ⟨(mStp e).2.2, by rw [stepCast_3 hc hv (by omega), g1], g2⟩)
/-- Runs of steps: a value of the type, a label that is blamed, or no end. -/
theorem ev_good (L : Int → Prop) (hL : ∀ l, L l → L (-l)) : ∀ (n : Nat) (e : Tm) (T : Ty), castValid e = true → castTy [] e = some T → lbOk L e →
  ((mEv n e).2.1 = 0 ∧ (mEv n e).2.2.1 = 0 ∧ castTy [] (mEv n e).1 = some T ∧ mVal (mEv n e).1 = true ∧ castValid (mEv n e).1 = true) ∨ ((mEv n e).2.1 = 2 ∧ L (mEv n e).2.2.1) ∨ ((mEv n e).2.1 = 4 ∧ (mEv n e).2.2.1 = 0) ∨ ((mEv n e).2.1 = 5 ∧ (mEv n e).2.2.1 = 0)
 | 0, e, T, hc, ht, hl => by
  rcases step_good L hL e T hc ht hl with ⟨h, hv⟩ | ⟨l, h, hl⟩ | h | ⟨u, h, hu1, hu2, hu3⟩
  ·simp [mEv, h, ht, hv, hc]
  ·simp [mEv, h, hl]
  ·simp [mEv, h]
  ·simp [mEv, h]
 | n + 1, e, T, hc, ht, hl => by
  rcases step_good L hL e T hc ht hl with ⟨h, hv⟩ | ⟨l, h, hl⟩ | h | ⟨u, h, hu1, hu2, hu3⟩
  ·simp [mEv, h, ht, hv, hc]
  ·simp [mEv, h, hl]
  ·simp [mEv, h]
  ·have ih := ev_good L hL n u T hu1 hu2 hu3
   simpa only [mEv, h, if_true] using ih
theorem castTypeOf_fn (e : Tm) (G : IM) (cells : List Value) (hr : RTm G e cells) : Fn Tryz.prog 11 [.agg ⟨cells⟩] [] G (TyOk (mCastTypeOf e) G) := by
 have hl := hr.len
 have hone := hr.one
 refine fn_enter Tryz.func11 rfl Tryz.ntmps11 Tryz.results11 rfl ?_
 intro w0
 refine tS (tR ?_)
 refine sE (step_box_a rfl rfl) rfl (fun b3 => ?_)
 refine sE (step_alloc rfl) rfl (fun b4 => ?_)
 refine sQ (qA rfl) rfl (sD (nS (tS (tS (tR (sL (load_a rfl rfl (at_blk_all (by repeat first | exact mH | apply mT)) hl) rfl rfl ?_))))))
 refine seq_valb rfl ((castValid_fn e _ _ hr)) rfl rfl (fun h12 => ?_) (fun h12 => ?_)
 refine sQ (pNt rfl) rfl (sD (nS (cF rfl ?_)))
 refine tK (nS (tS (tR (sL (load_a rfl rfl (at_blk_all (by repeat first | exact mH | apply mT)) hl) rfl rfl ?_))))
 focus (have hcv : castValid e = true := (by assumption); have hsh := ((castValid_iff e).1 hcv).1; refine seq_imm rfl (castType_fn e 1 [] G none 0 0 _ hsh (by omega) (RCx.nil G) hr) rfl rfl (fun v G1 hle1 hh => ?_); obtain ⟨cu, u, rfl, hru, hu⟩ := hh; obtain ⟨p1, c1, e1, rfl, _⟩ := hru.open; rcases hct : castTy [] e with _ | u2; rotate_left; obtain rfl := hu u2 hct; rotate_left)
 refine sQ (qM rfl) rfl (sQ (pX rfl rfl) rfl (sQ (pX rfl rfl) rfl ?_))
 refine sE (step_alloc rfl) rfl (fun b26 => ?_)
 refine sS' ?_
 refine sQ (qA rfl) rfl (sD (nS (tS (tS (tR (sQ (qM rfl) rfl ?_))))))
 refine sQ (pNf rfl) rfl (sD (nS (qT rfl ?_)))
 refine tS (tR (sQ (pBd rfl rfl) rfl (sS' ?_)))
 refine sQ (qA rfl) rfl (sD (nS (tT (rS (rF2 (rC rfl (lBa rfl rfl)) (rT rfl) ?_)))))
 (exact TyOk.no (u := ty0) (tyLeaf_r _ ⟨by omega, by omega⟩) rfl (by rw [mCastTypeOf, if_pos hcv]; exact hct))
 refine sQ (qM rfl) rfl (sQ (pX rfl rfl) rfl (sQ (pX rfl rfl) rfl ?_))
 refine sE (step_alloc rfl) rfl (fun b53 => ?_)
 refine sS' ?_
 refine sQ (qA rfl) rfl (sD (nS (tS (tS (tR (sQ (qM rfl) rfl ?_))))))
 refine sQ (pNt rfl) rfl (sD (nS (cF rfl ?_)))
 refine tK (nS (tS (tR (sL (lBa rfl rfl) rfl rfl ?_))))
 (refine seq_imm rfl (ownType_fn _ G1 _ (castTy_ar hsh hct).small hru) rfl rfl (fun v G2 hle2 hh => ?_); obtain ⟨cs2, F2, rfl, hs2, hn2⟩ := hh; obtain ⟨p2, c2, rfl, _⟩ := hs2.open; have hr2 := hs2.R.mono (Dif.le G2 G1))
 refine sS' ?_
 refine sQ (qA rfl) rfl (sD (nS (tT (rF2 (rC rfl (lBa rfl rfl)) (rT rfl) ?_))))
 (exact TyOk.yes hr2 rfl (by rw [mCastTypeOf, if_pos hcv]; exact hct))
 refine sQ (pNf rfl) rfl (sD (nS (qT rfl ?_)))
 refine tS (tR (sQ (pBd rfl rfl) rfl (sS' ?_)))
 refine sQ (qA rfl) rfl (sD (nS (tT (rS (rF2 (rC rfl (lBa rfl rfl)) (rT rfl) ?_)))))
 (exact TyOk.no (u := ty0) (tyLeaf_r _ ⟨by omega, by omega⟩) rfl (by rw [mCastTypeOf, if_neg (by simp [*])]))
theorem pure_seq_s {P : Program} {Γ : Ctx} {env : Env} {hp : List Ent} {G : IM} {ty : TypeId} {x y : Operand} {t t' : TypeId} {r : ByteArray} (hx : evo env x = some (.string r)) (hy : evo env y = some (.string r)) :
  PureOp P Γ ⟨env, hp, G⟩ (.binOp .eql t x y t') ty (.bool true) := by
 have h := pure_seql (P := P) (Γ := Γ) (hp := hp) (G := G) (t := t) (t' := t') (ty := ty) hx hy
 simpa using h
theorem typeSame_fn : ∀ (t : Ty) (G : IM) (cells cells' : List Value), RTy G t cells → RTy G t cells' → Fn Tryz.prog 13 [.agg ⟨cells⟩, .agg ⟨cells'⟩] [] G (Val (.bool true) G) := by
 refine Ty.ind fun k ks ih G cells cells' hr hr' => ?_
 obtain ⟨p, c, es, rfl, hk, hsl, hkl⟩ := hr.open
 obtain ⟨p', c', es', rfl, hk', hsl', hkl'⟩ := hr'.open
 simp only [Ty.k, Ty.ks] at hk hsl hkl hk' hsl' hkl' ⊢
 refine fn_enter Tryz.func13 rfl Tryz.ntmps13 Tryz.results13 rfl ?_
 intro w0
 refine tS (tR ?_)
 refine sE (step_box_a rfl rfl) rfl (fun b3 => ?_)
 refine sE (step_box_a rfl rfl) rfl (fun b4 => ?_)
 refine sQ (qA rfl) rfl (sD (nS (tS (tR (sQ (qF0 rfl) rfl (sL (lBs rfl rfl) rfl rfl ?_))))))
 refine sQ (qF0 rfl) rfl (sL (lBs rfl rfl) rfl rfl ?_)
 refine sP (pure_eql_t rfl rfl (by omega)) rfl rfl ?_
 refine sQ (qM rfl) rfl (sQ (qF0 rfl) rfl (sL (lBs rfl rfl) rfl rfl ?_))
 refine sQ (qF0 rfl) rfl (sL (lBs rfl rfl) rfl rfl ?_)
 refine seq_val rfl (equalFunc_Type _ _ _ _ _ _ _ _ _ hsl hsl' _ [] [] [] (fun _ => true) true (by simp) (fun i e e' he he' => ih (ks.getD i ty0) (hkl.inv he ty0).1 _ _ _ (hkl.inv he ty0).2 (hkl'.inv he' ty0).2)) rfl rfl ?_
 refine sQ (pPt rfl rfl) rfl (sQ (qA rfl) rfl (sD (nS (tT (rF1 (rT rfl) ?_)))))
 exact ⟨rfl, rfl, rfl⟩
theorem equalFunc_Term (G : IM) (p p' : Option Addr) (n c c' : Nat) (es es' : List (List Value)) (hsl : SlE G p n c 9 es) (hsl' : SlE G p' n c' 9 es') (fid : FuncId) [FunI Tryz.prog fid]
  (hq : ∀ (i : Nat) (e e' : List Value), es[i]? = some e → es'[i]? = some e' → Fn Tryz.prog fid [.agg ⟨e⟩, .agg ⟨e'⟩] [] G (ValO (.bool true) [] G)) :
  Fn Tryz.prog 35 [.slice p n c, .slice p' n c', .func (.func fid) ⟨[]⟩ ⟨[]⟩] [] G (Val (.bool true) G) := by
 have hn := hsl.le
 refine fn_enter Tryz.func35 rfl Tryz.ntmps35 Tryz.results35 rfl ?_
 intro w0
 refine tS (tR (sQ (qA rfl) rfl (sD (nS (tS (tS ?_))))))
 refine tR (sQ (qM rfl) rfl (sQ (pLn rfl rfl) rfl (sQ (qM rfl) rfl (sQ (pLn rfl rfl) rfl (sP (pure_neq_f rfl rfl (by omega)) rfl rfl ?_)))))
 refine sD (nS (cF rfl ?_))
 refine tK (nS (tS (tS (tR (sQ (qM rfl) rfl (sQ (pLn rfl rfl) rfl ?_))))))
 refine sQ (qM rfl) rfl (sD (nS (tri_block (tri_loopN (fun i : Nat => ⟨[(17, .int .i64 i), (16, .int .i64 n), (15, .slice p n c), (2, .func (.func fid) ⟨[]⟩ ⟨[]⟩), (1, .slice p' n c'), (0, .slice p n c)], [], G⟩) (fun i => i ≤ n) (fun i => n - i) 0 ?_ ?_ ?_))))
 exact sMk
 exact Nat.zero_le _
 rintro i hi
 refine tS (tR (sB (pure_lss rfl rfl) rfl rfl (fun h34 => ?_) (fun h34 => ?_)))
 refine sD (nS (tS (qT rfl ?_)))
 refine tK (nS (tS (tri_block (tS (tR (sQ (qM rfl) rfl ?_))))))
 (obtain ⟨e, b, o, he, rfl, hl, _, hat, _⟩ := hsl.get (i := i) (by omega); refine sP (pIN rfl rfl rfl (by omega)) rfl rfl ?_)
 refine sL (load_a rfl rfl (hat _) hl) rfl rfl ?_
 refine sE (step_alloc rfl) rfl (fun b48 => ?_)
 refine sQ (qA rfl) rfl (seq_store rfl rfl rfl (by assumption) (by assumption) rfl (by repeat first | exact Sw.here | apply Sw.there) (by exact upd_all (by symm; assumption)) ?_)
 refine sD (nS (tS (tR (sQ (qM rfl) rfl (sQ (qM rfl) rfl ?_)))))
 (obtain ⟨e', b', o', he', rfl, hl', _, hat', _⟩ := hsl'.get (i := i) (by omega); refine sP (pIN rfl rfl rfl (by omega)) rfl rfl ?_)
 refine sL (load_a rfl rfl (hat' _) hl') rfl rfl ?_
 refine sE (step_alloc rfl) rfl (fun b59 => ?_)
 refine seq_store rfl rfl rfl (by assumption) (by assumption) rfl (by repeat first | exact Sw.here | apply Sw.there) (by exact upd_all (by symm; assumption)) ?_
 refine sD (nS (tS (tR (sQ (qM rfl) rfl (sL (load_a rfl rfl (at_blk_all (by repeat first | exact mH | apply mT)) (by assumption)) rfl rfl ?_)))))
 refine sL (load_a rfl rfl (at_blk_all (by repeat first | exact mH | apply mT)) (by assumption)) rfl rfl ?_
 refine seq_vvalbo rfl rfl (hq i e e' he he') perm_two rfl rfl (fun h68 => ?_) (fun h68 => ?_)
 simp only [Bool.not_eq_true', Bool.not_eq_false'] at h68
 refine sQ (pNt rfl) rfl (sD (nS (cF rfl ?_)))
 refine tK (nrm_block (nS (tR (sP (pure_add rfl rfl (by omega) (by omega)) rfl rfl ?_))))
 refine sQ (qM rfl) rfl (sD (nrm_loopN (i + 1) ?_ ?_ ?_))
 exact sMk
 omega
 omega
 refine sQ (pNf rfl) rfl (sD (nS (qT rfl ?_)))
 refine tS (tR (sQ (qA rfl) rfl (sD (nS (tT (rB ?_))))))
 refine rS (ret_loopN (rB (rS (rF1 (rT rfl) ?_))))
 (exact absurd (by assumption) (by decide))
 refine sD (nS (tS (cF rfl ?_)))
 refine tri_exit ?_
 refine ext_seq ?_
 refine ext_loopN ?_
 refine ext_block_eq ?_
 refine nS (tS (tR (sQ (qA rfl) rfl (sD (nS (tT ?_))))))
 refine rF1 (rT rfl) ?_
 exact ⟨rfl, rfl, rfl⟩
theorem termSame_fn : ∀ (t : Tm) (G : IM) (cells cells' : List Value), RTm G t cells → RTm G t cells' → Fn Tryz.prog 12 [.agg ⟨cells⟩, .agg ⟨cells'⟩] [] G (Val (.bool true) G) := by
 refine Tm.ind fun k nm num ty fr lb ks ih G cells cells' hr hr' => ?_
 obtain ⟨tk, tks⟩ := ty
 obtain ⟨fk, fks⟩ := fr
 obtain ⟨pt, ct, pf, cf, p, c, es, rfl, hk, hnum, hlb, hty, hfr, hsl, hkl⟩ := hr.open9
 obtain ⟨pt', ct', pf', cf', p', c', es', rfl, _, _, _, hty', hfr', hsl', hkl'⟩ := hr'.open9
 have h1 := typeSame_fn (.mk tk tks) G _ _ hty hty'
 have h2 := typeSame_fn (.mk fk fks) G _ _ hfr hfr'
 refine fn_enter Tryz.func12 rfl Tryz.ntmps12 Tryz.results12 rfl ?_
 intro w0
 refine tS (tR ?_)
 refine sE (step_box_a rfl rfl) rfl (fun b3 => ?_)
 refine sE (step_box_a rfl rfl) rfl (fun b4 => ?_)
 refine sQ (qA rfl) rfl (sD (nS (tS (tR (sQ (qF0 rfl) rfl (sL (lBs rfl rfl) rfl rfl ?_))))))
 refine sQ (qF0 rfl) rfl (sL (lBs rfl rfl) rfl rfl ?_)
 refine sP (pure_eql_t rfl rfl (by omega)) rfl rfl ?_
 refine sQ (qM rfl) rfl (sQ (qF0 rfl) rfl (sL (lBs rfl rfl) rfl rfl ?_))
 refine sQ (qF0 rfl) rfl (sL (lBs rfl rfl) rfl rfl ?_)
 refine sQ (pure_seq_s rfl rfl) rfl (sQ (pPt rfl rfl) rfl (sQ (qM rfl) rfl (sQ (qF0 rfl) rfl (sL (lBs rfl rfl) rfl rfl ?_))))
 refine sQ (qF0 rfl) rfl (sL (lBs rfl rfl) rfl rfl ?_)
 refine sP (pure_eql_t rfl rfl (by omega)) rfl rfl ?_
 refine sQ (pPt rfl rfl) rfl (sQ (qM rfl) rfl (sQ (qF0 rfl) rfl (sL (lBa rfl rfl) rfl rfl ?_)))
 refine sQ (qF0 rfl) rfl (sL (lBa rfl rfl) rfl rfl ?_)
 refine seq_val rfl (h1) rfl rfl ?_
 refine sQ (pPt rfl rfl) rfl (sQ (qM rfl) rfl (sQ (qF0 rfl) rfl (sL (lBa rfl rfl) rfl rfl ?_)))
 refine sQ (qF0 rfl) rfl (sL (lBa rfl rfl) rfl rfl ?_)
 refine seq_val rfl (h2) rfl rfl ?_
 refine sQ (pPt rfl rfl) rfl (sQ (qM rfl) rfl (sQ (qF0 rfl) rfl (sL (lBs rfl rfl) rfl rfl ?_)))
 refine sQ (qF0 rfl) rfl (sL (lBs rfl rfl) rfl rfl ?_)
 refine sP (pure_eql_t rfl rfl (by omega)) rfl rfl ?_
 refine sQ (pPt rfl rfl) rfl (sQ (qM rfl) rfl (sQ (qF0 rfl) rfl (sL (lBs rfl rfl) rfl rfl ?_)))
 refine sQ (qF0 rfl) rfl (sL (lBs rfl rfl) rfl rfl ?_)
 refine seq_val rfl (equalFunc_Term _ _ _ _ _ _ _ _ hsl hsl' _ (fun i e e' he he' => ih (ks.getD i tm0) (hkl.inv he tm0).1 _ _ _ (hkl.inv he tm0).2 (hkl'.inv he' tm0).2)) rfl rfl ?_
 refine sQ (pPt rfl rfl) rfl (sQ (qA rfl) rfl (sD (nS (tT (rF1 (rT rfl) ?_)))))
 exact ⟨rfl, rfl, rfl⟩
inductive MV where
 | mk (k num : Int) (env parts : List MV)
def MV.k : MV → Int | .mk k _ _ _ => k
def MV.num : MV → Int | .mk _ n _ _ => n
def MV.env : MV → List MV | .mk _ _ e _ => e
def MV.parts : MV → List MV | .mk _ _ _ p => p
def mv0 : MV := .mk 0 0 [] []
/- How it lies in memory; kc says how a kind is written. -/
mutual
def RMv (kc : Int → Int) (G : IM) : MV → List Value → Prop
 | .mk k num env parts, cells => ∃ p c es q d fs, cells = [.int .i64 (kc k), .int .i64 num, .slice p env.length c, .slice q parts.length d] ∧ I64 num ∧ I64 (kc k) ∧ SlE G p env.length c 4 es ∧ RMvL kc G env es ∧ SlE G q parts.length d 4 fs ∧ RMvL kc G parts fs
def RMvL (kc : Int → Int) (G : IM) : List MV → List (List Value) → Prop
 | [], es => es = []
 | t :: ts, es => ∃ a r, es = a :: r ∧ RMv kc G t a ∧ RMvL kc G ts r
end
section
variable {kc : Int → Int} {G : IM}
end

/- Where to go back to, and with what environment. -/
def RFr (kc : Int → Int) (G : IM) (f : Int × List MV) (cells : List Value) : Prop := ∃ p c es, cells = [.int .i64 f.1, .slice p f.2.length c] ∧ I64 f.1 ∧ SlE G p f.2.length c 4 es ∧ RMvL kc G f.2 es
def RFrL (kc : Int → Int) (G : IM) : List (Int × List MV) → List (List Value) → Prop
 | [], es => es = []
 | t :: ts, es => ∃ a r, es = a :: r ∧ RFr kc G t a ∧ RFrL kc G ts r
section
variable {kc : Int → Int} {G : IM}
end

/-- A state: what runs next, the stack, the environment, where to go back to. -/
structure MSt where
 at' : Int
 st : List MV
 env : List MV
 fr : List (Int × List MV)
/-- A state in memory that no longer changes. -/
def RSs (kc : Int → Int) (G : IM) (s : MSt) (cells : List Value) : Prop := ∃ pe ce ps cs pf cf ee es ef, cells = [.int .i64 s.at', .slice pe s.env.length ce, .slice ps s.st.length cs, .slice pf s.fr.length cf] ∧ I64 s.at' ∧
 SlE G pe s.env.length ce 4 ee ∧ RMvL kc G s.env ee ∧ SlE G ps s.st.length cs 4 es ∧ RMvL kc G s.st es ∧ SlE G pf s.fr.length cf 2 ef ∧ RFrL kc G s.fr ef
def mPops (k : Int) : Nat := if k = 6 ∨ k = 7 ∨ k = 8 ∨ k = 11 then 2 else if k = 9 ∨ k = 12 ∨ k = 13 then 1 else 0
/-- The kind that is wanted, of how many, and the error of another one. -/
def mWant (k : Int) : Int × Nat × Int := if k = 6 then (2, 1, 1) else if k = 7 ∨ k = 8 then (0, 2, 2) else if k = 9 then (1, 1, 3) else if k = 12 ∨ k = 13 then (3, 1, 4) else (0, 0, 0)
def mPush (s : MSt) (v : MV) : MSt := { s with st := s.st ++ [v] }
/-- What an instruction does, once its operands v are popped and at' is past it. -/
def mGo (k a : Int) (s : MSt) (v : List MV) : MSt ⊕ (Int × Int) :=
 if k = 1 then .inl (mPush s (.mk 0 a [] []))
 else if k = 2 then .inl (mPush s (.mk 1 a [] []))
 else if k = 3 then (if (s.env.length : Int) - 1 - a < 0 then .inr (3, 0) else .inl (mPush s (s.env.getD ((s.env.length : Int) - 1 - a).toNat mv0)))
 else if k = 4 then .inl { mPush s (.mk 2 s.at' s.env []) with at' := s.at' + a }
 else if k = 5 then (if s.fr.length = 0 then .inr (3, 0) else .inl { s with at' := (s.fr.getD (s.fr.length - 1) (0, [])).1, env := (s.fr.getD (s.fr.length - 1) (0, [])).2, fr := s.fr.take (s.fr.length - 1) })
 else if k = 6 then .inl { s with at' := (v.getD 0 mv0).num, env := (v.getD 0 mv0).env ++ [v.getD 1 mv0], fr := s.fr ++ [(s.at', s.env)] }
 else if k = 7 then .inl (mPush s (.mk 0 (((v.getD 0 mv0).num + (v.getD 1 mv0).num) % 1000) [] []))
 else if k = 8 then .inl (mPush s (.mk 1 (if (v.getD 0 mv0).num < (v.getD 1 mv0).num then 1 else 0) [] []))
 else if k = 9 then .inl (if (v.getD 0 mv0).num = 0 then { s with at' := s.at' + a } else s)
 else if k = 10 then .inl { s with at' := s.at' + a }
 else if k = 11 then .inl (mPush s (.mk 3 0 [] v))
 else .inl (mPush s ((v.getD 0 mv0).parts.getD (k - 12).toNat mv0))
def mKinds (k : Int) (v : List MV) : Bool := (v.take (mWant k).2.1).all fun u => decide (u.k = (mWant k).1)
/-- An instruction of kind k with the number a: the next state, or a code and an error. -/
def mStep (k a : Int) (s : MSt) : MSt ⊕ (Int × Int) :=
 if s.st.length < mPops k then .inr (3, 0)
 else if mKinds k (s.st.drop (s.st.length - mPops k)) = true then mGo k a { s with at' := s.at' + 1, st := s.st.take (s.st.length - mPops k) } (s.st.drop (s.st.length - mPops k))
 else .inr (2, (mWant k).2.2)
/-- A number as it is written. -/
def mvText (v : MV) : ByteArray := if v.k = 0 then ⟨(Lib.decDigits v.num.toNat).toArray⟩ else if v.k = 1 then (if v.num = 0 then ⟨#[70]⟩ else ⟨#[84]⟩) else if v.k = 2 then ⟨⟨[102, 117, 110, 99, 116, 105, 111, 110]⟩⟩ else ⟨⟨[112, 97, 105, 114]⟩⟩
def mEnd (s : MSt) : ByteArray × Int × Int := if s.st.length ≠ 1 ∨ 0 < s.fr.length then (⟨#[]⟩, 3, 0) else (mvText (s.st.getD 0 mv0), 0, 0)
/-- The run of a code from a state, so many instructions long at most. -/
def mRun (ops : List (Int × Int)) : Nat → MSt → ByteArray × Int × Int
 | t, s => if (ops.length : Int) ≤ s.at' then mEnd s else match t with
  | 0 => (⟨#[]⟩, 5, 0)
  | t + 1 => match mStep (ops.getD s.at'.toNat (0, 0)).1 (ops.getD s.at'.toNat (0, 0)).2 s with
   | .inl s' => mRun ops t s'
   | .inr (c, e) => (⟨#[]⟩, c, e)
def mMost (k behind : Int) : Int := if k = 1 then 999 else if k = 2 then 1 else if k = 3 then 11 else if k = 4 ∨ k = 9 ∨ k = 10 then behind else 0
def mOpOk (n : Nat) (i : Nat) (x : Int × Int) : Bool := decide (1 ≤ x.1 ∧ x.1 ≤ 13 ∧ 0 ≤ x.2 ∧ x.2 ≤ mMost x.1 ((n : Int) - 1 - i))
def mOpsOk (ops : List (Int × Int)) : Bool := decide (1 ≤ ops.length ∧ ops.length ≤ 120) && (List.range ops.length).all fun i => mOpOk ops.length i (ops.getD i (0, 0))
def mRunOps (ops : List (Int × Int)) (ticks : Int) : ByteArray × Int × Int :=
 if mOpsOk ops = true ∧ 0 ≤ ticks ∧ ticks ≤ 2000 then mRun ops ticks.toNat ⟨0, [], [], []⟩ else (⟨#[]⟩, 3, 0)
end Gw
end Go.Proofs.YthpdjmbpbdbodaaGreatDoor
