/-
  The reference model's paths. The reference model's AllPaths. The law that AllPaths gives what the reference model gives: its walk. Nodes at paths, casts by their labels. The first cast with a label. The law that CastPath gives what the reference model gives: its walk. How high and how wide types are. Types of terms with casts, in plain words over trees: what a node wants of its operands, and what it is. Copies of types and terms: the reference model's, the program's, the laws' of paths. Terms each node of which is changed, operands first; own copies. The reference model's TermValid. The node of a term at a path. The reference model's source of numbers: each draw stays in its bounds. Where ways meet again. The reference model's drawn types: what they are made of, and how big they are. The reference model's drawn types, changed at random. The reference model's drawn types, changed at random. Terms without casts and types, in plain words. Strings: cut, put together, compared. The reference model's drawn terms: what they are made of, and how big they are. The reference model's drawn terms. The reference model's source is opened; drawn closed terms and valid terms. The reference model's functions on types: they end, and what they give has operands as it must. The laws' reading of marks in types and terms. Contexts of bindings: looked up, made longer. The reference model's typing: it ends, and what it gives is a type whose nodes have their operands, not wider than the term is big. The reference model's terms that are sometimes made invalid; drawn arguments. Slices of slices; slices of the call's own opened as blocks; one element of a slice of terms replaced. Casts put in: one cast, the types that are asked for. InsertCasts of the reference model: it ends, and what it gives is not much bigger than what it is given. Which names are free, at which place a name is bound: what comes out is small. Evaluation of terms with casts, in plain words. What a step gives is small. The program's functions on types and contexts: each computes what the plain words say. Nodes replaced: the program's put, the reference model's l16Replace. The reference model's replacing of nodes.
-/
import Derived.Test.YtmnfamimopcldaaGreatDoorKb2
import Derived.Test.YtmnfamimopcldaaGreatDoorKb1
import Derived.Test.YtmnfamimopcldaaGreatDoorKb0
import Derived.Laws.Slices
set_option linter.unusedVariables false
set_option linter.unusedSimpArgs false
set_option maxHeartbeats 0
set_option maxRecDepth 100000
set_option synthInstance.maxSize 4000
set_option synthInstance.maxHeartbeats 0
namespace Go.Proofs.YtmnfamimopcldaaGreatDoor
open Go Go.RowKit
namespace Gw
theorem l16Paths_fn : ∀ (t : Tm) (path : List Int) (G : IM) (cells : List Value) (pp : Option Addr) (pc : Nat) (pn : Option Addr) (m cn : Nat) (es0 : List Value), RTm G t cells → Sl G pp path.length pc 1 (ints path) → path.length + 2 * tmCount t + m ≤ 4294967296 →
  Fn Tryz.prog 87 [.slice pn m cn, .agg ⟨cells⟩, .slice pp path.length pc] [.slc pn cn 39 1 m es0] G
   (fun G' v outs => ∃ p' c' es F, v = .slice p' (m + tmCount t) c' ∧ outs = [.slc p' c' 39 1 (m + tmCount t) (es0 ++ es)] ∧ SPs (Dif G' G) (mPaths t path) es F ∧ F.Nodup) := by
 refine Tm.ind fun k nm num ty fr lb ks ih path G cells pp pc pn m cn es0 hr hpath hcnt => ?_
 have hone := hr.one
 obtain ⟨tk, tks⟩ := ty
 obtain ⟨fk, fks⟩ := fr
 obtain ⟨pt, ct, pf, cf, p, cp, es, rfl, hk, hnum, hlb, hty, hfr, hsl, hkl⟩ := hr.open9
 rw [tmCount] at hcnt
 have hn := len_le_count ks
 refine fn_enter Tryz.func87 rfl Tryz.ntmps87 Tryz.results87 rfl ?_
 intro w0
 refine tS (tR ?_)
 refine sE (step_box_a rfl rfl) rfl (fun b3 => ?_)
 refine sQ (pA rfl) rfl (sD (nS (tS (tR (sQ (pM rfl) rfl ?_)))))
 (refine seq_step (step_buildSlice rfl rfl rfl (by omega) (by unfold maxLen; omega) rfl) rfl ?_; rintro _ ⟨b10, rfl⟩)
 refine sQ (pM rfl) rfl ?_
 (refine seq_appendSl rfl rfl rfl rfl rfl (fun _ _ => by repeat (first | exact Sw.here | apply Sw.there)) hpath (ints_one _) (Nat.zero_le _) (by unfold maxLen; omega) (by omega) rfl (fun p2 c2 => ?_); simp only [Nat.zero_add, List.nil_append]; refine triL_freeze (cs := ints path) (by repeat (first | exact Pk.here | apply Pk.there)) (fun G2 hle2 hsl2 hno2 => ?_); obtain ⟨hf1, hf2⟩ := SPs.first hsl2 hno2 hsl2.nn hle2)
 (refine seq_step (step_buildSlice rfl rfl rfl (by omega) (by unfold maxLen; omega) rfl) rfl ?_; rintro _ ⟨b13, rfl⟩)
 (refine seq_append rfl rfl rfl rfl rfl (fun _ _ => by repeat (first | exact Sw.here | apply Sw.there)) (at_slc_all (by repeat first | exact mH | apply mT)) rfl (by simp [Value.oneCell']) (by unfold maxLen; omega) (by omega) rfl (fun p3 c3 => ?_))
 refine sQ (pA rfl) rfl (sD (nS (tS (tS (tR (sQ (pA rfl) rfl ?_))))))
 refine sD (nS (tri_block ?_))
 (refine tri_loopN (fun (x : Nat × Option Addr × Nat × Nat × List Value × List Nat × IM) => ⟨[(7, .int .i64 x.1), (0, .slice x.2.1 (m + x.2.2.1) x.2.2.2.1), (4, .pointer (some ⟨b3, 0, none⟩)), (2, .slice pp path.length pc)], [.slc x.2.1 x.2.2.2.1 39 1 (m + x.2.2.1) (es0 ++ x.2.2.2.2.1), .blk b3 [.int .i64 k, .string nm, .int .i64 num, .int .i64 tk, .slice pt tks.length ct, .int .i64 fk, .slice pf fks.length cf, .int .i64 lb, .slice p ks.length cp]], x.2.2.2.2.2.2⟩) (fun x => x.1 ≤ ks.length ∧ x.2.2.1 = tmCountL (ks.take x.1) + 1 ∧ IMle G x.2.2.2.2.2.2 ∧ SPs (Dif x.2.2.2.2.2.2 G) (path :: mPathsL (ks.take x.1) 0 path) x.2.2.2.2.1 x.2.2.2.2.2.1 ∧ x.2.2.2.2.2.1.Nodup) (fun x => ks.length - x.1) (0, p3, 1, c3, [.slice p2 path.length c2], vfp p2, G2) ?_ ?_ ?_)
 (simp only [flat_snoc]; exact sMk)
 exact ⟨Nat.zero_le _, rfl, hle2, hf1, hf2⟩
 (rintro ⟨i, pn', m', cn', es', F, Gi⟩ ⟨hi, hm, hleI, hst, hnd⟩; simp only [] at hi hm hleI hst hnd ⊢; replace hsl := hsl.mono hleI; replace hkl := hkl.mono hleI; replace hpath := hpath.mono hleI)
 refine tS (tS (tR (sQ (pM rfl) rfl (sQ (pF0 rfl) rfl (sL (lBs rfl rfl) rfl rfl ?_)))))
 refine sQ (pLn rfl rfl) rfl (sB (pure_lss rfl rfl) rfl rfl (fun h36 => ?_) (fun h36 => ?_))
 refine sD (nS (cT rfl ?_))
 refine tK (nS (tS (tri_block ?_)))
 (obtain ⟨b, o, e, rfl, hl, hat, hre, hgb⟩ := hsl.kidTm hkl (i := i) (by omega) (by omega); have hone := hre.one; have htk := tmCountL_take (ks := ks) (i := i) (by omega); refine tri_draw mixed rfl ?_)
 refine any_pure (i := 0) (l' := [tt,ff,ff,ff,ff,ff,ff,ff,ff,ff,ff,ff,ff,ff]) rfl npI (pM rfl) rfl (by kernel_rfl) rfl rfl ?_
 refine aP 1 rfl (pF0 rfl) rfl ?_
 refine aL 2 rfl (lBs rfl rfl) rfl ?_
 refine aP 3 rfl (pM rfl) rfl ?_
 refine aP 4 rfl (pIN rfl rfl rfl (by omega)) rfl ?_
 refine aL 5 rfl (load_a rfl rfl (hat _) hl) rfl ?_
 refine aP 7 rfl (pM rfl) rfl ?_
 refine aP 9 rfl (pM rfl) rfl ?_
 refine any_two (j := 6) (j' := 10) (by kernel_rfl) ?_ ?_
 (refine one_step0 rfl (step_buildSlice rfl rfl rfl (by omega) (by unfold maxLen; omega) rfl) rfl rfl ?_; rintro _ ⟨b54, rfl⟩)
 refine any_two (j := 8) (j' := 10) (by kernel_rfl) ?_ ?_
 (refine one_appendSl rfl rfl rfl rfl rfl rfl (fun _ _ => by repeat (first | exact Sw.here | apply Sw.there)) hpath (ints_one _) (Nat.zero_le _) (by unfold maxLen; omega) (by omega) rfl rfl (by repeat (first | exact HmOk.nil | apply HmOk.dep (by decide +kernel) | apply HmOk.im (by decide +kernel) hgb (by repeat first | exact mH | apply mT) | apply HmOk.blk (by decide +kernel) (by repeat (first | exact Pk.here | apply Pk.there)) (by repeat first | exact mH | apply mT))) (fun p4 c4 => ?_); simp only [Nat.zero_add, List.nil_append])
 refine aO' 10 ?_
 (refine one_step0 rfl (step_buildSlice rfl rfl rfl (by omega) (by unfold maxLen; omega) rfl) rfl rfl ?_; rintro _ ⟨b58, rfl⟩)
 refine aO' 11 ?_
 (refine one_append rfl rfl rfl rfl rfl rfl (fun _ _ => by repeat (first | exact Sw.here | apply Sw.there)) (at_slc_all (by repeat first | exact mH | apply mT)) rfl (by simp [Value.oneCell']) (by unfold maxLen; omega) (by omega) rfl rfl (by repeat (first | exact HmOk.nil | apply HmOk.dep (by decide +kernel) | apply HmOk.im (by decide +kernel) hgb (by repeat first | exact mH | apply mT) | apply HmOk.blk (by decide +kernel) (by repeat (first | exact Pk.here | apply Pk.there)) (by repeat first | exact mH | apply mT))) (fun p5 c5 => ?_))
 (refine any_freeze (cs := ints path ++ [.int .i64 (i : Int)]) (by repeat (first | exact Pk.here | apply Pk.there)) (fun Gf hle61 hslf hnof => ?_); rw [← ints_snoc] at hslf; replace hre := hre.mono hle61; have hlef := hle61)
 replace hkl := hkl.mono hle61
 replace hpath := hpath.mono hle61
 replace hsl := hsl.mono hle61
 refine aO' 12 ?_
 (have hih := ih ks[i] (List.getElem_mem (by omega)) (path ++ [(i : Int)]) Gf e p5 c5 pn' (m + m') cn' (es0 ++ es') hre; rw [show (path ++ [(i : Int)]).length = path.length + 1 from by simp] at hih; replace hih := hih hslf (by omega); refine one_take (l' := [tt,tt,tt,tt,tt,tt,tt,tt,tt,tt,tt,tt,tt,ff]) rfl rfl hih (Pk.perm (by repeat (first | exact Pk.here | apply Pk.there))) rfl rfl rfl (by repeat (first | exact HmOk.nil | apply HmOk.dep (by decide +kernel))) (fun v G1 outs hle1 hh => ?_); obtain ⟨p6, c6, es6, F6, rfl, rfl, hsp6, hnd6⟩ := hh; rw [show m + m' + tmCount ks[i] = m + (m' + tmCount ks[i]) from Nat.add_assoc _ _ _, List.append_assoc es0])
 refine aP 13 rfl (pA rfl) rfl ?_
 refine aD' ?_
 refine nrm_block (nS (tR (sQ (pM rfl) rfl (sP (pure_add rfl rfl (by omega) (by omega)) rfl rfl ?_))))
 refine sQ (pA rfl) rfl (sD ?_)
 (obtain ⟨q1, q2⟩ := SPs.step hst hnd hleI hlef hle1 hsp6 hnd6; have hsu := tmCountL_succ (ks := ks) (i := i) (by omega); refine nrm_loopN (i + 1, p6, m' + tmCount ks[i], c6, es' ++ es6, F ++ F6, G1) ?_ ?_ ?_)
 (simp only [flat_snoc]; exact sMk)
 (dsimp only; exact ⟨by omega, by omega, (hleI.trans hlef).trans hle1, by rw [mPathsL_take (by omega)]; exact q1, q2⟩)
 (show ks.length - (i + 1) < ks.length - i; omega)
 (refine one_step0 rfl (step_buildSlice rfl rfl rfl (by omega) (by unfold maxLen; omega) rfl) rfl rfl ?_; rintro _ ⟨b77, rfl⟩)
 refine aO' 8 ?_
 (refine one_appendSl rfl rfl rfl rfl rfl rfl (fun _ _ => by repeat (first | exact Sw.here | apply Sw.there)) hpath (ints_one _) (Nat.zero_le _) (by unfold maxLen; omega) (by omega) rfl rfl (by repeat (first | exact HmOk.nil | apply HmOk.dep (by decide +kernel) | apply HmOk.im (by decide +kernel) hgb (by repeat first | exact mH | apply mT) | apply HmOk.blk (by decide +kernel) (by repeat (first | exact Pk.here | apply Pk.there)) (by repeat first | exact mH | apply mT))) (fun p4 c4 => ?_); simp only [Nat.zero_add, List.nil_append])
 refine aO' 11 ?_
 (refine one_append rfl rfl rfl rfl rfl rfl (fun _ _ => by repeat (first | exact Sw.here | apply Sw.there)) (at_slc_all (by repeat first | exact mH | apply mT)) rfl (by simp [Value.oneCell']) (by unfold maxLen; omega) (by omega) rfl rfl (by repeat (first | exact HmOk.nil | apply HmOk.dep (by decide +kernel) | apply HmOk.im (by decide +kernel) hgb (by repeat first | exact mH | apply mT) | apply HmOk.blk (by decide +kernel) (by repeat (first | exact Pk.here | apply Pk.there)) (by repeat first | exact mH | apply mT))) (fun p5 c5 => ?_))
 (refine any_freeze (cs := ints path ++ [.int .i64 (i : Int)]) (by repeat (first | exact Pk.here | apply Pk.there)) (fun Gf hle82 hslf hnof => ?_); rw [← ints_snoc] at hslf; replace hre := hre.mono hle82; have hlef := hle82)
 replace hkl := hkl.mono hle82
 replace hpath := hpath.mono hle82
 replace hsl := hsl.mono hle82
 refine aO' 12 ?_
 (have hih := ih ks[i] (List.getElem_mem (by omega)) (path ++ [(i : Int)]) Gf e p5 c5 pn' (m + m') cn' (es0 ++ es') hre; rw [show (path ++ [(i : Int)]).length = path.length + 1 from by simp] at hih; replace hih := hih hslf (by omega); refine one_take (l' := [tt,tt,tt,tt,tt,tt,tt,tt,tt,tt,tt,tt,tt,ff]) rfl rfl hih (Pk.perm (by repeat (first | exact Pk.here | apply Pk.there))) rfl rfl rfl (by repeat (first | exact HmOk.nil | apply HmOk.dep (by decide +kernel))) (fun v G1 outs hle1 hh => ?_); obtain ⟨p6, c6, es6, F6, rfl, rfl, hsp6, hnd6⟩ := hh; rw [show m + m' + tmCount ks[i] = m + (m' + tmCount ks[i]) from Nat.add_assoc _ _ _, List.append_assoc es0])
 refine aP 13 rfl (pA rfl) rfl ?_
 refine aD' ?_
 refine nrm_block (nS (tR (sQ (pM rfl) rfl (sP (pure_add rfl rfl (by omega) (by omega)) rfl rfl ?_))))
 refine sQ (pA rfl) rfl (sD ?_)
 (obtain ⟨q1, q2⟩ := SPs.step hst hnd hleI hlef hle1 hsp6 hnd6; have hsu := tmCountL_succ (ks := ks) (i := i) (by omega); refine nrm_loopN (i + 1, p6, m' + tmCount ks[i], c6, es' ++ es6, F ++ F6, G1) ?_ ?_ ?_)
 (simp only [flat_snoc]; exact sMk)
 (dsimp only; exact ⟨by omega, by omega, (hleI.trans hlef).trans hle1, by rw [mPathsL_take (by omega)]; exact q1, q2⟩)
 (show ks.length - (i + 1) < ks.length - i; omega)
 (refine one_step0 rfl (step_buildSlice rfl rfl rfl (by omega) (by unfold maxLen; omega) rfl) rfl rfl ?_; rintro _ ⟨b98, rfl⟩)
 refine aO' 6 ?_
 (refine one_step0 rfl (step_buildSlice rfl rfl rfl (by omega) (by unfold maxLen; omega) rfl) rfl rfl ?_; rintro _ ⟨b100, rfl⟩)
 refine aO' 8 ?_
 (refine one_appendSl rfl rfl rfl rfl rfl rfl (fun _ _ => by repeat (first | exact Sw.here | apply Sw.there)) hpath (ints_one _) (Nat.zero_le _) (by unfold maxLen; omega) (by omega) rfl rfl (by repeat (first | exact HmOk.nil | apply HmOk.dep (by decide +kernel) | apply HmOk.im (by decide +kernel) hgb (by repeat first | exact mH | apply mT) | apply HmOk.blk (by decide +kernel) (by repeat (first | exact Pk.here | apply Pk.there)) (by repeat first | exact mH | apply mT))) (fun p4 c4 => ?_); simp only [Nat.zero_add, List.nil_append])
 refine aO' 11 ?_
 (refine one_append rfl rfl rfl rfl rfl rfl (fun _ _ => by repeat (first | exact Sw.here | apply Sw.there)) (at_slc_all (by repeat first | exact mH | apply mT)) rfl (by simp [Value.oneCell']) (by unfold maxLen; omega) (by omega) rfl rfl (by repeat (first | exact HmOk.nil | apply HmOk.dep (by decide +kernel) | apply HmOk.im (by decide +kernel) hgb (by repeat first | exact mH | apply mT) | apply HmOk.blk (by decide +kernel) (by repeat (first | exact Pk.here | apply Pk.there)) (by repeat first | exact mH | apply mT))) (fun p5 c5 => ?_))
 (refine any_freeze (cs := ints path ++ [.int .i64 (i : Int)]) (by repeat (first | exact Pk.here | apply Pk.there)) (fun Gf hle105 hslf hnof => ?_); rw [← ints_snoc] at hslf; replace hre := hre.mono hle105; have hlef := hle105)
 replace hkl := hkl.mono hle105
 replace hpath := hpath.mono hle105
 replace hsl := hsl.mono hle105
 refine aO' 12 ?_
 (have hih := ih ks[i] (List.getElem_mem (by omega)) (path ++ [(i : Int)]) Gf e p5 c5 pn' (m + m') cn' (es0 ++ es') hre; rw [show (path ++ [(i : Int)]).length = path.length + 1 from by simp] at hih; replace hih := hih hslf (by omega); refine one_take (l' := [tt,tt,tt,tt,tt,tt,tt,tt,tt,tt,tt,tt,tt,ff]) rfl rfl hih (Pk.perm (by repeat (first | exact Pk.here | apply Pk.there))) rfl rfl rfl (by repeat (first | exact HmOk.nil | apply HmOk.dep (by decide +kernel))) (fun v G1 outs hle1 hh => ?_); obtain ⟨p6, c6, es6, F6, rfl, rfl, hsp6, hnd6⟩ := hh; rw [show m + m' + tmCount ks[i] = m + (m' + tmCount ks[i]) from Nat.add_assoc _ _ _, List.append_assoc es0])
 refine aP 13 rfl (pA rfl) rfl ?_
 refine aD' ?_
 refine nrm_block (nS (tR (sQ (pM rfl) rfl (sP (pure_add rfl rfl (by omega) (by omega)) rfl rfl ?_))))
 refine sQ (pA rfl) rfl (sD ?_)
 (obtain ⟨q1, q2⟩ := SPs.step hst hnd hleI hlef hle1 hsp6 hnd6; have hsu := tmCountL_succ (ks := ks) (i := i) (by omega); refine nrm_loopN (i + 1, p6, m' + tmCount ks[i], c6, es' ++ es6, F ++ F6, G1) ?_ ?_ ?_)
 (simp only [flat_snoc]; exact sMk)
 (dsimp only; exact ⟨by omega, by omega, (hleI.trans hlef).trans hle1, by rw [mPathsL_take (by omega)]; exact q1, q2⟩)
 (show ks.length - (i + 1) < ks.length - i; omega)
 refine sD (nS (cF rfl ?_))
 refine tri_exit ?_
 refine ext_seq ?_
 refine ext_loopN ?_
 refine ext_block_eq ?_
 refine nS (tS (tR (sQ (pM rfl) rfl (sQ (pA rfl) rfl (sD (nS ?_))))))
 refine tT ?_
 (obtain rfl : i = ks.length := (by omega); refine ret_own1 (rT rfl) (SubH.cons Pk.here SubH.nil) ?_)
 (rw [List.take_length] at hst hm; subst hm; rw [tmCount, mPaths]; exact ⟨pn', cn', es', F, rfl, rfl, hst, hnd⟩)
theorem sAllPaths_fn (t : Tm) (G : IM) (cells : List Value) (hcnt : tmCount t ≤ 4294967296) (hr : RTm G t cells) :
  Fn Tryz.prog 52 [.agg ⟨cells⟩] [] G (Imm fun G' v => ∃ p c, v = .slice p (mAll t).length c ∧ RPs (Dif G' G) (mAll t) p c) := by
 have hl := hr.len
 have hv := sCastValid_fn t G cells hcnt hr
 have hcnt := @castValid_count t
 refine fn_enter Tryz.func52 rfl Tryz.ntmps52 Tryz.results52 rfl ?_
 intro w0
 refine tS (tR ?_)
 refine sE (step_box_a rfl rfl) rfl (fun b3 => ?_)
 refine sQ (pA rfl) rfl (sD (nS (tS (tS (tR (sL (load_a rfl rfl (at_blk_all (by repeat first | exact mH | apply mT)) (by assumption)) rfl rfl ?_))))))
 refine seq_valb rfl (hv) rfl rfl (fun h11 => ?_) (fun h11 => ?_)
 refine sQ (pNt rfl) rfl (sD (nS (cF rfl ?_)))
 refine tK (nS (tS (tR ?_)))
 (refine seq_step (step_buildSlice rfl rfl rfl (by omega) (by unfold maxLen; omega) rfl) rfl ?_; rintro _ ⟨bq, rfl⟩)
 refine sL (load_a rfl rfl (at_blk_all (by repeat first | exact mH | apply mT)) (by assumption)) rfl rfl ?_
 (have hih := l16Paths_fn t [] G cells none 0 (some ⟨bq, 0, none⟩) 0 0 [] hr (Sl.nil G 1) (by have := hcnt (by assumption); simp; omega); refine seq_step (step_call_own rfl hih (Pk.perm (by repeat (first | exact Pk.here | apply Pk.there))) rfl) rfl ?_; rintro _ ⟨v, G1, outs, rfl, hle1, hh⟩; obtain ⟨p6, c6, es6, F6, rfl, rfl, hsp6, hnd6⟩ := hh; simp only [List.nil_append, Nat.zero_add])
 refine sQ (pA rfl) rfl (sD (nS ?_))
 (refine ret_freeze (by repeat (first | exact Pk.here | apply Pk.there)) (fun G3 hle3 hsl3 hno3 => ?_))
 refine tT (rF1 (rT rfl) ?_)
 (have hm : mAll t = mPaths t [] := if_pos (by assumption); rw [hm]; have hfin := RPs.fin hsp6 hnd6 hle1 hle3 hsl3 (by rw [mPaths_len]) hno3; exact ⟨rfl, p6, c6, by rw [mPaths_len], hfin⟩)
 refine sQ (pNf rfl) rfl (sD (nS (cT rfl ?_)))
 refine tS (tR ?_)
 (refine seq_step (step_buildSlice rfl rfl rfl (by omega) (by unfold maxLen; omega) rfl) rfl ?_; rintro _ ⟨bq, rfl⟩)
 refine sQ (pA rfl) rfl (sD (nS ?_))
 (refine ret_freeze (by repeat (first | exact Pk.here | apply Pk.there)) (fun G3 hle3 hsl3 hno3 => ?_))
 refine tT (rS (rF1 (rT rfl) ?_))
 (have hm : mAll t = [] := if_neg (by simp [*]); rw [hm]; exact ⟨rfl, _, _, rfl, RPs.fin (Gi := G) (es := []) (F := []) ⟨rfl, rfl⟩ (by simp) (IMle.refl _) hle3 hsl3 rfl hno3⟩)
theorem none_le {G G' : IM} (h : IMle G G') {b : Nat} (hb : G' b = none) : G b = none := by
 cases hg : G b with
 | none => rfl
 | some l => rw [h b l hg] at hb; cases hb
theorem dif_none {G G' : IM} {b : Nat} (h : G b ≠ none) : Dif G' G b = none := by
 cases hd : Dif G' G b with
 | none => rfl
 | some l => exact absurd (Dif.out (by rw [hd]; simp)) h
/-- What is wanted for taking fresh blocks back. -/
theorem thaw_hyp {G0 Ga Gb Gc : IM} {bs : Blks} {F : List Nat} (hi : InG (Dif Gb Ga) bs F) (hn : F.Nodup) (h0 : IMle G0 Ga) (hc : IMle (Dif Gb Ga) Gc) :
  (bs.map Prod.fst).Nodup ∧ (∀ q ∈ bs, Gc q.1 = some q.2 ∧ G0 q.1 = none) ∧ (∀ b ∈ bs.map Prod.fst, Ga b = none ∧ Gb b ≠ none) := by
 have key : ∀ q ∈ bs, Ga q.1 = none ∧ Gb q.1 = some q.2 := fun q hq => ⟨Dif.out (by rw [hi.2 q hq]; simp), Dif.le _ _ _ _ (hi.2 q hq)⟩
 refine ⟨hn.sublist hi.1, fun q hq => ⟨hc _ _ (hi.2 q hq), none_le h0 (key q hq).1⟩, fun b hb => ?_⟩
 obtain ⟨q, hq, rfl⟩ := List.mem_map.1 hb
 exact ⟨(key q hq).1, by rw [(key q hq).2]; simp⟩
section forget
variable {P : Program} {Γ : Ctx} {env : Env} {hp : List Ent} {G : IM} {K : Po} {ops : Array Oper} {rest : List Oper} {ty : TypeId} {pos : String} {af : Array Edge} {gd : Option (Nat × Bool)}
theorem triL_forget {A B : List Ent} (k : TriL P Γ ops rest K ⟨env, B, G⟩) : TriL P Γ ops rest K ⟨env, A ++ B, G⟩ :=
 ⟨fun a w hs => k.run a w ⟨hs.size, hs.nod, hs.env, (hs.res.perm List.perm_append_comm).left⟩⟩
/-- A call that is lent taken-back blocks; they are forgotten behind it. -/
theorem seq_lend_x {d : Nat} {f : FuncId} [hF : FunI P f] {xs : List Operand} {ats : Array TypeId} {vs : List Value} {v0 : Value} {Φ : Blks → Prop} {bs : Blks} (hn : (bs.map Prod.fst).Nodup) (hg : ∀ q ∈ bs, G q.1 = some q.2 ∧ Γ.G0 q.1 = none)
  (hx : evl env xs = some vs) (h : Fn P f vs (blks bs) (Wo G (bs.map Prod.fst)) (Lent v0 (Wo G (bs.map Prod.fst)) Φ)) (hw : wantG ops env gd = some true) (hd : Nat.blt d Γ.n = true)
  (k : TriL P Γ ops rest K ⟨(d, v0) :: env, hp, Wo G (bs.map Prod.fst)⟩) : TriL P Γ ops (⟨some d, .call ⟨.value (.func f), ⟨xs⟩, ats⟩, ty, pos, af, gd⟩ :: rest) K ⟨env, hp, G⟩ := by
 refine triL_thaw bs hn hg ?_
 refine seq_step (step_call_own hx h (List.Perm.refl _) hd) hw ?_
 rintro _ ⟨v, G', outs, rfl, _, rfl, rfl, bs', rfl, hΦ⟩
 exact triL_forget k
/-- A call that is lent taken-back blocks; they are given up again behind it. -/
theorem seq_lend_f {d : Nat} {f : FuncId} [hF : FunI P f] {xs : List Operand} {ats : Array TypeId} {vs : List Value} {v0 : Value} {Φ : Blks → Prop} {bs : Blks} (hn : (bs.map Prod.fst).Nodup) (hg : ∀ q ∈ bs, G q.1 = some q.2 ∧ Γ.G0 q.1 = none)
  (hx : evl env xs = some vs) (h : Fn P f vs (blks bs) (Wo G (bs.map Prod.fst)) (Lent v0 (Wo G (bs.map Prod.fst)) Φ)) (hw : wantG ops env gd = some true) (hd : Nat.blt d Γ.n = true)
  (k : ∀ bs' G', Φ bs' → IMle (Wo G (bs.map Prod.fst)) G' → (∀ q ∈ bs', G' q.1 = some q.2) → TriL P Γ ops rest K ⟨(d, v0) :: env, hp, G'⟩) : TriL P Γ ops (⟨some d, .call ⟨.value (.func f), ⟨xs⟩, ats⟩, ty, pos, af, gd⟩ :: rest) K ⟨env, hp, G⟩ := by
 refine triL_thaw bs hn hg ?_
 refine seq_step (step_call_own hx h (List.Perm.refl _) hd) hw ?_
 rintro _ ⟨v, G', outs, rfl, _, rfl, rfl, bs', rfl, hΦ⟩
 exact triL_freezes (List.Perm.refl _) fun h1 h2 h3 => k bs' _ hΦ h3 fun q hq => Wi.in h1 hq
end forget
/-- The node at a path. -/
def tAt : Tm → List Int → Option Tm
 | t, [] => some t
 | .mk _ _ _ _ _ _ ks, i :: is => if h : 0 ≤ i ∧ i < ks.length then tAt (ks[i.toNat]'(by omega)) is else none
theorem tAt_nil (t : Tm) : tAt t [] = some t := by cases t; rw [tAt]
theorem tAt_go {t : Tm} {i : Int} {is : List Int} (h0 : 0 ≤ i) (h : i < t.ks.length) : tAt t (i :: is) = tAt (t.ks[i.toNat]'(by omega)) is := by
 cases t; rw [tAt, dif_pos ⟨h0, h⟩]; rfl
theorem tAt_no {t : Tm} {i : Int} {is : List Int} (h : ¬ (0 ≤ i ∧ i < t.ks.length)) : tAt t (i :: is) = none := by
 cases t; rw [tAt]; exact dif_neg h
def z9 : List Value := [.int .i64 0, .string ⟨⟨[]⟩⟩, .int .i64 0, .int .i64 0, .slice none 0 0, .int .i64 0, .slice none 0 0, .int .i64 0, .slice none 0 0]
def AtP (t : Tm) (path : List Int) (G : IM) : IM → Value → List Ent → Prop := fun G' v outs => G' = G ∧ outs = [] ∧
 ((∃ x cells, tAt t path = some x ∧ RTm G x cells ∧ v = .tuple ⟨[.agg ⟨cells⟩, .bool true]⟩) ∨ (tAt t path = none ∧ v = .tuple ⟨[.agg ⟨z9⟩, .bool false]⟩))
theorem ints_at {l : List Int} {i : Nat} {v : Value} (h : (ints l)[i]? = some v) (hi : i < l.length) : v = .int .i64 l[i] := (ints_get h).2
theorem at_fn (t : Tm) (path : List Int) (G : IM) (cells : List Value) (p : Option Addr) (c : Nat) (hr : RTm G t cells) (hp : Sl G p path.length c 1 (ints path)) :
  Fn Tryz.prog 58 [.agg ⟨cells⟩, .slice p path.length c] [] G (AtP t path G) := by
 have hn := hp.le
 have hl := hr.len
 have hone := hr.one
 refine fn_enter Tryz.func58 rfl Tryz.ntmps58 Tryz.results58 rfl ?_
 intro w0
 refine tS (tR ?_)
 refine sE (step_box_a rfl rfl) rfl (fun b3 => ?_)
 refine sE (step_alloc rfl) rfl (fun b4 => ?_)
 refine sQ (pA rfl) rfl (sD (nS (tS (tS (tR (sQ (pM rfl) rfl ?_))))))
 refine sQ (pLn rfl rfl) rfl (sQ (pM rfl) rfl (sD (nS (tri_block (tri_loopN (fun (x : Nat × Tm × List Value) => ⟨[(10, .int .i64 x.1), (9, .int .i64 path.length), (8, .slice p path.length c), (2, .pointer (some ⟨b3, 0, none⟩)), (4, .pointer (some ⟨b4, 0, none⟩)), (5, .bool false)], [.blk b4 z9, .blk b3 x.2.2], G⟩) (fun x => x.1 ≤ path.length ∧ RTm G x.2.1 x.2.2 ∧ tAt t path = tAt x.2.1 (path.drop x.1)) (fun x => path.length - x.1) (0, t, cells) ?_ ?_ ?_)))))
 (simp only [flat_snoc]; exact sMk)
 exact ⟨by simp, hr, rfl⟩
 (rintro ⟨i, ⟨k, nm, num, ⟨tk, tks⟩, ⟨fk, fks⟩, lb, ks⟩, ce⟩ ⟨hi, hre, hat⟩; simp only [] at hi hre hat ⊢; obtain ⟨pt, ct, pf, cf, pk, ck, es, rfl, hk, hnum, hlb, hty, hfr, hsl, hkl⟩ := hre.open9; have hle := hsl.le; have hone := hre.one)
 refine tS (tR (sB (pure_lss rfl rfl) rfl rfl (fun h23 => ?_) (fun h23 => ?_)))
 refine sD (nS (tS (cT rfl ?_)))
 refine tK (nS (tS (tri_block (tS (tR ?_)))))
 (obtain ⟨b, o, v, rfl, hv, hatc, hgb⟩ := hp.kid (i := i) (by omega); obtain rfl := ints_at hv (by omega); rw [List.drop_eq_getElem_cons (by omega)] at hat; generalize path[i]'(by omega) = pi at *; refine sP (pIN rfl rfl rfl (by omega)) rfl rfl ?_)
 refine sL (load_s rfl rfl (hatc _)) rfl rfl ?_
 refine sQ (pA rfl) rfl (sD (nS (tS (tS (tR (sQ (pM rfl) rfl ?_))))))
 refine sQ (pF0 rfl) rfl (sL (lBs rfl rfl) rfl rfl ?_)
 refine sQ (pLn rfl rfl) rfl (sP (pure_sub rfl rfl (by omega) (by omega)) rfl rfl ?_)
 refine seq_valb rfl (within_fn pi 0 ((ks.length : Int) - 1) G) rfl rfl (fun h47 => ?_) (fun h47 => ?_)
 refine sQ (pNt rfl) rfl (sD (nS (cF rfl ?_)))
 refine tK (nS (tR (sQ (pF0 rfl) rfl (sL (lBs rfl rfl) rfl rfl ?_))))
 refine sQ (pM rfl) rfl ?_
 (have hwi := withinB_t (by assumption); obtain ⟨j, rfl⟩ := Int.eq_ofNat_of_zero_le hwi.1; obtain ⟨b', o', e, rfl, hl', hate, hre', hgb'⟩ := hsl.kidTm hkl (i := j) (by omega) (by omega); have hone' := hre'.one; refine sP (pIN rfl rfl rfl (by omega)) rfl rfl ?_)
 refine sL (load_a rfl rfl (hate _) hl') rfl rfl ?_
 refine seq_store rfl rfl rfl (by assumption) (by assumption) rfl (by repeat first | exact Sw.here | apply Sw.there) (by exact upd_all (by symm; assumption)) ?_
 refine sD (nrm_block (nS (tR (sP (pure_add rfl rfl (by omega) (by omega)) rfl rfl ?_))))
 refine sQ (pM rfl) rfl (sD (nrm_loopN (i + 1, ks[j], e) ?_ ?_ ?_))
 (simp only [flat_snoc]; exact sMk)
 (dsimp only; exact ⟨by omega, hre', by rw [hat, tAt_go (by omega) (by simp only [Tm.ks]; omega)]; rfl⟩)
 (show path.length - (i + 1) < path.length - i; omega)
 refine sQ (pNf rfl) rfl (sD (nS (cT rfl ?_)))
 refine tS (tR (sQ (pBd rfl rfl) rfl (sS' ?_)))
 refine sQ (pA rfl) rfl (sD (nS (tT (rS (rB (rS ?_))))))
 refine ret_loopN (rB (rS (rF2 (rC rfl (lBa rfl rfl)) (rT rfl) ?_)))
 (have hwi := withinB_f (by assumption); rw [tAt_no (by simp only [Tm.ks]; omega)] at hat; exact ⟨rfl, rfl, .inr ⟨hat, rfl⟩⟩)
 refine sD (nS (tS (cF rfl ?_)))
 refine tri_exit ?_
 refine ext_seq ?_
 refine ext_loopN ?_
 refine ext_block_eq ?_
 refine nS (tS (tR (sL (lBa rfl rfl) rfl rfl ?_)))
 refine sS' ?_
 refine sQ (pA rfl) rfl (sD (nS (tT (rF2 (rC rfl (lBa rfl rfl)) (rT rfl) ?_))))
 (obtain rfl : i = path.length := (by omega); rw [List.drop_length, tAt_nil] at hat; exact ⟨rfl, rfl, .inl ⟨_, _, hat, hre, rfl⟩⟩)
theorem l16At_fn (t : Tm) (path : List Int) (G : IM) (cells : List Value) (p : Option Addr) (c : Nat) (hr : RTm G t cells) (hp : Sl G p path.length c 1 (ints path)) :
  Fn Tryz.prog 53 [.agg ⟨cells⟩, .slice p path.length c] [] G (AtP t path G) := by
 have hn := hp.le
 have hl := hr.len
 have hone := hr.one
 refine fn_enter Tryz.func53 rfl Tryz.ntmps53 Tryz.results53 rfl ?_
 intro w0
 refine tS (tR ?_)
 refine sE (step_box_a rfl rfl) rfl (fun b3 => ?_)
 refine sE (step_alloc rfl) rfl (fun b4 => ?_)
 refine sQ (pA rfl) rfl (sD (nS (tS (tS (tR (sQ (pA rfl) rfl ?_))))))
 refine sD (nS (tri_block (tri_loopN (fun (x : Nat × Tm × List Value) => ⟨[(6, .int .i64 x.1), (1, .slice p path.length c), (2, .pointer (some ⟨b3, 0, none⟩)), (4, .pointer (some ⟨b4, 0, none⟩)), (5, .bool false)], [.blk b4 z9, .blk b3 x.2.2], G⟩) (fun x => x.1 ≤ path.length ∧ RTm G x.2.1 x.2.2 ∧ tAt t path = tAt x.2.1 (path.drop x.1)) (fun x => path.length - x.1) (0, t, cells) ?_ ?_ ?_)))
 (simp only [flat_snoc]; exact sMk)
 exact ⟨by simp, hr, rfl⟩
 (rintro ⟨i, ⟨k, nm, num, ⟨tk, tks⟩, ⟨fk, fks⟩, lb, ks⟩, ce⟩ ⟨hi, hre, hat⟩; simp only [] at hi hre hat ⊢; obtain ⟨pt, ct, pf, cf, pk, ck, es, rfl, hk, hnum, hlb, hty, hfr, hsl, hkl⟩ := hre.open9; have hle := hsl.le; have hone := hre.one)
 refine tS (tS (tR (sQ (pM rfl) rfl (sQ (pM rfl) rfl (sQ (pLn rfl rfl) rfl (sB (pure_lss rfl rfl) rfl rfl (fun h25 => ?_) (fun h25 => ?_)))))))
 refine sD (nS (cT rfl ?_))
 refine tK (nS (tS (tri_block (tS (tS ?_)))))
 (obtain ⟨b, o, v, rfl, hv, hatc, hgb⟩ := hp.kid (i := i) (by omega); obtain rfl := ints_at hv (by omega); rw [List.drop_eq_getElem_cons (by omega)] at hat; generalize path[i]'(by omega) = pi at *; refine tri_draw mixed rfl ?_)
 refine any_pure (i := 0) (l' := [tt,ff,ff,ff,ff,ff,ff,ff,ff,ff,ff,ff,ff,ff,ff]) rfl npI (pM rfl) rfl (by kernel_rfl) rfl rfl ?_
 refine aP 1 rfl (pM rfl) rfl ?_
 refine aP 2 rfl (pIN rfl rfl rfl (by omega)) rfl ?_
 refine aL 3 rfl (load_s rfl rfl (hatc _)) rfl ?_
 refine any_bool (i := 4) (l' := [tt,tt,tt,tt,tt,ff,ff,ff,ff,ff,ff,ff,ff,ff,ff]) rfl npI (pure_lss rfl rfl) rfl (by kernel_rfl) rfl rfl (fun h40 => ?_) (fun h40 => ?_)
 refine aP 5 rfl (pM rfl) rfl ?_
 refine aK' 6 rfl rfl rfl ?_
 refine aK' 7 rfl rfl rfl ?_
 refine aK' 8 rfl rfl rfl ?_
 refine aK' 9 rfl rfl rfl ?_
 refine aK' 10 rfl rfl rfl ?_
 refine aK' 11 rfl rfl rfl ?_
 refine aK' 12 rfl rfl rfl ?_
 refine aK' 13 rfl rfl rfl ?_
 refine aP 14 rfl (pPt rfl rfl) rfl ?_
 refine aD' ?_
 refine nS (cT rfl ?_)
 refine tS (tR (sQ (pBd rfl rfl) rfl (sS' ?_)))
 refine sQ (pA rfl) rfl (sD (nS (tT (rS (rB (rS ?_))))))
 refine ret_loopN (rB (rS (rF2 (rC rfl (lBa rfl rfl)) (rT rfl) ?_)))
 (rw [tAt_no (by simp only [Tm.ks]; omega)] at hat; exact ⟨rfl, rfl, .inr ⟨hat, rfl⟩⟩)
 refine aP 5 rfl (pM rfl) rfl ?_
 refine aP 6 rfl (pM rfl) rfl ?_
 refine aP 7 rfl (pM rfl) rfl ?_
 refine aP 8 rfl (pIN rfl rfl rfl (by omega)) rfl ?_
 refine aL 9 rfl (load_s rfl rfl (hatc _)) rfl ?_
 refine aP 10 rfl (pF0 rfl) rfl ?_
 refine aL 11 rfl (lBs rfl rfl) rfl ?_
 refine aP 12 rfl (pLn rfl rfl) rfl ?_
 refine any_bool (i := 13) (l' := [tt,tt,tt,tt,tt,tt,tt,tt,tt,tt,tt,tt,tt,tt,ff]) rfl npI (pure_geq rfl rfl) rfl (by kernel_rfl) rfl rfl (fun h78 => ?_) (fun h78 => ?_)
 refine aP 14 rfl (pPf rfl rfl) rfl ?_
 refine aD' ?_
 refine nS (cT rfl ?_)
 refine tS (tR (sQ (pBd rfl rfl) rfl (sS' ?_)))
 refine sQ (pA rfl) rfl (sD (nS (tT (rS (rB (rS ?_))))))
 refine ret_loopN (rB (rS (rF2 (rC rfl (lBa rfl rfl)) (rT rfl) ?_)))
 (rw [tAt_no (by simp only [Tm.ks]; omega)] at hat; exact ⟨rfl, rfl, .inr ⟨hat, rfl⟩⟩)
 refine aP 14 rfl (pPf rfl rfl) rfl ?_
 refine aD' ?_
 refine nS (cF rfl ?_)
 refine tK (nS ?_)
 (obtain ⟨j, rfl⟩ := Int.eq_ofNat_of_zero_le (show 0 ≤ pi by omega); obtain ⟨b', o', e, rfl, hl', hate, hre', hgb'⟩ := hsl.kidTm hkl (i := j) (by omega) (by omega); have hone' := hre'.one; refine tri_draw mixed rfl ?_)
 refine any_pure (i := 0) (l' := [tt,ff,ff,ff,ff,ff,ff,ff,ff]) rfl npI (pF0 rfl) rfl (by kernel_rfl) rfl rfl ?_
 refine aL 1 rfl (lBs rfl rfl) rfl ?_
 refine aP 2 rfl (pM rfl) rfl ?_
 refine aP 3 rfl (pM rfl) rfl ?_
 refine aP 4 rfl (pIN rfl rfl rfl (by omega)) rfl ?_
 refine aL 5 rfl (load_s rfl rfl (hatc _)) rfl ?_
 refine aP 6 rfl (pIN rfl rfl rfl (by omega)) rfl ?_
 refine aL 7 rfl (load_a rfl rfl (hate _) hl') rfl ?_
 refine aO' 8 ?_
 refine one_store rfl rfl rfl rfl hl' hone' rfl rfl (by kernel_rfl) (by repeat first | exact Sw.here | apply Sw.there) (by exact upd_all hl'.symm) ?_
 refine aD' ?_
 refine nrm_block (nS (tR (sQ (pM rfl) rfl (sP (pure_add rfl rfl (by omega) (by omega)) rfl rfl ?_))))
 refine sQ (pA rfl) rfl (sD (nrm_loopN (i + 1, ks[j], e) ?_ ?_ ?_))
 (simp only [flat_snoc]; exact sMk)
 (dsimp only; exact ⟨by omega, hre', by rw [hat, tAt_go (by omega) (by simp only [Tm.ks]; omega)]; rfl⟩)
 (show path.length - (i + 1) < path.length - i; omega)
 refine sD (nS (cF rfl ?_))
 refine tri_exit ?_
 refine ext_seq ?_
 refine ext_loopN ?_
 refine ext_block_eq ?_
 refine nS (tS (tR (sL (lBa rfl rfl) rfl rfl ?_)))
 refine sS' ?_
 refine sQ (pA rfl) rfl (sD (nS (tT (rF2 (rC rfl (lBa rfl rfl)) (rT rfl) ?_))))
 (obtain rfl : i = path.length := (by omega); rw [List.drop_length, tAt_nil] at hat; exact ⟨rfl, rfl, .inl ⟨_, _, hat, hre, rfl⟩⟩)
def pAt (t : Tm) (label : Int) (l : List Int) : Bool := match tAt t l with
 | some x => decide (x.k = 14 ∧ x.lb = label)
 | none => false
def mCast (t : Tm) (label : Int) : List Int × Bool := match (mAll t).find? (pAt t label) with
 | some l => (l, true)
 | none => ([], false)
theorem mCast_some {t : Tm} {label : Int} {i : Nat} (hi : i < (mAll t).length) (hno : ∀ j, j < i → ∀ h : j < (mAll t).length, pAt t label (mAll t)[j] = false) (hy : pAt t label (mAll t)[i] = true) : mCast t label = ((mAll t)[i], true) := by
 have : (mAll t).find? (pAt t label) = some (mAll t)[i] := by
  rw [List.find?_eq_some_iff_getElem]
  exact ⟨hy, i, hi, rfl, fun j hj => by rw [hno j hj (by omega)]; rfl⟩
 unfold mCast; rw [this]
theorem mCast_none {t : Tm} {label : Int} (hno : ∀ j, j < (mAll t).length → ∀ h : j < (mAll t).length, pAt t label (mAll t)[j] = false) : mCast t label = ([], false) := by
 have : (mAll t).find? (pAt t label) = none := by
  rw [List.find?_eq_none]
  intro x hx
  obtain ⟨j, hj, rfl⟩ := List.getElem_of_mem hx
  rw [hno j hj hj]; simp
 unfold mCast; rw [this]
theorem pAt_step {t : Tm} {label : Int} {i : Nat} (hno : ∀ j, j < i → ∀ h : j < (mAll t).length, pAt t label (mAll t)[j] = false) (hi : i < (mAll t).length) (hn : pAt t label (mAll t)[i] = false) : ∀ j, j < i + 1 → ∀ h : j < (mAll t).length, pAt t label (mAll t)[j] = false := by
 intro j hj h
 rcases Nat.lt_or_ge j i with hlt | hge
 ·exact hno j hlt h
 ·obtain rfl : j = i := by omega
  exact hn
theorem pAt_t {t : Tm} {label : Int} {l : List Int} {x : Tm} (h : tAt t l = some x) (h1 : x.k = 14) (h2 : x.lb = label) : pAt t label l = true := by
 unfold pAt; rw [h]; exact decide_eq_true ⟨h1, h2⟩
theorem pAt_f {t : Tm} {label : Int} {l : List Int} {x : Tm} (h : tAt t l = some x) (h1 : ¬ (x.k = 14 ∧ x.lb = label)) : pAt t label l = false := by
 unfold pAt; rw [h]; exact decide_eq_false h1
theorem pAt_n {t : Tm} {label : Int} {l : List Int} (h : tAt t l = none) : pAt t label l = false := by
 unfold pAt; rw [h]
/-- A path in memory of its own. -/
def SP1 (G : IM) (l : List Int) (p : Option Addr) (c : Nat) : Prop := Sl G p l.length c 1 (ints l) ∧ ∀ b ∈ vfp p, G b ≠ none
theorem SPs.get1 {G : IM} : ∀ {ls : List (List Int)} {es : List Value} {F : List Nat}, SPs G ls es F → ∀ {i : Nat} (hi : i < ls.length), ∃ p c, es[i]? = some (.slice p ls[i].length c) ∧ SP1 G ls[i] p c
 | [], es, F, h, i, hi => by simp at hi
 | l :: ls, es, F, ⟨p, c, r, Fr, h1, h2, h3, h4, h5, h6⟩, i, hi => by
  subst h1
  cases i with
  | zero => exact ⟨p, c, rfl, h3, h4⟩
  | succ i => simpa using h6.get1 (i := i) (by simpa using hi)
def CpP (t : Tm) (label : Int) (G : IM) : IM → Value → List Ent → Prop := Imm fun G' v => ∃ p c, v = .tuple ⟨[.slice p (mCast t label).1.length c, .bool (mCast t label).2]⟩ ∧ SP1 (Dif G' G) (mCast t label).1 p c
theorem CpP.mk {t : Tm} {label : Int} {G G' : IM} {l : List Int} {b : Bool} {p : Option Addr} {c : Nat} (h : mCast t label = (l, b)) (hs : SP1 (Dif G' G) l p c) : CpP t label G G' (.tuple ⟨[.slice p l.length c, .bool b]⟩) [] := by
 refine ⟨rfl, p, c, ?_, ?_⟩
 ·rw [h]
 ·rw [h]; exact hs
theorem SP1.nil (G : IM) : SP1 G [] none 0 := ⟨Sl.nil G 1, by simp [vfp]⟩
theorem castPath_fn (t : Tm) (label : Int) (G : IM) (cells : List Value) (hr : RTm G t cells) :
  Fn Tryz.prog 33 [.agg ⟨cells⟩, .int .i64 label] [] G (CpP t label G) := by
 have hl := hr.len
 have hI := allPaths_fn t G cells hr
 refine fn_enter Tryz.func33 rfl Tryz.ntmps33 Tryz.results33 rfl ?_
 intro w0
 refine tS (tR ?_)
 refine sE (step_box_a rfl rfl) rfl (fun b3 => ?_)
 refine sQ (pA rfl) rfl (sQ (pA rfl) rfl (sD (nS (tS (tS (tR ?_))))))
 refine sL (load_a rfl rfl (at_blk_all (by repeat first | exact mH | apply mT)) (by assumption)) rfl rfl ?_
 (refine seq_imm rfl hI rfl rfl (fun v1 G1 hle1 hh => ?_); obtain ⟨p1, c1, rfl, es1, F1, hp1, hb1, hq1, hd1⟩ := hh; have hn1 := hp1.le; have hr1 := hr.mono hle1; have hp1' := hp1.mono (Dif.le G1 G))
 refine sQ (pLn rfl rfl) rfl (sQ (pM rfl) rfl (sD (nS (tri_block (tri_loopN (fun (i : Nat) => ⟨[(13, .int .i64 i), (12, .int .i64 (mAll t).length), (11, .slice p1 (mAll t).length c1), (2, .pointer (some ⟨b3, 0, none⟩)), (1, .int .i64 label)], [.blk b3 cells], G1⟩) (fun i => i ≤ (mAll t).length ∧ ∀ j, j < i → ∀ h : j < (mAll t).length, pAt t label (mAll t)[j] = false) (fun i => (mAll t).length - i) 0 ?_ ?_ ?_)))))
 exact sMk
 exact ⟨Nat.zero_le _, fun j hj => absurd hj (by omega)⟩
 (rintro i ⟨hi, hno⟩)
 refine tS (tR (sB (pure_lss rfl rfl) rfl rfl (fun h24 => ?_) (fun h24 => ?_)))
 refine sD (nS (tS (cT rfl ?_)))
 refine tK (nS (tS (tri_block (tS (tR ?_)))))
 (obtain ⟨b, o, v, rfl, hv, hatc, hgb⟩ := hp1'.kid (i := i) (by omega); obtain ⟨p3, c3, hv3, hs3⟩ := hq1.get1 (i := i) (by omega); rw [hv3] at hv; obtain rfl := Option.some.inj hv; refine sP (pIN rfl rfl rfl (by omega)) rfl rfl ?_)
 refine sL (load_s rfl rfl (hatc _)) rfl rfl ?_
 refine sQ (pA rfl) rfl (sD (nS (tS (tR (sL (load_a rfl rfl (at_blk_all (by repeat first | exact mH | apply mT)) (by assumption)) rfl rfl ?_)))))
 refine sQ (pM rfl) rfl ?_
 (refine seq_own rfl (at_fn t (mAll t)[i] G1 cells p3 c3 hr1 (hs3.1.mono (Dif.le _ _))) rfl rfl (fun v44 G44 outs44 hle44 h44 => ?_); obtain ⟨hG, rfl, hh⟩ := h44; replace hG := hG.symm; subst hG; rcases hh with ⟨x, cx, hx, hrx, rfl⟩ | ⟨hx, rfl⟩ <;> (first | obtain ⟨pt, ct, et, pf, cf, ef, pk, ck, ek, rfl, hxk, hxn, hxl, _⟩ := hrx.open | skip))
 refine sQ (pM rfl) rfl (sQ (pX rfl rfl) rfl (sQ (pX rfl rfl) rfl ?_))
 refine sE (step_alloc rfl) rfl (fun b48 => ?_)
 refine sS' ?_
 refine sQ (pA rfl) rfl (sD (nS (tS (tR (sQ (pF0 rfl) rfl (sL (lBs rfl rfl) rfl rfl ?_))))))
 refine sB (pE rfl rfl) rfl rfl (fun h57 => ?_) (fun h57 => ?_)
 refine sQ (pM rfl) rfl (sQ (pF0 rfl) rfl (sL (lBs rfl rfl) rfl rfl ?_))
 refine sQ (pM rfl) rfl (sB (pE rfl rfl) rfl rfl (fun h62 => ?_) (fun h62 => ?_))
 refine sQ (pPt rfl rfl) rfl (sD (nS (cT rfl ?_)))
 refine tS (tR (sQ (pM rfl) rfl (sQ (pA rfl) rfl (sQ (pA rfl) rfl (sD (nS ?_))))))
 refine tT (rB (rS (ret_loopN (rB (rS (rF2 (rT rfl) (rT rfl) ?_))))))
 exact CpP.mk (mCast_some (by omega) hno (pAt_t hx (by assumption) (by assumption))) hs3
 refine sQ (pPt rfl rfl) rfl (sD (nS (cF rfl ?_)))
 refine tK (nrm_block (nS (tR (sP (pure_add rfl rfl (by omega) (by omega)) rfl rfl ?_))))
 refine sQ (pM rfl) rfl (sD ?_)
 (refine nrm_loopN (i + 1) ?_ ?_ ?_)
 exact sMk
 exact ⟨by omega, pAt_step hno (by omega) (pAt_f hx (by omega))⟩
 omega
 refine sQ (pM rfl) rfl (sK rfl rfl (sK rfl rfl (sK rfl rfl (sK rfl rfl (sQ (pPf rfl rfl) rfl (sD ?_))))))
 refine nS (cF rfl ?_)
 refine tK (nrm_block (nS (tR (sP (pure_add rfl rfl (by omega) (by omega)) rfl rfl ?_))))
 refine sQ (pM rfl) rfl (sD ?_)
 (refine nrm_loopN (i + 1) ?_ ?_ ?_)
 exact sMk
 exact ⟨by omega, pAt_step hno (by omega) (pAt_f hx (by omega))⟩
 omega
 refine sQ (pM rfl) rfl (sQ (pX rfl rfl) rfl (sQ (pX rfl rfl) rfl ?_))
 refine sE (step_alloc rfl) rfl (fun b120 => ?_)
 refine sS' ?_
 refine sQ (pA rfl) rfl (sD (nS (tS (tR (sQ (pF0 rfl) rfl (sL (lBs rfl rfl) rfl rfl ?_))))))
 refine sP (pure_eql_f rfl rfl (by omega)) rfl rfl ?_
 refine sQ (pM rfl) rfl (sK rfl rfl (sK rfl rfl (sK rfl rfl (sK rfl rfl (sQ (pPf rfl rfl) rfl (sD ?_))))))
 refine nS (cF rfl ?_)
 refine tK (nrm_block (nS (tR (sP (pure_add rfl rfl (by omega) (by omega)) rfl rfl ?_))))
 refine sQ (pM rfl) rfl (sD ?_)
 (refine nrm_loopN (i + 1) ?_ ?_ ?_)
 exact sMk
 exact ⟨by omega, pAt_step hno (by omega) (pAt_n hx)⟩
 omega
 refine sD (nS (tS (cF rfl ?_)))
 refine tri_exit ?_
 refine ext_seq ?_
 refine ext_loopN ?_
 refine ext_block_eq ?_
 refine nS (tS (tR (sQ (pA rfl) rfl (sQ (pA rfl) rfl (sD (nS ?_))))))
 refine tT (rF2 (rT rfl) (rT rfl) ?_)
 (obtain rfl : i = (mAll t).length := (by omega); exact CpP.mk (l := []) (mCast_none hno) (SP1.nil _))
theorem sCastPath_fn (t : Tm) (label : Int) (G : IM) (cells : List Value) (hcnt : tmCount t ≤ 4294967296) (hr : RTm G t cells) :
  Fn Tryz.prog 30 [.agg ⟨cells⟩, .int .i64 label] [] G (CpP t label G) := by
 have hl := hr.len
 have hI := sAllPaths_fn t G cells hcnt hr
 refine fn_enter Tryz.func30 rfl Tryz.ntmps30 Tryz.results30 rfl ?_
 intro w0
 refine tS (tR ?_)
 refine sE (step_box_a rfl rfl) rfl (fun b3 => ?_)
 refine sQ (pA rfl) rfl (sQ (pA rfl) rfl (sD (nS (tS (tR (sL (load_a rfl rfl (at_blk_all (by repeat first | exact mH | apply mT)) (by assumption)) rfl rfl ?_))))))
 (refine seq_imm rfl hI rfl rfl (fun v1 G1 hle1 hh => ?_); obtain ⟨p1, c1, rfl, es1, F1, hp1, hb1, hq1, hd1⟩ := hh; have hn1 := hp1.le; have hr1 := hr.mono hle1; have hp1' := hp1.mono (Dif.le G1 G))
 refine sQ (pA rfl) rfl (sD (nS (tS (tS (tR (sQ (pA rfl) rfl ?_))))))
 refine sD (nS (tri_block (tri_loopN (fun (i : Nat) => ⟨[(7, .int .i64 i), (6, .slice p1 (mAll t).length c1), (2, .pointer (some ⟨b3, 0, none⟩)), (1, .int .i64 label)], [.blk b3 cells], G1⟩) (fun i => i ≤ (mAll t).length ∧ ∀ j, j < i → ∀ h : j < (mAll t).length, pAt t label (mAll t)[j] = false) (fun i => (mAll t).length - i) 0 ?_ ?_ ?_)))
 exact sMk
 exact ⟨Nat.zero_le _, fun j hj => absurd hj (by omega)⟩
 (rintro i ⟨hi, hno⟩)
 refine tS (tS (tR (sQ (pM rfl) rfl (sQ (pM rfl) rfl (sQ (pLn rfl rfl) rfl (sB (pure_lss rfl rfl) rfl rfl (fun h32 => ?_) (fun h32 => ?_)))))))
 refine sD (nS (cT rfl ?_))
 refine tK (nS (tS (tri_block (tS ?_))))
 (obtain ⟨b, o, v, rfl, hv, hatc, hgb⟩ := hp1'.kid (i := i) (by omega); obtain ⟨p3, c3, hv3, hs3⟩ := hq1.get1 (i := i) (by omega); rw [hv3] at hv; obtain rfl := Option.some.inj hv; refine tri_draw mixed rfl ?_)
 refine any_load (i := 0) (l' := [tt,ff,ff,ff,ff,ff,ff,ff,ff,ff,ff,ff]) rfl npI (load_a rfl rfl (at_blk_all (by repeat first | exact mH | apply mT)) (by assumption)) rfl (by kernel_rfl) rfl rfl ?_
 refine aP 1 rfl (pM rfl) rfl ?_
 refine aP 2 rfl (pM rfl) rfl ?_
 refine aP 3 rfl (pIN rfl rfl rfl (by omega)) rfl ?_
 refine aL 4 rfl (load_s rfl rfl (hatc _)) rfl ?_
 refine any_two (j := 5) (j' := 9) (by kernel_rfl) ?_ ?_
 (refine one_own rfl rfl (l16At_fn t (mAll t)[i] G1 cells p3 c3 hr1 (hs3.1.mono (Dif.le _ _))) rfl rfl rfl (fun v48 G48 outs48 hle48 h48 => ?_); obtain ⟨hG, rfl, hh⟩ := h48; replace hG := hG.symm; subst hG; rcases hh with ⟨x, cx, hx, hrx, rfl⟩ | ⟨hx, rfl⟩ <;> (first | obtain ⟨pt, ct, et, pf, cf, ef, pk, ck, ek, rfl, hxk, hxn, hxl, _⟩ := hrx.open | skip))
 refine aP 6 rfl (pM rfl) rfl ?_
 refine aP 7 rfl (pX rfl rfl) rfl ?_
 refine aP 8 rfl (pX rfl rfl) rfl ?_
 refine aO' 9 ?_
 (refine one_step0 rfl (step_alloc rfl) rfl rfl ?_; rintro _ ⟨b53, rfl⟩)
 refine aO' 10 ?_
 refine one_store rfl rfl rfl rfl rfl rfl rfl rfl (by kernel_rfl) (by repeat first | exact Sw.here | apply Sw.there) (by rfl) ?_
 refine aP 11 rfl (pA rfl) rfl ?_
 refine aD' ?_
 refine nS (tS (tR (sQ (pF0 rfl) rfl (sL (lBs rfl rfl) rfl rfl ?_))))
 refine sB (pE rfl rfl) rfl rfl (fun h63 => ?_) (fun h63 => ?_)
 refine sQ (pM rfl) rfl (sQ (pF0 rfl) rfl (sL (lBs rfl rfl) rfl rfl ?_))
 refine sQ (pM rfl) rfl (sB (pE rfl rfl) rfl rfl (fun h68 => ?_) (fun h68 => ?_))
 refine sQ (pPt rfl rfl) rfl (sD (nS (cT rfl ?_)))
 refine tS (tR (sQ (pM rfl) rfl (sQ (pM rfl) rfl (sP (pIN rfl rfl rfl (by omega)) rfl rfl ?_))))
 refine sL (load_s rfl rfl (hatc _)) rfl rfl ?_
 refine sQ (pA rfl) rfl (sQ (pA rfl) rfl (sD (nS (tT (rB (rS ?_))))))
 refine ret_loopN (rB (rS (rF2 (rT rfl) (rT rfl) ?_)))
 exact CpP.mk (mCast_some (by omega) hno (pAt_t hx (by assumption) (by assumption))) hs3
 refine sQ (pPt rfl rfl) rfl (sD (nS (cF rfl ?_)))
 refine tK (nrm_block (nS (tR (sQ (pM rfl) rfl (sP (pure_add rfl rfl (by omega) (by omega)) rfl rfl ?_)))))
 refine sQ (pA rfl) rfl (sD ?_)
 (refine nrm_loopN (i + 1) ?_ ?_ ?_)
 exact sMk
 exact ⟨by omega, pAt_step hno (by omega) (pAt_f hx (by omega))⟩
 omega
 refine sQ (pM rfl) rfl (sK rfl rfl (sK rfl rfl (sK rfl rfl (sK rfl rfl (sQ (pPf rfl rfl) rfl (sD ?_))))))
 refine nS (cF rfl ?_)
 refine tK (nrm_block (nS (tR (sQ (pM rfl) rfl (sP (pure_add rfl rfl (by omega) (by omega)) rfl rfl ?_)))))
 refine sQ (pA rfl) rfl (sD ?_)
 (refine nrm_loopN (i + 1) ?_ ?_ ?_)
 exact sMk
 exact ⟨by omega, pAt_step hno (by omega) (pAt_f hx (by omega))⟩
 omega
 refine aP 6 rfl (pM rfl) rfl ?_
 refine aP 7 rfl (pX rfl rfl) rfl ?_
 refine aP 8 rfl (pX rfl rfl) rfl ?_
 refine aO' 9 ?_
 (refine one_step0 rfl (step_alloc rfl) rfl rfl ?_; rintro _ ⟨b132, rfl⟩)
 refine aO' 10 ?_
 refine one_store rfl rfl rfl rfl rfl rfl rfl rfl (by kernel_rfl) (by repeat first | exact Sw.here | apply Sw.there) (by rfl) ?_
 refine aP 11 rfl (pA rfl) rfl ?_
 refine aD' ?_
 refine nS (tS (tR (sQ (pF0 rfl) rfl (sL (lBs rfl rfl) rfl rfl ?_))))
 refine sP (pure_eql_f rfl rfl (by omega)) rfl rfl ?_
 refine sQ (pM rfl) rfl (sK rfl rfl (sK rfl rfl (sK rfl rfl (sK rfl rfl (sQ (pPf rfl rfl) rfl (sD ?_))))))
 refine nS (cF rfl ?_)
 refine tK (nrm_block (nS (tR (sQ (pM rfl) rfl (sP (pure_add rfl rfl (by omega) (by omega)) rfl rfl ?_)))))
 refine sQ (pA rfl) rfl (sD ?_)
 (refine nrm_loopN (i + 1) ?_ ?_ ?_)
 exact sMk
 exact ⟨by omega, pAt_step hno (by omega) (pAt_n hx)⟩
 omega
 (refine one_step0 rfl (step_alloc rfl) rfl rfl ?_; rintro _ ⟨b164, rfl⟩)
 refine aO' 5 ?_
 (refine one_own rfl rfl (l16At_fn t (mAll t)[i] G1 cells p3 c3 hr1 (hs3.1.mono (Dif.le _ _))) rfl rfl rfl (fun v166 G166 outs166 hle166 h166 => ?_); obtain ⟨hG, rfl, hh⟩ := h166; replace hG := hG.symm; subst hG; rcases hh with ⟨x, cx, hx, hrx, rfl⟩ | ⟨hx, rfl⟩ <;> (first | obtain ⟨pt, ct, et, pf, cf, ef, pk, ck, ek, rfl, hxk, hxn, hxl, _⟩ := hrx.open | skip))
 refine aP 6 rfl (pM rfl) rfl ?_
 refine aP 7 rfl (pX rfl rfl) rfl ?_
 refine aP 8 rfl (pX rfl rfl) rfl ?_
 refine aO' 10 ?_
 refine one_store rfl rfl rfl rfl rfl rfl rfl rfl (by kernel_rfl) (by repeat first | exact Sw.here | apply Sw.there) (by rfl) ?_
 refine aP 11 rfl (pA rfl) rfl ?_
 refine aD' ?_
 refine nS (tS (tR (sQ (pF0 rfl) rfl (sL (lBs rfl rfl) rfl rfl ?_))))
 refine sB (pE rfl rfl) rfl rfl (fun h179 => ?_) (fun h179 => ?_)
 refine sQ (pM rfl) rfl (sQ (pF0 rfl) rfl (sL (lBs rfl rfl) rfl rfl ?_))
 refine sQ (pM rfl) rfl (sB (pE rfl rfl) rfl rfl (fun h184 => ?_) (fun h184 => ?_))
 refine sQ (pPt rfl rfl) rfl (sD (nS (cT rfl ?_)))
 refine tS (tR (sQ (pM rfl) rfl (sQ (pM rfl) rfl (sP (pIN rfl rfl rfl (by omega)) rfl rfl ?_))))
 refine sL (load_s rfl rfl (hatc _)) rfl rfl ?_
 refine sQ (pA rfl) rfl (sQ (pA rfl) rfl (sD (nS (tT (rB (rS ?_))))))
 refine ret_loopN (rB (rS (rF2 (rT rfl) (rT rfl) ?_)))
 exact CpP.mk (mCast_some (by omega) hno (pAt_t hx (by assumption) (by assumption))) hs3
 refine sQ (pPt rfl rfl) rfl (sD (nS (cF rfl ?_)))
 refine tK (nrm_block (nS (tR (sQ (pM rfl) rfl (sP (pure_add rfl rfl (by omega) (by omega)) rfl rfl ?_)))))
 refine sQ (pA rfl) rfl (sD ?_)
 (refine nrm_loopN (i + 1) ?_ ?_ ?_)
 exact sMk
 exact ⟨by omega, pAt_step hno (by omega) (pAt_f hx (by omega))⟩
 omega
 refine sQ (pM rfl) rfl (sK rfl rfl (sK rfl rfl (sK rfl rfl (sK rfl rfl (sQ (pPf rfl rfl) rfl (sD ?_))))))
 refine nS (cF rfl ?_)
 refine tK (nrm_block (nS (tR (sQ (pM rfl) rfl (sP (pure_add rfl rfl (by omega) (by omega)) rfl rfl ?_)))))
 refine sQ (pA rfl) rfl (sD ?_)
 (refine nrm_loopN (i + 1) ?_ ?_ ?_)
 exact sMk
 exact ⟨by omega, pAt_step hno (by omega) (pAt_f hx (by omega))⟩
 omega
 refine aP 6 rfl (pM rfl) rfl ?_
 refine aP 7 rfl (pX rfl rfl) rfl ?_
 refine aP 8 rfl (pX rfl rfl) rfl ?_
 refine aO' 10 ?_
 refine one_store rfl rfl rfl rfl rfl rfl rfl rfl (by kernel_rfl) (by repeat first | exact Sw.here | apply Sw.there) (by rfl) ?_
 refine aP 11 rfl (pA rfl) rfl ?_
 refine aD' ?_
 refine nS (tS (tR (sQ (pF0 rfl) rfl (sL (lBs rfl rfl) rfl rfl ?_))))
 refine sP (pure_eql_f rfl rfl (by omega)) rfl rfl ?_
 refine sQ (pM rfl) rfl (sK rfl rfl (sK rfl rfl (sK rfl rfl (sK rfl rfl (sQ (pPf rfl rfl) rfl (sD ?_))))))
 refine nS (cF rfl ?_)
 refine tK (nrm_block (nS (tR (sQ (pM rfl) rfl (sP (pure_add rfl rfl (by omega) (by omega)) rfl rfl ?_)))))
 refine sQ (pA rfl) rfl (sD ?_)
 (refine nrm_loopN (i + 1) ?_ ?_ ?_)
 exact sMk
 exact ⟨by omega, pAt_step hno (by omega) (pAt_n hx)⟩
 omega
 refine sD (nS (cF rfl ?_))
 refine tri_exit ?_
 refine ext_seq ?_
 refine ext_loopN ?_
 refine ext_block_eq ?_
 refine nS (tS (tR ?_))
 (refine seq_step (step_buildSlice rfl rfl rfl (by omega) (by unfold maxLen; omega) rfl) rfl ?_; rintro _ ⟨b288, rfl⟩)
 refine sQ (pA rfl) rfl (sQ (pA rfl) rfl (sD (nS ?_)))
 (refine ret_freeze (by repeat (first | exact Pk.here | apply Pk.there)) (fun G3 hle3 hsl3 hno3 => ?_))
 refine tT (rF2 (rT rfl) (rT rfl) ?_)
 (obtain rfl : i = (mAll t).length := (by omega); exact CpP.mk (l := []) (mCast_none hno) ⟨hsl3.dif (fun b hb => (hno3 b hb).1) hle1, fun b hb => dif_in hle1 (hno3 b hb)⟩)
theorem SP1.blks {G : IM} {l : List Int} {p : Option Addr} {c : Nat} (h : SP1 G l p c) : ∃ bs, OIs l p c bs ∧ InG G bs (vfp p) := by
 obtain ⟨h3, _⟩ := h
 have hc := h3.2.1
 have hm := h3.2.2.1
 cases l with
 | nil => exact ⟨[], ⟨hc, hm, .inl ⟨rfl, rfl⟩⟩, InG.nil _ _⟩
 | cons x xs =>
  obtain ⟨b, A, C, rfl, hg⟩ := h3.blk (by simp [ints])
  exact ⟨[(b, A ++ (ints (x :: xs) ++ C))], ⟨hc, hm, .inr ⟨b, A, C, rfl, rfl⟩⟩, by simp [vfp], by simpa using hg⟩
theorem SP1.mono {G G' : IM} {l : List Int} {p : Option Addr} {c : Nat} (h : SP1 G l p c) (hg : IMle G G') : SP1 G' l p c := ⟨h.1.mono hg, dmono hg h.2⟩
theorem mAll_mem {t : Tm} {l : List Int} (h : l ∈ mAll t) : l.length ≤ 200 := by
 unfold mAll at h
 split at h
 ·rename_i hc
  have h1 := castValid_count hc
  have := paths_len t [] l h
  simp at this; omega
 ·cases h
theorem mCast_len (t : Tm) (label : Int) : (mCast t label).1.length ≤ 200 := by
 unfold mCast
 split
 ·rename_i l h
  exact mAll_mem (List.mem_of_find?_eq_some h)
 ·simp
def tyAny : Ty := .mk 1 []
/-- A type of at most that height whose nodes have the operands that they must have. -/
def tAh : Nat → Ty → Prop
 | 0, .mk k ks => ks = [] ∧ k ≠ 4 ∧ k ≠ 5
 | n + 1, .mk k ks => (k = 4 ∨ k = 5 → ks.length = 2) ∧ (k ≠ 4 → k ≠ 5 → ks.length = 0) ∧ ∀ t ∈ ks, tAh n t
mutual
/-- The nodes have the operands that they must have. -/
def tAr : Ty → Prop
 | .mk k ks => (k = 4 ∨ k = 5 → ks.length = 2) ∧ (k ≠ 4 → k ≠ 5 → ks.length = 0) ∧ tArL ks
def tArL : List Ty → Prop
 | [] => True
 | t :: ts => tAr t ∧ tArL ts
end
theorem tArL_mem : ∀ {ts : List Ty}, tArL ts ↔ ∀ t ∈ ts, tAr t
 | [] => by simp [tArL]
 | t :: ts => by simp only [tArL, tArL_mem (ts := ts), List.forall_mem_cons]
theorem tAh.ar : ∀ {n : Nat} {t : Ty}, tAh n t → tAr t
 | 0, .mk k ks, h => by
  obtain ⟨rfl, h1, h2⟩ := h
  rw [tAr]
  exact ⟨fun h => by omega, fun _ _ => rfl, by rw [tArL]; trivial⟩
 | n + 1, .mk k ks, h => by
  obtain ⟨h1, h2, h3⟩ := h
  rw [tAr]
  exact ⟨h1, h2, tArL_mem.2 fun t ht => (h3 t ht).ar⟩
theorem tAh.up : ∀ {n : Nat} {t : Ty}, tAh n t → tAh (n + 1) t
 | 0, .mk k ks, h => by
  obtain ⟨rfl, h1, h2⟩ := h
  exact ⟨fun h => by omega, fun _ _ => rfl, by simp⟩
 | n + 1, .mk k ks, h => by
  obtain ⟨h1, h2, h3⟩ := h
  exact ⟨h1, h2, fun t ht => (h3 t ht).up⟩
theorem tAh.le {n m : Nat} {t : Ty} (h : tAh n t) (hm : n ≤ m) : tAh m t := by
 induction hm with
 | refl => exact h
 | step _ ih => exact ih.up
theorem tAh_any (n : Nat) : tAh n tyAny := by
 refine tAh.le (n := 0) ⟨rfl, by decide, by decide⟩ (Nat.zero_le n)
theorem tAh_leaf (n : Nat) {k : Int} (h4 : k ≠ 4) (h5 : k ≠ 5) : tAh n (.mk k []) := tAh.le (n := 0) ⟨rfl, h4, h5⟩ (Nat.zero_le n)
theorem tAr_any : tAr tyAny := (tAh_any 0).ar
mutual
theorem tAr.small : ∀ {t : Ty}, tAr t → t.small
 | .mk k ks, h => by
  rw [tAr] at h
  rw [Ty.small]
  exact ⟨by have h1 := h.1; have h2 := h.2.1; omega, tArL.small h.2.2⟩
theorem tArL.small : ∀ {ts : List Ty}, tArL ts → Ty.smallL ts
 | [], _ => by rw [Ty.smallL]; trivial
 | t :: ts, h => by
  rw [tArL] at h
  rw [Ty.smallL]
  exact ⟨h.1.small, tArL.small h.2⟩
end
theorem tAh_sz : ∀ {n : Nat} {t : Ty}, tAh n t → szTy t ≤ ((2 ^ (n + 1) - 2 : Nat) : Int)
 | 0, .mk k ks, h => by
  obtain ⟨rfl, h1, h2⟩ := h
  rw [szTy, sumTy]; simp
 | n + 1, .mk k ks, h => by
  obtain ⟨h1, h2, h3⟩ := h
  have hp : 2 ≤ 2 ^ (n + 1) := by
   have := Nat.pow_le_pow_right (n := 2) (by omega) (show 1 ≤ n + 1 by omega)
   simpa using this
  have e : 2 ^ (n + 1 + 1) = 2 ^ (n + 1) * 2 := Nat.pow_succ ..
  have hl : ks.length = 0 ∨ ks.length = 2 := by omega
  rw [szTy]
  match ks, hl, h3 with
  | [], _, _ => rw [sumTy]; simp
  | [a, b], _, h3 =>
   have := tAh_sz (h3 a (by simp))
   have := tAh_sz (h3 b (by simp))
   simp only [sumTy, List.length_cons, List.length_nil]; omega
def tyInt : Ty := .mk 2 []
def tyBool : Ty := .mk 3 []
mutual
def tSame : Ty → Ty → Bool
 | .mk k ks, t => decide (k = t.k) && tSameL ks t.ks
def tSameL : List Ty → List Ty → Bool
 | [], [] => true
 | a :: xs, b :: ys => tSame a b && tSameL xs ys
 | _, _ => false
end
theorem tSame_mk (k k' : Int) (ks ks' : List Ty) : tSame (.mk k ks) (.mk k' ks') = (decide (k = k') && tSameL ks ks') := by rw [tSame]; rfl
mutual
theorem tSame_iff : ∀ (a b : Ty), tSame a b = true ↔ a = b
 | .mk k ks, .mk k' ks' => by
  rw [tSame_mk, Bool.and_eq_true, decide_eq_true_eq, tSameL_iffE ks ks', Ty.mk.injEq]
theorem tSameL_iffE : ∀ (xs ys : List Ty), tSameL xs ys = true ↔ xs = ys
 | [], [] => by simp [tSameL]
 | [], b :: ys => by simp [tSameL]
 | a :: xs, [] => by simp [tSameL]
 | a :: xs, b :: ys => by
  rw [tSameL, Bool.and_eq_true, tSame_iff a b, tSameL_iffE xs ys, List.cons.injEq]
end
theorem tSame_self (a : Ty) : tSame a a = true := (tSame_iff a a).2 rfl
theorem tSameL_iff : ∀ (xs ys : List Ty), tSameL xs ys = true ↔ xs.length = ys.length ∧ ∀ i, (h : i < xs.length) → (h' : i < ys.length) → tSame xs[i] ys[i] = true
 | [], [] => by simp [tSameL]
 | [], b :: ys => by simp [tSameL]
 | a :: xs, [] => by simp [tSameL]
 | a :: xs, b :: ys => by
  simp only [tSameL, Bool.and_eq_true, tSameL_iff xs ys, List.length_cons]
  constructor
  ·rintro ⟨h1, h2, h3⟩
   refine ⟨by omega, fun i hi hi' => ?_⟩
   cases i with
   | zero => exact h1
   | succ i => exact h3 i (by simpa using hi) (by simpa using hi')
  ·rintro ⟨h1, h2⟩
   exact ⟨h2 0 (by simp) (by simp), by omega, fun i hi hi' => h2 (i + 1) (by simpa using hi) (by simpa using hi')⟩

/-- What stands for names, the eldest first. -/
abbrev Cx := List (ByteArray × Ty)
/-- The youngest of the first n. -/
def lookN (cx : Cx) (nm : ByteArray) : Nat → Option Ty
 | 0 => none
 | n + 1 => match cx[n]? with
  | some b => if b.1 = nm then some b.2 else lookN cx nm n
  | none => lookN cx nm n
def mLook (cx : Cx) (nm : ByteArray) : Option Ty := lookN cx nm cx.length
theorem lookN_eq {cx : Cx} {nm x : ByteArray} {n : Nat} {t : Ty} (h : cx[n]? = some (x, t)) (he : x = nm) : lookN cx nm (n + 1) = some t := by
 rw [lookN, h]; simp only [he, if_true]
theorem lookN_ne {cx : Cx} {nm x : ByteArray} {n : Nat} {t : Ty} (h : cx[n]? = some (x, t)) (he : ¬x = nm) : lookN cx nm (n + 1) = lookN cx nm n := by
 rw [lookN, h]; simp only [he, if_false]

mutual
/-- The meet of two types that are consistent. -/
def mMeet : Ty → Ty → Ty
 | .mk k ks, b => if k = 1 then b else if b.k = 1 then .mk k ks else .mk k (mMeetL ks b.ks)
def mMeetL : List Ty → List Ty → List Ty
 | a :: xs, b :: ys => mMeet a b :: mMeetL xs ys
 | _, _ => []
end
theorem mMeet_mk (k k' : Int) (ks ks' : List Ty) : mMeet (.mk k ks) (.mk k' ks') = if k = 1 then .mk k' ks' else if k' = 1 then .mk k ks else .mk k (mMeetL ks ks') := by rw [mMeet]; rfl
/-- The operands of a type as one of a kind. -/
def mMatch (kind : Int) (t : Ty) : Option (Ty × Ty) :=
 if t.k = kind then some (t.ks.getD 0 ty0, t.ks.getD 1 ty0) else if t.k = 1 then some (tyAny, tyAny) else none
/-- What a node wants of its operands, and its type. -/
def mWanted (cx : Cx) (k : Int) (nm : ByteArray) (ty : Ty) (h : List Ty) : Option (List Ty × Ty) :=
 if k = 1 then (match mLook cx nm with | some t => some ([], t) | none => none)
 else if k = 2 then some ([], tyInt)
 else if k = 3 ∨ k = 4 then some ([], tyBool)
 else if k = 5 then some ([], .mk 4 [ty, h.getD 0 ty0])
 else if k = 6 then (match mMatch 4 (h.getD 0 ty0) with | some (a, b) => if tCons (h.getD 1 ty0) a = true then some ([.mk 4 [a, b], a], b) else none | none => none)
 else if k = 7 ∨ k = 8 then (if tCons (h.getD 0 ty0) tyInt = true ∧ tCons (h.getD 1 ty0) tyInt = true then some ([tyInt, tyInt], if k = 8 then tyBool else tyInt) else none)
 else if k = 9 then (if tCons (h.getD 0 ty0) tyBool = true ∧ tCons (h.getD 1 ty0) (h.getD 2 ty0) = true then some ([tyBool, mMeet (h.getD 1 ty0) (h.getD 2 ty0), mMeet (h.getD 1 ty0) (h.getD 2 ty0)], mMeet (h.getD 1 ty0) (h.getD 2 ty0)) else none)
 else if k = 10 then some ([], .mk 5 [h.getD 0 ty0, h.getD 1 ty0])
 else if k = 13 then (if tCons (h.getD 0 ty0) ty = true then some ([ty], ty) else none)
 else (match mMatch 5 (h.getD 0 ty0) with | some (a, b) => some ([.mk 5 [a, b]], if k = 12 then b else a) | none => none)
def mNodeT (cx : Cx) (k : Int) (nm : ByteArray) (ty : Ty) (h : List Ty) : Option (List Ty × Ty) := match mWanted cx k nm ty h with
 | some (w, t) => if tValid t = true then some (w, t) else none
 | none => none
/-- The first of two lists, as far as it goes, is the second. -/
def sameTo : List Ty → List Ty → Bool
 | [], _ => true
 | a :: xs, b :: ys => tSame a b && sameTo xs ys
 | _ :: _, [] => false
def inCx (cx : Cx) (k : Int) (nm : ByteArray) (ty : Ty) : Cx := if k = 5 then cx ++ [(nm, ty)] else cx
mutual
/-- The type of a term with casts. -/
def castTy (cx : Cx) : Tm → Option Ty
 | .mk k nm num ty fr lb ks => match castTyL (inCx cx k nm ty) ks with
  | none => none
  | some h => if k = 14 then (if tSame (h.getD 0 ty0) fr = true then some ty else none)
   else match mNodeT cx k nm ty h with
    | none => none
    | some (w, t) => if sameTo w h = true then some t else none
def castTyL (cx : Cx) : List Tm → Option (List Ty)
 | [] => some []
 | t :: ts => match castTy cx t with
  | none => none
  | some u => match castTyL cx ts with
   | none => none
   | some us => some (u :: us)
end
def mCastTypeOf (e : Tm) : Option Ty := if castValid e = true then castTy [] e else none
theorem ownType_fn : ∀ (t : Ty) (G : IM) (cells : List Value), t.small → RTy G t cells →
  Fn Tryz.prog 56 [.agg ⟨cells⟩] [] G (Imm fun G' v => ∃ cells' F, v = .agg ⟨cells'⟩ ∧ STy (Dif G' G) t cells' F ∧ F.Nodup) := by
 refine Ty.ind fun k ks ih G cells hts hr => ?_
 simp only [Ty.small] at hts
 obtain ⟨hsm, hks⟩ := hts
 obtain ⟨p, c, es, rfl, hk, hsl, hkl⟩ := hr.open
 simp only [Ty.k, Ty.ks] at hk hsl hkl ⊢
 have hn := hsl.le
 refine fn_enter Tryz.func56 rfl Tryz.ntmps56 Tryz.results56 rfl ?_
 intro w0
 refine tS (tR ?_)
 refine sE (step_box_a rfl rfl) rfl (fun b3 => ?_)
 refine sE (step_alloc rfl) rfl (fun b4 => ?_)
 refine sD (nS (tS (tR (sQ (pF0 rfl) rfl (sL (lBs rfl rfl) rfl rfl ?_)))))
 refine sQ (pBd rfl rfl) rfl ?_
 refine sE (step_alloc rfl) rfl (fun b12 => ?_)
 refine sS' ?_
 refine sD (nS (tS (tS (tR (sQ (pF0 rfl) rfl (sL (lBs rfl rfl) rfl rfl ?_))))))
 refine sQ (pLn rfl rfl) rfl (sQ (pM rfl) rfl (sD (nS (tri_block ?_))))
 (refine tri_nil 32 2 ?_; refine tri_loopN (fun (x : Nat × Option Addr × Nat × List (List Value) × List Nat × IM) => ⟨[(12, .int .i64 x.1), (11, .int .i64 ks.length), (10, .slice p ks.length c), (3, .pointer (some ⟨b12, 0, none⟩)), (2, .pointer (some ⟨b4, 0, none⟩))], [.blk b12 [.int .i64 k, .slice x.2.1 x.1 x.2.2.1], .slc x.2.1 x.2.2.1 32 2 x.1 x.2.2.2.1.flatten, .blk b4 [.int .i64 0, .slice none 0 0]], x.2.2.2.2.2⟩) (fun x => x.1 ≤ ks.length ∧ IMle G x.2.2.2.2.2 ∧ STyL (Dif x.2.2.2.2.2 G) (ks.take x.1) x.2.2.2.1 x.2.2.2.2.1 ∧ x.2.2.2.2.1.Nodup) (fun x => ks.length - x.1) (0, none, 0, [], [], G) ?_ ?_ ?_)
 (simp only [flat_snoc]; exact sub_mk (by repeat (first | exact SubE.nil | refine SubE.cons rfl ?_)) (by repeat (first | exact SubH.refl | exact SubH.nil | refine SubH.cons (by repeat (first | exact Pk.here | apply Pk.there)) ?_)))
 exact ⟨by simp, IMle.refl _, by simp [STyL], by simp⟩
 (rintro ⟨i, pn, cn, es', F, Gi⟩ ⟨hi, hle, hst, hnd⟩; simp only [] at hi hle hst hnd ⊢; replace hsl := hsl.mono hle; replace hkl := hkl.mono hle)
 refine tS (tR (sB (pure_lss rfl rfl) rfl rfl (fun h32 => ?_) (fun h32 => ?_)))
 refine sD (nS (tS (cT rfl ?_)))
 refine tK (nS (tS (tri_block (tS (tR ?_)))))
 (obtain ⟨b, o, p2, c2, rfl, hat, hre, hgb⟩ := hsl.kidTy hkl (i := i) (by omega) (by omega); refine sP (pIN rfl rfl rfl (by omega)) rfl rfl ?_)
 refine sL (load_a rfl rfl (hat _) rfl) rfl rfl ?_
 refine sE (step_alloc rfl) rfl (fun b45 => ?_)
 refine sS' ?_
 refine sD (nS (tri_draw mixed rfl ?_))
 refine any_pure (i := 0) (l' := [tt,ff,ff,ff,ff,ff,ff,ff]) rfl npI (pF0 rfl) rfl (by kernel_rfl) rfl rfl ?_
 refine aL 1 rfl (lBs rfl rfl) rfl ?_
 refine aL 2 rfl (lBa rfl rfl) rfl ?_
 refine aO' 3 ?_
 (refine one_imm rfl rfl (ih _ (List.getElem_mem (by omega)) _ _ (Ty.smallL_mem hks _ (List.getElem_mem (by omega))) hre) rfl rfl rfl (fun v G1 hle1 hh => ?_); obtain ⟨cells', F', rfl, hs', hnd'⟩ := hh; obtain ⟨p3, c3, es3, rfl, _⟩ := hs'.R.open)
 refine aO' 4 ?_
 (refine one_step0 rfl (step_buildSlice rfl rfl rfl (by omega) (by unfold maxLen; omega) rfl) rfl rfl ?_; rintro _ ⟨b56, rfl⟩)
 refine aO' 5 ?_
 refine one_append rfl rfl rfl rfl rfl rfl (fun _ _ => by repeat (first | exact Sw.here | apply Sw.there)) (at_slc_all (by repeat first | exact mH | apply mT)) rfl (by simp [Value.oneCell']) (by unfold maxLen; omega) (by omega) rfl rfl (by repeat (first | exact HmOk.nil | apply HmOk.dep (by kernel_rfl) | apply HmOk.blk (by kernel_rfl) (by repeat (first | exact Pk.here | apply Pk.there)) (by repeat first | exact mH | apply mT))) (fun pn' cn' => ?_)
 refine aP 6 rfl (pF0 rfl) rfl ?_
 refine aO' 7 ?_
 refine one_store rfl rfl rfl rfl rfl rfl rfl rfl (by kernel_rfl) (by repeat first | exact Sw.here | apply Sw.there) (by rfl) ?_
 refine aD' ?_
 refine nrm_block (nS (tR (sP (pure_add rfl rfl (by omega) (by omega)) rfl rfl ?_)))
 refine sQ (pM rfl) rfl (sD (nrm_loopN (i + 1, pn', cn', es' ++ [[.int .i64 ks[i].k, .slice p3 ks[i].ks.length c3]], F ++ F', G1) ?_ ?_ ?_))
 (simp only [flat_snoc]; exact sub_mk (by repeat (first | exact SubE.nil | refine SubE.cons rfl ?_)) (by repeat (first | exact SubH.refl | exact SubH.nil | refine SubH.cons (by repeat (first | exact Pk.here | apply Pk.there)) ?_)))
 exact ⟨by omega, hle.trans hle1, STyL.step hst hnd hle hle1 (by omega) hs' hnd'⟩
 (show ks.length - (i + 1) < ks.length - i; omega)
 refine sD (nS (tS (cF rfl ?_)))
 refine tri_exit ?_
 refine ext_seq ?_
 refine ext_loopN ?_
 refine ext_block_eq ?_
 refine nS (tS (tR (sL (lBa rfl rfl) rfl rfl ?_)))
 refine sS' ?_
 refine sD (nS ?_)
 (refine ret_freeze (by repeat (first | exact Pk.here | apply Pk.there)) (fun G2 hle2 hsl2 hno2 => ?_); obtain rfl : i = ks.length := by omega)
 refine tT (rF1 (rC rfl (lBa rfl rfl)) ?_)
 (rw [List.take_length] at hst; obtain ⟨F2, hf1, hf2⟩ := STy.fin hst hnd hle hle2 hsl2 hno2 hk; exact ⟨rfl, _, F2, rfl, hf1, hf2⟩)
theorem l1Copy_fn : ∀ (t : Ty) (G : IM) (cells : List Value), t.small → RTy G t cells → Fn Tryz.prog 115 [.agg ⟨cells⟩] [] G (ToTy t G) := by
 refine Ty.ind fun k ks ih G cells hts hr => ?_
 simp only [Ty.small] at hts
 obtain ⟨hsm, hks⟩ := hts
 obtain ⟨p, c, es, rfl, hk, hsl, hkl⟩ := hr.open
 simp only [Ty.k, Ty.ks] at hk hsl hkl ⊢
 have hn := hsl.le
 refine fn_enter Tryz.func115 rfl Tryz.ntmps115 Tryz.results115 rfl ?_
 intro w0
 refine tS (tR ?_)
 refine sE (step_box_a rfl rfl) rfl (fun b3 => ?_)
 refine sE (step_alloc rfl) rfl (fun b4 => ?_)
 refine sD (nS (tS (tR (sQ (pF0 rfl) rfl (sL (lBs rfl rfl) rfl rfl ?_)))))
 refine sQ (pBd rfl rfl) rfl ?_
 refine sE (step_alloc rfl) rfl (fun b12 => ?_)
 refine sS' ?_
 refine sD (nS (tS (tS (tR (sQ (pA rfl) rfl (sD ?_))))))
 refine nS (tri_block ?_)
 (refine tri_nil 32 2 ?_; refine tri_loopN (fun (x : Nat × Option Addr × Nat × List (List Value) × List Nat × IM) => ⟨[(4, .int .i64 x.1), (3, .pointer (some ⟨b12, 0, none⟩)), (1, .pointer (some ⟨b3, 0, none⟩)), (2, .pointer (some ⟨b4, 0, none⟩))], [.blk b12 [.int .i64 k, .slice x.2.1 x.1 x.2.2.1], .slc x.2.1 x.2.2.1 32 2 x.1 x.2.2.2.1.flatten, .blk b4 [.int .i64 0, .slice none 0 0], .blk b3 [.int .i64 k, .slice p ks.length c]], x.2.2.2.2.2⟩) (fun x => x.1 ≤ ks.length ∧ IMle G x.2.2.2.2.2 ∧ STyL (Dif x.2.2.2.2.2 G) (ks.take x.1) x.2.2.2.1 x.2.2.2.2.1 ∧ x.2.2.2.2.1.Nodup) (fun x => ks.length - x.1) (0, none, 0, [], [], G) ?_ ?_ ?_)
 (simp only [flat_snoc]; exact sMk)
 exact ⟨by simp, IMle.refl _, by simp [STyL], by simp⟩
 (rintro ⟨i, pn, cn, es', F, Gi⟩ ⟨hi, hle, hst, hnd⟩; simp only [] at hi hle hst hnd ⊢; replace hsl := hsl.mono hle; replace hkl := hkl.mono hle)
 refine tS (tS (tR (sQ (pM rfl) rfl (sQ (pF0 rfl) rfl (sL (lBs rfl rfl) rfl rfl ?_)))))
 refine sQ (pLn rfl rfl) rfl (sB (pure_lss rfl rfl) rfl rfl (fun h34 => ?_) (fun h34 => ?_))
 refine sD (nS (cT rfl ?_))
 refine tK (nS (tS (tri_block ?_)))
 (obtain ⟨b, o, p2, c2, rfl, hat, hre, hgb⟩ := hsl.kidTy hkl (i := i) (by omega) (by omega); refine tri_draw mixed rfl ?_)
 refine any_pure (i := 0) (l' := [tt,ff,ff,ff,ff,ff,ff,ff,ff,ff,ff,ff]) rfl npI (pF0 rfl) rfl (by kernel_rfl) rfl rfl ?_
 refine aL 1 rfl (lBs rfl rfl) rfl ?_
 refine aP 2 rfl (pF0 rfl) rfl ?_
 refine aL 3 rfl (lBs rfl rfl) rfl ?_
 refine aP 4 rfl (pM rfl) rfl ?_
 refine aP 5 rfl (pIN rfl rfl rfl (by omega)) rfl ?_
 refine aL 6 rfl (load_a rfl rfl (hat _) rfl) rfl ?_
 refine aO' 7 ?_
 (refine one_imm rfl rfl (ih ks[i] (List.getElem_mem (by omega)) _ _ (Ty.smallL_mem hks _ (List.getElem_mem (by omega))) hre) rfl rfl rfl (fun v G1 hle1 hh => ?_); obtain ⟨cells', F', rfl, hs', hnd'⟩ := hh; obtain ⟨p3, c3, es3, rfl, _⟩ := hs'.R.open)
 refine aO' 8 ?_
 (refine one_step0 rfl (step_buildSlice rfl rfl rfl (by omega) (by unfold maxLen; omega) rfl) rfl rfl ?_; rintro _ ⟨b53, rfl⟩)
 refine aO' 9 ?_
 refine one_append rfl rfl rfl rfl rfl rfl (fun _ _ => by repeat (first | exact Sw.here | apply Sw.there)) (at_slc_all (by repeat first | exact mH | apply mT)) rfl (by simp [Value.oneCell']) (by unfold maxLen; omega) (by omega) rfl rfl (by repeat (first | exact HmOk.nil | apply HmOk.dep (by decide +kernel) | apply HmOk.blk (by decide +kernel) (by repeat (first | exact Pk.here | apply Pk.there)) (by repeat first | exact mH | apply mT))) (fun pn' cn' => ?_)
 refine aP 10 rfl (pF0 rfl) rfl ?_
 refine aO' 11 ?_
 refine one_store rfl rfl rfl rfl rfl rfl rfl rfl (by kernel_rfl) (by repeat first | exact Sw.here | apply Sw.there) (by rfl) ?_
 refine aD' ?_
 refine nrm_block (nS (tR (sQ (pM rfl) rfl (sP (pure_add rfl rfl (by omega) (by omega)) rfl rfl ?_))))
 refine sQ (pA rfl) rfl (sD (nrm_loopN (i + 1, pn', cn', es' ++ [[.int .i64 ks[i].k, .slice p3 ks[i].ks.length c3]], F ++ F', G1) ?_ ?_ ?_))
 (simp only [flat_snoc]; exact sMk)
 exact ⟨by omega, hle.trans hle1, STyL.step hst hnd hle hle1 (by omega) hs' hnd'⟩
 (show ks.length - (i + 1) < ks.length - i; omega)
 refine sD (nS (cF rfl ?_))
 refine tri_exit ?_
 refine ext_seq ?_
 refine ext_loopN ?_
 refine ext_block_eq ?_
 refine nS (tS (tR (sL (lBa rfl rfl) rfl rfl ?_)))
 refine sS' ?_
 refine sD (nS ?_)
 (refine ret_freeze (by repeat (first | exact Pk.here | apply Pk.there)) (fun G2 hle2 hsl2 hno2 => ?_); obtain rfl : i = ks.length := (by omega))
 refine tT (rF1 (rC rfl (lBa rfl rfl)) ?_)
 (rw [List.take_length] at hst; obtain ⟨F2, hf1, hf2⟩ := STy.fin hst hnd hle hle2 hsl2 hno2 hk; exact ⟨rfl, _, F2, rfl, hf1, hf2⟩)
theorem l2Copy_fn : ∀ (t : Tm) (G : IM) (cells : List Value), t.small → RTm G t cells → Fn Tryz.prog 82 [.agg ⟨cells⟩] [] G (ToTm t G) := by
 refine Tm.ind fun k nm num ty fr lb ks ih G cells hts hr => ?_
 have hone := hr.one
 simp only [Tm.small] at hts
 obtain ⟨hnm, hty', hfr', hsm, hks⟩ := hts
 obtain ⟨tk, tks⟩ := ty
 obtain ⟨fk, fks⟩ := fr
 obtain ⟨pt, ct, pf, cf, p, c, es, rfl, hk, hnum, hlb, hty, hfr, hsl, hkl⟩ := hr.open9
 have hn := hsl.le
 have hT := l1Copy_fn (.mk tk tks) G _ hty' hty
 refine fn_enter Tryz.func82 rfl Tryz.ntmps82 Tryz.results82 rfl ?_
 intro w0
 refine tS (tR ?_)
 refine sE (step_box_a rfl rfl) rfl (fun b3 => ?_)
 refine sE (step_alloc rfl) rfl (fun b4 => ?_)
 refine sD (nS (tS (tR (sL (lBa rfl rfl) rfl rfl ?_))))
 refine sE (step_alloc rfl) rfl (fun b10 => ?_)
 refine sS' ?_
 refine sD (nS (tS (tR (sQ (pF0 rfl) rfl (sL (lBa rfl rfl) rfl rfl ?_)))))
 (refine seq_imm rfl hT rfl rfl (fun v G1 hle1 hh => ?_); obtain ⟨cs1, F1, rfl, hs1, hn1⟩ := hh; obtain ⟨p1, c1, rfl, _⟩ := hs1.open; have hF := l1Copy_fn (.mk fk fks) G1 _ hfr' (hfr.mono hle1))
 refine sQ (pF0 rfl) rfl (sS' ?_)
 refine sD (nS (tS (tR (sQ (pF0 rfl) rfl (sL (lBa rfl rfl) rfl rfl ?_)))))
 (refine seq_imm rfl hF rfl rfl (fun v G2 hle2 hh => ?_); obtain ⟨cs2, F2, rfl, hs2, hn2⟩ := hh; obtain ⟨p2, c2, rfl, _⟩ := hs2.open; replace hsl := hsl.mono (hle1.trans hle2); replace hkl := hkl.mono (hle1.trans hle2))
 refine sQ (pF0 rfl) rfl (sS' ?_)
 refine sD (nS (tS (tR (sQ (pF0 rfl) rfl (sS' ?_)))))
 refine sD (nS (tS (tS (tR (sQ (pA rfl) rfl (sD ?_))))))
 refine nS (tri_block ?_)
 (refine tri_nil 35 9 ?_; refine tri_loopN (fun (x : Nat × Option Addr × Nat × List (List Value) × List Nat × IM) => ⟨[(4, .int .i64 x.1), (3, .pointer (some ⟨b10, 0, none⟩)), (1, .pointer (some ⟨b3, 0, none⟩)), (2, .pointer (some ⟨b4, 0, none⟩))], [.blk b10 [.int .i64 k, .string nm, .int .i64 num, .int .i64 tk, .slice p1 tks.length c1, .int .i64 fk, .slice p2 fks.length c2, .int .i64 lb, .slice x.2.1 x.1 x.2.2.1], .slc x.2.1 x.2.2.1 35 9 x.1 x.2.2.2.1.flatten, .blk b4 [.int .i64 0, .string ⟨⟨[]⟩⟩, .int .i64 0, .int .i64 0, .slice none 0 0, .int .i64 0, .slice none 0 0, .int .i64 0, .slice none 0 0], .blk b3 [.int .i64 k, .string nm, .int .i64 num, .int .i64 tk, .slice pt tks.length ct, .int .i64 fk, .slice pf fks.length cf, .int .i64 lb, .slice p ks.length c]], x.2.2.2.2.2⟩) (fun x => x.1 ≤ ks.length ∧ IMle G2 x.2.2.2.2.2 ∧ STmL (Dif x.2.2.2.2.2 G2) (ks.take x.1) x.2.2.2.1 x.2.2.2.2.1 ∧ x.2.2.2.2.1.Nodup) (fun x => ks.length - x.1) (0, none, 0, [], [], G2) ?_ ?_ ?_)
 (simp only [flat_snoc]; exact sMk)
 exact ⟨by simp, IMle.refl _, by simp [STmL], by simp⟩
 (rintro ⟨i, pn, cn, es', F, Gi⟩ ⟨hi, hle, hst, hnd⟩; simp only [] at hi hle hst hnd ⊢; replace hsl := hsl.mono hle; replace hkl := hkl.mono hle)
 refine tS (tS (tR (sQ (pM rfl) rfl (sQ (pF0 rfl) rfl (sL (lBs rfl rfl) rfl rfl ?_)))))
 refine sQ (pLn rfl rfl) rfl (sB (pure_lss rfl rfl) rfl rfl (fun h56 => ?_) (fun h56 => ?_))
 refine sD (nS (cT rfl ?_))
 refine tK (nS (tS (tri_block ?_)))
 (obtain ⟨b, o, e, rfl, hl, hat, hre, hgb⟩ := hsl.kidTm hkl (i := i) (by omega) (by omega); have hone := hre.one; refine tri_draw mixed rfl ?_)
 refine any_pure (i := 0) (l' := [tt,ff,ff,ff,ff,ff,ff,ff,ff,ff,ff,ff]) rfl npI (pF0 rfl) rfl (by kernel_rfl) rfl rfl ?_
 refine aL 1 rfl (lBs rfl rfl) rfl ?_
 refine aP 2 rfl (pF0 rfl) rfl ?_
 refine aL 3 rfl (lBs rfl rfl) rfl ?_
 refine aP 4 rfl (pM rfl) rfl ?_
 refine aP 5 rfl (pIN rfl rfl rfl (by omega)) rfl ?_
 refine aL 6 rfl (load_a rfl rfl (hat _) hl) rfl ?_
 refine aO' 7 ?_
 (refine one_imm rfl rfl (ih ks[i] (List.getElem_mem (by omega)) _ _ (Tm.smallL_mem hks _ (List.getElem_mem (by omega))) hre) rfl rfl rfl (fun v G3 hle3 hh => ?_); obtain ⟨cells', F', rfl, hs', hnd'⟩ := hh; obtain ⟨qt, dt, et', qf, df, ef', q3, d3, es3, rfl, _⟩ := hs'.R.open)
 refine aO' 8 ?_
 (refine one_step0 rfl (step_buildSlice rfl rfl rfl (by omega) (by unfold maxLen; omega) rfl) rfl rfl ?_; rintro _ ⟨b75, rfl⟩)
 refine aO' 9 ?_
 refine one_append rfl rfl rfl rfl rfl rfl (fun _ _ => by repeat (first | exact Sw.here | apply Sw.there)) (at_slc_all (by repeat first | exact mH | apply mT)) rfl (by simp [Value.oneCell']) (by unfold maxLen; omega) (by omega) rfl rfl (by repeat (first | exact HmOk.nil | apply HmOk.dep (by decide +kernel) | apply HmOk.blk (by decide +kernel) (by repeat (first | exact Pk.here | apply Pk.there)) (by repeat first | exact mH | apply mT))) (fun pn' cn' => ?_)
 refine aP 10 rfl (pF0 rfl) rfl ?_
 refine aO' 11 ?_
 refine one_store rfl rfl rfl rfl rfl rfl rfl rfl (by kernel_rfl) (by repeat first | exact Sw.here | apply Sw.there) (by rfl) ?_
 refine aD' ?_
 refine nrm_block (nS (tR (sQ (pM rfl) rfl (sP (pure_add rfl rfl (by omega) (by omega)) rfl rfl ?_))))
 refine sQ (pA rfl) rfl (sD (nrm_loopN (i + 1, pn', cn', es' ++ [[.int .i64 ks[i].k, .string ks[i].nm, .int .i64 ks[i].num, .int .i64 ks[i].ty.k, .slice qt ks[i].ty.ks.length dt, .int .i64 ks[i].fr.k, .slice qf ks[i].fr.ks.length df, .int .i64 ks[i].lb, .slice q3 ks[i].ks.length d3]], F ++ F', G3) ?_ ?_ ?_))
 (simp only [flat_snoc]; exact sMk)
 exact ⟨by omega, hle.trans hle3, STmL.step hst hnd hle hle3 (by omega) hs' hnd'⟩
 (show ks.length - (i + 1) < ks.length - i; omega)
 refine sD (nS (cF rfl ?_))
 refine tri_exit ?_
 refine ext_seq ?_
 refine ext_loopN ?_
 refine ext_block_eq ?_
 refine nS (tS (tR (sL (lBa rfl rfl) rfl rfl ?_)))
 refine sS' ?_
 refine sD (nS ?_)
 (refine ret_freeze (by repeat (first | exact Pk.here | apply Pk.there)) (fun G4 hle4 hsl4 hno4 => ?_); obtain rfl : i = ks.length := (by omega))
 refine tT (rF1 (rC rfl (lBa rfl rfl)) ?_)
 (rw [List.take_length] at hst; obtain ⟨F3, hf1, hf2⟩ := STmS.fin hst hnd hle hle4 hsl4 hno4; obtain ⟨F5, hg1, hg2⟩ := STm.mk3 (nm := nm) hk hnum hlb hle1 hle2 (hle.trans hle4) hs1 hn1 hs2 hn2 hf1 hf2; exact ⟨rfl, _, F5, rfl, hg1, hg2⟩)
mutual
def mMap (g : Tm → Tm) : Tm → Tm
 | .mk k nm num ty fr lb ks => g (.mk k nm num ty fr lb (mMapL g ks))
def mMapL (g : Tm → Tm) : List Tm → List Tm
 | [] => []
 | t :: ts => mMap g t :: mMapL g ts
end
theorem mMapL_eq (g : Tm → Tm) : ∀ ks, mMapL g ks = ks.map (mMap g)
 | [] => rfl
 | t :: ts => by rw [mMapL, mMapL_eq g ts, List.map_cons]
mutual
theorem mMap_id : ∀ t, mMap id t = t
 | .mk k nm num ty fr lb ks => by rw [mMap, mMapL_id ks]; rfl
theorem mMapL_id : ∀ ks, mMapL id ks = ks
 | [] => rfl
 | t :: ts => by rw [mMapL, mMap_id t, mMapL_id ts]
end
/-- A term put together, its operands first. -/
theorem STm.mk3k {G G1 G2 G3 : IM} {k : Int} {nm : ByteArray} {num : Int} {ty fr : Ty} {lb : Int} {ks : List Tm} {tc fc : List Value} {p : Option Addr} {c : Nat} {F1 F2 F3 : List Nat} (hk : I64 k) (hnum : I64 num) (hlb : I64 lb)
  (hl1 : IMle G G1) (hl2 : IMle G1 G2) (hl3 : IMle G2 G3) (h3 : STmS (Dif G1 G) ks p c F3) (n3 : F3.Nodup) (h1 : STy (Dif G2 G1) ty tc F1) (n1 : F1.Nodup) (h2 : STy (Dif G3 G2) fr fc F2) (n2 : F2.Nodup) :
  ∃ F, STm (Dif G3 G) (.mk k nm num ty fr lb ks) ([.int .i64 k, .string nm, .int .i64 num] ++ tc ++ fc ++ [.int .i64 lb, .slice p ks.length c]) F ∧ F.Nodup := by
 obtain ⟨es, Fs, e1, e2, rfl, e4⟩ := h3
 have i3 : ∀ b ∈ vfp p ++ Fs, Dif G1 G b ≠ none := by
  intro b hb
  rcases List.mem_append.1 hb with hb | hb
  ·exact e4 b hb
  ·exact e2.inG b hb
 have a1 : IMle (Dif G1 G) (Dif G3 G) := Dif.mono (hl2.trans hl3)
 have a2 : IMle (Dif G2 G1) (Dif G3 G) := fun b l h => Dif.mono hl3 b l (Dif.anti hl1 b l h)
 have a3 : IMle (Dif G3 G2) (Dif G3 G) := Dif.anti (hl1.trans hl2)
 refine ⟨F1 ++ (F2 ++ (vfp p ++ Fs)), ?_, ?_⟩
 ·simp only [STm]
  exact ⟨tc, fc, p, c, es, F1, F2, Fs, rfl, hk, hnum, hlb, h1.mono a2, h2.mono a3, e1.mono a1, e2.mono a1, rfl, dmono a1 e4⟩
 ·rw [List.nodup_append, List.nodup_append]
  refine ⟨n1, ⟨n2, n3, ?_⟩, ?_⟩
  ·rintro x hx y hy rfl
   exact dif_no (dmono (Dif.mono hl2) i3) h2.inG x hy x hx rfl
  ·rintro x hx y hy rfl
   rcases List.mem_append.1 hy with hy | hy
   ·exact dif_no (dmono (Dif.anti hl1) h1.inG) h2.inG x hx x hy rfl
   ·exact dif_no i3 h1.inG x hy x hx rfl
/- What is asked of every node that comes to the change. -/
mutual
def mOk (Q : Tm → Prop) (g : Tm → Tm) : Tm → Prop
 | .mk k nm num ty fr lb ks => mOkL Q g ks ∧ Q (.mk k nm num ty fr lb (mMapL g ks))
def mOkL (Q : Tm → Prop) (g : Tm → Tm) : List Tm → Prop
 | [] => True
 | t :: ts => mOk Q g t ∧ mOkL Q g ts
end
theorem mOkL_mem {Q : Tm → Prop} {g : Tm → Tm} : ∀ {ts : List Tm}, mOkL Q g ts → ∀ t ∈ ts, mOk Q g t
 | [], _, t, h => by simp at h
 | t' :: ts, h, t, ht => by
  simp only [mOkL] at h
  rcases List.mem_cons.1 ht with rfl | ht
  ·exact h.1
  ·exact mOkL_mem h.2 t ht
mutual
theorem mOk_true (g : Tm → Tm) : ∀ t, mOk (fun _ => True) g t
 | .mk k nm num ty fr lb ks => by rw [mOk]; exact ⟨mOkL_true g ks, trivial⟩
theorem mOkL_true (g : Tm → Tm) : ∀ ts, mOkL (fun _ => True) g ts
 | [] => by rw [mOkL]; trivial
 | t :: ts => by rw [mOkL]; exact ⟨mOk_true g t, mOkL_true g ts⟩
end
/-- What is asked of a change of nodes. -/
def MapOk (g : Tm → Tm) (Q : Tm → Prop) (fid : FuncId) (us cs : List Value) : Prop := ∀ (t : Tm) (G0 G1 : IM) (cells : List Value) (F : List Nat), Q t → IMle G0 G1 → STm (Dif G1 G0) t cells F → F.Nodup →
 Fn Tryz.prog fid (us ++ [.agg ⟨cells⟩] ++ cs) [] G1 (Imm fun G2 v => ∃ cells' F', v = .agg ⟨cells'⟩ ∧ STm (Dif G2 G0) (g t) cells' F' ∧ F'.Nodup)
theorem mapped_fn (g : Tm → Tm) (Q : Tm → Prop) (fid : FuncId) [FunI Tryz.prog fid] (us cs : List Value) (hg : MapOk g Q fid us cs) : ∀ (t : Tm) (G : IM) (cells : List Value), mOk Q g t → t.small → RTm G t cells →
  Fn Tryz.prog 92 [.agg ⟨cells⟩, .func (.func fid) ⟨us⟩ ⟨cs⟩] [] G (ToTm (mMap g t) G) := by
 refine Tm.ind fun k nm num ty fr lb ks ih G cells hmo hts hr => ?_
 have hone := hr.one
 simp only [mOk] at hmo
 obtain ⟨hmoL, hQ⟩ := hmo
 simp only [Tm.small] at hts
 obtain ⟨hnm, hty', hfr', hsm, hks⟩ := hts
 obtain ⟨tk, tks⟩ := ty
 obtain ⟨fk, fks⟩ := fr
 obtain ⟨pt, ct, pf, cf, p, c, es, rfl, hk, hnum, hlb, hty, hfr, hsl, hkl⟩ := hr.open9
 have hn := hsl.le
 have hlen : (mMapL g ks).length = ks.length := by rw [mMapL_eq, List.length_map]
 have hget : ∀ i (h : i < ks.length) (h' : i < (mMapL g ks).length), (mMapL g ks)[i] = mMap g ks[i] := fun i h h' => by simp [mMapL_eq]
 refine fn_enter Tryz.func92 rfl Tryz.ntmps92 Tryz.results92 rfl ?_
 intro w0
 refine tS (tR ?_)
 refine sE (step_box_a rfl rfl) rfl (fun b3 => ?_)
 refine sE (step_alloc rfl) rfl (fun b4 => ?_)
 refine sD (nS (tS (tR (sQ (pA rfl) rfl (sD (nS ?_))))))
 refine tS (tS (tR (sQ (pF0 rfl) rfl (sL (lBs rfl rfl) rfl rfl ?_))))
 refine sQ (pLn rfl rfl) rfl (sQ (pM rfl) rfl (sD (nS (tri_block ?_))))
 (refine tri_nil 35 9 ?_; refine tri_loopN (fun (x : Nat × Option Addr × Nat × List (List Value) × List Nat × IM) => ⟨[(11, .int .i64 x.1), (10, .int .i64 ks.length), (9, .slice p ks.length c), (5, .slice x.2.1 x.1 x.2.2.1), (2, .pointer (some ⟨b3, 0, none⟩)), (1, .func (.func fid) ⟨us⟩ ⟨cs⟩), (4, .pointer (some ⟨b4, 0, none⟩))], [.slc x.2.1 x.2.2.1 35 9 x.1 x.2.2.2.1.flatten, .blk b4 [.int .i64 0, .string ⟨⟨[]⟩⟩, .int .i64 0, .int .i64 0, .slice none 0 0, .int .i64 0, .slice none 0 0, .int .i64 0, .slice none 0 0], .blk b3 [.int .i64 k, .string nm, .int .i64 num, .int .i64 tk, .slice pt tks.length ct, .int .i64 fk, .slice pf fks.length cf, .int .i64 lb, .slice p ks.length c]], x.2.2.2.2.2⟩) (fun x => x.1 ≤ ks.length ∧ IMle G x.2.2.2.2.2 ∧ STmL (Dif x.2.2.2.2.2 G) ((mMapL g ks).take x.1) x.2.2.2.1 x.2.2.2.2.1 ∧ x.2.2.2.2.1.Nodup) (fun x => ks.length - x.1) (0, none, 0, [], [], G) ?_ ?_ ?_)
 (simp only [flat_snoc]; exact sMk)
 exact ⟨by simp, IMle.refl _, by simp [STmL], by simp⟩
 (rintro ⟨i, pn, cn, es', F, Gi⟩ ⟨hi, hle, hst, hnd⟩; simp only [] at hi hle hst hnd ⊢; replace hsl := hsl.mono hle; replace hkl := hkl.mono hle)
 refine tS (tR (sB (pure_lss rfl rfl) rfl rfl (fun h28 => ?_) (fun h28 => ?_)))
 refine sD (nS (tS (cT rfl ?_)))
 refine tK (nS (tS (tri_block (tS (tR ?_)))))
 (obtain ⟨b, o, e, rfl, hl, hat, hre, hgb⟩ := hsl.kidTm hkl (i := i) (by omega) (by omega); have hone := hre.one; refine sP (pIN rfl rfl rfl (by omega)) rfl rfl ?_)
 refine sL (load_a rfl rfl (hat _) hl) rfl rfl ?_
 refine sE (step_alloc rfl) rfl (fun b41 => ?_)
 refine sS rfl rfl rfl hl hone rfl ?_ (hu := by exact upd_all hl.symm)
 refine sD (nS (tR (sQ (pM rfl) rfl (sL (load_a rfl rfl (at_blk_all (by repeat first | exact mH | apply mT)) (by assumption)) rfl rfl ?_))))
 refine sQ (pM rfl) rfl ?_
 (refine seq_imm rfl (ih ks[i] (List.getElem_mem (by omega)) _ _ (mOkL_mem hmoL _ (List.getElem_mem (by omega))) (Tm.smallL_mem hks _ (List.getElem_mem (by omega))) hre) rfl rfl (fun v G3 hle3 hh => ?_); obtain ⟨cells', F', rfl, hs', hnd'⟩ := hh; rw [← hget i (by omega) (by omega)] at hs'; have hlc := hs'.R.len; have hoc := hs'.R.one)
 (obtain ⟨v1, v2, v3, v4, v5, v6, v7, v8, v9, rfl⟩ : ∃ v1 v2 v3 v4 v5 v6 v7 v8 v9, cells' = [v1, v2, v3, v4, v5, v6, v7, v8, v9] := by obtain ⟨_, _, _, _, _, _, _, _, _, rfl, _⟩ := hs'.R.open; exact ⟨_, _, _, _, _, _, _, _, _, rfl⟩)
 (refine seq_step (step_buildSlice rfl rfl rfl (by omega) (by unfold maxLen; omega) rfl) rfl ?_; rintro _ ⟨b51, rfl⟩)
 refine seq_append rfl rfl rfl rfl rfl (fun _ _ => by repeat (first | exact Sw.here | apply Sw.there)) (at_slc_all (by repeat first | exact mH | apply mT)) rfl (fun u hu => List.all_eq_true.1 hoc u hu) (by unfold maxLen; omega) (by omega) rfl (fun pn' cn' => ?_)
 refine sQ (pA rfl) rfl (sD (nrm_block (nS (tR (sP (pure_add rfl rfl (by omega) (by omega)) rfl rfl ?_)))))
 refine sQ (pM rfl) rfl (sD (nrm_loopN (i + 1, pn', cn', es' ++ [[v1, v2, v3, v4, v5, v6, v7, v8, v9]], F ++ F', G3) ?_ ?_ ?_))
 (simp only [flat_snoc]; exact sMk)
 exact ⟨by omega, hle.trans hle3, STmL.step hst hnd hle hle3 (by omega) hs' hnd'⟩
 (show ks.length - (i + 1) < ks.length - i; omega)
 refine sD (nS (tS (cF rfl ?_)))
 refine tri_exit ?_
 refine ext_seq ?_
 refine ext_loopN ?_
 refine ext_block_eq ?_
 refine nS (tS ?_)
 (obtain rfl : i = ks.length := (by omega); refine tri_freeze (by repeat (first | exact Pk.here | apply Pk.there)) (fun G2 hle2 hsl2 hno2 => ?_); rw [← hlen, List.take_length] at hst; rw [← hlen] at hsl2; obtain ⟨F3, hf1, hf2⟩ := STmS.fin hst hnd hle hle2 hsl2 hno2; have hleG := hle.trans hle2; have hT := ownType_fn (.mk tk tks) G2 _ hty' (hty.mono hleG); refine tri_draw mixed rfl ?_)
 refine any_pure (i := 0) (l' := [tt,ff,ff,ff,ff,ff,ff,ff,ff,ff,ff,ff,ff]) rfl npI (pF0 rfl) rfl (by kernel_rfl) rfl rfl ?_
 refine aL 1 rfl (lBa rfl rfl) rfl ?_
 refine aP 3 rfl (pF0 rfl) rfl ?_
 refine aL 4 rfl (lBa rfl rfl) rfl ?_
 refine aP 6 rfl (pM rfl) rfl ?_
 refine aO' 2 ?_
 (refine one_imm rfl rfl hT rfl rfl rfl (fun v G4 hle4 hh => ?_); obtain ⟨cs1, F1, rfl, hs1, hn1⟩ := hh; obtain ⟨p1, c1, rfl, _⟩ := hs1.open; have hF := ownType_fn (.mk fk fks) G4 _ hfr' (hfr.mono (hleG.trans hle4)))
 refine aP 7 rfl (pF0 rfl) rfl ?_
 refine aO' 5 ?_
 (refine one_imm rfl rfl hF rfl rfl rfl (fun v G5 hle5 hh => ?_); obtain ⟨cs2, F2, rfl, hs2, hn2⟩ := hh; obtain ⟨p2, c2, rfl, _⟩ := hs2.open; obtain ⟨F6, hg1, hg2⟩ := STm.mk3k (nm := nm) hk hnum hlb hleG hle4 hle5 hf1 hf2 hs1 hn1 hs2 hn2; rw [hlen] at hg1; have hch := hg _ G G5 _ F6 hQ (hleG.trans (hle4.trans hle5)) hg1 hg2)
 refine aO' 8 ?_
 refine one_store rfl rfl rfl rfl rfl rfl rfl rfl (by kernel_rfl) (by repeat first | exact Sw.here | apply Sw.there) (by rfl) ?_
 refine aP 9 rfl (pF0 rfl) rfl ?_
 refine aO' 10 ?_
 refine one_store rfl rfl rfl rfl rfl rfl rfl rfl (by kernel_rfl) (by repeat first | exact Sw.here | apply Sw.there) (by rfl) ?_
 refine aP 11 rfl (pF0 rfl) rfl ?_
 refine aO' 12 ?_
 refine one_store rfl rfl rfl rfl rfl rfl rfl rfl (by kernel_rfl) (by repeat first | exact Sw.here | apply Sw.there) (by rfl) ?_
 refine aD' ?_
 refine nS (tS (tR (sQ (pM rfl) rfl (sL (lBa rfl rfl) rfl rfl ?_))))
 (refine seq_step (step_callv rfl rfl hch (List.Perm.refl _) rfl) rfl ?_; rintro _ ⟨v, G7, outs, rfl, hle7, rfl, cells7, F7, rfl, hs7, hn7⟩; have hl7 := hs7.R.len; have ho7 := hs7.R.one)
 refine sS rfl rfl rfl hl7 ho7 rfl ?_ (hu := by exact upd_all hl7.symm)
 refine sD (nS (tT (rF1 (rC rfl (load_a rfl rfl (at_blk_all (by repeat first | exact mH | apply mT)) hl7)) ?_)))
 (rw [mMap]; exact ⟨rfl, cells7, F7, rfl, hs7, hn7⟩)
theorem own1_fn (G : IM) (cells : List Value) (hl : cells.length = 9) (hone : cells.all (·.oneCell') = true) : Fn Tryz.prog 93 [.agg ⟨cells⟩] [] G (Val (.agg ⟨cells⟩) G) := by
 refine fn_enter Tryz.func93 rfl Tryz.ntmps93 Tryz.results93 rfl ?_
 intro w0
 refine tS (tR ?_)
 refine sE (step_box_a rfl rfl) rfl (fun b3 => ?_)
 refine sE (step_alloc rfl) rfl (fun b4 => ?_)
 refine sD (nS (tS (tR (sL (load_a rfl rfl (at_blk_all (by repeat first | exact mH | apply mT)) (by assumption)) rfl rfl ?_))))
 refine sS rfl rfl rfl hl hone rfl ?_ (hu := by exact upd_all hl.symm)
 refine sD (nS (tT (rF1 (rC rfl (load_a rfl rfl (at_blk_all (by repeat first | exact mH | apply mT)) hl)) ?_)))
 exact ⟨rfl, rfl, rfl⟩
theorem mapOk_id : MapOk id (fun _ => True) 93 [] [] := fun t G0 G1 cells F _ hle hs hn =>
 (own1_fn G1 cells hs.R.len hs.R.one).mono fun G' v outs _ ⟨h1, h2, h3⟩ => ⟨h3, cells, F, h2, by rw [h1]; exact hs, hn⟩
theorem own_fn (t : Tm) (G : IM) (cells : List Value) (hts : t.small) (hr : RTm G t cells) : Fn Tryz.prog 55 [.agg ⟨cells⟩] [] G (ToTm t G) := by
 have hl := hr.len
 have hone := hr.one
 have hM := mapped_fn id (fun _ => True) 93 [] [] mapOk_id t G cells (mOk_true _ t) hts hr
 rw [mMap_id] at hM
 refine fn_enter Tryz.func55 rfl Tryz.ntmps55 Tryz.results55 rfl ?_
 intro w0
 refine tS (tR ?_)
 refine sE (step_box_a rfl rfl) rfl (fun b3 => ?_)
 refine sE (step_alloc rfl) rfl (fun b4 => ?_)
 refine sD (nS (tS (tR (sL (load_a rfl rfl (at_blk_all (by repeat first | exact mH | apply mT)) (by assumption)) rfl rfl ?_))))
 (refine seq_imm rfl hM rfl rfl (fun v G3 hle3 hh => ?_); obtain ⟨cells', F', rfl, hs', hnd'⟩ := hh; have hl' := hs'.R.len; have ho' := hs'.R.one)
 refine sS rfl rfl rfl hl' ho' rfl ?_ (hu := by exact upd_all hl'.symm)
 refine sD (nS (tT (rF1 (rC rfl (load_a rfl rfl (at_blk_all (by repeat first | exact mH | apply mT)) hl')) ?_)))
 exact ⟨rfl, cells', F', rfl, hs', hnd'⟩
theorem termValid_iff (t : Tm) : termValid t = true ↔ sShape 12 14 t 1 = true ∧ tmCount t ≤ 30 := by
 have := mScan_shape 30 12 14 t 1 0 (by omega)
 rw [termValid, this]
 constructor
 ·rintro ⟨a, b⟩; exact ⟨a, by omega⟩
 ·rintro ⟨a, b⟩; exact ⟨a, by omega⟩
theorem l2Shape_fn : ∀ (t : Tm) (d : Int) (G : IM) (cells : List Value), 0 ≤ d ∧ d ≤ 12 → RTm G t cells →
  Fn Tryz.prog 64 [.agg ⟨cells⟩, .int .i64 d] [] G (Val (.bool (sShape 12 14 t (13 - d))) G) := by
 refine Tm.ind fun k nm num ty fr lb ks ih d G cells hd hr => ?_
 have hr0 := hr
 have hne := fun h : k ≠ 14 => @tmNode_ne k nm num ty fr lb ks.length h
 have har := fun h : tmNode k nm num ty fr lb ks.length = true => (tmNode_iff.1 h).1
 obtain ⟨R, hR⟩ : ∃ R, tmNode k nm num ty fr lb ks.length = R := ⟨_, rfl⟩
 rw [hR] at hne har
 have hl2 := l2Own_fn k nm num ty fr lb ks G cells hr0 R
 have hk1 := l2Kids_fn k G
 obtain ⟨tk, tks⟩ := ty
 obtain ⟨fk, fks⟩ := fr
 obtain ⟨pt, ct, pf, cf, p, c, es, rfl, hk, hnum, hlb, hty, hfr, hsl, hkl⟩ := hr.open9
 have hn := hsl.le
 clear hr hr0
 refine fn_enter Tryz.func64 rfl Tryz.ntmps64 Tryz.results64 rfl ?_
 intro w0
 refine tS (tR ?_)
 refine sE (step_box_a rfl rfl) rfl (fun b3 => ?_)
 refine sQ (pA rfl) rfl (sD (nS (tS (tS (tri_draw mixed rfl ?_)))))
 refine any_pure (i := 0) (l' := [tt,ff,ff,ff,ff,ff,ff,ff,ff,ff,ff,ff,ff,ff,ff,ff,ff,ff,ff,ff,ff]) rfl npI (pM rfl) rfl (by kernel_rfl) rfl rfl ?_
 refine any_bool (i := 1) (l' := [tt,tt,ff,ff,ff,ff,ff,ff,ff,ff,ff,ff,ff,ff,ff,ff,ff,ff,ff,ff,ff]) rfl npI (pure_lss rfl rfl) rfl (by kernel_rfl) rfl rfl (fun h11 => ?_) (fun h11 => ?_)
 refine aP 2 rfl (pM rfl) rfl ?_
 refine aK' 3 rfl rfl rfl ?_
 refine aK' 4 rfl rfl rfl ?_
 refine aK' 6 rfl rfl rfl ?_
 refine aK' 7 rfl rfl rfl ?_
 refine aK' 8 rfl rfl rfl ?_
 refine aK' 5 rfl rfl rfl ?_
 refine aK' 9 rfl rfl rfl ?_
 refine aP 10 rfl (pPt rfl rfl) rfl ?_
 refine aP 11 rfl (pM rfl) rfl ?_
 refine aK' 12 rfl rfl rfl ?_
 refine aK' 13 rfl rfl rfl ?_
 refine aK' 14 rfl rfl rfl ?_
 refine aP 15 rfl (pPt rfl rfl) rfl ?_
 refine aP 16 rfl (pM rfl) rfl ?_
 refine aK' 17 rfl rfl rfl ?_
 refine aK' 18 rfl rfl rfl ?_
 refine aK' 19 rfl rfl rfl ?_
 refine aP 20 rfl (pPt rfl rfl) rfl ?_
 refine aD' ?_
 refine nS (cT rfl ?_)
 refine tS (tR (sQ (pA rfl) rfl (sD (nS (tT (rS ?_))))))
 refine rF1 (rT rfl) ?_
 (rw [sShape_no (by rw [hR]; first | omega | exact .inr (.inr (by assumption)) | exact .inr (.inr (by cases R with | false => rfl | true => exact absurd (har rfl) (by omega))))]; exact ⟨rfl, rfl, rfl⟩)
 refine aP 2 rfl (pM rfl) rfl ?_
 refine aP 3 rfl (pF0 rfl) rfl ?_
 refine aL 4 rfl (lBs rfl rfl) rfl ?_
 refine aP 6 rfl (pF0 rfl) rfl ?_
 refine aL 7 rfl (lBs rfl rfl) rfl ?_
 refine aP 8 rfl (pLn rfl rfl) rfl ?_
 refine aO' 5 ?_
 refine one_val rfl rfl (hk1) rfl rfl rfl ?_
 refine any_bool (i := 9) (l' := [tt,tt,tt,tt,tt,tt,tt,tt,tt,tt,ff,ff,ff,ff,ff,ff,ff,ff,ff,ff,ff]) rfl npI (pure_neq rfl rfl) rfl (by kernel_rfl) rfl rfl (fun h51 => ?_) (fun h51 => ?_)
 refine aP 10 rfl (pPf rfl rfl) rfl ?_
 refine aP 11 rfl (pM rfl) rfl ?_
 refine aK' 12 rfl rfl rfl ?_
 refine aK' 13 rfl rfl rfl ?_
 refine aK' 14 rfl rfl rfl ?_
 refine aP 15 rfl (pPt rfl rfl) rfl ?_
 refine aP 16 rfl (pM rfl) rfl ?_
 refine aK' 17 rfl rfl rfl ?_
 refine aK' 18 rfl rfl rfl ?_
 refine aK' 19 rfl rfl rfl ?_
 refine aP 20 rfl (pPt rfl rfl) rfl ?_
 refine aD' ?_
 refine nS (cT rfl ?_)
 refine tS (tR (sQ (pA rfl) rfl (sD (nS (tT (rS ?_))))))
 refine rF1 (rT rfl) ?_
 (rw [sShape_no (by rw [hR]; first | omega | exact .inr (.inr (by assumption)) | exact .inr (.inr (by cases R with | false => rfl | true => exact absurd (har rfl) (by omega))))]; exact ⟨rfl, rfl, rfl⟩)
 refine aP 10 rfl (pPf rfl rfl) rfl ?_
 refine aP 11 rfl (pM rfl) rfl ?_
 refine aP 12 rfl (pF0 rfl) rfl ?_
 refine aL 13 rfl (lBs rfl rfl) rfl ?_
 refine any_bool (i := 14) (l' := [tt,tt,tt,tt,tt,tt,tt,tt,tt,tt,tt,tt,tt,tt,tt,ff,ff,ff,ff,ff,ff]) rfl npI (pE rfl rfl) rfl (by kernel_rfl) rfl rfl (fun h79 => ?_) (fun h79 => ?_)
 refine aP 15 rfl (pPf rfl rfl) rfl ?_
 refine aP 16 rfl (pM rfl) rfl ?_
 refine aK' 17 rfl rfl rfl ?_
 refine aK' 18 rfl rfl rfl ?_
 refine aK' 19 rfl rfl rfl ?_
 refine aP 20 rfl (pPt rfl rfl) rfl ?_
 refine aD' ?_
 refine nS (cT rfl ?_)
 refine tS (tR (sQ (pA rfl) rfl (sD (nS (tT (rS ?_))))))
 refine rF1 (rT rfl) ?_
 (rw [sShape_no (by rw [hR]; first | omega | exact .inr (.inr (by assumption)) | exact .inr (.inr (by cases R with | false => rfl | true => exact absurd (har rfl) (by omega))))]; exact ⟨rfl, rfl, rfl⟩)
 refine aP 15 rfl (pPf rfl rfl) rfl ?_
 refine aP 16 rfl (pM rfl) rfl ?_
 refine aL 17 rfl (lBa rfl rfl) rfl ?_
 refine aO' 18 ?_
 refine one_valb rfl rfl (hl2 (hne (by omega) (by omega))) rfl rfl rfl (fun h102 => ?_) (fun h102 => ?_)
 refine aP 19 rfl (pNt rfl) rfl ?_
 refine aP 20 rfl (pPf rfl rfl) rfl ?_
 refine aD' ?_
 refine nS (cF rfl ?_)
 refine tK (nS (tS (tS (tR (sQ (pA rfl) rfl (sD ?_))))))
 refine nS (tri_block ?_)
 (refine tri_loopN (fun (i : Nat) => ⟨[(5, .int .i64 i), (2, .pointer (some ⟨b3, 0, none⟩)), (1, .int .i64 d)], [.blk b3 [.int .i64 k, .string nm, .int .i64 num, .int .i64 tk, .slice pt tks.length ct, .int .i64 fk, .slice pf fks.length cf, .int .i64 lb, .slice p ks.length c]], G⟩) (fun i => i ≤ ks.length ∧ ∀ j (h : j < ks.length), j < i → sShape 12 14 ks[j] (13 - d + 1) = true) (fun i => ks.length - i) 0 ?_ ?_ ?_)
 exact sMk
 exact ⟨by omega, by omega⟩
 (rintro i ⟨hi, hf⟩)
 refine tS (tS (tR (sQ (pM rfl) rfl (sQ (pF0 rfl) rfl (sL (lBs rfl rfl) rfl rfl ?_)))))
 refine sQ (pLn rfl rfl) rfl (sB (pure_lss rfl rfl) rfl rfl (fun h128 => ?_) (fun h128 => ?_))
 refine sD (nS (cT rfl ?_))
 refine tK (nS (tS (tri_block (tS (tR (sQ (pF0 rfl) rfl ?_))))))
 refine sL (lBs rfl rfl) rfl rfl ?_
 refine sQ (pM rfl) rfl ?_
 (obtain ⟨b, o, e, rfl, hl, hat, hre, hgb⟩ := hsl.kidTm hkl (i := i) (by omega) (by omega); refine sP (pIN rfl rfl rfl (by omega)) rfl rfl ?_)
 refine sL (load_a rfl rfl (hat _) hl) rfl rfl ?_
 refine sQ (pM rfl) rfl (sP (pure_sub rfl rfl (by omega) (by omega)) rfl rfl ?_)
 (have hih := ih ks[i] (List.getElem_mem (by omega)) (d - 1) G _ (by omega) hre; rw [show 13 - (d - 1) = 13 - d + 1 by omega] at hih; refine seq_valb rfl hih rfl rfl (fun h145 => ?_) (fun h145 => ?_))
 refine sQ (pNt rfl) rfl (sD (nS (cF rfl ?_)))
 refine tK (nrm_block (nS (tR (sQ (pM rfl) rfl (sP (pure_add rfl rfl (by omega) (by omega)) rfl rfl ?_)))))
 refine sQ (pA rfl) rfl (sD (nrm_loopN (i + 1) ?_ ?_ ?_))
 exact sMk
 exact ⟨by omega, fun j hj hji => by (by_cases he : j = i; (subst he; assumption); exact hf j hj (by omega))⟩
 omega
 refine sQ (pNf rfl) rfl (sD (nS (cT rfl ?_)))
 refine tS (tR (sQ (pA rfl) rfl (sD (nS (tT (rB ?_))))))
 refine rS (ret_loopN (rB (rS (rF1 (rT rfl) ?_))))
 (rw [sShape_go (by omega) (by omega) (hR.trans (by assumption)), sShapeL_f (i := i) (by omega) (by assumption)]; exact ⟨rfl, rfl, rfl⟩)
 refine sD (nS (cF rfl ?_))
 refine tri_exit ?_
 refine ext_seq ?_
 refine ext_loopN ?_
 refine ext_block_eq ?_
 refine nS (tS (tR (sQ (pA rfl) rfl (sD (nS (tT ?_))))))
 refine rF1 (rT rfl) ?_
 (rw [sShape_go (by omega) (by omega) (hR.trans (by assumption)), (sShapeL_iff 12 14 ks _).2 (fun j hj => hf j hj (by omega))]; exact ⟨rfl, rfl, rfl⟩)
 refine aP 19 rfl (pNf rfl) rfl ?_
 refine aP 20 rfl (pPf rfl rfl) rfl ?_
 refine aD' ?_
 refine nS (cT rfl ?_)
 refine tS (tR (sQ (pA rfl) rfl (sD (nS (tT (rS ?_))))))
 refine rF1 (rT rfl) ?_
 (rw [sShape_no (by rw [hR]; first | omega | exact .inr (.inr (by assumption)) | exact .inr (.inr (by cases R with | false => rfl | true => exact absurd (har rfl) (by omega))))]; exact ⟨rfl, rfl, rfl⟩)
theorem sTermValid_fn (t : Tm) (G : IM) (cells : List Value) (hcnt : tmCount t ≤ 4294967296) (hr : RTm G t cells) :
  Fn Tryz.prog 38 [.agg ⟨cells⟩] [] G (Val (.bool (termValid t)) G) := by
 have hl := hr.len
 have hv := l2Shape_fn t 12 G cells (by omega) hr
 have hc := fun h => l2Count_fn 12 14 t 12 G cells (by omega) h hcnt hr
 have hi := termValid_iff t
 obtain ⟨R, hR⟩ : ∃ R, termValid t = R := ⟨_, rfl⟩
 rw [hR] at hi ⊢
 refine fn_enter Tryz.func38 rfl Tryz.ntmps38 Tryz.results38 rfl ?_
 intro w0
 refine tS (tR ?_)
 refine sE (step_box_a rfl rfl) rfl (fun b3 => ?_)
 refine sQ (pA rfl) rfl (sD (nS (tS (tR (sL (load_a rfl rfl (at_blk_all (by repeat first | exact mH | apply mT)) (by assumption)) rfl rfl ?_)))))
 refine seq_valb rfl (hv) rfl rfl (fun h10 => ?_) (fun h10 => ?_)
 refine sQ (pM rfl) rfl (sL (load_a rfl rfl (at_blk_all (by repeat first | exact mH | apply mT)) (by assumption)) rfl rfl ?_)
 refine seq_val rfl (hc (by assumption)) rfl rfl ?_
 refine sB (pure_leq rfl rfl) rfl rfl (fun h14 => ?_) (fun h14 => ?_)
 refine sQ (pPt rfl rfl) rfl (sQ (pA rfl) rfl (sD (nS (tT (rF1 (rT rfl) ?_)))))
 exact ⟨rfl, by rw [hi.2 ⟨by assumption, by omega⟩], rfl⟩
 refine sQ (pPt rfl rfl) rfl (sQ (pA rfl) rfl (sD (nS (tT (rF1 (rT rfl) ?_)))))
 exact ⟨rfl, by (cases R with | false => rfl | true => (exfalso; have h0 := hi.1 rfl; first | omega | simp_all)), rfl⟩
 refine sQ (pM rfl) rfl (sK rfl rfl (sK rfl rfl (sK rfl rfl (sQ (pPf rfl rfl) rfl (sQ (pA rfl) rfl (sD ?_))))))
 refine nS (tT (rF1 (rT rfl) ?_))
 exact ⟨rfl, by (cases R with | false => rfl | true => (exfalso; have h0 := hi.1 rfl; first | omega | simp_all)), rfl⟩
def tm0 : Tm := .mk 0 ⟨⟨[]⟩⟩ 0 (.mk 0 []) (.mk 0 []) 0 []
theorem STm.zero (G : IM) : STm G tm0 z9 [] := by
 simp only [tm0, STm, STy, STyL, STmL, z9]
 refine ⟨[.int .i64 0, .slice none 0 0], [.int .i64 0, .slice none 0 0], none, 0, [], [], [], [], rfl, ⟨by omega, by omega⟩, ⟨by omega, by omega⟩, ⟨by omega, by omega⟩, ?_, ?_, SlE.nil _ _, ⟨rfl, rfl⟩, rfl, by simp [vfp]⟩
 ·exact ⟨none, 0, [], [], rfl, ⟨by omega, by omega⟩, SlE.nil _ _, ⟨rfl, rfl⟩, rfl, by simp [vfp]⟩
 ·exact ⟨none, 0, [], [], rfl, ⟨by omega, by omega⟩, SlE.nil _ _, ⟨rfl, rfl⟩, rfl, by simp [vfp]⟩
/-- TermAt in plain words. -/
def mTermAt (t : Tm) (path : List Int) : Tm × Bool := if castValid t = true then (match tAt t path with | some x => (x, true) | none => (tm0, false)) else (tm0, false)
/-- A term and a truth value, the term in memory of its own. -/
def TbP (r : Tm × Bool) (G : IM) : IM → Value → List Ent → Prop := Imm fun G' v => ∃ cells F, v = .tuple ⟨[.agg ⟨cells⟩, .bool r.2]⟩ ∧ STm (Dif G' G) r.1 cells F ∧ F.Nodup
section rlaws
variable {P : Program} {Γ : Ctx} {env : Env} {hp : List Ent} {G : IM} {ty : TypeId}
theorem pure_slice_to {x y : Operand} {t el : TypeId} {i : TyR} {sz by' : Nat} {zs : List Value} [hI : TyI P t i] (hd' : i.desc = .slice el) [hE : TySz P el sz by' zs] {p : Option Addr} {n c l : Nat}
  (hx : evo env x = some (.slice p n c)) (hy : evo env y = some (.int .i64 (l : Int))) (hl : l ≤ c) :
  PureOp P Γ ⟨env, hp, G⟩ (.slice t x none (some y) none) ty (.slice p l c) := by
 refine ⟨fun a _ hs _ _ _ _ w => ?_⟩
 have hu := hI.und
 rw [hd'] at hu
 obtain ⟨d, hE⟩ := hE.ok
 obtain ⟨inf, z, t1, t2, t3, _⟩ := run_tyI (P := P) (t := el)
 have e1 : a.eval x = _ := hs.evo hx
 have e2 : a.eval y = _ := hs.evo hy
 have hb : ∀ code, (Instr.sliceBound (.int .i64 (l : Int)) c code).run P w = .ok l w := fun code => by
  unfold Instr.sliceBound
  simp only [asIntOf, Sem.run_bind, Sem.run_pure, Result.andThen_ok]
  rw [if_pos ⟨by omega, by omega⟩]
  simp
 simp only [execOp, Option.map, e1, e2, Instr.sliceAt, Sem.run_bind, run_underlying hu, Result.andThen_ok, Instr.slice, Instr.sliceBounds, Sem.run_pure, hb, t3]
 by_cases h : c = 0
 ·subst h; simp
 ·rw [if_neg h]; simp; cases p <;> simp [Addr.add]
end rlaws
def byts (bs : List UInt8) : List Value := bs.map fun b => .int .u8 (b.toNat : Int)
/-- The source: where it lies, and how many numbers were drawn. -/
def rd (br : Nat) (pb : Option Addr) (nb cb p : Nat) : Ent := .blk br [.slice pb nb cb, .int .i64 (p : Int)]
/-- What a draw of numbers leaves behind. -/
def Drew (br : Nat) (pb : Option Addr) (nb cb p B : Nat) (Φ : IM → Value → Prop) : IM → Value → List Ent → Prop := fun G' v outs => ∃ p', p ≤ p' ∧ p' ≤ p + B ∧ outs = [rd br pb nb cb p'] ∧ Φ G' v
structure cutK {ι : Type} (S : ι → Sy) (φ : ι → Prop) (e : Exit) (σ : Sy) : Prop where
 run : match e with
  | .normal => ∃ i, φ i ∧ Sub σ (S i)
  | _ => False
section cut
variable {P : Program} {Γ : Ctx} {K : Po} {σ : Sy} {ι : Type}
/-- All that comes behind a piece of code is walked once. -/
theorem tri_cut {c y : Code} (S : ι → Sy) (φ : ι → Prop) (h : Tri P Γ c (cutK S φ) σ) (k : ∀ i, φ i → Tri P Γ y K (S i)) : Tri P Γ c (seqK P Γ y K) σ := by
 refine tri_post h ?_
 rintro e σ ⟨hk⟩
 cases e with
 | normal => obtain ⟨i, hi, hs⟩ := hk; exact ⟨tri_sub hs (k i hi)⟩
 | _ => exact hk.elim
where
 tri_post {c : Code} {K K' : Po} {σ : Sy} (h : Tri P Γ c K σ) (hk : ∀ e σ, K e σ → K' e σ) : Tri P Γ c K' σ := tri_mono h hk
theorem nrm_cut {S : ι → Sy} {φ : ι → Prop} {σ : Sy} (i : ι) (hs : Sub σ (S i)) (h : φ i) : cutK S φ .normal σ := ⟨⟨i, h, hs⟩⟩
theorem np_cut {S : ι → Sy} {φ : ι → Prop} : noPanic (cutK S φ) := fun _ _ h => h.run
instance npC5 {S : ι → Sy} {φ : ι → Prop} : NpC (cutK S φ) := ⟨np_cut⟩
end cut
section take
variable {P : Program} {Γ : Ctx} {env : Env} {hp : List Ent} {G : IM} {K : Po} {ops : Array Oper} {rest : List Oper} {ty : TypeId} {pos : String} {af : Array Edge} {gd : Option (Nat × Bool)}
theorem seq_take {d : Nat} {f : FuncId} [hF : FunI P f] {xs : List Operand} {ats : Array TypeId} {vs : List Value} {ins rst : List Ent} {post : IM → Value → List Ent → Prop}
  (hx : evl env xs = some vs) (h : Fn P f vs ins G post) (hp' : hp.Perm (ins ++ rst)) (hw : wantG ops env gd = some true) (hd : Nat.blt d Γ.n = true)
  (k : ∀ v G' outs, IMle G G' → post G' v outs → TriL P Γ ops rest K ⟨(d, v) :: env, outs ++ rst, G'⟩) : TriL P Γ ops (⟨some d, .call ⟨.value (.func f), ⟨xs⟩, ats⟩, ty, pos, af, gd⟩ :: rest) K ⟨env, hp, G⟩ :=
 seq_step (step_call_own hx h hp' hd) hw (by rintro _ ⟨v, G', outs, rfl, hle, hq⟩; exact k v G' outs hle hq)
end take
theorem l1Any_fn (G : IM) : Fn Tryz.prog 144 [] [] G (Val (.agg ⟨[.int .i64 1, .slice none 0 0]⟩) G) := by
 refine fn_enter Tryz.func144 rfl Tryz.ntmps144 Tryz.results144 rfl ?_
 intro w0
 refine tS (tR ?_)
 refine sE (step_alloc rfl) rfl (fun b3 => ?_)
 refine sD (nS (tS (tR (sQ (pBd rfl rfl) rfl (sS' ?_)))))
 refine sD (nS (tT (rF1 (rC rfl (lBa rfl rfl)) ?_)))
 exact ⟨rfl, rfl, rfl⟩
/-- How big a drawn type is. -/
def dB : Nat → Nat
 | 0 => 0
 | d + 1 => 2 * dB d + 2
theorem RTyL.ty {G : IM} {k : Int} {ts : List Ty} {es : List (List Value)} {p : Option Addr} {n c : Nat} (h : RTyL G ts es) (hn : ts.length = n) (hs : Sl G p n c 2 es.flatten) (hk : I64 k) : RTy G (.mk k ts) [.int .i64 k, .slice p n c] := by
 subst hn
 simp only [RTy]
 exact ⟨p, c, es, rfl, hk, SlE.of hs h.len h.all (fun e he => (h.each e he).2), h⟩
theorem tyAny_r (G : IM) : RTy G tyAny [.int .i64 1, .slice none 0 0] := by
 simp only [tyAny, RTy]
 exact ⟨none, 0, [], rfl, ⟨by omega, by omega⟩, SlE.of (Sl.nil _ _) rfl (by simp) (by simp), by simp [RTyL]⟩
mutual
def mBare : Tm → Tm
 | .mk k nm num ty fr lb ks => if k = 13 ∨ k = 14 then (mBareL ks).headD tm0 else .mk k nm num (if k = 5 then tyAny else ty0) ty0 0 (mBareL ks)
def mBareL : List Tm → List Tm
 | [] => []
 | t :: ts => mBare t :: mBareL ts
end
/-- The change that is made at a node. -/
def bareG : Tm → Tm
 | .mk k nm num ty fr lb ks => if k = 13 ∨ k = 14 then ks.headD tm0 else if k = 5 then .mk k nm num tyAny fr lb ks else .mk k nm num ty fr lb ks
def bareQ : Tm → Prop
 | .mk k _ _ _ _ _ ks => k = 13 ∨ k = 14 → ks ≠ []
theorem tNone_eq {t : Ty} (h : tNone t = true) : t = ty0 := by
 obtain ⟨k, ks⟩ := t
 obtain ⟨h1, h2⟩ : (Ty.mk k ks).k = 0 ∧ (Ty.mk k ks).ks.length = 0 := of_decide_eq_true h
 simp only [Ty.k, Ty.ks] at h1 h2
 have h3 : ks = [] := List.length_eq_zero_iff.1 (by omega)
 rw [h3, ty0]
 congr
theorem sShape_go2 {D N : Int} {k : Int} {nm : ByteArray} {num : Int} {ty fr : Ty} {lb : Int} {ks : List Tm} {d : Int} (h : sShape D N (.mk k nm num ty fr lb ks) d = true) : d ≤ D ∧ k ≠ N ∧ tmNode k nm num ty fr lb ks.length = true ∧ sShapeL D N ks (d + 1) = true := by
 rw [sShape] at h
 simp only [Bool.and_eq_true, decide_eq_true_eq] at h
 exact ⟨h.1.1.1, h.1.1.2, h.1.2, h.2⟩
section slaws
variable {P : Program} {Γ : Ctx} {env : Env} {hp : List Ent} {G : IM} {ty : TypeId}
end slaws
theorem ty0_r (G : IM) : RTy G ty0 [.int .i64 0, .slice none 0 0] := by
 simp only [ty0, RTy]
 exact ⟨none, 0, [], rfl, ⟨by omega, by omega⟩, SlE.of (Sl.nil _ _) rfl (by simp) (by simp), by simp [RTyL]⟩
theorem tmOps_le (k : Int) : tmOps k ≤ 3 := by
 unfold tmOps; repeat (split; omega)
 omega
theorem l2Num_fn (n : Int) (G : IM) : Fn Tryz.prog 178 [.int .i64 n] [] G (Val (.agg ⟨[.int .i64 2, .string ⟨⟨[]⟩⟩, .int .i64 n, .int .i64 0, .slice none 0 0, .int .i64 0, .slice none 0 0, .int .i64 0, .slice none 0 0]⟩) G) := by
 refine fn_enter Tryz.func178 rfl Tryz.ntmps178 Tryz.results178 rfl ?_
 intro w0
 refine tS (tR ?_)
 refine sE (step_alloc rfl) rfl (fun b3 => ?_)
 refine sD (nS (tS (tR (sQ (pM rfl) rfl (sQ (pBd rfl rfl) rfl (sS' ?_))))))
 refine sD (nS (tT (rF1 (rC rfl (lBa rfl rfl)) ?_)))
 exact ⟨rfl, rfl, rfl⟩
/-- How big a drawn term is. -/
def tB : Nat → Nat
 | 0 => 3
 | d + 1 => 3 * tB d + 20
/-- A new source. -/
def Opened (G : IM) : IM → Value → List Ent → Prop := fun G' v outs => G' = G ∧ ∃ br pb nb cb bs, v = .pointer (some ⟨br, 0, none⟩) ∧ outs = [rd br pb nb cb 0] ∧ nb ≤ 2000 ∧ Sl G pb nb cb 1 (byts bs)
theorem l3Int_fn (G : IM) : Fn Tryz.prog 99 [] [] G (Val (.agg ⟨[.int .i64 2, .slice none 0 0]⟩) G) := by
 refine fn_enter Tryz.func99 rfl Tryz.ntmps99 Tryz.results99 rfl ?_
 intro w0
 refine tS (tR ?_)
 refine sE (step_alloc rfl) rfl (fun b3 => ?_)
 refine sD (nS (tS (tR (sQ (pBd rfl rfl) rfl (sS' ?_)))))
 refine sD (nS (tT (rF1 (rC rfl (lBa rfl rfl)) ?_)))
 exact ⟨rfl, rfl, rfl⟩
theorem l3Bool_fn (G : IM) : Fn Tryz.prog 100 [] [] G (Val (.agg ⟨[.int .i64 3, .slice none 0 0]⟩) G) := by
 refine fn_enter Tryz.func100 rfl Tryz.ntmps100 Tryz.results100 rfl ?_
 intro w0
 refine tS (tR ?_)
 refine sE (step_alloc rfl) rfl (fun b3 => ?_)
 refine sD (nS (tS (tR (sQ (pBd rfl rfl) rfl (sS' ?_)))))
 refine sD (nS (tT (rF1 (rC rfl (lBa rfl rfl)) ?_)))
 exact ⟨rfl, rfl, rfl⟩
theorem l2Node_fn (G : IM) (k : Int) (p : Option Addr) (n c : Nat) : Fn Tryz.prog 177 [.int .i64 k, .slice p n c] [] G (Val (.agg ⟨[.int .i64 k, .string ⟨⟨[]⟩⟩, .int .i64 0, .int .i64 0, .slice none 0 0, .int .i64 0, .slice none 0 0, .int .i64 0, .slice p n c]⟩) G) := by
 refine fn_enter Tryz.func177 rfl Tryz.ntmps177 Tryz.results177 rfl ?_
 intro w0
 refine tS (tR ?_)
 refine sE (step_alloc rfl) rfl (fun b3 => ?_)
 refine sD (nS (tS (tR (sQ (pM rfl) rfl (sQ (pM rfl) rfl (sQ (pBd rfl rfl) rfl ?_))))))
 refine sS' ?_
 refine sD (nS (tT (rF1 (rC rfl (lBa rfl rfl)) ?_)))
 exact ⟨rfl, rfl, rfl⟩
theorem tyLeaf_r (G : IM) {k : Int} (hk : I64 k) : RTy G (.mk k []) [.int .i64 k, .slice none 0 0] := by
 simp only [RTy]
 exact ⟨none, 0, [], rfl, hk, SlE.of (Sl.nil _ _) rfl (by simp) (by simp), by simp [RTyL]⟩
theorem szLeaf (k : Int) : szTy (.mk k []) = 0 := rfl
/-- A type and a truth value. -/
def TyB (B : Int) (G : IM) : IM → Value → List Ent → Prop := Imm fun G' v => ∃ t cells b, v = .tuple ⟨[.agg ⟨cells⟩, .bool b]⟩ ∧ RTy G' t cells ∧ tAr t ∧ szTy t ≤ B
theorem tAr_two {k : Int} {a b : Ty} (hk : k = 4 ∨ k = 5) (ha : tAr a) (hb : tAr b) : tAr (.mk k [a, b]) := by
 rw [tAr]
 exact ⟨fun _ => rfl, fun h4 h5 => by omega, by simp [tArL, ha, hb]⟩
theorem tAr_leaf {k : Int} (h4 : k ≠ 4) (h5 : k ≠ 5) : tAr (.mk k []) := (tAh_leaf 0 h4 h5).ar
theorem tAr.kid {k : Int} {ks : List Ty} (h : tAr (.mk k ks)) : ∀ t ∈ ks, tAr t := by
 rw [tAr] at h; exact tArL_mem.1 h.2.2
theorem tAr.two {k : Int} {ks : List Ty} (h : tAr (.mk k ks)) : ks.length ≤ 2 := by
 rw [tAr] at h
 have h1 := h.1
 have h2 := h.2.1
 omega
/-- Two types and a truth value. -/
def TyTyB (B : Int) (G : IM) : IM → Value → List Ent → Prop := Imm fun G' v => ∃ a ca b cb x, v = .tuple ⟨[.agg ⟨ca⟩, .agg ⟨cb⟩, .bool x]⟩ ∧ RTy G' a ca ∧ tAr a ∧ szTy a ≤ B ∧ RTy G' b cb ∧ tAr b ∧ szTy b ≤ B
/-- A type. -/
def TyP (B : Int) (Q : Ty → Prop) (G : IM) : IM → Value → List Ent → Prop := Imm fun G' v => ∃ t cells, v = .agg ⟨cells⟩ ∧ RTy G' t cells ∧ tAr t ∧ szTy t ≤ B ∧ Q t
theorem tAr_like {k : Int} {ks us : List Ty} (h : tAr (.mk k ks)) (hl : us.length = ks.length) (hu : ∀ u ∈ us, tAr u) : tAr (.mk k us) := by
 rw [tAr] at h ⊢
 exact ⟨fun hk => by rw [hl]; exact h.1 hk, fun a b => by rw [hl]; exact h.2.1 a b, tArL_mem.2 hu⟩
theorem forall_snoc {P : Ty → Prop} {us : List Ty} {u : Ty} (h : ∀ x ∈ us, P x) (hu : P u) : ∀ x ∈ us ++ [u], P x := by
 simp only [List.forall_mem_append, List.forall_mem_singleton]; exact ⟨h, hu⟩
theorem l1ConsistentA_fn : ∀ (t t' : Ty) (G : IM) (cells cells' : List Value), tAr t → tAr t' → RTy G t cells → RTy G t' cells' →
  Fn Tryz.prog 129 [.agg ⟨cells⟩, .agg ⟨cells'⟩] [] G (Val (.bool (tCons t t')) G) := by
 refine Ty.ind fun k ks ih t' G cells cells' ha ha' hr hr' => ?_
 obtain ⟨k', ks'⟩ := t'
 obtain ⟨p, c, es, rfl, hk, hsl, hkl⟩ := hr.open
 obtain ⟨p', c', es', rfl, hk', hsl', hkl'⟩ := hr'.open
 simp only [Ty.k, Ty.ks] at hk hsl hkl hk' hsl' hkl' ⊢
 have hn := hsl.le
 have hn' := hsl'.le
 have hv2 := ha.kid
 have hv2' := ha'.kid
 rw [tAr] at ha ha'
 have hle : k = k' → ks.length = ks'.length := by
  rintro rfl
  have h1 := ha.1
  have h2 := ha.2.1
  have h3 := ha'.1
  have h4 := ha'.2.1
  omega
 refine fn_enter Tryz.func129 rfl Tryz.ntmps129 Tryz.results129 rfl ?_
 intro w0
 refine tS (tR ?_)
 refine sE (step_box_a rfl rfl) rfl (fun b3 => ?_)
 refine sE (step_box_a rfl rfl) rfl (fun b4 => ?_)
 refine sQ (pA rfl) rfl (sD (nS (tS (tS (tR (sQ (pF0 rfl) rfl ?_))))))
 refine sL (lBs rfl rfl) rfl rfl ?_
 refine sB (pE rfl rfl) rfl rfl (fun h13 => ?_) (fun h13 => ?_)
 refine sQ (pM rfl) rfl (sK rfl rfl (sK rfl rfl (sK rfl rfl (sQ (pPt rfl rfl) rfl (sD (nS ?_))))))
 refine cT rfl ?_
 refine tS (tR (sQ (pA rfl) rfl (sD (nS (tT (rS ?_))))))
 refine rF1 (rT rfl) ?_
 (rw [tCons_any (by omega)]; exact ⟨rfl, rfl, rfl⟩)
 refine sQ (pM rfl) rfl (sQ (pF0 rfl) rfl (sL (lBs rfl rfl) rfl rfl ?_))
 refine sB (pE rfl rfl) rfl rfl (fun h34 => ?_) (fun h34 => ?_)
 refine sQ (pPf rfl rfl) rfl (sD (nS (cT rfl ?_)))
 refine tS (tR (sQ (pA rfl) rfl (sD (nS (tT (rS ?_))))))
 refine rF1 (rT rfl) ?_
 (rw [tCons_any (by omega)]; exact ⟨rfl, rfl, rfl⟩)
 refine sQ (pPf rfl rfl) rfl (sD (nS (cF rfl ?_)))
 refine tK (nS (tS (tS (tR (sQ (pF0 rfl) rfl (sL (lBs rfl rfl) rfl rfl ?_))))))
 refine sQ (pF0 rfl) rfl (sL (lBs rfl rfl) rfl rfl ?_)
 refine sB (pure_neq rfl rfl) rfl rfl (fun h61 => ?_) (fun h61 => ?_)
 refine sD (nS (cT rfl ?_))
 refine tS (tR (sQ (pA rfl) rfl (sD (nS (tT (rS ?_))))))
 refine rF1 (rT rfl) ?_
 (rw [tCons_ne (by omega) (by omega) (by omega)]; exact ⟨rfl, rfl, rfl⟩)
 refine sD (nS (cF rfl ?_))
 refine tK (nS (tS (tS (tR (sQ (pA rfl) rfl (sD ?_))))))
 refine nS (tri_block ?_)
 (have hll : ks.length = ks'.length := hle (by omega); refine tri_loopN (fun (i : Nat) => ⟨[(5, .int .i64 i), (3, .pointer (some ⟨b4, 0, none⟩)), (2, .pointer (some ⟨b3, 0, none⟩))], [.blk b3 [.int .i64 k, .slice p ks.length c], .blk b4 [.int .i64 k', .slice p' ks'.length c']], G⟩) (fun i => i ≤ ks.length ∧ ∀ j (h : j < ks.length) (h' : j < ks'.length), j < i → tCons ks[j] ks'[j] = true) (fun i => ks.length - i) 0 ?_ ?_ ?_)
 exact sMk
 exact ⟨by omega, by omega⟩
 (rintro i ⟨hi, hf⟩)
 refine tS (tS (tR (sQ (pM rfl) rfl (sQ (pF0 rfl) rfl (sL (lBs rfl rfl) rfl rfl ?_)))))
 refine sQ (pLn rfl rfl) rfl (sB (pure_lss rfl rfl) rfl rfl (fun h97 => ?_) (fun h97 => ?_))
 refine sD (nS (cT rfl ?_))
 refine tK (nS (tS (tri_block (tS ?_))))
 (obtain ⟨b, o, p2, c2, rfl, hat, hre, hgb⟩ := hsl.kidTy hkl (i := i) (by omega) (by omega); obtain ⟨b', o', p2', c2', rfl, hat', hre', hgb'⟩ := hsl'.kidTy hkl' (i := i) (by omega) (by omega); refine tri_draw mixed rfl ?_)
 refine any_pure (i := 0) (l' := [tt,ff,ff,ff,ff,ff,ff,ff,ff,ff,ff,ff]) rfl npI (pF0 rfl) rfl (by kernel_rfl) rfl rfl ?_
 refine aL 1 rfl (lBs rfl rfl) rfl ?_
 refine aP 2 rfl (pM rfl) rfl ?_
 refine aP 3 rfl (pIN rfl rfl rfl (by omega)) rfl ?_
 refine aL 4 rfl (load_a rfl rfl (hat _) rfl) rfl ?_
 refine aP 5 rfl (pF0 rfl) rfl ?_
 refine aL 6 rfl (lBs rfl rfl) rfl ?_
 refine aP 7 rfl (pM rfl) rfl ?_
 refine aP 8 rfl (pIN rfl rfl rfl (by omega)) rfl ?_
 refine aL 9 rfl (load_a rfl rfl (hat' _) rfl) rfl ?_
 refine aO' 10 ?_
 refine one_valb rfl rfl (ih ks[i] (List.getElem_mem (by omega)) ks'[i] G _ _ (hv2 _ (List.getElem_mem (by omega))) (hv2' _ (List.getElem_mem (by omega))) hre hre') rfl rfl rfl (fun h118 => ?_) (fun h118 => ?_)
 refine aP 11 rfl (pNt rfl) rfl ?_
 refine aD' ?_
 refine nS (cF rfl ?_)
 refine tK (nrm_block (nS (tR (sQ (pM rfl) rfl (sP (pure_add rfl rfl (by omega) (by omega)) rfl rfl ?_)))))
 refine sQ (pA rfl) rfl (sD (nrm_loopN (i + 1) ?_ ?_ ?_))
 exact sMk
 exact ⟨by omega, fun j hj hj' hji => by (by_cases he : j = i; (subst he; assumption); exact hf j hj hj' (by omega))⟩
 omega
 refine aP 11 rfl (pNf rfl) rfl ?_
 refine aD' ?_
 refine nS (cT rfl ?_)
 refine tS (tR (sQ (pA rfl) rfl (sD (nS (tT (rB ?_))))))
 refine rS (ret_loopN (rB (rS (rF1 (rT rfl) ?_))))
 (rw [tCons_eq (by omega) (by omega) (by omega), tConsL_f (i := i) (by omega) (by omega) (by assumption)]; exact ⟨rfl, rfl, rfl⟩)
 refine sD (nS (cF rfl ?_))
 refine tri_exit ?_
 refine ext_seq ?_
 refine ext_loopN ?_
 refine ext_block_eq ?_
 refine nS (tS (tR (sQ (pA rfl) rfl (sD (nS (tT ?_))))))
 refine rF1 (rT rfl) ?_
 (rw [tCons_eq (by omega) (by omega) (by omega), (tConsL_iff ks _).2 ⟨hll, fun j hj hj' => hf j hj hj' (by omega)⟩]; exact ⟨rfl, rfl, rfl⟩)
theorem At.sub {hp : List Ent} {G : IM} {b o j : Nat} {vs : List Value} {v : Value} (h : At hp G b o vs) (hj : vs[j]? = some v) : At hp G b (o + j) [v] := by
 have key : ∀ {cs : List Value}, (∀ i u, vs[i]? = some u → cs[o + i]? = some u) → ∀ i u, [v][i]? = some u → cs[o + j + i]? = some u := by
  intro cs hc i u hu
  cases i with
  | zero => simp at hu; subst hu; simpa using hc j v hj
  | succ i => simp at hu
 rcases h with ⟨cs, hm, hv⟩ | ⟨n, c, el, sz, cs, hm, hv⟩ | ⟨full, hg, hv⟩
 ·exact .inl ⟨cs, hm, key hv⟩
 ·exact .inr (.inl ⟨n, c, el, sz, cs, hm, key hv⟩)
 ·exact .inr (.inr ⟨full, hg, key hv⟩)
/-- A marked term in memory that no longer changes. -/
def HTm (G : IM) (t : Tm) (k : Int) (cells : List Value) : Prop := ∃ pt ct et pf cf ef p c es,
 cells = [.int .i64 t.k, .string t.nm, .int .i64 t.num, .int .i64 t.ty.k, .slice pt t.ty.ks.length ct, .int .i64 t.fr.k, .slice pf t.fr.ks.length cf, .int .i64 t.lb, .slice p t.ks.length c] ∧
 SlE G pt t.ty.ks.length ct 2 et ∧ RTyL G (mkTyL t.ty.ks k) et ∧ SlE G pf t.fr.ks.length cf 2 ef ∧ RTyL G (mkTyL t.fr.ks (k + cntTyL t.ty.ks)) ef ∧ SlE G p t.ks.length c 9 es ∧ RTmL G (mkTmL t.ks (k + cntTyL t.ty.ks + cntTyL t.fr.ks)) es
/-- A binding in memory. -/
def RBd (G : IM) (e : List Value) : Prop := ∃ nm t q d, e = [.string nm, .int .i64 t.k, .slice q t.ks.length d] ∧ RTy G t [.int .i64 t.k, .slice q t.ks.length d] ∧ tAr t ∧ szTy t ≤ 30
/-- A context in memory. -/
def GCx (G : IM) (p : Option Addr) (n c : Nat) : Prop := ∃ es, es.length = n ∧ SlE G p n c 3 es ∧ ∀ e ∈ es, RBd G e
theorem At.drop {hp : List Ent} {G : IM} {b o : Nat} {v : Value} {vs : List Value} (h : At hp G b o (v :: vs)) : At hp G b (o + 1) vs := by
 have key : ∀ {cs : List Value}, (∀ i u, (v :: vs)[i]? = some u → cs[o + i]? = some u) → ∀ i u, vs[i]? = some u → cs[o + 1 + i]? = some u := by
  intro cs hc i u hu
  have := hc (i + 1) u (by simpa using hu)
  rwa [show o + 1 + i = o + (i + 1) by omega]
 rcases h with ⟨cs, hm, hv⟩ | ⟨n, c, el, sz, cs, hm, hv⟩ | ⟨full, hg, hv⟩
 ·exact .inl ⟨cs, hm, key hv⟩
 ·exact .inr (.inl ⟨n, c, el, sz, cs, hm, key hv⟩)
 ·exact .inr (.inr ⟨full, hg, key hv⟩)
theorem ctxValid_fn (G : IM) : Fn Tryz.prog 61 [.slice none 0 0] [] G (Val (.bool true) G) := by
 refine fn_enter Tryz.func61 rfl Tryz.ntmps61 Tryz.results61 rfl ?_
 intro w0
 refine tS ?_
 refine tR ?_
 refine sQ (pA rfl) rfl ?_
 refine sD ?_
 refine nS ?_
 refine tS ?_
 refine tS ?_
 refine tR ?_
 refine sQ (pA rfl) rfl ?_
 refine sD ?_
 refine nS ?_
 refine tri_block ?_
 (refine tri_loopN (fun (_ : Nat) => ⟨[(3, .int .i64 0), (0, .slice none 0 0)], [], G⟩) (fun _ => True) (fun i => i) 0 ?_ ?_ ?_)
 ·exact sMk
 ·trivial
 ·(rintro i _)
  refine tS ?_
  refine tS ?_
  refine tR ?_
  refine sQ (pM rfl) rfl ?_
  refine sQ (pM rfl) rfl ?_
  refine sQ (pLn rfl rfl) rfl ?_
  refine sP (pure_lss_f rfl rfl (by omega)) rfl rfl ?_
  refine sD ?_
  refine nS ?_
  refine cF rfl ?_
  refine tri_exit ?_
  refine ext_seq ?_
  refine ext_loopN ?_
  refine ext_block_eq ?_
  refine nS ?_
  refine tS ?_
  refine tR ?_
  refine sQ (pM rfl) rfl ?_
  refine sQ (pLn rfl rfl) rfl ?_
  refine sP (pure_leq_t rfl rfl (by omega)) rfl rfl ?_
  refine sQ (pA rfl) rfl ?_
  refine sD ?_
  refine nS ?_
  refine tT ?_
  refine rF1 (rT rfl) ?_
  trivial
theorem tm_ops {k : Int} {n : Nat} (h : tmOps k = n) : (k = 6 ∨ k = 7 ∨ k = 8 ∨ k = 10 → n = 2) ∧ (k = 9 → n = 3) ∧ (k = 5 ∨ k = 11 ∨ k = 12 ∨ k = 13 → n = 1) := by
 refine ⟨?_, ?_, ?_⟩
 ·rintro (rfl | rfl | rfl | rfl)
  ·rw [show tmOps 6 = 2 from rfl] at h; omega
  ·rw [show tmOps 7 = 2 from rfl] at h; omega
  ·rw [show tmOps 8 = 2 from rfl] at h; omega
  ·rw [show tmOps 10 = 2 from rfl] at h; omega
 ·rintro rfl
  rw [show tmOps 9 = 3 from rfl] at h; omega
 ·rintro (rfl | rfl | rfl | rfl)
  ·rw [show tmOps 5 = 1 from rfl] at h; omega
  ·rw [show tmOps 11 = 1 from rfl] at h; omega
  ·rw [show tmOps 12 = 1 from rfl] at h; omega
  ·rw [show tmOps 13 = 1 from rfl] at h; omega
theorem tScan_ar : ∀ (t : Ty) (d : Int), tScan t d = true → tAr t := by
 refine Ty.ind fun k ks ih d h => ?_
 obtain ⟨h1, h2⟩ := tScan_inv h
 rw [tAr]
 refine ⟨fun hk => ?_, fun h4 h5 => ?_, tArL_mem.2 fun t ht => ?_⟩
 ·have := (tyOps_spec k).2.1 hk
  omega
 ·have h5' := tyOps_spec k
  have h6 := h5'.1
  have h7 := h5'.2.2
  omega
 ·obtain ⟨i, hi, rfl⟩ := List.getElem_of_mem ht
  exact ih _ ht _ (h2 i hi)
theorem tScan_ah : ∀ (n : Nat) (t : Ty) (d : Int), tScan t d = true → 4 - d ≤ n → tAh n t := by
 intro n
 induction n with
 | zero =>
  rintro ⟨k, ks⟩ d h hd
  obtain ⟨h1, h2⟩ := tScan_inv h
  have hks : ks.length = 0 := by
   rcases Nat.eq_zero_or_pos ks.length with h0 | h0
   ·exact h0
   ·have h3 := h2 0 h0
    obtain ⟨k', ks'⟩ : Ty := ks[0]
    have h4 : ∀ (u : Ty) (d : Int), tScan u d = true → d ≤ 4 := by
     rintro ⟨a, b⟩ d hu
     rw [tScan] at hu
     simp only [Bool.and_eq_true, decide_eq_true_eq] at hu
     exact hu.1.1
    have := h4 _ _ h3
    omega
  have h5 := tyOps_spec k
  have h6 := h5.2.1
  exact ⟨List.length_eq_zero_iff.1 hks, by intro h; have := h6 (.inl h); omega, by intro h; have := h6 (.inr h); omega⟩
 | succ n ih =>
  rintro ⟨k, ks⟩ d h hd
  have ha := tScan_ar _ _ h
  rw [tAr] at ha
  obtain ⟨h1, h2⟩ := tScan_inv h
  refine ⟨ha.1, ha.2.1, fun t ht => ?_⟩
  obtain ⟨i, hi, rfl⟩ := List.getElem_of_mem ht
  exact ih _ _ (h2 i hi) (by omega)
theorem tValid_ann {t : Ty} (h : tValid t = true) : tAr t ∧ szTy t ≤ 30 := by
 have h1 := tScan_ah 3 t 1 h (by omega)
 have h2 := tAh_sz h1
 have h3 : ((2 ^ (3 + 1) - 2 : Nat) : Int) = 14 := rfl
 exact ⟨h1.ar, by omega⟩
theorem tNone_ann {t : Ty} (h : tNone t = true) : tAr t ∧ szTy t ≤ 30 := by
 rw [tNone_eq h]
 exact ⟨tAr_leaf (by decide) (by decide), by rw [ty0, szLeaf]; omega⟩
/-- The annotation of a valid node. -/
theorem node_ann {k : Int} {nm : ByteArray} {num : Int} {ty fr : Ty} {lb : Int} {n : Nat} (h : tmNode k nm num ty fr lb n = true) : tAr ty ∧ szTy ty ≤ 30 := by
 have hn := tmNode_iff.1 h
 by_cases hk : k = 5 ∨ k = 13 ∨ k = 14
 ·exact tValid_ann (hn.2.2.2.2.2.1 hk)
 ·exact tNone_ann (hn.2.2.2.2.2.2.1 hk)
theorem RTm.of9 {G : IM} {k : Int} {nm : ByteArray} {num tk fk : Int} {tks fks : List Ty} {lb : Int} {ks : List Tm} {q1 q2 q3 : Option Addr} {c1 c2 c3 : Nat} {es : List (List Value)} (hk : I64 k) (hnum : I64 num) (hlb : I64 lb) (hty : RTy G (.mk tk tks) [.int .i64 tk, .slice q1 tks.length c1])
  (hfr : RTy G (.mk fk fks) [.int .i64 fk, .slice q2 fks.length c2]) (hsl : SlE G q3 ks.length c3 9 es) (hkl : RTmL G ks es) :
  RTm G (.mk k nm num (.mk tk tks) (.mk fk fks) lb ks) [.int .i64 k, .string nm, .int .i64 num, .int .i64 tk, .slice q1 tks.length c1, .int .i64 fk, .slice q2 fks.length c2, .int .i64 lb, .slice q3 ks.length c3] := by
 simp only [RTm]
 exact ⟨_, _, q3, c3, es, rfl, hk, hnum, hlb, hty, hfr, hsl, hkl⟩
/-- A term that is not too big to be worked on. -/
def Tm.fit (t : Tm) (N : Nat) : Prop := t.small ∧ tmCount t ≤ N
section slaw
variable {P : Program} {Γ : Ctx} {env : Env} {hp : List Ent} {G : IM} {ty : TypeId} {K : Po} {ops : Array Oper} {rest : List Oper}
/-- An own slice that is not empty is the head of its block. -/
theorem St.slc_open {a : Act} {w : World} {p : Option Addr} {c el sz n : Nat} {cs : List Value} {hp' : List Ent} (hs : St Γ ⟨env, hp, G⟩ a w) (hk : Pk hp (.slc p c el sz n cs) hp') (h0 : 0 < n) :
  ∃ b C, p = some ⟨b, 0, none⟩ ∧ n ≤ c ∧ c ≤ maxLen ∧ St Γ ⟨env, .blk b (cs ++ C) :: hp', G⟩ a w := by
 have hown : Own [.slc p c el sz n cs] G w := hs.res.own.of_mem hk.perm
 obtain ⟨hl, h⟩ := hown.ok _ List.mem_cons_self
 rcases h with ⟨hv, hn⟩ | ⟨g, cap, cur, hv, _, hg, hnc, hcm, hsz, ht⟩
 ·omega
 ·cases hv
  refine ⟨g, cur.toList.drop cs.length, rfl, hnc, hcm, ?_⟩
  have hcur : cur.toList = cs ++ cur.toList.drop cs.length := by
   have e : cs.length = n * sz := hl
   rw [e]
   conv => lhs; rw [← List.take_append_drop (n * sz) cur.toList, ht]
  have hr : Res [.slc (some ⟨g, 0, none⟩) c el sz n cs] G w [.blk g (cs ++ cur.toList.drop cs.length)] G w := by
   refine ⟨⟨hown.inn, ?_, by simp [Fp, Ent.fp], ?_⟩, Ext.refl _ _, IMle.refl _, fun _ _ h => .inl h, ?_, fun b l h h0 => absurd h (by rw [h0]; simp)⟩
   ·intro e he
    simp at he; subst he
    refine ⟨el, ?_⟩
    rw [← hcur]; simpa using hg
   ·intro b' hb; exact hown.disj b' (by simpa [Fp, Ent.fp, vfp] using hb)
   ·intro b' hb; exact .inr (by simpa [Fp, Ent.fp, vfp] using hb)
  exact ⟨hs.size, hs.nod, hs.env, by have := (hs.res.perm hk.perm).frame hr; simpa using this⟩
theorem triL_open {p : Option Addr} {c el sz n : Nat} {cs : List Value} {hp' : List Ent} (hk : Pk hp (.slc p c el sz n cs) hp') (h0 : 0 < n)
  (h : ∀ b C, p = some ⟨b, 0, none⟩ → n ≤ c → c ≤ maxLen → TriL P Γ ops rest K ⟨env, .blk b (cs ++ C) :: hp', G⟩) : TriL P Γ ops rest K ⟨env, hp, G⟩ :=
 ⟨fun a w hs => let ⟨b, C, h1, h2, h3, h4⟩ := hs.slc_open hk h0; (h b C h1 h2 h3).run a w h4⟩
end slaw
theorem flat_set {es : List (List Value)} {j : Nat} {vs : List Value} (hj : j < es.length) : (es.set j vs).flatten = (es.take j).flatten ++ (vs ++ (es.drop (j + 1)).flatten) := by
 rw [List.set_eq_take_append_cons_drop, if_pos hj]; simp
theorem flat_at {es : List (List Value)} {j : Nat} (hj : j < es.length) : es.flatten = (es.take j).flatten ++ (es[j] ++ (es.drop (j + 1)).flatten) := by
 have h := congrArg List.flatten (List.take_append_drop j es).symm
 rw [List.drop_eq_getElem_cons hj, List.flatten_append, List.flatten_cons] at h
 exact h
theorem upd_set {es : List (List Value)} {C vs : List Value} {j sz : Nat} (hj : j < es.length) (ha : ∀ e ∈ es, e.length = sz) (hv : vs.length = sz) : upd (es.flatten ++ C) (0 + j * sz) vs = some ((es.set j vs).flatten ++ C) := by
 have := upd_at (A := (es.take j).flatten) (B := es[j]) (C := (es.drop (j + 1)).flatten ++ C) (V := vs) (o := 0 + j * sz)
  (by rw [flat_len (fun e he => ha e (List.mem_of_mem_take he)), List.length_take]; rw [Nat.min_eq_left (by omega)]; omega) (by rw [ha _ (List.getElem_mem hj), hv])
 rw [flat_at hj, flat_set hj]
 simp only [List.append_assoc] at this ⊢
 exact this
theorem RTmL.set {G : IM} : ∀ {ks : List Tm} {es : List (List Value)} {j : Nat} {y : Tm} {v : List Value}, RTmL G ks es → RTm G y v → RTmL G (ks.set j y) (es.set j v)
 | [], es, j, y, v, h, h2 => by simp only [RTmL] at h; subst h; simp [RTmL]
 | t :: ts, es, 0, y, v, h, h2 => by
  simp only [RTmL] at h
  obtain ⟨a, r, rfl, h3, h4⟩ := h
  simp only [List.set_cons_zero, RTmL]
  exact ⟨v, r, rfl, h2, h4⟩
 | t :: ts, es, j + 1, y, v, h, h2 => by
  simp only [RTmL] at h
  obtain ⟨a, r, rfl, h3, h4⟩ := h
  simp only [List.set_cons_succ, RTmL]
  exact ⟨a, r.set j v, rfl, h3, RTmL.set h4 h2⟩
/- Data outside taken-back blocks. -/
/-- A node replaced. -/
def mPut : Tm → List Int → Tm → Tm
 | _, [], x => x
 | .mk k nm num ty fr lb ks, i :: is, x => if h : 0 ≤ i ∧ i < ks.length then .mk k nm num ty fr lb (ks.set i.toNat (mPut (ks[i.toNat]'(by omega)) is x)) else .mk k nm num ty fr lb ks
/-- A type and whether the term has it; then the term is valid. -/
def TyV (e : Tm) (G : IM) : IM → Value → List Ent → Prop := Imm fun G' v => ∃ t cells b, v = .tuple ⟨[.agg ⟨cells⟩, .bool b]⟩ ∧ RTy G' t cells ∧ tAr t ∧ szTy t ≤ 960 ∧ (b = true → termValid e = true)
theorem tm_one {G : IM} {e : Tm} {ce : List Value} {p : Option Addr} {c : Nat} (hr : RTm G e ce) (hs : Sl G p 1 c 9 ce) : SlE G p [e].length c 9 [ce] ∧ RTmL G [e] [ce] := by
 refine ⟨SlE.of (by simpa using hs) rfl (fun x hx => by simp only [List.mem_singleton] at hx; subst hx; exact hr.len) (fun x hx => by simp only [List.mem_singleton] at hx; subst hx; exact hr.one), ?_⟩
 simp only [RTmL]
 exact ⟨ce, [], rfl, hr, rfl⟩
/-- A term that was perhaps cast, and the next label. -/
def CastP (e : Tm) (label : Int) (G : IM) : IM → Value → List Ent → Prop := Imm fun G' v => ∃ u cu l', v = .tuple ⟨[.agg ⟨cu⟩, .int .i64 l']⟩ ∧ RTm G' u cu ∧ (e.small → u.small) ∧ tmCount u ≤ tmCount e + 1 ∧ label ≤ l' ∧ l' ≤ label + 1
/-- Types that are asked for. -/
def WantP (n : Nat) (G : IM) : IM → Value → List Ent → Prop := Imm fun G' v => ∃ p c es ws, v = .slice p n c ∧ ws.length = n ∧ SlE G' p n c 2 es ∧ RTyL G' ws es ∧ ∀ w ∈ ws, tAr w
theorem RTmL.at2 {G : IM} {ts : List Tm} {es : List (List Value)} {i : Nat} (h : RTmL G ts es) (h1 : i < ts.length) (h2 : i < es.length) : i < es.length ∧ RTm G ts[i] es[i] := by
 have := (h.inv (List.getElem?_eq_getElem h2) tm0).2
 rw [List.getD_eq_getElem?_getD, List.getElem?_eq_getElem h1] at this
 exact ⟨h2, this⟩
mutual
theorem shape_small : ∀ (t : Tm) (d : Int), sShape 12 14 t d = true → t.small
 | .mk k nm num ty fr lb ks, d, h => by
  obtain ⟨h1, h2, h3, h4⟩ := sShape_go2 h
  have hn := tmNode_iff.1 h3
  rw [Tm.small]
  refine ⟨?_, (node_ann h3).1.small, ?_, ?_, shape_smallL ks _ h4⟩
  ·by_cases hk : k = 1 ∨ k = 5
   ·have := hn.2.1 hk
    simp only [nameOk, decide_eq_true_eq] at this
    omega
   ·rw [hn.2.2.1 hk]; decide
  ·rw [tNone_eq (hn.2.2.2.2.2.2.2.2 (by omega)).1]
   simp [ty0, Ty.small, Ty.smallL]
  ·have := tmOps_le k
   omega
theorem shape_smallL : ∀ (ts : List Tm) (d : Int), sShapeL 12 14 ts d = true → Tm.smallL ts
 | [], d, h => by rw [Tm.smallL]; trivial
 | t :: ts, d, h => by
  rw [sShapeL, Bool.and_eq_true] at h
  rw [Tm.smallL]
  exact ⟨shape_small t d h.1, shape_smallL ts d h.2⟩
end
/-- One element of an own block that was a slice of several cells each. -/
theorem at_elem {hp : List Ent} {G : IM} {b sz i : Nat} {es : List (List Value)} {C : List Value} (hm : Ent.blk b (es.flatten ++ C) ∈ hp) (hi : i < es.length) (ha : ∀ e ∈ es, e.length = sz) : At hp G b (0 + i * sz) es[i] := by
 refine .inl ⟨_, hm, fun j u hu => ?_⟩
 rw [flat_at hi, List.append_assoc, List.append_assoc]
 have hl : (es.take i).flatten.length = i * sz := by
  rw [flat_len (fun e he => ha e (List.mem_of_mem_take he)), List.length_take, Nat.min_eq_left (by omega)]
 have hj : j < es[i].length := (List.getElem?_eq_some_iff.1 hu).1
 rw [List.getElem?_append_right (by omega), show 0 + i * sz + j - (es.take i).flatten.length = j by omega, List.getElem?_append_left hj]
 exact hu
/-- A term with casts, its type, the next label. -/
def InsP (e : Tm) (label : Int) (G : IM) : IM → Value → List Ent → Prop := Imm fun G' v => ∃ u cu t ct l', v = .tuple ⟨[.agg ⟨cu⟩, .agg ⟨ct⟩, .int .i64 l']⟩ ∧ RTm G' u cu ∧ u.small ∧ tmCount u + 1 ≤ 2 * tmCount e ∧ RTy G' t ct ∧ tAr t ∧ szTy t ≤ 32 * (tmCount e : Int) ∧ label ≤ l' ∧ l' + 1 ≤ label + 2 * (tmCount e : Int)
theorem nameOk_size {nm : ByteArray} (h : nameOk nm = true) : nm.size = 1 := by
 unfold nameOk at h
 simp at h
 omega
theorem node_name {k : Int} {nm : ByteArray} {num : Int} {ty fr : Ty} {lb : Int} {n : Nat} (h : tmNode k nm num ty fr lb n = true) : nm.size ≤ 1 := by
 obtain ⟨_, h2, h3, _⟩ := tmNode_iff.1 h
 by_cases hk : k = 1 ∨ k = 5
 ·rw [nameOk_size (h2 hk)]; omega
 ·rw [h3 hk]; decide
def mGround (t : Ty) : Ty := if t.k = 4 ∨ t.k = 5 then .mk t.k [tyAny, tyAny] else .mk t.k []
def isGrd (t : Ty) : Bool := decide (t.k ≠ 1) && tSame t (mGround t)
/-- A cast between two function types or two pair types. -/
def prx (t : Tm) : Bool := decide (t.k = 14 ∧ t.fr.k = t.ty.k ∧ (t.ty.k = 4 ∨ t.ty.k = 5))
/-- A cast from a ground type to the unknown one. -/
def inj (t : Tm) : Bool := decide (t.k = 14 ∧ t.ty.k = 1) && isGrd t.fr
mutual
def mVal : Tm → Bool
 | .mk k nm num ty fr lb ks => if k = 10 ∨ (k = 14 ∧ fr.k = ty.k ∧ (ty.k = 4 ∨ ty.k = 5)) ∨ (k = 14 ∧ ty.k = 1 ∧ isGrd fr = true) then mValL ks else decide (k = 2 ∨ k = 3 ∨ k = 4 ∨ k = 5)
def mValL : List Tm → Bool
 | [] => true
 | t :: ts => mVal t && mValL ts
end
mutual
def mSubst (x : ByteArray) (v : Tm) : Tm → Tm
 | .mk k nm num ty fr lb ks => if k = 1 ∧ nm = x then v else if k = 5 ∧ nm = x then .mk k nm num ty fr lb ks else .mk k nm num ty fr lb (mSubstL x v ks)
def mSubstL (x : ByteArray) (v : Tm) : List Tm → List Tm
 | [] => []
 | t :: ts => mSubst x v t :: mSubstL x v ts
end
theorem mSubstL_eq (x : ByteArray) (v : Tm) : ∀ ks, mSubstL x v ks = ks.map (mSubst x v)
 | [] => rfl
 | t :: ts => by rw [mSubstL, mSubstL_eq x v ts, List.map_cons]
def mCst (e : Tm) (fr to : Ty) (lb : Int) : Tm := .mk 14 ⟨#[]⟩ 0 to fr lb [e]
def mNod (k : Int) (ks : List Tm) : Tm := .mk k ⟨#[]⟩ 0 ty0 ty0 0 ks
def mNum (n : Int) : Tm := .mk 2 ⟨#[]⟩ n ty0 ty0 0 []
def mTru (b : Prop) [Decidable b] : Tm := mNod (if b then 3 else 4) []
abbrev Stp := Tm × Int × Int
def stuck : Stp := (tm0, 3, 0)
def kd (ks : List Tm) (i : Nat) : Tm := ks.getD i tm0
def kt (ks : List Ty) (i : Nat) : Ty := ks.getD i ty0
/-- The step of a node that is no value, whose operands are. -/
def mRed (k : Int) (ty fr : Ty) (lb : Int) (ks : List Tm) : Stp :=
 if k = 6 then
  (if (kd ks 0).k = 5 then (mSubst (kd ks 0).nm (kd ks 1) (kd (kd ks 0).ks 0), 1, 0)
   else if prx (kd ks 0) = true ∧ (kd ks 0).ty.k = 4 then (mCst (mNod 6 [kd (kd ks 0).ks 0, mCst (kd ks 1) (kt (kd ks 0).ty.ks 0) (kt (kd ks 0).fr.ks 0) (-(kd ks 0).lb)]) (kt (kd ks 0).fr.ks 1) (kt (kd ks 0).ty.ks 1) (kd ks 0).lb, 1, 0)
   else stuck)
 else if k = 7 ∨ k = 8 then
  (if (kd ks 0).k = 2 ∧ (kd ks 1).k = 2 then (if k = 7 then mNum (((kd ks 0).num + (kd ks 1).num) % 1000) else mTru ((kd ks 0).num < (kd ks 1).num), 1, 0) else stuck)
 else if k = 9 then (if (kd ks 0).k = 3 then (kd ks 1, 1, 0) else if (kd ks 0).k = 4 then (kd ks 2, 1, 0) else stuck)
 else if k = 11 ∨ k = 12 then
  (if (kd ks 0).k = 10 then (kd (kd ks 0).ks (k - 11).toNat, 1, 0)
   else if prx (kd ks 0) = true ∧ (kd ks 0).ty.k = 5 then (mCst (mNod k [kd (kd ks 0).ks 0]) (kt (kd ks 0).fr.ks (k - 11).toNat) (kt (kd ks 0).ty.ks (k - 11).toNat) (kd ks 0).lb, 1, 0)
   else stuck)
 else if k = 14 then
  (if fr.k = ty.k then (kd ks 0, 1, 0)
   else if ty.k = 1 then (mCst (mCst (kd ks 0) fr (mGround fr) lb) (mGround fr) ty lb, 1, 0)
   else if isGrd ty = false then (mCst (mCst (kd ks 0) fr (mGround ty) lb) (mGround ty) ty lb, 1, 0)
   else if inj (kd ks 0) = false then stuck
   else if (kd ks 0).fr.k = ty.k then (kd (kd ks 0).ks 0, 1, 0)
   else (tm0, 2, lb))
 else stuck
mutual
/-- A step of a valid term that is no value. -/
def mStp : Tm → Stp
 | .mk k nm num ty fr lb ks => match mStpL (if k = 9 then 1 else ks.length) ks with
  | some (ks', c, l) => if c = 1 then (.mk k nm num ty fr lb ks', 1, 0) else (tm0, c, l)
  | none => mRed k ty fr lb ks
/-- The step of the first operand that is no value, of so many that count. -/
def mStpL : Nat → List Tm → Option (List Tm × Int × Int)
 | _, [] => none
 | n, t :: ts => match n with
  | 0 => none
  | n + 1 => if mVal t = true then (match mStpL n ts with
    | some (us, c, l) => some (t :: us, c, l)
    | none => none)
   else some ((mStp t).1 :: ts, (mStp t).2.1, (mStp t).2.2)
end
def mStepCast (e : Tm) : Stp :=
 if castValid e = false then stuck else if mVal e = true then (e, 0, 0)
 else if (mStp e).2.1 ≠ 1 then (tm0, (mStp e).2.1, (mStp e).2.2)
 else if castValid (mStp e).1 = false then (tm0, 4, 0) else ((mStp e).1, 1, 0)
/-- Steps, at most so many: what comes out, a code, a label, how many there were. -/
def mEv : Nat → Tm → Tm × Int × Int × Nat
 | 0, e => if (mStepCast e).2.1 = 1 then (tm0, 5, 0, 0) else ((mStepCast e).1, (mStepCast e).2.1, (mStepCast e).2.2, 0)
 | n + 1, e => if (mStepCast e).2.1 = 1 then ((mEv n (mStepCast e).1).1, (mEv n (mStepCast e).1).2.1, (mEv n (mStepCast e).1).2.2.1, (mEv n (mStepCast e).1).2.2.2 + 1)
  else ((mStepCast e).1, (mStepCast e).2.1, (mStepCast e).2.2, 0)
def mEvalCast (e : Tm) (fuel : Int) : Stp := if 0 ≤ fuel ∧ fuel ≤ 300 then ((mEv fuel.toNat e).1, (mEv fuel.toNat e).2.1, (mEv fuel.toNat e).2.2.1) else stuck
def mCountSteps (e : Tm) (fuel : Int) : Int := if 0 ≤ fuel ∧ fuel ≤ 300 then ((mEv fuel.toNat e).2.2.2 : Int) else 0
/- What is true of a node of a valid term with casts. -/
structure CvN (k : Int) (nm : ByteArray) (num : Int) (ty fr : Ty) (lb : Int) (ks : List Tm) : Prop where
 ops : tmOps k = ks.length
 ne : k ≠ 13
 nm1 : nm.size ≤ 1
 num0 : 0 ≤ num ∧ num ≤ 999
 tyA : tAr ty
 frA : tAr fr
 lbB : -99 ≤ lb ∧ lb ≤ 99
 c14 : k = 14 → tCons fr ty = true ∧ tValid ty = true ∧ tValid fr = true
 ty5 : ¬(k = 5 ∨ k = 14) → ty = ty0
 fr14 : k ≠ 14 → fr = ty0 ∧ lb = 0
/-- A part of a valid term with casts. -/
def cv (t : Tm) : Prop := ∃ d, sShape 40 13 t d = true
theorem withinB_iff {n lo hi : Int} : withinB n lo hi = true ↔ lo ≤ n ∧ n ≤ hi := by unfold withinB; rw [decide_eq_true_eq]
theorem cv.node {k : Int} {nm : ByteArray} {num : Int} {ty fr : Ty} {lb : Int} {ks : List Tm} (h : cv (.mk k nm num ty fr lb ks)) : CvN k nm num ty fr lb ks ∧ ∀ t ∈ ks, cv t := by
 obtain ⟨d, h⟩ := h
 obtain ⟨_, h2, h3, h4⟩ := sShape_go2 h
 obtain ⟨n1, n2, n3, n4, n5, n6, n7, n8, n9⟩ := tmNode_iff.1 h3
 refine ⟨⟨n1, h2, node_name h3, ?_, (node_ann h3).1, ?_, ?_, ?_, ?_, ?_⟩, fun t ht => ?_⟩
 ·by_cases hk : k = 2
  ·exact withinB_iff.1 (n4 hk)
  ·have := withinB_iff.1 (n5 hk); omega
 ·by_cases hk : k = 14
  ·have := (n8 hk).1
   simp only [tConsistent, Bool.and_eq_true] at this
   exact (tValid_ann this.1.1).1
  ·rw [tNone_eq (n9 hk).1]; exact tAr_leaf (by decide) (by decide)
 ·by_cases hk : k = 14
  ·have := (n8 hk).2
   simp only [labelOk, Bool.or_eq_true, withinB_iff] at this
   omega
  ·have := (n9 hk).2; omega
 ·intro hk
  have := (n8 hk).1
  simp only [tConsistent, Bool.and_eq_true] at this
  exact ⟨this.2, this.1.2, this.1.1⟩
 ·intro hk
  exact tNone_eq (n7 (by omega))
 ·intro hk
  exact ⟨tNone_eq (n9 hk).1, (n9 hk).2⟩
 ·obtain ⟨i, hi, rfl⟩ := List.mem_iff_getElem.1 ht
  exact ⟨_, (sShapeL_iff 40 13 ks _).1 h4 i hi⟩
theorem cv_of {t : Tm} (h : castValid t = true) : cv t ∧ tmCount t ≤ 200 := by
 obtain ⟨h1, h2⟩ := (castValid_iff t).1 h
 exact ⟨⟨1, h1⟩, h2⟩
mutual
theorem cv_small : ∀ (t : Tm), cv t → t.small
 | .mk k nm num ty fr lb ks, h => by
  obtain ⟨hn, hk⟩ := h.node
  rw [Tm.small]
  refine ⟨by have := hn.nm1; omega, hn.tyA.small, hn.frA.small, ?_, cv_smallL ks hk⟩
  have := tmOps_le k
  have := hn.ops
  omega
theorem cv_smallL : ∀ (ts : List Tm), (∀ t ∈ ts, cv t) → Tm.smallL ts
 | [], _ => by rw [Tm.smallL]; trivial
 | t :: ts, h => by
  rw [Tm.smallL]
  exact ⟨cv_small t (h t List.mem_cons_self), cv_smallL ts fun u hu => h u (List.mem_cons_of_mem _ hu)⟩
end
/- What a step gives is small, too. -/
theorem tmCount_mk (k : Int) (nm : ByteArray) (num : Int) (ty fr : Ty) (lb : Int) (ks : List Tm) : tmCount (.mk k nm num ty fr lb ks) = tmCountL ks + 1 := by rw [tmCount]
theorem small_mk {k : Int} {nm : ByteArray} {num : Int} {ty fr : Ty} {lb : Int} {ks : List Tm} : (Tm.mk k nm num ty fr lb ks).small ↔ nm.size ≤ 4294967296 ∧ ty.small ∧ fr.small ∧ ks.length ≤ 4294967296 ∧ Tm.smallL ks := by rw [Tm.small]
theorem tm0_sm : tm0.small := by simp [tm0, Tm.small, Ty.small, Ty.smallL, Tm.smallL, ByteArray.size]
theorem ty0_sm : ty0.small := by simp [ty0, Ty.small, Ty.smallL]
mutual
theorem subst_small {x : ByteArray} {v : Tm} (hv : v.small) : ∀ (t : Tm), t.small → (mSubst x v t).small ∧ tmCount (mSubst x v t) ≤ tmCount t * tmCount v
 | .mk k nm num ty fr lb ks, h => by
  obtain ⟨h1, h2, h3, h4, h5⟩ := small_mk.1 h
  obtain ⟨s1, s2⟩ := subst_smallL hv ks h5
  have hp : 1 ≤ tmCount v := by cases v; rw [tmCount]; omega
  rw [mSubst]
  split
  ·refine ⟨hv, ?_⟩
   rw [tmCount_mk]
   exact Nat.le_mul_of_pos_left _ (by omega)
  ·split
   ·exact ⟨h, Nat.le_mul_of_pos_right _ hp⟩
   ·refine ⟨small_mk.2 ⟨h1, h2, h3, by rw [mSubstL_eq, List.length_map]; exact h4, s1⟩, ?_⟩
    rw [tmCount_mk, tmCount_mk, Nat.add_mul]
    omega
theorem subst_smallL {x : ByteArray} {v : Tm} (hv : v.small) : ∀ (ts : List Tm), Tm.smallL ts → Tm.smallL (mSubstL x v ts) ∧ tmCountL (mSubstL x v ts) ≤ tmCountL ts * tmCount v
 | [], _ => by simp [mSubstL, Tm.smallL, tmCountL]
 | t :: ts, h => by
  simp only [Tm.smallL] at h
  obtain ⟨a1, a2⟩ := subst_small hv t h.1
  obtain ⟨b1, b2⟩ := subst_smallL hv ts h.2
  simp only [mSubstL, Tm.smallL, tmCountL, Nat.add_mul]
  exact ⟨⟨a1, b1⟩, by omega⟩
end
theorem kd_small {ks : List Tm} (h : Tm.smallL ks) (i : Nat) : (kd ks i).small := by
 unfold kd
 rw [List.getD_eq_getElem?_getD]
 cases hi : ks[i]? with
 | none => exact tm0_sm
 | some t => exact Tm.smallL_mem h t (List.mem_of_getElem? hi)
theorem kd_count {ks : List Tm} (i : Nat) : tmCount (kd ks i) ≤ tmCountL ks + 1 := by
 unfold kd
 rw [List.getD_eq_getElem?_getD]
 cases hi : ks[i]? with
 | none => simp [tm0, tmCount, tmCountL]
 | some t =>
  have := tmCount_mem (List.mem_of_getElem? hi)
  simp only [Option.getD_some]; omega
theorem small_get {t : Tm} (h : t.small) : t.nm.size ≤ 4294967296 ∧ t.ty.small ∧ t.fr.small ∧ t.ks.length ≤ 4294967296 ∧ Tm.smallL t.ks := by
 cases t; exact small_mk.1 h
theorem kt_small {ks : List Ty} (h : Ty.smallL ks) (i : Nat) : (kt ks i).small := by
 unfold kt
 rw [List.getD_eq_getElem?_getD]
 cases hi : ks[i]? with
 | none => exact ty0_sm
 | some t => exact Ty.smallL_mem h t (List.mem_of_getElem? hi)
theorem ty_small_ks {t : Ty} (h : t.small) : Ty.smallL t.ks := by cases t; simp only [Ty.small] at h; exact h.2
theorem mGround_small (t : Ty) : (mGround t).small := by
 unfold mGround; split <;> simp [tyAny, Ty.small, Ty.smallL]
theorem cst_small {e : Tm} {a b : Ty} {l : Int} (h : e.small) (ha : a.small) (hb : b.small) : (mCst e a b l).small := small_mk.2 ⟨by decide, hb, ha, by simp, by simp [Tm.smallL, h]⟩
theorem cst_count (e : Tm) (a b : Ty) (l : Int) : tmCount (mCst e a b l) = tmCount e + 1 := by rw [mCst, tmCount_mk, tmCountL, tmCountL]
theorem nod_small {k : Int} {ks : List Tm} (h : Tm.smallL ks) (hl : ks.length ≤ 4294967296) : (mNod k ks).small := small_mk.2 ⟨by decide, ty0_sm, ty0_sm, hl, h⟩
theorem nod_count (k : Int) (ks : List Tm) : tmCount (mNod k ks) = tmCountL ks + 1 := by rw [mNod, tmCount_mk]
theorem smallL1 {a : Tm} (h : a.small) : Tm.smallL [a] := by simp [Tm.smallL, h]
theorem smallL2 {a b : Tm} (h : a.small) (h2 : b.small) : Tm.smallL [a, b] := by simp [Tm.smallL, h, h2]
theorem cnt_tm0 : tmCount tm0 = 1 := by simp [tm0, tmCount, tmCountL]
theorem tm_eta (t : Tm) : tmCount t = tmCountL t.ks + 1 := by cases t; rw [tmCount_mk]; rfl
theorem red_small {k : Int} {ty fr : Ty} {lb : Int} {ks : List Tm} (hk : Tm.smallL ks) (hc : tmCountL ks ≤ 199) (ht : ty.small) (hf : fr.small) : (mRed k ty fr lb ks).1.small ∧ tmCount (mRed k ty fr lb ks).1 ≤ 40100 := by
 have a0 := kd_small hk 0
 have a1 := kd_small hk 1
 have a2 := kd_small hk 2
 have n0 := kd_count (ks := ks) 0
 have n1 := kd_count (ks := ks) 1
 have n2 := kd_count (ks := ks) 2
 obtain ⟨_, b2, b3, _, b5⟩ := small_get a0
 have e0 := tm_eta (kd ks 0)
 have m := fun i => kd_count (ks := (kd ks 0).ks) i
 have st : stuck.1.small ∧ tmCount stuck.1 ≤ 40100 := ⟨tm0_sm, by simp [stuck, tm0, tmCount, tmCountL]⟩
 have hty := fun i => kt_small (ty_small_ks b2) i
 have hfr := fun i => kt_small (ty_small_ks b3) i
 unfold mRed
 split
 ·split
  ·obtain ⟨s1, s2⟩ := subst_small (x := (kd ks 0).nm) a1 (kd (kd ks 0).ks 0) (kd_small b5 0)
   refine ⟨s1, Nat.le_trans s2 ?_⟩
   have : tmCount (kd (kd ks 0).ks 0) * tmCount (kd ks 1) ≤ 200 * 200 := Nat.mul_le_mul (by have := m 0; omega) (by omega)
   omega
  ·split
   ·refine ⟨cst_small (nod_small (smallL2 (kd_small b5 0) (cst_small a1 (hty 0) (hfr 0))) (by simp)) (hfr 1) (hty 1), ?_⟩
    have := m 0
    show tmCount (mCst _ _ _ _) ≤ 40100
    rw [cst_count, nod_count, tmCountL, tmCountL, tmCountL, cst_count]
    omega
   ·exact st
 ·split
  ·split
   ·split
    ·exact ⟨small_mk.2 ⟨by decide, ty0_sm, ty0_sm, by simp, by simp [Tm.smallL]⟩, by simp [mNum, tmCount, tmCountL]⟩
    ·exact ⟨nod_small (by simp [Tm.smallL]) (by simp), by simp [mTru, nod_count, tmCountL]⟩
   ·exact st
  ·split
   ·split
    ·exact ⟨a1, by show tmCount (kd ks 1) ≤ _; omega⟩
    ·split
     ·exact ⟨a2, by show tmCount (kd ks 2) ≤ _; omega⟩
     ·exact st
   ·split
    ·split
     ·exact ⟨kd_small b5 _, by have := m (k - 11).toNat; show tmCount (kd _ _) ≤ _; omega⟩
     ·split
      ·refine ⟨cst_small (nod_small (smallL1 (kd_small b5 0)) (by simp)) (hfr _) (hty _), ?_⟩
       have := m 0
       show tmCount (mCst _ _ _ _) ≤ 40100
       rw [cst_count, nod_count, tmCountL, tmCountL]
       omega
      ·exact st
    ·split
     ·split
      ·exact ⟨a0, by show tmCount (kd ks 0) ≤ _; omega⟩
      ·split
       ·refine ⟨cst_small (cst_small a0 hf (mGround_small fr)) (mGround_small fr) ht, ?_⟩
        show tmCount (mCst _ _ _ _) ≤ 40100
        rw [cst_count, cst_count]; omega
       ·split
        ·refine ⟨cst_small (cst_small a0 hf (mGround_small ty)) (mGround_small ty) ht, ?_⟩
         show tmCount (mCst _ _ _ _) ≤ 40100
         rw [cst_count, cst_count]; omega
        ·split
         ·exact st
         ·split
          ·exact ⟨kd_small b5 0, by have := m 0; show tmCount (kd _ _) ≤ _; omega⟩
          ·exact ⟨tm0_sm, by simp [tm0, tmCount, tmCountL]⟩
     ·exact st
theorem stp_smallL (ks : List Tm) (ih : ∀ t ∈ ks, t.small → tmCount t ≤ 200 → (mStp t).1.small ∧ tmCount (mStp t).1 ≤ tmCount t + 40100) : ∀ (n : Nat), Tm.smallL ks → tmCountL ks ≤ 199 → ∀ us c l, mStpL n ks = some (us, c, l) → Tm.smallL us ∧ us.length = ks.length ∧ tmCountL us ≤ tmCountL ks + 40100 := by
 induction ks with
 | nil => intro n _ _ us c l h; simp [mStpL] at h
 | cons t ts ihl =>
  intro n hs hc us c l h
  simp only [Tm.smallL] at hs
  simp only [tmCountL] at hc ⊢
  cases n with
  | zero => simp [mStpL] at h
  | succ n =>
   rw [mStpL] at h
   split at h
   ·split at h
    ·rename_i us' c' l' hs'
     cases h
     obtain ⟨l1, l2, l3⟩ := ihl (fun u hu => ih u (List.mem_cons_of_mem _ hu)) n hs.2 (by omega) us' c l hs'
     exact ⟨by simp only [Tm.smallL]; exact ⟨hs.1, l1⟩, by simp [l2], by simp only [tmCountL]; omega⟩
    ·cases h
   ·cases h
    obtain ⟨s1, s2⟩ := ih t List.mem_cons_self hs.1 (by omega)
    exact ⟨by simp only [Tm.smallL]; exact ⟨s1, hs.2⟩, by simp, by simp only [tmCountL]; omega⟩
theorem stp_small : ∀ (t : Tm), t.small → tmCount t ≤ 200 → (mStp t).1.small ∧ tmCount (mStp t).1 ≤ tmCount t + 40100 := by
 refine Tm.ind fun k nm num ty fr lb ks ih h hc => ?_
 obtain ⟨h1, h2, h3, h4, h5⟩ := small_mk.1 h
 rw [tmCount_mk] at hc
 have hL := stp_smallL ks ih (if k = 9 then 1 else ks.length) h5 (by omega)
 rw [mStp]
 split
 ·rename_i us c l hs
  obtain ⟨l1, l2, l3⟩ := hL us c l hs
  split
  ·refine ⟨small_mk.2 ⟨h1, h2, h3, by omega, l1⟩, ?_⟩
   show tmCount (.mk k nm num ty fr lb us) ≤ _
   rw [tmCount_mk, tmCount_mk]; omega
  ·exact ⟨tm0_sm, by show tmCount tm0 ≤ _; rw [cnt_tm0]; omega⟩
 ·have := red_small (k := k) (lb := lb) h5 (by omega) h2 h3
  rw [tmCount_mk]
  exact ⟨this.1, by omega⟩
/-- The type u is given back. -/
def RetTy (u : Ty) (G : IM) : IM → Value → List Ent → Prop := Imm fun G' v => ∃ cells, v = .agg ⟨cells⟩ ∧ RTy G' u cells
/-- A type, if there is one. -/
def TyOk (r : Option Ty) (G : IM) : IM → Value → List Ent → Prop := Imm fun G' v => ∃ cells u, v = .tuple ⟨[.agg ⟨cells⟩, .bool r.isSome]⟩ ∧ RTy G' u cells ∧ ∀ t, r = some t → u = t
theorem ty2_mk {G : IM} {k : Int} {a b : Ty} {ca cb : List Value} {p : Option Addr} {c : Nat} (hk : I64 k) (ha : RTy G a ca) (hb : RTy G b cb) (hs : Sl G p 2 c 2 (ca ++ cb)) : RTy G (.mk k [a, b]) [.int .i64 k, .slice p 2 c] := by
 have hL : RTyL G [a, b] [ca, cb] := by simp only [RTyL]; exact ⟨ca, [cb], rfl, ha, cb, [], rfl, hb, rfl⟩
 exact RTyL.ty (ts := [a, b]) (es := [ca, cb]) hL rfl (by simpa using hs) hk
theorem typeSameX_fn : ∀ (t t' : Ty) (G : IM) (cells cells' : List Value), RTy G t cells → RTy G t' cells' → Fn Tryz.prog 126 [.agg ⟨cells⟩, .agg ⟨cells'⟩] [] G (Val (.bool (tSame t t')) G) := by
 refine Ty.ind fun k ks ih t' G cells cells' hr hr' => ?_
 obtain ⟨k', ks'⟩ := t'
 obtain ⟨p, c, es, rfl, hk, hsl, hkl⟩ := hr.open
 obtain ⟨p', c', es', rfl, hk', hsl', hkl'⟩ := hr'.open
 simp only [Ty.k, Ty.ks] at hk hsl hkl hk' hsl' hkl' ⊢
 obtain ⟨A, hA⟩ : ∃ A, tSameL ks ks' = A := ⟨_, rfl⟩
 have hA' : A = true ↔ ks.length = ks'.length ∧ ∀ i, i < ks.length → tSame (ks.getD i ty0) (ks'.getD i ty0) = true := by
  rw [← hA, tSameL_iff]
  constructor
  ·rintro ⟨h1, h2⟩
   refine ⟨h1, fun i hi => ?_⟩
   have := h2 i hi (by omega)
   simpa [List.getD_eq_getElem?_getD, List.getElem?_eq_getElem hi, List.getElem?_eq_getElem (show i < ks'.length by omega)] using this
  ·rintro ⟨h1, h2⟩
   refine ⟨h1, fun i hi hi' => ?_⟩
   have := h2 i hi
   simpa [List.getD_eq_getElem?_getD, List.getElem?_eq_getElem hi, List.getElem?_eq_getElem hi'] using this
 refine fn_enter Tryz.func126 rfl Tryz.ntmps126 Tryz.results126 rfl ?_
 intro w0
 refine tS (tR ?_)
 refine sE (step_box_a rfl rfl) rfl (fun b3 => ?_)
 refine sE (step_box_a rfl rfl) rfl (fun b4 => ?_)
 refine sQ (pA rfl) rfl (sD (nS (tS (tR (sQ (pF0 rfl) rfl (sL (lBs rfl rfl) rfl rfl ?_))))))
 refine sQ (pF0 rfl) rfl (sL (lBs rfl rfl) rfl rfl ?_)
 refine sB (pE rfl rfl) rfl rfl (fun h14 => ?_) (fun h14 => ?_)
 refine sQ (pM rfl) rfl (sQ (pF0 rfl) rfl (sL (lBs rfl rfl) rfl rfl ?_))
 refine sQ (pF0 rfl) rfl (sL (lBs rfl rfl) rfl rfl ?_)
 refine seq_val rfl (equalFunc_Type _ _ _ _ _ _ _ _ _ hsl hsl' _ [] [] [] (fun i => tSame (ks.getD i ty0) (ks'.getD i ty0)) A hA' (fun i e e' he he' => ih _ (hkl.inv he ty0).1 _ _ _ _ (hkl.inv he ty0).2 (hkl'.inv he' ty0).2)) rfl rfl ?_
 refine sQ (pPt rfl rfl) rfl (sQ (pA rfl) rfl (sD (nS (tT (rF1 (rT rfl) ?_)))))
 exact ⟨rfl, by rw [tSame_mk, hA]; first | (rw [decide_eq_true (p := k = k') (by omega)]; rfl) | (rw [decide_eq_false (p := k = k') (by omega)]; rfl), rfl⟩
 refine sQ (pM rfl) rfl (sK rfl rfl (sK rfl rfl (sK rfl rfl (sK rfl rfl (sK rfl rfl (sQ (pPf rfl rfl) rfl ?_))))))
 refine sQ (pA rfl) rfl (sD (nS (tT (rF1 (rT rfl) ?_))))
 exact ⟨rfl, by rw [tSame_mk, hA]; first | (rw [decide_eq_true (p := k = k') (by omega)]; rfl) | (rw [decide_eq_false (p := k = k') (by omega)]; rfl), rfl⟩
theorem both_fn (k : Int) (a b : Ty) (G : IM) (ca cb : List Value) (hk : I64 k) (hra : RTy G a ca) (hrb : RTy G b cb) :
  Fn Tryz.prog 121 [.int .i64 k, .agg ⟨ca⟩, .agg ⟨cb⟩] [] G (RetTy (.mk k [a, b]) G) := by
 obtain ⟨pa, cca, ea, rfl, _⟩ := hra.open
 obtain ⟨pb, ccb, eb, rfl, _⟩ := hrb.open
 refine fn_enter Tryz.func121 rfl Tryz.ntmps121 Tryz.results121 rfl ?_
 intro w0
 refine tS (tR ?_)
 refine sE (step_box_a rfl rfl) rfl (fun b3 => ?_)
 refine sE (step_box_a rfl rfl) rfl (fun b4 => ?_)
 refine sE (step_alloc rfl) rfl (fun b5 => ?_)
 refine sD (nS (tS (tR (sQ (pM rfl) rfl (sL (lBa rfl rfl) rfl rfl ?_)))))
 refine sL (lBa rfl rfl) rfl rfl ?_
 (refine seq_step (step_buildSlice rfl rfl rfl (by omega) (by unfold maxLen; omega) rfl) rfl ?_; rintro _ ⟨b13, rfl⟩)
 refine sQ (pBd rfl rfl) rfl (sS' ?_)
 refine sD (nS ?_)
 (refine ret_freeze (by repeat (first | exact Pk.here | apply Pk.there)) (fun G5 hle5 hsl5 hno5 => ?_))
 refine tT (rF1 (rC rfl (lBa rfl rfl)) ?_)
 exact ⟨rfl, _, rfl, ty2_mk hk (hra.mono hle5) (hrb.mono hle5) hsl5⟩
theorem mMatch_mk (k tk : Int) (ks : List Ty) : mMatch k (.mk tk ks) = if tk = k then some (ks.getD 0 ty0, ks.getD 1 ty0) else if tk = 1 then some (tyAny, tyAny) else none := rfl
/-- The operands of a type as one of a kind, and whether they are. -/
def MatchP (k : Int) (t : Ty) (G : IM) : IM → Value → List Ent → Prop := Imm fun G' v => ∃ a ca b cb, v = .tuple ⟨[.agg ⟨ca⟩, .agg ⟨cb⟩, .bool (mMatch k t).isSome]⟩ ∧ RTy G' a ca ∧ RTy G' b cb ∧ tAr a ∧ tAr b ∧ ∀ p, mMatch k t = some p → p = (a, b)
theorem match_fn (k : Int) (t : Ty) (G : IM) (cells : List Value) (hk : k = 4 ∨ k = 5) (ha : tAr t) (hr : RTy G t cells) :
  Fn Tryz.prog 122 [.agg ⟨cells⟩, .int .i64 k] [] G (MatchP k t G) := by
 obtain ⟨tk, ks⟩ := t
 have ha2 := ha
 rw [tAr] at ha2
 have hkid := ha.kid
 obtain ⟨p, c, es, rfl, htk, hsl, hkl⟩ := hr.open
 simp only [Ty.k, Ty.ks] at htk hsl hkl ⊢
 refine fn_enter Tryz.func122 rfl Tryz.ntmps122 Tryz.results122 rfl ?_
 intro w0
 refine tS (tR ?_)
 refine sE (step_box_a rfl rfl) rfl (fun b3 => ?_)
 refine sE (step_alloc rfl) rfl (fun b4 => ?_)
 refine sE (step_alloc rfl) rfl (fun b5 => ?_)
 refine sQ (pA rfl) rfl (sD (nS (tS (tS (tR (sQ (pF0 rfl) rfl ?_))))))
 refine sL (lBs rfl rfl) rfl rfl ?_
 refine sD (nS (tri_block (tS (tR (sQ (pM rfl) rfl (sB (pE rfl rfl) rfl rfl (fun h20 => ?_) (fun h20 => ?_)))))))
 refine sQ (pA rfl) rfl (sD (nS (cT rfl ?_)))
 refine tS ?_
 (have hlen : ks.length = 2 := ha2.1 (by omega); obtain ⟨b, o, q0, d0, hp0, hat0, hre0, hg0⟩ := hsl.kidTy hkl (i := 0) (by omega) (by omega); obtain ⟨b', o', q1, d1, hp1, hat1, hre1, hg1⟩ := hsl.kidTy hkl (i := 1) (by omega) (by omega); subst hp0; cases hp1; refine tri_draw mixed rfl ?_)
 refine any_pure (i := 0) (l' := [tt,ff,ff,ff,ff,ff,ff,ff,ff,ff,ff]) rfl npI (pF0 rfl) rfl (by kernel_rfl) rfl rfl ?_
 refine aL 1 rfl (lBs rfl rfl) rfl ?_
 refine aP 2 rfl (pIN (j := 0) rfl rfl rfl (by omega)) rfl ?_
 refine aL 3 rfl (load_a rfl rfl (hat0 _) rfl) rfl ?_
 refine aP 4 rfl (pF0 rfl) rfl ?_
 refine aL 5 rfl (lBs rfl rfl) rfl ?_
 refine aP 6 rfl (pIN (j := 1) rfl rfl rfl (by omega)) rfl ?_
 refine aL 7 rfl (load_a rfl rfl (hat1 _) rfl) rfl ?_
 refine aO' 8 ?_
 refine oT' rfl ?_
 refine aO' 9 ?_
 refine oT' rfl ?_
 refine aP 10 rfl (pA rfl) rfl ?_
 refine aD' ?_
 refine nS (tT (rB (rS (rF3 (rC rfl (lBa rfl rfl)) (rC rfl (lBa rfl rfl)) (rT rfl) ?_))))
 (refine ⟨rfl, _, _, _, _, ?_, hre0, hre1, hkid _ (List.getElem_mem (by omega)), hkid _ (List.getElem_mem (by omega)), ?_⟩ <;> rw [mMatch_mk, if_pos (by omega)] <;> first | rfl | (intro p hp; cases hp; simp [hlen]))
 refine sQ (pA rfl) rfl (sD (nS (cF rfl ?_)))
 refine tS (tR (sB (pE rfl rfl) rfl rfl (fun h53 => ?_) (fun h53 => ?_)))
 refine sQ (pA rfl) rfl (sD (nS (cT rfl ?_)))
 refine tS (tR (seq_val rfl ((base_fn _ _)) rfl rfl ?_))
 refine seq_val rfl ((base_fn _ _)) rfl rfl ?_
 refine sS' ?_
 refine sS' ?_
 refine sQ (pA rfl) rfl (sD (nS (tT (rB (rS (rF3 (rC rfl (lBa rfl rfl)) (rC rfl (lBa rfl rfl)) (rT rfl) ?_))))))
 (refine ⟨rfl, _, _, _, _, ?_, tyAny_r _, tyAny_r _, tAr_any, tAr_any, ?_⟩ <;> rw [mMatch_mk, if_neg (by omega), if_pos (by omega)] <;> first | rfl | (intro p hp; cases hp; rfl))
 refine sQ (pA rfl) rfl (sD (nS (cF rfl ?_)))
 refine tK (nrm_block (nS (tS (tR (sQ (pBd rfl rfl) rfl (sQ (pBd rfl rfl) rfl ?_))))))
 refine sS' ?_
 refine sS' ?_
 refine sQ (pA rfl) rfl (sD (nS (tT (rF3 (rC rfl (lBa rfl rfl)) (rC rfl (lBa rfl rfl)) (rT rfl) ?_))))
 (refine ⟨rfl, ty0, _, ty0, _, ?_, tyLeaf_r _ ⟨by omega, by omega⟩, tyLeaf_r _ ⟨by omega, by omega⟩, tAr_leaf (by omega) (by omega), tAr_leaf (by omega) (by omega), ?_⟩ <;> rw [mMatch_mk, if_neg (by omega), if_neg (by omega)] <;> first | rfl | (intro p hp; cases hp))
/-- How a context lies in memory. -/
def RBd2 (G : IM) (b : ByteArray × Ty) (e : List Value) : Prop := ∃ q d, e = [.string b.1, .int .i64 b.2.k, .slice q b.2.ks.length d] ∧ RTy G b.2 [.int .i64 b.2.k, .slice q b.2.ks.length d]
theorem RBd2.mono {G G' : IM} {b : ByteArray × Ty} {e : List Value} (h : RBd2 G b e) (hg : IMle G G') : RBd2 G' b e := by
 obtain ⟨q, d, h1, h2⟩ := h
 exact ⟨q, d, h1, h2.mono hg⟩
def RCx (G : IM) (cx : Cx) (p : Option Addr) (n c : Nat) : Prop := n = cx.length ∧ ∃ es : List (List Value), SlE G p n c 3 es ∧ ∀ (i : Nat) (b : ByteArray × Ty), cx[i]? = some b → ∃ e, es[i]? = some e ∧ RBd2 G b e
theorem RCx.mono {G G' : IM} {cx : Cx} {p : Option Addr} {n c : Nat} (h : RCx G cx p n c) (hg : IMle G G') : RCx G' cx p n c := by
 obtain ⟨h1, es, h2, h3⟩ := h
 refine ⟨h1, es, h2.mono hg, fun i b hb => ?_⟩
 obtain ⟨e, he, hr⟩ := h3 i b hb
 exact ⟨e, he, hr.mono hg⟩
theorem RCx.nil (G : IM) : RCx G [] none 0 0 := ⟨rfl, [], SlE.nil _ _, by simp⟩
theorem RCx.le {G : IM} {cx : Cx} {p : Option Addr} {n c : Nat} (h : RCx G cx p n c) : n ≤ 9223372036854775807 := by
 obtain ⟨h1, es, h2, h3⟩ := h
 exact h2.le
theorem RCx.get {G : IM} {cx : Cx} {p : Option Addr} {n c : Nat} (h : RCx G cx p n c) {i : Nat} (hi : i < n) :
  ∃ b o nm t q d, cx[i]? = some (nm, t) ∧ p = some ⟨b, o, none⟩ ∧ (∀ hp, At hp G b (o + i * 3) [.string nm, .int .i64 t.k, .slice q t.ks.length d]) ∧ RTy G t [.int .i64 t.k, .slice q t.ks.length d] ∧ G b ≠ none := by
 obtain ⟨h1, es, h2, h3⟩ := h
 obtain ⟨e, b, o, he, rfl, hl, _, hat, hgb⟩ := h2.get (i := i) (by omega)
 have hx : cx[i]? = some cx[i] := List.getElem?_eq_getElem (by omega)
 obtain ⟨e', he', q, d, h4, h5⟩ := h3 i _ hx
 rw [he] at he'
 obtain rfl := Option.some.inj he'
 rw [h4] at hat
 exact ⟨b, o, cx[i].1, cx[i].2, q, d, hx, rfl, hat, h5, hgb⟩
theorem lookup_fn (G : IM) (cx : Cx) (p : Option Addr) (n c : Nat) (nm : ByteArray) (hx : RCx G cx p n c) :
  Fn Tryz.prog 120 [.slice p n c, .string nm] [] G (TyOk (mLook cx nm) G) := by
 have hn := hx.le
 have hn1 := hx.1
 refine fn_enter Tryz.func120 rfl Tryz.ntmps120 Tryz.results120 rfl ?_
 intro w0
 refine tS (tR ?_)
 refine sE (step_alloc rfl) rfl (fun b3 => ?_)
 refine sQ (pA rfl) rfl (sD (nS (tS (tS (tR (sQ (pM rfl) rfl ?_))))))
 refine sQ (pLn rfl rfl) rfl (sP (pure_sub rfl rfl (by omega) (by omega)) rfl rfl ?_)
 refine sQ (pA rfl) rfl (sD (nS (tri_block ?_)))
 (refine tri_loopN (fun (i : Nat) => ⟨[(6, .int .i64 ((i : Int) - 1)), (0, .slice p n c), (1, .string nm), (4, .pointer (some ⟨b3, 0, none⟩))], [.blk b3 [.int .i64 0, .slice none 0 0]], G⟩) (fun i => i ≤ n ∧ lookN cx nm i = mLook cx nm) (fun i => i) n ?_ ?_ ?_)
 exact sMk
 exact ⟨Nat.le_refl _, by rw [hn1]; rfl⟩
 (rintro i ⟨hi, hlk⟩)
 refine tS (tS (tR (sQ (pM rfl) rfl (sB (pure_geq rfl rfl) rfl rfl (fun h25 => ?_) (fun h25 => ?_)))))
 refine sD (nS (cT rfl ?_))
 refine tK (nS (tS ?_))
 (show Tri _ _ (.block 1 _) _ _; obtain ⟨j, rfl⟩ : ∃ j, i = j + 1 := ⟨i - 1, by omega⟩; rw [show ((j + 1 : Nat) : Int) - 1 = (j : Int) from by omega]; obtain ⟨b, o, nm1, t1, q1, d1, hcx, rfl, hat, hr1, hgb⟩ := hx.get (i := j) (by omega); refine tri_block ?_)
 refine tS (tR (sQ (pM rfl) rfl (sQ (pM rfl) rfl (sP (pIN rfl rfl rfl (by omega)) rfl rfl ?_))))
 refine sQ (pF rfl) rfl (sL (load_s rfl rfl ((hat _).sub (j := 0) rfl)) rfl rfl ?_)
 refine sQ (pM rfl) rfl (sB (pure_seql rfl rfl) rfl rfl (fun h41 => ?_) (fun h41 => ?_))
 refine sD (nS (cT rfl ?_))
 refine tS (tR (sQ (pM rfl) rfl (sQ (pM rfl) rfl (sP (pIN rfl rfl rfl (by omega)) rfl rfl ?_))))
 refine sQ (pF rfl) rfl (sL (load_a rfl rfl (hat _).drop rfl) rfl rfl ?_)
 refine sS' ?_
 refine sQ (pA rfl) rfl (sD (nS (tT (rB (rS (ret_loopN ?_))))))
 refine rB (rS (rF2 (rC rfl (lBa rfl rfl)) (rT rfl) ?_))
 (rw [lookN_eq hcx (by assumption)] at hlk; rw [← hlk]; exact ⟨rfl, _, _, rfl, hr1, fun t ht => by cases ht; rfl⟩)
 refine sD (nS (cF rfl ?_))
 refine tK (nrm_block (nS (tR (sQ (pM rfl) rfl (sP (pure_sub rfl rfl (by omega) (by omega)) rfl rfl ?_)))))
 refine sQ (pA rfl) rfl (sD (nrm_loopN j ?_ ?_ ?_))
 exact sMk
 (rw [lookN_ne hcx (by assumption)] at hlk; exact ⟨by omega, hlk⟩)
 (show _ < _ + 1; omega)
 refine sD (nS (cF rfl ?_))
 refine tri_exit ?_
 refine ext_seq ?_
 refine ext_loopN ?_
 refine ext_block_eq ?_
 refine nS (tS (tR (sQ (pBd rfl rfl) rfl (sS' ?_))))
 refine sQ (pA rfl) rfl (sD (nS (tT (rF2 (rC rfl (lBa rfl rfl)) (rT rfl) ?_))))
 (obtain rfl : i = 0 := (by omega); rw [lookN] at hlk; rw [← hlk]; exact ⟨rfl, _, ty0, rfl, tyLeaf_r _ ⟨by omega, by omega⟩, fun t ht => by cases ht⟩)
theorem mMeetL_two {xs ys : List Ty} (h : xs.length = 2) (h' : ys.length = 2) : mMeetL xs ys = [mMeet (xs[0]'(by omega)) (ys[0]'(by omega)), mMeet (xs[1]'(by omega)) (ys[1]'(by omega))] := by
 match xs, ys, h, h' with
 | [a, b], [c, d], _, _ => rfl
theorem cons_same {k k' : Int} {ks bs : List Ty} (h : tCons (.mk k ks) (.mk k' bs) = true) (hk : k ≠ 1) (hk' : k' ≠ 1) : k = k' ∧ tConsL ks bs = true := by
 rw [tCons_mk] at h
 simpa [hk, hk'] using h
theorem meet_fn : ∀ (a b : Ty) (G : IM) (ca cb : List Value), tCons a b = true → tAr a → tAr b → RTy G a ca → RTy G b cb →
  Fn Tryz.prog 124 [.agg ⟨ca⟩, .agg ⟨cb⟩] [] G (RetTy (mMeet a b) G) := by
 refine Ty.ind fun k ks ih b G ca cb hc haa hab hra hrb => ?_
 have hsa := haa.small
 have hsb := hab.small
 obtain ⟨bk, bks⟩ := b
 have hra0 := hra
 have hrb0 := hrb
 have ha2 := haa
 have hb2 := hab
 rw [tAr] at ha2 hb2
 have hkida := haa.kid
 have hkidb := hab.kid
 obtain ⟨p, c, es, rfl, hk, hsl, hkl⟩ := hra.open
 obtain ⟨p', c', es', rfl, hk', hsl', hkl'⟩ := hrb.open
 simp only [Ty.k, Ty.ks] at hk hsl hkl hk' hsl' hkl' ⊢
 have hn := hsl.le
 rw [mMeet_mk]
 refine fn_enter Tryz.func124 rfl Tryz.ntmps124 Tryz.results124 rfl ?_
 intro w0
 refine tS (tR ?_)
 refine sE (step_box_a rfl rfl) rfl (fun b3 => ?_)
 refine sE (step_box_a rfl rfl) rfl (fun b4 => ?_)
 refine sE (step_alloc rfl) rfl (fun b5 => ?_)
 refine sD (nS (tS (tri_block (tS (tR (sQ (pF0 rfl) rfl ?_))))))
 refine sL (lBs rfl rfl) rfl rfl ?_
 refine sB (pE rfl rfl) rfl rfl (fun h14 => ?_) (fun h14 => ?_)
 refine sQ (pA rfl) rfl (sD (nS (cT rfl ?_)))
 refine tS (tR (sL (lBa rfl rfl) rfl rfl ?_))
 (refine seq_imm rfl (ownType_fn _ _ _ hsb hrb0) rfl rfl (fun v G1 hle1 hh => ?_); obtain ⟨cs1, F1, rfl, hs1, hn1⟩ := hh; obtain ⟨p1, c1, rfl, _⟩ := hs1.open; have hr1 := hs1.R.mono (Dif.le G1 _))
 refine sS' ?_
 refine sD (nS (tT (rB (rS (rF1 (rC rfl (lBa rfl rfl)) ?_)))))
 (rw [if_pos (by omega)]; exact ⟨rfl, _, rfl, hr1⟩)
 refine sQ (pA rfl) rfl (sD (nS (cF rfl ?_)))
 refine tS (tR (sQ (pF0 rfl) rfl (sL (lBs rfl rfl) rfl rfl ?_)))
 refine sB (pE rfl rfl) rfl rfl (fun h39 => ?_) (fun h39 => ?_)
 refine sQ (pM rfl) rfl (sK rfl rfl (sK rfl rfl (sK rfl rfl (sK rfl rfl (sQ (pPt rfl rfl) rfl (sQ (pA rfl) rfl ?_))))))
 refine sD (nS (cT rfl ?_))
 refine tS (tR (sL (lBa rfl rfl) rfl rfl ?_))
 (refine seq_imm rfl (ownType_fn _ _ _ hsa hra0) rfl rfl (fun v G1 hle1 hh => ?_); obtain ⟨cs1, F1, rfl, hs1, hn1⟩ := hh; obtain ⟨p1, c1, rfl, _⟩ := hs1.open; have hr1 := hs1.R.mono (Dif.le G1 _))
 refine sS' ?_
 refine sD (nS (tT (rB (rS (rF1 (rC rfl (lBa rfl rfl)) ?_)))))
 (rw [if_neg (by omega)]; split <;> first | exact ⟨rfl, _, rfl, hr1⟩ | (obtain rfl : ks = [] := List.length_eq_zero_iff.1 (by omega); rw [mMeetL]; exact ⟨rfl, _, rfl, hr1⟩; simp))
 refine sQ (pM rfl) rfl (sQ (pF0 rfl) rfl (sL (lBs rfl rfl) rfl rfl ?_))
 refine sQ (pLn rfl rfl) rfl (sB (pE rfl rfl) rfl rfl (fun h66 => ?_) (fun h66 => ?_))
 refine sQ (pPf rfl rfl) rfl (sQ (pA rfl) rfl (sD (nS (cT rfl ?_))))
 refine tS (tR (sL (lBa rfl rfl) rfl rfl ?_))
 (refine seq_imm rfl (ownType_fn _ _ _ hsa hra0) rfl rfl (fun v G1 hle1 hh => ?_); obtain ⟨cs1, F1, rfl, hs1, hn1⟩ := hh; obtain ⟨p1, c1, rfl, _⟩ := hs1.open; have hr1 := hs1.R.mono (Dif.le G1 _))
 refine sS' ?_
 refine sD (nS (tT (rB (rS (rF1 (rC rfl (lBa rfl rfl)) ?_)))))
 (rw [if_neg (by omega)]; split <;> first | exact ⟨rfl, _, rfl, hr1⟩ | (obtain rfl : ks = [] := List.length_eq_zero_iff.1 (by omega); rw [mMeetL]; exact ⟨rfl, _, rfl, hr1⟩; simp))
 refine sQ (pPf rfl rfl) rfl (sQ (pA rfl) rfl (sD (nS (cF rfl ?_))))
 refine tK (nrm_block (nS (tS ?_)))
 (obtain ⟨hkk, hcl0⟩ := cons_same hc (by omega) (by omega); subst hkk; have hcl := (tConsL_iff _ _).1 hcl0; have hlen : ks.length = 2 := (by have := ha2.2.1; have := ha2.1; omega); have hlen' : bks.length = 2 := (by omega); obtain ⟨b0, o0, q0, d0, hp0, hat0, hre0, hg0⟩ := hsl.kidTy hkl (i := 0) (by omega) (by omega); obtain ⟨b1, o1, q1, d1, hp1, hat1, hre1, hg1⟩ := hsl.kidTy hkl (i := 1) (by omega) (by omega); subst hp0; cases hp1; obtain ⟨b2, o2, q2, d2, hp2, hat2, hre2, hg2⟩ := hsl'.kidTy hkl' (i := 0) (by omega) (by omega); obtain ⟨b3, o3, q3, d3, hp3, hat3, hre3, hg3⟩ := hsl'.kidTy hkl' (i := 1) (by omega) (by omega); subst hp2; cases hp3; have hM1 := ih ks[0] (List.getElem_mem (by omega)) bks[0] G _ _ (hcl.2 0 (by omega) (by omega)) (hkida _ (List.getElem_mem (by omega))) (hkidb _ (List.getElem_mem (by omega))) hre0 hre2; refine tri_draw mixed rfl ?_)
 refine any_pure (i := 0) (l' := [tt,ff,ff,ff,ff,ff,ff,ff,ff,ff,ff,ff,ff,ff,ff,ff,ff,ff,ff,ff,ff,ff]) rfl npI (pF0 rfl) rfl (by kernel_rfl) rfl rfl ?_
 refine aL 1 rfl (lBs rfl rfl) rfl ?_
 refine aP 2 rfl (pF0 rfl) rfl ?_
 refine aL 3 rfl (lBs rfl rfl) rfl ?_
 refine aP 4 rfl (pIN (j := 0) rfl rfl rfl (by omega)) rfl ?_
 refine aL 5 rfl (load_a rfl rfl (hat0 _) rfl) rfl ?_
 refine aP 6 rfl (pF0 rfl) rfl ?_
 refine aL 7 rfl (lBs rfl rfl) rfl ?_
 refine aP 8 rfl (pIN (j := 0) rfl rfl rfl (by omega)) rfl ?_
 refine aL 9 rfl (load_a rfl rfl (hat2 _) rfl) rfl ?_
 refine aP 11 rfl (pF0 rfl) rfl ?_
 refine aL 12 rfl (lBs rfl rfl) rfl ?_
 refine aP 13 rfl (pIN (j := 1) rfl rfl rfl (by omega)) rfl ?_
 refine aL 14 rfl (load_a rfl rfl (hat1 _) rfl) rfl ?_
 refine aP 15 rfl (pF0 rfl) rfl ?_
 refine aL 16 rfl (lBs rfl rfl) rfl ?_
 refine aP 17 rfl (pIN (j := 1) rfl rfl rfl (by omega)) rfl ?_
 refine aL 18 rfl (load_a rfl rfl (hat3 _) rfl) rfl ?_
 refine aO' 10 ?_
 (refine one_imm rfl rfl hM1 rfl rfl rfl (fun v G1 hle1 hh => ?_); obtain ⟨cm1, rfl, hm1⟩ := hh; have hM2 := ih ks[1] (List.getElem_mem (by omega)) bks[1] G1 _ _ (hcl.2 1 (by omega) (by omega)) (hkida _ (List.getElem_mem (by omega))) (hkidb _ (List.getElem_mem (by omega))) (hre1.mono hle1) (hre3.mono hle1))
 refine aO' 19 ?_
 (refine one_imm rfl rfl hM2 rfl rfl rfl (fun v G2 hle2 hh => ?_); obtain ⟨cm2, rfl, hm2⟩ := hh; have hB := both_fn k _ _ G2 _ _ hk (hm1.mono hle2) hm2)
 refine aO' 20 ?_
 (refine one_imm rfl rfl hB rfl rfl rfl (fun v G3 hle3 hh => ?_); obtain ⟨cm3, rfl, hm3⟩ := hh; obtain ⟨p5, c5, e5, rfl, _⟩ := hm3.open)
 refine aO' 21 ?_
 refine oT' rfl ?_
 refine aD' ?_
 refine nS (tT (rF1 (rC rfl (lBa rfl rfl)) ?_))
 (rw [if_neg (by omega), if_neg (by omega)]; rw [mMeetL_two hlen hlen']; exact ⟨rfl, _, rfl, hm3⟩)
theorem clone_tm (G : IM) (p : Option Addr) (n c : Nat) (es : List (List Value)) (h : SlE G p n c 9 es) (h0 : 0 < n) (hn : n ≤ 4294967296) :
  Fn Tryz.prog 155 [.slice p n c] [] G (fun G' v outs => G' = G ∧ ∃ p' c', v = .slice p' n c' ∧ outs = [.slc p' c' 35 9 n es.flatten]) := by
 obtain ⟨hl, hc, hm, hat⟩ := h.sl
 obtain ⟨b, o, full, rfl, hg, hv⟩ := hat.resolve_left (by omega)
 have ho : ∀ u ∈ es.flatten, u.oneCell' = true := by
  intro u hu
  obtain ⟨e, he, hue⟩ := List.mem_flatten.1 hu
  exact List.all_eq_true.1 (h.one e he) u hue
 refine fn_enter Tryz.func155 rfl Tryz.ntmps155 Tryz.results155 rfl ?_
 intro w0
 refine tS (tR (sQ (pA rfl) rfl (sD (nS (tS (tS ?_))))))
 refine tR (sQ (pM rfl) rfl (sQ (pure_slnil_f rfl rfl rfl) rfl (sD (nS (cF rfl ?_)))))
 refine tK (nS (tS (tR ?_)))
 (refine seq_step (step_buildSlice rfl rfl rfl (by omega) (by unfold maxLen; omega) rfl) rfl ?_; rintro _ ⟨b18, rfl⟩)
 refine sQ (pM rfl) rfl (seq_append rfl rfl rfl rfl rfl (fun _ _ => by repeat (first | exact Sw.here | apply Sw.there)) (at_im hg hv) hl ho (by unfold maxLen; omega) (by omega) rfl (fun pn cn => ?_))
 refine sQ (pA rfl) rfl (sD (nS (tT (ret_own1 (rT rfl) SubH.refl ?_))))
 exact ⟨rfl, _, _, by rw [Nat.zero_add], by rw [Nat.zero_add]; rfl⟩
theorem At.mono' {hp : List Ent} {G G' : IM} {b o : Nat} {vs : List Value} (hg : IMle G G') (h : At [] G b o vs) : At hp G' b o vs := by
 rcases h with ⟨cs, hm, hv⟩ | ⟨n, c, el, sz, cs, hm, hv⟩ | ⟨full, hx, hv⟩
 ·cases hm
 ·cases hm
 ·exact .inr (.inr ⟨full, hg _ _ hx, hv⟩)
end Gw
end Go.Proofs.YtmnfamimopcldaaGreatDoor
