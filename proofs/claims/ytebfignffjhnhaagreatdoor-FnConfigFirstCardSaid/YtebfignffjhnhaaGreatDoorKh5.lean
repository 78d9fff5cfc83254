/-
  The program's evaluator: replacing a name, casts, nodes. The program's evaluator: casts, nodes, the rules without casts. The program's evaluator: the rules of casts. The program's evaluator: the rules of casts, selections and casts themselves. The program's evaluator: a step. The program's evaluator: step. The program's evaluator: StepCast, runs of steps, their results. Types are kept by steps; a closed term with a type does not get stuck, and what is blamed is a label of its casts. A term with its casts put in is valid, and has the type that the term has. Terms that hold a type. Precision of terms, on both sides. Values of the stack machine: as trees, and as they lie in memory; what an instruction does, in plain words. The reference's decimal digits of a number. The program's RunTerm: texts of values. The program's insertion of casts: a cast.
-/
import Derived.Test.YtebfignffjhnhaaGreatDoorKh4
import Derived.Test.YtebfignffjhnhaaGreatDoorKh1
import Derived.Test.YtebfignffjhnhaaGreatDoorKh3
import Derived.Test.YtebfignffjhnhaaGreatDoorKh2
import Derived.Lib.ItoaNum
set_option linter.unusedVariables false
set_option linter.unusedSimpArgs false
set_option maxHeartbeats 0
set_option maxRecDepth 100000
set_option synthInstance.maxSize 4000
set_option synthInstance.maxHeartbeats 0
namespace Go.Proofs.YtebfignffjhnhaaGreatDoor
open Go Go.RowKit
namespace Gw
theorem B1.put {G : IM} {k : Int} {nm : ByteArray} {num tk fk lb : Int} {tks fks : List Ty} {us : List Tm} {pt pf p : Option Addr} {ct cf n c : Nat} {es : List (List Value)} (hk : F8 k) (hnum : F8 num) (hlb : F8 lb) (hty : C3 G (.mk tk tks) [.int .i64 tk, .slice pt tks.length ct]) (hfr : C3 G (.mk fk fks) [.int .i64 fk, .slice pf fks.length cf])
  (hn : n = us.length) (hs : D7 G p n c 9 es) (hr : E1 G us es) : B1 G (.mk k nm num (.mk tk tks) (.mk fk fks) lb us) [.int .i64 k, .string nm, .int .i64 num, .int .i64 tk, .slice pt tks.length ct, .int .i64 fk, .slice pf fks.length cf, .int .i64 lb, .slice p n c] := by
 subst hn
 simp only [B1]
 exact ⟨_, _, p, c, es, rfl, hk, hnum, hlb, hty, hfr, hs, hr⟩
theorem nine {uc : List Value} (h : uc.length = 9) : ∃ v1 v2 v3 v4 v5 v6 v7 v8 v9, uc = [v1, v2, v3, v4, v5, v6, v7, v8, v9] := by
 match uc, h with
 | [a, b, c, d, e, f, g, i, j], _ => exact ⟨a, b, c, d, e, f, g, i, j, rfl⟩
theorem B0u {x : ByteArray} {v : Tm} {ks : List Tm} {i : Nat} (h : i < ks.length) : (S7 x v ks).take (i + 1) = (S7 x v ks).take i ++ [T7 x v ks[i]] := by
 rw [A45, List.take_succ_eq_append_getElem (by rw [List.length_map]; exact h), List.getElem_map]
theorem A1x (x : ByteArray) (v : Tm) (ks : List Tm) : (S7 x v ks).length = ks.length := by rw [A45, List.length_map]
theorem A2Q {Q : Prop} (h : Q := by (exact ⟨Nat.zero_le _, C2.refl _, by simp [E1]⟩)) : Q := h
theorem A66 {Q : Prop} (h : Q := by (dsimp only; exact ⟨by omega, hle.trans hle1, by rw [B0u (by omega)]; exact E1.snoc (hst.mono hle1) hru⟩)) : Q := h
theorem A67 {Q : Prop} (h : Q := by (rw [if_neg (by rintro ⟨h1, h2⟩; first | omega | contradiction), if_neg (by rintro ⟨h1, h2⟩; first | omega | contradiction)]; rw [List.take_of_length_le (by rw [A1x]; omega)] at hst; exact W6.mk (B1.put hk hnum hlb (hty.mono hle2) (hfr.mono hle2) (by rw [A1x]) (D7.of hsl2 (by omega) hst.all (fun e he => (hst.each e he).2)) (hst.mono hle2)))) : Q := h
theorem B5x (y : ByteArray) (v : Tm) (vc : List Value) : ∀ (t : Tm) (G : IM) (cells : List Value), t.small → B1 G t cells → B1 G v vc → Fn Tryz.prog 239 [.agg ⟨cells⟩, .string y, .agg ⟨vc⟩] [] G (W6 (T7 y v t)) := by
 refine Tm.ind fun k nm num ty fr lb ks ih G cells hts hr hv => ?_
 have hr0 := hr
 obtain ⟨_, _, _, hsm, hks⟩ := A0s.1 hts
 have hvl := hv.len
 have hvo := hv.one
 have hRl := hr.len
 have hRo := hr.one
 rw [T7]
 obtain ⟨tk, tks⟩ := ty
 obtain ⟨fk, fks⟩ := fr
 obtain ⟨pt, ct, pf, cf, p, c, es, rfl, hk, hnum, hlb, hty, hfr, hsl, hkl⟩ := hr.open9
 have hn := hsl.le
 refine C1 Tryz.func239 rfl Tryz.ntmps239 Tryz.results239 rfl ?_
 intro w0
 refine A3 ?_
 refine sE (C7 rfl rfl) rfl (fun b3 => ?_)
 refine sE (C7 rfl rfl) rfl (fun b4 => ?_)
 refine sE (A7 rfl) rfl (fun b5 => ?_)
 refine B7 ?_
 refine C0 ?_
 refine B4 ?_
 refine sB (qE rfl rfl) rfl rfl (fun h14 => ?_) (fun h14 => ?_)
 refine B4 ?_
 refine sB (A1G rfl rfl) rfl rfl (fun h19 => ?_) (fun h19 => ?_)
 refine B5 ?_
 refine sL (A2 rfl rfl (A9 (by repeat first | exact mH | apply mT)) hvl) rfl rfl ?_
 refine sS rfl rfl rfl hvl hvo rfl ?_ (hu := by exact D4 hvl.symm)
 refine B0 ?_
 refine M3 (rC rfl (A2 rfl rfl (A9 (by repeat first | exact mH | apply mT)) hvl)) ?_
 (rw [if_pos (by refine ⟨by omega, by assumption⟩)]; exact W6.mk hv)
 refine E0 ?_
 refine sP (J8 rfl rfl (by omega)) rfl rfl ?_
 refine K0 ?_
 refine sE (A7 rfl) rfl (fun b62 => ?_)
 refine U7 ?_
 refine C0 ?_
 (refine Q9 37 9 ?_; refine J0 (fun (x : Nat × Option Addr × Nat × List (List Value) × IM) => ⟨[(37, .int .i64 x.1), (36, .int .i64 ks.length), (35, .slice p ks.length c), (1, .string y), (3, .pointer (some ⟨b3, 0, none⟩)), (5, .pointer (some ⟨b4, 0, none⟩)), (6, .pointer (some ⟨b5, 0, none⟩)), (7, .pointer (some ⟨b62, 0, none⟩))], [.blk b62 [.int .i64 k, .string nm, .int .i64 num, .int .i64 tk, .slice pt tks.length ct, .int .i64 fk, .slice pf fks.length cf, .int .i64 lb, .slice x.2.1 x.1 x.2.2.1], .slc x.2.1 x.2.2.1 37 9 x.1 x.2.2.2.1.flatten, .blk b5 [.int .i64 0, .string ⟨⟨[]⟩⟩, .int .i64 0, .int .i64 0, .slice none 0 0, .int .i64 0, .slice none 0 0, .int .i64 0, .slice none 0 0], .blk b4 vc, .blk b3 [.int .i64 k, .string nm, .int .i64 num, .int .i64 tk, .slice pt tks.length ct, .int .i64 fk, .slice pf fks.length cf, .int .i64 lb, .slice p ks.length c]], x.2.2.2.2⟩) (fun x => x.1 ≤ ks.length ∧ C2 G x.2.2.2.2 ∧ E1 x.2.2.2.2 ((S7 y v ks).take x.1) x.2.2.2.1) (fun x => ks.length - x.1) (0, none, 0, [], G) ?_ ?_ ?_)
 (simp only [H6]; exact D2)
 exact A2Q
 (rintro ⟨i, pn, cn, es', Gi⟩ ⟨hi, hle, hst⟩; simp only [] at hi hle hst ⊢; replace hsl := hsl.mono hle; replace hkl := hkl.mono hle; replace hv := hv.mono hle; replace hty := hty.mono hle; replace hfr := hfr.mono hle; have hsl' := hst.len; rw [List.length_take, A1x] at hsl')
 refine A3 ?_
 refine sB (I8 rfl rfl) rfl rfl (fun h88 => ?_) (fun h88 => ?_)
 refine B5 ?_
 refine C0 ?_
 refine A3 ?_
 (have hil : i < ks.length := (by omega); obtain ⟨bx, ox, e, rfl, hl, hat, hre, hgb⟩ := hsl.kidTm hkl (i := i) (by omega) (by omega); have hel := hre.len; have heo := hre.one; refine sP (B6 (j := i) rfl rfl rfl (by omega)) rfl rfl ?_)
 refine sL (A2 rfl rfl (hat _) hl) rfl rfl ?_
 refine sE (A7 rfl) rfl (fun b101 => ?_)
 refine sS rfl rfl rfl hel heo rfl ?_ (hu := by exact D4 hel.symm)
 refine A3 ?_
 refine E2 E4 rfl ?_
 refine L4 (i := 2) (l' := [ff,ff,tt,ff,ff,ff,ff,ff,ff,ff]) rfl D6 (A2 rfl rfl (A9 (by repeat first | exact mH | apply mT)) hel) rfl (by kernel_rfl) rfl rfl ?_
 refine aL 4 rfl (A2 rfl rfl (A9 (by repeat first | exact mH | apply mT)) hvl) rfl ?_
 refine aP 0 rfl (B9 rfl) rfl ?_
 refine aL 1 rfl (C8 rfl rfl) rfl ?_
 refine aP 3 rfl (qM rfl) rfl ?_
 refine A4 5 ?_
 (refine H7 rfl rfl (ih ks[i] (List.getElem_mem (by omega)) Gi _ (Tm.smallL_mem hks _ (List.getElem_mem (by omega))) hre hv) rfl rfl rfl (fun u G1 hle1 hh => ?_); obtain ⟨uc, rfl, hru⟩ := hh; have hul := hru.len; have huo := hru.one; obtain ⟨v1, v2, v3, v4, v5, v6, v7, v8, v9, rfl⟩ := nine hul)
 refine A4 6 ?_
 (refine E5 rfl (D0 rfl rfl rfl (by omega) (by unfold maxLen; omega) rfl) rfl rfl ?_; rintro _ ⟨b114, rfl⟩)
 refine A4 7 ?_
 (refine R0 rfl rfl rfl rfl rfl rfl (fun _ _ => by repeat (first | exact Sw.here | apply Sw.there)) (M1 (by repeat first | exact mH | apply mT)) rfl (fun u hu => List.all_eq_true.1 huo u hu) (by unfold maxLen; omega) (by omega) rfl rfl (by repeat (first | exact B2.nil | apply B2.dep (by decide +kernel) | apply B2.im (by decide +kernel) (by assumption) (by repeat first | exact mH | apply mT) | apply B2.blk (by decide +kernel) (by repeat (first | exact Pk.here | apply Pk.there)) (by repeat first | exact mH | apply mT))) (fun p7 c7 => ?_))
 refine aP 8 rfl (B9 rfl) rfl ?_
 refine A4 9 ?_
 refine R5 rfl rfl rfl rfl rfl rfl rfl rfl (by decide +kernel) (by repeat first | exact Sw.here | apply Sw.there) (by rfl) ?_
 refine B4 ?_
 refine sP (H5 rfl rfl (by omega) (by omega)) rfl rfl ?_
 refine A3 ?_
 refine I1 (i + 1, p7, c7, es' ++ [[v1, v2, v3, v4, v5, v6, v7, v8, v9]], G1) ?_ ?_ ?_
 (simp only [H6]; exact D2)
 exact A66
 exact V0
 refine I7 ?_
 (refine F0 (cs := es'.flatten) (by repeat (first | exact Pk.here | apply Pk.there)) (fun G2 hle2 hsl2 hno2 => ?_); obtain rfl : i = ks.length := (by omega))
 refine tT ?_
 refine M3 (rC rfl (A5 rfl rfl)) ?_
 exact A67
 refine J9 ?_
 refine sB (qE rfl rfl) rfl rfl (fun h164 => ?_) (fun h164 => ?_)
 refine B4 ?_
 refine sB (A1G rfl rfl) rfl rfl (fun h169 => ?_) (fun h169 => ?_)
 refine J9 ?_
 refine M3 (rC rfl (A5 rfl rfl)) ?_
 (rw [if_neg (by rintro ⟨h1, h2⟩; first | omega | contradiction), if_pos (by refine ⟨by omega, by assumption⟩)]; exact W6.mk hr0)
 refine J1 ?_
 refine sE (A7 rfl) rfl (fun b197 => ?_)
 refine U7 ?_
 refine C0 ?_
 (refine Q9 37 9 ?_; refine J0 (fun (x : Nat × Option Addr × Nat × List (List Value) × IM) => ⟨[(37, .int .i64 x.1), (36, .int .i64 ks.length), (35, .slice p ks.length c), (1, .string y), (3, .pointer (some ⟨b3, 0, none⟩)), (5, .pointer (some ⟨b4, 0, none⟩)), (6, .pointer (some ⟨b5, 0, none⟩)), (7, .pointer (some ⟨b197, 0, none⟩))], [.blk b197 [.int .i64 k, .string nm, .int .i64 num, .int .i64 tk, .slice pt tks.length ct, .int .i64 fk, .slice pf fks.length cf, .int .i64 lb, .slice x.2.1 x.1 x.2.2.1], .slc x.2.1 x.2.2.1 37 9 x.1 x.2.2.2.1.flatten, .blk b5 [.int .i64 0, .string ⟨⟨[]⟩⟩, .int .i64 0, .int .i64 0, .slice none 0 0, .int .i64 0, .slice none 0 0, .int .i64 0, .slice none 0 0], .blk b4 vc, .blk b3 [.int .i64 k, .string nm, .int .i64 num, .int .i64 tk, .slice pt tks.length ct, .int .i64 fk, .slice pf fks.length cf, .int .i64 lb, .slice p ks.length c]], x.2.2.2.2⟩) (fun x => x.1 ≤ ks.length ∧ C2 G x.2.2.2.2 ∧ E1 x.2.2.2.2 ((S7 y v ks).take x.1) x.2.2.2.1) (fun x => ks.length - x.1) (0, none, 0, [], G) ?_ ?_ ?_)
 (simp only [H6]; exact D2)
 exact A2Q
 (rintro ⟨i, pn, cn, es', Gi⟩ ⟨hi, hle, hst⟩; simp only [] at hi hle hst ⊢; replace hsl := hsl.mono hle; replace hkl := hkl.mono hle; replace hv := hv.mono hle; replace hty := hty.mono hle; replace hfr := hfr.mono hle; have hsl' := hst.len; rw [List.length_take, A1x] at hsl')
 refine A3 ?_
 refine sB (I8 rfl rfl) rfl rfl (fun h223 => ?_) (fun h223 => ?_)
 refine B5 ?_
 refine C0 ?_
 refine A3 ?_
 (have hil : i < ks.length := (by omega); obtain ⟨bx, ox, e, rfl, hl, hat, hre, hgb⟩ := hsl.kidTm hkl (i := i) (by omega) (by omega); have hel := hre.len; have heo := hre.one; refine sP (B6 (j := i) rfl rfl rfl (by omega)) rfl rfl ?_)
 refine sL (A2 rfl rfl (hat _) hl) rfl rfl ?_
 refine sE (A7 rfl) rfl (fun b236 => ?_)
 refine sS rfl rfl rfl hel heo rfl ?_ (hu := by exact D4 hel.symm)
 refine A3 ?_
 refine E2 E4 rfl ?_
 refine L4 (i := 2) (l' := [ff,ff,tt,ff,ff,ff,ff,ff,ff,ff]) rfl D6 (A2 rfl rfl (A9 (by repeat first | exact mH | apply mT)) hel) rfl (by kernel_rfl) rfl rfl ?_
 refine aL 4 rfl (A2 rfl rfl (A9 (by repeat first | exact mH | apply mT)) hvl) rfl ?_
 refine aP 0 rfl (B9 rfl) rfl ?_
 refine aL 1 rfl (C8 rfl rfl) rfl ?_
 refine aP 3 rfl (qM rfl) rfl ?_
 refine A4 5 ?_
 (refine H7 rfl rfl (ih ks[i] (List.getElem_mem (by omega)) Gi _ (Tm.smallL_mem hks _ (List.getElem_mem (by omega))) hre hv) rfl rfl rfl (fun u G1 hle1 hh => ?_); obtain ⟨uc, rfl, hru⟩ := hh; have hul := hru.len; have huo := hru.one; obtain ⟨v1, v2, v3, v4, v5, v6, v7, v8, v9, rfl⟩ := nine hul)
 refine A4 6 ?_
 (refine E5 rfl (D0 rfl rfl rfl (by omega) (by unfold maxLen; omega) rfl) rfl rfl ?_; rintro _ ⟨b249, rfl⟩)
 refine A4 7 ?_
 (refine R0 rfl rfl rfl rfl rfl rfl (fun _ _ => by repeat (first | exact Sw.here | apply Sw.there)) (M1 (by repeat first | exact mH | apply mT)) rfl (fun u hu => List.all_eq_true.1 huo u hu) (by unfold maxLen; omega) (by omega) rfl rfl (by repeat (first | exact B2.nil | apply B2.dep (by decide +kernel) | apply B2.im (by decide +kernel) (by assumption) (by repeat first | exact mH | apply mT) | apply B2.blk (by decide +kernel) (by repeat (first | exact Pk.here | apply Pk.there)) (by repeat first | exact mH | apply mT))) (fun p7 c7 => ?_))
 refine aP 8 rfl (B9 rfl) rfl ?_
 refine A4 9 ?_
 refine R5 rfl rfl rfl rfl rfl rfl rfl rfl (by decide +kernel) (by repeat first | exact Sw.here | apply Sw.there) (by rfl) ?_
 refine B4 ?_
 refine sP (H5 rfl rfl (by omega) (by omega)) rfl rfl ?_
 refine A3 ?_
 refine I1 (i + 1, p7, c7, es' ++ [[v1, v2, v3, v4, v5, v6, v7, v8, v9]], G1) ?_ ?_ ?_
 (simp only [H6]; exact D2)
 exact A66
 exact V0
 refine I7 ?_
 (refine F0 (cs := es'.flatten) (by repeat (first | exact Pk.here | apply Pk.there)) (fun G2 hle2 hsl2 hno2 => ?_); obtain rfl : i = ks.length := (by omega))
 refine tT ?_
 refine M3 (rC rfl (A5 rfl rfl)) ?_
 exact A67
 refine K0 ?_
 refine sE (A7 rfl) rfl (fun b301 => ?_)
 refine U7 ?_
 refine C0 ?_
 (refine Q9 37 9 ?_; refine J0 (fun (x : Nat × Option Addr × Nat × List (List Value) × IM) => ⟨[(37, .int .i64 x.1), (36, .int .i64 ks.length), (35, .slice p ks.length c), (1, .string y), (3, .pointer (some ⟨b3, 0, none⟩)), (5, .pointer (some ⟨b4, 0, none⟩)), (6, .pointer (some ⟨b5, 0, none⟩)), (7, .pointer (some ⟨b301, 0, none⟩))], [.blk b301 [.int .i64 k, .string nm, .int .i64 num, .int .i64 tk, .slice pt tks.length ct, .int .i64 fk, .slice pf fks.length cf, .int .i64 lb, .slice x.2.1 x.1 x.2.2.1], .slc x.2.1 x.2.2.1 37 9 x.1 x.2.2.2.1.flatten, .blk b5 [.int .i64 0, .string ⟨⟨[]⟩⟩, .int .i64 0, .int .i64 0, .slice none 0 0, .int .i64 0, .slice none 0 0, .int .i64 0, .slice none 0 0], .blk b4 vc, .blk b3 [.int .i64 k, .string nm, .int .i64 num, .int .i64 tk, .slice pt tks.length ct, .int .i64 fk, .slice pf fks.length cf, .int .i64 lb, .slice p ks.length c]], x.2.2.2.2⟩) (fun x => x.1 ≤ ks.length ∧ C2 G x.2.2.2.2 ∧ E1 x.2.2.2.2 ((S7 y v ks).take x.1) x.2.2.2.1) (fun x => ks.length - x.1) (0, none, 0, [], G) ?_ ?_ ?_)
 (simp only [H6]; exact D2)
 exact A2Q
 (rintro ⟨i, pn, cn, es', Gi⟩ ⟨hi, hle, hst⟩; simp only [] at hi hle hst ⊢; replace hsl := hsl.mono hle; replace hkl := hkl.mono hle; replace hv := hv.mono hle; replace hty := hty.mono hle; replace hfr := hfr.mono hle; have hsl' := hst.len; rw [List.length_take, A1x] at hsl')
 refine A3 ?_
 refine sB (I8 rfl rfl) rfl rfl (fun h327 => ?_) (fun h327 => ?_)
 refine B5 ?_
 refine C0 ?_
 refine A3 ?_
 (have hil : i < ks.length := (by omega); obtain ⟨bx, ox, e, rfl, hl, hat, hre, hgb⟩ := hsl.kidTm hkl (i := i) (by omega) (by omega); have hel := hre.len; have heo := hre.one; refine sP (B6 (j := i) rfl rfl rfl (by omega)) rfl rfl ?_)
 refine sL (A2 rfl rfl (hat _) hl) rfl rfl ?_
 refine sE (A7 rfl) rfl (fun b340 => ?_)
 refine sS rfl rfl rfl hel heo rfl ?_ (hu := by exact D4 hel.symm)
 refine A3 ?_
 refine E2 E4 rfl ?_
 refine L4 (i := 2) (l' := [ff,ff,tt,ff,ff,ff,ff,ff,ff,ff]) rfl D6 (A2 rfl rfl (A9 (by repeat first | exact mH | apply mT)) hel) rfl (by kernel_rfl) rfl rfl ?_
 refine aL 4 rfl (A2 rfl rfl (A9 (by repeat first | exact mH | apply mT)) hvl) rfl ?_
 refine aP 0 rfl (B9 rfl) rfl ?_
 refine aL 1 rfl (C8 rfl rfl) rfl ?_
 refine aP 3 rfl (qM rfl) rfl ?_
 refine A4 5 ?_
 (refine H7 rfl rfl (ih ks[i] (List.getElem_mem (by omega)) Gi _ (Tm.smallL_mem hks _ (List.getElem_mem (by omega))) hre hv) rfl rfl rfl (fun u G1 hle1 hh => ?_); obtain ⟨uc, rfl, hru⟩ := hh; have hul := hru.len; have huo := hru.one; obtain ⟨v1, v2, v3, v4, v5, v6, v7, v8, v9, rfl⟩ := nine hul)
 refine A4 6 ?_
 (refine E5 rfl (D0 rfl rfl rfl (by omega) (by unfold maxLen; omega) rfl) rfl rfl ?_; rintro _ ⟨b353, rfl⟩)
 refine A4 7 ?_
 (refine R0 rfl rfl rfl rfl rfl rfl (fun _ _ => by repeat (first | exact Sw.here | apply Sw.there)) (M1 (by repeat first | exact mH | apply mT)) rfl (fun u hu => List.all_eq_true.1 huo u hu) (by unfold maxLen; omega) (by omega) rfl rfl (by repeat (first | exact B2.nil | apply B2.dep (by decide +kernel) | apply B2.im (by decide +kernel) (by assumption) (by repeat first | exact mH | apply mT) | apply B2.blk (by decide +kernel) (by repeat (first | exact Pk.here | apply Pk.there)) (by repeat first | exact mH | apply mT))) (fun p7 c7 => ?_))
 refine aP 8 rfl (B9 rfl) rfl ?_
 refine A4 9 ?_
 refine R5 rfl rfl rfl rfl rfl rfl rfl rfl (by decide +kernel) (by repeat first | exact Sw.here | apply Sw.there) (by rfl) ?_
 refine B4 ?_
 refine sP (H5 rfl rfl (by omega) (by omega)) rfl rfl ?_
 refine A3 ?_
 refine I1 (i + 1, p7, c7, es' ++ [[v1, v2, v3, v4, v5, v6, v7, v8, v9]], G1) ?_ ?_ ?_
 (simp only [H6]; exact D2)
 exact A66
 exact V0
 refine I7 ?_
 (refine F0 (cs := es'.flatten) (by repeat (first | exact Pk.here | apply Pk.there)) (fun G2 hle2 hsl2 hno2 => ?_); obtain rfl : i = ks.length := (by omega))
 refine tT ?_
 refine M3 (rC rfl (A5 rfl rfl)) ?_
 exact A67
theorem A1y (e : Tm) (a b : Ty) (l : Int) (G : IM) (ce ca cb : List Value) (hl : F8 l) (he : B1 G e ce) (ha : C3 G a ca) (hb : C3 G b cb) : Fn Tryz.prog 241 [.agg ⟨ce⟩, .agg ⟨ca⟩, .agg ⟨cb⟩, .int .i64 l] [] G (W6 (L3 e a b l)) := by
 have hel := he.len
 have heo := he.one
 obtain ⟨v1, v2, v3, v4, v5, v6, v7, v8, v9, rfl⟩ := nine hel
 obtain ⟨ak, aks⟩ := a
 obtain ⟨bk, bks⟩ := b
 obtain ⟨pa, cca, ea, rfl, _⟩ := ha.open
 obtain ⟨pb, ccb, eb, rfl, _⟩ := hb.open
 refine C1 Tryz.func241 rfl Tryz.ntmps241 Tryz.results241 rfl ?_
 intro w0
 refine A3 ?_
 refine sE (C7 rfl rfl) rfl (fun b3 => ?_)
 refine sE (C7 rfl rfl) rfl (fun b4 => ?_)
 refine sE (C7 rfl rfl) rfl (fun b5 => ?_)
 refine sE (A7 rfl) rfl (fun b6 => ?_)
 refine B4 ?_
 refine sL (A2 rfl rfl (A9 (by repeat first | exact mH | apply mT)) rfl) rfl rfl ?_
 refine sL (A2 rfl rfl (A9 (by repeat first | exact mH | apply mT)) rfl) rfl rfl ?_
 refine E3 ?_
 refine sL (A2 rfl rfl (A9 (by repeat first | exact mH | apply mT)) rfl) rfl rfl ?_
 (refine I3 (D0 rfl rfl rfl (by omega) (by unfold maxLen; omega) rfl) rfl ?_; rintro _ ⟨b15, rfl⟩)
 refine B4 ?_
 (refine F0 (cs := [v1, v2, v3, v4, v5, v6, v7, v8, v9]) (by repeat (first | exact Pk.here | apply Pk.there)) (fun G2 hle2 hsl2 hno2 => ?_))
 refine tT ?_
 refine M3 (rC rfl (A5 rfl rfl)) ?_
 (exact W6.mk (B1.put (us := [e]) (es := [[v1, v2, v3, v4, v5, v6, v7, v8, v9]]) ⟨by decide, by decide⟩ ⟨by decide, by decide⟩ hl (hb.mono hle2) (ha.mono hle2) rfl (D7.of hsl2 rfl (by intro x hx; obtain rfl := List.mem_singleton.1 hx; rfl) (by intro x hx; obtain rfl := List.mem_singleton.1 hx; exact heo)) (by simp only [E1]; exact ⟨_, _, rfl, he.mono hle2, rfl⟩)))
theorem A3v (k : Int) (p : Option Addr) (n c : Nat) (G : IM) : Fn Tryz.prog 242 [.int .i64 k, .slice p n c] [] G (I5 (.agg ⟨[.int .i64 k, .string ⟨⟨[]⟩⟩, .int .i64 0, .int .i64 0, .slice none 0 0, .int .i64 0, .slice none 0 0, .int .i64 0, .slice p n c]⟩) G) := by
 refine C1 Tryz.func242 rfl Tryz.ntmps242 Tryz.results242 rfl ?_
 intro w0
 refine A3 ?_
 refine sE (A7 rfl) rfl (fun b3 => ?_)
 refine J1 ?_
 refine M3 (rC rfl (A5 rfl rfl)) ?_
 (exact ⟨rfl, rfl, rfl⟩)
theorem B5y (G : IM) {k : Int} (hk : F8 k) : B1 G (A0r k []) [.int .i64 k, .string ⟨⟨[]⟩⟩, .int .i64 0, .int .i64 0, .slice none 0 0, .int .i64 0, .slice none 0 0, .int .i64 0, .slice none 0 0] := A0X hk rfl (D7.nil _ _) rfl
theorem A5j {Q : Prop} (h : Q := by (exact W6.mk (B5y _ ⟨by decide, by decide⟩))) : Q := h
theorem B5z (G : IM) : Fn Tryz.prog 240 [.bool true] [] G (W6 (Z7 (true = true))) := by
 refine C1 Tryz.func240 rfl Tryz.ntmps240 Tryz.results240 rfl ?_
 intro w0
 refine A3 ?_
 refine sE (A7 rfl) rfl (fun b3 => ?_)
 refine J1 ?_
 refine E8 rfl ((A3v _ _ _ _ _)) rfl rfl ?_
 refine B0 ?_
 refine M3 (rC rfl (A5 rfl rfl)) ?_
 exact A5j
theorem B5A (G : IM) : Fn Tryz.prog 240 [.bool false] [] G (W6 (Z7 (false = true))) := by
 refine C1 Tryz.func240 rfl Tryz.ntmps240 Tryz.results240 rfl ?_
 intro w0
 refine A3 ?_
 refine sE (A7 rfl) rfl (fun b3 => ?_)
 refine J7 ?_
 refine E8 rfl ((A3v _ _ _ _ _)) rfl rfl ?_
 refine B4 ?_
 refine M3 (rC rfl (A5 rfl rfl)) ?_
 exact A5j
theorem B0v (b : Bool) (G : IM) : Fn Tryz.prog 240 [.bool b] [] G (W6 (Z7 (b = true))) := by
 cases b
 ·exact B5A G
 ·exact B5z G
theorem B0w {a b : Int} (h : 0 ≤ a ∧ a ≤ 999) (h' : 0 ≤ b ∧ b ≤ 999) : (a + b).tmod 1000 = (a + b) % 1000 := by
 rw [Int.tmod_eq_emod_of_nonneg (by omega)]
def Y1 (k : Int) (ks : List Tm) : Option Tm :=
 if k = 6 then (if (kd ks 0).k = 5 then some (T7 (kd ks 0).nm (kd ks 1) (kd (kd ks 0).ks 0)) else none)
 else if k = 7 ∨ k = 8 then (if (kd ks 0).k = 2 ∧ (kd ks 1).k = 2 then some (if k = 7 then A2D (((kd ks 0).num + (kd ks 1).num) % 1000) else Z7 ((kd ks 0).num < (kd ks 1).num)) else none)
 else if k = 9 then (if (kd ks 0).k = 3 then some (kd ks 1) else if (kd ks 0).k = 4 then some (kd ks 2) else none)
 else if k = 11 ∨ k = 12 then (if (kd ks 0).k = 10 then some (kd (kd ks 0).ks (k - 11).toNat) else none)
 else none
def V5 (o : Option Tm) : IM → Value → List A6 → Prop := K1 fun G' v => ∃ u cells c, v = .tuple ⟨[.agg ⟨cells⟩, .int .i64 c]⟩ ∧ B1 G' u cells ∧ (∀ x, o = some x → c = 1 ∧ u = x) ∧ (o = none → c = 3)
theorem V5.yes {G : IM} {o : Option Tm} {u : Tm} {cells : List Value} (h : o = some u) (hr : B1 G u cells) : V5 o G (.tuple ⟨[.agg ⟨cells⟩, .int .i64 1]⟩) [] := by
 subst h; exact ⟨rfl, u, cells, 1, rfl, hr, fun x hx => (by cases hx; exact ⟨rfl, rfl⟩), fun h => (by cases h)⟩
theorem V5.no {G : IM} {o : Option Tm} {u : Tm} {cells : List Value} (h : o = none) (hr : B1 G u cells) : V5 o G (.tuple ⟨[.agg ⟨cells⟩, .int .i64 3]⟩) [] := by
 subst h; exact ⟨rfl, u, cells, 3, rfl, hr, fun x hx => (by cases hx), fun _ => rfl⟩
theorem P6 (G : IM) : B1 G K7 [.int .i64 0, .string ⟨⟨[]⟩⟩, .int .i64 0, .int .i64 0, .slice none 0 0, .int .i64 0, .slice none 0 0, .int .i64 0, .slice none 0 0] := (P2.zero G).R
theorem A2R {Q : Prop} (h : Q := by (exact V5.no (by rw [if_neg (by omega)]) (P6 _))) : Q := h
theorem B5B (a b : Tm) (nm : ByteArray) (num : Int) (ty fr : Ty) (lb : Int) (G : IM) (cells : List Value) (hca : cv a) (hr : B1 G (.mk 6 nm num ty fr lb [a, b]) cells) : Fn Tryz.prog 229 [.agg ⟨cells⟩] [] G (V5 (Y1 6 [a, b])) := by
 have hsm := A2F a hca
 obtain ⟨ak, anm, anum, ⟨atk, atks⟩, ⟨afk, afks⟩, alb, aks⟩ := a
 obtain ⟨tk, tks⟩ := ty
 obtain ⟨fk, fks⟩ := fr
 obtain ⟨pt, ct, pf, cf, p, c, es, rfl, hk, hnum, hlb, hty, hfr, hsl, hkl⟩ := hr.open9
 obtain ⟨bx, ox, e0, rfl, hl0, hat0, hre0, hgb0⟩ := hsl.kidTm hkl (i := 0) (by simp) (by simp)
 replace hre0 : B1 G (.mk ak anm anum (.mk atk atks) (.mk afk afks) alb aks) e0 := hre0
 obtain ⟨apt, act, apf, acf, ap, ac, aes, rfl, hak, hanum, halb, haty, hafr, hasl, hakl⟩ := hre0.open9
 obtain ⟨_, _, e1, hp1, hl1, hat1, hre1, hgb1⟩ := hsl.kidTm hkl (i := 1) (by simp) (by simp)
 cases hp1
 replace hre1 : B1 G b e1 := hre1
 have ho1 := hre1.one
 obtain ⟨hN, _⟩ := hca.node
 have hops := hN.ops
 obtain ⟨_, _, _, _, hksm⟩ := A0s.1 hsm
 have h1 : ak = 5 → aks.length = 1 := fun h => by rw [h] at hops; have : E6 5 = 1 := rfl; omega
 have hL : ([Tm.mk ak anm anum (.mk atk atks) (.mk afk afks) alb aks, b] : List Tm).length = 2 := rfl
 rw [show Y1 6 [Tm.mk ak anm anum (.mk atk atks) (.mk afk afks) alb aks, b] = (if ak = 5 then some (T7 anm b (kd aks 0)) else none) from rfl]
 refine C1 Tryz.func229 rfl Tryz.ntmps229 Tryz.results229 rfl ?_
 intro w0
 refine A3 ?_
 refine sE (C7 rfl rfl) rfl (fun b3 => ?_)
 refine sE (A7 rfl) rfl (fun b4 => ?_)
 refine A8 ?_
 refine sE (A7 rfl) rfl (fun b11 => ?_)
 refine E0 ?_
 refine sP (A3K rfl rfl (by omega)) rfl rfl ?_
 refine A8 ?_
 refine sP (B6 (j := 0) rfl rfl rfl (by simp)) rfl rfl ?_
 refine sL (A2 rfl rfl (hat0 _) rfl) rfl rfl ?_
 refine J3 ?_
 refine C0 ?_
 refine A3 ?_
 refine sP (X5 rfl rfl (by omega)) rfl rfl ?_
 refine D1 ?_
 refine sB (qE rfl rfl) rfl rfl (fun h52 => ?_) (fun h52 => ?_)
 refine B4 ?_
 (have hq : ak = 5 := (by omega); have hq1 := h1 hq; obtain ⟨bq, oq, e3, rfl, hl3, hat3, hre3, hgb3⟩ := hasl.kidTm hakl (i := 0) (by omega) (by omega); have hS := B5x anm b e1 aks[0] G e3 (Tm.smallL_mem hksm _ (List.getElem_mem (by omega))) hre3 hre1; refine E2 E4 rfl ?_)
 refine J4 (i := 0) (l' := [tt,ff,ff,ff,ff,ff,ff,ff,ff,ff,ff,ff,ff]) rfl D6 (B9 rfl) rfl (by kernel_rfl) rfl rfl ?_
 refine aL 1 rfl (C8 rfl rfl) rfl ?_
 refine aP 2 rfl (B6 (j := 0) rfl rfl rfl (by omega)) rfl ?_
 refine aL 3 rfl (A2 rfl rfl (hat3 _) hl3) rfl ?_
 refine aP 4 rfl (B9 rfl) rfl ?_
 refine aL 5 rfl (C8 rfl rfl) rfl ?_
 refine aP 6 rfl (B9 rfl) rfl ?_
 refine aL 7 rfl (C8 rfl rfl) rfl ?_
 refine aP 8 rfl (B6 (j := 1) rfl rfl rfl (by simp)) rfl ?_
 refine aL 9 rfl (A2 rfl rfl (hat1 _) hl1) rfl ?_
 refine A4 10 ?_
 (refine H7 rfl rfl hS rfl rfl rfl (fun u G1 hle1 hh => ?_); obtain ⟨uc, rfl, hru⟩ := hh; have hul := hru.len; have huo := hru.one)
 refine A4 11 ?_
 (refine oS rfl rfl rfl rfl hul huo rfl rfl ?_ (hu := by exact D4 hul.symm))
 refine aP 12 rfl (qA rfl) rfl ?_
 refine B0 ?_
 refine E9 (rC rfl (A2 rfl rfl (A9 (by repeat first | exact mH | apply mT)) hul)) (rT rfl) ?_
 (exact V5.yes (by rw [if_pos (by omega)]; unfold kd; rw [List.getD_eq_getElem?_getD, List.getElem?_eq_getElem (by omega), Option.getD_some]) hru)
 refine J9 ?_
 refine E9 (rC rfl (A5 rfl rfl)) (rT rfl) ?_
 exact A2R
theorem B0x (k : Int) (a b : Tm) (nm : ByteArray) (num : Int) (ty fr : Ty) (lb : Int) (G : IM) (cells : List Value) (hk78 : k = 7 ∨ k = 8) (hca : cv a) (hcb : cv b) (hr : B1 G (.mk k nm num ty fr lb [a, b]) cells) : Fn Tryz.prog 229 [.agg ⟨cells⟩] [] G (V5 (Y1 k [a, b])) := by
 obtain ⟨ak, anm, anum, ⟨atk, atks⟩, ⟨afk, afks⟩, alb, aks⟩ := a
 obtain ⟨tk, tks⟩ := ty
 obtain ⟨fk, fks⟩ := fr
 obtain ⟨pt, ct, pf, cf, p, c, es, rfl, hk, hnum, hlb, hty, hfr, hsl, hkl⟩ := hr.open9
 obtain ⟨bx, ox, e0, rfl, hl0, hat0, hre0, hgb0⟩ := hsl.kidTm hkl (i := 0) (by simp) (by simp)
 replace hre0 : B1 G (.mk ak anm anum (.mk atk atks) (.mk afk afks) alb aks) e0 := hre0
 obtain ⟨apt, act, apf, acf, ap, ac, aes, rfl, hak, hanum, halb, haty, hafr, hasl, hakl⟩ := hre0.open9
 obtain ⟨bk, bnm, bnum, ⟨btk, btks⟩, ⟨bfk, bfks⟩, blb, bks⟩ := b
 obtain ⟨_, _, e1, hp1, hl1, hat1, hre1, hgb1⟩ := hsl.kidTm hkl (i := 1) (by simp) (by simp)
 cases hp1
 replace hre1 : B1 G (.mk bk bnm bnum (.mk btk btks) (.mk bfk bfks) blb bks) e1 := hre1
 obtain ⟨bpt, bct, bpf, bcf, bp, bc, bes, rfl, hbk, hbnum, hblb, hbty, hbfr, hbsl, hbkl⟩ := hre1.open9
 obtain ⟨hN, _⟩ := hca.node
 obtain ⟨hM, _⟩ := hcb.node
 obtain ⟨hn1, hn2⟩ := hN.num0
 obtain ⟨hm1, hm2⟩ := hM.num0
 have hL : ([Tm.mk ak anm anum (.mk atk atks) (.mk afk afks) alb aks, Tm.mk bk bnm bnum (.mk btk btks) (.mk bfk bfks) blb bks] : List Tm).length = 2 := rfl
 have hR : Y1 k [Tm.mk ak anm anum (.mk atk atks) (.mk afk afks) alb aks, Tm.mk bk bnm bnum (.mk btk btks) (.mk bfk bfks) blb bks] = (if ak = 2 ∧ bk = 2 then some (if k = 7 then A2D ((anum + bnum) % 1000) else Z7 (anum < bnum)) else none) := by
  unfold Y1; rw [if_neg (by omega), if_pos hk78]; rfl
 rw [hR]
 have htm : (anum + bnum).tmod 1000 = (anum + bnum) % 1000 := B0w ⟨hn1, hn2⟩ ⟨hm1, hm2⟩
 have hb : F8 ((anum + bnum) % 1000) := ⟨by omega, by omega⟩
 refine C1 Tryz.func229 rfl Tryz.ntmps229 Tryz.results229 rfl ?_
 intro w0
 refine A3 ?_
 refine sE (C7 rfl rfl) rfl (fun b3 => ?_)
 refine sE (A7 rfl) rfl (fun b4 => ?_)
 refine A8 ?_
 refine sE (A7 rfl) rfl (fun b11 => ?_)
 refine E0 ?_
 refine sP (A3K rfl rfl (by omega)) rfl rfl ?_
 refine A8 ?_
 refine sP (B6 (j := 0) rfl rfl rfl (by simp)) rfl rfl ?_
 refine sL (A2 rfl rfl (hat0 _) rfl) rfl rfl ?_
 refine J3 ?_
 refine C0 ?_
 refine A3 ?_
 refine sP (J8 rfl rfl (by omega)) rfl rfl ?_
 refine B5 ?_
 refine sB (qE rfl rfl) rfl rfl (fun h51 => ?_) (fun h51 => ?_)
 refine J1 ?_
 refine sP (B6 (j := 1) rfl rfl rfl (by simp)) rfl rfl ?_
 refine sL (A2 rfl rfl (hat1 _) rfl) rfl rfl ?_
 refine sE (A7 rfl) rfl (fun b65 => ?_)
 refine B7 ?_
 refine C0 ?_
 refine B4 ?_
 refine sB (N5 rfl rfl) rfl rfl (fun h74 => ?_) (fun h74 => ?_)
 refine A0z ?_
 refine E9 (rC rfl (A5 rfl rfl)) (rT rfl) ?_
 exact A2R
 refine B7 ?_
 refine sB (N5 rfl rfl) rfl rfl (fun h101 => ?_) (fun h101 => ?_)
 refine Q5 ?_
 refine E9 (rC rfl (A5 rfl rfl)) (rT rfl) ?_
 exact A2R
 refine E0 ?_
 refine sP (X5 rfl rfl (by omega)) rfl rfl ?_
 refine J3 ?_
 refine sP (H5 rfl rfl (by omega) (by omega)) rfl rfl ?_
 refine sP (A3J rfl rfl (by omega)) rfl rfl ?_
 refine E3 ?_
 (rw [htm]; refine sS' ?_)
 refine B5 ?_
 refine E9 (rC rfl (A5 rfl rfl)) (rT rfl) ?_
 (exact V5.yes (u := A2D (HMod.hMod (anum + bnum) 1000)) (by rw [if_pos ⟨by omega, by omega⟩, if_pos (by omega)]) (B1.put (us := []) ⟨by decide, by decide⟩ hb ⟨by decide, by decide⟩ (A1R _) (A1R _) rfl (D7.nil _ _) rfl))
 refine B0 ?_
 refine sP (X5 rfl rfl (by omega)) rfl rfl ?_
 refine D1 ?_
 refine sP (B6 (j := 1) rfl rfl rfl (by simp)) rfl rfl ?_
 refine sL (A2 rfl rfl (hat1 _) rfl) rfl rfl ?_
 refine sE (A7 rfl) rfl (fun b170 => ?_)
 refine B7 ?_
 refine C0 ?_
 refine B4 ?_
 refine sB (N5 rfl rfl) rfl rfl (fun h179 => ?_) (fun h179 => ?_)
 refine A0z ?_
 refine E9 (rC rfl (A5 rfl rfl)) (rT rfl) ?_
 exact A2R
 refine B7 ?_
 refine sB (N5 rfl rfl) rfl rfl (fun h206 => ?_) (fun h206 => ?_)
 refine Q5 ?_
 refine E9 (rC rfl (A5 rfl rfl)) (rT rfl) ?_
 exact A2R
 refine E0 ?_
 refine sP (J8 rfl rfl (by omega)) rfl rfl ?_
 refine J3 ?_
 (refine sB (I8 rfl rfl) rfl rfl (fun h246 => ?_) (fun h246 => ?_))
 (refine D9 rfl (B0v _ _) rfl rfl (fun u G1 hle1 hh => ?_); obtain ⟨uc, rfl, hru⟩ := hh; have hul := hru.len; have huo := hru.one)
 refine sS rfl rfl rfl hul huo rfl ?_ (hu := by exact D4 hul.symm)
 refine B5 ?_
 refine E9 (rC rfl (A2 rfl rfl (A9 (by repeat first | exact mH | apply mT)) hul)) (rT rfl) ?_
 (exact V5.yes (by rw [if_pos ⟨by omega, by omega⟩, if_neg (by omega)]; unfold Z7; rw [if_pos (by omega), if_pos rfl]) hru)
 (refine D9 rfl (B0v _ _) rfl rfl (fun u G1 hle1 hh => ?_); obtain ⟨uc, rfl, hru⟩ := hh; have hul := hru.len; have huo := hru.one)
 refine sS rfl rfl rfl hul huo rfl ?_ (hu := by exact D4 hul.symm)
 refine B5 ?_
 refine E9 (rC rfl (A2 rfl rfl (A9 (by repeat first | exact mH | apply mT)) hul)) (rT rfl) ?_
 (exact V5.yes (by rw [if_pos ⟨by omega, by omega⟩, if_neg (by omega)]; unfold Z7; rw [if_neg (by omega), if_neg (by decide)]) hru)
theorem B5C (a b c0 : Tm) (nm : ByteArray) (num : Int) (ty fr : Ty) (lb : Int) (G : IM) (cells : List Value) (hr : B1 G (.mk 9 nm num ty fr lb [a, b, c0]) cells) : Fn Tryz.prog 229 [.agg ⟨cells⟩] [] G (V5 (Y1 9 [a, b, c0])) := by
 obtain ⟨ak, anm, anum, ⟨atk, atks⟩, ⟨afk, afks⟩, alb, aks⟩ := a
 obtain ⟨tk, tks⟩ := ty
 obtain ⟨fk, fks⟩ := fr
 obtain ⟨pt, ct, pf, cf, p, c, es, rfl, hk, hnum, hlb, hty, hfr, hsl, hkl⟩ := hr.open9
 obtain ⟨bx, ox, e0, rfl, hl0, hat0, hre0, hgb0⟩ := hsl.kidTm hkl (i := 0) (by simp) (by simp)
 replace hre0 : B1 G (.mk ak anm anum (.mk atk atks) (.mk afk afks) alb aks) e0 := hre0
 obtain ⟨apt, act, apf, acf, ap, ac, aes, rfl, hak, hanum, halb, haty, hafr, hasl, hakl⟩ := hre0.open9
 obtain ⟨_, _, e1, hp1, hl1, hat1, hre1, hgb1⟩ := hsl.kidTm hkl (i := 1) (by simp) (by simp)
 cases hp1
 replace hre1 : B1 G b e1 := hre1
 have ho1 := hre1.one
 obtain ⟨_, _, e2, hp2, hl2, hat2, hre2, hgb2⟩ := hsl.kidTm hkl (i := 2) (by simp) (by simp)
 cases hp2
 replace hre2 : B1 G c0 e2 := hre2
 have ho2 := hre2.one
 have hL : ([Tm.mk ak anm anum (.mk atk atks) (.mk afk afks) alb aks, b, c0] : List Tm).length = 3 := rfl
 rw [show Y1 9 [Tm.mk ak anm anum (.mk atk atks) (.mk afk afks) alb aks, b, c0] = (if ak = 3 then some b else if ak = 4 then some c0 else none) from rfl]
 refine C1 Tryz.func229 rfl Tryz.ntmps229 Tryz.results229 rfl ?_
 intro w0
 refine A3 ?_
 refine sE (C7 rfl rfl) rfl (fun b3 => ?_)
 refine sE (A7 rfl) rfl (fun b4 => ?_)
 refine A8 ?_
 refine sE (A7 rfl) rfl (fun b11 => ?_)
 refine E0 ?_
 refine sP (A3K rfl rfl (by omega)) rfl rfl ?_
 refine A8 ?_
 refine sP (B6 (j := 0) rfl rfl rfl (by simp)) rfl rfl ?_
 refine sL (A2 rfl rfl (hat0 _) rfl) rfl rfl ?_
 refine J3 ?_
 refine C0 ?_
 refine A3 ?_
 refine sP (J8 rfl rfl (by omega)) rfl rfl ?_
 refine B5 ?_
 refine sP (J8 rfl rfl (by omega)) rfl rfl ?_
 refine B0 ?_
 refine sP (J8 rfl rfl (by omega)) rfl rfl ?_
 refine A8 ?_
 refine sP (X5 rfl rfl (by omega)) rfl rfl ?_
 refine J3 ?_
 refine C0 (tS (tR (sB (qE rfl rfl) rfl rfl (fun h78 => ?_) (fun h78 => ?_))))
 refine D1 ?_
 refine sP (B6 (j := 1) rfl rfl rfl (by simp)) rfl rfl ?_
 refine sL (A2 rfl rfl (hat1 _) hl1) rfl rfl ?_
 refine sS rfl rfl rfl hl1 ho1 rfl ?_ (hu := by exact D4 hl1.symm)
 refine B5 ?_
 refine E9 (rC rfl (A2 rfl rfl (A9 (by repeat first | exact mH | apply mT)) hl1)) (rT rfl) ?_
 (exact V5.yes (by rw [if_pos (by omega)]) hre1)
 refine A8 ?_
 refine sB (qE rfl rfl) rfl rfl (fun h105 => ?_) (fun h105 => ?_)
 refine D1 ?_
 refine sP (B6 (j := 2) rfl rfl rfl (by simp)) rfl rfl ?_
 refine sL (A2 rfl rfl (hat2 _) hl2) rfl rfl ?_
 refine sS rfl rfl rfl hl2 ho2 rfl ?_ (hu := by exact D4 hl2.symm)
 refine B5 ?_
 refine E9 (rC rfl (A2 rfl rfl (A9 (by repeat first | exact mH | apply mT)) hl2)) (rT rfl) ?_
 (exact V5.yes (by rw [if_neg (by omega), if_pos (by omega)]) hre2)
 refine K0 ?_
 refine E9 (rC rfl (A5 rfl rfl)) (rT rfl) ?_
 (exact V5.no (by rw [if_neg (by omega), if_neg (by omega)]) (P6 _))
theorem B0y (k : Int) (a : Tm) (nm : ByteArray) (num : Int) (ty fr : Ty) (lb : Int) (G : IM) (cells : List Value) (hk1 : k = 11 ∨ k = 12) (hca : cv a) (hr : B1 G (.mk k nm num ty fr lb [a]) cells) : Fn Tryz.prog 229 [.agg ⟨cells⟩] [] G (V5 (Y1 k [a])) := by
 obtain ⟨ak, anm, anum, ⟨atk, atks⟩, ⟨afk, afks⟩, alb, aks⟩ := a
 obtain ⟨tk, tks⟩ := ty
 obtain ⟨fk, fks⟩ := fr
 obtain ⟨pt, ct, pf, cf, p, c, es, rfl, hk, hnum, hlb, hty, hfr, hsl, hkl⟩ := hr.open9
 obtain ⟨bx, ox, e0, rfl, hl0, hat0, hre0, hgb0⟩ := hsl.kidTm hkl (i := 0) (by simp) (by simp)
 replace hre0 : B1 G (.mk ak anm anum (.mk atk atks) (.mk afk afks) alb aks) e0 := hre0
 obtain ⟨apt, act, apf, acf, ap, ac, aes, rfl, hak, hanum, halb, haty, hafr, hasl, hakl⟩ := hre0.open9
 obtain ⟨hN, _⟩ := hca.node
 have hops := hN.ops
 have h2 : ak = 10 → aks.length = 2 := fun h => by rw [h] at hops; have : E6 10 = 2 := rfl; omega
 have hL : ([Tm.mk ak anm anum (.mk atk atks) (.mk afk afks) alb aks] : List Tm).length = 1 := rfl
 have hR : Y1 k [Tm.mk ak anm anum (.mk atk atks) (.mk afk afks) alb aks] = (if ak = 10 then some (kd aks (k - 11).toNat) else none) := by
  unfold Y1; rw [if_neg (by omega), if_neg (by omega), if_neg (by omega), if_pos hk1]; rfl
 rw [hR]
 obtain ⟨i, hi⟩ : ∃ i : Nat, (k - 11).toNat = i := ⟨_, rfl⟩
 rw [hi]
 refine C1 Tryz.func229 rfl Tryz.ntmps229 Tryz.results229 rfl ?_
 intro w0
 refine A3 ?_
 refine sE (C7 rfl rfl) rfl (fun b3 => ?_)
 refine sE (A7 rfl) rfl (fun b4 => ?_)
 refine A8 ?_
 refine sE (A7 rfl) rfl (fun b11 => ?_)
 refine E0 ?_
 refine sP (A3K rfl rfl (by omega)) rfl rfl ?_
 refine A8 ?_
 refine sP (B6 (j := 0) rfl rfl rfl (by simp)) rfl rfl ?_
 refine sL (A2 rfl rfl (hat0 _) rfl) rfl rfl ?_
 refine J3 ?_
 refine C0 ?_
 refine A3 ?_
 refine sP (J8 rfl rfl (by omega)) rfl rfl ?_
 refine B5 ?_
 refine sP (J8 rfl rfl (by omega)) rfl rfl ?_
 refine B0 ?_
 refine sP (J8 rfl rfl (by omega)) rfl rfl ?_
 refine A8 ?_
 refine sP (J8 rfl rfl (by omega)) rfl rfl ?_
 refine B5 ?_
 refine sB (qE rfl rfl) rfl rfl (fun h72 => ?_) (fun h72 => ?_)
 refine J1 ?_
 refine sB (qE rfl rfl) rfl rfl (fun h84 => ?_) (fun h84 => ?_)
 refine B4 ?_
 (have hq : ak = 10 := (by omega); have hq1 := h2 hq; obtain ⟨bq, oq, e3, rfl, hl3, hat3, hre3, hgb3⟩ := hasl.kidTm hakl (i := i) (by omega) (by omega); have ho3 := hre3.one)
 refine B0 ?_
 refine sP (O9 rfl rfl (by omega) (by omega)) rfl rfl ?_
 (rw [show (k - 11 : Int) = ((i : Nat) : Int) from (by omega)]; refine sP (B6 (j := i) rfl rfl rfl (by omega)) rfl rfl ?_)
 refine sL (A2 rfl rfl (hat3 _) hl3) rfl rfl ?_
 refine sS rfl rfl rfl hl3 ho3 rfl ?_ (hu := by exact D4 hl3.symm)
 refine A8 ?_
 refine E9 (rC rfl (A2 rfl rfl (A9 (by repeat first | exact mH | apply mT)) hl3)) (rT rfl) ?_
 (exact V5.yes (by rw [if_pos (by omega)]; unfold kd; rw [List.getD_eq_getElem?_getD, List.getElem?_eq_getElem (by omega), Option.getD_some]) hre3)
 refine J9 ?_
 refine E9 (rC rfl (A5 rfl rfl)) (rT rfl) ?_
 exact A2R
 refine B0 ?_
 refine sP (X5 rfl rfl (by omega)) rfl rfl ?_
 refine D1 ?_
 refine sB (qE rfl rfl) rfl rfl (fun h137 => ?_) (fun h137 => ?_)
 refine B4 ?_
 (have hq : ak = 10 := (by omega); have hq1 := h2 hq; obtain ⟨bq, oq, e3, rfl, hl3, hat3, hre3, hgb3⟩ := hasl.kidTm hakl (i := i) (by omega) (by omega); have ho3 := hre3.one)
 refine B0 ?_
 refine sP (O9 rfl rfl (by omega) (by omega)) rfl rfl ?_
 (rw [show (k - 11 : Int) = ((i : Nat) : Int) from (by omega)]; refine sP (B6 (j := i) rfl rfl rfl (by omega)) rfl rfl ?_)
 refine sL (A2 rfl rfl (hat3 _) hl3) rfl rfl ?_
 refine sS rfl rfl rfl hl3 ho3 rfl ?_ (hu := by exact D4 hl3.symm)
 refine A8 ?_
 refine E9 (rC rfl (A2 rfl rfl (A9 (by repeat first | exact mH | apply mT)) hl3)) (rT rfl) ?_
 (exact V5.yes (by rw [if_pos (by omega)]; unfold kd; rw [List.getD_eq_getElem?_getD, List.getElem?_eq_getElem (by omega), Option.getD_some]) hre3)
 refine J9 ?_
 refine E9 (rC rfl (A5 rfl rfl)) (rT rfl) ?_
 exact A2R
section
variable {P : Program} {Γ : L7} {K : Po} {ops : Array Oper} {env : M2} {hp : List A6} {G : IM}
theorem A1h {H : List (Nat × Nat)} {fuel j : Nat} {listed : List Bool} {hp' : List A6} {p : Option Addr} {c el sz n : Nat} {cs : List Value} (hk : Pk hp (.slc p c el sz n cs) hp')
  (h : ∀ G', C2 G G' → Sl G' p n c sz cs → (∀ b ∈ J5 p, G b = none ∧ G' b ≠ none) → V6 P Γ ops K H fuel listed j ⟨env, hp', G'⟩) : V6 P Γ ops K H fuel listed j ⟨env, hp, G⟩ :=
 ⟨fun a w hs => let ⟨G', h1, h2, h3, h4⟩ := hs.freeze hk; (h G' h2 h3 h4).run a w h1⟩
end
theorem C3.kids {G : IM} {t : Ty} {a : Value} {p : Option Addr} {n c : Nat} (h : C3 G t [a, .slice p n c]) : ∃ es, D7 G p t.ks.length c 2 es ∧ C9 G t.ks es := by
 obtain ⟨p', c', es, he, _, h1, h2⟩ := h.open
 simp only [List.cons.injEq, Value.slice.injEq, and_true] at he
 obtain ⟨_, rfl, _, rfl⟩ := he
 exact ⟨es, h1, h2⟩
def Z2 (k : Int) (ty fr : Ty) (lb : Int) (ks : List Tm) : Stp :=
 if k = 6 then
  (if R3 (kd ks 0) = true ∧ (kd ks 0).ty.k = 4 then (L3 (A0r 6 [kd (kd ks 0).ks 0, L3 (kd ks 1) (kt (kd ks 0).ty.ks 0) (kt (kd ks 0).fr.ks 0) (-(kd ks 0).lb)]) (kt (kd ks 0).fr.ks 1) (kt (kd ks 0).ty.ks 1) (kd ks 0).lb, 1, 0) else R4)
 else if k = 11 ∨ k = 12 then
  (if R3 (kd ks 0) = true ∧ (kd ks 0).ty.k = 5 then (L3 (A0r k [kd (kd ks 0).ks 0]) (kt (kd ks 0).fr.ks (k - 11).toNat) (kt (kd ks 0).ty.ks (k - 11).toNat) (kd ks 0).lb, 1, 0) else R4)
 else if k = 14 then
  (if fr.k = ty.k then (kd ks 0, 1, 0)
   else if ty.k = 1 then (L3 (L3 (kd ks 0) fr (V1 fr) lb) (V1 fr) ty lb, 1, 0)
   else if U3 ty = false then (L3 (L3 (kd ks 0) fr (V1 ty) lb) (V1 ty) ty lb, 1, 0)
   else if inj (kd ks 0) = false then R4
   else if (kd ks 0).fr.k = ty.k then (kd (kd ks 0).ks 0, 1, 0)
   else (K7, 2, lb))
 else R4
theorem B5D (k : Int) (ty fr : Ty) (lb : Int) (ks : List Tm) : N7 k ty fr lb ks = match Y1 k ks with | some u => (u, 1, 0) | none => Z2 k ty fr lb ks := by
 unfold N7 Y1 Z2
 by_cases h6 : k = 6
 ·rw [if_pos h6, if_pos h6, if_pos h6]
  by_cases h : (kd ks 0).k = 5
  ·rw [if_pos h, if_pos h]
  ·rw [if_neg h, if_neg h]
 rw [if_neg h6, if_neg h6, if_neg h6]
 by_cases h7 : k = 7 ∨ k = 8
 ·rw [if_pos h7, if_pos h7]
  by_cases h : (kd ks 0).k = 2 ∧ (kd ks 1).k = 2
  ·rw [if_pos h, if_pos h]
  ·rw [if_neg h, if_neg h]; simp only; rw [if_neg (by omega), if_neg (by omega)]
 rw [if_neg h7, if_neg h7]
 by_cases h9 : k = 9
 ·rw [if_pos h9, if_pos h9]
  by_cases h : (kd ks 0).k = 3
  ·rw [if_pos h, if_pos h]
  ·rw [if_neg h, if_neg h]
   by_cases h' : (kd ks 0).k = 4
   ·rw [if_pos h', if_pos h']
   ·rw [if_neg h', if_neg h']; simp only; rw [if_neg (by omega), if_neg (by omega)]
 rw [if_neg h9, if_neg h9]
 by_cases h11 : k = 11 ∨ k = 12
 ·rw [if_pos h11, if_pos h11, if_pos h11]
  by_cases h : (kd ks 0).k = 10
  ·rw [if_pos h, if_pos h]
  ·rw [if_neg h, if_neg h]
 rw [if_neg h11, if_neg h11, if_neg h11]
def V9 (r : Stp) : IM → Value → List A6 → Prop := K1 fun G' v => ∃ u cells, v = .tuple ⟨[.agg ⟨cells⟩, .int .i64 r.2.1, .int .i64 r.2.2]⟩ ∧ B1 G' u cells ∧ (r.2.1 = 1 → u = r.1)
theorem V9.mk {G : IM} {r : Stp} {u : Tm} {cells : List Value} {c l : Int} (h : r = (u, c, l)) (hr : B1 G u cells) : V9 r G (.tuple ⟨[.agg ⟨cells⟩, .int .i64 c, .int .i64 l]⟩) [] := by
 subst h; exact ⟨rfl, u, cells, rfl, hr, fun _ => rfl⟩
theorem A2g {ks : List Tm} {i : Nat} (h : i < ks.length) : kd ks i = ks[i] := by unfold kd; rw [List.getD_eq_getElem?_getD, List.getElem?_eq_getElem h, Option.getD_some]
theorem A0Y {ks : List Ty} {i : Nat} (h : i < ks.length) : kt ks i = ks[i] := by unfold kt; rw [List.getD_eq_getElem?_getD, List.getElem?_eq_getElem h, Option.getD_some]
theorem B0z {t : Ty} (h : U3 t = true) : t = V1 t := by
 unfold U3 at h
 rw [Bool.and_eq_true] at h
 exact (A1o _ _).1 h.2
theorem B0A {Q : Prop} (h : Q := by (exact V9.mk (by rw [if_pos hq, A2g (by omega), A0Y (by omega), A0Y (by omega), A0Y (by omega), A0Y (by omega)]) hrw)) : Q := h
theorem A3w {Q : Prop} (h : Q := by (exact V9.mk (by rw [if_neg (by omega)]; rfl) (P6 _))) : Q := h
theorem B5E (a b : Tm) (nm : ByteArray) (num : Int) (ty fr : Ty) (lb : Int) (G : IM) (cells : List Value) (hca : cv a) (hr : B1 G (.mk 6 nm num ty fr lb [a, b]) cells) : Fn Tryz.prog 230 [.agg ⟨cells⟩] [] G (V9 (Z2 6 ty fr lb [a, b])) := by
 obtain ⟨ak, anm, anum, ⟨atk, atks⟩, ⟨afk, afks⟩, alb, aks⟩ := a
 obtain ⟨hN, hkk⟩ := hca.node
 have hops := hN.ops
 have hbl := hN.lbB
 have htyA := hN.tyA
 have hfrA := hN.frA
 rw [F9] at htyA hfrA
 have h14 : ak = 14 → aks.length = 1 := fun h => by rw [h] at hops; have : E6 14 = 1 := rfl; omega
 obtain ⟨tk, tks⟩ := ty
 obtain ⟨fk, fks⟩ := fr
 obtain ⟨pt, ct, pf, cf, p, c, es, rfl, hk, hnum, hlb, hty, hfr, hsl, hkl⟩ := hr.open9
 obtain ⟨bx, ox, e0, rfl, hl0, hat0, hre0, hgb0⟩ := hsl.kidTm hkl (i := 0) (by simp) (by simp)
 replace hre0 : B1 G (Tm.mk ak anm anum (.mk atk atks) (.mk afk afks) alb aks) e0 := hre0
 have hP : Fn Tryz.prog 106 [.agg ⟨e0⟩] [] G (I5 (.bool (decide (ak = 14 ∧ afk = atk ∧ (atk = 4 ∨ atk = 5)))) G) := A2P _ G _ hre0
 obtain ⟨apt, act, apf, acf, ap, ac, aes, rfl, hak, hanum, halb, haty, hafr, hasl, hakl⟩ := hre0.open9
 obtain ⟨tes, htS, htL⟩ := haty.kids
 obtain ⟨fes, hfS, hfL⟩ := hafr.kids
 simp only [Ty.ks] at htS htL hfS hfL
 obtain ⟨_, _, e1, hp1, hl1, hat1, hre1, hgb1⟩ := hsl.kidTm hkl (i := 1) (by simp) (by simp)
 cases hp1
 replace hre1 : B1 G b e1 := hre1
 have ho1 := hre1.one
 have hR : Z2 6 (.mk tk tks) (.mk fk fks) lb [Tm.mk ak anm anum (.mk atk atks) (.mk afk afks) alb aks, b] = (if (ak = 14 ∧ afk = atk ∧ (atk = 4 ∨ atk = 5)) ∧ atk = 4 then (L3 (A0r 6 [kd aks 0, L3 b (kt atks 0) (kt afks 0) (-alb)]) (kt afks 1) (kt atks 1) alb, 1, 0) else R4) := by
  unfold Z2
  rw [if_pos rfl, show kd [Tm.mk ak anm anum (.mk atk atks) (.mk afk afks) alb aks, b] 0 = Tm.mk ak anm anum (.mk atk atks) (.mk afk afks) alb aks from rfl, A1w]
  simp only [decide_eq_true_eq]
  rfl
 rw [hR]
 refine C1 Tryz.func230 rfl Tryz.ntmps230 Tryz.results230 rfl ?_
 intro w0
 refine A3 ?_
 refine sE (C7 rfl rfl) rfl (fun b3 => ?_)
 refine sE (A7 rfl) rfl (fun b4 => ?_)
 refine D1 ?_
 refine sP (B6 (j := 0) rfl rfl rfl (by simp)) rfl rfl ?_
 refine sL (A2 rfl rfl (hat0 _) rfl) rfl rfl ?_
 refine sE (A7 rfl) rfl (fun b15 => ?_)
 refine B4 ?_
 refine C0 ?_
 refine B4 ?_
 refine sP (X5 rfl rfl (by omega)) rfl rfl ?_
 refine A3 ?_
 focus (by_cases hpx : (ak = 14 ∧ afk = atk ∧ (atk = 4 ∨ atk = 5)); rw [decide_eq_true hpx] at hP; rotate_left; rw [decide_eq_false hpx] at hP; rotate_left; all_goals (refine E8 rfl hP rfl rfl ?_))
 refine B0 ?_
 refine sB (qE rfl rfl) rfl rfl (fun h34 => ?_) (fun h34 => ?_)
 refine A8 ?_
 (have hq : (ak = 14 ∧ afk = atk ∧ (atk = 4 ∨ atk = 5)) ∧ atk = 4 := ⟨hpx, by omega⟩; have hq1 := h14 hq.1.1; have hq2 := htyA.1 (by omega); have hq3 := hfrA.1 (by omega); obtain ⟨bq, oq, e3, rfl, hl3, hat3, hre3, hgb3⟩ := hasl.kidTm hakl (i := 0) (by omega) (by omega); have ho3 := hre3.one; obtain ⟨b5, o5, q5, d5, rfl, hat5, hre5, hgb5⟩ := htS.kidTy htL (i := 0) (by omega) (by omega); obtain ⟨_, _, q6, d6, hp6, hat6, hre6, hgb6⟩ := htS.kidTy htL (i := 1) (by omega) (by omega); cases hp6; obtain ⟨b7, o7, q7, d7, rfl, hat7, hre7, hgb7⟩ := hfS.kidTy hfL (i := 0) (by omega) (by omega); obtain ⟨_, _, q8, d8, hp8, hat8, hre8, hgb8⟩ := hfS.kidTy hfL (i := 1) (by omega) (by omega); cases hp8; obtain ⟨x1, x2, x3, x4, x5, x6, x7, x8, x9, rfl⟩ := nine hl3; obtain ⟨y1, y2, y3, y4, y5, y6, y7, y8, y9, rfl⟩ := nine hl1; refine E2 E4 rfl ?_)
 refine J4 (i := 0) (l' := [tt,ff,ff,ff,ff,ff,ff,ff,ff,ff,ff,ff]) rfl D6 (B9 rfl) rfl (by kernel_rfl) rfl rfl ?_
 refine aL 1 rfl (C8 rfl rfl) rfl ?_
 refine aP 2 rfl (B6 (j := 0) rfl rfl rfl (by omega)) rfl ?_
 refine aL 3 rfl (A2 rfl rfl (hat3 _) rfl) rfl ?_
 refine aP 4 rfl (B9 rfl) rfl ?_
 refine aL 5 rfl (C8 rfl rfl) rfl ?_
 refine aP 6 rfl (B6 (j := 1) rfl rfl rfl (by simp)) rfl ?_
 refine aL 7 rfl (A2 rfl rfl (hat1 _) rfl) rfl ?_
 refine Q8 (j := 8) (j' := 9) (by kernel_rfl) ?_ ?_
 (refine E5 rfl (A7 rfl) rfl rfl ?_; rintro _ ⟨b51, rfl⟩)
 refine A4 9 ?_
 (refine E5 rfl (A7 rfl) rfl rfl ?_; rintro _ ⟨b53, rfl⟩)
 refine A4 10 ?_
 (refine oS rfl rfl rfl rfl rfl ho3 rfl rfl ?_ (hu := by exact D4 rfl.symm))
 refine A4 11 ?_
 (refine oS rfl rfl rfl rfl rfl ho1 rfl rfl ?_ (hu := by exact D4 rfl.symm))
 refine B7 ?_
 refine E2 E4 rfl ?_
 refine L4 (i := 0) (l' := [tt,ff,ff,ff,ff,ff,ff,ff,ff,ff,ff,ff,ff,ff,ff,ff,ff,ff,ff,ff,ff,ff,ff,ff,ff,ff,ff,ff,ff,ff,ff,ff,ff,ff]) rfl D6 (A2 rfl rfl (A9 (by repeat first | exact mH | apply mT)) rfl) rfl (by kernel_rfl) rfl rfl ?_
 refine aL 1 rfl (A2 rfl rfl (A9 (by repeat first | exact mH | apply mT)) rfl) rfl ?_
 refine aP 2 rfl (B9 rfl) rfl ?_
 refine aP 3 rfl (qF rfl) rfl ?_
 refine aL 4 rfl (C8 rfl rfl) rfl ?_
 refine aP 5 rfl (B6 (j := 0) rfl rfl rfl (by omega)) rfl ?_
 refine aL 6 rfl (A2 rfl rfl (hat5 _) rfl) rfl ?_
 refine aP 7 rfl (B9 rfl) rfl ?_
 refine aP 8 rfl (qF rfl) rfl ?_
 refine aL 9 rfl (C8 rfl rfl) rfl ?_
 refine aP 10 rfl (B6 (j := 0) rfl rfl rfl (by omega)) rfl ?_
 refine aL 11 rfl (A2 rfl rfl (hat7 _) rfl) rfl ?_
 refine aP 12 rfl (B9 rfl) rfl ?_
 refine aL 13 rfl (C8 rfl rfl) rfl ?_
 refine aP 14 rfl (A4t rfl (by omega) (by omega)) rfl ?_
 refine aP 18 rfl (B9 rfl) rfl ?_
 refine aP 19 rfl (qF rfl) rfl ?_
 refine aL 20 rfl (C8 rfl rfl) rfl ?_
 refine aP 21 rfl (B6 (j := 1) rfl rfl rfl (by omega)) rfl ?_
 refine aL 22 rfl (A2 rfl rfl (hat8 _) rfl) rfl ?_
 refine aP 23 rfl (B9 rfl) rfl ?_
 refine aP 24 rfl (qF rfl) rfl ?_
 refine aL 25 rfl (C8 rfl rfl) rfl ?_
 refine aP 26 rfl (B6 (j := 1) rfl rfl rfl (by omega)) rfl ?_
 refine aL 27 rfl (A2 rfl rfl (hat6 _) rfl) rfl ?_
 refine aP 28 rfl (B9 rfl) rfl ?_
 refine aL 29 rfl (C8 rfl rfl) rfl ?_
 refine A4 15 ?_
 (refine H7 rfl rfl (A1y b atks[0] afks[0] (-alb) G _ _ _ ⟨by omega, by omega⟩ hre1 hre5 hre7) rfl rfl rfl (fun u G1 hle1 hh => ?_); obtain ⟨uc, rfl, hru⟩ := hh; have hul := hru.len; have huo := hru.one; obtain ⟨z1, z2, z3, z4, z5, z6, z7, z8, z9, rfl⟩ := nine hul; replace hre3 := hre3.mono hle1; replace hre6 := hre6.mono hle1; replace hre8 := hre8.mono hle1)
 refine A4 16 ?_
 (refine E5 rfl (D0 rfl rfl rfl (by omega) (by unfold maxLen; omega) rfl) rfl rfl ?_; rintro _ ⟨b92, rfl⟩)
 refine A4 17 ?_
 (refine A1h (cs := [x1, x2, x3, x4, x5, x6, x7, x8, x9, z1, z2, z3, z4, z5, z6, z7, z8, z9]) (by repeat (first | exact Pk.here | apply Pk.there)) (fun G2 hle2 hsl2 hno2 => ?_); have hrN := A0X (k := 6) (ks := [aks[0], L3 b atks[0] afks[0] (-alb)]) (es := [[x1, x2, x3, x4, x5, x6, x7, x8, x9], [z1, z2, z3, z4, z5, z6, z7, z8, z9]]) ⟨by decide, by decide⟩ rfl (D7.of hsl2 rfl (by simp) (by intro x hx; rcases List.mem_cons.1 hx with rfl | hx; exact ho3; obtain rfl := List.mem_singleton.1 hx; exact huo)) (by simp only [E1]; exact ⟨_, _, rfl, hre3.mono hle2, _, _, rfl, hru.mono hle2, rfl⟩); replace hre6 := hre6.mono hle2; replace hre8 := hre8.mono hle2; refine N3 rfl rfl (A3v _ _ _ _ _) rfl rfl rfl ?_)
 refine A4 30 ?_
 (refine H7 rfl rfl (A1y _ afks[1] atks[1] alb G2 _ _ _ ⟨by omega, by omega⟩ hrN hre8 hre6) rfl rfl rfl (fun u G3 hle3 hh => ?_); obtain ⟨wc, rfl, hrw⟩ := hh; have hwl := hrw.len; have hwo := hrw.one)
 refine A4 31 ?_
 (refine oS rfl rfl rfl rfl hwl hwo rfl rfl ?_ (hu := by exact D4 hwl.symm))
 refine aP 32 rfl (qA rfl) rfl ?_
 refine aP 33 rfl (qA rfl) rfl ?_
 refine B0 ?_
 refine D5 (rC rfl (A2 rfl rfl (A9 (by repeat first | exact mH | apply mT)) hwl)) (rT rfl) (rT rfl) ?_
 exact B0A
 (refine E5 rfl (A7 rfl) rfl rfl ?_; rintro _ ⟨b108, rfl⟩)
 refine A4 8 ?_
 (refine E5 rfl (A7 rfl) rfl rfl ?_; rintro _ ⟨b110, rfl⟩)
 refine A4 10 ?_
 (refine oS rfl rfl rfl rfl rfl ho3 rfl rfl ?_ (hu := by exact D4 rfl.symm))
 refine A4 11 ?_
 (refine oS rfl rfl rfl rfl rfl ho1 rfl rfl ?_ (hu := by exact D4 rfl.symm))
 refine B7 ?_
 refine E2 E4 rfl ?_
 refine L4 (i := 0) (l' := [tt,ff,ff,ff,ff,ff,ff,ff,ff,ff,ff,ff,ff,ff,ff,ff,ff,ff,ff,ff,ff,ff,ff,ff,ff,ff,ff,ff,ff,ff,ff,ff,ff,ff]) rfl D6 (A2 rfl rfl (A9 (by repeat first | exact mH | apply mT)) rfl) rfl (by kernel_rfl) rfl rfl ?_
 refine aL 1 rfl (A2 rfl rfl (A9 (by repeat first | exact mH | apply mT)) rfl) rfl ?_
 refine aP 2 rfl (B9 rfl) rfl ?_
 refine aP 3 rfl (qF rfl) rfl ?_
 refine aL 4 rfl (C8 rfl rfl) rfl ?_
 refine aP 5 rfl (B6 (j := 0) rfl rfl rfl (by omega)) rfl ?_
 refine aL 6 rfl (A2 rfl rfl (hat5 _) rfl) rfl ?_
 refine aP 7 rfl (B9 rfl) rfl ?_
 refine aP 8 rfl (qF rfl) rfl ?_
 refine aL 9 rfl (C8 rfl rfl) rfl ?_
 refine aP 10 rfl (B6 (j := 0) rfl rfl rfl (by omega)) rfl ?_
 refine aL 11 rfl (A2 rfl rfl (hat7 _) rfl) rfl ?_
 refine aP 12 rfl (B9 rfl) rfl ?_
 refine aL 13 rfl (C8 rfl rfl) rfl ?_
 refine aP 14 rfl (A4t rfl (by omega) (by omega)) rfl ?_
 refine aP 18 rfl (B9 rfl) rfl ?_
 refine aP 19 rfl (qF rfl) rfl ?_
 refine aL 20 rfl (C8 rfl rfl) rfl ?_
 refine aP 21 rfl (B6 (j := 1) rfl rfl rfl (by omega)) rfl ?_
 refine aL 22 rfl (A2 rfl rfl (hat8 _) rfl) rfl ?_
 refine aP 23 rfl (B9 rfl) rfl ?_
 refine aP 24 rfl (qF rfl) rfl ?_
 refine aL 25 rfl (C8 rfl rfl) rfl ?_
 refine aP 26 rfl (B6 (j := 1) rfl rfl rfl (by omega)) rfl ?_
 refine aL 27 rfl (A2 rfl rfl (hat6 _) rfl) rfl ?_
 refine aP 28 rfl (B9 rfl) rfl ?_
 refine aL 29 rfl (C8 rfl rfl) rfl ?_
 refine A4 15 ?_
 (refine H7 rfl rfl (A1y b atks[0] afks[0] (-alb) G _ _ _ ⟨by omega, by omega⟩ hre1 hre5 hre7) rfl rfl rfl (fun u G1 hle1 hh => ?_); obtain ⟨uc, rfl, hru⟩ := hh; have hul := hru.len; have huo := hru.one; obtain ⟨z1, z2, z3, z4, z5, z6, z7, z8, z9, rfl⟩ := nine hul; replace hre3 := hre3.mono hle1; replace hre6 := hre6.mono hle1; replace hre8 := hre8.mono hle1)
 refine A4 16 ?_
 (refine E5 rfl (D0 rfl rfl rfl (by omega) (by unfold maxLen; omega) rfl) rfl rfl ?_; rintro _ ⟨b149, rfl⟩)
 refine A4 17 ?_
 (refine A1h (cs := [x1, x2, x3, x4, x5, x6, x7, x8, x9, z1, z2, z3, z4, z5, z6, z7, z8, z9]) (by repeat (first | exact Pk.here | apply Pk.there)) (fun G2 hle2 hsl2 hno2 => ?_); have hrN := A0X (k := 6) (ks := [aks[0], L3 b atks[0] afks[0] (-alb)]) (es := [[x1, x2, x3, x4, x5, x6, x7, x8, x9], [z1, z2, z3, z4, z5, z6, z7, z8, z9]]) ⟨by decide, by decide⟩ rfl (D7.of hsl2 rfl (by simp) (by intro x hx; rcases List.mem_cons.1 hx with rfl | hx; exact ho3; obtain rfl := List.mem_singleton.1 hx; exact huo)) (by simp only [E1]; exact ⟨_, _, rfl, hre3.mono hle2, _, _, rfl, hru.mono hle2, rfl⟩); replace hre6 := hre6.mono hle2; replace hre8 := hre8.mono hle2; refine N3 rfl rfl (A3v _ _ _ _ _) rfl rfl rfl ?_)
 refine A4 30 ?_
 (refine H7 rfl rfl (A1y _ afks[1] atks[1] alb G2 _ _ _ ⟨by omega, by omega⟩ hrN hre8 hre6) rfl rfl rfl (fun u G3 hle3 hh => ?_); obtain ⟨wc, rfl, hrw⟩ := hh; have hwl := hrw.len; have hwo := hrw.one)
 refine A4 31 ?_
 (refine oS rfl rfl rfl rfl hwl hwo rfl rfl ?_ (hu := by exact D4 hwl.symm))
 refine aP 32 rfl (qA rfl) rfl ?_
 refine aP 33 rfl (qA rfl) rfl ?_
 refine B0 ?_
 refine D5 (rC rfl (A2 rfl rfl (A9 (by repeat first | exact mH | apply mT)) hwl)) (rT rfl) (rT rfl) ?_
 exact B0A
 refine E0 ?_
 refine sP (J8 rfl rfl (by omega)) rfl rfl ?_
 refine B7 ?_
 refine sP (J8 rfl rfl (by omega)) rfl rfl ?_
 refine A0y ?_
 refine sP (A0n rfl rfl (by omega)) rfl rfl ?_
 refine I7 ?_
 refine D5 (rC rfl (A5 rfl rfl)) (rT rfl) (rT rfl) ?_
 exact A3w
 refine I7 ?_
 refine sP (J8 rfl rfl (by omega)) rfl rfl ?_
 refine B7 ?_
 refine sP (J8 rfl rfl (by omega)) rfl rfl ?_
 refine A0y ?_
 refine sP (A0n rfl rfl (by omega)) rfl rfl ?_
 refine I7 ?_
 refine D5 (rC rfl (A5 rfl rfl)) (rT rfl) (rT rfl) ?_
 exact A3w
theorem B0B {Q : Prop} (h : Q := by (exact V9.mk (by rw [if_pos hq, A2g (by omega), A0Y (by omega), A0Y (by omega)]) hrw)) : Q := h
theorem B0C (k : Int) (a : Tm) (nm : ByteArray) (num : Int) (ty fr : Ty) (lb : Int) (G : IM) (cells : List Value) (hk1 : k = 11 ∨ k = 12) (hca : cv a) (hr : B1 G (.mk k nm num ty fr lb [a]) cells) : Fn Tryz.prog 230 [.agg ⟨cells⟩] [] G (V9 (Z2 k ty fr lb [a])) := by
 obtain ⟨ak, anm, anum, ⟨atk, atks⟩, ⟨afk, afks⟩, alb, aks⟩ := a
 obtain ⟨hN, hkk⟩ := hca.node
 have hops := hN.ops
 have hbl := hN.lbB
 have htyA := hN.tyA
 have hfrA := hN.frA
 rw [F9] at htyA hfrA
 have h14 : ak = 14 → aks.length = 1 := fun h => by rw [h] at hops; have : E6 14 = 1 := rfl; omega
 obtain ⟨tk, tks⟩ := ty
 obtain ⟨fk, fks⟩ := fr
 obtain ⟨pt, ct, pf, cf, p, c, es, rfl, hk, hnum, hlb, hty, hfr, hsl, hkl⟩ := hr.open9
 obtain ⟨bx, ox, e0, rfl, hl0, hat0, hre0, hgb0⟩ := hsl.kidTm hkl (i := 0) (by simp) (by simp)
 replace hre0 : B1 G (Tm.mk ak anm anum (.mk atk atks) (.mk afk afks) alb aks) e0 := hre0
 have hP : Fn Tryz.prog 106 [.agg ⟨e0⟩] [] G (I5 (.bool (decide (ak = 14 ∧ afk = atk ∧ (atk = 4 ∨ atk = 5)))) G) := A2P _ G _ hre0
 have hI := A4d _ G _ hre0
 have ho0 := hre0.one
 obtain ⟨apt, act, apf, acf, ap, ac, aes, rfl, hak, hanum, halb, haty, hafr, hasl, hakl⟩ := hre0.open9
 have hfk64 : F8 fk := by obtain ⟨_, _, _, _, h, _⟩ := hfr.open; exact h
 have htk64 : F8 tk := by obtain ⟨_, _, _, _, h, _⟩ := hty.open; exact h
 obtain ⟨tes, htS, htL⟩ := haty.kids
 obtain ⟨fes, hfS, hfL⟩ := hafr.kids
 simp only [Ty.ks] at htS htL hfS hfL
 obtain ⟨i, hi⟩ : ∃ i : Nat, (k - 11).toNat = i := ⟨_, rfl⟩
 have hR : Z2 k (.mk tk tks) (.mk fk fks) lb [Tm.mk ak anm anum (.mk atk atks) (.mk afk afks) alb aks] = (if (ak = 14 ∧ afk = atk ∧ (atk = 4 ∨ atk = 5)) ∧ atk = 5 then (L3 (A0r k [kd aks 0]) (kt afks i) (kt atks i) alb, 1, 0) else R4) := by
  unfold Z2
  rw [if_neg (by omega), if_pos hk1, hi, show kd [Tm.mk ak anm anum (.mk atk atks) (.mk afk afks) alb aks] 0 = Tm.mk ak anm anum (.mk atk atks) (.mk afk afks) alb aks from rfl, A1w]
  simp only [decide_eq_true_eq]
  rfl
 rw [hR]
 refine C1 Tryz.func230 rfl Tryz.ntmps230 Tryz.results230 rfl ?_
 intro w0
 refine A3 ?_
 refine sE (C7 rfl rfl) rfl (fun b3 => ?_)
 refine sE (A7 rfl) rfl (fun b4 => ?_)
 refine D1 ?_
 refine sP (B6 (j := 0) rfl rfl rfl (by simp)) rfl rfl ?_
 refine sL (A2 rfl rfl (hat0 _) rfl) rfl rfl ?_
 refine sE (A7 rfl) rfl (fun b15 => ?_)
 refine B4 ?_
 refine C0 ?_
 refine B4 ?_
 refine sP (J8 rfl rfl (by omega)) rfl rfl ?_
 refine U7 ?_
 refine sB (qE rfl rfl) rfl rfl (fun h44 => ?_) (fun h44 => ?_)
 refine B5 ?_
 focus (by_cases hpx : (ak = 14 ∧ afk = atk ∧ (atk = 4 ∨ atk = 5)); rw [decide_eq_true hpx] at hP; rotate_left; rw [decide_eq_false hpx] at hP; rotate_left; all_goals (refine E8 rfl hP rfl rfl ?_))
 refine B0 ?_
 refine sB (qE rfl rfl) rfl rfl (fun h58 => ?_) (fun h58 => ?_)
 refine E0 ?_
 refine sP (O9 rfl rfl (by omega) (by omega)) rfl rfl ?_
 refine B4 ?_
 (have hq : (ak = 14 ∧ afk = atk ∧ (atk = 4 ∨ atk = 5)) ∧ atk = 5 := ⟨hpx, by omega⟩; have hq1 := h14 hq.1.1; have hq2 := htyA.1 (by omega); have hq3 := hfrA.1 (by omega); rw [show (k - 11 : Int) = ((i : Nat) : Int) from (by omega)]; obtain ⟨bq, oq, e3, rfl, hl3, hat3, hre3, hgb3⟩ := hasl.kidTm hakl (i := 0) (by omega) (by omega); have ho3 := hre3.one; obtain ⟨b5, o5, q5, d5, rfl, hat5, hre5, hgb5⟩ := htS.kidTy htL (i := i) (by omega) (by omega); obtain ⟨b7, o7, q7, d7, rfl, hat7, hre7, hgb7⟩ := hfS.kidTy hfL (i := i) (by omega) (by omega); obtain ⟨x1, x2, x3, x4, x5, x6, x7, x8, x9, rfl⟩ := nine hl3; refine E2 E4 rfl ?_)
 refine J4 (i := 0) (l' := [tt,ff,ff,ff,ff,ff,ff,ff,ff,ff,ff,ff,ff,ff,ff,ff,ff,ff,ff,ff,ff,ff,ff,ff,ff,ff]) rfl D6 (B9 rfl) rfl (by kernel_rfl) rfl rfl ?_
 refine aL 1 rfl (C8 rfl rfl) rfl ?_
 refine aP 2 rfl (B9 rfl) rfl ?_
 refine aL 3 rfl (C8 rfl rfl) rfl ?_
 refine aP 4 rfl (B6 (j := 0) rfl rfl rfl (by omega)) rfl ?_
 refine aL 5 rfl (A2 rfl rfl (hat3 _) rfl) rfl ?_
 refine aP 8 rfl (B9 rfl) rfl ?_
 refine aP 9 rfl (qF rfl) rfl ?_
 refine aL 10 rfl (C8 rfl rfl) rfl ?_
 refine aP 11 rfl (qM rfl) rfl ?_
 refine aP 12 rfl (B6 (j := i) rfl rfl rfl (by omega)) rfl ?_
 refine aL 13 rfl (A2 rfl rfl (hat7 _) rfl) rfl ?_
 refine aP 14 rfl (B9 rfl) rfl ?_
 refine aP 15 rfl (qF rfl) rfl ?_
 refine aL 16 rfl (C8 rfl rfl) rfl ?_
 refine aP 17 rfl (qM rfl) rfl ?_
 refine aP 18 rfl (B6 (j := i) rfl rfl rfl (by omega)) rfl ?_
 refine aL 19 rfl (A2 rfl rfl (hat5 _) rfl) rfl ?_
 refine aP 20 rfl (B9 rfl) rfl ?_
 refine aL 21 rfl (C8 rfl rfl) rfl ?_
 refine A4 6 ?_
 (refine E5 rfl (D0 rfl rfl rfl (by omega) (by unfold maxLen; omega) rfl) rfl rfl ?_; rintro _ ⟨b95, rfl⟩)
 refine A4 7 ?_
 (refine A1h (cs := [x1, x2, x3, x4, x5, x6, x7, x8, x9]) (by repeat (first | exact Pk.here | apply Pk.there)) (fun G2 hle2 hsl2 hno2 => ?_); have hrN := A0X (k := k) (ks := [aks[0]]) (es := [[x1, x2, x3, x4, x5, x6, x7, x8, x9]]) hk rfl (D7.of hsl2 rfl (by simp) (by intro x hx; obtain rfl := List.mem_singleton.1 hx; exact ho3)) (by simp only [E1]; exact ⟨_, _, rfl, hre3.mono hle2, rfl⟩); replace hre5 := hre5.mono hle2; replace hre7 := hre7.mono hle2; refine N3 rfl rfl (A3v _ _ _ _ _) rfl rfl rfl ?_)
 refine A4 22 ?_
 (refine H7 rfl rfl (A1y _ afks[i] atks[i] alb G2 _ _ _ ⟨by omega, by omega⟩ hrN hre7 hre5) rfl rfl rfl (fun u G3 hle3 hh => ?_); obtain ⟨wc, rfl, hrw⟩ := hh; have hwl := hrw.len; have hwo := hrw.one)
 refine A4 23 ?_
 (refine oS rfl rfl rfl rfl hwl hwo rfl rfl ?_ (hu := by exact D4 hwl.symm))
 refine aP 24 rfl (qA rfl) rfl ?_
 refine aP 25 rfl (qA rfl) rfl ?_
 refine B0 ?_
 refine D5 (rC rfl (A2 rfl rfl (A9 (by repeat first | exact mH | apply mT)) hwl)) (rT rfl) (rT rfl) ?_
 exact B0B
 refine E0 ?_
 refine sP (A0n rfl rfl (by omega)) rfl rfl ?_
 refine I7 ?_
 refine D5 (rC rfl (A5 rfl rfl)) (rT rfl) (rT rfl) ?_
 exact A3w
 refine I7 ?_
 refine sP (A0n rfl rfl (by omega)) rfl rfl ?_
 refine I7 ?_
 refine D5 (rC rfl (A5 rfl rfl)) (rT rfl) (rT rfl) ?_
 exact A3w
 refine B7 ?_
 refine sP (X5 rfl rfl (by omega)) rfl rfl ?_
 refine B7 ?_
 focus (by_cases hpx : (ak = 14 ∧ afk = atk ∧ (atk = 4 ∨ atk = 5)); rw [decide_eq_true hpx] at hP; rotate_left; rw [decide_eq_false hpx] at hP; rotate_left; all_goals (refine E8 rfl hP rfl rfl ?_))
 refine B0 ?_
 refine sB (qE rfl rfl) rfl rfl (fun h184 => ?_) (fun h184 => ?_)
 refine E0 ?_
 refine sP (O9 rfl rfl (by omega) (by omega)) rfl rfl ?_
 refine B4 ?_
 (have hq : (ak = 14 ∧ afk = atk ∧ (atk = 4 ∨ atk = 5)) ∧ atk = 5 := ⟨hpx, by omega⟩; have hq1 := h14 hq.1.1; have hq2 := htyA.1 (by omega); have hq3 := hfrA.1 (by omega); rw [show (k - 11 : Int) = ((i : Nat) : Int) from (by omega)]; obtain ⟨bq, oq, e3, rfl, hl3, hat3, hre3, hgb3⟩ := hasl.kidTm hakl (i := 0) (by omega) (by omega); have ho3 := hre3.one; obtain ⟨b5, o5, q5, d5, rfl, hat5, hre5, hgb5⟩ := htS.kidTy htL (i := i) (by omega) (by omega); obtain ⟨b7, o7, q7, d7, rfl, hat7, hre7, hgb7⟩ := hfS.kidTy hfL (i := i) (by omega) (by omega); obtain ⟨x1, x2, x3, x4, x5, x6, x7, x8, x9, rfl⟩ := nine hl3; refine E2 E4 rfl ?_)
 refine J4 (i := 0) (l' := [tt,ff,ff,ff,ff,ff,ff,ff,ff,ff,ff,ff,ff,ff,ff,ff,ff,ff,ff,ff,ff,ff,ff,ff,ff,ff]) rfl D6 (B9 rfl) rfl (by kernel_rfl) rfl rfl ?_
 refine aL 1 rfl (C8 rfl rfl) rfl ?_
 refine aP 2 rfl (B9 rfl) rfl ?_
 refine aL 3 rfl (C8 rfl rfl) rfl ?_
 refine aP 4 rfl (B6 (j := 0) rfl rfl rfl (by omega)) rfl ?_
 refine aL 5 rfl (A2 rfl rfl (hat3 _) rfl) rfl ?_
 refine aP 8 rfl (B9 rfl) rfl ?_
 refine aP 9 rfl (qF rfl) rfl ?_
 refine aL 10 rfl (C8 rfl rfl) rfl ?_
 refine aP 11 rfl (qM rfl) rfl ?_
 refine aP 12 rfl (B6 (j := i) rfl rfl rfl (by omega)) rfl ?_
 refine aL 13 rfl (A2 rfl rfl (hat7 _) rfl) rfl ?_
 refine aP 14 rfl (B9 rfl) rfl ?_
 refine aP 15 rfl (qF rfl) rfl ?_
 refine aL 16 rfl (C8 rfl rfl) rfl ?_
 refine aP 17 rfl (qM rfl) rfl ?_
 refine aP 18 rfl (B6 (j := i) rfl rfl rfl (by omega)) rfl ?_
 refine aL 19 rfl (A2 rfl rfl (hat5 _) rfl) rfl ?_
 refine aP 20 rfl (B9 rfl) rfl ?_
 refine aL 21 rfl (C8 rfl rfl) rfl ?_
 refine A4 6 ?_
 (refine E5 rfl (D0 rfl rfl rfl (by omega) (by unfold maxLen; omega) rfl) rfl rfl ?_; rintro _ ⟨b221, rfl⟩)
 refine A4 7 ?_
 (refine A1h (cs := [x1, x2, x3, x4, x5, x6, x7, x8, x9]) (by repeat (first | exact Pk.here | apply Pk.there)) (fun G2 hle2 hsl2 hno2 => ?_); have hrN := A0X (k := k) (ks := [aks[0]]) (es := [[x1, x2, x3, x4, x5, x6, x7, x8, x9]]) hk rfl (D7.of hsl2 rfl (by simp) (by intro x hx; obtain rfl := List.mem_singleton.1 hx; exact ho3)) (by simp only [E1]; exact ⟨_, _, rfl, hre3.mono hle2, rfl⟩); replace hre5 := hre5.mono hle2; replace hre7 := hre7.mono hle2; refine N3 rfl rfl (A3v _ _ _ _ _) rfl rfl rfl ?_)
 refine A4 22 ?_
 (refine H7 rfl rfl (A1y _ afks[i] atks[i] alb G2 _ _ _ ⟨by omega, by omega⟩ hrN hre7 hre5) rfl rfl rfl (fun u G3 hle3 hh => ?_); obtain ⟨wc, rfl, hrw⟩ := hh; have hwl := hrw.len; have hwo := hrw.one)
 refine A4 23 ?_
 (refine oS rfl rfl rfl rfl hwl hwo rfl rfl ?_ (hu := by exact D4 hwl.symm))
 refine aP 24 rfl (qA rfl) rfl ?_
 refine aP 25 rfl (qA rfl) rfl ?_
 refine B0 ?_
 refine D5 (rC rfl (A2 rfl rfl (A9 (by repeat first | exact mH | apply mT)) hwl)) (rT rfl) (rT rfl) ?_
 exact B0B
 refine E0 ?_
 refine sP (A0n rfl rfl (by omega)) rfl rfl ?_
 refine I7 ?_
 refine D5 (rC rfl (A5 rfl rfl)) (rT rfl) (rT rfl) ?_
 exact A3w
 refine I7 ?_
 refine sP (A0n rfl rfl (by omega)) rfl rfl ?_
 refine I7 ?_
 refine D5 (rC rfl (A5 rfl rfl)) (rT rfl) (rT rfl) ?_
 exact A3w
theorem A5k {t : Tm} (h : inj t = true) : t.k = 14 := by
 unfold inj at h
 simp only [Bool.and_eq_true, decide_eq_true_eq] at h
 exact h.1.1
theorem B5F {t u : Ty} (h : U3 t = true) (h' : U3 u = true) : M5 t u = decide (t.k = u.k) := by
 have e1 := B0z h
 have e2 := B0z h'
 by_cases hk : t.k = u.k
 ·rw [decide_eq_true hk, A1o, e1, e2]
  unfold V1; rw [hk]
 ·rw [decide_eq_false hk]
  cases hs : M5 t u with
  | false => rfl
  | true => exact absurd (congrArg Ty.k ((A1o _ _).1 hs)) hk
theorem B0D {t : Tm} (h : inj t = true) : U3 t.fr = true := by
 unfold inj at h
 rw [Bool.and_eq_true] at h
 exact h.2
theorem B5G (a : Tm) (nm : ByteArray) (num : Int) (ty fr : Ty) (lb : Int) (G : IM) (cells : List Value) (hca : cv a) (hlb9 : -99 ≤ lb ∧ lb ≤ 99) (hr : B1 G (.mk 14 nm num ty fr lb [a]) cells) : Fn Tryz.prog 230 [.agg ⟨cells⟩] [] G (V9 (Z2 14 ty fr lb [a])) := by
 have hji := @B0D a
 have hjk := @A5k a
 obtain ⟨ak, anm, anum, ⟨atk, atks⟩, ⟨afk, afks⟩, alb, aks⟩ := a
 obtain ⟨hN, hkk⟩ := hca.node
 have hops := hN.ops
 have hbl := hN.lbB
 have htyA := hN.tyA
 have hfrA := hN.frA
 rw [F9] at htyA hfrA
 have h14 : ak = 14 → aks.length = 1 := fun h => by rw [h] at hops; have : E6 14 = 1 := rfl; omega
 obtain ⟨tk, tks⟩ := ty
 obtain ⟨fk, fks⟩ := fr
 obtain ⟨pt, ct, pf, cf, p, c, es, rfl, hk, hnum, hlb, hty, hfr, hsl, hkl⟩ := hr.open9
 obtain ⟨bx, ox, e0, rfl, hl0, hat0, hre0, hgb0⟩ := hsl.kidTm hkl (i := 0) (by simp) (by simp)
 replace hre0 : B1 G (Tm.mk ak anm anum (.mk atk atks) (.mk afk afks) alb aks) e0 := hre0
 have hP : Fn Tryz.prog 106 [.agg ⟨e0⟩] [] G (I5 (.bool (decide (ak = 14 ∧ afk = atk ∧ (atk = 4 ∨ atk = 5)))) G) := A2P _ G _ hre0
 have hI := A4d _ G _ hre0
 have ho0 := hre0.one
 obtain ⟨apt, act, apf, acf, ap, ac, aes, rfl, hak, hanum, halb, haty, hafr, hasl, hakl⟩ := hre0.open9
 have hfk64 : F8 fk := by obtain ⟨_, _, _, _, h, _⟩ := hfr.open; exact h
 have htk64 : F8 tk := by obtain ⟨_, _, _, _, h, _⟩ := hty.open; exact h
 obtain ⟨tes, htS, htL⟩ := haty.kids
 obtain ⟨fes, hfS, hfL⟩ := hafr.kids
 simp only [Ty.ks] at htS htL hfS hfL
 obtain ⟨J, hJ⟩ : ∃ J, inj (Tm.mk ak anm anum (.mk atk atks) (.mk afk afks) alb aks) = J := ⟨_, rfl⟩
 obtain ⟨D, hD⟩ : ∃ D, U3 (.mk tk tks) = D := ⟨_, rfl⟩
 have hGr := B0r _ G _ hty
 rw [hD] at hGr
 rw [hJ] at hI hji hjk
 have hR : Z2 14 (.mk tk tks) (.mk fk fks) lb [Tm.mk ak anm anum (.mk atk atks) (.mk afk afks) alb aks] = (if fk = tk then (Tm.mk ak anm anum (.mk atk atks) (.mk afk afks) alb aks, 1, 0)
   else if tk = 1 then (L3 (L3 (Tm.mk ak anm anum (.mk atk atks) (.mk afk afks) alb aks) (.mk fk fks) (mGk fk) lb) (mGk fk) (.mk tk tks) lb, 1, 0)
   else if D = false then (L3 (L3 (Tm.mk ak anm anum (.mk atk atks) (.mk afk afks) alb aks) (.mk fk fks) (mGk tk) lb) (mGk tk) (.mk tk tks) lb, 1, 0)
   else if J = false then R4
   else if afk = tk then (kd aks 0, 1, 0)
   else (K7, 2, lb)) := by
  rw [← hJ, ← hD]; rfl
 rw [hR]
 have hSm : J = true → D = true → M5 (.mk afk afks) (.mk tk tks) = decide (afk = tk) := fun h1 h2 => B5F (hji h1) (hD.trans h2)
 have hTS := A6W (.mk afk afks) (.mk tk tks) G _ _ hafr hty
 refine C1 Tryz.func230 rfl Tryz.ntmps230 Tryz.results230 rfl ?_
 intro w0
 refine A3 ?_
 refine sE (C7 rfl rfl) rfl (fun b3 => ?_)
 refine sE (A7 rfl) rfl (fun b4 => ?_)
 refine D1 ?_
 refine sP (B6 (j := 0) rfl rfl rfl (by simp)) rfl rfl ?_
 refine sL (A2 rfl rfl (hat0 _) rfl) rfl rfl ?_
 refine sE (A7 rfl) rfl (fun b15 => ?_)
 refine B4 ?_
 refine C0 ?_
 refine B4 ?_
 refine sP (J8 rfl rfl (by omega)) rfl rfl ?_
 refine U7 ?_
 refine sP (J8 rfl rfl (by omega)) rfl rfl ?_
 refine B7 ?_
 refine sP (J8 rfl rfl (by omega)) rfl rfl ?_
 refine A0y ?_
 refine sP (A24 rfl rfl (by omega)) rfl rfl ?_
 refine K5 ?_
 refine sB (qE rfl rfl) rfl rfl (fun h81 => ?_) (fun h81 => ?_)
 refine I7 ?_
 refine D5 (rC rfl (A5 rfl rfl)) (rT rfl) (rT rfl) ?_
 (exact V9.mk (by rw [if_pos (by omega)]) hre0)
 refine E0 ?_
 refine sB (qE rfl rfl) rfl rfl (fun h108 => ?_) (fun h108 => ?_)
 refine E0 ?_
 (refine D9 rfl (A64 fk G hfk64) rfl rfl (fun u G1 hle1 hh => ?_); obtain ⟨gc, rfl, hrg⟩ := hh; obtain ⟨pg, cg, eg, rfl, _⟩ := hrg.open; have hgk : tk = 1 := (by omega); replace hre0 := hre0.mono hle1; replace hfr := hfr.mono hle1; replace hty := hty.mono hle1)
 refine sE (A7 rfl) rfl (fun b119 => ?_)
 refine B4 ?_
 refine E2 E4 rfl ?_
 refine L4 (i := 0) (l' := [tt,ff,ff,ff,ff,ff,ff,ff,ff,ff,ff,ff,ff,ff,ff,ff]) rfl D6 (A2 rfl rfl (A9 (by repeat first | exact mH | apply mT)) rfl) rfl (by kernel_rfl) rfl rfl ?_
 refine aL 3 rfl (A2 rfl rfl (A9 (by repeat first | exact mH | apply mT)) rfl) rfl ?_
 refine aL 7 rfl (A2 rfl rfl (A9 (by repeat first | exact mH | apply mT)) rfl) rfl ?_
 refine aP 1 rfl (B9 rfl) rfl ?_
 refine aL 2 rfl (A5 rfl rfl) rfl ?_
 refine aP 4 rfl (B9 rfl) rfl ?_
 refine aL 5 rfl (C8 rfl rfl) rfl ?_
 refine aP 8 rfl (B9 rfl) rfl ?_
 refine aL 9 rfl (A5 rfl rfl) rfl ?_
 refine aP 10 rfl (B9 rfl) rfl ?_
 refine aL 11 rfl (C8 rfl rfl) rfl ?_
 refine A4 6 ?_
 (refine H7 rfl rfl (A1y _ (.mk fk fks) _ lb G1 _ _ _ ⟨by omega, by omega⟩ hre0 hfr hrg) rfl rfl rfl (fun u G3 hle3 hh => ?_); obtain ⟨wc, rfl, hrw⟩ := hh; have hwl := hrw.len; have hwo := hrw.one; replace hrg := hrg.mono hle3; replace hty := hty.mono hle3)
 refine A4 12 ?_
 (refine H7 rfl rfl (A1y _ _ (.mk tk tks) lb G3 _ _ _ ⟨by omega, by omega⟩ hrw hrg hty) rfl rfl rfl (fun u G4 hle4 hh => ?_); obtain ⟨xc, rfl, hrx⟩ := hh; have hxl := hrx.len; have hxo := hrx.one)
 refine A4 13 ?_
 (refine oS rfl rfl rfl rfl hxl hxo rfl rfl ?_ (hu := by exact D4 hxl.symm))
 refine aP 14 rfl (qA rfl) rfl ?_
 refine aP 15 rfl (qA rfl) rfl ?_
 refine B0 ?_
 refine D5 (rC rfl (A2 rfl rfl (A9 (by repeat first | exact mH | apply mT)) hxl)) (rT rfl) (rT rfl) ?_
 (exact V9.mk (by rw [if_neg (by omega), if_pos (by omega)]) hrx)
 refine D1 ?_
 focus (cases hDD : D; all_goals (rw [hDD] at hGr; refine E8 rfl hGr rfl rfl ?_))
 refine J3 ?_
 (refine D9 rfl (A64 tk G htk64) rfl rfl (fun u G1 hle1 hh => ?_); obtain ⟨gc, rfl, hrg⟩ := hh; obtain ⟨pg, cg, eg, rfl, _⟩ := hrg.open; replace hre0 := hre0.mono hle1; replace hfr := hfr.mono hle1; replace hty := hty.mono hle1)
 refine sE (A7 rfl) rfl (fun b171 => ?_)
 refine B4 ?_
 refine E2 E4 rfl ?_
 refine L4 (i := 0) (l' := [tt,ff,ff,ff,ff,ff,ff,ff,ff,ff,ff,ff,ff,ff,ff,ff]) rfl D6 (A2 rfl rfl (A9 (by repeat first | exact mH | apply mT)) rfl) rfl (by kernel_rfl) rfl rfl ?_
 refine aL 3 rfl (A2 rfl rfl (A9 (by repeat first | exact mH | apply mT)) rfl) rfl ?_
 refine aL 7 rfl (A2 rfl rfl (A9 (by repeat first | exact mH | apply mT)) rfl) rfl ?_
 refine aP 1 rfl (B9 rfl) rfl ?_
 refine aL 2 rfl (A5 rfl rfl) rfl ?_
 refine aP 4 rfl (B9 rfl) rfl ?_
 refine aL 5 rfl (C8 rfl rfl) rfl ?_
 refine aP 8 rfl (B9 rfl) rfl ?_
 refine aL 9 rfl (A5 rfl rfl) rfl ?_
 refine aP 10 rfl (B9 rfl) rfl ?_
 refine aL 11 rfl (C8 rfl rfl) rfl ?_
 refine A4 6 ?_
 (refine H7 rfl rfl (A1y _ (.mk fk fks) _ lb G1 _ _ _ ⟨by omega, by omega⟩ hre0 hfr hrg) rfl rfl rfl (fun u G3 hle3 hh => ?_); obtain ⟨wc, rfl, hrw⟩ := hh; have hwl := hrw.len; have hwo := hrw.one; replace hrg := hrg.mono hle3; replace hty := hty.mono hle3)
 refine A4 12 ?_
 (refine H7 rfl rfl (A1y _ _ (.mk tk tks) lb G3 _ _ _ ⟨by omega, by omega⟩ hrw hrg hty) rfl rfl rfl (fun u G4 hle4 hh => ?_); obtain ⟨xc, rfl, hrx⟩ := hh; have hxl := hrx.len; have hxo := hrx.one)
 refine A4 13 ?_
 (refine oS rfl rfl rfl rfl hxl hxo rfl rfl ?_ (hu := by exact D4 hxl.symm))
 refine aP 14 rfl (qA rfl) rfl ?_
 refine aP 15 rfl (qA rfl) rfl ?_
 refine B0 ?_
 refine D5 (rC rfl (A2 rfl rfl (A9 (by repeat first | exact mH | apply mT)) hxl)) (rT rfl) (rT rfl) ?_
 (exact V9.mk (by rw [if_neg (by omega), if_neg (by omega), if_pos rfl]) hrx)
 refine D1 ?_
 focus (cases hJJ : J; all_goals (rw [hJJ] at hI; refine E8 rfl hI rfl rfl ?_))
 refine K0 ?_
 refine D5 (rC rfl (A5 rfl rfl)) (rT rfl) (rT rfl) ?_
 (exact V9.mk (by rw [if_neg (by omega), if_neg (by omega), if_neg (by decide), if_pos rfl]; rfl) (P6 _))
 refine J1 ?_
 focus (rw [hSm hJJ hDD] at hTS; by_cases hfk : afk = tk; rw [decide_eq_true hfk] at hTS; rotate_left; rw [decide_eq_false hfk] at hTS; rotate_left; all_goals (refine E8 rfl hTS rfl rfl ?_))
 refine D1 ?_
 (have hq1 := h14 (hjk (by assumption)); obtain ⟨bq, oq, e3, rfl, hl3, hat3, hre3, hgb3⟩ := hasl.kidTm hakl (i := 0) (by omega) (by omega); have ho3 := hre3.one; refine sP (B6 (j := 0) rfl rfl rfl (by omega)) rfl rfl ?_)
 refine sL (A2 rfl rfl (hat3 _) hl3) rfl rfl ?_
 refine sS rfl rfl rfl hl3 ho3 rfl ?_ (hu := by exact D4 hl3.symm)
 refine B5 ?_
 refine D5 (rC rfl (A2 rfl rfl (A9 (by repeat first | exact mH | apply mT)) hl3)) (rT rfl) (rT rfl) ?_
 (exact V9.mk (by rw [if_neg (by omega), if_neg (by omega), if_neg (by decide), if_neg (by decide), if_pos hfk, A2g (by omega)]) hre3)
 refine D1 ?_
 refine E2 E4 rfl ?_
 refine J4 (i := 0) (l' := [tt,ff,ff,ff,ff,ff]) rfl D6 (X0 rfl rfl) rfl (by kernel_rfl) rfl rfl ?_
 refine aP 1 rfl (B9 rfl) rfl ?_
 refine aL 2 rfl (C8 rfl rfl) rfl ?_
 refine A4 3 ?_
 refine I2 rfl ?_
 refine aP 4 rfl (qA rfl) rfl ?_
 refine aP 5 rfl (qA rfl) rfl ?_
 refine B7 ?_
 refine D5 (rC rfl (A5 rfl rfl)) (rT rfl) (rT rfl) ?_
 (exact V9.mk (by rw [if_neg (by omega), if_neg (by omega), if_neg (by decide), if_neg (by decide), if_neg hfk]) (P6 _))
theorem B0E (k : Int) (a b : Tm) (nm : ByteArray) (num : Int) (ty fr : Ty) (lb : Int) (G : IM) (cells : List Value) (hk1 : k = 7 ∨ k = 8) (hca : cv a) (hr : B1 G (.mk k nm num ty fr lb [a, b]) cells) : Fn Tryz.prog 230 [.agg ⟨cells⟩] [] G (V9 (Z2 k ty fr lb [a, b])) := by
 have hR : Z2 k ty fr lb [a, b] = R4 := by unfold Z2; rw [if_neg (by omega), if_neg (by omega), if_neg (by omega)]
 rw [hR]
 obtain ⟨ak, anm, anum, ⟨atk, atks⟩, ⟨afk, afks⟩, alb, aks⟩ := a
 obtain ⟨hN, hkk⟩ := hca.node
 have hops := hN.ops
 have hbl := hN.lbB
 have htyA := hN.tyA
 have hfrA := hN.frA
 rw [F9] at htyA hfrA
 have h14 : ak = 14 → aks.length = 1 := fun h => by rw [h] at hops; have : E6 14 = 1 := rfl; omega
 obtain ⟨tk, tks⟩ := ty
 obtain ⟨fk, fks⟩ := fr
 obtain ⟨pt, ct, pf, cf, p, c, es, rfl, hk, hnum, hlb, hty, hfr, hsl, hkl⟩ := hr.open9
 obtain ⟨bx, ox, e0, rfl, hl0, hat0, hre0, hgb0⟩ := hsl.kidTm hkl (i := 0) (by simp) (by simp)
 replace hre0 : B1 G (Tm.mk ak anm anum (.mk atk atks) (.mk afk afks) alb aks) e0 := hre0
 have hP : Fn Tryz.prog 106 [.agg ⟨e0⟩] [] G (I5 (.bool (decide (ak = 14 ∧ afk = atk ∧ (atk = 4 ∨ atk = 5)))) G) := A2P _ G _ hre0
 have hI := A4d _ G _ hre0
 have ho0 := hre0.one
 obtain ⟨apt, act, apf, acf, ap, ac, aes, rfl, hak, hanum, halb, haty, hafr, hasl, hakl⟩ := hre0.open9
 have hfk64 : F8 fk := by obtain ⟨_, _, _, _, h, _⟩ := hfr.open; exact h
 have htk64 : F8 tk := by obtain ⟨_, _, _, _, h, _⟩ := hty.open; exact h
 obtain ⟨tes, htS, htL⟩ := haty.kids
 obtain ⟨fes, hfS, hfL⟩ := hafr.kids
 simp only [Ty.ks] at htS htL hfS hfL
 refine C1 Tryz.func230 rfl Tryz.ntmps230 Tryz.results230 rfl ?_
 intro w0
 refine A3 ?_
 refine sE (C7 rfl rfl) rfl (fun b3 => ?_)
 refine sE (A7 rfl) rfl (fun b4 => ?_)
 refine D1 ?_
 refine sP (B6 (j := 0) rfl rfl rfl (by simp)) rfl rfl ?_
 refine sL (A2 rfl rfl (hat0 _) rfl) rfl rfl ?_
 refine sE (A7 rfl) rfl (fun b15 => ?_)
 refine B4 ?_
 refine C0 ?_
 refine B4 ?_
 refine sP (J8 rfl rfl (by omega)) rfl rfl ?_
 refine U7 ?_
 refine sP (J8 rfl rfl (by omega)) rfl rfl ?_
 refine B7 ?_
 refine sP (J8 rfl rfl (by omega)) rfl rfl ?_
 refine A0y ?_
 refine sP (A0n rfl rfl (by omega)) rfl rfl ?_
 refine I7 ?_
 refine D5 (rC rfl (A5 rfl rfl)) (rT rfl) (rT rfl) ?_
 (exact V9.mk rfl (P6 _))
theorem B5H (a b c0 : Tm) (nm : ByteArray) (num : Int) (ty fr : Ty) (lb : Int) (G : IM) (cells : List Value) (hca : cv a) (hr : B1 G (.mk 9 nm num ty fr lb [a, b, c0]) cells) : Fn Tryz.prog 230 [.agg ⟨cells⟩] [] G (V9 (Z2 9 ty fr lb [a, b, c0])) := by
 have hR : Z2 9 ty fr lb [a, b, c0] = R4 := by unfold Z2; rw [if_neg (by omega), if_neg (by omega), if_neg (by omega)]
 rw [hR]
 obtain ⟨ak, anm, anum, ⟨atk, atks⟩, ⟨afk, afks⟩, alb, aks⟩ := a
 obtain ⟨hN, hkk⟩ := hca.node
 have hops := hN.ops
 have hbl := hN.lbB
 have htyA := hN.tyA
 have hfrA := hN.frA
 rw [F9] at htyA hfrA
 have h14 : ak = 14 → aks.length = 1 := fun h => by rw [h] at hops; have : E6 14 = 1 := rfl; omega
 obtain ⟨tk, tks⟩ := ty
 obtain ⟨fk, fks⟩ := fr
 obtain ⟨pt, ct, pf, cf, p, c, es, rfl, hk, hnum, hlb, hty, hfr, hsl, hkl⟩ := hr.open9
 obtain ⟨bx, ox, e0, rfl, hl0, hat0, hre0, hgb0⟩ := hsl.kidTm hkl (i := 0) (by simp) (by simp)
 replace hre0 : B1 G (Tm.mk ak anm anum (.mk atk atks) (.mk afk afks) alb aks) e0 := hre0
 have hP : Fn Tryz.prog 106 [.agg ⟨e0⟩] [] G (I5 (.bool (decide (ak = 14 ∧ afk = atk ∧ (atk = 4 ∨ atk = 5)))) G) := A2P _ G _ hre0
 have hI := A4d _ G _ hre0
 have ho0 := hre0.one
 obtain ⟨apt, act, apf, acf, ap, ac, aes, rfl, hak, hanum, halb, haty, hafr, hasl, hakl⟩ := hre0.open9
 have hfk64 : F8 fk := by obtain ⟨_, _, _, _, h, _⟩ := hfr.open; exact h
 have htk64 : F8 tk := by obtain ⟨_, _, _, _, h, _⟩ := hty.open; exact h
 obtain ⟨tes, htS, htL⟩ := haty.kids
 obtain ⟨fes, hfS, hfL⟩ := hafr.kids
 simp only [Ty.ks] at htS htL hfS hfL
 refine C1 Tryz.func230 rfl Tryz.ntmps230 Tryz.results230 rfl ?_
 intro w0
 refine A3 ?_
 refine sE (C7 rfl rfl) rfl (fun b3 => ?_)
 refine sE (A7 rfl) rfl (fun b4 => ?_)
 refine D1 ?_
 refine sP (B6 (j := 0) rfl rfl rfl (by simp)) rfl rfl ?_
 refine sL (A2 rfl rfl (hat0 _) rfl) rfl rfl ?_
 refine sE (A7 rfl) rfl (fun b15 => ?_)
 refine B4 ?_
 refine C0 ?_
 refine B4 ?_
 refine sP (J8 rfl rfl (by omega)) rfl rfl ?_
 refine U7 ?_
 refine sP (J8 rfl rfl (by omega)) rfl rfl ?_
 refine B7 ?_
 refine sP (J8 rfl rfl (by omega)) rfl rfl ?_
 refine A0y ?_
 refine sP (A0n rfl rfl (by omega)) rfl rfl ?_
 refine I7 ?_
 refine D5 (rC rfl (A5 rfl rfl)) (rT rfl) (rT rfl) ?_
 (exact V9.mk rfl (P6 _))
theorem B5I (nm : ByteArray) (num : Int) (ty fr : Ty) (lb : Int) (G : IM) (cells : List Value) (hr : B1 G (.mk 1 nm num ty fr lb []) cells) : Fn Tryz.prog 229 [.agg ⟨cells⟩] [] G (V5 (Y1 1 [])) := by
 rw [show Y1 1 [] = none from rfl]
 obtain ⟨tk, tks⟩ := ty
 obtain ⟨fk, fks⟩ := fr
 obtain ⟨pt, ct, pf, cf, p, c, es, rfl, hk, hnum, hlb, hty, hfr, hsl, hkl⟩ := hr.open9
 have hL : ([] : List Tm).length = 0 := rfl
 refine C1 Tryz.func229 rfl Tryz.ntmps229 Tryz.results229 rfl ?_
 intro w0
 refine A3 ?_
 refine sE (C7 rfl rfl) rfl (fun b3 => ?_)
 refine sE (A7 rfl) rfl (fun b4 => ?_)
 refine A8 ?_
 refine sE (A7 rfl) rfl (fun b11 => ?_)
 refine E0 ?_
 refine sP (B2N rfl rfl (by omega)) rfl rfl ?_
 refine K5 ?_
 refine C0 ?_
 refine A3 ?_
 refine sP (J8 rfl rfl (by omega)) rfl rfl ?_
 refine B5 ?_
 refine sP (J8 rfl rfl (by omega)) rfl rfl ?_
 refine B0 ?_
 refine sP (J8 rfl rfl (by omega)) rfl rfl ?_
 refine A8 ?_
 refine sP (J8 rfl rfl (by omega)) rfl rfl ?_
 refine B5 ?_
 refine sP (J8 rfl rfl (by omega)) rfl rfl ?_
 refine B0 ?_
 refine sP (J8 rfl rfl (by omega)) rfl rfl ?_
 refine I7 ?_
 refine E9 (rC rfl (A5 rfl rfl)) (rT rfl) ?_
 (exact V5.no rfl (P6 _))
theorem B5J (a : Tm) (nm : ByteArray) (num : Int) (ty fr : Ty) (lb : Int) (G : IM) (cells : List Value) (hr : B1 G (.mk 14 nm num ty fr lb [a]) cells) : Fn Tryz.prog 229 [.agg ⟨cells⟩] [] G (V5 (Y1 14 [a])) := by
 rw [show Y1 14 [a] = none from rfl]
 obtain ⟨tk, tks⟩ := ty
 obtain ⟨fk, fks⟩ := fr
 obtain ⟨pt, ct, pf, cf, p, c, es, rfl, hk, hnum, hlb, hty, hfr, hsl, hkl⟩ := hr.open9
 obtain ⟨bx, ox, e0, rfl, hl0, hat0, hre0, hgb0⟩ := hsl.kidTm hkl (i := 0) (by simp) (by simp)
 have ho0 : e0.all (·.oneCell') = true := (show B1 G a e0 from hre0).one
 refine C1 Tryz.func229 rfl Tryz.ntmps229 Tryz.results229 rfl ?_
 intro w0
 refine A3 ?_
 refine sE (C7 rfl rfl) rfl (fun b3 => ?_)
 refine sE (A7 rfl) rfl (fun b4 => ?_)
 refine A8 ?_
 refine sE (A7 rfl) rfl (fun b11 => ?_)
 refine E0 ?_
 refine sB (W3 rfl rfl) rfl rfl (fun h21 => ?_) (fun h21 => ?_)
 refine A8 ?_
 refine sP (B6 (j := 0) rfl rfl rfl (by simp)) rfl rfl ?_
 refine sL (A2 rfl rfl (hat0 _) hl0) rfl rfl ?_
 refine sS rfl rfl rfl hl0 ho0 rfl ?_ (hu := by exact D4 hl0.symm)
 refine E0 ?_
 refine C0 ?_
 refine A3 ?_
 refine sP (J8 rfl rfl (by omega)) rfl rfl ?_
 refine B5 ?_
 refine sP (J8 rfl rfl (by omega)) rfl rfl ?_
 refine B0 ?_
 refine sP (J8 rfl rfl (by omega)) rfl rfl ?_
 refine A8 ?_
 refine sP (J8 rfl rfl (by omega)) rfl rfl ?_
 refine B5 ?_
 refine sP (J8 rfl rfl (by omega)) rfl rfl ?_
 refine B0 ?_
 refine sP (J8 rfl rfl (by omega)) rfl rfl ?_
 refine I7 ?_
 refine E9 (rC rfl (A5 rfl rfl)) (rT rfl) ?_
 (exact V5.no rfl (P6 _))
 refine K5 ?_
 refine C0 ?_
 refine A3 ?_
 refine sP (J8 rfl rfl (by omega)) rfl rfl ?_
 refine B5 ?_
 refine sP (J8 rfl rfl (by omega)) rfl rfl ?_
 refine B0 ?_
 refine sP (J8 rfl rfl (by omega)) rfl rfl ?_
 refine A8 ?_
 refine sP (J8 rfl rfl (by omega)) rfl rfl ?_
 refine B5 ?_
 refine sP (J8 rfl rfl (by omega)) rfl rfl ?_
 refine B0 ?_
 refine sP (J8 rfl rfl (by omega)) rfl rfl ?_
 refine I7 ?_
 refine E9 (rC rfl (A5 rfl rfl)) (rT rfl) ?_
 (exact V5.no rfl (P6 _))
theorem ks1 {ks : List Tm} (h : ks.length = 1) : ∃ a, ks = [a] := by
 match ks, h with
 | [a], _ => exact ⟨a, rfl⟩
theorem ks2 {ks : List Tm} (h : ks.length = 2) : ∃ a b, ks = [a, b] := by
 match ks, h with
 | [a, b], _ => exact ⟨a, b, rfl⟩
theorem ks3 {ks : List Tm} (h : ks.length = 3) : ∃ a b c, ks = [a, b, c] := by
 match ks, h with
 | [a, b, c], _ => exact ⟨a, b, c, rfl⟩
theorem B5K {k : Int} {nm : ByteArray} {num : Int} {ty fr : Ty} {lb : Int} {ks : List Tm} {G : IM} {cells : List Value} (hc : cv (.mk k nm num ty fr lb ks)) (hk : k = 1 ∨ k = 6 ∨ k = 7 ∨ k = 8 ∨ k = 9 ∨ k = 11 ∨ k = 12 ∨ k = 14) (hr : B1 G (.mk k nm num ty fr lb ks) cells) :
  Fn Tryz.prog 229 [.agg ⟨cells⟩] [] G (V5 (Y1 k ks)) := by
 obtain ⟨hN, hkk⟩ := hc.node
 have hops := hN.ops
 rcases hk with rfl | rfl | rfl | rfl | rfl | rfl | rfl | rfl
 ·obtain rfl : ks = [] := List.length_eq_zero_iff.1 (by have : E6 1 = 0 := rfl; omega)
  exact B5I _ _ _ _ _ _ _ hr
 ·obtain ⟨a, b, rfl⟩ := ks2 (ks := ks) (by have : E6 6 = 2 := rfl; omega)
  exact B5B a b _ _ _ _ _ _ _ (hkk a (by simp)) hr
 ·obtain ⟨a, b, rfl⟩ := ks2 (ks := ks) (by have : E6 7 = 2 := rfl; omega)
  exact B0x 7 a b _ _ _ _ _ _ _ (.inl rfl) (hkk a (by simp)) (hkk b (by simp)) hr
 ·obtain ⟨a, b, rfl⟩ := ks2 (ks := ks) (by have : E6 8 = 2 := rfl; omega)
  exact B0x 8 a b _ _ _ _ _ _ _ (.inr rfl) (hkk a (by simp)) (hkk b (by simp)) hr
 ·obtain ⟨a, b, c, rfl⟩ := ks3 (ks := ks) (by have : E6 9 = 3 := rfl; omega)
  exact B5C a b c _ _ _ _ _ _ _ hr
 ·obtain ⟨a, rfl⟩ := ks1 (ks := ks) (by have : E6 11 = 1 := rfl; omega)
  exact B0y 11 a _ _ _ _ _ _ _ (.inl rfl) (hkk a (by simp)) hr
 ·obtain ⟨a, rfl⟩ := ks1 (ks := ks) (by have : E6 12 = 1 := rfl; omega)
  exact B0y 12 a _ _ _ _ _ _ _ (.inr rfl) (hkk a (by simp)) hr
 ·obtain ⟨a, rfl⟩ := ks1 (ks := ks) (by have : E6 14 = 1 := rfl; omega)
  exact B5J a _ _ _ _ _ _ _ hr
theorem B5L {k : Int} {nm : ByteArray} {num : Int} {ty fr : Ty} {lb : Int} {ks : List Tm} {G : IM} {cells : List Value} (hc : cv (.mk k nm num ty fr lb ks)) (hk : k = 6 ∨ k = 7 ∨ k = 8 ∨ k = 9 ∨ k = 11 ∨ k = 12 ∨ k = 14) (hr : B1 G (.mk k nm num ty fr lb ks) cells) :
  Fn Tryz.prog 230 [.agg ⟨cells⟩] [] G (V9 (Z2 k ty fr lb ks)) := by
 obtain ⟨hN, hkk⟩ := hc.node
 have hops := hN.ops
 rcases hk with rfl | rfl | rfl | rfl | rfl | rfl | rfl
 ·obtain ⟨a, b, rfl⟩ := ks2 (ks := ks) (by have : E6 6 = 2 := rfl; omega)
  exact B5E a b _ _ _ _ _ _ _ (hkk a (by simp)) hr
 ·obtain ⟨a, b, rfl⟩ := ks2 (ks := ks) (by have : E6 7 = 2 := rfl; omega)
  exact B0E 7 a b _ _ _ _ _ _ _ (.inl rfl) (hkk a (by simp)) hr
 ·obtain ⟨a, b, rfl⟩ := ks2 (ks := ks) (by have : E6 8 = 2 := rfl; omega)
  exact B0E 8 a b _ _ _ _ _ _ _ (.inr rfl) (hkk a (by simp)) hr
 ·obtain ⟨a, b, c, rfl⟩ := ks3 (ks := ks) (by have : E6 9 = 3 := rfl; omega)
  exact B5H a b c _ _ _ _ _ _ _ (hkk a (by simp)) hr
 ·obtain ⟨a, rfl⟩ := ks1 (ks := ks) (by have : E6 11 = 1 := rfl; omega)
  exact B0C 11 a _ _ _ _ _ _ _ (.inl rfl) (hkk a (by simp)) hr
 ·obtain ⟨a, rfl⟩ := ks1 (ks := ks) (by have : E6 12 = 1 := rfl; omega)
  exact B0C 12 a _ _ _ _ _ _ _ (.inr rfl) (hkk a (by simp)) hr
 ·obtain ⟨a, rfl⟩ := ks1 (ks := ks) (by have : E6 14 = 1 := rfl; omega)
  exact B5G a _ _ _ _ _ _ _ (hkk a (by simp)) hN.lbB hr
theorem A5l (n : Nat) (t : Tm) (ts : List Tm) : V2 (n + 1) (t :: ts) = if H2 t = true then (match V2 n ts with | some (us, c, l) => some (t :: us, c, l) | none => none) else some ((H8 t).1 :: ts, (H8 t).2.1, (H8 t).2.2) := by
 rw [V2]; rfl
theorem A68 : ∀ (n : Nat) (ks : List Tm), (∀ i, i < n → (h : i < ks.length) → H2 ks[i] = true) → V2 n ks = none
 | n, [], _ => by cases n <;> rfl
 | 0, t :: ts, _ => rfl
 | n + 1, t :: ts, h => by
  rw [A5l, if_pos (show H2 t = true from h 0 (by omega) (by simp)), A68 n ts (fun i hi hl => h (i + 1) (by omega) (by simpa using hl))]
theorem A69 : ∀ (n : Nat) (ks : List Tm) (i : Nat) (hi : i < ks.length), i < n → (∀ j, j < i → (h : j < ks.length) → H2 ks[j] = true) → H2 ks[i] = false → V2 n ks = some (ks.set i (H8 ks[i]).1, (H8 ks[i]).2.1, (H8 ks[i]).2.2)
 | n, [], i, hi, _, _, _ => by simp at hi
 | 0, t :: ts, i, _, hn, _, _ => by omega
 | n + 1, t :: ts, 0, _, _, _, hv => by
  rw [A5l, if_neg (by rw [show H2 t = false from hv]; decide)]; rfl
 | n + 1, t :: ts, i + 1, hi, hn, hj, hv => by
  rw [A5l, if_pos (show H2 t = true from hj 0 (by omega) (by simp)), A69 n ts i (by simpa using hi) (by omega) (fun j hji hl => hj (j + 1) (by omega) (by simpa using hl)) hv]
  rfl
theorem B5M {k : Int} {ty fr : Ty} {lb : Int} {ks : List Tm} (h : (N7 k ty fr lb ks).2.1 = 1) : (N7 k ty fr lb ks).2.2 = 0 := by
 revert h
 unfold N7 R4
 repeat' split
 all_goals first | (intro _; rfl) | (intro h; exfalso; revert h; simp)
theorem B5N {k : Int} {nm : ByteArray} {num : Int} {ty fr : Ty} {lb : Int} {ks : List Tm} (h : (H8 (.mk k nm num ty fr lb ks)).2.1 = 1) : (H8 (.mk k nm num ty fr lb ks)).2.2 = 0 := by
 rw [H8] at h ⊢
 cases hL : V2 (if k = 9 then 1 else ks.length) ks with
 | none => rw [hL] at h; exact B5M h
 | some p =>
  obtain ⟨us, c, l⟩ := p
  rw [hL] at h
  simp only at h ⊢
  by_cases hc : c = 1
  ·rw [if_pos hc]
  ·rw [if_neg hc] at h; exact absurd h hc
theorem B5O {t : Tm} (h : (H8 t).2.1 = 1) : (H8 t).2.2 = 0 := by cases t; exact B5N h
theorem B5P {k : Int} {nm : ByteArray} {num : Int} {ty fr : Ty} {lb : Int} {ks : List Tm} {i : Nat} (hi : i < ks.length) (hn : i < (if k = 9 then 1 else ks.length)) (hj : ∀ j, j < i → (h : j < ks.length) → H2 ks[j] = true) (hv : H2 ks[i] = false) :
  (H8 (.mk k nm num ty fr lb ks)).2.1 = (H8 ks[i]).2.1 ∧ (H8 (.mk k nm num ty fr lb ks)).2.2 = (H8 ks[i]).2.2 ∧ ((H8 ks[i]).2.1 = 1 → (H8 (.mk k nm num ty fr lb ks)).1 = .mk k nm num ty fr lb (ks.set i (H8 ks[i]).1)) := by
 rw [H8, A69 _ ks i hi hn hj hv]
 simp only
 by_cases hc : (H8 ks[i]).2.1 = 1
 ·rw [if_pos hc]
  exact ⟨hc.symm, (B5O hc).symm, fun _ => rfl⟩
 ·rw [if_neg hc]
  exact ⟨rfl, rfl, fun h => absurd h hc⟩
theorem B5Q {k : Int} {nm : ByteArray} {num : Int} {ty fr : Ty} {lb : Int} {ks : List Tm} (h : ∀ i, i < (if k = 9 then 1 else ks.length) → (hl : i < ks.length) → H2 ks[i] = true) : H8 (.mk k nm num ty fr lb ks) = match Y1 k ks with | some u => (u, 1, 0) | none => Z2 k ty fr lb ks := by
 rw [H8, A68 _ _ h]
 exact B5D k ty fr lb ks
theorem A4f {k : Int} (h : 0 ≤ E6 k) : 1 ≤ k ∧ k ≤ 14 := by
 by_cases hk : 1 ≤ k ∧ k ≤ 14
 ·exact hk
 ·rw [A4H hk] at h; omega
theorem B0F {k : Int} {nm : ByteArray} {num : Int} {ty fr : Ty} {lb : Int} {ks : List Tm} (hc : cv (.mk k nm num ty fr lb ks)) (hv : H2 (.mk k nm num ty fr lb ks) = false) (h : ∀ i, i < (if k = 9 then 1 else ks.length) → (hl : i < ks.length) → H2 ks[i] = true) : k = 1 ∨ k = 6 ∨ k = 7 ∨ k = 8 ∨ k = 9 ∨ k = 11 ∨ k = 12 ∨ k = 14 := by
 obtain ⟨hN, _⟩ := hc.node
 have hr := A4f (by rw [hN.ops]; omega : 0 ≤ E6 k)
 have h13 := hN.ne
 have h25 : ¬(k = 2 ∨ k = 3 ∨ k = 4 ∨ k = 5) := by
  intro hk
  rw [H2, if_neg (by omega)] at hv
  rw [decide_eq_true hk] at hv
  cases hv
 have h10 : k ≠ 10 := by
  rintro rfl
  rw [A4e (.inl rfl), List.all_eq_false] at hv
  obtain ⟨t, ht, hn⟩ := hv
  obtain ⟨i, hi, rfl⟩ := List.mem_iff_getElem.1 ht
  exact hn (h i (by rw [if_neg (by decide)]; exact hi) hi)
 omega
theorem B5R (t : Tm) (G : IM) (cells : List Value) (hr : B1 G t cells) : Fn Tryz.prog 227 [.agg ⟨cells⟩] [] G (I5 (.int .i64 ((if t.k = 9 then 1 else t.ks.length : Nat) : Int)) G) := by
 obtain ⟨k, nm, num, ⟨tk, tks⟩, ⟨fk, fks⟩, lb, ks⟩ := t
 obtain ⟨pt, ct, pf, cf, p, c, es, rfl, hk, hnum, hlb, hty, hfr, hsl, hkl⟩ := hr.open9
 rw [show (Tm.mk k nm num (.mk tk tks) (.mk fk fks) lb ks).k = k from rfl, show (Tm.mk k nm num (.mk tk tks) (.mk fk fks) lb ks).ks = ks from rfl]
 refine C1 Tryz.func227 rfl Tryz.ntmps227 Tryz.results227 rfl ?_
 intro w0
 refine A3 ?_
 refine sE (C7 rfl rfl) rfl (fun b3 => ?_)
 refine D1 ?_
 refine sB (qE rfl rfl) rfl rfl (fun h12 => ?_) (fun h12 => ?_)
 refine J1 ?_
 (exact ⟨rfl, by rw [if_pos (by omega)]; rfl, rfl⟩)
 refine I7 ?_
 (exact ⟨rfl, by rw [if_neg (by omega)], rfl⟩)
theorem B5S {k : Int} (h8 : k = 1 ∨ k = 6 ∨ k = 7 ∨ k = 8 ∨ k = 9 ∨ k = 11 ∨ k = 12 ∨ k = 14) (h : E6 k = 0) : k = 1 := by
 rcases h8 with rfl | rfl | rfl | rfl | rfl | rfl | rfl | rfl
 ·rfl
 all_goals exact absurd h (by decide)
theorem B0G {G : IM} {r r' : Stp} {u : Tm} {cells : List Value} {c l : Int} (h1 : r.2.1 = c) (h2 : r.2.2 = l) (hr : B1 G u cells) (h3 : c = 1 → u = r.1) : V9 r G (.tuple ⟨[.agg ⟨cells⟩, .int .i64 c, .int .i64 l]⟩) [] := by
 subst h1 h2; exact ⟨rfl, u, cells, rfl, hr, h3⟩
theorem A7a {Q : Prop} (h : Q := by (exact ⟨Nat.zero_le _, fun j hj => absurd hj (Nat.not_lt_zero j)⟩)) : Q := h
theorem A7b {Q : Prop} (h : Q := by (exact ⟨by omega, fun j hji hl2 => (by by_cases he : j = i; (subst he; assumption); exact hj j (by omega) hl2)⟩)) : Q := h
theorem B5T : ∀ (t : Tm) (G : IM) (cells : List Value), cv t → H2 t = false → B1 G t cells → Fn Tryz.prog 195 [.agg ⟨cells⟩] [] G (V9 (H8 t)) := by
 refine Tm.ind fun k nm num ty fr lb ks ih G cells hc hv hr => ?_
 have hr0 := hr
 have hN := hc.node.1
 have hkk := hc.node.2
 have hsm := A2F _ hc
 obtain ⟨_, _, _, _, hksm⟩ := A0s.1 hsm
 have hops := hN.ops
 have hle3 := A1r k
 have hkd := @B0F k nm num ty fr lb ks hc hv
 have hrd := @B5Q k nm num ty fr lb ks
 have hkidS := fun (i : Nat) => @B5P k nm num ty fr lb ks i
 have hRA := fun h => @B5K k nm num ty fr lb ks G cells hc h hr
 have hCA := fun h (G1 : IM) (hle : C2 G G1) => @B5L k nm num ty fr lb ks G1 cells hc h (hr.mono hle)
 have hCt := B5R _ G _ hr
 rw [show (Tm.mk k nm num ty fr lb ks).k = k from rfl, show (Tm.mk k nm num ty fr lb ks).ks = ks from rfl] at hCt
 obtain ⟨C, hC⟩ : ∃ C : Nat, (if k = 9 then 1 else ks.length : Nat) = C := ⟨_, rfl⟩
 rw [hC] at hCt hkd hrd
 have hkidS' := fun (i : Nat) (hi : i < ks.length) (hn : i < C) => hkidS i hi (by rw [hC]; exact hn)
 have hC9 : C ≤ ks.length := by rw [← hC]; split; (have : E6 k = 3 := by (rename_i h9; rw [h9]; rfl)); omega; omega
 have hrul := hkd
 obtain ⟨tk, tks⟩ := ty
 obtain ⟨fk, fks⟩ := fr
 obtain ⟨pt, ct, pf, cf, p, c, es, rfl, hk, hnum, hlb, hty, hfr, hsl, hkl⟩ := hr.open9
 have hn := hsl.le
 have hnc := hsl.sl.2.1
 refine C1 Tryz.func195 rfl Tryz.ntmps195 Tryz.results195 rfl ?_
 intro w0
 refine A3 ?_
 refine sE (C7 rfl rfl) rfl (fun b3 => ?_)
 refine sE (A7 rfl) rfl (fun b4 => ?_)
 refine A8 ?_
 refine E2 E4 rfl ?_
 refine J4 (i := 0) (l' := [tt,ff,ff,ff,ff,ff,ff]) rfl D6 (B9 rfl) rfl (by kernel_rfl) rfl rfl ?_
 refine aL 1 rfl (C8 rfl rfl) rfl ?_
 refine aL 2 rfl (A5 rfl rfl) rfl ?_
 refine aP 6 rfl (qM rfl) rfl ?_
 refine A4 3 ?_
 refine N3 rfl rfl (hCt) rfl rfl rfl ?_
 refine aP 4 rfl (A8T (l := C) rfl rfl rfl (by omega)) rfl ?_
 refine aP 5 rfl (pLn rfl rfl) rfl ?_
 refine A3 ?_
 refine C0 ?_
 (refine J0 (fun (i : Nat) => ⟨[(19, .int .i64 (i : Int)), (18, .int .i64 (C : Int)), (17, .slice p C c), (1, .pointer (some ⟨b3, 0, none⟩)), (2, .pointer (some ⟨b4, 0, none⟩))], [.blk b4 [.int .i64 0, .string ⟨⟨[]⟩⟩, .int .i64 0, .int .i64 0, .slice none 0 0, .int .i64 0, .slice none 0 0, .int .i64 0, .slice none 0 0], .blk b3 [.int .i64 k, .string nm, .int .i64 num, .int .i64 tk, .slice pt tks.length ct, .int .i64 fk, .slice pf fks.length cf, .int .i64 lb, .slice p ks.length c]], G⟩) (fun i => i ≤ C ∧ ∀ j, j < i → (h : j < ks.length) → H2 ks[j] = true) (fun i => C - i) 0 ?_ ?_ ?_)
 exact D2
 exact A7a
 (rintro i ⟨hi, hj⟩)
 refine A3 ?_
 refine sB (I8 rfl rfl) rfl rfl (fun h29 => ?_) (fun h29 => ?_)
 refine B5 ?_
 refine C0 ?_
 refine B7 ?_
 (have hiC : i < C := (by omega); obtain ⟨bx, ox, e, rfl, hl, hat, hre, hgb⟩ := hsl.kidTm hkl (i := i) (by omega) (by omega); have heo := hre.one; have hVi := B0t ks[i] G e hre; refine sP (B6 (j := i) rfl rfl rfl hiC) rfl rfl ?_)
 refine sL (A2 rfl rfl (hat _) hl) rfl rfl ?_
 refine sE (A7 rfl) rfl (fun b43 => ?_)
 refine E3 ?_
 refine sS rfl rfl rfl hl heo rfl ?_ (hu := by exact D4 hl.symm)
 refine B0 ?_
 refine sL (A2 rfl rfl (A9 (by repeat first | exact mH | apply mT)) hl) rfl rfl ?_
 refine F4 rfl (hVi) rfl rfl (fun h52 => ?_) (fun h52 => ?_)
 refine D1 ?_
 refine sP (H5 rfl rfl (by omega) (by omega)) rfl rfl ?_
 refine A3 ?_
 refine I1 (i + 1) ?_ ?_ ?_
 exact D2
 exact A7b
 (show C - (i + 1) < C - i; omega)
 refine B5 ?_
 refine sL (A2 rfl rfl (A9 (by repeat first | exact mH | apply mT)) hl) rfl rfl ?_
 (have hvF : H2 ks[i] = false := (by assumption); obtain ⟨hs1, hs2, hs3⟩ := hkidS' i (by omega) hiC (fun j hji hl2 => hj j hji hl2) hvF; refine D9 rfl (ih ks[i] (List.getElem_mem (by omega)) G e (hkk _ (List.getElem_mem (by omega))) hvF hre) rfl rfl (fun v G1 hle1 hh => ?_); obtain ⟨u, uc, rfl, hru, hu1⟩ := hh; have hul := hru.len; have huo := hru.one; have hClo := B4U G1 _ ks.length c es (hsl.mono hle1) (by omega) (by omega))
 refine B4 ?_
 refine sE (A7 rfl) rfl (fun b81 => ?_)
 refine sS rfl rfl rfl hul huo rfl ?_ (hu := by exact D4 hul.symm)
 refine B5 ?_
 refine sE (A7 rfl) rfl (fun b90 => ?_)
 refine B5 ?_
 (refine U6 rfl hClo rfl rfl (fun v98 G98 outs98 hle98 h98 => ?_); obtain ⟨hG, p1, c1, rfl, rfl⟩ := h98; replace hG := hG.symm; subst hG; refine A34 (cs := es.flatten) (by repeat (first | exact Pk.here | apply Pk.there)) (by omega) (fun bc Cc hpe hnc1 hcm => ?_); subst hpe)
 replace hru := hru.mono hle98
 refine E0 ?_
 refine sL (A2 rfl rfl (A9 (by repeat first | exact mH | apply mT)) hul) rfl rfl ?_
 refine sP (B6 (j := i) rfl rfl rfl (by omega)) rfl rfl ?_
 refine W4 rfl rfl rfl hul huo rfl (by repeat first | exact Sw.here | apply Sw.there) (by exact A35 (by rw [hkl.len]; omega) (fun e he => (hsl.all e he)) hul) ?_
 refine K5 ?_
 (refine A2v (bs := [(bc, (es.set i uc).flatten ++ Cc)]) (Pk.perm (by repeat (first | exact Pk.here | apply Pk.there))) (fun hn2 hd2 hle2 => ?_))
 refine A8 ?_
 refine D5 (rC rfl (A5 rfl rfl)) (rT rfl) (rT rfl) ?_
 (have hks2 := E1.set (j := i) ((hkl.mono hle1).mono hle2) (hru.mono hle2); refine B0G (r' := R4) hs1 hs2 (B1.put (us := ks.set i u) (es := es.set i uc) hk hnum hlb ((hty.mono hle1).mono hle2) ((hfr.mono hle1).mono hle2) (by rw [List.length_set]) (D7.of (Sl.of_blk (A := []) (by rw [A09 hks2.all, hks2.len, List.length_set]) (by omega) hcm (Wi.in hn2 List.mem_cons_self)) (by rw [hks2.len, List.length_set]) hks2.all (fun e he => by obtain ⟨q, hq⟩ := List.getElem?_of_mem he; exact (hks2.inv hq K7).2.one)) hks2) (fun h1 => by rw [hs3 h1, hu1 h1]))
 refine J7 ?_
 focus (have hall : ∀ i, i < C → (hl : i < ks.length) → H2 ks[i] = true := (fun j hjc hl2 => hj j (by omega) hl2); have hk8 := hkd hall; have hrd' := hrd hall; refine D9 rfl (hRA hk8) rfl rfl (fun v G1 hle1 hh => ?_); obtain ⟨u, uc, cc, rfl, hru, hy, hno⟩ := hh; have hul := hru.len; have huo := hru.one; rcases hm : Y1 k ks with _ | x; rotate_left; obtain ⟨rfl, rfl⟩ := hy _ hm; rotate_left; obtain rfl := hno hm; rw [hm] at hrd')
 refine B7 ?_
 refine sE (A7 rfl) rfl (fun b149 => ?_)
 refine sS rfl rfl rfl hul huo rfl ?_ (hu := by exact D4 hul.symm)
 refine A8 ?_
 refine sP (J8 rfl rfl (by omega)) rfl rfl ?_
 refine J1 ?_
 refine sB (qE rfl rfl) rfl rfl (fun h169 => ?_) (fun h169 => ?_)
 refine J7 ?_
 refine D5 (rC rfl (A5 rfl rfl)) (rT rfl) (rT rfl) ?_
 (obtain rfl : k = 1 := B5S hk8 (by omega); rw [hrd']; exact V9.mk rfl (P6 _))
 refine D1 ?_
 (have hk7 : k = 6 ∨ k = 7 ∨ k = 8 ∨ k = 9 ∨ k = 11 ∨ k = 12 ∨ k = 14 := (by rcases hk8 with h1 | hh; (rw [h1] at hops; have : E6 1 = 0 := rfl; omega); exact hh); refine D9 rfl (hCA hk7 _ hle1) rfl rfl (fun v G2 hle2 hh => ?_); obtain ⟨w, wc, rfl, hrw, hw1⟩ := hh; have hwl := hrw.len; have hwo := hrw.one)
 refine B7 ?_
 refine sS rfl rfl rfl hwl hwo rfl ?_ (hu := by exact D4 hwl.symm)
 refine B0 ?_
 refine D5 (rC rfl (A2 rfl rfl (A9 (by repeat first | exact mH | apply mT)) hwl)) (rT rfl) (rT rfl) ?_
 (rw [hrd']; exact B0G (r' := R4) rfl rfl hrw hw1)
 refine B7 ?_
 refine sE (A7 rfl) rfl (fun b208 => ?_)
 refine sS rfl rfl rfl hul huo rfl ?_ (hu := by exact D4 hul.symm)
 refine A8 ?_
 refine sP (X5 rfl rfl (by omega)) rfl rfl ?_
 refine B0 ?_
 refine sL (A2 rfl rfl (A9 (by repeat first | exact mH | apply mT)) hul) rfl rfl ?_
 refine E3 ?_
 refine sS rfl rfl rfl hul huo rfl ?_ (hu := by exact D4 hul.symm)
 refine A8 ?_
 refine D5 (rC rfl (A2 rfl rfl (A9 (by repeat first | exact mH | apply mT)) hul)) (rT rfl) (rT rfl) ?_
 (rw [hrd', hm]; exact V9.mk rfl hru)
def L6 (r : Stp) : IM → Value → List A6 → Prop := K1 fun G' v => ∃ cells, v = .tuple ⟨[.agg ⟨cells⟩, .int .i64 r.2.1, .int .i64 r.2.2]⟩ ∧ B1 G' r.1 cells
theorem L6.mk {G : IM} {r : Stp} {u : Tm} {c l : Int} {cells : List Value} (h : r = (u, c, l)) (hr : B1 G u cells) : L6 r G (.tuple ⟨[.agg ⟨cells⟩, .int .i64 c, .int .i64 l]⟩) [] := by
 subst h; exact ⟨rfl, cells, rfl, hr⟩
theorem A5m {t : Tm} (h : O4 t = true) : t.small := A2F t (A2E h).1
theorem A5n {e : Tm} (h : O4 e = false) : H3 e = (K7, 3, 0) := by unfold H3; rw [if_pos h]; rfl
theorem A5o {e : Tm} (h : O4 e = true) (h2 : H2 e = true) : H3 e = (e, 0, 0) := by unfold H3; rw [if_neg (by rw [h]; decide), if_pos h2]
theorem A5p {e : Tm} (h : O4 e = true) (h2 : H2 e = false) (h3 : (H8 e).2.1 ≠ 1) : H3 e = (K7, (H8 e).2.1, (H8 e).2.2) := by
 unfold H3; rw [if_neg (by rw [h]; decide), if_neg (by rw [h2]; decide), if_pos h3]
theorem A5q {e : Tm} (h : O4 e = true) (h2 : H2 e = false) (h3 : (H8 e).2.1 = 1) (h4 : O4 (H8 e).1 = false) : H3 e = (K7, 4, 0) := by
 unfold H3; rw [if_neg (by rw [h]; decide), if_neg (by rw [h2]; decide), if_neg (by omega), if_pos h4]
theorem A5r {e : Tm} (h : O4 e = true) (h2 : H2 e = false) (h3 : (H8 e).2.1 = 1) (h4 : O4 (H8 e).1 = true) : H3 e = ((H8 e).1, 1, 0) := by
 unfold H3; rw [if_neg (by rw [h]; decide), if_neg (by rw [h2]; decide), if_neg (by omega), if_neg (by rw [h4]; decide)]
theorem B5U {e : Tm} (h : (H3 e).2.1 = 1) : O4 (H3 e).1 = true := by
 cases h1 : O4 e with
 | false => rw [A5n h1] at h; simp at h
 | true =>
  cases h2 : H2 e with
  | true => rw [A5o h1 h2] at h; simp at h
  | false =>
   by_cases h3 : (H8 e).2.1 = 1
   ·cases h4 : O4 (H8 e).1 with
    | false => rw [A5q h1 h2 h3 h4] at h; simp at h
    | true => rw [A5r h1 h2 h3 h4]; exact h4
   ·rw [A5p h1 h2 h3] at h; exact absurd h h3
theorem B5V (t : Tm) (G : IM) (cells : List Value) (hr : B1 G t cells) : Fn Tryz.prog 146 [.agg ⟨cells⟩] [] G (L6 (H3 t)) := by
 have hRl := hr.len
 have hRo := hr.one
 have hV := A85 t G cells hr
 have hI := B0t t G cells hr
 refine C1 Tryz.func146 rfl Tryz.ntmps146 Tryz.results146 rfl ?_
 intro w0
 refine A3 ?_
 refine sE (C7 rfl rfl) rfl (fun b3 => ?_)
 refine sE (A7 rfl) rfl (fun b4 => ?_)
 refine B0 ?_
 refine C0 ?_
 refine A3 ?_
 refine sL (A2 rfl rfl (A9 (by repeat first | exact mH | apply mT)) hRl) rfl rfl ?_
 refine F4 rfl (hV) rfl rfl (fun h14 => ?_) (fun h14 => ?_)
 refine B5 ?_
 refine sL (A2 rfl rfl (A9 (by repeat first | exact mH | apply mT)) hRl) rfl rfl ?_
 refine F4 rfl (hI) rfl rfl (fun h23 => ?_) (fun h23 => ?_)
 refine A8 ?_
 refine sL (A2 rfl rfl (A9 (by repeat first | exact mH | apply mT)) hRl) rfl rfl ?_
 (refine D9 rfl (A6E t G cells (A5m (by assumption)) hr) rfl rfl (fun v G1 hle1 hh => ?_); obtain ⟨cs1, F1, rfl, hs1, hn1⟩ := hh; have hul := hs1.R.len; have huo := hs1.R.one)
 refine sS rfl rfl rfl hul huo rfl ?_ (hu := by exact D4 hul.symm)
 refine B5 ?_
 refine D5 (rC rfl (A2 rfl rfl (A9 (by repeat first | exact mH | apply mT)) hul)) (rT rfl) (rT rfl) ?_
 (exact L6.mk (A5o (by assumption) (by assumption)) (hs1.R.mono (C5.le _ _)))
 refine E0 ?_
 refine sL (A2 rfl rfl (A9 (by repeat first | exact mH | apply mT)) hRl) rfl rfl ?_
 (refine D9 rfl (B5T t G cells (A2E (by assumption)).1 (by assumption) hr) rfl rfl (fun v G1 hle1 hh => ?_); obtain ⟨u, uc, rfl, hru, hu1⟩ := hh; have hul := hru.len; have huo := hru.one; have hVu := A85 u G1 uc hru)
 refine B4 ?_
 refine sE (A7 rfl) rfl (fun b57 => ?_)
 refine sS rfl rfl rfl hul huo rfl ?_ (hu := by exact D4 hul.symm)
 refine B0 ?_
 refine C0 ?_
 refine B7 ?_
 refine sB (N5 rfl rfl) rfl rfl (fun h68 => ?_) (fun h68 => ?_)
 refine Q5 ?_
 refine D5 (rC rfl (A5 rfl rfl)) (rT rfl) (rT rfl) ?_
 (exact L6.mk (A5p (by assumption) (by assumption) (by omega)) (P6 _))
 refine A8 ?_
 refine sL (A2 rfl rfl (A9 (by repeat first | exact mH | apply mT)) hul) rfl rfl ?_
 refine F4 rfl (hVu) rfl rfl (fun h95 => ?_) (fun h95 => ?_)
 refine J3 ?_
 refine sL (A2 rfl rfl (A9 (by repeat first | exact mH | apply mT)) hul) rfl rfl ?_
 (refine D9 rfl (A6E u G1 uc (A5m (by assumption)) hru) rfl rfl (fun v G2 hle2 hh => ?_); obtain ⟨cs2, F2, rfl, hs2, hn2⟩ := hh; have hwl := hs2.R.len; have hwo := hs2.R.one)
 refine sS rfl rfl rfl hwl hwo rfl ?_ (hu := by exact D4 hwl.symm)
 refine B0 ?_
 refine D5 (rC rfl (A2 rfl rfl (A9 (by repeat first | exact mH | apply mT)) hwl)) (rT rfl) (rT rfl) ?_
 (have h9 := hu1 (by omega); subst h9; exact L6.mk (A5r (by assumption) (by assumption) (by omega) (by assumption)) (hs2.R.mono (C5.le _ _)))
 refine K0 ?_
 refine D5 (rC rfl (A5 rfl rfl)) (rT rfl) (rT rfl) ?_
 (have h9 := hu1 (by omega); subst h9; exact L6.mk (A5q (by assumption) (by assumption) (by omega) (by assumption)) (P6 _))
 refine K0 ?_
 refine D5 (rC rfl (A5 rfl rfl)) (rT rfl) (rT rfl) ?_
 (exact L6.mk (A5n (by assumption)) (P6 _))
def P3 : Nat → Tm → Tm × Int × Int × Nat
 | 0, e => ((H3 e).1, (H3 e).2.1, (H3 e).2.2, 0)
 | n + 1, e => if (H3 e).2.1 = 1 then ((P3 n (H3 e).1).1, (P3 n (H3 e).1).2.1, (P3 n (H3 e).1).2.2.1, (P3 n (H3 e).1).2.2.2 + 1)
  else ((H3 e).1, (H3 e).2.1, (H3 e).2.2, 0)
theorem A7c (e : Tm) : P3 0 e = ((H3 e).1, (H3 e).2.1, (H3 e).2.2, 0) := by rw [P3]
theorem A7d {n : Nat} {e : Tm} (h : (H3 e).2.1 = 1) : P3 (n + 1) e = ((P3 n (H3 e).1).1, (P3 n (H3 e).1).2.1, (P3 n (H3 e).1).2.2.1, (P3 n (H3 e).1).2.2.2 + 1) := by rw [P3, if_pos h]
theorem A7e {n : Nat} {e : Tm} (h : (H3 e).2.1 ≠ 1) : P3 (n + 1) e = ((H3 e).1, (H3 e).2.1, (H3 e).2.2, 0) := by rw [P3, if_neg h]
theorem B0H : ∀ (n : Nat) (e : Tm), (P3 n e).2.1 = 1 → K3 n e = (K7, 5, 0, (P3 n e).2.2.2)
 | 0, e, h => by rw [A7c] at h ⊢; rw [K3, if_pos h]
 | n + 1, e, h => by
  by_cases h1 : (H3 e).2.1 = 1
  ·rw [A7d h1] at h ⊢
   rw [K3, if_pos h1, B0H n _ h]
  ·rw [A7e h1] at h; exact absurd h h1
theorem B0I : ∀ (n : Nat) (e : Tm), (P3 n e).2.1 ≠ 1 → K3 n e = P3 n e
 | 0, e, h => by rw [A7c] at h ⊢; rw [K3, if_neg h]
 | n + 1, e, h => by
  by_cases h1 : (H3 e).2.1 = 1
  ·rw [A7d h1] at h ⊢
   rw [K3, if_pos h1, B0I n _ h]
  ·rw [A7e h1]; rw [K3, if_neg h1]
def EvP (r : Tm × Int × Int × Nat) : IM → Value → List A6 → Prop := K1 fun G' v => ∃ cells, v = .tuple ⟨[.agg ⟨cells⟩, .int .i64 r.2.1, .int .i64 r.2.2.1, .int .i64 (r.2.2.2 : Int)]⟩ ∧ B1 G' r.1 cells
def A0l (i : Nat) (r : Tm × Int × Int × Nat) : Tm × Int × Int × Nat := (r.1, r.2.1, r.2.2.1, r.2.2.2 + i)
theorem B5W {m i : Nat} {e : Tm} (h : (H3 e).2.1 ≠ 1 ∨ m = 0) : A0l i (P3 m e) = ((H3 e).1, (H3 e).2.1, (H3 e).2.2, i) := by
 cases m with
 | zero => simp [A0l, P3]
 | succ m =>
  rcases h with h | h
  ·simp only [A0l, P3]; rw [if_neg h]; simp
  ·cases h
theorem B5X {m i : Nat} {e : Tm} (h : (H3 e).2.1 = 1) (hm : 0 < m) : A0l i (P3 m e) = A0l (i + 1) (P3 (m - 1) (H3 e).1) := by
 obtain ⟨k, rfl⟩ : ∃ k, m = k + 1 := ⟨m - 1, by omega⟩
 simp only [A0l, P3]; rw [if_pos h]; simp only [Nat.add_sub_cancel, Nat.add_assoc, Nat.add_comm 1 i]
section fin
variable {P : Program} {Γ : L7} {env : M2} {hp : List A6} {G : IM}
theorem B5Y {post : IM → Value → List A6 → Prop} {σ : Sy} (hk : post σ.G (.tuple ⟨[]⟩) []) : A0w P Γ [] post .normal σ := ⟨[], .nil, [], σ.hp, by simp, hk⟩
theorem A5s {r r2 r3 r4 : ResultVar} {post : IM → Value → List A6 → Prop} {v v2 v3 v4 : Value} (h : X4 P Γ ⟨env, hp, G⟩ r v) (h2 : X4 P Γ ⟨env, hp, G⟩ r2 v2) (h3 : X4 P Γ ⟨env, hp, G⟩ r3 v3) (h4 : X4 P Γ ⟨env, hp, G⟩ r4 v4) (hk : post G (.tuple ⟨[v, v2, v3, v4]⟩) []) :
  A0w P Γ [r, r2, r3, r4] post .ret ⟨env, hp, G⟩ := A4y (.cons h (.cons h2 (.cons h3 (.cons h4 .nil)))) hk
end fin
theorem EvP.mk {G : IM} {r : Tm × Int × Int × Nat} {u : Tm} {c l : Int} {i : Nat} {cells : List Value} (h : r = (u, c, l, i)) (hr : B1 G u cells) : EvP r G (.tuple ⟨[.agg ⟨cells⟩, .int .i64 c, .int .i64 l, .int .i64 (i : Int)]⟩) [] := by
 subst h; exact ⟨rfl, cells, rfl, hr⟩
theorem A7f {Q : Prop} (h : Q := by (exact EvP.mk (by rw [← hev]; exact hend (by omega)) hrw)) : Q := h
theorem B5Z (e : Tm) (n : Nat) (hn : n ≤ 300) (fid : FuncId) [B8 Tryz.prog fid] (us cs : List Value) (hq : ∀ (G : IM) (u : Tm) (cells : List Value), B1 G u cells → Fn Tryz.prog fid (us ++ [.agg ⟨cells⟩] ++ cs) [] G (I5 (.tuple ⟨[]⟩) G))
  (G : IM) (cells : List Value) (hr : B1 G e cells) : Fn Tryz.prog 104 [.agg ⟨cells⟩, .int .i64 (n : Int), .func (.func fid) ⟨us⟩ ⟨cs⟩] [] G (EvP (P3 n e)) := by
 have hRl := hr.len
 have hRo := hr.one
 have hq0 := hq G e cells hr
 refine C1 Tryz.func104 rfl Tryz.ntmps104 Tryz.results104 rfl ?_
 intro w0
 refine A3 ?_
 refine sE (C7 rfl rfl) rfl (fun b3 => ?_)
 refine sE (A7 rfl) rfl (fun b4 => ?_)
 refine D1 ?_
 refine sL (A2 rfl rfl (A9 (by repeat first | exact mH | apply mT)) hRl) rfl rfl ?_
 (refine A8p rfl rfl hq0 rfl rfl ?_)
 refine B5 ?_
 refine C0 ?_
 (refine J0 (fun (x : Nat × Tm × List Value × IM) => ⟨[(10, .int .i64 (x.1 : Int)), (1, .int .i64 (n : Int)), (2, .func (.func fid) ⟨us⟩ ⟨cs⟩), (3, .pointer (some ⟨b3, 0, none⟩)), (6, .pointer (some ⟨b4, 0, none⟩))], [.blk b3 x.2.2.1, .blk b4 [.int .i64 0, .string ⟨⟨[]⟩⟩, .int .i64 0, .int .i64 0, .slice none 0 0, .int .i64 0, .slice none 0 0, .int .i64 0, .slice none 0 0]], x.2.2.2⟩) (fun x => x.1 ≤ n ∧ C2 G x.2.2.2 ∧ B1 x.2.2.2 x.2.1 x.2.2.1 ∧ A0l x.1 (P3 (n - x.1) x.2.1) = P3 n e) (fun x => n - x.1) (0, e, cells, G) ?_ ?_ ?_)
 (simp only [H6]; exact D2)
 (exact ⟨Nat.zero_le _, C2.refl _, hr, rfl⟩)
 (rintro ⟨i, u, uc, Gi⟩ ⟨hi, hle, hru, hev⟩; simp only [] at hi hle hru hev ⊢; have hul := hru.len; have huo := hru.one)
 refine tS ?_
 refine C0 ?_
 refine A3 ?_
 refine sL (A2 rfl rfl (A9 (by repeat first | exact mH | apply mT)) hul) rfl rfl ?_
 (refine D9 rfl (B5V u Gi uc hru) rfl rfl (fun v G1 hle1 hh => ?_); obtain ⟨wc, hv, hrw⟩ := hh; have hwl := hrw.len; have hwo := hrw.one; have hend := @B5W (n - i) i u; have hgo := @B5X (n - i) i u; generalize H3 u = r at hv hrw hend hgo; obtain ⟨w, c, l⟩ := r; simp only at hv hrw hend hgo; subst hv)
 refine B4 ?_
 refine sE (A7 rfl) rfl (fun b37 => ?_)
 refine sS rfl rfl rfl hwl hwo rfl ?_ (hu := by exact D4 hwl.symm)
 refine D1 ?_
 refine sB (N5 rfl rfl) rfl rfl (fun h47 => ?_) (fun h47 => ?_)
 refine J3 ?_
 refine sL (A2 rfl rfl (A9 (by repeat first | exact mH | apply mT)) hwl) rfl rfl ?_
 refine B7 ?_
 refine sS rfl rfl rfl hwl hwo rfl ?_ (hu := by exact D4 hwl.symm)
 refine J1 ?_
 refine A5s (rC rfl (A2 rfl rfl (A9 (by repeat first | exact mH | apply mT)) hwl)) (rT rfl) (rT rfl) (rT rfl) ?_
 exact A7f
 refine B7 ?_
 refine sB (qE rfl rfl) rfl rfl (fun h79 => ?_) (fun h79 => ?_)
 refine A8 ?_
 refine sL (A2 rfl rfl (A9 (by repeat first | exact mH | apply mT)) hwl) rfl rfl ?_
 refine B7 ?_
 refine sS rfl rfl rfl hwl hwo rfl ?_ (hu := by exact D4 hwl.symm)
 refine J1 ?_
 refine A5s (rC rfl (A2 rfl rfl (A9 (by repeat first | exact mH | apply mT)) hwl)) (rT rfl) (rT rfl) (rT rfl) ?_
 exact A7f
 refine D1 ?_
 refine sL (A2 rfl rfl (A9 (by repeat first | exact mH | apply mT)) hwl) rfl rfl ?_
 refine W4 rfl rfl rfl hwl hwo rfl (by repeat first | exact Sw.here | apply Sw.there) (by exact D4 (hul.trans hwl.symm)) ?_
 refine B4 ?_
 refine sL (A2 rfl rfl (A9 (by repeat first | exact mH | apply mT)) hwl) rfl rfl ?_
 (refine A8p rfl rfl (hq G1 w wc hrw) rfl rfl ?_)
 refine B0 ?_
 refine sP (H5 rfl rfl (by omega) (by omega)) rfl rfl ?_
 refine A3 ?_
 refine I1 (i + 1, w, wc, G1) ?_ ?_ ?_
 (simp only [H6]; exact D2)
 (dsimp only; exact ⟨by omega, hle.trans hle1, hrw, by rw [← hev, hgo (by omega) (by omega), show n - (i + 1) = n - i - 1 by omega]⟩)
 (show n - (i + 1) < n - i; omega)
theorem A7g (fuel : Int) (G : IM) : Fn Tryz.prog 46 [.int .i64 fuel] [] G (I5 (.bool (O7 fuel 0 300)) G) := by
 refine C1 Tryz.func46 rfl Tryz.ntmps46 Tryz.results46 rfl ?_
 intro w0
 refine D1 ?_
 refine E8 rfl ((A1c _ _ _ _)) rfl rfl ?_
 refine B0 ?_
 (exact ⟨rfl, rfl, rfl⟩)
theorem A7h {e : Tm} {fuel : Int} (h : O7 fuel 0 300 = false) : S8 e fuel = (K7, 3, 0) := by
 unfold S8; rw [if_neg (A8w h)]; rfl
theorem B0J {e : Tm} {fuel : Int} (h : O7 fuel 0 300 = true) (h1 : (P3 fuel.toNat e).2.1 = 1) : S8 e fuel = (K7, 5, 0) := by
 unfold S8; rw [if_pos (A3Q h), B0H _ _ h1]
theorem B0K {e : Tm} {fuel : Int} (h : O7 fuel 0 300 = true) (h1 : (P3 fuel.toNat e).2.1 ≠ 1) : S8 e fuel = ((P3 fuel.toNat e).1, (P3 fuel.toNat e).2.1, (P3 fuel.toNat e).2.2.1) := by
 unfold S8; rw [if_pos (A3Q h), B0I _ _ h1]
theorem B50 (G : IM) (cells : List Value) (hl : cells.length = 9) (ho : cells.all (·.oneCell') = true) : Fn Tryz.prog 105 [.agg ⟨cells⟩] [] G (I5 (.tuple ⟨[]⟩) G) := by
 refine C1 Tryz.func105 rfl Tryz.ntmps105 Tryz.results105 rfl ?_
 intro w0
 refine tR ?_
 refine sE (C7 rfl rfl) rfl (fun b2 => ?_)
 refine sD ?_
 refine B5Y ?_
 (exact ⟨rfl, rfl, rfl⟩)
theorem B51 (e : Tm) (fuel : Int) (G : IM) (cells : List Value) (hr : B1 G e cells) : Fn Tryz.prog 58 [.agg ⟨cells⟩, .int .i64 fuel] [] G (L6 (S8 e fuel)) := by
 have hRl := hr.len
 have hRo := hr.one
 have hno := @A7h e fuel
 have hmu := @B0J e fuel
 have hen := @B0K e fuel
 refine C1 Tryz.func58 rfl Tryz.ntmps58 Tryz.results58 rfl ?_
 intro w0
 refine A3 ?_
 refine sE (C7 rfl rfl) rfl (fun b3 => ?_)
 refine sE (A7 rfl) rfl (fun b4 => ?_)
 refine D1 ?_
 refine F4 rfl ((A7g fuel _)) rfl rfl (fun h13 => ?_) (fun h13 => ?_)
 refine D1 ?_
 refine sL (A2 rfl rfl (A9 (by repeat first | exact mH | apply mT)) hRl) rfl rfl ?_
 refine E3 ?_
 (have hf : O7 fuel 0 300 = true := (by assumption); have hf2 := A3Q hf; have hE := B5Z e fuel.toNat (by omega) 105 [] [] (fun G u cells hru => B50 G cells hru.len hru.one) G cells hr; rw [Int.toNat_of_nonneg hf2.1] at hE; refine D9 rfl hE rfl rfl (fun v G1 hle1 hh => ?_); obtain ⟨wc, hv, hrw⟩ := hh; have hwl := hrw.len; have hwo := hrw.one; have hmu := hmu hf; have hen := hen hf; generalize P3 fuel.toNat e = r at hv hrw hmu hen; obtain ⟨w, c, l, i⟩ := r; simp only at hv hrw hmu hen; subst hv)
 refine B0 ?_
 refine sE (A7 rfl) rfl (fun b30 => ?_)
 refine sS rfl rfl rfl hwl hwo rfl ?_ (hu := by exact D4 hwl.symm)
 refine E0 ?_
 refine sB (qE rfl rfl) rfl rfl (fun h41 => ?_) (fun h41 => ?_)
 refine J7 ?_
 refine D5 (rC rfl (A5 rfl rfl)) (rT rfl) (rT rfl) ?_
 (exact L6.mk (hmu (by omega)) (P6 _))
 refine B5 ?_
 refine sL (A2 rfl rfl (A9 (by repeat first | exact mH | apply mT)) hwl) rfl rfl ?_
 refine A3 ?_
 refine sS rfl rfl rfl hwl hwo rfl ?_ (hu := by exact D4 hwl.symm)
 refine B0 ?_
 refine D5 (rC rfl (A2 rfl rfl (A9 (by repeat first | exact mH | apply mT)) hwl)) (rT rfl) (rT rfl) ?_
 (exact L6.mk (hen (by omega)) hrw)
 refine J9 ?_
 refine D5 (rC rfl (A5 rfl rfl)) (rT rfl) (rT rfl) ?_
 (exact L6.mk (hno (by assumption)) (P6 _))
mutual
def B0L (L : Int → Prop) : Tm → Prop
 | .mk k nm num ty fr lb ks => (k = 14 → L lb) ∧ B0M L ks
def B0M (L : Int → Prop) : List Tm → Prop
 | [] => True
 | t :: ts => B0L L t ∧ B0M L ts
end
def B8v (L : Int → Prop) (T : Ty) (r : Stp) : Prop := (r.2.1 = 1 ∧ A0V [] r.1 = some T ∧ B0L L r.1) ∨ (r.2.1 = 2 ∧ L r.2.2)
mutual
theorem B0N : ∀ a b : Ty, K4 a b = true → K4 b a = true
 | .mk k ks, .mk k' ks', h => by
  rw [U9] at h ⊢
  simp only [Bool.or_eq_true, Bool.and_eq_true, decide_eq_true_eq] at h ⊢
  rcases h with (h | h) | h
  ·exact .inl (.inr h)
  ·exact .inl (.inl h)
  ·exact .inr ⟨h.1.symm, B0O ks ks' h.2⟩
theorem B0O : ∀ xs ys : List Ty, N6 xs ys = true → N6 ys xs = true
 | [], [], _ => rfl
 | [], b :: ys, h => by simp [N6] at h
 | a :: xs, [], h => by simp [N6] at h
 | a :: xs, b :: ys, h => by
  simp only [N6, Bool.and_eq_true] at h ⊢
  exact ⟨B0N a b h.1, B0O xs ys h.2⟩
end
mutual
theorem B0P : ∀ a b : Ty, K4 a b = true → K4 a (U2 a b) = true ∧ K4 b (U2 a b) = true
 | .mk k ks, .mk k' ks', h => by
  rw [A1e]
  by_cases h1 : k = 1
  ·rw [if_pos h1]
   exact ⟨h, A2L _⟩
  ·rw [if_neg h1]
   by_cases h2 : k' = 1
   ·rw [if_pos h2]
    exact ⟨A2L _, B0N _ _ h⟩
   ·rw [if_neg h2]
    rw [U9] at h
    simp only [Bool.or_eq_true, Bool.and_eq_true, decide_eq_true_eq] at h
    have h3 : k = k' ∧ N6 ks ks' = true := by
     rcases h with (h | h) | h
     ·exact absurd h h1
     ·exact absurd h h2
     ·exact h
    obtain ⟨m1, m2⟩ := B0Q ks ks' h3.2
    rw [U9, U9, m1, m2]
    simp [h3.1]
theorem B0Q : ∀ xs ys : List Ty, N6 xs ys = true → N6 xs (S6 xs ys) = true ∧ N6 ys (S6 xs ys) = true
 | [], [], _ => ⟨rfl, rfl⟩
 | [], b :: ys, h => by simp [N6] at h
 | a :: xs, [], h => by simp [N6] at h
 | a :: xs, b :: ys, h => by
  simp only [N6, Bool.and_eq_true] at h
  obtain ⟨m1, m2⟩ := B0P a b h.1
  obtain ⟨m3, m4⟩ := B0Q xs ys h.2
  simp only [S6, N6, m1, m2, m3, m4]
  exact ⟨rfl, rfl⟩
end
theorem B52 {k : Int} {a b : Ty} (hk : k = 4 ∨ k = 5) (h : H1 (.mk k [a, b]) = true) : H1 a = true ∧ H1 b = true := by
 obtain ⟨x, y, he, h1, h2⟩ := A5d hk h
 cases he
 exact ⟨h1, h2⟩
theorem B53 {k : Int} (hk : k = 4 ∨ k = 5) : H1 (.mk k [O8, O8]) = true := by rcases hk with rfl | rfl <;> decide
theorem B0R {k : Int} {t a b : Ty} (hk : k = 4 ∨ k = 5) (ht : H1 t = true) (h : R2 k t = some (a, b)) : H1 (.mk k [a, b]) = true ∧ K4 t (.mk k [a, b]) = true := by
 obtain ⟨tk, ks⟩ := t
 rw [A1V] at h
 by_cases he : tk = k
 ·subst he
  rw [if_pos rfl] at h
  obtain ⟨x, y, rfl, _, _⟩ := A5d hk ht
  cases h
  exact ⟨ht, A2L _⟩
 ·rw [if_neg he] at h
  by_cases h1 : tk = 1
  ·rw [if_pos h1] at h
   cases h
   refine ⟨B53 hk, ?_⟩
   rw [U9, h1]; rfl
  ·rw [if_neg h1] at h; cases h
structure Wt (cx : Cx) (k : Int) (nm : ByteArray) (ty : Ty) (h w : List Ty) (t : Ty) : Prop where
 len : w = [] ∨ w.length = h.length
 ok : ∀ i, (hi : i < w.length) → (hh : i < h.length) → K4 h[i] w[i] = true ∧ H1 w[i] = true
 again : k ≠ 13 → L9 cx k nm ty (if w = [] then h else w) = some (w, t)
 asT : k = 13 → w = [t]
theorem B0S {cx : Cx} {k : Int} {nm : ByteArray} {ty : Ty} {h w : List Ty} {t : Ty} (hh : ∀ a ∈ h, H1 a = true) (hty : k = 13 → H1 ty = true) (hn : E6 k = (h.length : Int)) (h14 : k ≠ 14) (hw : L9 cx k nm ty h = some (w, t)) : Wt cx k nm ty h w t := by
 have hkr := A4f (by rw [hn]; omega : 0 ≤ E6 k)
 have hkk : k = 1 ∨ k = 2 ∨ (k = 3 ∨ k = 4) ∨ k = 5 ∨ k = 6 ∨ (k = 7 ∨ k = 8) ∨ k = 9 ∨ k = 10 ∨ (k = 11 ∨ k = 12) ∨ k = 13 := by omega
 have nil : w = [] → k ≠ 13 → Wt cx k nm ty h w t := by
  rintro rfl h13
  exact ⟨.inl rfl, fun i hi => by simp at hi, fun _ => by rw [if_pos rfl]; exact hw, fun h => absurd h h13⟩
 rcases hkk with rfl | rfl | hk | rfl | rfl | hk | rfl | rfl | hk | rfl
 ·refine nil ?_ (by decide)
  rw [mW1] at hw; split at hw <;> cases hw; rfl
 ·refine nil ?_ (by decide)
  rw [mW2] at hw; cases hw; rfl
 ·refine nil ?_ (by omega)
  rw [A36 hk] at hw; cases hw; rfl
 ·refine nil ?_ (by decide)
  rw [mW5] at hw; cases hw; rfl
 ·match h, (show h.length = 2 by have : E6 6 = 2 := rfl; omega) with
  | [x, y], _ =>
  rw [mW6] at hw
  simp only [List.getD_cons_zero, List.getD_cons_succ] at hw
  split at hw
  ·rename_i a b hm
   split at hw
   ·rename_i hc
    cases hw
    obtain ⟨v1, v2⟩ := B0R (.inl rfl) (hh x (by simp)) hm
    obtain ⟨v3, v4⟩ := B52 (.inl rfl) v1
    refine ⟨.inr rfl, fun i hi hi2 => ?_, fun _ => ?_, fun h => absurd h (by decide)⟩
    ·match i, hi with
     | 0, _ => exact ⟨v2, v1⟩
     | 1, _ => exact ⟨hc, v3⟩
    ·rw [if_neg (by simp), mW6]
     simp only [List.getD_cons_zero, List.getD_cons_succ, A1V, if_true, A2L]
   ·cases hw
  ·cases hw
 ·match h, (show h.length = 2 by rcases hk with rfl | rfl <;> (first | (have : E6 7 = 2 := rfl; omega) | (have : E6 8 = 2 := rfl; omega))) with
  | [x, y], _ =>
  rw [W1 hk] at hw
  simp only [List.getD_cons_zero, List.getD_cons_succ] at hw
  split at hw
  ·rename_i hc
   cases hw
   refine ⟨.inr rfl, fun i hi hi2 => ?_, fun _ => ?_, fun h => by omega⟩
   ·match i, hi with
    | 0, _ => exact ⟨hc.1, (show H1 T4 = true by decide)⟩
    | 1, _ => exact ⟨hc.2, (show H1 T4 = true by decide)⟩
   ·rw [if_neg (by simp), W1 hk]
    simp only [List.getD_cons_zero, List.getD_cons_succ, A2L, and_self, if_true]
  ·cases hw
 ·match h, (show h.length = 3 by have : E6 9 = 3 := rfl; omega) with
  | [x, y, z], _ =>
  rw [mW9] at hw
  simp only [List.getD_cons_zero, List.getD_cons_succ] at hw
  split at hw
  ·rename_i hc
   cases hw
   obtain ⟨c1, c2⟩ := B0P y z hc.2
   have vm := A6Z y z 1 hc.2 (hh y (by simp)) (hh z (by simp))
   refine ⟨.inr rfl, fun i hi hi2 => ?_, fun _ => ?_, fun h => absurd h (by decide)⟩
   ·match i, hi with
    | 0, _ => exact ⟨hc.1, (show H1 X7 = true by decide)⟩
    | 1, _ => exact ⟨c1, vm⟩
    | 2, _ => exact ⟨c2, vm⟩
   ·rw [if_neg (by simp), mW9]
    simp only [List.getD_cons_zero, List.getD_cons_succ, A2L, and_self, if_true, B0g]
  ·cases hw
 ·refine nil ?_ (by decide)
  rw [A5a] at hw; cases hw; rfl
 ·match h, (show h.length = 1 by rcases hk with rfl | rfl <;> (first | (have : E6 11 = 1 := rfl; omega) | (have : E6 12 = 1 := rfl; omega))) with
  | [x], _ =>
  rw [A3q hk] at hw
  simp only [List.getD_cons_zero] at hw
  split at hw
  ·rename_i a b hm
   cases hw
   obtain ⟨v1, v2⟩ := B0R (.inr rfl) (hh x (by simp)) hm
   refine ⟨.inr rfl, fun i hi hi2 => ?_, fun _ => ?_, fun h => by omega⟩
   ·match i, hi with
    | 0, _ => exact ⟨v2, v1⟩
   ·rw [if_neg (by simp), A3q hk]
    simp only [List.getD_cons_zero, List.getD_cons_succ, A1V, if_true]
  ·cases hw
 ·match h, (show h.length = 1 by have : E6 13 = 1 := rfl; omega) with
  | [x], _ =>
  rw [A2K] at hw
  simp only [List.getD_cons_zero] at hw
  split at hw
  ·rename_i hc
   cases hw
   refine ⟨.inr rfl, fun i hi hi2 => ?_, fun h => absurd rfl h, fun _ => rfl⟩
   match i, hi with
   | 0, _ => exact ⟨hc, hty rfl⟩
  ·cases hw
theorem B54 {l : Int} (h1 : 1 ≤ l) (h2 : l ≤ 99) : A08 l = true := by
 unfold A08
 rw [A1U.2 ⟨h1, h2⟩]; rfl
theorem B55 {u : Tm} {a b : Ty} {l D : Int} (hu : M8 40 13 u (D + 1) = true) (hc : K4 a b = true) (ha : H1 a = true) (hb : H1 b = true) (h1 : 1 ≤ l) (h2 : l ≤ 99) (hD : D ≤ 40) : M8 40 13 (L3 u a b l) D = true := by
 unfold L3
 rw [A14 hD (by decide) (T9.2 ⟨rfl, by simp, fun _ => rfl, by simp, fun _ => rfl, fun _ => hb, by simp, fun _ => ⟨by simp [A11, ha, hb, hc], B54 h1 h2⟩, by simp⟩)]
 simp [M4, hu]
theorem A7i {cx : Cx} : ∀ (us : List Tm) (h w : List Ty) (l D : Int), us.length = h.length → w.length = h.length → (∀ i, (hi : i < w.length) → (hh : i < h.length) → K4 h[i] w[i] = true ∧ H1 w[i] = true) → (∀ a ∈ h, H1 a = true) → Y8 cx us = some h → M4 40 13 us (D + 1) = true → 0 ≤ l → (H4 us h w l).2 ≤ 99 → D ≤ 40 →
  Y8 cx (H4 us h w l).1 = some w ∧ M4 40 13 (H4 us h w l).1 D = true ∧ (E7 (H4 us h w l).1 : Int) = E7 us + ((H4 us h w l).2 - l)
 | [], [], [], l, D, _, _, _, _, ht, _, _, _, _ => by simp [H4, Y8, M4, E7]
 | [], a :: h, w, l, D, hl, _, _, _, _, _, _, _, _ => by simp at hl
 | u :: us, [], w, l, D, hl, _, _, _, _, _, _, _, _ => by simp at hl
 | [], [], b :: w, l, D, _, hl, _, _, _, _, _, _, _ => by simp at hl
 | u :: us, a :: h, [], l, D, _, hl, _, _, _, _, _, _, _ => by simp at hl
 | u :: us, a :: h, b :: w, l, D, h1, h2, hw, hv, ht, hs, hl, h99, hD => by
  rw [Y8] at ht
  split at ht
  ·cases ht
  ·rename_i a' ha
   split at ht
   ·cases ht
   ·rename_i h' hh'
    simp only [Option.some.injEq, List.cons.injEq] at ht
    obtain ⟨rfl, rfl⟩ := ht
    rw [M4, Bool.and_eq_true] at hs
    obtain ⟨c1, c2⟩ := hw 0 (by simp) (by simp)
    have hw' : ∀ i, (hi : i < w.length) → (hh : i < h'.length) → K4 h'[i] w[i] = true ∧ H1 w[i] = true := fun i hi hh => hw (i + 1) (by simpa using hi) (by simpa using hh)
    have hv' : ∀ x ∈ h', H1 x = true := fun x hx => hv x (List.mem_cons_of_mem _ hx)
    simp only [H4] at h99 ⊢
    by_cases he : M5 a' b = true
    ·simp only [if_pos he] at h99 ⊢
     obtain ⟨i1, i2, i3⟩ := A7i us h' w l D (by simpa using h1) (by simpa using h2) hw' hv' hh' hs.2 hl h99 hD
     have hab := (A1o _ _).1 he
     subst hab
     refine ⟨by rw [Y8, ha, i1], ?_, ?_⟩
     ·rw [M4, Bool.and_eq_true]; exact ⟨A6Y 40 13 u (D + 1) D (by omega) hs.1, i2⟩
     ·simp only [E7]; omega
    ·simp only [if_neg he] at h99 ⊢
     obtain ⟨i1, i2, i3⟩ := A7i us h' w (l + 1) D (by simpa using h1) (by simpa using h2) hw' hv' hh' hs.2 (by omega) h99 hD
     have hlab := A1s us h' w (l + 1)
     refine ⟨by rw [Y8, L3, B47 ha, i1], ?_, ?_⟩
     ·rw [M4, Bool.and_eq_true]
      exact ⟨B55 hs.1 c1 (hv a' List.mem_cons_self) c2 (by omega) (by omega) hD, i2⟩
     ·simp only [E7, A2a]; omega
def B0T (cx : Cx) (t : Tm) (D l : Int) (u : Tm) (a : Ty) (l' : Int) : Prop := M8 40 13 u D = true ∧ A0V cx u = some a ∧ H1 a = true ∧ l ≤ l' ∧ l' + 1 ≤ l + (D3 t : Int) ∧ (D3 u : Int) ≤ D3 t + (l' - l)
theorem A7j (ks : List Tm) (ih : ∀ t ∈ ks, ∀ (d D : Int) (cx : Cx) (l : Int) (u : Tm) (a : Ty) (l' : Int), M8 12 14 t d = true → Z8 cx → 0 ≤ l → M6 cx t l = some (u, a, l') → l' ≤ 99 → D + 2 * (13 - d) ≤ 41 → B0T cx t D l u a l') :
  ∀ (d D : Int) (cx : Cx) (l : Int) (us : List Tm) (h : List Ty) (l' : Int), M4 12 14 ks d = true → Z8 cx → 0 ≤ l → M0 cx ks l = some (us, h, l') → l' ≤ 99 → D + 2 * (13 - d) ≤ 41 →
   M4 40 13 us D = true ∧ Y8 cx us = some h ∧ (∀ a ∈ h, H1 a = true) ∧ l ≤ l' ∧ l' + ks.length ≤ l + (E7 ks : Int) ∧ (E7 us : Int) ≤ E7 ks + (l' - l) ∧ h.length = ks.length ∧ us.length = ks.length := by
 induction ks with
 | nil =>
  intro d D cx l us h l' _ _ _ he _ _
  simp only [M0, Option.some.injEq, Prod.mk.injEq] at he
  obtain ⟨rfl, rfl, rfl⟩ := he
  simp [M4, Y8, E7]
 | cons t ts ihl =>
  intro d D cx l us h l' hs hcx hl he h99 hD
  rw [M4, Bool.and_eq_true] at hs
  rw [M0] at he
  split at he
  ·cases he
  ·rename_i u a l1 h1
   split at he
   ·cases he
   ·rename_i us' h' l2 h2
    simp only [Option.some.injEq, Prod.mk.injEq] at he
    obtain ⟨rfl, rfl, rfl⟩ := he
    have hp := B3e t
    
    have hmono : l1 ≤ l2 := by
     have : ∀ (zs : List Tm) (l : Int) us h l', M0 cx zs l = some (us, h, l') → l ≤ l' := by
      intro zs
      induction zs with
      | nil => intro l us h l' he; simp only [M0, Option.some.injEq, Prod.mk.injEq] at he; omega
      | cons z zs ihz =>
       intro l us h l' he
       rw [M0] at he
       split at he
       ·cases he
       ·rename_i u a l1 hz
        split at he
        ·cases he
        ·rename_i us' h' l2 hzs
         simp only [Option.some.injEq, Prod.mk.injEq] at he
         have := ihz _ _ _ _ hzs
         have := el_mono cx z l _ _ _ hz
         omega
     exact this ts l1 us' h' l2 h2
    obtain ⟨a1, a2, a3, a4, a5, a6⟩ := ih t List.mem_cons_self d D cx l u a l1 hs.1 hcx hl h1 (by omega) hD
    obtain ⟨b1, b2, b3, b4, b5, b6, b7, b8⟩ := ihl (fun x hx => ih x (List.mem_cons_of_mem _ hx)) d D cx l1 us' h' l2 hs.2 hcx (by omega) h2 h99 hD
    refine ⟨by rw [M4, a1, b1]; rfl, by rw [Y8, a2, b2], ?_, by omega, ?_, ?_, by simp [b7], by simp [b8]⟩
    ·intro x hx
     rcases List.mem_cons.1 hx with h | h
     ·rw [h]; exact a3
     ·exact b3 x h
    ·simp only [E7, List.length_cons]; omega
    ·simp only [E7]; omega
where
 el_mono (cx : Cx) : ∀ (z : Tm) (l : Int) (u : Tm) (a : Ty) (l' : Int), M6 cx z l = some (u, a, l') → l ≤ l' := by
  intro z
  revert cx
  refine Tm.ind (C := fun z => ∀ (cx : Cx) (l : Int) (u : Tm) (a : Ty) (l' : Int), M6 cx z l = some (u, a, l') → l ≤ l') ?_ z
  intro k nm num ty fr lb ks ih cx l u a l' he
  rw [M6] at he
  have hL : ∀ (zs : List Tm), (∀ t ∈ zs, t ∈ ks) → ∀ (cx : Cx) (l : Int) us h l', M0 cx zs l = some (us, h, l') → l ≤ l' := by
   intro zs
   induction zs with
   | nil => intro _ cx l us h l' he; simp only [M0, Option.some.injEq, Prod.mk.injEq] at he; omega
   | cons z zs ihz =>
    intro hin cx l us h l' he
    rw [M0] at he
    split at he
    ·cases he
    ·rename_i u a l1 hz
     split at he
     ·cases he
     ·rename_i us' h' l2 hzs
      simp only [Option.some.injEq, Prod.mk.injEq] at he
      have := ihz (fun t ht => hin t (List.mem_cons_of_mem _ ht)) _ _ _ _ _ hzs
      have := ih z (hin z List.mem_cons_self) _ l _ _ _ hz
      omega
  split at he
  ·cases he
  ·rename_i us h l1 hk
   have h1 := hL ks (fun _ h => h) _ _ _ _ _ hk
   unfold Q7 at he
   split at he
   ·cases he
   ·rename_i w t hn
    simp only [Option.some.injEq, Prod.mk.injEq] at he
    have := A1s us h w l1
    omega
theorem B56 : ∀ (t : Tm) (d D : Int) (cx : Cx) (l : Int) (u : Tm) (a : Ty) (l' : Int), M8 12 14 t d = true → Z8 cx → 0 ≤ l → M6 cx t l = some (u, a, l') → l' ≤ 99 → D + 2 * (13 - d) ≤ 41 → B0T cx t D l u a l' := by
 refine Tm.ind fun k nm num ty fr lb ks ih d D cx l u a l' hs hcx hl he h99 hD => ?_
 obtain ⟨hd, h14, h3, h4⟩ := A0P hs
 obtain ⟨n1, n2, n3, n4, n5, n6, n7, n8, n9⟩ := T9.1 h3
 rw [M6] at he
 split at he
 ·cases he
 ·rename_i us h l1 hL
  unfold Q7 at he
  split at he
  ·cases he
  ·rename_i w t hN
   simp only [Option.some.injEq, Prod.mk.injEq] at he
   obtain ⟨hu, rfl, rfl⟩ := he
   have hlab := A1s us h w l1
   obtain ⟨b1, b2, b3, b4, b5, b6, b7, b8⟩ := A7j ks ih (d + 1) (D + 2) (O0 cx k nm ty) l us h l1 h4 (A38 hcx fun hk => n6 (.inl hk)) hl hL (by omega) (by omega)
   obtain ⟨hv, hw⟩ := A6X hN
   have hwt := B0S b3 (fun hk => n6 (.inr (.inl hk))) (by rw [b7]; exact n1) h14 hw
   
   obtain ⟨c1, c2, c3⟩ : Y8 (O0 cx k nm ty) (H4 us h w l1).1 = some (if w = [] then h else w) ∧ M4 40 13 (H4 us h w l1).1 (D + 1) = true ∧ (E7 (H4 us h w l1).1 : Int) = E7 us + ((H4 us h w l1).2 - l1) := by
    rcases hwt.len with hn | hn
    ·subst hn
     rw [V4, if_pos rfl]
     refine ⟨b2, ?_, by simp⟩
     exact A5c 40 13 us (D + 2) (D + 1) (by omega) b1
    ·by_cases hn0 : w = []
     ·subst hn0
      rw [V4, if_pos rfl]
      refine ⟨b2, ?_, by simp⟩
      exact A5c 40 13 us (D + 2) (D + 1) (by omega) b1
     ·rw [if_neg hn0]
      exact A7i us h w l1 (D + 1) (by omega) hn hwt.ok b3 b2 (by rw [show D + 1 + 1 = D + 2 by omega]; exact b1) (by omega) h99 (by omega)
   have hlm := A1W us h w l1
   have hck : D3 (.mk k nm num ty fr lb ks) = E7 ks + 1 := Z1 ..
   refine ⟨?_, ?_, hv, by omega, by rw [hck]; omega, ?_⟩
   ·rw [← hu]
    split
    ·rename_i hk
     have hl1 : ks.length = 1 := by rw [hk] at n1; have : E6 13 = 1 := rfl; omega
     have h0 : 0 < (H4 us h w l1).1.length := by omega
     rw [getD0' h0]
     have := (A1n 40 13 _ _).1 c2 0 h0
     exact A6Y 40 13 _ (D + 1) D (by omega) this
    ·rename_i hk
     rw [A14 (by omega) hk (by rw [hlm, b8]; exact h3)]
     exact c2
   ·rw [← hu]
    split
    ·rename_i hk
     have hl1 : ks.length = 1 := by rw [hk] at n1; have : E6 13 = 1 := rfl; omega
     have h0 : 0 < (H4 us h w l1).1.length := by omega
     rw [getD0' h0]
     rw [hwt.asT hk, if_neg (by simp)] at c1
     rw [O0, if_neg (by omega)] at c1
     rw [← hwt.asT hk] at c1
     obtain ⟨x, hx⟩ : ∃ x, (H4 us h w l1).1 = [x] := by
      match hm : (H4 us h w l1).1, (show (H4 us h w l1).1.length = 1 by omega) with
      | [x], _ => exact ⟨x, rfl⟩
     simp only [hx, List.getElem_cons_zero] at c1 ⊢
     obtain ⟨y, hy, he⟩ := B44 c1
     rw [hwt.asT hk] at he
     cases he; exact hy
    ·rename_i hk
     refine B43 c1 h14 hv (hwt.again hk) ?_
     by_cases hn0 : w = []
     ·rw [hn0]; rfl
     ·rw [if_neg hn0]; exact B0i w
   ·rw [← hu, hck]
    split
    ·rename_i hk
     have hl1 : ks.length = 1 := by rw [hk] at n1; have : E6 13 = 1 := rfl; omega
     have h0 : 0 < (H4 us h w l1).1.length := by omega
     rw [getD0' h0]
     have := A6g (List.getElem_mem h0)
     omega
    ·rw [Z1]; omega
where
 getD0' {us : List Tm} (h : 0 < us.length) : us.getD 0 K7 = us[0] := by rw [List.getD_eq_getElem?_getD, List.getElem?_eq_getElem h, Option.getD_some]
theorem B0U : ∀ (t : Tm) (d : Int) (cx : Cx) (l : Int) (u : Tm) (a : Ty) (l' : Int), M8 12 14 t d = true → M6 cx t l = some (u, a, l') → l' + 1 ≤ l + (D3 t : Int) := by
 refine Tm.ind fun k nm num ty fr lb ks ih d cx l u a l' hs he => ?_
 obtain ⟨hd, h14, h3, h4⟩ := A0P hs
 obtain ⟨n1, _⟩ := T9.1 h3
 have hL : ∀ (zs : List Tm), (∀ t ∈ zs, t ∈ ks) → M4 12 14 zs (d + 1) = true → ∀ (cx : Cx) (l : Int) us h l', M0 cx zs l = some (us, h, l') → l' + zs.length ≤ l + (E7 zs : Int) ∧ us.length = zs.length := by
  intro zs
  induction zs with
  | nil => intro _ _ cx l us h l' he; simp only [M0, Option.some.injEq, Prod.mk.injEq] at he; obtain ⟨rfl, _, rfl⟩ := he; simp [E7]
  | cons z zs ihz =>
   intro hin hsz cx l us h l' he
   rw [M4, Bool.and_eq_true] at hsz
   rw [M0] at he
   split at he
   ·cases he
   ·rename_i u a l1 hz
    split at he
    ·cases he
    ·rename_i us' h' l2 hzs
     simp only [Option.some.injEq, Prod.mk.injEq] at he
     obtain ⟨rfl, rfl, rfl⟩ := he
     have h5 := ihz (fun t ht => hin t (List.mem_cons_of_mem _ ht)) hsz.2 _ _ _ _ _ hzs
     have h6 := ih z (hin z List.mem_cons_self) (d + 1) _ l _ _ _ hsz.1 hz
     simp only [E7, List.length_cons]
     exact ⟨by omega, by omega⟩
 rw [M6] at he
 split at he
 ·cases he
 ·rename_i us h l1 hk
  obtain ⟨g1, g2⟩ := hL ks (fun _ h => h) h4 _ _ _ _ _ hk
  unfold Q7 at he
  split at he
  ·cases he
  ·rename_i w t hn
   simp only [Option.some.injEq, Prod.mk.injEq] at he
   have := A1s us h w l1
   have hck : D3 (.mk k nm num ty fr lb ks) = E7 ks + 1 := Z1 ..
   rw [hck]; omega
theorem A5t {e u : Tm} {t : Ty} (h : U4 e = some (u, t)) : O4 u = true ∧ A0V [] u = some t ∧ H1 t = true := by
 unfold U4 at h
 split at h
 ·rename_i hv
  obtain ⟨h1, h2⟩ := (A0C e).1 hv
  split at h
  ·rename_i u' t' l' he
   cases h
   have hl : l' ≤ 99 := by
    have := A7j.el_mono [] e 0 _ _ _ he
    have h3 : ∀ (t : Tm) (cx : Cx) (l : Int) (u : Tm) (a : Ty) (l' : Int), M6 cx t l = some (u, a, l') → l' ≤ l + 4 * (D3 t : Int) → True := fun _ _ _ _ _ _ _ _ => trivial
    exact el_lab e 1 h1 (by omega) he
   obtain ⟨g1, g2, g3, g4, g5, g6⟩ := B56 e 1 1 [] 0 u t l' h1 A3r (by omega) he hl (by omega)
   exact ⟨(A6G u).2 ⟨g1, by omega⟩, g2, g3⟩
  ·cases h
 ·cases h
where
 el_lab (e : Tm) (d : Int) (h1 : M8 12 14 e d = true) (h2 : D3 e ≤ 30) {u : Tm} {t : Ty} {l' : Int} (he : M6 [] e 0 = some (u, t, l')) : l' ≤ 99 := by
  have := B0U e d [] 0 u t l' h1 he
  omega
def A0u (k : Int) : Bool := decide (k = 5 ∨ k = 13)
theorem A7k {Q : Prop} (h : Q := by exact ⟨rfl, by (show _ = Value.bool (decide (k = 5 ∨ k = 13)); first | rw [decide_eq_true (by omega)] | rw [decide_eq_false (by omega)]), rfl⟩) : Q := h
theorem A7l (t : Tm) (G : IM) (cells : List Value) (hr : B1 G t cells) : Fn Tryz.prog 77 [.agg ⟨cells⟩] [] G (I5 (.bool (A0u t.k)) G) := by
 obtain ⟨k, nm, num, ⟨tk, tks⟩, ⟨fk, fks⟩, lb, ks⟩ := t
 obtain ⟨pt, ct, pf, cf, p, c, es, rfl, hk, hnum, hlb, hty, hfr, hsl, hkl⟩ := hr.open9
 refine C1 Tryz.func77 rfl Tryz.ntmps77 Tryz.results77 rfl ?_
 intro w0
 refine A3 ?_
 refine sE (C7 rfl rfl) rfl (fun b3 => ?_)
 refine B5 ?_
 refine sB (qE rfl rfl) rfl rfl (fun h11 => ?_) (fun h11 => ?_)
 refine J3 ?_
 exact A7k
 refine B7 ?_
 refine sB (qE rfl rfl) rfl rfl (fun h26 => ?_) (fun h26 => ?_)
 refine A8 ?_
 exact A7k
 refine A8 ?_
 exact A7k
inductive MV where
 | mk (k num : Int) (env parts : List MV)
def MV.k : MV → Int | .mk k _ _ _ => k
def MV.num : MV → Int | .mk _ n _ _ => n
def MV.env : MV → List MV | .mk _ _ e _ => e
def MV.parts : MV → List MV | .mk _ _ _ p => p
def mv0 : MV := .mk 0 0 [] []
mutual
def RMv (kc : Int → Int) (G : IM) : MV → List Value → Prop
 | .mk k num env parts, cells => ∃ p c es q d fs, cells = [.int .i64 (kc k), .int .i64 num, .slice p env.length c, .slice q parts.length d] ∧ F8 num ∧ F8 (kc k) ∧ D7 G p env.length c 4 es ∧ A3x kc G env es ∧ D7 G q parts.length d 4 fs ∧ A3x kc G parts fs
def A3x (kc : Int → Int) (G : IM) : List MV → List (List Value) → Prop
 | [], es => es = []
 | t :: ts, es => ∃ a r, es = a :: r ∧ RMv kc G t a ∧ A3x kc G ts r
end
section
variable {kc : Int → Int} {G : IM}
end

def RFr (kc : Int → Int) (G : IM) (f : Int × List MV) (cells : List Value) : Prop := ∃ p c es, cells = [.int .i64 f.1, .slice p f.2.length c] ∧ F8 f.1 ∧ D7 G p f.2.length c 4 es ∧ A3x kc G f.2 es
def B0V (kc : Int → Int) (G : IM) : List (Int × List MV) → List (List Value) → Prop
 | [], es => es = []
 | t :: ts, es => ∃ a r, es = a :: r ∧ RFr kc G t a ∧ B0V kc G ts r
section
variable {kc : Int → Int} {G : IM}
end

structure MSt where
 at' : Int
 st : List MV
 env : List MV
 fr : List (Int × List MV)
def RSs (kc : Int → Int) (G : IM) (s : MSt) (cells : List Value) : Prop := ∃ pe ce ps cs pf cf ee es ef, cells = [.int .i64 s.at', .slice pe s.env.length ce, .slice ps s.st.length cs, .slice pf s.fr.length cf] ∧ F8 s.at' ∧
 D7 G pe s.env.length ce 4 ee ∧ A3x kc G s.env ee ∧ D7 G ps s.st.length cs 4 es ∧ A3x kc G s.st es ∧ D7 G pf s.fr.length cf 2 ef ∧ B0V kc G s.fr ef
def A5u (k : Int) : Nat := if k = 6 ∨ k = 7 ∨ k = 8 ∨ k = 11 then 2 else if k = 9 ∨ k = 12 ∨ k = 13 then 1 else 0
def A7m (k : Int) : Int × Nat × Int := if k = 6 then (2, 1, 1) else if k = 7 ∨ k = 8 then (0, 2, 2) else if k = 9 then (1, 1, 3) else if k = 12 ∨ k = 13 then (3, 1, 4) else (0, 0, 0)
def A2h (s : MSt) (v : MV) : MSt := { s with st := s.st ++ [v] }
def mGo (k a : Int) (s : MSt) (v : List MV) : MSt ⊕ (Int × Int) :=
 if k = 1 then .inl (A2h s (.mk 0 a [] []))
 else if k = 2 then .inl (A2h s (.mk 1 a [] []))
 else if k = 3 then (if (s.env.length : Int) - 1 - a < 0 then .inr (3, 0) else .inl (A2h s (s.env.getD ((s.env.length : Int) - 1 - a).toNat mv0)))
 else if k = 4 then .inl { A2h s (.mk 2 s.at' s.env []) with at' := s.at' + a }
 else if k = 5 then (if s.fr.length = 0 then .inr (3, 0) else .inl { s with at' := (s.fr.getD (s.fr.length - 1) (0, [])).1, env := (s.fr.getD (s.fr.length - 1) (0, [])).2, fr := s.fr.take (s.fr.length - 1) })
 else if k = 6 then .inl { s with at' := (v.getD 0 mv0).num, env := (v.getD 0 mv0).env ++ [v.getD 1 mv0], fr := s.fr ++ [(s.at', s.env)] }
 else if k = 7 then .inl (A2h s (.mk 0 (((v.getD 0 mv0).num + (v.getD 1 mv0).num) % 1000) [] []))
 else if k = 8 then .inl (A2h s (.mk 1 (if (v.getD 0 mv0).num < (v.getD 1 mv0).num then 1 else 0) [] []))
 else if k = 9 then .inl (if (v.getD 0 mv0).num = 0 then { s with at' := s.at' + a } else s)
 else if k = 10 then .inl { s with at' := s.at' + a }
 else if k = 11 then .inl (A2h s (.mk 3 0 [] v))
 else .inl (A2h s ((v.getD 0 mv0).parts.getD (k - 12).toNat mv0))
def B57 (k : Int) (v : List MV) : Bool := (v.take (A7m k).2.1).all fun u => decide (u.k = (A7m k).1)
def B58 (k a : Int) (s : MSt) : MSt ⊕ (Int × Int) :=
 if s.st.length < A5u k then .inr (3, 0)
 else if B57 k (s.st.drop (s.st.length - A5u k)) = true then mGo k a { s with at' := s.at' + 1, st := s.st.take (s.st.length - A5u k) } (s.st.drop (s.st.length - A5u k))
 else .inr (2, (A7m k).2.2)
def B59 (v : MV) : ByteArray := if v.k = 0 then ⟨(Lib.decDigits v.num.toNat).toArray⟩ else if v.k = 1 then (if v.num = 0 then ⟨#[70]⟩ else ⟨#[84]⟩) else if v.k = 2 then ⟨⟨[102, 117, 110, 99, 116, 105, 111, 110]⟩⟩ else ⟨⟨[112, 97, 105, 114]⟩⟩
def B6a (s : MSt) : ByteArray × Int × Int := if s.st.length ≠ 1 ∨ 0 < s.fr.length then (⟨#[]⟩, 3, 0) else (B59 (s.st.getD 0 mv0), 0, 0)
def B0W (ops : List (Int × Int)) : Nat → MSt → ByteArray × Int × Int
 | t, s => if (ops.length : Int) ≤ s.at' then B6a s else match t with
  | 0 => (⟨#[]⟩, 5, 0)
  | t + 1 => match B58 (ops.getD s.at'.toNat (0, 0)).1 (ops.getD s.at'.toNat (0, 0)).2 s with
   | .inl s' => B0W ops t s'
   | .inr (c, e) => (⟨#[]⟩, c, e)
def B6b (k behind : Int) : Int := if k = 1 then 999 else if k = 2 then 1 else if k = 3 then 11 else if k = 4 ∨ k = 9 ∨ k = 10 then behind else 0
def B6c (n : Nat) (i : Nat) (x : Int × Int) : Bool := decide (1 ≤ x.1 ∧ x.1 ≤ 13 ∧ 0 ≤ x.2 ∧ x.2 ≤ B6b x.1 ((n : Int) - 1 - i))
def B6d (ops : List (Int × Int)) : Bool := decide (1 ≤ ops.length ∧ ops.length ≤ 120) && (List.range ops.length).all fun i => B6c ops.length i (ops.getD i (0, 0))
def B8w (ops : List (Int × Int)) (ticks : Int) : ByteArray × Int × Int :=
 if B6d ops = true ∧ 0 ≤ ticks ∧ ticks ≤ 2000 then B0W ops ticks.toNat ⟨0, [], [], []⟩ else (⟨#[]⟩, 3, 0)
theorem B0X (k : Nat) : strOfNums [dgi k] = (⟨[UInt8.ofNat (48 + k % 10)].toArray⟩ : ByteArray) := by
 have : (dgi k).toNat = 48 + k % 10 := by unfold dgi; omega
 simp [strOfNums, this]
theorem B6e (a b : List UInt8) : (⟨a.toArray⟩ : ByteArray) ++ ⟨b.toArray⟩ = ⟨(a ++ b).toArray⟩ := by
 apply ByteArray.ext; simp
theorem B6f {k : Nat} {out : ByteArray} (h : 9 < k) : (⟨(Lib.decDigits (k / 10)).toArray⟩ : ByteArray) ++ (strOfNums [dgi k] ++ out) = ⟨(Lib.decDigits k).toArray⟩ ++ out := by
 have e : (⟨(Lib.decDigits k).toArray⟩ : ByteArray) = ⟨(Lib.decDigits (k / 10)).toArray⟩ ++ ⟨[UInt8.ofNat (48 + k % 10)].toArray⟩ := by
  rw [B6e (Lib.decDigits (k / 10))]
  congr 2
  rw [Lib.decDigits, dif_neg (by omega)]
 rw [e, B0X, ByteArray.append_assoc]
theorem B6g {k : Nat} {out : ByteArray} (h : ¬9 < k) : strOfNums [dgi k] ++ out = ⟨(Lib.decDigits k).toArray⟩ ++ out := by
 rw [B0X, Lib.decDigits, dif_pos (by omega), Nat.mod_eq_of_lt (by omega)]
theorem B6h {k : Nat} (h : ¬9 < k) : dgi k = 48 + (k : Int) := by unfold dgi; omega
theorem B6i (k : Nat) (hk : k < 10000) (G : IM) : Fn Tryz.prog 129 [.int .i64 (k : Int)] [] G (I5 (.string ⟨(Lib.decDigits k).toArray⟩) G) := by
 refine C1 Tryz.func129 rfl Tryz.ntmps129 Tryz.results129 rfl ?_
 intro w0
 refine E0 ?_
 refine sP (A1I rfl rfl (by omega)) rfl rfl ?_
 refine E0 ?_
 refine sP (A1I rfl rfl (by omega)) rfl rfl ?_
 refine J1 ?_
 refine C0 (J0 (fun (x : Nat × ByteArray) => ⟨[(0, .int .i64 (x.1 : Int)), (2, .string ⟨#[]⟩), (3, .string x.2)], [], G⟩) (fun x => x.1 < 10000 ∧ x.1 + x.2.size < 10020 ∧ (⟨(Lib.decDigits x.1).toArray⟩ : ByteArray) ++ x.2 = ⟨(Lib.decDigits k).toArray⟩) (fun x => x.1) (k, ⟨#[]⟩) ?_ ?_ ?_)
 (simp only [H6]; exact D2)
 (dsimp only; exact ⟨hk, by have : (⟨#[]⟩ : ByteArray).size = 0 := rfl; omega, ByteArray.append_empty⟩)
 (rintro ⟨j, out⟩ ⟨hj, hsz, hd⟩; simp only [] at hj hsz hd ⊢)
 refine B4 ?_
 refine sB (W3 rfl rfl) rfl rfl (fun h41 => ?_) (fun h41 => ?_)
 refine B0 ?_
 refine C0 ?_
 refine B7 ?_
 refine sP (A6e (n := 10) rfl rfl (by omega)) rfl rfl ?_
 refine sP (H5 rfl rfl (by omega) (by omega)) rfl rfl ?_
 refine sP (A8C rfl rfl rfl (by omega) (by omega)) rfl rfl ?_
 (refine I3 (D0 rfl rfl rfl (by omega) (by unfold maxLen; omega) rfl) rfl ?_; rintro _ ⟨b54, rfl⟩)
 refine sL (A8D (xs := [dgi j]) rfl rfl rfl rfl rfl (M1 (by repeat first | exact mH | apply mT))) rfl rfl ?_
 refine E3 ?_
 (have hs1 := strOfNums_size [dgi j]; have hs2 : [dgi j].length = 1 := rfl; refine sP (A20 rfl rfl (by omega)) rfl rfl ?_)
 refine B0 ?_
 refine sP (A6f (n := 10) rfl rfl (by omega) (by omega)) rfl rfl ?_
 refine B7 ?_
 refine I1 (j / 10, strOfNums [dgi j] ++ out) ?_ ?_ ?_
 (simp only [H6]; exact D2)
 (dsimp only; exact ⟨by omega, by (rw [ByteArray.size_append]; omega), by rw [← hd]; exact B6f (by omega)⟩)
 (show j / 10 < j; omega)
 refine J1 ?_
 refine sP (H5 rfl rfl (by omega) (by omega)) rfl rfl ?_
 refine sP (A8C rfl rfl rfl (by omega) (by omega)) rfl rfl ?_
 (refine I3 (D0 rfl rfl rfl (by omega) (by unfold maxLen; omega) rfl) rfl ?_; rintro _ ⟨b84, rfl⟩)
 (have hs9 := B6h (k := j) (by omega); refine sL (A8D (xs := [48 + (j : Int)]) rfl rfl rfl rfl rfl (M1 (by repeat first | exact mH | apply mT))) rfl rfl ?_; rw [← hs9])
 refine E3 ?_
 (have hs1 := strOfNums_size [dgi j]; have hs2 : [dgi j].length = 1 := rfl; refine sP (A20 rfl rfl (by omega)) rfl rfl ?_)
 refine B0 ?_
 exact ⟨rfl, by rw [B6g (by omega), hd], rfl⟩
def A7n : ByteArray := ⟨⟨[112, 97, 105, 114]⟩⟩
def A7o : ByteArray := ⟨⟨[102, 117, 110, 99, 116, 105, 111, 110]⟩⟩
def txT : ByteArray := ⟨⟨[84]⟩⟩
def txF : ByteArray := ⟨⟨[70]⟩⟩
def B0Y (n : Int) : ByteArray := ⟨(Lib.decDigits n.toNat).toArray⟩
def A1Y (k num : Int) : ByteArray := if k = 2 then B0Y num else if k = 3 then txT else txF
mutual
def A0a : Tm → ByteArray
 | .mk k nm num ty fr lb ks => if k = 10 ∨ (R3 (.mk k nm num ty fr lb []) = true ∧ ty.k = 5) then A7n else if k = 5 ∨ R3 (.mk k nm num ty fr lb []) = true then A7o else if k = 14 then B6j ks else A1Y k num
def B6j : List Tm → ByteArray
 | [] => ⟨⟨[]⟩⟩
 | t :: _ => A0a t
end
theorem B6k (k : Int) (nm : ByteArray) (num : Int) (ty fr : Ty) (lb : Int) (ks : List Tm) (G : IM) (cells : List Value) (hT : X1 G) (hk3 : k = 2 ∨ k = 3 ∨ k = 4) (hn : 0 ≤ num ∧ num ≤ 999) (hr : B1 G (.mk k nm num ty fr lb ks) cells) : Fn Tryz.prog 107 [.agg ⟨cells⟩] [] G (I5 (.string (A1Y k num)) G) := by
 obtain ⟨tk, tks⟩ := ty
 obtain ⟨fk, fks⟩ := fr
 obtain ⟨pt, ct, pf, cf, p, c, es, rfl, hk, hnum, hlb, hty, hfr, hsl, hkl⟩ := hr.open9
 have hI := B3p num G hT hn.1 hn.2
 refine C1 Tryz.func107 rfl Tryz.ntmps107 Tryz.results107 rfl ?_
 intro w0
 refine A3 ?_
 refine sE (C7 rfl rfl) rfl (fun b3 => ?_)
 refine B0 ?_
 refine sQ (A2q rfl rfl) rfl ?_
 refine J3 ?_
 refine C0 ?_
 refine A3 ?_
 refine sP (J8 rfl rfl (by omega)) rfl rfl ?_
 refine A8 ?_
 refine sB (qE rfl rfl) rfl rfl (fun h30 => ?_) (fun h30 => ?_)
 refine D1 ?_
 refine E8 rfl (hI) rfl rfl ?_
 refine B5 ?_
 (exact ⟨rfl, by unfold A1Y; rw [if_pos (by omega)]; rfl, rfl⟩)
 refine A8 ?_
 refine sB (qE rfl rfl) rfl rfl (fun h54 => ?_) (fun h54 => ?_)
 refine J7 ?_
 (exact ⟨rfl, by unfold A1Y; rw [if_neg (by omega), if_pos (by omega)]; rfl, rfl⟩)
 refine A8 ?_
 refine sP (X5 rfl rfl (by omega)) rfl rfl ?_
 refine J7 ?_
 (exact ⟨rfl, by unfold A1Y; rw [if_neg (by omega), if_neg (by omega)]; rfl, rfl⟩)
section
variable {k : Int} {nm : ByteArray} {num : Int} {ty fr : Ty} {lb : Int} {ks : List Tm}
theorem B0Z (h : k = 10 ∨ (R3 (.mk k nm num ty fr lb ks) = true ∧ ty.k = 5)) : A0a (.mk k nm num ty fr lb ks) = A7n := by
 rw [A0a]
 exact if_pos h
theorem B00 (h : ¬(k = 10 ∨ (R3 (.mk k nm num ty fr lb ks) = true ∧ ty.k = 5))) (h2 : k = 5 ∨ R3 (.mk k nm num ty fr lb ks) = true) : A0a (.mk k nm num ty fr lb ks) = A7o := by
 rw [A0a]
 exact (if_neg h).trans (if_pos h2)
theorem A7p (h : R3 (.mk k nm num ty fr lb ks) = false) (hk : k = 14) (h0 : 0 < ks.length) : A0a (.mk k nm num ty fr lb ks) = A0a ks[0] := by
 rw [A0a, if_neg (by rintro (h1 | h1); omega; exact Bool.noConfusion (h1.1.symm.trans h)), if_neg (by rintro (h1 | h1); omega; exact Bool.noConfusion (h1.symm.trans h)), if_pos hk]
 cases ks with
 | nil => simp at h0
 | cons t ts => rfl
theorem B01 (h : R3 (.mk k nm num ty fr lb ks) = false) (hk : k ≠ 14) (h10 : k ≠ 10) (h5 : k ≠ 5) : A0a (.mk k nm num ty fr lb ks) = A1Y k num := by
 rw [A0a, if_neg (by rintro (h1 | h1); omega; exact Bool.noConfusion (h1.1.symm.trans h)), if_neg (by rintro (h1 | h1); omega; exact Bool.noConfusion (h1.symm.trans h)), if_neg hk]
end
theorem B02 {Q : Prop} (h : Q := by (exact ⟨rfl, congrArg Value.string (hvp (by first | exact .inl (by omega) | exact .inr ⟨by assumption, by assumption⟩)).symm, rfl⟩)) : Q := h
theorem A7q {Q : Prop} (h : Q := by (exact ⟨rfl, congrArg Value.string (hvf (by rintro (h | ⟨h1, h2⟩) <;> first | omega | exact Bool.noConfusion (h1.symm.trans (show bp = false by assumption)) | (simp only [Ty.k] at h2; omega)) (by first | exact .inl (by omega) | exact .inr (by assumption))).symm, rfl⟩)) : Q := h
theorem B6l : ∀ (t : Tm) (G : IM) (cells : List Value), X1 G → cv t → H2 t = true → B1 G t cells → Fn Tryz.prog 59 [.agg ⟨cells⟩] [] G (I5 (.string (A0a t)) G) := by
 refine Tm.ind fun k nm num ty fr lb ks ih G cells hT hc hv hr => ?_
 have hr0 := hr
 have hP := A2P _ G _ hr
 obtain ⟨hN, hkk⟩ := hc.node
 have hop := hN.ops
 have h14 : k = 14 → ks.length = 1 := fun h => by rw [h] at hop; have : E6 14 = 1 := rfl; omega
 have hL := fun h => B6k k nm num ty fr lb ks G cells hT h hN.num0 hr
 have hvp := @B0Z k nm num ty fr lb ks
 have hvf := @B00 k nm num ty fr lb ks
 have hvc := @A7p k nm num ty fr lb ks
 have hvl := @B01 k nm num ty fr lb ks
 have hvn := @A5i k nm num ty fr lb ks
 have hvy := @A4e k nm num ty fr lb ks
 have hprx := A1w k nm num ty fr lb ks
 have hinj := A5h k nm num ty fr lb ks
 have hleaf : R3 (.mk k nm num ty fr lb ks) = false → k ≠ 14 → k ≠ 10 → k ≠ 5 → k = 2 ∨ k = 3 ∨ k = 4 := by
  intro h1 h2 h3 h4
  have := hvn h3 h1 (by rw [hinj, decide_eq_false (by omega)]; rfl)
  rw [this] at hv
  have := of_decide_eq_true hv
  omega
 have hkv : R3 (.mk k nm num ty fr lb ks) = false → k = 14 → ∀ t ∈ ks, H2 t = true := by
  intro h1 h2 t ht
  cases hi : inj (.mk k nm num ty fr lb ks) with
  | true => have := hvy (.inr (.inr hi)); rw [hv] at this; exact List.all_eq_true.1 this.symm t ht
  | false =>
   have := hvn (by omega) h1 hi
   rw [hv] at this
   have := of_decide_eq_true this.symm
   omega
 generalize hpx : R3 (.mk k nm num ty fr lb ks) = bp at *
 obtain ⟨tk, tks⟩ := ty
 obtain ⟨fk, fks⟩ := fr
 obtain ⟨pt, ct, pf, cf, p, c, es, rfl, hk, hnum, hlb, hty, hfr, hsl, hkl⟩ := hr.open9
 refine C1 Tryz.func59 rfl Tryz.ntmps59 Tryz.results59 rfl ?_
 intro w0
 refine A3 ?_
 refine sE (C7 rfl rfl) rfl (fun b3 => ?_)
 refine B4 ?_
 refine C0 ?_
 refine B4 ?_
 refine sB (qE rfl rfl) rfl rfl (fun h13 => ?_) (fun h13 => ?_)
 refine A06 ?_
 exact B02
 refine A3 ?_
 refine F4 rfl (hP) rfl rfl (fun h40 => ?_) (fun h40 => ?_)
 refine B4 ?_
 refine sB (qE rfl rfl) rfl rfl (fun h45 => ?_) (fun h45 => ?_)
 refine I7 ?_
 exact B02
 refine J3 ?_
 refine sB (qE rfl rfl) rfl rfl (fun h72 => ?_) (fun h72 => ?_)
 refine Q5 ?_
 exact A7q
 refine A3 ?_
 refine F4 rfl (hP) rfl rfl (fun h93 => ?_) (fun h93 => ?_)
 refine J9 ?_
 exact A7q
 refine E0 ?_
 refine sB (qE rfl rfl) rfl rfl (fun h118 => ?_) (fun h118 => ?_)
 refine D1 ?_
 (have hl1 := h14 (by omega); obtain ⟨bx, ox, e, rfl, hl, hat, hre, hgb⟩ := hsl.kidTm hkl (i := 0) (by omega) (by omega); have hih := ih ks[0] (List.getElem_mem (by omega)) G e hT (hkk _ (List.getElem_mem (by omega))) (hkv (by assumption) (by omega) _ (List.getElem_mem (by omega))) hre; refine sP (B6 (j := 0) rfl rfl rfl (by omega)) rfl rfl ?_)
 refine sL (A2 rfl rfl (hat _) hl) rfl rfl ?_
 refine E8 rfl (hih) rfl rfl ?_
 refine B5 ?_
 (exfalso; have h1 : bp = true := (by assumption); have h2 : bp = false := (by assumption); rw [h1] at h2; cases h2)
 refine J3 ?_
 refine E8 rfl ((hL (hleaf (by assumption) (by omega) (by omega) (by omega)))) rfl rfl ?_
 refine B0 ?_
 (exfalso; have h1 : bp = true := (by assumption); have h2 : bp = false := (by assumption); rw [h1] at h2; cases h2)
 refine I7 ?_
 refine sB (qE rfl rfl) rfl rfl (fun h170 => ?_) (fun h170 => ?_)
 refine Q5 ?_
 exact A7q
 refine A3 ?_
 refine F4 rfl (hP) rfl rfl (fun h191 => ?_) (fun h191 => ?_)
 refine J9 ?_
 (exfalso; have h1 : bp = true := (by assumption); have h2 : bp = false := (by assumption); rw [h1] at h2; cases h2)
 refine E0 ?_
 refine sB (qE rfl rfl) rfl rfl (fun h216 => ?_) (fun h216 => ?_)
 refine D1 ?_
 (have hl1 := h14 (by omega); obtain ⟨bx, ox, e, rfl, hl, hat, hre, hgb⟩ := hsl.kidTm hkl (i := 0) (by omega) (by omega); have hih := ih ks[0] (List.getElem_mem (by omega)) G e hT (hkk _ (List.getElem_mem (by omega))) (hkv (by assumption) (by omega) _ (List.getElem_mem (by omega))) hre; refine sP (B6 (j := 0) rfl rfl rfl (by omega)) rfl rfl ?_)
 refine sL (A2 rfl rfl (hat _) hl) rfl rfl ?_
 refine E8 rfl (hih) rfl rfl ?_
 refine B5 ?_
 (exact ⟨rfl, congrArg Value.string (hvc (by assumption) (by omega) (by omega)).symm, rfl⟩)
 refine J3 ?_
 refine E8 rfl ((hL (hleaf (by assumption) (by omega) (by omega) (by omega)))) rfl rfl ?_
 refine B0 ?_
 (exact ⟨rfl, congrArg Value.string (hvl (by assumption) (by omega) (by omega) (by omega)).symm, rfl⟩)
section fin
variable {P : Program} {Γ : L7} {env : M2} {hp : List A6} {G : IM}
theorem A2S {r r2 r3 : ResultVar} {post : IM → Value → List A6 → Prop} {v v2 v3 : Value} {outs : List A6} (h : X4 P Γ ⟨env, hp, G⟩ r v) (h2 : X4 P Γ ⟨env, hp, G⟩ r2 v2) (h3 : X4 P Γ ⟨env, hp, G⟩ r3 v3) (ho : A0 hp outs) (hk : post G (.tuple ⟨[v, v2, v3]⟩) outs) :
  A0w P Γ [r, r2, r3] post .ret ⟨env, hp, G⟩ := A51 (.cons h (.cons h2 (.cons h3 .nil))) ho.spec hk
end fin
def CsP (bx : Nat) (e : Tm) (a b : Ty) (l : Int) : IM → Value → List A6 → Prop := fun G' v outs => ∃ cells, v = .agg ⟨cells⟩ ∧ outs = [.blk bx [.int .i64 (if M5 a b = true then l else l + 1)]] ∧ B1 G' (if M5 a b = true then e else L3 e a b (l + 1)) cells
theorem CsP.yes {G : IM} {bx : Nat} {e : Tm} {a b : Ty} {l : Int} {cells : List Value} (h : M5 a b = true) (hr : B1 G e cells) : CsP bx e a b l G (.agg ⟨cells⟩) [.blk bx [.int .i64 l]] := ⟨cells, rfl, by rw [if_pos h], by rw [if_pos h]; exact hr⟩
theorem CsP.no {G : IM} {bx : Nat} {e : Tm} {a b : Ty} {l : Int} {cells : List Value} (h : M5 a b = false) (hr : B1 G (L3 e a b (l + 1)) cells) : CsP bx e a b l G (.agg ⟨cells⟩) [.blk bx [.int .i64 (l + 1)]] := ⟨cells, rfl, by rw [if_neg (by rw [h]; decide)], by rw [if_neg (by rw [h]; decide)]; exact hr⟩
theorem B6m (bx : Nat) (e : Tm) (a b : Ty) (l : Int) (G : IM) (ce ca cb : List Value) (hl : -1000000000000 ≤ l ∧ l ≤ 1000000000000) (hre : B1 G e ce) (hra : C3 G a ca) (hrb : C3 G b cb) :
  Fn Tryz.prog 111 [.pointer (some ⟨bx, 0, none⟩), .agg ⟨ce⟩, .agg ⟨ca⟩, .agg ⟨cb⟩] [.blk bx [.int .i64 l]] G (CsP bx e a b l) := by
 have hel := hre.len
 have heo := hre.one
 have hS := A6W a b G ca cb hra hrb
 obtain ⟨v1, v2, v3, v4, v5, v6, v7, v8, v9, rfl⟩ := nine hel
 obtain ⟨ak, aks⟩ := a
 obtain ⟨bk, bks⟩ := b
 obtain ⟨pa, cca, ea, rfl, hka, _⟩ := hra.open
 obtain ⟨pb, ccb, eb, rfl, hkb, _⟩ := hrb.open
 refine C1 Tryz.func111 rfl Tryz.ntmps111 Tryz.results111 rfl ?_
 intro w0
 refine A3 ?_
 refine sE (C7 rfl rfl) rfl (fun b3 => ?_)
 refine sE (C7 rfl rfl) rfl (fun b4 => ?_)
 refine sE (C7 rfl rfl) rfl (fun b5 => ?_)
 refine sE (A7 rfl) rfl (fun b6 => ?_)
 refine B5 ?_
 refine F4 rfl (hS) rfl rfl (fun h14 => ?_) (fun h14 => ?_)
 refine B0 ?_
 refine sL (A2 rfl rfl (A9 (by repeat first | exact mH | apply mT)) hel) rfl rfl ?_
 refine sS rfl rfl rfl hel heo rfl ?_ (hu := by exact D4 hel.symm)
 refine B4 ?_
 refine H9 (outs := [.blk bx [.int .i64 _]]) (rC rfl (A5 rfl rfl)) (A0.cons (by repeat (first | exact Pk.here | apply Pk.there)) A0.nil) ?_
 (exact CsP.yes (by assumption) hre)
 refine D1 ?_
 refine sQ (Z5 rfl) rfl ?_
 refine A3 ?_
 refine sP (H5 rfl rfl (by omega) (by omega)) rfl rfl ?_
 refine sQ (Z5 rfl) rfl ?_
 refine B0 ?_
 refine E2 E4 rfl ?_
 refine L4 (i := 6) (l' := [ff,ff,ff,ff,ff,ff,tt,ff,ff,ff]) rfl D6 (A2 rfl rfl (A9 (by repeat first | exact mH | apply mT)) hel) rfl (by kernel_rfl) rfl rfl ?_
 refine aL 0 rfl (A5 rfl rfl) rfl ?_
 refine aL 1 rfl (A5 rfl rfl) rfl ?_
 refine aP 2 rfl (qM rfl) rfl ?_
 refine aP 3 rfl (Z5 rfl) rfl ?_
 refine aP 4 rfl (B9 rfl) rfl ?_
 refine aL 5 rfl (C8 rfl rfl) rfl ?_
 refine A4 7 ?_
 (refine E5 rfl (D0 rfl rfl rfl (by omega) (by unfold maxLen; omega) rfl) rfl rfl ?_; rintro _ ⟨b55, rfl⟩)
 refine aP 8 rfl (X0 rfl rfl) rfl ?_
 refine A4 9 ?_
 refine I2 rfl ?_
 refine A3 ?_
 (refine F0 (cs := [v1, v2, v3, v4, v5, v6, v7, v8, v9]) (by repeat (first | exact Pk.here | apply Pk.there)) (fun G2 hle2 hsl2 hno2 => ?_))
 refine tT ?_
 refine H9 (outs := [.blk bx [.int .i64 _]]) (rC rfl (A5 rfl rfl)) (A0.cons (by repeat (first | exact Pk.here | apply Pk.there)) A0.nil) ?_
 (exact CsP.no (by assumption) (B1.put (us := [e]) (es := [[v1, v2, v3, v4, v5, v6, v7, v8, v9]]) ⟨by decide, by decide⟩ ⟨by decide, by decide⟩ ⟨by omega, by omega⟩ (hrb.mono hle2) (hra.mono hle2) rfl (D7.of hsl2 rfl (by intro x hx; obtain rfl := List.mem_singleton.1 hx; rfl) (by intro x hx; obtain rfl := List.mem_singleton.1 hx; exact heo)) (by simp only [E1]; exact ⟨_, _, rfl, hre.mono hle2, rfl⟩)))
end Gw
end Go.Proofs.YtebfignffjhnhaaGreatDoor
