/-
  The program's evaluator: replacing a name, casts, nodes. The program's evaluator: casts, nodes, the rules without casts. The program's evaluator: the rules of casts. The program's evaluator: the rules of casts, selections and casts themselves. The program's evaluator: a step. The program's evaluator: step. The program's evaluator: StepCast, runs of steps, their results. Types are kept by steps; a closed term with a type does not get stuck, and what is blamed is a label of its casts. A term with its casts put in is valid, and has the type that the term has. Terms that hold a type. Precision of terms, on both sides. The text of a value, in plain words. The program's insertion of casts: a cast.
-/
import Derived.Test.YtfpgncjeejickaaGreatDoorKc4
import Derived.Test.YtfpgncjeejickaaGreatDoorKc1
import Derived.Test.YtfpgncjeejickaaGreatDoorKc3
import Derived.Test.YtfpgncjeejickaaGreatDoorKc2
import Derived.Lib.ItoaNum
set_option linter.unusedVariables false
set_option linter.unusedSimpArgs false
set_option maxHeartbeats 0
set_option maxRecDepth 100000
set_option synthInstance.maxSize 4000
set_option synthInstance.maxHeartbeats 0
namespace Go.Proofs.YtfpgncjeejickaaGreatDoor
open Go Go.RowKit
namespace Gw
theorem A8.put {G : IM} {k : Int} {nm : ByteArray} {num tk fk lb : Int} {tks fks : List Ty} {us : List Tm} {pt pf p : Option Addr} {ct cf n c : Nat} {es : List (List Value)} (hk : E6 k) (hnum : E6 num) (hlb : E6 lb) (hty : B7 G (.mk tk tks) [.int .i64 tk, .slice pt tks.length ct]) (hfr : B7 G (.mk fk fks) [.int .i64 fk, .slice pf fks.length cf])
  (hn : n = us.length) (hs : D0 G p n c 9 es) (hr : D7 G us es) : A8 G (.mk k nm num (.mk tk tks) (.mk fk fks) lb us) [.int .i64 k, .string nm, .int .i64 num, .int .i64 tk, .slice pt tks.length ct, .int .i64 fk, .slice pf fks.length cf, .int .i64 lb, .slice p n c] := by
 subst hn
 simp only [A8]
 exact ⟨_, _, p, c, es, rfl, hk, hnum, hlb, hty, hfr, hs, hr⟩
theorem nine {uc : List Value} (h : uc.length = 9) : ∃ v1 v2 v3 v4 v5 v6 v7 v8 v9, uc = [v1, v2, v3, v4, v5, v6, v7, v8, v9] := by
 match uc, h with
 | [a, b, c, d, e, f, g, i, j], _ => exact ⟨a, b, c, d, e, f, g, i, j, rfl⟩
theorem A26 {x : ByteArray} {v : Tm} {ks : List Tm} {i : Nat} (h : i < ks.length) : (R5 x v ks).take (i + 1) = (R5 x v ks).take i ++ [S2 x v ks[i]] := by
 rw [A4T, List.take_succ_eq_append_getElem (by rw [List.length_map]; exact h), List.getElem_map]
theorem Y8 (x : ByteArray) (v : Tm) (ks : List Tm) : (R5 x v ks).length = ks.length := by rw [A4T, List.length_map]
theorem B4k (y : ByteArray) (v : Tm) (vc : List Value) : ∀ (t : Tm) (G : IM) (cells : List Value), t.small → A8 G t cells → A8 G v vc → Fn Tryz.prog 241 [.agg ⟨cells⟩, .string y, .agg ⟨vc⟩] [] G (U2 (S2 y v t)) := by
 refine Tm.ind fun k nm num ty fr lb ks ih G cells hts hr hv => ?_
 have hr0 := hr
 obtain ⟨_, _, _, hsm, hks⟩ := A0y.1 hts
 have hvl := hv.len
 have hvo := hv.one
 have hRl := hr.len
 have hRo := hr.one
 rw [S2]
 obtain ⟨tk, tks⟩ := ty
 obtain ⟨fk, fks⟩ := fr
 obtain ⟨pt, ct, pf, cf, p, c, es, rfl, hk, hnum, hlb, hty, hfr, hsl, hkl⟩ := hr.open9
 have hn := hsl.le
 refine B2 Tryz.func241 rfl Tryz.ntmps241 Tryz.results241 rfl ?_
 intro w0
 refine tS (tR ?_)
 refine sE (B9 rfl rfl) rfl (fun b3 => ?_)
 refine sE (B9 rfl rfl) rfl (fun b4 => ?_)
 refine sE (A5 rfl) rfl (fun b5 => ?_)
 refine sD (nS (tS ?_))
 refine B4 ?_
 refine tS (tR (sQ (B1 rfl) rfl (sL (C0 rfl rfl) rfl rfl ?_)))
 refine sB (qE rfl rfl) rfl rfl (fun h14 => ?_) (fun h14 => ?_)
 refine F0 ?_
 refine sB (A1b rfl rfl) rfl rfl (fun h19 => ?_) (fun h19 => ?_)
 refine C2 ?_
 refine sL (A1 rfl rfl (A9 (by repeat first | exact mH | apply mT)) hvl) rfl rfl ?_
 refine sS rfl rfl rfl hvl hvo rfl ?_ (hu := by exact C3 hvl.symm)
 refine sD (nS (tT (rB (rS ?_))))
 refine D9 (rC rfl (A1 rfl rfl (A9 (by repeat first | exact mH | apply mT)) hvl)) ?_
 (rw [if_pos (by refine ⟨by omega, by assumption⟩)]; exact U2.mk hv)
 refine D4 ?_
 refine sP (H4 rfl rfl (by omega)) rfl rfl ?_
 refine K4 ?_
 refine sE (A5 rfl) rfl (fun b62 => ?_)
 refine V6 ?_
 refine B4 ?_
 (refine V5 28 9 ?_; refine K9 (fun (x : Nat × Option Addr × Nat × List (List Value) × IM) => ⟨[(37, .int .i64 x.1), (36, .int .i64 ks.length), (35, .slice p ks.length c), (1, .string y), (3, .pointer (some ⟨b3, 0, none⟩)), (5, .pointer (some ⟨b4, 0, none⟩)), (6, .pointer (some ⟨b5, 0, none⟩)), (7, .pointer (some ⟨b62, 0, none⟩))], [.blk b62 [.int .i64 k, .string nm, .int .i64 num, .int .i64 tk, .slice pt tks.length ct, .int .i64 fk, .slice pf fks.length cf, .int .i64 lb, .slice x.2.1 x.1 x.2.2.1], .slc x.2.1 x.2.2.1 28 9 x.1 x.2.2.2.1.flatten, .blk b5 [.int .i64 0, .string ⟨⟨[]⟩⟩, .int .i64 0, .int .i64 0, .slice none 0 0, .int .i64 0, .slice none 0 0, .int .i64 0, .slice none 0 0], .blk b4 vc, .blk b3 [.int .i64 k, .string nm, .int .i64 num, .int .i64 tk, .slice pt tks.length ct, .int .i64 fk, .slice pf fks.length cf, .int .i64 lb, .slice p ks.length c]], x.2.2.2.2⟩) (fun x => x.1 ≤ ks.length ∧ B6 G x.2.2.2.2 ∧ D7 x.2.2.2.2 ((R5 y v ks).take x.1) x.2.2.2.1) (fun x => ks.length - x.1) (0, none, 0, [], G) ?_ ?_ ?_)
 (simp only [J6]; exact D1)
 (exact ⟨Nat.zero_le _, B6.refl _, by simp [D7]⟩)
 (rintro ⟨i, pn, cn, es', Gi⟩ ⟨hi, hle, hst⟩; simp only [] at hi hle hst ⊢; replace hsl := hsl.mono hle; replace hkl := hkl.mono hle; replace hv := hv.mono hle; replace hty := hty.mono hle; replace hfr := hfr.mono hle; have hsl' := hst.len; rw [List.length_take, Y8] at hsl')
 refine tS (tR ?_)
 refine sB (K6 rfl rfl) rfl rfl (fun h88 => ?_) (fun h88 => ?_)
 refine sD (nS (tS (qT rfl (tK (nS (tS ?_))))))
 refine B4 ?_
 refine tS (tR ?_)
 (have hil : i < ks.length := (by omega); obtain ⟨bx, ox, e, rfl, hl, hat, hre, hgb⟩ := hsl.kidTm hkl (i := i) (by omega) (by omega); have hel := hre.len; have heo := hre.one; refine sP (B3 (j := i) rfl rfl rfl (by omega)) rfl rfl ?_)
 refine sL (A1 rfl rfl (hat _) hl) rfl rfl ?_
 refine sE (A5 rfl) rfl (fun b101 => ?_)
 refine sS rfl rfl rfl hel heo rfl ?_ (hu := by exact C3 hel.symm)
 refine sD (nS ?_)
 refine E1 E2 rfl ?_
 refine P9 (i := 2) (l' := [ff,ff,tt,ff,ff,ff,ff,ff,ff,ff]) rfl D5 (A1 rfl rfl (A9 (by repeat first | exact mH | apply mT)) hel) rfl (by kernel_rfl) rfl rfl ?_
 refine aL 4 rfl (A1 rfl rfl (A9 (by repeat first | exact mH | apply mT)) hvl) rfl ?_
 refine aP 0 rfl (B1 rfl) rfl ?_
 refine aL 1 rfl (C0 rfl rfl) rfl ?_
 refine aP 3 rfl (qM rfl) rfl ?_
 refine A3 5 ?_
 (refine K0 rfl rfl (ih ks[i] (List.getElem_mem (by omega)) Gi _ (Tm.smallL_mem hks _ (List.getElem_mem (by omega))) hre hv) rfl rfl rfl (fun u G1 hle1 hh => ?_); obtain ⟨uc, rfl, hru⟩ := hh; have hul := hru.len; have huo := hru.one; obtain ⟨v1, v2, v3, v4, v5, v6, v7, v8, v9, rfl⟩ := nine hul)
 refine A3 6 ?_
 (refine E4 rfl (C9 rfl rfl rfl (by omega) (by unfold maxLen; omega) rfl) rfl rfl ?_; rintro _ ⟨b114, rfl⟩)
 refine A3 7 ?_
 (refine Q5 rfl rfl rfl rfl rfl rfl (fun _ _ => by repeat (first | exact Sw.here | apply Sw.there)) (P3 (by repeat first | exact mH | apply mT)) rfl (fun u hu => List.all_eq_true.1 huo u hu) (by unfold maxLen; omega) (by omega) rfl rfl (by repeat (first | exact A6.nil | apply A6.dep (by decide +kernel) | apply A6.im (by decide +kernel) (by assumption) (by repeat first | exact mH | apply mT) | apply A6.blk (by decide +kernel) (by repeat (first | exact Pk.here | apply Pk.there)) (by repeat first | exact mH | apply mT))) (fun p7 c7 => ?_))
 refine aP 8 rfl (B1 rfl) rfl ?_
 refine A3 9 ?_
 refine R2 rfl rfl rfl rfl rfl rfl rfl rfl (by decide +kernel) (by repeat first | exact Sw.here | apply Sw.there) (by rfl) ?_
 refine C5 (M8 (nS (tR ?_)))
 refine sP (K2 rfl rfl (by omega) (by omega)) rfl rfl ?_
 refine sQ (qM rfl) rfl (sD ?_)
 refine K7 (i + 1, p7, c7, es' ++ [[v1, v2, v3, v4, v5, v6, v7, v8, v9]], G1) ?_ ?_ ?_
 (simp only [J6]; exact D1)
 (dsimp only; exact ⟨by omega, hle.trans hle1, by rw [A26 (by omega)]; exact D7.snoc (hst.mono hle1) hru⟩)
 (show ks.length - (i + 1) < ks.length - i; omega)
 refine H9 ?_
 (refine I5 (cs := es'.flatten) (by repeat (first | exact Pk.here | apply Pk.there)) (fun G2 hle2 hsl2 hno2 => ?_); obtain rfl : i = ks.length := (by omega))
 refine tT ?_
 refine D9 (rC rfl (A2 rfl rfl)) ?_
 (rw [if_neg (by rintro ⟨h1, h2⟩; first | omega | contradiction), if_neg (by rintro ⟨h1, h2⟩; first | omega | contradiction)]; rw [List.take_of_length_le (by rw [Y8]; omega)] at hst; exact U2.mk (A8.put hk hnum hlb (hty.mono hle2) (hfr.mono hle2) (by rw [Y8]) (D0.of hsl2 (by omega) hst.all (fun e he => (hst.each e he).2)) (hst.mono hle2)))
 refine J2 ?_
 refine sB (qE rfl rfl) rfl rfl (fun h164 => ?_) (fun h164 => ?_)
 refine F0 ?_
 refine sB (A1b rfl rfl) rfl rfl (fun h169 => ?_) (fun h169 => ?_)
 refine J2 ?_
 refine D9 (rC rfl (A2 rfl rfl)) ?_
 (rw [if_neg (by rintro ⟨h1, h2⟩; first | omega | contradiction), if_pos (by refine ⟨by omega, by assumption⟩)]; exact U2.mk hr0)
 refine I6 ?_
 refine sE (A5 rfl) rfl (fun b197 => ?_)
 refine V6 ?_
 refine B4 ?_
 (refine V5 28 9 ?_; refine K9 (fun (x : Nat × Option Addr × Nat × List (List Value) × IM) => ⟨[(37, .int .i64 x.1), (36, .int .i64 ks.length), (35, .slice p ks.length c), (1, .string y), (3, .pointer (some ⟨b3, 0, none⟩)), (5, .pointer (some ⟨b4, 0, none⟩)), (6, .pointer (some ⟨b5, 0, none⟩)), (7, .pointer (some ⟨b197, 0, none⟩))], [.blk b197 [.int .i64 k, .string nm, .int .i64 num, .int .i64 tk, .slice pt tks.length ct, .int .i64 fk, .slice pf fks.length cf, .int .i64 lb, .slice x.2.1 x.1 x.2.2.1], .slc x.2.1 x.2.2.1 28 9 x.1 x.2.2.2.1.flatten, .blk b5 [.int .i64 0, .string ⟨⟨[]⟩⟩, .int .i64 0, .int .i64 0, .slice none 0 0, .int .i64 0, .slice none 0 0, .int .i64 0, .slice none 0 0], .blk b4 vc, .blk b3 [.int .i64 k, .string nm, .int .i64 num, .int .i64 tk, .slice pt tks.length ct, .int .i64 fk, .slice pf fks.length cf, .int .i64 lb, .slice p ks.length c]], x.2.2.2.2⟩) (fun x => x.1 ≤ ks.length ∧ B6 G x.2.2.2.2 ∧ D7 x.2.2.2.2 ((R5 y v ks).take x.1) x.2.2.2.1) (fun x => ks.length - x.1) (0, none, 0, [], G) ?_ ?_ ?_)
 (simp only [J6]; exact D1)
 (exact ⟨Nat.zero_le _, B6.refl _, by simp [D7]⟩)
 (rintro ⟨i, pn, cn, es', Gi⟩ ⟨hi, hle, hst⟩; simp only [] at hi hle hst ⊢; replace hsl := hsl.mono hle; replace hkl := hkl.mono hle; replace hv := hv.mono hle; replace hty := hty.mono hle; replace hfr := hfr.mono hle; have hsl' := hst.len; rw [List.length_take, Y8] at hsl')
 refine tS (tR ?_)
 refine sB (K6 rfl rfl) rfl rfl (fun h223 => ?_) (fun h223 => ?_)
 refine sD (nS (tS (qT rfl (tK (nS (tS ?_))))))
 refine B4 ?_
 refine tS (tR ?_)
 (have hil : i < ks.length := (by omega); obtain ⟨bx, ox, e, rfl, hl, hat, hre, hgb⟩ := hsl.kidTm hkl (i := i) (by omega) (by omega); have hel := hre.len; have heo := hre.one; refine sP (B3 (j := i) rfl rfl rfl (by omega)) rfl rfl ?_)
 refine sL (A1 rfl rfl (hat _) hl) rfl rfl ?_
 refine sE (A5 rfl) rfl (fun b236 => ?_)
 refine sS rfl rfl rfl hel heo rfl ?_ (hu := by exact C3 hel.symm)
 refine sD (nS ?_)
 refine E1 E2 rfl ?_
 refine P9 (i := 2) (l' := [ff,ff,tt,ff,ff,ff,ff,ff,ff,ff]) rfl D5 (A1 rfl rfl (A9 (by repeat first | exact mH | apply mT)) hel) rfl (by kernel_rfl) rfl rfl ?_
 refine aL 4 rfl (A1 rfl rfl (A9 (by repeat first | exact mH | apply mT)) hvl) rfl ?_
 refine aP 0 rfl (B1 rfl) rfl ?_
 refine aL 1 rfl (C0 rfl rfl) rfl ?_
 refine aP 3 rfl (qM rfl) rfl ?_
 refine A3 5 ?_
 (refine K0 rfl rfl (ih ks[i] (List.getElem_mem (by omega)) Gi _ (Tm.smallL_mem hks _ (List.getElem_mem (by omega))) hre hv) rfl rfl rfl (fun u G1 hle1 hh => ?_); obtain ⟨uc, rfl, hru⟩ := hh; have hul := hru.len; have huo := hru.one; obtain ⟨v1, v2, v3, v4, v5, v6, v7, v8, v9, rfl⟩ := nine hul)
 refine A3 6 ?_
 (refine E4 rfl (C9 rfl rfl rfl (by omega) (by unfold maxLen; omega) rfl) rfl rfl ?_; rintro _ ⟨b249, rfl⟩)
 refine A3 7 ?_
 (refine Q5 rfl rfl rfl rfl rfl rfl (fun _ _ => by repeat (first | exact Sw.here | apply Sw.there)) (P3 (by repeat first | exact mH | apply mT)) rfl (fun u hu => List.all_eq_true.1 huo u hu) (by unfold maxLen; omega) (by omega) rfl rfl (by repeat (first | exact A6.nil | apply A6.dep (by decide +kernel) | apply A6.im (by decide +kernel) (by assumption) (by repeat first | exact mH | apply mT) | apply A6.blk (by decide +kernel) (by repeat (first | exact Pk.here | apply Pk.there)) (by repeat first | exact mH | apply mT))) (fun p7 c7 => ?_))
 refine aP 8 rfl (B1 rfl) rfl ?_
 refine A3 9 ?_
 refine R2 rfl rfl rfl rfl rfl rfl rfl rfl (by decide +kernel) (by repeat first | exact Sw.here | apply Sw.there) (by rfl) ?_
 refine C5 (M8 (nS (tR ?_)))
 refine sP (K2 rfl rfl (by omega) (by omega)) rfl rfl ?_
 refine sQ (qM rfl) rfl (sD ?_)
 refine K7 (i + 1, p7, c7, es' ++ [[v1, v2, v3, v4, v5, v6, v7, v8, v9]], G1) ?_ ?_ ?_
 (simp only [J6]; exact D1)
 (dsimp only; exact ⟨by omega, hle.trans hle1, by rw [A26 (by omega)]; exact D7.snoc (hst.mono hle1) hru⟩)
 (show ks.length - (i + 1) < ks.length - i; omega)
 refine H9 ?_
 (refine I5 (cs := es'.flatten) (by repeat (first | exact Pk.here | apply Pk.there)) (fun G2 hle2 hsl2 hno2 => ?_); obtain rfl : i = ks.length := (by omega))
 refine tT ?_
 refine D9 (rC rfl (A2 rfl rfl)) ?_
 (rw [if_neg (by rintro ⟨h1, h2⟩; first | omega | contradiction), if_neg (by rintro ⟨h1, h2⟩; first | omega | contradiction)]; rw [List.take_of_length_le (by rw [Y8]; omega)] at hst; exact U2.mk (A8.put hk hnum hlb (hty.mono hle2) (hfr.mono hle2) (by rw [Y8]) (D0.of hsl2 (by omega) hst.all (fun e he => (hst.each e he).2)) (hst.mono hle2)))
 refine K4 ?_
 refine sE (A5 rfl) rfl (fun b301 => ?_)
 refine V6 ?_
 refine B4 ?_
 (refine V5 28 9 ?_; refine K9 (fun (x : Nat × Option Addr × Nat × List (List Value) × IM) => ⟨[(37, .int .i64 x.1), (36, .int .i64 ks.length), (35, .slice p ks.length c), (1, .string y), (3, .pointer (some ⟨b3, 0, none⟩)), (5, .pointer (some ⟨b4, 0, none⟩)), (6, .pointer (some ⟨b5, 0, none⟩)), (7, .pointer (some ⟨b301, 0, none⟩))], [.blk b301 [.int .i64 k, .string nm, .int .i64 num, .int .i64 tk, .slice pt tks.length ct, .int .i64 fk, .slice pf fks.length cf, .int .i64 lb, .slice x.2.1 x.1 x.2.2.1], .slc x.2.1 x.2.2.1 28 9 x.1 x.2.2.2.1.flatten, .blk b5 [.int .i64 0, .string ⟨⟨[]⟩⟩, .int .i64 0, .int .i64 0, .slice none 0 0, .int .i64 0, .slice none 0 0, .int .i64 0, .slice none 0 0], .blk b4 vc, .blk b3 [.int .i64 k, .string nm, .int .i64 num, .int .i64 tk, .slice pt tks.length ct, .int .i64 fk, .slice pf fks.length cf, .int .i64 lb, .slice p ks.length c]], x.2.2.2.2⟩) (fun x => x.1 ≤ ks.length ∧ B6 G x.2.2.2.2 ∧ D7 x.2.2.2.2 ((R5 y v ks).take x.1) x.2.2.2.1) (fun x => ks.length - x.1) (0, none, 0, [], G) ?_ ?_ ?_)
 (simp only [J6]; exact D1)
 (exact ⟨Nat.zero_le _, B6.refl _, by simp [D7]⟩)
 (rintro ⟨i, pn, cn, es', Gi⟩ ⟨hi, hle, hst⟩; simp only [] at hi hle hst ⊢; replace hsl := hsl.mono hle; replace hkl := hkl.mono hle; replace hv := hv.mono hle; replace hty := hty.mono hle; replace hfr := hfr.mono hle; have hsl' := hst.len; rw [List.length_take, Y8] at hsl')
 refine tS (tR ?_)
 refine sB (K6 rfl rfl) rfl rfl (fun h327 => ?_) (fun h327 => ?_)
 refine sD (nS (tS (qT rfl (tK (nS (tS ?_))))))
 refine B4 ?_
 refine tS (tR ?_)
 (have hil : i < ks.length := (by omega); obtain ⟨bx, ox, e, rfl, hl, hat, hre, hgb⟩ := hsl.kidTm hkl (i := i) (by omega) (by omega); have hel := hre.len; have heo := hre.one; refine sP (B3 (j := i) rfl rfl rfl (by omega)) rfl rfl ?_)
 refine sL (A1 rfl rfl (hat _) hl) rfl rfl ?_
 refine sE (A5 rfl) rfl (fun b340 => ?_)
 refine sS rfl rfl rfl hel heo rfl ?_ (hu := by exact C3 hel.symm)
 refine sD (nS ?_)
 refine E1 E2 rfl ?_
 refine P9 (i := 2) (l' := [ff,ff,tt,ff,ff,ff,ff,ff,ff,ff]) rfl D5 (A1 rfl rfl (A9 (by repeat first | exact mH | apply mT)) hel) rfl (by kernel_rfl) rfl rfl ?_
 refine aL 4 rfl (A1 rfl rfl (A9 (by repeat first | exact mH | apply mT)) hvl) rfl ?_
 refine aP 0 rfl (B1 rfl) rfl ?_
 refine aL 1 rfl (C0 rfl rfl) rfl ?_
 refine aP 3 rfl (qM rfl) rfl ?_
 refine A3 5 ?_
 (refine K0 rfl rfl (ih ks[i] (List.getElem_mem (by omega)) Gi _ (Tm.smallL_mem hks _ (List.getElem_mem (by omega))) hre hv) rfl rfl rfl (fun u G1 hle1 hh => ?_); obtain ⟨uc, rfl, hru⟩ := hh; have hul := hru.len; have huo := hru.one; obtain ⟨v1, v2, v3, v4, v5, v6, v7, v8, v9, rfl⟩ := nine hul)
 refine A3 6 ?_
 (refine E4 rfl (C9 rfl rfl rfl (by omega) (by unfold maxLen; omega) rfl) rfl rfl ?_; rintro _ ⟨b353, rfl⟩)
 refine A3 7 ?_
 (refine Q5 rfl rfl rfl rfl rfl rfl (fun _ _ => by repeat (first | exact Sw.here | apply Sw.there)) (P3 (by repeat first | exact mH | apply mT)) rfl (fun u hu => List.all_eq_true.1 huo u hu) (by unfold maxLen; omega) (by omega) rfl rfl (by repeat (first | exact A6.nil | apply A6.dep (by decide +kernel) | apply A6.im (by decide +kernel) (by assumption) (by repeat first | exact mH | apply mT) | apply A6.blk (by decide +kernel) (by repeat (first | exact Pk.here | apply Pk.there)) (by repeat first | exact mH | apply mT))) (fun p7 c7 => ?_))
 refine aP 8 rfl (B1 rfl) rfl ?_
 refine A3 9 ?_
 refine R2 rfl rfl rfl rfl rfl rfl rfl rfl (by decide +kernel) (by repeat first | exact Sw.here | apply Sw.there) (by rfl) ?_
 refine C5 (M8 (nS (tR ?_)))
 refine sP (K2 rfl rfl (by omega) (by omega)) rfl rfl ?_
 refine sQ (qM rfl) rfl (sD ?_)
 refine K7 (i + 1, p7, c7, es' ++ [[v1, v2, v3, v4, v5, v6, v7, v8, v9]], G1) ?_ ?_ ?_
 (simp only [J6]; exact D1)
 (dsimp only; exact ⟨by omega, hle.trans hle1, by rw [A26 (by omega)]; exact D7.snoc (hst.mono hle1) hru⟩)
 (show ks.length - (i + 1) < ks.length - i; omega)
 refine H9 ?_
 (refine I5 (cs := es'.flatten) (by repeat (first | exact Pk.here | apply Pk.there)) (fun G2 hle2 hsl2 hno2 => ?_); obtain rfl : i = ks.length := (by omega))
 refine tT ?_
 refine D9 (rC rfl (A2 rfl rfl)) ?_
 (rw [if_neg (by rintro ⟨h1, h2⟩; first | omega | contradiction), if_neg (by rintro ⟨h1, h2⟩; first | omega | contradiction)]; rw [List.take_of_length_le (by rw [Y8]; omega)] at hst; exact U2.mk (A8.put hk hnum hlb (hty.mono hle2) (hfr.mono hle2) (by rw [Y8]) (D0.of hsl2 (by omega) hst.all (fun e he => (hst.each e he).2)) (hst.mono hle2)))
theorem A1r (e : Tm) (a b : Ty) (l : Int) (G : IM) (ce ca cb : List Value) (hl : E6 l) (he : A8 G e ce) (ha : B7 G a ca) (hb : B7 G b cb) : Fn Tryz.prog 148 [.agg ⟨ce⟩, .agg ⟨ca⟩, .agg ⟨cb⟩, .int .i64 l] [] G (U2 (O7 e a b l)) := by
 have hel := he.len
 have heo := he.one
 obtain ⟨v1, v2, v3, v4, v5, v6, v7, v8, v9, rfl⟩ := nine hel
 obtain ⟨ak, aks⟩ := a
 obtain ⟨bk, bks⟩ := b
 obtain ⟨pa, cca, ea, rfl, _⟩ := ha.open
 obtain ⟨pb, ccb, eb, rfl, _⟩ := hb.open
 refine B2 Tryz.func148 rfl Tryz.ntmps148 Tryz.results148 rfl ?_
 intro w0
 refine tS (tR ?_)
 refine sE (B9 rfl rfl) rfl (fun b3 => ?_)
 refine sE (B9 rfl rfl) rfl (fun b4 => ?_)
 refine sE (B9 rfl rfl) rfl (fun b5 => ?_)
 refine sE (A5 rfl) rfl (fun b6 => ?_)
 refine sD (nS (tS (tR ?_)))
 refine sL (A1 rfl rfl (A9 (by repeat first | exact mH | apply mT)) rfl) rfl rfl ?_
 refine sL (A1 rfl rfl (A9 (by repeat first | exact mH | apply mT)) rfl) rfl rfl ?_
 refine sQ (qM rfl) rfl ?_
 refine sL (A1 rfl rfl (A9 (by repeat first | exact mH | apply mT)) rfl) rfl rfl ?_
 (refine L9 (C9 rfl rfl rfl (by omega) (by unfold maxLen; omega) rfl) rfl ?_; rintro _ ⟨b15, rfl⟩)
 refine sQ (W1 rfl rfl) rfl (F9 ?_)
 refine sD (nS ?_)
 (refine I5 (cs := [v1, v2, v3, v4, v5, v6, v7, v8, v9]) (by repeat (first | exact Pk.here | apply Pk.there)) (fun G2 hle2 hsl2 hno2 => ?_))
 refine tT ?_
 refine D9 (rC rfl (A2 rfl rfl)) ?_
 (exact U2.mk (A8.put (us := [e]) (es := [[v1, v2, v3, v4, v5, v6, v7, v8, v9]]) ⟨by decide, by decide⟩ ⟨by decide, by decide⟩ hl (hb.mono hle2) (ha.mono hle2) rfl (D0.of hsl2 rfl (by intro x hx; obtain rfl := List.mem_singleton.1 hx; rfl) (by intro x hx; obtain rfl := List.mem_singleton.1 hx; exact heo)) (by simp only [D7]; exact ⟨_, _, rfl, he.mono hle2, rfl⟩)))
theorem A27 (k : Int) (p : Option Addr) (n c : Nat) (G : IM) : Fn Tryz.prog 243 [.int .i64 k, .slice p n c] [] G (H0 (.agg ⟨[.int .i64 k, .string ⟨⟨[]⟩⟩, .int .i64 0, .int .i64 0, .slice none 0 0, .int .i64 0, .slice none 0 0, .int .i64 0, .slice p n c]⟩) G) := by
 refine B2 Tryz.func243 rfl Tryz.ntmps243 Tryz.results243 rfl ?_
 intro w0
 refine tS (tR ?_)
 refine sE (A5 rfl) rfl (fun b3 => ?_)
 refine I6 ?_
 refine D9 (rC rfl (A2 rfl rfl)) ?_
 (exact ⟨rfl, rfl, rfl⟩)
theorem A5b (G : IM) {k : Int} (hk : E6 k) : A8 G (A0t k []) [.int .i64 k, .string ⟨⟨[]⟩⟩, .int .i64 0, .int .i64 0, .slice none 0 0, .int .i64 0, .slice none 0 0, .int .i64 0, .slice none 0 0] := A32 hk rfl (D0.nil _ _) rfl
theorem B4l (G : IM) : Fn Tryz.prog 242 [.bool true] [] G (U2 (W8 (true = true))) := by
 refine B2 Tryz.func242 rfl Tryz.ntmps242 Tryz.results242 rfl ?_
 intro w0
 refine tS (tR ?_)
 refine sE (A5 rfl) rfl (fun b3 => ?_)
 refine I6 ?_
 refine H3 rfl ((A27 _ _ _ _ _)) rfl rfl ?_
 refine F9 ?_
 refine sD (nS (tT (rS ?_)))
 refine D9 (rC rfl (A2 rfl rfl)) ?_
 (exact U2.mk (A5b _ ⟨by decide, by decide⟩))
theorem B4m (G : IM) : Fn Tryz.prog 242 [.bool false] [] G (U2 (W8 (false = true))) := by
 refine B2 Tryz.func242 rfl Tryz.ntmps242 Tryz.results242 rfl ?_
 intro w0
 refine tS (tR ?_)
 refine sE (A5 rfl) rfl (fun b3 => ?_)
 refine J9 ?_
 refine H3 rfl ((A27 _ _ _ _ _)) rfl rfl ?_
 refine F9 ?_
 refine sD (nS (tT ?_))
 refine D9 (rC rfl (A2 rfl rfl)) ?_
 (exact U2.mk (A5b _ ⟨by decide, by decide⟩))
theorem A9z (b : Bool) (G : IM) : Fn Tryz.prog 242 [.bool b] [] G (U2 (W8 (b = true))) := by
 cases b
 ·exact B4m G
 ·exact B4l G
theorem A9A {a b : Int} (h : 0 ≤ a ∧ a ≤ 999) (h' : 0 ≤ b ∧ b ≤ 999) : (a + b).tmod 1000 = (a + b) % 1000 := by
 rw [Int.tmod_eq_emod_of_nonneg (by omega)]
def P2 (k : Int) (ks : List Tm) : Option Tm :=
 if k = 6 then (if (kd ks 0).k = 5 then some (S2 (kd ks 0).nm (kd ks 1) (kd (kd ks 0).ks 0)) else none)
 else if k = 7 ∨ k = 8 then (if (kd ks 0).k = 2 ∧ (kd ks 1).k = 2 then some (if k = 7 then A1N (((kd ks 0).num + (kd ks 1).num) % 1000) else W8 ((kd ks 0).num < (kd ks 1).num)) else none)
 else if k = 9 then (if (kd ks 0).k = 3 then some (kd ks 1) else if (kd ks 0).k = 4 then some (kd ks 2) else none)
 else if k = 11 ∨ k = 12 then (if (kd ks 0).k = 10 then some (kd (kd ks 0).ks (k - 11).toNat) else none)
 else none
def R9 (o : Option Tm) : IM → Value → List A4 → Prop := L5 fun G' v => ∃ u cells c, v = .tuple ⟨[.agg ⟨cells⟩, .int .i64 c]⟩ ∧ A8 G' u cells ∧ (∀ x, o = some x → c = 1 ∧ u = x) ∧ (o = none → c = 3)
theorem R9.yes {G : IM} {o : Option Tm} {u : Tm} {cells : List Value} (h : o = some u) (hr : A8 G u cells) : R9 o G (.tuple ⟨[.agg ⟨cells⟩, .int .i64 1]⟩) [] := by
 subst h; exact ⟨rfl, u, cells, 1, rfl, hr, fun x hx => (by cases hx; exact ⟨rfl, rfl⟩), fun h => (by cases h)⟩
theorem R9.no {G : IM} {o : Option Tm} {u : Tm} {cells : List Value} (h : o = none) (hr : A8 G u cells) : R9 o G (.tuple ⟨[.agg ⟨cells⟩, .int .i64 3]⟩) [] := by
 subst h; exact ⟨rfl, u, cells, 3, rfl, hr, fun x hx => (by cases hx), fun _ => rfl⟩
theorem L7 (G : IM) : A8 G F4 [.int .i64 0, .string ⟨⟨[]⟩⟩, .int .i64 0, .int .i64 0, .slice none 0 0, .int .i64 0, .slice none 0 0, .int .i64 0, .slice none 0 0] := (O5.zero G).R
theorem B4n (a b : Tm) (nm : ByteArray) (num : Int) (ty fr : Ty) (lb : Int) (G : IM) (cells : List Value) (hca : cv a) (hr : A8 G (.mk 6 nm num ty fr lb [a, b]) cells) : Fn Tryz.prog 220 [.agg ⟨cells⟩] [] G (R9 (P2 6 [a, b])) := by
 have hsm := A12 a hca
 obtain ⟨ak, anm, anum, ⟨atk, atks⟩, ⟨afk, afks⟩, alb, aks⟩ := a
 obtain ⟨tk, tks⟩ := ty
 obtain ⟨fk, fks⟩ := fr
 obtain ⟨pt, ct, pf, cf, p, c, es, rfl, hk, hnum, hlb, hty, hfr, hsl, hkl⟩ := hr.open9
 obtain ⟨bx, ox, e0, rfl, hl0, hat0, hre0, hgb0⟩ := hsl.kidTm hkl (i := 0) (by simp) (by simp)
 replace hre0 : A8 G (.mk ak anm anum (.mk atk atks) (.mk afk afks) alb aks) e0 := hre0
 obtain ⟨apt, act, apf, acf, ap, ac, aes, rfl, hak, hanum, halb, haty, hafr, hasl, hakl⟩ := hre0.open9
 obtain ⟨_, _, e1, hp1, hl1, hat1, hre1, hgb1⟩ := hsl.kidTm hkl (i := 1) (by simp) (by simp)
 cases hp1
 replace hre1 : A8 G b e1 := hre1
 have ho1 := hre1.one
 obtain ⟨hN, _⟩ := hca.node
 have hops := hN.ops
 obtain ⟨_, _, _, _, hksm⟩ := A0y.1 hsm
 have h1 : ak = 5 → aks.length = 1 := fun h => by rw [h] at hops; have : C7 5 = 1 := rfl; omega
 have hL : ([Tm.mk ak anm anum (.mk atk atks) (.mk afk afks) alb aks, b] : List Tm).length = 2 := rfl
 rw [show P2 6 [Tm.mk ak anm anum (.mk atk atks) (.mk afk afks) alb aks, b] = (if ak = 5 then some (S2 anm b (kd aks 0)) else none) from rfl]
 refine B2 Tryz.func220 rfl Tryz.ntmps220 Tryz.results220 rfl ?_
 intro w0
 refine tS (tR ?_)
 refine sE (B9 rfl rfl) rfl (fun b3 => ?_)
 refine sE (A5 rfl) rfl (fun b4 => ?_)
 refine J8 ?_
 refine sE (A5 rfl) rfl (fun b11 => ?_)
 refine D4 ?_
 refine sP (A3s rfl rfl (by omega)) rfl rfl ?_
 refine J8 ?_
 refine sP (B3 (j := 0) rfl rfl rfl (by simp)) rfl rfl ?_
 refine sL (A1 rfl rfl (hat0 _) rfl) rfl rfl ?_
 refine I9 ?_
 refine B4 ?_
 refine tS (tR ?_)
 refine sP (T5 rfl rfl (by omega)) rfl rfl ?_
 refine D3 ?_
 refine sB (qE rfl rfl) rfl rfl (fun h52 => ?_) (fun h52 => ?_)
 refine sD (nS (qT rfl (tS ?_)))
 (have hq : ak = 5 := (by omega); have hq1 := h1 hq; obtain ⟨bq, oq, e3, rfl, hl3, hat3, hre3, hgb3⟩ := hasl.kidTm hakl (i := 0) (by omega) (by omega); have hS := B4k anm b e1 aks[0] G e3 (Tm.smallL_mem hksm _ (List.getElem_mem (by omega))) hre3 hre1; refine E1 E2 rfl ?_)
 refine J5 (i := 0) (l' := [tt,ff,ff,ff,ff,ff,ff,ff,ff,ff,ff,ff,ff]) rfl D5 (B1 rfl) rfl (by kernel_rfl) rfl rfl ?_
 refine aL 1 rfl (C0 rfl rfl) rfl ?_
 refine aP 2 rfl (B3 (j := 0) rfl rfl rfl (by omega)) rfl ?_
 refine aL 3 rfl (A1 rfl rfl (hat3 _) hl3) rfl ?_
 refine aP 4 rfl (B1 rfl) rfl ?_
 refine aL 5 rfl (C0 rfl rfl) rfl ?_
 refine aP 6 rfl (B1 rfl) rfl ?_
 refine aL 7 rfl (C0 rfl rfl) rfl ?_
 refine aP 8 rfl (B3 (j := 1) rfl rfl rfl (by simp)) rfl ?_
 refine aL 9 rfl (A1 rfl rfl (hat1 _) hl1) rfl ?_
 refine A3 10 ?_
 (refine K0 rfl rfl hS rfl rfl rfl (fun u G1 hle1 hh => ?_); obtain ⟨uc, rfl, hru⟩ := hh; have hul := hru.len; have huo := hru.one)
 refine A3 11 ?_
 (refine oS rfl rfl rfl rfl hul huo rfl rfl ?_ (hu := by exact C3 hul.symm))
 refine aP 12 rfl (qA rfl) rfl ?_
 refine C5 (nS (tT (rB (rS ?_))))
 refine I2 (rC rfl (A1 rfl rfl (A9 (by repeat first | exact mH | apply mT)) hul)) (rT rfl) ?_
 (exact R9.yes (by rw [if_pos (by omega)]; unfold kd; rw [List.getD_eq_getElem?_getD, List.getElem?_eq_getElem (by omega), Option.getD_some]) hru)
 refine J2 ?_
 refine I2 (rC rfl (A2 rfl rfl)) (rT rfl) ?_
 (exact R9.no (by rw [if_neg (by omega)]) (L7 _))
theorem A9B (k : Int) (a b : Tm) (nm : ByteArray) (num : Int) (ty fr : Ty) (lb : Int) (G : IM) (cells : List Value) (hk78 : k = 7 ∨ k = 8) (hca : cv a) (hcb : cv b) (hr : A8 G (.mk k nm num ty fr lb [a, b]) cells) : Fn Tryz.prog 220 [.agg ⟨cells⟩] [] G (R9 (P2 k [a, b])) := by
 obtain ⟨ak, anm, anum, ⟨atk, atks⟩, ⟨afk, afks⟩, alb, aks⟩ := a
 obtain ⟨tk, tks⟩ := ty
 obtain ⟨fk, fks⟩ := fr
 obtain ⟨pt, ct, pf, cf, p, c, es, rfl, hk, hnum, hlb, hty, hfr, hsl, hkl⟩ := hr.open9
 obtain ⟨bx, ox, e0, rfl, hl0, hat0, hre0, hgb0⟩ := hsl.kidTm hkl (i := 0) (by simp) (by simp)
 replace hre0 : A8 G (.mk ak anm anum (.mk atk atks) (.mk afk afks) alb aks) e0 := hre0
 obtain ⟨apt, act, apf, acf, ap, ac, aes, rfl, hak, hanum, halb, haty, hafr, hasl, hakl⟩ := hre0.open9
 obtain ⟨bk, bnm, bnum, ⟨btk, btks⟩, ⟨bfk, bfks⟩, blb, bks⟩ := b
 obtain ⟨_, _, e1, hp1, hl1, hat1, hre1, hgb1⟩ := hsl.kidTm hkl (i := 1) (by simp) (by simp)
 cases hp1
 replace hre1 : A8 G (.mk bk bnm bnum (.mk btk btks) (.mk bfk bfks) blb bks) e1 := hre1
 obtain ⟨bpt, bct, bpf, bcf, bp, bc, bes, rfl, hbk, hbnum, hblb, hbty, hbfr, hbsl, hbkl⟩ := hre1.open9
 obtain ⟨hN, _⟩ := hca.node
 obtain ⟨hM, _⟩ := hcb.node
 obtain ⟨hn1, hn2⟩ := hN.num0
 obtain ⟨hm1, hm2⟩ := hM.num0
 have hL : ([Tm.mk ak anm anum (.mk atk atks) (.mk afk afks) alb aks, Tm.mk bk bnm bnum (.mk btk btks) (.mk bfk bfks) blb bks] : List Tm).length = 2 := rfl
 have hR : P2 k [Tm.mk ak anm anum (.mk atk atks) (.mk afk afks) alb aks, Tm.mk bk bnm bnum (.mk btk btks) (.mk bfk bfks) blb bks] = (if ak = 2 ∧ bk = 2 then some (if k = 7 then A1N ((anum + bnum) % 1000) else W8 (anum < bnum)) else none) := by
  unfold P2; rw [if_neg (by omega), if_pos hk78]; rfl
 rw [hR]
 have htm : (anum + bnum).tmod 1000 = (anum + bnum) % 1000 := A9A ⟨hn1, hn2⟩ ⟨hm1, hm2⟩
 have hb : E6 ((anum + bnum) % 1000) := ⟨by omega, by omega⟩
 refine B2 Tryz.func220 rfl Tryz.ntmps220 Tryz.results220 rfl ?_
 intro w0
 refine tS (tR ?_)
 refine sE (B9 rfl rfl) rfl (fun b3 => ?_)
 refine sE (A5 rfl) rfl (fun b4 => ?_)
 refine J8 ?_
 refine sE (A5 rfl) rfl (fun b11 => ?_)
 refine D4 ?_
 refine sP (A3s rfl rfl (by omega)) rfl rfl ?_
 refine J8 ?_
 refine sP (B3 (j := 0) rfl rfl rfl (by simp)) rfl rfl ?_
 refine sL (A1 rfl rfl (hat0 _) rfl) rfl rfl ?_
 refine I9 ?_
 refine B4 ?_
 refine tS (tR ?_)
 refine sP (H4 rfl rfl (by omega)) rfl rfl ?_
 refine sQ (qA rfl) rfl (sD (nS (cF rfl (tS (tS (tR ?_))))))
 refine sB (qE rfl rfl) rfl rfl (fun h51 => ?_) (fun h51 => ?_)
 refine I6 ?_
 refine sP (B3 (j := 1) rfl rfl rfl (by simp)) rfl rfl ?_
 refine sL (A1 rfl rfl (hat1 _) rfl) rfl rfl ?_
 refine sE (A5 rfl) rfl (fun b65 => ?_)
 refine F9 ?_
 refine sD (nS ?_)
 refine B4 ?_
 refine tS (tR (sQ (B1 rfl) rfl (sL (C0 rfl rfl) rfl rfl ?_)))
 refine sB (M7 rfl rfl) rfl rfl (fun h74 => ?_) (fun h74 => ?_)
 refine A0D ?_
 refine I2 (rC rfl (A2 rfl rfl)) (rT rfl) ?_
 (exact R9.no (by rw [if_neg (by omega)]) (L7 _))
 refine K3 ?_
 refine sB (M7 rfl rfl) rfl rfl (fun h101 => ?_) (fun h101 => ?_)
 refine T0 ?_
 refine I2 (rC rfl (A2 rfl rfl)) (rT rfl) ?_
 (exact R9.no (by rw [if_neg (by omega)]) (L7 _))
 refine D4 ?_
 refine sP (T5 rfl rfl (by omega)) rfl rfl ?_
 refine I9 ?_
 refine sP (K2 rfl rfl (by omega) (by omega)) rfl rfl ?_
 refine sP (A3r rfl rfl (by omega)) rfl rfl ?_
 refine sQ (W1 rfl rfl) rfl ?_
 (rw [htm]; refine F9 ?_)
 refine sQ (qA rfl) rfl (sD (nS (tT (rB (rB (rS ?_))))))
 refine I2 (rC rfl (A2 rfl rfl)) (rT rfl) ?_
 (exact R9.yes (u := A1N (HMod.hMod (anum + bnum) 1000)) (by rw [if_pos ⟨by omega, by omega⟩, if_pos (by omega)]) (A8.put (us := []) ⟨by decide, by decide⟩ hb ⟨by decide, by decide⟩ (A1l _) (A1l _) rfl (D0.nil _ _) rfl))
 refine sQ (qA rfl) rfl (sD (nS (cF rfl (tR ?_))))
 refine sP (T5 rfl rfl (by omega)) rfl rfl ?_
 refine D3 ?_
 refine sP (B3 (j := 1) rfl rfl rfl (by simp)) rfl rfl ?_
 refine sL (A1 rfl rfl (hat1 _) rfl) rfl rfl ?_
 refine sE (A5 rfl) rfl (fun b170 => ?_)
 refine F9 ?_
 refine sD (nS ?_)
 refine B4 ?_
 refine tS (tR (sQ (B1 rfl) rfl (sL (C0 rfl rfl) rfl rfl ?_)))
 refine sB (M7 rfl rfl) rfl rfl (fun h179 => ?_) (fun h179 => ?_)
 refine A0D ?_
 refine I2 (rC rfl (A2 rfl rfl)) (rT rfl) ?_
 (exact R9.no (by rw [if_neg (by omega)]) (L7 _))
 refine K3 ?_
 refine sB (M7 rfl rfl) rfl rfl (fun h206 => ?_) (fun h206 => ?_)
 refine T0 ?_
 refine I2 (rC rfl (A2 rfl rfl)) (rT rfl) ?_
 (exact R9.no (by rw [if_neg (by omega)]) (L7 _))
 refine D4 ?_
 refine sP (H4 rfl rfl (by omega)) rfl rfl ?_
 refine I9 ?_
 (refine sB (K6 rfl rfl) rfl rfl (fun h246 => ?_) (fun h246 => ?_))
 (refine E0 rfl (A9z _ _) rfl rfl (fun u G1 hle1 hh => ?_); obtain ⟨uc, rfl, hru⟩ := hh; have hul := hru.len; have huo := hru.one)
 refine sS rfl rfl rfl hul huo rfl ?_ (hu := by exact C3 hul.symm)
 refine sQ (qA rfl) rfl (sD (nS (tT (rB (rB (rS ?_))))))
 refine I2 (rC rfl (A1 rfl rfl (A9 (by repeat first | exact mH | apply mT)) hul)) (rT rfl) ?_
 (exact R9.yes (by rw [if_pos ⟨by omega, by omega⟩, if_neg (by omega)]; unfold W8; rw [if_pos (by omega), if_pos rfl]) hru)
 (refine E0 rfl (A9z _ _) rfl rfl (fun u G1 hle1 hh => ?_); obtain ⟨uc, rfl, hru⟩ := hh; have hul := hru.len; have huo := hru.one)
 refine sS rfl rfl rfl hul huo rfl ?_ (hu := by exact C3 hul.symm)
 refine sQ (qA rfl) rfl (sD (nS (tT (rB (rB (rS ?_))))))
 refine I2 (rC rfl (A1 rfl rfl (A9 (by repeat first | exact mH | apply mT)) hul)) (rT rfl) ?_
 (exact R9.yes (by rw [if_pos ⟨by omega, by omega⟩, if_neg (by omega)]; unfold W8; rw [if_neg (by omega), if_neg (by decide)]) hru)
theorem B4o (a b c0 : Tm) (nm : ByteArray) (num : Int) (ty fr : Ty) (lb : Int) (G : IM) (cells : List Value) (hr : A8 G (.mk 9 nm num ty fr lb [a, b, c0]) cells) : Fn Tryz.prog 220 [.agg ⟨cells⟩] [] G (R9 (P2 9 [a, b, c0])) := by
 obtain ⟨ak, anm, anum, ⟨atk, atks⟩, ⟨afk, afks⟩, alb, aks⟩ := a
 obtain ⟨tk, tks⟩ := ty
 obtain ⟨fk, fks⟩ := fr
 obtain ⟨pt, ct, pf, cf, p, c, es, rfl, hk, hnum, hlb, hty, hfr, hsl, hkl⟩ := hr.open9
 obtain ⟨bx, ox, e0, rfl, hl0, hat0, hre0, hgb0⟩ := hsl.kidTm hkl (i := 0) (by simp) (by simp)
 replace hre0 : A8 G (.mk ak anm anum (.mk atk atks) (.mk afk afks) alb aks) e0 := hre0
 obtain ⟨apt, act, apf, acf, ap, ac, aes, rfl, hak, hanum, halb, haty, hafr, hasl, hakl⟩ := hre0.open9
 obtain ⟨_, _, e1, hp1, hl1, hat1, hre1, hgb1⟩ := hsl.kidTm hkl (i := 1) (by simp) (by simp)
 cases hp1
 replace hre1 : A8 G b e1 := hre1
 have ho1 := hre1.one
 obtain ⟨_, _, e2, hp2, hl2, hat2, hre2, hgb2⟩ := hsl.kidTm hkl (i := 2) (by simp) (by simp)
 cases hp2
 replace hre2 : A8 G c0 e2 := hre2
 have ho2 := hre2.one
 have hL : ([Tm.mk ak anm anum (.mk atk atks) (.mk afk afks) alb aks, b, c0] : List Tm).length = 3 := rfl
 rw [show P2 9 [Tm.mk ak anm anum (.mk atk atks) (.mk afk afks) alb aks, b, c0] = (if ak = 3 then some b else if ak = 4 then some c0 else none) from rfl]
 refine B2 Tryz.func220 rfl Tryz.ntmps220 Tryz.results220 rfl ?_
 intro w0
 refine tS (tR ?_)
 refine sE (B9 rfl rfl) rfl (fun b3 => ?_)
 refine sE (A5 rfl) rfl (fun b4 => ?_)
 refine J8 ?_
 refine sE (A5 rfl) rfl (fun b11 => ?_)
 refine D4 ?_
 refine sP (A3s rfl rfl (by omega)) rfl rfl ?_
 refine J8 ?_
 refine sP (B3 (j := 0) rfl rfl rfl (by simp)) rfl rfl ?_
 refine sL (A1 rfl rfl (hat0 _) rfl) rfl rfl ?_
 refine I9 ?_
 refine B4 ?_
 refine tS (tR ?_)
 refine sP (H4 rfl rfl (by omega)) rfl rfl ?_
 refine sQ (qA rfl) rfl (sD (nS (cF rfl (tS (tS (tR ?_))))))
 refine sP (H4 rfl rfl (by omega)) rfl rfl ?_
 refine sQ (qA rfl) rfl (sD (nS (cF rfl (tR ?_))))
 refine sP (H4 rfl rfl (by omega)) rfl rfl ?_
 refine sQ (qA rfl) rfl (sD (nS (cF rfl (tS (tR ?_)))))
 refine sP (T5 rfl rfl (by omega)) rfl rfl ?_
 refine I9 ?_
 refine B4 (tS (tR (sB (qE rfl rfl) rfl rfl (fun h78 => ?_) (fun h78 => ?_))))
 refine D3 ?_
 refine sP (B3 (j := 1) rfl rfl rfl (by simp)) rfl rfl ?_
 refine sL (A1 rfl rfl (hat1 _) hl1) rfl rfl ?_
 refine sS rfl rfl rfl hl1 ho1 rfl ?_ (hu := by exact C3 hl1.symm)
 refine sQ (qA rfl) rfl (sD (nS (tT (rB (rB (rS ?_))))))
 refine I2 (rC rfl (A1 rfl rfl (A9 (by repeat first | exact mH | apply mT)) hl1)) (rT rfl) ?_
 (exact R9.yes (by rw [if_pos (by omega)]) hre1)
 refine sQ (qA rfl) rfl (sD (nS (cF rfl (tS (tR ?_)))))
 refine sB (qE rfl rfl) rfl rfl (fun h105 => ?_) (fun h105 => ?_)
 refine D3 ?_
 refine sP (B3 (j := 2) rfl rfl rfl (by simp)) rfl rfl ?_
 refine sL (A1 rfl rfl (hat2 _) hl2) rfl rfl ?_
 refine sS rfl rfl rfl hl2 ho2 rfl ?_ (hu := by exact C3 hl2.symm)
 refine sQ (qA rfl) rfl (sD (nS (tT (rB (rB (rS ?_))))))
 refine I2 (rC rfl (A1 rfl rfl (A9 (by repeat first | exact mH | apply mT)) hl2)) (rT rfl) ?_
 (exact R9.yes (by rw [if_neg (by omega), if_pos (by omega)]) hre2)
 refine K4 ?_
 refine I2 (rC rfl (A2 rfl rfl)) (rT rfl) ?_
 (exact R9.no (by rw [if_neg (by omega), if_neg (by omega)]) (L7 _))
theorem A9C (k : Int) (a : Tm) (nm : ByteArray) (num : Int) (ty fr : Ty) (lb : Int) (G : IM) (cells : List Value) (hk1 : k = 11 ∨ k = 12) (hca : cv a) (hr : A8 G (.mk k nm num ty fr lb [a]) cells) : Fn Tryz.prog 220 [.agg ⟨cells⟩] [] G (R9 (P2 k [a])) := by
 obtain ⟨ak, anm, anum, ⟨atk, atks⟩, ⟨afk, afks⟩, alb, aks⟩ := a
 obtain ⟨tk, tks⟩ := ty
 obtain ⟨fk, fks⟩ := fr
 obtain ⟨pt, ct, pf, cf, p, c, es, rfl, hk, hnum, hlb, hty, hfr, hsl, hkl⟩ := hr.open9
 obtain ⟨bx, ox, e0, rfl, hl0, hat0, hre0, hgb0⟩ := hsl.kidTm hkl (i := 0) (by simp) (by simp)
 replace hre0 : A8 G (.mk ak anm anum (.mk atk atks) (.mk afk afks) alb aks) e0 := hre0
 obtain ⟨apt, act, apf, acf, ap, ac, aes, rfl, hak, hanum, halb, haty, hafr, hasl, hakl⟩ := hre0.open9
 obtain ⟨hN, _⟩ := hca.node
 have hops := hN.ops
 have h2 : ak = 10 → aks.length = 2 := fun h => by rw [h] at hops; have : C7 10 = 2 := rfl; omega
 have hL : ([Tm.mk ak anm anum (.mk atk atks) (.mk afk afks) alb aks] : List Tm).length = 1 := rfl
 have hR : P2 k [Tm.mk ak anm anum (.mk atk atks) (.mk afk afks) alb aks] = (if ak = 10 then some (kd aks (k - 11).toNat) else none) := by
  unfold P2; rw [if_neg (by omega), if_neg (by omega), if_neg (by omega), if_pos hk1]; rfl
 rw [hR]
 obtain ⟨i, hi⟩ : ∃ i : Nat, (k - 11).toNat = i := ⟨_, rfl⟩
 rw [hi]
 refine B2 Tryz.func220 rfl Tryz.ntmps220 Tryz.results220 rfl ?_
 intro w0
 refine tS (tR ?_)
 refine sE (B9 rfl rfl) rfl (fun b3 => ?_)
 refine sE (A5 rfl) rfl (fun b4 => ?_)
 refine J8 ?_
 refine sE (A5 rfl) rfl (fun b11 => ?_)
 refine D4 ?_
 refine sP (A3s rfl rfl (by omega)) rfl rfl ?_
 refine J8 ?_
 refine sP (B3 (j := 0) rfl rfl rfl (by simp)) rfl rfl ?_
 refine sL (A1 rfl rfl (hat0 _) rfl) rfl rfl ?_
 refine I9 ?_
 refine B4 ?_
 refine tS (tR ?_)
 refine sP (H4 rfl rfl (by omega)) rfl rfl ?_
 refine sQ (qA rfl) rfl (sD (nS (cF rfl (tS (tS (tR ?_))))))
 refine sP (H4 rfl rfl (by omega)) rfl rfl ?_
 refine sQ (qA rfl) rfl (sD (nS (cF rfl (tR ?_))))
 refine sP (H4 rfl rfl (by omega)) rfl rfl ?_
 refine sQ (qA rfl) rfl (sD (nS (cF rfl (tS (tR ?_)))))
 refine sP (H4 rfl rfl (by omega)) rfl rfl ?_
 refine sQ (qA rfl) rfl (sD (nS (cF rfl (tS (tS (tR ?_))))))
 refine sB (qE rfl rfl) rfl rfl (fun h72 => ?_) (fun h72 => ?_)
 refine I6 ?_
 refine sB (qE rfl rfl) rfl rfl (fun h84 => ?_) (fun h84 => ?_)
 refine sD (nS (qT rfl (tS ?_)))
 (have hq : ak = 10 := (by omega); have hq1 := h2 hq; obtain ⟨bq, oq, e3, rfl, hl3, hat3, hre3, hgb3⟩ := hasl.kidTm hakl (i := i) (by omega) (by omega); have ho3 := hre3.one)
 refine R1 ?_
 refine sP (P5 rfl rfl (by omega) (by omega)) rfl rfl ?_
 (rw [show (k - 11 : Int) = ((i : Nat) : Int) from (by omega)]; refine sP (B3 (j := i) rfl rfl rfl (by omega)) rfl rfl ?_)
 refine sL (A1 rfl rfl (hat3 _) hl3) rfl rfl ?_
 refine sS rfl rfl rfl hl3 ho3 rfl ?_ (hu := by exact C3 hl3.symm)
 refine sQ (qA rfl) rfl (sD (nS (tT (rB (rS ?_)))))
 refine I2 (rC rfl (A1 rfl rfl (A9 (by repeat first | exact mH | apply mT)) hl3)) (rT rfl) ?_
 (exact R9.yes (by rw [if_pos (by omega)]; unfold kd; rw [List.getD_eq_getElem?_getD, List.getElem?_eq_getElem (by omega), Option.getD_some]) hre3)
 refine J2 ?_
 refine I2 (rC rfl (A2 rfl rfl)) (rT rfl) ?_
 (exact R9.no (by rw [if_neg (by omega)]) (L7 _))
 refine sQ (qA rfl) rfl (sD (nS (cF rfl (tR ?_))))
 refine sP (T5 rfl rfl (by omega)) rfl rfl ?_
 refine D3 ?_
 refine sB (qE rfl rfl) rfl rfl (fun h137 => ?_) (fun h137 => ?_)
 refine sD (nS (qT rfl (tS ?_)))
 (have hq : ak = 10 := (by omega); have hq1 := h2 hq; obtain ⟨bq, oq, e3, rfl, hl3, hat3, hre3, hgb3⟩ := hasl.kidTm hakl (i := i) (by omega) (by omega); have ho3 := hre3.one)
 refine R1 ?_
 refine sP (P5 rfl rfl (by omega) (by omega)) rfl rfl ?_
 (rw [show (k - 11 : Int) = ((i : Nat) : Int) from (by omega)]; refine sP (B3 (j := i) rfl rfl rfl (by omega)) rfl rfl ?_)
 refine sL (A1 rfl rfl (hat3 _) hl3) rfl rfl ?_
 refine sS rfl rfl rfl hl3 ho3 rfl ?_ (hu := by exact C3 hl3.symm)
 refine sQ (qA rfl) rfl (sD (nS (tT (rB (rS ?_)))))
 refine I2 (rC rfl (A1 rfl rfl (A9 (by repeat first | exact mH | apply mT)) hl3)) (rT rfl) ?_
 (exact R9.yes (by rw [if_pos (by omega)]; unfold kd; rw [List.getD_eq_getElem?_getD, List.getElem?_eq_getElem (by omega), Option.getD_some]) hre3)
 refine J2 ?_
 refine I2 (rC rfl (A2 rfl rfl)) (rT rfl) ?_
 (exact R9.no (by rw [if_neg (by omega)]) (L7 _))
section
variable {P : Program} {Γ : M0} {K : Po} {ops : Array Oper} {env : M4} {hp : List A4} {G : IM}
theorem A5c {H : List (Nat × Nat)} {fuel j : Nat} {listed : List Bool} {hp' : List A4} {p : Option Addr} {c el sz n : Nat} {cs : List Value} (hk : Pk hp (.slc p c el sz n cs) hp')
  (h : ∀ G', B6 G G' → Sl G' p n c sz cs → (∀ b ∈ J4 p, G b = none ∧ G' b ≠ none) → W0 P Γ ops K H fuel listed j ⟨env, hp', G'⟩) : W0 P Γ ops K H fuel listed j ⟨env, hp, G⟩ :=
 ⟨fun a w hs => let ⟨G', h1, h2, h3, h4⟩ := hs.freeze hk; (h G' h2 h3 h4).run a w h1⟩
end
theorem B7.kids {G : IM} {t : Ty} {a : Value} {p : Option Addr} {n c : Nat} (h : B7 G t [a, .slice p n c]) : ∃ es, D0 G p t.ks.length c 2 es ∧ D2 G t.ks es := by
 obtain ⟨p', c', es, he, _, h1, h2⟩ := h.open
 simp only [List.cons.injEq, Value.slice.injEq, and_true] at he
 obtain ⟨_, rfl, _, rfl⟩ := he
 exact ⟨es, h1, h2⟩
def Y9 (k : Int) (ty fr : Ty) (lb : Int) (ks : List Tm) : Stp :=
 if k = 6 then
  (if R4 (kd ks 0) = true ∧ (kd ks 0).ty.k = 4 then (O7 (A0t 6 [kd (kd ks 0).ks 0, O7 (kd ks 1) (kt (kd ks 0).ty.ks 0) (kt (kd ks 0).fr.ks 0) (-(kd ks 0).lb)]) (kt (kd ks 0).fr.ks 1) (kt (kd ks 0).ty.ks 1) (kd ks 0).lb, 1, 0) else S8)
 else if k = 11 ∨ k = 12 then
  (if R4 (kd ks 0) = true ∧ (kd ks 0).ty.k = 5 then (O7 (A0t k [kd (kd ks 0).ks 0]) (kt (kd ks 0).fr.ks (k - 11).toNat) (kt (kd ks 0).ty.ks (k - 11).toNat) (kd ks 0).lb, 1, 0) else S8)
 else if k = 14 then
  (if fr.k = ty.k then (kd ks 0, 1, 0)
   else if ty.k = 1 then (O7 (O7 (kd ks 0) fr (Y7 fr) lb) (Y7 fr) ty lb, 1, 0)
   else if V1 ty = false then (O7 (O7 (kd ks 0) fr (Y7 ty) lb) (Y7 ty) ty lb, 1, 0)
   else if inj (kd ks 0) = false then S8
   else if (kd ks 0).fr.k = ty.k then (kd (kd ks 0).ks 0, 1, 0)
   else (F4, 2, lb))
 else S8
theorem B4p (k : Int) (ty fr : Ty) (lb : Int) (ks : List Tm) : Q7 k ty fr lb ks = match P2 k ks with | some u => (u, 1, 0) | none => Y9 k ty fr lb ks := by
 unfold Q7 P2 Y9
 by_cases h6 : k = 6
 ·rw [if_pos h6, if_pos h6, if_pos h6]
  by_cases h : (kd ks 0).k = 5
  ·rw [if_pos h, if_pos h]
  ·rw [if_neg h, if_neg h]
 rw [if_neg h6, if_neg h6, if_neg h6]
 by_cases h7 : k = 7 ∨ k = 8
 ·rw [if_pos h7, if_pos h7]
  by_cases h : (kd ks 0).k = 2 ∧ (kd ks 1).k = 2
  ·rw [if_pos h, if_pos h]
  ·rw [if_neg h, if_neg h]; simp only; rw [if_neg (by omega), if_neg (by omega)]
 rw [if_neg h7, if_neg h7]
 by_cases h9 : k = 9
 ·rw [if_pos h9, if_pos h9]
  by_cases h : (kd ks 0).k = 3
  ·rw [if_pos h, if_pos h]
  ·rw [if_neg h, if_neg h]
   by_cases h' : (kd ks 0).k = 4
   ·rw [if_pos h', if_pos h']
   ·rw [if_neg h', if_neg h']; simp only; rw [if_neg (by omega), if_neg (by omega)]
 rw [if_neg h9, if_neg h9]
 by_cases h11 : k = 11 ∨ k = 12
 ·rw [if_pos h11, if_pos h11, if_pos h11]
  by_cases h : (kd ks 0).k = 10
  ·rw [if_pos h, if_pos h]
  ·rw [if_neg h, if_neg h]
 rw [if_neg h11, if_neg h11, if_neg h11]
def Q9 (r : Stp) : IM → Value → List A4 → Prop := L5 fun G' v => ∃ u cells, v = .tuple ⟨[.agg ⟨cells⟩, .int .i64 r.2.1, .int .i64 r.2.2]⟩ ∧ A8 G' u cells ∧ (r.2.1 = 1 → u = r.1)
theorem Q9.mk {G : IM} {r : Stp} {u : Tm} {cells : List Value} {c l : Int} (h : r = (u, c, l)) (hr : A8 G u cells) : Q9 r G (.tuple ⟨[.agg ⟨cells⟩, .int .i64 c, .int .i64 l]⟩) [] := by
 subst h; exact ⟨rfl, u, cells, rfl, hr, fun _ => rfl⟩
theorem A2E {ks : List Tm} {i : Nat} (h : i < ks.length) : kd ks i = ks[i] := by unfold kd; rw [List.getD_eq_getElem?_getD, List.getElem?_eq_getElem h, Option.getD_some]
theorem A0R {ks : List Ty} {i : Nat} (h : i < ks.length) : kt ks i = ks[i] := by unfold kt; rw [List.getD_eq_getElem?_getD, List.getElem?_eq_getElem h, Option.getD_some]
theorem A9D {t : Ty} (h : V1 t = true) : t = Y7 t := by
 unfold V1 at h
 rw [Bool.and_eq_true] at h
 exact (A1i _ _).1 h.2
theorem B4q (a b : Tm) (nm : ByteArray) (num : Int) (ty fr : Ty) (lb : Int) (G : IM) (cells : List Value) (hca : cv a) (hr : A8 G (.mk 6 nm num ty fr lb [a, b]) cells) : Fn Tryz.prog 221 [.agg ⟨cells⟩] [] G (Q9 (Y9 6 ty fr lb [a, b])) := by
 obtain ⟨ak, anm, anum, ⟨atk, atks⟩, ⟨afk, afks⟩, alb, aks⟩ := a
 obtain ⟨hN, hkk⟩ := hca.node
 have hops := hN.ops
 have hbl := hN.lbB
 have htyA := hN.tyA
 have hfrA := hN.frA
 rw [E5] at htyA hfrA
 have h14 : ak = 14 → aks.length = 1 := fun h => by rw [h] at hops; have : C7 14 = 1 := rfl; omega
 obtain ⟨tk, tks⟩ := ty
 obtain ⟨fk, fks⟩ := fr
 obtain ⟨pt, ct, pf, cf, p, c, es, rfl, hk, hnum, hlb, hty, hfr, hsl, hkl⟩ := hr.open9
 obtain ⟨bx, ox, e0, rfl, hl0, hat0, hre0, hgb0⟩ := hsl.kidTm hkl (i := 0) (by simp) (by simp)
 replace hre0 : A8 G (Tm.mk ak anm anum (.mk atk atks) (.mk afk afks) alb aks) e0 := hre0
 have hP : Fn Tryz.prog 111 [.agg ⟨e0⟩] [] G (H0 (.bool (decide (ak = 14 ∧ afk = atk ∧ (atk = 4 ∨ atk = 5)))) G) := A2D _ G _ hre0
 obtain ⟨apt, act, apf, acf, ap, ac, aes, rfl, hak, hanum, halb, haty, hafr, hasl, hakl⟩ := hre0.open9
 obtain ⟨tes, htS, htL⟩ := haty.kids
 obtain ⟨fes, hfS, hfL⟩ := hafr.kids
 simp only [Ty.ks] at htS htL hfS hfL
 obtain ⟨_, _, e1, hp1, hl1, hat1, hre1, hgb1⟩ := hsl.kidTm hkl (i := 1) (by simp) (by simp)
 cases hp1
 replace hre1 : A8 G b e1 := hre1
 have ho1 := hre1.one
 have hR : Y9 6 (.mk tk tks) (.mk fk fks) lb [Tm.mk ak anm anum (.mk atk atks) (.mk afk afks) alb aks, b] = (if (ak = 14 ∧ afk = atk ∧ (atk = 4 ∨ atk = 5)) ∧ atk = 4 then (O7 (A0t 6 [kd aks 0, O7 b (kt atks 0) (kt afks 0) (-alb)]) (kt afks 1) (kt atks 1) alb, 1, 0) else S8) := by
  unfold Y9
  rw [if_pos rfl, show kd [Tm.mk ak anm anum (.mk atk atks) (.mk afk afks) alb aks, b] 0 = Tm.mk ak anm anum (.mk atk atks) (.mk afk afks) alb aks from rfl, A2b]
  simp only [decide_eq_true_eq]
  rfl
 rw [hR]
 refine B2 Tryz.func221 rfl Tryz.ntmps221 Tryz.results221 rfl ?_
 intro w0
 refine tS (tR ?_)
 refine sE (B9 rfl rfl) rfl (fun b3 => ?_)
 refine sE (A5 rfl) rfl (fun b4 => ?_)
 refine D3 ?_
 refine sP (B3 (j := 0) rfl rfl rfl (by simp)) rfl rfl ?_
 refine sL (A1 rfl rfl (hat0 _) rfl) rfl rfl ?_
 refine sE (A5 rfl) rfl (fun b15 => ?_)
 refine F9 ?_
 refine sD (nS (tS ?_))
 refine B4 ?_
 refine tS (tR (sQ (B1 rfl) rfl (sL (C0 rfl rfl) rfl rfl ?_)))
 refine sP (T5 rfl rfl (by omega)) rfl rfl ?_
 refine sQ (qM rfl) rfl (sL (A2 rfl rfl) rfl rfl ?_)
 focus (by_cases hpx : (ak = 14 ∧ afk = atk ∧ (atk = 4 ∨ atk = 5)); rw [decide_eq_true hpx] at hP; rotate_left; rw [decide_eq_false hpx] at hP; rotate_left; all_goals (refine H3 rfl hP rfl rfl ?_))
 refine R1 ?_
 refine sB (qE rfl rfl) rfl rfl (fun h34 => ?_) (fun h34 => ?_)
 refine J8 ?_
 (have hq : (ak = 14 ∧ afk = atk ∧ (atk = 4 ∨ atk = 5)) ∧ atk = 4 := ⟨hpx, by omega⟩; have hq1 := h14 hq.1.1; have hq2 := htyA.1 (by omega); have hq3 := hfrA.1 (by omega); obtain ⟨bq, oq, e3, rfl, hl3, hat3, hre3, hgb3⟩ := hasl.kidTm hakl (i := 0) (by omega) (by omega); have ho3 := hre3.one; obtain ⟨b5, o5, q5, d5, rfl, hat5, hre5, hgb5⟩ := htS.kidTy htL (i := 0) (by omega) (by omega); obtain ⟨_, _, q6, d6, hp6, hat6, hre6, hgb6⟩ := htS.kidTy htL (i := 1) (by omega) (by omega); cases hp6; obtain ⟨b7, o7, q7, d7, rfl, hat7, hre7, hgb7⟩ := hfS.kidTy hfL (i := 0) (by omega) (by omega); obtain ⟨_, _, q8, d8, hp8, hat8, hre8, hgb8⟩ := hfS.kidTy hfL (i := 1) (by omega) (by omega); cases hp8; obtain ⟨x1, x2, x3, x4, x5, x6, x7, x8, x9, rfl⟩ := nine hl3; obtain ⟨y1, y2, y3, y4, y5, y6, y7, y8, y9, rfl⟩ := nine hl1; refine E1 E2 rfl ?_)
 refine J5 (i := 0) (l' := [tt,ff,ff,ff,ff,ff,ff,ff,ff,ff,ff,ff]) rfl D5 (B1 rfl) rfl (by kernel_rfl) rfl rfl ?_
 refine aL 1 rfl (C0 rfl rfl) rfl ?_
 refine aP 2 rfl (B3 (j := 0) rfl rfl rfl (by omega)) rfl ?_
 refine aL 3 rfl (A1 rfl rfl (hat3 _) rfl) rfl ?_
 refine aP 4 rfl (B1 rfl) rfl ?_
 refine aL 5 rfl (C0 rfl rfl) rfl ?_
 refine aP 6 rfl (B3 (j := 1) rfl rfl rfl (by simp)) rfl ?_
 refine aL 7 rfl (A1 rfl rfl (hat1 _) rfl) rfl ?_
 refine V3 (j := 8) (j' := 9) (by kernel_rfl) ?_ ?_
 (refine E4 rfl (A5 rfl) rfl rfl ?_; rintro _ ⟨b51, rfl⟩)
 refine A3 9 ?_
 (refine E4 rfl (A5 rfl) rfl rfl ?_; rintro _ ⟨b53, rfl⟩)
 refine A3 10 ?_
 (refine oS rfl rfl rfl rfl rfl ho3 rfl rfl ?_ (hu := by exact C3 rfl.symm))
 refine A3 11 ?_
 (refine oS rfl rfl rfl rfl rfl ho1 rfl rfl ?_ (hu := by exact C3 rfl.symm))
 refine C5 (nS (tS ?_))
 refine E1 E2 rfl ?_
 refine P9 (i := 0) (l' := [tt,ff,ff,ff,ff,ff,ff,ff,ff,ff,ff,ff,ff,ff,ff,ff,ff,ff,ff,ff,ff,ff,ff,ff,ff,ff,ff,ff,ff,ff,ff,ff,ff,ff]) rfl D5 (A1 rfl rfl (A9 (by repeat first | exact mH | apply mT)) rfl) rfl (by kernel_rfl) rfl rfl ?_
 refine aL 1 rfl (A1 rfl rfl (A9 (by repeat first | exact mH | apply mT)) rfl) rfl ?_
 refine aP 2 rfl (B1 rfl) rfl ?_
 refine aP 3 rfl (qF rfl) rfl ?_
 refine aL 4 rfl (C0 rfl rfl) rfl ?_
 refine aP 5 rfl (B3 (j := 0) rfl rfl rfl (by omega)) rfl ?_
 refine aL 6 rfl (A1 rfl rfl (hat5 _) rfl) rfl ?_
 refine aP 7 rfl (B1 rfl) rfl ?_
 refine aP 8 rfl (qF rfl) rfl ?_
 refine aL 9 rfl (C0 rfl rfl) rfl ?_
 refine aP 10 rfl (B3 (j := 0) rfl rfl rfl (by omega)) rfl ?_
 refine aL 11 rfl (A1 rfl rfl (hat7 _) rfl) rfl ?_
 refine aP 12 rfl (B1 rfl) rfl ?_
 refine aL 13 rfl (C0 rfl rfl) rfl ?_
 refine aP 14 rfl (A5C rfl (by omega) (by omega)) rfl ?_
 refine aP 18 rfl (B1 rfl) rfl ?_
 refine aP 19 rfl (qF rfl) rfl ?_
 refine aL 20 rfl (C0 rfl rfl) rfl ?_
 refine aP 21 rfl (B3 (j := 1) rfl rfl rfl (by omega)) rfl ?_
 refine aL 22 rfl (A1 rfl rfl (hat8 _) rfl) rfl ?_
 refine aP 23 rfl (B1 rfl) rfl ?_
 refine aP 24 rfl (qF rfl) rfl ?_
 refine aL 25 rfl (C0 rfl rfl) rfl ?_
 refine aP 26 rfl (B3 (j := 1) rfl rfl rfl (by omega)) rfl ?_
 refine aL 27 rfl (A1 rfl rfl (hat6 _) rfl) rfl ?_
 refine aP 28 rfl (B1 rfl) rfl ?_
 refine aL 29 rfl (C0 rfl rfl) rfl ?_
 refine A3 15 ?_
 (refine K0 rfl rfl (A1r b atks[0] afks[0] (-alb) G _ _ _ ⟨by omega, by omega⟩ hre1 hre5 hre7) rfl rfl rfl (fun u G1 hle1 hh => ?_); obtain ⟨uc, rfl, hru⟩ := hh; have hul := hru.len; have huo := hru.one; obtain ⟨z1, z2, z3, z4, z5, z6, z7, z8, z9, rfl⟩ := nine hul; replace hre3 := hre3.mono hle1; replace hre6 := hre6.mono hle1; replace hre8 := hre8.mono hle1)
 refine A3 16 ?_
 (refine E4 rfl (C9 rfl rfl rfl (by omega) (by unfold maxLen; omega) rfl) rfl rfl ?_; rintro _ ⟨b92, rfl⟩)
 refine A3 17 ?_
 (refine A5c (cs := [x1, x2, x3, x4, x5, x6, x7, x8, x9, z1, z2, z3, z4, z5, z6, z7, z8, z9]) (by repeat (first | exact Pk.here | apply Pk.there)) (fun G2 hle2 hsl2 hno2 => ?_); have hrN := A32 (k := 6) (ks := [aks[0], O7 b atks[0] afks[0] (-alb)]) (es := [[x1, x2, x3, x4, x5, x6, x7, x8, x9], [z1, z2, z3, z4, z5, z6, z7, z8, z9]]) ⟨by decide, by decide⟩ rfl (D0.of hsl2 rfl (by simp) (by intro x hx; rcases List.mem_cons.1 hx with rfl | hx; exact ho3; obtain rfl := List.mem_singleton.1 hx; exact huo)) (by simp only [D7]; exact ⟨_, _, rfl, hre3.mono hle2, _, _, rfl, hru.mono hle2, rfl⟩); replace hre6 := hre6.mono hle2; replace hre8 := hre8.mono hle2; refine P6 rfl rfl (A27 _ _ _ _ _) rfl rfl rfl ?_)
 refine A3 30 ?_
 (refine K0 rfl rfl (A1r _ afks[1] atks[1] alb G2 _ _ _ ⟨by omega, by omega⟩ hrN hre8 hre6) rfl rfl rfl (fun u G3 hle3 hh => ?_); obtain ⟨wc, rfl, hrw⟩ := hh; have hwl := hrw.len; have hwo := hrw.one)
 refine A3 31 ?_
 (refine oS rfl rfl rfl rfl hwl hwo rfl rfl ?_ (hu := by exact C3 hwl.symm))
 refine aP 32 rfl (qA rfl) rfl ?_
 refine aP 33 rfl (qA rfl) rfl ?_
 refine C5 (nS (tT (rB (rS ?_))))
 refine C4 (rC rfl (A1 rfl rfl (A9 (by repeat first | exact mH | apply mT)) hwl)) (rT rfl) (rT rfl) ?_
 (exact Q9.mk (by rw [if_pos hq, A2E (by omega), A0R (by omega), A0R (by omega), A0R (by omega), A0R (by omega)]) hrw)
 (refine E4 rfl (A5 rfl) rfl rfl ?_; rintro _ ⟨b108, rfl⟩)
 refine A3 8 ?_
 (refine E4 rfl (A5 rfl) rfl rfl ?_; rintro _ ⟨b110, rfl⟩)
 refine A3 10 ?_
 (refine oS rfl rfl rfl rfl rfl ho3 rfl rfl ?_ (hu := by exact C3 rfl.symm))
 refine A3 11 ?_
 (refine oS rfl rfl rfl rfl rfl ho1 rfl rfl ?_ (hu := by exact C3 rfl.symm))
 refine C5 (nS (tS ?_))
 refine E1 E2 rfl ?_
 refine P9 (i := 0) (l' := [tt,ff,ff,ff,ff,ff,ff,ff,ff,ff,ff,ff,ff,ff,ff,ff,ff,ff,ff,ff,ff,ff,ff,ff,ff,ff,ff,ff,ff,ff,ff,ff,ff,ff]) rfl D5 (A1 rfl rfl (A9 (by repeat first | exact mH | apply mT)) rfl) rfl (by kernel_rfl) rfl rfl ?_
 refine aL 1 rfl (A1 rfl rfl (A9 (by repeat first | exact mH | apply mT)) rfl) rfl ?_
 refine aP 2 rfl (B1 rfl) rfl ?_
 refine aP 3 rfl (qF rfl) rfl ?_
 refine aL 4 rfl (C0 rfl rfl) rfl ?_
 refine aP 5 rfl (B3 (j := 0) rfl rfl rfl (by omega)) rfl ?_
 refine aL 6 rfl (A1 rfl rfl (hat5 _) rfl) rfl ?_
 refine aP 7 rfl (B1 rfl) rfl ?_
 refine aP 8 rfl (qF rfl) rfl ?_
 refine aL 9 rfl (C0 rfl rfl) rfl ?_
 refine aP 10 rfl (B3 (j := 0) rfl rfl rfl (by omega)) rfl ?_
 refine aL 11 rfl (A1 rfl rfl (hat7 _) rfl) rfl ?_
 refine aP 12 rfl (B1 rfl) rfl ?_
 refine aL 13 rfl (C0 rfl rfl) rfl ?_
 refine aP 14 rfl (A5C rfl (by omega) (by omega)) rfl ?_
 refine aP 18 rfl (B1 rfl) rfl ?_
 refine aP 19 rfl (qF rfl) rfl ?_
 refine aL 20 rfl (C0 rfl rfl) rfl ?_
 refine aP 21 rfl (B3 (j := 1) rfl rfl rfl (by omega)) rfl ?_
 refine aL 22 rfl (A1 rfl rfl (hat8 _) rfl) rfl ?_
 refine aP 23 rfl (B1 rfl) rfl ?_
 refine aP 24 rfl (qF rfl) rfl ?_
 refine aL 25 rfl (C0 rfl rfl) rfl ?_
 refine aP 26 rfl (B3 (j := 1) rfl rfl rfl (by omega)) rfl ?_
 refine aL 27 rfl (A1 rfl rfl (hat6 _) rfl) rfl ?_
 refine aP 28 rfl (B1 rfl) rfl ?_
 refine aL 29 rfl (C0 rfl rfl) rfl ?_
 refine A3 15 ?_
 (refine K0 rfl rfl (A1r b atks[0] afks[0] (-alb) G _ _ _ ⟨by omega, by omega⟩ hre1 hre5 hre7) rfl rfl rfl (fun u G1 hle1 hh => ?_); obtain ⟨uc, rfl, hru⟩ := hh; have hul := hru.len; have huo := hru.one; obtain ⟨z1, z2, z3, z4, z5, z6, z7, z8, z9, rfl⟩ := nine hul; replace hre3 := hre3.mono hle1; replace hre6 := hre6.mono hle1; replace hre8 := hre8.mono hle1)
 refine A3 16 ?_
 (refine E4 rfl (C9 rfl rfl rfl (by omega) (by unfold maxLen; omega) rfl) rfl rfl ?_; rintro _ ⟨b149, rfl⟩)
 refine A3 17 ?_
 (refine A5c (cs := [x1, x2, x3, x4, x5, x6, x7, x8, x9, z1, z2, z3, z4, z5, z6, z7, z8, z9]) (by repeat (first | exact Pk.here | apply Pk.there)) (fun G2 hle2 hsl2 hno2 => ?_); have hrN := A32 (k := 6) (ks := [aks[0], O7 b atks[0] afks[0] (-alb)]) (es := [[x1, x2, x3, x4, x5, x6, x7, x8, x9], [z1, z2, z3, z4, z5, z6, z7, z8, z9]]) ⟨by decide, by decide⟩ rfl (D0.of hsl2 rfl (by simp) (by intro x hx; rcases List.mem_cons.1 hx with rfl | hx; exact ho3; obtain rfl := List.mem_singleton.1 hx; exact huo)) (by simp only [D7]; exact ⟨_, _, rfl, hre3.mono hle2, _, _, rfl, hru.mono hle2, rfl⟩); replace hre6 := hre6.mono hle2; replace hre8 := hre8.mono hle2; refine P6 rfl rfl (A27 _ _ _ _ _) rfl rfl rfl ?_)
 refine A3 30 ?_
 (refine K0 rfl rfl (A1r _ afks[1] atks[1] alb G2 _ _ _ ⟨by omega, by omega⟩ hrN hre8 hre6) rfl rfl rfl (fun u G3 hle3 hh => ?_); obtain ⟨wc, rfl, hrw⟩ := hh; have hwl := hrw.len; have hwo := hrw.one)
 refine A3 31 ?_
 (refine oS rfl rfl rfl rfl hwl hwo rfl rfl ?_ (hu := by exact C3 hwl.symm))
 refine aP 32 rfl (qA rfl) rfl ?_
 refine aP 33 rfl (qA rfl) rfl ?_
 refine C5 (nS (tT (rB (rS ?_))))
 refine C4 (rC rfl (A1 rfl rfl (A9 (by repeat first | exact mH | apply mT)) hwl)) (rT rfl) (rT rfl) ?_
 (exact Q9.mk (by rw [if_pos hq, A2E (by omega), A0R (by omega), A0R (by omega), A0R (by omega), A0R (by omega)]) hrw)
 refine D4 ?_
 refine sP (H4 rfl rfl (by omega)) rfl rfl ?_
 refine K3 ?_
 refine sP (H4 rfl rfl (by omega)) rfl rfl ?_
 refine A0q ?_
 refine sP (A0f rfl rfl (by omega)) rfl rfl ?_
 refine H9 ?_
 refine C4 (rC rfl (A2 rfl rfl)) (rT rfl) (rT rfl) ?_
 (exact Q9.mk (by rw [if_neg (by omega)]; rfl) (L7 _))
 refine H9 ?_
 refine sP (H4 rfl rfl (by omega)) rfl rfl ?_
 refine K3 ?_
 refine sP (H4 rfl rfl (by omega)) rfl rfl ?_
 refine A0q ?_
 refine sP (A0f rfl rfl (by omega)) rfl rfl ?_
 refine H9 ?_
 refine C4 (rC rfl (A2 rfl rfl)) (rT rfl) (rT rfl) ?_
 (exact Q9.mk (by rw [if_neg (by omega)]; rfl) (L7 _))
theorem A9E (k : Int) (a : Tm) (nm : ByteArray) (num : Int) (ty fr : Ty) (lb : Int) (G : IM) (cells : List Value) (hk1 : k = 11 ∨ k = 12) (hca : cv a) (hr : A8 G (.mk k nm num ty fr lb [a]) cells) : Fn Tryz.prog 221 [.agg ⟨cells⟩] [] G (Q9 (Y9 k ty fr lb [a])) := by
 obtain ⟨ak, anm, anum, ⟨atk, atks⟩, ⟨afk, afks⟩, alb, aks⟩ := a
 obtain ⟨hN, hkk⟩ := hca.node
 have hops := hN.ops
 have hbl := hN.lbB
 have htyA := hN.tyA
 have hfrA := hN.frA
 rw [E5] at htyA hfrA
 have h14 : ak = 14 → aks.length = 1 := fun h => by rw [h] at hops; have : C7 14 = 1 := rfl; omega
 obtain ⟨tk, tks⟩ := ty
 obtain ⟨fk, fks⟩ := fr
 obtain ⟨pt, ct, pf, cf, p, c, es, rfl, hk, hnum, hlb, hty, hfr, hsl, hkl⟩ := hr.open9
 obtain ⟨bx, ox, e0, rfl, hl0, hat0, hre0, hgb0⟩ := hsl.kidTm hkl (i := 0) (by simp) (by simp)
 replace hre0 : A8 G (Tm.mk ak anm anum (.mk atk atks) (.mk afk afks) alb aks) e0 := hre0
 have hP : Fn Tryz.prog 111 [.agg ⟨e0⟩] [] G (H0 (.bool (decide (ak = 14 ∧ afk = atk ∧ (atk = 4 ∨ atk = 5)))) G) := A2D _ G _ hre0
 have hI := A33 _ G _ hre0
 have ho0 := hre0.one
 obtain ⟨apt, act, apf, acf, ap, ac, aes, rfl, hak, hanum, halb, haty, hafr, hasl, hakl⟩ := hre0.open9
 have hfk64 : E6 fk := by obtain ⟨_, _, _, _, h, _⟩ := hfr.open; exact h
 have htk64 : E6 tk := by obtain ⟨_, _, _, _, h, _⟩ := hty.open; exact h
 obtain ⟨tes, htS, htL⟩ := haty.kids
 obtain ⟨fes, hfS, hfL⟩ := hafr.kids
 simp only [Ty.ks] at htS htL hfS hfL
 obtain ⟨i, hi⟩ : ∃ i : Nat, (k - 11).toNat = i := ⟨_, rfl⟩
 have hR : Y9 k (.mk tk tks) (.mk fk fks) lb [Tm.mk ak anm anum (.mk atk atks) (.mk afk afks) alb aks] = (if (ak = 14 ∧ afk = atk ∧ (atk = 4 ∨ atk = 5)) ∧ atk = 5 then (O7 (A0t k [kd aks 0]) (kt afks i) (kt atks i) alb, 1, 0) else S8) := by
  unfold Y9
  rw [if_neg (by omega), if_pos hk1, hi, show kd [Tm.mk ak anm anum (.mk atk atks) (.mk afk afks) alb aks] 0 = Tm.mk ak anm anum (.mk atk atks) (.mk afk afks) alb aks from rfl, A2b]
  simp only [decide_eq_true_eq]
  rfl
 rw [hR]
 refine B2 Tryz.func221 rfl Tryz.ntmps221 Tryz.results221 rfl ?_
 intro w0
 refine tS (tR ?_)
 refine sE (B9 rfl rfl) rfl (fun b3 => ?_)
 refine sE (A5 rfl) rfl (fun b4 => ?_)
 refine D3 ?_
 refine sP (B3 (j := 0) rfl rfl rfl (by simp)) rfl rfl ?_
 refine sL (A1 rfl rfl (hat0 _) rfl) rfl rfl ?_
 refine sE (A5 rfl) rfl (fun b15 => ?_)
 refine F9 ?_
 refine sD (nS (tS ?_))
 refine B4 ?_
 refine tS (tR (sQ (B1 rfl) rfl (sL (C0 rfl rfl) rfl rfl ?_)))
 refine sP (H4 rfl rfl (by omega)) rfl rfl ?_
 refine V6 ?_
 refine sB (qE rfl rfl) rfl rfl (fun h44 => ?_) (fun h44 => ?_)
 refine C2 ?_
 focus (by_cases hpx : (ak = 14 ∧ afk = atk ∧ (atk = 4 ∨ atk = 5)); rw [decide_eq_true hpx] at hP; rotate_left; rw [decide_eq_false hpx] at hP; rotate_left; all_goals (refine H3 rfl hP rfl rfl ?_))
 refine R1 ?_
 refine sB (qE rfl rfl) rfl rfl (fun h58 => ?_) (fun h58 => ?_)
 refine D4 ?_
 refine sP (P5 rfl rfl (by omega) (by omega)) rfl rfl ?_
 refine sQ (qA rfl) rfl (sD (nS (tS ?_)))
 (have hq : (ak = 14 ∧ afk = atk ∧ (atk = 4 ∨ atk = 5)) ∧ atk = 5 := ⟨hpx, by omega⟩; have hq1 := h14 hq.1.1; have hq2 := htyA.1 (by omega); have hq3 := hfrA.1 (by omega); rw [show (k - 11 : Int) = ((i : Nat) : Int) from (by omega)]; obtain ⟨bq, oq, e3, rfl, hl3, hat3, hre3, hgb3⟩ := hasl.kidTm hakl (i := 0) (by omega) (by omega); have ho3 := hre3.one; obtain ⟨b5, o5, q5, d5, rfl, hat5, hre5, hgb5⟩ := htS.kidTy htL (i := i) (by omega) (by omega); obtain ⟨b7, o7, q7, d7, rfl, hat7, hre7, hgb7⟩ := hfS.kidTy hfL (i := i) (by omega) (by omega); obtain ⟨x1, x2, x3, x4, x5, x6, x7, x8, x9, rfl⟩ := nine hl3; refine E1 E2 rfl ?_)
 refine J5 (i := 0) (l' := [tt,ff,ff,ff,ff,ff,ff,ff,ff,ff,ff,ff,ff,ff,ff,ff,ff,ff,ff,ff,ff,ff,ff,ff,ff,ff]) rfl D5 (B1 rfl) rfl (by kernel_rfl) rfl rfl ?_
 refine aL 1 rfl (C0 rfl rfl) rfl ?_
 refine aP 2 rfl (B1 rfl) rfl ?_
 refine aL 3 rfl (C0 rfl rfl) rfl ?_
 refine aP 4 rfl (B3 (j := 0) rfl rfl rfl (by omega)) rfl ?_
 refine aL 5 rfl (A1 rfl rfl (hat3 _) rfl) rfl ?_
 refine aP 8 rfl (B1 rfl) rfl ?_
 refine aP 9 rfl (qF rfl) rfl ?_
 refine aL 10 rfl (C0 rfl rfl) rfl ?_
 refine aP 11 rfl (qM rfl) rfl ?_
 refine aP 12 rfl (B3 (j := i) rfl rfl rfl (by omega)) rfl ?_
 refine aL 13 rfl (A1 rfl rfl (hat7 _) rfl) rfl ?_
 refine aP 14 rfl (B1 rfl) rfl ?_
 refine aP 15 rfl (qF rfl) rfl ?_
 refine aL 16 rfl (C0 rfl rfl) rfl ?_
 refine aP 17 rfl (qM rfl) rfl ?_
 refine aP 18 rfl (B3 (j := i) rfl rfl rfl (by omega)) rfl ?_
 refine aL 19 rfl (A1 rfl rfl (hat5 _) rfl) rfl ?_
 refine aP 20 rfl (B1 rfl) rfl ?_
 refine aL 21 rfl (C0 rfl rfl) rfl ?_
 refine A3 6 ?_
 (refine E4 rfl (C9 rfl rfl rfl (by omega) (by unfold maxLen; omega) rfl) rfl rfl ?_; rintro _ ⟨b95, rfl⟩)
 refine A3 7 ?_
 (refine A5c (cs := [x1, x2, x3, x4, x5, x6, x7, x8, x9]) (by repeat (first | exact Pk.here | apply Pk.there)) (fun G2 hle2 hsl2 hno2 => ?_); have hrN := A32 (k := k) (ks := [aks[0]]) (es := [[x1, x2, x3, x4, x5, x6, x7, x8, x9]]) hk rfl (D0.of hsl2 rfl (by simp) (by intro x hx; obtain rfl := List.mem_singleton.1 hx; exact ho3)) (by simp only [D7]; exact ⟨_, _, rfl, hre3.mono hle2, rfl⟩); replace hre5 := hre5.mono hle2; replace hre7 := hre7.mono hle2; refine P6 rfl rfl (A27 _ _ _ _ _) rfl rfl rfl ?_)
 refine A3 22 ?_
 (refine K0 rfl rfl (A1r _ afks[i] atks[i] alb G2 _ _ _ ⟨by omega, by omega⟩ hrN hre7 hre5) rfl rfl rfl (fun u G3 hle3 hh => ?_); obtain ⟨wc, rfl, hrw⟩ := hh; have hwl := hrw.len; have hwo := hrw.one)
 refine A3 23 ?_
 (refine oS rfl rfl rfl rfl hwl hwo rfl rfl ?_ (hu := by exact C3 hwl.symm))
 refine aP 24 rfl (qA rfl) rfl ?_
 refine aP 25 rfl (qA rfl) rfl ?_
 refine C5 (nS (tT (rB (rS ?_))))
 refine C4 (rC rfl (A1 rfl rfl (A9 (by repeat first | exact mH | apply mT)) hwl)) (rT rfl) (rT rfl) ?_
 (exact Q9.mk (by rw [if_pos hq, A2E (by omega), A0R (by omega), A0R (by omega)]) hrw)
 refine D4 ?_
 refine sP (A0f rfl rfl (by omega)) rfl rfl ?_
 refine H9 ?_
 refine C4 (rC rfl (A2 rfl rfl)) (rT rfl) (rT rfl) ?_
 (exact Q9.mk (by rw [if_neg (by omega)]; rfl) (L7 _))
 refine H9 ?_
 refine sP (A0f rfl rfl (by omega)) rfl rfl ?_
 refine H9 ?_
 refine C4 (rC rfl (A2 rfl rfl)) (rT rfl) (rT rfl) ?_
 (exact Q9.mk (by rw [if_neg (by omega)]; rfl) (L7 _))
 refine K3 ?_
 refine sP (T5 rfl rfl (by omega)) rfl rfl ?_
 refine K3 ?_
 focus (by_cases hpx : (ak = 14 ∧ afk = atk ∧ (atk = 4 ∨ atk = 5)); rw [decide_eq_true hpx] at hP; rotate_left; rw [decide_eq_false hpx] at hP; rotate_left; all_goals (refine H3 rfl hP rfl rfl ?_))
 refine R1 ?_
 refine sB (qE rfl rfl) rfl rfl (fun h184 => ?_) (fun h184 => ?_)
 refine D4 ?_
 refine sP (P5 rfl rfl (by omega) (by omega)) rfl rfl ?_
 refine sQ (qA rfl) rfl (sD (nS (tS ?_)))
 (have hq : (ak = 14 ∧ afk = atk ∧ (atk = 4 ∨ atk = 5)) ∧ atk = 5 := ⟨hpx, by omega⟩; have hq1 := h14 hq.1.1; have hq2 := htyA.1 (by omega); have hq3 := hfrA.1 (by omega); rw [show (k - 11 : Int) = ((i : Nat) : Int) from (by omega)]; obtain ⟨bq, oq, e3, rfl, hl3, hat3, hre3, hgb3⟩ := hasl.kidTm hakl (i := 0) (by omega) (by omega); have ho3 := hre3.one; obtain ⟨b5, o5, q5, d5, rfl, hat5, hre5, hgb5⟩ := htS.kidTy htL (i := i) (by omega) (by omega); obtain ⟨b7, o7, q7, d7, rfl, hat7, hre7, hgb7⟩ := hfS.kidTy hfL (i := i) (by omega) (by omega); obtain ⟨x1, x2, x3, x4, x5, x6, x7, x8, x9, rfl⟩ := nine hl3; refine E1 E2 rfl ?_)
 refine J5 (i := 0) (l' := [tt,ff,ff,ff,ff,ff,ff,ff,ff,ff,ff,ff,ff,ff,ff,ff,ff,ff,ff,ff,ff,ff,ff,ff,ff,ff]) rfl D5 (B1 rfl) rfl (by kernel_rfl) rfl rfl ?_
 refine aL 1 rfl (C0 rfl rfl) rfl ?_
 refine aP 2 rfl (B1 rfl) rfl ?_
 refine aL 3 rfl (C0 rfl rfl) rfl ?_
 refine aP 4 rfl (B3 (j := 0) rfl rfl rfl (by omega)) rfl ?_
 refine aL 5 rfl (A1 rfl rfl (hat3 _) rfl) rfl ?_
 refine aP 8 rfl (B1 rfl) rfl ?_
 refine aP 9 rfl (qF rfl) rfl ?_
 refine aL 10 rfl (C0 rfl rfl) rfl ?_
 refine aP 11 rfl (qM rfl) rfl ?_
 refine aP 12 rfl (B3 (j := i) rfl rfl rfl (by omega)) rfl ?_
 refine aL 13 rfl (A1 rfl rfl (hat7 _) rfl) rfl ?_
 refine aP 14 rfl (B1 rfl) rfl ?_
 refine aP 15 rfl (qF rfl) rfl ?_
 refine aL 16 rfl (C0 rfl rfl) rfl ?_
 refine aP 17 rfl (qM rfl) rfl ?_
 refine aP 18 rfl (B3 (j := i) rfl rfl rfl (by omega)) rfl ?_
 refine aL 19 rfl (A1 rfl rfl (hat5 _) rfl) rfl ?_
 refine aP 20 rfl (B1 rfl) rfl ?_
 refine aL 21 rfl (C0 rfl rfl) rfl ?_
 refine A3 6 ?_
 (refine E4 rfl (C9 rfl rfl rfl (by omega) (by unfold maxLen; omega) rfl) rfl rfl ?_; rintro _ ⟨b221, rfl⟩)
 refine A3 7 ?_
 (refine A5c (cs := [x1, x2, x3, x4, x5, x6, x7, x8, x9]) (by repeat (first | exact Pk.here | apply Pk.there)) (fun G2 hle2 hsl2 hno2 => ?_); have hrN := A32 (k := k) (ks := [aks[0]]) (es := [[x1, x2, x3, x4, x5, x6, x7, x8, x9]]) hk rfl (D0.of hsl2 rfl (by simp) (by intro x hx; obtain rfl := List.mem_singleton.1 hx; exact ho3)) (by simp only [D7]; exact ⟨_, _, rfl, hre3.mono hle2, rfl⟩); replace hre5 := hre5.mono hle2; replace hre7 := hre7.mono hle2; refine P6 rfl rfl (A27 _ _ _ _ _) rfl rfl rfl ?_)
 refine A3 22 ?_
 (refine K0 rfl rfl (A1r _ afks[i] atks[i] alb G2 _ _ _ ⟨by omega, by omega⟩ hrN hre7 hre5) rfl rfl rfl (fun u G3 hle3 hh => ?_); obtain ⟨wc, rfl, hrw⟩ := hh; have hwl := hrw.len; have hwo := hrw.one)
 refine A3 23 ?_
 (refine oS rfl rfl rfl rfl hwl hwo rfl rfl ?_ (hu := by exact C3 hwl.symm))
 refine aP 24 rfl (qA rfl) rfl ?_
 refine aP 25 rfl (qA rfl) rfl ?_
 refine C5 (nS (tT (rB (rS ?_))))
 refine C4 (rC rfl (A1 rfl rfl (A9 (by repeat first | exact mH | apply mT)) hwl)) (rT rfl) (rT rfl) ?_
 (exact Q9.mk (by rw [if_pos hq, A2E (by omega), A0R (by omega), A0R (by omega)]) hrw)
 refine D4 ?_
 refine sP (A0f rfl rfl (by omega)) rfl rfl ?_
 refine H9 ?_
 refine C4 (rC rfl (A2 rfl rfl)) (rT rfl) (rT rfl) ?_
 (exact Q9.mk (by rw [if_neg (by omega)]; rfl) (L7 _))
 refine H9 ?_
 refine sP (A0f rfl rfl (by omega)) rfl rfl ?_
 refine H9 ?_
 refine C4 (rC rfl (A2 rfl rfl)) (rT rfl) (rT rfl) ?_
 (exact Q9.mk (by rw [if_neg (by omega)]; rfl) (L7 _))
theorem A6I {t : Tm} (h : inj t = true) : t.k = 14 := by
 unfold inj at h
 simp only [Bool.and_eq_true, decide_eq_true_eq] at h
 exact h.1.1
theorem B4r {t u : Ty} (h : V1 t = true) (h' : V1 u = true) : O2 t u = decide (t.k = u.k) := by
 have e1 := A9D h
 have e2 := A9D h'
 by_cases hk : t.k = u.k
 ·rw [decide_eq_true hk, A1i, e1, e2]
  unfold Y7; rw [hk]
 ·rw [decide_eq_false hk]
  cases hs : O2 t u with
  | false => rfl
  | true => exact absurd (congrArg Ty.k ((A1i _ _).1 hs)) hk
theorem B4s {t : Tm} (h : inj t = true) : V1 t.fr = true := by
 unfold inj at h
 rw [Bool.and_eq_true] at h
 exact h.2
theorem B4t (a : Tm) (nm : ByteArray) (num : Int) (ty fr : Ty) (lb : Int) (G : IM) (cells : List Value) (hca : cv a) (hlb9 : -99 ≤ lb ∧ lb ≤ 99) (hr : A8 G (.mk 14 nm num ty fr lb [a]) cells) : Fn Tryz.prog 221 [.agg ⟨cells⟩] [] G (Q9 (Y9 14 ty fr lb [a])) := by
 have hji := @B4s a
 have hjk := @A6I a
 obtain ⟨ak, anm, anum, ⟨atk, atks⟩, ⟨afk, afks⟩, alb, aks⟩ := a
 obtain ⟨hN, hkk⟩ := hca.node
 have hops := hN.ops
 have hbl := hN.lbB
 have htyA := hN.tyA
 have hfrA := hN.frA
 rw [E5] at htyA hfrA
 have h14 : ak = 14 → aks.length = 1 := fun h => by rw [h] at hops; have : C7 14 = 1 := rfl; omega
 obtain ⟨tk, tks⟩ := ty
 obtain ⟨fk, fks⟩ := fr
 obtain ⟨pt, ct, pf, cf, p, c, es, rfl, hk, hnum, hlb, hty, hfr, hsl, hkl⟩ := hr.open9
 obtain ⟨bx, ox, e0, rfl, hl0, hat0, hre0, hgb0⟩ := hsl.kidTm hkl (i := 0) (by simp) (by simp)
 replace hre0 : A8 G (Tm.mk ak anm anum (.mk atk atks) (.mk afk afks) alb aks) e0 := hre0
 have hP : Fn Tryz.prog 111 [.agg ⟨e0⟩] [] G (H0 (.bool (decide (ak = 14 ∧ afk = atk ∧ (atk = 4 ∨ atk = 5)))) G) := A2D _ G _ hre0
 have hI := A33 _ G _ hre0
 have ho0 := hre0.one
 obtain ⟨apt, act, apf, acf, ap, ac, aes, rfl, hak, hanum, halb, haty, hafr, hasl, hakl⟩ := hre0.open9
 have hfk64 : E6 fk := by obtain ⟨_, _, _, _, h, _⟩ := hfr.open; exact h
 have htk64 : E6 tk := by obtain ⟨_, _, _, _, h, _⟩ := hty.open; exact h
 obtain ⟨tes, htS, htL⟩ := haty.kids
 obtain ⟨fes, hfS, hfL⟩ := hafr.kids
 simp only [Ty.ks] at htS htL hfS hfL
 obtain ⟨J, hJ⟩ : ∃ J, inj (Tm.mk ak anm anum (.mk atk atks) (.mk afk afks) alb aks) = J := ⟨_, rfl⟩
 obtain ⟨D, hD⟩ : ∃ D, V1 (.mk tk tks) = D := ⟨_, rfl⟩
 have hGr := A9w _ G _ hty
 rw [hD] at hGr
 rw [hJ] at hI hji hjk
 have hR : Y9 14 (.mk tk tks) (.mk fk fks) lb [Tm.mk ak anm anum (.mk atk atks) (.mk afk afks) alb aks] = (if fk = tk then (Tm.mk ak anm anum (.mk atk atks) (.mk afk afks) alb aks, 1, 0)
   else if tk = 1 then (O7 (O7 (Tm.mk ak anm anum (.mk atk atks) (.mk afk afks) alb aks) (.mk fk fks) (mGk fk) lb) (mGk fk) (.mk tk tks) lb, 1, 0)
   else if D = false then (O7 (O7 (Tm.mk ak anm anum (.mk atk atks) (.mk afk afks) alb aks) (.mk fk fks) (mGk tk) lb) (mGk tk) (.mk tk tks) lb, 1, 0)
   else if J = false then S8
   else if afk = tk then (kd aks 0, 1, 0)
   else (F4, 2, lb)) := by
  rw [← hJ, ← hD]; rfl
 rw [hR]
 have hSm : J = true → D = true → O2 (.mk afk afks) (.mk tk tks) = decide (afk = tk) := fun h1 h2 => B4r (hji h1) (hD.trans h2)
 have hTS := A6y (.mk afk afks) (.mk tk tks) G _ _ hafr hty
 refine B2 Tryz.func221 rfl Tryz.ntmps221 Tryz.results221 rfl ?_
 intro w0
 refine tS (tR ?_)
 refine sE (B9 rfl rfl) rfl (fun b3 => ?_)
 refine sE (A5 rfl) rfl (fun b4 => ?_)
 refine D3 ?_
 refine sP (B3 (j := 0) rfl rfl rfl (by simp)) rfl rfl ?_
 refine sL (A1 rfl rfl (hat0 _) rfl) rfl rfl ?_
 refine sE (A5 rfl) rfl (fun b15 => ?_)
 refine F9 ?_
 refine sD (nS (tS ?_))
 refine B4 ?_
 refine tS (tR (sQ (B1 rfl) rfl (sL (C0 rfl rfl) rfl rfl ?_)))
 refine sP (H4 rfl rfl (by omega)) rfl rfl ?_
 refine V6 ?_
 refine sP (H4 rfl rfl (by omega)) rfl rfl ?_
 refine K3 ?_
 refine sP (H4 rfl rfl (by omega)) rfl rfl ?_
 refine A0q ?_
 refine sP (A0Y rfl rfl (by omega)) rfl rfl ?_
 refine N6 ?_
 refine sB (qE rfl rfl) rfl rfl (fun h81 => ?_) (fun h81 => ?_)
 refine H9 ?_
 refine C4 (rC rfl (A2 rfl rfl)) (rT rfl) (rT rfl) ?_
 (exact Q9.mk (by rw [if_pos (by omega)]) hre0)
 refine D4 ?_
 refine sB (qE rfl rfl) rfl rfl (fun h108 => ?_) (fun h108 => ?_)
 refine D4 ?_
 (refine E0 rfl (A6H fk G hfk64) rfl rfl (fun u G1 hle1 hh => ?_); obtain ⟨gc, rfl, hrg⟩ := hh; obtain ⟨pg, cg, eg, rfl, _⟩ := hrg.open; have hgk : tk = 1 := (by omega); replace hre0 := hre0.mono hle1; replace hfr := hfr.mono hle1; replace hty := hty.mono hle1)
 refine sE (A5 rfl) rfl (fun b119 => ?_)
 refine F9 ?_
 refine sD (nS (tS ?_))
 refine E1 E2 rfl ?_
 refine P9 (i := 0) (l' := [tt,ff,ff,ff,ff,ff,ff,ff,ff,ff,ff,ff,ff,ff,ff,ff]) rfl D5 (A1 rfl rfl (A9 (by repeat first | exact mH | apply mT)) rfl) rfl (by kernel_rfl) rfl rfl ?_
 refine aL 3 rfl (A1 rfl rfl (A9 (by repeat first | exact mH | apply mT)) rfl) rfl ?_
 refine aL 7 rfl (A1 rfl rfl (A9 (by repeat first | exact mH | apply mT)) rfl) rfl ?_
 refine aP 1 rfl (B1 rfl) rfl ?_
 refine aL 2 rfl (A2 rfl rfl) rfl ?_
 refine aP 4 rfl (B1 rfl) rfl ?_
 refine aL 5 rfl (C0 rfl rfl) rfl ?_
 refine aP 8 rfl (B1 rfl) rfl ?_
 refine aL 9 rfl (A2 rfl rfl) rfl ?_
 refine aP 10 rfl (B1 rfl) rfl ?_
 refine aL 11 rfl (C0 rfl rfl) rfl ?_
 refine A3 6 ?_
 (refine K0 rfl rfl (A1r _ (.mk fk fks) _ lb G1 _ _ _ ⟨by omega, by omega⟩ hre0 hfr hrg) rfl rfl rfl (fun u G3 hle3 hh => ?_); obtain ⟨wc, rfl, hrw⟩ := hh; have hwl := hrw.len; have hwo := hrw.one; replace hrg := hrg.mono hle3; replace hty := hty.mono hle3)
 refine A3 12 ?_
 (refine K0 rfl rfl (A1r _ _ (.mk tk tks) lb G3 _ _ _ ⟨by omega, by omega⟩ hrw hrg hty) rfl rfl rfl (fun u G4 hle4 hh => ?_); obtain ⟨xc, rfl, hrx⟩ := hh; have hxl := hrx.len; have hxo := hrx.one)
 refine A3 13 ?_
 (refine oS rfl rfl rfl rfl hxl hxo rfl rfl ?_ (hu := by exact C3 hxl.symm))
 refine aP 14 rfl (qA rfl) rfl ?_
 refine aP 15 rfl (qA rfl) rfl ?_
 refine C5 (nS (tT (rB (rS ?_))))
 refine C4 (rC rfl (A1 rfl rfl (A9 (by repeat first | exact mH | apply mT)) hxl)) (rT rfl) (rT rfl) ?_
 (exact Q9.mk (by rw [if_neg (by omega), if_pos (by omega)]) hrx)
 refine D3 ?_
 focus (cases hDD : D; all_goals (rw [hDD] at hGr; refine H3 rfl hGr rfl rfl ?_))
 refine I9 ?_
 (refine E0 rfl (A6H tk G htk64) rfl rfl (fun u G1 hle1 hh => ?_); obtain ⟨gc, rfl, hrg⟩ := hh; obtain ⟨pg, cg, eg, rfl, _⟩ := hrg.open; replace hre0 := hre0.mono hle1; replace hfr := hfr.mono hle1; replace hty := hty.mono hle1)
 refine sE (A5 rfl) rfl (fun b171 => ?_)
 refine F9 ?_
 refine sD (nS (tS ?_))
 refine E1 E2 rfl ?_
 refine P9 (i := 0) (l' := [tt,ff,ff,ff,ff,ff,ff,ff,ff,ff,ff,ff,ff,ff,ff,ff]) rfl D5 (A1 rfl rfl (A9 (by repeat first | exact mH | apply mT)) rfl) rfl (by kernel_rfl) rfl rfl ?_
 refine aL 3 rfl (A1 rfl rfl (A9 (by repeat first | exact mH | apply mT)) rfl) rfl ?_
 refine aL 7 rfl (A1 rfl rfl (A9 (by repeat first | exact mH | apply mT)) rfl) rfl ?_
 refine aP 1 rfl (B1 rfl) rfl ?_
 refine aL 2 rfl (A2 rfl rfl) rfl ?_
 refine aP 4 rfl (B1 rfl) rfl ?_
 refine aL 5 rfl (C0 rfl rfl) rfl ?_
 refine aP 8 rfl (B1 rfl) rfl ?_
 refine aL 9 rfl (A2 rfl rfl) rfl ?_
 refine aP 10 rfl (B1 rfl) rfl ?_
 refine aL 11 rfl (C0 rfl rfl) rfl ?_
 refine A3 6 ?_
 (refine K0 rfl rfl (A1r _ (.mk fk fks) _ lb G1 _ _ _ ⟨by omega, by omega⟩ hre0 hfr hrg) rfl rfl rfl (fun u G3 hle3 hh => ?_); obtain ⟨wc, rfl, hrw⟩ := hh; have hwl := hrw.len; have hwo := hrw.one; replace hrg := hrg.mono hle3; replace hty := hty.mono hle3)
 refine A3 12 ?_
 (refine K0 rfl rfl (A1r _ _ (.mk tk tks) lb G3 _ _ _ ⟨by omega, by omega⟩ hrw hrg hty) rfl rfl rfl (fun u G4 hle4 hh => ?_); obtain ⟨xc, rfl, hrx⟩ := hh; have hxl := hrx.len; have hxo := hrx.one)
 refine A3 13 ?_
 (refine oS rfl rfl rfl rfl hxl hxo rfl rfl ?_ (hu := by exact C3 hxl.symm))
 refine aP 14 rfl (qA rfl) rfl ?_
 refine aP 15 rfl (qA rfl) rfl ?_
 refine C5 (nS (tT (rB (rS ?_))))
 refine C4 (rC rfl (A1 rfl rfl (A9 (by repeat first | exact mH | apply mT)) hxl)) (rT rfl) (rT rfl) ?_
 (exact Q9.mk (by rw [if_neg (by omega), if_neg (by omega), if_pos rfl]) hrx)
 refine D3 ?_
 focus (cases hJJ : J; all_goals (rw [hJJ] at hI; refine H3 rfl hI rfl rfl ?_))
 refine K4 ?_
 refine C4 (rC rfl (A2 rfl rfl)) (rT rfl) (rT rfl) ?_
 (exact Q9.mk (by rw [if_neg (by omega), if_neg (by omega), if_neg (by decide), if_pos rfl]; rfl) (L7 _))
 refine I6 ?_
 focus (rw [hSm hJJ hDD] at hTS; by_cases hfk : afk = tk; rw [decide_eq_true hfk] at hTS; rotate_left; rw [decide_eq_false hfk] at hTS; rotate_left; all_goals (refine H3 rfl hTS rfl rfl ?_))
 refine D3 ?_
 (have hq1 := h14 (hjk (by assumption)); obtain ⟨bq, oq, e3, rfl, hl3, hat3, hre3, hgb3⟩ := hasl.kidTm hakl (i := 0) (by omega) (by omega); have ho3 := hre3.one; refine sP (B3 (j := 0) rfl rfl rfl (by omega)) rfl rfl ?_)
 refine sL (A1 rfl rfl (hat3 _) hl3) rfl rfl ?_
 refine sS rfl rfl rfl hl3 ho3 rfl ?_ (hu := by exact C3 hl3.symm)
 refine C2 ?_
 refine C4 (rC rfl (A1 rfl rfl (A9 (by repeat first | exact mH | apply mT)) hl3)) (rT rfl) (rT rfl) ?_
 (exact Q9.mk (by rw [if_neg (by omega), if_neg (by omega), if_neg (by decide), if_neg (by decide), if_pos hfk, A2E (by omega)]) hre3)
 refine D3 ?_
 refine E1 E2 rfl ?_
 refine J5 (i := 0) (l' := [tt,ff,ff,ff,ff,ff]) rfl D5 (W1 rfl rfl) rfl (by kernel_rfl) rfl rfl ?_
 refine aP 1 rfl (B1 rfl) rfl ?_
 refine aL 2 rfl (C0 rfl rfl) rfl ?_
 refine A3 3 ?_
 refine J0 rfl ?_
 refine aP 4 rfl (qA rfl) rfl ?_
 refine aP 5 rfl (qA rfl) rfl ?_
 refine C5 (nS (tT ?_))
 refine C4 (rC rfl (A2 rfl rfl)) (rT rfl) (rT rfl) ?_
 (exact Q9.mk (by rw [if_neg (by omega), if_neg (by omega), if_neg (by decide), if_neg (by decide), if_neg hfk]) (L7 _))
theorem A9F (k : Int) (a b : Tm) (nm : ByteArray) (num : Int) (ty fr : Ty) (lb : Int) (G : IM) (cells : List Value) (hk1 : k = 7 ∨ k = 8) (hca : cv a) (hr : A8 G (.mk k nm num ty fr lb [a, b]) cells) : Fn Tryz.prog 221 [.agg ⟨cells⟩] [] G (Q9 (Y9 k ty fr lb [a, b])) := by
 have hR : Y9 k ty fr lb [a, b] = S8 := by unfold Y9; rw [if_neg (by omega), if_neg (by omega), if_neg (by omega)]
 rw [hR]
 obtain ⟨ak, anm, anum, ⟨atk, atks⟩, ⟨afk, afks⟩, alb, aks⟩ := a
 obtain ⟨hN, hkk⟩ := hca.node
 have hops := hN.ops
 have hbl := hN.lbB
 have htyA := hN.tyA
 have hfrA := hN.frA
 rw [E5] at htyA hfrA
 have h14 : ak = 14 → aks.length = 1 := fun h => by rw [h] at hops; have : C7 14 = 1 := rfl; omega
 obtain ⟨tk, tks⟩ := ty
 obtain ⟨fk, fks⟩ := fr
 obtain ⟨pt, ct, pf, cf, p, c, es, rfl, hk, hnum, hlb, hty, hfr, hsl, hkl⟩ := hr.open9
 obtain ⟨bx, ox, e0, rfl, hl0, hat0, hre0, hgb0⟩ := hsl.kidTm hkl (i := 0) (by simp) (by simp)
 replace hre0 : A8 G (Tm.mk ak anm anum (.mk atk atks) (.mk afk afks) alb aks) e0 := hre0
 have hP : Fn Tryz.prog 111 [.agg ⟨e0⟩] [] G (H0 (.bool (decide (ak = 14 ∧ afk = atk ∧ (atk = 4 ∨ atk = 5)))) G) := A2D _ G _ hre0
 have hI := A33 _ G _ hre0
 have ho0 := hre0.one
 obtain ⟨apt, act, apf, acf, ap, ac, aes, rfl, hak, hanum, halb, haty, hafr, hasl, hakl⟩ := hre0.open9
 have hfk64 : E6 fk := by obtain ⟨_, _, _, _, h, _⟩ := hfr.open; exact h
 have htk64 : E6 tk := by obtain ⟨_, _, _, _, h, _⟩ := hty.open; exact h
 obtain ⟨tes, htS, htL⟩ := haty.kids
 obtain ⟨fes, hfS, hfL⟩ := hafr.kids
 simp only [Ty.ks] at htS htL hfS hfL
 refine B2 Tryz.func221 rfl Tryz.ntmps221 Tryz.results221 rfl ?_
 intro w0
 refine tS (tR ?_)
 refine sE (B9 rfl rfl) rfl (fun b3 => ?_)
 refine sE (A5 rfl) rfl (fun b4 => ?_)
 refine D3 ?_
 refine sP (B3 (j := 0) rfl rfl rfl (by simp)) rfl rfl ?_
 refine sL (A1 rfl rfl (hat0 _) rfl) rfl rfl ?_
 refine sE (A5 rfl) rfl (fun b15 => ?_)
 refine F9 ?_
 refine sD (nS (tS ?_))
 refine B4 ?_
 refine tS (tR (sQ (B1 rfl) rfl (sL (C0 rfl rfl) rfl rfl ?_)))
 refine sP (H4 rfl rfl (by omega)) rfl rfl ?_
 refine V6 ?_
 refine sP (H4 rfl rfl (by omega)) rfl rfl ?_
 refine K3 ?_
 refine sP (H4 rfl rfl (by omega)) rfl rfl ?_
 refine A0q ?_
 refine sP (A0f rfl rfl (by omega)) rfl rfl ?_
 refine H9 ?_
 refine C4 (rC rfl (A2 rfl rfl)) (rT rfl) (rT rfl) ?_
 (exact Q9.mk rfl (L7 _))
theorem B4u (a b c0 : Tm) (nm : ByteArray) (num : Int) (ty fr : Ty) (lb : Int) (G : IM) (cells : List Value) (hca : cv a) (hr : A8 G (.mk 9 nm num ty fr lb [a, b, c0]) cells) : Fn Tryz.prog 221 [.agg ⟨cells⟩] [] G (Q9 (Y9 9 ty fr lb [a, b, c0])) := by
 have hR : Y9 9 ty fr lb [a, b, c0] = S8 := by unfold Y9; rw [if_neg (by omega), if_neg (by omega), if_neg (by omega)]
 rw [hR]
 obtain ⟨ak, anm, anum, ⟨atk, atks⟩, ⟨afk, afks⟩, alb, aks⟩ := a
 obtain ⟨hN, hkk⟩ := hca.node
 have hops := hN.ops
 have hbl := hN.lbB
 have htyA := hN.tyA
 have hfrA := hN.frA
 rw [E5] at htyA hfrA
 have h14 : ak = 14 → aks.length = 1 := fun h => by rw [h] at hops; have : C7 14 = 1 := rfl; omega
 obtain ⟨tk, tks⟩ := ty
 obtain ⟨fk, fks⟩ := fr
 obtain ⟨pt, ct, pf, cf, p, c, es, rfl, hk, hnum, hlb, hty, hfr, hsl, hkl⟩ := hr.open9
 obtain ⟨bx, ox, e0, rfl, hl0, hat0, hre0, hgb0⟩ := hsl.kidTm hkl (i := 0) (by simp) (by simp)
 replace hre0 : A8 G (Tm.mk ak anm anum (.mk atk atks) (.mk afk afks) alb aks) e0 := hre0
 have hP : Fn Tryz.prog 111 [.agg ⟨e0⟩] [] G (H0 (.bool (decide (ak = 14 ∧ afk = atk ∧ (atk = 4 ∨ atk = 5)))) G) := A2D _ G _ hre0
 have hI := A33 _ G _ hre0
 have ho0 := hre0.one
 obtain ⟨apt, act, apf, acf, ap, ac, aes, rfl, hak, hanum, halb, haty, hafr, hasl, hakl⟩ := hre0.open9
 have hfk64 : E6 fk := by obtain ⟨_, _, _, _, h, _⟩ := hfr.open; exact h
 have htk64 : E6 tk := by obtain ⟨_, _, _, _, h, _⟩ := hty.open; exact h
 obtain ⟨tes, htS, htL⟩ := haty.kids
 obtain ⟨fes, hfS, hfL⟩ := hafr.kids
 simp only [Ty.ks] at htS htL hfS hfL
 refine B2 Tryz.func221 rfl Tryz.ntmps221 Tryz.results221 rfl ?_
 intro w0
 refine tS (tR ?_)
 refine sE (B9 rfl rfl) rfl (fun b3 => ?_)
 refine sE (A5 rfl) rfl (fun b4 => ?_)
 refine D3 ?_
 refine sP (B3 (j := 0) rfl rfl rfl (by simp)) rfl rfl ?_
 refine sL (A1 rfl rfl (hat0 _) rfl) rfl rfl ?_
 refine sE (A5 rfl) rfl (fun b15 => ?_)
 refine F9 ?_
 refine sD (nS (tS ?_))
 refine B4 ?_
 refine tS (tR (sQ (B1 rfl) rfl (sL (C0 rfl rfl) rfl rfl ?_)))
 refine sP (H4 rfl rfl (by omega)) rfl rfl ?_
 refine V6 ?_
 refine sP (H4 rfl rfl (by omega)) rfl rfl ?_
 refine K3 ?_
 refine sP (H4 rfl rfl (by omega)) rfl rfl ?_
 refine A0q ?_
 refine sP (A0f rfl rfl (by omega)) rfl rfl ?_
 refine H9 ?_
 refine C4 (rC rfl (A2 rfl rfl)) (rT rfl) (rT rfl) ?_
 (exact Q9.mk rfl (L7 _))
theorem B4v (nm : ByteArray) (num : Int) (ty fr : Ty) (lb : Int) (G : IM) (cells : List Value) (hr : A8 G (.mk 1 nm num ty fr lb []) cells) : Fn Tryz.prog 220 [.agg ⟨cells⟩] [] G (R9 (P2 1 [])) := by
 rw [show P2 1 [] = none from rfl]
 obtain ⟨tk, tks⟩ := ty
 obtain ⟨fk, fks⟩ := fr
 obtain ⟨pt, ct, pf, cf, p, c, es, rfl, hk, hnum, hlb, hty, hfr, hsl, hkl⟩ := hr.open9
 have hL : ([] : List Tm).length = 0 := rfl
 refine B2 Tryz.func220 rfl Tryz.ntmps220 Tryz.results220 rfl ?_
 intro w0
 refine tS (tR ?_)
 refine sE (B9 rfl rfl) rfl (fun b3 => ?_)
 refine sE (A5 rfl) rfl (fun b4 => ?_)
 refine J8 ?_
 refine sE (A5 rfl) rfl (fun b11 => ?_)
 refine D4 ?_
 refine sP (B1U rfl rfl (by omega)) rfl rfl ?_
 refine N6 ?_
 refine B4 ?_
 refine tS (tR ?_)
 refine sP (H4 rfl rfl (by omega)) rfl rfl ?_
 refine sQ (qA rfl) rfl (sD (nS (cF rfl (tS (tS (tR ?_))))))
 refine sP (H4 rfl rfl (by omega)) rfl rfl ?_
 refine sQ (qA rfl) rfl (sD (nS (cF rfl (tR ?_))))
 refine sP (H4 rfl rfl (by omega)) rfl rfl ?_
 refine sQ (qA rfl) rfl (sD (nS (cF rfl (tS (tR ?_)))))
 refine sP (H4 rfl rfl (by omega)) rfl rfl ?_
 refine sQ (qA rfl) rfl (sD (nS (cF rfl (tS (tS (tR ?_))))))
 refine sP (H4 rfl rfl (by omega)) rfl rfl ?_
 refine sQ (qA rfl) rfl (sD (nS (cF rfl (tR ?_))))
 refine sP (H4 rfl rfl (by omega)) rfl rfl ?_
 refine H9 ?_
 refine I2 (rC rfl (A2 rfl rfl)) (rT rfl) ?_
 (exact R9.no rfl (L7 _))
theorem B4w (a : Tm) (nm : ByteArray) (num : Int) (ty fr : Ty) (lb : Int) (G : IM) (cells : List Value) (hr : A8 G (.mk 14 nm num ty fr lb [a]) cells) : Fn Tryz.prog 220 [.agg ⟨cells⟩] [] G (R9 (P2 14 [a])) := by
 rw [show P2 14 [a] = none from rfl]
 obtain ⟨tk, tks⟩ := ty
 obtain ⟨fk, fks⟩ := fr
 obtain ⟨pt, ct, pf, cf, p, c, es, rfl, hk, hnum, hlb, hty, hfr, hsl, hkl⟩ := hr.open9
 obtain ⟨bx, ox, e0, rfl, hl0, hat0, hre0, hgb0⟩ := hsl.kidTm hkl (i := 0) (by simp) (by simp)
 have ho0 : e0.all (·.oneCell') = true := (show A8 G a e0 from hre0).one
 refine B2 Tryz.func220 rfl Tryz.ntmps220 Tryz.results220 rfl ?_
 intro w0
 refine tS (tR ?_)
 refine sE (B9 rfl rfl) rfl (fun b3 => ?_)
 refine sE (A5 rfl) rfl (fun b4 => ?_)
 refine J8 ?_
 refine sE (A5 rfl) rfl (fun b11 => ?_)
 refine D4 ?_
 refine sB (X6 rfl rfl) rfl rfl (fun h21 => ?_) (fun h21 => ?_)
 refine J8 ?_
 refine sP (B3 (j := 0) rfl rfl rfl (by simp)) rfl rfl ?_
 refine sL (A1 rfl rfl (hat0 _) hl0) rfl rfl ?_
 refine sS rfl rfl rfl hl0 ho0 rfl ?_ (hu := by exact C3 hl0.symm)
 refine D4 ?_
 refine B4 ?_
 refine tS (tR ?_)
 refine sP (H4 rfl rfl (by omega)) rfl rfl ?_
 refine sQ (qA rfl) rfl (sD (nS (cF rfl (tS (tS (tR ?_))))))
 refine sP (H4 rfl rfl (by omega)) rfl rfl ?_
 refine sQ (qA rfl) rfl (sD (nS (cF rfl (tR ?_))))
 refine sP (H4 rfl rfl (by omega)) rfl rfl ?_
 refine sQ (qA rfl) rfl (sD (nS (cF rfl (tS (tR ?_)))))
 refine sP (H4 rfl rfl (by omega)) rfl rfl ?_
 refine sQ (qA rfl) rfl (sD (nS (cF rfl (tS (tS (tR ?_))))))
 refine sP (H4 rfl rfl (by omega)) rfl rfl ?_
 refine sQ (qA rfl) rfl (sD (nS (cF rfl (tR ?_))))
 refine sP (H4 rfl rfl (by omega)) rfl rfl ?_
 refine H9 ?_
 refine I2 (rC rfl (A2 rfl rfl)) (rT rfl) ?_
 (exact R9.no rfl (L7 _))
 refine N6 ?_
 refine B4 ?_
 refine tS (tR ?_)
 refine sP (H4 rfl rfl (by omega)) rfl rfl ?_
 refine sQ (qA rfl) rfl (sD (nS (cF rfl (tS (tS (tR ?_))))))
 refine sP (H4 rfl rfl (by omega)) rfl rfl ?_
 refine sQ (qA rfl) rfl (sD (nS (cF rfl (tR ?_))))
 refine sP (H4 rfl rfl (by omega)) rfl rfl ?_
 refine sQ (qA rfl) rfl (sD (nS (cF rfl (tS (tR ?_)))))
 refine sP (H4 rfl rfl (by omega)) rfl rfl ?_
 refine sQ (qA rfl) rfl (sD (nS (cF rfl (tS (tS (tR ?_))))))
 refine sP (H4 rfl rfl (by omega)) rfl rfl ?_
 refine sQ (qA rfl) rfl (sD (nS (cF rfl (tR ?_))))
 refine sP (H4 rfl rfl (by omega)) rfl rfl ?_
 refine H9 ?_
 refine I2 (rC rfl (A2 rfl rfl)) (rT rfl) ?_
 (exact R9.no rfl (L7 _))
theorem ks1 {ks : List Tm} (h : ks.length = 1) : ∃ a, ks = [a] := by
 match ks, h with
 | [a], _ => exact ⟨a, rfl⟩
theorem ks2 {ks : List Tm} (h : ks.length = 2) : ∃ a b, ks = [a, b] := by
 match ks, h with
 | [a, b], _ => exact ⟨a, b, rfl⟩
theorem ks3 {ks : List Tm} (h : ks.length = 3) : ∃ a b c, ks = [a, b, c] := by
 match ks, h with
 | [a, b, c], _ => exact ⟨a, b, c, rfl⟩
theorem A9G {k : Int} {nm : ByteArray} {num : Int} {ty fr : Ty} {lb : Int} {ks : List Tm} {G : IM} {cells : List Value} (hc : cv (.mk k nm num ty fr lb ks)) (hk : k = 1 ∨ k = 6 ∨ k = 7 ∨ k = 8 ∨ k = 9 ∨ k = 11 ∨ k = 12 ∨ k = 14) (hr : A8 G (.mk k nm num ty fr lb ks) cells) :
  Fn Tryz.prog 220 [.agg ⟨cells⟩] [] G (R9 (P2 k ks)) := by
 obtain ⟨hN, hkk⟩ := hc.node
 have hops := hN.ops
 rcases hk with rfl | rfl | rfl | rfl | rfl | rfl | rfl | rfl
 ·obtain rfl : ks = [] := List.length_eq_zero_iff.1 (by have : C7 1 = 0 := rfl; omega)
  exact B4v _ _ _ _ _ _ _ hr
 ·obtain ⟨a, b, rfl⟩ := ks2 (ks := ks) (by have : C7 6 = 2 := rfl; omega)
  exact B4n a b _ _ _ _ _ _ _ (hkk a (by simp)) hr
 ·obtain ⟨a, b, rfl⟩ := ks2 (ks := ks) (by have : C7 7 = 2 := rfl; omega)
  exact A9B 7 a b _ _ _ _ _ _ _ (.inl rfl) (hkk a (by simp)) (hkk b (by simp)) hr
 ·obtain ⟨a, b, rfl⟩ := ks2 (ks := ks) (by have : C7 8 = 2 := rfl; omega)
  exact A9B 8 a b _ _ _ _ _ _ _ (.inr rfl) (hkk a (by simp)) (hkk b (by simp)) hr
 ·obtain ⟨a, b, c, rfl⟩ := ks3 (ks := ks) (by have : C7 9 = 3 := rfl; omega)
  exact B4o a b c _ _ _ _ _ _ _ hr
 ·obtain ⟨a, rfl⟩ := ks1 (ks := ks) (by have : C7 11 = 1 := rfl; omega)
  exact A9C 11 a _ _ _ _ _ _ _ (.inl rfl) (hkk a (by simp)) hr
 ·obtain ⟨a, rfl⟩ := ks1 (ks := ks) (by have : C7 12 = 1 := rfl; omega)
  exact A9C 12 a _ _ _ _ _ _ _ (.inr rfl) (hkk a (by simp)) hr
 ·obtain ⟨a, rfl⟩ := ks1 (ks := ks) (by have : C7 14 = 1 := rfl; omega)
  exact B4w a _ _ _ _ _ _ _ hr
theorem B4x {k : Int} {nm : ByteArray} {num : Int} {ty fr : Ty} {lb : Int} {ks : List Tm} {G : IM} {cells : List Value} (hc : cv (.mk k nm num ty fr lb ks)) (hk : k = 6 ∨ k = 7 ∨ k = 8 ∨ k = 9 ∨ k = 11 ∨ k = 12 ∨ k = 14) (hr : A8 G (.mk k nm num ty fr lb ks) cells) :
  Fn Tryz.prog 221 [.agg ⟨cells⟩] [] G (Q9 (Y9 k ty fr lb ks)) := by
 obtain ⟨hN, hkk⟩ := hc.node
 have hops := hN.ops
 rcases hk with rfl | rfl | rfl | rfl | rfl | rfl | rfl
 ·obtain ⟨a, b, rfl⟩ := ks2 (ks := ks) (by have : C7 6 = 2 := rfl; omega)
  exact B4q a b _ _ _ _ _ _ _ (hkk a (by simp)) hr
 ·obtain ⟨a, b, rfl⟩ := ks2 (ks := ks) (by have : C7 7 = 2 := rfl; omega)
  exact A9F 7 a b _ _ _ _ _ _ _ (.inl rfl) (hkk a (by simp)) hr
 ·obtain ⟨a, b, rfl⟩ := ks2 (ks := ks) (by have : C7 8 = 2 := rfl; omega)
  exact A9F 8 a b _ _ _ _ _ _ _ (.inr rfl) (hkk a (by simp)) hr
 ·obtain ⟨a, b, c, rfl⟩ := ks3 (ks := ks) (by have : C7 9 = 3 := rfl; omega)
  exact B4u a b c _ _ _ _ _ _ _ (hkk a (by simp)) hr
 ·obtain ⟨a, rfl⟩ := ks1 (ks := ks) (by have : C7 11 = 1 := rfl; omega)
  exact A9E 11 a _ _ _ _ _ _ _ (.inl rfl) (hkk a (by simp)) hr
 ·obtain ⟨a, rfl⟩ := ks1 (ks := ks) (by have : C7 12 = 1 := rfl; omega)
  exact A9E 12 a _ _ _ _ _ _ _ (.inr rfl) (hkk a (by simp)) hr
 ·obtain ⟨a, rfl⟩ := ks1 (ks := ks) (by have : C7 14 = 1 := rfl; omega)
  exact B4t a _ _ _ _ _ _ _ (hkk a (by simp)) hN.lbB hr
theorem A5d (n : Nat) (t : Tm) (ts : List Tm) : V8 (n + 1) (t :: ts) = if C8 t = true then (match V8 n ts with | some (us, c, l) => some (t :: us, c, l) | none => none) else some ((H7 t).1 :: ts, (H7 t).2.1, (H7 t).2.2) := by
 rw [V8]; rfl
theorem A9H : ∀ (n : Nat) (ks : List Tm), (∀ i, i < n → (h : i < ks.length) → C8 ks[i] = true) → V8 n ks = none
 | n, [], _ => by cases n <;> rfl
 | 0, t :: ts, _ => rfl
 | n + 1, t :: ts, h => by
  rw [A5d, if_pos (show C8 t = true from h 0 (by omega) (by simp)), A9H n ts (fun i hi hl => h (i + 1) (by omega) (by simpa using hl))]
theorem A9I : ∀ (n : Nat) (ks : List Tm) (i : Nat) (hi : i < ks.length), i < n → (∀ j, j < i → (h : j < ks.length) → C8 ks[j] = true) → C8 ks[i] = false → V8 n ks = some (ks.set i (H7 ks[i]).1, (H7 ks[i]).2.1, (H7 ks[i]).2.2)
 | n, [], i, hi, _, _, _ => by simp at hi
 | 0, t :: ts, i, _, hn, _, _ => by omega
 | n + 1, t :: ts, 0, _, _, _, hv => by
  rw [A5d, if_neg (by rw [show C8 t = false from hv]; decide)]; rfl
 | n + 1, t :: ts, i + 1, hi, hn, hj, hv => by
  rw [A5d, if_pos (show C8 t = true from hj 0 (by omega) (by simp)), A9I n ts i (by simpa using hi) (by omega) (fun j hji hl => hj (j + 1) (by omega) (by simpa using hl)) hv]
  rfl
theorem B4y {k : Int} {ty fr : Ty} {lb : Int} {ks : List Tm} (h : (Q7 k ty fr lb ks).2.1 = 1) : (Q7 k ty fr lb ks).2.2 = 0 := by
 revert h
 unfold Q7 S8
 repeat' split
 all_goals first | (intro _; rfl) | (intro h; exfalso; revert h; simp)
theorem B4z {k : Int} {nm : ByteArray} {num : Int} {ty fr : Ty} {lb : Int} {ks : List Tm} (h : (H7 (.mk k nm num ty fr lb ks)).2.1 = 1) : (H7 (.mk k nm num ty fr lb ks)).2.2 = 0 := by
 rw [H7] at h ⊢
 cases hL : V8 (if k = 9 then 1 else ks.length) ks with
 | none => rw [hL] at h; exact B4y h
 | some p =>
  obtain ⟨us, c, l⟩ := p
  rw [hL] at h
  simp only at h ⊢
  by_cases hc : c = 1
  ·rw [if_pos hc]
  ·rw [if_neg hc] at h; exact absurd h hc
theorem B4A {t : Tm} (h : (H7 t).2.1 = 1) : (H7 t).2.2 = 0 := by cases t; exact B4z h
theorem B4B {k : Int} {nm : ByteArray} {num : Int} {ty fr : Ty} {lb : Int} {ks : List Tm} {i : Nat} (hi : i < ks.length) (hn : i < (if k = 9 then 1 else ks.length)) (hj : ∀ j, j < i → (h : j < ks.length) → C8 ks[j] = true) (hv : C8 ks[i] = false) :
  (H7 (.mk k nm num ty fr lb ks)).2.1 = (H7 ks[i]).2.1 ∧ (H7 (.mk k nm num ty fr lb ks)).2.2 = (H7 ks[i]).2.2 ∧ ((H7 ks[i]).2.1 = 1 → (H7 (.mk k nm num ty fr lb ks)).1 = .mk k nm num ty fr lb (ks.set i (H7 ks[i]).1)) := by
 rw [H7, A9I _ ks i hi hn hj hv]
 simp only
 by_cases hc : (H7 ks[i]).2.1 = 1
 ·rw [if_pos hc]
  exact ⟨hc.symm, (B4A hc).symm, fun _ => rfl⟩
 ·rw [if_neg hc]
  exact ⟨rfl, rfl, fun h => absurd h hc⟩
theorem B4C {k : Int} {nm : ByteArray} {num : Int} {ty fr : Ty} {lb : Int} {ks : List Tm} (h : ∀ i, i < (if k = 9 then 1 else ks.length) → (hl : i < ks.length) → C8 ks[i] = true) : H7 (.mk k nm num ty fr lb ks) = match P2 k ks with | some u => (u, 1, 0) | none => Y9 k ty fr lb ks := by
 rw [H7, A9H _ _ h]
 exact B4p k ty fr lb ks
theorem A5e {k : Int} (h : 0 ≤ C7 k) : 1 ≤ k ∧ k ≤ 14 := by
 by_cases hk : 1 ≤ k ∧ k ≤ 14
 ·exact hk
 ·rw [A4v hk] at h; omega
theorem A6J {k : Int} {nm : ByteArray} {num : Int} {ty fr : Ty} {lb : Int} {ks : List Tm} (hc : cv (.mk k nm num ty fr lb ks)) (hv : C8 (.mk k nm num ty fr lb ks) = false) (h : ∀ i, i < (if k = 9 then 1 else ks.length) → (hl : i < ks.length) → C8 ks[i] = true) : k = 1 ∨ k = 6 ∨ k = 7 ∨ k = 8 ∨ k = 9 ∨ k = 11 ∨ k = 12 ∨ k = 14 := by
 obtain ⟨hN, _⟩ := hc.node
 have hr := A5e (by rw [hN.ops]; omega : 0 ≤ C7 k)
 have h13 := hN.ne
 have h25 : ¬(k = 2 ∨ k = 3 ∨ k = 4 ∨ k = 5) := by
  intro hk
  rw [C8, if_neg (by omega)] at hv
  rw [decide_eq_true hk] at hv
  cases hv
 have h10 : k ≠ 10 := by
  rintro rfl
  rw [A34 (.inl rfl), List.all_eq_false] at hv
  obtain ⟨t, ht, hn⟩ := hv
  obtain ⟨i, hi, rfl⟩ := List.mem_iff_getElem.1 ht
  exact hn (h i (by rw [if_neg (by decide)]; exact hi) hi)
 omega
theorem A9J (t : Tm) (G : IM) (cells : List Value) (hr : A8 G t cells) : Fn Tryz.prog 218 [.agg ⟨cells⟩] [] G (H0 (.int .i64 ((if t.k = 9 then 1 else t.ks.length : Nat) : Int)) G) := by
 obtain ⟨k, nm, num, ⟨tk, tks⟩, ⟨fk, fks⟩, lb, ks⟩ := t
 obtain ⟨pt, ct, pf, cf, p, c, es, rfl, hk, hnum, hlb, hty, hfr, hsl, hkl⟩ := hr.open9
 rw [show (Tm.mk k nm num (.mk tk tks) (.mk fk fks) lb ks).k = k from rfl, show (Tm.mk k nm num (.mk tk tks) (.mk fk fks) lb ks).ks = ks from rfl]
 refine B2 Tryz.func218 rfl Tryz.ntmps218 Tryz.results218 rfl ?_
 intro w0
 refine tS (tR ?_)
 refine sE (B9 rfl rfl) rfl (fun b3 => ?_)
 refine D3 ?_
 refine sB (qE rfl rfl) rfl rfl (fun h12 => ?_) (fun h12 => ?_)
 refine I6 ?_
 (exact ⟨rfl, by rw [if_pos (by omega)]; rfl, rfl⟩)
 refine H9 ?_
 (exact ⟨rfl, by rw [if_neg (by omega)], rfl⟩)
theorem B4D {k : Int} (h8 : k = 1 ∨ k = 6 ∨ k = 7 ∨ k = 8 ∨ k = 9 ∨ k = 11 ∨ k = 12 ∨ k = 14) (h : C7 k = 0) : k = 1 := by
 rcases h8 with rfl | rfl | rfl | rfl | rfl | rfl | rfl | rfl
 ·rfl
 all_goals exact absurd h (by decide)
theorem A6K {G : IM} {r r' : Stp} {u : Tm} {cells : List Value} {c l : Int} (h1 : r.2.1 = c) (h2 : r.2.2 = l) (hr : A8 G u cells) (h3 : c = 1 → u = r.1) : Q9 r G (.tuple ⟨[.agg ⟨cells⟩, .int .i64 c, .int .i64 l]⟩) [] := by
 subst h1 h2; exact ⟨rfl, u, cells, rfl, hr, h3⟩
theorem B4E : ∀ (t : Tm) (G : IM) (cells : List Value), cv t → C8 t = false → A8 G t cells → Fn Tryz.prog 169 [.agg ⟨cells⟩] [] G (Q9 (H7 t)) := by
 refine Tm.ind fun k nm num ty fr lb ks ih G cells hc hv hr => ?_
 have hr0 := hr
 have hN := hc.node.1
 have hkk := hc.node.2
 have hsm := A12 _ hc
 obtain ⟨_, _, _, _, hksm⟩ := A0y.1 hsm
 have hops := hN.ops
 have hle3 := A1L k
 have hkd := @A6J k nm num ty fr lb ks hc hv
 have hrd := @B4C k nm num ty fr lb ks
 have hkidS := fun (i : Nat) => @B4B k nm num ty fr lb ks i
 have hRA := fun h => @A9G k nm num ty fr lb ks G cells hc h hr
 have hCA := fun h (G1 : IM) (hle : B6 G G1) => @B4x k nm num ty fr lb ks G1 cells hc h (hr.mono hle)
 have hCt := A9J _ G _ hr
 rw [show (Tm.mk k nm num ty fr lb ks).k = k from rfl, show (Tm.mk k nm num ty fr lb ks).ks = ks from rfl] at hCt
 obtain ⟨C, hC⟩ : ∃ C : Nat, (if k = 9 then 1 else ks.length : Nat) = C := ⟨_, rfl⟩
 rw [hC] at hCt hkd hrd
 have hkidS' := fun (i : Nat) (hi : i < ks.length) (hn : i < C) => hkidS i hi (by rw [hC]; exact hn)
 have hC9 : C ≤ ks.length := by rw [← hC]; split; (have : C7 k = 3 := by (rename_i h9; rw [h9]; rfl)); omega; omega
 have hrul := hkd
 obtain ⟨tk, tks⟩ := ty
 obtain ⟨fk, fks⟩ := fr
 obtain ⟨pt, ct, pf, cf, p, c, es, rfl, hk, hnum, hlb, hty, hfr, hsl, hkl⟩ := hr.open9
 have hn := hsl.le
 have hnc := hsl.sl.2.1
 refine B2 Tryz.func169 rfl Tryz.ntmps169 Tryz.results169 rfl ?_
 intro w0
 refine tS (tR ?_)
 refine sE (B9 rfl rfl) rfl (fun b3 => ?_)
 refine sE (A5 rfl) rfl (fun b4 => ?_)
 refine sQ (qA rfl) rfl (sQ (qA rfl) rfl (sD (nS (tS (tS ?_)))))
 refine E1 E2 rfl ?_
 refine J5 (i := 0) (l' := [tt,ff,ff,ff,ff,ff,ff]) rfl D5 (B1 rfl) rfl (by kernel_rfl) rfl rfl ?_
 refine aL 1 rfl (C0 rfl rfl) rfl ?_
 refine aL 2 rfl (A2 rfl rfl) rfl ?_
 refine aP 6 rfl (qM rfl) rfl ?_
 refine A3 3 ?_
 refine P6 rfl rfl (hCt) rfl rfl rfl ?_
 refine aP 4 rfl (A55 (l := C) rfl rfl rfl (by omega)) rfl ?_
 refine aP 5 rfl (pLn rfl rfl) rfl ?_
 refine C5 (nS ?_)
 refine B4 ?_
 (refine K9 (fun (i : Nat) => ⟨[(19, .int .i64 (i : Int)), (18, .int .i64 (C : Int)), (17, .slice p C c), (1, .pointer (some ⟨b3, 0, none⟩)), (2, .pointer (some ⟨b4, 0, none⟩))], [.blk b4 [.int .i64 0, .string ⟨⟨[]⟩⟩, .int .i64 0, .int .i64 0, .slice none 0 0, .int .i64 0, .slice none 0 0, .int .i64 0, .slice none 0 0], .blk b3 [.int .i64 k, .string nm, .int .i64 num, .int .i64 tk, .slice pt tks.length ct, .int .i64 fk, .slice pf fks.length cf, .int .i64 lb, .slice p ks.length c]], G⟩) (fun i => i ≤ C ∧ ∀ j, j < i → (h : j < ks.length) → C8 ks[j] = true) (fun i => C - i) 0 ?_ ?_ ?_)
 exact D1
 (exact ⟨Nat.zero_le _, fun j hj => absurd hj (Nat.not_lt_zero j)⟩)
 (rintro i ⟨hi, hj⟩)
 refine tS (tR ?_)
 refine sB (K6 rfl rfl) rfl rfl (fun h29 => ?_) (fun h29 => ?_)
 refine sD (nS (tS (qT rfl (tK (nS (tS ?_))))))
 refine B4 ?_
 refine tS (tR (sQ (qM rfl) rfl ?_))
 (have hiC : i < C := (by omega); obtain ⟨bx, ox, e, rfl, hl, hat, hre, hgb⟩ := hsl.kidTm hkl (i := i) (by omega) (by omega); have heo := hre.one; have hVi := A5a ks[i] G e hre; refine sP (B3 (j := i) rfl rfl rfl hiC) rfl rfl ?_)
 refine sL (A1 rfl rfl (hat _) hl) rfl rfl ?_
 refine sE (A5 rfl) rfl (fun b43 => ?_)
 refine sQ (qA rfl) rfl ?_
 refine sS rfl rfl rfl hl heo rfl ?_ (hu := by exact C3 hl.symm)
 refine sD (nS (tS (tS (tR ?_))))
 refine sL (A1 rfl rfl (A9 (by repeat first | exact mH | apply mT)) hl) rfl rfl ?_
 refine D8 rfl (hVi) rfl rfl (fun h52 => ?_) (fun h52 => ?_)
 refine D3 ?_
 refine sP (K2 rfl rfl (by omega) (by omega)) rfl rfl ?_
 refine sQ (qM rfl) rfl (sD ?_)
 refine K7 (i + 1) ?_ ?_ ?_
 exact D1
 (exact ⟨by omega, fun j hji hl2 => (by by_cases he : j = i; (subst he; assumption); exact hj j (by omega) hl2)⟩)
 (show C - (i + 1) < C - i; omega)
 refine sD (nS (cF rfl (tK (nS (tS (tR ?_))))))
 refine sL (A1 rfl rfl (A9 (by repeat first | exact mH | apply mT)) hl) rfl rfl ?_
 (have hvF : C8 ks[i] = false := (by assumption); obtain ⟨hs1, hs2, hs3⟩ := hkidS' i (by omega) hiC (fun j hji hl2 => hj j hji hl2) hvF; refine E0 rfl (ih ks[i] (List.getElem_mem (by omega)) G e (hkk _ (List.getElem_mem (by omega))) hvF hre) rfl rfl (fun v G1 hle1 hh => ?_); obtain ⟨u, uc, rfl, hru, hu1⟩ := hh; have hul := hru.len; have huo := hru.one; have hClo := A9f G1 _ ks.length c es (hsl.mono hle1) (by omega) (by omega))
 refine F0 ?_
 refine sE (A5 rfl) rfl (fun b81 => ?_)
 refine sS rfl rfl rfl hul huo rfl ?_ (hu := by exact C3 hul.symm)
 refine C2 ?_
 refine sE (A5 rfl) rfl (fun b90 => ?_)
 refine C2 ?_
 (refine A2r rfl hClo rfl rfl (fun v98 G98 outs98 hle98 h98 => ?_); obtain ⟨hG, p1, c1, rfl, rfl⟩ := h98; replace hG := hG.symm; subst hG; refine A3R (cs := es.flatten) (by repeat (first | exact Pk.here | apply Pk.there)) (by omega) (fun bc Cc hpe hnc1 hcm => ?_); subst hpe)
 replace hru := hru.mono hle98
 refine D4 ?_
 refine sL (A1 rfl rfl (A9 (by repeat first | exact mH | apply mT)) hul) rfl rfl ?_
 refine sP (B3 (j := i) rfl rfl rfl (by omega)) rfl rfl ?_
 refine X7 rfl rfl rfl hul huo rfl (by repeat first | exact Sw.here | apply Sw.there) (by exact A3S (by rw [hkl.len]; omega) (fun e he => (hsl.all e he)) hul) ?_
 refine N6 ?_
 (refine A2P (bs := [(bc, (es.set i uc).flatten ++ Cc)]) (Pk.perm (by repeat (first | exact Pk.here | apply Pk.there))) (fun hn2 hd2 hle2 => ?_))
 refine tT (rB (rS (A2G (rB (rS ?_)))))
 refine C4 (rC rfl (A2 rfl rfl)) (rT rfl) (rT rfl) ?_
 (have hks2 := D7.set (j := i) ((hkl.mono hle1).mono hle2) (hru.mono hle2); refine A6K (r' := S8) hs1 hs2 (A8.put (us := ks.set i u) (es := es.set i uc) hk hnum hlb ((hty.mono hle1).mono hle2) ((hfr.mono hle1).mono hle2) (by rw [List.length_set]) (D0.of (Sl.of_blk (A := []) (by rw [A1d hks2.all, hks2.len, List.length_set]) (by omega) hcm (Wi.in hn2 List.mem_cons_self)) (by rw [hks2.len, List.length_set]) hks2.all (fun e he => by obtain ⟨q, hq⟩ := List.getElem?_of_mem he; exact (hks2.inv hq F4).2.one)) hks2) (fun h1 => by rw [hs3 h1, hu1 h1]))
 refine J9 ?_
 focus (have hall : ∀ i, i < C → (hl : i < ks.length) → C8 ks[i] = true := (fun j hjc hl2 => hj j (by omega) hl2); have hk8 := hkd hall; have hrd' := hrd hall; refine E0 rfl (hRA hk8) rfl rfl (fun v G1 hle1 hh => ?_); obtain ⟨u, uc, cc, rfl, hru, hy, hno⟩ := hh; have hul := hru.len; have huo := hru.one; rcases hm : P2 k ks with _ | x; rotate_left; obtain ⟨rfl, rfl⟩ := hy _ hm; rotate_left; obtain rfl := hno hm; rw [hm] at hrd')
 refine K3 ?_
 refine sE (A5 rfl) rfl (fun b149 => ?_)
 refine sS rfl rfl rfl hul huo rfl ?_ (hu := by exact C3 hul.symm)
 refine sQ (qA rfl) rfl (sD (nS (tS (tR (sQ (qM rfl) rfl ?_)))))
 refine sP (H4 rfl rfl (by omega)) rfl rfl ?_
 refine I6 ?_
 refine sB (qE rfl rfl) rfl rfl (fun h169 => ?_) (fun h169 => ?_)
 refine J9 ?_
 refine C4 (rC rfl (A2 rfl rfl)) (rT rfl) (rT rfl) ?_
 (obtain rfl : k = 1 := B4D hk8 (by omega); rw [hrd']; exact Q9.mk rfl (L7 _))
 refine D3 ?_
 (have hk7 : k = 6 ∨ k = 7 ∨ k = 8 ∨ k = 9 ∨ k = 11 ∨ k = 12 ∨ k = 14 := (by rcases hk8 with h1 | hh; (rw [h1] at hops; have : C7 1 = 0 := rfl; omega); exact hh); refine E0 rfl (hCA hk7 _ hle1) rfl rfl (fun v G2 hle2 hh => ?_); obtain ⟨w, wc, rfl, hrw, hw1⟩ := hh; have hwl := hrw.len; have hwo := hrw.one)
 refine K3 ?_
 refine sS rfl rfl rfl hwl hwo rfl ?_ (hu := by exact C3 hwl.symm)
 refine sQ (qA rfl) rfl (sQ (qA rfl) rfl (sD (nS (tT ?_))))
 refine C4 (rC rfl (A1 rfl rfl (A9 (by repeat first | exact mH | apply mT)) hwl)) (rT rfl) (rT rfl) ?_
 (rw [hrd']; exact A6K (r' := S8) rfl rfl hrw hw1)
 refine K3 ?_
 refine sE (A5 rfl) rfl (fun b208 => ?_)
 refine sS rfl rfl rfl hul huo rfl ?_ (hu := by exact C3 hul.symm)
 refine sQ (qA rfl) rfl (sD (nS (tS (tR (sQ (qM rfl) rfl ?_)))))
 refine sP (T5 rfl rfl (by omega)) rfl rfl ?_
 refine sD (nS (qT rfl (tS (tR ?_))))
 refine sL (A1 rfl rfl (A9 (by repeat first | exact mH | apply mT)) hul) rfl rfl ?_
 refine sQ (qM rfl) rfl ?_
 refine sS rfl rfl rfl hul huo rfl ?_ (hu := by exact C3 hul.symm)
 refine sQ (qA rfl) rfl (sQ (qA rfl) rfl (sD (nS (tT (rS ?_)))))
 refine C4 (rC rfl (A1 rfl rfl (A9 (by repeat first | exact mH | apply mT)) hul)) (rT rfl) (rT rfl) ?_
 (rw [hrd', hm]; exact Q9.mk rfl hru)
def K5 (r : Stp) : IM → Value → List A4 → Prop := L5 fun G' v => ∃ cells, v = .tuple ⟨[.agg ⟨cells⟩, .int .i64 r.2.1, .int .i64 r.2.2]⟩ ∧ A8 G' r.1 cells
theorem K5.mk {G : IM} {r : Stp} {u : Tm} {c l : Int} {cells : List Value} (h : r = (u, c, l)) (hr : A8 G u cells) : K5 r G (.tuple ⟨[.agg ⟨cells⟩, .int .i64 c, .int .i64 l]⟩) [] := by
 subst h; exact ⟨rfl, cells, rfl, hr⟩
theorem A28 {t : Tm} (h : J3 t = true) : t.small := A12 t (A0Q h).1
theorem A9K {e : Tm} (h : J3 e = false) : H5 e = (F4, 3, 0) := by unfold H5; rw [if_pos h]; rfl
theorem A5f {e : Tm} (h : J3 e = true) (h2 : C8 e = true) : H5 e = (e, 0, 0) := by unfold H5; rw [if_neg (by rw [h]; decide), if_pos h2]
theorem A9L {e : Tm} (h : J3 e = true) (h2 : C8 e = false) (h3 : (H7 e).2.1 ≠ 1) : H5 e = (F4, (H7 e).2.1, (H7 e).2.2) := by
 unfold H5; rw [if_neg (by rw [h]; decide), if_neg (by rw [h2]; decide), if_pos h3]
theorem A5g {e : Tm} (h : J3 e = true) (h2 : C8 e = false) (h3 : (H7 e).2.1 = 1) (h4 : J3 (H7 e).1 = false) : H5 e = (F4, 4, 0) := by
 unfold H5; rw [if_neg (by rw [h]; decide), if_neg (by rw [h2]; decide), if_neg (by omega), if_pos h4]
theorem A5h {e : Tm} (h : J3 e = true) (h2 : C8 e = false) (h3 : (H7 e).2.1 = 1) (h4 : J3 (H7 e).1 = true) : H5 e = ((H7 e).1, 1, 0) := by
 unfold H5; rw [if_neg (by rw [h]; decide), if_neg (by rw [h2]; decide), if_neg (by omega), if_neg (by rw [h4]; decide)]
theorem B4F (t : Tm) (G : IM) (cells : List Value) (hr : A8 G t cells) : Fn Tryz.prog 124 [.agg ⟨cells⟩] [] G (K5 (H5 t)) := by
 have hRl := hr.len
 have hRo := hr.one
 have hV := A4F t G cells hr
 have hI := A5a t G cells hr
 refine B2 Tryz.func124 rfl Tryz.ntmps124 Tryz.results124 rfl ?_
 intro w0
 refine tS (tR ?_)
 refine sE (B9 rfl rfl) rfl (fun b3 => ?_)
 refine sE (A5 rfl) rfl (fun b4 => ?_)
 refine sQ (qA rfl) rfl (sQ (qA rfl) rfl (sD (nS (tS ?_))))
 refine B4 ?_
 refine tS (tR ?_)
 refine sL (A1 rfl rfl (A9 (by repeat first | exact mH | apply mT)) hRl) rfl rfl ?_
 refine D8 rfl (hV) rfl rfl (fun h14 => ?_) (fun h14 => ?_)
 refine C2 ?_
 refine sL (A1 rfl rfl (A9 (by repeat first | exact mH | apply mT)) hRl) rfl rfl ?_
 refine D8 rfl (hI) rfl rfl (fun h23 => ?_) (fun h23 => ?_)
 refine sQ (qA rfl) rfl (sD (nS (qT rfl (tS (tR ?_)))))
 refine sL (A1 rfl rfl (A9 (by repeat first | exact mH | apply mT)) hRl) rfl rfl ?_
 (refine E0 rfl (A3L t G cells (A28 (by assumption)) hr) rfl rfl (fun v G1 hle1 hh => ?_); obtain ⟨cs1, F1, rfl, hs1, hn1⟩ := hh; have hul := hs1.R.len; have huo := hs1.R.one)
 refine sS rfl rfl rfl hul huo rfl ?_ (hu := by exact C3 hul.symm)
 refine C2 ?_
 refine C4 (rC rfl (A1 rfl rfl (A9 (by repeat first | exact mH | apply mT)) hul)) (rT rfl) (rT rfl) ?_
 (exact K5.mk (A5f (by assumption) (by assumption)) (hs1.R.mono (C1.le _ _)))
 refine D4 ?_
 refine sL (A1 rfl rfl (A9 (by repeat first | exact mH | apply mT)) hRl) rfl rfl ?_
 (refine E0 rfl (B4E t G cells (A0Q (by assumption)).1 (by assumption) hr) rfl rfl (fun v G1 hle1 hh => ?_); obtain ⟨u, uc, rfl, hru, hu1⟩ := hh; have hul := hru.len; have huo := hru.one; have hVu := A4F u G1 uc hru)
 refine F0 ?_
 refine sE (A5 rfl) rfl (fun b57 => ?_)
 refine sS rfl rfl rfl hul huo rfl ?_ (hu := by exact C3 hul.symm)
 refine sQ (qA rfl) rfl (sQ (qA rfl) rfl (sD (nS (tS ?_))))
 refine B4 ?_
 refine tS (tR (sQ (qM rfl) rfl ?_))
 refine sB (M7 rfl rfl) rfl rfl (fun h68 => ?_) (fun h68 => ?_)
 refine T0 ?_
 refine C4 (rC rfl (A2 rfl rfl)) (rT rfl) (rT rfl) ?_
 (exact K5.mk (A9L (by assumption) (by assumption) (by omega)) (L7 _))
 refine sQ (qA rfl) rfl (sD (nS (cF rfl (tS (tR ?_)))))
 refine sL (A1 rfl rfl (A9 (by repeat first | exact mH | apply mT)) hul) rfl rfl ?_
 refine D8 rfl (hVu) rfl rfl (fun h95 => ?_) (fun h95 => ?_)
 refine I9 ?_
 refine sL (A1 rfl rfl (A9 (by repeat first | exact mH | apply mT)) hul) rfl rfl ?_
 (refine E0 rfl (A3L u G1 uc (A28 (by assumption)) hru) rfl rfl (fun v G2 hle2 hh => ?_); obtain ⟨cs2, F2, rfl, hs2, hn2⟩ := hh; have hwl := hs2.R.len; have hwo := hs2.R.one)
 refine sS rfl rfl rfl hwl hwo rfl ?_ (hu := by exact C3 hwl.symm)
 refine sQ (qA rfl) rfl (sQ (qA rfl) rfl (sD (nS (tT ?_))))
 refine C4 (rC rfl (A1 rfl rfl (A9 (by repeat first | exact mH | apply mT)) hwl)) (rT rfl) (rT rfl) ?_
 (have h9 := hu1 (by omega); subst h9; exact K5.mk (A5h (by assumption) (by assumption) (by omega) (by assumption)) (hs2.R.mono (C1.le _ _)))
 refine K4 ?_
 refine C4 (rC rfl (A2 rfl rfl)) (rT rfl) (rT rfl) ?_
 (have h9 := hu1 (by omega); subst h9; exact K5.mk (A5g (by assumption) (by assumption) (by omega) (by assumption)) (L7 _))
 refine K4 ?_
 refine C4 (rC rfl (A2 rfl rfl)) (rT rfl) (rT rfl) ?_
 (exact K5.mk (A9K (by assumption)) (L7 _))
def P4 : Nat → Tm → Tm × Int × Int × Nat
 | 0, e => ((H5 e).1, (H5 e).2.1, (H5 e).2.2, 0)
 | n + 1, e => if (H5 e).2.1 = 1 then ((P4 n (H5 e).1).1, (P4 n (H5 e).1).2.1, (P4 n (H5 e).1).2.2.1, (P4 n (H5 e).1).2.2.2 + 1)
  else ((H5 e).1, (H5 e).2.1, (H5 e).2.2, 0)
theorem A6L (e : Tm) : P4 0 e = ((H5 e).1, (H5 e).2.1, (H5 e).2.2, 0) := by rw [P4]
theorem A6M {n : Nat} {e : Tm} (h : (H5 e).2.1 = 1) : P4 (n + 1) e = ((P4 n (H5 e).1).1, (P4 n (H5 e).1).2.1, (P4 n (H5 e).1).2.2.1, (P4 n (H5 e).1).2.2.2 + 1) := by rw [P4, if_pos h]
theorem A6N {n : Nat} {e : Tm} (h : (H5 e).2.1 ≠ 1) : P4 (n + 1) e = ((H5 e).1, (H5 e).2.1, (H5 e).2.2, 0) := by rw [P4, if_neg h]
theorem A9M : ∀ (n : Nat) (e : Tm), (P4 n e).2.1 = 1 → N4 n e = (F4, 5, 0, (P4 n e).2.2.2)
 | 0, e, h => by rw [A6L] at h ⊢; rw [N4, if_pos h]
 | n + 1, e, h => by
  by_cases h1 : (H5 e).2.1 = 1
  ·rw [A6M h1] at h ⊢
   rw [N4, if_pos h1, A9M n _ h]
  ·rw [A6N h1] at h; exact absurd h h1
theorem A9N : ∀ (n : Nat) (e : Tm), (P4 n e).2.1 ≠ 1 → N4 n e = P4 n e
 | 0, e, h => by rw [A6L] at h ⊢; rw [N4, if_neg h]
 | n + 1, e, h => by
  by_cases h1 : (H5 e).2.1 = 1
  ·rw [A6M h1] at h ⊢
   rw [N4, if_pos h1, A9N n _ h]
  ·rw [A6N h1]; rw [N4, if_neg h1]
def EvP (r : Tm × Int × Int × Nat) : IM → Value → List A4 → Prop := L5 fun G' v => ∃ cells, v = .tuple ⟨[.agg ⟨cells⟩, .int .i64 r.2.1, .int .i64 r.2.2.1, .int .i64 (r.2.2.2 : Int)]⟩ ∧ A8 G' r.1 cells
def W4 (i : Nat) (r : Tm × Int × Int × Nat) : Tm × Int × Int × Nat := (r.1, r.2.1, r.2.2.1, r.2.2.2 + i)
theorem B4G {m i : Nat} {e : Tm} (h : (H5 e).2.1 ≠ 1 ∨ m = 0) : W4 i (P4 m e) = ((H5 e).1, (H5 e).2.1, (H5 e).2.2, i) := by
 cases m with
 | zero => simp [W4, P4]
 | succ m =>
  rcases h with h | h
  ·simp only [W4, P4]; rw [if_neg h]; simp
  ·cases h
theorem B4H {m i : Nat} {e : Tm} (h : (H5 e).2.1 = 1) (hm : 0 < m) : W4 i (P4 m e) = W4 (i + 1) (P4 (m - 1) (H5 e).1) := by
 obtain ⟨k, rfl⟩ : ∃ k, m = k + 1 := ⟨m - 1, by omega⟩
 simp only [W4, P4]; rw [if_pos h]; simp only [Nat.add_sub_cancel, Nat.add_assoc, Nat.add_comm 1 i]
section fin
variable {P : Program} {Γ : M0} {env : M4} {hp : List A4} {G : IM}
theorem B4I {post : IM → Value → List A4 → Prop} {σ : Sy} (hk : post σ.G (.tuple ⟨[]⟩) []) : A0C P Γ [] post .normal σ := ⟨[], .nil, [], σ.hp, by simp, hk⟩
theorem A29 {r r2 r3 r4 : ResultVar} {post : IM → Value → List A4 → Prop} {v v2 v3 v4 : Value} (h : Z5 P Γ ⟨env, hp, G⟩ r v) (h2 : Z5 P Γ ⟨env, hp, G⟩ r2 v2) (h3 : Z5 P Γ ⟨env, hp, G⟩ r3 v3) (h4 : Z5 P Γ ⟨env, hp, G⟩ r4 v4) (hk : post G (.tuple ⟨[v, v2, v3, v4]⟩) []) :
  A0C P Γ [r, r2, r3, r4] post .ret ⟨env, hp, G⟩ := A4n (.cons h (.cons h2 (.cons h3 (.cons h4 .nil)))) hk
end fin
theorem EvP.mk {G : IM} {r : Tm × Int × Int × Nat} {u : Tm} {c l : Int} {i : Nat} {cells : List Value} (h : r = (u, c, l, i)) (hr : A8 G u cells) : EvP r G (.tuple ⟨[.agg ⟨cells⟩, .int .i64 c, .int .i64 l, .int .i64 (i : Int)]⟩) [] := by
 subst h; exact ⟨rfl, cells, rfl, hr⟩
theorem B4J (e : Tm) (n : Nat) (hn : n ≤ 300) (fid : FuncId) [B0 Tryz.prog fid] (us cs : List Value) (hq : ∀ (G : IM) (u : Tm) (cells : List Value), A8 G u cells → Fn Tryz.prog fid (us ++ [.agg ⟨cells⟩] ++ cs) [] G (H0 (.tuple ⟨[]⟩) G))
  (G : IM) (cells : List Value) (hr : A8 G e cells) : Fn Tryz.prog 54 [.agg ⟨cells⟩, .int .i64 (n : Int), .func (.func fid) ⟨us⟩ ⟨cs⟩] [] G (EvP (P4 n e)) := by
 have hRl := hr.len
 have hRo := hr.one
 have hq0 := hq G e cells hr
 refine B2 Tryz.func54 rfl Tryz.ntmps54 Tryz.results54 rfl ?_
 intro w0
 refine tS (tR ?_)
 refine sE (B9 rfl rfl) rfl (fun b3 => ?_)
 refine sE (A5 rfl) rfl (fun b4 => ?_)
 refine D3 ?_
 refine sL (A1 rfl rfl (A9 (by repeat first | exact mH | apply mT)) hRl) rfl rfl ?_
 (refine A7B rfl rfl hq0 rfl rfl ?_)
 refine sD (nS (tS (tR (sQ (qA rfl) rfl (sD (nS ?_))))))
 refine B4 ?_
 (refine K9 (fun (x : Nat × Tm × List Value × IM) => ⟨[(10, .int .i64 (x.1 : Int)), (1, .int .i64 (n : Int)), (2, .func (.func fid) ⟨us⟩ ⟨cs⟩), (3, .pointer (some ⟨b3, 0, none⟩)), (6, .pointer (some ⟨b4, 0, none⟩))], [.blk b3 x.2.2.1, .blk b4 [.int .i64 0, .string ⟨⟨[]⟩⟩, .int .i64 0, .int .i64 0, .slice none 0 0, .int .i64 0, .slice none 0 0, .int .i64 0, .slice none 0 0]], x.2.2.2⟩) (fun x => x.1 ≤ n ∧ B6 G x.2.2.2 ∧ A8 x.2.2.2 x.2.1 x.2.2.1 ∧ W4 x.1 (P4 (n - x.1) x.2.1) = P4 n e) (fun x => n - x.1) (0, e, cells, G) ?_ ?_ ?_)
 (simp only [J6]; exact D1)
 (exact ⟨Nat.zero_le _, B6.refl _, hr, rfl⟩)
 (rintro ⟨i, u, uc, Gi⟩ ⟨hi, hle, hru, hev⟩; simp only [] at hi hle hru hev ⊢; have hul := hru.len; have huo := hru.one)
 refine tS ?_
 refine B4 ?_
 refine tS (tR ?_)
 refine sL (A1 rfl rfl (A9 (by repeat first | exact mH | apply mT)) hul) rfl rfl ?_
 (refine E0 rfl (B4F u Gi uc hru) rfl rfl (fun v G1 hle1 hh => ?_); obtain ⟨wc, hv, hrw⟩ := hh; have hwl := hrw.len; have hwo := hrw.one; have hend := @B4G (n - i) i u; have hgo := @B4H (n - i) i u; generalize H5 u = r at hv hrw hend hgo; obtain ⟨w, c, l⟩ := r; simp only at hv hrw hend hgo; subst hv)
 refine F0 ?_
 refine sE (A5 rfl) rfl (fun b37 => ?_)
 refine sS rfl rfl rfl hwl hwo rfl ?_ (hu := by exact C3 hwl.symm)
 refine D3 ?_
 refine sB (M7 rfl rfl) rfl rfl (fun h47 => ?_) (fun h47 => ?_)
 refine I9 ?_
 refine sL (A1 rfl rfl (A9 (by repeat first | exact mH | apply mT)) hwl) rfl rfl ?_
 refine sQ (qM rfl) rfl (sQ (qM rfl) rfl (sQ (qM rfl) rfl ?_))
 refine sS rfl rfl rfl hwl hwo rfl ?_ (hu := by exact C3 hwl.symm)
 refine I6 ?_
 refine A29 (rC rfl (A1 rfl rfl (A9 (by repeat first | exact mH | apply mT)) hwl)) (rT rfl) (rT rfl) (rT rfl) ?_
 (exact EvP.mk (by rw [← hev]; exact hend (by omega)) hrw)
 refine sQ (qM rfl) rfl (sQ (qM rfl) rfl (sQ (qM rfl) rfl ?_))
 refine sB (qE rfl rfl) rfl rfl (fun h79 => ?_) (fun h79 => ?_)
 refine sQ (O3 rfl rfl) rfl (sD (nS (qT rfl (tS (tR ?_)))))
 refine sL (A1 rfl rfl (A9 (by repeat first | exact mH | apply mT)) hwl) rfl rfl ?_
 refine sQ (qM rfl) rfl (sQ (qM rfl) rfl (sQ (qM rfl) rfl ?_))
 refine sS rfl rfl rfl hwl hwo rfl ?_ (hu := by exact C3 hwl.symm)
 refine I6 ?_
 refine A29 (rC rfl (A1 rfl rfl (A9 (by repeat first | exact mH | apply mT)) hwl)) (rT rfl) (rT rfl) (rT rfl) ?_
 (exact EvP.mk (by rw [← hev]; exact hend (by omega)) hrw)
 refine D3 ?_
 refine sL (A1 rfl rfl (A9 (by repeat first | exact mH | apply mT)) hwl) rfl rfl ?_
 refine X7 rfl rfl rfl hwl hwo rfl (by repeat first | exact Sw.here | apply Sw.there) (by exact C3 (hul.trans hwl.symm)) ?_
 refine sD (nS (tR (sQ (qM rfl) rfl ?_)))
 refine sL (A1 rfl rfl (A9 (by repeat first | exact mH | apply mT)) hwl) rfl rfl ?_
 (refine A7B rfl rfl (hq G1 w wc hrw) rfl rfl ?_)
 refine sD (M8 (nS (tR (sQ (qM rfl) rfl ?_))))
 refine sP (K2 rfl rfl (by omega) (by omega)) rfl rfl ?_
 refine sQ (qA rfl) rfl (sD ?_)
 refine K7 (i + 1, w, wc, G1) ?_ ?_ ?_
 (simp only [J6]; exact D1)
 (dsimp only; exact ⟨by omega, hle.trans hle1, hrw, by rw [← hev, hgo (by omega) (by omega), show n - (i + 1) = n - i - 1 by omega]⟩)
 (show n - (i + 1) < n - i; omega)
theorem A9O (fuel : Int) (G : IM) : Fn Tryz.prog 53 [.int .i64 fuel] [] G (H0 (.bool (P8 fuel 0 300)) G) := by
 refine B2 Tryz.func53 rfl Tryz.ntmps53 Tryz.results53 rfl ?_
 intro w0
 refine D3 ?_
 refine H3 rfl ((A1f _ _ _ _)) rfl rfl ?_
 refine sQ (qA rfl) rfl (sD (nS (tT (D9 (rT rfl) ?_))))
 (exact ⟨rfl, rfl, rfl⟩)
theorem A9P {e : Tm} {fuel : Int} (h : P8 fuel 0 300 = false) : S3 e fuel = (F4, 3, 0) := by
 unfold S3; rw [if_neg (A5T h)]; rfl
theorem A9Q {e : Tm} {fuel : Int} (h : P8 fuel 0 300 = true) (h1 : (P4 fuel.toNat e).2.1 = 1) : S3 e fuel = (F4, 5, 0) := by
 unfold S3; rw [if_pos (A2Q h), A9M _ _ h1]
theorem A9R {e : Tm} {fuel : Int} (h : P8 fuel 0 300 = true) (h1 : (P4 fuel.toNat e).2.1 ≠ 1) : S3 e fuel = ((P4 fuel.toNat e).1, (P4 fuel.toNat e).2.1, (P4 fuel.toNat e).2.2.1) := by
 unfold S3; rw [if_pos (A2Q h), A9N _ _ h1]
theorem B4K (G : IM) (cells : List Value) (hl : cells.length = 9) (ho : cells.all (·.oneCell') = true) : Fn Tryz.prog 55 [.agg ⟨cells⟩] [] G (H0 (.tuple ⟨[]⟩) G) := by
 refine B2 Tryz.func55 rfl Tryz.ntmps55 Tryz.results55 rfl ?_
 intro w0
 refine tR ?_
 refine sE (B9 rfl rfl) rfl (fun b2 => ?_)
 refine sD ?_
 refine B4I ?_
 (exact ⟨rfl, rfl, rfl⟩)
theorem B4L (e : Tm) (fuel : Int) (G : IM) (cells : List Value) (hr : A8 G e cells) : Fn Tryz.prog 15 [.agg ⟨cells⟩, .int .i64 fuel] [] G (K5 (S3 e fuel)) := by
 have hRl := hr.len
 have hRo := hr.one
 have hno := @A9P e fuel
 have hmu := @A9Q e fuel
 have hen := @A9R e fuel
 refine B2 Tryz.func15 rfl Tryz.ntmps15 Tryz.results15 rfl ?_
 intro w0
 refine tS (tR ?_)
 refine sE (B9 rfl rfl) rfl (fun b3 => ?_)
 refine sE (A5 rfl) rfl (fun b4 => ?_)
 refine D3 ?_
 refine D8 rfl ((A9O fuel _)) rfl rfl (fun h13 => ?_) (fun h13 => ?_)
 refine sQ (Z3 rfl) rfl (sD (nS (cF rfl (tK (nS (tS (tR ?_)))))))
 refine sL (A1 rfl rfl (A9 (by repeat first | exact mH | apply mT)) hRl) rfl rfl ?_
 refine sQ (qM rfl) rfl ?_
 (have hf : P8 fuel 0 300 = true := (by assumption); have hf2 := A2Q hf; have hE := B4J e fuel.toNat (by omega) 55 [] [] (fun G u cells hru => B4K G cells hru.len hru.one) G cells hr; rw [Int.toNat_of_nonneg hf2.1] at hE; refine E0 rfl hE rfl rfl (fun v G1 hle1 hh => ?_); obtain ⟨wc, hv, hrw⟩ := hh; have hwl := hrw.len; have hwo := hrw.one; have hmu := hmu hf; have hen := hen hf; generalize P4 fuel.toNat e = r at hv hrw hmu hen; obtain ⟨w, c, l, i⟩ := r; simp only at hv hrw hmu hen; subst hv)
 refine R1 ?_
 refine sE (A5 rfl) rfl (fun b30 => ?_)
 refine sS rfl rfl rfl hwl hwo rfl ?_ (hu := by exact C3 hwl.symm)
 refine D4 ?_
 refine sB (qE rfl rfl) rfl rfl (fun h41 => ?_) (fun h41 => ?_)
 refine J9 ?_
 refine C4 (rC rfl (A2 rfl rfl)) (rT rfl) (rT rfl) ?_
 (exact K5.mk (hmu (by omega)) (L7 _))
 refine sD (nS (cF rfl (tK (nS (tS (tR ?_))))))
 refine sL (A1 rfl rfl (A9 (by repeat first | exact mH | apply mT)) hwl) rfl rfl ?_
 refine sQ (qM rfl) rfl (sQ (qM rfl) rfl ?_)
 refine sS rfl rfl rfl hwl hwo rfl ?_ (hu := by exact C3 hwl.symm)
 refine sQ (qA rfl) rfl (sQ (qA rfl) rfl (sD (nS (tT ?_))))
 refine C4 (rC rfl (A1 rfl rfl (A9 (by repeat first | exact mH | apply mT)) hwl)) (rT rfl) (rT rfl) ?_
 (exact K5.mk (hen (by omega)) hrw)
 refine J2 ?_
 refine C4 (rC rfl (A2 rfl rfl)) (rT rfl) (rT rfl) ?_
 (exact K5.mk (hno (by assumption)) (L7 _))
mutual
def A3a (L : Int → Prop) : Tm → Prop
 | .mk k nm num ty fr lb ks => (k = 14 → L lb) ∧ A3b L ks
def A3b (L : Int → Prop) : List Tm → Prop
 | [] => True
 | t :: ts => A3a L t ∧ A3b L ts
end
theorem A1R {L : Int → Prop} {k : Int} {nm : ByteArray} {num : Int} {ty fr : Ty} {lb : Int} {ks : List Tm} : A3a L (.mk k nm num ty fr lb ks) ↔ (k = 14 → L lb) ∧ A3b L ks := by rw [A3a]
theorem A2c {L : Int → Prop} : ∀ {ts : List Tm}, A3b L ts ↔ ∀ t ∈ ts, A3a L t
 | [] => by simp [A3b]
 | t :: ts => by rw [A3b, A2c (ts := ts)]; simp
def B7V (L : Int → Prop) (T : Ty) (r : Stp) : Prop := (r.2.1 = 1 ∧ A0P [] r.1 = some T ∧ A3a L r.1) ∨ (r.2.1 = 2 ∧ L r.2.2)
mutual
theorem A9S : ∀ a b : Ty, K1 a b = true → K1 b a = true
 | .mk k ks, .mk k' ks', h => by
  rw [S5] at h ⊢
  simp only [Bool.or_eq_true, Bool.and_eq_true, decide_eq_true_eq] at h ⊢
  rcases h with (h | h) | h
  ·exact .inl (.inr h)
  ·exact .inl (.inl h)
  ·exact .inr ⟨h.1.symm, A9T ks ks' h.2⟩
theorem A9T : ∀ xs ys : List Ty, N0 xs ys = true → N0 ys xs = true
 | [], [], _ => rfl
 | [], b :: ys, h => by simp [N0] at h
 | a :: xs, [], h => by simp [N0] at h
 | a :: xs, b :: ys, h => by
  simp only [N0, Bool.and_eq_true] at h ⊢
  exact ⟨A9S a b h.1, A9T xs ys h.2⟩
end
mutual
theorem A9U : ∀ a b : Ty, K1 a b = true → K1 a (V0 a b) = true ∧ K1 b (V0 a b) = true
 | .mk k ks, .mk k' ks', h => by
  rw [A06]
  by_cases h1 : k = 1
  ·rw [if_pos h1]
   exact ⟨h, A2A _⟩
  ·rw [if_neg h1]
   by_cases h2 : k' = 1
   ·rw [if_pos h2]
    exact ⟨A2A _, A9S _ _ h⟩
   ·rw [if_neg h2]
    rw [S5] at h
    simp only [Bool.or_eq_true, Bool.and_eq_true, decide_eq_true_eq] at h
    have h3 : k = k' ∧ N0 ks ks' = true := by
     rcases h with (h | h) | h
     ·exact absurd h h1
     ·exact absurd h h2
     ·exact h
    obtain ⟨m1, m2⟩ := A9V ks ks' h3.2
    rw [S5, S5, m1, m2]
    simp [h3.1]
theorem A9V : ∀ xs ys : List Ty, N0 xs ys = true → N0 xs (S7 xs ys) = true ∧ N0 ys (S7 xs ys) = true
 | [], [], _ => ⟨rfl, rfl⟩
 | [], b :: ys, h => by simp [N0] at h
 | a :: xs, [], h => by simp [N0] at h
 | a :: xs, b :: ys, h => by
  simp only [N0, Bool.and_eq_true] at h
  obtain ⟨m1, m2⟩ := A9U a b h.1
  obtain ⟨m3, m4⟩ := A9V xs ys h.2
  simp only [S7, N0, m1, m2, m3, m4]
  exact ⟨rfl, rfl⟩
end
theorem B4M {k : Int} {a b : Ty} (hk : k = 4 ∨ k = 5) (h : E7 (.mk k [a, b]) = true) : E7 a = true ∧ E7 b = true := by
 obtain ⟨x, y, he, h1, h2⟩ := A42 hk h
 cases he
 exact ⟨h1, h2⟩
theorem B4N {k : Int} (hk : k = 4 ∨ k = 5) : E7 (.mk k [O9, O9]) = true := by rcases hk with rfl | rfl <;> decide
theorem A9W {k : Int} {t a b : Ty} (hk : k = 4 ∨ k = 5) (ht : E7 t = true) (h : R3 k t = some (a, b)) : E7 (.mk k [a, b]) = true ∧ K1 t (.mk k [a, b]) = true := by
 obtain ⟨tk, ks⟩ := t
 rw [A1O] at h
 by_cases he : tk = k
 ·subst he
  rw [if_pos rfl] at h
  obtain ⟨x, y, rfl, _, _⟩ := A42 hk ht
  cases h
  exact ⟨ht, A2A _⟩
 ·rw [if_neg he] at h
  by_cases h1 : tk = 1
  ·rw [if_pos h1] at h
   cases h
   refine ⟨B4N hk, ?_⟩
   rw [S5, h1]; rfl
  ·rw [if_neg h1] at h; cases h
structure Wt (cx : Cx) (k : Int) (nm : ByteArray) (ty : Ty) (h w : List Ty) (t : Ty) : Prop where
 len : w = [] ∨ w.length = h.length
 ok : ∀ i, (hi : i < w.length) → (hh : i < h.length) → K1 h[i] w[i] = true ∧ E7 w[i] = true
 again : k ≠ 13 → N2 cx k nm ty (if w = [] then h else w) = some (w, t)
 asT : k = 13 → w = [t]
theorem A9X {cx : Cx} {k : Int} {nm : ByteArray} {ty : Ty} {h w : List Ty} {t : Ty} (hh : ∀ a ∈ h, E7 a = true) (hty : k = 13 → E7 ty = true) (hn : C7 k = (h.length : Int)) (h14 : k ≠ 14) (hw : N2 cx k nm ty h = some (w, t)) : Wt cx k nm ty h w t := by
 have hkr := A5e (by rw [hn]; omega : 0 ≤ C7 k)
 have hkk : k = 1 ∨ k = 2 ∨ (k = 3 ∨ k = 4) ∨ k = 5 ∨ k = 6 ∨ (k = 7 ∨ k = 8) ∨ k = 9 ∨ k = 10 ∨ (k = 11 ∨ k = 12) ∨ k = 13 := by omega
 have nil : w = [] → k ≠ 13 → Wt cx k nm ty h w t := by
  rintro rfl h13
  exact ⟨.inl rfl, fun i hi => by simp at hi, fun _ => by rw [if_pos rfl]; exact hw, fun h => absurd h h13⟩
 rcases hkk with rfl | rfl | hk | rfl | rfl | hk | rfl | rfl | hk | rfl
 ·refine nil ?_ (by decide)
  rw [mW1] at hw; split at hw <;> cases hw; rfl
 ·refine nil ?_ (by decide)
  rw [mW2] at hw; cases hw; rfl
 ·refine nil ?_ (by omega)
  rw [A40 hk] at hw; cases hw; rfl
 ·refine nil ?_ (by decide)
  rw [mW5] at hw; cases hw; rfl
 ·match h, (show h.length = 2 by have : C7 6 = 2 := rfl; omega) with
  | [x, y], _ =>
  rw [mW6] at hw
  simp only [List.getD_cons_zero, List.getD_cons_succ] at hw
  split at hw
  ·rename_i a b hm
   split at hw
   ·rename_i hc
    cases hw
    obtain ⟨v1, v2⟩ := A9W (.inl rfl) (hh x (by simp)) hm
    obtain ⟨v3, v4⟩ := B4M (.inl rfl) v1
    refine ⟨.inr rfl, fun i hi hi2 => ?_, fun _ => ?_, fun h => absurd h (by decide)⟩
    ·match i, hi with
     | 0, _ => exact ⟨v2, v1⟩
     | 1, _ => exact ⟨hc, v3⟩
    ·rw [if_neg (by simp), mW6]
     simp only [List.getD_cons_zero, List.getD_cons_succ, A1O, if_true, A2A]
   ·cases hw
  ·cases hw
 ·match h, (show h.length = 2 by rcases hk with rfl | rfl <;> (first | (have : C7 7 = 2 := rfl; omega) | (have : C7 8 = 2 := rfl; omega))) with
  | [x, y], _ =>
  rw [W9 hk] at hw
  simp only [List.getD_cons_zero, List.getD_cons_succ] at hw
  split at hw
  ·rename_i hc
   cases hw
   refine ⟨.inr rfl, fun i hi hi2 => ?_, fun _ => ?_, fun h => by omega⟩
   ·match i, hi with
    | 0, _ => exact ⟨hc.1, (show E7 T1 = true by decide)⟩
    | 1, _ => exact ⟨hc.2, (show E7 T1 = true by decide)⟩
   ·rw [if_neg (by simp), W9 hk]
    simp only [List.getD_cons_zero, List.getD_cons_succ, A2A, and_self, if_true]
  ·cases hw
 ·match h, (show h.length = 3 by have : C7 9 = 3 := rfl; omega) with
  | [x, y, z], _ =>
  rw [mW9] at hw
  simp only [List.getD_cons_zero, List.getD_cons_succ] at hw
  split at hw
  ·rename_i hc
   cases hw
   obtain ⟨c1, c2⟩ := A9U y z hc.2
   have vm := A6B y z 1 hc.2 (hh y (by simp)) (hh z (by simp))
   refine ⟨.inr rfl, fun i hi hi2 => ?_, fun _ => ?_, fun h => absurd h (by decide)⟩
   ·match i, hi with
    | 0, _ => exact ⟨hc.1, (show E7 Y0 = true by decide)⟩
    | 1, _ => exact ⟨c1, vm⟩
    | 2, _ => exact ⟨c2, vm⟩
   ·rw [if_neg (by simp), mW9]
    simp only [List.getD_cons_zero, List.getD_cons_succ, A2A, and_self, if_true, A6D]
  ·cases hw
 ·refine nil ?_ (by decide)
  rw [A6z] at hw; cases hw; rfl
 ·match h, (show h.length = 1 by rcases hk with rfl | rfl <;> (first | (have : C7 11 = 1 := rfl; omega) | (have : C7 12 = 1 := rfl; omega))) with
  | [x], _ =>
  rw [A3V hk] at hw
  simp only [List.getD_cons_zero] at hw
  split at hw
  ·rename_i a b hm
   cases hw
   obtain ⟨v1, v2⟩ := A9W (.inr rfl) (hh x (by simp)) hm
   refine ⟨.inr rfl, fun i hi hi2 => ?_, fun _ => ?_, fun h => by omega⟩
   ·match i, hi with
    | 0, _ => exact ⟨v2, v1⟩
   ·rw [if_neg (by simp), A3V hk]
    simp only [List.getD_cons_zero, List.getD_cons_succ, A1O, if_true]
  ·cases hw
 ·match h, (show h.length = 1 by have : C7 13 = 1 := rfl; omega) with
  | [x], _ =>
  rw [A22] at hw
  simp only [List.getD_cons_zero] at hw
  split at hw
  ·rename_i hc
   cases hw
   refine ⟨.inr rfl, fun i hi hi2 => ?_, fun h => absurd rfl h, fun _ => rfl⟩
   match i, hi with
   | 0, _ => exact ⟨hc, hty rfl⟩
  ·cases hw
theorem B4O {l : Int} (h1 : 1 ≤ l) (h2 : l ≤ 99) : A00 l = true := by
 unfold A00
 rw [A3T.2 ⟨h1, h2⟩]; rfl
theorem B4P {u : Tm} {a b : Ty} {l D : Int} (hu : J1 40 13 u (D + 1) = true) (hc : K1 a b = true) (ha : E7 a = true) (hb : E7 b = true) (h1 : 1 ≤ l) (h2 : l ≤ 99) (hD : D ≤ 40) : J1 40 13 (O7 u a b l) D = true := by
 unfold O7
 rw [A0O hD (by decide) (U8.2 ⟨rfl, by simp, fun _ => rfl, by simp, fun _ => rfl, fun _ => hb, by simp, fun _ => ⟨by simp [A0Z, ha, hb, hc], B4O h1 h2⟩, by simp⟩)]
 simp [E9, hu]
theorem A6O {cx : Cx} : ∀ (us : List Tm) (h w : List Ty) (l D : Int), us.length = h.length → w.length = h.length → (∀ i, (hi : i < w.length) → (hh : i < h.length) → K1 h[i] w[i] = true ∧ E7 w[i] = true) → (∀ a ∈ h, E7 a = true) → Y6 cx us = some h → E9 40 13 us (D + 1) = true → 0 ≤ l → (E8 us h w l).2 ≤ 99 → D ≤ 40 →
  Y6 cx (E8 us h w l).1 = some w ∧ E9 40 13 (E8 us h w l).1 D = true ∧ (D6 (E8 us h w l).1 : Int) = D6 us + ((E8 us h w l).2 - l)
 | [], [], [], l, D, _, _, _, _, ht, _, _, _, _ => by simp [E8, Y6, E9, D6]
 | [], a :: h, w, l, D, hl, _, _, _, _, _, _, _, _ => by simp at hl
 | u :: us, [], w, l, D, hl, _, _, _, _, _, _, _, _ => by simp at hl
 | [], [], b :: w, l, D, _, hl, _, _, _, _, _, _, _ => by simp at hl
 | u :: us, a :: h, [], l, D, _, hl, _, _, _, _, _, _, _ => by simp at hl
 | u :: us, a :: h, b :: w, l, D, h1, h2, hw, hv, ht, hs, hl, h99, hD => by
  rw [Y6] at ht
  split at ht
  ·cases ht
  ·rename_i a' ha
   split at ht
   ·cases ht
   ·rename_i h' hh'
    simp only [Option.some.injEq, List.cons.injEq] at ht
    obtain ⟨rfl, rfl⟩ := ht
    rw [E9, Bool.and_eq_true] at hs
    obtain ⟨c1, c2⟩ := hw 0 (by simp) (by simp)
    have hw' : ∀ i, (hi : i < w.length) → (hh : i < h'.length) → K1 h'[i] w[i] = true ∧ E7 w[i] = true := fun i hi hh => hw (i + 1) (by simpa using hi) (by simpa using hh)
    have hv' : ∀ x ∈ h', E7 x = true := fun x hx => hv x (List.mem_cons_of_mem _ hx)
    simp only [E8] at h99 ⊢
    by_cases he : O2 a' b = true
    ·simp only [if_pos he] at h99 ⊢
     obtain ⟨i1, i2, i3⟩ := A6O us h' w l D (by simpa using h1) (by simpa using h2) hw' hv' hh' hs.2 hl h99 hD
     have hab := (A1i _ _).1 he
     subst hab
     refine ⟨by rw [Y6, ha, i1], ?_, ?_⟩
     ·rw [E9, Bool.and_eq_true]; exact ⟨A6A 40 13 u (D + 1) D (by omega) hs.1, i2⟩
     ·simp only [D6]; omega
    ·simp only [if_neg he] at h99 ⊢
     obtain ⟨i1, i2, i3⟩ := A6O us h' w (l + 1) D (by simpa using h1) (by simpa using h2) hw' hv' hh' hs.2 (by omega) h99 hD
     have hlab := A18 us h' w (l + 1)
     refine ⟨by rw [Y6, O7, B3V ha, i1], ?_, ?_⟩
     ·rw [E9, Bool.and_eq_true]
      exact ⟨B4P hs.1 c1 (hv a' List.mem_cons_self) c2 (by omega) (by omega) hD, i2⟩
     ·simp only [D6, A15]; omega
def A9Y (cx : Cx) (t : Tm) (D l : Int) (u : Tm) (a : Ty) (l' : Int) : Prop := J1 40 13 u D = true ∧ A0P cx u = some a ∧ E7 a = true ∧ l ≤ l' ∧ l' + 1 ≤ l + (C6 t : Int) ∧ (C6 u : Int) ≤ C6 t + (l' - l)
theorem A9Z (ks : List Tm) (ih : ∀ t ∈ ks, ∀ (d D : Int) (cx : Cx) (l : Int) (u : Tm) (a : Ty) (l' : Int), J1 12 14 t d = true → Y2 cx → 0 ≤ l → M5 cx t l = some (u, a, l') → l' ≤ 99 → D + 2 * (13 - d) ≤ 41 → A9Y cx t D l u a l') :
  ∀ (d D : Int) (cx : Cx) (l : Int) (us : List Tm) (h : List Ty) (l' : Int), E9 12 14 ks d = true → Y2 cx → 0 ≤ l → M1 cx ks l = some (us, h, l') → l' ≤ 99 → D + 2 * (13 - d) ≤ 41 →
   E9 40 13 us D = true ∧ Y6 cx us = some h ∧ (∀ a ∈ h, E7 a = true) ∧ l ≤ l' ∧ l' + ks.length ≤ l + (D6 ks : Int) ∧ (D6 us : Int) ≤ D6 ks + (l' - l) ∧ h.length = ks.length ∧ us.length = ks.length := by
 induction ks with
 | nil =>
  intro d D cx l us h l' _ _ _ he _ _
  simp only [M1, Option.some.injEq, Prod.mk.injEq] at he
  obtain ⟨rfl, rfl, rfl⟩ := he
  simp [E9, Y6, D6]
 | cons t ts ihl =>
  intro d D cx l us h l' hs hcx hl he h99 hD
  rw [E9, Bool.and_eq_true] at hs
  rw [M1] at he
  split at he
  ·cases he
  ·rename_i u a l1 h1
   split at he
   ·cases he
   ·rename_i us' h' l2 h2
    simp only [Option.some.injEq, Prod.mk.injEq] at he
    obtain ⟨rfl, rfl, rfl⟩ := he
    have hp := B2j t
    
    have hmono : l1 ≤ l2 := by
     have : ∀ (zs : List Tm) (l : Int) us h l', M1 cx zs l = some (us, h, l') → l ≤ l' := by
      intro zs
      induction zs with
      | nil => intro l us h l' he; simp only [M1, Option.some.injEq, Prod.mk.injEq] at he; omega
      | cons z zs ihz =>
       intro l us h l' he
       rw [M1] at he
       split at he
       ·cases he
       ·rename_i u a l1 hz
        split at he
        ·cases he
        ·rename_i us' h' l2 hzs
         simp only [Option.some.injEq, Prod.mk.injEq] at he
         have := ihz _ _ _ _ hzs
         have := el_mono cx z l _ _ _ hz
         omega
     exact this ts l1 us' h' l2 h2
    obtain ⟨a1, a2, a3, a4, a5, a6⟩ := ih t List.mem_cons_self d D cx l u a l1 hs.1 hcx hl h1 (by omega) hD
    obtain ⟨b1, b2, b3, b4, b5, b6, b7, b8⟩ := ihl (fun x hx => ih x (List.mem_cons_of_mem _ hx)) d D cx l1 us' h' l2 hs.2 hcx (by omega) h2 h99 hD
    refine ⟨by rw [E9, a1, b1]; rfl, by rw [Y6, a2, b2], ?_, by omega, ?_, ?_, by simp [b7], by simp [b8]⟩
    ·intro x hx
     rcases List.mem_cons.1 hx with h | h
     ·rw [h]; exact a3
     ·exact b3 x h
    ·simp only [D6, List.length_cons]; omega
    ·simp only [D6]; omega
where
 el_mono (cx : Cx) : ∀ (z : Tm) (l : Int) (u : Tm) (a : Ty) (l' : Int), M5 cx z l = some (u, a, l') → l ≤ l' := by
  intro z
  revert cx
  refine Tm.ind (C := fun z => ∀ (cx : Cx) (l : Int) (u : Tm) (a : Ty) (l' : Int), M5 cx z l = some (u, a, l') → l ≤ l') ?_ z
  intro k nm num ty fr lb ks ih cx l u a l' he
  rw [M5] at he
  have hL : ∀ (zs : List Tm), (∀ t ∈ zs, t ∈ ks) → ∀ (cx : Cx) (l : Int) us h l', M1 cx zs l = some (us, h, l') → l ≤ l' := by
   intro zs
   induction zs with
   | nil => intro _ cx l us h l' he; simp only [M1, Option.some.injEq, Prod.mk.injEq] at he; omega
   | cons z zs ihz =>
    intro hin cx l us h l' he
    rw [M1] at he
    split at he
    ·cases he
    ·rename_i u a l1 hz
     split at he
     ·cases he
     ·rename_i us' h' l2 hzs
      simp only [Option.some.injEq, Prod.mk.injEq] at he
      have := ihz (fun t ht => hin t (List.mem_cons_of_mem _ ht)) _ _ _ _ _ hzs
      have := ih z (hin z List.mem_cons_self) _ l _ _ _ hz
      omega
  split at he
  ·cases he
  ·rename_i us h l1 hk
   have h1 := hL ks (fun _ h => h) _ _ _ _ _ hk
   unfold Q8 at he
   split at he
   ·cases he
   ·rename_i w t hn
    simp only [Option.some.injEq, Prod.mk.injEq] at he
    have := A18 us h w l1
    omega
theorem B4Q : ∀ (t : Tm) (d D : Int) (cx : Cx) (l : Int) (u : Tm) (a : Ty) (l' : Int), J1 12 14 t d = true → Y2 cx → 0 ≤ l → M5 cx t l = some (u, a, l') → l' ≤ 99 → D + 2 * (13 - d) ≤ 41 → A9Y cx t D l u a l' := by
 refine Tm.ind fun k nm num ty fr lb ks ih d D cx l u a l' hs hcx hl he h99 hD => ?_
 obtain ⟨hd, h14, h3, h4⟩ := W6 hs
 obtain ⟨n1, n2, n3, n4, n5, n6, n7, n8, n9⟩ := U8.1 h3
 rw [M5] at he
 split at he
 ·cases he
 ·rename_i us h l1 hL
  unfold Q8 at he
  split at he
  ·cases he
  ·rename_i w t hN
   simp only [Option.some.injEq, Prod.mk.injEq] at he
   obtain ⟨hu, rfl, rfl⟩ := he
   have hlab := A18 us h w l1
   obtain ⟨b1, b2, b3, b4, b5, b6, b7, b8⟩ := A9Z ks ih (d + 1) (D + 2) (P0 cx k nm ty) l us h l1 h4 (A3Y hcx fun hk => n6 (.inl hk)) hl hL (by omega) (by omega)
   obtain ⟨hv, hw⟩ := A9g hN
   have hwt := A9X b3 (fun hk => n6 (.inr (.inl hk))) (by rw [b7]; exact n1) h14 hw
   
   obtain ⟨c1, c2, c3⟩ : Y6 (P0 cx k nm ty) (E8 us h w l1).1 = some (if w = [] then h else w) ∧ E9 40 13 (E8 us h w l1).1 (D + 1) = true ∧ (D6 (E8 us h w l1).1 : Int) = D6 us + ((E8 us h w l1).2 - l1) := by
    rcases hwt.len with hn | hn
    ·subst hn
     rw [Y3, if_pos rfl]
     refine ⟨b2, ?_, by simp⟩
     exact A41 40 13 us (D + 2) (D + 1) (by omega) b1
    ·by_cases hn0 : w = []
     ·subst hn0
      rw [Y3, if_pos rfl]
      refine ⟨b2, ?_, by simp⟩
      exact A41 40 13 us (D + 2) (D + 1) (by omega) b1
     ·rw [if_neg hn0]
      exact A6O us h w l1 (D + 1) (by omega) hn hwt.ok b3 b2 (by rw [show D + 1 + 1 = D + 2 by omega]; exact b1) (by omega) h99 (by omega)
   have hlm := A24 us h w l1
   have hck : C6 (.mk k nm num ty fr lb ks) = D6 ks + 1 := U1 ..
   refine ⟨?_, ?_, hv, by omega, by rw [hck]; omega, ?_⟩
   ·rw [← hu]
    split
    ·rename_i hk
     have hl1 : ks.length = 1 := by rw [hk] at n1; have : C7 13 = 1 := rfl; omega
     have h0 : 0 < (E8 us h w l1).1.length := by omega
     rw [getD0' h0]
     have := (A05 40 13 _ _).1 c2 0 h0
     exact A6A 40 13 _ (D + 1) D (by omega) this
    ·rename_i hk
     rw [A0O (by omega) hk (by rw [hlm, b8]; exact h3)]
     exact c2
   ·rw [← hu]
    split
    ·rename_i hk
     have hl1 : ks.length = 1 := by rw [hk] at n1; have : C7 13 = 1 := rfl; omega
     have h0 : 0 < (E8 us h w l1).1.length := by omega
     rw [getD0' h0]
     rw [hwt.asT hk, if_neg (by simp)] at c1
     rw [P0, if_neg (by omega)] at c1
     rw [← hwt.asT hk] at c1
     obtain ⟨x, hx⟩ : ∃ x, (E8 us h w l1).1 = [x] := by
      match hm : (E8 us h w l1).1, (show (E8 us h w l1).1.length = 1 by omega) with
      | [x], _ => exact ⟨x, rfl⟩
     simp only [hx, List.getElem_cons_zero] at c1 ⊢
     obtain ⟨y, hy, he⟩ := B3S c1
     rw [hwt.asT hk] at he
     cases he; exact hy
    ·rename_i hk
     refine B3R c1 h14 hv (hwt.again hk) ?_
     by_cases hn0 : w = []
     ·rw [hn0]; rfl
     ·rw [if_neg hn0]; exact A9n w
   ·rw [← hu, hck]
    split
    ·rename_i hk
     have hl1 : ks.length = 1 := by rw [hk] at n1; have : C7 13 = 1 := rfl; omega
     have h0 : 0 < (E8 us h w l1).1.length := by omega
     rw [getD0' h0]
     have := A5W (List.getElem_mem h0)
     omega
    ·rw [U1]; omega
where
 getD0' {us : List Tm} (h : 0 < us.length) : us.getD 0 F4 = us[0] := by rw [List.getD_eq_getElem?_getD, List.getElem?_eq_getElem h, Option.getD_some]
theorem B4R : ∀ (t : Tm) (d : Int) (cx : Cx) (l : Int) (u : Tm) (a : Ty) (l' : Int), J1 12 14 t d = true → M5 cx t l = some (u, a, l') → l' + 1 ≤ l + (C6 t : Int) := by
 refine Tm.ind fun k nm num ty fr lb ks ih d cx l u a l' hs he => ?_
 obtain ⟨hd, h14, h3, h4⟩ := W6 hs
 obtain ⟨n1, _⟩ := U8.1 h3
 have hL : ∀ (zs : List Tm), (∀ t ∈ zs, t ∈ ks) → E9 12 14 zs (d + 1) = true → ∀ (cx : Cx) (l : Int) us h l', M1 cx zs l = some (us, h, l') → l' + zs.length ≤ l + (D6 zs : Int) ∧ us.length = zs.length := by
  intro zs
  induction zs with
  | nil => intro _ _ cx l us h l' he; simp only [M1, Option.some.injEq, Prod.mk.injEq] at he; obtain ⟨rfl, _, rfl⟩ := he; simp [D6]
  | cons z zs ihz =>
   intro hin hsz cx l us h l' he
   rw [E9, Bool.and_eq_true] at hsz
   rw [M1] at he
   split at he
   ·cases he
   ·rename_i u a l1 hz
    split at he
    ·cases he
    ·rename_i us' h' l2 hzs
     simp only [Option.some.injEq, Prod.mk.injEq] at he
     obtain ⟨rfl, rfl, rfl⟩ := he
     have h5 := ihz (fun t ht => hin t (List.mem_cons_of_mem _ ht)) hsz.2 _ _ _ _ _ hzs
     have h6 := ih z (hin z List.mem_cons_self) (d + 1) _ l _ _ _ hsz.1 hz
     simp only [D6, List.length_cons]
     exact ⟨by omega, by omega⟩
 rw [M5] at he
 split at he
 ·cases he
 ·rename_i us h l1 hk
  obtain ⟨g1, g2⟩ := hL ks (fun _ h => h) h4 _ _ _ _ _ hk
  unfold Q8 at he
  split at he
  ·cases he
  ·rename_i w t hn
   simp only [Option.some.injEq, Prod.mk.injEq] at he
   have := A18 us h w l1
   have hck : C6 (.mk k nm num ty fr lb ks) = D6 ks + 1 := U1 ..
   rw [hck]; omega
theorem A6P {e u : Tm} {t : Ty} (h : T3 e = some (u, t)) : J3 u = true ∧ A0P [] u = some t ∧ E7 t = true := by
 unfold T3 at h
 split at h
 ·rename_i hv
  obtain ⟨h1, h2⟩ := (A0a e).1 hv
  split at h
  ·rename_i u' t' l' he
   cases h
   have hl : l' ≤ 99 := by
    have := A9Z.el_mono [] e 0 _ _ _ he
    have h3 : ∀ (t : Tm) (cx : Cx) (l : Int) (u : Tm) (a : Ty) (l' : Int), M5 cx t l = some (u, a, l') → l' ≤ l + 4 * (C6 t : Int) → True := fun _ _ _ _ _ _ _ _ => trivial
    exact el_lab e 1 h1 (by omega) he
   obtain ⟨g1, g2, g3, g4, g5, g6⟩ := B4Q e 1 1 [] 0 u t l' h1 A23 (by omega) he hl (by omega)
   exact ⟨(A1I u).2 ⟨g1, by omega⟩, g2, g3⟩
  ·cases h
 ·cases h
where
 el_lab (e : Tm) (d : Int) (h1 : J1 12 14 e d = true) (h2 : C6 e ≤ 30) {u : Tm} {t : Ty} {l' : Int} (he : M5 [] e 0 = some (u, t, l')) : l' ≤ 99 := by
  have := B4R e d [] 0 u t l' h1 he
  omega
def A5i (k : Int) : Bool := decide (k = 5 ∨ k = 13)
theorem B4S (t : Tm) (G : IM) (cells : List Value) (hr : A8 G t cells) : Fn Tryz.prog 144 [.agg ⟨cells⟩] [] G (H0 (.bool (A5i t.k)) G) := by
 obtain ⟨k, nm, num, ⟨tk, tks⟩, ⟨fk, fks⟩, lb, ks⟩ := t
 obtain ⟨pt, ct, pf, cf, p, c, es, rfl, hk, hnum, hlb, hty, hfr, hsl, hkl⟩ := hr.open9
 refine B2 Tryz.func144 rfl Tryz.ntmps144 Tryz.results144 rfl ?_
 intro w0
 refine tS (tR ?_)
 refine sE (B9 rfl rfl) rfl (fun b3 => ?_)
 refine C2 ?_
 refine sB (qE rfl rfl) rfl rfl (fun h11 => ?_) (fun h11 => ?_)
 refine I9 ?_
 exact ⟨rfl, by (show _ = Value.bool (decide (k = 5 ∨ k = 13)); first | rw [decide_eq_true (by omega)] | rw [decide_eq_false (by omega)]), rfl⟩
 refine K3 ?_
 refine sB (qE rfl rfl) rfl rfl (fun h26 => ?_) (fun h26 => ?_)
 refine J8 ?_
 exact ⟨rfl, by (show _ = Value.bool (decide (k = 5 ∨ k = 13)); first | rw [decide_eq_true (by omega)] | rw [decide_eq_false (by omega)]), rfl⟩
 refine J8 ?_
 exact ⟨rfl, by (show _ = Value.bool (decide (k = 5 ∨ k = 13)); first | rw [decide_eq_true (by omega)] | rw [decide_eq_false (by omega)]), rfl⟩
def A6Q : ByteArray := ⟨⟨[112, 97, 105, 114]⟩⟩
def A6R : ByteArray := ⟨⟨[102, 117, 110, 99, 116, 105, 111, 110]⟩⟩
def txT : ByteArray := ⟨⟨[84]⟩⟩
def txF : ByteArray := ⟨⟨[70]⟩⟩
def A90 (n : Int) : ByteArray := ⟨(Lib.decDigits n.toNat).toArray⟩
def A1S (k num : Int) : ByteArray := if k = 2 then A90 num else if k = 3 then txT else txF
mutual
def U3 : Tm → ByteArray
 | .mk k nm num ty fr lb ks => if k = 10 ∨ (R4 (.mk k nm num ty fr lb []) = true ∧ ty.k = 5) then A6Q else if k = 5 ∨ R4 (.mk k nm num ty fr lb []) = true then A6R else if k = 14 then B4T ks else A1S k num
def B4T : List Tm → ByteArray
 | [] => ⟨⟨[]⟩⟩
 | t :: _ => U3 t
end
section
variable {k : Int} {nm : ByteArray} {num : Int} {ty fr : Ty} {lb : Int} {ks : List Tm}
theorem A91 (h : k = 10 ∨ (R4 (.mk k nm num ty fr lb ks) = true ∧ ty.k = 5)) : U3 (.mk k nm num ty fr lb ks) = A6Q := by
 rw [U3]
 exact if_pos h
theorem A92 (h : ¬(k = 10 ∨ (R4 (.mk k nm num ty fr lb ks) = true ∧ ty.k = 5))) (h2 : k = 5 ∨ R4 (.mk k nm num ty fr lb ks) = true) : U3 (.mk k nm num ty fr lb ks) = A6R := by
 rw [U3]
 exact (if_neg h).trans (if_pos h2)
theorem A6S (h : R4 (.mk k nm num ty fr lb ks) = false) (hk : k = 14) (h0 : 0 < ks.length) : U3 (.mk k nm num ty fr lb ks) = U3 ks[0] := by
 rw [U3, if_neg (by rintro (h1 | h1); omega; exact Bool.noConfusion (h1.1.symm.trans h)), if_neg (by rintro (h1 | h1); omega; exact Bool.noConfusion (h1.symm.trans h)), if_pos hk]
 cases ks with
 | nil => simp at h0
 | cons t ts => rfl
theorem A93 (h : R4 (.mk k nm num ty fr lb ks) = false) (hk : k ≠ 14) (h10 : k ≠ 10) (h5 : k ≠ 5) : U3 (.mk k nm num ty fr lb ks) = A1S k num := by
 rw [U3, if_neg (by rintro (h1 | h1); omega; exact Bool.noConfusion (h1.1.symm.trans h)), if_neg (by rintro (h1 | h1); omega; exact Bool.noConfusion (h1.symm.trans h)), if_neg hk]
end
section fin
variable {P : Program} {Γ : M0} {env : M4} {hp : List A4} {G : IM}
theorem A2F {r r2 r3 : ResultVar} {post : IM → Value → List A4 → Prop} {v v2 v3 : Value} {outs : List A4} (h : Z5 P Γ ⟨env, hp, G⟩ r v) (h2 : Z5 P Γ ⟨env, hp, G⟩ r2 v2) (h3 : Z5 P Γ ⟨env, hp, G⟩ r3 v3) (ho : A0 hp outs) (hk : post G (.tuple ⟨[v, v2, v3]⟩) outs) :
  A0C P Γ [r, r2, r3] post .ret ⟨env, hp, G⟩ := A7v (.cons h (.cons h2 (.cons h3 .nil))) ho.spec hk
end fin
def CsP (bx : Nat) (e : Tm) (a b : Ty) (l : Int) : IM → Value → List A4 → Prop := fun G' v outs => ∃ cells, v = .agg ⟨cells⟩ ∧ outs = [.blk bx [.int .i64 (if O2 a b = true then l else l + 1)]] ∧ A8 G' (if O2 a b = true then e else O7 e a b (l + 1)) cells
theorem CsP.yes {G : IM} {bx : Nat} {e : Tm} {a b : Ty} {l : Int} {cells : List Value} (h : O2 a b = true) (hr : A8 G e cells) : CsP bx e a b l G (.agg ⟨cells⟩) [.blk bx [.int .i64 l]] := ⟨cells, rfl, by rw [if_pos h], by rw [if_pos h]; exact hr⟩
theorem CsP.no {G : IM} {bx : Nat} {e : Tm} {a b : Ty} {l : Int} {cells : List Value} (h : O2 a b = false) (hr : A8 G (O7 e a b (l + 1)) cells) : CsP bx e a b l G (.agg ⟨cells⟩) [.blk bx [.int .i64 (l + 1)]] := ⟨cells, rfl, by rw [if_neg (by rw [h]; decide)], by rw [if_neg (by rw [h]; decide)]; exact hr⟩
theorem B4U (bx : Nat) (e : Tm) (a b : Ty) (l : Int) (G : IM) (ce ca cb : List Value) (hl : -1000000000000 ≤ l ∧ l ≤ 1000000000000) (hre : A8 G e ce) (hra : B7 G a ca) (hrb : B7 G b cb) :
  Fn Tryz.prog 191 [.pointer (some ⟨bx, 0, none⟩), .agg ⟨ce⟩, .agg ⟨ca⟩, .agg ⟨cb⟩] [.blk bx [.int .i64 l]] G (CsP bx e a b l) := by
 have hel := hre.len
 have heo := hre.one
 have hS := A6y a b G ca cb hra hrb
 obtain ⟨v1, v2, v3, v4, v5, v6, v7, v8, v9, rfl⟩ := nine hel
 obtain ⟨ak, aks⟩ := a
 obtain ⟨bk, bks⟩ := b
 obtain ⟨pa, cca, ea, rfl, hka, _⟩ := hra.open
 obtain ⟨pb, ccb, eb, rfl, hkb, _⟩ := hrb.open
 refine B2 Tryz.func191 rfl Tryz.ntmps191 Tryz.results191 rfl ?_
 intro w0
 refine tS (tR ?_)
 refine sE (B9 rfl rfl) rfl (fun b3 => ?_)
 refine sE (B9 rfl rfl) rfl (fun b4 => ?_)
 refine sE (B9 rfl rfl) rfl (fun b5 => ?_)
 refine sE (A5 rfl) rfl (fun b6 => ?_)
 refine C2 ?_
 refine D8 rfl (hS) rfl rfl (fun h14 => ?_) (fun h14 => ?_)
 refine sD (nS (qT rfl (tS (tR ?_))))
 refine sL (A1 rfl rfl (A9 (by repeat first | exact mH | apply mT)) hel) rfl rfl ?_
 refine sS rfl rfl rfl hel heo rfl ?_ (hu := by exact C3 hel.symm)
 refine sD (nS (tT (rS ?_)))
 refine H6 (outs := [.blk bx [.int .i64 _]]) (rC rfl (A2 rfl rfl)) (A0.cons (by repeat (first | exact Pk.here | apply Pk.there)) A0.nil) ?_
 (exact CsP.yes (by assumption) hre)
 refine sD (nS (cF rfl (tK (nS (tS (tR (sQ (qM rfl) rfl ?_)))))))
 refine sQ (Z4 rfl) rfl ?_
 refine sQ (B1 rfl) rfl (sL (C0 rfl rfl) rfl rfl ?_)
 refine sP (K2 rfl rfl (by omega) (by omega)) rfl rfl ?_
 refine sQ (Z4 rfl) rfl ?_
 refine sQ (B1 rfl) rfl (F9 ?_)
 refine sD (nS (tS ?_))
 refine E1 E2 rfl ?_
 refine P9 (i := 6) (l' := [ff,ff,ff,ff,ff,ff,tt,ff,ff,ff]) rfl D5 (A1 rfl rfl (A9 (by repeat first | exact mH | apply mT)) hel) rfl (by kernel_rfl) rfl rfl ?_
 refine aL 0 rfl (A2 rfl rfl) rfl ?_
 refine aL 1 rfl (A2 rfl rfl) rfl ?_
 refine aP 2 rfl (qM rfl) rfl ?_
 refine aP 3 rfl (Z4 rfl) rfl ?_
 refine aP 4 rfl (B1 rfl) rfl ?_
 refine aL 5 rfl (C0 rfl rfl) rfl ?_
 refine A3 7 ?_
 (refine E4 rfl (C9 rfl rfl rfl (by omega) (by unfold maxLen; omega) rfl) rfl rfl ?_; rintro _ ⟨b55, rfl⟩)
 refine aP 8 rfl (W1 rfl rfl) rfl ?_
 refine A3 9 ?_
 refine J0 rfl ?_
 refine C5 (nS ?_)
 (refine I5 (cs := [v1, v2, v3, v4, v5, v6, v7, v8, v9]) (by repeat (first | exact Pk.here | apply Pk.there)) (fun G2 hle2 hsl2 hno2 => ?_))
 refine tT ?_
 refine H6 (outs := [.blk bx [.int .i64 _]]) (rC rfl (A2 rfl rfl)) (A0.cons (by repeat (first | exact Pk.here | apply Pk.there)) A0.nil) ?_
 (exact CsP.no (by assumption) (A8.put (us := [e]) (es := [[v1, v2, v3, v4, v5, v6, v7, v8, v9]]) ⟨by decide, by decide⟩ ⟨by decide, by decide⟩ ⟨by omega, by omega⟩ (hrb.mono hle2) (hra.mono hle2) rfl (D0.of hsl2 rfl (by intro x hx; obtain rfl := List.mem_singleton.1 hx; rfl) (by intro x hx; obtain rfl := List.mem_singleton.1 hx; exact heo)) (by simp only [D7]; exact ⟨_, _, rfl, hre.mono hle2, rfl⟩)))
end Gw
end Go.Proofs.YtfpgncjeejickaaGreatDoor
