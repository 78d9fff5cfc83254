/-
  Precision of terms, on both sides. Values of the stack machine: as trees, and as they lie in memory; what an instruction does, in plain words. The reference's decimal digits of a number. The program's RunTerm: texts of values. The program's insertion of casts: a cast. The program's insertion of casts. CastTypeOf. The program's InsertCasts, TypeOf. The program's RunTerm. The reference's typing, exactly. The reference's typing, exactly: meets, the types of nodes.
-/
import Derived.Test.YthpdjmbpbdbodaaGreatDoorKg4
import Derived.Test.YthpdjmbpbdbodaaGreatDoorKg3
import Derived.Test.YthpdjmbpbdbodaaGreatDoorKg2
import Derived.Test.YthpdjmbpbdbodaaGreatDoorKg5
import Derived.Test.YthpdjmbpbdbodaaGreatDoorKg1
import Derived.Lib.ItoaNum
set_option linter.unusedVariables false
set_option linter.unusedSimpArgs false
set_option maxHeartbeats 0
set_option maxRecDepth 100000
set_option synthInstance.maxSize 4000
set_option synthInstance.maxHeartbeats 0
namespace Go.Proofs.YthpdjmbpbdbodaaGreatDoor
open Go Go.RowKit
namespace Gw
theorem A9f (G : IM) (e e' : List Value) (b : Bool) (bd : Nat) (F : Value) (hl : e.length = 9) (hl' : e'.length = 9) (ho : e.all (·.oneCell') = true) (ho' : e'.all (·.oneCell') = true) (hF : F = .func (.func 93) ⟨[]⟩ ⟨[]⟩)
  (h : Fn Tryz.prog 92 [.agg ⟨e⟩, .agg ⟨e'⟩, F] [] G (H2 (.bool b) G)) :
  Fn Tryz.prog 135 [.agg ⟨e⟩, .agg ⟨e'⟩, .pointer (some ⟨bd, 0, none⟩)] [.blk bd [F]] G (T1 (.bool b) [.blk bd [F]] G) := by
 subst hF
 refine B7 Tryz.func135 rfl Tryz.ntmps135 Tryz.results135 rfl ?_
 intro w0
 refine tS (tR ?_)
 refine sE (C2 rfl rfl) rfl (fun b3 => ?_)
 refine sE (C2 rfl rfl) rfl (fun b4 => ?_)
 refine sQ (qA rfl) rfl (sD (nS (tS (tR ?_))))
 refine sL (A3 rfl rfl (B1 (by repeat first | exact mH | apply mT)) hl) rfl rfl ?_
 refine sL (A3 rfl rfl (B1 (by repeat first | exact mH | apply mT)) hl') rfl rfl ?_
 refine sL (B5 rfl rfl) rfl rfl ?_
 refine H8 rfl (h) rfl rfl ?_
 refine sQ (qA rfl) rfl (sD (nS (tT ?_)))
 refine H5 (outs := [.blk bd [.func (.func 93) ⟨[]⟩ ⟨[]⟩]]) (rT rfl) (A0.cons (by repeat (first | exact Pk.here | apply Pk.there)) A0.nil) ?_
 exact ⟨rfl, rfl, rfl⟩
theorem B3R : ∀ (t t' : Tm) (G : IM) (cells cells' : List Value), A9 G t cells → A9 G t' cells' →
  Fn Tryz.prog 92 [.agg ⟨cells⟩, .agg ⟨cells'⟩, .func (.func 93) ⟨[]⟩ ⟨[]⟩] [] G (H2 (.bool (S7 t t')) G) := by
 refine Tm.ind fun k nm num ty fr lb ks ih t' G cells cells' hr hr' => ?_
 obtain ⟨k', nm', num', ⟨tk', tks'⟩, ⟨fk', fks'⟩, lb', ks'⟩ := t'
 obtain ⟨tk, tks⟩ := ty
 obtain ⟨fk, fks⟩ := fr
 have hT := B3Q _ G cells hr
 obtain ⟨pt, ct, pf, cf, p, c, es, rfl, hk, hnum, hlb, hty, hfr, hsl, hkl⟩ := hr.open9
 obtain ⟨pt', ct', pf', cf', p', c', es', rfl, hk', hnum', hlb', hty', hfr', hsl', hkl'⟩ := hr'.open9
 have hP := B2S _ _ G _ _ hty hty'
 obtain ⟨A, hA⟩ : ∃ A, A0D ks ks' = A := ⟨_, rfl⟩
 have hA' : A = true ↔ ks.length = ks'.length ∧ ∀ i, i < ks.length → S7 (ks.getD i I2) (ks'.getD i I2) = true := by
  rw [← hA, V5]
  constructor
  ·rintro ⟨h1, h2⟩
   refine ⟨h1, fun i hi => ?_⟩
   have := h2 i hi (by omega)
   simpa [List.getD_eq_getElem?_getD, List.getElem?_eq_getElem hi, List.getElem?_eq_getElem (show i < ks'.length by omega)] using this
  ·rintro ⟨h1, h2⟩
   refine ⟨h1, fun i hi hi' => ?_⟩
   have := h2 i hi
   simpa [List.getD_eq_getElem?_getD, List.getElem?_eq_getElem hi, List.getElem?_eq_getElem hi'] using this
 have hf := @A8E k k' nm nm' num num' (.mk tk tks) (.mk tk' tks') (.mk fk fks) (.mk fk' fks') lb lb' ks ks'
 have ht := @A4z k k' nm nm' num num' (.mk tk tks) (.mk tk' tks') (.mk fk fks) (.mk fk' fks') lb lb' ks ks'
 generalize S7 (.mk k nm num (.mk tk tks) (.mk fk fks) lb ks) (.mk k' nm' num' (.mk tk' tks') (.mk fk' fks') lb' ks') = R at *
 rw [hA] at hf ht
 have hhk : A2B k = true ↔ k = 5 ∨ k = 13 := by unfold A2B; rw [decide_eq_true_eq]
 have hhn : A2B k = false ↔ ¬ (k = 5 ∨ k = 13) := by unfold A2B; rw [decide_eq_false_iff_not]
 have hT' : Fn Tryz.prog 90 _ [] G (H2 (.bool (A2B k)) G) := hT
 generalize A2B k = Hk at *
 refine B7 Tryz.func92 rfl Tryz.ntmps92 Tryz.results92 rfl ?_
 intro w0
 refine tS (tR ?_)
 refine sE (C2 rfl rfl) rfl (fun b3 => ?_)
 refine sE (C2 rfl rfl) rfl (fun b4 => ?_)
 (refine J1 (A6N rfl rfl rfl) rfl ?_; rintro _ ⟨b5, rfl⟩)
 refine C4 ?_
 refine E2 rfl (hT') rfl rfl (fun h13 => ?_) (fun h13 => ?_)
 refine O7 ?_
 refine sB (qE rfl rfl) rfl rfl (fun h19 => ?_) (fun h19 => ?_)
 refine C4 ?_
 refine B0G rfl rfl hP rfl rfl (fun h27 => ?_) (fun h27 => ?_)
 refine I9 ?_
 refine sP (Y9 rfl rfl (by omega)) rfl rfl ?_
 refine O7 ?_
 refine sB (A0x rfl rfl) rfl rfl (fun h47 => ?_) (fun h47 => ?_)
 refine H6 ?_
 refine sB (qE rfl rfl) rfl rfl (fun h54 => ?_) (fun h54 => ?_)
 refine H6 ?_
 refine sQ (A1N rfl rfl) rfl (A2c rfl (A8F _ _ _ _ _ _ _ _ _ hsl hsl' _ [] _ [.blk b5 [.func (.func 93) ⟨[]⟩ ⟨[]⟩]] (fun i => S7 (ks.getD i I2) (ks'.getD i I2)) A hA' (fun i e e' he he' => A9f _ _ _ _ _ _ (hsl.all e (List.mem_of_getElem? he)) (hsl'.all e' (List.mem_of_getElem? he')) (hkl.inv he I2).2.one (hkl'.inv he' I2).2.one rfl (ih _ (hkl.inv he I2).1 _ _ _ _ (hkl.inv he I2).2 (hkl'.inv he' I2).2))) Z8 rfl rfl (fun h62 => ?_) (fun h62 => ?_))
 refine H6 ?_
 (rw [ht.2 ⟨by omega, by assumption, by omega, fun hc => by first | assumption | exact absurd hc (hhn.1 (by assumption)), by assumption⟩]; exact ⟨rfl, rfl, rfl⟩)
 refine H6 ?_
 (rw [hf (fun ⟨c1, c2, c3, c4, c5⟩ => by first | omega | exact absurd c2 (by assumption) | exact Bool.noConfusion ((c4 (hhk.1 (by assumption))).symm.trans (show P5 (.mk tk tks) (.mk tk' tks') = false by assumption)) | exact Bool.noConfusion (c5.symm.trans (show A = false by assumption)))]; exact ⟨rfl, rfl, rfl⟩)
 refine I6 ?_
 (rw [hf (fun ⟨c1, c2, c3, c4, c5⟩ => by first | omega | exact absurd c2 (by assumption) | exact Bool.noConfusion ((c4 (hhk.1 (by assumption))).symm.trans (show P5 (.mk tk tks) (.mk tk' tks') = false by assumption)) | exact Bool.noConfusion (c5.symm.trans (show A = false by assumption)))]; exact ⟨rfl, rfl, rfl⟩)
 refine W1 ?_
 (rw [hf (fun ⟨c1, c2, c3, c4, c5⟩ => by first | omega | exact absurd c2 (by assumption) | exact Bool.noConfusion ((c4 (hhk.1 (by assumption))).symm.trans (show P5 (.mk tk tks) (.mk tk' tks') = false by assumption)) | exact Bool.noConfusion (c5.symm.trans (show A = false by assumption)))]; exact ⟨rfl, rfl, rfl⟩)
 refine I9 ?_
 (rw [hf (fun ⟨c1, c2, c3, c4, c5⟩ => by first | omega | exact absurd c2 (by assumption) | exact Bool.noConfusion ((c4 (hhk.1 (by assumption))).symm.trans (show P5 (.mk tk tks) (.mk tk' tks') = false by assumption)) | exact Bool.noConfusion (c5.symm.trans (show A = false by assumption)))]; exact ⟨rfl, rfl, rfl⟩)
 refine W1 ?_
 refine sP (I4 rfl rfl (by omega)) rfl rfl ?_
 refine A3i ?_
 (rw [hf (fun ⟨c1, c2, c3, c4, c5⟩ => by first | omega | exact absurd c2 (by assumption) | exact Bool.noConfusion ((c4 (hhk.1 (by assumption))).symm.trans (show P5 (.mk tk tks) (.mk tk' tks') = false by assumption)) | exact Bool.noConfusion (c5.symm.trans (show A = false by assumption)))]; exact ⟨rfl, rfl, rfl⟩)
 refine A3i ?_
 refine sB (qE rfl rfl) rfl rfl (fun h205 => ?_) (fun h205 => ?_)
 refine O7 ?_
 refine sB (A0x rfl rfl) rfl rfl (fun h211 => ?_) (fun h211 => ?_)
 refine H6 ?_
 refine sB (qE rfl rfl) rfl rfl (fun h218 => ?_) (fun h218 => ?_)
 refine H6 ?_
 refine sQ (A1N rfl rfl) rfl (A2c rfl (A8F _ _ _ _ _ _ _ _ _ hsl hsl' _ [] _ [.blk b5 [.func (.func 93) ⟨[]⟩ ⟨[]⟩]] (fun i => S7 (ks.getD i I2) (ks'.getD i I2)) A hA' (fun i e e' he he' => A9f _ _ _ _ _ _ (hsl.all e (List.mem_of_getElem? he)) (hsl'.all e' (List.mem_of_getElem? he')) (hkl.inv he I2).2.one (hkl'.inv he' I2).2.one rfl (ih _ (hkl.inv he I2).1 _ _ _ _ (hkl.inv he I2).2 (hkl'.inv he' I2).2))) Z8 rfl rfl (fun h226 => ?_) (fun h226 => ?_))
 refine H6 ?_
 (rw [ht.2 ⟨by omega, by assumption, by omega, fun hc => by first | assumption | exact absurd hc (hhn.1 (by assumption)), by assumption⟩]; exact ⟨rfl, rfl, rfl⟩)
 refine H6 ?_
 (rw [hf (fun ⟨c1, c2, c3, c4, c5⟩ => by first | omega | exact absurd c2 (by assumption) | exact Bool.noConfusion ((c4 (hhk.1 (by assumption))).symm.trans (show P5 (.mk tk tks) (.mk tk' tks') = false by assumption)) | exact Bool.noConfusion (c5.symm.trans (show A = false by assumption)))]; exact ⟨rfl, rfl, rfl⟩)
 refine I6 ?_
 (rw [hf (fun ⟨c1, c2, c3, c4, c5⟩ => by first | omega | exact absurd c2 (by assumption) | exact Bool.noConfusion ((c4 (hhk.1 (by assumption))).symm.trans (show P5 (.mk tk tks) (.mk tk' tks') = false by assumption)) | exact Bool.noConfusion (c5.symm.trans (show A = false by assumption)))]; exact ⟨rfl, rfl, rfl⟩)
 refine W1 ?_
 (rw [hf (fun ⟨c1, c2, c3, c4, c5⟩ => by first | omega | exact absurd c2 (by assumption) | exact Bool.noConfusion ((c4 (hhk.1 (by assumption))).symm.trans (show P5 (.mk tk tks) (.mk tk' tks') = false by assumption)) | exact Bool.noConfusion (c5.symm.trans (show A = false by assumption)))]; exact ⟨rfl, rfl, rfl⟩)
 refine A3i ?_
 (rw [hf (fun ⟨c1, c2, c3, c4, c5⟩ => by first | omega | exact absurd c2 (by assumption) | exact Bool.noConfusion ((c4 (hhk.1 (by assumption))).symm.trans (show P5 (.mk tk tks) (.mk tk' tks') = false by assumption)) | exact Bool.noConfusion (c5.symm.trans (show A = false by assumption)))]; exact ⟨rfl, rfl, rfl⟩)
theorem B3S (t t' : Tm) (G : IM) (cells cells' : List Value) (hr : A9 G t cells) (hr' : A9 G t' cells') :
  Fn Tryz.prog 52 [.agg ⟨cells⟩, .agg ⟨cells'⟩] [] G (H2 (.bool (W5 t t')) G) := by
 have hl := hr.len
 have hl' := hr'.len
 have hv := A4g t G cells hr
 have hv' := A4g t' G cells' hr'
 have hc := B3R t t' G cells cells' hr hr'
 refine B7 Tryz.func52 rfl Tryz.ntmps52 Tryz.results52 rfl ?_
 intro w0
 refine tS (tR ?_)
 refine sE (C2 rfl rfl) rfl (fun b3 => ?_)
 refine sE (C2 rfl rfl) rfl (fun b4 => ?_)
 refine sQ (qA rfl) rfl (sD (nS (tS (tR ?_))))
 refine sL (A3 rfl rfl (B1 (by repeat first | exact mH | apply mT)) (by assumption)) rfl rfl ?_
 refine E2 rfl (hv) rfl rfl (fun h11 => ?_) (fun h11 => ?_)
 refine sQ (qM rfl) rfl ?_
 refine sL (A3 rfl rfl (B1 (by repeat first | exact mH | apply mT)) (by assumption)) rfl rfl ?_
 refine E2 rfl (hv') rfl rfl (fun h14 => ?_) (fun h14 => ?_)
 refine sQ (K8 rfl rfl) rfl (sQ (qM rfl) rfl ?_)
 refine sL (A3 rfl rfl (B1 (by repeat first | exact mH | apply mT)) (by assumption)) rfl rfl ?_
 refine sL (A3 rfl rfl (B1 (by repeat first | exact mH | apply mT)) (by assumption)) rfl rfl ?_
 refine E2 rfl (hc) rfl rfl (fun h19 => ?_) (fun h19 => ?_)
 refine H6 ?_
 exact ⟨rfl, by simp only [W5]; simp only [*, Bool.true_and, Bool.false_and, Bool.and_true], rfl⟩
 refine H6 ?_
 exact ⟨rfl, by simp only [W5]; simp only [*, Bool.true_and, Bool.false_and, Bool.and_true], rfl⟩
 refine J3 ?_
 exact ⟨rfl, by simp only [W5]; simp only [*, Bool.true_and, Bool.false_and, Bool.and_true], rfl⟩
 refine I6 ?_
 exact ⟨rfl, by simp only [W5]; simp only [*, Bool.true_and, Bool.false_and, Bool.and_true], rfl⟩
theorem B3T : ∀ (t t' : Tm) (G : IM) (cells cells' : List Value) (d d' : Int), M9 12 14 t d = true → M9 12 14 t' d' = true → A9 G t cells → A9 G t' cells' →
  Fn Tryz.prog 96 [.agg ⟨cells⟩, .agg ⟨cells'⟩] [] G (H2 (.bool (S7 t t')) G) := by
 refine Tm.ind fun k nm num ty fr lb ks ih t' G cells cells' d d' hs hs' hr hr' => ?_
 obtain ⟨k', nm', num', ⟨tk', tks'⟩, ⟨fk', fks'⟩, lb', ks'⟩ := t'
 obtain ⟨tk, tks⟩ := ty
 obtain ⟨fk, fks⟩ := fr
 obtain ⟨_, _, s3, s4⟩ := A0t hs
 obtain ⟨_, _, s3', s4'⟩ := A0t hs'
 obtain ⟨_, _, _, _, _, n6, _⟩ := T8.1 s3
 obtain ⟨_, _, _, _, _, n6', _⟩ := T8.1 s3'
 have q4 := (A0A (D := 12) (N := 14) ks (d + 1)).1 s4
 have q4' := (A0A (D := 12) (N := 14) ks' (d' + 1)).1 s4'
 obtain ⟨pt, ct, pf, cf, p, c, es, rfl, hk, hnum, hlb, hty, hfr, hsl, hkl⟩ := hr.open9
 obtain ⟨pt', ct', pf', cf', p', c', es', rfl, hk', hnum', hlb', hty', hfr', hsl', hkl'⟩ := hr'.open9
 have hn := hsl.le
 have hn' := hsl'.le
 have hf := @A8E k k' nm nm' num num' (.mk tk tks) (.mk tk' tks') (.mk fk fks) (.mk fk' fks') lb lb' ks ks'
 have ht := @A4z k k' nm nm' num num' (.mk tk tks) (.mk tk' tks') (.mk fk fks) (.mk fk' fks') lb lb' ks ks'
 generalize S7 (.mk k nm num (.mk tk tks) (.mk fk fks) lb ks) (.mk k' nm' num' (.mk tk' tks') (.mk fk' fks') lb' ks') = R at *
 refine B7 Tryz.func96 rfl Tryz.ntmps96 Tryz.results96 rfl ?_
 intro w0
 refine tS (tR ?_)
 refine sE (C2 rfl rfl) rfl (fun b3 => ?_)
 refine sE (C2 rfl rfl) rfl (fun b4 => ?_)
 refine I5 ?_
 refine sB (M3 rfl rfl) rfl rfl (fun h15 => ?_) (fun h15 => ?_)
 refine X5 ?_
 refine nS (tT (rS (E5 (rT rfl) ?_)))
 (rw [hf (fun ⟨c1, c2, c3, c4, c5⟩ => by first | omega | exact absurd c2 (by assumption) | (have := (V5 ks ks').1 c5; omega) | exact Bool.noConfusion ((c4 (by omega)).symm.trans (show P5 (.mk tk tks) (.mk tk' tks') = false by assumption)) | exact Bool.noConfusion ((((V5 ks ks').1 c5).2 i (by omega) (by omega)).symm.trans (show S7 ks[i] ks'[i] = false by assumption)))]; exact ⟨rfl, rfl, rfl⟩)
 refine O7 ?_
 refine sB (A1O rfl rfl) rfl rfl (fun h56 => ?_) (fun h56 => ?_)
 refine A5c ?_
 (rw [hf (fun ⟨c1, c2, c3, c4, c5⟩ => by first | omega | exact absurd c2 (by assumption) | (have := (V5 ks ks').1 c5; omega) | exact Bool.noConfusion ((c4 (by omega)).symm.trans (show P5 (.mk tk tks) (.mk tk' tks') = false by assumption)) | exact Bool.noConfusion ((((V5 ks ks').1 c5).2 i (by omega) (by omega)).symm.trans (show S7 ks[i] ks'[i] = false by assumption)))]; exact ⟨rfl, rfl, rfl⟩)
 refine H6 ?_
 refine sB (M3 rfl rfl) rfl rfl (fun h92 => ?_) (fun h92 => ?_)
 refine W1 ?_
 (rw [hf (fun ⟨c1, c2, c3, c4, c5⟩ => by first | omega | exact absurd c2 (by assumption) | (have := (V5 ks ks').1 c5; omega) | exact Bool.noConfusion ((c4 (by omega)).symm.trans (show P5 (.mk tk tks) (.mk tk' tks') = false by assumption)) | exact Bool.noConfusion ((((V5 ks ks').1 c5).2 i (by omega) (by omega)).symm.trans (show S7 ks[i] ks'[i] = false by assumption)))]; exact ⟨rfl, rfl, rfl⟩)
 refine D2 ?_
 refine sB (M3 rfl rfl) rfl rfl (fun h123 => ?_) (fun h123 => ?_)
 refine N5 ?_
 (rw [hf (fun ⟨c1, c2, c3, c4, c5⟩ => by first | omega | exact absurd c2 (by assumption) | (have := (V5 ks ks').1 c5; omega) | exact Bool.noConfusion ((c4 (by omega)).symm.trans (show P5 (.mk tk tks) (.mk tk' tks') = false by assumption)) | exact Bool.noConfusion ((((V5 ks ks').1 c5).2 i (by omega) (by omega)).symm.trans (show S7 ks[i] ks'[i] = false by assumption)))]; exact ⟨rfl, rfl, rfl⟩)
 refine J3 ?_
 refine sB (qE rfl rfl) rfl rfl (fun h148 => ?_) (fun h148 => ?_)
 refine I5 ?_
 refine E2 rfl (A8G (.mk tk tks) (.mk tk' tks') G _ _ 1 1 (n6 (by omega)) (n6' (by omega)) hty hty') rfl rfl (fun h159 => ?_) (fun h159 => ?_)
 refine I9 ?_
 refine B8 ?_
 (have hll : ks.length = ks'.length := (by omega); refine J8 (fun (i : Nat) => ⟨[(5, .int .i64 i), (3, .pointer (some ⟨b4, 0, none⟩)), (2, .pointer (some ⟨b3, 0, none⟩))], [.blk b3 [.int .i64 k, .string nm, .int .i64 num, .int .i64 tk, .slice pt tks.length ct, .int .i64 fk, .slice pf fks.length cf, .int .i64 lb, .slice p ks.length c], .blk b4 [.int .i64 k', .string nm', .int .i64 num', .int .i64 tk', .slice pt' tks'.length ct', .int .i64 fk', .slice pf' fks'.length cf', .int .i64 lb', .slice p' ks'.length c']], G⟩) (fun i => i ≤ ks.length ∧ ∀ j (h : j < ks.length) (h' : j < ks'.length), j < i → S7 ks[j] ks'[j] = true) (fun i => ks.length - i) 0 ?_ ?_ ?_)
 exact D8
 exact ⟨by omega, by omega⟩
 (rintro i ⟨hi, hfj⟩)
 refine C4 ?_
 refine sB (J4 rfl rfl) rfl rfl (fun h185 => ?_) (fun h185 => ?_)
 refine sD (nS (qT rfl (tK (nS (tS ?_)))))
 refine B8 ?_
 refine tS ?_
 (obtain ⟨b, o, e, rfl, hl, hat, hre, hgb⟩ := hsl.kidTm hkl (i := i) (by omega) (by omega); obtain ⟨b', o', e', rfl, hl', hat', hre', hgb'⟩ := hsl'.kidTm hkl' (i := i) (by omega) (by omega); refine D4 D5 rfl ?_)
 refine I3 (i := 0) (l' := [tt,ff,ff,ff,ff,ff,ff,ff,ff,ff,ff,ff]) rfl C8 (B0 rfl) rfl (by kernel_rfl) rfl rfl ?_
 refine aL 1 rfl (B5 rfl rfl) rfl ?_
 refine aP 2 rfl (qM rfl) rfl ?_
 refine aP 3 rfl (B3 rfl rfl rfl (by omega)) rfl ?_
 refine aL 4 rfl (A3 rfl rfl (hat _) hl) rfl ?_
 refine aP 5 rfl (B0 rfl) rfl ?_
 refine aL 6 rfl (B5 rfl rfl) rfl ?_
 refine aP 7 rfl (qM rfl) rfl ?_
 refine aP 8 rfl (B3 rfl rfl rfl (by omega)) rfl ?_
 refine aL 9 rfl (A3 rfl rfl (hat' _) hl') rfl ?_
 refine A4 10 ?_
 refine R7 rfl rfl (ih ks[i] (List.getElem_mem (by omega)) ks'[i] G _ _ _ _ (q4 i (by omega)) (q4' i (by omega)) hre hre') rfl rfl rfl (fun h206 => ?_) (fun h206 => ?_)
 refine aP 11 rfl (V8 rfl) rfl ?_
 refine D2 ?_
 refine sP (J2 rfl rfl (by omega) (by omega)) rfl rfl ?_
 refine sQ (qA rfl) rfl (sD ?_)
 refine J9 (i + 1) ?_ ?_ ?_
 exact D8
 exact ⟨by omega, fun j hj hj' hji => by (by_cases he : j = i; (subst he; assumption); exact hfj j hj hj' (by omega))⟩
 omega
 refine aP 11 rfl (Z7 rfl) rfl ?_
 refine H4 ?_
 (rw [hf (fun ⟨c1, c2, c3, c4, c5⟩ => by first | omega | exact absurd c2 (by assumption) | (have := (V5 ks ks').1 c5; omega) | exact Bool.noConfusion ((c4 (by omega)).symm.trans (show P5 (.mk tk tks) (.mk tk' tks') = false by assumption)) | exact Bool.noConfusion ((((V5 ks ks').1 c5).2 i (by omega) (by omega)).symm.trans (show S7 ks[i] ks'[i] = false by assumption)))]; exact ⟨rfl, rfl, rfl⟩)
 refine H4 ?_
 (rw [ht.2 ⟨by omega, by first | assumption | exact Classical.not_not.1 (by assumption), by omega, fun hc => by first | assumption | (exfalso; omega), (V5 ks _).2 ⟨hll, fun j hj hj' => hfj j hj hj' (by omega)⟩⟩]; exact ⟨rfl, rfl, rfl⟩)
 refine I9 ?_
 (rw [hf (fun ⟨c1, c2, c3, c4, c5⟩ => by first | omega | exact absurd c2 (by assumption) | (have := (V5 ks ks').1 c5; omega) | exact Bool.noConfusion ((c4 (by omega)).symm.trans (show P5 (.mk tk tks) (.mk tk' tks') = false by assumption)) | exact Bool.noConfusion ((((V5 ks ks').1 c5).2 i (by omega) (by omega)).symm.trans (show S7 ks[i] ks'[i] = false by assumption)))]; exact ⟨rfl, rfl, rfl⟩)
 refine J7 ?_
 refine sB (qE rfl rfl) rfl rfl (fun h273 => ?_) (fun h273 => ?_)
 refine H6 ?_
 refine E2 rfl (A8G (.mk tk tks) (.mk tk' tks') G _ _ 1 1 (n6 (by omega)) (n6' (by omega)) hty hty') rfl rfl (fun h280 => ?_) (fun h280 => ?_)
 refine I9 ?_
 refine B8 ?_
 (have hll : ks.length = ks'.length := (by omega); refine J8 (fun (i : Nat) => ⟨[(5, .int .i64 i), (3, .pointer (some ⟨b4, 0, none⟩)), (2, .pointer (some ⟨b3, 0, none⟩))], [.blk b3 [.int .i64 k, .string nm, .int .i64 num, .int .i64 tk, .slice pt tks.length ct, .int .i64 fk, .slice pf fks.length cf, .int .i64 lb, .slice p ks.length c], .blk b4 [.int .i64 k', .string nm', .int .i64 num', .int .i64 tk', .slice pt' tks'.length ct', .int .i64 fk', .slice pf' fks'.length cf', .int .i64 lb', .slice p' ks'.length c']], G⟩) (fun i => i ≤ ks.length ∧ ∀ j (h : j < ks.length) (h' : j < ks'.length), j < i → S7 ks[j] ks'[j] = true) (fun i => ks.length - i) 0 ?_ ?_ ?_)
 exact D8
 exact ⟨by omega, by omega⟩
 (rintro i ⟨hi, hfj⟩)
 refine C4 ?_
 refine sB (J4 rfl rfl) rfl rfl (fun h306 => ?_) (fun h306 => ?_)
 refine sD (nS (qT rfl (tK (nS (tS ?_)))))
 refine B8 ?_
 refine tS ?_
 (obtain ⟨b, o, e, rfl, hl, hat, hre, hgb⟩ := hsl.kidTm hkl (i := i) (by omega) (by omega); obtain ⟨b', o', e', rfl, hl', hat', hre', hgb'⟩ := hsl'.kidTm hkl' (i := i) (by omega) (by omega); refine D4 D5 rfl ?_)
 refine I3 (i := 0) (l' := [tt,ff,ff,ff,ff,ff,ff,ff,ff,ff,ff,ff]) rfl C8 (B0 rfl) rfl (by kernel_rfl) rfl rfl ?_
 refine aL 1 rfl (B5 rfl rfl) rfl ?_
 refine aP 2 rfl (qM rfl) rfl ?_
 refine aP 3 rfl (B3 rfl rfl rfl (by omega)) rfl ?_
 refine aL 4 rfl (A3 rfl rfl (hat _) hl) rfl ?_
 refine aP 5 rfl (B0 rfl) rfl ?_
 refine aL 6 rfl (B5 rfl rfl) rfl ?_
 refine aP 7 rfl (qM rfl) rfl ?_
 refine aP 8 rfl (B3 rfl rfl rfl (by omega)) rfl ?_
 refine aL 9 rfl (A3 rfl rfl (hat' _) hl') rfl ?_
 refine A4 10 ?_
 refine R7 rfl rfl (ih ks[i] (List.getElem_mem (by omega)) ks'[i] G _ _ _ _ (q4 i (by omega)) (q4' i (by omega)) hre hre') rfl rfl rfl (fun h327 => ?_) (fun h327 => ?_)
 refine aP 11 rfl (V8 rfl) rfl ?_
 refine D2 ?_
 refine sP (J2 rfl rfl (by omega) (by omega)) rfl rfl ?_
 refine sQ (qA rfl) rfl (sD ?_)
 refine J9 (i + 1) ?_ ?_ ?_
 exact D8
 exact ⟨by omega, fun j hj hj' hji => by (by_cases he : j = i; (subst he; assumption); exact hfj j hj hj' (by omega))⟩
 omega
 refine aP 11 rfl (Z7 rfl) rfl ?_
 refine H4 ?_
 (rw [hf (fun ⟨c1, c2, c3, c4, c5⟩ => by first | omega | exact absurd c2 (by assumption) | (have := (V5 ks ks').1 c5; omega) | exact Bool.noConfusion ((c4 (by omega)).symm.trans (show P5 (.mk tk tks) (.mk tk' tks') = false by assumption)) | exact Bool.noConfusion ((((V5 ks ks').1 c5).2 i (by omega) (by omega)).symm.trans (show S7 ks[i] ks'[i] = false by assumption)))]; exact ⟨rfl, rfl, rfl⟩)
 refine H4 ?_
 (rw [ht.2 ⟨by omega, by first | assumption | exact Classical.not_not.1 (by assumption), by omega, fun hc => by first | assumption | (exfalso; omega), (V5 ks _).2 ⟨hll, fun j hj hj' => hfj j hj hj' (by omega)⟩⟩]; exact ⟨rfl, rfl, rfl⟩)
 refine I9 ?_
 (rw [hf (fun ⟨c1, c2, c3, c4, c5⟩ => by first | omega | exact absurd c2 (by assumption) | (have := (V5 ks ks').1 c5; omega) | exact Bool.noConfusion ((c4 (by omega)).symm.trans (show P5 (.mk tk tks) (.mk tk' tks') = false by assumption)) | exact Bool.noConfusion ((((V5 ks ks').1 c5).2 i (by omega) (by omega)).symm.trans (show S7 ks[i] ks'[i] = false by assumption)))]; exact ⟨rfl, rfl, rfl⟩)
 refine A0k ?_
 refine B8 ?_
 (have hll : ks.length = ks'.length := (by omega); refine J8 (fun (i : Nat) => ⟨[(5, .int .i64 i), (3, .pointer (some ⟨b4, 0, none⟩)), (2, .pointer (some ⟨b3, 0, none⟩))], [.blk b3 [.int .i64 k, .string nm, .int .i64 num, .int .i64 tk, .slice pt tks.length ct, .int .i64 fk, .slice pf fks.length cf, .int .i64 lb, .slice p ks.length c], .blk b4 [.int .i64 k', .string nm', .int .i64 num', .int .i64 tk', .slice pt' tks'.length ct', .int .i64 fk', .slice pf' fks'.length cf', .int .i64 lb', .slice p' ks'.length c']], G⟩) (fun i => i ≤ ks.length ∧ ∀ j (h : j < ks.length) (h' : j < ks'.length), j < i → S7 ks[j] ks'[j] = true) (fun i => ks.length - i) 0 ?_ ?_ ?_)
 exact D8
 exact ⟨by omega, by omega⟩
 (rintro i ⟨hi, hfj⟩)
 refine C4 ?_
 refine sB (J4 rfl rfl) rfl rfl (fun h423 => ?_) (fun h423 => ?_)
 refine sD (nS (qT rfl (tK (nS (tS ?_)))))
 refine B8 ?_
 refine tS ?_
 (obtain ⟨b, o, e, rfl, hl, hat, hre, hgb⟩ := hsl.kidTm hkl (i := i) (by omega) (by omega); obtain ⟨b', o', e', rfl, hl', hat', hre', hgb'⟩ := hsl'.kidTm hkl' (i := i) (by omega) (by omega); refine D4 D5 rfl ?_)
 refine I3 (i := 0) (l' := [tt,ff,ff,ff,ff,ff,ff,ff,ff,ff,ff,ff]) rfl C8 (B0 rfl) rfl (by kernel_rfl) rfl rfl ?_
 refine aL 1 rfl (B5 rfl rfl) rfl ?_
 refine aP 2 rfl (qM rfl) rfl ?_
 refine aP 3 rfl (B3 rfl rfl rfl (by omega)) rfl ?_
 refine aL 4 rfl (A3 rfl rfl (hat _) hl) rfl ?_
 refine aP 5 rfl (B0 rfl) rfl ?_
 refine aL 6 rfl (B5 rfl rfl) rfl ?_
 refine aP 7 rfl (qM rfl) rfl ?_
 refine aP 8 rfl (B3 rfl rfl rfl (by omega)) rfl ?_
 refine aL 9 rfl (A3 rfl rfl (hat' _) hl') rfl ?_
 refine A4 10 ?_
 refine R7 rfl rfl (ih ks[i] (List.getElem_mem (by omega)) ks'[i] G _ _ _ _ (q4 i (by omega)) (q4' i (by omega)) hre hre') rfl rfl rfl (fun h444 => ?_) (fun h444 => ?_)
 refine aP 11 rfl (V8 rfl) rfl ?_
 refine D2 ?_
 refine sP (J2 rfl rfl (by omega) (by omega)) rfl rfl ?_
 refine sQ (qA rfl) rfl (sD ?_)
 refine J9 (i + 1) ?_ ?_ ?_
 exact D8
 exact ⟨by omega, fun j hj hj' hji => by (by_cases he : j = i; (subst he; assumption); exact hfj j hj hj' (by omega))⟩
 omega
 refine aP 11 rfl (Z7 rfl) rfl ?_
 refine H4 ?_
 (rw [hf (fun ⟨c1, c2, c3, c4, c5⟩ => by first | omega | exact absurd c2 (by assumption) | (have := (V5 ks ks').1 c5; omega) | exact Bool.noConfusion ((c4 (by omega)).symm.trans (show P5 (.mk tk tks) (.mk tk' tks') = false by assumption)) | exact Bool.noConfusion ((((V5 ks ks').1 c5).2 i (by omega) (by omega)).symm.trans (show S7 ks[i] ks'[i] = false by assumption)))]; exact ⟨rfl, rfl, rfl⟩)
 refine H4 ?_
 (rw [ht.2 ⟨by omega, by first | assumption | exact Classical.not_not.1 (by assumption), by omega, fun hc => by first | assumption | (exfalso; omega), (V5 ks _).2 ⟨hll, fun j hj hj' => hfj j hj hj' (by omega)⟩⟩]; exact ⟨rfl, rfl, rfl⟩)
theorem B3U (t t' : Tm) (G : IM) (cells cells' : List Value) (hc1 : D0 t ≤ 4294967296) (hc2 : D0 t' ≤ 4294967296) (hr : A9 G t cells) (hr' : A9 G t' cells') :
  Fn Tryz.prog 54 [.agg ⟨cells⟩, .agg ⟨cells'⟩] [] G (H2 (.bool (W5 t t')) G) := by
 have hl := hr.len
 have hl' := hr'.len
 have hv := A2N t G cells hc1 hr
 have hv' := A2N t' G cells' hc2 hr'
 have hc := fun h1 h2 => B3T t t' G cells cells' 1 1 ((A0B t).1 h1).1 ((A0B t').1 h2).1 hr hr'
 refine B7 Tryz.func54 rfl Tryz.ntmps54 Tryz.results54 rfl ?_
 intro w0
 refine tS (tR ?_)
 refine sE (C2 rfl rfl) rfl (fun b3 => ?_)
 refine sE (C2 rfl rfl) rfl (fun b4 => ?_)
 refine sQ (qA rfl) rfl (sD (nS (tS (tR ?_))))
 refine sL (A3 rfl rfl (B1 (by repeat first | exact mH | apply mT)) (by assumption)) rfl rfl ?_
 refine E2 rfl (hv) rfl rfl (fun h11 => ?_) (fun h11 => ?_)
 refine sQ (qM rfl) rfl ?_
 refine sL (A3 rfl rfl (B1 (by repeat first | exact mH | apply mT)) (by assumption)) rfl rfl ?_
 refine E2 rfl (hv') rfl rfl (fun h14 => ?_) (fun h14 => ?_)
 refine sQ (K8 rfl rfl) rfl (sQ (qM rfl) rfl ?_)
 refine sL (A3 rfl rfl (B1 (by repeat first | exact mH | apply mT)) (by assumption)) rfl rfl ?_
 refine sL (A3 rfl rfl (B1 (by repeat first | exact mH | apply mT)) (by assumption)) rfl rfl ?_
 refine E2 rfl (hc (by assumption) (by assumption)) rfl rfl (fun h19 => ?_) (fun h19 => ?_)
 refine H6 ?_
 exact ⟨rfl, by simp only [W5]; simp only [*, Bool.true_and, Bool.false_and, Bool.and_true], rfl⟩
 refine H6 ?_
 exact ⟨rfl, by simp only [W5]; simp only [*, Bool.true_and, Bool.false_and, Bool.and_true], rfl⟩
 refine J3 ?_
 exact ⟨rfl, by simp only [W5]; simp only [*, Bool.true_and, Bool.false_and, Bool.and_true], rfl⟩
 refine I6 ?_
 exact ⟨rfl, by simp only [W5]; simp only [*, Bool.true_and, Bool.false_and, Bool.and_true], rfl⟩
inductive MV where
 | mk (k num : Int) (env parts : List MV)
def MV.k : MV → Int | .mk k _ _ _ => k
def MV.num : MV → Int | .mk _ n _ _ => n
def MV.env : MV → List MV | .mk _ _ e _ => e
def MV.parts : MV → List MV | .mk _ _ _ p => p
def mv0 : MV := .mk 0 0 [] []
mutual
def RMv (kc : Int → Int) (G : IM) : MV → List Value → Prop
 | .mk k num env parts, cells => ∃ p c es q d fs, cells = [.int .i64 (kc k), .int .i64 num, .slice p env.length c, .slice q parts.length d] ∧ F0 num ∧ F0 (kc k) ∧ D3 G p env.length c 4 es ∧ A24 kc G env es ∧ D3 G q parts.length d 4 fs ∧ A24 kc G parts fs
def A24 (kc : Int → Int) (G : IM) : List MV → List (List Value) → Prop
 | [], es => es = []
 | t :: ts, es => ∃ a r, es = a :: r ∧ RMv kc G t a ∧ A24 kc G ts r
end
section
variable {kc : Int → Int} {G : IM}
end

def RFr (kc : Int → Int) (G : IM) (f : Int × List MV) (cells : List Value) : Prop := ∃ p c es, cells = [.int .i64 f.1, .slice p f.2.length c] ∧ F0 f.1 ∧ D3 G p f.2.length c 4 es ∧ A24 kc G f.2 es
def A9g (kc : Int → Int) (G : IM) : List (Int × List MV) → List (List Value) → Prop
 | [], es => es = []
 | t :: ts, es => ∃ a r, es = a :: r ∧ RFr kc G t a ∧ A9g kc G ts r
section
variable {kc : Int → Int} {G : IM}
end

structure MSt where
 at' : Int
 st : List MV
 env : List MV
 fr : List (Int × List MV)
def RSs (kc : Int → Int) (G : IM) (s : MSt) (cells : List Value) : Prop := ∃ pe ce ps cs pf cf ee es ef, cells = [.int .i64 s.at', .slice pe s.env.length ce, .slice ps s.st.length cs, .slice pf s.fr.length cf] ∧ F0 s.at' ∧
 D3 G pe s.env.length ce 4 ee ∧ A24 kc G s.env ee ∧ D3 G ps s.st.length cs 4 es ∧ A24 kc G s.st es ∧ D3 G pf s.fr.length cf 2 ef ∧ A9g kc G s.fr ef
def A4P (k : Int) : Nat := if k = 6 ∨ k = 7 ∨ k = 8 ∨ k = 11 then 2 else if k = 9 ∨ k = 12 ∨ k = 13 then 1 else 0
def A6j (k : Int) : Int × Nat × Int := if k = 6 then (2, 1, 1) else if k = 7 ∨ k = 8 then (0, 2, 2) else if k = 9 then (1, 1, 3) else if k = 12 ∨ k = 13 then (3, 1, 4) else (0, 0, 0)
def A11 (s : MSt) (v : MV) : MSt := { s with st := s.st ++ [v] }
def mGo (k a : Int) (s : MSt) (v : List MV) : MSt ⊕ (Int × Int) :=
 if k = 1 then .inl (A11 s (.mk 0 a [] []))
 else if k = 2 then .inl (A11 s (.mk 1 a [] []))
 else if k = 3 then (if (s.env.length : Int) - 1 - a < 0 then .inr (3, 0) else .inl (A11 s (s.env.getD ((s.env.length : Int) - 1 - a).toNat mv0)))
 else if k = 4 then .inl { A11 s (.mk 2 s.at' s.env []) with at' := s.at' + a }
 else if k = 5 then (if s.fr.length = 0 then .inr (3, 0) else .inl { s with at' := (s.fr.getD (s.fr.length - 1) (0, [])).1, env := (s.fr.getD (s.fr.length - 1) (0, [])).2, fr := s.fr.take (s.fr.length - 1) })
 else if k = 6 then .inl { s with at' := (v.getD 0 mv0).num, env := (v.getD 0 mv0).env ++ [v.getD 1 mv0], fr := s.fr ++ [(s.at', s.env)] }
 else if k = 7 then .inl (A11 s (.mk 0 (((v.getD 0 mv0).num + (v.getD 1 mv0).num) % 1000) [] []))
 else if k = 8 then .inl (A11 s (.mk 1 (if (v.getD 0 mv0).num < (v.getD 1 mv0).num then 1 else 0) [] []))
 else if k = 9 then .inl (if (v.getD 0 mv0).num = 0 then { s with at' := s.at' + a } else s)
 else if k = 10 then .inl { s with at' := s.at' + a }
 else if k = 11 then .inl (A11 s (.mk 3 0 [] v))
 else .inl (A11 s ((v.getD 0 mv0).parts.getD (k - 12).toNat mv0))
def B3V (k : Int) (v : List MV) : Bool := (v.take (A6j k).2.1).all fun u => decide (u.k = (A6j k).1)
def B3W (k a : Int) (s : MSt) : MSt ⊕ (Int × Int) :=
 if s.st.length < A4P k then .inr (3, 0)
 else if B3V k (s.st.drop (s.st.length - A4P k)) = true then mGo k a { s with at' := s.at' + 1, st := s.st.take (s.st.length - A4P k) } (s.st.drop (s.st.length - A4P k))
 else .inr (2, (A6j k).2.2)
def B3X (v : MV) : ByteArray := if v.k = 0 then ⟨(Lib.decDigits v.num.toNat).toArray⟩ else if v.k = 1 then (if v.num = 0 then ⟨#[70]⟩ else ⟨#[84]⟩) else if v.k = 2 then ⟨⟨[102, 117, 110, 99, 116, 105, 111, 110]⟩⟩ else ⟨⟨[112, 97, 105, 114]⟩⟩
def B3Y (s : MSt) : ByteArray × Int × Int := if s.st.length ≠ 1 ∨ 0 < s.fr.length then (⟨#[]⟩, 3, 0) else (B3X (s.st.getD 0 mv0), 0, 0)
def A9h (ops : List (Int × Int)) : Nat → MSt → ByteArray × Int × Int
 | t, s => if (ops.length : Int) ≤ s.at' then B3Y s else match t with
  | 0 => (⟨#[]⟩, 5, 0)
  | t + 1 => match B3W (ops.getD s.at'.toNat (0, 0)).1 (ops.getD s.at'.toNat (0, 0)).2 s with
   | .inl s' => A9h ops t s'
   | .inr (c, e) => (⟨#[]⟩, c, e)
def B3Z (k behind : Int) : Int := if k = 1 then 999 else if k = 2 then 1 else if k = 3 then 11 else if k = 4 ∨ k = 9 ∨ k = 10 then behind else 0
def B30 (n : Nat) (i : Nat) (x : Int × Int) : Bool := decide (1 ≤ x.1 ∧ x.1 ≤ 13 ∧ 0 ≤ x.2 ∧ x.2 ≤ B3Z x.1 ((n : Int) - 1 - i))
def B31 (ops : List (Int × Int)) : Bool := decide (1 ≤ ops.length ∧ ops.length ≤ 120) && (List.range ops.length).all fun i => B30 ops.length i (ops.getD i (0, 0))
def B50 (ops : List (Int × Int)) (ticks : Int) : ByteArray × Int × Int :=
 if B31 ops = true ∧ 0 ≤ ticks ∧ ticks ≤ 2000 then A9h ops ticks.toNat ⟨0, [], [], []⟩ else (⟨#[]⟩, 3, 0)
theorem A9i (k : Nat) : strOfNums [dgi k] = (⟨[UInt8.ofNat (48 + k % 10)].toArray⟩ : ByteArray) := by
 have : (dgi k).toNat = 48 + k % 10 := by unfold dgi; omega
 simp [strOfNums, this]
theorem B32 (a b : List UInt8) : (⟨a.toArray⟩ : ByteArray) ++ ⟨b.toArray⟩ = ⟨(a ++ b).toArray⟩ := by
 apply ByteArray.ext; simp
theorem B33 {k : Nat} {out : ByteArray} (h : 9 < k) : (⟨(Lib.decDigits (k / 10)).toArray⟩ : ByteArray) ++ (strOfNums [dgi k] ++ out) = ⟨(Lib.decDigits k).toArray⟩ ++ out := by
 have e : (⟨(Lib.decDigits k).toArray⟩ : ByteArray) = ⟨(Lib.decDigits (k / 10)).toArray⟩ ++ ⟨[UInt8.ofNat (48 + k % 10)].toArray⟩ := by
  rw [B32 (Lib.decDigits (k / 10))]
  congr 2
  rw [Lib.decDigits, dif_neg (by omega)]
 rw [e, A9i, ByteArray.append_assoc]
theorem B34 {k : Nat} {out : ByteArray} (h : ¬9 < k) : strOfNums [dgi k] ++ out = ⟨(Lib.decDigits k).toArray⟩ ++ out := by
 rw [A9i, Lib.decDigits, dif_pos (by omega), Nat.mod_eq_of_lt (by omega)]
theorem B35 {k : Nat} (h : ¬9 < k) : dgi k = 48 + (k : Int) := by unfold dgi; omega
theorem B36 (k : Nat) (hk : k < 10000) (G : IM) : Fn Tryz.prog 86 [.int .i64 (k : Int)] [] G (H2 (.string ⟨(Lib.decDigits k).toArray⟩) G) := by
 refine B7 Tryz.func86 rfl Tryz.ntmps86 Tryz.results86 rfl ?_
 intro w0
 refine D9 ?_
 refine sP (A18 rfl rfl (by omega)) rfl rfl ?_
 refine D9 ?_
 refine sP (A18 rfl rfl (by omega)) rfl rfl ?_
 refine J3 ?_
 refine B8 (J8 (fun (x : Nat × ByteArray) => ⟨[(0, .int .i64 (x.1 : Int)), (2, .string ⟨#[]⟩), (3, .string x.2)], [], G⟩) (fun x => x.1 < 10000 ∧ x.1 + x.2.size < 10020 ∧ (⟨(Lib.decDigits x.1).toArray⟩ : ByteArray) ++ x.2 = ⟨(Lib.decDigits k).toArray⟩) (fun x => x.1) (k, ⟨#[]⟩) ?_ ?_ ?_)
 (simp only [J5]; exact D8)
 (dsimp only; exact ⟨hk, by have : (⟨#[]⟩ : ByteArray).size = 0 := rfl; omega, ByteArray.append_empty⟩)
 (rintro ⟨j, out⟩ ⟨hj, hsz, hd⟩; simp only [] at hj hsz hd ⊢)
 refine tS (tS (tR (sQ (qM rfl) rfl ?_)))
 refine sB (Y7 rfl rfl) rfl rfl (fun h41 => ?_) (fun h41 => ?_)
 refine sD (nS (qT rfl (tK (nS ?_))))
 refine B8 ?_
 refine tS (tR (sQ (qM rfl) rfl ?_))
 refine sP (A5h (n := 10) rfl rfl (by omega)) rfl rfl ?_
 refine sP (J2 rfl rfl (by omega) (by omega)) rfl rfl ?_
 refine sP (A7a rfl rfl rfl (by omega) (by omega)) rfl rfl ?_
 (refine J1 (C7 rfl rfl rfl (by omega) (by unfold maxLen; omega) rfl) rfl ?_; rintro _ ⟨b54, rfl⟩)
 refine sL (A7b (xs := [dgi j]) rfl rfl rfl rfl rfl (N9 (by repeat first | exact mH | apply mT))) rfl rfl ?_
 refine sQ (qM rfl) rfl ?_
 (have hs1 := strOfNums_size [dgi j]; have hs2 : [dgi j].length = 1 := rfl; refine sP (A2G rfl rfl (by omega)) rfl rfl ?_)
 refine sQ (qA rfl) rfl (sD (nS (tR (sQ (qM rfl) rfl ?_))))
 refine sP (A5i (n := 10) rfl rfl (by omega) (by omega)) rfl rfl ?_
 refine sQ (qA rfl) rfl (sD (N3 ?_))
 refine J9 (j / 10, strOfNums [dgi j] ++ out) ?_ ?_ ?_
 (simp only [J5]; exact D8)
 (dsimp only; exact ⟨by omega, by (rw [ByteArray.size_append]; omega), by rw [← hd]; exact B33 (by omega)⟩)
 (show j / 10 < j; omega)
 refine J3 ?_
 refine sP (J2 rfl rfl (by omega) (by omega)) rfl rfl ?_
 refine sP (A7a rfl rfl rfl (by omega) (by omega)) rfl rfl ?_
 (refine J1 (C7 rfl rfl rfl (by omega) (by unfold maxLen; omega) rfl) rfl ?_; rintro _ ⟨b84, rfl⟩)
 (have hs9 := B35 (k := j) (by omega); refine sL (A7b (xs := [48 + (j : Int)]) rfl rfl rfl rfl rfl (N9 (by repeat first | exact mH | apply mT))) rfl rfl ?_; rw [← hs9])
 refine sQ (qM rfl) rfl ?_
 (have hs1 := strOfNums_size [dgi j]; have hs2 : [dgi j].length = 1 := rfl; refine sP (A2G rfl rfl (by omega)) rfl rfl ?_)
 refine sQ (qA rfl) rfl (sD (nS (tT (E5 (rT rfl) ?_))))
 exact ⟨rfl, by rw [B34 (by omega), hd], rfl⟩
def A6k : ByteArray := ⟨⟨[112, 97, 105, 114]⟩⟩
def A6l : ByteArray := ⟨⟨[102, 117, 110, 99, 116, 105, 111, 110]⟩⟩
def txT : ByteArray := ⟨⟨[84]⟩⟩
def txF : ByteArray := ⟨⟨[70]⟩⟩
def A9j (n : Int) : ByteArray := ⟨(Lib.decDigits n.toNat).toArray⟩
def A1L (k num : Int) : ByteArray := if k = 2 then A9j num else if k = 3 then txT else txF
mutual
def Z5 : Tm → ByteArray
 | .mk k nm num ty fr lb ks => if k = 10 ∨ (Q6 (.mk k nm num ty fr lb []) = true ∧ ty.k = 5) then A6k else if k = 5 ∨ Q6 (.mk k nm num ty fr lb []) = true then A6l else if k = 14 then B37 ks else A1L k num
def B37 : List Tm → ByteArray
 | [] => ⟨⟨[]⟩⟩
 | t :: _ => Z5 t
end
theorem B38 (k : Int) (nm : ByteArray) (num : Int) (ty fr : Ty) (lb : Int) (ks : List Tm) (G : IM) (cells : List Value) (hT : A01 G) (hk3 : k = 2 ∨ k = 3 ∨ k = 4) (hn : 0 ≤ num ∧ num ≤ 999) (hr : A9 G (.mk k nm num ty fr lb ks) cells) : Fn Tryz.prog 74 [.agg ⟨cells⟩] [] G (H2 (.string (A1L k num)) G) := by
 obtain ⟨tk, tks⟩ := ty
 obtain ⟨fk, fks⟩ := fr
 obtain ⟨pt, ct, pf, cf, p, c, es, rfl, hk, hnum, hlb, hty, hfr, hsl, hkl⟩ := hr.open9
 have hI := B07 num G hT hn.1 hn.2
 refine B7 Tryz.func74 rfl Tryz.ntmps74 Tryz.results74 rfl ?_
 intro w0
 refine tS (tR ?_)
 refine sE (C2 rfl rfl) rfl (fun b3 => ?_)
 refine sQ (qA rfl) rfl (sD (nS (tS (tR ?_))))
 refine sQ (A1N rfl rfl) rfl ?_
 refine I5 ?_
 refine B8 ?_
 refine tS (tR ?_)
 refine sP (I4 rfl rfl (by omega)) rfl rfl ?_
 refine sQ (qA rfl) rfl (sD (nS (cF rfl (tS (tR ?_)))))
 refine sB (qE rfl rfl) rfl rfl (fun h30 => ?_) (fun h30 => ?_)
 refine D2 ?_
 refine H8 rfl (hI) rfl rfl ?_
 refine sQ (qA rfl) rfl (sD (nS (tT (rB (rS (E5 (rT rfl) ?_))))))
 (exact ⟨rfl, by unfold A1L; rw [if_pos (by omega)]; rfl, rfl⟩)
 refine sQ (qA rfl) rfl (sD (nS (cF rfl (tS (tR ?_)))))
 refine sB (qE rfl rfl) rfl rfl (fun h54 => ?_) (fun h54 => ?_)
 refine I9 ?_
 (exact ⟨rfl, by unfold A1L; rw [if_neg (by omega), if_pos (by omega)]; rfl, rfl⟩)
 refine sQ (qA rfl) rfl (sD (nS (cF rfl (tS (tR ?_)))))
 refine sP (Y9 rfl rfl (by omega)) rfl rfl ?_
 refine I9 ?_
 (exact ⟨rfl, by unfold A1L; rw [if_neg (by omega), if_neg (by omega)]; rfl, rfl⟩)
section
variable {k : Int} {nm : ByteArray} {num : Int} {ty fr : Ty} {lb : Int} {ks : List Tm}
theorem A9k (h : k = 10 ∨ (Q6 (.mk k nm num ty fr lb ks) = true ∧ ty.k = 5)) : Z5 (.mk k nm num ty fr lb ks) = A6k := by
 rw [Z5]
 exact if_pos h
theorem A9l (h : ¬(k = 10 ∨ (Q6 (.mk k nm num ty fr lb ks) = true ∧ ty.k = 5))) (h2 : k = 5 ∨ Q6 (.mk k nm num ty fr lb ks) = true) : Z5 (.mk k nm num ty fr lb ks) = A6l := by
 rw [Z5]
 exact (if_neg h).trans (if_pos h2)
theorem A6m (h : Q6 (.mk k nm num ty fr lb ks) = false) (hk : k = 14) (h0 : 0 < ks.length) : Z5 (.mk k nm num ty fr lb ks) = Z5 ks[0] := by
 rw [Z5, if_neg (by rintro (h1 | h1); omega; exact Bool.noConfusion (h1.1.symm.trans h)), if_neg (by rintro (h1 | h1); omega; exact Bool.noConfusion (h1.symm.trans h)), if_pos hk]
 cases ks with
 | nil => simp at h0
 | cons t ts => rfl
theorem A9m (h : Q6 (.mk k nm num ty fr lb ks) = false) (hk : k ≠ 14) (h10 : k ≠ 10) (h5 : k ≠ 5) : Z5 (.mk k nm num ty fr lb ks) = A1L k num := by
 rw [Z5, if_neg (by rintro (h1 | h1); omega; exact Bool.noConfusion (h1.1.symm.trans h)), if_neg (by rintro (h1 | h1); omega; exact Bool.noConfusion (h1.symm.trans h)), if_neg hk]
end
theorem B39 : ∀ (t : Tm) (G : IM) (cells : List Value), A01 G → cv t → E7 t = true → A9 G t cells → Fn Tryz.prog 38 [.agg ⟨cells⟩] [] G (H2 (.string (Z5 t)) G) := by
 refine Tm.ind fun k nm num ty fr lb ks ih G cells hT hc hv hr => ?_
 have hr0 := hr
 have hP := A2A _ G _ hr
 obtain ⟨hN, hkk⟩ := hc.node
 have hop := hN.ops
 have h14 : k = 14 → ks.length = 1 := fun h => by rw [h] at hop; have : D7 14 = 1 := rfl; omega
 have hL := fun h => B38 k nm num ty fr lb ks G cells hT h hN.num0 hr
 have hvp := @A9k k nm num ty fr lb ks
 have hvf := @A9l k nm num ty fr lb ks
 have hvc := @A6m k nm num ty fr lb ks
 have hvl := @A9m k nm num ty fr lb ks
 have hvn := @A4D k nm num ty fr lb ks
 have hvy := @A3K k nm num ty fr lb ks
 have hprx := A1j k nm num ty fr lb ks
 have hinj := A4C k nm num ty fr lb ks
 have hleaf : Q6 (.mk k nm num ty fr lb ks) = false → k ≠ 14 → k ≠ 10 → k ≠ 5 → k = 2 ∨ k = 3 ∨ k = 4 := by
  intro h1 h2 h3 h4
  have := hvn h3 h1 (by rw [hinj, decide_eq_false (by omega)]; rfl)
  rw [this] at hv
  have := of_decide_eq_true hv
  omega
 have hkv : Q6 (.mk k nm num ty fr lb ks) = false → k = 14 → ∀ t ∈ ks, E7 t = true := by
  intro h1 h2 t ht
  cases hi : inj (.mk k nm num ty fr lb ks) with
  | true => have := hvy (.inr (.inr hi)); rw [hv] at this; exact List.all_eq_true.1 this.symm t ht
  | false =>
   have := hvn (by omega) h1 hi
   rw [hv] at this
   have := of_decide_eq_true this.symm
   omega
 generalize hpx : Q6 (.mk k nm num ty fr lb ks) = bp at *
 obtain ⟨tk, tks⟩ := ty
 obtain ⟨fk, fks⟩ := fr
 obtain ⟨pt, ct, pf, cf, p, c, es, rfl, hk, hnum, hlb, hty, hfr, hsl, hkl⟩ := hr.open9
 refine B7 Tryz.func38 rfl Tryz.ntmps38 Tryz.results38 rfl ?_
 intro w0
 refine tS (tR ?_)
 refine sE (C2 rfl rfl) rfl (fun b3 => ?_)
 refine sQ (qA rfl) rfl (sD (nS (tS ?_)))
 refine B8 ?_
 refine tS (tR (sQ (B0 rfl) rfl (sL (B5 rfl rfl) rfl rfl ?_)))
 refine sB (qE rfl rfl) rfl rfl (fun h13 => ?_) (fun h13 => ?_)
 refine A0W ?_
 (exact ⟨rfl, congrArg Value.string (hvp (by first | exact .inl (by omega) | exact .inr ⟨by assumption, by assumption⟩)).symm, rfl⟩)
 refine sQ (qM rfl) rfl (sL (A5 rfl rfl) rfl rfl ?_)
 refine E2 rfl (hP) rfl rfl (fun h40 => ?_) (fun h40 => ?_)
 refine H3 ?_
 refine sB (qE rfl rfl) rfl rfl (fun h45 => ?_) (fun h45 => ?_)
 refine H4 ?_
 (exact ⟨rfl, congrArg Value.string (hvp (by first | exact .inl (by omega) | exact .inr ⟨by assumption, by assumption⟩)).symm, rfl⟩)
 refine I5 ?_
 refine sB (qE rfl rfl) rfl rfl (fun h72 => ?_) (fun h72 => ?_)
 refine T7 ?_
 (exact ⟨rfl, congrArg Value.string (hvf (by rintro (h | ⟨h1, h2⟩) <;> first | omega | exact Bool.noConfusion (h1.symm.trans (show bp = false by assumption)) | (simp only [Ty.k] at h2; omega)) (by first | exact .inl (by omega) | exact .inr (by assumption))).symm, rfl⟩)
 refine sQ (qM rfl) rfl (sL (A5 rfl rfl) rfl rfl ?_)
 refine E2 rfl (hP) rfl rfl (fun h93 => ?_) (fun h93 => ?_)
 refine I6 ?_
 (exact ⟨rfl, congrArg Value.string (hvf (by rintro (h | ⟨h1, h2⟩) <;> first | omega | exact Bool.noConfusion (h1.symm.trans (show bp = false by assumption)) | (simp only [Ty.k] at h2; omega)) (by first | exact .inl (by omega) | exact .inr (by assumption))).symm, rfl⟩)
 refine D9 ?_
 refine sB (qE rfl rfl) rfl rfl (fun h118 => ?_) (fun h118 => ?_)
 refine D2 ?_
 (have hl1 := h14 (by omega); obtain ⟨bx, ox, e, rfl, hl, hat, hre, hgb⟩ := hsl.kidTm hkl (i := 0) (by omega) (by omega); have hih := ih ks[0] (List.getElem_mem (by omega)) G e hT (hkk _ (List.getElem_mem (by omega))) (hkv (by assumption) (by omega) _ (List.getElem_mem (by omega))) hre; refine sP (B3 (j := 0) rfl rfl rfl (by omega)) rfl rfl ?_)
 refine sL (A3 rfl rfl (hat _) hl) rfl rfl ?_
 refine H8 rfl (hih) rfl rfl ?_
 refine sQ (qA rfl) rfl (sD (nS (tT (rB (rS (E5 (rT rfl) ?_))))))
 (exfalso; have h1 : bp = true := (by assumption); have h2 : bp = false := (by assumption); rw [h1] at h2; cases h2)
 refine I5 ?_
 refine H8 rfl ((hL (hleaf (by assumption) (by omega) (by omega) (by omega)))) rfl rfl ?_
 refine sQ (qA rfl) rfl (sD (nS (tT (E5 (rT rfl) ?_))))
 (exfalso; have h1 : bp = true := (by assumption); have h2 : bp = false := (by assumption); rw [h1] at h2; cases h2)
 refine H4 ?_
 refine sB (qE rfl rfl) rfl rfl (fun h170 => ?_) (fun h170 => ?_)
 refine T7 ?_
 (exact ⟨rfl, congrArg Value.string (hvf (by rintro (h | ⟨h1, h2⟩) <;> first | omega | exact Bool.noConfusion (h1.symm.trans (show bp = false by assumption)) | (simp only [Ty.k] at h2; omega)) (by first | exact .inl (by omega) | exact .inr (by assumption))).symm, rfl⟩)
 refine sQ (qM rfl) rfl (sL (A5 rfl rfl) rfl rfl ?_)
 refine E2 rfl (hP) rfl rfl (fun h191 => ?_) (fun h191 => ?_)
 refine I6 ?_
 (exfalso; have h1 : bp = true := (by assumption); have h2 : bp = false := (by assumption); rw [h1] at h2; cases h2)
 refine D9 ?_
 refine sB (qE rfl rfl) rfl rfl (fun h216 => ?_) (fun h216 => ?_)
 refine D2 ?_
 (have hl1 := h14 (by omega); obtain ⟨bx, ox, e, rfl, hl, hat, hre, hgb⟩ := hsl.kidTm hkl (i := 0) (by omega) (by omega); have hih := ih ks[0] (List.getElem_mem (by omega)) G e hT (hkk _ (List.getElem_mem (by omega))) (hkv (by assumption) (by omega) _ (List.getElem_mem (by omega))) hre; refine sP (B3 (j := 0) rfl rfl rfl (by omega)) rfl rfl ?_)
 refine sL (A3 rfl rfl (hat _) hl) rfl rfl ?_
 refine H8 rfl (hih) rfl rfl ?_
 refine sQ (qA rfl) rfl (sD (nS (tT (rB (rS (E5 (rT rfl) ?_))))))
 (exact ⟨rfl, congrArg Value.string (hvc (by assumption) (by omega) (by omega)).symm, rfl⟩)
 refine I5 ?_
 refine H8 rfl ((hL (hleaf (by assumption) (by omega) (by omega) (by omega)))) rfl rfl ?_
 refine sQ (qA rfl) rfl (sD (nS (tT (E5 (rT rfl) ?_))))
 (exact ⟨rfl, congrArg Value.string (hvl (by assumption) (by omega) (by omega) (by omega)).symm, rfl⟩)
section fin
variable {P : Program} {Γ : M1} {env : M7} {hp : List A6} {G : IM}
theorem A2C {r r2 r3 : ResultVar} {post : IM → Value → List A6 → Prop} {v v2 v3 : Value} {outs : List A6} (h : Y8 P Γ ⟨env, hp, G⟩ r v) (h2 : Y8 P Γ ⟨env, hp, G⟩ r2 v2) (h3 : Y8 P Γ ⟨env, hp, G⟩ r3 v3) (ho : A0 hp outs) (hk : post G (.tuple ⟨[v, v2, v3]⟩) outs) :
  A0y P Γ [r, r2, r3] post .ret ⟨env, hp, G⟩ := A6R (.cons h (.cons h2 (.cons h3 .nil))) ho.spec hk
end fin
def CsP (bx : Nat) (e : Tm) (a b : Ty) (l : Int) : IM → Value → List A6 → Prop := fun G' v outs => ∃ cells, v = .agg ⟨cells⟩ ∧ outs = [.blk bx [.int .i64 (if M5 a b = true then l else l + 1)]] ∧ A9 G' (if M5 a b = true then e else L4 e a b (l + 1)) cells
theorem CsP.yes {G : IM} {bx : Nat} {e : Tm} {a b : Ty} {l : Int} {cells : List Value} (h : M5 a b = true) (hr : A9 G e cells) : CsP bx e a b l G (.agg ⟨cells⟩) [.blk bx [.int .i64 l]] := ⟨cells, rfl, by rw [if_pos h], by rw [if_pos h]; exact hr⟩
theorem CsP.no {G : IM} {bx : Nat} {e : Tm} {a b : Ty} {l : Int} {cells : List Value} (h : M5 a b = false) (hr : A9 G (L4 e a b (l + 1)) cells) : CsP bx e a b l G (.agg ⟨cells⟩) [.blk bx [.int .i64 (l + 1)]] := ⟨cells, rfl, by rw [if_neg (by rw [h]; decide)], by rw [if_neg (by rw [h]; decide)]; exact hr⟩
theorem B4a (bx : Nat) (e : Tm) (a b : Ty) (l : Int) (G : IM) (ce ca cb : List Value) (hl : -1000000000000 ≤ l ∧ l ≤ 1000000000000) (hre : A9 G e ce) (hra : B6 G a ca) (hrb : B6 G b cb) :
  Fn Tryz.prog 126 [.pointer (some ⟨bx, 0, none⟩), .agg ⟨ce⟩, .agg ⟨ca⟩, .agg ⟨cb⟩] [.blk bx [.int .i64 l]] G (CsP bx e a b l) := by
 have hel := hre.len
 have heo := hre.one
 have hS := A52 a b G ca cb hra hrb
 obtain ⟨v1, v2, v3, v4, v5, v6, v7, v8, v9, rfl⟩ := nine hel
 obtain ⟨ak, aks⟩ := a
 obtain ⟨bk, bks⟩ := b
 obtain ⟨pa, cca, ea, rfl, hka, _⟩ := hra.open
 obtain ⟨pb, ccb, eb, rfl, hkb, _⟩ := hrb.open
 refine B7 Tryz.func126 rfl Tryz.ntmps126 Tryz.results126 rfl ?_
 intro w0
 refine tS (tR ?_)
 refine sE (C2 rfl rfl) rfl (fun b3 => ?_)
 refine sE (C2 rfl rfl) rfl (fun b4 => ?_)
 refine sE (C2 rfl rfl) rfl (fun b5 => ?_)
 refine sE (A7 rfl) rfl (fun b6 => ?_)
 refine C4 ?_
 refine E2 rfl (hS) rfl rfl (fun h14 => ?_) (fun h14 => ?_)
 refine sD (nS (qT rfl (tS (tR ?_))))
 refine sL (A3 rfl rfl (B1 (by repeat first | exact mH | apply mT)) hel) rfl rfl ?_
 refine sS rfl rfl rfl hel heo rfl ?_ (hu := by exact D1 hel.symm)
 refine sD (nS (tT (rS ?_)))
 refine H5 (outs := [.blk bx [.int .i64 _]]) (rC rfl (A5 rfl rfl)) (A0.cons (by repeat (first | exact Pk.here | apply Pk.there)) A0.nil) ?_
 (exact CsP.yes (by assumption) hre)
 refine sD (nS (cF rfl (tK (nS (tS (tR (sQ (qM rfl) rfl ?_)))))))
 refine sQ (Y6 rfl) rfl ?_
 refine sQ (B0 rfl) rfl (sL (B5 rfl rfl) rfl rfl ?_)
 refine sP (J2 rfl rfl (by omega) (by omega)) rfl rfl ?_
 refine sQ (Y6 rfl) rfl ?_
 refine sQ (B0 rfl) rfl (F9 ?_)
 refine sD (nS (tS ?_))
 refine D4 D5 rfl ?_
 refine K9 (i := 6) (l' := [ff,ff,ff,ff,ff,ff,tt,ff,ff,ff]) rfl C8 (A3 rfl rfl (B1 (by repeat first | exact mH | apply mT)) hel) rfl (by kernel_rfl) rfl rfl ?_
 refine aL 0 rfl (A5 rfl rfl) rfl ?_
 refine aL 1 rfl (A5 rfl rfl) rfl ?_
 refine aP 2 rfl (qM rfl) rfl ?_
 refine aP 3 rfl (Y6 rfl) rfl ?_
 refine aP 4 rfl (B0 rfl) rfl ?_
 refine aL 5 rfl (B5 rfl rfl) rfl ?_
 refine A4 7 ?_
 (refine E0 rfl (C7 rfl rfl rfl (by omega) (by unfold maxLen; omega) rfl) rfl rfl ?_; rintro _ ⟨b55, rfl⟩)
 refine aP 8 rfl (Q3 rfl rfl) rfl ?_
 refine A4 9 ?_
 refine H7 rfl ?_
 refine C1 (nS ?_)
 (refine H0 (cs := [v1, v2, v3, v4, v5, v6, v7, v8, v9]) (by repeat (first | exact Pk.here | apply Pk.there)) (fun G2 hle2 hsl2 hno2 => ?_))
 refine tT ?_
 refine H5 (outs := [.blk bx [.int .i64 _]]) (rC rfl (A5 rfl rfl)) (A0.cons (by repeat (first | exact Pk.here | apply Pk.there)) A0.nil) ?_
 (exact CsP.no (by assumption) (A9.put (us := [e]) (es := [[v1, v2, v3, v4, v5, v6, v7, v8, v9]]) ⟨by decide, by decide⟩ ⟨by decide, by decide⟩ ⟨by omega, by omega⟩ (hrb.mono hle2) (hra.mono hle2) rfl (D3.of hsl2 rfl (by intro x hx; obtain rfl := List.mem_singleton.1 hx; rfl) (by intro x hx; obtain rfl := List.mem_singleton.1 hx; exact heo)) (by simp only [D6]; exact ⟨_, _, rfl, hre.mono hle2, rfl⟩)))
def ElP (bx : Nat) (cx : Cx) (e : Tm) (l : Int) : IM → Value → List A6 → Prop := fun G' v outs => ∃ u cu t ct l', v = .tuple ⟨[.agg ⟨cu⟩, .agg ⟨ct⟩, .bool (M6 cx e l).isSome]⟩ ∧ outs = [.blk bx [.int .i64 l']] ∧ A9 G' u cu ∧ B6 G' t ct ∧ l ≤ l' ∧ l' + 1 ≤ l + (D0 e : Int) ∧ ∀ r, M6 cx e l = some r → r = (u, t, l')
theorem ElP.no {G : IM} {bx : Nat} {cx : Cx} {e : Tm} {l l' : Int} {u : Tm} {t : Ty} {cu ct : List Value} (h : M6 cx e l = none) (hu : A9 G u cu) (ht : B6 G t ct) (h1 : l ≤ l') (h2 : l' + 1 ≤ l + (D0 e : Int)) : ElP bx cx e l G (.tuple ⟨[.agg ⟨cu⟩, .agg ⟨ct⟩, .bool false]⟩) [.blk bx [.int .i64 l']] :=
 ⟨u, cu, t, ct, l', by rw [h]; rfl, rfl, hu, ht, h1, h2, fun r hr => by rw [h] at hr; cases hr⟩
theorem ElP.yes {G : IM} {bx : Nat} {cx : Cx} {e : Tm} {l l' : Int} {u : Tm} {t : Ty} {cu ct : List Value} (h : M6 cx e l = some (u, t, l')) (hu : A9 G u cu) (ht : B6 G t ct) (h1 : l ≤ l') (h2 : l' + 1 ≤ l + (D0 e : Int)) : ElP bx cx e l G (.tuple ⟨[.agg ⟨cu⟩, .agg ⟨ct⟩, .bool true]⟩) [.blk bx [.int .i64 l']] :=
 ⟨u, cu, t, ct, l', by rw [h]; rfl, rfl, hu, ht, h1, h2, fun r hr => by rw [h] at hr; cases hr; rfl⟩
section
variable {cx : Cx} {k : Int} {nm : ByteArray} {num : Int} {ty fr : Ty} {lb : Int} {ks us : List Tm} {h : List Ty} {l l' : Int}
theorem B4b (hL : L8 (O2 cx k nm ty) ks l = none) : M6 cx (.mk k nm num ty fr lb ks) l = none := by rw [M6, hL]
theorem A6n (hL : L8 (O2 cx k nm ty) ks l = some (us, h, l')) (hn : X9 cx k nm ty h = none) : M6 cx (.mk k nm num ty fr lb ks) l = none := by rw [M6, hL]; simp only [Q1, hn]
theorem B4c {w : List Ty} {t : Ty} (hL : L8 (O2 cx k nm ty) ks l = some (us, h, l')) (hn : X9 cx k nm ty h = some (w, t)) (hk : k = 13) : M6 cx (.mk k nm num ty fr lb ks) l = some ((F4 us h w l').1.getD 0 I2, t, (F4 us h w l').2) := by
 rw [M6, hL]; simp only [Q1, hn, if_pos hk]
theorem A9n {w : List Ty} {t : Ty} (hL : L8 (O2 cx k nm ty) ks l = some (us, h, l')) (hn : X9 cx k nm ty h = some (w, t)) (hk : k ≠ 13) : M6 cx (.mk k nm num ty fr lb ks) l = some (.mk k nm num ty fr lb (F4 us h w l').1, t, (F4 us h w l').2) := by
 rw [M6, hL]; simp only [Q1, hn, if_neg hk]
end
theorem A12 {t : Ty} (h : E8 t = true) : E6 t := (A3x h).1
theorem A9o {us : List Tm} (h : 0 < us.length) : us.getD 0 I2 = us[0] := by rw [List.getD_eq_getElem?_getD, List.getElem?_eq_getElem h, Option.getD_some]
theorem A9p (bx : Nat) : ∀ (e : Tm) (d : Int) (cx : Cx) (l0 : Int) (G : IM) (pc : Option Addr) (nc cc : Nat) (cells : List Value), M9 12 14 e d = true → (nc : Int) ≤ d → Z4 cx → R1 G cx pc nc cc → A9 G e cells → 0 ≤ l0 → l0 + (D0 e : Int) ≤ 1000000000 →
  Fn Tryz.prog 83 [.pointer (some ⟨bx, 0, none⟩), .slice pc nc cc, .agg ⟨cells⟩] [.blk bx [.int .i64 l0]] G (ElP bx cx e l0) := by
 refine Tm.ind fun k nm num ty fr lb ks ih d cx l0 G pc nc cc cells hv hnd hcv hx hr hl0 hlc => ?_
 have hr0 := hr
 have hone := hr.one
 obtain ⟨hv1, hv2, hv3, hv4⟩ := A0t hv
 have hvk := (A0A 12 14 ks _).1 hv4
 have har := (T8.1 hv3).1
 have hop := A2R har
 obtain ⟨hta, hts⟩ := A2S hv3
 have hkr : 1 ≤ k ∧ k ≤ 14 := A3L (by rw [har]; omega)
 have hcvX : Z4 (O2 cx k nm ty) := A3E hcv fun hk => (T8.1 hv3).2.2.2.2.2.1 (.inl hk)
 have hck : D0 (.mk k nm num ty fr lb ks) = E3 ks + 1 := Y1 ..
 rw [hck] at hlc
 obtain ⟨tk, tks⟩ := ty
 obtain ⟨fk, fks⟩ := fr
 obtain ⟨pt, ct, pf, cf, q, cq, es, rfl, hk, hnum, hlb, hty, hfr, hsl, hkl⟩ := hr.open9
 have hlen : ks.length ≤ 3 := by have := A1f k; omega
 obtain ⟨hx1, esx, hx2, hx3⟩ := id hx
 have hcl := B2D G pc nc cc esx hx2 (by omega)
 have hcnt0 := A5l ks
 refine B7 Tryz.func83 rfl Tryz.ntmps83 Tryz.results83 rfl ?_
 intro w0
 refine tS (tR ?_)
 refine sE (C2 rfl rfl) rfl (fun b3 => ?_)
 refine sE (A7 rfl) rfl (fun b4 => ?_)
 refine sE (A7 rfl) rfl (fun b5 => ?_)
 refine I5 ?_
 (show I7 _ _ (.seq (.region 2 _ _) (.cond (.tmp 25) _ _)) _ _; refine A0d (fun (x : Option Addr × Nat × Nat × IM) => ⟨[(9, .slice x.1 x.2.1 x.2.2.1), (1, .slice pc nc cc), (0, .pointer (some ⟨bx, 0, none⟩)), (5, .pointer (some ⟨b3, 0, none⟩)), (6, .pointer (some ⟨b4, 0, none⟩)), (7, .pointer (some ⟨b5, 0, none⟩))], [.blk b5 [.int .i64 0, .slice none 0 0], .blk b4 [.int .i64 0, .string ⟨⟨[]⟩⟩, .int .i64 0, .int .i64 0, .slice none 0 0, .int .i64 0, .slice none 0 0, .int .i64 0, .slice none 0 0], .blk b3 [.int .i64 k, .string nm, .int .i64 num, .int .i64 tk, .slice pt tks.length ct, .int .i64 fk, .slice pf fks.length cf, .int .i64 lb, .slice q ks.length cq], .blk bx [.int .i64 l0]], x.2.2.2⟩) (fun x => B9 G x.2.2.2 ∧ R1 x.2.2.2 (O2 cx k nm (.mk tk tks)) x.1 x.2.1 x.2.2.1 ∧ x.2.1 ≤ nc + 1) ?_ ?_)
 ·refine tS (tR (sQ (B0 rfl) rfl (sL (B5 rfl rfl) rfl rfl ?_)))
  refine sB (qE rfl rfl) rfl rfl (fun h21 => ?_) (fun h21 => ?_)
  ·refine sD (nS (qT rfl ?_))
   refine D4 D5 rfl ?_
   refine I3 (i := 0) (l' := [tt,ff,ff,ff,ff,ff,ff,ff,ff,ff]) rfl C8 (qM rfl) rfl (by kernel_rfl) rfl rfl ?_
   refine aP 2 rfl (B0 rfl) rfl ?_
   refine aL 3 rfl (B5 rfl rfl) rfl ?_
   refine aP 4 rfl (B0 rfl) rfl ?_
   refine aL 5 rfl (A5 rfl rfl) rfl ?_
   refine aP 6 rfl (Q3 rfl rfl) rfl ?_
   refine Q2 (j := 1) (j' := 7) (by kernel_rfl) ?_ ?_
   ·(refine A61 rfl rfl hcl rfl rfl rfl (fun v33 G33 outs33 hle33 h33 => ?_); obtain ⟨hG, p1, c1, rfl, rfl⟩ := h33; replace hG := hG.symm; subst hG)
    replace hr := hr.mono hle33
    replace hr0 := hr0.mono hle33
    replace hty := hty.mono hle33
    replace hfr := hfr.mono hle33
    replace hsl := hsl.mono hle33
    replace hkl := hkl.mono hle33
    replace hx2 := hx2.mono hle33
    refine A4 7 ?_
    (refine E0 rfl (C7 rfl rfl rfl (by omega) (by unfold maxLen; omega) rfl) rfl rfl ?_; rintro _ ⟨b35, rfl⟩)
    refine A4 8 ?_
    (refine Q4 rfl rfl rfl rfl rfl rfl (fun _ _ => by repeat (first | exact Sw.here | apply Sw.there)) (N9 (by repeat first | exact mH | apply mT)) rfl (by simp [Value.oneCell']) (by unfold maxLen; omega) (by omega) rfl rfl (by repeat (first | exact A8.nil | apply A8.dep (by decide +kernel) | apply A8.blk (by decide +kernel) (by repeat (first | exact Pk.here | apply Pk.there)) (by repeat first | exact mH | apply mT))) (fun p5 c5 => ?_); refine A32 (cs := esx.flatten ++ [.string nm, .int .i64 tk, .slice pt tks.length ct]) (by repeat (first | exact Pk.here | apply Pk.there)) (fun Gf hleF hslF hnoF => ?_); have hxF := R1.snoc (nm := nm) (t := .mk tk tks) hx1 hx2.len hx2.all hx2.one hx3 hleF ⟨_, _, rfl, hty.mono hleF⟩ hslF)
    refine aP 9 rfl (qA rfl) rfl ?_
    refine C1 ?_
    refine P4 (p5, nc + 1, c5, Gf) (M0 (by repeat (first | exact E1.nil | refine E1.cons rfl ?_)) (by repeat (first | exact A0.refl | exact A0.nil | refine A0.cons (by repeat (first | exact Pk.here | apply Pk.there)) ?_ | apply A0.drop))) ⟨hleF, by (dsimp only; rw [O2, if_pos (by omega)]; exact hxF), by (dsimp only; omega)⟩
   ·(refine E0 rfl (C7 rfl rfl rfl (by omega) (by unfold maxLen; omega) rfl) rfl rfl ?_; rintro _ ⟨b41, rfl⟩)
    refine A4 1 ?_
    (refine A61 rfl rfl hcl rfl rfl rfl (fun v43 G43 outs43 hle43 h43 => ?_); obtain ⟨hG, p1, c1, rfl, rfl⟩ := h43; replace hG := hG.symm; subst hG)
    replace hr := hr.mono hle43
    replace hr0 := hr0.mono hle43
    replace hty := hty.mono hle43
    replace hfr := hfr.mono hle43
    replace hsl := hsl.mono hle43
    replace hkl := hkl.mono hle43
    replace hx2 := hx2.mono hle43
    refine A4 8 ?_
    (refine Q4 rfl rfl rfl rfl rfl rfl (fun _ _ => by repeat (first | exact Sw.here | apply Sw.there)) (N9 (by repeat first | exact mH | apply mT)) rfl (by simp [Value.oneCell']) (by unfold maxLen; omega) (by omega) rfl rfl (by repeat (first | exact A8.nil | apply A8.dep (by decide +kernel) | apply A8.blk (by decide +kernel) (by repeat (first | exact Pk.here | apply Pk.there)) (by repeat first | exact mH | apply mT))) (fun p5 c5 => ?_); refine A32 (cs := esx.flatten ++ [.string nm, .int .i64 tk, .slice pt tks.length ct]) (by repeat (first | exact Pk.here | apply Pk.there)) (fun Gf hleF hslF hnoF => ?_); have hxF := R1.snoc (nm := nm) (t := .mk tk tks) hx1 hx2.len hx2.all hx2.one hx3 hleF ⟨_, _, rfl, hty.mono hleF⟩ hslF)
    refine aP 9 rfl (qA rfl) rfl ?_
    refine C1 ?_
    refine P4 (p5, nc + 1, c5, Gf) (M0 (by repeat (first | exact E1.nil | refine E1.cons rfl ?_)) (by repeat (first | exact A0.refl | exact A0.nil | refine A0.cons (by repeat (first | exact Pk.here | apply Pk.there)) ?_ | apply A0.drop))) ⟨hleF, by (dsimp only; rw [O2, if_pos (by omega)]; exact hxF), by (dsimp only; omega)⟩
  ·refine sD (nS (cF rfl (tK ?_)))
   refine P4 (pc, nc, cc, G) (M0 (by repeat (first | exact E1.nil | refine E1.cons rfl ?_)) (by repeat (first | exact A0.refl | exact A0.nil | refine A0.cons (by repeat (first | exact Pk.here | apply Pk.there)) ?_ | apply A0.drop))) ⟨B9.refl _, by (dsimp only; rw [O2, if_neg (by omega)]; exact hx), by (dsimp only; omega)⟩
 ·(rintro ⟨p6, n6, c6, Gx⟩ ⟨hleX, hxX, hn6⟩; simp only [] at hleX hxX hn6 ⊢; replace hsl := hsl.mono hleX; replace hkl := hkl.mono hleX; replace hx := hx.mono hleX; replace hr0 := hr0.mono hleX; replace hty := hty.mono hleX; replace hfr := hfr.mono hleX)
  refine tS (tR (sL (A5 rfl rfl) rfl rfl ?_))
  refine sE (A7 rfl) rfl (fun b58 => ?_)
  refine A0W ?_
  refine B8 ?_
  (refine U5 28 9 ?_; refine U5 25 2 ?_; refine J8 (fun (x : Nat × (Option Addr × Nat × List Tm × List (List Value)) × (Option Addr × Nat × List Ty × List (List Value)) × Int × IM) => ⟨[(40, .int .i64 x.1), (39, .int .i64 ks.length), (38, .slice q ks.length cq), (11, .slice x.2.2.1.1 x.1 x.2.2.1.2.1), (9, .slice p6 n6 c6), (1, .slice pc nc cc), (0, .pointer (some ⟨bx, 0, none⟩)), (5, .pointer (some ⟨b3, 0, none⟩)), (6, .pointer (some ⟨b4, 0, none⟩)), (7, .pointer (some ⟨b5, 0, none⟩)), (10, .pointer (some ⟨b58, 0, none⟩))], [.blk b58 [.int .i64 k, .string nm, .int .i64 num, .int .i64 tk, .slice pt tks.length ct, .int .i64 fk, .slice pf fks.length cf, .int .i64 lb, .slice x.2.1.1 x.1 x.2.1.2.1], .slc x.2.1.1 x.2.1.2.1 28 9 x.1 x.2.1.2.2.2.flatten, .slc x.2.2.1.1 x.2.2.1.2.1 25 2 x.1 x.2.2.1.2.2.2.flatten, .blk b5 [.int .i64 0, .slice none 0 0], .blk b4 [.int .i64 0, .string ⟨⟨[]⟩⟩, .int .i64 0, .int .i64 0, .slice none 0 0, .int .i64 0, .slice none 0 0, .int .i64 0, .slice none 0 0], .blk b3 [.int .i64 k, .string nm, .int .i64 num, .int .i64 tk, .slice pt tks.length ct, .int .i64 fk, .slice pf fks.length cf, .int .i64 lb, .slice q ks.length cq], .blk bx [.int .i64 x.2.2.2.1]], x.2.2.2.2⟩) (fun x => x.1 ≤ ks.length ∧ B9 Gx x.2.2.2.2 ∧ x.2.1.2.2.1.length = x.1 ∧ D6 x.2.2.2.2 x.2.1.2.2.1 x.2.1.2.2.2 ∧ x.2.2.1.2.2.1.length = x.1 ∧ C9 x.2.2.2.2 x.2.2.1.2.2.1 x.2.2.1.2.2.2 ∧ (∀ t ∈ x.2.2.1.2.2.1, E6 t) ∧ L8 (O2 cx k nm (.mk tk tks)) (ks.take x.1) l0 = some (x.2.1.2.2.1, x.2.2.1.2.2.1, x.2.2.2.1) ∧ l0 ≤ x.2.2.2.1 ∧ x.2.2.2.1 + x.1 ≤ l0 + (E3 (ks.take x.1) : Int)) (fun x => ks.length - x.1) (0, (none, 0, [], []), (none, 0, [], []), l0, Gx) ?_ ?_ ?_)
  ·(simp only [List.take_zero, V1]; exact (M0 (by repeat (first | exact E1.nil | refine E1.cons rfl ?_)) (by repeat (first | exact A0.refl | exact A0.nil | refine A0.cons (by repeat (first | exact Pk.here | apply Pk.there)) ?_ | apply A0.drop))))
  ·(exact ⟨by simp, B9.refl _, rfl, by simp [D6], rfl, by simp [C9], by simp, by simp [L8], Int.le_refl _, by simp [E3]⟩)
  ·(rintro ⟨i, ⟨pn, cn, us, es'⟩, ⟨pm, cm, ts, ess⟩, l, Gi⟩ ⟨hi, hle, hlu, hst, hlt, hstt, hat, hml, hl1, hl2⟩; simp only [] at hi hle hlu hst hlt hstt hat hml hl1 hl2 ⊢; replace hty := hty.mono hle; replace hfr := hfr.mono hle; replace hsl := hsl.mono hle; replace hkl := hkl.mono hle; replace hr0 := hr0.mono hle; replace hx := hx.mono hle; replace hxX := hxX.mono hle)
   refine tS (tR ?_)
   refine sB (J4 rfl rfl) rfl rfl (fun h89 => ?_) (fun h89 => ?_)
   ·refine sD (nS (tS (qT rfl (tK (nS (tS ?_))))))
    refine B8 ?_
    refine tS (tR ?_)
    (obtain ⟨b, o, e, rfl, hl, hate, hre, hgb⟩ := hsl.kidTm hkl (i := i) (by omega) (by omega); have hon := hre.one; have hsc := A1A (ks := ks) (i := i) (by omega); have hsk := A1z (ks := ks) (i := i) (by omega); refine sP (B3 rfl rfl rfl (by omega)) rfl rfl ?_)
    refine sL (A3 rfl rfl (hate _) hl) rfl rfl ?_
    refine sE (A7 rfl) rfl (fun b102 => ?_)
    refine sS rfl rfl rfl hl hon rfl ?_ (hu := by exact D1 hl.symm)
    refine sD (nS (tS (tR (sQ (qM rfl) rfl (sQ (qM rfl) rfl ?_)))))
    refine sL (A3 rfl rfl (B1 (by repeat first | exact mH | apply mT)) hl) rfl rfl ?_
    (refine J0 rfl (ih ks[i] (List.getElem_mem (by omega)) (d + 1) _ l Gi p6 n6 c6 _ (hvk i (by omega)) (by omega) hcvX hxX hre (by omega) (by omega)) (Pk.perm (by repeat (first | exact Pk.here | apply Pk.there))) rfl rfl (fun v G3 outs hle3 hh => ?_); obtain ⟨u, uc, t, tc, l3, rfl, rfl, hru, hrt, hl3, hl4, hu⟩ := hh; obtain ⟨v1, v2, v3, v4, v5, v6, v7, v8, v9, rfl⟩ := nine hru.len; obtain ⟨p3, c3, e3, rfl, _⟩ := hrt.open; have hlu9 := hru.len; have hou9 := hru.one; rcases hE : M6 (O2 cx k nm (Ty.mk tk tks)) ks[i] l with _ | ⟨u2, t2, l2⟩; rotate_left; have hue := hu _ hE; simp only [Prod.mk.injEq] at hue; obtain ⟨rfl, rfl, rfl⟩ := hue; rotate_left)
    ·refine H3 ?_
     refine sE (A7 rfl) rfl (fun b116 => ?_)
     refine sE (A7 rfl) rfl (fun b117 => ?_)
     refine sS rfl rfl rfl hlu9 hou9 rfl ?_ (hu := by exact D1 hlu9.symm)
     refine A5c ?_
     refine A2C (outs := [.blk bx [.int .i64 _]]) (rC rfl (A5 rfl rfl)) (rC rfl (A5 rfl rfl)) (rT rfl) (A0.cons (by repeat (first | exact Pk.here | apply Pk.there)) A0.nil) ?_
     (exact ElP.no (B4b (A57 (by omega) hml hE)) (L9 _) (M2 _ ⟨by omega, by omega⟩) (by omega) (by rw [hck]; omega))
    ·refine H3 ?_
     refine sE (A7 rfl) rfl (fun b153 => ?_)
     refine sE (A7 rfl) rfl (fun b154 => ?_)
     refine sS rfl rfl rfl hlu9 hou9 rfl ?_ (hu := by exact D1 hlu9.symm)
     refine I6 ?_
     refine D4 D5 rfl ?_
     refine I3 (i := 0) (l' := [tt,ff,ff,ff,ff,ff,ff,ff,ff,ff,ff,ff]) rfl C8 (B0 rfl) rfl (by kernel_rfl) rfl rfl ?_
     refine aL 1 rfl (B5 rfl rfl) rfl ?_
     refine aL 2 rfl (A5 rfl rfl) rfl ?_
     refine aP 5 rfl (qM rfl) rfl ?_
     refine aL 6 rfl (A5 rfl rfl) rfl ?_
     refine Q2 (j := 3) (j' := 7) (by kernel_rfl) ?_ ?_
     ·(refine E0 rfl (C7 rfl rfl rfl (by omega) (by unfold maxLen; omega) rfl) rfl rfl ?_; rintro _ ⟨b177, rfl⟩)
      refine Q2 (j := 4) (j' := 7) (by kernel_rfl) ?_ ?_
      ·(refine Q4 rfl rfl rfl rfl rfl rfl (fun _ _ => by repeat (first | exact Sw.here | apply Sw.there)) (N9 (by repeat first | exact mH | apply mT)) rfl (fun u hu => List.all_eq_true.1 hou9 u hu) (by unfold maxLen; omega) (by omega) rfl rfl (by repeat (first | exact A8.nil | apply A8.dep (by decide +kernel) | apply A8.im (by decide +kernel) (by assumption) (by repeat first | exact mH | apply mT) | apply A8.blk (by decide +kernel) (by repeat (first | exact Pk.here | apply Pk.there)) (by repeat first | exact mH | apply mT) | apply A8.slc (by decide +kernel) (by repeat (first | exact Pk.here | apply Pk.there)) (by repeat first | exact mH | apply mT))) (fun pn' cn' => ?_))
       refine aP 9 rfl (B0 rfl) rfl ?_
       refine A4 7 ?_
       (refine E0 rfl (C7 rfl rfl rfl (by omega) (by unfold maxLen; omega) rfl) rfl rfl ?_; rintro _ ⟨b182, rfl⟩)
       refine A4 8 ?_
       (refine Q4 rfl rfl rfl rfl rfl rfl (fun _ _ => by repeat (first | exact Sw.here | apply Sw.there)) (N9 (by repeat first | exact mH | apply mT)) rfl (by simp [Value.oneCell']) (by unfold maxLen; omega) (by omega) rfl rfl (by repeat (first | exact A8.nil | apply A8.dep (by decide +kernel) | apply A8.im (by decide +kernel) (by assumption) (by repeat first | exact mH | apply mT) | apply A8.blk (by decide +kernel) (by repeat (first | exact Pk.here | apply Pk.there)) (by repeat first | exact mH | apply mT) | apply A8.slc (by decide +kernel) (by repeat (first | exact Pk.here | apply Pk.there)) (by repeat first | exact mH | apply mT))) (fun pm' cm' => ?_))
       refine A4 10 ?_
       refine oS rfl rfl rfl rfl rfl rfl rfl rfl ?_
       refine aP 11 rfl (qA rfl) rfl ?_
       refine C1 (N3 (nS (tR ?_)))
       refine sP (J2 rfl rfl (by omega) (by omega)) rfl rfl ?_
       refine sQ (qM rfl) rfl (sD ?_)
       refine J9 (i + 1, (pn', cn', us ++ [u2], es' ++ [[v1, v2, v3, v4, v5, v6, v7, v8, v9]]), (pm', cm', ts ++ [t2], ess ++ [[.int .i64 t2.k, .slice p3 t2.ks.length c3]]), l2, G3) ?_ ?_ ?_
       ·(simp only [J5]; exact D8)
       ·(dsimp only; exact ⟨by omega, hle.trans hle3, by simp [hlu], D6.snoc (hst.mono hle3) hru, by simp [hlt], C9.snoc (hstt.mono hle3) hrt, A2Q hat (A12 ((A20 ks[i] (d + 1) _ l (hvk i (by omega)) hcvX).1 _ _ _ hE).2), A3F (by omega) hml hE, by omega, by omega⟩)
       ·(show ks.length - (i + 1) < ks.length - i; omega)
      ·(refine E0 rfl (C7 rfl rfl rfl (by omega) (by unfold maxLen; omega) rfl) rfl rfl ?_; rintro _ ⟨b199, rfl⟩)
       refine A4 4 ?_
       (refine Q4 rfl rfl rfl rfl rfl rfl (fun _ _ => by repeat (first | exact Sw.here | apply Sw.there)) (N9 (by repeat first | exact mH | apply mT)) rfl (fun u hu => List.all_eq_true.1 hou9 u hu) (by unfold maxLen; omega) (by omega) rfl rfl (by repeat (first | exact A8.nil | apply A8.dep (by decide +kernel) | apply A8.im (by decide +kernel) (by assumption) (by repeat first | exact mH | apply mT) | apply A8.blk (by decide +kernel) (by repeat (first | exact Pk.here | apply Pk.there)) (by repeat first | exact mH | apply mT) | apply A8.slc (by decide +kernel) (by repeat (first | exact Pk.here | apply Pk.there)) (by repeat first | exact mH | apply mT))) (fun pn' cn' => ?_))
       refine aP 9 rfl (B0 rfl) rfl ?_
       refine A4 8 ?_
       (refine Q4 rfl rfl rfl rfl rfl rfl (fun _ _ => by repeat (first | exact Sw.here | apply Sw.there)) (N9 (by repeat first | exact mH | apply mT)) rfl (by simp [Value.oneCell']) (by unfold maxLen; omega) (by omega) rfl rfl (by repeat (first | exact A8.nil | apply A8.dep (by decide +kernel) | apply A8.im (by decide +kernel) (by assumption) (by repeat first | exact mH | apply mT) | apply A8.blk (by decide +kernel) (by repeat (first | exact Pk.here | apply Pk.there)) (by repeat first | exact mH | apply mT) | apply A8.slc (by decide +kernel) (by repeat (first | exact Pk.here | apply Pk.there)) (by repeat first | exact mH | apply mT))) (fun pm' cm' => ?_))
       refine A4 10 ?_
       refine oS rfl rfl rfl rfl rfl rfl rfl rfl ?_
       refine aP 11 rfl (qA rfl) rfl ?_
       refine C1 (N3 (nS (tR ?_)))
       refine sP (J2 rfl rfl (by omega) (by omega)) rfl rfl ?_
       refine sQ (qM rfl) rfl (sD ?_)
       refine J9 (i + 1, (pn', cn', us ++ [u2], es' ++ [[v1, v2, v3, v4, v5, v6, v7, v8, v9]]), (pm', cm', ts ++ [t2], ess ++ [[.int .i64 t2.k, .slice p3 t2.ks.length c3]]), l2, G3) ?_ ?_ ?_
       ·(simp only [J5]; exact D8)
       ·(dsimp only; exact ⟨by omega, hle.trans hle3, by simp [hlu], D6.snoc (hst.mono hle3) hru, by simp [hlt], C9.snoc (hstt.mono hle3) hrt, A2Q hat (A12 ((A20 ks[i] (d + 1) _ l (hvk i (by omega)) hcvX).1 _ _ _ hE).2), A3F (by omega) hml hE, by omega, by omega⟩)
       ·(show ks.length - (i + 1) < ks.length - i; omega)
     ·(refine E0 rfl (C7 rfl rfl rfl (by omega) (by unfold maxLen; omega) rfl) rfl rfl ?_; rintro _ ⟨b219, rfl⟩)
      refine A4 3 ?_
      (refine E0 rfl (C7 rfl rfl rfl (by omega) (by unfold maxLen; omega) rfl) rfl rfl ?_; rintro _ ⟨b221, rfl⟩)
      refine A4 4 ?_
      (refine Q4 rfl rfl rfl rfl rfl rfl (fun _ _ => by repeat (first | exact Sw.here | apply Sw.there)) (N9 (by repeat first | exact mH | apply mT)) rfl (fun u hu => List.all_eq_true.1 hou9 u hu) (by unfold maxLen; omega) (by omega) rfl rfl (by repeat (first | exact A8.nil | apply A8.dep (by decide +kernel) | apply A8.im (by decide +kernel) (by assumption) (by repeat first | exact mH | apply mT) | apply A8.blk (by decide +kernel) (by repeat (first | exact Pk.here | apply Pk.there)) (by repeat first | exact mH | apply mT) | apply A8.slc (by decide +kernel) (by repeat (first | exact Pk.here | apply Pk.there)) (by repeat first | exact mH | apply mT))) (fun pn' cn' => ?_))
      refine aP 9 rfl (B0 rfl) rfl ?_
      refine A4 8 ?_
      (refine Q4 rfl rfl rfl rfl rfl rfl (fun _ _ => by repeat (first | exact Sw.here | apply Sw.there)) (N9 (by repeat first | exact mH | apply mT)) rfl (by simp [Value.oneCell']) (by unfold maxLen; omega) (by omega) rfl rfl (by repeat (first | exact A8.nil | apply A8.dep (by decide +kernel) | apply A8.im (by decide +kernel) (by assumption) (by repeat first | exact mH | apply mT) | apply A8.blk (by decide +kernel) (by repeat (first | exact Pk.here | apply Pk.there)) (by repeat first | exact mH | apply mT) | apply A8.slc (by decide +kernel) (by repeat (first | exact Pk.here | apply Pk.there)) (by repeat first | exact mH | apply mT))) (fun pm' cm' => ?_))
      refine A4 10 ?_
      refine oS rfl rfl rfl rfl rfl rfl rfl rfl ?_
      refine aP 11 rfl (qA rfl) rfl ?_
      refine C1 (N3 (nS (tR ?_)))
      refine sP (J2 rfl rfl (by omega) (by omega)) rfl rfl ?_
      refine sQ (qM rfl) rfl (sD ?_)
      refine J9 (i + 1, (pn', cn', us ++ [u2], es' ++ [[v1, v2, v3, v4, v5, v6, v7, v8, v9]]), (pm', cm', ts ++ [t2], ess ++ [[.int .i64 t2.k, .slice p3 t2.ks.length c3]]), l2, G3) ?_ ?_ ?_
      ·(simp only [J5]; exact D8)
      ·(dsimp only; exact ⟨by omega, hle.trans hle3, by simp [hlu], D6.snoc (hst.mono hle3) hru, by simp [hlt], C9.snoc (hstt.mono hle3) hrt, A2Q hat (A12 ((A20 ks[i] (d + 1) _ l (hvk i (by omega)) hcvX).1 _ _ _ hE).2), A3F (by omega) hml hE, by omega, by omega⟩)
      ·(show ks.length - (i + 1) < ks.length - i; omega)
   ·refine I6 ?_
    (obtain rfl : i = ks.length := (by omega); have hk14 : k ≠ 14 := hv2; rw [List.take_length] at hml hl2; refine U6 (cs := ess.flatten) (by repeat (first | exact Pk.here | apply Pk.there)) (fun G3 hle3 hsl3 hno3 => ?_); have hst3 := hstt.mono hle3; have hslU : D3 G3 pm ks.length cm 2 ess := D3.of hsl3 (by rw [hst3.len, hlt]) hst3.all (fun e he => (hst3.each e he).2); refine E4 rfl (B2B cx k nm num (.mk tk tks) (.mk fk fks) lb ks ts G3 pc nc cc _ pm ks.length cm ess (hx.mono hle3) har hlt.symm hk14 hta (hr0.mono hle3) hslU hst3 hat) rfl rfl (fun v G4 hle4 hh => ?_); obtain ⟨pw, nw, cw, ew, w, wc, wt, rfl, hnw, hslw, hstw, hrt, hw⟩ := hh; obtain ⟨p3, c3, e3, rfl, _⟩ := hrt.open; replace hst3 := hst3.mono hle4; replace hslU := hslU.mono hle4; have hle34 := hle3.trans hle4; replace hst := hst.mono hle34; replace hty := hty.mono hle34; replace hfr := hfr.mono hle34; rcases hmw : L7 cx k nm (Ty.mk tk tks) ts with _ | ⟨w2, t2⟩; rotate_left; have hwe := hw _ hmw; simp only [Prod.mk.injEq] at hwe; obtain ⟨rfl, rfl⟩ := hwe; have hwl := B2C (by rw [hlt]; exact hop) hkr hk14 hmw; have hcl2 := A1g us ts w2 l; rcases Nat.eq_zero_or_pos ks.length with h0 | h0; rotate_left; rotate_left)
    ·refine H3 ?_
     refine sE (A7 rfl) rfl (fun b260 => ?_)
     refine A3i ?_
     (refine H0 (cs := es'.flatten) (by repeat (first | exact Pk.here | apply Pk.there)) (fun G8 hle8 hsl8 hno8 => ?_); have hst8 := hst.mono hle8)
     refine tT (rS ?_)
     refine A2C (outs := [.blk bx [.int .i64 _]]) (rC rfl (A5 rfl rfl)) (rC rfl (A5 rfl rfl)) (rT rfl) (A0.cons (by repeat (first | exact Pk.here | apply Pk.there)) A0.nil) ?_
     (exact ElP.no (A6n hml (B2E hmw)) (L9 _) (M2 _ ⟨by omega, by omega⟩) (by omega) (by rw [hck]; omega))
    ·refine H3 ?_
     refine sE (A7 rfl) rfl (fun b297 => ?_)
     refine N5 ?_
     refine E2 rfl ((A3p _ _ _ hrt)) rfl rfl (fun h310 => ?_) (fun h310 => ?_)
     ·refine H4 ?_
      refine B8 ?_
      (have h0' : ks.length = 0 := h0; refine J8 (fun (_ : Nat) => ⟨[(86, .int .i64 0), (85, .int .i64 nw), (84, .slice pw nw cw), (11, .slice pm ks.length cm), (1, .slice pc nc cc), (0, .pointer (some ⟨bx, 0, none⟩)), (5, .pointer (some ⟨b3, 0, none⟩)), (6, .pointer (some ⟨b4, 0, none⟩)), (7, .pointer (some ⟨b5, 0, none⟩)), (10, .pointer (some ⟨b58, 0, none⟩)), (18, .pointer (some ⟨b297, 0, none⟩))], [.blk b297 [.int .i64 t2.k, .slice p3 t2.ks.length c3], .blk b58 [.int .i64 k, .string nm, .int .i64 num, .int .i64 tk, .slice pt tks.length ct, .int .i64 fk, .slice pf fks.length cf, .int .i64 lb, .slice pn ks.length cn], .slc pn cn 28 9 ks.length es'.flatten, .blk b5 [.int .i64 0, .slice none 0 0], .blk b4 [.int .i64 0, .string ⟨⟨[]⟩⟩, .int .i64 0, .int .i64 0, .slice none 0 0, .int .i64 0, .slice none 0 0, .int .i64 0, .slice none 0 0], .blk b3 [.int .i64 k, .string nm, .int .i64 num, .int .i64 tk, .slice pt tks.length ct, .int .i64 fk, .slice pf fks.length cf, .int .i64 lb, .slice q ks.length cq], .blk bx [.int .i64 l]], G4⟩) (fun _ => True) (fun i => i) 0 ?_ ?_ ?_)
      ·exact D8
      ·trivial
      ·(rintro (i0 : Nat) _)
       refine tS (tR ?_)
       refine sP (A18 rfl rfl (by omega)) rfl rfl ?_
       refine I6 ?_
       refine sP (I4 rfl rfl (by omega)) rfl rfl ?_
       refine sD (nS (cF rfl (tK (nS (tS ?_)))))
       refine D4 D5 rfl ?_
       refine K9 (i := 0) (l' := [tt,ff,ff,ff,ff]) rfl C8 (A5 rfl rfl) rfl (by kernel_rfl) rfl rfl ?_
       refine aL 1 rfl (A5 rfl rfl) rfl ?_
       refine A4 2 ?_
       refine oS rfl rfl rfl rfl rfl rfl rfl rfl ?_
       refine A4 3 ?_
       refine oS rfl rfl rfl rfl rfl rfl rfl rfl ?_
       refine aP 4 rfl (qA rfl) rfl ?_
       refine C1 (nS ?_)
       (refine H0 (cs := es'.flatten) (by repeat (first | exact Pk.here | apply Pk.there)) (fun G8 hle8 hsl8 hno8 => ?_); have hst8 := hst.mono hle8)
       refine tT ?_
       refine A2C (outs := [.blk bx [.int .i64 _]]) (rC rfl (A5 rfl rfl)) (rC rfl (A5 rfl rfl)) (rT rfl) (A0.cons (by repeat (first | exact Pk.here | apply Pk.there)) A0.nil) ?_
       (obtain rfl : w2 = [] := List.length_eq_zero_iff.1 (by omega); have hne : k ≠ 13 := (fun h => by have := hop.2.2 (.inr (.inr (.inr h))); omega); have hel := A9n (num := num) (fr := .mk fk fks) (lb := lb) hml (A3C hmw (b := true) (by assumption)) hne; rw [V1] at hel; exact ElP.yes hel (A9.put hk hnum hlb (hty.mono hle8) (hfr.mono hle8) (by rw [hlu]) (D3.of hsl8 (by rw [hst8.len, hlu]) hst8.all (fun e he => (hst8.each e he).2)) hst8) (hrt.mono hle8) (by omega) (by rw [hck]; omega))
     ·refine I6 ?_
      (refine H0 (cs := es'.flatten) (by repeat (first | exact Pk.here | apply Pk.there)) (fun G8 hle8 hsl8 hno8 => ?_); have hst8 := hst.mono hle8)
      refine tT (rS ?_)
      refine A2C (outs := [.blk bx [.int .i64 _]]) (rC rfl (A5 rfl rfl)) (rC rfl (A5 rfl rfl)) (rT rfl) (A0.cons (by repeat (first | exact Pk.here | apply Pk.there)) A0.nil) ?_
      (exact ElP.no (A6n hml (A3C hmw (b := false) (by assumption))) (L9 _) (M2 _ ⟨by omega, by omega⟩) (by omega) (by rw [hck]; omega))
    ·(refine A3y (cs := es'.flatten) (by repeat (first | exact Pk.here | apply Pk.there)) h0 (fun bc C hpe hnc hcm => ?_); subst hpe; refine sQ (qM rfl) rfl ?_)
     refine J7 ?_
     refine sE (A7 rfl) rfl (fun b392 => ?_)
     refine N5 ?_
     refine E2 rfl ((A3p _ _ _ hrt)) rfl rfl (fun h405 => ?_) (fun h405 => ?_)
     ·refine H4 ?_
      refine B8 ?_
      (have h0' := h0; refine J8 (fun (x : Nat × List (List Value) × IM) => ⟨[(86, .int .i64 x.1), (85, .int .i64 nw), (84, .slice pw nw cw), (11, .slice pm ks.length cm), (1, .slice pc nc cc), (0, .pointer (some ⟨bx, 0, none⟩)), (5, .pointer (some ⟨b3, 0, none⟩)), (6, .pointer (some ⟨b4, 0, none⟩)), (7, .pointer (some ⟨b5, 0, none⟩)), (10, .pointer (some ⟨b58, 0, none⟩)), (18, .pointer (some ⟨b392, 0, none⟩))], [.blk b392 [.int .i64 t2.k, .slice p3 t2.ks.length c3], .blk b58 [.int .i64 k, .string nm, .int .i64 num, .int .i64 tk, .slice pt tks.length ct, .int .i64 fk, .slice pf fks.length cf, .int .i64 lb, .slice (some ⟨bc, 0, none⟩) ks.length cn], .blk bc (x.2.1.flatten ++ C), .blk b5 [.int .i64 0, .slice none 0 0], .blk b4 [.int .i64 0, .string ⟨⟨[]⟩⟩, .int .i64 0, .int .i64 0, .slice none 0 0, .int .i64 0, .slice none 0 0, .int .i64 0, .slice none 0 0], .blk b3 [.int .i64 k, .string nm, .int .i64 num, .int .i64 tk, .slice pt tks.length ct, .int .i64 fk, .slice pf fks.length cf, .int .i64 lb, .slice q ks.length cq], .blk bx [.int .i64 (F4 us ts (w2.take x.1) l).2]], x.2.2⟩) (fun x => x.1 ≤ nw ∧ B9 G4 x.2.2 ∧ D6 x.2.2 (F4 us ts (w2.take x.1) l).1 x.2.1) (fun x => nw - x.1) (0, es', G4) ?_ ?_ ?_)
      ·(simp only [List.take_zero, V1]; exact (M0 (by repeat (first | exact E1.nil | refine E1.cons rfl ?_)) (by repeat (first | exact A0.refl | exact A0.nil | refine A0.cons (by repeat (first | exact Pk.here | apply Pk.there)) ?_ | apply A0.drop))))
      ·(exact ⟨Nat.zero_le _, B9.refl _, by simp only [List.take_zero, V1]; exact hst⟩)
      ·(rintro ⟨j, es2, G6⟩ ⟨hj, hle6, hst2⟩; simp only [] at hj hle6 hst2 ⊢; replace hslw := hslw.mono hle6; replace hstw := hstw.mono hle6; replace hslU := hslU.mono hle6; replace hst3 := hst3.mono hle6; replace hty := hty.mono hle6; replace hfr := hfr.mono hle6; replace hrt := hrt.mono hle6; have hall2 := hst2.all; have hle2s := hst2.len; rw [A1J] at hle2s)
       refine tS (tR ?_)
       refine sB (J4 rfl rfl) rfl rfl (fun h428 => ?_) (fun h428 => ?_)
       ·refine sD (nS (tS (qT rfl (tK (nS (tS ?_))))))
        refine B8 ?_
        refine tS (tR (sQ (qM rfl) rfl ?_))
        (have hjw : j < w2.length := (by omega); obtain ⟨b5w, o5w, q5, d5, hp5, hat, hrw, hgb⟩ := hslw.kidTy hstw (i := j) (by omega) (by omega); cases hp5; refine sP (B3 rfl rfl rfl (by omega)) rfl rfl ?_)
        refine sL (A3 rfl rfl (hat _) rfl) rfl rfl ?_
        refine sE (A7 rfl) rfl (fun b442 => ?_)
        refine sQ (qA rfl) rfl (F9 ?_)
        refine sD (nS ?_)
        (have hjw2 := hjw; obtain ⟨b0, o0, q0, d0, hp0, hat0, hre0, hg0⟩ := hslU.kidTy hst3 (i := j) (by omega) (by omega); cases hp0; obtain ⟨m1, m2, _⟩ := A3G us ts w2 l j hjw (by omega) (by omega); obtain ⟨m3, m4⟩ := A8C (us := us) (h := ts) (w := w2) (l := l) hjw (by omega) (by omega); obtain ⟨hE1, hE2⟩ := hst2.at2 (i := j) (by omega) (by omega); rw [m2] at hE2; have hE3 := hE2.len; have hE4 := hE2.one; have hcj := A1g us ts (w2.take j) l; refine D4 D5 rfl ?_)
        refine I3 (i := 0) (l' := [tt,ff,ff,ff,ff,ff,ff,ff,ff,ff,ff,ff,ff,ff,ff,ff,ff]) rfl C8 (B0 rfl) rfl (by kernel_rfl) rfl rfl ?_
        refine aL 1 rfl (B5 rfl rfl) rfl ?_
        refine aP 2 rfl (qM rfl) rfl ?_
        refine aP 3 rfl (qM rfl) rfl ?_
        refine aP 4 rfl (B0 rfl) rfl ?_
        refine aL 5 rfl (B5 rfl rfl) rfl ?_
        refine aP 6 rfl (qM rfl) rfl ?_
        refine aP 7 rfl (B3 (j := j) rfl rfl rfl (by omega)) rfl ?_
        refine aL 8 rfl (A3 rfl rfl (A4q (es := es2) (by repeat first | exact mH | apply mT) (by omega) hall2) hE3) rfl ?_
        refine aP 9 rfl (qM rfl) rfl ?_
        refine aP 10 rfl (qM rfl) rfl ?_
        refine aP 11 rfl (B3 (j := j) rfl rfl rfl (by omega)) rfl ?_
        refine aL 12 rfl (A3 rfl rfl (hat0 _) rfl) rfl ?_
        refine aL 13 rfl (A5 rfl rfl) rfl ?_
        refine A4 14 ?_
        (refine X0 (l' := [tt,tt,tt,tt,tt,tt,tt,tt,tt,tt,tt,tt,tt,tt,tt,ff,ff]) rfl rfl (B4a bx us[j] ts[j] w2[j] (F4 us ts (w2.take j) l).2 G6 _ _ _ (by omega) hE2 hre0 hrw) (Pk.perm (by repeat (first | exact Pk.here | apply Pk.there))) rfl rfl rfl (by repeat (first | exact A8.nil | apply A8.dep (by decide +kernel) | apply A8.im (by decide +kernel) (by assumption) (by repeat first | exact mH | apply mT) | apply A8.blk (by decide +kernel) (by repeat (first | exact Pk.here | apply Pk.there)) (by repeat first | exact mH | apply mT) | apply A8.slc (by decide +kernel) (by repeat (first | exact Pk.here | apply Pk.there)) (by repeat first | exact mH | apply mT))) (fun v G7 outs hle7 hh => ?_); obtain ⟨uc, rfl, rfl, hru⟩ := hh; rw [← m4]; have hlu9 := hru.len; have hou9 := hru.one)
        refine aP 15 rfl (B3 (j := j) rfl rfl rfl (by omega)) rfl ?_
        refine A4 16 ?_
        refine Q9 rfl rfl rfl rfl hlu9 hou9 rfl rfl (by kernel_rfl) (by repeat first | exact Sw.here | apply Sw.there) (by exact A3z (by omega) hall2 hlu9) ?_
        refine C1 (N3 (nS (tR ?_)))
        refine sP (J2 rfl rfl (by omega) (by omega)) rfl rfl ?_
        refine sQ (qM rfl) rfl (sD ?_)
        refine J9 (j + 1, es2.set j uc, G7) ?_ ?_ ?_
        ·(simp only [List.take_zero, V1]; exact (M0 (by repeat (first | exact E1.nil | refine E1.cons rfl ?_)) (by repeat (first | exact A0.refl | exact A0.nil | refine A0.cons (by repeat (first | exact Pk.here | apply Pk.there)) ?_ | apply A0.drop))))
        ·(dsimp only; exact ⟨by omega, hle6.trans hle7, by rw [m3]; exact D6.set (hst2.mono hle7) hru⟩)
        ·(show nw - (j + 1) < nw - j; omega)
       ·refine I6 ?_
        refine sB (qE rfl rfl) rfl rfl (fun h492 => ?_) (fun h492 => ?_)
        ·refine sD (nS (qT rfl (tS ?_)))
         (have hq13 : k = 13 := (by omega); have hl13 := hop.2.2 (.inr (.inr (.inr hq13))); have hjw : j = w2.length := (by omega); rw [hjw, List.take_length] at hst2; have hm0 := A1J us ts w2 l; obtain ⟨hE1, hE2⟩ := hst2.at2 (i := 0) (by omega) (by omega); have hE3 := hE2.len; have hE4 := hE2.one; refine D4 D5 rfl ?_)
         refine I3 (i := 0) (l' := [tt,ff,ff,ff,ff,ff,ff,ff]) rfl C8 (B0 rfl) rfl (by kernel_rfl) rfl rfl ?_
         refine aL 1 rfl (B5 rfl rfl) rfl ?_
         refine aP 2 rfl (B3 (j := 0) rfl rfl rfl (by omega)) rfl ?_
         refine aL 3 rfl (A3 rfl rfl (A4q (es := es2) (by repeat first | exact mH | apply mT) (by omega) hall2) hE3) rfl ?_
         refine aL 4 rfl (A5 rfl rfl) rfl ?_
         refine A4 5 ?_
         refine oS rfl rfl rfl rfl hE3 hE4 rfl rfl ?_ (hu := by exact D1 hE3.symm)
         refine A4 6 ?_
         refine oS rfl rfl rfl rfl rfl rfl rfl rfl ?_
         refine aP 7 rfl (qA rfl) rfl ?_
         refine C1 (nS ?_)
         (refine A2e (bs := [(bc, es2.flatten ++ C)]) (Pk.perm (by repeat (first | exact Pk.here | apply Pk.there))) (fun hn9 hd9 hle9 => ?_))
         refine tT (rS ?_)
         refine A2C (outs := [.blk bx [.int .i64 _]]) (rC rfl (A3 rfl rfl (B1 (by repeat first | exact mH | apply mT)) hE3)) (rC rfl (A5 rfl rfl)) (rT rfl) (A0.cons (by repeat (first | exact Pk.here | apply Pk.there)) A0.nil) ?_
         (have hel := B4c (num := num) (fr := .mk fk fks) (lb := lb) hml (A3C hmw (b := true) (by assumption)) hq13; rw [A9o (by omega)] at hel; rw [hjw, List.take_length]; exact ElP.yes hel (hE2.mono hle9) (hrt.mono hle9) (by omega) (by rw [hck]; omega))
        ·refine sD (nS (cF rfl (tK (nS (tS ?_)))))
         refine D4 D5 rfl ?_
         refine K9 (i := 0) (l' := [tt,ff,ff,ff,ff]) rfl C8 (A5 rfl rfl) rfl (by kernel_rfl) rfl rfl ?_
         refine aL 1 rfl (A5 rfl rfl) rfl ?_
         refine A4 2 ?_
         refine oS rfl rfl rfl rfl rfl rfl rfl rfl ?_
         refine A4 3 ?_
         refine oS rfl rfl rfl rfl rfl rfl rfl rfl ?_
         refine aP 4 rfl (qA rfl) rfl ?_
         refine C1 (nS ?_)
         (refine A2e (bs := [(bc, es2.flatten ++ C)]) (Pk.perm (by repeat (first | exact Pk.here | apply Pk.there))) (fun hn9 hd9 hle9 => ?_))
         refine tT ?_
         refine A2C (outs := [.blk bx [.int .i64 _]]) (rC rfl (A5 rfl rfl)) (rC rfl (A5 rfl rfl)) (rT rfl) (A0.cons (by repeat (first | exact Pk.here | apply Pk.there)) A0.nil) ?_
         (have hjw : j = w2.length := (by omega); rw [hjw, List.take_length] at hst2; have hst9 := hst2.mono hle9; have hel := A9n (num := num) (fr := .mk fk fks) (lb := lb) hml (A3C hmw (b := true) (by assumption)) (show k ≠ 13 by omega); rw [hjw, List.take_length]; have hm0 := A1J us ts w2 l; exact ElP.yes hel (A9.put hk hnum hlb (hty.mono hle9) (hfr.mono hle9) (by rw [hm0, hlu]) (D3.of (Sl.of_blk (A := []) (by rw [A0J hst9.all, hst9.len, hm0, hlu]) (by omega) hcm (Wi.in hn9 List.mem_cons_self)) (by rw [hst9.len, hm0, hlu]) hst9.all (fun e he => (hst9.each e he).2)) hst9) (hrt.mono hle9) (by omega) (by rw [hck]; omega))
     ·refine K0 ?_
      refine A2C (outs := [.blk bx [.int .i64 _]]) (rC rfl (A5 rfl rfl)) (rC rfl (A5 rfl rfl)) (rT rfl) (A0.cons (by repeat (first | exact Pk.here | apply Pk.there)) A0.nil) ?_
      (exact ElP.no (A6n hml (A3C hmw (b := false) (by assumption))) (L9 _) (M2 _ ⟨by omega, by omega⟩) (by omega) (by rw [hck]; omega))
def A06 (r : Option (Tm × Ty)) : IM → Value → List A6 → Prop := M4 fun G' v => ∃ cu ct, v = .tuple ⟨[.agg ⟨cu⟩, .agg ⟨ct⟩, .bool r.isSome]⟩ ∧ A9 G' (r.getD (I2, B2)).1 cu ∧ B6 G' (r.getD (I2, B2)).2 ct
theorem A06.no {G : IM} {r : Option (Tm × Ty)} {cu ct : List Value} (h : r = none) (hu : A9 G I2 cu) (ht : B6 G B2 ct) : A06 r G (.tuple ⟨[.agg ⟨cu⟩, .agg ⟨ct⟩, .bool false]⟩) [] := by subst h; exact ⟨rfl, cu, ct, rfl, hu, ht⟩
theorem A06.yes {G : IM} {r : Option (Tm × Ty)} {u : Tm} {t : Ty} {cu ct : List Value} (h : r = some (u, t)) (hu : A9 G u cu) (ht : B6 G t ct) : A06 r G (.tuple ⟨[.agg ⟨cu⟩, .agg ⟨ct⟩, .bool true]⟩) [] := by subst h; exact ⟨rfl, cu, ct, rfl, hu, ht⟩
theorem A9q {e : Tm} (h : R0 e = false) : U3 e = none := by unfold U3; rw [if_neg (by rw [h]; decide)]
theorem A6o {e : Tm} (h : R0 e = true) (h2 : M6 [] e 0 = none) : U3 e = none := by unfold U3; rw [if_pos h, h2]
theorem A6p {e u : Tm} {t : Ty} {l : Int} (h : R0 e = true) (h2 : M6 [] e 0 = some (u, t, l)) : U3 e = some (u, t) := by unfold U3; rw [if_pos h, h2]
theorem B4d (e : Tm) (G : IM) (cells : List Value) (hr : A9 G e cells) : Fn Tryz.prog 43 [.agg ⟨cells⟩] [] G (A06 (U3 e)) := by
 have hRl := hr.len
 have hRo := hr.one
 have hV := A4g e G cells hr
 have hno := @A9q e
 have hnn := @A6o e
 have hso := @A6p e
 refine B7 Tryz.func43 rfl Tryz.ntmps43 Tryz.results43 rfl ?_
 intro w0
 refine tS (tR ?_)
 refine sE (C2 rfl rfl) rfl (fun b3 => ?_)
 refine sE (A7 rfl) rfl (fun b4 => ?_)
 refine sE (A7 rfl) rfl (fun b5 => ?_)
 refine sQ (qA rfl) rfl (sD (nS (tS (tS (tR ?_)))))
 refine sL (A3 rfl rfl (B1 (by repeat first | exact mH | apply mT)) hRl) rfl rfl ?_
 refine E2 rfl (hV) rfl rfl (fun h13 => ?_) (fun h13 => ?_)
 refine D9 ?_
 refine sE (C2 rfl rfl) rfl (fun b23 => ?_)
 refine sL (A3 rfl rfl (B1 (by repeat first | exact mH | apply mT)) hRl) rfl rfl ?_
 focus (have htv : R0 e = true := (by assumption); obtain ⟨hsh, hcn⟩ := (A0B e).1 htv; refine J0 rfl (A9p _ e 1 [] 0 G none 0 0 _ hsh (by omega) A2Z (R1.nil G) hr (by omega) (by omega)) (Pk.perm (by repeat (first | exact Pk.here | apply Pk.there))) rfl rfl (fun v G1 outs hle1 hh => ?_); obtain ⟨u, uc, t, tc, l3, rfl, rfl, hru, hrt, hl3, hl4, hu⟩ := hh; have hul := hru.len; have huo := hru.one; obtain ⟨p3, c3, e3, rfl, _⟩ := hrt.open; have hnn := hnn htv; have hso := @hso u t l3 htv; rcases hE : M6 [] e 0 with _ | ⟨u2, t2, l2⟩; rotate_left; have hue := hu _ hE; simp only [Prod.mk.injEq] at hue; obtain ⟨rfl, rfl, rfl⟩ := hue; have hso := hso hE; obtain ⟨hg1, hg2, hg3⟩ := A4O hso; rotate_left; simp only [Option.isSome]; rotate_left; simp only [Option.isSome])
 refine H3 ?_
 refine sE (A7 rfl) rfl (fun b30 => ?_)
 refine sE (A7 rfl) rfl (fun b31 => ?_)
 refine sS rfl rfl rfl hul huo rfl ?_ (hu := by exact D1 hul.symm)
 refine H4 ?_
 refine D4 D5 rfl ?_
 refine K9 (i := 0) (l' := [tt,ff,ff,ff,ff,ff,ff]) rfl C8 (A3 rfl rfl (B1 (by repeat first | exact mH | apply mT)) hul) rfl (by kernel_rfl) rfl rfl ?_
 refine aL 2 rfl (A5 rfl rfl) rfl ?_
 refine A4 1 ?_
 (refine H1 rfl rfl (A5J _ _ _ (A4H hg1) hru) rfl rfl rfl (fun v G2 hle2 hh => ?_); obtain ⟨cs2, F2, rfl, hs2, hn2⟩ := hh; have hwl := hs2.R.len; have hwo := hs2.R.one; have hr2 := hs2.R.mono (C5.le G2 G1); replace hrt := hrt.mono hle2)
 refine A4 3 ?_
 (refine H1 rfl rfl (A2j _ _ _ (A12 hg3).small hrt) rfl rfl rfl (fun v G3 hle3 hh => ?_); obtain ⟨cs3, F3, rfl, hs3, hn3⟩ := hh; obtain ⟨p4, c4, rfl, _⟩ := hs3.open; have hr3 := hs3.R.mono (C5.le G3 G2); replace hr2 := hr2.mono hle3)
 refine A4 4 ?_
 refine oS rfl rfl rfl rfl hwl hwo rfl rfl ?_ (hu := by exact D1 hwl.symm)
 refine A4 5 ?_
 refine oS rfl rfl rfl rfl rfl rfl rfl rfl ?_
 refine aP 6 rfl (qA rfl) rfl ?_
 refine C1 (nS (tT ?_))
 refine C6 (rC rfl (A3 rfl rfl (B1 (by repeat first | exact mH | apply mT)) hwl)) (rC rfl (A5 rfl rfl)) (rT rfl) ?_
 (exact A06.yes hso hr2 hr3)
 refine H3 ?_
 refine sE (A7 rfl) rfl (fun b69 => ?_)
 refine sE (A7 rfl) rfl (fun b70 => ?_)
 refine sS rfl rfl rfl hul huo rfl ?_ (hu := by exact D1 hul.symm)
 refine A0W ?_
 refine C6 (rC rfl (A5 rfl rfl)) (rC rfl (A5 rfl rfl)) (rT rfl) ?_
 (exact A06.no (hnn hE) (L9 _) (M2 _ ⟨by omega, by omega⟩))
 refine H4 ?_
 refine C6 (rC rfl (A5 rfl rfl)) (rC rfl (A5 rfl rfl)) (rT rfl) ?_
 (exact A06.no (hno (by assumption)) (L9 _) (M2 _ ⟨by omega, by omega⟩))
def S8 (e : Tm) : Option Ty := match U3 e with | some (_, t) => some t | none => none
theorem B4e (e : Tm) (G : IM) (cells : List Value) (htv : R0 e = true) (hr : A9 G e cells) : Fn Tryz.prog 134 [.slice none 0 0, .agg ⟨cells⟩] [] G (X1 (S8 e) G) := by
 have hRl := hr.len
 have hRo := hr.one
 have hnn := @A6o e htv
 have hso := fun u t l => @A6p e u t l htv
 obtain ⟨hsh, hcn⟩ := (A0B e).1 htv
 refine B7 Tryz.func134 rfl Tryz.ntmps134 Tryz.results134 rfl ?_
 intro w0
 refine tS (tR ?_)
 refine sE (C2 rfl rfl) rfl (fun b3 => ?_)
 refine sE (A7 rfl) rfl (fun b4 => ?_)
 refine H6 ?_
 refine sE (C2 rfl rfl) rfl (fun b11 => ?_)
 refine sQ (qM rfl) rfl ?_
 refine sL (A3 rfl rfl (B1 (by repeat first | exact mH | apply mT)) hRl) rfl rfl ?_
 focus (refine J0 rfl (A9p _ e 1 [] 0 G none 0 0 _ hsh (by omega) A2Z (R1.nil G) hr (by omega) (by omega)) (Pk.perm (by repeat (first | exact Pk.here | apply Pk.there))) rfl rfl (fun v G1 outs hle1 hh => ?_); obtain ⟨u, uc, t, tc, l3, rfl, rfl, hru, hrt, hl3, hl4, hu⟩ := hh; have hul := hru.len; have huo := hru.one; obtain ⟨p3, c3, e3, rfl, _⟩ := hrt.open; have hso := hso u t l3; rcases hE : M6 [] e 0 with _ | ⟨u2, t2, l2⟩; rotate_left; have hue := hu _ hE; simp only [Prod.mk.injEq] at hue; obtain ⟨rfl, rfl, rfl⟩ := hue; have hso := hso hE; rotate_left; simp only [Option.isSome]; rotate_left; simp only [Option.isSome])
 refine H3 ?_
 refine sE (A7 rfl) rfl (fun b19 => ?_)
 refine sE (A7 rfl) rfl (fun b20 => ?_)
 refine sS rfl rfl rfl hul huo rfl ?_ (hu := by exact D1 hul.symm)
 refine I9 ?_
 refine I1 (rC rfl (A5 rfl rfl)) (rT rfl) ?_
 (exact X1.yes hrt rfl (by unfold S8; rw [hso]))
 refine H3 ?_
 refine sE (A7 rfl) rfl (fun b41 => ?_)
 refine sE (A7 rfl) rfl (fun b42 => ?_)
 refine sS rfl rfl rfl hul huo rfl ?_ (hu := by exact D1 hul.symm)
 refine I9 ?_
 refine I1 (rC rfl (A5 rfl rfl)) (rT rfl) ?_
 (exact X1.no hrt rfl (by unfold S8; rw [hnn hE]))
theorem B4f (fid : FuncId) (us cs : List Value) (G : IM) : Fn Tryz.prog 179 [.slice none 0 0, .func (.func fid) ⟨us⟩ ⟨cs⟩] [] G (H2 (.int .i64 (-1)) G) := by
 refine B7 Tryz.func179 rfl Tryz.ntmps179 Tryz.results179 rfl ?_
 intro w0
 refine I9 ?_
 refine B8 ?_
 refine J8 (fun (_ : Nat) => ⟨[(8, .int .i64 0), (7, .int .i64 0)], [], G⟩) (fun _ => True) (fun i => i) 0 ?_ ?_ ?_
 ·exact D8
 ·trivial
 ·(rintro (i0 : Nat) _)
  refine tS (tR ?_)
  refine sP (A18 rfl rfl (by omega)) rfl rfl ?_
  refine K0 ?_
  trivial
theorem B4g (fid : FuncId) (us cs : List Value) (G : IM) : Fn Tryz.prog 164 [.slice none 0 0, .func (.func fid) ⟨us⟩ ⟨cs⟩] [] G (H2 (.bool false) G) := by
 refine B7 Tryz.func164 rfl Tryz.ntmps164 Tryz.results164 rfl ?_
 intro w0
 refine D9 ?_
 refine H8 rfl (B4f fid us cs G) rfl rfl ?_
 refine sP (B0x rfl rfl (by omega)) rfl rfl ?_
 refine sQ (qA rfl) rfl (sD (nS (tT (E5 (rT rfl) ?_))))
 (exact ⟨rfl, rfl, rfl⟩)
theorem B4h (G : IM) : Fn Tryz.prog 133 [.slice none 0 0] [] G (H2 (.bool true) G) := by
 refine B7 Tryz.func133 rfl Tryz.ntmps133 Tryz.results133 rfl ?_
 intro w0
 refine D9 ?_
 refine sP (A6S rfl rfl (by omega)) rfl rfl ?_
 refine sQ (qM rfl) rfl (sQ (qM rfl) rfl ?_)
 refine H8 rfl ((B4g _ _ _ _)) rfl rfl ?_
 refine C4 ?_
 (exact ⟨rfl, rfl, rfl⟩)
theorem A9r {e : Tm} (h : R0 e = false) : S8 e = none := by unfold S8; rw [A9q h]
theorem B4i {e : Tm} {t : Ty} (h : S8 e = some t) : E8 t = true := by
 unfold S8 at h
 split at h
 ·rename_i u t' hi; cases h; exact (A4O hi).2.2
 ·cases h
theorem B4j (e : Tm) (G : IM) (cells : List Value) (hr : A9 G e cells) : Fn Tryz.prog 91 [.slice none 0 0, .agg ⟨cells⟩] [] G (X1 (S8 e) G) := by
 have hRl := hr.len
 have hRo := hr.one
 refine B7 Tryz.func91 rfl Tryz.ntmps91 Tryz.results91 rfl ?_
 intro w0
 refine tS (tR ?_)
 refine sE (C2 rfl rfl) rfl (fun b3 => ?_)
 refine sE (A7 rfl) rfl (fun b4 => ?_)
 refine C4 ?_
 refine H8 rfl ((B4h _)) rfl rfl ?_
 refine sQ (V8 rfl) rfl (sQ (qM rfl) rfl ?_)
 refine sL (A3 rfl rfl (B1 (by repeat first | exact mH | apply mT)) hRl) rfl rfl ?_
 refine E2 rfl ((A4g e _ _ hr)) rfl rfl (fun h16 => ?_) (fun h16 => ?_)
 refine I5 ?_
 refine sL (A3 rfl rfl (B1 (by repeat first | exact mH | apply mT)) hRl) rfl rfl ?_
 focus (refine E4 rfl (B4e e G cells (by assumption) hr) rfl rfl (fun v G1 hle1 hh => ?_); obtain ⟨cu, u, rfl, hru, hu⟩ := hh; obtain ⟨p1, c1, e1, rfl, _⟩ := hru.open; rcases hct : S8 e with _ | u2; rotate_left; obtain rfl := hu u2 hct; have hgv := B4i hct; rotate_left; simp only [Option.isSome]; rotate_left; simp only [Option.isSome])
 refine J7 ?_
 refine sE (A7 rfl) rfl (fun b32 => ?_)
 refine T7 ?_
 (refine E4 rfl (A2j _ G1 _ (A12 hgv).small hru) rfl rfl (fun v G2 hle2 hh => ?_); obtain ⟨cs2, F2, rfl, hs2, hn2⟩ := hh; obtain ⟨p2, c2, rfl, _⟩ := hs2.open; have hr2 := hs2.R.mono (C5.le G2 G1))
 refine F9 ?_
 refine sQ (qA rfl) rfl (sD (nS (tT ?_)))
 refine I1 (rC rfl (A5 rfl rfl)) (rT rfl) ?_
 (exact X1.yes hr2 rfl (by first | exact hct | rfl))
 refine J7 ?_
 refine sE (A7 rfl) rfl (fun b61 => ?_)
 refine W1 ?_
 refine I1 (rC rfl (A5 rfl rfl)) (rT rfl) ?_
 (exact X1.no (u := B2) (M2 _ ⟨by omega, by omega⟩) rfl (by first | exact hct | rfl))
 refine I6 ?_
 refine I1 (rC rfl (A5 rfl rfl)) (rT rfl) ?_
 (exact X1.no (u := B2) (M2 _ ⟨by omega, by omega⟩) rfl (A9r (by assumption)))
theorem B4k (e : Tm) (G : IM) (cells : List Value) (hr : A9 G e cells) : Fn Tryz.prog 51 [.agg ⟨cells⟩] [] G (X1 (S8 e) G) := by
 have hRl := hr.len
 have hRo := hr.one
 refine B7 Tryz.func51 rfl Tryz.ntmps51 Tryz.results51 rfl ?_
 intro w0
 refine tS (tR ?_)
 refine sE (C2 rfl rfl) rfl (fun b3 => ?_)
 refine sE (A7 rfl) rfl (fun b4 => ?_)
 refine sQ (qA rfl) rfl (sD (nS (tS (tR ?_))))
 refine sL (A3 rfl rfl (B1 (by repeat first | exact mH | apply mT)) hRl) rfl rfl ?_
 (refine E4 rfl (B4j e G cells hr) rfl rfl (fun v G1 hle1 hh => ?_); obtain ⟨cu, u, rfl, hru, hu⟩ := hh; obtain ⟨p1, c1, e1, rfl, _⟩ := hru.open)
 refine C4 ?_
 refine I1 (rC rfl (A5 rfl rfl)) (rT rfl) ?_
 (exact ⟨rfl, _, u, rfl, hru, hu⟩)
def T6 (e : Tm) (fuel : Int) : ByteArray × Int × Int := match U3 e with
 | none => (⟨⟨[]⟩⟩, 3, 0)
 | some (u, _) => if (S6 u fuel).2.1 = 0 then (Z5 (S6 u fuel).1, 0, 0) else (⟨⟨[]⟩⟩, (S6 u fuel).2.1, (S6 u fuel).2.2)
def A9s (r : ByteArray × Int × Int) (G : IM) : IM → Value → List A6 → Prop := M4 fun _ v => v = .tuple ⟨[.string r.1, .int .i64 r.2.1, .int .i64 r.2.2]⟩
theorem A6q {e : Tm} {fuel : Int} (h : U3 e = none) : T6 e fuel = (⟨⟨[]⟩⟩, 3, 0) := by unfold T6; rw [h]
theorem A4Q {e u : Tm} {t : Ty} {fuel : Int} (h : U3 e = some (u, t)) (h0 : (S6 u fuel).2.1 = 0) : T6 e fuel = (Z5 (S6 u fuel).1, 0, 0) := by unfold T6; rw [h]; simp only [h0, if_true]
theorem A3M {e u : Tm} {t : Ty} {fuel : Int} (h : U3 e = some (u, t)) (h0 : (S6 u fuel).2.1 ≠ 0) : T6 e fuel = (⟨⟨[]⟩⟩, (S6 u fuel).2.1, (S6 u fuel).2.2) := by unfold T6; rw [h]; simp only [if_neg h0]
theorem A9t : ∀ (n : Nat) (e : Tm), (O9 n e).2.1 = 0 → O5 (O9 n e).1 = true ∧ E7 (O9 n e).1 = true ∧ (O9 n e).2.2.1 = 0
 | 0, e, h => by rw [A6d] at h ⊢; exact stepv e h
 | n + 1, e, h => by
  by_cases h1 : (E9 e).2.1 = 1
  ·rw [A6e h1] at h ⊢; exact A9t n _ h
  ·rw [A6f h1] at h ⊢; exact stepv e h
where
 stepv (e : Tm) (h : (E9 e).2.1 = 0) : O5 (E9 e).1 = true ∧ E7 (E9 e).1 = true ∧ (E9 e).2.2 = 0 := by
  cases h1 : O5 e with
  | false => rw [A4I h1] at h; simp at h
  | true =>
   cases h2 : E7 e with
   | true => rw [A4J h1 h2]; exact ⟨h1, h2, rfl⟩
   | false =>
    by_cases h3 : (F8 e).2.1 = 1
    ·cases h4 : O5 (F8 e).1 with
     | false => rw [A4L h1 h2 h3 h4] at h; simp at h
     | true => rw [A4M h1 h2 h3 h4] at h; simp at h
    ·rw [A4K h1 h2 h3] at h
     exact absurd h (stp_ne0 e)
 stp_ne0 : ∀ (e : Tm), (F8 e).2.1 ≠ 0 := by
  refine Tm.ind fun k nm num ty fr lb ks ih => ?_
  rw [F8]
  cases hL : U9 (if k = 9 then 1 else ks.length) ks with
  | none => exact red_ne0 k ty fr lb ks
  | some p =>
   obtain ⟨us, c, l⟩ := p
   have := stpL_ne0 ks ih _ us c l hL
   simp only
   by_cases hc : c = 1
   ·rw [if_pos hc]; simp
   ·rw [if_neg hc]; exact this
 red_ne0 (k : Int) (ty fr : Ty) (lb : Int) (ks : List Tm) : (N8 k ty fr lb ks).2.1 ≠ 0 := by
  unfold N8 Q7
  repeat' split
  all_goals simp
 stpL_ne0 (ks : List Tm) (ih : ∀ t ∈ ks, (F8 t).2.1 ≠ 0) : ∀ (n : Nat) us c l, U9 n ks = some (us, c, l) → c ≠ 0 := by
  induction ks with
  | nil => intro n us c l h; cases n <;> simp [U9] at h
  | cons t ts iht =>
   intro n us c l h
   cases n with
   | zero => simp [U9] at h
   | succ n =>
    rw [A4G] at h
    by_cases hv : E7 t = true
    ·rw [if_pos hv] at h
     split at h
     ·rename_i us' c' l' h'
      simp only [Option.some.injEq, Prod.mk.injEq] at h
      obtain ⟨_, rfl, _⟩ := h
      exact iht (fun u hu => ih u (List.mem_cons_of_mem _ hu)) n _ _ _ h'
     ·cases h
    ·rw [if_neg hv] at h
     simp only [Option.some.injEq, Prod.mk.injEq] at h
     obtain ⟨_, rfl, _⟩ := h
     exact ih t List.mem_cons_self
theorem A9u {e : Tm} {fuel : Int} (h : (S6 e fuel).2.1 = 0) : O5 (S6 e fuel).1 = true ∧ E7 (S6 e fuel).1 = true ∧ (S6 e fuel).2.2 = 0 := by
 cases hf : O3 fuel 0 300 with
 | false => rw [A6g hf] at h; simp at h
 | true =>
  by_cases h1 : (O9 fuel.toNat e).2.1 = 1
  ·rw [A83 hf h1] at h; simp at h
  ·rw [A84 hf h1] at h ⊢; exact A9t _ _ h
theorem A9v (e : Tm) (fuel : Int) (G : IM) (cells : List Value) (hT : A01 G) (hr : A9 G e cells) : Fn Tryz.prog 17 [.agg ⟨cells⟩, .int .i64 fuel] [] G (A9s (T6 e fuel) G) := by
 have hRl := hr.len
 have hRo := hr.one
 have hno := @A6q e fuel
 have hyv := fun u t => @A4Q e u t fuel
 have hyn := fun u t => @A3M e u t fuel
 refine B7 Tryz.func17 rfl Tryz.ntmps17 Tryz.results17 rfl ?_
 intro w0
 refine tS (tR ?_)
 refine sE (C2 rfl rfl) rfl (fun b3 => ?_)
 refine C4 ?_
 refine sL (A3 rfl rfl (B1 (by repeat first | exact mH | apply mT)) hRl) rfl rfl ?_
 focus (refine E4 rfl (B4d e G cells hr) rfl rfl (fun v G1 hle1 hh => ?_); obtain ⟨cu, ct, rfl, hru, hrt⟩ := hh; rcases hI : U3 e with _ | ⟨u, t⟩; rotate_left; rw [hI] at hru hrt; simp only [Option.getD_some] at hru hrt; rotate_left; rw [hI] at hru hrt; simp only [Option.getD_none] at hru hrt; simp only [Option.isSome]; rotate_left; simp only [Option.isSome]; rotate_left; all_goals (have hul := hru.len; have huo := hru.one; obtain ⟨p3, c3, e3, rfl, _⟩ := hrt.open))
 refine H3 ?_
 refine sE (A7 rfl) rfl (fun b17 => ?_)
 refine sE (A7 rfl) rfl (fun b18 => ?_)
 refine sS rfl rfl rfl hul huo rfl ?_ (hu := by exact D1 hul.symm)
 refine W1 ?_
 refine C6 (rT rfl) (rT rfl) (rT rfl) ?_
 (exact ⟨rfl, by rw [hno (by first | exact hI | rfl | assumption)]⟩)
 refine H3 ?_
 refine sE (A7 rfl) rfl (fun b47 => ?_)
 refine sE (A7 rfl) rfl (fun b48 => ?_)
 refine sS rfl rfl rfl hul huo rfl ?_ (hu := by exact D1 hul.symm)
 refine K0 ?_
 refine sL (A3 rfl rfl (B1 (by repeat first | exact mH | apply mT)) hul) rfl rfl ?_
 refine sQ (qM rfl) rfl ?_
 (have hyv := hyv u t hI; have hyn := hyn u t hI; have hev := @A9u u fuel; refine E4 rfl (B3K u fuel G1 cu hru) rfl rfl (fun v G2 hle2 hh => ?_); obtain ⟨wc, hvv, hrw⟩ := hh; have hwl := hrw.len; have hwo := hrw.one; generalize S6 u fuel = r at hvv hrw hyv hyn hev; obtain ⟨w, c, l⟩ := r; simp only at hvv hrw hyv hyn hev; subst hvv)
 refine H3 ?_
 refine sE (A7 rfl) rfl (fun b73 => ?_)
 refine sS rfl rfl rfl hwl hwo rfl ?_ (hu := by exact D1 hwl.symm)
 refine D2 ?_
 refine sB (M3 rfl rfl) rfl rfl (fun h83 => ?_) (fun h83 => ?_)
 refine I6 ?_
 refine C6 (rT rfl) (rT rfl) (rT rfl) ?_
 (exact ⟨rfl, by rw [hyn (by omega)]⟩)
 refine sD (nS (cF rfl (tK (nS (tS (tR ?_))))))
 refine sL (A3 rfl rfl (B1 (by repeat first | exact mH | apply mT)) hwl) rfl rfl ?_
 (obtain ⟨he1, he2, he3⟩ := hev (by omega); refine H8 rfl (B39 w G2 wc (hT.mono (hle1.trans hle2)) (A2r he1).1 he2 hrw) rfl rfl ?_)
 refine D2 ?_
 refine C6 (rT rfl) (rT rfl) (rT rfl) ?_
 (obtain rfl : c = 0 := (by omega); subst he3; exact ⟨rfl, by rw [hyv rfl]⟩)
def P2 (o : Option Ty) (G : IM) : IM → Value → List A6 → Prop := M4 fun G' v => ∃ t cells, v = .tuple ⟨[.agg ⟨cells⟩, .bool o.isSome]⟩ ∧ B6 G' t cells ∧ E6 t ∧ ∀ u, o = some u → u = t
theorem P2.yes {G G' : IM} {o : Option Ty} {t : Ty} {cells : List Value} (h : o = some t) (hr : B6 G' t cells) (ha : E6 t) : P2 o G G' (.tuple ⟨[.agg ⟨cells⟩, .bool true]⟩) [] := by
 subst h; exact ⟨rfl, t, cells, rfl, hr, ha, fun u h => (by cases h; rfl)⟩
theorem P2.no {G G' : IM} {o : Option Ty} {t : Ty} {cells : List Value} (h : o = none) (hr : B6 G' t cells) (ha : E6 t) : P2 o G G' (.tuple ⟨[.agg ⟨cells⟩, .bool false]⟩) [] := by
 subst h; exact ⟨rfl, t, cells, rfl, hr, ha, fun u h => (by cases h)⟩
theorem P2.mk {G G' : IM} {o : Option Ty} {b : Bool} {t : Ty} {cells : List Value} (h : o = if b = true then some t else none) (hr : B6 G' t cells) (ha : E6 t) : P2 o G G' (.tuple ⟨[.agg ⟨cells⟩, .bool b]⟩) [] := by
 cases b
 ·exact P2.no h hr ha
 ·exact P2.yes h hr ha
theorem A6r {t : Ty} (h : E8 t = true) : E6 t := (A3x h).1
theorem A2D (k : Int) (a b : Ty) (G : IM) (ca cb : List Value) (hk : k = 4 ∨ k = 5) (ha : E6 a) (hb : E6 b) (hra : B6 G a ca) (hrb : B6 G b cb) :
  Fn Tryz.prog 160 [.int .i64 k, .agg ⟨ca⟩, .agg ⟨cb⟩] [] G (M4 fun G' v => ∃ cells, v = .tuple ⟨[.agg ⟨cells⟩, .bool (E8 (.mk k [a, b]))]⟩ ∧ B6 G' (.mk k [a, b]) cells) := by
 obtain ⟨ak, aks⟩ := a
 obtain ⟨bk, bks⟩ := b
 obtain ⟨pa, cca, ea, rfl, _⟩ := hra.open
 obtain ⟨pb, ccb, eb, rfl, _⟩ := hrb.open
 have hki : F0 k := ⟨by omega, by omega⟩
 refine B7 Tryz.func160 rfl Tryz.ntmps160 Tryz.results160 rfl ?_
 intro w0
 refine tS (tR ?_)
 refine sE (C2 rfl rfl) rfl (fun b3 => ?_)
 refine sE (C2 rfl rfl) rfl (fun b4 => ?_)
 refine sE (A7 rfl) rfl (fun b5 => ?_)
 refine sQ (qA rfl) rfl (sD (nS (tS ?_)))
 refine D4 D5 rfl ?_
 refine I3 (i := 0) (l' := [tt,ff,ff,ff,ff,ff,ff,ff,ff]) rfl C8 (qM rfl) rfl (by kernel_rfl) rfl rfl ?_
 refine aL 1 rfl (A5 rfl rfl) rfl ?_
 refine aL 3 rfl (A5 rfl rfl) rfl ?_
 refine Q2 (j := 2) (j' := 7) (by kernel_rfl) ?_ ?_
 (refine H1 rfl rfl (P3 _ G _ ha.small hra) rfl rfl rfl (fun v G1 hle1 hh => ?_); obtain ⟨cs1, F1, rfl, hs1, hn1⟩ := hh; obtain ⟨p1, c1, rfl, _⟩ := hs1.open; have hC2 := P3 _ G1 _ hb.small (hrb.mono hle1))
 refine Q2 (j := 4) (j' := 7) (by kernel_rfl) ?_ ?_
 (refine H1 rfl rfl hC2 rfl rfl rfl (fun v G2 hle2 hh => ?_); obtain ⟨cs2, F2, rfl, hs2, hn2⟩ := hh; obtain ⟨p2, c2, rfl, _⟩ := hs2.open; have hr1 := hs1.R.mono ((C5.le G1 G).trans hle2); have hr2 := hs2.R.mono (C5.le G2 G1))
 refine Q2 (j := 5) (j' := 7) (by kernel_rfl) ?_ ?_
 (refine E0 rfl (C7 rfl rfl rfl (by omega) (by unfold maxLen; omega) rfl) rfl rfl ?_; rintro _ ⟨b19, rfl⟩)
 refine aP 6 rfl (Q3 rfl rfl) rfl ?_
 refine A4 7 ?_
 (refine E0 rfl (A7 rfl) rfl rfl ?_; rintro _ ⟨b22, rfl⟩)
 refine A4 8 ?_
 refine H7 rfl ?_
 refine C1 (nS (tS ?_))
 (have hr1' := hr1; refine A1P (by repeat (first | exact Pk.here | apply Pk.there)) (fun G5 hle5 hsl5 hno5 => ?_); have hRT : B6 G5 (.mk k [.mk ak aks, .mk bk bks]) _ := C9.ty (ts := [.mk ak aks, .mk bk bks]) (es := [[.int .i64 ak, .slice p1 aks.length c1], [.int .i64 bk, .slice p2 bks.length c2]]) ⟨_, _, rfl, hr1.mono hle5, _, _, rfl, hr2.mono hle5, rfl⟩ rfl hsl5 hki; have hV := A1E _ G5 _ hRT; refine D4 D5 rfl ?_)
 refine K9 (i := 0) (l' := [tt,ff,ff,ff,ff]) rfl C8 (A5 rfl rfl) rfl (by kernel_rfl) rfl rfl ?_
 refine aL 1 rfl (A5 rfl rfl) rfl ?_
 refine A4 2 ?_
 refine N4 rfl rfl (hV) rfl rfl rfl ?_
 refine A4 3 ?_
 refine H7 rfl ?_
 refine aP 4 rfl (qA rfl) rfl ?_
 refine C1 (nS (tT ?_))
 refine I1 (rC rfl (A5 rfl rfl)) (rT rfl) ?_
 (exact ⟨rfl, _, rfl, hRT⟩)
 (refine E0 rfl (A7 rfl) rfl rfl ?_; rintro _ ⟨b41, rfl⟩)
 refine A4 5 ?_
 (refine E0 rfl (C7 rfl rfl rfl (by omega) (by unfold maxLen; omega) rfl) rfl rfl ?_; rintro _ ⟨b43, rfl⟩)
 refine aP 6 rfl (Q3 rfl rfl) rfl ?_
 refine A4 8 ?_
 refine H7 rfl ?_
 refine C1 (nS (tS ?_))
 (have hr1' := hr1; refine A1P (by repeat (first | exact Pk.here | apply Pk.there)) (fun G5 hle5 hsl5 hno5 => ?_); have hRT : B6 G5 (.mk k [.mk ak aks, .mk bk bks]) _ := C9.ty (ts := [.mk ak aks, .mk bk bks]) (es := [[.int .i64 ak, .slice p1 aks.length c1], [.int .i64 bk, .slice p2 bks.length c2]]) ⟨_, _, rfl, hr1.mono hle5, _, _, rfl, hr2.mono hle5, rfl⟩ rfl hsl5 hki; have hV := A1E _ G5 _ hRT; refine D4 D5 rfl ?_)
 refine K9 (i := 0) (l' := [tt,ff,ff,ff,ff]) rfl C8 (A5 rfl rfl) rfl (by kernel_rfl) rfl rfl ?_
 refine aL 1 rfl (A5 rfl rfl) rfl ?_
 refine A4 2 ?_
 refine N4 rfl rfl (hV) rfl rfl rfl ?_
 refine A4 3 ?_
 refine H7 rfl ?_
 refine aP 4 rfl (qA rfl) rfl ?_
 refine C1 (nS (tT ?_))
 refine I1 (rC rfl (A5 rfl rfl)) (rT rfl) ?_
 (exact ⟨rfl, _, rfl, hRT⟩)
 (refine E0 rfl (A7 rfl) rfl rfl ?_; rintro _ ⟨b63, rfl⟩)
 refine A4 4 ?_
 (refine H1 rfl rfl hC2 rfl rfl rfl (fun v G2 hle2 hh => ?_); obtain ⟨cs2, F2, rfl, hs2, hn2⟩ := hh; obtain ⟨p2, c2, rfl, _⟩ := hs2.open; have hr1 := hs1.R.mono ((C5.le G1 G).trans hle2); have hr2 := hs2.R.mono (C5.le G2 G1))
 refine A4 5 ?_
 (refine E0 rfl (C7 rfl rfl rfl (by omega) (by unfold maxLen; omega) rfl) rfl rfl ?_; rintro _ ⟨b67, rfl⟩)
 refine aP 6 rfl (Q3 rfl rfl) rfl ?_
 refine A4 8 ?_
 refine H7 rfl ?_
 refine C1 (nS (tS ?_))
 (have hr1' := hr1; refine A1P (by repeat (first | exact Pk.here | apply Pk.there)) (fun G5 hle5 hsl5 hno5 => ?_); have hRT : B6 G5 (.mk k [.mk ak aks, .mk bk bks]) _ := C9.ty (ts := [.mk ak aks, .mk bk bks]) (es := [[.int .i64 ak, .slice p1 aks.length c1], [.int .i64 bk, .slice p2 bks.length c2]]) ⟨_, _, rfl, hr1.mono hle5, _, _, rfl, hr2.mono hle5, rfl⟩ rfl hsl5 hki; have hV := A1E _ G5 _ hRT; refine D4 D5 rfl ?_)
 refine K9 (i := 0) (l' := [tt,ff,ff,ff,ff]) rfl C8 (A5 rfl rfl) rfl (by kernel_rfl) rfl rfl ?_
 refine aL 1 rfl (A5 rfl rfl) rfl ?_
 refine A4 2 ?_
 refine N4 rfl rfl (hV) rfl rfl rfl ?_
 refine A4 3 ?_
 refine H7 rfl ?_
 refine aP 4 rfl (qA rfl) rfl ?_
 refine C1 (nS (tT ?_))
 refine I1 (rC rfl (A5 rfl rfl)) (rT rfl) ?_
 (exact ⟨rfl, _, rfl, hRT⟩)
 (refine E0 rfl (A7 rfl) rfl rfl ?_; rintro _ ⟨b87, rfl⟩)
 refine A4 2 ?_
 (refine H1 rfl rfl (P3 _ G _ ha.small hra) rfl rfl rfl (fun v G1 hle1 hh => ?_); obtain ⟨cs1, F1, rfl, hs1, hn1⟩ := hh; obtain ⟨p1, c1, rfl, _⟩ := hs1.open; have hC2 := P3 _ G1 _ hb.small (hrb.mono hle1))
 refine A4 4 ?_
 (refine H1 rfl rfl hC2 rfl rfl rfl (fun v G2 hle2 hh => ?_); obtain ⟨cs2, F2, rfl, hs2, hn2⟩ := hh; obtain ⟨p2, c2, rfl, _⟩ := hs2.open; have hr1 := hs1.R.mono ((C5.le G1 G).trans hle2); have hr2 := hs2.R.mono (C5.le G2 G1))
 refine A4 5 ?_
 (refine E0 rfl (C7 rfl rfl rfl (by omega) (by unfold maxLen; omega) rfl) rfl rfl ?_; rintro _ ⟨b93, rfl⟩)
 refine aP 6 rfl (Q3 rfl rfl) rfl ?_
 refine A4 8 ?_
 refine H7 rfl ?_
 refine C1 (nS (tS ?_))
 (have hr1' := hr1; refine A1P (by repeat (first | exact Pk.here | apply Pk.there)) (fun G5 hle5 hsl5 hno5 => ?_); have hRT : B6 G5 (.mk k [.mk ak aks, .mk bk bks]) _ := C9.ty (ts := [.mk ak aks, .mk bk bks]) (es := [[.int .i64 ak, .slice p1 aks.length c1], [.int .i64 bk, .slice p2 bks.length c2]]) ⟨_, _, rfl, hr1.mono hle5, _, _, rfl, hr2.mono hle5, rfl⟩ rfl hsl5 hki; have hV := A1E _ G5 _ hRT; refine D4 D5 rfl ?_)
 refine K9 (i := 0) (l' := [tt,ff,ff,ff,ff]) rfl C8 (A5 rfl rfl) rfl (by kernel_rfl) rfl rfl ?_
 refine aL 1 rfl (A5 rfl rfl) rfl ?_
 refine A4 2 ?_
 refine N4 rfl rfl (hV) rfl rfl rfl ?_
 refine A4 3 ?_
 refine H7 rfl ?_
 refine aP 4 rfl (qA rfl) rfl ?_
 refine C1 (nS (tT ?_))
 refine I1 (rC rfl (A5 rfl rfl)) (rT rfl) ?_
 (exact ⟨rfl, _, rfl, hRT⟩)
theorem A25 (k : Int) (t : Ty) (G : IM) (cells : List Value) (hk : k = 4 ∨ k = 5) (ha : E6 t) (hr : B6 G t cells) :
  Fn Tryz.prog 162 [.int .i64 k, .agg ⟨cells⟩] [] G (A8r k t G) := by
 obtain ⟨tk, ks⟩ := t
 have ha2 := ha
 rw [E6] at ha2
 have hkid := ha.kid
 obtain ⟨p, c, es, rfl, htk, hsl, hkl⟩ := hr.open
 simp only [Ty.k, Ty.ks] at htk hsl hkl ⊢
 refine B7 Tryz.func162 rfl Tryz.ntmps162 Tryz.results162 rfl ?_
 intro w0
 refine tS (tR ?_)
 refine sE (C2 rfl rfl) rfl (fun b3 => ?_)
 refine sE (A7 rfl) rfl (fun b4 => ?_)
 refine sE (A7 rfl) rfl (fun b5 => ?_)
 refine D2 ?_
 refine sB (qE rfl rfl) rfl rfl (fun h14 => ?_) (fun h14 => ?_)
 refine sD (nS (qT rfl (tS (tR ?_))))
 refine H8 rfl ((A1F _)) rfl rfl ?_
 refine H8 rfl ((A1F _)) rfl rfl ?_
 refine F9 ?_
 refine F9 ?_
 refine sQ (qA rfl) rfl (sD (nS (tT (rS ?_))))
 refine C6 (rC rfl (A5 rfl rfl)) (rC rfl (A5 rfl rfl)) (rT rfl) ?_
 (refine ⟨rfl, _, _, _, _, ?_, A0C _, A0C _, A3r, A3r, ?_⟩ <;> rw [A1I, if_neg (by omega), if_pos (by omega)] <;> first | rfl | (intro p hp; cases hp; rfl))
 refine J3 ?_
 refine sB (M3 rfl rfl) rfl rfl (fun h42 => ?_) (fun h42 => ?_)
 refine I6 ?_
 refine C6 (rC rfl (A5 rfl rfl)) (rC rfl (A5 rfl rfl)) (rT rfl) ?_
 (refine ⟨rfl, B2, _, B2, _, ?_, M2 _ ⟨by omega, by omega⟩, M2 _ ⟨by omega, by omega⟩, T4 (by omega) (by omega), T4 (by omega) (by omega), ?_⟩ <;> rw [A1I, if_neg (by omega), if_neg (by omega)] <;> first | rfl | (intro p hp; cases hp))
 refine sD (nS (cF rfl (tK (nS (tS ?_)))))
 (have hlen : ks.length = 2 := ha2.1 (by omega); obtain ⟨b, o, q0, d0, hp0, hat0, hre0, hg0⟩ := hsl.kidTy hkl (i := 0) (by omega) (by omega); obtain ⟨b', o', q1, d1, hp1, hat1, hre1, hg1⟩ := hsl.kidTy hkl (i := 1) (by omega) (by omega); subst hp0; cases hp1; have hC1 := P3 _ G _ (hkid _ (List.getElem_mem (by omega))).small hre0; refine D4 D5 rfl ?_)
 refine I3 (i := 0) (l' := [tt,ff,ff,ff,ff,ff,ff,ff,ff,ff,ff,ff,ff]) rfl C8 (B0 rfl) rfl (by kernel_rfl) rfl rfl ?_
 refine aL 1 rfl (B5 rfl rfl) rfl ?_
 refine aP 2 rfl (B3 (j := 0) rfl rfl rfl (by omega)) rfl ?_
 refine aL 3 rfl (A3 rfl rfl (hat0 _) rfl) rfl ?_
 refine aP 5 rfl (B0 rfl) rfl ?_
 refine aL 6 rfl (B5 rfl rfl) rfl ?_
 refine aP 7 rfl (B3 (j := 1) rfl rfl rfl (by omega)) rfl ?_
 refine aL 8 rfl (A3 rfl rfl (hat1 _) rfl) rfl ?_
 refine A4 4 ?_
 (refine H1 rfl rfl hC1 rfl rfl rfl (fun v G1 hle1 hh => ?_); obtain ⟨cs1, F1, rfl, hs1, hn1⟩ := hh; obtain ⟨p1, c1, rfl, _⟩ := hs1.open; have hC2 := P3 _ G1 _ (hkid _ (List.getElem_mem (by omega))).small (hre1.mono hle1))
 refine A4 9 ?_
 (refine H1 rfl rfl hC2 rfl rfl rfl (fun v G2 hle2 hh => ?_); obtain ⟨cs2, F2, rfl, hs2, hn2⟩ := hh; obtain ⟨p2, c2, rfl, _⟩ := hs2.open; have hr1 := hs1.R.mono ((C5.le G1 G).trans hle2); have hr2 := hs2.R.mono (C5.le G2 G1))
 refine A4 10 ?_
 refine H7 rfl ?_
 refine A4 11 ?_
 refine Q9 rfl rfl rfl rfl rfl rfl rfl rfl (by decide +kernel) (by repeat first | exact Sw.here | apply Sw.there) (by rfl) ?_
 refine aP 12 rfl (qA rfl) rfl ?_
 refine C1 (nS (tT ?_))
 refine C6 (rC rfl (A5 rfl rfl)) (rC rfl (A5 rfl rfl)) (rT rfl) ?_
 (refine ⟨rfl, _, _, _, _, ?_, hr1, hr2, hkid _ (List.getElem_mem (by omega)), hkid _ (List.getElem_mem (by omega)), ?_⟩ <;> rw [A1I, if_pos (by omega)] <;> first | rfl | (intro p hp; cases hp; simp [hlen]))
theorem B4l (G : IM) (cx : Cx) (hv : Z4 cx) (p : Option Addr) (n c : Nat) (nm : ByteArray) (hx : R1 G cx p n c) :
  Fn Tryz.prog 116 [.slice p n c, .string nm] [] G (P2 (A0c cx nm) G) := by
 have hn := hx.le
 refine B7 Tryz.func116 rfl Tryz.ntmps116 Tryz.results116 rfl ?_
 intro w0
 refine tS (tR ?_)
 refine sE (A7 rfl) rfl (fun b3 => ?_)
 refine D2 ?_
 refine sP (P1 rfl rfl (by omega) (by omega)) rfl rfl ?_
 refine sQ (qA rfl) rfl (sD (nS ?_))
 refine B8 ?_
 (refine J8 (fun (i : Nat) => ⟨[(6, .int .i64 ((i : Int) - 1)), (0, .slice p n c), (1, .string nm), (4, .pointer (some ⟨b3, 0, none⟩))], [.blk b3 [.int .i64 0, .slice none 0 0]], G⟩) (fun i => i ≤ n ∧ A0c cx nm = W9 cx nm i) (fun i => i) n ?_ ?_ ?_)
 exact D8
 (exact ⟨Nat.le_refl _, by unfold A0c; rw [hx.1]⟩)
 (rintro i ⟨hi, hlk⟩)
 refine tS (tS (tR (sQ (qM rfl) rfl ?_)))
 refine sB (A0I rfl rfl) rfl rfl (fun h25 => ?_) (fun h25 => ?_)
 refine sD (nS (qT rfl (tK (nS (tS ?_)))))
 (show I7 _ _ (.block 1 _) _ _; obtain ⟨j, rfl⟩ : ∃ j, i = j + 1 := ⟨i - 1, by omega⟩; rw [show ((j + 1 : Nat) : Int) - 1 = (j : Int) from by omega]; obtain ⟨b, o, nm1, t1, q1, d1, hcx, rfl, hat, hr1, hgb⟩ := hx.get (i := j) (by omega); have ha1 := A6r (hv _ (List.mem_of_getElem? hcx)); refine B8 ?_)
 refine tS (tR (sQ (qM rfl) rfl (sQ (qM rfl) rfl ?_)))
 refine sP (B3 rfl rfl rfl (by omega)) rfl rfl ?_
 refine sQ (qF rfl) rfl ?_
 refine sL (A0w rfl rfl ((hat _).sub (j := 0) rfl)) rfl rfl ?_
 refine sQ (qM rfl) rfl ?_
 refine sB (A0x rfl rfl) rfl rfl (fun h41 => ?_) (fun h41 => ?_)
 refine C4 ?_
 refine sP (B3 rfl rfl rfl (by omega)) rfl rfl ?_
 refine sQ (qF rfl) rfl ?_
 refine sL (A3 rfl rfl (hat _).drop rfl) rfl rfl ?_
 (refine E4 rfl (P3 _ G _ ha1.small hr1) rfl rfl (fun v G1 hle1 hh => ?_); obtain ⟨cs1, F1, rfl, hs1', hn1⟩ := hh; obtain ⟨p1, c1, rfl, _⟩ := hs1'.open; have hrr := hs1'.R.mono (C5.le G1 G))
 refine I5 ?_
 refine I1 (rC rfl (A5 rfl rfl)) (rT rfl) ?_
 (exact P2.yes (by rw [hlk]; exact A5F hcx (by assumption)) hrr ha1)
 refine D2 ?_
 refine sP (P1 rfl rfl (by omega) (by omega)) rfl rfl ?_
 refine sQ (qA rfl) rfl (sD ?_)
 refine J9 j ?_ ?_ ?_
 exact D8
 (exact ⟨by omega, by rw [hlk]; exact A5G hcx (by assumption)⟩)
 (show _ < _ + 1; omega)
 refine K0 ?_
 refine I1 (rC rfl (A5 rfl rfl)) (rT rfl) ?_
 (obtain rfl : i = 0 := (by omega); exact P2.no (by rw [hlk]; rfl) (M2 _ ⟨by omega, by omega⟩) (T4 (by omega) (by omega)))
theorem A4R : ∀ (xs ys : List Ty), xs.length = ys.length → (S4 xs ys).length = xs.length
 | [], [], _ => rfl
 | a :: xs, b :: ys, h => by simp only [S4, List.length_cons]; rw [A4R xs ys (by simpa using h)]
 | [], b :: ys, h => by simp at h
 | a :: xs, [], h => by simp at h
theorem A6s : ∀ (xs ys : List Ty) (i : Nat) (h : i < xs.length) (h' : i < ys.length) (hl : i < (S4 xs ys).length), (S4 xs ys)[i] = U1 xs[i] ys[i]
 | [], _, i, h, _, _ => by simp at h
 | a :: xs, [], i, _, h', _ => by simp at h'
 | a :: xs, b :: ys, 0, _, _, _ => by simp [S4]
 | a :: xs, b :: ys, i + 1, h, h', hl => by
  simp only [S4, List.getElem_cons_succ]
  exact A6s xs ys i (by simpa using h) (by simpa using h') _
theorem B4m {xs ys : List Ty} {i : Nat} (hl : xs.length = ys.length) (h : i < xs.length) : (S4 xs ys).take (i + 1) = (S4 xs ys).take i ++ [U1 xs[i] (ys[i]'(by omega))] := by
 rw [List.take_succ_eq_append_getElem (by rw [A4R _ _ hl]; exact h), A6s _ _ i h (by omega)]
theorem B4n : ∀ (a b : Ty) (G : IM) (ca cb : List Value), K2 a b = true → E6 a → E6 b → B6 G a ca → B6 G b cb → Fn Tryz.prog 178 [.agg ⟨ca⟩, .agg ⟨cb⟩] [] G (M4 fun G' v => ∃ cells, v = .agg ⟨cells⟩ ∧ B6 G' (U1 a b) cells) := by
 refine Ty.ind fun ak aks ih b G ca cb hc ha hb hra hrb => ?_
 obtain ⟨bk, bks⟩ := b
 have hka := ha.kid
 have hkb := hb.kid
 have hca := P3 _ G _ ha.small hra
 have hcb := P3 _ G _ hb.small hrb
 have hcc : ak ≠ 1 → bk ≠ 1 → aks.length = bks.length ∧ ∀ i, (h : i < aks.length) → (h' : i < bks.length) → K2 aks[i] bks[i] = true := by
  intro h1 h2
  rw [S2, decide_eq_false h1, decide_eq_false h2] at hc
  simp only [Bool.false_or, Bool.and_eq_true, decide_eq_true_eq] at hc
  exact (A1Q _ _).1 hc.2
 rw [A02]
 obtain ⟨pa, cca, ea, rfl, hak, hsla, hkla⟩ := hra.open
 obtain ⟨pb, ccb, eb, rfl, hbk, hslb, hklb⟩ := hrb.open
 simp only [Ty.k, Ty.ks] at hak hsla hkla hbk hslb hklb ⊢
 have hna := hsla.le
 have hnb := hslb.le
 have hl2 := ha.two
 refine B7 Tryz.func178 rfl Tryz.ntmps178 Tryz.results178 rfl ?_
 intro w0
 refine tS (tR ?_)
 refine sE (C2 rfl rfl) rfl (fun b3 => ?_)
 refine sE (C2 rfl rfl) rfl (fun b4 => ?_)
 refine sE (A7 rfl) rfl (fun b5 => ?_)
 refine C4 ?_
 refine sB (qE rfl rfl) rfl rfl (fun h13 => ?_) (fun h13 => ?_)
 refine sD (nS (qT rfl (tS (tR (sL (A5 rfl rfl) rfl rfl ?_)))))
 (refine E4 rfl (by first | exact hcb | exact hca) rfl rfl (fun v G1 hle1 hh => ?_); obtain ⟨cs1, F1, rfl, hs1, hn1⟩ := hh; obtain ⟨p1, c1, rfl, _⟩ := hs1.open; have hr1 := hs1.R.mono (C5.le G1 G))
 refine F9 ?_
 refine sD (nS (tT (rS ?_)))
 refine E5 (rC rfl (A5 rfl rfl)) ?_
 (rw [if_pos (by omega)]; exact ⟨rfl, _, rfl, hr1⟩)
 refine I5 ?_
 refine sB (qE rfl rfl) rfl rfl (fun h38 => ?_) (fun h38 => ?_)
 refine sD (nS (qT rfl (tS (tR (sL (A5 rfl rfl) rfl rfl ?_)))))
 (refine E4 rfl (by first | exact hcb | exact hca) rfl rfl (fun v G1 hle1 hh => ?_); obtain ⟨cs1, F1, rfl, hs1, hn1⟩ := hh; obtain ⟨p1, c1, rfl, _⟩ := hs1.open; have hr1 := hs1.R.mono (C5.le G1 G))
 refine F9 ?_
 refine sD (nS (tT (rS ?_)))
 refine E5 (rC rfl (A5 rfl rfl)) ?_
 (rw [if_neg (by omega), if_pos (by omega)]; exact ⟨rfl, _, rfl, hr1⟩)
 refine I5 ?_
 refine sE (A7 rfl) rfl (fun b63 => ?_)
 refine F9 ?_
 refine sD (nS (tS (tS (tR (sQ (qA rfl) rfl (sD (nS ?_)))))))
 refine B8 ?_
 (obtain ⟨hlab, hcab⟩ := hcc (by omega) (by omega); refine U5 25 2 ?_; refine J8 (fun (x : Nat × Option Addr × Nat × List Ty × List (List Value) × IM) => ⟨[(6, .int .i64 x.1), (5, .pointer (some ⟨b63, 0, none⟩)), (4, .pointer (some ⟨b5, 0, none⟩)), (2, .pointer (some ⟨b3, 0, none⟩)), (3, .pointer (some ⟨b4, 0, none⟩))], [.blk b63 [.int .i64 ak, .slice x.2.1 x.1 x.2.2.1], .slc x.2.1 x.2.2.1 25 2 x.1 x.2.2.2.2.1.flatten, .blk b5 [.int .i64 0, .slice none 0 0], .blk b4 [.int .i64 bk, .slice pb bks.length ccb], .blk b3 [.int .i64 ak, .slice pa aks.length cca]], x.2.2.2.2.2⟩) (fun x => x.1 ≤ aks.length ∧ B9 G x.2.2.2.2.2 ∧ x.2.2.2.1.length = x.1 ∧ C9 x.2.2.2.2.2 x.2.2.2.1 x.2.2.2.2.1 ∧ x.2.2.2.1 = (S4 aks bks).take x.1) (fun x => aks.length - x.1) (0, none, 0, [], [], G) ?_ ?_ ?_)
 (simp only [J5]; exact D8)
 (exact ⟨by simp, B9.refl _, rfl, by simp [C9], rfl⟩)
 (rintro ⟨i, pn, cn, us, es', Gi⟩ ⟨hi, hle, hlu, hst, hus⟩; simp only [] at hi hle hlu hst hus ⊢; replace hsla := hsla.mono hle; replace hkla := hkla.mono hle; replace hslb := hslb.mono hle; replace hklb := hklb.mono hle)
 refine C4 ?_
 refine sB (J4 rfl rfl) rfl rfl (fun h85 => ?_) (fun h85 => ?_)
 refine sD (nS (qT rfl (tK (nS (tS ?_)))))
 refine B8 ?_
 (obtain ⟨b, o, q0, d0, hp0, hat0, hre0, hg0⟩ := hsla.kidTy hkla (i := i) (by omega) (by omega); obtain ⟨b', o', q1, d1, hp1, hat1, hre1, hg1⟩ := hslb.kidTy hklb (i := i) (by omega) (by omega); subst hp0; subst hp1; have hih := ih aks[i] (List.getElem_mem (by omega)) bks[i] Gi _ _ (hcab i (by omega) (by omega)) (hka _ (List.getElem_mem (by omega))) (hkb _ (List.getElem_mem (by omega))) hre0 hre1; refine D4 D5 rfl ?_)
 refine I3 (i := 0) (l' := [tt,ff,ff,ff,ff,ff,ff,ff,ff,ff,ff,ff,ff,ff,ff,ff,ff]) rfl C8 (B0 rfl) rfl (by kernel_rfl) rfl rfl ?_
 refine aL 1 rfl (B5 rfl rfl) rfl ?_
 refine aP 2 rfl (B0 rfl) rfl ?_
 refine aL 3 rfl (B5 rfl rfl) rfl ?_
 refine aP 4 rfl (qM rfl) rfl ?_
 refine aP 5 rfl (B3 rfl rfl rfl (by omega)) rfl ?_
 refine aL 6 rfl (A3 rfl rfl (hat0 _) rfl) rfl ?_
 refine aP 7 rfl (B0 rfl) rfl ?_
 refine aL 8 rfl (B5 rfl rfl) rfl ?_
 refine aP 9 rfl (qM rfl) rfl ?_
 refine aP 10 rfl (B3 rfl rfl rfl (by omega)) rfl ?_
 refine aL 11 rfl (A3 rfl rfl (hat1 _) rfl) rfl ?_
 refine A4 12 ?_
 (refine H1 rfl rfl hih rfl rfl rfl (fun v G1 hle1 hh => ?_); obtain ⟨cells', rfl, hru⟩ := hh; generalize hu : U1 aks[i] bks[i] = u at hru; obtain ⟨p3, c3, es3, rfl, _⟩ := hru.open)
 refine A4 13 ?_
 (refine E0 rfl (C7 rfl rfl rfl (by omega) (by unfold maxLen; omega) rfl) rfl rfl ?_; rintro _ ⟨b109, rfl⟩)
 refine A4 14 ?_
 refine Q4 rfl rfl rfl rfl rfl rfl (fun _ _ => by repeat (first | exact Sw.here | apply Sw.there)) (N9 (by repeat first | exact mH | apply mT)) rfl (by simp [Value.oneCell']) (by unfold maxLen; omega) (by omega) rfl rfl (by repeat (first | exact A8.nil | apply A8.dep (by decide +kernel) | apply A8.blk (by decide +kernel) (by repeat (first | exact Pk.here | apply Pk.there)) (by repeat first | exact mH | apply mT))) (fun pn' cn' => ?_)
 refine aP 15 rfl (B0 rfl) rfl ?_
 refine A4 16 ?_
 refine Q9 rfl rfl rfl rfl rfl rfl rfl rfl (by decide +kernel) (by repeat first | exact Sw.here | apply Sw.there) (by rfl) ?_
 refine C1 (N3 (nS (tR (sQ (qM rfl) rfl ?_))))
 refine sP (J2 rfl rfl (by omega) (by omega)) rfl rfl ?_
 refine sQ (qA rfl) rfl (sD ?_)
 refine J9 (i + 1, pn', cn', us ++ [u], es' ++ [[.int .i64 u.k, .slice p3 u.ks.length c3]], G1) ?_ ?_ ?_
 (simp only [J5]; exact D8)
 (dsimp only; exact ⟨by omega, hle.trans hle1, by simp [hlu], C9.snoc (hst.mono hle1) hru, by rw [B4m hlab (by omega), ← hus, hu]⟩)
 (show aks.length - (i + 1) < aks.length - i; omega)
 refine I6 ?_
 (refine H0 (by repeat (first | exact Pk.here | apply Pk.there)) (fun G2 hle2 hsl2 hno2 => ?_); obtain rfl : i = aks.length := (by omega))
 refine tT ?_
 refine E5 (rC rfl (A5 rfl rfl)) ?_
 (rw [List.take_of_length_le (by rw [A4R _ _ hlab]; omega)] at hus; rw [if_neg (by omega), if_neg (by omega), ← hus]; exact ⟨rfl, _, rfl, (hst.mono hle2).ty hlu hsl2 hak⟩)
theorem gD {ts : List Ty} {i : Nat} (h : i < ts.length) : ts.getD i B2 = ts[i] := by rw [List.getD_eq_getElem?_getD, List.getElem?_eq_getElem h, Option.getD_some]
section
variable {cx : Cx} {k : Int} {nm : ByteArray} {ty : Ty} {ts : List Ty}
theorem A9w (h : 1 < ts.length) : W4 cx 6 nm ty ts = match Q5 4 ts[0] with | some (a, b) => if K2 ts[1] a = true then some b else none | none => none := by
 unfold W4 L7
 rw [gD (i := 0) (by omega), gD (i := 1) h]
 simp only [show ¬((6 : Int) = 1) by decide, show ¬((6 : Int) = 2) by decide, show ¬((6 : Int) = 3 ∨ (6 : Int) = 4) by decide, show ¬((6 : Int) = 5) by decide, if_false, if_true]
 cases Q5 4 ts[0] with
 | none => rfl
 | some p =>
  obtain ⟨a, b⟩ := p
  by_cases hc : K2 ts[1] a = true
  ·simp [hc]
  ·simp [hc]
theorem A4S (hk : k = 7 ∨ k = 8) (h : 1 < ts.length) : W4 cx k nm ty ts = if K2 ts[0] R8 = true ∧ K2 ts[1] R8 = true then some (if k = 8 then W2 else R8) else none := by
 unfold W4 L7
 rw [gD (i := 0) (by omega), gD (i := 1) h, if_neg (by omega), if_neg (by omega), if_neg (by omega), if_neg (by omega), if_neg (by omega), if_pos hk]
 by_cases hc : K2 ts[0] R8 = true ∧ K2 ts[1] R8 = true
 ·rw [if_pos hc, if_pos hc]; simp only; rw [if_neg (by omega)]
 ·rw [if_neg hc, if_neg hc]
theorem A9x (h : 2 < ts.length) : W4 cx 9 nm ty ts = if K2 ts[0] W2 = true ∧ K2 ts[1] ts[2] = true then some (U1 ts[1] ts[2]) else none := by
 unfold W4 L7
 rw [gD (i := 0) (by omega), gD (i := 1) (by omega), gD (i := 2) h, if_neg (by omega), if_neg (by omega), if_neg (by omega), if_neg (by omega), if_neg (by omega), if_neg (by omega), if_pos rfl]
 by_cases hc : K2 ts[0] W2 = true ∧ K2 ts[1] ts[2] = true
 ·rw [if_pos hc, if_pos hc]; simp
 ·rw [if_neg hc, if_neg hc]
theorem B4o (h : 1 < ts.length) : W4 cx 10 nm ty ts = if E8 (.mk 5 [ts[0], ts[1]]) = true then some (.mk 5 [ts[0], ts[1]]) else none := by
 unfold W4 L7
 rw [gD (i := 0) (by omega), gD (i := 1) h, if_neg (by omega), if_neg (by omega), if_neg (by omega), if_neg (by omega), if_neg (by omega), if_neg (by omega), if_neg (by omega), if_pos rfl]
 cases hv : E8 (.mk 5 [ts[0], ts[1]]) <;> simp [hv]
theorem B4p (h : 0 < ts.length) : W4 cx 13 nm ty ts = if K2 ts[0] ty = true then some ty else none := by
 unfold W4 L7
 rw [gD (i := 0) h, if_neg (by omega), if_neg (by omega), if_neg (by omega), if_neg (by omega), if_neg (by omega), if_neg (by omega), if_neg (by omega), if_neg (by omega), if_pos rfl]
 by_cases hc : K2 ts[0] ty = true
 ·rw [if_pos hc, if_pos hc]; simp
 ·rw [if_neg hc, if_neg hc]
theorem A4T (hk : k = 11 ∨ k = 12) (h : 0 < ts.length) : W4 cx k nm ty ts = match Q5 5 ts[0] with | some (a, b) => some (if k = 12 then b else a) | none => none := by
 unfold W4 L7
 rw [gD (i := 0) h, if_neg (by omega), if_neg (by omega), if_neg (by omega), if_neg (by omega), if_neg (by omega), if_neg (by omega), if_neg (by omega), if_neg (by omega), if_neg (by omega)]
 cases Q5 5 ts[0] with
 | none => rfl
 | some p =>
  obtain ⟨a, b⟩ := p
  simp only
  rw [if_neg (by omega)]
end
theorem B4q : ∀ (a b : Ty), K2 a b = true → E6 a → E6 b → E6 (U1 a b) := by
 refine Ty.ind fun k ks ih b hc ha hb => ?_
 obtain ⟨k', ks'⟩ := b
 rw [A02]
 split
 ·exact hb
 ·split
  ·exact ha
  ·rw [S2] at hc
   simp only [Bool.or_eq_true, Bool.and_eq_true, decide_eq_true_eq] at hc
   obtain ⟨hk, hl⟩ : k = k' ∧ N6 ks ks' = true := by
    rcases hc with (h | h) | h
    ·contradiction
    ·contradiction
    ·exact h
   obtain ⟨hll, hcc⟩ := (A1Q _ _).1 hl
   have hlen := A4R ks ks' hll
   refine A79 ha hlen fun u hu => ?_
   obtain ⟨i, hi, rfl⟩ := List.mem_iff_getElem.1 hu
   rw [A6s ks ks' i (by omega) (by omega)]
   exact ih _ (List.getElem_mem _) _ (hcc i (by omega) (by omega)) (ha.kid _ (List.getElem_mem _)) (hb.kid _ (List.getElem_mem _))
theorem B4r (cx : Cx) (k : Int) (nm : ByteArray) (num : Int) (ty fr : Ty) (lb : Int) (ks : List Tm) (ts : List Ty) (G : IM) (cells : List Value) (p : Option Addr) (c : Nat) (es : List (List Value))
  (hops : D7 k = ts.length) (hk6 : 6 ≤ k ∧ k ≤ 13) (hty : E6 ty) (hr : A9 G (.mk k nm num ty fr lb ks) cells) (hsl : D3 G p ts.length c 2 es) (hkl : C9 G ts es) (har : ∀ t ∈ ts, E6 t) :
  Fn Tryz.prog 161 [.agg ⟨cells⟩, .slice p ts.length c] [] G (P2 (W4 cx k nm ty ts) G) := by
 have hone := hr.one
 have hop := A2R hops
 have ha0 := fun h : 0 < ts.length => har _ (List.getElem_mem h)
 have ha1 := fun h : 1 < ts.length => har _ (List.getElem_mem h)
 have ha2 := fun h : 2 < ts.length => har _ (List.getElem_mem h)
 obtain ⟨tk, tks⟩ := ty
 obtain ⟨fk, fks⟩ := fr
 obtain ⟨pt, ct, pf, cf, pk, ck, ek, rfl, hk, hnum, hlb, hrty, hrfr, _, _⟩ := hr.open9
 refine B7 Tryz.func161 rfl Tryz.ntmps161 Tryz.results161 rfl ?_
 intro w0
 refine tS (tR ?_)
 refine sE (C2 rfl rfl) rfl (fun b3 => ?_)
 refine sE (A7 rfl) rfl (fun b4 => ?_)
 refine I5 ?_
 refine B8 (tS (tR (sB (qE rfl rfl) rfl rfl (fun h18 => ?_) (fun h18 => ?_))))
 refine C4 ?_
 (have hl2 : ts.length = 2 := hop.1 (by omega); obtain ⟨b0, o0, q0, d0, hp0, hat0, hre0, hg0⟩ := hsl.kidTy hkl (i := 0) (by omega) (by omega); obtain ⟨b1, o1, q1, d1, hp1, hat1, hre1, hg1⟩ := hsl.kidTy hkl (i := 1) (by omega) (by omega); cases hp0; cases hp1; refine sP (B3 (j := 0) rfl rfl rfl (by omega)) rfl rfl ?_)
 refine sL (A3 rfl rfl (hat0 _) rfl) rfl rfl ?_
 focus (refine E4 rfl (A25 4 ts[0] G _ (.inl rfl) (ha0 (by omega)) hre0) rfl rfl (fun v G1 hle1 hh => ?_); obtain ⟨ma, mca, mb, mcb, rfl, hma, hmb, hma2, hmb2, hpp⟩ := hh; obtain ⟨p1, c1, e1, rfl, _⟩ := hma.open; obtain ⟨p2, c2, e2, rfl, _⟩ := hmb.open; replace hsl := hsl.mono hle1; replace hkl := hkl.mono hle1; rcases hm : Q5 4 ts[0] with _ | pr; rotate_left; obtain rfl := hpp _ hm; rotate_left; all_goals simp only [Option.isSome])
 refine H3 ?_
 refine sE (A7 rfl) rfl (fun b33 => ?_)
 refine sE (A7 rfl) rfl (fun b34 => ?_)
 refine F9 ?_
 refine F9 ?_
 refine sQ (qA rfl) rfl (sD (nS (tS ?_)))
 (have hl2 : ts.length = 2 := hop.1 (by omega); obtain ⟨b0, o0, q0, d0, hp0, hat0, hre0, hg0⟩ := hsl.kidTy hkl (i := 0) (by omega) (by omega); obtain ⟨b1, o1, q1, d1, hp1, hat1, hre1, hg1⟩ := hsl.kidTy hkl (i := 1) (by omega) (by omega); cases hp0; cases hp1; refine D4 D5 rfl ?_)
 refine K9 (i := 0) (l' := [tt,ff,ff,ff,ff,ff,ff,ff,ff,ff,ff]) rfl C8 (A5 rfl rfl) rfl (by kernel_rfl) rfl rfl ?_
 refine aP 1 rfl (qM rfl) rfl ?_
 refine aP 2 rfl (qM rfl) rfl ?_
 refine C0 3 rfl rfl rfl ?_
 refine C0 4 rfl rfl rfl ?_
 refine C0 5 rfl rfl rfl ?_
 refine C0 6 rfl rfl rfl ?_
 refine C0 7 rfl rfl rfl ?_
 refine aP 8 rfl (N2 rfl rfl) rfl ?_
 refine A4 9 ?_
 refine H7 rfl ?_
 refine aP 10 rfl (qA rfl) rfl ?_
 refine C1 (nS (tT (rB (rS ?_))))
 refine I1 (rC rfl (A5 rfl rfl)) (rT rfl) ?_
 (obtain rfl : k = 6 := (by omega); exact P2.no (by rw [A9w (by omega), hm]) hmb hmb2)
 refine H3 ?_
 refine sE (A7 rfl) rfl (fun b65 => ?_)
 refine sE (A7 rfl) rfl (fun b66 => ?_)
 refine F9 ?_
 refine F9 ?_
 refine sQ (qA rfl) rfl (sD (nS (tS ?_)))
 (have hl2 : ts.length = 2 := hop.1 (by omega); obtain ⟨b0, o0, q0, d0, hp0, hat0, hre0, hg0⟩ := hsl.kidTy hkl (i := 0) (by omega) (by omega); obtain ⟨b1, o1, q1, d1, hp1, hat1, hre1, hg1⟩ := hsl.kidTy hkl (i := 1) (by omega) (by omega); cases hp0; cases hp1; refine D4 D5 rfl ?_)
 refine K9 (i := 0) (l' := [tt,ff,ff,ff,ff,ff,ff,ff,ff,ff,ff]) rfl C8 (A5 rfl rfl) rfl (by kernel_rfl) rfl rfl ?_
 refine aP 1 rfl (qM rfl) rfl ?_
 refine aP 2 rfl (qM rfl) rfl ?_
 refine aP 3 rfl (qM rfl) rfl ?_
 refine aP 4 rfl (B3 (j := 1) rfl rfl rfl (by omega)) rfl ?_
 refine aL 5 rfl (A3 rfl rfl (hat1 _) rfl) rfl ?_
 refine aL 6 rfl (A5 rfl rfl) rfl ?_
 refine A4 7 ?_
 refine N4 rfl rfl ((A1H ts[1] ma _ _ _ (ha1 (by omega)) hma2 hre1 hma)) rfl rfl rfl ?_
 refine aP 8 rfl (K8 rfl rfl) rfl ?_
 refine A4 9 ?_
 refine H7 rfl ?_
 refine aP 10 rfl (qA rfl) rfl ?_
 refine C1 (nS (tT (rB (rS ?_))))
 refine I1 (rC rfl (A5 rfl rfl)) (rT rfl) ?_
 (obtain rfl : k = 6 := (by omega); exact P2.mk (by rw [A9w (by omega), hm]) hmb hmb2)
 refine sQ (qA rfl) rfl (sD (nS (cF rfl (tS (tR ?_)))))
 refine sB (qE rfl rfl) rfl rfl (fun h100 => ?_) (fun h100 => ?_)
 refine sQ (qA rfl) rfl (sD (nS (qT rfl (tS ?_))))
 (have hl2 : ts.length = 2 := hop.1 (by omega); obtain ⟨b0, o0, q0, d0, hp0, hat0, hre0, hg0⟩ := hsl.kidTy hkl (i := 0) (by omega) (by omega); obtain ⟨b1, o1, q1, d1, hp1, hat1, hre1, hg1⟩ := hsl.kidTy hkl (i := 1) (by omega) (by omega); cases hp0; cases hp1; refine D4 D5 rfl ?_)
 refine I3 (i := 1) (l' := [ff,tt,ff,ff,ff,ff,ff,ff,ff,ff,ff,ff,ff,ff,ff]) rfl C8 (qM rfl) rfl (by kernel_rfl) rfl rfl ?_
 refine aP 2 rfl (B3 (j := 0) rfl rfl rfl (by omega)) rfl ?_
 refine aL 3 rfl (A3 rfl rfl (hat0 _) rfl) rfl ?_
 refine A4 0 ?_
 refine N4 rfl rfl ((A0u _)) rfl rfl rfl ?_
 refine A4 4 ?_
 refine N4 rfl rfl ((A0u _)) rfl rfl rfl ?_
 refine A4 5 ?_
 refine R7 rfl rfl ((A1H ts[0] (.mk 2 []) _ _ _ (ha0 (by omega)) (T4 (by decide) (by decide)) hre0 (M2 _ ⟨by omega, by omega⟩))) rfl rfl rfl (fun h115 => ?_) (fun h115 => ?_)
 refine aP 6 rfl (qM rfl) rfl ?_
 refine aP 7 rfl (qM rfl) rfl ?_
 refine aP 8 rfl (B3 (j := 1) rfl rfl rfl (by omega)) rfl ?_
 refine aL 9 rfl (A3 rfl rfl (hat1 _) rfl) rfl ?_
 refine A4 10 ?_
 refine N4 rfl rfl ((A0u _)) rfl rfl rfl ?_
 refine A4 11 ?_
 refine N4 rfl rfl ((A1H ts[1] (.mk 2 []) _ _ _ (ha1 (by omega)) (T4 (by decide) (by decide)) hre1 (M2 _ ⟨by omega, by omega⟩))) rfl rfl rfl ?_
 refine aP 12 rfl (K8 rfl rfl) rfl ?_
 refine A4 13 ?_
 refine H7 rfl ?_
 refine aP 14 rfl (qA rfl) rfl ?_
 refine C1 (nS (tT (rB (rS ?_))))
 refine I1 (rC rfl (A5 rfl rfl)) (rT rfl) ?_
 (have hk7 : k = 7 := (by omega); exact P2.mk (by rw [A4S (.inl hk7) (by omega)]; simp_all [R8]) (M2 _ ⟨by omega, by omega⟩) (T4 (by omega) (by omega)))
 refine aP 6 rfl (qM rfl) rfl ?_
 refine C0 7 rfl rfl rfl ?_
 refine C0 8 rfl rfl rfl ?_
 refine C0 9 rfl rfl rfl ?_
 refine C0 10 rfl rfl rfl ?_
 refine C0 11 rfl rfl rfl ?_
 refine aP 12 rfl (N2 rfl rfl) rfl ?_
 refine A4 13 ?_
 refine H7 rfl ?_
 refine aP 14 rfl (qA rfl) rfl ?_
 refine C1 (nS (tT (rB (rS ?_))))
 refine I1 (rC rfl (A5 rfl rfl)) (rT rfl) ?_
 (have hk7 : k = 7 := (by omega); exact P2.mk (by rw [A4S (.inl hk7) (by omega)]; simp_all [R8]) (M2 _ ⟨by omega, by omega⟩) (T4 (by omega) (by omega)))
 refine sQ (qA rfl) rfl (sD (nS (cF rfl (tS (tR ?_)))))
 refine sB (qE rfl rfl) rfl rfl (fun h158 => ?_) (fun h158 => ?_)
 refine sQ (qA rfl) rfl (sD (nS (qT rfl (tS ?_))))
 (have hl2 : ts.length = 2 := hop.1 (by omega); obtain ⟨b0, o0, q0, d0, hp0, hat0, hre0, hg0⟩ := hsl.kidTy hkl (i := 0) (by omega) (by omega); obtain ⟨b1, o1, q1, d1, hp1, hat1, hre1, hg1⟩ := hsl.kidTy hkl (i := 1) (by omega) (by omega); cases hp0; cases hp1; refine D4 D5 rfl ?_)
 refine I3 (i := 1) (l' := [ff,tt,ff,ff,ff,ff,ff,ff,ff,ff,ff,ff,ff,ff,ff]) rfl C8 (qM rfl) rfl (by kernel_rfl) rfl rfl ?_
 refine aP 2 rfl (B3 (j := 0) rfl rfl rfl (by omega)) rfl ?_
 refine aL 3 rfl (A3 rfl rfl (hat0 _) rfl) rfl ?_
 refine A4 0 ?_
 refine N4 rfl rfl ((A2P _)) rfl rfl rfl ?_
 refine A4 4 ?_
 refine N4 rfl rfl ((A0u _)) rfl rfl rfl ?_
 refine A4 5 ?_
 refine R7 rfl rfl ((A1H ts[0] (.mk 2 []) _ _ _ (ha0 (by omega)) (T4 (by decide) (by decide)) hre0 (M2 _ ⟨by omega, by omega⟩))) rfl rfl rfl (fun h173 => ?_) (fun h173 => ?_)
 refine aP 6 rfl (qM rfl) rfl ?_
 refine aP 7 rfl (qM rfl) rfl ?_
 refine aP 8 rfl (B3 (j := 1) rfl rfl rfl (by omega)) rfl ?_
 refine aL 9 rfl (A3 rfl rfl (hat1 _) rfl) rfl ?_
 refine A4 10 ?_
 refine N4 rfl rfl ((A0u _)) rfl rfl rfl ?_
 refine A4 11 ?_
 refine N4 rfl rfl ((A1H ts[1] (.mk 2 []) _ _ _ (ha1 (by omega)) (T4 (by decide) (by decide)) hre1 (M2 _ ⟨by omega, by omega⟩))) rfl rfl rfl ?_
 refine aP 12 rfl (K8 rfl rfl) rfl ?_
 refine A4 13 ?_
 refine H7 rfl ?_
 refine aP 14 rfl (qA rfl) rfl ?_
 refine C1 (nS (tT (rB (rS ?_))))
 refine I1 (rC rfl (A5 rfl rfl)) (rT rfl) ?_
 (have hk8 : k = 8 := (by omega); exact P2.mk (by rw [A4S (.inr hk8) (by omega)]; simp_all [R8, W2]) (M2 _ ⟨by omega, by omega⟩) (T4 (by omega) (by omega)))
 refine aP 6 rfl (qM rfl) rfl ?_
 refine C0 7 rfl rfl rfl ?_
 refine C0 8 rfl rfl rfl ?_
 refine C0 9 rfl rfl rfl ?_
 refine C0 10 rfl rfl rfl ?_
 refine C0 11 rfl rfl rfl ?_
 refine aP 12 rfl (N2 rfl rfl) rfl ?_
 refine A4 13 ?_
 refine H7 rfl ?_
 refine aP 14 rfl (qA rfl) rfl ?_
 refine C1 (nS (tT (rB (rS ?_))))
 refine I1 (rC rfl (A5 rfl rfl)) (rT rfl) ?_
 (have hk8 : k = 8 := (by omega); exact P2.mk (by rw [A4S (.inr hk8) (by omega)]; simp_all [R8, W2]) (M2 _ ⟨by omega, by omega⟩) (T4 (by omega) (by omega)))
 refine sQ (qA rfl) rfl (sD (nS (cF rfl (tS (tR ?_)))))
 refine sB (qE rfl rfl) rfl rfl (fun h216 => ?_) (fun h216 => ?_)
 refine sQ (qA rfl) rfl (sD (nS (qT rfl (tS (tS ?_)))))
 (have hl3 : ts.length = 3 := hop.2.1 (by omega); obtain ⟨b0, o0, q0, d0, hp0, hat0, hre0, hg0⟩ := hsl.kidTy hkl (i := 0) (by omega) (by omega); obtain ⟨b1, o1, q1, d1, hp1, hat1, hre1, hg1⟩ := hsl.kidTy hkl (i := 1) (by omega) (by omega); obtain ⟨b2, o2, q2, d2, hp2, hat2, hre2, hg2⟩ := hsl.kidTy hkl (i := 2) (by omega) (by omega); cases hp0; cases hp1; cases hp2; refine D4 D5 rfl ?_)
 refine I3 (i := 0) (l' := [tt,ff,ff,ff,ff,ff,ff,ff]) rfl C8 (qM rfl) rfl (by kernel_rfl) rfl rfl ?_
 refine aP 1 rfl (B3 (j := 1) rfl rfl rfl (by omega)) rfl ?_
 refine aL 2 rfl (A3 rfl rfl (hat1 _) rfl) rfl ?_
 refine aP 3 rfl (qM rfl) rfl ?_
 refine aP 4 rfl (B3 (j := 2) rfl rfl rfl (by omega)) rfl ?_
 refine aL 5 rfl (A3 rfl rfl (hat2 _) rfl) rfl ?_
 refine A4 6 ?_
 refine R7 rfl rfl ((A1H ts[1] ts[2] _ _ _ (ha1 (by omega)) (ha2 (by omega)) hre1 hre2)) rfl rfl rfl (fun h231 => ?_) (fun h231 => ?_)
 refine aP 7 rfl (V8 rfl) rfl ?_
 refine C1 (nS (cF rfl (tK (nS (tS ?_)))))
 (have hl3 : ts.length = 3 := hop.2.1 (by omega); obtain ⟨b0, o0, q0, d0, hp0, hat0, hre0, hg0⟩ := hsl.kidTy hkl (i := 0) (by omega) (by omega); obtain ⟨b1, o1, q1, d1, hp1, hat1, hre1, hg1⟩ := hsl.kidTy hkl (i := 1) (by omega) (by omega); obtain ⟨b2, o2, q2, d2, hp2, hat2, hre2, hg2⟩ := hsl.kidTy hkl (i := 2) (by omega) (by omega); cases hp0; cases hp1; cases hp2; refine D4 D5 rfl ?_)
 refine I3 (i := 0) (l' := [tt,ff,ff,ff,ff,ff,ff,ff,ff,ff,ff,ff,ff,ff]) rfl C8 (qM rfl) rfl (by kernel_rfl) rfl rfl ?_
 refine aP 1 rfl (B3 (j := 1) rfl rfl rfl (by omega)) rfl ?_
 refine aL 2 rfl (A3 rfl rfl (hat1 _) rfl) rfl ?_
 refine aP 3 rfl (qM rfl) rfl ?_
 refine aP 4 rfl (B3 (j := 2) rfl rfl rfl (by omega)) rfl ?_
 refine aL 5 rfl (A3 rfl rfl (hat2 _) rfl) rfl ?_
 refine aP 7 rfl (qM rfl) rfl ?_
 refine aP 8 rfl (B3 (j := 0) rfl rfl rfl (by omega)) rfl ?_
 refine aL 9 rfl (A3 rfl rfl (hat0 _) rfl) rfl ?_
 refine A4 6 ?_
 (refine H1 rfl rfl (B4n ts[1] ts[2] G _ _ (by assumption) (ha1 (by omega)) (ha2 (by omega)) hre1 hre2) rfl rfl rfl (fun v G1 hle1 hh => ?_); obtain ⟨mc, rfl, hmr⟩ := hh; obtain ⟨mt, hmt⟩ : ∃ mt, U1 ts[1] ts[2] = mt := ⟨_, rfl⟩; rw [hmt] at hmr; have hma : E6 mt := (hmt ▸ B4q ts[1] ts[2] (by assumption) (ha1 (by omega)) (ha2 (by omega))); obtain ⟨p1, c1, e1, rfl, _⟩ := hmr.open; have hre0q := hre0.mono hle1)
 refine A4 10 ?_
 refine N4 rfl rfl ((A2P _)) rfl rfl rfl ?_
 refine A4 11 ?_
 refine N4 rfl rfl ((A1H ts[0] (.mk 3 []) _ _ _ (ha0 (by omega)) (T4 (by decide) (by decide)) hre0q (M2 _ ⟨by omega, by omega⟩))) rfl rfl rfl ?_
 refine A4 12 ?_
 refine H7 rfl ?_
 refine aP 13 rfl (qA rfl) rfl ?_
 refine C1 (nS (tT (rB (rS ?_))))
 refine I1 (rC rfl (A5 rfl rfl)) (rT rfl) ?_
 (obtain rfl : k = 9 := (by omega); exact P2.mk (by rw [A9x (by omega), hmt]; simp_all [W2]) hmr hma)
 refine aP 7 rfl (Z7 rfl) rfl ?_
 refine I6 ?_
 refine I1 (rC rfl (A5 rfl rfl)) (rT rfl) ?_
 (obtain rfl : k = 9 := (by omega); exact P2.no (by rw [A9x (by omega)]; simp_all) (M2 _ ⟨by omega, by omega⟩) (T4 (by omega) (by omega)))
 refine sQ (qA rfl) rfl (sD (nS (cF rfl (tS (tR ?_)))))
 refine sB (qE rfl rfl) rfl rfl (fun h288 => ?_) (fun h288 => ?_)
 refine sQ (qA rfl) rfl (sD (nS (qT rfl (tS ?_))))
 (have hl2 : ts.length = 2 := hop.1 (by omega); obtain ⟨b0, o0, q0, d0, hp0, hat0, hre0, hg0⟩ := hsl.kidTy hkl (i := 0) (by omega) (by omega); obtain ⟨b1, o1, q1, d1, hp1, hat1, hre1, hg1⟩ := hsl.kidTy hkl (i := 1) (by omega) (by omega); cases hp0; cases hp1; refine D4 D5 rfl ?_)
 refine I3 (i := 0) (l' := [tt,ff,ff,ff,ff,ff,ff,ff,ff,ff,ff]) rfl C8 (qM rfl) rfl (by kernel_rfl) rfl rfl ?_
 refine aP 1 rfl (B3 (j := 0) rfl rfl rfl (by omega)) rfl ?_
 refine aL 2 rfl (A3 rfl rfl (hat0 _) rfl) rfl ?_
 refine aP 3 rfl (qM rfl) rfl ?_
 refine aP 4 rfl (B3 (j := 1) rfl rfl rfl (by omega)) rfl ?_
 refine aL 5 rfl (A3 rfl rfl (hat1 _) rfl) rfl ?_
 refine A4 6 ?_
 (refine H1 rfl rfl (A2D 5 ts[0] ts[1] G _ _ (.inr rfl) (ha0 (by omega)) (ha1 (by omega)) hre0 hre1) rfl rfl rfl (fun v G1 hle1 hh => ?_); obtain ⟨mc, rfl, hmr⟩ := hh; have hma := A4o (.inr rfl) (ha0 (by omega)) (ha1 (by omega)); obtain ⟨p1, c1, e1, rfl, _⟩ := hmr.open)
 refine aP 7 rfl (pX rfl rfl) rfl ?_
 refine aP 8 rfl (pX rfl rfl) rfl ?_
 refine A4 9 ?_
 refine H7 rfl ?_
 refine aP 10 rfl (qA rfl) rfl ?_
 refine C1 (nS (tT (rB (rS ?_))))
 refine I1 (rC rfl (A5 rfl rfl)) (rT rfl) ?_
 (obtain rfl : k = 10 := (by omega); exact P2.mk (by rw [B4o (by omega)]) hmr hma)
 refine sQ (qA rfl) rfl (sD (nS (cF rfl (tS (tR ?_)))))
 refine sB (qE rfl rfl) rfl rfl (fun h321 => ?_) (fun h321 => ?_)
 refine C4 ?_
 (have hl1 : ts.length = 1 := hop.2.2 (by omega); obtain ⟨b0, o0, q0, d0, hp0, hat0, hre0, hg0⟩ := hsl.kidTy hkl (i := 0) (by omega) (by omega); cases hp0; refine sP (B3 (j := 0) rfl rfl rfl (by omega)) rfl rfl ?_)
 refine sL (A3 rfl rfl (hat0 _) rfl) rfl rfl ?_
 focus (refine E4 rfl (A25 5 ts[0] G _ (.inr rfl) (ha0 (by omega)) hre0) rfl rfl (fun v G1 hle1 hh => ?_); obtain ⟨ma, mca, mb, mcb, rfl, hma, hmb, hma2, hmb2, hpp⟩ := hh; obtain ⟨p1, c1, e1, rfl, _⟩ := hma.open; obtain ⟨p2, c2, e2, rfl, _⟩ := hmb.open; rcases hm : Q5 5 ts[0] with _ | pr; rotate_left; obtain rfl := hpp _ hm; rotate_left; all_goals simp only [Option.isSome])
 refine H3 ?_
 refine sE (A7 rfl) rfl (fun b336 => ?_)
 refine sE (A7 rfl) rfl (fun b337 => ?_)
 refine K0 ?_
 refine I1 (rC rfl (A5 rfl rfl)) (rT rfl) ?_
 (have hk11 : k = 11 := (by omega); exact P2.no (by rw [A4T (.inl hk11) (by omega), hm]) hma hma2)
 refine H3 ?_
 refine sE (A7 rfl) rfl (fun b360 => ?_)
 refine sE (A7 rfl) rfl (fun b361 => ?_)
 refine K0 ?_
 refine I1 (rC rfl (A5 rfl rfl)) (rT rfl) ?_
 (have hk11 : k = 11 := (by omega); exact P2.yes (by rw [A4T (.inl hk11) (by omega), hm]; simp only; rw [if_neg (by omega)]) hma hma2)
 refine sQ (qA rfl) rfl (sD (nS (cF rfl (tS (tR ?_)))))
 refine sB (qE rfl rfl) rfl rfl (fun h386 => ?_) (fun h386 => ?_)
 refine C4 ?_
 (have hl1 : ts.length = 1 := hop.2.2 (by omega); obtain ⟨b0, o0, q0, d0, hp0, hat0, hre0, hg0⟩ := hsl.kidTy hkl (i := 0) (by omega) (by omega); cases hp0; refine sP (B3 (j := 0) rfl rfl rfl (by omega)) rfl rfl ?_)
 refine sL (A3 rfl rfl (hat0 _) rfl) rfl rfl ?_
 focus (refine E4 rfl (A25 5 ts[0] G _ (.inr rfl) (ha0 (by omega)) hre0) rfl rfl (fun v G1 hle1 hh => ?_); obtain ⟨ma, mca, mb, mcb, rfl, hma, hmb, hma2, hmb2, hpp⟩ := hh; obtain ⟨p1, c1, e1, rfl, _⟩ := hma.open; obtain ⟨p2, c2, e2, rfl, _⟩ := hmb.open; rcases hm : Q5 5 ts[0] with _ | pr; rotate_left; obtain rfl := hpp _ hm; rotate_left; all_goals simp only [Option.isSome])
 refine H3 ?_
 refine sE (A7 rfl) rfl (fun b401 => ?_)
 refine sE (A7 rfl) rfl (fun b402 => ?_)
 refine K0 ?_
 refine I1 (rC rfl (A5 rfl rfl)) (rT rfl) ?_
 (have hk12 : k = 12 := (by omega); exact P2.no (by rw [A4T (.inr hk12) (by omega), hm]) hmb hmb2)
 refine H3 ?_
 refine sE (A7 rfl) rfl (fun b425 => ?_)
 refine sE (A7 rfl) rfl (fun b426 => ?_)
 refine K0 ?_
 refine I1 (rC rfl (A5 rfl rfl)) (rT rfl) ?_
 (have hk12 : k = 12 := (by omega); exact P2.yes (by rw [A4T (.inr hk12) (by omega), hm]; simp only; rw [if_pos (by omega)]) hmb hmb2)
 refine sQ (qA rfl) rfl (sD (nS (cF rfl (tS (tR ?_)))))
 refine sP (Y9 rfl rfl (by omega)) rfl rfl ?_
 refine sQ (qA rfl) rfl (sD (nS (qT rfl (tS ?_))))
 (have hl1 : ts.length = 1 := hop.2.2 (by omega); obtain ⟨b0, o0, q0, d0, hp0, hat0, hre0, hg0⟩ := hsl.kidTy hkl (i := 0) (by omega) (by omega); cases hp0; refine D4 D5 rfl ?_)
 refine I3 (i := 0) (l' := [tt,ff,ff,ff,ff,ff,ff,ff,ff,ff,ff]) rfl C8 (B0 rfl) rfl (by kernel_rfl) rfl rfl ?_
 refine aL 1 rfl (A5 rfl rfl) rfl ?_
 refine aP 3 rfl (qM rfl) rfl ?_
 refine aP 4 rfl (B3 (j := 0) rfl rfl rfl (by omega)) rfl ?_
 refine aL 5 rfl (A3 rfl rfl (hat0 _) rfl) rfl ?_
 refine aP 6 rfl (B0 rfl) rfl ?_
 refine aL 7 rfl (A5 rfl rfl) rfl ?_
 refine A4 2 ?_
 (refine H1 rfl rfl (P3 (.mk tk tks) G _ hty.small hrty) rfl rfl rfl (fun v G1 hle1 hh => ?_); obtain ⟨cs1, F1, rfl, hs1, hn1⟩ := hh; obtain ⟨p1, c1, rfl, _⟩ := hs1.open; have hmr := hs1.R.mono (C5.le G1 G); have hre0q := hre0.mono hle1; have hrtyq := hrty.mono hle1)
 refine A4 8 ?_
 refine N4 rfl rfl ((A1H ts[0] (.mk tk tks) _ _ _ (ha0 (by omega)) hty hre0q hrtyq)) rfl rfl rfl ?_
 refine A4 9 ?_
 refine H7 rfl ?_
 refine aP 10 rfl (qA rfl) rfl ?_
 refine C1 (nS (tT (rB (rS ?_))))
 refine I1 (rC rfl (A5 rfl rfl)) (rT rfl) ?_
 (obtain rfl : k = 13 := (by omega); exact P2.mk (by rw [B4p (by omega)]) hmr hty)
end Gw
end Go.Proofs.YthpdjmbpbdbodaaGreatDoor
