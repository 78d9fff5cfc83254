/-
  The reference model's TermValid. slices.Clone of numbers, paths, AllPaths. AllPaths. append of a slice in memory that no longer changes, empty or not. The reference model's paths. The reference model's AllPaths. The law that AllPaths gives what the reference model gives: its walk. Nodes at paths, casts by their labels. The node of a term at a path. Where ways meet again. The reference model's drawn types: what they are made of, and how big they are. The reference model's drawn types, changed at random. The reference model's drawn types, changed at random. Terms without casts and types, in plain words. Strings: cut, put together, compared. The reference model's drawn terms: what they are made of, and how big they are. The reference model's drawn terms. The reference model's source is opened; drawn closed terms and valid terms. The reference model's functions on types: they end, and what they give has operands as it must. The laws' reading of marks in types and terms. Contexts of bindings: looked up, made longer. The reference model's typing: it ends, and what it gives is a type whose nodes have their operands, not wider than the term is big.
-/
import Derived.Test.YtebfignffjhnhaaGreatDoorKk2
import Derived.Test.YtebfignffjhnhaaGreatDoorKk1
import Derived.Test.YtebfignffjhnhaaGreatDoorKk0
set_option linter.unusedVariables false
set_option linter.unusedSimpArgs false
set_option maxHeartbeats 0
set_option maxRecDepth 100000
set_option synthInstance.maxSize 4000
set_option synthInstance.maxHeartbeats 0
namespace Go.Proofs.YtebfignffjhnhaaGreatDoor
open Go Go.RowKit
namespace Gw
theorem A1p (t : Tm) : T5 t = true ↔ N5 12 14 t 1 = true ∧ D1 t ≤ 30 := by
 have := A6P 30 12 14 t 1 0 (by omega)
 rw [T5, this]
 constructor
 ·rintro ⟨a, b⟩; exact ⟨a, by omega⟩
 ·rintro ⟨a, b⟩; exact ⟨a, by omega⟩
theorem B4t : ∀ (t : Tm) (d : Int) (G : IM) (cells : List Value), 0 ≤ d ∧ d ≤ 12 → B1 G t cells →
  Fn Tryz.prog 185 [.agg ⟨cells⟩, .int .i64 d] [] G (J0 (.bool (N5 12 14 t (13 - d))) G) := by
 refine Tm.ind fun k nm num ty fr lb ks ih d G cells hd hr => ?_
 have hr0 := hr
 have hne := fun h : k ≠ 14 => @A9r k nm num ty fr lb ks.length h
 have har := fun h : W6 k nm num ty fr lb ks.length = true => (V8.1 h).1
 obtain ⟨R, hR⟩ : ∃ R, W6 k nm num ty fr lb ks.length = R := ⟨_, rfl⟩
 rw [hR] at hne har
 have hl2 := A9p k nm num ty fr lb ks G cells hr0 R
 have hk1 := A5l k G
 obtain ⟨tk, tks⟩ := ty
 obtain ⟨fk, fks⟩ := fr
 obtain ⟨pt, ct, pf, cf, p, c, es, rfl, hk, hnum, hlb, hty, hfr, hsl, hkl⟩ := hr.open9
 have hn := hsl.le
 clear hr hr0
 refine C6 Tryz.func185 rfl Tryz.ntmps185 Tryz.results185 rfl ?_
 intro w0
 refine A4 ?_
 refine sE (C9 rfl rfl) rfl (fun b3 => ?_)
 refine B0 ?_
 refine D7 D8 rfl ?_
 refine I6 (i := 0) (l' := [tt,ff,ff,ff,ff,ff,ff,ff,ff,ff,ff,ff,ff,ff,ff,ff,ff,ff,ff,ff,ff]) rfl D2 (qM rfl) rfl (by kernel_rfl) rfl rfl ?_
 refine A0q (i := 1) (l' := [tt,tt,ff,ff,ff,ff,ff,ff,ff,ff,ff,ff,ff,ff,ff,ff,ff,ff,ff,ff,ff]) rfl D2 (J4 rfl rfl) rfl (by kernel_rfl) rfl rfl (fun h11 => ?_) (fun h11 => ?_)
 refine aP 2 rfl (qM rfl) rfl ?_
 refine C1 3 rfl rfl rfl ?_
 refine C1 4 rfl rfl rfl ?_
 refine C1 6 rfl rfl rfl ?_
 refine C1 7 rfl rfl rfl ?_
 refine C1 8 rfl rfl rfl ?_
 refine C1 5 rfl rfl rfl ?_
 refine C1 9 rfl rfl rfl ?_
 refine aP 10 rfl (N1 rfl rfl) rfl ?_
 refine aP 11 rfl (qM rfl) rfl ?_
 refine C1 12 rfl rfl rfl ?_
 refine C1 13 rfl rfl rfl ?_
 refine C1 14 rfl rfl rfl ?_
 refine aP 15 rfl (N1 rfl rfl) rfl ?_
 refine aP 16 rfl (qM rfl) rfl ?_
 refine C1 17 rfl rfl rfl ?_
 refine C1 18 rfl rfl rfl ?_
 refine C1 19 rfl rfl rfl ?_
 refine aP 20 rfl (N1 rfl rfl) rfl ?_
 refine J8 ?_
 exact A15
 refine aP 2 rfl (qM rfl) rfl ?_
 refine aP 3 rfl (B8 rfl) rfl ?_
 refine aL 4 rfl (C7 rfl rfl) rfl ?_
 refine aP 6 rfl (B8 rfl) rfl ?_
 refine aL 7 rfl (C7 rfl rfl) rfl ?_
 refine aP 8 rfl (pLn rfl rfl) rfl ?_
 refine A2 5 ?_
 refine N6 rfl rfl (hk1) rfl rfl rfl ?_
 refine A0q (i := 9) (l' := [tt,tt,tt,tt,tt,tt,tt,tt,tt,tt,ff,ff,ff,ff,ff,ff,ff,ff,ff,ff,ff]) rfl D2 (N2 rfl rfl) rfl (by kernel_rfl) rfl rfl (fun h51 => ?_) (fun h51 => ?_)
 refine aP 10 rfl (P0 rfl rfl) rfl ?_
 refine aP 11 rfl (qM rfl) rfl ?_
 refine C1 12 rfl rfl rfl ?_
 refine C1 13 rfl rfl rfl ?_
 refine C1 14 rfl rfl rfl ?_
 refine aP 15 rfl (N1 rfl rfl) rfl ?_
 refine aP 16 rfl (qM rfl) rfl ?_
 refine C1 17 rfl rfl rfl ?_
 refine C1 18 rfl rfl rfl ?_
 refine C1 19 rfl rfl rfl ?_
 refine aP 20 rfl (N1 rfl rfl) rfl ?_
 refine J8 ?_
 exact A15
 refine aP 10 rfl (P0 rfl rfl) rfl ?_
 refine aP 11 rfl (qM rfl) rfl ?_
 refine aP 12 rfl (B8 rfl) rfl ?_
 refine aL 13 rfl (C7 rfl rfl) rfl ?_
 refine A0q (i := 14) (l' := [tt,tt,tt,tt,tt,tt,tt,tt,tt,tt,tt,tt,tt,tt,tt,ff,ff,ff,ff,ff,ff]) rfl D2 (qE rfl rfl) rfl (by kernel_rfl) rfl rfl (fun h79 => ?_) (fun h79 => ?_)
 refine aP 15 rfl (P0 rfl rfl) rfl ?_
 refine aP 16 rfl (qM rfl) rfl ?_
 refine C1 17 rfl rfl rfl ?_
 refine C1 18 rfl rfl rfl ?_
 refine C1 19 rfl rfl rfl ?_
 refine aP 20 rfl (N1 rfl rfl) rfl ?_
 refine J8 ?_
 exact A15
 refine aP 15 rfl (P0 rfl rfl) rfl ?_
 refine aP 16 rfl (qM rfl) rfl ?_
 refine aL 17 rfl (A5 rfl rfl) rfl ?_
 refine A2 18 ?_
 refine V2 rfl rfl (hl2 (hne (by omega) (by omega))) rfl rfl rfl (fun h102 => ?_) (fun h102 => ?_)
 refine aP 19 rfl (pNt rfl) rfl ?_
 refine aP 20 rfl (P0 rfl rfl) rfl ?_
 refine J8 ?_
 refine C5 ?_
 (refine K2 (fun (i : Nat) => ⟨[(5, .int .i64 i), (2, .pointer (some ⟨b3, 0, none⟩)), (1, .int .i64 d)], [.blk b3 [.int .i64 k, .string nm, .int .i64 num, .int .i64 tk, .slice pt tks.length ct, .int .i64 fk, .slice pf fks.length cf, .int .i64 lb, .slice p ks.length c]], G⟩) (fun i => i ≤ ks.length ∧ ∀ j (h : j < ks.length), j < i → N5 12 14 ks[j] (13 - d + 1) = true) (fun i => ks.length - i) 0 ?_ ?_ ?_)
 exact D6
 exact ⟨by omega, by omega⟩
 (rintro i ⟨hi, hf⟩)
 refine B7 ?_
 refine sB (J4 rfl rfl) rfl rfl (fun h128 => ?_) (fun h128 => ?_)
 refine A8 ?_
 refine C5 ?_
 refine B0 ?_
 (obtain ⟨b, o, e, rfl, hl, hat, hre, hgb⟩ := hsl.kidTm hkl (i := i) (by omega) (by omega); refine sP (B5 rfl rfl rfl (by omega)) rfl rfl ?_)
 refine sL (A3 rfl rfl (hat _) hl) rfl rfl ?_
 refine F8 ?_
 refine sP (P4 rfl rfl (by omega) (by omega)) rfl rfl ?_
 (have hih := ih ks[i] (List.getElem_mem (by omega)) (d - 1) G _ (by omega) hre; rw [show 13 - (d - 1) = 13 - d + 1 by omega] at hih; refine H1 rfl hih rfl rfl (fun h145 => ?_) (fun h145 => ?_))
 refine E1 ?_
 refine sP (H9 rfl rfl (by omega) (by omega)) rfl rfl ?_
 refine A4 ?_
 refine I5 (i + 1) ?_ ?_ ?_
 exact D6
 exact A5o
 omega
 refine K0 ?_
 exact A6L
 refine I7 ?_
 (rw [A2Y (by omega) (by omega) (hR.trans (by assumption)), (A1A 12 14 ks _).2 (fun j hj => hf j hj (by omega))]; exact ⟨rfl, rfl, rfl⟩)
 refine aP 19 rfl (pNf rfl) rfl ?_
 refine aP 20 rfl (P0 rfl rfl) rfl ?_
 refine J8 ?_
 exact A15
theorem A5s (t : Tm) (G : IM) (cells : List Value) (hcnt : D1 t ≤ 4294967296) (hr : B1 G t cells) :
  Fn Tryz.prog 135 [.agg ⟨cells⟩] [] G (J0 (.bool (T5 t)) G) := by
 have hl := hr.len
 have hv := B4t t 12 G cells (by omega) hr
 have hc := fun h => A9E 12 14 t 12 G cells (by omega) h hcnt hr
 have hi := A1p t
 obtain ⟨R, hR⟩ : ∃ R, T5 t = R := ⟨_, rfl⟩
 rw [hR] at hi ⊢
 refine C6 Tryz.func135 rfl Tryz.ntmps135 Tryz.results135 rfl ?_
 intro w0
 refine A4 ?_
 refine sE (C9 rfl rfl) rfl (fun b3 => ?_)
 refine B0 ?_
 refine sL (A3 rfl rfl (B6 (by repeat first | exact mH | apply mT)) (by assumption)) rfl rfl ?_
 refine H1 rfl (hv) rfl rfl (fun h10 => ?_) (fun h10 => ?_)
 refine F8 ?_
 refine sL (A3 rfl rfl (B6 (by repeat first | exact mH | apply mT)) (by assumption)) rfl rfl ?_
 refine H6 rfl (hc (by assumption)) rfl rfl ?_
 refine sB (A0r rfl rfl) rfl rfl (fun h14 => ?_) (fun h14 => ?_)
 refine A8 ?_
 exact ⟨rfl, by rw [hi.2 ⟨by assumption, by omega⟩], rfl⟩
 refine A8 ?_
 exact A5r
 refine J2 ?_
 exact A5r
theorem A6S {Q : Prop} (h : Q := by exact ⟨rfl, _, _, by rw [Nat.zero_add], by rw [Nat.zero_add]; rfl⟩) : Q := h
theorem A6T (G : IM) (p : Option Addr) (n c : Nat) (cells : List Value) (h : Sl G p n c 1 cells) (ho : ∀ u ∈ cells, u.oneCell' = true) (hn : n ≤ 4294967296) :
  Fn Tryz.prog 188 [.slice p n c] [] G (fun G' v outs => G' = G ∧ ∃ p' c', v = .slice p' n c' ∧ outs = [.slc p' c' 3 1 n cells]) := by
 have hp := h.nn
 obtain ⟨hl, hc, hm, hat⟩ := h
 refine C6 Tryz.func188 rfl Tryz.ntmps188 Tryz.results188 rfl ?_
 intro w0
 cases p with
 | none =>
  obtain rfl := hp rfl
  obtain rfl : cells = [] := List.length_eq_zero_iff.1 (by omega)
  refine V0 3 1 ?_
  refine E1 ?_
  refine sQ (A8j rfl rfl rfl) rfl ?_
  refine J2 ?_
  refine H7 (rT rfl) A1.refl ?_
  exact ⟨rfl, _, _, rfl, rfl⟩
 | some a =>
  rcases Nat.eq_zero_or_pos n with rfl | hn0
  ·obtain rfl : cells = [] := List.length_eq_zero_iff.1 (by omega)
   refine E1 ?_
   refine sQ (A46 rfl rfl rfl) rfl ?_
   refine B7 ?_
   (refine I3 (D0 rfl rfl rfl (by omega) (by unfold maxLen; omega) rfl) rfl ?_; rintro _ ⟨b18, rfl⟩)
   refine F8 ?_
   refine sP (A8v rfl rfl rfl (Nat.le_refl _)) rfl rfl ?_
   refine B4 ?_
   refine H7 (rT rfl) A1.refl ?_
   exact ⟨rfl, _, _, rfl, rfl⟩
  ·obtain ⟨b, o, full, he, hg, hv⟩ := hat.resolve_left (by omega)
   obtain rfl := Option.some.inj he
   refine E1 ?_
   refine sQ (A46 rfl rfl rfl) rfl ?_
   refine B7 ?_
   (refine I3 (D0 rfl rfl rfl (by omega) (by unfold maxLen; omega) rfl) rfl ?_; rintro _ ⟨b18, rfl⟩)
   refine F8 ?_
   refine A0Z rfl rfl rfl rfl rfl (fun _ _ => by repeat (first | exact Sw.here | apply Sw.there)) (A2K hg hv) (by omega) ho (by unfold maxLen; omega) (by omega) rfl (fun pn cn => ?_)
   refine B4 ?_
   refine H7 (rT rfl) A1.refl ?_
   exact A6S
theorem A4t {Q : Prop} (h : Q := by (dsimp only; exact ⟨by omega, by omega, (hleI.trans hlef).trans hle1, by rw [B3B (by omega)]; exact q1, q2⟩)) : Q := h
theorem B4u : ∀ (t : Tm) (path : List Int) (G : IM) (cells : List Value) (pp : Option Addr) (pc : Nat), B1 G t cells → Sl G pp path.length pc 1 (S5 path) → path.length + D1 t ≤ 4294967296 →
  Fn Tryz.prog 139 [.agg ⟨cells⟩, .slice pp path.length pc] [] G (K8 fun G' v => ∃ p c, v = .slice p (V9 t path).length c ∧ RPs (C2 G' G) (V9 t path) p c) := by
 refine Tm.ind fun k nm num ty fr lb ks ih path G cells pp pc hr hpath hcnt => ?_
 have hone := hr.one
 obtain ⟨tk, tks⟩ := ty
 obtain ⟨fk, fks⟩ := fr
 obtain ⟨pt, ct, pf, cf, p, cp, es, rfl, hk, hnum, hlb, hty, hfr, hsl, hkl⟩ := hr.open9
 rw [D1] at hcnt
 have hn := A4i ks
 refine C6 Tryz.func139 rfl Tryz.ntmps139 Tryz.results139 rfl ?_
 intro w0
 refine A4 ?_
 refine sE (C9 rfl rfl) rfl (fun b3 => ?_)
 refine A8 ?_
 (refine A0Y rfl (A6T _ _ _ _ _ hpath (A2W _) (by omega)) rfl rfl (fun v10 G10 outs10 hle10 h10 => ?_); obtain ⟨hG, p1, c1, rfl, rfl⟩ := h10; replace hG := hG.symm; subst hG)
 replace hpath := hpath.mono hle10
 replace hr := hr.mono hle10
 replace hty := hty.mono hle10
 replace hfr := hfr.mono hle10
 replace hsl := hsl.mono hle10
 replace hkl := hkl.mono hle10
 (refine U6 (cs := S5 path) (by repeat (first | exact Pk.here | apply Pk.there)) (fun G2 hle2 hsl2 hno2 => ?_); obtain ⟨hf1, hf2⟩ := R8.first hsl2 hno2 hsl2.nn hle2; refine I3 (D0 rfl rfl rfl (by omega) (by unfold maxLen; omega) rfl) rfl ?_; rintro _ ⟨b11, rfl⟩)
 refine N4 ?_
 refine C5 ?_
 (refine K2 (fun (x : Nat × Option Addr × Nat × Nat × List Value × List Nat × IM) => ⟨[(14, .int .i64 x.1), (13, .int .i64 ks.length), (12, .slice p ks.length cp), (5, .slice x.2.1 x.2.2.1 x.2.2.2.1), (1, .slice pp path.length pc)], [.slc x.2.1 x.2.2.2.1 29 1 x.2.2.1 x.2.2.2.2.1], x.2.2.2.2.2.2⟩) (fun x => x.1 ≤ ks.length ∧ x.2.2.1 = E8 (ks.take x.1) + 1 ∧ C4 G x.2.2.2.2.2.2 ∧ R8 (C2 x.2.2.2.2.2.2 G) (path :: W0 (ks.take x.1) 0 path) x.2.2.2.2.1 x.2.2.2.2.2.1 ∧ x.2.2.2.2.2.1.Nodup) (fun x => ks.length - x.1) (0, some ⟨b11, 0, none⟩, 1, 1, [.slice p1 path.length c1], I2 p1, G2) ?_ ?_ ?_)
 (simp only [I1]; exact D6)
 exact ⟨Nat.zero_le _, rfl, hle2, hf1, hf2⟩
 (rintro ⟨i, pn, m, cn, es', F, Gi⟩ ⟨hi, hm, hleI, hst, hnd⟩; simp only [] at hi hm hleI hst hnd ⊢; replace hsl := hsl.mono hleI; replace hkl := hkl.mono hleI; replace hpath := hpath.mono hleI)
 refine A4 ?_
 refine sB (J4 rfl rfl) rfl rfl (fun h31 => ?_) (fun h31 => ?_)
 refine B7 ?_
 refine C5 ?_
 refine B9 ?_
 (obtain ⟨b, o, e, rfl, hl, hat, hre, hgb⟩ := hsl.kidTm hkl (i := i) (by omega) (by omega); have hone := hre.one; have htk := A1h (ks := ks) (i := i) (by omega); refine sP (B5 rfl rfl rfl (by omega)) rfl rfl ?_)
 refine sL (A3 rfl rfl (hat _) hl) rfl rfl ?_
 refine sE (A9 rfl) rfl (fun b45 => ?_)
 refine F8 ?_
 refine X5 rfl rfl rfl (by assumption) (by assumption) rfl (by repeat first | exact Sw.here | apply Sw.there) (by exact E0 (by symm; assumption)) ?_
 refine A4 ?_
 refine D7 D8 rfl ?_
 refine I6 (i := 0) (l' := [tt,ff,ff,ff,ff,ff,ff,ff,ff,ff]) rfl D2 (qM rfl) rfl (by kernel_rfl) rfl rfl ?_
 refine aL 1 rfl (A3 rfl rfl (B6 (by repeat first | exact mH | apply mT)) (by assumption)) rfl ?_
 refine aP 2 rfl (qM rfl) rfl ?_
 refine aP 4 rfl (qM rfl) rfl ?_
 refine Q3 (j := 3) (j' := 5) (by kernel_rfl) ?_ ?_
 (refine A3v rfl rfl (A6T _ _ _ _ _ hpath (A2W _) (by omega)) rfl rfl rfl (fun v56 G56 outs56 hle56 h56 => ?_); obtain ⟨hG, p1, c1, rfl, rfl⟩ := h56; replace hG := hG.symm; subst hG)
 replace hkl := hkl.mono hle56
 replace hpath := hpath.mono hle56
 replace hsl := hsl.mono hle56
 replace hre := hre.mono hle56
 refine A2 5 ?_
 (refine E2 rfl (D0 rfl rfl rfl (by omega) (by unfold maxLen; omega) rfl) rfl rfl ?_; rintro _ ⟨b58, rfl⟩)
 refine A2 6 ?_
 (refine P5 rfl rfl rfl rfl rfl rfl (fun _ _ => by repeat (first | exact Sw.here | apply Sw.there)) (M9 (by repeat first | exact mH | apply mT)) rfl (by simp [Value.oneCell']) (by unfold maxLen; omega) (by omega) rfl rfl (by repeat (first | exact A7.nil | apply A7.dep (by decide +kernel) | apply A7.blk (by decide +kernel) (by repeat (first | exact Pk.here | apply Pk.there)) (by repeat first | exact mH | apply mT))) (fun p4 c4 => ?_))
 (refine A1X (cs := S5 path ++ [.int .i64 (i : Int)]) (by repeat (first | exact Pk.here | apply Pk.there)) (fun Gf hle61 hslf hnof => ?_); rw [← A4h] at hslf; replace hre := hre.mono hle61; have hlef := hle61)
 replace hkl := hkl.mono hle61
 replace hpath := hpath.mono hle61
 replace hsl := hsl.mono hle61
 refine A2 7 ?_
 (have hih := ih ks[i] (List.getElem_mem (by omega)) (path ++ [(i : Int)]) Gf e p4 c4 hre; rw [show (path ++ [(i : Int)]).length = path.length + 1 from by simp] at hih; replace hih := hih hslf (by omega); refine H3 rfl rfl hih rfl rfl rfl (fun v G1 hle1 hh => ?_); obtain ⟨p5, c5, rfl, es5, F5, hsl5, hnb5, hsp5, hnd5⟩ := hh; have hm5 := A3x ks[i] (path ++ [(i : Int)]); have hpos := A6w ks[i]; obtain ⟨hl5, hc5, hx5, hat5⟩ := hsl5; obtain ⟨b5, o5, full5, rfl, hg5, hv5⟩ := hat5.resolve_left (by omega))
 refine A2 8 ?_
 (refine P5 rfl rfl rfl rfl rfl rfl (fun _ _ => by repeat (first | exact Sw.here | apply Sw.there)) (A2K (C2.le _ _ _ _ hg5) hv5) hl5 hsp5.one (by unfold maxLen; omega) (by omega) rfl rfl (by repeat (first | exact A7.nil | apply A7.dep (by decide +kernel) | apply A7.blk (by decide +kernel) (by repeat (first | exact Pk.here | apply Pk.there)) (by repeat first | exact mH | apply mT))) (fun p6 c6 => ?_))
 refine aP 9 rfl (qA rfl) rfl ?_
 refine B4 ?_
 refine sP (H9 rfl rfl (by omega) (by omega)) rfl rfl ?_
 refine A4 ?_
 (obtain ⟨q1, q2⟩ := R8.step hst hnd hleI hlef hle1 hsp5 (List.nodup_append.1 hnd5).2.1; have hsu := A0G (ks := ks) (i := i) (by omega); refine I5 (i + 1, p6, m + (V9 ks[i] (path ++ [(i : Int)])).length, c6, es' ++ es5, F ++ F5, G1) ?_ ?_ ?_)
 (simp only [I1]; exact D6)
 exact A4t
 exact V5
 (refine E2 rfl (D0 rfl rfl rfl (by omega) (by unfold maxLen; omega) rfl) rfl rfl ?_; rintro _ ⟨b78, rfl⟩)
 refine A2 3 ?_
 (refine A3v rfl rfl (A6T _ _ _ _ _ hpath (A2W _) (by omega)) rfl rfl rfl (fun v80 G80 outs80 hle80 h80 => ?_); obtain ⟨hG, p1, c1, rfl, rfl⟩ := h80; replace hG := hG.symm; subst hG)
 replace hkl := hkl.mono hle80
 replace hpath := hpath.mono hle80
 replace hsl := hsl.mono hle80
 replace hre := hre.mono hle80
 refine A2 6 ?_
 (refine P5 rfl rfl rfl rfl rfl rfl (fun _ _ => by repeat (first | exact Sw.here | apply Sw.there)) (M9 (by repeat first | exact mH | apply mT)) rfl (by simp [Value.oneCell']) (by unfold maxLen; omega) (by omega) rfl rfl (by repeat (first | exact A7.nil | apply A7.dep (by decide +kernel) | apply A7.blk (by decide +kernel) (by repeat (first | exact Pk.here | apply Pk.there)) (by repeat first | exact mH | apply mT))) (fun p4 c4 => ?_))
 (refine A1X (cs := S5 path ++ [.int .i64 (i : Int)]) (by repeat (first | exact Pk.here | apply Pk.there)) (fun Gf hle83 hslf hnof => ?_); rw [← A4h] at hslf; replace hre := hre.mono hle83; have hlef := hle83)
 replace hkl := hkl.mono hle83
 replace hpath := hpath.mono hle83
 replace hsl := hsl.mono hle83
 refine A2 7 ?_
 (have hih := ih ks[i] (List.getElem_mem (by omega)) (path ++ [(i : Int)]) Gf e p4 c4 hre; rw [show (path ++ [(i : Int)]).length = path.length + 1 from by simp] at hih; replace hih := hih hslf (by omega); refine H3 rfl rfl hih rfl rfl rfl (fun v G1 hle1 hh => ?_); obtain ⟨p5, c5, rfl, es5, F5, hsl5, hnb5, hsp5, hnd5⟩ := hh; have hm5 := A3x ks[i] (path ++ [(i : Int)]); have hpos := A6w ks[i]; obtain ⟨hl5, hc5, hx5, hat5⟩ := hsl5; obtain ⟨b5, o5, full5, rfl, hg5, hv5⟩ := hat5.resolve_left (by omega))
 refine A2 8 ?_
 (refine P5 rfl rfl rfl rfl rfl rfl (fun _ _ => by repeat (first | exact Sw.here | apply Sw.there)) (A2K (C2.le _ _ _ _ hg5) hv5) hl5 hsp5.one (by unfold maxLen; omega) (by omega) rfl rfl (by repeat (first | exact A7.nil | apply A7.dep (by decide +kernel) | apply A7.blk (by decide +kernel) (by repeat (first | exact Pk.here | apply Pk.there)) (by repeat first | exact mH | apply mT))) (fun p6 c6 => ?_))
 refine aP 9 rfl (qA rfl) rfl ?_
 refine B4 ?_
 refine sP (H9 rfl rfl (by omega) (by omega)) rfl rfl ?_
 refine A4 ?_
 (obtain ⟨q1, q2⟩ := R8.step hst hnd hleI hlef hle1 hsp5 (List.nodup_append.1 hnd5).2.1; have hsu := A0G (ks := ks) (i := i) (by omega); refine I5 (i + 1, p6, m + (V9 ks[i] (path ++ [(i : Int)])).length, c6, es' ++ es5, F ++ F5, G1) ?_ ?_ ?_)
 (simp only [I1]; exact D6)
 exact A4t
 exact V5
 refine I7 ?_
 (refine H2 (by repeat (first | exact Pk.here | apply Pk.there)) (fun G3 hle3 hsl3 hno3 => ?_); obtain rfl : i = ks.length := by omega)
 refine A4 ?_
 (rw [List.take_length] at hst hm; have hfin := RPs.fin hst hnd hleI hle3 hsl3 (by rw [List.length_cons, A6u, hm]) hno3; exact ⟨rfl, pn, cn, by rw [A3x, D1, hm], by rw [V9]; exact hfin⟩)
theorem B4v (t : Tm) (G : IM) (cells : List Value) (hr : B1 G t cells) :
  Fn Tryz.prog 100 [.agg ⟨cells⟩] [] G (K8 fun G' v => ∃ p c, v = .slice p (O1 t).length c ∧ RPs (C2 G' G) (O1 t) p c) := by
 have hl := hr.len
 have hv := A5k t G cells hr
 have hcnt := @A4j t
 refine C6 Tryz.func100 rfl Tryz.ntmps100 Tryz.results100 rfl ?_
 intro w0
 refine A4 ?_
 refine sE (C9 rfl rfl) rfl (fun b3 => ?_)
 refine A8 ?_
 refine sL (A3 rfl rfl (B6 (by repeat first | exact mH | apply mT)) (by assumption)) rfl rfl ?_
 refine H1 rfl (hv) rfl rfl (fun h11 => ?_) (fun h11 => ?_)
 refine D4 ?_
 refine sL (A3 rfl rfl (B6 (by repeat first | exact mH | apply mT)) (by assumption)) rfl rfl ?_
 (have hp := B4u t [] G cells none 0 hr (Sl.nil G 1) (by have := hcnt (by assumption); simp; omega); refine E6 rfl hp rfl rfl (fun v21 G21 hle21 hh => ?_); obtain ⟨p1, c1, rfl, hrp⟩ := hh)
 replace hr := hr.mono hle21
 refine B0 ?_
 (have hm : O1 t = V9 t [] := if_pos (by assumption); rw [hm]; exact ⟨rfl, _, _, rfl, hrp⟩)
 refine N4 ?_
 (have hm : O1 t = [] := if_neg (by simp [*]); rw [hm]; exact ⟨rfl, _, _, rfl, RPs.nil _⟩)
theorem Sw.same {hp hp' : List A6} {e : A6} (h : Sw hp e e hp') : hp' = hp := by
 generalize he : e = e' at h
 have : ∀ {hp e e' hp'}, Sw hp e e' hp' → e = e' → hp' = hp := by
  intro hp e e' hp' h
  induction h with
  | here => rintro rfl; rfl
  | there _ ih => intro he; rw [ih he]
 subst he
 exact this h rfl
section
variable {P : Program} {Γ : M0} {env : M6} {hp : List A6} {G : IM} {ty : TypeId}
theorem A9F {d : Nat} {x y : Operand} {t el : TypeId} {i : L4} {sz by' : Nat} {zs : List Value} [hI : I0 P t i] {ie : L4} [hEl : I0 P el ie] (hd' : i.desc = .slice el) [hE : Y2 P el sz by' zs] {p q : Option Addr} {c n m c2 : Nat} {cs news : List Value} {hp' : Option Addr → Nat → List A6}
  (hd : Nat.blt d Γ.n = true) (hx : evo env x = some (.slice p n c)) (hy : evo env y = some (.slice q m c2)) (hsz : Nat.blt 0 sz = true)
  (hm : ∀ p' c', Sw hp (.slc p c el sz n cs) (.slc p' c' el sz (n + m) (cs ++ news)) (hp' p' c'))
  (hS : Sl G q m c2 sz news) (h1 : ∀ u ∈ news, u.oneCell' = true) (hc : n ≤ c)
  (h63 : n + m ≤ maxLen) (hb : (n + m) * by' ≤ 140737488355328) :
  X9 P Γ ⟨env, hp, G⟩ (some d) (.call ⟨.builtin .append, ⟨[x, y]⟩, ⟨[t, t]⟩⟩) ty (I2 p) (fun σ' => ∃ p' c', σ' = ⟨(d, .slice p' (n + m) c') :: env, hp' p' c', G⟩) := by
 obtain ⟨hl, _, _, hat⟩ := hS
 rcases Nat.eq_zero_or_pos m with rfl | hm0
 ·obtain rfl : news = [] := List.length_eq_zero_iff.1 (by omega)
  have hpu := A8v (P := P) (Γ := Γ) (hp := hp) (G := G) (ty := ty) (t := t) (el := el) hd' hx hy hc
  refine ⟨fun a w hs pos af gd Q next hn => ?_⟩
  simp only [Oper.wp, hpu.run a w hs, Oper.upon]
  refine hn _ _ _ (hs.put d _ (by simpa using hd) hs.res) (Ext.refl _ _) ⟨p, c, ?_⟩
  have h0 := hm p c
  simp only [Nat.add_zero, List.append_nil] at h0 ⊢
  rw [h0.same]
 ·obtain ⟨b, o, full, rfl, hg, hv⟩ := hat.resolve_left (by omega)
  exact A6k hd' hd hx hy hsz hm (A2K hg hv) hl h1 h63 hb
variable {K : Po} {ops : Array Oper} {rest : List Oper} {pos : String} {af : Array Edge} {gd : Option (Nat × Bool)}
theorem A5t {d : Nat} {x y : Operand} {t el : TypeId} {i : L4} {sz by' : Nat} {zs : List Value} [hI : I0 P t i] {ie : L4} [hEl : I0 P el ie] [hE : Y2 P el sz by' zs] {p q : Option Addr} {c n m c2 : Nat} {cs news : List Value} {hp' : Option Addr → Nat → List A6}
  (hd' : i.desc = .slice el) (hd : Nat.blt d Γ.n = true) (hx : evo env x = some (.slice p n c)) (hy : evo env y = some (.slice q m c2)) (hsz : Nat.blt 0 sz = true)
  (hm : ∀ p' c', Sw hp (.slc p c el sz n cs) (.slc p' c' el sz (n + m) (cs ++ news)) (hp' p' c'))
  (hS : Sl G q m c2 sz news) (h1 : ∀ u ∈ news, u.oneCell' = true) (hc : n ≤ c)
  (h63 : n + m ≤ maxLen) (hb : (n + m) * by' ≤ 140737488355328) (hw : M3 ops env gd = some true)
  (k : ∀ p' c', I8 P Γ ops rest K ⟨(d, .slice p' (n + m) c') :: env, hp' p' c', G⟩) : I8 P Γ ops (⟨some d, .call ⟨.builtin .append, ⟨[x, y]⟩, ⟨[t, t]⟩⟩, ty, pos, af, gd⟩ :: rest) K ⟨env, hp, G⟩ :=
 I3 (A9F hd' hd hx hy hsz hm hS h1 hc h63 hb) hw (by rintro _ ⟨p', c', rfl⟩; exact k p' c')
theorem A16 {H : List (Nat × Nat)} {fuel : Nat} {listed l' : List Bool} {j d : Nat} {cs : List Value} {x y : Operand} {t el : TypeId} {i : L4} {sz by' : Nat} {zs : List Value} [hI : I0 P t i] {ie : L4} [hEl : I0 P el ie] [hE : Y2 P el sz by' zs] {p q : Option Addr} {c n m c2 : Nat} {news : List Value} {hp' : Option Addr → Nat → List A6} {H' : List (Nat × Nat)}
  (hi : ops[j]? = some ⟨some d, .call ⟨.builtin .append, ⟨[x, y]⟩, ⟨[t, t]⟩⟩, ty, pos, af, gd⟩) (hd' : i.desc = .slice el)
  (hd : Nat.blt d Γ.n = true) (hx : evo env x = some (.slice p n c)) (hy : evo env y = some (.slice q m c2)) (hsz : Nat.blt 0 sz = true)
  (hm : ∀ p' c', Sw hp (.slc p c el sz n cs) (.slc p' c' el sz (n + m) (cs ++ news)) (hp' p' c'))
  (hS : Sl G q m c2 sz news) (h1 : ∀ u ∈ news, u.oneCell' = true) (hc : n ≤ c)
  (h63 : n + m ≤ maxLen) (hb : (n + m) * by' ≤ 140737488355328) (hw : M3 ops env gd = some true) (hl : listed.set j true = l')
  (hok : A7 ops j hp G (.slc p c el sz n cs) H H')
  (k : ∀ p' c', N8 P Γ ops K H' fuel l' ⟨(d, .slice p' (n + m) c') :: env, hp' p' c', G⟩) : W3 P Γ ops K H fuel listed j ⟨env, hp, G⟩ :=
 A4e hi (A9F hd' hd hx hy hsz hm hS h1 hc h63 hb) hw hl (fun _ _ hs => hok.spec hs) hok.filter (by rintro _ ⟨p', c', rfl⟩; exact k p' c')
theorem X2 {H H' : List (Nat × Nat)} {fuel : Nat} {listed l' : List Bool} {j d : Nat} {f : FuncId} [hF : C0 P f] {xs : List Operand} {ats : Array TypeId} {vs : List Value} {e : A6} {rst : List A6} {post : IM → Value → List A6 → Prop}
  (hi : ops[j]? = some ⟨some d, .call ⟨.value (.func f), ⟨xs⟩, ats⟩, ty, pos, af, gd⟩) (hx : evl env xs = some vs) (h : Fn P f vs [e] G post) (hp' : hp.Perm ([e] ++ rst)) (hw : M3 ops env gd = some true) (hd : Nat.blt d Γ.n = true) (hl : listed.set j true = l')
  (hok : A7 ops j hp G e H H')
  (k : ∀ v G' outs, C4 G G' → post G' v outs → N8 P Γ ops K H' fuel l' ⟨(d, v) :: env, outs ++ rst, G'⟩) : W3 P Γ ops K H fuel listed j ⟨env, hp, G⟩ :=
 A4e hi (A39 hx h hp' hd) hw hl (fun _ _ hs => by simpa [Fp] using hok.spec hs) hok.filter (by rintro _ ⟨v, G', outs, rfl, hle, hq⟩; exact k v G' outs hle hq)
end
theorem B4w : ∀ (t : Tm) (path : List Int) (G : IM) (cells : List Value) (pp : Option Addr) (pc : Nat) (pn : Option Addr) (m cn : Nat) (es0 : List Value), B1 G t cells → Sl G pp path.length pc 1 (S5 path) → path.length + 2 * D1 t + m ≤ 4294967296 →
  Fn Tryz.prog 145 [.slice pn m cn, .agg ⟨cells⟩, .slice pp path.length pc] [.slc pn cn 29 1 m es0] G
   (fun G' v outs => ∃ p' c' es F, v = .slice p' (m + D1 t) c' ∧ outs = [.slc p' c' 29 1 (m + D1 t) (es0 ++ es)] ∧ R8 (C2 G' G) (V9 t path) es F ∧ F.Nodup) := by
 refine Tm.ind fun k nm num ty fr lb ks ih path G cells pp pc pn m cn es0 hr hpath hcnt => ?_
 have hone := hr.one
 obtain ⟨tk, tks⟩ := ty
 obtain ⟨fk, fks⟩ := fr
 obtain ⟨pt, ct, pf, cf, p, cp, es, rfl, hk, hnum, hlb, hty, hfr, hsl, hkl⟩ := hr.open9
 rw [D1] at hcnt
 have hn := A4i ks
 refine C6 Tryz.func145 rfl Tryz.ntmps145 Tryz.results145 rfl ?_
 intro w0
 refine A4 ?_
 refine sE (C9 rfl rfl) rfl (fun b3 => ?_)
 refine A8 ?_
 (refine I3 (D0 rfl rfl rfl (by omega) (by unfold maxLen; omega) rfl) rfl ?_; rintro _ ⟨b10, rfl⟩)
 refine F8 ?_
 (refine A5t rfl rfl rfl rfl rfl (fun _ _ => by repeat (first | exact Sw.here | apply Sw.there)) hpath (A2W _) (Nat.zero_le _) (by unfold maxLen; omega) (by omega) rfl (fun p2 c2 => ?_); simp only [Nat.zero_add, List.nil_append]; refine U6 (cs := S5 path) (by repeat (first | exact Pk.here | apply Pk.there)) (fun G2 hle2 hsl2 hno2 => ?_); obtain ⟨hf1, hf2⟩ := R8.first hsl2 hno2 hsl2.nn hle2)
 (refine I3 (D0 rfl rfl rfl (by omega) (by unfold maxLen; omega) rfl) rfl ?_; rintro _ ⟨b13, rfl⟩)
 (refine A0Z rfl rfl rfl rfl rfl (fun _ _ => by repeat (first | exact Sw.here | apply Sw.there)) (M9 (by repeat first | exact mH | apply mT)) rfl (by simp [Value.oneCell']) (by unfold maxLen; omega) (by omega) rfl (fun p3 c3 => ?_))
 refine E1 ?_
 refine C5 ?_
 (refine K2 (fun (x : Nat × Option Addr × Nat × Nat × List Value × List Nat × IM) => ⟨[(7, .int .i64 x.1), (0, .slice x.2.1 (m + x.2.2.1) x.2.2.2.1), (4, .pointer (some ⟨b3, 0, none⟩)), (2, .slice pp path.length pc)], [.slc x.2.1 x.2.2.2.1 29 1 (m + x.2.2.1) (es0 ++ x.2.2.2.2.1), .blk b3 [.int .i64 k, .string nm, .int .i64 num, .int .i64 tk, .slice pt tks.length ct, .int .i64 fk, .slice pf fks.length cf, .int .i64 lb, .slice p ks.length cp]], x.2.2.2.2.2.2⟩) (fun x => x.1 ≤ ks.length ∧ x.2.2.1 = E8 (ks.take x.1) + 1 ∧ C4 G x.2.2.2.2.2.2 ∧ R8 (C2 x.2.2.2.2.2.2 G) (path :: W0 (ks.take x.1) 0 path) x.2.2.2.2.1 x.2.2.2.2.2.1 ∧ x.2.2.2.2.2.1.Nodup) (fun x => ks.length - x.1) (0, p3, 1, c3, [.slice p2 path.length c2], I2 p2, G2) ?_ ?_ ?_)
 (simp only [I1]; exact D6)
 exact ⟨Nat.zero_le _, rfl, hle2, hf1, hf2⟩
 (rintro ⟨i, pn', m', cn', es', F, Gi⟩ ⟨hi, hm, hleI, hst, hnd⟩; simp only [] at hi hm hleI hst hnd ⊢; replace hsl := hsl.mono hleI; replace hkl := hkl.mono hleI; replace hpath := hpath.mono hleI)
 refine B7 ?_
 refine sB (J4 rfl rfl) rfl rfl (fun h36 => ?_) (fun h36 => ?_)
 refine A8 ?_
 refine C5 ?_
 (obtain ⟨b, o, e, rfl, hl, hat, hre, hgb⟩ := hsl.kidTm hkl (i := i) (by omega) (by omega); have hone := hre.one; have htk := A1h (ks := ks) (i := i) (by omega); refine D7 D8 rfl ?_)
 refine I6 (i := 0) (l' := [tt,ff,ff,ff,ff,ff,ff,ff,ff,ff,ff,ff,ff,ff]) rfl D2 (qM rfl) rfl (by kernel_rfl) rfl rfl ?_
 refine aP 1 rfl (B8 rfl) rfl ?_
 refine aL 2 rfl (C7 rfl rfl) rfl ?_
 refine aP 3 rfl (qM rfl) rfl ?_
 refine aP 4 rfl (B5 rfl rfl rfl (by omega)) rfl ?_
 refine aL 5 rfl (A3 rfl rfl (hat _) hl) rfl ?_
 refine aP 7 rfl (qM rfl) rfl ?_
 refine aP 9 rfl (qM rfl) rfl ?_
 refine Q3 (j := 6) (j' := 10) (by kernel_rfl) ?_ ?_
 (refine E2 rfl (D0 rfl rfl rfl (by omega) (by unfold maxLen; omega) rfl) rfl rfl ?_; rintro _ ⟨b54, rfl⟩)
 refine Q3 (j := 8) (j' := 10) (by kernel_rfl) ?_ ?_
 (refine A16 rfl rfl rfl rfl rfl rfl (fun _ _ => by repeat (first | exact Sw.here | apply Sw.there)) hpath (A2W _) (Nat.zero_le _) (by unfold maxLen; omega) (by omega) rfl rfl (by repeat (first | exact A7.nil | apply A7.dep (by decide +kernel) | apply A7.im (by decide +kernel) hgb (by repeat first | exact mH | apply mT) | apply A7.blk (by decide +kernel) (by repeat (first | exact Pk.here | apply Pk.there)) (by repeat first | exact mH | apply mT))) (fun p4 c4 => ?_); simp only [Nat.zero_add, List.nil_append])
 refine A2 10 ?_
 (refine E2 rfl (D0 rfl rfl rfl (by omega) (by unfold maxLen; omega) rfl) rfl rfl ?_; rintro _ ⟨b58, rfl⟩)
 refine A2 11 ?_
 (refine P5 rfl rfl rfl rfl rfl rfl (fun _ _ => by repeat (first | exact Sw.here | apply Sw.there)) (M9 (by repeat first | exact mH | apply mT)) rfl (by simp [Value.oneCell']) (by unfold maxLen; omega) (by omega) rfl rfl (by repeat (first | exact A7.nil | apply A7.dep (by decide +kernel) | apply A7.im (by decide +kernel) hgb (by repeat first | exact mH | apply mT) | apply A7.blk (by decide +kernel) (by repeat (first | exact Pk.here | apply Pk.there)) (by repeat first | exact mH | apply mT))) (fun p5 c5 => ?_))
 (refine A1X (cs := S5 path ++ [.int .i64 (i : Int)]) (by repeat (first | exact Pk.here | apply Pk.there)) (fun Gf hle61 hslf hnof => ?_); rw [← A4h] at hslf; replace hre := hre.mono hle61; have hlef := hle61)
 replace hkl := hkl.mono hle61
 replace hpath := hpath.mono hle61
 replace hsl := hsl.mono hle61
 refine A2 12 ?_
 (have hih := ih ks[i] (List.getElem_mem (by omega)) (path ++ [(i : Int)]) Gf e p5 c5 pn' (m + m') cn' (es0 ++ es') hre; rw [show (path ++ [(i : Int)]).length = path.length + 1 from by simp] at hih; replace hih := hih hslf (by omega); refine X2 (l' := [tt,tt,tt,tt,tt,tt,tt,tt,tt,tt,tt,tt,tt,ff]) rfl rfl hih (Pk.perm (by repeat (first | exact Pk.here | apply Pk.there))) rfl rfl rfl (by repeat (first | exact A7.nil | apply A7.dep (by decide +kernel))) (fun v G1 outs hle1 hh => ?_); obtain ⟨p6, c6, es6, F6, rfl, rfl, hsp6, hnd6⟩ := hh; rw [show m + m' + D1 ks[i] = m + (m' + D1 ks[i]) from Nat.add_assoc _ _ _, List.append_assoc es0])
 refine aP 13 rfl (qA rfl) rfl ?_
 refine B0 ?_
 refine sP (H9 rfl rfl (by omega) (by omega)) rfl rfl ?_
 refine A4 ?_
 (obtain ⟨q1, q2⟩ := R8.step hst hnd hleI hlef hle1 hsp6 hnd6; have hsu := A0G (ks := ks) (i := i) (by omega); refine I5 (i + 1, p6, m' + D1 ks[i], c6, es' ++ es6, F ++ F6, G1) ?_ ?_ ?_)
 (simp only [I1]; exact D6)
 exact A4t
 exact V5
 (refine E2 rfl (D0 rfl rfl rfl (by omega) (by unfold maxLen; omega) rfl) rfl rfl ?_; rintro _ ⟨b77, rfl⟩)
 refine A2 8 ?_
 (refine A16 rfl rfl rfl rfl rfl rfl (fun _ _ => by repeat (first | exact Sw.here | apply Sw.there)) hpath (A2W _) (Nat.zero_le _) (by unfold maxLen; omega) (by omega) rfl rfl (by repeat (first | exact A7.nil | apply A7.dep (by decide +kernel) | apply A7.im (by decide +kernel) hgb (by repeat first | exact mH | apply mT) | apply A7.blk (by decide +kernel) (by repeat (first | exact Pk.here | apply Pk.there)) (by repeat first | exact mH | apply mT))) (fun p4 c4 => ?_); simp only [Nat.zero_add, List.nil_append])
 refine A2 11 ?_
 (refine P5 rfl rfl rfl rfl rfl rfl (fun _ _ => by repeat (first | exact Sw.here | apply Sw.there)) (M9 (by repeat first | exact mH | apply mT)) rfl (by simp [Value.oneCell']) (by unfold maxLen; omega) (by omega) rfl rfl (by repeat (first | exact A7.nil | apply A7.dep (by decide +kernel) | apply A7.im (by decide +kernel) hgb (by repeat first | exact mH | apply mT) | apply A7.blk (by decide +kernel) (by repeat (first | exact Pk.here | apply Pk.there)) (by repeat first | exact mH | apply mT))) (fun p5 c5 => ?_))
 (refine A1X (cs := S5 path ++ [.int .i64 (i : Int)]) (by repeat (first | exact Pk.here | apply Pk.there)) (fun Gf hle82 hslf hnof => ?_); rw [← A4h] at hslf; replace hre := hre.mono hle82; have hlef := hle82)
 replace hkl := hkl.mono hle82
 replace hpath := hpath.mono hle82
 replace hsl := hsl.mono hle82
 refine A2 12 ?_
 (have hih := ih ks[i] (List.getElem_mem (by omega)) (path ++ [(i : Int)]) Gf e p5 c5 pn' (m + m') cn' (es0 ++ es') hre; rw [show (path ++ [(i : Int)]).length = path.length + 1 from by simp] at hih; replace hih := hih hslf (by omega); refine X2 (l' := [tt,tt,tt,tt,tt,tt,tt,tt,tt,tt,tt,tt,tt,ff]) rfl rfl hih (Pk.perm (by repeat (first | exact Pk.here | apply Pk.there))) rfl rfl rfl (by repeat (first | exact A7.nil | apply A7.dep (by decide +kernel))) (fun v G1 outs hle1 hh => ?_); obtain ⟨p6, c6, es6, F6, rfl, rfl, hsp6, hnd6⟩ := hh; rw [show m + m' + D1 ks[i] = m + (m' + D1 ks[i]) from Nat.add_assoc _ _ _, List.append_assoc es0])
 refine aP 13 rfl (qA rfl) rfl ?_
 refine B0 ?_
 refine sP (H9 rfl rfl (by omega) (by omega)) rfl rfl ?_
 refine A4 ?_
 (obtain ⟨q1, q2⟩ := R8.step hst hnd hleI hlef hle1 hsp6 hnd6; have hsu := A0G (ks := ks) (i := i) (by omega); refine I5 (i + 1, p6, m' + D1 ks[i], c6, es' ++ es6, F ++ F6, G1) ?_ ?_ ?_)
 (simp only [I1]; exact D6)
 exact A4t
 exact V5
 (refine E2 rfl (D0 rfl rfl rfl (by omega) (by unfold maxLen; omega) rfl) rfl rfl ?_; rintro _ ⟨b98, rfl⟩)
 refine A2 6 ?_
 (refine E2 rfl (D0 rfl rfl rfl (by omega) (by unfold maxLen; omega) rfl) rfl rfl ?_; rintro _ ⟨b100, rfl⟩)
 refine A2 8 ?_
 (refine A16 rfl rfl rfl rfl rfl rfl (fun _ _ => by repeat (first | exact Sw.here | apply Sw.there)) hpath (A2W _) (Nat.zero_le _) (by unfold maxLen; omega) (by omega) rfl rfl (by repeat (first | exact A7.nil | apply A7.dep (by decide +kernel) | apply A7.im (by decide +kernel) hgb (by repeat first | exact mH | apply mT) | apply A7.blk (by decide +kernel) (by repeat (first | exact Pk.here | apply Pk.there)) (by repeat first | exact mH | apply mT))) (fun p4 c4 => ?_); simp only [Nat.zero_add, List.nil_append])
 refine A2 11 ?_
 (refine P5 rfl rfl rfl rfl rfl rfl (fun _ _ => by repeat (first | exact Sw.here | apply Sw.there)) (M9 (by repeat first | exact mH | apply mT)) rfl (by simp [Value.oneCell']) (by unfold maxLen; omega) (by omega) rfl rfl (by repeat (first | exact A7.nil | apply A7.dep (by decide +kernel) | apply A7.im (by decide +kernel) hgb (by repeat first | exact mH | apply mT) | apply A7.blk (by decide +kernel) (by repeat (first | exact Pk.here | apply Pk.there)) (by repeat first | exact mH | apply mT))) (fun p5 c5 => ?_))
 (refine A1X (cs := S5 path ++ [.int .i64 (i : Int)]) (by repeat (first | exact Pk.here | apply Pk.there)) (fun Gf hle105 hslf hnof => ?_); rw [← A4h] at hslf; replace hre := hre.mono hle105; have hlef := hle105)
 replace hkl := hkl.mono hle105
 replace hpath := hpath.mono hle105
 replace hsl := hsl.mono hle105
 refine A2 12 ?_
 (have hih := ih ks[i] (List.getElem_mem (by omega)) (path ++ [(i : Int)]) Gf e p5 c5 pn' (m + m') cn' (es0 ++ es') hre; rw [show (path ++ [(i : Int)]).length = path.length + 1 from by simp] at hih; replace hih := hih hslf (by omega); refine X2 (l' := [tt,tt,tt,tt,tt,tt,tt,tt,tt,tt,tt,tt,tt,ff]) rfl rfl hih (Pk.perm (by repeat (first | exact Pk.here | apply Pk.there))) rfl rfl rfl (by repeat (first | exact A7.nil | apply A7.dep (by decide +kernel))) (fun v G1 outs hle1 hh => ?_); obtain ⟨p6, c6, es6, F6, rfl, rfl, hsp6, hnd6⟩ := hh; rw [show m + m' + D1 ks[i] = m + (m' + D1 ks[i]) from Nat.add_assoc _ _ _, List.append_assoc es0])
 refine aP 13 rfl (qA rfl) rfl ?_
 refine B0 ?_
 refine sP (H9 rfl rfl (by omega) (by omega)) rfl rfl ?_
 refine A4 ?_
 (obtain ⟨q1, q2⟩ := R8.step hst hnd hleI hlef hle1 hsp6 hnd6; have hsu := A0G (ks := ks) (i := i) (by omega); refine I5 (i + 1, p6, m' + D1 ks[i], c6, es' ++ es6, F ++ F6, G1) ?_ ?_ ?_)
 (simp only [I1]; exact D6)
 exact A4t
 exact V5
 refine I7 ?_
 (obtain rfl : i = ks.length := (by omega); refine H7 (rT rfl) (A1.cons Pk.here A1.nil) ?_)
 (rw [List.take_length] at hst hm; subst hm; rw [D1, V9]; exact ⟨pn', cn', es', F, rfl, rfl, hst, hnd⟩)
theorem B4x (t : Tm) (G : IM) (cells : List Value) (hcnt : D1 t ≤ 4294967296) (hr : B1 G t cells) :
  Fn Tryz.prog 102 [.agg ⟨cells⟩] [] G (K8 fun G' v => ∃ p c, v = .slice p (O1 t).length c ∧ RPs (C2 G' G) (O1 t) p c) := by
 have hl := hr.len
 have hv := A6R t G cells hcnt hr
 have hcnt := @A4j t
 refine C6 Tryz.func102 rfl Tryz.ntmps102 Tryz.results102 rfl ?_
 intro w0
 refine A4 ?_
 refine sE (C9 rfl rfl) rfl (fun b3 => ?_)
 refine A8 ?_
 refine sL (A3 rfl rfl (B6 (by repeat first | exact mH | apply mT)) (by assumption)) rfl rfl ?_
 refine H1 rfl (hv) rfl rfl (fun h11 => ?_) (fun h11 => ?_)
 refine D4 ?_
 (refine I3 (D0 rfl rfl rfl (by omega) (by unfold maxLen; omega) rfl) rfl ?_; rintro _ ⟨bq, rfl⟩)
 refine sL (A3 rfl rfl (B6 (by repeat first | exact mH | apply mT)) (by assumption)) rfl rfl ?_
 (have hih := B4w t [] G cells none 0 (some ⟨bq, 0, none⟩) 0 0 [] hr (Sl.nil G 1) (by have := hcnt (by assumption); simp; omega); refine I3 (A39 rfl hih (Pk.perm (by repeat (first | exact Pk.here | apply Pk.there))) rfl) rfl ?_; rintro _ ⟨v, G1, outs, rfl, hle1, hh⟩; obtain ⟨p6, c6, es6, F6, rfl, rfl, hsp6, hnd6⟩ := hh; simp only [List.nil_append, Nat.zero_add])
 refine B9 ?_
 (refine H2 (by repeat (first | exact Pk.here | apply Pk.there)) (fun G3 hle3 hsl3 hno3 => ?_))
 refine A4 ?_
 (have hm : O1 t = V9 t [] := if_pos (by assumption); rw [hm]; have hfin := RPs.fin hsp6 hnd6 hle1 hle3 hsl3 (by rw [A3x]) hno3; exact ⟨rfl, p6, c6, by rw [A3x], hfin⟩)
 refine A8 ?_
 (refine I3 (D0 rfl rfl rfl (by omega) (by unfold maxLen; omega) rfl) rfl ?_; rintro _ ⟨bq, rfl⟩)
 refine B9 ?_
 (refine H2 (by repeat (first | exact Pk.here | apply Pk.there)) (fun G3 hle3 hsl3 hno3 => ?_))
 refine B9 ?_
 (have hm : O1 t = [] := if_neg (by simp [*]); rw [hm]; exact ⟨rfl, _, _, rfl, RPs.fin (Gi := G) (es := []) (F := []) ⟨rfl, rfl⟩ (by simp) (C4.refl _) hle3 hsl3 rfl hno3⟩)
section forget
variable {P : Program} {Γ : M0} {env : M6} {hp : List A6} {G : IM} {K : Po} {ops : Array Oper} {rest : List Oper} {ty : TypeId} {pos : String} {af : Array Edge} {gd : Option (Nat × Bool)}
end forget
def S6 : Tm → List Int → Option Tm
 | t, [] => some t
 | .mk _ _ _ _ _ _ ks, i :: is => if h : 0 ≤ i ∧ i < ks.length then S6 (ks[i.toNat]'(by omega)) is else none
theorem A4u (t : Tm) : S6 t [] = some t := by cases t; rw [S6]
theorem A9G {t : Tm} {i : Int} {is : List Int} (h0 : 0 ≤ i) (h : i < t.ks.length) : S6 t (i :: is) = S6 (t.ks[i.toNat]'(by omega)) is := by
 cases t; rw [S6, dif_pos ⟨h0, h⟩]; rfl
theorem A6U {t : Tm} {i : Int} {is : List Int} (h : ¬ (0 ≤ i ∧ i < t.ks.length)) : S6 t (i :: is) = none := by
 cases t; rw [S6]; exact dif_neg h
def z9 : List Value := [.int .i64 0, .string ⟨⟨[]⟩⟩, .int .i64 0, .int .i64 0, .slice none 0 0, .int .i64 0, .slice none 0 0, .int .i64 0, .slice none 0 0]
def AtP (t : Tm) (path : List Int) (G : IM) : IM → Value → List A6 → Prop := fun G' v outs => G' = G ∧ outs = [] ∧
 ((∃ x cells, S6 t path = some x ∧ B1 G x cells ∧ v = .tuple ⟨[.agg ⟨cells⟩, .bool true]⟩) ∨ (S6 t path = none ∧ v = .tuple ⟨[.agg ⟨z9⟩, .bool false]⟩))
theorem A9H {l : List Int} {i : Nat} {v : Value} (h : (S5 l)[i]? = some v) (hi : i < l.length) : v = .int .i64 l[i] := (A6y h).2
theorem A9I {Q : Prop} (h : Q := by (dsimp only; exact ⟨by omega, hre', by rw [hat, A9G (by omega) (by simp only [Tm.ks]; omega)]; rfl⟩)) : Q := h
theorem A9J {Q : Prop} (h : Q := by (obtain rfl : i = path.length := (by omega); rw [List.drop_length, A4u] at hat; exact ⟨rfl, rfl, .inl ⟨_, _, hat, hre, rfl⟩⟩)) : Q := h
theorem A9K (t : Tm) (path : List Int) (G : IM) (cells : List Value) (p : Option Addr) (c : Nat) (hr : B1 G t cells) (hp : Sl G p path.length c 1 (S5 path)) :
  Fn Tryz.prog 65 [.agg ⟨cells⟩, .slice p path.length c] [] G (AtP t path G) := by
 have hn := hp.le
 have hl := hr.len
 have hone := hr.one
 refine C6 Tryz.func65 rfl Tryz.ntmps65 Tryz.results65 rfl ?_
 intro w0
 refine A4 ?_
 refine sE (C9 rfl rfl) rfl (fun b3 => ?_)
 refine sE (A9 rfl) rfl (fun b4 => ?_)
 refine J8 ?_
 refine C5 (K2 (fun (x : Nat × Tm × List Value) => ⟨[(10, .int .i64 x.1), (9, .int .i64 path.length), (8, .slice p path.length c), (2, .pointer (some ⟨b3, 0, none⟩)), (4, .pointer (some ⟨b4, 0, none⟩)), (5, .bool false)], [.blk b4 z9, .blk b3 x.2.2], G⟩) (fun x => x.1 ≤ path.length ∧ B1 G x.2.1 x.2.2 ∧ S6 t path = S6 x.2.1 (path.drop x.1)) (fun x => path.length - x.1) (0, t, cells) ?_ ?_ ?_)
 (simp only [I1]; exact D6)
 exact ⟨by simp, hr, rfl⟩
 (rintro ⟨i, ⟨k, nm, num, ⟨tk, tks⟩, ⟨fk, fks⟩, lb, ks⟩, ce⟩ ⟨hi, hre, hat⟩; simp only [] at hi hre hat ⊢; obtain ⟨pt, ct, pf, cf, pk, ck, es, rfl, hk, hnum, hlb, hty, hfr, hsl, hkl⟩ := hre.open9; have hle := hsl.le; have hone := hre.one)
 refine A4 ?_
 refine sB (J4 rfl rfl) rfl rfl (fun h23 => ?_) (fun h23 => ?_)
 refine B7 ?_
 refine C5 ?_
 refine A4 ?_
 (obtain ⟨b, o, v, rfl, hv, hatc, hgb⟩ := hp.kid (i := i) (by omega); obtain rfl := A9H hv (by omega); rw [List.drop_eq_getElem_cons (by omega)] at hat; generalize path[i]'(by omega) = pi at *; refine sP (B5 rfl rfl rfl (by omega)) rfl rfl ?_)
 refine sL (W4 rfl rfl (hatc _)) rfl rfl ?_
 refine J2 ?_
 refine sP (P4 rfl rfl (by omega) (by omega)) rfl rfl ?_
 refine H1 rfl (A1m pi 0 ((ks.length : Int) - 1) G) rfl rfl (fun h47 => ?_) (fun h47 => ?_)
 refine J2 ?_
 (have hwi := A3w (by assumption); obtain ⟨j, rfl⟩ := Int.eq_ofNat_of_zero_le hwi.1; obtain ⟨b', o', e, rfl, hl', hate, hre', hgb'⟩ := hsl.kidTm hkl (i := j) (by omega) (by omega); have hone' := hre'.one; refine sP (B5 rfl rfl rfl (by omega)) rfl rfl ?_)
 refine sL (A3 rfl rfl (hate _) hl') rfl rfl ?_
 refine X5 rfl rfl rfl (by assumption) (by assumption) rfl (by repeat first | exact Sw.here | apply Sw.there) (by exact E0 (by symm; assumption)) ?_
 refine B4 ?_
 refine sP (H9 rfl rfl (by omega) (by omega)) rfl rfl ?_
 refine A4 ?_
 refine I5 (i + 1, ks[j], e) ?_ ?_ ?_
 (simp only [I1]; exact D6)
 exact A9I
 (show path.length - (i + 1) < path.length - i; omega)
 refine V1 ?_
 refine H5 (rC rfl (A5 rfl rfl)) (rT rfl) ?_
 (have hwi := A6p (by assumption); rw [A6U (by simp only [Tm.ks]; omega)] at hat; exact ⟨rfl, rfl, .inr ⟨hat, rfl⟩⟩)
 refine S4 ?_
 refine H5 (rC rfl (A5 rfl rfl)) (rT rfl) ?_
 exact A9J
theorem A9L {Q : Prop} (h : Q := by (rw [A6U (by simp only [Tm.ks]; omega)] at hat; exact ⟨rfl, rfl, .inr ⟨hat, rfl⟩⟩)) : Q := h
theorem A9M (t : Tm) (path : List Int) (G : IM) (cells : List Value) (p : Option Addr) (c : Nat) (hr : B1 G t cells) (hp : Sl G p path.length c 1 (S5 path)) :
  Fn Tryz.prog 103 [.agg ⟨cells⟩, .slice p path.length c] [] G (AtP t path G) := by
 have hn := hp.le
 have hl := hr.len
 have hone := hr.one
 refine C6 Tryz.func103 rfl Tryz.ntmps103 Tryz.results103 rfl ?_
 intro w0
 refine A4 ?_
 refine sE (C9 rfl rfl) rfl (fun b3 => ?_)
 refine sE (A9 rfl) rfl (fun b4 => ?_)
 refine E1 ?_
 refine C5 (K2 (fun (x : Nat × Tm × List Value) => ⟨[(6, .int .i64 x.1), (1, .slice p path.length c), (2, .pointer (some ⟨b3, 0, none⟩)), (4, .pointer (some ⟨b4, 0, none⟩)), (5, .bool false)], [.blk b4 z9, .blk b3 x.2.2], G⟩) (fun x => x.1 ≤ path.length ∧ B1 G x.2.1 x.2.2 ∧ S6 t path = S6 x.2.1 (path.drop x.1)) (fun x => path.length - x.1) (0, t, cells) ?_ ?_ ?_)
 (simp only [I1]; exact D6)
 exact ⟨by simp, hr, rfl⟩
 (rintro ⟨i, ⟨k, nm, num, ⟨tk, tks⟩, ⟨fk, fks⟩, lb, ks⟩, ce⟩ ⟨hi, hre, hat⟩; simp only [] at hi hre hat ⊢; obtain ⟨pt, ct, pf, cf, pk, ck, es, rfl, hk, hnum, hlb, hty, hfr, hsl, hkl⟩ := hre.open9; have hle := hsl.le; have hone := hre.one)
 refine A8 ?_
 refine sB (J4 rfl rfl) rfl rfl (fun h25 => ?_) (fun h25 => ?_)
 refine A8 ?_
 refine C5 ?_
 refine A4 ?_
 (obtain ⟨b, o, v, rfl, hv, hatc, hgb⟩ := hp.kid (i := i) (by omega); obtain rfl := A9H hv (by omega); rw [List.drop_eq_getElem_cons (by omega)] at hat; generalize path[i]'(by omega) = pi at *; refine D7 D8 rfl ?_)
 refine I6 (i := 0) (l' := [tt,ff,ff,ff,ff,ff,ff,ff,ff,ff,ff,ff,ff,ff,ff]) rfl D2 (qM rfl) rfl (by kernel_rfl) rfl rfl ?_
 refine aP 1 rfl (qM rfl) rfl ?_
 refine aP 2 rfl (B5 rfl rfl rfl (by omega)) rfl ?_
 refine aL 3 rfl (W4 rfl rfl (hatc _)) rfl ?_
 refine A0q (i := 4) (l' := [tt,tt,tt,tt,tt,ff,ff,ff,ff,ff,ff,ff,ff,ff,ff]) rfl D2 (J4 rfl rfl) rfl (by kernel_rfl) rfl rfl (fun h40 => ?_) (fun h40 => ?_)
 refine aP 5 rfl (qM rfl) rfl ?_
 refine C1 6 rfl rfl rfl ?_
 refine C1 7 rfl rfl rfl ?_
 refine C1 8 rfl rfl rfl ?_
 refine C1 9 rfl rfl rfl ?_
 refine C1 10 rfl rfl rfl ?_
 refine C1 11 rfl rfl rfl ?_
 refine C1 12 rfl rfl rfl ?_
 refine C1 13 rfl rfl rfl ?_
 refine aP 14 rfl (N1 rfl rfl) rfl ?_
 refine S4 ?_
 refine H5 (rC rfl (A5 rfl rfl)) (rT rfl) ?_
 exact A9L
 refine aP 5 rfl (qM rfl) rfl ?_
 refine aP 6 rfl (qM rfl) rfl ?_
 refine aP 7 rfl (qM rfl) rfl ?_
 refine aP 8 rfl (B5 rfl rfl rfl (by omega)) rfl ?_
 refine aL 9 rfl (W4 rfl rfl (hatc _)) rfl ?_
 refine aP 10 rfl (B8 rfl) rfl ?_
 refine aL 11 rfl (C7 rfl rfl) rfl ?_
 refine aP 12 rfl (pLn rfl rfl) rfl ?_
 refine A0q (i := 13) (l' := [tt,tt,tt,tt,tt,tt,tt,tt,tt,tt,tt,tt,tt,tt,ff]) rfl D2 (A0X rfl rfl) rfl (by kernel_rfl) rfl rfl (fun h78 => ?_) (fun h78 => ?_)
 refine aP 14 rfl (P0 rfl rfl) rfl ?_
 refine S4 ?_
 refine H5 (rC rfl (A5 rfl rfl)) (rT rfl) ?_
 exact A9L
 refine aP 14 rfl (P0 rfl rfl) rfl ?_
 refine B0 ?_
 (obtain ⟨j, rfl⟩ := Int.eq_ofNat_of_zero_le (show 0 ≤ pi by omega); obtain ⟨b', o', e, rfl, hl', hate, hre', hgb'⟩ := hsl.kidTm hkl (i := j) (by omega) (by omega); have hone' := hre'.one; refine D7 D8 rfl ?_)
 refine I6 (i := 0) (l' := [tt,ff,ff,ff,ff,ff,ff,ff,ff]) rfl D2 (B8 rfl) rfl (by kernel_rfl) rfl rfl ?_
 refine aL 1 rfl (C7 rfl rfl) rfl ?_
 refine aP 2 rfl (qM rfl) rfl ?_
 refine aP 3 rfl (qM rfl) rfl ?_
 refine aP 4 rfl (B5 rfl rfl rfl (by omega)) rfl ?_
 refine aL 5 rfl (W4 rfl rfl (hatc _)) rfl ?_
 refine aP 6 rfl (B5 rfl rfl rfl (by omega)) rfl ?_
 refine aL 7 rfl (A3 rfl rfl (hate _) hl') rfl ?_
 refine A2 8 ?_
 refine Q8 rfl rfl rfl rfl hl' hone' rfl rfl (by kernel_rfl) (by repeat first | exact Sw.here | apply Sw.there) (by exact E0 hl'.symm) ?_
 refine B0 ?_
 refine sP (H9 rfl rfl (by omega) (by omega)) rfl rfl ?_
 refine A4 ?_
 refine I5 (i + 1, ks[j], e) ?_ ?_ ?_
 (simp only [I1]; exact D6)
 exact A9I
 (show path.length - (i + 1) < path.length - i; omega)
 refine K0 ?_
 refine H5 (rC rfl (A5 rfl rfl)) (rT rfl) ?_
 exact A9J
def J7 : Tm := .mk 0 ⟨⟨[]⟩⟩ 0 (.mk 0 []) (.mk 0 []) 0 []
theorem Q4.zero (G : IM) : Q4 G J7 z9 [] := by
 simp only [J7, Q4, R6, O6, O7, z9]
 refine ⟨[.int .i64 0, .slice none 0 0], [.int .i64 0, .slice none 0 0], none, 0, [], [], [], [], rfl, ⟨by omega, by omega⟩, ⟨by omega, by omega⟩, ⟨by omega, by omega⟩, ?_, ?_, E3.nil _ _, ⟨rfl, rfl⟩, rfl, by simp [I2]⟩
 ·exact ⟨none, 0, [], [], rfl, ⟨by omega, by omega⟩, E3.nil _ _, ⟨rfl, rfl⟩, rfl, by simp [I2]⟩
 ·exact ⟨none, 0, [], [], rfl, ⟨by omega, by omega⟩, E3.nil _ _, ⟨rfl, rfl⟩, rfl, by simp [I2]⟩
theorem A9N : ∀ {path : List Int} {t x : Tm}, S6 t path = some x → t.small → x.small
 | [], t, x, h, hs => by rw [A4u] at h; cases h; exact hs
 | i :: is, t, x, h, hs => by
  by_cases hi : 0 ≤ i ∧ i < t.ks.length
  ·rw [A9G hi.1 hi.2] at h
   refine A9N h ?_
   obtain ⟨k, nm, num, ty, fr, lb, ks⟩ := t
   simp only [Tm.small] at hs
   exact Tm.smallL_mem hs.2.2.2.2 _ (List.getElem_mem _)
  ·rw [A6U hi] at h; cases h
def A1q (t : Tm) (path : List Int) : Tm × Bool := if M5 t = true then (match S6 t path with | some x => (x, true) | none => (J7, false)) else (J7, false)
theorem A9O {t x : Tm} {path : List Int} (h : M5 t = true) (hx : S6 t path = some x) : A1q t path = (x, true) := by unfold A1q; rw [if_pos h, hx]
theorem B4y {t : Tm} {path : List Int} (hx : S6 t path = none) : A1q t path = (J7, false) := by unfold A1q; rw [hx]; split <;> rfl
theorem B4z {t : Tm} {path : List Int} (h : ¬ M5 t = true) : A1q t path = (J7, false) := by unfold A1q; rw [if_neg h]
def TbP (r : Tm × Bool) (G : IM) : IM → Value → List A6 → Prop := K8 fun G' v => ∃ cells F, v = .tuple ⟨[.agg ⟨cells⟩, .bool r.2]⟩ ∧ Q4 (C2 G' G) r.1 cells F ∧ F.Nodup
theorem TbP.mk {r : Tm × Bool} {x : Tm} {b : Bool} {G G' : IM} {cells : List Value} {F : List Nat} (h : r = (x, b)) (hs : Q4 (C2 G' G) x cells F) (hn : F.Nodup) : TbP r G G' (.tuple ⟨[.agg ⟨cells⟩, .bool b]⟩) [] := by
 subst h; exact ⟨rfl, cells, F, rfl, hs, hn⟩
theorem B4A {b : Bool} (h : b = false) : ¬ b = true := by rw [h]; simp
theorem B4B (t : Tm) (path : List Int) (G : IM) (cells : List Value) (p : Option Addr) (c : Nat) (hts : t.small) (hr : B1 G t cells) (hp : Sl G p path.length c 1 (S5 path)) :
  Fn Tryz.prog 26 [.agg ⟨cells⟩, .slice p path.length c] [] G (TbP (A1q t path) G) := by
 have hl := hr.len
 have hone := hr.one
 have hv := A5k t G cells hr
 have hA := A9K t path G cells p c hr hp
 refine C6 Tryz.func26 rfl Tryz.ntmps26 Tryz.results26 rfl ?_
 intro w0
 refine A4 ?_
 refine sE (C9 rfl rfl) rfl (fun b3 => ?_)
 refine sE (A9 rfl) rfl (fun b4 => ?_)
 refine A8 ?_
 refine sL (A3 rfl rfl (B6 (by repeat first | exact mH | apply mT)) (by assumption)) rfl rfl ?_
 refine H1 rfl (hv) rfl rfl (fun h12 => ?_) (fun h12 => ?_)
 refine D4 ?_
 refine sL (A3 rfl rfl (B6 (by repeat first | exact mH | apply mT)) (by assumption)) rfl rfl ?_
 refine F8 ?_
 (refine A0Y rfl hA rfl rfl (fun v23 G23 outs23 hle23 h23 => ?_); obtain ⟨hG, rfl, hh⟩ := h23; replace hG := hG.symm; subst hG; rcases hh with ⟨x, cx, hx, hrx, rfl⟩ | ⟨hx, rfl⟩)
 refine B9 ?_
 refine sE (A9 rfl) rfl (fun b27 => ?_)
 refine sS rfl rfl rfl hrx.len hrx.one rfl ?_ (hu := by exact E0 hrx.len.symm)
 refine I7 ?_
 refine sL (A3 rfl rfl (B6 (by repeat first | exact mH | apply mT)) hrx.len) rfl rfl ?_
 (refine E6 rfl (A5q x G cx (A9N hx hts) hrx) rfl rfl (fun v G3 hle3 hh => ?_); obtain ⟨cells', F', rfl, hs', hnd'⟩ := hh; have hl' := hs'.R.len; have ho' := hs'.R.one)
 refine sS rfl rfl rfl hl' ho' rfl ?_ (hu := by exact E0 hl'.symm)
 refine B4 ?_
 refine H5 (rC rfl (A3 rfl rfl (B6 (by repeat first | exact mH | apply mT)) hl')) (rT rfl) ?_
 exact TbP.mk (A9O (by assumption) hx) hs' hnd'
 refine B9 ?_
 refine sE (A9 rfl) rfl (fun b56 => ?_)
 refine A0E ?_
 refine H5 (rC rfl (A5 rfl rfl)) (rT rfl) ?_
 exact TbP.mk (B4y hx) (Q4.zero _) (by simp)
 refine K4 ?_
 refine H5 (rC rfl (A5 rfl rfl)) (rT rfl) ?_
 exact TbP.mk (B4z (B4A (by assumption))) (Q4.zero _) (by simp)
structure A5u {ι : Type} (S : ι → Sy) (φ : ι → Prop) (e : Exit) (σ : Sy) : Prop where
 run : match e with
  | .normal => ∃ i, φ i ∧ Sub σ (S i)
  | _ => False
section cut
variable {P : Program} {Γ : M0} {K : Po} {σ : Sy} {ι : Type}
theorem A0l {c y : Code} (S : ι → Sy) (φ : ι → Prop) (h : J3 P Γ c (A5u S φ) σ) (k : ∀ i, φ i → J3 P Γ y K (S i)) : J3 P Γ c (A1a P Γ y K) σ := by
 refine tri_post h ?_
 rintro e σ ⟨hk⟩
 cases e with
 | normal => obtain ⟨i, hi, hs⟩ := hk; exact ⟨A8b hs (k i hi)⟩
 | _ => exact hk.elim
where
 tri_post {c : Code} {K K' : Po} {σ : Sy} (h : J3 P Γ c K σ) (hk : ∀ e σ, K e σ → K' e σ) : J3 P Γ c K' σ := A59 h hk
theorem Q6 {S : ι → Sy} {φ : ι → Prop} {σ : Sy} (i : ι) (hs : Sub σ (S i)) (h : φ i) : A5u S φ .normal σ := ⟨⟨i, h, hs⟩⟩
theorem B4C {S : ι → Sy} {φ : ι → Prop} : Z7 (A5u S φ) := fun _ _ h => h.run
instance npC5 {S : ι → Sy} {φ : ι → Prop} : NpC (A5u S φ) := ⟨B4C⟩
end cut
section take
variable {P : Program} {Γ : M0} {env : M6} {hp : List A6} {G : IM} {K : Po} {ops : Array Oper} {rest : List Oper} {ty : TypeId} {pos : String} {af : Array Edge} {gd : Option (Nat × Bool)}
theorem J9 {d : Nat} {f : FuncId} [hF : C0 P f] {xs : List Operand} {ats : Array TypeId} {vs : List Value} {ins rst : List A6} {post : IM → Value → List A6 → Prop}
  (hx : evl env xs = some vs) (h : Fn P f vs ins G post) (hp' : hp.Perm (ins ++ rst)) (hw : M3 ops env gd = some true) (hd : Nat.blt d Γ.n = true)
  (k : ∀ v G' outs, C4 G G' → post G' v outs → I8 P Γ ops rest K ⟨(d, v) :: env, outs ++ rst, G'⟩) : I8 P Γ ops (⟨some d, .call ⟨.value (.func f), ⟨xs⟩, ats⟩, ty, pos, af, gd⟩ :: rest) K ⟨env, hp, G⟩ :=
 I3 (A39 hx h hp' hd) hw (by rintro _ ⟨v, G', outs, rfl, hle, hq⟩; exact k v G' outs hle hq)
end take
theorem A0m (G : IM) (br : Nat) (pb : Option Addr) (nb cb p : Nat) (bs : List UInt8) (q : Option Addr) (n c : Nat) (xs : List Value) (hb : Sl G pb nb cb 1 (O2 bs)) (hnb : nb ≤ 2000) (hp : p < 1099511627776) (hx : Sl G q n c 1 xs) (hn : 0 < n) :
  Fn Tryz.prog 117 [.pointer (some ⟨br, 0, none⟩), .slice q n c] [rd br pb nb cb p] G (fun G' v outs => G' = G ∧ outs = [rd br pb nb cb (p + 1)] ∧ v ∈ xs) := by
 refine C6 Tryz.func117 rfl Tryz.ntmps117 Tryz.results117 rfl ?_
 intro w0
 refine J8 ?_
 (refine J9 rfl (Z1 G br pb nb cb p bs (n : Int) hb hnb hp) (List.Perm.refl _) rfl rfl (fun v G1 outs hle1 hh => ?_); obtain ⟨rfl, rfl, k, rfl, hk0, hkn⟩ := hh; obtain ⟨j, rfl⟩ := Int.eq_ofNat_of_zero_le hk0)
 (obtain ⟨b, o, v, rfl, hv, hat, _⟩ := hx.kid (i := j) (by omega); refine sP (B5 rfl rfl rfl (by omega)) rfl rfl ?_)
 refine sL (W4 rfl rfl (hat _)) rfl rfl ?_
 refine B4 ?_
 refine H7 (rT rfl) A1.refl ?_
 exact ⟨rfl, rfl, List.mem_of_getElem? hv⟩
theorem A6V (G : IM) (br : Nat) (pb : Option Addr) (nb cb p : Nat) (bs : List UInt8) (q : Option Addr) (n c : Nat) (xs : List Value) (hb : Sl G pb nb cb 1 (O2 bs)) (hnb : nb ≤ 2000) (hp : p < 1099511627776) (hx : Sl G q n c 1 xs) (hn : 0 < n) :
  Fn Tryz.prog 121 [.pointer (some ⟨br, 0, none⟩), .slice q n c] [rd br pb nb cb p] G (fun G' v outs => G' = G ∧ outs = [rd br pb nb cb (p + 1)] ∧ v ∈ xs) := by
 refine C6 Tryz.func121 rfl Tryz.ntmps121 Tryz.results121 rfl ?_
 intro w0
 refine J8 ?_
 (refine J9 rfl (Z1 G br pb nb cb p bs (n : Int) hb hnb hp) (List.Perm.refl _) rfl rfl (fun v G1 outs hle1 hh => ?_); obtain ⟨rfl, rfl, k, rfl, hk0, hkn⟩ := hh; obtain ⟨j, rfl⟩ := Int.eq_ofNat_of_zero_le hk0)
 (obtain ⟨b, o, v, rfl, hv, hat, _⟩ := hx.kid (i := j) (by omega); refine sP (B5 rfl rfl rfl (by omega)) rfl rfl ?_)
 refine sL (W4 rfl rfl (hat _)) rfl rfl ?_
 refine B4 ?_
 refine H7 (rT rfl) A1.refl ?_
 exact ⟨rfl, rfl, List.mem_of_getElem? hv⟩
theorem A17 (G : IM) : Fn Tryz.prog 94 [] [] G (J0 (.agg ⟨[.int .i64 1, .slice none 0 0]⟩) G) := by
 refine C6 Tryz.func94 rfl Tryz.ntmps94 Tryz.results94 rfl ?_
 intro w0
 refine A4 ?_
 refine sE (A9 rfl) rfl (fun b3 => ?_)
 refine E1 ?_
 refine N9 (rC rfl (A5 rfl rfl)) ?_
 exact ⟨rfl, rfl, rfl⟩
def dB : Nat → Nat
 | 0 => 0
 | d + 1 => 2 * dB d + 2
theorem B4D {d : Nat} (h : d ≤ 3) : dB (d + 1) ≤ 30 := by
 have : d = 0 ∨ d = 1 ∨ d = 2 ∨ d = 3 := by omega
 rcases this with rfl | rfl | rfl | rfl <;> decide
theorem B4E (k : Int) : V7 k ≤ 2 := by
 unfold V7; split <;> try split
 all_goals omega
theorem A5v : ∀ (ts : List Ty) (t : Ty), P2 (ts ++ [t]) = P2 ts + K7 t
 | [], t => by simp [P2]
 | a :: ts, t => by simp only [List.cons_append, P2, A5v ts t]; omega
theorem D5.ty {G : IM} {k : Int} {ts : List Ty} {es : List (List Value)} {p : Option Addr} {n c : Nat} (h : D5 G ts es) (hn : ts.length = n) (hs : Sl G p n c 2 es.flatten) (hk : H0 k) : C3 G (.mk k ts) [.int .i64 k, .slice p n c] := by
 subst hn
 simp only [C3]
 exact ⟨p, c, es, rfl, hk, E3.of hs h.len h.all (fun e he => (h.each e he).2), h⟩
theorem A4v (br : Nat) (pb : Option Addr) (nb cb : Nat) (bs : List UInt8) (hnb : nb ≤ 2000) : ∀ (d p : Nat) (G : IM), d ≤ 1000 → Sl G pb nb cb 1 (O2 bs) → p + dB (d + 1) < 1099511627776 →
  Fn Tryz.prog 125 [.pointer (some ⟨br, 0, none⟩), .int .i64 ((d + 1 : Nat) : Int)] [rd br pb nb cb p] G
   (A0t br pb nb cb p (dB (d + 1)) (fun G' v => ∃ t cells, v = .agg ⟨cells⟩ ∧ C3 G' t cells ∧ K7 t ≤ ((dB (d + 1) : Nat) : Int) ∧ R5 d t)) := by
 refine fun d => Nat.strongRecOn d fun d ih p G hd hb hp => ?_
 rw [dB] at hp ⊢
 refine C6 Tryz.func125 rfl Tryz.ntmps125 Tryz.results125 rfl ?_
 intro w0
 refine A4 ?_
 refine sE (A9 rfl) rfl (fun b3 => ?_)
 refine B0 ?_
 (refine I3 (D0 rfl rfl rfl (by omega) (by unfold maxLen; omega) rfl) rfl ?_; rintro _ ⟨b9, rfl⟩)
 (refine U6 (by repeat (first | exact Pk.here | apply Pk.there)) (fun G1 hle1 hsl1 _ => ?_); refine J9 rfl (A0m G1 br pb nb cb p bs _ _ _ _ (hb.mono hle1) hnb (by omega) hsl1 (by decide)) (Pk.perm (by repeat (first | exact Pk.here | apply Pk.there))) rfl rfl (fun v G2 outs hle2 hh => ?_); obtain ⟨rfl, rfl, hv⟩ := hh; replace hb := hb.mono hle1; obtain ⟨k, rfl, hk1⟩ : ∃ k, v = .int .i64 k ∧ 1 ≤ k ∧ k ≤ 5 := (by simp only [List.mem_cons, List.not_mem_nil, or_false] at hv; rcases hv with rfl | rfl | rfl | rfl | rfl | rfl | rfl <;> exact ⟨_, rfl, by decide, by decide⟩))
 refine B0 ?_
 (have hv' := hv; refine A0l (fun (x : Bool) => ⟨(16, .bool x) :: [(5, .int .i64 k), (4, .pointer (some ⟨b3, 0, none⟩)), (0, .pointer (some ⟨br, 0, none⟩)), (1, .int .i64 ((d + 1 : Nat) : Int))], [rd br pb nb cb (p + 1), .blk b3 [.int .i64 0, .slice none 0 0]], G2⟩) (fun x => x = false → d = 0 → k < 4) ?_ ?_)
 refine A4 ?_
 refine sB (J4 rfl rfl) rfl rfl (fun h19 => ?_) (fun h19 => ?_)
 refine A4 ?_
 refine sB (A0X rfl rfl) rfl rfl (fun h22 => ?_) (fun h22 => ?_)
 refine A4 ?_
 refine Q6 true (M4 (by repeat (first | exact E7.nil | refine E7.cons rfl ?_)) (by repeat (first | exact A1.refl | exact A1.nil | refine A1.cons (by repeat (first | exact Pk.here | apply Pk.there)) ?_ | apply A1.drop))) ?_
 (show _ = false → d = 0 → k < 4; intro hf h0; first | exact absurd hf (by decide) | omega)
 refine A4 ?_
 refine Q6 false (M4 (by repeat (first | exact E7.nil | refine E7.cons rfl ?_)) (by repeat (first | exact A1.refl | exact A1.nil | refine A1.cons (by repeat (first | exact Pk.here | apply Pk.there)) ?_ | apply A1.drop))) ?_
 (show _ = false → d = 0 → k < 4; intro hf h0; first | exact absurd hf (by decide) | omega)
 refine B0 ?_
 refine Q6 false (M4 (by repeat (first | exact E7.nil | refine E7.cons rfl ?_)) (by repeat (first | exact A1.refl | exact A1.nil | refine A1.cons (by repeat (first | exact Pk.here | apply Pk.there)) ?_ | apply A1.drop))) ?_
 (show _ = false → d = 0 → k < 4; intro hf h0; first | exact absurd hf (by decide) | omega)
 (rintro x hx; clear hv)
 (show J3 _ _ (.cond (.tmp 16) _ _) _ _; refine A0l (fun (x : Int) => ⟨[(5, .int .i64 x), (4, .pointer (some ⟨b3, 0, none⟩)), (0, .pointer (some ⟨br, 0, none⟩)), (1, .int .i64 ((d + 1 : Nat) : Int))], [rd br pb nb cb (p + 1), .blk b3 [.int .i64 0, .slice none 0 0]], G2⟩) (fun x => 1 ≤ x ∧ x ≤ 5 ∧ (d = 0 → x < 4)) (A35 rfl (fun hxt => ?_) (fun hxf => ?_)) ?_)
 refine B9 ?_
 refine Q6 1 (M4 (by repeat (first | exact E7.nil | refine E7.cons rfl ?_)) (by repeat (first | exact A1.refl | exact A1.nil | refine A1.cons (by repeat (first | exact Pk.here | apply Pk.there)) ?_ | apply A1.drop))) ?_
 (first | exact ⟨by omega, by omega, by omega⟩ | exact ⟨by omega, by omega, fun h0 => by have := hx hxf h0; omega⟩)
 refine tK ?_
 refine Q6 k (M4 (by repeat (first | exact E7.nil | refine E7.cons rfl ?_)) (by repeat (first | exact A1.refl | exact A1.nil | refine A1.cons (by repeat (first | exact Pk.here | apply Pk.there)) ?_ | apply A1.drop))) ?_
 (first | exact ⟨by omega, by omega, by omega⟩ | exact ⟨by omega, by omega, fun h0 => by have := hx hxf h0; omega⟩)
 (rintro kk ⟨hk2, hk3, hk4⟩; have hop := B4E kk; have hk5 := (A1y kk).1; have hk6 := (A1y kk).2.1; have hK := A89 kk)
 refine B4 ?_
 refine sE (A9 rfl) rfl (fun b53 => ?_)
 refine E1 ?_
 refine C5 ?_
 (refine V0 34 2 ?_; refine K2 (fun (x : Nat × Option Addr × Nat × List Ty × List (List Value) × Nat × IM) => ⟨[(7, .int .i64 x.1), (5, .int .i64 kk), (6, .pointer (some ⟨b53, 0, none⟩)), (4, .pointer (some ⟨b3, 0, none⟩)), (0, .pointer (some ⟨br, 0, none⟩)), (1, .int .i64 ((d + 1 : Nat) : Int))], [.blk b53 [.int .i64 kk, .slice x.2.1 x.1 x.2.2.1], .slc x.2.1 x.2.2.1 34 2 x.1 x.2.2.2.2.1.flatten, rd br pb nb cb x.2.2.2.2.2.1, .blk b3 [.int .i64 0, .slice none 0 0]], x.2.2.2.2.2.2⟩) (fun x => (∀ u ∈ x.2.2.2.1, R5 (d - 1) u) ∧ (x.1 : Int) ≤ V7 kk ∧ C4 G2 x.2.2.2.2.2.2 ∧ x.2.2.2.1.length = x.1 ∧ D5 x.2.2.2.2.2.2 x.2.2.2.1 x.2.2.2.2.1 ∧ P2 x.2.2.2.1 ≤ ((x.1 * dB d : Nat) : Int) ∧ p + 1 ≤ x.2.2.2.2.2.1 ∧ x.2.2.2.2.2.1 ≤ p + 1 + x.1 * dB d) (fun x => (V7 kk).toNat - x.1) (0, none, 0, [], [], p + 1, G2) ?_ ?_ ?_)
 (simp only [I1]; exact D6)
 (exact ⟨by simp, by dsimp only; omega, C4.refl _, rfl, by simp [D5], by simp [P2], by dsimp only; omega, by dsimp only; omega⟩)
 (rintro ⟨i, pn, cn, ts, es', p', Gi⟩ ⟨hah, hi, hle, hlt, hst, hsum, hq1, hq2⟩; simp only [] at hah hi hle hlt hst hsum hq1 hq2 ⊢; have hid : i * dB d ≤ 2 * dB d := Nat.mul_le_mul_right _ (by omega))
 refine B0 ?_
 refine H6 rfl ((hK _)) rfl rfl ?_
 refine sB (J4 rfl rfl) rfl rfl (fun h74 => ?_) (fun h74 => ?_)
 refine A8 ?_
 refine C5 ?_
 (obtain ⟨d', rfl⟩ : ∃ d', d = d' + 1 := ⟨d - 1, by omega⟩; have hih := ih d' (by omega) p' Gi (by omega) (hb.mono hle) (by have := Nat.mul_le_mul_right (dB (d' + 1)) (show i + 1 ≤ 2 by omega); rw [Nat.succ_mul] at this; omega); refine D7 D8 rfl ?_)
 refine I6 (i := 0) (l' := [tt,ff,ff,ff,ff,ff,ff,ff,ff,ff]) rfl D2 (B8 rfl) rfl (by kernel_rfl) rfl rfl ?_
 refine aL 1 rfl (C7 rfl rfl) rfl ?_
 refine aP 2 rfl (qM rfl) rfl ?_
 refine aP 3 rfl (qM rfl) rfl ?_
 refine aP 4 rfl (A5h rfl rfl (by omega)) rfl ?_
 refine A2 5 ?_
 (refine X2 (l' := [tt,tt,tt,tt,tt,tt,ff,ff,ff,ff]) rfl rfl hih (Pk.perm (by repeat (first | exact Pk.here | apply Pk.there))) rfl rfl rfl (by repeat (first | exact A7.nil | apply A7.dep (by decide +kernel) | apply A7.blk (by decide +kernel) (by repeat (first | exact Pk.here | apply Pk.there)) (by repeat first | exact mH | apply mT))) (fun v G3 outs hle3 hh => ?_); obtain ⟨p3, hp31, hp32, rfl, t3, cells3, rfl, hr3, hs3, ha3⟩ := hh; obtain ⟨q3, c3, es3, rfl, _⟩ := hr3.open)
 refine A2 6 ?_
 (refine E2 rfl (D0 rfl rfl rfl (by omega) (by unfold maxLen; omega) rfl) rfl rfl ?_; rintro _ ⟨b91, rfl⟩)
 refine A2 7 ?_
 refine P5 rfl rfl rfl rfl rfl rfl (fun _ _ => by repeat (first | exact Sw.here | apply Sw.there)) (M9 (by repeat first | exact mH | apply mT)) rfl (by simp [Value.oneCell']) (by unfold maxLen; omega) (by omega) rfl rfl (by repeat (first | exact A7.nil | apply A7.dep (by decide +kernel) | apply A7.blk (by decide +kernel) (by repeat (first | exact Pk.here | apply Pk.there)) (by repeat first | exact mH | apply mT))) (fun pn' cn' => ?_)
 refine aP 8 rfl (B8 rfl) rfl ?_
 refine A2 9 ?_
 refine Q8 rfl rfl rfl rfl rfl rfl rfl rfl (by kernel_rfl) (by repeat first | exact Sw.here | apply Sw.there) (by rfl) ?_
 refine B0 ?_
 refine sP (H9 rfl rfl (by omega) (by omega)) rfl rfl ?_
 refine A4 ?_
 refine I5 (i + 1, pn', cn', ts ++ [t3], es' ++ [[.int .i64 t3.k, .slice q3 t3.ks.length c3]], p3, G3) ?_ ?_ ?_
 (simp only [I1]; exact D6)
 (dsimp only; have e1 : (i + 1) * dB (d' + 1) = i * dB (d' + 1) + dB (d' + 1) := Nat.succ_mul _ _; have e2 := A5v ts t3; exact ⟨by simp only [List.forall_mem_append, List.forall_mem_singleton]; exact ⟨hah, ha3⟩, by omega, hle.trans hle3, by simp [hlt], D5.snoc (hst.mono hle3) hr3, by omega, by omega, by omega⟩)
 (show (V7 kk).toNat - (i + 1) < (V7 kk).toNat - i; omega)
 refine J5 ?_
 (refine H2 (by repeat (first | exact Pk.here | apply Pk.there)) (fun G5 hle5 hsl5 hno5 => ?_))
 refine tT ?_
 refine H7 (outs := [rd br pb nb cb p']) (rC rfl (A5 rfl rfl)) (by repeat (first | exact A1.nil | refine A1.cons Pk.here ?_ | refine A1.cons (Pk.there Pk.here) ?_ | apply A1.drop)) ?_
 (refine ⟨p', by omega, by omega, rfl, .mk kk ts, _, rfl, (hst.mono hle5).ty hlt hsl5 ⟨by omega, by omega⟩, ?_, B4c hk4 (by omega) hk2 hk3 hah⟩; rw [K7]; omega)
theorem A9P (br : Nat) (pb : Option Addr) (nb cb : Nat) (bs : List UInt8) (hnb : nb ≤ 2000) (d p : Nat) (G : IM) (hd : d ≤ 1000) (hb : Sl G pb nb cb 1 (O2 bs)) (hp : p + dB (d + 1) < 1099511627776) :
  Fn Tryz.prog 125 [.pointer (some ⟨br, 0, none⟩), .int .i64 ((d + 1 : Nat) : Int)] [rd br pb nb cb p] G
   (A0t br pb nb cb p (dB (d + 1)) (fun G' v => ∃ t cells, v = .agg ⟨cells⟩ ∧ C3 G' t cells ∧ K7 t ≤ ((dB (d + 1) : Nat) : Int))) :=
 (A4v br pb nb cb bs hnb d p G hd hb hp).mono fun G' v outs _ ⟨p', h1, h2, h3, t, cells, h4, h5, h6, _⟩ => ⟨p', h1, h2, h3, t, cells, h4, h5, h6⟩
theorem B4F (br : Nat) (pb : Option Addr) (nb cb : Nat) (bs : List UInt8) (hnb : nb ≤ 2000) (p : Nat) (G : IM) (hb : Sl G pb nb cb 1 (O2 bs)) (hp : p + 31 < 1099511627776) :
  Fn Tryz.prog 123 [.pointer (some ⟨br, 0, none⟩)] [rd br pb nb cb p] G
   (A0t br pb nb cb p 31 (fun G' v => ∃ t cells, v = .agg ⟨cells⟩ ∧ C3 G' t cells ∧ K7 t ≤ 30 ∧ R5 3 t)) := by
 refine C6 Tryz.func123 rfl Tryz.ntmps123 Tryz.results123 rfl ?_
 intro w0
 refine A4 ?_
 refine sE (A9 rfl) rfl (fun b3 => ?_)
 refine A8 ?_
 (refine I3 (D0 rfl rfl rfl (by omega) (by unfold maxLen; omega) rfl) rfl ?_; rintro _ ⟨b10, rfl⟩)
 (refine U6 (by repeat (first | exact Pk.here | apply Pk.there)) (fun G1 hle1 hsl1 _ => ?_); refine J9 rfl (A0m G1 br pb nb cb p bs _ _ _ _ (hb.mono hle1) hnb (by omega) hsl1 (by decide)) (Pk.perm (by repeat (first | exact Pk.here | apply Pk.there))) rfl rfl (fun v G2 outs hle2 hh => ?_); obtain ⟨rfl, rfl, hv⟩ := hh; replace hb := hb.mono hle1; obtain ⟨d, rfl, hd⟩ : ∃ d : Nat, v = .int .i64 ((d + 1 : Nat) : Int) ∧ d ≤ 3 := (by simp only [List.mem_cons, List.not_mem_nil, or_false] at hv; rcases hv with rfl | rfl | rfl | rfl | rfl <;> first | exact ⟨0, rfl, by decide⟩ | exact ⟨1, rfl, by decide⟩ | exact ⟨2, rfl, by decide⟩ | exact ⟨3, rfl, by decide⟩))
 (have hdB := B4D hd; refine J9 rfl (A4v br pb nb cb bs hnb d (p + 1) G2 (by omega) hb (by omega)) (Pk.perm (by repeat (first | exact Pk.here | apply Pk.there))) rfl rfl (fun v G3 outs hle3 hh => ?_); obtain ⟨p3, hp31, hp32, rfl, t3, cells3, rfl, hr3, hs3, ha3⟩ := hh; obtain ⟨q3, c3, es3, rfl, _⟩ := hr3.open)
 refine B4 ?_
 refine H7 (outs := [rd br pb nb cb p3]) (rC rfl (A5 rfl rfl)) (by repeat (first | exact A1.nil | refine A1.cons Pk.here ?_ | refine A1.cons (Pk.there Pk.here) ?_ | apply A1.drop)) ?_
 exact ⟨p3, by omega, by omega, rfl, t3, _, rfl, hr3, by omega, ha3.le hd⟩
theorem B4G (br : Nat) (pb : Option Addr) (nb cb : Nat) (bs : List UInt8) (hnb : nb ≤ 2000) (p : Nat) (G : IM) (hb : Sl G pb nb cb 1 (O2 bs)) (hp : p + 31 < 1099511627776) :
  Fn Tryz.prog 123 [.pointer (some ⟨br, 0, none⟩)] [rd br pb nb cb p] G
   (A0t br pb nb cb p 31 (fun G' v => ∃ t cells, v = .agg ⟨cells⟩ ∧ C3 G' t cells ∧ K7 t ≤ 30)) :=
 (B4F br pb nb cb bs hnb p G hb hp).mono fun G' v outs _ ⟨p', h1, h2, h3, t, cells, h4, h5, h6, _⟩ => ⟨p', h1, h2, h3, t, cells, h4, h5, h6⟩
theorem B4H (k : Int) (ks : List Ty) (G : IM) (p : Option Addr) (c : Nat) (hts : (Ty.mk k ks).small) (hr : C3 G (.mk k ks) [.int .i64 k, .slice p ks.length c]) : Fn Tryz.prog 161 [.agg ⟨[.int .i64 k, .slice p ks.length c]⟩] [] G
  (fun G' v outs => ∃ p c es, v = .agg ⟨[.int .i64 k, .slice p ks.length c]⟩ ∧ outs = [.slc p c 34 2 ks.length es.flatten] ∧ D5 G' ks es) := by
 simp only [Ty.small] at hts
 obtain ⟨hsm, hks⟩ := hts
 obtain ⟨p', c', es, he, hk, hsl, hkl⟩ := hr.open
 simp only [Ty.k, Ty.ks, List.cons.injEq, Value.slice.injEq, true_and, and_true] at he hk hsl hkl
 obtain ⟨rfl, rfl⟩ := he
 have hn := hsl.le
 refine C6 Tryz.func161 rfl Tryz.ntmps161 Tryz.results161 rfl ?_
 intro w0
 refine A4 ?_
 refine sE (C9 rfl rfl) rfl (fun b3 => ?_)
 refine sE (A9 rfl) rfl (fun b4 => ?_)
 refine B7 ?_
 refine sE (A9 rfl) rfl (fun b12 => ?_)
 refine E1 ?_
 refine C5 ?_
 (refine V0 34 2 ?_; refine K2 (fun (x : Nat × Option Addr × Nat × List (List Value) × IM) => ⟨[(4, .int .i64 x.1), (3, .pointer (some ⟨b12, 0, none⟩)), (1, .pointer (some ⟨b3, 0, none⟩)), (2, .pointer (some ⟨b4, 0, none⟩))], [.blk b12 [.int .i64 k, .slice x.2.1 x.1 x.2.2.1], .slc x.2.1 x.2.2.1 34 2 x.1 x.2.2.2.1.flatten, .blk b4 [.int .i64 0, .slice none 0 0], .blk b3 [.int .i64 k, .slice p ks.length c]], x.2.2.2.2⟩) (fun x => x.1 ≤ ks.length ∧ C4 G x.2.2.2.2 ∧ D5 x.2.2.2.2 (ks.take x.1) x.2.2.2.1) (fun x => ks.length - x.1) (0, none, 0, [], G) ?_ ?_ ?_)
 (simp only [I1]; exact D6)
 exact ⟨by simp, C4.refl _, by simp [D5]⟩
 (rintro ⟨i, pn, cn, es', Gi⟩ ⟨hi, hle, hst⟩; simp only [] at hi hle hst ⊢; replace hsl := hsl.mono hle; replace hkl := hkl.mono hle)
 refine B7 ?_
 refine sB (J4 rfl rfl) rfl rfl (fun h34 => ?_) (fun h34 => ?_)
 refine A8 ?_
 refine C5 ?_
 (obtain ⟨b, o, p2, c2, rfl, hat, hre, hgb⟩ := hsl.kidTy hkl (i := i) (by omega) (by omega); refine D7 D8 rfl ?_)
 refine I6 (i := 0) (l' := [tt,ff,ff,ff,ff,ff,ff,ff,ff,ff,ff,ff]) rfl D2 (B8 rfl) rfl (by kernel_rfl) rfl rfl ?_
 refine aL 1 rfl (C7 rfl rfl) rfl ?_
 refine aP 2 rfl (B8 rfl) rfl ?_
 refine aL 3 rfl (C7 rfl rfl) rfl ?_
 refine aP 4 rfl (qM rfl) rfl ?_
 refine aP 5 rfl (B5 rfl rfl rfl (by omega)) rfl ?_
 refine aL 6 rfl (A3 rfl rfl (hat _) rfl) rfl ?_
 refine A2 7 ?_
 (refine H3 rfl rfl (Q5 ks[i] _ _ (Ty.smallL_mem hks _ (List.getElem_mem (by omega))) hre) rfl rfl rfl (fun v G1 hle1 hh => ?_); obtain ⟨cells', F', rfl, hs', hnd'⟩ := hh; have hr' := hs'.R.mono (C2.le _ _); obtain ⟨p3, c3, es3, rfl, _⟩ := hr'.open)
 refine A2 8 ?_
 (refine E2 rfl (D0 rfl rfl rfl (by omega) (by unfold maxLen; omega) rfl) rfl rfl ?_; rintro _ ⟨b53, rfl⟩)
 refine A2 9 ?_
 refine P5 rfl rfl rfl rfl rfl rfl (fun _ _ => by repeat (first | exact Sw.here | apply Sw.there)) (M9 (by repeat first | exact mH | apply mT)) rfl (by simp [Value.oneCell']) (by unfold maxLen; omega) (by omega) rfl rfl (by repeat (first | exact A7.nil | apply A7.dep (by decide +kernel) | apply A7.blk (by decide +kernel) (by repeat (first | exact Pk.here | apply Pk.there)) (by repeat first | exact mH | apply mT))) (fun pn' cn' => ?_)
 refine aP 10 rfl (B8 rfl) rfl ?_
 refine A2 11 ?_
 refine Q8 rfl rfl rfl rfl rfl rfl rfl rfl (by kernel_rfl) (by repeat first | exact Sw.here | apply Sw.there) (by rfl) ?_
 refine B0 ?_
 refine sP (H9 rfl rfl (by omega) (by omega)) rfl rfl ?_
 refine A4 ?_
 refine I5 (i + 1, pn', cn', es' ++ [[.int .i64 ks[i].k, .slice p3 ks[i].ks.length c3]], G1) ?_ ?_ ?_
 (simp only [I1]; exact D6)
 (dsimp only; exact ⟨by omega, hle.trans hle1, by rw [List.take_succ_eq_append_getElem (by omega)]; exact D5.snoc (hst.mono hle1) hr'⟩)
 exact V5
 refine I7 ?_
 (obtain rfl : i = ks.length := (by omega); refine H7 (outs := [.slc pn cn 34 2 ks.length es'.flatten]) (rC rfl (A5 rfl rfl)) (by repeat (first | exact A1.nil | refine A1.cons Pk.here ?_ | refine A1.cons (Pk.there Pk.here) ?_ | apply A1.drop)) ?_)
 (rw [List.take_length] at hst; exact ⟨pn, cn, es', rfl, rfl, hst⟩)
theorem A0Q (G : IM) : C3 G R4 [.int .i64 1, .slice none 0 0] := by
 simp only [R4, C3]
 exact ⟨none, 0, [], rfl, ⟨by omega, by omega⟩, E3.of (Sl.nil _ _) rfl (by simp) (by simp), by simp [D5]⟩
theorem A6W : K7 R4 = 0 := rfl
theorem B4I (br : Nat) (pb : Option Addr) (nb cb : Nat) (bs : List UInt8) (hnb : nb ≤ 2000) (p : Nat) (G : IM) (hb : Sl G pb nb cb 1 (O2 bs)) (hp : p + 31 < 1099511627776) (t : Ty) (cells : List Value) (hr : C3 G t cells) (hsz : K7 t ≤ 30) :
  Fn Tryz.prog 122 [.pointer (some ⟨br, 0, none⟩), .agg ⟨cells⟩] [rd br pb nb cb p] G
   (A0t br pb nb cb p 2 (fun G' v => ∃ t cells, v = .agg ⟨cells⟩ ∧ C3 G' t cells ∧ K7 t ≤ 38)) := by
 have hts := A4n t (by omega)
 obtain ⟨k, ks⟩ := t
 rw [K7] at hsz
 have hsn := A2l ks
 obtain ⟨q0, c0, es0, rfl, hk, _⟩ := hr.open
 simp only [Ty.k, Ty.ks] at hk hr ⊢
 refine C6 Tryz.func122 rfl Tryz.ntmps122 Tryz.results122 rfl ?_
 intro w0
 refine A4 ?_
 refine sE (C9 rfl rfl) rfl (fun b3 => ?_)
 refine sE (A9 rfl) rfl (fun b4 => ?_)
 refine B0 ?_
 (refine A0Y rfl (B4H k ks G q0 c0 hts hr) rfl rfl (fun v G1 outs hle1 hh => ?_); obtain ⟨q, c, es, rfl, rfl, hst⟩ := hh)
 refine sE (A9 rfl) rfl (fun b11 => ?_)
 refine B7 ?_
 (refine J9 rfl (Z1 G1 br pb nb cb p bs 40 (hb.mono hle1) hnb (by omega)) (Pk.perm (by repeat (first | exact Pk.here | apply Pk.there))) rfl rfl (fun v G2 outs hle2 hh => ?_); obtain ⟨rfl, rfl, j, rfl, hj0, hj1⟩ := hh; replace hb := hb.mono hle1)
 refine A4 ?_
 (show J3 _ _ (.block 0 _) _ _; refine A0l (fun (x : Ty × Option Addr × Nat × Nat × IM) => ⟨[(5, .pointer (some ⟨b11, 0, none⟩)), (4, .pointer (some ⟨b4, 0, none⟩))], [.blk b11 [.int .i64 x.1.k, .slice x.2.1 x.1.ks.length x.2.2.1], .blk b4 [.int .i64 0, .slice none 0 0], rd br pb nb cb x.2.2.2.1], x.2.2.2.2⟩) (fun x => C4 G2 x.2.2.2.2 ∧ C3 x.2.2.2.2 x.1 [.int .i64 x.1.k, .slice x.2.1 x.1.ks.length x.2.2.1] ∧ K7 x.1 ≤ 38 ∧ p ≤ x.2.2.2.1 ∧ x.2.2.2.1 ≤ p + 2) ?_ ?_)
 refine C5 (tS (tR (sB (qE rfl rfl) rfl rfl (fun h26 => ?_) (fun h26 => ?_))))
 refine A8 ?_
 (refine I3 (D0 rfl rfl rfl (by omega) (by unfold maxLen; omega) rfl) rfl ?_; rintro _ ⟨b33, rfl⟩)
 (refine U6 (by repeat (first | exact Pk.here | apply Pk.there)) (fun G3 hle3 hsl3 _ => ?_); refine U6 (by repeat (first | exact Pk.here | apply Pk.there)) (fun G4 hle4 hsl4 _ => ?_); refine J9 rfl (A0m G4 br pb nb cb (p + 1) bs _ _ _ _ (hb.mono (hle3.trans hle4)) hnb (by omega) (hsl3.mono hle4) (by decide)) (Pk.perm (by repeat (first | exact Pk.here | apply Pk.there))) rfl rfl (fun v G5 outs hle5 hh => ?_); obtain ⟨rfl, rfl, hv⟩ := hh; obtain ⟨k', rfl, hk'⟩ : ∃ k', v = .int .i64 k' ∧ H0 k' := (by simp only [List.mem_cons, List.not_mem_nil, or_false] at hv; rcases hv with rfl | rfl | rfl | rfl | rfl <;> exact ⟨_, rfl, by unfold H0; omega⟩))
 refine B4 ?_
 refine Q6 (.mk k' ks, q, c, p + 2, G5) ?_ ?_
 (simp only [I1]; exact D6)
 (dsimp only; exact ⟨hle3.trans hle4, (hst.mono (hle3.trans hle4)).ty rfl hsl4 hk', by (rw [K7]; omega), by omega, by omega⟩)
 refine A8 ?_
 refine sB (qE rfl rfl) rfl rfl (fun h48 => ?_) (fun h48 => ?_)
 refine B4 ?_
 refine D7 D8 rfl ?_
 refine I6 (i := 0) (l' := [tt,ff,ff,ff,ff,ff,ff]) rfl D2 (B8 rfl) rfl (by kernel_rfl) rfl rfl ?_
 refine aL 1 rfl (C7 rfl rfl) rfl ?_
 refine A2 2 ?_
 refine N6 rfl rfl ((A17 _)) rfl rfl rfl ?_
 refine A2 3 ?_
 (refine E2 rfl (D0 rfl rfl rfl (by omega) (by unfold maxLen; omega) rfl) rfl rfl ?_; rintro _ ⟨b59, rfl⟩)
 refine A2 4 ?_
 refine P5 rfl rfl rfl rfl rfl rfl (fun _ _ => by repeat (first | exact Sw.here | apply Sw.there)) (M9 (by repeat first | exact mH | apply mT)) rfl (by simp [Value.oneCell']) (by unfold maxLen; omega) (by omega) rfl rfl (by repeat (first | exact A7.nil | apply A7.dep (by decide +kernel) | apply A7.blk (by decide +kernel) (by repeat (first | exact Pk.here | apply Pk.there)) (by repeat first | exact mH | apply mT))) (fun qn cn => ?_)
 (refine A1X (cs := es.flatten ++ [.int .i64 1, .slice none 0 0]) (by repeat (first | exact Pk.here | apply Pk.there)) (fun G6 hle6 hsl6 _ => ?_))
 refine aP 5 rfl (B8 rfl) rfl ?_
 refine A2 6 ?_
 refine Q8 rfl rfl rfl rfl rfl rfl rfl rfl (by kernel_rfl) (by repeat first | exact Sw.here | apply Sw.there) (by rfl) ?_
 refine A4 ?_
 refine Q6 (.mk k (ks ++ [R4]), qn, cn, p + 1, G6) (by rw [show (Ty.mk k (ks ++ [R4])).ks.length = ks.length + 1 from by simp [Ty.ks]]; exact D6) ?_
 (dsimp only; refine ⟨hle6, D5.ty (ts := ks ++ [R4]) (es := es ++ [[.int .i64 1, .slice none 0 0]]) (D5.snoc (hst.mono hle6) (A0Q _)) rfl (by simpa [Ty.ks] using hsl6) hk, ?_, by omega, by omega⟩; rw [K7, A5v, A6W, List.length_append]; simp only [List.length_singleton]; omega)
 refine A8 ?_
 refine sB (qE rfl rfl) rfl rfl (fun h76 => ?_) (fun h76 => ?_)
 refine E1 ?_
 refine C5 ?_
 (refine A2i (by repeat (first | exact Pk.here | apply Pk.there)) (fun G3 hle3 hsl3 _ => ?_); refine K2 (fun (x : Nat × Ty × Option Addr × Nat × IM) => ⟨[(6, .int .i64 x.1), (5, .pointer (some ⟨b11, 0, none⟩)), (4, .pointer (some ⟨b4, 0, none⟩))], [.blk b11 [.int .i64 x.2.1.k, .slice x.2.2.1 x.2.1.ks.length x.2.2.2.1], .blk b4 [.int .i64 0, .slice none 0 0], rd br pb nb cb (p + 1)], x.2.2.2.2⟩) (fun x => x.1 ≤ 4 ∧ C4 G3 x.2.2.2.2 ∧ C3 x.2.2.2.2 x.2.1 [.int .i64 x.2.1.k, .slice x.2.2.1 x.2.1.ks.length x.2.2.2.1] ∧ K7 x.2.1 ≤ 30 + 2 * x.1) (fun x => 4 - x.1) (0, .mk k ks, q, c, G3) ?_ ?_ ?_)
 (simp only [I1]; exact D6)
 (dsimp only; exact ⟨by omega, C4.refl _, (hst.mono hle3).ty rfl hsl3 hk, by (rw [K7]; omega)⟩)
 (rintro ⟨i, ⟨tk, tks⟩, qi, ci, Gi⟩ ⟨hi, hlei, hri, hsi⟩; simp only [Ty.k, Ty.ks] at hi hlei hri hsi ⊢)
 refine B4 ?_
 refine sB (J4 rfl rfl) rfl rfl (fun h95 => ?_) (fun h95 => ?_)
 refine A8 ?_
 refine C5 ?_
 refine D7 D8 rfl ?_
 refine L3 (i := 1) (l' := [ff,tt,ff,ff,ff]) rfl D2 (A5 rfl rfl) rfl (by kernel_rfl) rfl rfl ?_
 refine A2 0 ?_
 refine N6 rfl rfl ((A17 _)) rfl rfl rfl ?_
 refine A2 2 ?_
 (refine E2 rfl (D0 rfl rfl rfl (by omega) (by unfold maxLen; omega) rfl) rfl rfl ?_; rintro _ ⟨b108, rfl⟩)
 (refine A1X (cs := [.int .i64 1, .slice none 0 0, .int .i64 tk, .slice qi tks.length ci]) (by repeat (first | exact Pk.here | apply Pk.there)) (fun G7 hle7 hsl7 _ => ?_))
 refine aP 3 rfl (Y0 rfl rfl) rfl ?_
 refine A2 4 ?_
 refine Q8 rfl rfl rfl rfl rfl rfl rfl rfl (by kernel_rfl) (by repeat first | exact Sw.here | apply Sw.there) (by rfl) ?_
 refine B0 ?_
 refine sP (H9 rfl rfl (by omega) (by omega)) rfl rfl ?_
 refine A4 ?_
 refine I5 (i + 1, .mk 4 [R4, .mk tk tks], some ⟨b108, 0, none⟩, 2, G7) ?_ ?_ ?_
 (simp only [I1]; exact D6)
 (dsimp only; refine ⟨by omega, hlei.trans hle7, D5.ty (ts := [R4, .mk tk tks]) (es := [[.int .i64 1, .slice none 0 0], [.int .i64 tk, .slice qi tks.length ci]]) ⟨_, _, rfl, A0Q _, _, _, rfl, hri.mono hle7, rfl⟩ rfl hsl7 ⟨by omega, by omega⟩, ?_⟩; rw [K7, P2, P2, P2, A6W]; simp only [List.length_cons, List.length_nil]; omega)
 (show 4 - (i + 1) < 4 - i; omega)
 refine D4 ?_
 refine Q6 (.mk tk tks, qi, ci, p + 1, Gi) ?_ ?_
 (simp only [I1]; exact D6)
 (dsimp only; exact ⟨hle3.trans hlei, hri, by omega, by omega, by omega⟩)
 refine B4 ?_
 (refine A2i (by repeat (first | exact Pk.here | apply Pk.there)) (fun G8 hle8 hsl8 _ => ?_); refine tK ?_)
 refine F8 ?_
 refine Q6 (.mk k ks, q, c, p + 1, G8) ?_ ?_
 (simp only [I1]; exact D6)
 (dsimp only; exact ⟨hle8, (hst.mono hle8).ty rfl hsl8 hk, by (rw [K7]; omega), by omega, by omega⟩)
 (rintro ⟨t', q', c', p', G'⟩ ⟨hle9, hr9, hs9, hp9, hp9'⟩; simp only [] at hle9 hr9 hs9 hp9 hp9' ⊢)
 refine B7 ?_
 refine H7 (outs := [rd br pb nb cb p']) (rC rfl (A5 rfl rfl)) (by repeat (first | exact A1.nil | refine A1.cons Pk.here ?_ | refine A1.cons (Pk.there Pk.here) ?_ | apply A1.drop)) ?_
 (exact ⟨p', by omega, by omega, rfl, t', _, rfl, hr9, by omega⟩)
mutual
def B4J : Tm → Tm
 | .mk k nm num ty fr lb ks => if k = 13 ∨ k = 14 then (A6X ks).headD J7 else .mk k nm num (if k = 5 then R4 else B3) B3 0 (A6X ks)
def A6X : List Tm → List Tm
 | [] => []
 | t :: ts => B4J t :: A6X ts
end
def B9l : Tm → Tm
 | .mk k nm num ty fr lb ks => if k = 13 ∨ k = 14 then ks.headD J7 else if k = 5 then .mk k nm num R4 fr lb ks else .mk k nm num ty fr lb ks
def B9m : Tm → Prop
 | .mk k _ _ _ _ _ ks => k = 13 ∨ k = 14 → ks ≠ []
theorem A2m {t : Ty} (h : A0P t = true) : t = B3 := by
 obtain ⟨k, ks⟩ := t
 obtain ⟨h1, h2⟩ : (Ty.mk k ks).k = 0 ∧ (Ty.mk k ks).ks.length = 0 := of_decide_eq_true h
 simp only [Ty.k, Ty.ks] at h1 h2
 have h3 : ks = [] := List.length_eq_zero_iff.1 (by omega)
 rw [h3, B3]
 congr
theorem A0R {D N : Int} {k : Int} {nm : ByteArray} {num : Int} {ty fr : Ty} {lb : Int} {ks : List Tm} {d : Int} (h : N5 D N (.mk k nm num ty fr lb ks) d = true) : d ≤ D ∧ k ≠ N ∧ W6 k nm num ty fr lb ks.length = true ∧ N7 D N ks (d + 1) = true := by
 rw [N5] at h
 simp only [Bool.and_eq_true, decide_eq_true_eq] at h
 exact ⟨h.1.1.1, h.1.1.2, h.1.2, h.2⟩
section slaws
variable {P : Program} {Γ : M0} {env : M6} {hp : List A6} {G : IM} {ty : TypeId}
theorem A5w {P : Program} {w : World} {l c : Nat} (hl : l ≤ c) (code : BoundsCode) : (Instr.sliceBound (.int .i64 (l : Int)) c code).run P w = .ok l w := by
 unfold Instr.sliceBound
 simp only [asIntOf, Sem.run_bind, Sem.run_pure, Result.andThen_ok]
 rw [if_pos ⟨by omega, by omega⟩]
 simp
theorem A6Y {x y z : Operand} {t : TypeId} {i : L4} [hI : I0 P t i] (hd' : i.desc = .string) {s : ByteArray} {l h : Nat}
  (hx : evo env x = some (.string s)) (hy : evo env y = some (.int .i64 (l : Int))) (hz : evo env z = some (.int .i64 (h : Int))) (hl : l ≤ h) (hh : h ≤ s.size) :
  J1 P Γ ⟨env, hp, G⟩ (.slice t x (some y) (some z) none) ty (.string (s.extract l h)) := by
 refine ⟨fun a _ hs _ _ _ _ w => ?_⟩
 have hu := hI.und
 rw [hd'] at hu
 simp [execOp, (hs.evo hx : a.eval x = _), (hs.evo hy : a.eval y = _), (hs.evo hz : a.eval z = _), Instr.sliceAt, Sem.run_bind, run_underlying hu, Instr.slice, Instr.sliceBounds, A5w hl, A5w hh]
theorem A9Q {x z : Operand} {t : TypeId} {i : L4} [hI : I0 P t i] (hd' : i.desc = .string) {s : ByteArray} {h : Nat}
  (hx : evo env x = some (.string s)) (hz : evo env z = some (.int .i64 (h : Int))) (hh : h ≤ s.size) :
  J1 P Γ ⟨env, hp, G⟩ (.slice t x none (some z) none) ty (.string (s.extract 0 h)) := by
 refine ⟨fun a _ hs _ _ _ _ w => ?_⟩
 have hu := hI.und
 rw [hd'] at hu
 simp [execOp, (hs.evo hx : a.eval x = _), (hs.evo hz : a.eval z = _), Instr.sliceAt, Sem.run_bind, run_underlying hu, Instr.slice, Instr.sliceBounds, A5w hh]
theorem A9R {x y : Operand} {t : TypeId} {i : L4} [hI : I0 P t i] (hd' : i.desc = .string) {s : ByteArray} {l : Nat}
  (hx : evo env x = some (.string s)) (hy : evo env y = some (.int .i64 (l : Int))) (hl : l ≤ s.size) :
  J1 P Γ ⟨env, hp, G⟩ (.slice t x (some y) none none) ty (.string (s.extract l s.size)) := by
 refine ⟨fun a _ hs _ _ _ _ w => ?_⟩
 have hu := hI.und
 rw [hd'] at hu
 simp [execOp, (hs.evo hx : a.eval x = _), (hs.evo hy : a.eval y = _), Instr.sliceAt, Sem.run_bind, run_underlying hu, Instr.slice, Instr.sliceBounds, A5w hl]
theorem B4K {x y : Operand} {t t' : TypeId} {r s : ByteArray} (hx : evo env x = some (.string r)) (hy : evo env y = some (.string s)) :
  J1 P Γ ⟨env, hp, G⟩ (.binOp .lss t x y t') ty (.bool (decide (Op.bytesLess r.toList s.toList = true))) := by
 refine ⟨fun a _ hs _ _ _ _ w => ?_⟩
 simp only [execOp, eqGuard, binOp, Op.stringOp, (hs.evo hx : a.eval x = _), (hs.evo hy : a.eval y = _)]
 simp
end slaws
theorem A9S {Q : Prop} (h : Q := by (exact ⟨rfl, rfl, _, rfl, by simp only [ByteArray.size_extract, ByteArray.size_append]; omega⟩)) : Q := h
theorem B4L (s nm : ByteArray) (G : IM) (hs : s.size ≤ 1000) (hn : nm.size ≤ 1000) :
  Fn Tryz.prog 208 [.string s, .string nm] [] G (fun G' v outs => G' = G ∧ outs = [] ∧ ∃ r, v = .string r ∧ r.size ≤ s.size + nm.size) := by
 refine C6 Tryz.func208 rfl Tryz.ntmps208 Tryz.results208 rfl ?_
 intro w0
 refine J8 ?_
 refine C5 ?_
 (refine K2 (fun (i : Nat) => ⟨[(5, .int .i64 (i : Int)), (0, .string s), (1, .string nm)], [], G⟩) (fun i => i ≤ s.size) (fun i => s.size - i) 0 ?_ ?_ ?_)
 exact D6
 exact Nat.zero_le _
 (intro i hi)
 refine B0 ?_
 refine sQ (A2J rfl rfl) rfl (sB (J4 rfl rfl) rfl rfl (fun h23 => ?_) (fun h23 => ?_))
 refine B4 ?_
 refine sP (A1Z (n := 1) rfl rfl (by omega)) rfl rfl ?_
 refine sP (A6Y (h := i + 1) rfl rfl rfl rfl (by omega) (by omega)) rfl rfl ?_
 refine F8 ?_
 refine sB (B4K rfl rfl) rfl rfl (fun h31 => ?_) (fun h31 => ?_)
 refine A8 ?_
 refine C5 ?_
 refine A4 ?_
 refine sP (A1Z (n := 1) rfl rfl (by omega)) rfl rfl ?_
 refine B9 ?_
 refine I5 (i + 1) ?_ ?_ ?_
 exact D6
 (show _ ≤ s.size; omega)
 (show s.size - _ < s.size - _; omega)
 refine J5 ?_
 refine sQ (A2J rfl rfl) rfl ?_
 refine sP (A8p rfl rfl (by omega)) rfl rfl ?_
 refine B4 ?_
 refine sP (A1Z (n := 1) rfl rfl (by omega)) rfl rfl ?_
 refine sP (A6Y (h := i + 1) rfl rfl rfl rfl (by omega) (by omega)) rfl rfl ?_
 refine F8 ?_
 refine sB (A1T rfl rfl) rfl rfl (fun h72 => ?_) (fun h72 => ?_)
 refine N4 ?_
 refine H7 (outs := []) (rT rfl) A1.nil ?_
 (exact ⟨rfl, rfl, _, rfl, Nat.le_add_right _ _⟩)
 refine B7 ?_
 refine D7 D8 rfl ?_
 refine I6 (i := 0) (l' := [tt,ff,ff,ff,ff,ff,ff,ff,ff,ff]) rfl D2 (qM rfl) rfl (by kernel_rfl) rfl rfl ?_
 refine aP 1 rfl (qM rfl) rfl ?_
 refine aP 2 rfl (A9Q rfl rfl rfl (by omega)) rfl ?_
 refine aP 3 rfl (qM rfl) rfl ?_
 refine aP 4 rfl (A3o rfl rfl (by simp only [ByteArray.size_extract, ByteArray.size_append]; omega)) rfl ?_
 refine aP 5 rfl (qM rfl) rfl ?_
 refine aP 6 rfl (qM rfl) rfl ?_
 refine aP 7 rfl (A9R rfl rfl rfl (by omega)) rfl ?_
 refine aP 8 rfl (A3o rfl rfl (by simp only [ByteArray.size_extract, ByteArray.size_append]; omega)) rfl ?_
 refine aP 9 rfl (qA rfl) rfl ?_
 refine B9 ?_
 refine H7 (outs := []) (rT rfl) A1.nil ?_
 exact A9S
 refine A8z ?_
 refine sQ (A2J rfl rfl) rfl ?_
 refine sP (A3s rfl rfl (by omega)) rfl rfl ?_
 refine I7 ?_
 refine D7 D8 rfl ?_
 refine I6 (i := 0) (l' := [tt,ff,ff,ff,ff,ff,ff,ff,ff,ff]) rfl D2 (qM rfl) rfl (by kernel_rfl) rfl rfl ?_
 refine aP 1 rfl (qM rfl) rfl ?_
 refine aP 2 rfl (A9Q rfl rfl rfl (by omega)) rfl ?_
 refine aP 3 rfl (qM rfl) rfl ?_
 refine aP 4 rfl (A3o rfl rfl (by simp only [ByteArray.size_extract, ByteArray.size_append]; omega)) rfl ?_
 refine aP 5 rfl (qM rfl) rfl ?_
 refine aP 6 rfl (qM rfl) rfl ?_
 refine aP 7 rfl (A9R rfl rfl rfl (by omega)) rfl ?_
 refine aP 8 rfl (A3o rfl rfl (by simp only [ByteArray.size_extract, ByteArray.size_append]; omega)) rfl ?_
 refine aP 9 rfl (qA rfl) rfl ?_
 refine B9 ?_
 refine H7 (outs := []) (rT rfl) A1.nil ?_
 exact A9S
theorem A18 (G : IM) : C3 G B3 [.int .i64 0, .slice none 0 0] := by
 simp only [B3, C3]
 exact ⟨none, 0, [], rfl, ⟨by omega, by omega⟩, E3.of (Sl.nil _ _) rfl (by simp) (by simp), by simp [D5]⟩
theorem A6Z : K7 B3 = 0 := rfl
theorem E5.tm {G : IM} {k : Int} {nm : ByteArray} {num : Int} {t : Ty} {q : Option Addr} {d : Nat} {ts : List Tm} {es : List (List Value)} {p : Option Addr} {n c : Nat} (h : E5 G ts es) (hn : ts.length = n) (hs : Sl G p n c 9 es.flatten) (hk : H0 k) (hm : H0 num)
  (ht : C3 G t [.int .i64 t.k, .slice q t.ks.length d]) : B1 G (.mk k nm num t B3 0 ts) [.int .i64 k, .string nm, .int .i64 num, .int .i64 t.k, .slice q t.ks.length d, .int .i64 0, .slice none 0 0, .int .i64 0, .slice p n c] := by
 subst hn
 simp only [B1]
 exact ⟨_, _, p, c, es, rfl, hk, hm, ⟨by omega, by omega⟩, ht, A18 G, E3.of hs h.len h.all (fun e he => (h.each e he).2), h⟩
theorem A19 {G : IM} {k : Int} {nm : ByteArray} {num : Int} (hk : H0 k) (hm : H0 num) :
  B1 G (.mk k nm num B3 B3 0 []) [.int .i64 k, .string nm, .int .i64 num, .int .i64 0, .slice none 0 0, .int .i64 0, .slice none 0 0, .int .i64 0, .slice none 0 0] :=
 E5.tm (ts := []) (es := []) (t := B3) (by simp [E5]) rfl (Sl.nil _ _) hk hm (A18 G)
theorem A2n (k : Int) (nm : ByteArray) (num : Int) : A0s (.mk k nm num B3 B3 0 []) = nm.size := by
 rw [A0s, A6Z, Y4]; simp
theorem A60 : ∀ (ts : List Tm) (t : Tm), Y4 (ts ++ [t]) = Y4 ts + A0s t
 | [], t => by simp [Y4]
 | a :: ts, t => by simp only [List.cons_append, Y4, A60 ts t]; omega
theorem A1B (k : Int) : D9 k ≤ 3 := by
 unfold D9; repeat (split; omega)
 omega
theorem A61 {d : Nat} (h : d ≤ 2) : dB (d + 1) ≤ 14 := by
 have : d = 0 ∨ d = 1 ∨ d = 2 := by omega
 rcases this with rfl | rfl | rfl <;> decide
theorem A21 (n : Int) (G : IM) : Fn Tryz.prog 159 [.int .i64 n] [] G (J0 (.agg ⟨[.int .i64 2, .string ⟨⟨[]⟩⟩, .int .i64 n, .int .i64 0, .slice none 0 0, .int .i64 0, .slice none 0 0, .int .i64 0, .slice none 0 0]⟩) G) := by
 refine C6 Tryz.func159 rfl Tryz.ntmps159 Tryz.results159 rfl ?_
 intro w0
 refine A4 ?_
 refine sE (A9 rfl) rfl (fun b3 => ?_)
 refine J2 ?_
 refine N9 (rC rfl (A5 rfl rfl)) ?_
 exact ⟨rfl, rfl, rfl⟩
theorem A9T (br : Nat) (pb : Option Addr) (nb cb : Nat) (bs : List UInt8) (hnb : nb ≤ 2000) (p : Nat) (G : IM) (hb : Sl G pb nb cb 1 (O2 bs)) (hp : p + 3 < 1099511627776) (s : ByteArray) (hs : s.size ≤ 1000) :
  Fn Tryz.prog 207 [.pointer (some ⟨br, 0, none⟩), .string s] [rd br pb nb cb p] G
   (A0t br pb nb cb p 3 (fun G' v => ∃ t cells, v = .agg ⟨cells⟩ ∧ B1 G' t cells ∧ A0s t ≤ 1)) := by
 refine C6 Tryz.func207 rfl Tryz.ntmps207 Tryz.results207 rfl ?_
 intro w0
 refine A4 ?_
 refine sE (A9 rfl) rfl (fun b3 => ?_)
 refine A8 ?_
 refine sQ (A2J rfl rfl) rfl ?_
 refine sB (A0g rfl rfl) rfl rfl (fun h11 => ?_) (fun h11 => ?_)
 refine A4 ?_
 (refine J9 rfl (Z1 _ br pb nb cb p bs _ hb hnb (by omega)) (Pk.perm (by repeat (first | exact Pk.here | apply Pk.there))) rfl rfl (fun v14 G14 outs14 hle14 hh => ?_); obtain ⟨rfl, rfl, j14, rfl, hj14, hk14⟩ := hh; obtain ⟨i14, rfl⟩ := Int.eq_ofNat_of_zero_le hj14)
 replace hb := hb.mono hle14
 refine sB (A0g rfl rfl) rfl rfl (fun h15 => ?_) (fun h15 => ?_)
 refine D4 ?_
 refine sQ (A2J rfl rfl) rfl ?_
 (refine J9 rfl (Z1 _ br pb nb cb (p + 1) bs _ hb hnb (by omega)) (Pk.perm (by repeat (first | exact Pk.here | apply Pk.there))) rfl rfl (fun v25 G25 outs25 hle25 hh => ?_); obtain ⟨rfl, rfl, j25, rfl, hj25, hk25⟩ := hh; obtain ⟨i25, rfl⟩ := Int.eq_ofNat_of_zero_le hj25)
 replace hb := hb.mono hle25
 refine D4 ?_
 refine sP (A1Z (n := 1) rfl rfl (by omega)) rfl rfl ?_
 refine sP (A6Y rfl rfl rfl rfl (by omega) (by omega)) rfl rfl ?_
 refine A8 ?_
 refine H7 (outs := [rd br pb nb cb (p + 1 + 1)]) (rC rfl (A5 rfl rfl)) (by repeat (first | exact A1.nil | refine A1.cons Pk.here ?_ | refine A1.cons (Pk.there Pk.here) ?_ | refine A1.cons (Pk.there (Pk.there Pk.here)) ?_ | apply A1.drop)) ?_
 focus (refine ⟨_, ?_, ?_, rfl, _, _, rfl, A19 ⟨by omega, by omega⟩ ⟨by omega, by omega⟩, ?_⟩; all_goals (try rw [A2n]); all_goals (first | omega | (simp only [ByteArray.size_extract]; omega) | decide))
 refine J2 ?_
 (refine J9 rfl (Z1 _ br pb nb cb (p + 1) bs _ hb hnb (by omega)) (Pk.perm (by repeat (first | exact Pk.here | apply Pk.there))) rfl rfl (fun v54 G54 outs54 hle54 hh => ?_); obtain ⟨rfl, rfl, j54, rfl, hj54, hk54⟩ := hh; obtain ⟨i54, rfl⟩ := Int.eq_ofNat_of_zero_le hj54)
 replace hb := hb.mono hle54
 refine A4 ?_
 refine C5 (tS (tR (sB (qE rfl rfl) rfl rfl (fun h60 => ?_) (fun h60 => ?_))))
 refine K4 ?_
 refine H7 (outs := [rd br pb nb cb (p + 1 + 1)]) (rC rfl (A5 rfl rfl)) (by repeat (first | exact A1.nil | refine A1.cons Pk.here ?_ | refine A1.cons (Pk.there Pk.here) ?_ | refine A1.cons (Pk.there (Pk.there Pk.here)) ?_ | apply A1.drop)) ?_
 focus (refine ⟨_, ?_, ?_, rfl, _, _, rfl, A19 ⟨by omega, by omega⟩ ⟨by omega, by omega⟩, ?_⟩; all_goals (try rw [A2n]); all_goals (first | omega | (simp only [ByteArray.size_extract]; omega) | decide))
 refine A8 ?_
 refine sB (qE rfl rfl) rfl rfl (fun h82 => ?_) (fun h82 => ?_)
 refine K4 ?_
 refine H7 (outs := [rd br pb nb cb (p + 1 + 1)]) (rC rfl (A5 rfl rfl)) (by repeat (first | exact A1.nil | refine A1.cons Pk.here ?_ | refine A1.cons (Pk.there Pk.here) ?_ | refine A1.cons (Pk.there (Pk.there Pk.here)) ?_ | apply A1.drop)) ?_
 focus (refine ⟨_, ?_, ?_, rfl, _, _, rfl, A19 ⟨by omega, by omega⟩ ⟨by omega, by omega⟩, ?_⟩; all_goals (try rw [A2n]); all_goals (first | omega | (simp only [ByteArray.size_extract]; omega) | decide))
 refine J2 ?_
 (refine I3 (D0 rfl rfl rfl (by omega) (by unfold maxLen; omega) rfl) rfl ?_; rintro _ ⟨b108, rfl⟩)
 (refine U6 (by repeat (first | exact Pk.here | apply Pk.there)) (fun Gf hlef hslf _ => ?_); refine J9 rfl (A0m Gf br pb nb cb (p + 1 + 1) bs _ _ _ _ (hb.mono hlef) hnb (by omega) hslf (by decide)) (Pk.perm (by repeat (first | exact Pk.here | apply Pk.there))) rfl rfl (fun v Gn outs hlen hh => ?_); obtain ⟨rfl, rfl, hv⟩ := hh; obtain ⟨kn, rfl, hkn⟩ : ∃ k, v = .int .i64 k ∧ H0 k := (by simp only [List.mem_cons, List.not_mem_nil, or_false] at hv; rcases hv with rfl | rfl | rfl | rfl | rfl | rfl <;> exact ⟨_, rfl, by unfold H0; omega⟩))
 refine H6 rfl ((A21 _ _)) rfl rfl ?_
 refine B4 ?_
 refine H7 (outs := [rd br pb nb cb (p + 1 + 1 + 1)]) (rC rfl (A5 rfl rfl)) (by repeat (first | exact A1.nil | refine A1.cons Pk.here ?_ | refine A1.cons (Pk.there Pk.here) ?_ | refine A1.cons (Pk.there (Pk.there Pk.here)) ?_ | apply A1.drop)) ?_
 focus (refine ⟨_, ?_, ?_, rfl, _, _, rfl, A19 ⟨by omega, by omega⟩ hkn, ?_⟩; all_goals (try rw [A2n]); all_goals (first | omega | decide))
 refine J5 ?_
 (refine J9 rfl (Z1 _ br pb nb cb p bs _ hb hnb (by omega)) (Pk.perm (by repeat (first | exact Pk.here | apply Pk.there))) rfl rfl (fun v131 G131 outs131 hle131 hh => ?_); obtain ⟨rfl, rfl, j131, rfl, hj131, hk131⟩ := hh; obtain ⟨i131, rfl⟩ := Int.eq_ofNat_of_zero_le hj131)
 replace hb := hb.mono hle131
 refine A4 ?_
 refine C5 (tS (tR (sB (qE rfl rfl) rfl rfl (fun h137 => ?_) (fun h137 => ?_))))
 refine K4 ?_
 refine H7 (outs := [rd br pb nb cb (p + 1)]) (rC rfl (A5 rfl rfl)) (by repeat (first | exact A1.nil | refine A1.cons Pk.here ?_ | refine A1.cons (Pk.there Pk.here) ?_ | refine A1.cons (Pk.there (Pk.there Pk.here)) ?_ | apply A1.drop)) ?_
 focus (refine ⟨_, ?_, ?_, rfl, _, _, rfl, A19 ⟨by omega, by omega⟩ ⟨by omega, by omega⟩, ?_⟩; all_goals (try rw [A2n]); all_goals (first | omega | (simp only [ByteArray.size_extract]; omega) | decide))
 refine A8 ?_
 refine sB (qE rfl rfl) rfl rfl (fun h159 => ?_) (fun h159 => ?_)
 refine K4 ?_
 refine H7 (outs := [rd br pb nb cb (p + 1)]) (rC rfl (A5 rfl rfl)) (by repeat (first | exact A1.nil | refine A1.cons Pk.here ?_ | refine A1.cons (Pk.there Pk.here) ?_ | refine A1.cons (Pk.there (Pk.there Pk.here)) ?_ | apply A1.drop)) ?_
 focus (refine ⟨_, ?_, ?_, rfl, _, _, rfl, A19 ⟨by omega, by omega⟩ ⟨by omega, by omega⟩, ?_⟩; all_goals (try rw [A2n]); all_goals (first | omega | (simp only [ByteArray.size_extract]; omega) | decide))
 refine J2 ?_
 (refine I3 (D0 rfl rfl rfl (by omega) (by unfold maxLen; omega) rfl) rfl ?_; rintro _ ⟨b185, rfl⟩)
 (refine U6 (by repeat (first | exact Pk.here | apply Pk.there)) (fun Gf hlef hslf _ => ?_); refine J9 rfl (A0m Gf br pb nb cb (p + 1) bs _ _ _ _ (hb.mono hlef) hnb (by omega) hslf (by decide)) (Pk.perm (by repeat (first | exact Pk.here | apply Pk.there))) rfl rfl (fun v Gn outs hlen hh => ?_); obtain ⟨rfl, rfl, hv⟩ := hh; obtain ⟨kn, rfl, hkn⟩ : ∃ k, v = .int .i64 k ∧ H0 k := (by simp only [List.mem_cons, List.not_mem_nil, or_false] at hv; rcases hv with rfl | rfl | rfl | rfl | rfl | rfl <;> exact ⟨_, rfl, by unfold H0; omega⟩))
 refine H6 rfl ((A21 _ _)) rfl rfl ?_
 refine B4 ?_
 refine H7 (outs := [rd br pb nb cb (p + 1 + 1)]) (rC rfl (A5 rfl rfl)) (by repeat (first | exact A1.nil | refine A1.cons Pk.here ?_ | refine A1.cons (Pk.there Pk.here) ?_ | refine A1.cons (Pk.there (Pk.there Pk.here)) ?_ | apply A1.drop)) ?_
 focus (refine ⟨_, ?_, ?_, rfl, _, _, rfl, A19 ⟨by omega, by omega⟩ hkn, ?_⟩; all_goals (try rw [A2n]); all_goals (first | omega | decide))
def tB : Nat → Nat
 | 0 => 3
 | d + 1 => 3 * tB d + 20
theorem A9U (d : Nat) : 3 ≤ tB d := by cases d <;> simp only [tB] <;> omega
theorem A9V {Q : Prop} (h : Q := by (dsimp only; exact ⟨hlef3.trans hle3, hr3, by omega, by omega, by omega⟩)) : Q := h
theorem A9W {Q : Prop} (h : Q := by (dsimp only; exact ⟨C4.refl _, A18 _, by decide, by omega, by omega⟩)) : Q := h
theorem B4M (br : Nat) (pb : Option Addr) (nb cb : Nat) (bs : List UInt8) (hnb : nb ≤ 2000) : ∀ (d p : Nat) (G : IM) (s : ByteArray), d ≤ 900 → s.size + d ≤ 950 → Sl G pb nb cb 1 (O2 bs) → p + tB d < 1099511627776 →
  Fn Tryz.prog 169 [.pointer (some ⟨br, 0, none⟩), .string s, .int .i64 ((d + 1 : Nat) : Int)] [rd br pb nb cb p] G
   (A0t br pb nb cb p (tB d) (fun G' v => ∃ t cells, v = .agg ⟨cells⟩ ∧ B1 G' t cells ∧ A0s t ≤ ((tB d : Nat) : Int))) := by
 refine fun d => Nat.strongRecOn d fun d ih p G s hd hs hb hp => ?_
 have hge := A9U d
 refine C6 Tryz.func169 rfl Tryz.ntmps169 Tryz.results169 rfl ?_
 intro w0
 refine A4 ?_
 refine sE (A9 rfl) rfl (fun b3 => ?_)
 refine A8 ?_
 refine sB (J4 rfl rfl) rfl rfl (fun h10 => ?_) (fun h10 => ?_)
 ·refine N4 ?_
  (refine J9 rfl (A9T br pb nb cb bs hnb p _ hb (by omega) s (by omega)) (Pk.perm (by repeat (first | exact Pk.here | apply Pk.there))) rfl rfl (fun v Ga outs hlea hh => ?_); obtain ⟨pa, hpa1, hpa2, rfl, ta, cellsa, rfl, hra, hsa⟩ := hh; have hl9 := hra.len; have ho9 := hra.one)
  refine sS rfl rfl rfl hl9 ho9 rfl ?_ (hu := by exact E0 hl9.symm)
  refine B4 ?_
  refine H7 (outs := [rd br pb nb cb pa]) (rC rfl (A3 rfl rfl (B6 (by repeat first | exact mH | apply mT)) hl9)) (by repeat (first | exact A1.nil | refine A1.cons Pk.here ?_ | refine A1.cons (Pk.there Pk.here) ?_ | refine A1.cons (Pk.there (Pk.there Pk.here)) ?_ | apply A1.drop)) ?_
  (exact ⟨pa, by omega, by omega, rfl, ta, cellsa, rfl, hra, by omega⟩)
 ·refine A4 ?_
  (have hB4 : 4 ≤ tB d := (by obtain ⟨d1, rfl⟩ : ∃ d1, d = d1 + 1 := ⟨d - 1, by omega⟩; simp only [tB]; have := A9U d1; omega); refine J9 rfl (Z1 _ br pb nb cb p bs _ hb hnb (by omega)) (Pk.perm (by repeat (first | exact Pk.here | apply Pk.there))) rfl rfl (fun v33 G33 outs33 hle33 hh => ?_); obtain ⟨rfl, rfl, j33, rfl, hj33, hk33⟩ := hh)
  replace hb := hb.mono hle33
  refine sB (qE rfl rfl) rfl rfl (fun h34 => ?_) (fun h34 => ?_)
  ·refine D4 ?_
   (refine J9 rfl (A9T br pb nb cb bs hnb (p + 1) _ hb (by omega) s (by omega)) (Pk.perm (by repeat (first | exact Pk.here | apply Pk.there))) rfl rfl (fun v Ga outs hlea hh => ?_); obtain ⟨pa, hpa1, hpa2, rfl, ta, cellsa, rfl, hra, hsa⟩ := hh; have hl9 := hra.len; have ho9 := hra.one)
   refine sS rfl rfl rfl hl9 ho9 rfl ?_ (hu := by exact E0 hl9.symm)
   refine B4 ?_
   refine H7 (outs := [rd br pb nb cb pa]) (rC rfl (A3 rfl rfl (B6 (by repeat first | exact mH | apply mT)) hl9)) (by repeat (first | exact A1.nil | refine A1.cons Pk.here ?_ | refine A1.cons (Pk.there Pk.here) ?_ | refine A1.cons (Pk.there (Pk.there Pk.here)) ?_ | apply A1.drop)) ?_
   (exact ⟨pa, by omega, by omega, rfl, ta, cellsa, rfl, hra, by omega⟩)
  ·refine E1 ?_
   (refine I3 (D0 rfl rfl rfl (by omega) (by unfold maxLen; omega) rfl) rfl ?_; rintro _ ⟨b60, rfl⟩)
   (refine U6 (by repeat (first | exact Pk.here | apply Pk.there)) (fun Gf hlef hslf _ => ?_); refine J9 rfl (A0m Gf br pb nb cb (p + 1) bs _ _ _ _ (hb.mono hlef) hnb (by omega) hslf (by decide)) (Pk.perm (by repeat (first | exact Pk.here | apply Pk.there))) rfl rfl (fun v Gk outs hlek hh => ?_); obtain ⟨rfl, rfl, hv⟩ := hh; replace hb := hb.mono hlef; obtain ⟨k, rfl, hk1, hk2⟩ : ∃ k, v = .int .i64 k ∧ 5 ≤ k ∧ k ≤ 13 := (by simp only [List.mem_cons, List.not_mem_nil, or_false] at hv; rcases hv with rfl | rfl | rfl | rfl | rfl | rfl | rfl | rfl | rfl | rfl | rfl <;> exact ⟨_, rfl, by decide, by decide⟩); obtain ⟨d1, rfl⟩ : ∃ d1, d = d1 + 1 := ⟨d - 1, by omega⟩; have hB : tB (d1 + 1) = 3 * tB d1 + 20 := rfl)
   refine B7 ?_
   refine sE (A9 rfl) rfl (fun b69 => ?_)
   refine B7 ?_
   refine sB (qE rfl rfl) rfl rfl (fun h77 => ?_) (fun h77 => ?_)
   ·refine A4 ?_
    (show J3 _ _ (.cond (.tmp 26) _ _) _ _; refine A0l (fun (x : ByteArray × ByteArray × Nat × IM) => ⟨[(7, .int .i64 k), (8, .pointer (some ⟨b69, 0, none⟩)), (6, .pointer (some ⟨b3, 0, none⟩)), (0, .pointer (some ⟨br, 0, none⟩)), (1, .string x.2.1), (2, .int .i64 ((d1 + 1 + 1 : Nat) : Int))], [.blk b69 [.int .i64 k, .string x.1, .int .i64 0, .int .i64 0, .slice none 0 0, .int .i64 0, .slice none 0 0, .int .i64 0, .slice none 0 0], .blk b3 [.int .i64 0, .string ⟨⟨[]⟩⟩, .int .i64 0, .int .i64 0, .slice none 0 0, .int .i64 0, .slice none 0 0, .int .i64 0, .slice none 0 0], rd br pb nb cb x.2.2.1], x.2.2.2⟩) (fun x => C4 Gk x.2.2.2 ∧ x.1.size ≤ 1 ∧ x.2.1.size ≤ s.size + 1 ∧ p + 2 ≤ x.2.2.1 ∧ x.2.2.1 ≤ p + 3) ?_ ?_)
    ·refine B4 ?_
     (refine I3 (D0 rfl rfl rfl (by omega) (by unfold maxLen; omega) rfl) rfl ?_; rintro _ ⟨b85, rfl⟩)
     (refine U6 (by repeat (first | exact Pk.here | apply Pk.there)) (fun Gf2 hlef2 hslf2 _ => ?_); refine J9 rfl (A6V Gf2 br pb nb cb (p + 1 + 1) bs _ _ _ _ (hb.mono hlef2) hnb (by omega) hslf2 (by decide)) (Pk.perm (by repeat (first | exact Pk.here | apply Pk.there))) rfl rfl (fun v Go outs hleo hh => ?_); obtain ⟨rfl, rfl, hv2⟩ := hh; obtain ⟨nmA, rfl, hnA⟩ : ∃ nm, v = .string nm ∧ nm.size ≤ 1 := (by simp only [List.mem_cons, List.not_mem_nil, or_false] at hv2; rcases hv2 with rfl | rfl | rfl | rfl <;> exact ⟨_, rfl, by decide⟩))
     refine D4 ?_
     (refine A0Y rfl (B4L s nmA _ (by omega) (by omega)) rfl rfl (fun v Ga outs hlea hh => ?_); obtain ⟨rfl, rfl, sA, rfl, hsA⟩ := hh)
     refine A4 ?_
     refine Q6 (nmA, sA, p + 1 + 1 + 1, Ga) (M4 (by repeat (first | exact E7.nil | refine E7.cons rfl ?_)) (by repeat (first | exact A1.refl | exact A1.nil | refine A1.cons (by repeat (first | exact Pk.here | apply Pk.there)) ?_ | apply A1.drop))) ?_
     (dsimp only; exact ⟨hlef2, hnA, by omega, by omega, by omega⟩)
    ·(rintro ⟨(nm : ByteArray), s', p1, G1⟩ ⟨hleA, hnm, hss, hpA, hpB⟩; simp only [] at hleA hnm hss hpA hpB ⊢; replace hb := hb.mono hleA; have hmark := hleA)
     refine A4 ?_
     (have hm' := hmark; refine A0l (fun (x : Bool) => ⟨(40, .bool x) :: [(7, .int .i64 k), (8, .pointer (some ⟨b69, 0, none⟩)), (6, .pointer (some ⟨b3, 0, none⟩)), (0, .pointer (some ⟨br, 0, none⟩)), (1, .string s'), (2, .int .i64 ((d1 + 1 + 1 : Nat) : Int))], [.blk b69 [.int .i64 k, .string nm, .int .i64 0, .int .i64 0, .slice none 0 0, .int .i64 0, .slice none 0 0, .int .i64 0, .slice none 0 0], .blk b3 [.int .i64 0, .string ⟨⟨[]⟩⟩, .int .i64 0, .int .i64 0, .slice none 0 0, .int .i64 0, .slice none 0 0, .int .i64 0, .slice none 0 0], rd br pb nb cb p1], G1⟩) (fun x => True) ?_ ?_)
     ·refine A4 ?_
      refine sP (Y3 rfl rfl (by omega)) rfl rfl ?_
      refine B0 ?_
      refine Q6 true (M4 (by repeat (first | exact E7.nil | refine E7.cons rfl ?_)) (by repeat (first | exact A1.refl | exact A1.nil | refine A1.cons (by repeat (first | exact Pk.here | apply Pk.there)) ?_ | apply A1.drop))) ?_
      trivial
     ·(rintro x _; clear hmark)
      (show J3 _ _ (.cond (.tmp 40) _ _) _ _; refine A0l (fun (x : Ty × Option Addr × Nat × Nat × IM) => ⟨[(7, .int .i64 k), (8, .pointer (some ⟨b69, 0, none⟩)), (6, .pointer (some ⟨b3, 0, none⟩)), (0, .pointer (some ⟨br, 0, none⟩)), (1, .string s'), (2, .int .i64 ((d1 + 1 + 1 : Nat) : Int))], [.blk b69 [.int .i64 k, .string nm, .int .i64 0, .int .i64 x.1.k, .slice x.2.1 x.1.ks.length x.2.2.1, .int .i64 0, .slice none 0 0, .int .i64 0, .slice none 0 0], .blk b3 [.int .i64 0, .string ⟨⟨[]⟩⟩, .int .i64 0, .int .i64 0, .slice none 0 0, .int .i64 0, .slice none 0 0, .int .i64 0, .slice none 0 0], rd br pb nb cb x.2.2.2.1], x.2.2.2.2⟩) (fun x => C4 G1 x.2.2.2.2 ∧ C3 x.2.2.2.2 x.1 [.int .i64 x.1.k, .slice x.2.1 x.1.ks.length x.2.2.1] ∧ K7 x.1 ≤ 14 ∧ p1 ≤ x.2.2.2.1 ∧ x.2.2.2.1 ≤ p1 + 15) (A35 rfl (fun hxt => ?_) (fun hxf => ?_)) ?_)
      ·refine B9 ?_
       (refine I3 (D0 rfl rfl rfl (by omega) (by unfold maxLen; omega) rfl) rfl ?_; rintro _ ⟨b119, rfl⟩)
       (refine U6 (by repeat (first | exact Pk.here | apply Pk.there)) (fun Gf hlef3 hslf _ => ?_); refine J9 rfl (A0m Gf br pb nb cb p1 bs _ _ _ _ (hb.mono hlef3) hnb (by omega) hslf (by decide)) (Pk.perm (by repeat (first | exact Pk.here | apply Pk.there))) rfl rfl (fun v Gn outs hlen hh => ?_); obtain ⟨rfl, rfl, hv⟩ := hh; replace hb := hb.mono hlef3; obtain ⟨dd, rfl, hdd⟩ : ∃ d : Nat, v = .int .i64 ((d + 1 : Nat) : Int) ∧ d ≤ 2 := (by simp only [List.mem_cons, List.not_mem_nil, or_false] at hv; rcases hv with rfl | rfl | rfl | rfl <;> first | exact ⟨0, rfl, by decide⟩ | exact ⟨1, rfl, by decide⟩ | exact ⟨2, rfl, by decide⟩))
       (have hdB := A61 hdd; refine J9 rfl (A9P br pb nb cb bs hnb dd (p1 + 1) _ (by omega) hb (by omega)) (Pk.perm (by repeat (first | exact Pk.here | apply Pk.there))) rfl rfl (fun v G3 outs hle3 hh => ?_); obtain ⟨p3, hp31, hp32, rfl, t3, cells3, rfl, hr3, hs3⟩ := hh; obtain ⟨q3, c3, es3, rfl, _⟩ := hr3.open)
       refine B9 ?_
       refine Q6 (t3, q3, c3, p3, G3) (M4 (by repeat (first | exact E7.nil | refine E7.cons rfl ?_)) (by repeat (first | exact A1.refl | exact A1.nil | refine A1.cons (by repeat (first | exact Pk.here | apply Pk.there)) ?_ | apply A1.drop))) ?_
       exact A9V
      ·refine tK ?_
       refine Q6 (B3, none, 0, p1, G1) (M4 (by repeat (first | exact E7.nil | refine E7.cons rfl ?_)) (by repeat (first | exact A1.refl | exact A1.nil | refine A1.cons (by repeat (first | exact Pk.here | apply Pk.there)) ?_ | apply A1.drop))) ?_
       exact A9W
      ·(rintro ⟨(t' : Ty), q', c', p2, G2⟩ ⟨hleB, hrB, hsB, hpC, hpD⟩; simp only [] at hleB hrB hsB hpC hpD ⊢; replace hb := hb.mono hleB; have hop := A1B k; have hK := A5l k)
       refine A8 ?_
       refine C5 ?_
       (refine V0 37 9 ?_; refine K2 (fun (x : Nat × Option Addr × Nat × List Tm × List (List Value) × Nat × IM) => ⟨[(9, .int .i64 x.1), (7, .int .i64 k), (8, .pointer (some ⟨b69, 0, none⟩)), (6, .pointer (some ⟨b3, 0, none⟩)), (0, .pointer (some ⟨br, 0, none⟩)), (1, .string s'), (2, .int .i64 ((d1 + 1 + 1 : Nat) : Int))], [.blk b69 [.int .i64 k, .string nm, .int .i64 0, .int .i64 t'.k, .slice q' t'.ks.length c', .int .i64 0, .slice none 0 0, .int .i64 0, .slice x.2.1 x.1 x.2.2.1], .slc x.2.1 x.2.2.1 37 9 x.1 x.2.2.2.2.1.flatten, rd br pb nb cb x.2.2.2.2.2.1, .blk b3 [.int .i64 0, .string ⟨⟨[]⟩⟩, .int .i64 0, .int .i64 0, .slice none 0 0, .int .i64 0, .slice none 0 0, .int .i64 0, .slice none 0 0]], x.2.2.2.2.2.2⟩) (fun x => ((x.1 : Int) ≤ D9 k ∨ x.1 = 0) ∧ C4 G2 x.2.2.2.2.2.2 ∧ x.2.2.2.1.length = x.1 ∧ E5 x.2.2.2.2.2.2 x.2.2.2.1 x.2.2.2.2.1 ∧ Y4 x.2.2.2.1 ≤ ((x.1 * tB d1 : Nat) : Int) ∧ p2 ≤ x.2.2.2.2.2.1 ∧ x.2.2.2.2.2.1 ≤ p2 + x.1 * tB d1) (fun x => (D9 k).toNat - x.1) (0, none, 0, [], [], p2, G2) ?_ ?_ ?_)
       ·(simp only [I1]; exact D6)
       ·(exact ⟨.inr rfl, C4.refl _, rfl, by simp [E5], by simp [Y4], by dsimp only; omega, by dsimp only; omega⟩)
       ·(rintro ⟨i, pn, cn, ts, es', p', Gi⟩ ⟨hi, hle, hlt, hst, hsum, hq1, hq2⟩; simp only [] at hi hle hlt hst hsum hq1 hq2 ⊢; have hid : i * tB d1 ≤ 3 * tB d1 := Nat.mul_le_mul_right _ (by omega))
        refine B0 ?_
        refine H6 rfl ((hK _)) rfl rfl ?_
        refine sB (J4 rfl rfl) rfl rfl (fun h148 => ?_) (fun h148 => ?_)
        ·refine A8 ?_
         refine C5 ?_
         (have hih := ih d1 (by omega) p' Gi s' (by omega) (by omega) (hb.mono hle) (by have := Nat.mul_le_mul_right (tB d1) (show i + 1 ≤ 3 by omega); rw [Nat.succ_mul] at this; omega); refine D7 D8 rfl ?_)
         refine I6 (i := 0) (l' := [tt,ff,ff,ff,ff,ff,ff,ff,ff,ff,ff]) rfl D2 (B8 rfl) rfl (by kernel_rfl) rfl rfl ?_
         refine aL 1 rfl (C7 rfl rfl) rfl ?_
         refine aP 2 rfl (qM rfl) rfl ?_
         refine aP 3 rfl (qM rfl) rfl ?_
         refine aP 4 rfl (qM rfl) rfl ?_
         refine aP 5 rfl (A5h rfl rfl (by omega)) rfl ?_
         refine A2 6 ?_
         (refine X2 (l' := [tt,tt,tt,tt,tt,tt,tt,ff,ff,ff,ff]) rfl rfl hih (Pk.perm (by repeat (first | exact Pk.here | apply Pk.there))) rfl rfl rfl (by repeat (first | exact A7.nil | apply A7.dep (by decide +kernel) | apply A7.blk (by decide +kernel) (by repeat (first | exact Pk.here | apply Pk.there)) (by repeat first | exact mH | apply mT))) (fun v G3 outs hle3 hh => ?_); obtain ⟨p3, hp31, hp32, rfl, t3, cells3, rfl, hr3, hs3⟩ := hh; obtain ⟨qt, dt, et, qf, df, ef, q3, d3, es3, rfl, _⟩ := hr3.open)
         refine A2 7 ?_
         (refine E2 rfl (D0 rfl rfl rfl (by omega) (by unfold maxLen; omega) rfl) rfl rfl ?_; rintro _ ⟨b166, rfl⟩)
         refine A2 8 ?_
         refine P5 rfl rfl rfl rfl rfl rfl (fun _ _ => by repeat (first | exact Sw.here | apply Sw.there)) (M9 (by repeat first | exact mH | apply mT)) rfl (by simp [Value.oneCell']) (by unfold maxLen; omega) (by omega) rfl rfl (by repeat (first | exact A7.nil | apply A7.dep (by decide +kernel) | apply A7.blk (by decide +kernel) (by repeat (first | exact Pk.here | apply Pk.there)) (by repeat first | exact mH | apply mT))) (fun pn' cn' => ?_)
         refine aP 9 rfl (B8 rfl) rfl ?_
         refine A2 10 ?_
         refine Q8 rfl rfl rfl rfl rfl rfl rfl rfl (by kernel_rfl) (by repeat first | exact Sw.here | apply Sw.there) (by rfl) ?_
         refine B0 ?_
         refine sP (H9 rfl rfl (by omega) (by omega)) rfl rfl ?_
         refine A4 ?_
         refine I5 (i + 1, pn', cn', ts ++ [t3], es' ++ [[.int .i64 t3.k, .string t3.nm, .int .i64 t3.num, .int .i64 t3.ty.k, .slice qt t3.ty.ks.length dt, .int .i64 t3.fr.k, .slice qf t3.fr.ks.length df, .int .i64 t3.lb, .slice q3 t3.ks.length d3]], p3, G3) ?_ ?_ ?_
         ·(simp only [I1]; exact D6)
         ·(dsimp only; have e1 : (i + 1) * tB d1 = i * tB d1 + tB d1 := Nat.succ_mul _ _; have e2 := A60 ts t3; exact ⟨.inl (by omega), hle.trans hle3, by simp [hlt], E5.snoc (hst.mono hle3) hr3, by omega, by omega, by omega⟩)
         ·(show (D9 k).toNat - (i + 1) < (D9 k).toNat - i; omega)
        ·refine J5 ?_
         (refine H2 (by repeat (first | exact Pk.here | apply Pk.there)) (fun G5 hle5 hsl5 hno5 => ?_))
         refine tT ?_
         refine H7 (outs := [rd br pb nb cb p']) (rC rfl (A5 rfl rfl)) (by repeat (first | exact A1.nil | refine A1.cons Pk.here ?_ | refine A1.cons (Pk.there Pk.here) ?_ | refine A1.cons (Pk.there (Pk.there Pk.here)) ?_ | apply A1.drop)) ?_
         (refine ⟨p', by omega, by omega, rfl, .mk k nm 0 t' B3 0 ts, _, rfl, (hst.mono hle5).tm hlt hsl5 ⟨by omega, by omega⟩ ⟨by omega, by omega⟩ (hrB.mono (hle.trans hle5)), ?_⟩; rw [A0s, A6Z]; omega)
   ·refine A4 ?_
    (show J3 _ _ (.cond (.tmp 26) _ _) _ _; refine A0l (fun (x : ByteArray × ByteArray × Nat × IM) => ⟨[(7, .int .i64 k), (8, .pointer (some ⟨b69, 0, none⟩)), (6, .pointer (some ⟨b3, 0, none⟩)), (0, .pointer (some ⟨br, 0, none⟩)), (1, .string x.2.1), (2, .int .i64 ((d1 + 1 + 1 : Nat) : Int))], [.blk b69 [.int .i64 k, .string x.1, .int .i64 0, .int .i64 0, .slice none 0 0, .int .i64 0, .slice none 0 0, .int .i64 0, .slice none 0 0], .blk b3 [.int .i64 0, .string ⟨⟨[]⟩⟩, .int .i64 0, .int .i64 0, .slice none 0 0, .int .i64 0, .slice none 0 0, .int .i64 0, .slice none 0 0], rd br pb nb cb x.2.2.1], x.2.2.2⟩) (fun x => C4 Gk x.2.2.2 ∧ x.1.size ≤ 1 ∧ x.2.1.size ≤ s.size + 1 ∧ p + 2 ≤ x.2.2.1 ∧ x.2.2.1 ≤ p + 3) ?_ ?_)
    ·refine A4 ?_
     refine Q6 (⟨⟨[]⟩⟩, s, p + 1 + 1, Gk) (M4 (by repeat (first | exact E7.nil | refine E7.cons rfl ?_)) (by repeat (first | exact A1.refl | exact A1.nil | refine A1.cons (by repeat (first | exact Pk.here | apply Pk.there)) ?_ | apply A1.drop))) ?_
     (dsimp only; exact ⟨C4.refl _, by decide, by omega, by omega, by omega⟩)
    ·(rintro ⟨(nm : ByteArray), s', p1, G1⟩ ⟨hleA, hnm, hss, hpA, hpB⟩; simp only [] at hleA hnm hss hpA hpB ⊢; replace hb := hb.mono hleA; have hmark := hleA)
     refine A4 ?_
     (have hm' := hmark; refine A0l (fun (x : Bool) => ⟨(40, .bool x) :: [(7, .int .i64 k), (8, .pointer (some ⟨b69, 0, none⟩)), (6, .pointer (some ⟨b3, 0, none⟩)), (0, .pointer (some ⟨br, 0, none⟩)), (1, .string s'), (2, .int .i64 ((d1 + 1 + 1 : Nat) : Int))], [.blk b69 [.int .i64 k, .string nm, .int .i64 0, .int .i64 0, .slice none 0 0, .int .i64 0, .slice none 0 0, .int .i64 0, .slice none 0 0], .blk b3 [.int .i64 0, .string ⟨⟨[]⟩⟩, .int .i64 0, .int .i64 0, .slice none 0 0, .int .i64 0, .slice none 0 0, .int .i64 0, .slice none 0 0], rd br pb nb cb p1], G1⟩) (fun x => True) ?_ ?_)
     ·refine A4 ?_
      refine sP (I9 rfl rfl (by omega)) rfl rfl ?_
      refine A4 ?_
      refine sB (qE rfl rfl) rfl rfl (fun h218 => ?_) (fun h218 => ?_)
      ·refine A4 ?_
       refine Q6 true (M4 (by repeat (first | exact E7.nil | refine E7.cons rfl ?_)) (by repeat (first | exact A1.refl | exact A1.nil | refine A1.cons (by repeat (first | exact Pk.here | apply Pk.there)) ?_ | apply A1.drop))) ?_
       trivial
      ·refine A4 ?_
       refine Q6 false (M4 (by repeat (first | exact E7.nil | refine E7.cons rfl ?_)) (by repeat (first | exact A1.refl | exact A1.nil | refine A1.cons (by repeat (first | exact Pk.here | apply Pk.there)) ?_ | apply A1.drop))) ?_
       trivial
     ·(rintro x _; clear hmark)
      (show J3 _ _ (.cond (.tmp 40) _ _) _ _; refine A0l (fun (x : Ty × Option Addr × Nat × Nat × IM) => ⟨[(7, .int .i64 k), (8, .pointer (some ⟨b69, 0, none⟩)), (6, .pointer (some ⟨b3, 0, none⟩)), (0, .pointer (some ⟨br, 0, none⟩)), (1, .string s'), (2, .int .i64 ((d1 + 1 + 1 : Nat) : Int))], [.blk b69 [.int .i64 k, .string nm, .int .i64 0, .int .i64 x.1.k, .slice x.2.1 x.1.ks.length x.2.2.1, .int .i64 0, .slice none 0 0, .int .i64 0, .slice none 0 0], .blk b3 [.int .i64 0, .string ⟨⟨[]⟩⟩, .int .i64 0, .int .i64 0, .slice none 0 0, .int .i64 0, .slice none 0 0, .int .i64 0, .slice none 0 0], rd br pb nb cb x.2.2.2.1], x.2.2.2.2⟩) (fun x => C4 G1 x.2.2.2.2 ∧ C3 x.2.2.2.2 x.1 [.int .i64 x.1.k, .slice x.2.1 x.1.ks.length x.2.2.1] ∧ K7 x.1 ≤ 14 ∧ p1 ≤ x.2.2.2.1 ∧ x.2.2.2.1 ≤ p1 + 15) (A35 rfl (fun hxt => ?_) (fun hxf => ?_)) ?_)
      ·refine B9 ?_
       (refine I3 (D0 rfl rfl rfl (by omega) (by unfold maxLen; omega) rfl) rfl ?_; rintro _ ⟨b232, rfl⟩)
       (refine U6 (by repeat (first | exact Pk.here | apply Pk.there)) (fun Gf hlef3 hslf _ => ?_); refine J9 rfl (A0m Gf br pb nb cb p1 bs _ _ _ _ (hb.mono hlef3) hnb (by omega) hslf (by decide)) (Pk.perm (by repeat (first | exact Pk.here | apply Pk.there))) rfl rfl (fun v Gn outs hlen hh => ?_); obtain ⟨rfl, rfl, hv⟩ := hh; replace hb := hb.mono hlef3; obtain ⟨dd, rfl, hdd⟩ : ∃ d : Nat, v = .int .i64 ((d + 1 : Nat) : Int) ∧ d ≤ 2 := (by simp only [List.mem_cons, List.not_mem_nil, or_false] at hv; rcases hv with rfl | rfl | rfl | rfl <;> first | exact ⟨0, rfl, by decide⟩ | exact ⟨1, rfl, by decide⟩ | exact ⟨2, rfl, by decide⟩))
       (have hdB := A61 hdd; refine J9 rfl (A9P br pb nb cb bs hnb dd (p1 + 1) _ (by omega) hb (by omega)) (Pk.perm (by repeat (first | exact Pk.here | apply Pk.there))) rfl rfl (fun v G3 outs hle3 hh => ?_); obtain ⟨p3, hp31, hp32, rfl, t3, cells3, rfl, hr3, hs3⟩ := hh; obtain ⟨q3, c3, es3, rfl, _⟩ := hr3.open)
       refine B9 ?_
       refine Q6 (t3, q3, c3, p3, G3) (M4 (by repeat (first | exact E7.nil | refine E7.cons rfl ?_)) (by repeat (first | exact A1.refl | exact A1.nil | refine A1.cons (by repeat (first | exact Pk.here | apply Pk.there)) ?_ | apply A1.drop))) ?_
       exact A9V
      ·refine tK ?_
       refine Q6 (B3, none, 0, p1, G1) (M4 (by repeat (first | exact E7.nil | refine E7.cons rfl ?_)) (by repeat (first | exact A1.refl | exact A1.nil | refine A1.cons (by repeat (first | exact Pk.here | apply Pk.there)) ?_ | apply A1.drop))) ?_
       exact A9W
      ·(rintro ⟨(t' : Ty), q', c', p2, G2⟩ ⟨hleB, hrB, hsB, hpC, hpD⟩; simp only [] at hleB hrB hsB hpC hpD ⊢; replace hb := hb.mono hleB; have hop := A1B k; have hK := A5l k)
       refine A8 ?_
       refine C5 ?_
       (refine V0 37 9 ?_; refine K2 (fun (x : Nat × Option Addr × Nat × List Tm × List (List Value) × Nat × IM) => ⟨[(9, .int .i64 x.1), (7, .int .i64 k), (8, .pointer (some ⟨b69, 0, none⟩)), (6, .pointer (some ⟨b3, 0, none⟩)), (0, .pointer (some ⟨br, 0, none⟩)), (1, .string s'), (2, .int .i64 ((d1 + 1 + 1 : Nat) : Int))], [.blk b69 [.int .i64 k, .string nm, .int .i64 0, .int .i64 t'.k, .slice q' t'.ks.length c', .int .i64 0, .slice none 0 0, .int .i64 0, .slice x.2.1 x.1 x.2.2.1], .slc x.2.1 x.2.2.1 37 9 x.1 x.2.2.2.2.1.flatten, rd br pb nb cb x.2.2.2.2.2.1, .blk b3 [.int .i64 0, .string ⟨⟨[]⟩⟩, .int .i64 0, .int .i64 0, .slice none 0 0, .int .i64 0, .slice none 0 0, .int .i64 0, .slice none 0 0]], x.2.2.2.2.2.2⟩) (fun x => ((x.1 : Int) ≤ D9 k ∨ x.1 = 0) ∧ C4 G2 x.2.2.2.2.2.2 ∧ x.2.2.2.1.length = x.1 ∧ E5 x.2.2.2.2.2.2 x.2.2.2.1 x.2.2.2.2.1 ∧ Y4 x.2.2.2.1 ≤ ((x.1 * tB d1 : Nat) : Int) ∧ p2 ≤ x.2.2.2.2.2.1 ∧ x.2.2.2.2.2.1 ≤ p2 + x.1 * tB d1) (fun x => (D9 k).toNat - x.1) (0, none, 0, [], [], p2, G2) ?_ ?_ ?_)
       ·(simp only [I1]; exact D6)
       ·(exact ⟨.inr rfl, C4.refl _, rfl, by simp [E5], by simp [Y4], by dsimp only; omega, by dsimp only; omega⟩)
       ·(rintro ⟨i, pn, cn, ts, es', p', Gi⟩ ⟨hi, hle, hlt, hst, hsum, hq1, hq2⟩; simp only [] at hi hle hlt hst hsum hq1 hq2 ⊢; have hid : i * tB d1 ≤ 3 * tB d1 := Nat.mul_le_mul_right _ (by omega))
        refine B0 ?_
        refine H6 rfl ((hK _)) rfl rfl ?_
        refine sB (J4 rfl rfl) rfl rfl (fun h261 => ?_) (fun h261 => ?_)
        ·refine A8 ?_
         refine C5 ?_
         (have hih := ih d1 (by omega) p' Gi s' (by omega) (by omega) (hb.mono hle) (by have := Nat.mul_le_mul_right (tB d1) (show i + 1 ≤ 3 by omega); rw [Nat.succ_mul] at this; omega); refine D7 D8 rfl ?_)
         refine I6 (i := 0) (l' := [tt,ff,ff,ff,ff,ff,ff,ff,ff,ff,ff]) rfl D2 (B8 rfl) rfl (by kernel_rfl) rfl rfl ?_
         refine aL 1 rfl (C7 rfl rfl) rfl ?_
         refine aP 2 rfl (qM rfl) rfl ?_
         refine aP 3 rfl (qM rfl) rfl ?_
         refine aP 4 rfl (qM rfl) rfl ?_
         refine aP 5 rfl (A5h rfl rfl (by omega)) rfl ?_
         refine A2 6 ?_
         (refine X2 (l' := [tt,tt,tt,tt,tt,tt,tt,ff,ff,ff,ff]) rfl rfl hih (Pk.perm (by repeat (first | exact Pk.here | apply Pk.there))) rfl rfl rfl (by repeat (first | exact A7.nil | apply A7.dep (by decide +kernel) | apply A7.blk (by decide +kernel) (by repeat (first | exact Pk.here | apply Pk.there)) (by repeat first | exact mH | apply mT))) (fun v G3 outs hle3 hh => ?_); obtain ⟨p3, hp31, hp32, rfl, t3, cells3, rfl, hr3, hs3⟩ := hh; obtain ⟨qt, dt, et, qf, df, ef, q3, d3, es3, rfl, _⟩ := hr3.open)
         refine A2 7 ?_
         (refine E2 rfl (D0 rfl rfl rfl (by omega) (by unfold maxLen; omega) rfl) rfl rfl ?_; rintro _ ⟨b279, rfl⟩)
         refine A2 8 ?_
         refine P5 rfl rfl rfl rfl rfl rfl (fun _ _ => by repeat (first | exact Sw.here | apply Sw.there)) (M9 (by repeat first | exact mH | apply mT)) rfl (by simp [Value.oneCell']) (by unfold maxLen; omega) (by omega) rfl rfl (by repeat (first | exact A7.nil | apply A7.dep (by decide +kernel) | apply A7.blk (by decide +kernel) (by repeat (first | exact Pk.here | apply Pk.there)) (by repeat first | exact mH | apply mT))) (fun pn' cn' => ?_)
         refine aP 9 rfl (B8 rfl) rfl ?_
         refine A2 10 ?_
         refine Q8 rfl rfl rfl rfl rfl rfl rfl rfl (by kernel_rfl) (by repeat first | exact Sw.here | apply Sw.there) (by rfl) ?_
         refine B0 ?_
         refine sP (H9 rfl rfl (by omega) (by omega)) rfl rfl ?_
         refine A4 ?_
         refine I5 (i + 1, pn', cn', ts ++ [t3], es' ++ [[.int .i64 t3.k, .string t3.nm, .int .i64 t3.num, .int .i64 t3.ty.k, .slice qt t3.ty.ks.length dt, .int .i64 t3.fr.k, .slice qf t3.fr.ks.length df, .int .i64 t3.lb, .slice q3 t3.ks.length d3]], p3, G3) ?_ ?_ ?_
         ·(simp only [I1]; exact D6)
         ·(dsimp only; have e1 : (i + 1) * tB d1 = i * tB d1 + tB d1 := Nat.succ_mul _ _; have e2 := A60 ts t3; exact ⟨.inl (by omega), hle.trans hle3, by simp [hlt], E5.snoc (hst.mono hle3) hr3, by omega, by omega, by omega⟩)
         ·(show (D9 k).toNat - (i + 1) < (D9 k).toNat - i; omega)
        ·refine J5 ?_
         (refine H2 (by repeat (first | exact Pk.here | apply Pk.there)) (fun G5 hle5 hsl5 hno5 => ?_))
         refine tT ?_
         refine H7 (outs := [rd br pb nb cb p']) (rC rfl (A5 rfl rfl)) (by repeat (first | exact A1.nil | refine A1.cons Pk.here ?_ | refine A1.cons (Pk.there Pk.here) ?_ | refine A1.cons (Pk.there (Pk.there Pk.here)) ?_ | apply A1.drop)) ?_
         (refine ⟨p', by omega, by omega, rfl, .mk k nm 0 t' B3 0 ts, _, rfl, (hst.mono hle5).tm hlt hsl5 ⟨by omega, by omega⟩ ⟨by omega, by omega⟩ (hrB.mono (hle.trans hle5)), ?_⟩; rw [A0s, A6Z]; omega)
theorem Sl.pre {G : IM} {p : Option Addr} {n c m : Nat} {cs : List Value} (h : Sl G p n c 1 cs) (hm : m ≤ n) : Sl G p m c 1 (cs.take m) := by
 obtain ⟨h1, h2, h3, h4⟩ := h
 refine ⟨by rw [List.length_take]; omega, by omega, h3, ?_⟩
 rcases h4 with h4 | ⟨b, o, full, e1, e2, e3⟩
 ·exact .inl (by omega)
 ·refine .inr ⟨b, o, full, e1, e2, fun j v hj => e3 j v ?_⟩
  rw [List.getElem?_take] at hj
  split at hj
  ·exact hj
  ·cases hj
theorem B4N (bs : List UInt8) (m : Nat) : O2 (bs.take m) = (O2 bs).take m := by unfold O2; rw [List.map_take]
theorem B4O {d : Nat} (h : d ≤ 4) : tB d ≤ 1043 := by
 have : d = 0 ∨ d = 1 ∨ d = 2 ∨ d = 3 ∨ d = 4 := by omega
 rcases this with rfl | rfl | rfl | rfl | rfl <;> decide
def A4w (G : IM) : IM → Value → List A6 → Prop := fun G' v outs => G' = G ∧ ∃ br pb nb cb bs, v = .pointer (some ⟨br, 0, none⟩) ∧ outs = [rd br pb nb cb 0] ∧ nb ≤ 2000 ∧ Sl G pb nb cb 1 (O2 bs)
theorem A4w.mk {G : IM} {b : Nat} {pb : Option Addr} {nb cb : Nat} {bs : List UInt8} (h : nb ≤ 2000) (hb : Sl G pb nb cb 1 (O2 bs)) : A4w G G (.pointer (some ⟨b, 0, none⟩)) [.blk b [.slice pb nb cb, .int .i64 0]] := ⟨rfl, _, _, _, _, bs, rfl, rfl, h, hb⟩
theorem B4P (G : IM) (q : Option Addr) (n c : Nat) (bs : List UInt8) (hb : Sl G q n c 1 (O2 bs)) :
  Fn Tryz.prog 69 [.slice q n c] [] G (A4w G) := by
 have hn := hb.le
 have hnc := hb.2.1
 have hpre := fun h : 2000 ≤ n => hb.pre h
 refine C6 Tryz.func69 rfl Tryz.ntmps69 Tryz.results69 rfl ?_
 intro w0
 refine J2 ?_
 refine sB (A0g rfl rfl) rfl rfl (fun h11 => ?_) (fun h11 => ?_)
 refine B0 ?_
 refine sP (A8Z (l := 2000) rfl rfl rfl (by omega)) rfl rfl ?_
 refine B7 ?_
 refine sE (C9 rfl rfl) rfl (fun b25 => ?_)
 refine B4 ?_
 refine H7 (rT rfl) A1.refl ?_
 exact A4w.mk (Nat.le_refl _) (by rw [B4N]; exact hpre (by omega))
 refine E1 ?_
 refine sE (C9 rfl rfl) rfl (fun b41 => ?_)
 refine B4 ?_
 refine H7 (rT rfl) A1.refl ?_
 exact A4w.mk (by omega) hb
theorem B4Q (br : Nat) (pb : Option Addr) (nb cb : Nat) (bs : List UInt8) (hnb : nb ≤ 2000) (p : Nat) (G : IM) (hb : Sl G pb nb cb 1 (O2 bs)) (hp : p + 1100 < 1099511627776) :
  Fn Tryz.prog 126 [.pointer (some ⟨br, 0, none⟩)] [rd br pb nb cb p] G
   (A0t br pb nb cb p 1100 (fun G' v => ∃ t cells, v = .agg ⟨cells⟩ ∧ B1 G' t cells ∧ A0s t ≤ 1043)) := by
 refine C6 Tryz.func126 rfl Tryz.ntmps126 Tryz.results126 rfl ?_
 intro w0
 refine A4 ?_
 refine sE (A9 rfl) rfl (fun b3 => ?_)
 refine A8 ?_
 (refine I3 (D0 rfl rfl rfl (by omega) (by unfold maxLen; omega) rfl) rfl ?_; rintro _ ⟨b10, rfl⟩)
 (refine U6 (by repeat (first | exact Pk.here | apply Pk.there)) (fun Gf hlef hslf _ => ?_); refine J9 rfl (A0m Gf br pb nb cb p bs _ _ _ _ (hb.mono hlef) hnb (by omega) hslf (by decide)) (Pk.perm (by repeat (first | exact Pk.here | apply Pk.there))) rfl rfl (fun v Gn outs hlen hh => ?_); obtain ⟨rfl, rfl, hv⟩ := hh; replace hb := hb.mono hlef; obtain ⟨dd, rfl, hdd⟩ : ∃ d : Nat, v = .int .i64 ((d + 1 : Nat) : Int) ∧ d ≤ 4 := (by simp only [List.mem_cons, List.not_mem_nil, or_false] at hv; rcases hv with rfl | rfl | rfl | rfl | rfl <;> first | exact ⟨3, rfl, by decide⟩ | exact ⟨2, rfl, by decide⟩ | exact ⟨4, rfl, by decide⟩ | exact ⟨1, rfl, by decide⟩); have htB := B4O hdd)
 (refine J9 rfl (B4M br pb nb cb bs hnb dd (p + 1) Gn ⟨⟨[]⟩⟩ (by omega) (by have hz : (⟨⟨[]⟩⟩ : ByteArray).size ≤ 2 := (by decide); omega) hb (by omega)) (Pk.perm (by repeat (first | exact Pk.here | apply Pk.there))) rfl rfl (fun v G3 outs hle3 hh => ?_); obtain ⟨p3, hp31, hp32, rfl, t3, cells3, rfl, hr3, hs3⟩ := hh; have hl3 := hr3.len; have ho3 := hr3.one; have hc3 := A6I t3; have hv3 := A5s t3 G3 cells3 (by omega) hr3)
 refine sE (A9 rfl) rfl (fun b13 => ?_)
 refine sS rfl rfl rfl hl3 ho3 rfl ?_ (hu := by exact E0 hl3.symm)
 refine B0 ?_
 refine sL (A3 rfl rfl (B6 (by repeat first | exact mH | apply mT)) hl3) rfl rfl ?_
 refine H1 rfl (hv3) rfl rfl (fun h21 => ?_) (fun h21 => ?_)
 refine B0 ?_
 refine sL (A3 rfl rfl (B6 (by repeat first | exact mH | apply mT)) hl3) rfl rfl ?_
 refine sS rfl rfl rfl hl3 ho3 rfl ?_ (hu := by exact E0 hl3.symm)
 refine B4 ?_
 refine H7 (outs := [rd br pb nb cb p3]) (rC rfl (A3 rfl rfl (B6 (by repeat first | exact mH | apply mT)) hl3)) (by repeat (first | exact A1.nil | refine A1.cons Pk.here ?_ | refine A1.cons (Pk.there Pk.here) ?_ | refine A1.cons (Pk.there (Pk.there Pk.here)) ?_ | apply A1.drop)) ?_
 (exact ⟨p3, by omega, by omega, rfl, t3, cells3, rfl, hr3, by omega⟩)
 refine B7 ?_
 refine H6 rfl ((A21 _ _)) rfl rfl ?_
 refine B4 ?_
 refine H7 (outs := [rd br pb nb cb p3]) (rC rfl (A5 rfl rfl)) (by repeat (first | exact A1.nil | refine A1.cons Pk.here ?_ | refine A1.cons (Pk.there Pk.here) ?_ | refine A1.cons (Pk.there (Pk.there Pk.here)) ?_ | apply A1.drop)) ?_
 (exact ⟨p3, by omega, by omega, rfl, _, _, rfl, A19 ⟨by omega, by omega⟩ ⟨by omega, by omega⟩, by rw [A2n]; decide⟩)
theorem A0H (G : IM) : Fn Tryz.prog 167 [] [] G (J0 (.agg ⟨[.int .i64 2, .slice none 0 0]⟩) G) := by
 refine C6 Tryz.func167 rfl Tryz.ntmps167 Tryz.results167 rfl ?_
 intro w0
 refine A4 ?_
 refine sE (A9 rfl) rfl (fun b3 => ?_)
 refine E1 ?_
 refine N9 (rC rfl (A5 rfl rfl)) ?_
 exact ⟨rfl, rfl, rfl⟩
theorem A3E (G : IM) : Fn Tryz.prog 165 [] [] G (J0 (.agg ⟨[.int .i64 3, .slice none 0 0]⟩) G) := by
 refine C6 Tryz.func165 rfl Tryz.ntmps165 Tryz.results165 rfl ?_
 intro w0
 refine A4 ?_
 refine sE (A9 rfl) rfl (fun b3 => ?_)
 refine E1 ?_
 refine N9 (rC rfl (A5 rfl rfl)) ?_
 exact ⟨rfl, rfl, rfl⟩
theorem A0I (G : IM) (k : Int) (p : Option Addr) (n c : Nat) : Fn Tryz.prog 164 [.int .i64 k, .slice p n c] [] G (J0 (.agg ⟨[.int .i64 k, .string ⟨⟨[]⟩⟩, .int .i64 0, .int .i64 0, .slice none 0 0, .int .i64 0, .slice none 0 0, .int .i64 0, .slice p n c]⟩) G) := by
 refine C6 Tryz.func164 rfl Tryz.ntmps164 Tryz.results164 rfl ?_
 intro w0
 refine A4 ?_
 refine sE (A9 rfl) rfl (fun b3 => ?_)
 refine J8 ?_
 refine N9 (rC rfl (A5 rfl rfl)) ?_
 exact ⟨rfl, rfl, rfl⟩
theorem P1 (G : IM) {k : Int} (hk : H0 k) : C3 G (.mk k []) [.int .i64 k, .slice none 0 0] := by
 simp only [C3]
 exact ⟨none, 0, [], rfl, hk, E3.of (Sl.nil _ _) rfl (by simp) (by simp), by simp [D5]⟩
theorem A9X (k : Int) : K7 (.mk k []) = 0 := rfl
def TyB (B : Int) (G : IM) : IM → Value → List A6 → Prop := K8 fun G' v => ∃ t cells b, v = .tuple ⟨[.agg ⟨cells⟩, .bool b]⟩ ∧ C3 G' t cells ∧ F9 t ∧ K7 t ≤ B
theorem A9Y {k : Int} {a b : Ty} (hk : k = 4 ∨ k = 5) (ha : F9 a) (hb : F9 b) : F9 (.mk k [a, b]) := by
 rw [F9]
 exact ⟨fun _ => rfl, fun h4 h5 => by omega, by simp [A01, ha, hb]⟩
theorem X6 {k : Int} (h4 : k ≠ 4) (h5 : k ≠ 5) : F9 (.mk k []) := (A3z 0 h4 h5).ar
theorem F9.kid {k : Int} {ks : List Ty} (h : F9 (.mk k ks)) : ∀ t ∈ ks, F9 t := by
 rw [F9] at h; exact A12.1 h.2.2
theorem F9.two {k : Int} {ks : List Ty} (h : F9 (.mk k ks)) : ks.length ≤ 2 := by
 rw [F9] at h
 have h1 := h.1
 have h2 := h.2.1
 omega
theorem A9Z : ∀ {ks : List Ty} {t : Ty}, t ∈ ks → K7 t ≤ P2 ks
 | [], t, h => by simp at h
 | t' :: ts, t, h => by
  rw [P2]
  have := A1j t'
  have := A2l ts
  rcases List.mem_cons.1 h with rfl | h
  ·omega
  ·have := A9Z h; omega
theorem B4R {k : Int} {ks : List Ty} {t : Ty} (h : t ∈ ks) : K7 t ≤ K7 (.mk k ks) := by
 have := A9Z h
 rw [K7]; omega
def B9n (B : Int) (G : IM) : IM → Value → List A6 → Prop := K8 fun G' v => ∃ a ca b cb x, v = .tuple ⟨[.agg ⟨ca⟩, .agg ⟨cb⟩, .bool x]⟩ ∧ C3 G' a ca ∧ F9 a ∧ K7 a ≤ B ∧ C3 G' b cb ∧ F9 b ∧ K7 b ≤ B
def TyP (B : Int) (Q : Ty → Prop) (G : IM) : IM → Value → List A6 → Prop := K8 fun G' v => ∃ t cells, v = .agg ⟨cells⟩ ∧ C3 G' t cells ∧ F9 t ∧ K7 t ≤ B ∧ Q t
theorem A90 {k : Int} {ks us : List Ty} (h : F9 (.mk k ks)) (hl : us.length = ks.length) (hu : ∀ u ∈ us, F9 u) : F9 (.mk k us) := by
 rw [F9] at h ⊢
 exact ⟨fun hk => by rw [hl]; exact h.1 hk, fun a b => by rw [hl]; exact h.2.1 a b, A12.2 hu⟩
theorem A3F {P : Ty → Prop} {us : List Ty} {u : Ty} (h : ∀ x ∈ us, P x) (hu : P u) : ∀ x ∈ us ++ [u], P x := by
 simp only [List.forall_mem_append, List.forall_mem_singleton]; exact ⟨h, hu⟩
theorem A2a : ∀ (t t' : Ty) (G : IM) (cells cells' : List Value), F9 t → F9 t' → C3 G t cells → C3 G t' cells' →
  Fn Tryz.prog 163 [.agg ⟨cells⟩, .agg ⟨cells'⟩] [] G (J0 (.bool (K6 t t')) G) := by
 refine Ty.ind fun k ks ih t' G cells cells' ha ha' hr hr' => ?_
 obtain ⟨k', ks'⟩ := t'
 obtain ⟨p, c, es, rfl, hk, hsl, hkl⟩ := hr.open
 obtain ⟨p', c', es', rfl, hk', hsl', hkl'⟩ := hr'.open
 simp only [Ty.k, Ty.ks] at hk hsl hkl hk' hsl' hkl' ⊢
 have hn := hsl.le
 have hn' := hsl'.le
 have hv2 := ha.kid
 have hv2' := ha'.kid
 rw [F9] at ha ha'
 have hle : k = k' → ks.length = ks'.length := by
  rintro rfl
  have h1 := ha.1
  have h2 := ha.2.1
  have h3 := ha'.1
  have h4 := ha'.2.1
  omega
 refine C6 Tryz.func163 rfl Tryz.ntmps163 Tryz.results163 rfl ?_
 intro w0
 refine A4 ?_
 refine sE (C9 rfl rfl) rfl (fun b3 => ?_)
 refine sE (C9 rfl rfl) rfl (fun b4 => ?_)
 refine D4 ?_
 refine sB (qE rfl rfl) rfl rfl (fun h13 => ?_) (fun h13 => ?_)
 refine K0 ?_
 exact A5p
 refine B9 ?_
 refine sB (qE rfl rfl) rfl rfl (fun h34 => ?_) (fun h34 => ?_)
 refine N4 ?_
 exact A5p
 refine K4 ?_
 refine sB (N2 rfl rfl) rfl rfl (fun h61 => ?_) (fun h61 => ?_)
 refine J8 ?_
 (rw [A9j (by omega) (by omega) (by omega)]; exact ⟨rfl, rfl, rfl⟩)
 refine J8 ?_
 refine C5 ?_
 (have hll : ks.length = ks'.length := hle (by omega); refine K2 (fun (i : Nat) => ⟨[(5, .int .i64 i), (3, .pointer (some ⟨b4, 0, none⟩)), (2, .pointer (some ⟨b3, 0, none⟩))], [.blk b3 [.int .i64 k, .slice p ks.length c], .blk b4 [.int .i64 k', .slice p' ks'.length c']], G⟩) (fun i => i ≤ ks.length ∧ ∀ j (h : j < ks.length) (h' : j < ks'.length), j < i → K6 ks[j] ks'[j] = true) (fun i => ks.length - i) 0 ?_ ?_ ?_)
 exact D6
 exact ⟨by omega, by omega⟩
 (rintro i ⟨hi, hf⟩)
 refine B7 ?_
 refine sB (J4 rfl rfl) rfl rfl (fun h97 => ?_) (fun h97 => ?_)
 refine A8 ?_
 refine C5 ?_
 refine tS ?_
 (obtain ⟨b, o, p2, c2, rfl, hat, hre, hgb⟩ := hsl.kidTy hkl (i := i) (by omega) (by omega); obtain ⟨b', o', p2', c2', rfl, hat', hre', hgb'⟩ := hsl'.kidTy hkl' (i := i) (by omega) (by omega); refine D7 D8 rfl ?_)
 refine I6 (i := 0) (l' := [tt,ff,ff,ff,ff,ff,ff,ff,ff,ff,ff,ff]) rfl D2 (B8 rfl) rfl (by kernel_rfl) rfl rfl ?_
 refine aL 1 rfl (C7 rfl rfl) rfl ?_
 refine aP 2 rfl (qM rfl) rfl ?_
 refine aP 3 rfl (B5 rfl rfl rfl (by omega)) rfl ?_
 refine aL 4 rfl (A3 rfl rfl (hat _) rfl) rfl ?_
 refine aP 5 rfl (B8 rfl) rfl ?_
 refine aL 6 rfl (C7 rfl rfl) rfl ?_
 refine aP 7 rfl (qM rfl) rfl ?_
 refine aP 8 rfl (B5 rfl rfl rfl (by omega)) rfl ?_
 refine aL 9 rfl (A3 rfl rfl (hat' _) rfl) rfl ?_
 refine A2 10 ?_
 refine V2 rfl rfl (ih ks[i] (List.getElem_mem (by omega)) ks'[i] G _ _ (hv2 _ (List.getElem_mem (by omega))) (hv2' _ (List.getElem_mem (by omega))) hre hre') rfl rfl rfl (fun h118 => ?_) (fun h118 => ?_)
 refine aP 11 rfl (pNt rfl) rfl ?_
 refine D4 ?_
 refine sP (H9 rfl rfl (by omega) (by omega)) rfl rfl ?_
 refine A4 ?_
 refine I5 (i + 1) ?_ ?_ ?_
 exact D6
 exact A9l
 omega
 refine aP 11 rfl (pNf rfl) rfl ?_
 refine I7 ?_
 exact A9m
 refine I7 ?_
 exact A9n
theorem A5x (br : Nat) (pb : Option Addr) (nb cb : Nat) (bs : List UInt8) (hnb : nb ≤ 2000) : ∀ (t : Ty) (p : Nat) (G : IM) (cells : List Value), F9 t → C3 G t cells → Sl G pb nb cb 1 (O2 bs) → p + (K7 t).toNat + 1 < 1099511627776 →
  Fn Tryz.prog 127 [.pointer (some ⟨br, 0, none⟩), .agg ⟨cells⟩] [rd br pb nb cb p] G
   (A0t br pb nb cb p ((K7 t).toNat + 1) (fun G' v => ∃ u cells, v = .agg ⟨cells⟩ ∧ C3 G' u cells ∧ F9 u ∧ K7 u ≤ K7 t ∧ ∀ n, R5 n t → R5 n u)) := by
 refine Ty.ind fun k ks ih p G cells ha hr hb hp => ?_
 have hkid := ha.kid
 have hnn := A2l ks
 have hz : K7 (.mk k ks) = ks.length + P2 ks := by rw [K7]
 rw [hz] at hp ⊢
 obtain ⟨q, c, es, rfl, hk, hsl, hkl⟩ := hr.open
 simp only [Ty.k, Ty.ks] at hk hsl hkl ⊢
 have hn := hsl.le
 have hl2 := ha.two
 refine C6 Tryz.func127 rfl Tryz.ntmps127 Tryz.results127 rfl ?_
 intro w0
 refine A4 ?_
 refine sE (C9 rfl rfl) rfl (fun b3 => ?_)
 refine sE (A9 rfl) rfl (fun b4 => ?_)
 refine A8 ?_
 (refine J9 rfl (Z1 _ br pb nb cb p bs _ hb hnb (by omega)) (Pk.perm (by repeat (first | exact Pk.here | apply Pk.there))) rfl rfl (fun v11 G11 outs11 hle11 hh => ?_); obtain ⟨rfl, rfl, j11, rfl, hj11, hk11⟩ := hh; have hm := hle11)
 replace hb := hb.mono hle11
 replace hr := hr.mono hle11
 replace hsl := hsl.mono hle11
 replace hkl := hkl.mono hle11
 refine sB (qE rfl rfl) rfl rfl (fun h12 => ?_) (fun h12 => ?_)
 refine B0 ?_
 refine H6 rfl ((A17 _)) rfl rfl ?_
 refine B0 ?_
 refine H7 (outs := [rd br pb nb cb (p + 1)]) (rC rfl (A5 rfl rfl)) (by repeat (first | exact A1.nil | refine A1.cons Pk.here ?_ | refine A1.cons (Pk.there Pk.here) ?_ | refine A1.cons (Pk.there (Pk.there Pk.here)) ?_ | apply A1.drop)) ?_
 (exact ⟨p + 1, by omega, by omega, rfl, R4, _, rfl, A0Q _, A4o, by rw [A6W]; omega, fun n _ => A9g n⟩)
 refine J2 ?_
 refine sE (A9 rfl) rfl (fun b36 => ?_)
 refine E1 ?_
 refine C5 ?_
 (refine V0 34 2 ?_; refine K2 (fun (x : Nat × Option Addr × Nat × List Ty × List (List Value) × Nat × IM) => ⟨[(6, .int .i64 x.1), (5, .pointer (some ⟨b36, 0, none⟩)), (4, .pointer (some ⟨b4, 0, none⟩)), (0, .pointer (some ⟨br, 0, none⟩)), (3, .pointer (some ⟨b3, 0, none⟩))], [.blk b36 [.int .i64 k, .slice x.2.1 x.1 x.2.2.1], .slc x.2.1 x.2.2.1 34 2 x.1 x.2.2.2.2.1.flatten, rd br pb nb cb x.2.2.2.2.2.1, .blk b4 [.int .i64 0, .slice none 0 0], .blk b3 [.int .i64 k, .slice q ks.length c]], x.2.2.2.2.2.2⟩) (fun x => x.1 ≤ ks.length ∧ C4 G11 x.2.2.2.2.2.2 ∧ x.2.2.2.1.length = x.1 ∧ D5 x.2.2.2.2.2.2 x.2.2.2.1 x.2.2.2.2.1 ∧ (∀ u ∈ x.2.2.2.1, F9 u) ∧ (∀ n, R5 n (.mk k ks) → ∀ u ∈ x.2.2.2.1, R5 (n - 1) u) ∧ P2 x.2.2.2.1 ≤ P2 (ks.take x.1) ∧ p + 1 ≤ x.2.2.2.2.2.1 ∧ (x.2.2.2.2.2.1 : Int) ≤ p + 1 + x.1 + P2 (ks.take x.1)) (fun x => ks.length - x.1) (0, none, 0, [], [], p + 1, G11) ?_ ?_ ?_)
 (simp only [I1]; exact D6)
 (exact ⟨by simp, C4.refl _, rfl, by simp [D5], by simp, by simp, by simp [P2], by dsimp only; omega, by simp [P2]⟩)
 (rintro ⟨i, pn, cn, us, es', p', Gi⟩ ⟨hi, hle, hlu, hst, hau, hhu, hsu, hp1, hp2⟩; simp only [] at hi hle hlu hst hau hhu hsu hp1 hp2 ⊢; replace hsl := hsl.mono hle; replace hkl := hkl.mono hle; have htk := A8V ks i)
 refine B7 ?_
 refine sB (J4 rfl rfl) rfl rfl (fun h58 => ?_) (fun h58 => ?_)
 refine A8 ?_
 refine C5 ?_
 (obtain ⟨b, o, q0, d0, hp0, hat0, hre0, hg0⟩ := hsl.kidTy hkl (i := i) (by omega) (by omega); subst hp0; have e1 := B3I (ks := ks) (i := i) (by omega); have e2 := A8V ks (i + 1); have e3 := A1j ks[i]; have hih := ih ks[i] (List.getElem_mem (by omega)) p' Gi _ (hkid _ (List.getElem_mem (by omega))) hre0 (hb.mono hle) (by omega); refine D7 D8 rfl ?_)
 refine I6 (i := 0) (l' := [tt,ff,ff,ff,ff,ff,ff,ff,ff,ff,ff,ff,ff]) rfl D2 (B8 rfl) rfl (by kernel_rfl) rfl rfl ?_
 refine aL 1 rfl (C7 rfl rfl) rfl ?_
 refine aP 2 rfl (qM rfl) rfl ?_
 refine aP 3 rfl (B8 rfl) rfl ?_
 refine aL 4 rfl (C7 rfl rfl) rfl ?_
 refine aP 5 rfl (qM rfl) rfl ?_
 refine aP 6 rfl (B5 rfl rfl rfl (by omega)) rfl ?_
 refine aL 7 rfl (A3 rfl rfl (hat0 _) rfl) rfl ?_
 refine A2 8 ?_
 (refine X2 (l' := [tt,tt,tt,tt,tt,tt,tt,tt,tt,ff,ff,ff,ff]) rfl rfl hih (Pk.perm (by repeat (first | exact Pk.here | apply Pk.there))) rfl rfl rfl (by repeat (first | exact A7.nil | apply A7.dep (by decide +kernel) | apply A7.blk (by decide +kernel) (by repeat (first | exact Pk.here | apply Pk.there)) (by repeat first | exact mH | apply mT) | apply A7.im (by decide +kernel) hg0 (by repeat first | exact mH | apply mT))) (fun v G3 outs hle3 hh => ?_); obtain ⟨p3, hp31, hp32, rfl, u, cells3, rfl, hru, hua, hus, huh⟩ := hh; obtain ⟨q3, c3, es3, rfl, _⟩ := hru.open)
 refine A2 9 ?_
 (refine E2 rfl (D0 rfl rfl rfl (by omega) (by unfold maxLen; omega) rfl) rfl rfl ?_; rintro _ ⟨b78, rfl⟩)
 refine A2 10 ?_
 refine P5 rfl rfl rfl rfl rfl rfl (fun _ _ => by repeat (first | exact Sw.here | apply Sw.there)) (M9 (by repeat first | exact mH | apply mT)) rfl (by simp [Value.oneCell']) (by unfold maxLen; omega) (by omega) rfl rfl (by repeat (first | exact A7.nil | apply A7.dep (by decide +kernel) | apply A7.blk (by decide +kernel) (by repeat (first | exact Pk.here | apply Pk.there)) (by repeat first | exact mH | apply mT))) (fun pn' cn' => ?_)
 refine aP 11 rfl (B8 rfl) rfl ?_
 refine A2 12 ?_
 refine Q8 rfl rfl rfl rfl rfl rfl rfl rfl (by kernel_rfl) (by repeat first | exact Sw.here | apply Sw.there) (by rfl) ?_
 refine B0 ?_
 refine sP (H9 rfl rfl (by omega) (by omega)) rfl rfl ?_
 refine A4 ?_
 refine I5 (i + 1, pn', cn', us ++ [u], es' ++ [[.int .i64 u.k, .slice q3 u.ks.length c3]], p3, G3) ?_ ?_ ?_
 (simp only [I1]; exact D6)
 (dsimp only; exact ⟨by omega, hle.trans hle3, by simp [hlu], D5.snoc (hst.mono hle3) hru, A3F hau hua, fun n hn => A3F (hhu n hn) (huh _ (A6J hn (List.getElem_mem _))), by rw [A5v]; omega, by omega, by omega⟩)
 exact V5
 refine J5 ?_
 (refine H2 (by repeat (first | exact Pk.here | apply Pk.there)) (fun G5 hle5 hsl5 hno5 => ?_); obtain rfl : i = ks.length := (by omega))
 refine tT ?_
 refine H7 (outs := [rd br pb nb cb p']) (rC rfl (A5 rfl rfl)) (by repeat (first | exact A1.nil | refine A1.cons Pk.here ?_ | refine A1.cons (Pk.there Pk.here) ?_ | refine A1.cons (Pk.there (Pk.there Pk.here)) ?_ | apply A1.drop)) ?_
 (rw [List.take_length] at hsu hp2; refine ⟨p', by omega, by omega, rfl, .mk k us, _, rfl, (hst.mono hle5).ty hlu hsl5 hk, A90 ha hlu hau, by rw [K7]; omega, fun n hn => B4d hn hlu (hhu n hn)⟩)
theorem At.sub {hp : List A6} {G : IM} {b o j : Nat} {vs : List Value} {v : Value} (h : At hp G b o vs) (hj : vs[j]? = some v) : At hp G b (o + j) [v] := by
 have key : ∀ {cs : List Value}, (∀ i u, vs[i]? = some u → cs[o + i]? = some u) → ∀ i u, [v][i]? = some u → cs[o + j + i]? = some u := by
  intro cs hc i u hu
  cases i with
  | zero => simp at hu; subst hu; simpa using hc j v hj
  | succ i => simp at hu
 rcases h with ⟨cs, hm, hv⟩ | ⟨n, c, el, sz, cs, hm, hv⟩ | ⟨full, hg, hv⟩
 ·exact .inl ⟨cs, hm, key hv⟩
 ·exact .inr (.inl ⟨n, c, el, sz, cs, hm, key hv⟩)
 ·exact .inr (.inr ⟨full, hg, key hv⟩)
def HTm (G : IM) (t : Tm) (k : Int) (cells : List Value) : Prop := ∃ pt ct et pf cf ef p c es,
 cells = [.int .i64 t.k, .string t.nm, .int .i64 t.num, .int .i64 t.ty.k, .slice pt t.ty.ks.length ct, .int .i64 t.fr.k, .slice pf t.fr.ks.length cf, .int .i64 t.lb, .slice p t.ks.length c] ∧
 E3 G pt t.ty.ks.length ct 2 et ∧ D5 G (A2k t.ty.ks k) et ∧ E3 G pf t.fr.ks.length cf 2 ef ∧ D5 G (A2k t.fr.ks (k + A0j t.ty.ks)) ef ∧ E3 G p t.ks.length c 9 es ∧ E5 G (A5f t.ks (k + A0j t.ty.ks + A0j t.fr.ks)) es
theorem B4S {nm : ByteArray} (h : A1f nm = true) : nm.size = 1 := by
 unfold A1f at h
 simp at h
 omega
theorem A91 {k : Int} {nm : ByteArray} {num : Int} {ty fr : Ty} {lb : Int} {n : Nat} (h : W6 k nm num ty fr lb n = true) : nm.size ≤ 1 := by
 obtain ⟨_, h2, h3, _⟩ := V8.1 h
 by_cases hk : k = 1 ∨ k = 5
 ·rw [B4S (h2 hk)]; omega
 ·rw [h3 hk]; decide
def RBd (G : IM) (e : List Value) : Prop := ∃ nm t q d, e = [.string nm, .int .i64 t.k, .slice q t.ks.length d] ∧ C3 G t [.int .i64 t.k, .slice q t.ks.length d] ∧ F9 t ∧ K7 t ≤ 30 ∧ nm.size ≤ 1
def Z3 (G : IM) (p : Option Addr) (n c : Nat) : Prop := ∃ es, es.length = n ∧ E3 G p n c 3 es ∧ ∀ e ∈ es, RBd G e
theorem RBd.mono {G G' : IM} {e : List Value} (h : RBd G e) (hg : C4 G G') : RBd G' e := by
 obtain ⟨nm, t, q, d, h1, h2, h3, h4⟩ := h
 exact ⟨nm, t, q, d, h1, h2.mono hg, h3, h4⟩
theorem Z3.mono {G G' : IM} {p : Option Addr} {n c : Nat} (h : Z3 G p n c) (hg : C4 G G') : Z3 G' p n c := by
 obtain ⟨es, h1, h2, h3⟩ := h
 exact ⟨es, h1, h2.mono hg, fun e he => (h3 e he).mono hg⟩
theorem Z3.nil (G : IM) : Z3 G none 0 0 := ⟨[], rfl, E3.nil _ _, by simp⟩
theorem At.drop {hp : List A6} {G : IM} {b o : Nat} {v : Value} {vs : List Value} (h : At hp G b o (v :: vs)) : At hp G b (o + 1) vs := by
 have key : ∀ {cs : List Value}, (∀ i u, (v :: vs)[i]? = some u → cs[o + i]? = some u) → ∀ i u, vs[i]? = some u → cs[o + 1 + i]? = some u := by
  intro cs hc i u hu
  have := hc (i + 1) u (by simpa using hu)
  rwa [show o + 1 + i = o + (i + 1) by omega]
 rcases h with ⟨cs, hm, hv⟩ | ⟨n, c, el, sz, cs, hm, hv⟩ | ⟨full, hg, hv⟩
 ·exact .inl ⟨cs, hm, key hv⟩
 ·exact .inr (.inl ⟨n, c, el, sz, cs, hm, key hv⟩)
 ·exact .inr (.inr ⟨full, hg, key hv⟩)
theorem Z3.get {G : IM} {p : Option Addr} {n c : Nat} (h : Z3 G p n c) {i : Nat} (hi : i < n) :
  ∃ b o nm t q d, p = some ⟨b, o, none⟩ ∧ (∀ hp, At hp G b (o + i * 3) [.string nm, .int .i64 t.k, .slice q t.ks.length d]) ∧ C3 G t [.int .i64 t.k, .slice q t.ks.length d] ∧ F9 t ∧ K7 t ≤ 30 ∧ G b ≠ none ∧ nm.size ≤ 1 := by
 obtain ⟨es, h1, h2, h3⟩ := h
 obtain ⟨e, b, o, he, rfl, hl, _, hat, hgb⟩ := h2.get (i := i) (by omega)
 obtain ⟨nm, t, q, d, rfl, h5, h6, h7, h8⟩ := h3 e (List.mem_of_getElem? he)
 exact ⟨b, o, nm, t, q, d, rfl, hat, h5, h6, h7, hgb, h8⟩
theorem Z3.le {G : IM} {p : Option Addr} {n c : Nat} (h : Z3 G p n c) : n ≤ 9223372036854775807 := by
 obtain ⟨es, h1, h2, h3⟩ := h
 exact h2.le
theorem B4T (G : IM) (p : Option Addr) (n c : Nat) (nm : ByteArray) (hx : Z3 G p n c) :
  Fn Tryz.prog 162 [.slice p n c, .string nm] [] G (TyB 30 G) := by
 have hn := hx.le
 refine C6 Tryz.func162 rfl Tryz.ntmps162 Tryz.results162 rfl ?_
 intro w0
 refine A4 ?_
 refine sE (A9 rfl) rfl (fun b3 => ?_)
 refine D4 ?_
 refine sP (P4 rfl rfl (by omega) (by omega)) rfl rfl ?_
 refine B9 ?_
 refine C5 ?_
 (refine K2 (fun (i : Nat) => ⟨[(6, .int .i64 ((i : Int) - 1)), (0, .slice p n c), (1, .string nm), (4, .pointer (some ⟨b3, 0, none⟩))], [.blk b3 [.int .i64 0, .slice none 0 0]], G⟩) (fun i => i ≤ n) (fun i => i) n ?_ ?_ ?_)
 exact D6
 exact Nat.le_refl _
 (rintro i hi)
 refine B4 ?_
 refine sB (A0X rfl rfl) rfl rfl (fun h25 => ?_) (fun h25 => ?_)
 refine A8 ?_
 (show J3 _ _ (.block 1 _) _ _; obtain ⟨j, rfl⟩ : ∃ j, i = j + 1 := ⟨i - 1, by omega⟩; rw [show ((j + 1 : Nat) : Int) - 1 = (j : Int) from by omega]; obtain ⟨b, o, nm1, t1, q1, d1, rfl, hat, hr1, ha1, hs1, hgb, hns1⟩ := hx.get (i := j) (by omega); refine C5 ?_)
 refine B4 ?_
 refine sP (B5 rfl rfl rfl (by omega)) rfl rfl ?_
 refine F8 ?_
 refine sL (W4 rfl rfl ((hat _).sub (j := 0) rfl)) rfl rfl ?_
 refine F8 ?_
 refine sB (A1T rfl rfl) rfl rfl (fun h41 => ?_) (fun h41 => ?_)
 refine B7 ?_
 refine sP (B5 rfl rfl rfl (by omega)) rfl rfl ?_
 refine F8 ?_
 refine sL (A3 rfl rfl (hat _).drop rfl) rfl rfl ?_
 (refine E6 rfl (Q5 _ G _ ha1.small hr1) rfl rfl (fun v G1 hle1 hh => ?_); obtain ⟨cs1, F1, rfl, hs1', hn1⟩ := hh; obtain ⟨p1, c1, rfl, _⟩ := hs1'.open; have hrr := hs1'.R.mono (C2.le G1 G))
 refine J2 ?_
 refine H5 (rC rfl (A5 rfl rfl)) (rT rfl) ?_
 (exact ⟨rfl, _, _, _, rfl, hrr, ha1, hs1⟩)
 refine D4 ?_
 refine sP (P4 rfl rfl (by omega) (by omega)) rfl rfl ?_
 refine A4 ?_
 refine I5 j ?_ ?_ ?_
 exact D6
 (show _ ≤ n; omega)
 exact Nat.le_refl _
 refine K0 ?_
 refine H5 (rC rfl (A5 rfl rfl)) (rT rfl) ?_
 (exact ⟨rfl, _, _, _, rfl, P1 _ ⟨by omega, by omega⟩, X6 (by omega) (by omega), by rw [A9X]; omega⟩)
theorem B4U {G : IM} {nm : ByteArray} {k : Int} {ks : List Ty} {q : Option Addr} {d : Nat} (hr : C3 G (.mk k ks) [.int .i64 k, .slice q ks.length d]) (ha : F9 (.mk k ks)) (hs : K7 (.mk k ks) ≤ 30) (hn : nm.size ≤ 1) : RBd G [.string nm, .int .i64 k, .slice q ks.length d] := ⟨nm, .mk k ks, q, d, rfl, hr, ha, hs, hn⟩
theorem Z3.snoc {G G' : IM} {p p' : Option Addr} {n c c' : Nat} {es : List (List Value)} {e : List Value} (h1 : es.length = n) (h2 : E3 G p n c 3 es) (h3 : ∀ e ∈ es, RBd G e) (hg : C4 G G') (he : RBd G' e) (hs : Sl G' p' (n + 1) c' 3 (es.flatten ++ e)) : Z3 G' p' (n + 1) c' := by
 refine ⟨es ++ [e], by simp [h1], E3.of (by simpa using hs) (by simp [h1]) ?_ ?_, ?_⟩
 ·intro x hx
  rcases List.mem_append.1 hx with hx | hx
  ·obtain ⟨_, _, _, _, rfl, _⟩ := h3 x hx; rfl
  ·obtain ⟨_, _, _, _, rfl, _⟩ := he
   simp only [List.mem_singleton] at hx; subst hx; rfl
 ·intro x hx
  rcases List.mem_append.1 hx with hx | hx
  ·obtain ⟨_, _, _, _, rfl, _⟩ := h3 x hx; simp [Value.oneCell']
  ·obtain ⟨_, _, _, _, rfl, _⟩ := he
   simp only [List.mem_singleton] at hx; subst hx; simp [Value.oneCell']
 ·intro x hx
  rcases List.mem_append.1 hx with hx | hx
  ·exact (h3 x hx).mono hg
  ·simp only [List.mem_singleton] at hx; subst hx; exact he
theorem A62 {Q : Prop} (h : Q := by (exact ⟨rfl, _, _, rfl, Z3.snoc h1 h2 h3 hle5 (B4U (hr.mono hle5) ha hs hnm) hsl5⟩)) : Q := h
theorem B4V (G : IM) (p : Option Addr) (n c : Nat) (nm : ByteArray) (t : Ty) (cells : List Value) (hx : Z3 G p n c) (hn : n ≤ 1000) (hr : C3 G t cells) (ha : F9 t) (hs : K7 t ≤ 30) (hnm : nm.size ≤ 1) :
  Fn Tryz.prog 141 [.slice p n c, .string nm, .agg ⟨cells⟩] [] G (K8 fun G' v => ∃ p' c', v = .slice p' (n + 1) c' ∧ Z3 G' p' (n + 1) c') := by
 obtain ⟨k, ks⟩ := t
 obtain ⟨q, d, es0, rfl, _⟩ := hr.open
 simp only [Ty.k, Ty.ks] at hr ⊢
 obtain ⟨es, h1, h2, h3⟩ := hx
 have hSl : Sl G p n c 3 es.flatten := h2.1
 have h1c : ∀ u ∈ es.flatten, u.oneCell' = true := by
  intro u hu
  obtain ⟨e, he, hue⟩ := List.mem_flatten.1 hu
  obtain ⟨_, _, _, _, rfl, _⟩ := h3 e he
  simp only [List.mem_cons, List.not_mem_nil, or_false] at hue
  rcases hue with rfl | rfl | rfl <;> rfl
 refine C6 Tryz.func141 rfl Tryz.ntmps141 Tryz.results141 rfl ?_
 intro w0
 refine A4 ?_
 refine sE (C9 rfl rfl) rfl (fun b3 => ?_)
 refine B4 ?_
 refine D7 D8 rfl ?_
 refine I6 (i := 1) (l' := [ff,tt,ff,ff,ff,ff,ff,ff,ff]) rfl D2 (qM rfl) rfl (by kernel_rfl) rfl rfl ?_
 refine aP 3 rfl (qM rfl) rfl ?_
 refine aL 4 rfl (A5 rfl rfl) rfl ?_
 refine aP 5 rfl (Y0 rfl rfl) rfl ?_
 refine Q3 (j := 0) (j' := 6) (by kernel_rfl) ?_ ?_
 (refine E2 rfl (D0 rfl rfl rfl (by omega) (by unfold maxLen; omega) rfl) rfl rfl ?_; rintro _ ⟨b14, rfl⟩)
 refine Q3 (j := 2) (j' := 6) (by kernel_rfl) ?_ ?_
 (refine A16 rfl rfl rfl rfl rfl rfl (fun _ _ => by repeat (first | exact Sw.here | apply Sw.there)) hSl h1c (Nat.zero_le _) (by unfold maxLen; omega) (by omega) rfl rfl (by repeat (first | exact A7.nil | apply A7.dep (by decide +kernel) | apply A7.blk (by decide +kernel) (by repeat (first | exact Pk.here | apply Pk.there)) (by repeat first | exact mH | apply mT))) (fun p4 c4 => ?_); simp only [Nat.zero_add, List.nil_append])
 refine A2 6 ?_
 (refine E2 rfl (D0 rfl rfl rfl (by omega) (by unfold maxLen; omega) rfl) rfl rfl ?_; rintro _ ⟨b18, rfl⟩)
 refine A2 7 ?_
 (refine P5 rfl rfl rfl rfl rfl rfl (fun _ _ => by repeat (first | exact Sw.here | apply Sw.there)) (M9 (by repeat first | exact mH | apply mT)) rfl (by simp [Value.oneCell']) (by unfold maxLen; omega) (by omega) rfl rfl (by repeat (first | exact A7.nil | apply A7.dep (by decide +kernel) | apply A7.blk (by decide +kernel) (by repeat (first | exact Pk.here | apply Pk.there)) (by repeat first | exact mH | apply mT))) (fun p5 c5 => ?_))
 refine aP 8 rfl (qA rfl) rfl ?_
 refine A4 ?_
 (refine H2 (cs := es.flatten ++ [.string nm, .int .i64 k, .slice q ks.length d]) (by repeat (first | exact Pk.here | apply Pk.there)) (fun G5 hle5 hsl5 hno5 => ?_))
 refine A4 ?_
 exact A62
 (refine E2 rfl (D0 rfl rfl rfl (by omega) (by unfold maxLen; omega) rfl) rfl rfl ?_; rintro _ ⟨b28, rfl⟩)
 refine A2 2 ?_
 (refine A16 rfl rfl rfl rfl rfl rfl (fun _ _ => by repeat (first | exact Sw.here | apply Sw.there)) hSl h1c (Nat.zero_le _) (by unfold maxLen; omega) (by omega) rfl rfl (by repeat (first | exact A7.nil | apply A7.dep (by decide +kernel) | apply A7.blk (by decide +kernel) (by repeat (first | exact Pk.here | apply Pk.there)) (by repeat first | exact mH | apply mT))) (fun p4 c4 => ?_); simp only [Nat.zero_add, List.nil_append])
 refine A2 7 ?_
 (refine P5 rfl rfl rfl rfl rfl rfl (fun _ _ => by repeat (first | exact Sw.here | apply Sw.there)) (M9 (by repeat first | exact mH | apply mT)) rfl (by simp [Value.oneCell']) (by unfold maxLen; omega) (by omega) rfl rfl (by repeat (first | exact A7.nil | apply A7.dep (by decide +kernel) | apply A7.blk (by decide +kernel) (by repeat (first | exact Pk.here | apply Pk.there)) (by repeat first | exact mH | apply mT))) (fun p5 c5 => ?_))
 refine aP 8 rfl (qA rfl) rfl ?_
 refine A4 ?_
 (refine H2 (cs := es.flatten ++ [.string nm, .int .i64 k, .slice q ks.length d]) (by repeat (first | exact Pk.here | apply Pk.there)) (fun G5 hle5 hsl5 hno5 => ?_))
 refine A4 ?_
 exact A62
 (refine E2 rfl (D0 rfl rfl rfl (by omega) (by unfold maxLen; omega) rfl) rfl rfl ?_; rintro _ ⟨b40, rfl⟩)
 refine A2 0 ?_
 (refine E2 rfl (D0 rfl rfl rfl (by omega) (by unfold maxLen; omega) rfl) rfl rfl ?_; rintro _ ⟨b42, rfl⟩)
 refine A2 2 ?_
 (refine A16 rfl rfl rfl rfl rfl rfl (fun _ _ => by repeat (first | exact Sw.here | apply Sw.there)) hSl h1c (Nat.zero_le _) (by unfold maxLen; omega) (by omega) rfl rfl (by repeat (first | exact A7.nil | apply A7.dep (by decide +kernel) | apply A7.blk (by decide +kernel) (by repeat (first | exact Pk.here | apply Pk.there)) (by repeat first | exact mH | apply mT))) (fun p4 c4 => ?_); simp only [Nat.zero_add, List.nil_append])
 refine A2 7 ?_
 (refine P5 rfl rfl rfl rfl rfl rfl (fun _ _ => by repeat (first | exact Sw.here | apply Sw.there)) (M9 (by repeat first | exact mH | apply mT)) rfl (by simp [Value.oneCell']) (by unfold maxLen; omega) (by omega) rfl rfl (by repeat (first | exact A7.nil | apply A7.dep (by decide +kernel) | apply A7.blk (by decide +kernel) (by repeat (first | exact Pk.here | apply Pk.there)) (by repeat first | exact mH | apply mT))) (fun p5 c5 => ?_))
 refine aP 8 rfl (qA rfl) rfl ?_
 refine A4 ?_
 (refine H2 (cs := es.flatten ++ [.string nm, .int .i64 k, .slice q ks.length d]) (by repeat (first | exact Pk.here | apply Pk.there)) (fun G5 hle5 hsl5 hno5 => ?_))
 refine A4 ?_
 exact A62
theorem B4W (G : IM) : Fn Tryz.prog 183 [.slice none 0 0] [] G (J0 (.bool true) G) := by
 refine C6 Tryz.func183 rfl Tryz.ntmps183 Tryz.results183 rfl ?_
 intro w0
 refine J8 ?_
 refine C5 ?_
 (refine K2 (fun (_ : Nat) => ⟨[(3, .int .i64 0), (0, .slice none 0 0)], [], G⟩) (fun _ => True) (fun i => i) 0 ?_ ?_ ?_)
 ·exact D6
 ·trivial
 ·(rintro i _)
  refine A8 ?_
  refine sP (A3s rfl rfl (by omega)) rfl rfl ?_
  refine N4 ?_
  refine sP (B3b rfl rfl (by omega)) rfl rfl ?_
  refine B0 ?_
  trivial
theorem A3G {k : Int} {n : Nat} (h : D9 k = n) : (k = 6 ∨ k = 7 ∨ k = 8 ∨ k = 10 → n = 2) ∧ (k = 9 → n = 3) ∧ (k = 5 ∨ k = 11 ∨ k = 12 ∨ k = 13 → n = 1) := by
 refine ⟨?_, ?_, ?_⟩
 ·rintro (rfl | rfl | rfl | rfl)
  ·rw [show D9 6 = 2 from rfl] at h; omega
  ·rw [show D9 7 = 2 from rfl] at h; omega
  ·rw [show D9 8 = 2 from rfl] at h; omega
  ·rw [show D9 10 = 2 from rfl] at h; omega
 ·rintro rfl
  rw [show D9 9 = 3 from rfl] at h; omega
 ·rintro (rfl | rfl | rfl | rfl)
  ·rw [show D9 5 = 1 from rfl] at h; omega
  ·rw [show D9 11 = 1 from rfl] at h; omega
  ·rw [show D9 12 = 1 from rfl] at h; omega
  ·rw [show D9 13 = 1 from rfl] at h; omega
theorem B4X : ∀ (t : Ty) (d : Int), P9 t d = true → F9 t := by
 refine Ty.ind fun k ks ih d h => ?_
 obtain ⟨h1, h2⟩ := A4p h
 rw [F9]
 refine ⟨fun hk => ?_, fun h4 h5 => ?_, A12.2 fun t ht => ?_⟩
 ·have := (A1y k).2.1 hk
  omega
 ·have h5' := A1y k
  have h6 := h5'.1
  have h7 := h5'.2.2
  omega
 ·obtain ⟨i, hi, rfl⟩ := List.getElem_of_mem ht
  exact ih _ ht _ (h2 i hi)
theorem B4Y : ∀ (n : Nat) (t : Ty) (d : Int), P9 t d = true → 4 - d ≤ n → R5 n t := by
 intro n
 induction n with
 | zero =>
  rintro ⟨k, ks⟩ d h hd
  obtain ⟨h1, h2⟩ := A4p h
  have hks : ks.length = 0 := by
   rcases Nat.eq_zero_or_pos ks.length with h0 | h0
   ·exact h0
   ·have h3 := h2 0 h0
    obtain ⟨k', ks'⟩ : Ty := ks[0]
    have h4 : ∀ (u : Ty) (d : Int), P9 u d = true → d ≤ 4 := by
     rintro ⟨a, b⟩ d hu
     rw [P9] at hu
     simp only [Bool.and_eq_true, decide_eq_true_eq] at hu
     exact hu.1.1
    have := h4 _ _ h3
    omega
  have h5 := A1y k
  have h6 := h5.2.1
  exact ⟨List.length_eq_zero_iff.1 hks, by intro h; have := h6 (.inl h); omega, by intro h; have := h6 (.inr h); omega⟩
 | succ n ih =>
  rintro ⟨k, ks⟩ d h hd
  have ha := B4X _ _ h
  rw [F9] at ha
  obtain ⟨h1, h2⟩ := A4p h
  refine ⟨ha.1, ha.2.1, fun t ht => ?_⟩
  obtain ⟨i, hi, rfl⟩ := List.getElem_of_mem ht
  exact ih _ _ (h2 i hi) (by omega)
theorem A4x {t : Ty} (h : F4 t = true) : F9 t ∧ K7 t ≤ 30 := by
 have h1 := B4Y 3 t 1 h (by omega)
 have h2 := A5n h1
 have h3 : ((2 ^ (3 + 1) - 2 : Nat) : Int) = 14 := rfl
 exact ⟨h1.ar, by omega⟩
theorem B4Z {t : Ty} (h : A0P t = true) : F9 t ∧ K7 t ≤ 30 := by
 rw [A2m h]
 exact ⟨X6 (by decide) (by decide), by rw [B3, A9X]; omega⟩
theorem A3H {k : Int} {nm : ByteArray} {num : Int} {ty fr : Ty} {lb : Int} {n : Nat} (h : W6 k nm num ty fr lb n = true) : F9 ty ∧ K7 ty ≤ 30 := by
 have hn := V8.1 h
 by_cases hk : k = 5 ∨ k = 13 ∨ k = 14
 ·exact A4x (hn.2.2.2.2.2.1 hk)
 ·exact B4Z (hn.2.2.2.2.2.2.1 hk)
end Gw
end Go.Proofs.YtebfignffjhnhaaGreatDoor
