/-
  The reference's InferStatic.
-/
import Derived.Test.YtbdacdnffkhgeaaGreatDoorKz519
import Derived.Test.YtbdacdnffkhgeaaGreatDoorKz517
import Derived.Test.YtbdacdnffkhgeaaGreatDoorKz513
import Derived.Test.YtbdacdnffkhgeaaGreatDoorKz515
import Derived.Test.YtbdacdnffkhgeaaGreatDoorKz511
import Derived.Lib.ItoaNum
import Derived.Test.YtbdacdnffkhgeaaGreatDoorKz516
import Derived.Test.YtbdacdnffkhgeaaGreatDoorKz512
set_option linter.unusedVariables false
set_option linter.unusedSimpArgs false
set_option maxHeartbeats 0
set_option maxRecDepth 100000
set_option synthInstance.maxSize 4000
set_option synthInstance.maxHeartbeats 0
namespace Go.Proofs.YtbdacdnffkhgeaaGreatDoor
open Go Go.RowKit
namespace Gw
theorem y135 {p : Prop} (h : p := by
  refine N0 ?_
  (exact ⟨rfl, congrArg (Value.int .i64) (Eq.symm (hw _ zR0 zR0 zR0 zR0 zR0)), rfl⟩)
) : p := h
theorem y136 {p : Prop} (h : p := by
  refine sL (A5 rfl rfl (B3 zI0) hwl) rfl rfl ?_
  refine C1 ?_
  refine sS rfl rfl rfl hwl hwo rfl ?_ (hu := by exact C6 hwl.symm)
  refine M7 ?_
  refine A6n (rC rfl (A5 rfl rfl (B3 zI0) hwl)) (rT rfl) (rT rfl) (rT rfl) ?_
  (exact EvP.mk (by rw [← hev]; exact hend zR0) hrw)
) : p := h
theorem y137 {p : Prop} (h : p := by
  refine Q1 rfl rfl rfl hlC hoC rfl zF0 (by exact C6 (by first | exact hlC.symm | omega)) ?_
  refine C1 ?_
  refine H8 (outs := [rd br pb nb cb pC]) (rC rfl (A5 rfl rfl (B3 zI0) hlC)) zS ?_
  (exact ⟨pC, by omega, by omega, rfl, eC, _, rfl, hrC, A7c _ zR0, by omega⟩)
) : p := h
theorem A8w {e : Tm} (h : M3 e = true) : M3 (H2 e) = true := by
 have h1 := ((V2 e).1 h).1
 have h2 := ((V2 e).1 h).2
 have h3 := (A24 e (A3i h).1).2
 exact (V2 _).2 ⟨A8m e 1 1 (Int.le_refl _) h1, by omega⟩
theorem B8L {e : Tm} (h : M3 e = true) {l : List Ty} (hl : l.length = (K8 (H2 e)).length) (hv : ∀ u ∈ l, H9 u = true) : A14 (H2 e) l = some (S6 (H2 e) l) :=
 B1x (A8w h) (by rw [B1y (A8w h), hl]) (fun j hj _ => hv _ (List.getElem_mem hj))
theorem B8M {B : BV} {L ts : List SV} (h : A16 B L ts) : ∀ {i : Nat}, i < L.length → ∃ s t, L[i]? = some s ∧ Q9 B s t ∧ ts[i]? = some t := by
 induction h with
 | nil => intro i hi; cases hi
 | cons d1 _ ih =>
  intro i hi
  cases i with
  | zero => exact ⟨_, _, rfl, d1, rfl⟩
  | succ i => exact ih (Nat.lt_of_succ_lt_succ hi)
theorem B2w {e : Tm} {S : IS} {o : Option SV} (hI : V3 [] e IS0 S o) (hb : mBr e) (hc : E4 e ≤ 900) (G : IM) (cells : List Value) (hr : B7 G e cells) :
  Fn Tryz.prog 22 [.agg ⟨[.slice none 0 0, .slice none 0 0]⟩, .string ⟨⟨[]⟩⟩, .slice none 0 0, .agg ⟨cells⟩] [] G (S4 S o) :=
 B8E e [] IS0 S o G _ cells none 0 [] hI hb B2b (fun p hp => by cases hp) (by show 0 + 2 * E4 e ≤ 999000; omega) (by show 0 + E4 e ≤ 999000; omega) (by show 0 + E4 e ≤ 900; omega) (fun p hp => by cases hp)
  ⟨none, 0, [], none, 0, [], rfl, D7.nil _ _, .nil, D7.nil _ _, .nil⟩ hr (D7.nil _ _) .nil
theorem B8N (e : Tm) (r : Option (Tm × Ty)) (G : IM) (cells : List Value) (hR : A1j e r) (hcnt : E4 e ≤ 4294967296) (hr : B7 G e cells) : Fn Tryz.prog 7 [.agg ⟨cells⟩] [] G (A0Q r) := by
 have hl9 := hr.len
 have ho9 := hr.one
 have hV := A4S e G cells hcnt hr
 rcases hR.cs with ⟨hv, hr0⟩ | ⟨hv, hr0, S, hI⟩ | ⟨hv, S, s, ts, hI, hok, hLn, hD, hno, hyes⟩ <;> rw [hv] at hV
 ·refine C0 Tryz.func7 rfl Tryz.ntmps7 Tryz.results7 rfl ?_
  intro w0
  refine A4 ?_
  refine sE (B6 rfl rfl) rfl (fun b3 => ?_)
  refine sE (A6 rfl) rfl (fun b4 => ?_)
  refine sE (A6 rfl) rfl (fun b5 => ?_)
  refine A9 ?_
  refine sL (A5 rfl rfl (B3 zI0) hl9) rfl rfl ?_
  refine H4 rfl (hV) rfl rfl ?_
  refine J0 ?_
  refine E9 (rC rfl (A3 rfl rfl)) (rC rfl (A3 rfl rfl)) (rT rfl) ?_
  (exact A0Q.no hr0)
 ·have hsh := ((V2 e).1 hv).1
  have hcn := ((V2 e).1 hv).2
  have hsm := (A3i hv).1
  obtain ⟨hbs, hbc⟩ := A24 e hsm
  refine C0 Tryz.func7 rfl Tryz.ntmps7 Tryz.results7 rfl ?_
  intro w0
  refine A4 ?_
  refine sE (B6 rfl rfl) rfl (fun b3 => ?_)
  refine sE (A6 rfl) rfl (fun b4 => ?_)
  refine sE (A6 rfl) rfl (fun b5 => ?_)
  refine A9 ?_
  refine sL (A5 rfl rfl (B3 zI0) hl9) rfl rfl ?_
  refine H4 rfl (hV) rfl rfl ?_
  refine E1 ?_
  refine sL (A5 rfl rfl (B3 zI0) hl9) rfl rfl ?_
  (refine F4 rfl (B2v 12 14 e 1 G cells hsh hsm hr) rfl rfl (fun v G1 hle1 hh => ?_); obtain ⟨cb, Fb, rfl, hsb, hnb⟩ := hh; have hrb := hsb.R.mono (E0.le _ _); have hlb := hrb.len; have hob := hrb.one)
  refine sE (A6 rfl) rfl (fun b24 => ?_)
  refine sS rfl rfl rfl hlb hob rfl ?_ (hu := by exact C6 hlb.symm)
  refine A8 ?_
  refine sL (A5 rfl rfl (B3 zI0) hlb) rfl rfl ?_
  (refine F4 rfl (B2w hI (A3M e 1 hsh) zR0 G1 cb hrb) rfl rfl (fun v G4 hle4 hh => ?_); obtain ⟨sc4, tc4, u4, rfl, hs4, hr4, hu4⟩ := hh; obtain ⟨tp4, tn4, tk4, tq4, tm4, td4, rfl⟩ := hs4.two; have hl4 := hr4.len; have ho4 := hr4.one; obtain ⟨v1, v2, v3, rfl⟩ := A3o hl4; simp only [Option.isSome_none])
  refine B5 ?_
  refine sE (A6 rfl) rfl (fun b37 => ?_)
  refine sE (A6 rfl) rfl (fun b38 => ?_)
  refine sS' ?_
  refine sS rfl rfl rfl hl4 ho4 rfl ?_ (hu := by exact C6 hl4.symm)
  refine A5B ?_
  refine E9 (rC rfl (A3 rfl rfl)) (rC rfl (A3 rfl rfl)) (rT rfl) ?_
  (exact A0Q.no hr0)
 ·have hsh := ((V2 e).1 hv).1
  have hcn := ((V2 e).1 hv).2
  have hsm := (A3i hv).1
  obtain ⟨hbs, hbc⟩ := A24 e hsm
  refine C0 Tryz.func7 rfl Tryz.ntmps7 Tryz.results7 rfl ?_
  intro w0
  refine A4 ?_
  refine sE (B6 rfl rfl) rfl (fun b3 => ?_)
  refine sE (A6 rfl) rfl (fun b4 => ?_)
  refine sE (A6 rfl) rfl (fun b5 => ?_)
  refine A9 ?_
  refine sL (A5 rfl rfl (B3 zI0) hl9) rfl rfl ?_
  refine H4 rfl (hV) rfl rfl ?_
  refine E1 ?_
  refine sL (A5 rfl rfl (B3 zI0) hl9) rfl rfl ?_
  (refine F4 rfl (B2v 12 14 e 1 G cells hsh hsm hr) rfl rfl (fun v G1 hle1 hh => ?_); obtain ⟨cb, Fb, rfl, hsb, hnb⟩ := hh; have hrb := hsb.R.mono (E0.le _ _); have hlb := hrb.len; have hob := hrb.one)
  refine sE (A6 rfl) rfl (fun b24 => ?_)
  refine sS rfl rfl rfl hlb hob rfl ?_ (hu := by exact C6 hlb.symm)
  refine A8 ?_
  refine sL (A5 rfl rfl (B3 zI0) hlb) rfl rfl ?_
  (refine F4 rfl (B2w hI (A3M e 1 hsh) zR0 G1 cb hrb) rfl rfl (fun v G4 hle4 hh => ?_); obtain ⟨sc4, tc4, u4, rfl, hs4, hr4, hu4⟩ := hh; have hs40 := hs4; obtain ⟨pb4, cb4, eb4, pl4, cl4, el4, rfl, -, -, hsL4, hrL4⟩ := hs4; have hl4 := hr4.len; have ho4 := hr4.one; obtain ⟨v1, v2, v3, rfl⟩ := A3o hl4; simp only [Option.isSome_some]; have hdl := hD.len)
  refine B5 ?_
  refine sE (A6 rfl) rfl (fun b37 => ?_)
  refine sE (A6 rfl) rfl (fun b38 => ?_)
  refine sS' ?_
  refine sS rfl rfl rfl hl4 ho4 rfl ?_ (hu := by exact C6 hl4.symm)
  refine J0 ?_
  (refine J8 (D1 rfl rfl rfl zR0 zL0 rfl) rfl ?_; rintro _ ⟨b56, rfl⟩)
  refine E7 ?_
  refine C2 ?_
  (refine L8 (fun (x : Nat × Option Addr × Nat × List Ty × List (List Value) × IM) => ⟨[(10, .int .i64 x.1), (9, .slice x.2.1 x.2.2.2.1.length x.2.2.1), (6, pt b37), (5, pt b24), (4, .bool false), (3, pt b5), (2, pt b4)], [.slc x.2.1 x.2.2.1 25 2 x.2.2.2.1.length x.2.2.2.2.1.flatten, .blk b37 [.slice pb4 S.c cb4, .slice pl4 S.L.length cl4], .blk b24 cb, .blk b5 [.int .i64 0, .slice none 0 0], .blk b4 [.int .i64 0, .string ⟨⟨[]⟩⟩, .int .i64 0, .int .i64 0, .slice none 0 0, .int .i64 0, .slice none 0 0, .int .i64 0, .slice none 0 0]], x.2.2.2.2.2⟩) (fun x => x.1 ≤ S.L.length ∧ B9 G4 x.2.2.2.2.2 ∧ D9 x.2.2.2.2.2 x.2.2.2.1 x.2.2.2.2.1 ∧ x.2.2.2.1.length = x.1 ∧ A0m (ts.take x.1) = some x.2.2.2.1) (fun x => S.L.length - x.1) (0, (some ⟨b56, 0, none⟩), 0, [], [], G4) ?_ ?_ ?_)
  (simp only [I9]; exact F8)
  (exact ⟨Nat.zero_le _, B9.refl _, by simp [D9], rfl, rfl⟩)
  (rintro ⟨(i : Nat), pn, cn, us, es, Gi⟩ ⟨hi, hle, hus, hul, hsu⟩; simp only [] at hi hle hus hul hsu ⊢; have hri := hrb.mono (hle4.trans hle))
  refine B0 ?_
  refine sB (N5 rfl rfl) rfl rfl (fun h78 => ?_) (fun h78 => ?_)
  refine A9 ?_
  refine C2 ?_
  refine tS ?_
  (have hil : i < S.L.length := zR0; obtain ⟨s1, t1, hs1, hd1, ht1⟩ := B8M hD hil; obtain ⟨bk, ok, ev, rfl, hlk, hatk, hrk, hgk⟩ := (hsL4.mono hle).lt (hrL4.mono hle) hs1 hil; refine D3 D4 rfl ?_)
  refine J3 (i := 0) (l' := [tt,ff,ff,ff,ff,ff,ff,ff,ff,ff,ff,ff,ff]) rfl C8 (A3 rfl rfl) rfl zP0 rfl rfl ?_
  refine aP 1 rfl (C3 rfl) rfl ?_
  refine aL 2 rfl (F0 rfl rfl) rfl ?_
  refine aP 3 rfl (qM rfl) rfl ?_
  refine aP 4 rfl (B8 (j := i) rfl rfl rfl hil) rfl ?_
  refine aL 5 rfl (A5 rfl rfl (hatk _) hlk) rfl ?_
  refine P6 (j := 6) (j' := 10) zP0 ?_ ?_
  (refine H1 rfl rfl (B2p S hok.wb _ t1 s1 4 Gi ev (Nat.le_refl _) hd1 (hok.ls _ (List.mem_of_getElem? hs1)) (hs40.mono hle) hrk) rfl rfl rfl (fun v G3 hle3 hh => ?_); obtain ⟨ct, u, rfl, hru, hu⟩ := hh; obtain ⟨pu, cu, eu, rfl, _⟩ := hru.open; rcases hs5 : S9 4 t1 with _ | u1)
  refine aP 7 rfl (qM rfl) rfl ?_
  refine aP 8 rfl (pX rfl rfl) rfl ?_
  refine aP 9 rfl (pX rfl rfl) rfl ?_
  refine A2 10 ?_
  (refine D2 rfl (A6 rfl) rfl rfl ?_; rintro _ ⟨b100, rfl⟩)
  refine A2 11 ?_
  refine C9 rfl ?_
  refine aP 12 rfl (qA rfl) rfl ?_
  refine A4E ?_
  refine E9 (rC rfl (A3 rfl rfl)) (rC rfl (A3 rfl rfl)) (rT rfl) ?_
  (exact A0Q.no (hno (A6D ht1 hs5)))
  refine aP 7 rfl (qM rfl) rfl ?_
  refine aP 8 rfl (pX rfl rfl) rfl ?_
  refine aP 9 rfl (pX rfl rfl) rfl ?_
  refine A2 10 ?_
  (refine D2 rfl (A6 rfl) rfl rfl ?_; rintro _ ⟨b136, rfl⟩)
  refine A2 11 ?_
  refine C9 rfl ?_
  refine aP 12 rfl (qA rfl) rfl ?_
  refine J0 ?_
  (refine J8 (D1 rfl rfl rfl zR0 zL0 rfl) rfl ?_; rintro _ ⟨b155, rfl⟩)
  (obtain rfl := hu u1 hs5; refine Y0 rfl rfl rfl rfl rfl (fun _ _ => by repeat (first | exact Sw.here | apply Sw.there)) (K4 zI0) rfl zK0 zL0 zR0 rfl (fun pn' cn' => ?_))
  refine A9 ?_
  refine sP (K0 rfl rfl zR0 zR0) rfl rfl ?_
  refine A4 ?_
  (refine J7 (i + 1, pn', cn', us ++ [u], es ++ [[.int .i64 u.k, .slice pu u.ks.length cu]], G3) zL ?_ ?_)
  (dsimp only; exact ⟨by omega, hle.trans hle3, (hus.mono hle3).snoc hru, by simp [hul], A6C hsu ht1 hs5⟩)
  (show S.L.length - (i + 1) < S.L.length - i; omega)
  (refine D2 rfl (A6 rfl) rfl rfl ?_; rintro _ ⟨b169, rfl⟩)
  refine A2 6 ?_
  (refine H1 rfl rfl (B2p S hok.wb _ t1 s1 4 Gi ev (Nat.le_refl _) hd1 (hok.ls _ (List.mem_of_getElem? hs1)) (hs40.mono hle) hrk) rfl rfl rfl (fun v G3 hle3 hh => ?_); obtain ⟨ct, u, rfl, hru, hu⟩ := hh; obtain ⟨pu, cu, eu, rfl, _⟩ := hru.open; rcases hs5 : S9 4 t1 with _ | u1)
  refine aP 7 rfl (qM rfl) rfl ?_
  refine aP 8 rfl (pX rfl rfl) rfl ?_
  refine aP 9 rfl (pX rfl rfl) rfl ?_
  refine A2 11 ?_
  refine C9 rfl ?_
  refine aP 12 rfl (qA rfl) rfl ?_
  refine A4E ?_
  refine E9 (rC rfl (A3 rfl rfl)) (rC rfl (A3 rfl rfl)) (rT rfl) ?_
  (exact A0Q.no (hno (A6D ht1 hs5)))
  refine aP 7 rfl (qM rfl) rfl ?_
  refine aP 8 rfl (pX rfl rfl) rfl ?_
  refine aP 9 rfl (pX rfl rfl) rfl ?_
  refine A2 11 ?_
  refine C9 rfl ?_
  refine aP 12 rfl (qA rfl) rfl ?_
  refine J0 ?_
  (refine J8 (D1 rfl rfl rfl zR0 zL0 rfl) rfl ?_; rintro _ ⟨b227, rfl⟩)
  (obtain rfl := hu u1 hs5; refine Y0 rfl rfl rfl rfl rfl (fun _ _ => by repeat (first | exact Sw.here | apply Sw.there)) (K4 zI0) rfl zK0 zL0 zR0 rfl (fun pn' cn' => ?_))
  refine A9 ?_
  refine sP (K0 rfl rfl zR0 zR0) rfl rfl ?_
  refine A4 ?_
  (refine J7 (i + 1, pn', cn', us ++ [u], es ++ [[.int .i64 u.k, .slice pu u.ks.length cu]], G3) zL ?_ ?_)
  (dsimp only; exact ⟨by omega, hle.trans hle3, (hus.mono hle3).snoc hru, by simp [hul], A6C hsu ht1 hs5⟩)
  (show S.L.length - (i + 1) < S.L.length - i; omega)
  refine J2 ?_
  refine sL (A5 rfl rfl (B3 zI0) hlb) rfl rfl ?_
  refine D8 ?_
  (obtain rfl : i = S.L.length := zR0; have htk : ts.take S.L.length = ts := List.take_of_length_le zR0; rw [htk] at hsu; obtain ⟨hy1, hy2, hy3⟩ := hyes us hsu; have hwy := B8L hv hy1 hy2; have hwv := B7B (A8w hv) hy1 hy2; refine X9 (cs := es.flatten) zD0 (fun G5 hle5 hsl5 hno5 => ?_); clear hno5; have hus5 := hus.mono hle5; have hW := B1z (H2 e) us G5 cb pn cn es hbs zR0 zR0 (fun w hw => (A2R (hy2 w hw)).1.small) (hri.mono hle5) (D7.of hsl5 hus5.len hus5.all (fun e he => (hus5.each e he).2)) hus5; rw [hwy] at hW; refine F4 rfl hW rfl rfl (fun v G6 hle6 hh => ?_); obtain ⟨cx, rfl, hrx⟩ := hh; simp only [Option.isSome_some]; replace hrx : B7 G6 (S6 (H2 e) us) cx := hrx; obtain ⟨x, hx⟩ : ∃ x, S6 (H2 e) us = x := ⟨_, rfl⟩; rw [hx] at hrx hy3 hwv; have hlx := hrx.len; have hox := hrx.one)
  refine C1 ?_
  refine sE (A6 rfl) rfl (fun b257 => ?_)
  refine Q1 rfl rfl rfl hlx hox rfl zF0 (by exact C6 (hlx.trans rfl).symm) ?_
  refine A8 ?_
  refine sL (A5 rfl rfl (B3 zI0) hlx) rfl rfl ?_
  (refine F4 rfl (B7q x G6 cx (by have := ((V2 x).1 hwv).2; omega) hrx) rfl rfl (fun v7 G7 hle7 hh => ?_); obtain ⟨cty, uty, rfl, hrty, _⟩ := hh; obtain ⟨qt, dt, et2, rfl, _⟩ := hrty.open; have hrx7 := hrx.mono hle7; rcases hT : U7 x with _ | ty7)
  refine C1 ?_
  refine sE (A6 rfl) rfl (fun b269 => ?_)
  refine A2d ?_
  refine E9 (rC rfl (A3 rfl rfl)) (rC rfl (A3 rfl rfl)) (rT rfl) ?_
  (exact A0Q.no (by rw [hy3, hT]; rfl))
  refine C1 ?_
  refine sE (A6 rfl) rfl (fun b298 => ?_)
  refine J0 ?_
  refine D3 D4 rfl ?_
  refine J3 (i := 0) (l' := [tt,ff,ff,ff,ff]) rfl C8 (A5 rfl rfl (B3 zI0) hlx) rfl zP0 rfl rfl ?_
  refine aL 1 rfl (A3 rfl rfl) rfl ?_
  refine A2 2 ?_
  refine oS rfl rfl rfl rfl hlx hox rfl rfl ?_ (hu := by exact C6 hlx.symm)
  refine A2 3 ?_
  refine C9 rfl ?_
  refine aP 4 rfl (qA rfl) rfl ?_
  refine C1 ?_
  refine E9 (rC rfl (A5 rfl rfl (B3 zI0) hlx)) (rC rfl (A3 rfl rfl)) (rT rfl) ?_
  (exact A0Q.yes (by rw [hy3, hT]; rfl) hrx7 hrty)
def B9V (G : IM) : IM → Value → List A7 → Prop := N8 fun G' v => ∃ a ca b cb f, v = .tuple ⟨[.agg ⟨ca⟩, .agg ⟨cb⟩, .int .i64 f]⟩ ∧ B7 G' a ca ∧ a.fit 1100 ∧ B7 G' b cb ∧ b.fit 1100 ∧ H6 f
def B9W (G : IM) : IM → Value → List A7 → Prop := N8 fun G' v => ∃ a ca b cb d cd, v = .tuple ⟨[.agg ⟨ca⟩, .agg ⟨cb⟩, .agg ⟨cd⟩]⟩ ∧ B7 G' a ca ∧ a.fit 1100 ∧ B7 G' b cb ∧ b.fit 1100 ∧ B7 G' d cd ∧ d.fit 1100
def B9X (N : Nat) (G : IM) : IM → Value → List A7 → Prop := N8 fun G' v => ∃ a ca f, v = .tuple ⟨[.agg ⟨ca⟩, .int .i64 f]⟩ ∧ B7 G' a ca ∧ a.fit N ∧ H6 f
theorem B8O {hp : List A7} {G : IM} {b c el n i : Nat} {es : List (List Value)} {v : Value} {l : List Value} (hm : A7.slc (some ⟨b, 0, none⟩) c el 2 n es.flatten ∈ hp) (hi : i < es.length) (ha : ∀ e ∈ es, e.length = 2) (he : es[i] = v :: l) : At hp G b (0 + i * 2) [v] :=
 A8E hm fun j u hj => B7w hi ha j u (by
  cases j with
  | zero => rw [he]; simpa using hj
  | succ j => simp at hj)
theorem B8P : I4 (.mk 2 []) ∧ M4 (.mk 2 []) ≤ 30 := A2R zQ0
theorem B8Q (br : Nat) (pb : Option Addr) (nb cb : Nat) (bs : List UInt8) (hnb : nb ≤ 2000) (p : Nat) (G : IM) (hb : Sl G pb nb cb 1 (R4 bs)) (hp : p + 3000000 < 1099511627776) :
  Fn Tryz.prog 39 [.pointer (some ⟨br, 0, none⟩)] [rd br pb nb cb p] G
   (A1o br pb nb cb p 3000000 (fun G' v => ∃ e cells, v = .agg ⟨cells⟩ ∧ B7 G' e cells ∧ e.fit 2000000)) := by
 have hm8 : mB 8 = 1968200 := by decide
 have hdB := A7x (d := 0) zQ0
 refine C0 Tryz.func39 rfl Tryz.ntmps39 Tryz.results39 rfl ?_
 intro w0
 refine A4 ?_
 refine sE (A6 rfl) rfl (fun b3 => ?_)
 refine A9 ?_
 (have hcall := A4N br pb nb cb bs hnb 0 p _ zR0 hb zR0; refine L5 rfl hcall (Pk.perm zD0) rfl rfl (fun v Gn outs hleD hh => ?_); obtain ⟨pD, hpD1, hpD2, rfl, uD, cD, rfl, hrD, hsD, haD⟩ := hh; obtain ⟨qD, dD, eD, rfl, _⟩ := hrD.open; replace hb := hb.mono hleD)
 refine D8 ?_
 (refine J8 (D1 rfl rfl rfl zR0 zL0 rfl) rfl ?_; rintro _ ⟨b12, rfl⟩)
 (refine X9 zD0 (fun Gf hlef hslf _ => ?_); refine L5 rfl (A08 Gf br pb nb cb (pD) bs _ _ _ _ (hb.mono hlef) hnb zR0 hslf zQ0) (Pk.perm zD0) rfl rfl (fun v Gm outs hlen hh => ?_); obtain ⟨rfl, rfl, hv⟩ := hh; replace hb := hb.mono hlef; replace hrD := hrD.mono hlef; obtain ⟨dp, rfl, hdp1, hdp2⟩ : ∃ d : Int, v = .int .i64 d ∧ 2 ≤ d ∧ d ≤ 5 := (by simp only [List.mem_cons, List.not_mem_nil, or_false] at hv; rcases hv with rfl | rfl | rfl | rfl <;> exact ⟨_, rfl, by decide, by decide⟩))
 (have hcall := B63 br pb nb cb bs hnb 8 dp uD (pD + 1) _ none 0 0 _ ⟨haD.le zR0, by omega, by omega, .inr ⟨by omega, by omega⟩⟩ zR0 zR0 zR0 (GCx.nil _) hrD hb zR0; refine L5 rfl hcall (Pk.perm zD0) rfl rfl (fun v Gn outs hleM hh => ?_); obtain ⟨pM, hpM1, hpM2, rfl, e, ce, rfl, hr, hsmM, hcM⟩ := hh; have hl := hr.len; have hone := hr.one; replace hb := hb.mono hleM; obtain ⟨hTl, hTv⟩ := B7u e; have hfit : e.fit 2000000 := ⟨hsmM, by omega⟩; have hcnt := hfit.2; have hT := fun G hr => B1w e G ce hfit.1 zR0 hr; generalize A04 e = L0 at hTl hTv hT)
 refine sE (A6 rfl) rfl (fun b15 => ?_)
 refine Q1 rfl rfl rfl hl hone rfl zF0 (by exact C6 (by first | exact hl.symm | omega)) ?_
 refine B5 ?_
 refine sL (A5 rfl rfl (B3 zI0) hl) rfl rfl ?_
 (refine A1l rfl (hT _ hr) rfl rfl (fun v G1 outs hle1 hh => ?_); obtain ⟨q, c, es0, rfl, rfl, hr1⟩ := hh; replace hb := hb.mono hle1; replace hr := hr.mono hle1)
 refine E7 ?_
 refine C2 ?_
 (refine B3k (fun a w hs => hs.slc_ptT (p := q) (c := c) (el := 25) (sz := 2) (n := L0.length) (cs := es0.flatten) zI0) (fun hq => ?_); refine L8 (fun (x : Nat × List (List Value) × IM) => ⟨[(5, .int .i64 x.1), (4, .slice q L0.length c), (0, .pointer (some ⟨br, 0, none⟩)), (3, .pointer (some ⟨b15, 0, none⟩)), (2, .pointer (some ⟨b3, 0, none⟩))], [.slc q c 25 2 L0.length x.2.1.flatten, rd br pb nb cb pM, .blk b15 ce, .blk b3 [.int .i64 0, .string ⟨⟨[]⟩⟩, .int .i64 0, .int .i64 0, .slice none 0 0, .int .i64 0, .slice none 0 0, .int .i64 0, .slice none 0 0]], x.2.2⟩) (fun x => x.1 ≤ L0.length ∧ B9 G1 x.2.2 ∧ ∃ L, L.length = L0.length ∧ D9 x.2.2 L x.2.1 ∧ ∀ u ∈ L, I4 u ∧ M4 u ≤ 30) (fun x => L0.length - x.1) (0, es0, G1) ?_ ?_ ?_)
 (simp only [I9]; exact F8)
 (exact ⟨Nat.zero_le _, B9.refl _, L0, rfl, hr1, fun u hu => A2R (hTv u hu)⟩)
 (rintro ⟨(i : Nat), es, Gi⟩ ⟨hi, hle, L, hL, hst, hal⟩; simp only [] at hi hle hst ⊢; replace hb := hb.mono hle; have hesl : es.length = L0.length := (by have h0 := hst.len; omega))
 refine A9 ?_
 refine sB (N5 rfl rfl) rfl rfl (fun h43 => ?_) (fun h43 => ?_)
 refine A9 ?_
 refine C2 ?_
 refine B5 ?_
 (obtain ⟨g, rfl, hgc⟩ := hq.resolve_left zR0; obtain ⟨hai, hsi⟩ := hal L[i] (List.getElem_mem zR0); have hri : C7 Gi L[i] (es[i]'zR0) := (by have h0 := (hst.inv (i := i) (List.getElem?_eq_getElem zR0) B4).2; rw [List.getD_eq_getElem?_getD, List.getElem?_eq_getElem zR0, Option.getD_some] at h0; exact h0); obtain ⟨qi, di, ei, hei0, _⟩ := hri.open; refine sP (B8 (j := i) rfl rfl rfl zR0) rfl rfl ?_)
 refine D8 ?_
 refine sL (I7 rfl rfl (B8O zI0 zR0 (fun e he => (hst.each e he).1) hei0)) rfl rfl ?_
 refine sB (qE rfl rfl) rfl rfl (fun h58 => ?_) (fun h58 => ?_)
 refine A9 ?_
 refine H4 rfl ((A1I _)) rfl rfl ?_
 refine sP (B8 (j := i) rfl rfl rfl zR0) rfl rfl ?_
 refine B43 rfl rfl rfl (vs := [.int .i64 2, .slice none 0 0]) rfl rfl rfl zF0 (B44 zR0 (fun e he => (hst.each e he).1) rfl) ?_
 refine A8 ?_
 refine sP (K0 rfl rfl zR0 zR0) rfl rfl ?_
 refine A4 ?_
 (refine J7 (i + 1, es.set i [.int .i64 2, .slice none 0 0], Gi) (I6 zC0 zV) ?_ ?_)
 (dsimp only; exact ⟨by omega, hle, L.set i (.mk 2 []), by rw [List.length_set]; exact hL, hst.set i (L9 _ ⟨by omega, by omega⟩), fun w hw => by rcases List.mem_or_eq_of_mem_set hw with h | h; exact hal w h; rw [h]; exact B8P⟩)
 (show L0.length - (i + 1) < L0.length - i; omega)
 refine E1 ?_
 refine sP (K0 rfl rfl zR0 zR0) rfl rfl ?_
 refine A4 ?_
 (refine J7 (i + 1, es, Gi) (I6 zC0 zV) ?_ ?_)
 (dsimp only; exact ⟨by omega, hle, L, hL, hst, hal⟩)
 (show L0.length - (i + 1) < L0.length - i; omega)
 refine J2 ?_
 refine sL (A5 rfl rfl (B3 zI0) hl) rfl rfl ?_
 refine D8 ?_
 (refine X9 (cs := es.flatten) zD0 (fun G2 hle2 hsl2 hno2 => ?_); have hw := B1z e L G2 ce q c es hfit.1 zR0 zR0 (fun u hu => (hal u hu).1.small) ((hr.mono hle).mono hle2) (D7.of (by rw [hL]; exact hsl2) zR0 hst.all (fun e he => (hst.each e he).2)) (hst.mono hle2); rw [hL] at hw; refine F4 rfl hw rfl rfl (fun v G3 hle3 hh => ?_); obtain ⟨cu, rfl, hru⟩ := hh; have hfu := B7v hfit (fun u hu => (hal u hu).1.small); generalize (A14 e L).isSome = bx; generalize (A14 e L).getD I8 = ux at *; have hul := hru.len; have huo := hru.one; replace hb := (hb.mono hle2).mono hle3; cases bx)
 refine C1 ?_
 refine sE (A6 rfl) rfl (fun b109 => ?_)
 refine sS rfl rfl rfl hul huo rfl ?_ (hu := by exact C6 hul.symm)
 refine X3 ?_
 (have hcall := A90 br pb nb cb bs hnb pM _ hb zR0; refine L5 rfl hcall (Pk.perm zD0) rfl rfl (fun v Gn outs hleC hh => ?_); obtain ⟨pC, hpC1, hpC2, rfl, eC, cC, rfl, hrC, hcC⟩ := hh; have hlC := hrC.len; have hoC := hrC.one; have hcntC := A5P eC)
 exact y137
 refine C1 ?_
 refine sE (A6 rfl) rfl (fun b141 => ?_)
 refine sS rfl rfl rfl hul huo rfl ?_ (hu := by exact C6 hul.symm)
 refine E7 ?_
 (refine L5 rfl (A0C _ br pb nb cb pM bs 3 hb hnb zR0) (Pk.perm zD0) rfl rfl (fun v Gp outs hle7 hh => ?_); obtain ⟨rfl, rfl, j7, rfl, hj7, hk7⟩ := hh)
 refine sB (A0K rfl rfl) rfl rfl (fun h153 => ?_) (fun h153 => ?_)
 refine A9 ?_
 refine sL (A5 rfl rfl (B3 zI0) hul) rfl rfl ?_
 refine sS rfl rfl rfl hul huo rfl ?_ (hu := by exact C6 hul.symm)
 refine B5 ?_
 refine H8 (outs := [rd br pb nb cb (pM + 1)]) (rC rfl (A5 rfl rfl (B3 zI0) hul)) zS ?_
 (exact ⟨pM + 1, by omega, by omega, rfl, ux, cu, rfl, hru, hfu⟩)
 refine E7 ?_
 (have hcall := A90 br pb nb cb bs hnb (pM + 1) _ hb zR0; refine L5 rfl hcall (Pk.perm zD0) rfl rfl (fun v Gn outs hleC hh => ?_); obtain ⟨pC, hpC1, hpC2, rfl, eC, cC, rfl, hrC, hcC⟩ := hh; have hlC := hrC.len; have hoC := hrC.one; have hcntC := A5P eC)
 exact y137
def B2x (N : Nat) : IM → Value → List A7 → Prop := N8 fun G' v => ∃ e cells, v = .agg ⟨cells⟩ ∧ B7 G' e cells ∧ e.fit N
theorem B8R (G : IM) (q : Option Addr) (n c : Nat) (bs : List UInt8) (hb : Sl G q n c 1 (R4 bs)) : Fn Tryz.prog 12 [.slice q n c] [] G (B2x 2000000) := by
 refine C0 Tryz.func12 rfl Tryz.ntmps12 Tryz.results12 rfl ?_
 intro w0
 refine A4 ?_
 refine sE (A6 rfl) rfl (fun b3 => ?_)
 refine A8 ?_
 (refine L5 rfl (B4L G q n c bs hb) (List.Perm.refl _) rfl rfl (fun v G1 outs hle1 hh => ?_); obtain ⟨rfl, br, pb, nb, cb, bs', rfl, rfl, hnb, hb'⟩ := hh)
 refine B0 ?_
 (have hcall := B8Q br pb nb cb bs' hnb 0 _ hb' zR0; refine L5 rfl hcall (Pk.perm zD0) rfl rfl (fun v Gn outs hle1 hh => ?_); obtain ⟨p2, hp11, hp12, rfl, e2, ce2, rfl, hre2, hfe2⟩ := hh; have hl1 := hre2.len; have ho1 := hre2.one; replace hb' := hb'.mono hle1)
 (have hcall := B4U br pb nb cb bs' hnb p2 _ hb' zR0 e2 ce2 2000000 hfe2 hre2; refine L5 rfl hcall (Pk.perm zD0) rfl rfl (fun v Gn3 outs hle3 hh => ?_); obtain ⟨p3, hp31, hp32, rfl, e3, ce3, rfl, hre3, hfe3⟩ := hh; have hl3 := hre3.len; have ho3 := hre3.one)
 refine Q1 rfl rfl rfl zO0 zO0 rfl zF0 (by exact C6 (by symm; assumption)) ?_
 refine C1 ?_
 refine P5 (rC rfl (A5 rfl rfl (B3 zI0) hl3)) ?_
 (exact ⟨rfl, e3, ce3, rfl, hre3, hfe3⟩)
theorem B8S (G : IM) (q : Option Addr) (n c : Nat) (bs : List UInt8) (hb : Sl G q n c 1 (R4 bs)) : Fn Tryz.prog 5 [.slice q n c] [] G (B2x 2000000) := by
 have hD := B8R G q n c bs hb
 refine C0 Tryz.func5 rfl Tryz.ntmps5 Tryz.results5 rfl ?_
 intro w0
 refine A4 ?_
 refine sE (A6 rfl) rfl (fun b3 => ?_)
 refine A8 ?_
 (refine F4 rfl hD rfl rfl (fun v1 G1 hle1 hh => ?_); obtain ⟨e, ce, rfl, hre, hfe⟩ := hh; have hl1 := hre.len; have ho1 := hre.one)
 refine Q1 rfl rfl rfl zO0 zO0 rfl zF0 (by exact C6 (by symm; assumption)) ?_
 refine C1 ?_
 refine P5 (rC rfl (A5 rfl rfl (B3 zI0) hl1)) ?_
 (exact ⟨rfl, e, ce, rfl, hre, hfe⟩)
theorem B8T (t : Tm) (G : IM) (cells : List Value) (hl : cells.length = 9) (ho : cells.all (·.oneCell') = true) (h : Fn Tryz.prog 154 [.agg ⟨cells⟩] [] G (K7 (.bool (A0k t)) G)) :
  Fn Tryz.prog 168 [.agg ⟨cells⟩] [] G (X2 (.bool (!A0k t)) [] G) := by
 refine C0 Tryz.func168 rfl Tryz.ntmps168 Tryz.results168 rfl ?_
 intro w0
 refine A4 ?_
 refine sE (B6 rfl rfl) rfl (fun b3 => ?_)
 refine A8 ?_
 refine sL (A5 rfl rfl (B3 zI0) hl) rfl rfl ?_
 refine H4 rfl (h) rfl rfl ?_
 refine sQ (A2D rfl) rfl ?_
 refine A8 ?_
 (exact ⟨rfl, rfl, rfl⟩)
theorem B8U {k : Int} {nm : ByteArray} {num : Int} {ty fr : Ty} {lb : Int} {ks : List Tm} {A : Bool} (h : ks.all A0k = A) (h1 : k ≠ 14) (h2 : k ≠ 5 ∨ ty.k = 1) : A0k (.mk k nm num ty fr lb ks) = A := by
 rw [A0k, decide_eq_true ⟨h1, h2⟩, A8e, h, Bool.true_and]
theorem B8V {k : Int} {nm : ByteArray} {num : Int} {ty fr : Ty} {lb : Int} {ks : List Tm} (h : ¬(k ≠ 14 ∧ (k ≠ 5 ∨ ty.k = 1))) : A0k (.mk k nm num ty fr lb ks) = false := by
 rw [A0k, decide_eq_false h, Bool.false_and]
theorem B8W : ∀ (t : Tm) (G : IM) (cells : List Value), B7 G t cells → Fn Tryz.prog 154 [.agg ⟨cells⟩] [] G (K7 (.bool (A0k t)) G) := by
 refine Tm.ind fun k nm num ty fr lb ks ih G cells hr => ?_
 obtain ⟨A, hA⟩ : ∃ A, ks.all A0k = A := ⟨_, rfl⟩
 have hy := @B8U k nm num ty fr lb ks A hA
 have hn := @B8V k nm num ty fr lb ks
 generalize A0k (.mk k nm num ty fr lb ks) = R at hy hn ⊢
 obtain ⟨tk, tks⟩ := ty
 obtain ⟨fk, fks⟩ := fr
 rw [show (Ty.mk tk tks).k = tk from rfl] at hy hn
 obtain ⟨pt, ct, pf, cf, p, c, es, rfl, hk, hnum, hlb, hty, hfr, hsl, hkl⟩ := hr.open9
 have hC := B0L G p ks.length c es hsl 168 [] [] [] A0k ks rfl hA (fun i e he => by
  have hx := hkl.inv he I8
  exact B8T _ G e hx.2.len hx.2.one (ih _ hx.1 G e hx.2))
 refine C0 Tryz.func154 rfl Tryz.ntmps154 Tryz.results154 rfl ?_
 intro w0
 refine A4 ?_
 refine sE (B6 rfl rfl) rfl (fun b3 => ?_)
 refine B0 ?_
 refine sB (U3 rfl rfl) rfl rfl (fun h11 => ?_) (fun h11 => ?_)
 refine C1 ?_
 refine sB (U3 rfl rfl) rfl rfl (fun h15 => ?_) (fun h15 => ?_)
 refine J2 ?_
 refine A2J rfl hC A0S rfl rfl ?_
 refine sQ (A2D rfl) rfl ?_
 refine A9 ?_
 (exact ⟨rfl, by rw [hy zR0 zR0]; cases A <;> rfl, rfl⟩)
 refine B5 ?_
 refine sB (qE rfl rfl) rfl rfl (fun h39 => ?_) (fun h39 => ?_)
 refine A8 ?_
 refine A2J rfl hC A0S rfl rfl ?_
 refine sQ (A2D rfl) rfl ?_
 refine A9 ?_
 (exact ⟨rfl, by rw [hy zR0 zR0]; cases A <;> rfl, rfl⟩)
 refine N0 ?_
 (exact ⟨rfl, by rw [hn zR0], rfl⟩)
 refine A5B ?_
 (exact ⟨rfl, by rw [hn zR0], rfl⟩)
theorem B2y (t : Tm) (G : IM) (cells : List Value) (hr : B7 G t cells) : Fn Tryz.prog 135 [.agg ⟨cells⟩] [] G (K7 (.bool (V6 t)) G) := by
 have hRl := hr.len
 have hRo := hr.one
 have hV := A5Q t G cells hr
 have hB := B8W t G cells hr
 unfold V6
 generalize O9 t = a at hV ⊢
 generalize A0k t = b at hB ⊢
 refine C0 Tryz.func135 rfl Tryz.ntmps135 Tryz.results135 rfl ?_
 intro w0
 refine A4 ?_
 refine sE (B6 rfl rfl) rfl (fun b3 => ?_)
 refine A8 ?_
 refine sL (A5 rfl rfl (B3 zI0) hRl) rfl rfl ?_
 refine J5 rfl (hV) rfl rfl (fun h10 => ?_) (fun h10 => ?_)
 refine D8 ?_
 refine sL (A5 rfl rfl (B3 zI0) hRl) rfl rfl ?_
 refine J5 rfl (hB) rfl rfl (fun h13 => ?_) (fun h13 => ?_)
 refine A9 ?_
 (simp_all; exact ⟨rfl, rfl, rfl⟩)
 refine A9 ?_
 (simp_all; exact ⟨rfl, rfl, rfl⟩)
 refine E7 ?_
 (simp_all; exact ⟨rfl, rfl, rfl⟩)
theorem B8X (t : Tm) (G : IM) (cells : List Value) (hr : B7 G t cells) : Fn Tryz.prog 155 [.agg ⟨cells⟩] [] G (K7 (.int .i64 (A4m t.k)) G) := by
 obtain ⟨k, nm, num, ⟨tk, tks⟩, ⟨fk, fks⟩, lb, ks⟩ := t
 obtain ⟨pt, ct, pf, cf, p, c, es, rfl, hk, hnum, hlb, hty, hfr, hsl, hkl⟩ := hr.open9
 rw [show (Tm.mk k nm num (.mk tk tks) (.mk fk fks) lb ks).k = k from rfl]
 have hw : ∀ v : Int, (k = 6 → v = 1) → (k = 7 ∨ k = 8 → v = 2) → (k = 9 → v = 3) → (k = 11 ∨ k = 12 → v = 4) → (k ≠ 6 → k ≠ 7 → k ≠ 8 → k ≠ 9 → k ≠ 11 → k ≠ 12 → v = 5) → A4m k = v := by
  intro v h1 h2 h3 h4 h5
  unfold A4m
  repeat' split
  all_goals first | exact (h1 zO0).symm | exact (h2 zO0).symm | exact (h3 zO0).symm | exact (h4 zO0).symm | exact (h5 zR0 zR0 zR0 zR0 zR0 zR0).symm
 refine C0 Tryz.func155 rfl Tryz.ntmps155 Tryz.results155 rfl ?_
 intro w0
 refine A4 ?_
 refine sE (B6 rfl rfl) rfl (fun b3 => ?_)
 refine J2 ?_
 refine C2 (tS (tR (sB (qE rfl rfl) rfl rfl (fun h17 => ?_) (fun h17 => ?_))))
 exact y135
 refine B0 ?_
 refine sB (qE rfl rfl) rfl rfl (fun h39 => ?_) (fun h39 => ?_)
 refine N3 ?_
 (exact ⟨rfl, congrArg (Value.int .i64) (Eq.symm (hw _ zR0 zR0 zR0 zR0 zR0)), rfl⟩)
 refine A8 ?_
 refine sB (qE rfl rfl) rfl rfl (fun h62 => ?_) (fun h62 => ?_)
 exact y135
 refine A9 ?_
 refine sB (qE rfl rfl) rfl rfl (fun h83 => ?_) (fun h83 => ?_)
 exact y135
 refine B0 ?_
 refine sB (qE rfl rfl) rfl rfl (fun h105 => ?_) (fun h105 => ?_)
 refine N3 ?_
 (exact ⟨rfl, congrArg (Value.int .i64) (Eq.symm (hw _ zR0 zR0 zR0 zR0 zR0)), rfl⟩)
 refine A8 ?_
 refine sB (qE rfl rfl) rfl rfl (fun h128 => ?_) (fun h128 => ?_)
 exact y135
 refine M8 ?_
 (exact ⟨rfl, congrArg (Value.int .i64) (Eq.symm (hw _ zR0 zR0 zR0 zR0 zR0)), rfl⟩)
theorem B8Y {k : Int} {ks : List Tm} (h : W9 k ks = none) : A1t k ks = (I8, 2, A4m k) := B7L h
theorem B8Z : ∀ (t : Tm) (G : IM) (cells : List Value), cv t → H7 t = false → A0k t = true → B7 G t cells → Fn Tryz.prog 136 [.agg ⟨cells⟩] [] G (U1 (O5 t)) := by
 refine Tm.ind fun k nm num ty fr lb ks ih G cells hc hv hb hr => ?_
 have hr0 := hr
 have hN := hc.node.1
 have hkk := hc.node.2
 have hkb := (A15.1 hb).2
 have hsm := A4Z _ hc
 obtain ⟨_, _, _, _, hksm⟩ := A37.1 hsm
 have hops := hN.ops
 have hle3 := A27 k
 have hkd := @B0Y k nm num ty fr lb ks hc hv
 have hrd := @B7K k nm num ty fr lb ks
 have hkidS := fun (i : Nat) => @B7J k nm num ty fr lb ks i
 have hRA := fun h => @B0V k nm num ty fr lb ks G cells hc h hr
 have hW := fun (G1 : IM) (hle : B9 G G1) => B8X _ G1 cells (hr.mono hle)
 have hCt := B0Z _ G _ hr
 rw [show (Tm.mk k nm num ty fr lb ks).k = k from rfl] at hW
 rw [show (Tm.mk k nm num ty fr lb ks).k = k from rfl, show (Tm.mk k nm num ty fr lb ks).ks = ks from rfl] at hCt
 obtain ⟨C, hC⟩ : ∃ C : Nat, (if k = 9 then 1 else ks.length : Nat) = C := ⟨_, rfl⟩
 rw [hC] at hCt hkd hrd
 have hkidS' := fun (i : Nat) (hi : i < ks.length) (hn : i < C) => hkidS i hi (by rw [hC]; exact hn)
 have hC9 : C ≤ ks.length := by rw [← hC]; split; (have : E8 k = 3 := by (rename_i h9; rw [h9]; rfl)); omega; omega
 obtain ⟨tk, tks⟩ := ty
 obtain ⟨fk, fks⟩ := fr
 obtain ⟨pt, ct, pf, cf, p, c, es, rfl, hk, hnum, hlb, hty, hfr, hsl, hkl⟩ := hr.open9
 have hn := hsl.le
 have hnc := hsl.sl.2.1
 refine C0 Tryz.func136 rfl Tryz.ntmps136 Tryz.results136 rfl ?_
 intro w0
 refine A4 ?_
 refine sE (B6 rfl rfl) rfl (fun b3 => ?_)
 refine sE (A6 rfl) rfl (fun b4 => ?_)
 refine A9 ?_
 refine D3 D4 rfl ?_
 refine J4 (i := 0) (l' := [tt,ff,ff,ff,ff,ff,ff]) rfl C8 (C3 rfl) rfl zP0 rfl rfl ?_
 refine aL 1 rfl (F0 rfl rfl) rfl ?_
 refine aL 2 rfl (A3 rfl rfl) rfl ?_
 refine aP 6 rfl (qM rfl) rfl ?_
 refine A2 3 ?_
 refine T2 rfl rfl (hCt) rfl rfl rfl ?_
 refine aP 4 rfl (A68 (l := C) rfl rfl rfl zR0) rfl ?_
 refine aP 5 rfl (pLn rfl rfl) rfl ?_
 refine A4 ?_
 refine C2 ?_
 (refine L8 (fun (i : Nat) => ⟨[(19, .int .i64 (i : Int)), (18, .int .i64 (C : Int)), (17, .slice p C c), (1, .pointer (some ⟨b3, 0, none⟩)), (2, .pointer (some ⟨b4, 0, none⟩))], [.blk b4 [.int .i64 0, .string ⟨⟨[]⟩⟩, .int .i64 0, .int .i64 0, .slice none 0 0, .int .i64 0, .slice none 0 0, .int .i64 0, .slice none 0 0], .blk b3 [.int .i64 k, .string nm, .int .i64 num, .int .i64 tk, .slice pt tks.length ct, .int .i64 fk, .slice pf fks.length cf, .int .i64 lb, .slice p ks.length c]], G⟩) (fun i => i ≤ C ∧ ∀ j, j < i → (h : j < ks.length) → H7 ks[j] = true) (fun i => C - i) 0 ?_ ?_ ?_)
 exact F8
 (exact ⟨Nat.zero_le _, fun j hj => absurd hj (Nat.not_lt_zero j)⟩)
 (rintro i ⟨hi, hj⟩)
 refine A4 ?_
 refine sB (N5 rfl rfl) rfl rfl (fun h29 => ?_) (fun h29 => ?_)
 refine B0 ?_
 refine C2 ?_
 refine C1 ?_
 (have hiC : i < C := zR0; obtain ⟨bx, ox, e, rfl, hl, hat, hre, hgb⟩ := hsl.kidTm hkl (i := i) zR0 zR0; have heo := hre.one; have hVi := A6g ks[i] G e hre; refine sP (B8 (j := i) rfl rfl rfl hiC) rfl rfl ?_)
 refine sL (A5 rfl rfl (hat _) hl) rfl rfl ?_
 refine sE (A6 rfl) rfl (fun b43 => ?_)
 refine D8 ?_
 refine sS rfl rfl rfl hl heo rfl ?_ (hu := by exact C6 hl.symm)
 refine A8 ?_
 refine sL (A5 rfl rfl (B3 zI0) hl) rfl rfl ?_
 refine J5 rfl (hVi) rfl rfl (fun h52 => ?_) (fun h52 => ?_)
 refine E1 ?_
 refine sP (K0 rfl rfl zR0 zR0) rfl rfl ?_
 refine A4 ?_
 refine J7 (i + 1) ?_ ?_ ?_
 exact F8
 (exact ⟨by omega, fun j hji hl2 => (by by_cases he : j = i; (subst he; assumption); exact hj j zR0 hl2)⟩)
 (show C - (i + 1) < C - i; omega)
 refine B0 ?_
 refine sL (A5 rfl rfl (B3 zI0) hl) rfl rfl ?_
 (have hvF : H7 ks[i] = false := zO0; obtain ⟨hs1, hs2, hs3⟩ := hkidS' i zR0 hiC (fun j hji hl2 => hj j hji hl2) hvF; refine F4 rfl (ih ks[i] (List.getElem_mem zR0) G e (hkk _ (List.getElem_mem zR0)) hvF (hkb _ (List.getElem_mem zR0)) hre) rfl rfl (fun v G1 hle1 hh => ?_); obtain ⟨u, uc, rfl, hru, hu1⟩ := hh; have hul := hru.len; have huo := hru.one; have hClo := B0u G1 _ ks.length c es (hsl.mono hle1) zR0 zR0)
 refine B5 ?_
 refine sE (A6 rfl) rfl (fun b81 => ?_)
 refine sS rfl rfl rfl hul huo rfl ?_ (hu := by exact C6 hul.symm)
 refine B0 ?_
 refine sE (A6 rfl) rfl (fun b90 => ?_)
 refine B0 ?_
 (refine A1l rfl hClo rfl rfl (fun v98 G98 outs98 hle98 h98 => ?_); obtain ⟨hG, p1, c1, rfl, rfl⟩ := h98; replace hG := hG.symm; subst hG; refine A4T (cs := es.flatten) zD0 zR0 (fun bc Cc hpe hnc1 hcm => ?_); subst hpe)
 replace hru := hru.mono hle98
 refine E7 ?_
 refine sL (A5 rfl rfl (B3 zI0) hul) rfl rfl ?_
 refine sP (B8 (j := i) rfl rfl rfl zR0) rfl rfl ?_
 refine Q1 rfl rfl rfl hul huo rfl zF0 (by exact A4U (by rw [hkl.len]; omega) (fun e he => (hsl.all e he)) hul) ?_
 refine O3 ?_
 (refine A5D (bs := [(bc, (es.set i uc).flatten ++ Cc)]) (Pk.perm zD0) (fun hn2 hd2 hle2 => ?_))
 refine A9 ?_
 refine E9 (rC rfl (A3 rfl rfl)) (rT rfl) (rT rfl) ?_
 (have hks2 := F9.set (j := i) ((hkl.mono hle1).mono hle2) (hru.mono hle2); refine A7V (r' := Z6) hs1 hs2 (B7.put (us := ks.set i u) (es := es.set i uc) hk hnum hlb ((hty.mono hle1).mono hle2) ((hfr.mono hle1).mono hle2) (by rw [List.length_set]) (D7.of (Sl.of_blk (A := []) (by rw [A1y hks2.all, hks2.len, List.length_set]) zR0 hcm (Wi.in hn2 List.mem_cons_self)) (by rw [hks2.len, List.length_set]) hks2.all (fun e he => by obtain ⟨q, hq⟩ := List.getElem?_of_mem he; exact (hks2.inv hq I8).2.one)) hks2) (fun h1 => by rw [hs3 h1, hu1 h1]))
 refine O3 ?_
 focus (have hall : ∀ i, i < C → (hl : i < ks.length) → H7 ks[i] = true := (fun j hjc hl2 => hj j zR0 hl2); have hk8 := hkd hall; have hrd' := hrd hall; refine F4 rfl (hRA hk8) rfl rfl (fun v G1 hle1 hh => ?_); obtain ⟨u, uc, cc, rfl, hru, hy, hno⟩ := hh; have hul := hru.len; have huo := hru.one; rcases hm : W9 k ks with _ | x; rotate_left; obtain ⟨rfl, rfl⟩ := hy _ hm; rotate_left; obtain rfl := hno hm)
 refine C1 ?_
 refine sE (A6 rfl) rfl (fun b148 => ?_)
 refine sS rfl rfl rfl hul huo rfl ?_ (hu := by exact C6 hul.symm)
 refine B0 ?_
 refine sP (A0R rfl rfl zR0) rfl rfl ?_
 refine B0 ?_
 refine H4 rfl ((hW _ hle1)) rfl rfl ?_
 refine B0 ?_
 refine E9 (rC rfl (A3 rfl rfl)) (rT rfl) (rT rfl) ?_
 (rw [hrd', B8Y hm]; exact U1.mk rfl (R7 _))
 refine C1 ?_
 refine sE (A6 rfl) rfl (fun b178 => ?_)
 refine sS rfl rfl rfl hul huo rfl ?_ (hu := by exact C6 hul.symm)
 refine B0 ?_
 refine sP (A2H rfl rfl zR0) rfl rfl ?_
 refine B0 ?_
 refine sL (A5 rfl rfl (B3 zI0) hul) rfl rfl ?_
 refine D8 ?_
 refine sS rfl rfl rfl hul huo rfl ?_ (hu := by exact C6 hul.symm)
 refine A8 ?_
 refine E9 (rC rfl (A5 rfl rfl (B3 zI0) hul)) (rT rfl) (rT rfl) ?_
 (rw [hrd', A6v hm]; exact U1.mk rfl hru)
theorem B80 (t : Tm) (G : IM) (cells : List Value) (hr : B7 G t cells) : Fn Tryz.prog 102 [.agg ⟨cells⟩] [] G (A0d (L4 t)) := by
 have hRl := hr.len
 have hRo := hr.one
 have hV := B2y t G cells hr
 have hI := A6g t G cells hr
 refine C0 Tryz.func102 rfl Tryz.ntmps102 Tryz.results102 rfl ?_
 intro w0
 refine A4 ?_
 refine sE (B6 rfl rfl) rfl (fun b3 => ?_)
 refine sE (A6 rfl) rfl (fun b4 => ?_)
 refine A8 ?_
 refine C2 ?_
 refine A4 ?_
 refine sL (A5 rfl rfl (B3 zI0) hRl) rfl rfl ?_
 refine J5 rfl (hV) rfl rfl (fun h14 => ?_) (fun h14 => ?_)
 refine B0 ?_
 refine sL (A5 rfl rfl (B3 zI0) hRl) rfl rfl ?_
 refine J5 rfl (hI) rfl rfl (fun h23 => ?_) (fun h23 => ?_)
 refine A9 ?_
 refine sL (A5 rfl rfl (B3 zI0) hRl) rfl rfl ?_
 (refine F4 rfl (A32 t G cells (A5c (A6w zO0).1) hr) rfl rfl (fun v G1 hle1 hh => ?_); obtain ⟨cs1, F1, rfl, hs1, hn1⟩ := hh; have hul := hs1.R.len; have huo := hs1.R.one)
 refine sS rfl rfl rfl hul huo rfl ?_ (hu := by exact C6 hul.symm)
 refine B0 ?_
 refine E9 (rC rfl (A5 rfl rfl (B3 zI0) hul)) (rT rfl) (rT rfl) ?_
 (exact A0d.mk (A8g zO0 zO0) (hs1.R.mono (E0.le _ _)))
 refine E7 ?_
 refine sL (A5 rfl rfl (B3 zI0) hRl) rfl rfl ?_
 (have hbv := A6w (e := t) zO0; refine F4 rfl (B8Z t G cells (A3E hbv.1).1 zO0 hbv.2 hr) rfl rfl (fun v G1 hle1 hh => ?_); obtain ⟨u, uc, rfl, hru, hu1⟩ := hh; have hul := hru.len; have huo := hru.one; have hVu := B2y u G1 uc hru)
 refine B5 ?_
 refine sE (A6 rfl) rfl (fun b57 => ?_)
 refine sS rfl rfl rfl hul huo rfl ?_ (hu := by exact C6 hul.symm)
 refine A8 ?_
 refine C2 ?_
 refine C1 ?_
 refine sB (U3 rfl rfl) rfl rfl (fun h68 => ?_) (fun h68 => ?_)
 refine V0 ?_
 refine E9 (rC rfl (A3 rfl rfl)) (rT rfl) (rT rfl) ?_
 (exact A0d.mk (B7N zO0 zO0 zR0) (R7 _))
 refine A9 ?_
 refine sL (A5 rfl rfl (B3 zI0) hul) rfl rfl ?_
 refine J5 rfl (hVu) rfl rfl (fun h95 => ?_) (fun h95 => ?_)
 refine J2 ?_
 refine sL (A5 rfl rfl (B3 zI0) hul) rfl rfl ?_
 (refine F4 rfl (A32 u G1 uc (A5c (A6w zO0).1) hru) rfl rfl (fun v G2 hle2 hh => ?_); obtain ⟨cs2, F2, rfl, hs2, hn2⟩ := hh; have hwl := hs2.R.len; have hwo := hs2.R.one)
 refine sS rfl rfl rfl hwl hwo rfl ?_ (hu := by exact C6 hwl.symm)
 refine A8 ?_
 refine E9 (rC rfl (A5 rfl rfl (B3 zI0) hwl)) (rT rfl) (rT rfl) ?_
 (have h9 := hu1 zR0; subst h9; exact A0d.mk (A8i zO0 zO0 zR0 zO0) (hs2.R.mono (E0.le _ _)))
 refine N3 ?_
 refine E9 (rC rfl (A3 rfl rfl)) (rT rfl) (rT rfl) ?_
 (have h9 := hu1 zR0; subst h9; exact A0d.mk (A8h zO0 zO0 zR0 zO0) (R7 _))
 refine N3 ?_
 refine E9 (rC rfl (A3 rfl rfl)) (rT rfl) (rT rfl) ?_
 (exact A0d.mk (B7M zO0) (R7 _))
section
variable {k : Int} {nm : ByteArray} {num : Int} {ty fr : Ty} {lb : Int} {ks : List Tm}
end
theorem B2z {e : Tm} {fuel : Int} (h : V1 fuel 0 300 = false) : X8 e fuel = (I8, 3, 0) := by
 unfold X8; rw [if_neg (A6Y h)]
theorem A8x {e : Tm} {fuel : Int} (h : V1 fuel 0 300 = true) : X8 e fuel = ((R3 fuel.toNat e).1, (R3 fuel.toNat e).2.1, (R3 fuel.toNat e).2.2.1) := by
 unfold X8; rw [if_pos (A3Y h)]
inductive MV where
 | mk (k num : Int) (env parts : List MV)
def MV.k : MV → Int | .mk k _ _ _ => k
def MV.num : MV → Int | .mk _ n _ _ => n
def MV.env : MV → List MV | .mk _ _ e _ => e
def MV.parts : MV → List MV | .mk _ _ _ p => p
def mv0 : MV := .mk 0 0 [] []
mutual
def RMv (kc : Int → Int) (G : IM) : MV → List Value → Prop
 | .mk k num env parts, cells => ∃ p c es q d fs, cells = [.int .i64 (kc k), .int .i64 num, .slice p env.length c, .slice q parts.length d] ∧ H6 num ∧ H6 (kc k) ∧ D7 G p env.length c 4 es ∧ A4v kc G env es ∧ D7 G q parts.length d 4 fs ∧ A4v kc G parts fs
def A4v (kc : Int → Int) (G : IM) : List MV → List (List Value) → Prop
 | [], es => es = []
 | t :: ts, es => ∃ a r, es = a :: r ∧ RMv kc G t a ∧ A4v kc G ts r
end
section
variable {kc : Int → Int} {G : IM}
end

def RFr (kc : Int → Int) (G : IM) (f : Int × List MV) (cells : List Value) : Prop := ∃ p c es, cells = [.int .i64 f.1, .slice p f.2.length c] ∧ H6 f.1 ∧ D7 G p f.2.length c 4 es ∧ A4v kc G f.2 es
def B2A (kc : Int → Int) (G : IM) : List (Int × List MV) → List (List Value) → Prop
 | [], es => es = []
 | t :: ts, es => ∃ a r, es = a :: r ∧ RFr kc G t a ∧ B2A kc G ts r
section
variable {kc : Int → Int} {G : IM}
end

structure MSt where
 at' : Int
 st : List MV
 env : List MV
 fr : List (Int × List MV)
def RSs (kc : Int → Int) (G : IM) (s : MSt) (cells : List Value) : Prop := ∃ pe ce ps cs pf cf ee es ef, cells = [.int .i64 s.at', .slice pe s.env.length ce, .slice ps s.st.length cs, .slice pf s.fr.length cf] ∧ H6 s.at' ∧
 D7 G pe s.env.length ce 4 ee ∧ A4v kc G s.env ee ∧ D7 G ps s.st.length cs 4 es ∧ A4v kc G s.st es ∧ D7 G pf s.fr.length cf 2 ef ∧ B2A kc G s.fr ef
def A6E (k : Int) : Nat := if k = 6 ∨ k = 7 ∨ k = 8 ∨ k = 11 then 2 else if k = 9 ∨ k = 12 ∨ k = 13 then 1 else 0
def A8y (k : Int) : Int × Nat × Int := if k = 6 then (2, 1, 1) else if k = 7 ∨ k = 8 then (0, 2, 2) else if k = 9 then (1, 1, 3) else if k = 12 ∨ k = 13 then (3, 1, 4) else (0, 0, 0)
def A3p (s : MSt) (v : MV) : MSt := { s with st := s.st ++ [v] }
def mGo (k a : Int) (s : MSt) (v : List MV) : MSt ⊕ (Int × Int) :=
 if k = 1 then .inl (A3p s (.mk 0 a [] []))
 else if k = 2 then .inl (A3p s (.mk 1 a [] []))
 else if k = 3 then (if (s.env.length : Int) - 1 - a < 0 then .inr (3, 0) else .inl (A3p s (s.env.getD ((s.env.length : Int) - 1 - a).toNat mv0)))
 else if k = 4 then .inl { A3p s (.mk 2 s.at' s.env []) with at' := s.at' + a }
 else if k = 5 then (if s.fr.length = 0 then .inr (3, 0) else .inl { s with at' := (s.fr.getD (s.fr.length - 1) (0, [])).1, env := (s.fr.getD (s.fr.length - 1) (0, [])).2, fr := s.fr.take (s.fr.length - 1) })
 else if k = 6 then .inl { s with at' := (v.getD 0 mv0).num, env := (v.getD 0 mv0).env ++ [v.getD 1 mv0], fr := s.fr ++ [(s.at', s.env)] }
 else if k = 7 then .inl (A3p s (.mk 0 (((v.getD 0 mv0).num + (v.getD 1 mv0).num) % 1000) [] []))
 else if k = 8 then .inl (A3p s (.mk 1 (if (v.getD 0 mv0).num < (v.getD 1 mv0).num then 1 else 0) [] []))
 else if k = 9 then .inl (if (v.getD 0 mv0).num = 0 then { s with at' := s.at' + a } else s)
 else if k = 10 then .inl { s with at' := s.at' + a }
 else if k = 11 then .inl (A3p s (.mk 3 0 [] v))
 else .inl (A3p s ((v.getD 0 mv0).parts.getD (k - 12).toNat mv0))
def B81 (k : Int) (v : List MV) : Bool := (v.take (A8y k).2.1).all fun u => decide (u.k = (A8y k).1)
def B82 (k a : Int) (s : MSt) : MSt ⊕ (Int × Int) :=
 if s.st.length < A6E k then .inr (3, 0)
 else if B81 k (s.st.drop (s.st.length - A6E k)) = true then mGo k a { s with at' := s.at' + 1, st := s.st.take (s.st.length - A6E k) } (s.st.drop (s.st.length - A6E k))
 else .inr (2, (A8y k).2.2)
def B83 (v : MV) : ByteArray := if v.k = 0 then ⟨(Lib.decDigits v.num.toNat).toArray⟩ else if v.k = 1 then (if v.num = 0 then ⟨#[70]⟩ else ⟨#[84]⟩) else if v.k = 2 then ⟨⟨[102, 117, 110, 99, 116, 105, 111, 110]⟩⟩ else ⟨⟨[112, 97, 105, 114]⟩⟩
def B84 (s : MSt) : ByteArray × Int × Int := if s.st.length ≠ 1 ∨ 0 < s.fr.length then (⟨#[]⟩, 3, 0) else (B83 (s.st.getD 0 mv0), 0, 0)
def B2B (ops : List (Int × Int)) : Nat → MSt → ByteArray × Int × Int
 | t, s => if (ops.length : Int) ≤ s.at' then B84 s else match t with
  | 0 => (⟨#[]⟩, 5, 0)
  | t + 1 => match B82 (ops.getD s.at'.toNat (0, 0)).1 (ops.getD s.at'.toNat (0, 0)).2 s with
   | .inl s' => B2B ops t s'
   | .inr (c, e) => (⟨#[]⟩, c, e)
def B85 (k behind : Int) : Int := if k = 1 then 999 else if k = 2 then 1 else if k = 3 then 11 else if k = 4 ∨ k = 9 ∨ k = 10 then behind else 0
def B86 (n : Nat) (i : Nat) (x : Int × Int) : Bool := decide (1 ≤ x.1 ∧ x.1 ≤ 13 ∧ 0 ≤ x.2 ∧ x.2 ≤ B85 x.1 ((n : Int) - 1 - i))
def B87 (ops : List (Int × Int)) : Bool := decide (1 ≤ ops.length ∧ ops.length ≤ 120) && (List.range ops.length).all fun i => B86 ops.length i (ops.getD i (0, 0))
def B9Y (ops : List (Int × Int)) (ticks : Int) : ByteArray × Int × Int :=
 if B87 ops = true ∧ 0 ≤ ticks ∧ ticks ≤ 2000 then B2B ops ticks.toNat ⟨0, [], [], []⟩ else (⟨#[]⟩, 3, 0)
theorem B88 (k : Int) (nm : ByteArray) (num : Int) (ty fr : Ty) (lb : Int) (ks : List Tm) (G : IM) (cells : List Value) (hT : A1Y G) (hk3 : k = 2 ∨ k = 3 ∨ k = 4) (hn : 0 ≤ num ∧ num ≤ 999) (hr : B7 G (.mk k nm num ty fr lb ks) cells) : Fn Tryz.prog 67 [.agg ⟨cells⟩] [] G (K7 (.string (A4k k num)) G) := by
 obtain ⟨tk, tks⟩ := ty
 obtain ⟨fk, fks⟩ := fr
 obtain ⟨pt, ct, pf, cf, p, c, es, rfl, hk, hnum, hlb, hty, hfr, hsl, hkl⟩ := hr.open9
 have hI := B3P num G hT hn.1 hn.2
 refine C0 Tryz.func67 rfl Tryz.ntmps67 Tryz.results67 rfl ?_
 intro w0
 refine A4 ?_
 refine sE (B6 rfl rfl) rfl (fun b3 => ?_)
 refine A8 ?_
 refine sQ (A3P rfl rfl) rfl ?_
 refine J2 ?_
 refine C2 ?_
 refine A4 ?_
 refine sP (D0 rfl rfl zR0) rfl rfl ?_
 refine A9 ?_
 refine sB (qE rfl rfl) rfl rfl (fun h30 => ?_) (fun h30 => ?_)
 refine E1 ?_
 refine H4 rfl (hI) rfl rfl ?_
 refine B0 ?_
 (exact ⟨rfl, by unfold A4k; rw [if_pos zR0]; rfl, rfl⟩)
 refine A9 ?_
 refine sB (qE rfl rfl) rfl rfl (fun h54 => ?_) (fun h54 => ?_)
 refine N0 ?_
 (exact ⟨rfl, by unfold A4k; rw [if_neg zR0, if_pos zR0]; rfl, rfl⟩)
 refine A9 ?_
 refine sP (O1 rfl rfl zR0) rfl rfl ?_
 refine N0 ?_
 (exact ⟨rfl, by unfold A4k; rw [if_neg zR0, if_neg zR0]; rfl, rfl⟩)
theorem B2C : ∀ (t : Tm) (G : IM) (cells : List Value), A1Y G → cv t → H7 t = true → B7 G t cells → Fn Tryz.prog 34 [.agg ⟨cells⟩] [] G (K7 (.string (A0e t)) G) := by
 refine Tm.ind fun k nm num ty fr lb ks ih G cells hT hc hv hr => ?_
 have hr0 := hr
 have hP := A3G _ G _ hr
 obtain ⟨hN, hkk⟩ := hc.node
 have hop := hN.ops
 have h14 : k = 14 → ks.length = 1 := fun h => by rw [h] at hop; have : E8 14 = 1 := rfl; omega
 have hL := fun h => B88 k nm num ty fr lb ks G cells hT h hN.num0 hr
 have hvp := @B6H k nm num ty fr lb ks
 have hvf := @B6I k nm num ty fr lb ks
 have hvc := @B1h k nm num ty fr lb ks
 have hvl := @B6J k nm num ty fr lb ks
 have hvn := @B0N k nm num ty fr lb ks
 have hvy := @A7T k nm num ty fr lb ks
 have hprx := A4g k nm num ty fr lb ks
 have hinj := A7S k nm num ty fr lb ks
 have hleaf : prx (.mk k nm num ty fr lb ks) = false → k ≠ 14 → k ≠ 10 → k ≠ 5 → k = 2 ∨ k = 3 ∨ k = 4 := by
  intro h1 h2 h3 h4
  have := hvn h3 h1 (by rw [hinj, decide_eq_false zR0]; rfl)
  rw [this] at hv
  have := of_decide_eq_true hv
  omega
 have hkv : prx (.mk k nm num ty fr lb ks) = false → k = 14 → ∀ t ∈ ks, H7 t = true := by
  intro h1 h2 t ht
  cases hi : inj (.mk k nm num ty fr lb ks) with
  | true => have := hvy (.inr (.inr hi)); rw [hv] at this; exact List.all_eq_true.1 this.symm t ht
  | false =>
   have := hvn zR0 h1 hi
   rw [hv] at this
   have := of_decide_eq_true this.symm
   omega
 generalize hpx : prx (.mk k nm num ty fr lb ks) = bp at *
 obtain ⟨tk, tks⟩ := ty
 obtain ⟨fk, fks⟩ := fr
 obtain ⟨pt, ct, pf, cf, p, c, es, rfl, hk, hnum, hlb, hty, hfr, hsl, hkl⟩ := hr.open9
 refine C0 Tryz.func34 rfl Tryz.ntmps34 Tryz.results34 rfl ?_
 intro w0
 refine A4 ?_
 refine sE (B6 rfl rfl) rfl (fun b3 => ?_)
 refine B5 ?_
 refine C2 ?_
 refine B5 ?_
 refine sB (qE rfl rfl) rfl rfl (fun h13 => ?_) (fun h13 => ?_)
 refine A2d ?_
 (exact ⟨rfl, congrArg Value.string (hvp (by first | exact .inl zR0 | exact .inr ⟨by assumption, by assumption⟩)).symm, rfl⟩)
 refine A4 ?_
 refine J5 rfl (hP) rfl rfl (fun h40 => ?_) (fun h40 => ?_)
 refine B5 ?_
 refine sB (qE rfl rfl) rfl rfl (fun h45 => ?_) (fun h45 => ?_)
 refine J0 ?_
 (exact ⟨rfl, congrArg Value.string (hvp (by first | exact .inl zR0 | exact .inr ⟨by assumption, by assumption⟩)).symm, rfl⟩)
 refine J2 ?_
 refine sB (qE rfl rfl) rfl rfl (fun h72 => ?_) (fun h72 => ?_)
 refine V0 ?_
 (exact ⟨rfl, congrArg Value.string (hvf (by rintro (h | ⟨h1, h2⟩) <;> first | omega | exact Bool.noConfusion (h1.symm.trans (show bp = false by assumption)) | (simp only [Ty.k] at h2; omega)) (by first | exact .inl zR0 | exact .inr zO0)).symm, rfl⟩)
 refine A4 ?_
 refine J5 rfl (hP) rfl rfl (fun h93 => ?_) (fun h93 => ?_)
 refine M8 ?_
 (exact ⟨rfl, congrArg Value.string (hvf (by rintro (h | ⟨h1, h2⟩) <;> first | omega | exact Bool.noConfusion (h1.symm.trans (show bp = false by assumption)) | (simp only [Ty.k] at h2; omega)) (by first | exact .inl zR0 | exact .inr zO0)).symm, rfl⟩)
 refine E7 ?_
 refine sB (qE rfl rfl) rfl rfl (fun h118 => ?_) (fun h118 => ?_)
 refine E1 ?_
 (have hl1 := h14 zR0; obtain ⟨bx, ox, e, rfl, hl, hat, hre, hgb⟩ := hsl.kidTm hkl (i := 0) zR0 zR0; have hih := ih ks[0] (List.getElem_mem zR0) G e hT (hkk _ (List.getElem_mem zR0)) (hkv zO0 zR0 _ (List.getElem_mem zR0)) hre; refine sP (B8 (j := 0) rfl rfl rfl zR0) rfl rfl ?_)
 refine sL (A5 rfl rfl (hat _) hl) rfl rfl ?_
 refine H4 rfl (hih) rfl rfl ?_
 refine B0 ?_
 (exfalso; have h1 : bp = true := zO0; have h2 : bp = false := zO0; rw [h1] at h2; cases h2)
 refine J2 ?_
 refine H4 rfl ((hL (hleaf zO0 zR0 zR0 zR0))) rfl rfl ?_
 refine A8 ?_
 (exfalso; have h1 : bp = true := zO0; have h2 : bp = false := zO0; rw [h1] at h2; cases h2)
 refine J0 ?_
 refine sB (qE rfl rfl) rfl rfl (fun h170 => ?_) (fun h170 => ?_)
 refine V0 ?_
 (exact ⟨rfl, congrArg Value.string (hvf (by rintro (h | ⟨h1, h2⟩) <;> first | omega | exact Bool.noConfusion (h1.symm.trans (show bp = false by assumption)) | (simp only [Ty.k] at h2; omega)) (by first | exact .inl zR0 | exact .inr zO0)).symm, rfl⟩)
 refine A4 ?_
 refine J5 rfl (hP) rfl rfl (fun h191 => ?_) (fun h191 => ?_)
 refine M8 ?_
 (exfalso; have h1 : bp = true := zO0; have h2 : bp = false := zO0; rw [h1] at h2; cases h2)
 refine E7 ?_
 refine sB (qE rfl rfl) rfl rfl (fun h216 => ?_) (fun h216 => ?_)
 refine E1 ?_
 (have hl1 := h14 zR0; obtain ⟨bx, ox, e, rfl, hl, hat, hre, hgb⟩ := hsl.kidTm hkl (i := 0) zR0 zR0; have hih := ih ks[0] (List.getElem_mem zR0) G e hT (hkk _ (List.getElem_mem zR0)) (hkv zO0 zR0 _ (List.getElem_mem zR0)) hre; refine sP (B8 (j := 0) rfl rfl rfl zR0) rfl rfl ?_)
 refine sL (A5 rfl rfl (hat _) hl) rfl rfl ?_
 refine H4 rfl (hih) rfl rfl ?_
 refine B0 ?_
 (exact ⟨rfl, congrArg Value.string (hvc zO0 zR0 zR0).symm, rfl⟩)
 refine J2 ?_
 refine H4 rfl ((hL (hleaf zO0 zR0 zR0 zR0))) rfl rfl ?_
 refine A8 ?_
 (exact ⟨rfl, congrArg Value.string (hvl zO0 zR0 zR0 zR0).symm, rfl⟩)
theorem B89 (e : Tm) (fuel : Int) (G : IM) (cells : List Value) (hT : A1Y G) (hr : B7 G e cells) : Fn Tryz.prog 10 [.agg ⟨cells⟩, .int .i64 fuel] [] G (B1m (A0Z e fuel) G) := by
 have hRl := hr.len
 have hRo := hr.one
 have hno := @B6W e fuel
 have hyv := fun u t => @B1n e u t fuel
 have hyn := fun u t => @A76 e u t fuel
 refine C0 Tryz.func10 rfl Tryz.ntmps10 Tryz.results10 rfl ?_
 intro w0
 refine A4 ?_
 refine sE (B6 rfl rfl) rfl (fun b3 => ?_)
 refine B0 ?_
 refine sL (A5 rfl rfl (B3 zI0) hRl) rfl rfl ?_
 focus (refine F4 rfl (B6O e G cells hr) rfl rfl (fun v G1 hle1 hh => ?_); obtain ⟨cu, ct, rfl, hru, hrt⟩ := hh; rcases hI : X7 e with _ | ⟨u, t⟩; rotate_left; rw [hI] at hru hrt; simp only [Option.getD_some] at hru hrt; rotate_left; rw [hI] at hru hrt; simp only [Option.getD_none] at hru hrt; simp only [Option.isSome]; rotate_left; simp only [Option.isSome]; rotate_left; all_goals (have hul := hru.len; have huo := hru.one; obtain ⟨p3, c3, e3, rfl, _⟩ := hrt.open))
 refine B5 ?_
 refine sE (A6 rfl) rfl (fun b17 => ?_)
 refine sE (A6 rfl) rfl (fun b18 => ?_)
 refine sS rfl rfl rfl hul huo rfl ?_ (hu := by exact C6 hul.symm)
 refine Z0 ?_
 refine E9 (rT rfl) (rT rfl) (rT rfl) ?_
 (exact ⟨rfl, by rw [hno (by first | exact hI | rfl | assumption)]⟩)
 refine B5 ?_
 refine sE (A6 rfl) rfl (fun b47 => ?_)
 refine sE (A6 rfl) rfl (fun b48 => ?_)
 refine sS rfl rfl rfl hul huo rfl ?_ (hu := by exact C6 hul.symm)
 refine N3 ?_
 refine sL (A5 rfl rfl (B3 zI0) hul) rfl rfl ?_
 refine D8 ?_
 (have hyv := hyv u t hI; have hyn := hyn u t hI; have hev := @B6X u fuel; refine F4 rfl (B6z u fuel G1 cu hru) rfl rfl (fun v G2 hle2 hh => ?_); obtain ⟨wc, hvv, hrw⟩ := hh; have hwl := hrw.len; have hwo := hrw.one; generalize Y3 u fuel = r at hvv hrw hyv hyn hev; obtain ⟨w, c, l⟩ := r; simp only at hvv hrw hyv hyn hev; subst hvv)
 refine B5 ?_
 refine sE (A6 rfl) rfl (fun b73 => ?_)
 refine sS rfl rfl rfl hwl hwo rfl ?_ (hu := by exact C6 hwl.symm)
 refine E1 ?_
 refine sB (U3 rfl rfl) rfl rfl (fun h83 => ?_) (fun h83 => ?_)
 refine M8 ?_
 refine E9 (rT rfl) (rT rfl) (rT rfl) ?_
 (exact ⟨rfl, by rw [hyn zR0]⟩)
 refine B0 ?_
 refine sL (A5 rfl rfl (B3 zI0) hwl) rfl rfl ?_
 (obtain ⟨he1, he2, he3⟩ := hev zR0; refine H4 rfl (B2C w G2 wc (hT.mono (hle1.trans hle2)) (A3E he1).1 he2 hrw) rfl rfl ?_)
 refine E1 ?_
 refine E9 (rT rfl) (rT rfl) (rT rfl) ?_
 (obtain rfl : c = 0 := zR0; subst he3; exact ⟨rfl, by rw [hyv rfl]⟩)
theorem B9a (k : Int) (ks : List Tm) : (A1t k ks).2.1 ≠ 0 := by
 unfold A1t; split
 ·show (1 : Int) ≠ 0; decide
 ·show (2 : Int) ≠ 0; decide
mutual
theorem B2D : ∀ e : Tm, (O5 e).2.1 ≠ 0
 | .mk k nm num ty fr lb ks => by
  rw [O5]
  split
  ·rename_i h
   split
   ·show (1 : Int) ≠ 0; decide
   ·exact B2E _ ks _ _ _ h
  ·exact B9a _ _
theorem B2E : ∀ (n : Nat) (ks us : List Tm) (c l : Int), A0F n ks = some (us, c, l) → c ≠ 0
 | _, [], us, c, l, h => by rw [A0F] at h; cases h
 | 0, t :: ts, us, c, l, h => by rw [A0F] at h; cases h
 | n + 1, t :: ts, us, c, l, h => by
  rw [A0F] at h
  split at h
  ·split at h
   ·rename_i h1; cases h; exact B2E n ts _ _ _ h1
   ·cases h
  ·cases h; exact B2D t
end
theorem B2F {e : Tm} (h : (L4 e).2.1 = 0) : V6 (L4 e).1 = true ∧ H7 (L4 e).1 = true := by
 unfold L4 at h ⊢
 split at h
 ·simp at h
 ·split at h
  ·rename_i h1 h2; rw [if_neg h1, if_pos h2]; exact ⟨by simpa using h1, h2⟩
  ·split at h
   ·exact absurd h (B2D e)
   ·split at h <;> simp at h
theorem B2G : ∀ (n : Nat) (e : Tm), (R3 n e).2.1 = 0 → V6 (R3 n e).1 = true ∧ H7 (R3 n e).1 = true
 | 0, e, h => by
  rw [R3] at h ⊢
  by_cases h1 : (L4 e).2.1 = 1
  ·rw [if_pos h1] at h; simp at h
  ·rw [if_neg h1] at h ⊢; exact B2F h
 | n + 1, e, h => by
  rw [R3] at h ⊢
  by_cases h1 : (L4 e).2.1 = 1
  ·rw [if_pos h1] at h ⊢; exact B2G n _ h
  ·rw [if_neg h1] at h ⊢; exact B2F h
theorem B9b {e : Tm} {fuel : Int} (h : (X8 e fuel).2.1 = 0) : V6 (X8 e fuel).1 = true ∧ H7 (X8 e fuel).1 = true := by
 cases hf : V1 fuel 0 300 with
 | false => rw [B2z hf] at h; simp at h
 | true => rw [A8x hf] at h ⊢; exact B2G _ _ h
theorem B9c {e : Tm} {fuel : Int} (h : V1 fuel 0 300 = true) (h1 : (U2 fuel.toNat e).2.1 = 1) : X8 e fuel = (I8, 5, 0) := by
 rw [A8x h, B1O _ _ h1]
theorem B9d {e : Tm} {fuel : Int} (h : V1 fuel 0 300 = true) (h1 : (U2 fuel.toNat e).2.1 ≠ 1) : X8 e fuel = ((U2 fuel.toNat e).1, (U2 fuel.toNat e).2.1, (U2 fuel.toNat e).2.2.1) := by
 rw [A8x h, B1P _ _ h1]
theorem B9e {e : Tm} (h : (M3 e || O9 e) = true) : A5n e = (H2 e, true) := by
 unfold A5n; rw [if_pos (by simpa using h)]
theorem B9f {e : Tm} (h : (M3 e || O9 e) = false) : A5n e = (I8, false) := by
 unfold A5n; rw [if_neg (by simpa using h)]
theorem B9g (e : Tm) (n : Nat) (hn : n ≤ 300) (G : IM) (cells : List Value) (hr : B7 G e cells) : Fn Tryz.prog 69 [.agg ⟨cells⟩, .int .i64 (n : Int)] [] G (EvP (U2 n e)) := by
 have hRl := hr.len
 have hRo := hr.one
 refine C0 Tryz.func69 rfl Tryz.ntmps69 Tryz.results69 rfl ?_
 intro w0
 refine A4 ?_
 refine sE (B6 rfl rfl) rfl (fun b3 => ?_)
 refine sE (A6 rfl) rfl (fun b4 => ?_)
 refine J2 ?_
 refine C2 ?_
 (refine L8 (fun (x : Nat × Tm × List Value × IM) => ⟨[(8, .int .i64 (x.1 : Int)), (1, .int .i64 (n : Int)), (2, .pointer (some ⟨b3, 0, none⟩)), (4, .pointer (some ⟨b4, 0, none⟩))], [.blk b3 x.2.2.1, .blk b4 [.int .i64 0, .string ⟨⟨[]⟩⟩, .int .i64 0, .int .i64 0, .slice none 0 0, .int .i64 0, .slice none 0 0, .int .i64 0, .slice none 0 0]], x.2.2.2⟩) (fun x => x.1 ≤ n ∧ B9 G x.2.2.2 ∧ B7 x.2.2.2 x.2.1 x.2.2.1 ∧ A1g x.1 (U2 (n - x.1) x.2.1) = U2 n e) (fun x => n - x.1) (0, e, cells, G) ?_ ?_ ?_)
 (simp only [I9]; exact F8)
 (exact ⟨Nat.zero_le _, B9.refl _, hr, rfl⟩)
 (rintro ⟨i, u, uc, Gi⟩ ⟨hi, hle, hru, hev⟩; simp only [] at hi hle hru hev ⊢; have hul := hru.len; have huo := hru.one)
 refine tS ?_
 refine C2 ?_
 refine A4 ?_
 refine sL (A5 rfl rfl (B3 zI0) hul) rfl rfl ?_
 (refine F4 rfl (B80 u Gi uc hru) rfl rfl (fun v G1 hle1 hh => ?_); obtain ⟨wc, hv, hrw⟩ := hh; have hwl := hrw.len; have hwo := hrw.one; have hend := @B7F (n - i) i u; have hgo := @B7G (n - i) i u; generalize L4 u = r at hv hrw hend hgo; obtain ⟨w, c, l⟩ := r; simp only at hv hrw hend hgo; subst hv)
 refine B5 ?_
 refine sE (A6 rfl) rfl (fun b30 => ?_)
 refine sS rfl rfl rfl hwl hwo rfl ?_ (hu := by exact C6 hwl.symm)
 refine E1 ?_
 refine sB (U3 rfl rfl) rfl rfl (fun h40 => ?_) (fun h40 => ?_)
 refine J2 ?_
 exact y136
 refine C1 ?_
 refine sB (qE rfl rfl) rfl rfl (fun h72 => ?_) (fun h72 => ?_)
 refine A9 ?_
 exact y136
 refine B0 ?_
 refine sL (A5 rfl rfl (B3 zI0) hwl) rfl rfl ?_
 refine Q1 rfl rfl rfl hwl hwo rfl zF0 (by exact C6 (hul.trans hwl.symm)) ?_
 refine A8 ?_
 refine sP (K0 rfl rfl zR0 zR0) rfl rfl ?_
 refine A4 ?_
 refine J7 (i + 1, w, wc, G1) ?_ ?_ ?_
 (simp only [I9]; exact F8)
 (dsimp only; exact ⟨by omega, hle.trans hle1, hrw, by rw [← hev, hgo zR0 zR0, show n - (i + 1) = n - i - 1 by omega]⟩)
 (show n - (i + 1) < n - i; omega)
theorem B9h (e : Tm) (fuel : Int) (G : IM) (cells : List Value) (hr : B7 G e cells) : Fn Tryz.prog 36 [.agg ⟨cells⟩, .int .i64 fuel] [] G (A0d (X8 e fuel)) := by
 have hRl := hr.len
 have hRo := hr.one
 have hno := @B2z e fuel
 have hmu := @B9c e fuel
 have hen := @B9d e fuel
 refine C0 Tryz.func36 rfl Tryz.ntmps36 Tryz.results36 rfl ?_
 intro w0
 refine A4 ?_
 refine sE (B6 rfl rfl) rfl (fun b3 => ?_)
 refine sE (A6 rfl) rfl (fun b4 => ?_)
 refine E1 ?_
 refine J5 rfl ((B04 fuel _)) rfl rfl (fun h13 => ?_) (fun h13 => ?_)
 refine E1 ?_
 refine sL (A5 rfl rfl (B3 zI0) hRl) rfl rfl ?_
 refine D8 ?_
 (have hf : V1 fuel 0 300 = true := zO0; have hf2 := A3Y hf; have hE := B9g e fuel.toNat zR0 G cells hr; rw [Int.toNat_of_nonneg hf2.1] at hE; refine F4 rfl hE rfl rfl (fun v G1 hle1 hh => ?_); obtain ⟨wc, hv, hrw⟩ := hh; have hwl := hrw.len; have hwo := hrw.one; have hmu := hmu hf; have hen := hen hf; generalize U2 fuel.toNat e = r at hv hrw hmu hen; obtain ⟨w, c, l, i⟩ := r; simp only at hv hrw hmu hen; subst hv)
 refine A8 ?_
 refine sE (A6 rfl) rfl (fun b30 => ?_)
 refine sS rfl rfl rfl hwl hwo rfl ?_ (hu := by exact C6 hwl.symm)
 refine E7 ?_
 refine sB (qE rfl rfl) rfl rfl (fun h41 => ?_) (fun h41 => ?_)
 refine N0 ?_
 refine E9 (rC rfl (A3 rfl rfl)) (rT rfl) (rT rfl) ?_
 (exact A0d.mk (hmu zR0) (R7 _))
 refine B0 ?_
 refine sL (A5 rfl rfl (B3 zI0) hwl) rfl rfl ?_
 refine A4 ?_
 refine sS rfl rfl rfl hwl hwo rfl ?_ (hu := by exact C6 hwl.symm)
 refine A8 ?_
 refine E9 (rC rfl (A5 rfl rfl (B3 zI0) hwl)) (rT rfl) (rT rfl) ?_
 (exact A0d.mk (hen zR0) hrw)
 refine M8 ?_
 refine E9 (rC rfl (A3 rfl rfl)) (rT rfl) (rT rfl) ?_
 (exact A0d.mk (hno zO0) (R7 _))
theorem B9i (e : Tm) (fuel : Int) (G : IM) (cells : List Value) (hT : A1Y G) (hts : e.small) (hr : B7 G e cells) : Fn Tryz.prog 11 [.agg ⟨cells⟩, .int .i64 fuel] [] G (B1m (A0r e fuel) G) := by
 have hRl := hr.len
 have hRo := hr.one
 have hno := @B79 e fuel
 have hyv := @B19 e fuel
 have hyn := @A8p e fuel
 have hB := B8f e G cells hts hr
 have hby := @B9e e
 have hbn := @B9f e
 generalize (M3 e || O9 e) = ok at hno hyv hyn hby hbn
 cases ok
 ·have hno := hno rfl
  rw [hbn rfl] at hB
  refine C0 Tryz.func11 rfl Tryz.ntmps11 Tryz.results11 rfl ?_
  intro w0
  refine A4 ?_
  refine sE (B6 rfl rfl) rfl (fun b3 => ?_)
  refine B0 ?_
  refine sL (A5 rfl rfl (B3 zI0) hRl) rfl rfl ?_
  (refine F4 rfl hB rfl rfl (fun v G1 hle1 hh => ?_); obtain ⟨bc, F1, rfl, hs1, hn1⟩ := hh; have hul := hs1.R.len; have huo := hs1.R.one)
  refine C1 ?_
  refine sE (A6 rfl) rfl (fun b16 => ?_)
  refine sS rfl rfl rfl hul huo rfl ?_ (hu := by exact C6 hul.symm)
  refine X3 ?_
  refine E9 (rT rfl) (rT rfl) (rT rfl) ?_
  (exact ⟨rfl, by rw [hno]⟩)
 ·have hyv := hyv rfl
  have hyn := hyn rfl
  rw [hby rfl] at hB
  have hev := @B9b (H2 e) fuel
  refine C0 Tryz.func11 rfl Tryz.ntmps11 Tryz.results11 rfl ?_
  intro w0
  refine A4 ?_
  refine sE (B6 rfl rfl) rfl (fun b3 => ?_)
  refine B0 ?_
  refine sL (A5 rfl rfl (B3 zI0) hRl) rfl rfl ?_
  (refine F4 rfl hB rfl rfl (fun v G1 hle1 hh => ?_); obtain ⟨bc, F1, rfl, hs1, hn1⟩ := hh; have hul := hs1.R.len; have huo := hs1.R.one)
  refine C1 ?_
  refine sE (A6 rfl) rfl (fun b16 => ?_)
  refine sS rfl rfl rfl hul huo rfl ?_ (hu := by exact C6 hul.symm)
  refine J0 ?_
  refine sL (A5 rfl rfl (B3 zI0) hul) rfl rfl ?_
  refine D8 ?_
  (refine F4 rfl (B9h (H2 e) fuel G1 bc (hs1.R.mono (E0.le _ _))) rfl rfl (fun v G2 hle2 hh => ?_); obtain ⟨wc, hvv, hrw⟩ := hh; have hwl := hrw.len; have hwo := hrw.one; generalize X8 (H2 e) fuel = r at hvv hrw hyv hyn hev; obtain ⟨w, c, l⟩ := r; simp only at hvv hrw hyv hyn hev; subst hvv)
  refine B5 ?_
  refine sE (A6 rfl) rfl (fun b40 => ?_)
  refine sS rfl rfl rfl hwl hwo rfl ?_ (hu := by exact C6 hwl.symm)
  refine E1 ?_
  refine sB (U3 rfl rfl) rfl rfl (fun h50 => ?_) (fun h50 => ?_)
  refine M8 ?_
  refine E9 (rT rfl) (rT rfl) (rT rfl) ?_
  (exact ⟨rfl, by rw [hyn zR0]⟩)
  refine B0 ?_
  refine sL (A5 rfl rfl (B3 zI0) hwl) rfl rfl ?_
  (obtain ⟨he1, he2⟩ := hev zR0; refine H4 rfl (B2C w G2 wc (hT.mono (hle1.trans hle2)) (A3E (A6w he1).1).1 he2 hrw) rfl rfl ?_)
  refine E1 ?_
  refine E9 (rT rfl) (rT rfl) (rT rfl) ?_
  (obtain rfl : c = 0 := zR0; exact ⟨rfl, by rw [hyv rfl]⟩)
theorem B2H {P : Program} {Γ : N7} {env : O6} {hp : List A7} {G : IM} {ty : TypeId} {x y : Operand} {t t' : TypeId} {r : ByteArray} (hx : evo env x = some (.string r)) (hy : evo env y = some (.string r)) :
  J9 P Γ ⟨env, hp, G⟩ (.binOp .eql t x y t') ty (.bool true) := by
 have h := A2F (P := P) (Γ := Γ) (hp := hp) (G := G) (t := t) (t' := t') (ty := ty) hx hy
 simpa using h
theorem B9j {P : Program} {Γ : N7} {env : O6} {hp : List A7} {G : IM} {ty : TypeId} {x y : Operand} {t t' : TypeId} {i : M6} [hI : I3 P t i] (hd : i.desc = .bool) {r : Bool} (hx : evo env x = some (.bool r)) (hy : evo env y = some (.bool r)) :
  J9 P Γ ⟨env, hp, G⟩ (.binOp .eql t x y t') ty (.bool true) := by
 have h := B2Z (P := P) (Γ := Γ) (hp := hp) (G := G) (t := t) (t' := t') (ty := ty) (i := i) hd hx hy
 simpa using h
theorem B2I : ∀ (t : Ty) (G : IM) (cells cells' : List Value), C7 G t cells → C7 G t cells' → Fn Tryz.prog 26 [.agg ⟨cells⟩, .agg ⟨cells'⟩] [] G (K7 (.bool true) G) := by
 refine Ty.ind fun k ks ih G cells cells' hr hr' => ?_
 obtain ⟨p, c, es, rfl, hk, hsl, hkl⟩ := hr.open
 obtain ⟨p', c', es', rfl, hk', hsl', hkl'⟩ := hr'.open
 simp only [Ty.k, Ty.ks] at hk hsl hkl hk' hsl' hkl' ⊢
 refine C0 Tryz.func26 rfl Tryz.ntmps26 Tryz.results26 rfl ?_
 intro w0
 refine A4 ?_
 refine sE (B6 rfl rfl) rfl (fun b3 => ?_)
 refine sE (B6 rfl rfl) rfl (fun b4 => ?_)
 refine E7 ?_
 refine sP (O1 rfl rfl zR0) rfl rfl ?_
 refine A8 ?_
 refine H4 rfl (A7d _ _ _ _ _ _ _ _ _ hsl hsl' _ [] [] [] (fun _ => true) true zS0 (fun i e e' he he' => ih (ks.getD i B4) (hkl.inv he B4).1 _ _ _ (hkl.inv he B4).2 (hkl'.inv he' B4).2)) rfl rfl ?_
 refine A9 ?_
 exact ⟨rfl, rfl, rfl⟩
theorem B9k (G : IM) (p p' : Option Addr) (n c c' : Nat) (es es' : List (List Value)) (hsl : D7 G p n c 9 es) (hsl' : D7 G p' n c' 9 es') (fid : FuncId) [C4 Tryz.prog fid]
  (hq : ∀ (i : Nat) (e e' : List Value), es[i]? = some e → es'[i]? = some e' → Fn Tryz.prog fid [.agg ⟨e⟩, .agg ⟨e'⟩] [] G (X2 (.bool true) [] G)) :
  Fn Tryz.prog 27 [.slice p n c, .slice p' n c', .func (.func fid) ⟨[]⟩ ⟨[]⟩] [] G (K7 (.bool true) G) := by
 have hn := hsl.le
 refine C0 Tryz.func27 rfl Tryz.ntmps27 Tryz.results27 rfl ?_
 intro w0
 refine O3 ?_
 refine sP (A2H rfl rfl zR0) rfl rfl ?_
 refine N0 ?_
 refine C2 (L8 (fun i : Nat => ⟨[(17, .int .i64 i), (16, .int .i64 n), (15, .slice p n c), (2, .func (.func fid) ⟨[]⟩ ⟨[]⟩), (1, .slice p' n c'), (0, .slice p n c)], [], G⟩) (fun i => i ≤ n) (fun i => n - i) 0 ?_ ?_ ?_)
 exact F8
 exact Nat.zero_le _
 rintro i hi
 refine A4 ?_
 refine sB (N5 rfl rfl) rfl rfl (fun h34 => ?_) (fun h34 => ?_)
 refine B0 ?_
 refine C2 ?_
 refine C1 ?_
 (obtain ⟨e, b, o, he, rfl, hl, _, hat, _⟩ := hsl.get (i := i) zR0; refine sP (B8 rfl rfl rfl zR0) rfl rfl ?_)
 refine sL (A5 rfl rfl (hat _) hl) rfl rfl ?_
 refine sE (A6 rfl) rfl (fun b48 => ?_)
 refine D8 ?_
 refine Q1 rfl rfl rfl zO0 zO0 rfl zF0 (by exact C6 (by symm; assumption)) ?_
 refine A9 ?_
 (obtain ⟨e', b', o', he', rfl, hl', _, hat', _⟩ := hsl'.get (i := i) zR0; refine sP (B8 rfl rfl rfl zR0) rfl rfl ?_)
 refine sL (A5 rfl rfl (hat' _) hl') rfl rfl ?_
 refine sE (A6 rfl) rfl (fun b59 => ?_)
 refine Q1 rfl rfl rfl zO0 zO0 rfl zF0 (by exact C6 (by symm; assumption)) ?_
 refine A8 ?_
 refine sL (A5 rfl rfl (B3 zI0) zO0) rfl rfl ?_
 refine sL (A5 rfl rfl (B3 zI0) zO0) rfl rfl ?_
 refine A5z rfl rfl (hq i e e' he he') A8T rfl rfl (fun h68 => ?_) (fun h68 => ?_)
 simp only [Bool.not_eq_true', Bool.not_eq_false'] at h68
 refine E1 ?_
 refine sP (K0 rfl rfl zR0 zR0) rfl rfl ?_
 refine A4 ?_
 refine J7 (i + 1) ?_ ?_ ?_
 exact F8
 omega
 omega
 refine N3 ?_
 (exact absurd zO0 zQ0)
 refine N3 ?_
 exact ⟨rfl, rfl, rfl⟩
theorem B9l : ∀ (t : Tm) (G : IM) (cells cells' : List Value), B7 G t cells → B7 G t cells' → Fn Tryz.prog 8 [.agg ⟨cells⟩, .agg ⟨cells'⟩] [] G (K7 (.bool true) G) := by
 refine Tm.ind fun k nm num ty fr lb ks ih G cells cells' hr hr' => ?_
 obtain ⟨tk, tks⟩ := ty
 obtain ⟨fk, fks⟩ := fr
 obtain ⟨pt, ct, pf, cf, p, c, es, rfl, hk, hnum, hlb, hty, hfr, hsl, hkl⟩ := hr.open9
 obtain ⟨pt', ct', pf', cf', p', c', es', rfl, _, _, _, hty', hfr', hsl', hkl'⟩ := hr'.open9
 have h1 := B2I (.mk tk tks) G _ _ hty hty'
 have h2 := B2I (.mk fk fks) G _ _ hfr hfr'
 refine C0 Tryz.func8 rfl Tryz.ntmps8 Tryz.results8 rfl ?_
 intro w0
 refine A4 ?_
 refine sE (B6 rfl rfl) rfl (fun b3 => ?_)
 refine sE (B6 rfl rfl) rfl (fun b4 => ?_)
 refine E7 ?_
 refine sP (O1 rfl rfl zR0) rfl rfl ?_
 refine A8 ?_
 refine sQ (B2H rfl rfl) rfl ?_
 refine A9 ?_
 refine sP (O1 rfl rfl zR0) rfl rfl ?_
 refine A9 ?_
 refine H4 rfl (h1) rfl rfl ?_
 refine A9 ?_
 refine H4 rfl (h2) rfl rfl ?_
 refine A9 ?_
 refine sP (O1 rfl rfl zR0) rfl rfl ?_
 refine A9 ?_
 refine H4 rfl (B9k _ _ _ _ _ _ _ _ hsl hsl' _ (fun i e e' he he' => ih (ks.getD i I8) (hkl.inv he I8).1 _ _ _ (hkl.inv he I8).2 (hkl'.inv he' I8).2)) rfl rfl ?_
 refine A9 ?_
 exact ⟨rfl, rfl, rfl⟩
theorem B9m {a x : Tm} {r : Option (Tm × Ty)} (hR : A1j a r) (hx : (r.map Prod.fst).getD I8 = x) (hb : r.isSome = true) : ∃ t, A1j a (some (x, t)) := by
 cases r with
 | none => cases hb
 | some q =>
  obtain ⟨y, t⟩ := q
  replace hx : y = x := hx
  subst hx
  exact ⟨t, hR⟩
theorem B9n {a x : Tm} {r : Option (Tm × Ty)} (hR : A1j a r) (hx : (r.map Prod.fst).getD I8 = x) (hb : r.isSome = true) :
  (A0r a 100).2.1 ≠ 2 ∧ (A0r a 100).2.1 = (A0Z x 100).2.1 ∧ (A0r a 100).1 = (A0Z x 100).1 := by
 obtain ⟨t, h⟩ := B9m hR hx hb
 exact B8j h 100
theorem B9o (bs : List UInt8) (G : IM) (p : Option Addr) (n c : Nat) (hT : A1Y G) (hb : Sl G p n c 1 (R4 bs)) : Fn Tryz.prog 4 [.slice p n c] [] G (N8 fun _ v => v = .bool true) := by
 have hn := hb.le
 refine C0 Tryz.func4 rfl Tryz.ntmps4 Tryz.results4 rfl ?_
 intro w0
 refine J2 ?_
 refine sB (A0K rfl rfl) rfl rfl (fun h11 => ?_) (fun h11 => ?_)
 refine M7 ?_
 (exact ⟨rfl, rfl⟩)
 refine E1 ?_
 (refine F4 rfl (B8S G _ _ _ bs hb) rfl rfl (fun v G1 hle1 hh => ?_); obtain ⟨a, ca, rfl, hra, hfa⟩ := hh; replace hT := hT.mono hle1; have hca := hfa.2; have hla := hra.len; have hoa := hra.one; obtain ⟨r, hR⟩ := B8g a; obtain ⟨x, hx⟩ : ∃ x, (r.map Prod.fst).getD I8 = x := ⟨_, rfl⟩; obtain ⟨bx, hbx⟩ : ∃ b, r.isSome = b := ⟨_, rfl⟩; have hk := fun h => B9n hR hx (hbx.trans h))
 refine sE (A6 rfl) rfl (fun b33 => ?_)
 refine sS rfl rfl rfl hla hoa rfl ?_ (hu := by exact C6 hla.symm)
 refine B5 ?_
 refine sL (A5 rfl rfl (B3 zI0) hla) rfl rfl ?_
 (refine F4 rfl (B8I a r G1 ca hR hra) rfl rfl (fun v2 G2 hle2 hh => ?_); obtain ⟨cx, ctx, ux, hve, hrx, hru⟩ := hh; obtain ⟨qt, dt, et2, rfl, _⟩ := hru.open; rw [hbx] at hve; subst hve; rw [hx] at hrx; have hlx := hrx.len; have hox := hrx.one; replace hT := hT.mono hle2; replace hra := hra.mono hle2)
 refine B5 ?_
 refine sE (A6 rfl) rfl (fun b45 => ?_)
 refine sE (A6 rfl) rfl (fun b46 => ?_)
 refine sS rfl rfl rfl hlx hox rfl ?_ (hu := by exact C6 hlx.symm)
 refine A9 ?_
 refine sL (A5 rfl rfl (B3 zI0) hla) rfl rfl ?_
 (refine F4 rfl (B8N a r G2 ca hR zR0 hra) rfl rfl (fun v3 G3 hle3 hh => ?_); obtain ⟨cy, cty, uy, hve, hry, hruy⟩ := hh; obtain ⟨qty, dty, ety2, rfl, _⟩ := hruy.open; rw [hbx] at hve; subst hve; rw [hx] at hry; have hly := hry.len; have hoy := hry.one; replace hT := hT.mono hle3; replace hra := hra.mono hle3; replace hrx := hrx.mono hle3; have hSm := B9l x G3 cx cy hrx hry; obtain ⟨⟨s1, c1, l1⟩, hr1⟩ : ∃ r, A0r a 100 = r := ⟨_, rfl⟩; obtain ⟨⟨s2, c2, l2⟩, hr2⟩ : ∃ r, A0Z x 100 = r := ⟨_, rfl⟩; rw [hr1, hr2] at hk; simp only [] at hk; have hE1 := B9i a 100 G3 ca hT hfa.1 hra; rw [hr1] at hE1; cases bx)
 refine B5 ?_
 refine sE (A6 rfl) rfl (fun b60 => ?_)
 refine sE (A6 rfl) rfl (fun b61 => ?_)
 refine sS rfl rfl rfl hly hoy rfl ?_ (hu := by exact C6 hly.symm)
 refine E7 ?_
 refine sQ (A3z rfl rfl rfl) rfl ?_
 refine D8 ?_
 refine sL (A5 rfl rfl (B3 zI0) hlx) rfl rfl ?_
 refine sL (A5 rfl rfl (B3 zI0) hly) rfl rfl ?_
 refine H4 rfl (hSm) rfl rfl ?_
 refine N0 ?_
 refine sQ (B9j rfl rfl rfl) rfl ?_
 refine D8 ?_
 refine sL (A5 rfl rfl (B3 zI0) hlx) rfl rfl ?_
 refine sL (A5 rfl rfl (B3 zI0) hly) rfl rfl ?_
 refine H4 rfl (hSm) rfl rfl ?_
 refine B0 ?_
 (exact ⟨rfl, rfl⟩)
 refine B5 ?_
 refine sE (A6 rfl) rfl (fun b107 => ?_)
 refine sE (A6 rfl) rfl (fun b108 => ?_)
 refine sS rfl rfl rfl hly hoy rfl ?_ (hu := by exact C6 hly.symm)
 refine E7 ?_
 refine sQ (A3z rfl rfl rfl) rfl ?_
 refine D8 ?_
 refine sL (A5 rfl rfl (B3 zI0) hlx) rfl rfl ?_
 refine sL (A5 rfl rfl (B3 zI0) hly) rfl rfl ?_
 refine H4 rfl (hSm) rfl rfl ?_
 refine N0 ?_
 refine sL (A5 rfl rfl (B3 zI0) hla) rfl rfl ?_
 (refine F4 rfl hE1 rfl rfl (fun v4 G4 hle4 hh => ?_); replace hh : v4 = .tuple ⟨[.string s1, .int .i64 c1, .int .i64 l1]⟩ := hh; subst hh; replace hT := hT.mono hle4; have hE2 := B89 x 100 G4 cx hT (hrx.mono hle4); rw [hr2] at hE2; clear hE1)
 refine M7 ?_
 refine sL (A5 rfl rfl (B3 zI0) hlx) rfl rfl ?_
 (refine F4 rfl hE2 rfl rfl (fun v5 G5 hle5 hh => ?_); replace hh : v5 = .tuple ⟨[.string s2, .int .i64 c2, .int .i64 l2]⟩ := hh; subst hh; obtain ⟨hk1, hk2, hk3⟩ := hk rfl; subst hk3)
 refine O3 ?_
 refine sP (A0R rfl rfl zR0) rfl rfl ?_
 refine C1 ?_
 refine sP (O1 rfl rfl zR0) rfl rfl ?_
 refine B5 ?_
 refine sQ (B2H rfl rfl) rfl ?_
 refine A9 ?_
 (exact ⟨rfl, rfl⟩)
end Gw
end Go.Proofs.YtbdacdnffkhgeaaGreatDoor
