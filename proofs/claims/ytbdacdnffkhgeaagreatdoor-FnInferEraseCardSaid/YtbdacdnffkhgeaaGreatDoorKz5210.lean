/-
  The reference's InferStatic.
-/
import Derived.Test.YtbdacdnffkhgeaaGreatDoorKz529
import Derived.Test.YtbdacdnffkhgeaaGreatDoorKz527
import Derived.Test.YtbdacdnffkhgeaaGreatDoorKz523
import Derived.Test.YtbdacdnffkhgeaaGreatDoorKz525
import Derived.Test.YtbdacdnffkhgeaaGreatDoorKz521
import Derived.Lib.ItoaNum
import Derived.Test.YtbdacdnffkhgeaaGreatDoorKz526
import Derived.Test.YtbdacdnffkhgeaaGreatDoorKz522
set_option linter.unusedVariables false
set_option linter.unusedSimpArgs false
set_option maxHeartbeats 0
set_option maxRecDepth 100000
set_option synthInstance.maxSize 4000
set_option synthInstance.maxHeartbeats 0
namespace Go.Proofs.YtbdacdnffkhgeaaGreatDoor
open Go Go.RowKit
namespace Gw
theorem A7Y {e : Tm} (h : N8 e = true) : N8 (K8 e) = true := by
 have h1 := ((U1 e).1 h).1
 have h2 := ((U1 e).1 h).2
 have h3 := (A2P e (A2m h).1).2
 exact (U1 _).2 ⟨A7Q e 1 1 (Int.le_refl _) h1, by omega⟩
theorem B7Q {e : Tm} (h : N8 e = true) {l : List Ty} (hl : l.length = (I8 (K8 e)).length) (hv : ∀ u ∈ l, H7 u = true) : A1U (K8 e) l = some (Q0 (K8 e) l) :=
 B05 (A7Y h) (by rw [B06 (A7Y h), hl]) (fun j hj _ => hv _ (List.getElem_mem hj))
theorem B7R {B : BV} {L ts : List SV} (h : A1V B L ts) : ∀ {i : Nat}, i < L.length → ∃ s t, L[i]? = some s ∧ Q8 B s t ∧ ts[i]? = some t := by
 induction h with
 | nil => intro i hi; cases hi
 | cons d1 _ ih =>
  intro i hi
  cases i with
  | zero => exact ⟨_, _, rfl, d1, rfl⟩
  | succ i => exact ih (Nat.lt_of_succ_lt_succ hi)
theorem B1T {e : Tm} {S : IS} {o : Option SV} (hI : U2 [] e IS0 S o) (hb : mBr e) (hc : E1 e ≤ 900) (G : IM) (cells : List Value) (hr : B8 G e cells) :
  Fn Tryz.prog 22 [.agg ⟨[.slice none 0 0, .slice none 0 0]⟩, .string ⟨⟨[]⟩⟩, .slice none 0 0, .agg ⟨cells⟩] [] G (R8 S o) :=
 B7J e [] IS0 S o G _ cells none 0 [] hI hb B1y (fun p hp => by cases hp) (by show 0 + 2 * E1 e ≤ 999000; omega) (by show 0 + E1 e ≤ 999000; omega) (by show 0 + E1 e ≤ 900; omega) (fun p hp => by cases hp)
  ⟨none, 0, [], none, 0, [], rfl, D6.nil _ _, .nil, D6.nil _ _, .nil⟩ hr (D6.nil _ _) .nil
theorem B7S (e : Tm) (r : Option (Tm × Ty)) (G : IM) (cells : List Value) (hR : A1g e r) (hcnt : E1 e ≤ 4294967296) (hr : B8 G e cells) : Fn Tryz.prog 7 [.agg ⟨cells⟩] [] G (A0E r) := by
 have hl9 := hr.len
 have ho9 := hr.one
 have hV := A4v e G cells hcnt hr
 rcases hR.cs with ⟨hv, hr0⟩ | ⟨hv, hr0, S, hI⟩ | ⟨hv, S, s, ts, hI, hok, hLn, hD, hno, hyes⟩ <;> rw [hv] at hV
 ·refine C0 Tryz.func7 rfl Tryz.ntmps7 Tryz.results7 rfl ?_
  intro w0
  refine A4 ?_
  refine sE (B5 rfl rfl) rfl (fun b3 => ?_)
  refine sE (A6 rfl) rfl (fun b4 => ?_)
  refine sE (A6 rfl) rfl (fun b5 => ?_)
  refine A9 ?_
  refine sL (A5 rfl rfl (B7 zS) hl9) rfl rfl ?_
  refine H1 rfl (hV) rfl rfl ?_
  refine I5 ?_
  refine F0 (rC rfl (A3 rfl rfl)) (rC rfl (A3 rfl rfl)) (rT rfl) ?_
  (exact A0E.no hr0)
 ·have hsh := ((U1 e).1 hv).1
  have hcn := ((U1 e).1 hv).2
  have hsm := (A2m hv).1
  obtain ⟨hbs, hbc⟩ := A2P e hsm
  refine C0 Tryz.func7 rfl Tryz.ntmps7 Tryz.results7 rfl ?_
  intro w0
  refine A4 ?_
  refine sE (B5 rfl rfl) rfl (fun b3 => ?_)
  refine sE (A6 rfl) rfl (fun b4 => ?_)
  refine sE (A6 rfl) rfl (fun b5 => ?_)
  refine A9 ?_
  refine sL (A5 rfl rfl (B7 zS) hl9) rfl rfl ?_
  refine H1 rfl (hV) rfl rfl ?_
  refine E4 ?_
  refine sL (A5 rfl rfl (B7 zS) hl9) rfl rfl ?_
  (refine F4 rfl (B1S 12 14 e 1 G cells hsh hsm hr) rfl rfl (fun v G1 hle1 hh => ?_); obtain ⟨cb, Fb, rfl, hsb, hnb⟩ := hh; have hrb := hsb.R.mono (D9.le _ _); have hlb := hrb.len; have hob := hrb.one)
  refine sE (A6 rfl) rfl (fun b24 => ?_)
  refine sS rfl rfl rfl hlb hob rfl ?_ (hu := by exact C7 hlb.symm)
  refine A8 ?_
  refine sL (A5 rfl rfl (B7 zS) hlb) rfl rfl ?_
  (refine F4 rfl (B1T hI (A3x e 1 hsh) zZ G1 cb hrb) rfl rfl (fun v G4 hle4 hh => ?_); obtain ⟨sc4, tc4, u4, rfl, hs4, hr4, hu4⟩ := hh; obtain ⟨tp4, tn4, tk4, tq4, tm4, td4, rfl⟩ := hs4.two; have hl4 := hr4.len; have ho4 := hr4.one; obtain ⟨v1, v2, v3, rfl⟩ := A27 hl4; simp only [Option.isSome_none])
  refine B4 ?_
  refine sE (A6 rfl) rfl (fun b37 => ?_)
  refine sE (A6 rfl) rfl (fun b38 => ?_)
  refine sS' ?_
  refine sS rfl rfl rfl hl4 ho4 rfl ?_ (hu := by exact C7 hl4.symm)
  refine A6p ?_
  refine F0 (rC rfl (A3 rfl rfl)) (rC rfl (A3 rfl rfl)) (rT rfl) ?_
  (exact A0E.no hr0)
 ·have hsh := ((U1 e).1 hv).1
  have hcn := ((U1 e).1 hv).2
  have hsm := (A2m hv).1
  obtain ⟨hbs, hbc⟩ := A2P e hsm
  refine C0 Tryz.func7 rfl Tryz.ntmps7 Tryz.results7 rfl ?_
  intro w0
  refine A4 ?_
  refine sE (B5 rfl rfl) rfl (fun b3 => ?_)
  refine sE (A6 rfl) rfl (fun b4 => ?_)
  refine sE (A6 rfl) rfl (fun b5 => ?_)
  refine A9 ?_
  refine sL (A5 rfl rfl (B7 zS) hl9) rfl rfl ?_
  refine H1 rfl (hV) rfl rfl ?_
  refine E4 ?_
  refine sL (A5 rfl rfl (B7 zS) hl9) rfl rfl ?_
  (refine F4 rfl (B1S 12 14 e 1 G cells hsh hsm hr) rfl rfl (fun v G1 hle1 hh => ?_); obtain ⟨cb, Fb, rfl, hsb, hnb⟩ := hh; have hrb := hsb.R.mono (D9.le _ _); have hlb := hrb.len; have hob := hrb.one)
  refine sE (A6 rfl) rfl (fun b24 => ?_)
  refine sS rfl rfl rfl hlb hob rfl ?_ (hu := by exact C7 hlb.symm)
  refine A8 ?_
  refine sL (A5 rfl rfl (B7 zS) hlb) rfl rfl ?_
  (refine F4 rfl (B1T hI (A3x e 1 hsh) zZ G1 cb hrb) rfl rfl (fun v G4 hle4 hh => ?_); obtain ⟨sc4, tc4, u4, rfl, hs4, hr4, hu4⟩ := hh; have hs40 := hs4; obtain ⟨pb4, cb4, eb4, pl4, cl4, el4, rfl, -, -, hsL4, hrL4⟩ := hs4; have hl4 := hr4.len; have ho4 := hr4.one; obtain ⟨v1, v2, v3, rfl⟩ := A27 hl4; simp only [Option.isSome_some]; have hdl := hD.len)
  refine B4 ?_
  refine sE (A6 rfl) rfl (fun b37 => ?_)
  refine sE (A6 rfl) rfl (fun b38 => ?_)
  refine sS' ?_
  refine sS rfl rfl rfl hl4 ho4 rfl ?_ (hu := by exact C7 hl4.symm)
  refine I5 ?_
  (refine J2 (D1 rfl rfl rfl zZ zU rfl) rfl ?_; rintro _ ⟨b56, rfl⟩)
  refine E8 ?_
  refine C2 ?_
  (refine L4 (fun (x : Nat × Option Addr × Nat × List Ty × List (List Value) × IM) => ⟨[(10, .int .i64 x.1), (9, .slice x.2.1 x.2.2.2.1.length x.2.2.1), (6, pt b37), (5, pt b24), (4, .bool false), (3, pt b5), (2, pt b4)], [.slc x.2.1 x.2.2.1 25 2 x.2.2.2.1.length x.2.2.2.2.1.flatten, .blk b37 [.slice pb4 S.c cb4, .slice pl4 S.L.length cl4], .blk b24 cb, .blk b5 [.int .i64 0, .slice none 0 0], .blk b4 [.int .i64 0, .string ⟨⟨[]⟩⟩, .int .i64 0, .int .i64 0, .slice none 0 0, .int .i64 0, .slice none 0 0, .int .i64 0, .slice none 0 0]], x.2.2.2.2.2⟩) (fun x => x.1 ≤ S.L.length ∧ B9 G4 x.2.2.2.2.2 ∧ D8 x.2.2.2.2.2 x.2.2.2.1 x.2.2.2.2.1 ∧ x.2.2.2.1.length = x.1 ∧ Z9 (ts.take x.1) = some x.2.2.2.1) (fun x => S.L.length - x.1) (0, (some ⟨b56, 0, none⟩), 0, [], [], G4) ?_ ?_ ?_)
  (simp only [I6]; exact F9)
  (exact ⟨Nat.zero_le _, B9.refl _, by simp [D8], rfl, rfl⟩)
  (rintro ⟨(i : Nat), pn, cn, us, es, Gi⟩ ⟨hi, hle, hus, hul, hsu⟩; simp only [] at hi hle hus hul hsu ⊢; have hri := hrb.mono (hle4.trans hle))
  refine B0 ?_
  refine sB (N0 rfl rfl) rfl rfl (fun h78 => ?_) (fun h78 => ?_)
  refine A9 ?_
  refine C2 ?_
  refine tS ?_
  (have hil : i < S.L.length := zZ; obtain ⟨s1, t1, hs1, hd1, ht1⟩ := B7R hD hil; obtain ⟨bk, ok, ev, rfl, hlk, hatk, hrk, hgk⟩ := (hsL4.mono hle).lt (hrL4.mono hle) hs1 hil; refine D3 D4 rfl ?_)
  refine I7 (i := 0) (l' := [tt,ff,ff,ff,ff,ff,ff,ff,ff,ff,ff,ff,ff]) rfl C8 (A3 rfl rfl) rfl zX rfl rfl ?_
  refine aP 1 rfl (C3 rfl) rfl ?_
  refine aL 2 rfl (E9 rfl rfl) rfl ?_
  refine aP 3 rfl (qM rfl) rfl ?_
  refine aP 4 rfl (B6 (j := i) rfl rfl rfl hil) rfl ?_
  refine aL 5 rfl (A5 rfl rfl (hatk _) hlk) rfl ?_
  refine P2 (j := 6) (j' := 10) zX ?_ ?_
  (refine H0 rfl rfl (B1M S hok.wb _ t1 s1 4 Gi ev (Nat.le_refl _) hd1 (hok.ls _ (List.mem_of_getElem? hs1)) (hs40.mono hle) hrk) rfl rfl rfl (fun v G3 hle3 hh => ?_); obtain ⟨ct, u, rfl, hru, hu⟩ := hh; obtain ⟨pu, cu, eu, rfl, _⟩ := hru.open; rcases hs5 : S3 4 t1 with _ | u1)
  refine aP 7 rfl (qM rfl) rfl ?_
  refine aP 8 rfl (pX rfl rfl) rfl ?_
  refine aP 9 rfl (pX rfl rfl) rfl ?_
  refine A2 10 ?_
  (refine D2 rfl (A6 rfl) rfl rfl ?_; rintro _ ⟨b100, rfl⟩)
  refine A2 11 ?_
  refine C9 rfl ?_
  refine aP 12 rfl (qA rfl) rfl ?_
  refine A4h ?_
  refine F0 (rC rfl (A3 rfl rfl)) (rC rfl (A3 rfl rfl)) (rT rfl) ?_
  (exact A0E.no (hno (A57 ht1 hs5)))
  refine aP 7 rfl (qM rfl) rfl ?_
  refine aP 8 rfl (pX rfl rfl) rfl ?_
  refine aP 9 rfl (pX rfl rfl) rfl ?_
  refine A2 10 ?_
  (refine D2 rfl (A6 rfl) rfl rfl ?_; rintro _ ⟨b136, rfl⟩)
  refine A2 11 ?_
  refine C9 rfl ?_
  refine aP 12 rfl (qA rfl) rfl ?_
  refine I5 ?_
  (refine J2 (D1 rfl rfl rfl zZ zU rfl) rfl ?_; rintro _ ⟨b155, rfl⟩)
  (obtain rfl := hu u1 hs5; refine X1 rfl rfl rfl rfl rfl (fun _ _ => by repeat (first | exact Sw.here | apply Sw.there)) (J7 zS) rfl zT zU zZ rfl (fun pn' cn' => ?_))
  refine A9 ?_
  refine sP (J9 rfl rfl zZ zZ) rfl rfl ?_
  refine A4 ?_
  (refine J6 (i + 1, pn', cn', us ++ [u], es ++ [[.int .i64 u.k, .slice pu u.ks.length cu]], G3) (by simp only [List.length_append, List.length_cons, List.length_nil, I6]; exact (I1 zO zJ)) ?_ ?_)
  (dsimp only; exact ⟨by omega, hle.trans hle3, (hus.mono hle3).snoc hru, by simp [hul], A56 hsu ht1 hs5⟩)
  (show S.L.length - (i + 1) < S.L.length - i; omega)
  (refine D2 rfl (A6 rfl) rfl rfl ?_; rintro _ ⟨b169, rfl⟩)
  refine A2 6 ?_
  (refine H0 rfl rfl (B1M S hok.wb _ t1 s1 4 Gi ev (Nat.le_refl _) hd1 (hok.ls _ (List.mem_of_getElem? hs1)) (hs40.mono hle) hrk) rfl rfl rfl (fun v G3 hle3 hh => ?_); obtain ⟨ct, u, rfl, hru, hu⟩ := hh; obtain ⟨pu, cu, eu, rfl, _⟩ := hru.open; rcases hs5 : S3 4 t1 with _ | u1)
  refine aP 7 rfl (qM rfl) rfl ?_
  refine aP 8 rfl (pX rfl rfl) rfl ?_
  refine aP 9 rfl (pX rfl rfl) rfl ?_
  refine A2 11 ?_
  refine C9 rfl ?_
  refine aP 12 rfl (qA rfl) rfl ?_
  refine A4h ?_
  refine F0 (rC rfl (A3 rfl rfl)) (rC rfl (A3 rfl rfl)) (rT rfl) ?_
  (exact A0E.no (hno (A57 ht1 hs5)))
  refine aP 7 rfl (qM rfl) rfl ?_
  refine aP 8 rfl (pX rfl rfl) rfl ?_
  refine aP 9 rfl (pX rfl rfl) rfl ?_
  refine A2 11 ?_
  refine C9 rfl ?_
  refine aP 12 rfl (qA rfl) rfl ?_
  refine I5 ?_
  (refine J2 (D1 rfl rfl rfl zZ zU rfl) rfl ?_; rintro _ ⟨b227, rfl⟩)
  (obtain rfl := hu u1 hs5; refine X1 rfl rfl rfl rfl rfl (fun _ _ => by repeat (first | exact Sw.here | apply Sw.there)) (J7 zS) rfl zT zU zZ rfl (fun pn' cn' => ?_))
  refine A9 ?_
  refine sP (J9 rfl rfl zZ zZ) rfl rfl ?_
  refine A4 ?_
  (refine J6 (i + 1, pn', cn', us ++ [u], es ++ [[.int .i64 u.k, .slice pu u.ks.length cu]], G3) (by simp only [List.length_append, List.length_cons, List.length_nil, I6]; exact (I1 zO zJ)) ?_ ?_)
  (dsimp only; exact ⟨by omega, hle.trans hle3, (hus.mono hle3).snoc hru, by simp [hul], A56 hsu ht1 hs5⟩)
  (show S.L.length - (i + 1) < S.L.length - i; omega)
  refine J4 ?_
  refine sL (A5 rfl rfl (B7 zS) hlb) rfl rfl ?_
  refine E0 ?_
  (obtain rfl : i = S.L.length := zZ; have htk : ts.take S.L.length = ts := List.take_of_length_le zZ; rw [htk] at hsu; obtain ⟨hy1, hy2, hy3⟩ := hyes us hsu; have hwy := B7Q hv hy1 hy2; have hwv := B69 (A7Y hv) hy1 hy2; refine W9 (cs := es.flatten) zP (fun G5 hle5 hsl5 hno5 => ?_); clear hno5; have hus5 := hus.mono hle5; have hW := B07 (K8 e) us G5 cb pn cn es hbs zZ zZ (fun w hw => (A2a (hy2 w hw)).1.small) (hri.mono hle5) (D6.of hsl5 hus5.len hus5.all (fun e he => (hus5.each e he).2)) hus5; rw [hwy] at hW; refine F4 rfl hW rfl rfl (fun v G6 hle6 hh => ?_); obtain ⟨cx, rfl, hrx⟩ := hh; simp only [Option.isSome_some]; replace hrx : B8 G6 (Q0 (K8 e) us) cx := hrx; obtain ⟨x, hx⟩ : ∃ x, Q0 (K8 e) us = x := ⟨_, rfl⟩; rw [hx] at hrx hy3 hwv; have hlx := hrx.len; have hox := hrx.one)
  refine C1 ?_
  refine sE (A6 rfl) rfl (fun b257 => ?_)
  refine Q3 rfl rfl rfl hlx hox rfl zR (by exact C7 (hlx.trans rfl).symm) ?_
  refine A8 ?_
  refine sL (A5 rfl rfl (B7 zS) hlx) rfl rfl ?_
  (refine F4 rfl (B6T x G6 cx (by have := ((U1 x).1 hwv).2; omega) hrx) rfl rfl (fun v7 G7 hle7 hh => ?_); obtain ⟨cty, uty, rfl, hrty, _⟩ := hh; obtain ⟨qt, dt, et2, rfl, _⟩ := hrty.open; have hrx7 := hrx.mono hle7; rcases hT : W2 x with _ | ty7)
  refine C1 ?_
  refine sE (A6 rfl) rfl (fun b269 => ?_)
  refine A1K ?_
  refine F0 (rC rfl (A3 rfl rfl)) (rC rfl (A3 rfl rfl)) (rT rfl) ?_
  (exact A0E.no (by rw [hy3, hT]; rfl))
  refine C1 ?_
  refine sE (A6 rfl) rfl (fun b298 => ?_)
  refine I5 ?_
  refine D3 D4 rfl ?_
  refine I7 (i := 0) (l' := [tt,ff,ff,ff,ff]) rfl C8 (A5 rfl rfl (B7 zS) hlx) rfl zX rfl rfl ?_
  refine aL 1 rfl (A3 rfl rfl) rfl ?_
  refine A2 2 ?_
  refine oS rfl rfl rfl rfl hlx hox rfl rfl ?_ (hu := by exact C7 hlx.symm)
  refine A2 3 ?_
  refine C9 rfl ?_
  refine aP 4 rfl (qA rfl) rfl ?_
  refine C1 ?_
  refine F0 (rC rfl (A5 rfl rfl (B7 zS) hlx)) (rC rfl (A3 rfl rfl)) (rT rfl) ?_
  (exact A0E.yes (by rw [hy3, hT]; rfl) hrx7 hrty)
def B8K (G : IM) : IM → Value → List A7 → Prop := M5 fun G' v => ∃ a ca b cb f, v = .tuple ⟨[.agg ⟨ca⟩, .agg ⟨cb⟩, .int .i64 f]⟩ ∧ B8 G' a ca ∧ a.fit 1100 ∧ B8 G' b cb ∧ b.fit 1100 ∧ H5 f
def B8L (G : IM) : IM → Value → List A7 → Prop := M5 fun G' v => ∃ a ca b cb d cd, v = .tuple ⟨[.agg ⟨ca⟩, .agg ⟨cb⟩, .agg ⟨cd⟩]⟩ ∧ B8 G' a ca ∧ a.fit 1100 ∧ B8 G' b cb ∧ b.fit 1100 ∧ B8 G' d cd ∧ d.fit 1100
def B8M (N : Nat) (G : IM) : IM → Value → List A7 → Prop := M5 fun G' v => ∃ a ca f, v = .tuple ⟨[.agg ⟨ca⟩, .int .i64 f]⟩ ∧ B8 G' a ca ∧ a.fit N ∧ H5 f
theorem B7T {hp : List A7} {G : IM} {b c el n i : Nat} {es : List (List Value)} {v : Value} {l : List Value} (hm : A7.slc (some ⟨b, 0, none⟩) c el 2 n es.flatten ∈ hp) (hi : i < es.length) (ha : ∀ e ∈ es, e.length = 2) (he : es[i] = v :: l) : At hp G b (0 + i * 2) [v] :=
 A75 hm fun j u hj => B6Z hi ha j u (by
  cases j with
  | zero => rw [he]; simpa using hj
  | succ j => simp at hj)
theorem B7U : I0 (.mk 2 []) ∧ L8 (.mk 2 []) ≤ 30 := A2a zY
theorem B7V (br : Nat) (pb : Option Addr) (nb cb : Nat) (bs : List UInt8) (hnb : nb ≤ 2000) (p : Nat) (G : IM) (hb : Sl G pb nb cb 1 (R2 bs)) (hp : p + 3000000 < 1099511627776) :
  Fn Tryz.prog 39 [.pointer (some ⟨br, 0, none⟩)] [rd br pb nb cb p] G
   (A1b br pb nb cb p 3000000 (fun G' v => ∃ e cells, v = .agg ⟨cells⟩ ∧ B8 G' e cells ∧ e.fit 2000000)) := by
 have hm8 : mB 8 = 1968200 := by decide
 have hdB := A61 (d := 0) zY
 refine C0 Tryz.func39 rfl Tryz.ntmps39 Tryz.results39 rfl ?_
 intro w0
 refine A4 ?_
 refine sE (A6 rfl) rfl (fun b3 => ?_)
 refine A9 ?_
 (have hcall := A4q br pb nb cb bs hnb 0 p _ zZ hb zZ; refine K9 rfl hcall (Pk.perm zP) rfl rfl (fun v Gn outs hleD hh => ?_); obtain ⟨pD, hpD1, hpD2, rfl, uD, cD, rfl, hrD, hsD, haD⟩ := hh; obtain ⟨qD, dD, eD, rfl, _⟩ := hrD.open; replace hb := hb.mono hleD)
 refine E0 ?_
 (refine J2 (D1 rfl rfl rfl zZ zU rfl) rfl ?_; rintro _ ⟨b12, rfl⟩)
 (refine W9 zP (fun Gf hlef hslf _ => ?_); refine K9 rfl (A0X Gf br pb nb cb (pD) bs _ _ _ _ (hb.mono hlef) hnb zZ hslf zY) (Pk.perm zP) rfl rfl (fun v Gm outs hlen hh => ?_); obtain ⟨rfl, rfl, hv⟩ := hh; replace hb := hb.mono hlef; replace hrD := hrD.mono hlef; obtain ⟨dp, rfl, hdp1, hdp2⟩ : ∃ d : Int, v = .int .i64 d ∧ 2 ≤ d ∧ d ≤ 5 := (by simp only [List.mem_cons, List.not_mem_nil, or_false] at hv; rcases hv with rfl | rfl | rfl | rfl <;> exact ⟨_, rfl, by decide, by decide⟩))
 (have hcall := B6w br pb nb cb bs hnb 8 dp uD (pD + 1) _ none 0 0 _ ⟨haD.le zZ, by omega, by omega, .inr ⟨by omega, by omega⟩⟩ zZ zZ zZ (GCx.nil _) hrD hb zZ; refine K9 rfl hcall (Pk.perm zP) rfl rfl (fun v Gn outs hleM hh => ?_); obtain ⟨pM, hpM1, hpM2, rfl, e, ce, rfl, hr, hsmM, hcM⟩ := hh; have hl := hr.len; have hone := hr.one; replace hb := hb.mono hleM; obtain ⟨hTl, hTv⟩ := B6X e; have hfit : e.fit 2000000 := ⟨hsmM, by omega⟩; have hcnt := hfit.2; have hT := fun G hr => B04 e G ce hfit.1 zZ hr; generalize A0R e = L0 at hTl hTv hT)
 refine sE (A6 rfl) rfl (fun b15 => ?_)
 refine Q3 rfl rfl rfl hl hone rfl zR (by exact C7 (by first | exact hl.symm | omega)) ?_
 refine B4 ?_
 refine sL (A5 rfl rfl (B7 zS) hl) rfl rfl ?_
 (refine A1l rfl (hT _ hr) rfl rfl (fun v G1 outs hle1 hh => ?_); obtain ⟨q, c, es0, rfl, rfl, hr1⟩ := hh; replace hb := hb.mono hle1; replace hr := hr.mono hle1)
 refine E8 ?_
 refine C2 ?_
 (refine B2B (fun a w hs => hs.slc_ptT (p := q) (c := c) (el := 25) (sz := 2) (n := L0.length) (cs := es0.flatten) zS) (fun hq => ?_); refine L4 (fun (x : Nat × List (List Value) × IM) => ⟨[(5, .int .i64 x.1), (4, .slice q L0.length c), (0, .pointer (some ⟨br, 0, none⟩)), (3, .pointer (some ⟨b15, 0, none⟩)), (2, .pointer (some ⟨b3, 0, none⟩))], [.slc q c 25 2 L0.length x.2.1.flatten, rd br pb nb cb pM, .blk b15 ce, .blk b3 [.int .i64 0, .string ⟨⟨[]⟩⟩, .int .i64 0, .int .i64 0, .slice none 0 0, .int .i64 0, .slice none 0 0, .int .i64 0, .slice none 0 0]], x.2.2⟩) (fun x => x.1 ≤ L0.length ∧ B9 G1 x.2.2 ∧ ∃ L, L.length = L0.length ∧ D8 x.2.2 L x.2.1 ∧ ∀ u ∈ L, I0 u ∧ L8 u ≤ 30) (fun x => L0.length - x.1) (0, es0, G1) ?_ ?_ ?_)
 (simp only [I6]; exact F9)
 (exact ⟨Nat.zero_le _, B9.refl _, L0, rfl, hr1, fun u hu => A2a (hTv u hu)⟩)
 (rintro ⟨(i : Nat), es, Gi⟩ ⟨hi, hle, L, hL, hst, hal⟩; simp only [] at hi hle hst ⊢; replace hb := hb.mono hle; have hesl : es.length = L0.length := (by have h0 := hst.len; omega))
 refine A9 ?_
 refine sB (N0 rfl rfl) rfl rfl (fun h43 => ?_) (fun h43 => ?_)
 refine A9 ?_
 refine C2 ?_
 refine B4 ?_
 (obtain ⟨g, rfl, hgc⟩ := hq.resolve_left zZ; obtain ⟨hai, hsi⟩ := hal L[i] (List.getElem_mem zZ); have hri : C6 Gi L[i] (es[i]'zZ) := (by have h0 := (hst.inv (i := i) (List.getElem?_eq_getElem zZ) B3).2; rw [List.getD_eq_getElem?_getD, List.getElem?_eq_getElem zZ, Option.getD_some] at h0; exact h0); obtain ⟨qi, di, ei, hei0, _⟩ := hri.open; refine sP (B6 (j := i) rfl rfl rfl zZ) rfl rfl ?_)
 refine E0 ?_
 refine sL (I2 rfl rfl (B7T zS zZ (fun e he => (hst.each e he).1) hei0)) rfl rfl ?_
 refine sB (qE rfl rfl) rfl rfl (fun h58 => ?_) (fun h58 => ?_)
 refine A9 ?_
 refine H1 rfl ((A1v _)) rfl rfl ?_
 refine sP (B6 (j := i) rfl rfl rfl zZ) rfl rfl ?_
 refine B4i rfl rfl rfl (vs := [.int .i64 2, .slice none 0 0]) rfl rfl rfl zR (B4j zZ (fun e he => (hst.each e he).1) rfl) ?_
 refine A8 ?_
 refine sP (J9 rfl rfl zZ zZ) rfl rfl ?_
 refine A4 ?_
 (refine J6 (i + 1, es.set i [.int .i64 2, .slice none 0 0], Gi) (I1 zO zJ) ?_ ?_)
 (dsimp only; exact ⟨by omega, hle, L.set i (.mk 2 []), by rw [List.length_set]; exact hL, hst.set i (L5 _ ⟨by omega, by omega⟩), fun w hw => by rcases List.mem_or_eq_of_mem_set hw with h | h; exact hal w h; rw [h]; exact B7U⟩)
 (show L0.length - (i + 1) < L0.length - i; omega)
 refine E4 ?_
 refine sP (J9 rfl rfl zZ zZ) rfl rfl ?_
 refine A4 ?_
 (refine J6 (i + 1, es, Gi) (I1 zO zJ) ?_ ?_)
 (dsimp only; exact ⟨by omega, hle, L, hL, hst, hal⟩)
 (show L0.length - (i + 1) < L0.length - i; omega)
 refine J4 ?_
 refine sL (A5 rfl rfl (B7 zS) hl) rfl rfl ?_
 refine E0 ?_
 (refine W9 (cs := es.flatten) zP (fun G2 hle2 hsl2 hno2 => ?_); have hw := B07 e L G2 ce q c es hfit.1 zZ zZ (fun u hu => (hal u hu).1.small) ((hr.mono hle).mono hle2) (D6.of (by rw [hL]; exact hsl2) zZ hst.all (fun e he => (hst.each e he).2)) (hst.mono hle2); rw [hL] at hw; refine F4 rfl hw rfl rfl (fun v G3 hle3 hh => ?_); obtain ⟨cu, rfl, hru⟩ := hh; have hfu := B6Y hfit (fun u hu => (hal u hu).1.small); generalize (A1U e L).isSome = bx; generalize (A1U e L).getD K4 = ux at *; have hul := hru.len; have huo := hru.one; replace hb := (hb.mono hle2).mono hle3; cases bx)
 refine C1 ?_
 refine sE (A6 rfl) rfl (fun b109 => ?_)
 refine sS rfl rfl rfl hul huo rfl ?_ (hu := by exact C7 hul.symm)
 refine W5 ?_
 (have hcall := A9u br pb nb cb bs hnb pM _ hb zZ; refine K9 rfl hcall (Pk.perm zP) rfl rfl (fun v Gn outs hleC hh => ?_); obtain ⟨pC, hpC1, hpC2, rfl, eC, cC, rfl, hrC, hcC⟩ := hh; have hlC := hrC.len; have hoC := hrC.one; have hcntC := A5l eC)
 refine Q3 rfl rfl rfl hlC hoC rfl zR (by exact C7 (by first | exact hlC.symm | omega)) ?_
 refine C1 ?_
 refine H6 (outs := [rd br pb nb cb pC]) (rC rfl (A5 rfl rfl (B7 zS) hlC)) zI ?_
 (exact ⟨pC, by omega, by omega, rfl, eC, _, rfl, hrC, A6G _ zZ, by omega⟩)
 refine C1 ?_
 refine sE (A6 rfl) rfl (fun b141 => ?_)
 refine sS rfl rfl rfl hul huo rfl ?_ (hu := by exact C7 hul.symm)
 refine E8 ?_
 (refine K9 rfl (A0p _ br pb nb cb pM bs 3 hb hnb zZ) (Pk.perm zP) rfl rfl (fun v Gp outs hle7 hh => ?_); obtain ⟨rfl, rfl, j7, rfl, hj7, hk7⟩ := hh)
 refine sB (A0w rfl rfl) rfl rfl (fun h153 => ?_) (fun h153 => ?_)
 refine A9 ?_
 refine sL (A5 rfl rfl (B7 zS) hul) rfl rfl ?_
 refine sS rfl rfl rfl hul huo rfl ?_ (hu := by exact C7 hul.symm)
 refine B4 ?_
 refine H6 (outs := [rd br pb nb cb (pM + 1)]) (rC rfl (A5 rfl rfl (B7 zS) hul)) zI ?_
 (exact ⟨pM + 1, by omega, by omega, rfl, ux, cu, rfl, hru, hfu⟩)
 refine E8 ?_
 (have hcall := A9u br pb nb cb bs hnb (pM + 1) _ hb zZ; refine K9 rfl hcall (Pk.perm zP) rfl rfl (fun v Gn outs hleC hh => ?_); obtain ⟨pC, hpC1, hpC2, rfl, eC, cC, rfl, hrC, hcC⟩ := hh; have hlC := hrC.len; have hoC := hrC.one; have hcntC := A5l eC)
 refine Q3 rfl rfl rfl hlC hoC rfl zR (by exact C7 (by first | exact hlC.symm | omega)) ?_
 refine C1 ?_
 refine H6 (outs := [rd br pb nb cb pC]) (rC rfl (A5 rfl rfl (B7 zS) hlC)) zI ?_
 (exact ⟨pC, by omega, by omega, rfl, eC, _, rfl, hrC, A6G _ zZ, by omega⟩)
def B1U (N : Nat) : IM → Value → List A7 → Prop := M5 fun G' v => ∃ e cells, v = .agg ⟨cells⟩ ∧ B8 G' e cells ∧ e.fit N
theorem B7W (G : IM) (q : Option Addr) (n c : Nat) (bs : List UInt8) (hb : Sl G q n c 1 (R2 bs)) : Fn Tryz.prog 12 [.slice q n c] [] G (B1U 2000000) := by
 refine C0 Tryz.func12 rfl Tryz.ntmps12 Tryz.results12 rfl ?_
 intro w0
 refine A4 ?_
 refine sE (A6 rfl) rfl (fun b3 => ?_)
 refine A8 ?_
 (refine K9 rfl (B32 G q n c bs hb) (List.Perm.refl _) rfl rfl (fun v G1 outs hle1 hh => ?_); obtain ⟨rfl, br, pb, nb, cb, bs', rfl, rfl, hnb, hb'⟩ := hh)
 refine B0 ?_
 (have hcall := B7V br pb nb cb bs' hnb 0 _ hb' zZ; refine K9 rfl hcall (Pk.perm zP) rfl rfl (fun v Gn outs hle1 hh => ?_); obtain ⟨p2, hp11, hp12, rfl, e2, ce2, rfl, hre2, hfe2⟩ := hh; have hl1 := hre2.len; have ho1 := hre2.one; replace hb' := hb'.mono hle1)
 (have hcall := B4b br pb nb cb bs' hnb p2 _ hb' zZ e2 ce2 2000000 hfe2 hre2; refine K9 rfl hcall (Pk.perm zP) rfl rfl (fun v Gn3 outs hle3 hh => ?_); obtain ⟨p3, hp31, hp32, rfl, e3, ce3, rfl, hre3, hfe3⟩ := hh; have hl3 := hre3.len; have ho3 := hre3.one)
 refine Q3 rfl rfl rfl zW zW rfl zR (by exact C7 (by symm; assumption)) ?_
 refine C1 ?_
 refine O7 (rC rfl (A5 rfl rfl (B7 zS) hl3)) ?_
 (exact ⟨rfl, e3, ce3, rfl, hre3, hfe3⟩)
theorem B7X (G : IM) (q : Option Addr) (n c : Nat) (bs : List UInt8) (hb : Sl G q n c 1 (R2 bs)) : Fn Tryz.prog 5 [.slice q n c] [] G (B1U 2000000) := by
 have hD := B7W G q n c bs hb
 refine C0 Tryz.func5 rfl Tryz.ntmps5 Tryz.results5 rfl ?_
 intro w0
 refine A4 ?_
 refine sE (A6 rfl) rfl (fun b3 => ?_)
 refine A8 ?_
 (refine F4 rfl hD rfl rfl (fun v1 G1 hle1 hh => ?_); obtain ⟨e, ce, rfl, hre, hfe⟩ := hh; have hl1 := hre.len; have ho1 := hre.one)
 refine Q3 rfl rfl rfl zW zW rfl zR (by exact C7 (by symm; assumption)) ?_
 refine C1 ?_
 refine O7 (rC rfl (A5 rfl rfl (B7 zS) hl1)) ?_
 (exact ⟨rfl, e, ce, rfl, hre, hfe⟩)
section
variable {k : Int} {nm : ByteArray} {num : Int} {ty fr : Ty} {lb : Int} {ks : List Tm}
end
inductive MV where
 | mk (k num : Int) (env parts : List MV)
def MV.k : MV → Int | .mk k _ _ _ => k
def MV.num : MV → Int | .mk _ n _ _ => n
def MV.env : MV → List MV | .mk _ _ e _ => e
def MV.parts : MV → List MV | .mk _ _ _ p => p
def mv0 : MV := .mk 0 0 [] []
mutual
def RMv (kc : Int → Int) (G : IM) : MV → List Value → Prop
 | .mk k num env parts, cells => ∃ p c es q d fs, cells = [.int .i64 (kc k), .int .i64 num, .slice p env.length c, .slice q parts.length d] ∧ H5 num ∧ H5 (kc k) ∧ D6 G p env.length c 4 es ∧ A38 kc G env es ∧ D6 G q parts.length d 4 fs ∧ A38 kc G parts fs
def A38 (kc : Int → Int) (G : IM) : List MV → List (List Value) → Prop
 | [], es => es = []
 | t :: ts, es => ∃ a r, es = a :: r ∧ RMv kc G t a ∧ A38 kc G ts r
end
section
variable {kc : Int → Int} {G : IM}
end

def RFr (kc : Int → Int) (G : IM) (f : Int × List MV) (cells : List Value) : Prop := ∃ p c es, cells = [.int .i64 f.1, .slice p f.2.length c] ∧ H5 f.1 ∧ D6 G p f.2.length c 4 es ∧ A38 kc G f.2 es
def B1V (kc : Int → Int) (G : IM) : List (Int × List MV) → List (List Value) → Prop
 | [], es => es = []
 | t :: ts, es => ∃ a r, es = a :: r ∧ RFr kc G t a ∧ B1V kc G ts r
section
variable {kc : Int → Int} {G : IM}
end

structure MSt where
 at' : Int
 st : List MV
 env : List MV
 fr : List (Int × List MV)
def RSs (kc : Int → Int) (G : IM) (s : MSt) (cells : List Value) : Prop := ∃ pe ce ps cs pf cf ee es ef, cells = [.int .i64 s.at', .slice pe s.env.length ce, .slice ps s.st.length cs, .slice pf s.fr.length cf] ∧ H5 s.at' ∧
 D6 G pe s.env.length ce 4 ee ∧ A38 kc G s.env ee ∧ D6 G ps s.st.length cs 4 es ∧ A38 kc G s.st es ∧ D6 G pf s.fr.length cf 2 ef ∧ B1V kc G s.fr ef
def A58 (k : Int) : Nat := if k = 6 ∨ k = 7 ∨ k = 8 ∨ k = 11 then 2 else if k = 9 ∨ k = 12 ∨ k = 13 then 1 else 0
def A7Z (k : Int) : Int × Nat × Int := if k = 6 then (2, 1, 1) else if k = 7 ∨ k = 8 then (0, 2, 2) else if k = 9 then (1, 1, 3) else if k = 12 ∨ k = 13 then (3, 1, 4) else (0, 0, 0)
def A28 (s : MSt) (v : MV) : MSt := { s with st := s.st ++ [v] }
def mGo (k a : Int) (s : MSt) (v : List MV) : MSt ⊕ (Int × Int) :=
 if k = 1 then .inl (A28 s (.mk 0 a [] []))
 else if k = 2 then .inl (A28 s (.mk 1 a [] []))
 else if k = 3 then (if (s.env.length : Int) - 1 - a < 0 then .inr (3, 0) else .inl (A28 s (s.env.getD ((s.env.length : Int) - 1 - a).toNat mv0)))
 else if k = 4 then .inl { A28 s (.mk 2 s.at' s.env []) with at' := s.at' + a }
 else if k = 5 then (if s.fr.length = 0 then .inr (3, 0) else .inl { s with at' := (s.fr.getD (s.fr.length - 1) (0, [])).1, env := (s.fr.getD (s.fr.length - 1) (0, [])).2, fr := s.fr.take (s.fr.length - 1) })
 else if k = 6 then .inl { s with at' := (v.getD 0 mv0).num, env := (v.getD 0 mv0).env ++ [v.getD 1 mv0], fr := s.fr ++ [(s.at', s.env)] }
 else if k = 7 then .inl (A28 s (.mk 0 (((v.getD 0 mv0).num + (v.getD 1 mv0).num) % 1000) [] []))
 else if k = 8 then .inl (A28 s (.mk 1 (if (v.getD 0 mv0).num < (v.getD 1 mv0).num then 1 else 0) [] []))
 else if k = 9 then .inl (if (v.getD 0 mv0).num = 0 then { s with at' := s.at' + a } else s)
 else if k = 10 then .inl { s with at' := s.at' + a }
 else if k = 11 then .inl (A28 s (.mk 3 0 [] v))
 else .inl (A28 s ((v.getD 0 mv0).parts.getD (k - 12).toNat mv0))
def B7Y (k : Int) (v : List MV) : Bool := (v.take (A7Z k).2.1).all fun u => decide (u.k = (A7Z k).1)
def B7Z (k a : Int) (s : MSt) : MSt ⊕ (Int × Int) :=
 if s.st.length < A58 k then .inr (3, 0)
 else if B7Y k (s.st.drop (s.st.length - A58 k)) = true then mGo k a { s with at' := s.at' + 1, st := s.st.take (s.st.length - A58 k) } (s.st.drop (s.st.length - A58 k))
 else .inr (2, (A7Z k).2.2)
def B70 (v : MV) : ByteArray := if v.k = 0 then ⟨(Lib.decDigits v.num.toNat).toArray⟩ else if v.k = 1 then (if v.num = 0 then ⟨#[70]⟩ else ⟨#[84]⟩) else if v.k = 2 then ⟨⟨[102, 117, 110, 99, 116, 105, 111, 110]⟩⟩ else ⟨⟨[112, 97, 105, 114]⟩⟩
def B71 (s : MSt) : ByteArray × Int × Int := if s.st.length ≠ 1 ∨ 0 < s.fr.length then (⟨#[]⟩, 3, 0) else (B70 (s.st.getD 0 mv0), 0, 0)
def B1W (ops : List (Int × Int)) : Nat → MSt → ByteArray × Int × Int
 | t, s => if (ops.length : Int) ≤ s.at' then B71 s else match t with
  | 0 => (⟨#[]⟩, 5, 0)
  | t + 1 => match B7Z (ops.getD s.at'.toNat (0, 0)).1 (ops.getD s.at'.toNat (0, 0)).2 s with
   | .inl s' => B1W ops t s'
   | .inr (c, e) => (⟨#[]⟩, c, e)
def B72 (k behind : Int) : Int := if k = 1 then 999 else if k = 2 then 1 else if k = 3 then 11 else if k = 4 ∨ k = 9 ∨ k = 10 then behind else 0
def B73 (n : Nat) (i : Nat) (x : Int × Int) : Bool := decide (1 ≤ x.1 ∧ x.1 ≤ 13 ∧ 0 ≤ x.2 ∧ x.2 ≤ B72 x.1 ((n : Int) - 1 - i))
def B74 (ops : List (Int × Int)) : Bool := decide (1 ≤ ops.length ∧ ops.length ≤ 120) && (List.range ops.length).all fun i => B73 ops.length i (ops.getD i (0, 0))
def B8N (ops : List (Int × Int)) (ticks : Int) : ByteArray × Int × Int :=
 if B74 ops = true ∧ 0 ≤ ticks ∧ ticks ≤ 2000 then B1W ops ticks.toNat ⟨0, [], [], []⟩ else (⟨#[]⟩, 3, 0)
theorem B75 (k : Int) (nm : ByteArray) (num : Int) (ty fr : Ty) (lb : Int) (ks : List Tm) (G : IM) (cells : List Value) (hT : A14 G) (hk3 : k = 2 ∨ k = 3 ∨ k = 4) (hn : 0 ≤ num ∧ num ≤ 999) (hr : B8 G (.mk k nm num ty fr lb ks) cells) : Fn Tryz.prog 67 [.agg ⟨cells⟩] [] G (K5 (.string (A30 k num)) G) := by
 obtain ⟨tk, tks⟩ := ty
 obtain ⟨fk, fks⟩ := fr
 obtain ⟨pt, ct, pf, cf, p, c, es, rfl, hk, hnum, hlb, hty, hfr, hsl, hkl⟩ := hr.open9
 have hI := B26 num G hT hn.1 hn.2
 refine C0 Tryz.func67 rfl Tryz.ntmps67 Tryz.results67 rfl ?_
 intro w0
 refine A4 ?_
 refine sE (B5 rfl rfl) rfl (fun b3 => ?_)
 refine A8 ?_
 refine sQ (A3B rfl rfl) rfl ?_
 refine J4 ?_
 refine C2 ?_
 refine A4 ?_
 refine sP (D0 rfl rfl zZ) rfl rfl ?_
 refine A9 ?_
 refine sB (qE rfl rfl) rfl rfl (fun h30 => ?_) (fun h30 => ?_)
 refine E4 ?_
 refine H1 rfl (hI) rfl rfl ?_
 refine B0 ?_
 (exact ⟨rfl, by unfold A30; rw [if_pos zZ]; rfl, rfl⟩)
 refine A9 ?_
 refine sB (qE rfl rfl) rfl rfl (fun h54 => ?_) (fun h54 => ?_)
 refine O5 ?_
 (exact ⟨rfl, by unfold A30; rw [if_neg zZ, if_pos zZ]; rfl, rfl⟩)
 refine A9 ?_
 refine sP (N6 rfl rfl zZ) rfl rfl ?_
 refine O5 ?_
 (exact ⟨rfl, by unfold A30; rw [if_neg zZ, if_neg zZ]; rfl, rfl⟩)
theorem B76 : ∀ (t : Tm) (G : IM) (cells : List Value), A14 G → cv t → J8 t = true → B8 G t cells → Fn Tryz.prog 34 [.agg ⟨cells⟩] [] G (K5 (.string (A0D t)) G) := by
 refine Tm.ind fun k nm num ty fr lb ks ih G cells hT hc hv hr => ?_
 have hr0 := hr
 have hP := A3p _ G _ hr
 obtain ⟨hN, hkk⟩ := hc.node
 have hop := hN.ops
 have h14 : k = 14 → ks.length = 1 := fun h => by rw [h] at hop; have : E7 14 = 1 := rfl; omega
 have hL := fun h => B75 k nm num ty fr lb ks G cells hT h hN.num0 hr
 have hvp := @B6b k nm num ty fr lb ks
 have hvf := @B6c k nm num ty fr lb ks
 have hvc := @B0P k nm num ty fr lb ks
 have hvl := @B6d k nm num ty fr lb ks
 have hvn := @B0j k nm num ty fr lb ks
 have hvy := @A7q k nm num ty fr lb ks
 have hprx := A3Y k nm num ty fr lb ks
 have hinj := A7p k nm num ty fr lb ks
 have hleaf : prx (.mk k nm num ty fr lb ks) = false → k ≠ 14 → k ≠ 10 → k ≠ 5 → k = 2 ∨ k = 3 ∨ k = 4 := by
  intro h1 h2 h3 h4
  have := hvn h3 h1 (by rw [hinj, decide_eq_false zZ]; rfl)
  rw [this] at hv
  have := of_decide_eq_true hv
  omega
 have hkv : prx (.mk k nm num ty fr lb ks) = false → k = 14 → ∀ t ∈ ks, J8 t = true := by
  intro h1 h2 t ht
  cases hi : inj (.mk k nm num ty fr lb ks) with
  | true => have := hvy (.inr (.inr hi)); rw [hv] at this; exact List.all_eq_true.1 this.symm t ht
  | false =>
   have := hvn zZ h1 hi
   rw [hv] at this
   have := of_decide_eq_true this.symm
   omega
 generalize hpx : prx (.mk k nm num ty fr lb ks) = bp at *
 obtain ⟨tk, tks⟩ := ty
 obtain ⟨fk, fks⟩ := fr
 obtain ⟨pt, ct, pf, cf, p, c, es, rfl, hk, hnum, hlb, hty, hfr, hsl, hkl⟩ := hr.open9
 refine C0 Tryz.func34 rfl Tryz.ntmps34 Tryz.results34 rfl ?_
 intro w0
 refine A4 ?_
 refine sE (B5 rfl rfl) rfl (fun b3 => ?_)
 refine B4 ?_
 refine C2 ?_
 refine B4 ?_
 refine sB (qE rfl rfl) rfl rfl (fun h13 => ?_) (fun h13 => ?_)
 refine A1K ?_
 (exact ⟨rfl, congrArg Value.string (hvp (by first | exact .inl zZ | exact .inr ⟨by assumption, by assumption⟩)).symm, rfl⟩)
 refine A4 ?_
 refine K3 rfl (hP) rfl rfl (fun h40 => ?_) (fun h40 => ?_)
 refine B4 ?_
 refine sB (qE rfl rfl) rfl rfl (fun h45 => ?_) (fun h45 => ?_)
 refine I5 ?_
 (exact ⟨rfl, congrArg Value.string (hvp (by first | exact .inl zZ | exact .inr ⟨by assumption, by assumption⟩)).symm, rfl⟩)
 refine J4 ?_
 refine sB (qE rfl rfl) rfl rfl (fun h72 => ?_) (fun h72 => ?_)
 refine U7 ?_
 (exact ⟨rfl, congrArg Value.string (hvf (by rintro (h | ⟨h1, h2⟩) <;> first | omega | exact Bool.noConfusion (h1.symm.trans (show bp = false by assumption)) | (simp only [Ty.k] at h2; omega)) (by first | exact .inl zZ | exact .inr zW)).symm, rfl⟩)
 refine A4 ?_
 refine K3 rfl (hP) rfl rfl (fun h93 => ?_) (fun h93 => ?_)
 refine M8 ?_
 (exact ⟨rfl, congrArg Value.string (hvf (by rintro (h | ⟨h1, h2⟩) <;> first | omega | exact Bool.noConfusion (h1.symm.trans (show bp = false by assumption)) | (simp only [Ty.k] at h2; omega)) (by first | exact .inl zZ | exact .inr zW)).symm, rfl⟩)
 refine E8 ?_
 refine sB (qE rfl rfl) rfl rfl (fun h118 => ?_) (fun h118 => ?_)
 refine E4 ?_
 (have hl1 := h14 zZ; obtain ⟨bx, ox, e, rfl, hl, hat, hre, hgb⟩ := hsl.kidTm hkl (i := 0) zZ zZ; have hih := ih ks[0] (List.getElem_mem zZ) G e hT (hkk _ (List.getElem_mem zZ)) (hkv zW zZ _ (List.getElem_mem zZ)) hre; refine sP (B6 (j := 0) rfl rfl rfl zZ) rfl rfl ?_)
 refine sL (A5 rfl rfl (hat _) hl) rfl rfl ?_
 refine H1 rfl (hih) rfl rfl ?_
 refine B0 ?_
 (exfalso; have h1 : bp = true := zW; have h2 : bp = false := zW; rw [h1] at h2; cases h2)
 refine J4 ?_
 refine H1 rfl ((hL (hleaf zW zZ zZ zZ))) rfl rfl ?_
 refine A8 ?_
 (exfalso; have h1 : bp = true := zW; have h2 : bp = false := zW; rw [h1] at h2; cases h2)
 refine I5 ?_
 refine sB (qE rfl rfl) rfl rfl (fun h170 => ?_) (fun h170 => ?_)
 refine U7 ?_
 (exact ⟨rfl, congrArg Value.string (hvf (by rintro (h | ⟨h1, h2⟩) <;> first | omega | exact Bool.noConfusion (h1.symm.trans (show bp = false by assumption)) | (simp only [Ty.k] at h2; omega)) (by first | exact .inl zZ | exact .inr zW)).symm, rfl⟩)
 refine A4 ?_
 refine K3 rfl (hP) rfl rfl (fun h191 => ?_) (fun h191 => ?_)
 refine M8 ?_
 (exfalso; have h1 : bp = true := zW; have h2 : bp = false := zW; rw [h1] at h2; cases h2)
 refine E8 ?_
 refine sB (qE rfl rfl) rfl rfl (fun h216 => ?_) (fun h216 => ?_)
 refine E4 ?_
 (have hl1 := h14 zZ; obtain ⟨bx, ox, e, rfl, hl, hat, hre, hgb⟩ := hsl.kidTm hkl (i := 0) zZ zZ; have hih := ih ks[0] (List.getElem_mem zZ) G e hT (hkk _ (List.getElem_mem zZ)) (hkv zW zZ _ (List.getElem_mem zZ)) hre; refine sP (B6 (j := 0) rfl rfl rfl zZ) rfl rfl ?_)
 refine sL (A5 rfl rfl (hat _) hl) rfl rfl ?_
 refine H1 rfl (hih) rfl rfl ?_
 refine B0 ?_
 (exact ⟨rfl, congrArg Value.string (hvc zW zZ zZ).symm, rfl⟩)
 refine J4 ?_
 refine H1 rfl ((hL (hleaf zW zZ zZ zZ))) rfl rfl ?_
 refine A8 ?_
 (exact ⟨rfl, congrArg Value.string (hvl zW zZ zZ zZ).symm, rfl⟩)
theorem B1X (e : Tm) (fuel : Int) (G : IM) (cells : List Value) (hT : A14 G) (hr : B8 G e cells) : Fn Tryz.prog 10 [.agg ⟨cells⟩, .int .i64 fuel] [] G (B6q (T6 e fuel) G) := by
 have hRl := hr.len
 have hRo := hr.one
 have hno := @A7E e fuel
 have hyv := fun u t => @A4M e u t fuel
 have hyn := fun u t => @A4N e u t fuel
 refine C0 Tryz.func10 rfl Tryz.ntmps10 Tryz.results10 rfl ?_
 intro w0
 refine A4 ?_
 refine sE (B5 rfl rfl) rfl (fun b3 => ?_)
 refine B0 ?_
 refine sL (A5 rfl rfl (B7 zS) hRl) rfl rfl ?_
 focus (refine F4 rfl (B6i e G cells hr) rfl rfl (fun v G1 hle1 hh => ?_); obtain ⟨cu, ct, rfl, hru, hrt⟩ := hh; rcases hI : Z6 e with _ | ⟨u, t⟩; rotate_left; rw [hI] at hru hrt; simp only [Option.getD_some] at hru hrt; rotate_left; rw [hI] at hru hrt; simp only [Option.getD_none] at hru hrt; simp only [Option.isSome]; rotate_left; simp only [Option.isSome]; rotate_left; all_goals (have hul := hru.len; have huo := hru.one; obtain ⟨p3, c3, e3, rfl, _⟩ := hrt.open))
 refine B4 ?_
 refine sE (A6 rfl) rfl (fun b17 => ?_)
 refine sE (A6 rfl) rfl (fun b18 => ?_)
 refine sS rfl rfl rfl hul huo rfl ?_ (hu := by exact C7 hul.symm)
 refine Y1 ?_
 refine F0 (rT rfl) (rT rfl) (rT rfl) ?_
 (exact ⟨rfl, by rw [hno (by first | exact hI | rfl | assumption)]⟩)
 refine B4 ?_
 refine sE (A6 rfl) rfl (fun b47 => ?_)
 refine sE (A6 rfl) rfl (fun b48 => ?_)
 refine sS rfl rfl rfl hul huo rfl ?_ (hu := by exact C7 hul.symm)
 refine N7 ?_
 refine sL (A5 rfl rfl (B7 zS) hul) rfl rfl ?_
 refine E0 ?_
 (have hyv := hyv u t hI; have hyn := hyn u t hI; have hev := @B6r u fuel; refine F4 rfl (B52 u fuel G1 cu hru) rfl rfl (fun v G2 hle2 hh => ?_); obtain ⟨wc, hvv, hrw⟩ := hh; have hwl := hrw.len; have hwo := hrw.one; generalize U3 u fuel = r at hvv hrw hyv hyn hev; obtain ⟨w, c, l⟩ := r; simp only at hvv hrw hyv hyn hev; subst hvv)
 refine B4 ?_
 refine sE (A6 rfl) rfl (fun b73 => ?_)
 refine sS rfl rfl rfl hwl hwo rfl ?_ (hu := by exact C7 hwl.symm)
 refine E4 ?_
 refine sB (V0 rfl rfl) rfl rfl (fun h83 => ?_) (fun h83 => ?_)
 refine M8 ?_
 refine F0 (rT rfl) (rT rfl) (rT rfl) ?_
 (exact ⟨rfl, by rw [hyn zZ]⟩)
 refine B0 ?_
 refine sL (A5 rfl rfl (B7 zS) hwl) rfl rfl ?_
 (obtain ⟨he1, he2, he3⟩ := hev zZ; refine H1 rfl (B76 w G2 wc (hT.mono (hle1.trans hle2)) (A65 he1).1 he2 hrw) rfl rfl ?_)
 refine E4 ?_
 refine F0 (rT rfl) (rT rfl) (rT rfl) ?_
 (obtain rfl : c = 0 := zZ; subst he3; exact ⟨rfl, by rw [hyv rfl]⟩)
theorem B1Y {P : Program} {Γ : M9} {env : O2} {hp : List A7} {G : IM} {ty : TypeId} {x y : Operand} {t t' : TypeId} {r : ByteArray} (hx : evo env x = some (.string r)) (hy : evo env y = some (.string r)) :
  J3 P Γ ⟨env, hp, G⟩ (.binOp .eql t x y t') ty (.bool true) := by
 have h := A2u (P := P) (Γ := Γ) (hp := hp) (G := G) (t := t) (t' := t') (ty := ty) hx hy
 simpa using h
theorem B77 {P : Program} {Γ : M9} {env : O2} {hp : List A7} {G : IM} {ty : TypeId} {x y : Operand} {t t' : TypeId} {i : L7} [hI : H9 P t i] (hd : i.desc = .bool) {r : Bool} (hx : evo env x = some (.bool r)) (hy : evo env y = some (.bool r)) :
  J3 P Γ ⟨env, hp, G⟩ (.binOp .eql t x y t') ty (.bool true) := by
 have h := B2g (P := P) (Γ := Γ) (hp := hp) (G := G) (t := t) (t' := t') (ty := ty) (i := i) hd hx hy
 simpa using h
theorem B1Z : ∀ (t : Ty) (G : IM) (cells cells' : List Value), C6 G t cells → C6 G t cells' → Fn Tryz.prog 26 [.agg ⟨cells⟩, .agg ⟨cells'⟩] [] G (K5 (.bool true) G) := by
 refine Ty.ind fun k ks ih G cells cells' hr hr' => ?_
 obtain ⟨p, c, es, rfl, hk, hsl, hkl⟩ := hr.open
 obtain ⟨p', c', es', rfl, hk', hsl', hkl'⟩ := hr'.open
 simp only [Ty.k, Ty.ks] at hk hsl hkl hk' hsl' hkl' ⊢
 refine C0 Tryz.func26 rfl Tryz.ntmps26 Tryz.results26 rfl ?_
 intro w0
 refine A4 ?_
 refine sE (B5 rfl rfl) rfl (fun b3 => ?_)
 refine sE (B5 rfl rfl) rfl (fun b4 => ?_)
 refine E8 ?_
 refine sP (N6 rfl rfl zZ) rfl rfl ?_
 refine A8 ?_
 refine H1 rfl (A6H _ _ _ _ _ _ _ _ _ hsl hsl' _ [] [] [] (fun _ => true) true zA0 (fun i e e' he he' => ih (ks.getD i B3) (hkl.inv he B3).1 _ _ _ (hkl.inv he B3).2 (hkl'.inv he' B3).2)) rfl rfl ?_
 refine A9 ?_
 exact ⟨rfl, rfl, rfl⟩
theorem B78 (G : IM) (p p' : Option Addr) (n c c' : Nat) (es es' : List (List Value)) (hsl : D6 G p n c 9 es) (hsl' : D6 G p' n c' 9 es') (fid : FuncId) [C5 Tryz.prog fid]
  (hq : ∀ (i : Nat) (e e' : List Value), es[i]? = some e → es'[i]? = some e' → Fn Tryz.prog fid [.agg ⟨e⟩, .agg ⟨e'⟩] [] G (X0 (.bool true) [] G)) :
  Fn Tryz.prog 27 [.slice p n c, .slice p' n c', .func (.func fid) ⟨[]⟩ ⟨[]⟩] [] G (K5 (.bool true) G) := by
 have hn := hsl.le
 refine C0 Tryz.func27 rfl Tryz.ntmps27 Tryz.results27 rfl ?_
 intro w0
 refine O3 ?_
 refine sP (A2J rfl rfl zZ) rfl rfl ?_
 refine O5 ?_
 refine C2 (L4 (fun i : Nat => ⟨[(17, .int .i64 i), (16, .int .i64 n), (15, .slice p n c), (2, .func (.func fid) ⟨[]⟩ ⟨[]⟩), (1, .slice p' n c'), (0, .slice p n c)], [], G⟩) (fun i => i ≤ n) (fun i => n - i) 0 ?_ ?_ ?_)
 exact F9
 exact Nat.zero_le _
 rintro i hi
 refine A4 ?_
 refine sB (N0 rfl rfl) rfl rfl (fun h34 => ?_) (fun h34 => ?_)
 refine B0 ?_
 refine C2 ?_
 refine C1 ?_
 (obtain ⟨e, b, o, he, rfl, hl, _, hat, _⟩ := hsl.get (i := i) zZ; refine sP (B6 rfl rfl rfl zZ) rfl rfl ?_)
 refine sL (A5 rfl rfl (hat _) hl) rfl rfl ?_
 refine sE (A6 rfl) rfl (fun b48 => ?_)
 refine E0 ?_
 refine Q3 rfl rfl rfl zW zW rfl zR (by exact C7 (by symm; assumption)) ?_
 refine A9 ?_
 (obtain ⟨e', b', o', he', rfl, hl', _, hat', _⟩ := hsl'.get (i := i) zZ; refine sP (B6 rfl rfl rfl zZ) rfl rfl ?_)
 refine sL (A5 rfl rfl (hat' _) hl') rfl rfl ?_
 refine sE (A6 rfl) rfl (fun b59 => ?_)
 refine Q3 rfl rfl rfl zW zW rfl zR (by exact C7 (by symm; assumption)) ?_
 refine A8 ?_
 refine sL (A5 rfl rfl (B7 zS) zW) rfl rfl ?_
 refine sL (A5 rfl rfl (B7 zS) zW) rfl rfl ?_
 refine A46 rfl rfl (hq i e e' he he') A8k rfl rfl (fun h68 => ?_) (fun h68 => ?_)
 simp only [Bool.not_eq_true', Bool.not_eq_false'] at h68
 refine E4 ?_
 refine sP (J9 rfl rfl zZ zZ) rfl rfl ?_
 refine A4 ?_
 refine J6 (i + 1) ?_ ?_ ?_
 exact F9
 omega
 omega
 refine N7 ?_
 (exact absurd zW zY)
 refine N7 ?_
 exact ⟨rfl, rfl, rfl⟩
theorem B79 : ∀ (t : Tm) (G : IM) (cells cells' : List Value), B8 G t cells → B8 G t cells' → Fn Tryz.prog 8 [.agg ⟨cells⟩, .agg ⟨cells'⟩] [] G (K5 (.bool true) G) := by
 refine Tm.ind fun k nm num ty fr lb ks ih G cells cells' hr hr' => ?_
 obtain ⟨tk, tks⟩ := ty
 obtain ⟨fk, fks⟩ := fr
 obtain ⟨pt, ct, pf, cf, p, c, es, rfl, hk, hnum, hlb, hty, hfr, hsl, hkl⟩ := hr.open9
 obtain ⟨pt', ct', pf', cf', p', c', es', rfl, _, _, _, hty', hfr', hsl', hkl'⟩ := hr'.open9
 have h1 := B1Z (.mk tk tks) G _ _ hty hty'
 have h2 := B1Z (.mk fk fks) G _ _ hfr hfr'
 refine C0 Tryz.func8 rfl Tryz.ntmps8 Tryz.results8 rfl ?_
 intro w0
 refine A4 ?_
 refine sE (B5 rfl rfl) rfl (fun b3 => ?_)
 refine sE (B5 rfl rfl) rfl (fun b4 => ?_)
 refine E8 ?_
 refine sP (N6 rfl rfl zZ) rfl rfl ?_
 refine A8 ?_
 refine sQ (B1Y rfl rfl) rfl ?_
 refine A9 ?_
 refine sP (N6 rfl rfl zZ) rfl rfl ?_
 refine A9 ?_
 refine H1 rfl (h1) rfl rfl ?_
 refine A9 ?_
 refine H1 rfl (h2) rfl rfl ?_
 refine A9 ?_
 refine sP (N6 rfl rfl zZ) rfl rfl ?_
 refine A9 ?_
 refine H1 rfl (B78 _ _ _ _ _ _ _ _ hsl hsl' _ (fun i e e' he he' => ih (ks.getD i K4) (hkl.inv he K4).1 _ _ _ (hkl.inv he K4).2 (hkl'.inv he' K4).2)) rfl rfl ?_
 refine A9 ?_
 exact ⟨rfl, rfl, rfl⟩
theorem B8a {a x : Tm} {r : Option (Tm × Ty)} (hR : A1g a r) (hx : (r.map Prod.fst).getD K4 = x) (hb : r.isSome = true) : ∃ t, A1g a (some (x, t)) := by
 cases r with
 | none => cases hb
 | some q =>
  obtain ⟨y, t⟩ := q
  replace hx : y = x := hx
  subst hx
  exact ⟨t, hR⟩
theorem B8b {a x : Tm} {r : Option (Tm × Ty)} (hR : A1g a r) (hx : (r.map Prod.fst).getD K4 = x) (hb : r.isSome = true) :
  N8 x = true ∧ ((T6 x 100).2.1 = 0 → (T6 (A07 x) 300).2.1 = 4 ∨ (T6 (A07 x) 300).2.1 = 5 ∨ ((T6 (A07 x) 300).2.1 = 0 ∧ (T6 x 100).1 = (T6 (A07 x) 300).1)) := by
 obtain ⟨t, h⟩ := B8a hR hx hb
 have h2 := (B7m h).2.1
 exact ⟨A5Y h2, B7o h2⟩
theorem B8c (bs : List UInt8) (G : IM) (p : Option Addr) (n c : Nat) (hT : A14 G) (hb : Sl G p n c 1 (R2 bs)) : Fn Tryz.prog 3 [.slice p n c] [] G (M5 fun _ v => v = .bool true) := by
 have hn := hb.le
 refine C0 Tryz.func3 rfl Tryz.ntmps3 Tryz.results3 rfl ?_
 intro w0
 refine J4 ?_
 refine sB (A0w rfl rfl) rfl rfl (fun h11 => ?_) (fun h11 => ?_)
 refine M3 ?_
 (exact ⟨rfl, rfl⟩)
 refine E4 ?_
 (refine F4 rfl (B7X G _ _ _ bs hb) rfl rfl (fun v G1 hle1 hh => ?_); obtain ⟨a, ca, rfl, hra, hfa⟩ := hh; replace hT := hT.mono hle1; have hca := hfa.2; have hla := hra.len; have hoa := hra.one; obtain ⟨r, hR⟩ := B7l a; obtain ⟨x, hx⟩ : ∃ x, (r.map Prod.fst).getD K4 = x := ⟨_, rfl⟩; obtain ⟨bx, hbx⟩ : ∃ b, r.isSome = b := ⟨_, rfl⟩; have hk := fun h => B8b hR hx (hbx.trans h))
 refine sE (A6 rfl) rfl (fun b33 => ?_)
 refine sS rfl rfl rfl hla hoa rfl ?_ (hu := by exact C7 hla.symm)
 refine B4 ?_
 refine sL (A5 rfl rfl (B7 zS) hla) rfl rfl ?_
 (refine F4 rfl (B7N a r G1 ca hR hra) rfl rfl (fun v2 G2 hle2 hh => ?_); obtain ⟨cx, ctx, ux, hve, hrx, hru⟩ := hh; obtain ⟨qt, dt, et2, rfl, _⟩ := hru.open; rw [hbx] at hve; subst hve; rw [hx] at hrx; have hlx := hrx.len; have hox := hrx.one; replace hT := hT.mono hle2; replace hra := hra.mono hle2)
 refine B4 ?_
 refine sE (A6 rfl) rfl (fun b45 => ?_)
 refine sE (A6 rfl) rfl (fun b46 => ?_)
 refine sS rfl rfl rfl hlx hox rfl ?_ (hu := by exact C7 hlx.symm)
 refine A9 ?_
 refine sL (A5 rfl rfl (B7 zS) hla) rfl rfl ?_
 (refine F4 rfl (B7S a r G2 ca hR zZ hra) rfl rfl (fun v3 G3 hle3 hh => ?_); obtain ⟨cy, cty, uy, hve, hry, hruy⟩ := hh; obtain ⟨qty, dty, ety2, rfl, _⟩ := hruy.open; rw [hbx] at hve; subst hve; rw [hx] at hry; have hly := hry.len; have hoy := hry.one; replace hT := hT.mono hle3; replace hrx := hrx.mono hle3; have hSm := B79 x G3 cx cy hrx hry; obtain ⟨⟨s1, c1, l1⟩, hr1⟩ : ∃ r, T6 x 100 = r := ⟨_, rfl⟩; obtain ⟨⟨s2, c2, l2⟩, hr2⟩ : ∃ r, T6 (A07 x) 300 = r := ⟨_, rfl⟩; rw [hr1, hr2] at hk; simp only [] at hk; cases bx)
 refine B4 ?_
 refine sE (A6 rfl) rfl (fun b60 => ?_)
 refine sE (A6 rfl) rfl (fun b61 => ?_)
 refine sS rfl rfl rfl hly hoy rfl ?_ (hu := by exact C7 hly.symm)
 refine E8 ?_
 refine sQ (A3j rfl rfl rfl) rfl ?_
 refine E0 ?_
 refine sL (A5 rfl rfl (B7 zS) hlx) rfl rfl ?_
 refine sL (A5 rfl rfl (B7 zS) hly) rfl rfl ?_
 refine H1 rfl (hSm) rfl rfl ?_
 refine O5 ?_
 refine sQ (B77 rfl rfl rfl) rfl ?_
 refine E0 ?_
 refine sL (A5 rfl rfl (B7 zS) hlx) rfl rfl ?_
 refine sL (A5 rfl rfl (B7 zS) hly) rfl rfl ?_
 refine H1 rfl (hSm) rfl rfl ?_
 refine B0 ?_
 (exact ⟨rfl, rfl⟩)
 refine B4 ?_
 refine sE (A6 rfl) rfl (fun b107 => ?_)
 refine sE (A6 rfl) rfl (fun b108 => ?_)
 refine sS rfl rfl rfl hly hoy rfl ?_ (hu := by exact C7 hly.symm)
 refine E8 ?_
 refine sQ (A3j rfl rfl rfl) rfl ?_
 refine E0 ?_
 refine sL (A5 rfl rfl (B7 zS) hlx) rfl rfl ?_
 refine sL (A5 rfl rfl (B7 zS) hly) rfl rfl ?_
 refine H1 rfl (hSm) rfl rfl ?_
 refine O5 ?_
 refine sL (A5 rfl rfl (B7 zS) hlx) rfl rfl ?_
 (obtain ⟨hxv, hk⟩ := hk rfl; refine F4 rfl (B7k x G3 cx hxv hrx) rfl rfl (fun v6 G6 hle6 hh => ?_); obtain ⟨cz, rfl, hrz⟩ := hh; have hlz := hrz.len; have hoz := hrz.one; replace hT := hT.mono hle6; replace hrx := hrx.mono hle6; have hE1 := B1X x 100 G6 cx hT hrx; rw [hr1] at hE1)
 refine C1 ?_
 refine sE (A6 rfl) rfl (fun b142 => ?_)
 refine sS rfl rfl rfl hlz hoz rfl ?_ (hu := by exact C7 hlz.symm)
 refine A8 ?_
 refine sL (A5 rfl rfl (B7 zS) hlx) rfl rfl ?_
 (refine F4 rfl hE1 rfl rfl (fun v4 G4 hle4 hh => ?_); replace hh : v4 = .tuple ⟨[.string s1, .int .i64 c1, .int .i64 l1]⟩ := hh; subst hh; replace hT := hT.mono hle4; have hE2 := B1X (A07 x) 300 G4 cz hT (hrz.mono hle4); rw [hr2] at hE2; clear hE1)
 refine M3 ?_
 refine sL (A5 rfl rfl (B7 zS) hlz) rfl rfl ?_
 (refine F4 rfl hE2 rfl rfl (fun v5 G5 hle5 hh => ?_); replace hh : v5 = .tuple ⟨[.string s2, .int .i64 c2, .int .i64 l2]⟩ := hh; subst hh)
 refine M8 ?_
 refine sB (V0 rfl rfl) rfl rfl (fun h178 => ?_) (fun h178 => ?_)
 refine A1K ?_
 (exact ⟨rfl, rfl⟩)
 refine A4 ?_
 refine sB (qE rfl rfl) rfl rfl (fun h205 => ?_) (fun h205 => ?_)
 refine W5 ?_
 (exact ⟨rfl, rfl⟩)
 refine C1 ?_
 refine sB (qE rfl rfl) rfl rfl (fun h230 => ?_) (fun h230 => ?_)
 refine N7 ?_
 (exact ⟨rfl, rfl⟩)
 refine C1 ?_
 refine sP (N6 rfl rfl zZ) rfl rfl ?_
 refine C1 ?_
 (have hs : s1 = s2 := (by rcases hk zZ with h | h | h; omega; omega; exact h.2); subst hs; refine sQ (B1Y rfl rfl) rfl ?_)
 refine E4 ?_
 (exact ⟨rfl, rfl⟩)
end Gw
end Go.Proofs.YtbdacdnffkhgeaaGreatDoor
