/-
  The program's insertion of casts.
-/
import Derived.Test.YtmceanphadildaaGreatDoorKc5
import Derived.Test.YtmceanphadildaaGreatDoorKc4
import Derived.Test.YtmceanphadildaaGreatDoorKc2
import Derived.Test.YtmceanphadildaaGreatDoorKc3
import Derived.Lib.ItoaNum
import Derived.Test.YtmceanphadildaaGreatDoorKc1
set_option linter.unusedVariables false
set_option linter.unusedSimpArgs false
set_option linter.ambiguousOpen false
set_option maxHeartbeats 0
set_option maxRecDepth 100000
set_option synthInstance.maxSize 4000
set_option synthInstance.maxHeartbeats 0
namespace Go.Proofs.YtmceanphadildaaGreatDoor
open Go Go.RowKit Tryz Go.Proofs.Tryz
namespace Gw
theorem y33 {p : Prop} (h : p := by
  refine A2 7 ?_
  (refine R4 rfl rfl rfl rfl rfl rfl (fun _ _ => by repeat (first | exact Sw.here | apply Sw.there)) (O4 zG0) rfl zI0 zJ0 zO0 rfl rfl zK (fun p5 c5 => ?_))
  refine xx1 8 ?_
  refine A5 ?_
  (refine H1 (cs := es.flatten ++ [.string nm, .int .i64 k, .slice q ks.length d]) zB0 (fun G5 hle5 hsl5 hno5 => ?_))
  refine A5 ?_
  (exact ⟨rfl, _, _, rfl, S9.snoc (nm := nm) (t := .mk k ks) hx1 h2.len h2.all h2.one h3 hle5 ⟨_, _, rfl, hr.mono hle5⟩ hsl5⟩)
) : p := h
theorem y34 {p : Prop} (h : p := by
  refine xx1 7 ?_
  refine A2 10 ?_
  refine E9 rfl ?_
  refine xx1 11 ?_
  refine A5 ?_
  (refine H1 (cs := [v1, v2, v3, v4, v5, v6, v7, v8, v9]) zB0 (fun G5 hle5 hsl5 hno5 => ?_); obtain ⟨hone1, hone2⟩ := A5Z (hre.mono hle5) hsl5)
  refine tT ?_
  refine zf5 ?_
  (exact A2x.no zL0 (B7.of9 (ks := [e]) ⟨by omega, by omega⟩ ⟨by omega, by omega⟩ ⟨by omega, by omega⟩ (hr2.mono hle5) (hr1.mono hle5) hone1 hone2))
) : p := h
theorem y35 {p : Prop} (h : p := by
  refine A2 15 ?_
  refine E9 rfl ?_
  refine xx1 16 ?_
  refine W8 ?_
  (refine H6 rfl (A3r 4 (.mk tk tks) _ _ _ _ (.inl rfl) hta hma htyN hmr) rfl rfl (fun v G3 hle3 hh => ?_); obtain ⟨mc2, rfl, hmr2⟩ := hh; obtain ⟨p2, c2, e2, rfl, _⟩ := hmr2.open)
  refine E1 ?_
  refine zf5 ?_
  (rw [f5 _ zO0 zO0 (by first | exact hE | assumption)]; exact Q1.mk rfl hmr2 (A5X (.inl rfl) hta hma))
) : p := h
theorem y36 {p : Prop} (h : p := by
  refine A2 15 ?_
  refine E9 rfl ?_
  refine xx1 16 ?_
  refine A1i ?_
  refine zf5 ?_
  (rw [f4 zO0 zO0 (by first | exact hE | assumption)]; exact Q1.no rfl (N2 _ ⟨by omega, by omega⟩) (S8 zO0 zO0))
) : p := h
theorem y37 {p : Prop} (h : p := by
  refine A2 3 ?_
  (refine E6 rfl rfl hC2 rfl rfl rfl (fun v G2 hle2 hh => ?_); obtain ⟨cs2, F2, rfl, hs2, hn2⟩ := hh; obtain ⟨p2, c2, rfl, _⟩ := hs2.open; have hr1 := hs1.R.mono ((E8.le G1 _).trans hle2); have hr2 := hs2.R.mono (E8.le G2 G1); have hre := hr.mono (hle1.trans hle2))
  exact y34
) : p := h
theorem y38 {p : Prop} (h : p := by
  refine F0 rfl ((A3W _)) rfl rfl ?_
  refine B8 ?_
  refine zf5 ?_
  (rw [f3 zO0]; exact Q1.yes rfl (A0A _) (S8 zO0 zO0))
) : p := h
def ElP (bx : Nat) (cx : Cx) (e : Tm) (l : Int) : IM → Value → List A9 → Prop := fun G' v outs => ∃ u cu t ct l', v = .tuple ⟨[.agg ⟨cu⟩, .agg ⟨ct⟩, .bool (P5 cx e l).isSome]⟩ ∧ outs = [.blk bx [.int .i64 l']] ∧ B7 G' u cu ∧ C6 G' t ct ∧ l ≤ l' ∧ l' + 1 ≤ l + (H9 e : Int) ∧ ∀ r, P5 cx e l = some r → r = (u, t, l')
variable {cu ct : List Value} {t : Ty} {u e : Tm} {l : Int} {cx : Cx} {G : IM}
theorem ElP.no {bx : Nat} {l' : Int} (h : P5 cx e l = none) (hu : B7 G u cu) (ht : C6 G t ct) (h1 : l ≤ l') (h2 : l' + 1 ≤ l + (H9 e : Int)) : ElP bx cx e l G (.tuple ⟨[.agg ⟨cu⟩, .agg ⟨ct⟩, .bool false]⟩) [.blk bx [.int .i64 l']] :=
 ⟨u, cu, t, ct, l', by rw [h]; rfl, rfl, hu, ht, h1, h2, fun r hr => by rw [h] at hr; cases hr⟩
theorem ElP.yes {bx : Nat} {l' : Int} (h : P5 cx e l = some (u, t, l')) (hu : B7 G u cu) (ht : C6 G t ct) (h1 : l ≤ l') (h2 : l' + 1 ≤ l + (H9 e : Int)) : ElP bx cx e l G (.tuple ⟨[.agg ⟨cu⟩, .agg ⟨ct⟩, .bool true]⟩) [.blk bx [.int .i64 l']] :=
 ⟨u, cu, t, ct, l', by rw [h]; rfl, rfl, hu, ht, h1, h2, fun r hr => by rw [h] at hr; cases hr; rfl⟩
section
variable {cx : Cx} {k : Int} {nm : ByteArray} {num : Int} {ty fr : Ty} {lb : Int} {ks us : List Tm} {h : List Ty} {l l' : Int}
theorem B7N (hL : O2 (L5 cx k nm ty) ks l = none) : P5 cx (.mk k nm num ty fr lb ks) l = none := by rw [P5, hL]
theorem A8b (hL : O2 (L5 cx k nm ty) ks l = some (us, h, l')) (hn : U6 cx k nm ty h = none) : P5 cx (.mk k nm num ty fr lb ks) l = none := by rw [P5, hL]; simp only [A2t, hn]
variable {w : List Ty}
theorem B7O (hL : O2 (L5 cx k nm ty) ks l = some (us, h, l')) (hn : U6 cx k nm ty h = some (w, t)) (hk : k = 13) : P5 cx (.mk k nm num ty fr lb ks) l = some ((J4 us h w l').1.getD 0 L7, t, (J4 us h w l').2) := by
 rw [P5, hL]; simp only [A2t, hn, if_pos hk]
theorem B16 (hL : O2 (L5 cx k nm ty) ks l = some (us, h, l')) (hn : U6 cx k nm ty h = some (w, t)) (hk : k ≠ 13) : P5 cx (.mk k nm num ty fr lb ks) l = some (.mk k nm num ty fr lb (J4 us h w l').1, t, (J4 us h w l').2) := by
 rw [P5, hL]; simp only [A2t, hn, if_neg hk]
end
theorem A3t (h : H7 t = true) : H8 t := (A4O h).1
theorem B17 {us : List Tm} (h : 0 < us.length) : us.getD 0 L7 = us[0] := by rw [List.getD_eq_getElem?_getD, List.getElem?_eq_getElem h, Option.getD_some]
theorem B7P (bx : Nat) : ∀ (e : Tm) (d : Int) (cx : Cx) (l0 : Int) (G : IM) (pc : Option Addr) (nc cc : Nat) (cells : List Value), O9 12 14 e d = true → (nc : Int) ≤ d → cxV cx → S9 G cx pc nc cc → B7 G e cells → 0 ≤ l0 → l0 + (H9 e : Int) ≤ 1000000000 →
  Fn prog 88 [.pointer (some ⟨bx, 0, none⟩), .slice pc nc cc, .agg ⟨cells⟩] [.blk bx [.int .i64 l0]] G (ElP bx cx e l0) := by
 refine Tm.ind fun k nm num ty fr lb ks ih d cx l0 G pc nc cc cells hv hnd hcv hx hr hl0 hlc => ?_
 have hr0 := hr
 have hone := hr.one
 obtain ⟨hv1, hv2, hv3, hv4⟩ := A07 hv
 have hvk := (A1Q 12 14 ks _).1 hv4
 have har := (W0.1 hv3).1
 have hop := A3Y har
 obtain ⟨hta, hts⟩ := A3Z hv3
 have hkr : 1 ≤ k ∧ k ≤ 14 := A42 (by rw [har]; omega)
 have hcvX : cxV (L5 cx k nm ty) := A40 hcv fun hk => (W0.1 hv3).2.2.2.2.2.1 (.inl hk)
 have hck : H9 (.mk k nm num ty fr lb ks) = I3 ks + 1 := A2r ..
 rw [hck] at hlc
 obtain ⟨tk, tks⟩ := ty
 obtain ⟨fk, fks⟩ := fr
 obtain ⟨pt, ct, pf, cf, q, cq, es, rfl, hk, hnum, hlb, hty, hfr, hsl, hkl⟩ := hr.open9
 have hlen : ks.length ≤ 3 := by have := A1G k; omega
 obtain ⟨hx1, esx, hx2, hx3⟩ := id hx
 have hcl := B6R G pc nc cc esx hx2 zO0
 have hcnt0 := A7b ks
 refine C4 func88 rfl ntmps88 results88 rfl ?_
 intro w0
 refine A5 ?_
 refine zf2 (fun b3 => ?_)
 refine zf1 (fun b4 => ?_)
 refine zf1 (fun b5 => ?_)
 refine I9 ?_
 (show J9 _ _ (.seq (.region 2 _ _) (.cond (.tmp 25) _ _)) _ _; refine P4 (fun (x : Option Addr × Nat × Nat × IM) => ⟨[(9, .slice x.1 x.2.1 x.2.2.1), (1, .slice pc nc cc), (0, .pointer (some ⟨bx, 0, none⟩)), (5, .pointer (some ⟨b3, 0, none⟩)), (6, .pointer (some ⟨b4, 0, none⟩)), (7, .pointer (some ⟨b5, 0, none⟩))], [.blk b5 [.int .i64 0, .slice none 0 0], .blk b4 zq9, .blk b3 [.int .i64 k, .string nm, .int .i64 num, .int .i64 tk, .slice pt tks.length ct, .int .i64 fk, .slice pf fks.length cf, .int .i64 lb, .slice q ks.length cq], .blk bx [.int .i64 l0]], x.2.2.2⟩) (fun x => C3 G x.2.2.2 ∧ S9 x.2.2.2 (L5 cx k nm (.mk tk tks)) x.1 x.2.1 x.2.2.1 ∧ x.2.1 ≤ nc + 1) ?_ ?_)
 ·refine B6 ?_
  refine zf0 (fun h21 => ?_) (fun h21 => ?_)
  ·refine B5 ?_
   refine zf6 ?_
   refine xx6 0 2 3 4 5 6 ?_
   refine N5 (j := 1) (j' := 7) zM0 ?_ ?_
   ·(refine A9g rfl rfl hcl rfl rfl rfl (fun v33 G33 outs33 hle33 h33 => ?_); obtain ⟨hG, p1, c1, rfl, rfl⟩ := h33; replace hG := hG.symm; subst hG)
    replace hr := hr.mono hle33
    replace hr0 := hr0.mono hle33
    replace hty := hty.mono hle33
    replace hfr := hfr.mono hle33
    replace hsl := hsl.mono hle33
    replace hkl := hkl.mono hle33
    replace hx2 := hx2.mono hle33
    refine A2 7 ?_
    refine zf3 (fun b35 => ?_)
    refine A2 8 ?_
    (refine R4 rfl rfl rfl rfl rfl rfl (fun _ _ => by repeat (first | exact Sw.here | apply Sw.there)) (O4 zG0) rfl zI0 zJ0 zO0 rfl rfl zK (fun p5 c5 => ?_); refine A5s (cs := esx.flatten ++ [.string nm, .int .i64 tk, .slice pt tks.length ct]) zB0 (fun Gf hleF hslF hnoF => ?_); have hxF := S9.snoc (nm := nm) (t := .mk tk tks) hx1 hx2.len hx2.all hx2.one hx3 hleF ⟨_, _, rfl, hty.mono hleF⟩ hslF)
    refine xx1 9 ?_
    refine V0 ?_
    refine E2 (p5, nc + 1, c5, Gf) (D6 zA0 zQ) ⟨hleF, by (dsimp only; rw [L5, if_pos zO0]; exact hxF), by (dsimp only; omega)⟩
   ·refine zf3 (fun b41 => ?_)
    refine A2 1 ?_
    (refine A9g rfl rfl hcl rfl rfl rfl (fun v43 G43 outs43 hle43 h43 => ?_); obtain ⟨hG, p1, c1, rfl, rfl⟩ := h43; replace hG := hG.symm; subst hG)
    replace hr := hr.mono hle43
    replace hr0 := hr0.mono hle43
    replace hty := hty.mono hle43
    replace hfr := hfr.mono hle43
    replace hsl := hsl.mono hle43
    replace hkl := hkl.mono hle43
    replace hx2 := hx2.mono hle43
    refine A2 8 ?_
    (refine R4 rfl rfl rfl rfl rfl rfl (fun _ _ => by repeat (first | exact Sw.here | apply Sw.there)) (O4 zG0) rfl zI0 zJ0 zO0 rfl rfl zK (fun p5 c5 => ?_); refine A5s (cs := esx.flatten ++ [.string nm, .int .i64 tk, .slice pt tks.length ct]) zB0 (fun Gf hleF hslF hnoF => ?_); have hxF := S9.snoc (nm := nm) (t := .mk tk tks) hx1 hx2.len hx2.all hx2.one hx3 hleF ⟨_, _, rfl, hty.mono hleF⟩ hslF)
    refine xx1 9 ?_
    refine V0 ?_
    refine E2 (p5, nc + 1, c5, Gf) (D6 zA0 zQ) ⟨hleF, by (dsimp only; rw [L5, if_pos zO0]; exact hxF), by (dsimp only; omega)⟩
  ·refine B6 ?_
   refine E2 (pc, nc, cc, G) (D6 zA0 zQ) ⟨C3.refl _, by (dsimp only; rw [L5, if_neg zO0]; exact hx), by (dsimp only; omega)⟩
 ·(rintro ⟨p6, n6, c6, Gx⟩ ⟨hleX, hxX, hn6⟩; simp only [] at hleX hxX hn6 ⊢; replace hsl := hsl.mono hleX; replace hkl := hkl.mono hleX; replace hx := hx.mono hleX; replace hr0 := hr0.mono hleX; replace hty := hty.mono hleX; replace hfr := hfr.mono hleX)
  refine B5 ?_
  refine zf1 (fun b58 => ?_)
  refine A2I ?_
  refine C2 ?_
  (refine V1 28 9 ?_; refine V1 25 2 ?_; refine K2 (fun (x : Nat × (Option Addr × Nat × List Tm × List (List Value)) × (Option Addr × Nat × List Ty × List (List Value)) × Int × IM) => ⟨[(40, .int .i64 x.1), (39, .int .i64 ks.length), (38, .slice q ks.length cq), (11, .slice x.2.2.1.1 x.1 x.2.2.1.2.1), (9, .slice p6 n6 c6), (1, .slice pc nc cc), (0, .pointer (some ⟨bx, 0, none⟩)), (5, .pointer (some ⟨b3, 0, none⟩)), (6, .pointer (some ⟨b4, 0, none⟩)), (7, .pointer (some ⟨b5, 0, none⟩)), (10, .pointer (some ⟨b58, 0, none⟩))], [.blk b58 [.int .i64 k, .string nm, .int .i64 num, .int .i64 tk, .slice pt tks.length ct, .int .i64 fk, .slice pf fks.length cf, .int .i64 lb, .slice x.2.1.1 x.1 x.2.1.2.1], .slc x.2.1.1 x.2.1.2.1 28 9 x.1 x.2.1.2.2.2.flatten, .slc x.2.2.1.1 x.2.2.1.2.1 25 2 x.1 x.2.2.1.2.2.2.flatten, .blk b5 [.int .i64 0, .slice none 0 0], .blk b4 zq9, .blk b3 [.int .i64 k, .string nm, .int .i64 num, .int .i64 tk, .slice pt tks.length ct, .int .i64 fk, .slice pf fks.length cf, .int .i64 lb, .slice q ks.length cq], .blk bx [.int .i64 x.2.2.2.1]], x.2.2.2.2⟩) (fun x => x.1 ≤ ks.length ∧ C3 Gx x.2.2.2.2 ∧ x.2.1.2.2.1.length = x.1 ∧ H4 x.2.2.2.2 x.2.1.2.2.1 x.2.1.2.2.2 ∧ x.2.2.1.2.2.1.length = x.1 ∧ E7 x.2.2.2.2 x.2.2.1.2.2.1 x.2.2.1.2.2.2 ∧ (∀ t ∈ x.2.2.1.2.2.1, H8 t) ∧ O2 (L5 cx k nm (.mk tk tks)) (ks.take x.1) l0 = some (x.2.1.2.2.1, x.2.2.1.2.2.1, x.2.2.2.1) ∧ l0 ≤ x.2.2.2.1 ∧ x.2.2.2.1 + x.1 ≤ l0 + (I3 (ks.take x.1) : Int)) (fun x => ks.length - x.1) (0, (none, 0, [], []), (none, 0, [], []), l0, Gx) ?_ ?_ ?_)
  ·(simp only [List.take_zero, A1b]; exact (D6 zA0 zQ))
  ·(exact ⟨by simp, C3.refl _, rfl, by simp [H4], rfl, by simp [E7], by simp, by simp [O2], Int.le_refl _, by simp [I3]⟩)
  ·(rintro ⟨i, ⟨pn, cn, us, es'⟩, ⟨pm, cm, ts, ess⟩, l, Gi⟩ ⟨hi, hle, hlu, hst, hlt, hstt, hat, hml, hl1, hl2⟩; simp only [] at hi hle hlu hst hlt hstt hat hml hl1 hl2 ⊢; replace hty := hty.mono hle; replace hfr := hfr.mono hle; replace hsl := hsl.mono hle; replace hkl := hkl.mono hle; replace hr0 := hr0.mono hle; replace hx := hx.mono hle; replace hxX := hxX.mono hle)
   refine A5 ?_
   refine zf8 (fun h89 => ?_) (fun h89 => ?_)
   ·refine B8 ?_
    refine C2 ?_
    refine A5 ?_
    (obtain ⟨b, o, e, rfl, hl, hate, hre, hgb⟩ := hsl.kidTm hkl (i := i) zO0 zO0; have hon := hre.one; have hsc := A3L (ks := ks) (i := i) zO0; have hsk := A3K (ks := ks) (i := i) zO0; refine sP (B2 rfl rfl rfl zO0) rfl rfl ?_)
    refine sL (A3 rfl rfl (hate _) hl) rfl rfl ?_
    refine zf1 (fun b102 => ?_)
    refine sS rfl rfl rfl hl hon rfl ?_ (hu := by exact E0 hl.symm)
    refine A7 ?_
    refine sL (A3 rfl rfl (B9 zG0) hl) rfl rfl ?_
    (refine K4 rfl (ih ks[i] (List.getElem_mem zO0) (d + 1) _ l Gi p6 n6 c6 _ (hvk i zO0) zO0 hcvX hxX hre zO0 zO0) (Pk.perm zB0) rfl rfl (fun v G3 outs hle3 hh => ?_); obtain ⟨u, uc, t, tc, l3, rfl, rfl, hru, hrt, hl3, hl4, hu⟩ := hh; obtain ⟨v1, v2, v3, v4, v5, v6, v7, v8, v9, rfl⟩ := nine hru.len; obtain ⟨p3, c3, e3, rfl, _⟩ := hrt.open; have hlu9 := hru.len; have hou9 := hru.one; rcases hE : P5 (L5 cx k nm (Ty.mk tk tks)) ks[i] l with _ | ⟨u2, t2, l2⟩; rotate_left; have hue := hu _ hE; simp only [Prod.mk.injEq] at hue; obtain ⟨rfl, rfl, rfl⟩ := hue; rotate_left)
    ·refine B6 ?_
     refine zf1 (fun b116 => ?_)
     refine zf1 (fun b117 => ?_)
     refine sS rfl rfl rfl hlu9 hou9 rfl ?_ (hu := by exact E0 hlu9.symm)
     refine B4H ?_
     refine A3s (outs := [.blk bx [.int .i64 _]]) (rC rfl (A4 rfl rfl)) (rC rfl (A4 rfl rfl)) (rT rfl) (A1.cons zB0 A1.nil) ?_
     (exact ElP.no (B7N (A77 zO0 hml hE)) (Q3 _) (N2 _ ⟨by omega, by omega⟩) zO0 (by rw [hck]; omega))
    ·refine B6 ?_
     refine zf1 (fun b153 => ?_)
     refine zf1 (fun b154 => ?_)
     refine sS rfl rfl rfl hlu9 hou9 rfl ?_ (hu := by exact E0 hlu9.symm)
     refine K5 ?_
     refine zf6 ?_
     refine xx5 0 1 2 5 6 ?_
     refine N5 (j := 3) (j' := 7) zM0 ?_ ?_
     ·refine zf3 (fun b177 => ?_)
      refine N5 (j := 4) (j' := 7) zM0 ?_ ?_
      ·(refine R4 rfl rfl rfl rfl rfl rfl (fun _ _ => by repeat (first | exact Sw.here | apply Sw.there)) (O4 zG0) rfl (fun u hu => List.all_eq_true.1 hou9 u hu) zJ0 zO0 rfl rfl zC (fun pn' cn' => ?_))
       refine xx1 9 ?_
       refine A2 7 ?_
       refine zf3 (fun b182 => ?_)
       refine A2 8 ?_
       (refine R4 rfl rfl rfl rfl rfl rfl (fun _ _ => by repeat (first | exact Sw.here | apply Sw.there)) (O4 zG0) rfl zI0 zJ0 zO0 rfl rfl zC (fun pm' cm' => ?_))
       refine A2 10 ?_
       refine oS rfl rfl rfl rfl rfl rfl rfl rfl ?_
       refine xx1 11 ?_
       refine B6 ?_
       refine zf4 ?_
       refine A5 ?_
       refine J7 (i + 1, (pn', cn', us ++ [u2], es' ++ [[v1, v2, v3, v4, v5, v6, v7, v8, v9]]), (pm', cm', ts ++ [t2], ess ++ [[.int .i64 t2.k, .slice p3 t2.ks.length c3]]), l2, G3) ?_ ?_ ?_
       ·(simp only [J5]; exact E3)
       ·(dsimp only; exact ⟨by omega, hle.trans hle3, by simp [hlu], H4.snoc (hst.mono hle3) hru, by simp [hlt], E7.snoc (hstt.mono hle3) hrt, A3X hat (A3t ((A36 ks[i] (d + 1) _ l (hvk i zO0) hcvX).1 _ _ _ hE).2), A43 zO0 hml hE, by omega, by omega⟩)
       ·(show ks.length - (i + 1) < ks.length - i; omega)
      ·refine zf3 (fun b199 => ?_)
       refine A2 4 ?_
       (refine R4 rfl rfl rfl rfl rfl rfl (fun _ _ => by repeat (first | exact Sw.here | apply Sw.there)) (O4 zG0) rfl (fun u hu => List.all_eq_true.1 hou9 u hu) zJ0 zO0 rfl rfl zC (fun pn' cn' => ?_))
       refine xx1 9 ?_
       refine A2 8 ?_
       (refine R4 rfl rfl rfl rfl rfl rfl (fun _ _ => by repeat (first | exact Sw.here | apply Sw.there)) (O4 zG0) rfl zI0 zJ0 zO0 rfl rfl zC (fun pm' cm' => ?_))
       refine A2 10 ?_
       refine oS rfl rfl rfl rfl rfl rfl rfl rfl ?_
       refine xx1 11 ?_
       refine B6 ?_
       refine zf4 ?_
       refine A5 ?_
       refine J7 (i + 1, (pn', cn', us ++ [u2], es' ++ [[v1, v2, v3, v4, v5, v6, v7, v8, v9]]), (pm', cm', ts ++ [t2], ess ++ [[.int .i64 t2.k, .slice p3 t2.ks.length c3]]), l2, G3) ?_ ?_ ?_
       ·(simp only [J5]; exact E3)
       ·(dsimp only; exact ⟨by omega, hle.trans hle3, by simp [hlu], H4.snoc (hst.mono hle3) hru, by simp [hlt], E7.snoc (hstt.mono hle3) hrt, A3X hat (A3t ((A36 ks[i] (d + 1) _ l (hvk i zO0) hcvX).1 _ _ _ hE).2), A43 zO0 hml hE, by omega, by omega⟩)
       ·(show ks.length - (i + 1) < ks.length - i; omega)
     ·refine zf3 (fun b219 => ?_)
      refine A2 3 ?_
      refine zf3 (fun b221 => ?_)
      refine A2 4 ?_
      (refine R4 rfl rfl rfl rfl rfl rfl (fun _ _ => by repeat (first | exact Sw.here | apply Sw.there)) (O4 zG0) rfl (fun u hu => List.all_eq_true.1 hou9 u hu) zJ0 zO0 rfl rfl zC (fun pn' cn' => ?_))
      refine xx1 9 ?_
      refine A2 8 ?_
      (refine R4 rfl rfl rfl rfl rfl rfl (fun _ _ => by repeat (first | exact Sw.here | apply Sw.there)) (O4 zG0) rfl zI0 zJ0 zO0 rfl rfl zC (fun pm' cm' => ?_))
      refine A2 10 ?_
      refine oS rfl rfl rfl rfl rfl rfl rfl rfl ?_
      refine xx1 11 ?_
      refine B6 ?_
      refine zf4 ?_
      refine A5 ?_
      refine J7 (i + 1, (pn', cn', us ++ [u2], es' ++ [[v1, v2, v3, v4, v5, v6, v7, v8, v9]]), (pm', cm', ts ++ [t2], ess ++ [[.int .i64 t2.k, .slice p3 t2.ks.length c3]]), l2, G3) ?_ ?_ ?_
      ·(simp only [J5]; exact E3)
      ·(dsimp only; exact ⟨by omega, hle.trans hle3, by simp [hlu], H4.snoc (hst.mono hle3) hru, by simp [hlt], E7.snoc (hstt.mono hle3) hrt, A3X hat (A3t ((A36 ks[i] (d + 1) _ l (hvk i zO0) hcvX).1 _ _ _ hE).2), A43 zO0 hml hE, by omega, by omega⟩)
      ·(show ks.length - (i + 1) < ks.length - i; omega)
   ·refine K5 ?_
    (obtain rfl : i = ks.length := zO0; have hk14 : k ≠ 14 := hv2; rw [List.take_length] at hml hl2; refine V7 (cs := ess.flatten) zB0 (fun G3 hle3 hsl3 hno3 => ?_); have hst3 := hstt.mono hle3; have hslU : D7 G3 pm ks.length cm 2 ess := D7.of hsl3 (by rw [hst3.len, hlt]) hst3.all (fun e he => (hst3.each e he).2); refine H6 rfl (B6O cx k nm num (.mk tk tks) (.mk fk fks) lb ks ts G3 pc nc cc _ pm ks.length cm ess (hx.mono hle3) har hlt.symm hk14 hta (hr0.mono hle3) hslU hst3 hat) rfl rfl (fun v G4 hle4 hh => ?_); obtain ⟨pw, nw, cw, ew, w, wc, wt, rfl, hnw, hslw, hstw, hrt, hw⟩ := hh; obtain ⟨p3, c3, e3, rfl, _⟩ := hrt.open; replace hst3 := hst3.mono hle4; replace hslU := hslU.mono hle4; have hle34 := hle3.trans hle4; replace hst := hst.mono hle34; replace hty := hty.mono hle34; replace hfr := hfr.mono hle34; rcases hmw : M0 cx k nm (Ty.mk tk tks) ts with _ | ⟨w2, t2⟩; rotate_left; have hwe := hw _ hmw; simp only [Prod.mk.injEq] at hwe; obtain ⟨rfl, rfl⟩ := hwe; have hwl := B6Q (by rw [hlt]; exact hop) hkr hk14 hmw; have hcl2 := A1X us ts w2 l; rcases Nat.eq_zero_or_pos ks.length with h0 | h0; rotate_left; rotate_left)
    ·refine B6 ?_
     refine zf1 (fun b260 => ?_)
     refine A64 ?_
     (refine H1 (cs := es'.flatten) zB0 (fun G8 hle8 hsl8 hno8 => ?_); have hst8 := hst.mono hle8)
     refine A5 ?_
     refine A3s (outs := [.blk bx [.int .i64 _]]) (rC rfl (A4 rfl rfl)) (rC rfl (A4 rfl rfl)) (rT rfl) (A1.cons zB0 A1.nil) ?_
     (exact ElP.no (A8b hml (B6S hmw)) (Q3 _) (N2 _ ⟨by omega, by omega⟩) zO0 (by rw [hck]; omega))
    ·refine B6 ?_
     refine zf1 (fun b297 => ?_)
     refine P3 ?_
     refine L4 rfl ((A4E _ _ _ hrt)) rfl rfl (fun h310 => ?_) (fun h310 => ?_)
     ·refine K1 ?_
      refine C2 ?_
      (have h0' : ks.length = 0 := h0; refine K2 (fun (_ : Nat) => ⟨[(86, .int .i64 0), (85, .int .i64 nw), (84, .slice pw nw cw), (11, .slice pm ks.length cm), (1, .slice pc nc cc), (0, .pointer (some ⟨bx, 0, none⟩)), (5, .pointer (some ⟨b3, 0, none⟩)), (6, .pointer (some ⟨b4, 0, none⟩)), (7, .pointer (some ⟨b5, 0, none⟩)), (10, .pointer (some ⟨b58, 0, none⟩)), (18, .pointer (some ⟨b297, 0, none⟩))], [.blk b297 [.int .i64 t2.k, .slice p3 t2.ks.length c3], .blk b58 [.int .i64 k, .string nm, .int .i64 num, .int .i64 tk, .slice pt tks.length ct, .int .i64 fk, .slice pf fks.length cf, .int .i64 lb, .slice pn ks.length cn], .slc pn cn 28 9 ks.length es'.flatten, .blk b5 [.int .i64 0, .slice none 0 0], .blk b4 zq9, .blk b3 [.int .i64 k, .string nm, .int .i64 num, .int .i64 tk, .slice pt tks.length ct, .int .i64 fk, .slice pf fks.length cf, .int .i64 lb, .slice q ks.length cq], .blk bx [.int .i64 l]], G4⟩) (fun _ => True) (fun i => i) 0 ?_ ?_ ?_)
      ·exact E3
      ·trivial
      ·(rintro (i0 : Nat) _)
       refine A5 ?_
       refine sP (A3H rfl rfl zO0) rfl rfl ?_
       refine K5 ?_
       refine zf11 ?_
       refine A7 ?_
       refine zf6 ?_
       refine xx2 0 1 ?_
       refine A2 2 ?_
       refine oS rfl rfl rfl rfl rfl rfl rfl rfl ?_
       refine A2 3 ?_
       refine oS rfl rfl rfl rfl rfl rfl rfl rfl ?_
       refine xx1 4 ?_
       refine A5 ?_
       (refine H1 (cs := es'.flatten) zB0 (fun G8 hle8 hsl8 hno8 => ?_); have hst8 := hst.mono hle8)
       refine tT ?_
       refine A3s (outs := [.blk bx [.int .i64 _]]) (rC rfl (A4 rfl rfl)) (rC rfl (A4 rfl rfl)) (rT rfl) (A1.cons zB0 A1.nil) ?_
       (obtain rfl : w2 = [] := List.length_eq_zero_iff.1 zO0; have hne : k ≠ 13 := (fun h => by have := hop.2.2 (.inr (.inr (.inr h))); omega); have hel := B16 (num := num) (fr := .mk fk fks) (lb := lb) hml (A4W hmw (b := true) zL0) hne; rw [A1b] at hel; exact ElP.yes hel (B7.put hk hnum hlb (hty.mono hle8) (hfr.mono hle8) (by rw [hlu]) (D7.of hsl8 (by rw [hst8.len, hlu]) hst8.all (fun e he => (hst8.each e he).2)) hst8) (hrt.mono hle8) zO0 (by rw [hck]; omega))
     ·refine K5 ?_
      (refine H1 (cs := es'.flatten) zB0 (fun G8 hle8 hsl8 hno8 => ?_); have hst8 := hst.mono hle8)
      refine A5 ?_
      refine A3s (outs := [.blk bx [.int .i64 _]]) (rC rfl (A4 rfl rfl)) (rC rfl (A4 rfl rfl)) (rT rfl) (A1.cons zB0 A1.nil) ?_
      (exact ElP.no (A8b hml (A4W hmw (b := false) zL0)) (Q3 _) (N2 _ ⟨by omega, by omega⟩) zO0 (by rw [hck]; omega))
    ·(refine A3j (cs := es'.flatten) zB0 h0 (fun bc C hpe hnc hcm => ?_); subst hpe; refine sQ (qM rfl) rfl ?_)
     refine B5 ?_
     refine zf1 (fun b392 => ?_)
     refine P3 ?_
     refine L4 rfl ((A4E _ _ _ hrt)) rfl rfl (fun h405 => ?_) (fun h405 => ?_)
     ·refine K1 ?_
      refine C2 ?_
      (have h0' := h0; refine K2 (fun (x : Nat × List (List Value) × IM) => ⟨[(86, .int .i64 x.1), (85, .int .i64 nw), (84, .slice pw nw cw), (11, .slice pm ks.length cm), (1, .slice pc nc cc), (0, .pointer (some ⟨bx, 0, none⟩)), (5, .pointer (some ⟨b3, 0, none⟩)), (6, .pointer (some ⟨b4, 0, none⟩)), (7, .pointer (some ⟨b5, 0, none⟩)), (10, .pointer (some ⟨b58, 0, none⟩)), (18, .pointer (some ⟨b392, 0, none⟩))], [.blk b392 [.int .i64 t2.k, .slice p3 t2.ks.length c3], .blk b58 [.int .i64 k, .string nm, .int .i64 num, .int .i64 tk, .slice pt tks.length ct, .int .i64 fk, .slice pf fks.length cf, .int .i64 lb, .slice (some ⟨bc, 0, none⟩) ks.length cn], .blk bc (x.2.1.flatten ++ C), .blk b5 [.int .i64 0, .slice none 0 0], .blk b4 zq9, .blk b3 [.int .i64 k, .string nm, .int .i64 num, .int .i64 tk, .slice pt tks.length ct, .int .i64 fk, .slice pf fks.length cf, .int .i64 lb, .slice q ks.length cq], .blk bx [.int .i64 (J4 us ts (w2.take x.1) l).2]], x.2.2⟩) (fun x => x.1 ≤ nw ∧ C3 G4 x.2.2 ∧ H4 x.2.2 (J4 us ts (w2.take x.1) l).1 x.2.1) (fun x => nw - x.1) (0, es', G4) ?_ ?_ ?_)
      ·(simp only [List.take_zero, A1b]; exact (D6 zA0 zQ))
      ·(exact ⟨Nat.zero_le _, C3.refl _, by simp only [List.take_zero, A1b]; exact hst⟩)
      ·(rintro ⟨j, es2, G6⟩ ⟨hj, hle6, hst2⟩; simp only [] at hj hle6 hst2 ⊢; replace hslw := hslw.mono hle6; replace hstw := hstw.mono hle6; replace hslU := hslU.mono hle6; replace hst3 := hst3.mono hle6; replace hty := hty.mono hle6; replace hfr := hfr.mono hle6; replace hrt := hrt.mono hle6; have hall2 := hst2.all; have hle2s := hst2.len; rw [A2w] at hle2s)
       refine A5 ?_
       refine zf8 (fun h428 => ?_) (fun h428 => ?_)
       ·refine B8 ?_
        refine C2 ?_
        refine B5 ?_
        (have hjw : j < w2.length := zO0; obtain ⟨b5w, o5w, q5, d5, hp5, hat, hrw, hgb⟩ := hslw.kidTy hstw (i := j) zO0 zO0; cases hp5; refine sP (B2 rfl rfl rfl zO0) rfl rfl ?_)
        refine sL (A3 rfl rfl (hat _) rfl) rfl rfl ?_
        refine zf1 (fun b442 => ?_)
        refine B6 ?_
        (have hjw2 := hjw; obtain ⟨b0, o0, q0, d0, hp0, hat0, hre0, hg0⟩ := hslU.kidTy hst3 (i := j) zO0 zO0; cases hp0; obtain ⟨m1, m2, _⟩ := A44 us ts w2 l j hjw zO0 zO0; obtain ⟨m3, m4⟩ := B1V (us := us) (h := ts) (w := w2) (l := l) hjw zO0 zO0; obtain ⟨hE1, hE2⟩ := hst2.at2 (i := j) zO0 zO0; rw [m2] at hE2; have hE3 := hE2.len; have hE4 := hE2.one; have hcj := A1X us ts (w2.take j) l; refine zdd D9 rfl ?_)
        refine xx7 0 1 2 3 4 5 6 ?_
        refine aP 7 rfl (B2 (j := j) rfl rfl rfl zO0) rfl ?_
        refine aL 8 rfl (A3 rfl rfl (A50 (es := es2) zG0 zO0 hall2) hE3) rfl ?_
        refine xx2 9 10 ?_
        refine aP 11 rfl (B2 (j := j) rfl rfl rfl zO0) rfl ?_
        refine xx2 12 13 ?_
        refine A2 14 ?_
        (refine Z9 (l' := [tt,tt,tt,tt,tt,tt,tt,tt,tt,tt,tt,tt,tt,tt,tt,ff,ff]) rfl rfl (B7M bx us[j] ts[j] w2[j] (J4 us ts (w2.take j) l).2 G6 _ _ _ zO0 hE2 hre0 hrw) (Pk.perm zB0) rfl rfl rfl zC (fun v G7 outs hle7 hh => ?_); obtain ⟨uc, rfl, rfl, hru⟩ := hh; rw [← m4]; have hlu9 := hru.len; have hou9 := hru.one)
        refine aP 15 rfl (B2 (j := j) rfl rfl rfl zO0) rfl ?_
        refine A2 16 ?_
        refine R8 rfl rfl rfl rfl hlu9 hou9 rfl rfl zM0 zC0 (by exact A3k zO0 hall2 hlu9) ?_
        refine B6 ?_
        refine zf4 ?_
        refine A5 ?_
        refine J7 (j + 1, es2.set j uc, G7) ?_ ?_ ?_
        ·(simp only [List.take_zero, A1b]; exact (D6 zA0 zQ))
        ·(dsimp only; exact ⟨by omega, hle6.trans hle7, by rw [m3]; exact H4.set (hst2.mono hle7) hru⟩)
        ·(show nw - (j + 1) < nw - j; omega)
       ·refine K5 ?_
        refine zf0 (fun h492 => ?_) (fun h492 => ?_)
        ·refine B6 ?_
         (have hq13 : k = 13 := zO0; have hl13 := hop.2.2 (.inr (.inr (.inr hq13))); have hjw : j = w2.length := zO0; rw [hjw, List.take_length] at hst2; have hm0 := A2w us ts w2 l; obtain ⟨hE1, hE2⟩ := hst2.at2 (i := 0) zO0 zO0; have hE3 := hE2.len; have hE4 := hE2.one; refine zdd D9 rfl ?_)
         refine xx3 0 1 2 ?_
         refine aL 3 rfl (A3 rfl rfl (A50 (es := es2) zG0 zO0 hall2) hE3) rfl ?_
         refine xx1 4 ?_
         refine A2 5 ?_
         refine oS rfl rfl rfl rfl hE3 hE4 rfl rfl ?_ (hu := by exact E0 hE3.symm)
         refine A2 6 ?_
         refine oS rfl rfl rfl rfl rfl rfl rfl rfl ?_
         refine xx1 7 ?_
         refine A5 ?_
         (refine A2i (bs := [(bc, es2.flatten ++ C)]) (Pk.perm zB0) (fun hn9 hd9 hle9 => ?_))
         refine A5 ?_
         refine A3s (outs := [.blk bx [.int .i64 _]]) (rC rfl (A3 rfl rfl (B9 zG0) hE3)) (rC rfl (A4 rfl rfl)) (rT rfl) (A1.cons zB0 A1.nil) ?_
         (have hel := B7O (num := num) (fr := .mk fk fks) (lb := lb) hml (A4W hmw (b := true) zL0) hq13; rw [B17 zO0] at hel; rw [hjw, List.take_length]; exact ElP.yes hel (hE2.mono hle9) (hrt.mono hle9) zO0 (by rw [hck]; omega))
        ·refine A7 ?_
         refine zf6 ?_
         refine xx2 0 1 ?_
         refine A2 2 ?_
         refine oS rfl rfl rfl rfl rfl rfl rfl rfl ?_
         refine A2 3 ?_
         refine oS rfl rfl rfl rfl rfl rfl rfl rfl ?_
         refine xx1 4 ?_
         refine A5 ?_
         (refine A2i (bs := [(bc, es2.flatten ++ C)]) (Pk.perm zB0) (fun hn9 hd9 hle9 => ?_))
         refine tT ?_
         refine A3s (outs := [.blk bx [.int .i64 _]]) (rC rfl (A4 rfl rfl)) (rC rfl (A4 rfl rfl)) (rT rfl) (A1.cons zB0 A1.nil) ?_
         (have hjw : j = w2.length := zO0; rw [hjw, List.take_length] at hst2; have hst9 := hst2.mono hle9; have hel := B16 (num := num) (fr := .mk fk fks) (lb := lb) hml (A4W hmw (b := true) zL0) (show k ≠ 13 by omega); rw [hjw, List.take_length]; have hm0 := A2w us ts w2 l; exact ElP.yes hel (B7.put hk hnum hlb (hty.mono hle9) (hfr.mono hle9) (by rw [hm0, hlu]) (D7.of (Sl.of_blk (A := []) (by rw [A0S hst9.all, hst9.len, hm0, hlu]) zO0 hcm (Wi.in hn9 List.mem_cons_self)) (by rw [hst9.len, hm0, hlu]) hst9.all (fun e he => (hst9.each e he).2)) hst9) (hrt.mono hle9) zO0 (by rw [hck]; omega))
     ·refine L9 ?_
      refine A3s (outs := [.blk bx [.int .i64 _]]) (rC rfl (A4 rfl rfl)) (rC rfl (A4 rfl rfl)) (rT rfl) (A1.cons zB0 A1.nil) ?_
      (exact ElP.no (A8b hml (A4W hmw (b := false) zL0)) (Q3 _) (N2 _ ⟨by omega, by omega⟩) zO0 (by rw [hck]; omega))
def A1J (r : Option (Tm × Ty)) : IM → Value → List A9 → Prop := M3 fun G' v => ∃ cu ct, v = .tuple ⟨[.agg ⟨cu⟩, .agg ⟨ct⟩, .bool r.isSome]⟩ ∧ B7 G' (r.getD (L7, C5)).1 cu ∧ C6 G' (r.getD (L7, C5)).2 ct
theorem A1J.no {r : Option (Tm × Ty)} (h : r = none) (hu : B7 G L7 cu) (ht : C6 G C5 ct) : A1J r G (.tuple ⟨[.agg ⟨cu⟩, .agg ⟨ct⟩, .bool false]⟩) [] := by subst h; exact ⟨rfl, cu, ct, rfl, hu, ht⟩
theorem A1J.yes {r : Option (Tm × Ty)} (h : r = some (u, t)) (hu : B7 G u cu) (ht : C6 G t ct) : A1J r G (.tuple ⟨[.agg ⟨cu⟩, .agg ⟨ct⟩, .bool true]⟩) [] := by subst h; exact ⟨rfl, cu, ct, rfl, hu, ht⟩
theorem B18 {e : Tm} (h : S6 e = false) : S4 e = none := by unfold S4; rw [if_neg (by rw [h]; decide)]
theorem B19 {e : Tm} (h : S6 e = true) (h2 : P5 [] e 0 = none) : S4 e = none := by unfold S4; rw [if_pos h, h2]
theorem B2a {e u : Tm} {t : Ty} {l : Int} (h : S6 e = true) (h2 : P5 [] e 0 = some (u, t, l)) : S4 e = some (u, t) := by unfold S4; rw [if_pos h, h2]
theorem B2b (e : Tm) (G : IM) (cells : List Value) (hr : B7 G e cells) : Fn prog 44 [.agg ⟨cells⟩] [] G (A1J (S4 e)) := by
 have hRl := hr.len
 have hRo := hr.one
 have hV := B5L e G cells hr
 have hno := @B18 e
 have hnn := @B19 e
 have hso := @B2a e
 refine C4 func44 rfl ntmps44 results44 rfl ?_
 intro w0
 refine A5 ?_
 refine zf2 (fun b3 => ?_)
 refine zf1 (fun b4 => ?_)
 refine zf1 (fun b5 => ?_)
 refine A7 ?_
 refine sL (A3 rfl rfl (B9 zG0) hRl) rfl rfl ?_
 refine L4 rfl (hV) rfl rfl (fun h13 => ?_) (fun h13 => ?_)
 refine E1 ?_
 refine zf2 (fun b23 => ?_)
 refine sL (A3 rfl rfl (B9 zG0) hRl) rfl rfl ?_
 focus (have htv : S6 e = true := zL0; obtain ⟨hsh, hcn⟩ := (A2R e).1 htv; refine K4 rfl (B7P _ e 1 [] 0 G none 0 0 _ hsh zO0 A4Z (S9.nil G) hr zO0 zO0) (Pk.perm zB0) rfl rfl (fun v G1 outs hle1 hh => ?_); obtain ⟨u, uc, t, tc, l3, rfl, rfl, hru, hrt, hl3, hl4, hu⟩ := hh; have hul := hru.len; have huo := hru.one; obtain ⟨p3, c3, e3, rfl, _⟩ := hrt.open; have hnn := hnn htv; have hso := @hso u t l3 htv; rcases hE : P5 [] e 0 with _ | ⟨u2, t2, l2⟩; rotate_left; have hue := hu _ hE; simp only [Prod.mk.injEq] at hue; obtain ⟨rfl, rfl, rfl⟩ := hue; have hso := hso hE; obtain ⟨hg1, hg2, hg3⟩ := A45 hso; rotate_left; simp only [Option.isSome]; rotate_left; simp only [Option.isSome])
 refine B6 ?_
 refine zf1 (fun b30 => ?_)
 refine zf1 (fun b31 => ?_)
 refine sS rfl rfl rfl hul huo rfl ?_ (hu := by exact E0 hul.symm)
 refine K1 ?_
 refine zf6 ?_
 refine aL 0 rfl (A3 rfl rfl (B9 zG0) hul) rfl ?_
 refine xx1 2 ?_
 refine A2 1 ?_
 (refine E6 rfl rfl (A7w _ _ _ (A7Y hg1) hru) rfl rfl rfl (fun v G2 hle2 hh => ?_); obtain ⟨cs2, F2, rfl, hs2, hn2⟩ := hh; have hwl := hs2.R.len; have hwo := hs2.R.one; have hr2 := hs2.R.mono (E8.le G2 G1); replace hrt := hrt.mono hle2)
 refine A2 3 ?_
 (refine E6 rfl rfl (A3V _ _ _ (A3t hg3).small hrt) rfl rfl rfl (fun v G3 hle3 hh => ?_); obtain ⟨cs3, F3, rfl, hs3, hn3⟩ := hh; obtain ⟨p4, c4, rfl, _⟩ := hs3.open; have hr3 := hs3.R.mono (E8.le G3 G2); replace hr2 := hr2.mono hle3)
 refine A2 4 ?_
 refine oS rfl rfl rfl rfl hwl hwo rfl rfl ?_ (hu := by exact E0 hwl.symm)
 refine A2 5 ?_
 refine oS rfl rfl rfl rfl rfl rfl rfl rfl ?_
 refine xx1 6 ?_
 refine B5 ?_
 refine E5 (rC rfl (A3 rfl rfl (B9 zG0) hwl)) (rC rfl (A4 rfl rfl)) (rT rfl) ?_
 (exact A1J.yes hso hr2 hr3)
 refine B6 ?_
 refine zf1 (fun b69 => ?_)
 refine zf1 (fun b70 => ?_)
 refine sS rfl rfl rfl hul huo rfl ?_ (hu := by exact E0 hul.symm)
 refine A2I ?_
 refine zf20 ?_
 (exact A1J.no (hnn hE) (Q3 _) (N2 _ ⟨by omega, by omega⟩))
 refine K1 ?_
 refine zf20 ?_
 (exact A1J.no (hno zL0) (Q3 _) (N2 _ ⟨by omega, by omega⟩))
def A0e (e : Tm) : Option Ty := match S4 e with | some (_, t) => some t | none => none
theorem B7Q {e : Tm} (h : S6 e = false) : A0e e = none := by unfold A0e; rw [B18 h]
section
variable {ak bk : Int} {aks bks : List Ty}
theorem B7R (h : ak ≠ bk) : N1 (.mk ak aks) (.mk bk bks) = false := by rw [A3e, decide_eq_false h]; rfl
theorem B7S (h : aks.length ≠ bks.length) : N1 (.mk ak aks) (.mk bk bks) = false := by
 rw [A3e]
 cases hl : A0E aks bks with
 | false => simp
 | true => exact absurd ((A4J _ _).1 hl).1 h
theorem B7T {i : Nat} (hi : i < aks.length) (hi' : i < bks.length) (h : N1 aks[i] bks[i] = false) : N1 (.mk ak aks) (.mk bk bks) = false := by
 rw [A3e]
 cases hl : A0E aks bks with
 | false => simp
 | true => have := ((A4J _ _).1 hl).2 i hi hi'; rw [h] at this; cases this
theorem B7U (hk : ak = bk) (hl : aks.length = bks.length) (h : ∀ i, (h : i < aks.length) → (h' : i < bks.length) → N1 aks[i] bks[i] = true) : N1 (.mk ak aks) (.mk bk bks) = true := by
 rw [A3e, decide_eq_true hk, (A4J _ _).2 ⟨hl, h⟩]; rfl
end
theorem B7V : ∀ (a b : Ty) (G : IM) (ca cb : List Value), C6 G a ca → C6 G b cb → Fn prog 60 [.agg ⟨ca⟩, .agg ⟨cb⟩] [] G (I1 (.bool (N1 a b)) G) := by
 refine Ty.ind fun ak aks ih b G ca cb hra hrb => ?_
 obtain ⟨bk, bks⟩ := b
 obtain ⟨pa, cca, ea, rfl, hak, hsla, hkla⟩ := hra.open
 obtain ⟨pb, ccb, eb, rfl, hbk, hslb, hklb⟩ := hrb.open
 simp only [Ty.k, Ty.ks] at hak hsla hkla hbk hslb hklb ⊢
 have hna := hsla.le
 have hnb := hslb.le
 have e1 := @B7R ak bk aks bks
 have e2 := @B7S ak bk aks bks
 have e3 := fun i => @B7T ak bk aks bks i
 have e4 := @B7U ak bk aks bks
 generalize N1 (.mk ak aks) (.mk bk bks) = R at e1 e2 e3 e4 ⊢
 refine C4 func60 rfl ntmps60 results60 rfl ?_
 intro w0
 refine A5 ?_
 refine zf2 (fun b3 => ?_)
 refine zf2 (fun b4 => ?_)
 refine I9 ?_
 refine zf16 (fun h15 => ?_) (fun h15 => ?_)
 refine A1A ?_
 (exact ⟨rfl, by rw [e1 zO0], rfl⟩)
 refine B8 ?_
 refine zf16 (fun h44 => ?_) (fun h44 => ?_)
 refine P3 ?_
 (exact ⟨rfl, by rw [e2 zO0], rfl⟩)
 refine P3 ?_
 refine C2 ?_
 (refine K2 (fun (i : Nat) => ⟨[(5, .int .i64 i), (2, .pointer (some ⟨b3, 0, none⟩)), (3, .pointer (some ⟨b4, 0, none⟩))], [.blk b4 [.int .i64 bk, .slice pb bks.length ccb], .blk b3 [.int .i64 ak, .slice pa aks.length cca]], G⟩) (fun i => i ≤ aks.length ∧ ∀ j, (h : j < aks.length) → (h' : j < bks.length) → j < i → N1 aks[j] bks[j] = true) (fun i => aks.length - i) 0 ?_ ?_ ?_)
 exact E3
 (exact ⟨Nat.zero_le _, fun j _ _ hj => absurd hj (Nat.not_lt_zero j)⟩)
 (rintro i ⟨hi, hall⟩)
 refine B8 ?_
 refine zf8 (fun h82 => ?_) (fun h82 => ?_)
 refine A7 ?_
 refine C2 ?_
 refine tS ?_
 (obtain ⟨b, o, q0, d0, hp0, hat0, hre0, hg0⟩ := hsla.kidTy hkla (i := i) zO0 zO0; obtain ⟨b', o', q1, d1, hp1, hat1, hre1, hg1⟩ := hslb.kidTy hklb (i := i) zO0 zO0; subst hp0; subst hp1; have hih := ih aks[i] (List.getElem_mem zO0) bks[i] G _ _ hre0 hre1; refine zdd D9 rfl ?_)
 refine xx3 0 1 2 ?_
 refine aP 3 rfl (B2 rfl rfl rfl zO0) rfl ?_
 refine xx4 4 5 6 7 ?_
 refine aP 8 rfl (B2 rfl rfl rfl zO0) rfl ?_
 refine xx1 9 ?_
 refine A2 10 ?_
 refine V2 rfl rfl (hih) rfl rfl rfl (fun h103 => ?_) (fun h103 => ?_)
 refine xx1 11 ?_
 refine D4 ?_
 refine zf4 ?_
 refine A5 ?_
 refine J7 (i + 1) ?_ ?_ ?_
 exact E3
 (exact ⟨by omega, fun j h h' hj => by by_cases hji : j = i; (subst hji; assumption); exact hall j h h' zO0⟩)
 omega
 refine xx1 11 ?_
 refine K1 ?_
 (exact ⟨rfl, by rw [e3 i zO0 zO0 zL0], rfl⟩)
 refine K1 ?_
 (exact ⟨rfl, by rw [e4 zO0 zO0 (fun j h h' => hall j h h' zO0)], rfl⟩)
theorem B2c (G : IM) (cx : Cx) (p : Option Addr) (n c : Nat) (nm : ByteArray) (t : Ty) (cells : List Value) (hx : S9 G cx p n c) (hn : n ≤ 1000) (hr : C6 G t cells) :
  Fn prog 132 [.slice p n c, .string nm, .agg ⟨cells⟩] [] G (M3 fun G' v => ∃ p' c', v = .slice p' (n + 1) c' ∧ S9 G' (cx ++ [(nm, t)]) p' (n + 1) c') := by
 obtain ⟨k, ks⟩ := t
 obtain ⟨q, d, es0, rfl, _⟩ := hr.open
 simp only [Ty.k, Ty.ks] at hr ⊢
 obtain ⟨hx1, es, h2, h3⟩ := id hx
 have hSl : Sl G p n c 3 es.flatten := h2.1
 have h1c : ∀ u ∈ es.flatten, u.oneCell' = true := by
  intro u hu
  obtain ⟨e, he, hue⟩ := List.mem_flatten.1 hu
  exact List.all_eq_true.1 (h2.one e he) u hue
 refine C4 func132 rfl ntmps132 results132 rfl ?_
 intro w0
 refine A5 ?_
 refine zf2 (fun b3 => ?_)
 refine B6 ?_
 refine zf6 ?_
 refine xx4 1 3 4 5 ?_
 refine N5 (j := 0) (j' := 6) zM0 ?_ ?_
 refine zf3 (fun b14 => ?_)
 refine N5 (j := 2) (j' := 6) zM0 ?_ ?_
 (refine A2m rfl rfl rfl rfl rfl rfl (fun _ _ => by repeat (first | exact Sw.here | apply Sw.there)) hSl h1c (Nat.zero_le _) zJ0 zO0 rfl rfl zK (fun p4 c4 => ?_); simp only [Nat.zero_add, List.nil_append])
 refine A2 6 ?_
 refine zf3 (fun b18 => ?_)
 exact y33
 refine zf3 (fun b28 => ?_)
 refine A2 2 ?_
 (refine A2m rfl rfl rfl rfl rfl rfl (fun _ _ => by repeat (first | exact Sw.here | apply Sw.there)) hSl h1c (Nat.zero_le _) zJ0 zO0 rfl rfl zK (fun p4 c4 => ?_); simp only [Nat.zero_add, List.nil_append])
 exact y33
 refine zf3 (fun b40 => ?_)
 refine A2 0 ?_
 refine zf3 (fun b42 => ?_)
 refine A2 2 ?_
 (refine A2m rfl rfl rfl rfl rfl rfl (fun _ _ => by repeat (first | exact Sw.here | apply Sw.there)) hSl h1c (Nat.zero_le _) zJ0 zO0 rfl rfl zK (fun p4 c4 => ?_); simp only [Nat.zero_add, List.nil_append])
 exact y33
theorem B2d {cx : Cx} : ∀ {ks : List Tm} {i : Nat} {us : List Ty} {u : Ty} (hi : i < ks.length), X7 cx (ks.take i) = some us → R2 cx ks[i] = some u → X7 cx (ks.take (i + 1)) = some (us ++ [u])
 | [], i, us, u, hi, _, _ => by simp at hi
 | t :: ts, 0, us, u, _, h1, h2 => by
  simp only [List.take_zero, X7, Option.some.injEq] at h1
  subst h1
  simp only [List.getElem_cons_zero] at h2
  simp [X7, h2]
 | t :: ts, i + 1, us, u, hi, h1, h2 => by
  simp only [List.take_succ_cons, X7] at h1 ⊢
  split at h1
  ·cases h1
  ·rename_i a ha
   split at h1
   ·cases h1
   ·rename_i bs has
    simp only [Option.some.injEq] at h1
    subst h1
    simp only [List.getElem_cons_succ] at h2
    have := B2d (ks := ts) (i := i) (by simpa using hi) has h2
    simp only [this, List.cons_append]
theorem B2e {cx : Cx} : ∀ {ks : List Tm} {i : Nat} (hi : i < ks.length), R2 cx ks[i] = none → X7 cx ks = none
 | [], i, hi, _ => by simp at hi
 | t :: ts, 0, _, h => by simp only [List.getElem_cons_zero] at h; rw [X7, h]
 | t :: ts, i + 1, hi, h => by
  simp only [List.getElem_cons_succ] at h
  have := B2e (ks := ts) (i := i) (by simpa using hi) h
  rw [X7, this]
  cases R2 cx t <;> rfl
section
variable {cx : Cx} {k : Int} {nm : ByteArray} {num : Int} {ty fr : Ty} {lb : Int} {ks : List Tm}
theorem B7W (hk : k = 1) (h0 : ks = []) : R2 cx (.mk k nm num ty fr lb ks) = Q0 cx nm := by
 subst hk h0
 rw [R2, X7]
 simp only [Z4, mW1]
 cases Q0 cx nm with
 | none => rfl
 | some t => simp
theorem B7X (hk : k = 2) (h0 : ks = []) : R2 cx (.mk k nm num ty fr lb ks) = some Q7 := by subst hk h0; rfl
theorem B7Y (hk : k = 3 ∨ k = 4) (h0 : ks = []) : R2 cx (.mk k nm num ty fr lb ks) = some V4 := by subst h0; rcases hk with rfl | rfl <;> rfl
theorem B7Z {b : Tm} (hk : k = 5) (h : R2 (cx ++ [(nm, ty)]) b = none) : R2 cx (.mk k nm num ty fr lb [b]) = none := by
 subst hk; rw [R2, L5, if_pos rfl, X7, h]
theorem B70 {b : Tm} (hk : k = 5) (h : R2 (cx ++ [(nm, ty)]) b = some t) : R2 cx (.mk k nm num ty fr lb [b]) = if H7 (.mk 4 [ty, t]) = true then some (.mk 4 [ty, t]) else none := by
 subst hk
 rw [R2, L5, if_pos rfl, X7, h]
 simp only [X7, Z4, mW5, List.getD_cons_zero]
 cases H7 (.mk 4 [ty, t]) <;> simp
theorem B71 (hk : k ≠ 5) (h : X7 cx ks = none) : R2 cx (.mk k nm num ty fr lb ks) = none := by rw [R2, L5, if_neg hk, h]
theorem B72 {ts : List Ty} (hk : k ≠ 5) (h : X7 cx ks = some ts) : R2 cx (.mk k nm num ty fr lb ks) = Z4 cx k nm ty ts := by rw [R2, L5, if_neg hk, h]
end
theorem B2f : ∀ (e : Tm) (d : Int) (cx : Cx) (G : IM) (p : Option Addr) (n c : Nat) (cells : List Value), O9 12 14 e d = true → (n : Int) ≤ d → cxV cx → S9 G cx p n c → B7 G e cells →
  Fn prog 131 [.slice p n c, .agg ⟨cells⟩] [] G (Q1 (R2 cx e) G) := by
 refine Tm.ind fun k nm num ty fr lb ks ih d cx G p n c cells hv hnd hcv hx hr => ?_
 have hr0 := hr
 have hone := hr.one
 obtain ⟨hv1, hv2, hv3, hv4⟩ := A07 hv
 have hvk := (A1Q 12 14 ks _).1 hv4
 have har := (W0.1 hv3).1
 have hop := A3Y har
 obtain ⟨hta, hts⟩ := A3Z hv3
 have hkr : 1 ≤ k ∧ k ≤ 14 := A42 (by rw [har]; omega)
 have hcv5 : k = 5 → cxV (cx ++ [(nm, ty)]) := fun hk => by have := A40 (k := k) (nm := nm) (ty := ty) hcv fun hk => (W0.1 hv3).2.2.2.2.2.1 (.inl hk); rwa [L5, if_pos hk] at this
 have h0 : k ≤ 4 → ks = [] := fun h => List.length_eq_zero_iff.1 (by
  have hk : k = 1 ∨ k = 2 ∨ k = 3 ∨ k = 4 := by omega
  rcases hk with rfl | rfl | rfl | rfl
  ·have : E4 1 = 0 := rfl; omega
  ·have : E4 2 = 0 := rfl; omega
  ·have : E4 3 = 0 := rfl; omega
  ·have : E4 4 = 0 := rfl; omega)
 have f1 := fun hk => @B7W cx k nm num ty fr lb ks hk (h0 zO0)
 have f2 := fun hk => @B7X cx k nm num ty fr lb ks hk (h0 zO0)
 have f3 := fun hk => @B7Y cx k nm num ty fr lb ks hk (h0 zO0)
 have f4 : ∀ (hk : k = 5) (hl : 0 < ks.length), R2 (cx ++ [(nm, ty)]) ks[0] = none → R2 cx (.mk k nm num ty fr lb ks) = none := fun hk hl h => by
  obtain ⟨b, rfl⟩ := ks1 (hop.2.2 (.inl hk)); exact B7Z hk h
 have f5 : ∀ (t : Ty) (hk : k = 5) (hl : 0 < ks.length), R2 (cx ++ [(nm, ty)]) ks[0] = some t → R2 cx (.mk k nm num ty fr lb ks) = if H7 (.mk 4 [ty, t]) = true then some (.mk 4 [ty, t]) else none := fun t hk hl h => by
  obtain ⟨b, rfl⟩ := ks1 (hop.2.2 (.inl hk)); exact B70 hk h
 have f6 := @B71 cx k nm num ty fr lb ks
 have f7 := fun ts => @B72 cx k nm num ty fr lb ks ts
 generalize R2 cx (.mk k nm num ty fr lb ks) = R at f1 f2 f3 f4 f5 f6 f7 ⊢
 obtain ⟨tk, tks⟩ := ty
 obtain ⟨fk, fks⟩ := fr
 obtain ⟨pt, ct, pf, cf, q, cq, es, rfl, hk, hnum, hlb, hty, hfr, hsl, hkl⟩ := hr.open9
 have hlen : ks.length ≤ 3 := by have := A1G k; omega
 refine C4 func131 rfl ntmps131 results131 rfl ?_
 intro w0
 refine A5 ?_
 refine zf2 (fun b3 => ?_)
 refine zf1 (fun b4 => ?_)
 refine I9 ?_
 refine C2 (tS (tR (sB (qE rfl rfl) rfl rfl (fun h18 => ?_) (fun h18 => ?_))))
 refine E1 ?_
 (refine H6 rfl (B7F G cx hcv p n c nm hx) rfl rfl (fun v G1 hle1 hh => ?_); obtain ⟨mt, mc, rfl, hmr, hma, hmu⟩ := hh; obtain ⟨p1, c1, e1, rfl, _⟩ := hmr.open)
 refine E1 ?_
 refine zf5 ?_
 (rw [f1 zO0]; exact ⟨rfl, _, _, rfl, hmr, hma, hmu⟩)
 refine A7 ?_
 refine zf0 (fun h46 => ?_) (fun h46 => ?_)
 refine A7 ?_
 refine F0 rfl ((A0X _)) rfl rfl ?_
 refine B8 ?_
 refine zf5 ?_
 (rw [f2 zO0]; exact Q1.yes rfl (K9 _) (S8 zO0 zO0))
 refine B8 ?_
 refine zf0 (fun h70 => ?_) (fun h70 => ?_)
 refine E1 ?_
 exact y38
 refine B1 ?_
 refine zf0 (fun h95 => ?_) (fun h95 => ?_)
 refine A7 ?_
 exact y38
 refine A7 ?_
 refine zf0 (fun h118 => ?_) (fun h118 => ?_)
 refine B1 ?_
 (have hl1 : ks.length = 1 := hop.2.2 zO0; obtain ⟨b, o, e, rfl, hl, hat, hre, hgb⟩ := hsl.kidTm hkl (i := 0) zO0 zO0; have hMore := B2c G cx p n c nm (.mk tk tks) _ hx zO0 hty; refine zdd D9 rfl ?_)
 refine xx8 0 1 2 3 4 6 7 8 ?_
 refine aL 9 rfl (A3 rfl rfl (hat _) hl) rfl ?_
 refine N5 (j := 5) (j' := 14) zM0 ?_ ?_
 (refine E6 rfl rfl hMore rfl rfl rfl (fun v G1 hle1 hh => ?_); obtain ⟨pm, cm, rfl, hxm⟩ := hh; have hreM := hre.mono hle1; have hLam := ih ks[0] (List.getElem_mem zO0) (d + 1) _ G1 pm (n + 1) cm _ (hvk 0 zO0) zO0 (hcv5 zO0) hxm hreM; have htyM := hty.mono hle1)
 refine N5 (j := 10) (j' := 14) zM0 ?_ ?_
 focus (refine E6 rfl rfl hLam rfl rfl rfl (fun v G2 hle2 hh => ?_); obtain ⟨mt, mc, rfl, hmr, hma, hmu⟩ := hh; obtain ⟨p1, c1, e1, rfl, _⟩ := hmr.open; have htyN := htyM.mono hle2; rcases hE : R2 (cx ++ [(nm, Ty.mk tk tks)]) ks[0] with _ | mt2; rotate_left; obtain rfl := hmu _ hE; rotate_left; all_goals simp only [Option.isSome])
 refine xx3 11 12 13 ?_
 refine A2 14 ?_
 refine zf10 (fun b142 => ?_)
 exact y36
 refine xx3 11 12 13 ?_
 refine A2 14 ?_
 refine zf10 (fun b173 => ?_)
 exact y35
 refine zf10 (fun b206 => ?_)
 refine A2 10 ?_
 focus (refine E6 rfl rfl hLam rfl rfl rfl (fun v G2 hle2 hh => ?_); obtain ⟨mt, mc, rfl, hmr, hma, hmu⟩ := hh; obtain ⟨p1, c1, e1, rfl, _⟩ := hmr.open; have htyN := htyM.mono hle2; rcases hE : R2 (cx ++ [(nm, Ty.mk tk tks)]) ks[0] with _ | mt2; rotate_left; obtain rfl := hmu _ hE; rotate_left; all_goals simp only [Option.isSome])
 refine xx3 11 12 13 ?_
 exact y36
 refine xx3 11 12 13 ?_
 exact y35
 refine zf10 (fun b273 => ?_)
 refine A2 5 ?_
 (refine E6 rfl rfl hMore rfl rfl rfl (fun v G1 hle1 hh => ?_); obtain ⟨pm, cm, rfl, hxm⟩ := hh; have hreM := hre.mono hle1; have hLam := ih ks[0] (List.getElem_mem zO0) (d + 1) _ G1 pm (n + 1) cm _ (hvk 0 zO0) zO0 (hcv5 zO0) hxm hreM; have htyM := hty.mono hle1)
 refine A2 10 ?_
 focus (refine E6 rfl rfl hLam rfl rfl rfl (fun v G2 hle2 hh => ?_); obtain ⟨mt, mc, rfl, hmr, hma, hmu⟩ := hh; obtain ⟨p1, c1, e1, rfl, _⟩ := hmr.open; have htyN := htyM.mono hle2; rcases hE : R2 (cx ++ [(nm, Ty.mk tk tks)]) ks[0] with _ | mt2; rotate_left; obtain rfl := hmu _ hE; rotate_left; all_goals simp only [Option.isSome])
 refine xx3 11 12 13 ?_
 exact y36
 refine xx3 11 12 13 ?_
 exact y35
 refine E1 ?_
 refine zf7 (fun b351 => ?_)
 refine E1 ?_
 refine C2 ?_
 (refine K2 (fun (x : Nat × Option Addr × Nat × List Ty × List (List Value) × IM) => ⟨[(9, .int .i64 x.1), (8, .slice x.2.1 x.1 x.2.2.1), (3, .pointer (some ⟨b3, 0, none⟩)), (4, .pointer (some ⟨b4, 0, none⟩)), (0, .slice p n c)], [.slc x.2.1 x.2.2.1 25 2 x.1 x.2.2.2.2.1.flatten, .blk b4 [.int .i64 0, .slice none 0 0], .blk b3 [.int .i64 k, .string nm, .int .i64 num, .int .i64 tk, .slice pt tks.length ct, .int .i64 fk, .slice pf fks.length cf, .int .i64 lb, .slice q ks.length cq]], x.2.2.2.2.2⟩) (fun x => x.1 ≤ ks.length ∧ C3 G x.2.2.2.2.2 ∧ x.2.2.2.1.length = x.1 ∧ E7 x.2.2.2.2.2 x.2.2.2.1 x.2.2.2.2.1 ∧ (∀ u ∈ x.2.2.2.1, H8 u) ∧ X7 cx (ks.take x.1) = some x.2.2.2.1) (fun x => ks.length - x.1) (0, some ⟨b351, 0, none⟩, 0, [], [], G) ?_ ?_ ?_)
 (simp only [J5]; exact E3)
 (exact ⟨by simp, C3.refl _, rfl, by simp [E7], by simp, by simp [X7]⟩)
 (rintro ⟨i, pn, cn, us, es', Gi⟩ ⟨hi, hle, hlu, hst, hau, hsu⟩; simp only [] at hi hle hlu hst hau hsu ⊢; replace hsl := hsl.mono hle; replace hkl := hkl.mono hle; replace hx := hx.mono hle; replace hr0 := hr0.mono hle)
 refine B8 ?_
 refine zf8 (fun h373 => ?_) (fun h373 => ?_)
 refine A7 ?_
 refine C2 ?_
 refine A7 ?_
 (obtain ⟨b, o, e, rfl, hl, hat, hre, hgb⟩ := hsl.kidTm hkl (i := i) zO0 zO0; refine sP (B2 rfl rfl rfl zO0) rfl rfl ?_)
 refine sL (A3 rfl rfl (hat _) hl) rfl rfl ?_
 focus (refine H6 rfl (ih ks[i] (List.getElem_mem zO0) (d + 1) cx Gi p n c _ (hvk i zO0) zO0 hcv hx hre) rfl rfl (fun v G2 hle2 hh => ?_); obtain ⟨u, uc, rfl, hru, hua, huu⟩ := hh; obtain ⟨p3, c3, e3, rfl, _⟩ := hru.open; rcases hE : R2 cx ks[i] with _ | u2; rotate_left; obtain rfl := huu _ hE; rotate_left; all_goals simp only [Option.isSome])
 refine B5 ?_
 refine zf1 (fun b393 => ?_)
 refine A63 ?_
 refine zf5 ?_
 (rw [f6 zO0 (B2e zO0 hE)]; exact Q1.no rfl (N2 _ ⟨by omega, by omega⟩) (S8 zO0 zO0))
 refine B5 ?_
 refine zf1 (fun b425 => ?_)
 refine W8 ?_
 refine zf7 (fun b443 => ?_)
 refine A2g rfl rfl rfl rfl rfl (fun _ _ => by repeat (first | exact Sw.here | apply Sw.there)) (O4 zG0) rfl zI0 zJ0 zO0 rfl (fun pn' cn' => ?_)
 refine A7 ?_
 refine zf4 ?_
 refine A5 ?_
 refine J7 (i + 1, pn', cn', us ++ [u2], es' ++ [[.int .i64 u2.k, .slice p3 u2.ks.length c3]], G2) ?_ ?_ ?_
 (simp only [J5]; exact E3)
 (dsimp only; exact ⟨by omega, hle.trans hle2, by simp [hlu], E7.snoc (hst.mono hle2) hru, A3X hau hua, B2d zO0 hsu hE⟩)
 (show ks.length - (i + 1) < ks.length - i; omega)
 refine P3 ?_
 (obtain rfl : i = ks.length := zO0; rw [List.take_length] at hsu; refine V7 (cs := es'.flatten) zB0 (fun G3 hle3 hsl3 hno3 => ?_); have hst3 := hst.mono hle3; have hRes := B7L cx k nm num (.mk tk tks) (.mk fk fks) lb ks us G3 _ pn cn es' (by rw [hlu]; exact har) zO0 hta (hr0.mono hle3) (by rw [hlu]; exact D7.of hsl3 (by rw [hst3.len, hlu]) hst3.all (fun e he => (hst3.each e he).2)) hst3 hau; rw [hlu] at hRes; refine H6 rfl hRes rfl rfl (fun v G4 hle4 hh => ?_); obtain ⟨mt, mc, rfl, hmr, hma, hmu⟩ := hh; obtain ⟨p1, c1, e1, rfl, _⟩ := hmr.open)
 refine B8 ?_
 refine zf5 ?_
 (rw [f7 us zO0 hsu]; exact ⟨rfl, _, _, rfl, hmr, hma, hmu⟩)
theorem B73 (ha : H8 t) : A0n t = .mk t.k (List.replicate t.ks.length R1) := by
 obtain ⟨k, ks⟩ := t
 rw [H8] at ha
 show (if k = 4 ∨ k = 5 then Ty.mk k [R1, R1] else .mk k []) = _
 show _ = Ty.mk k (List.replicate ks.length R1)
 split
 ·rename_i h; rw [ha.1 h]; rfl
 ·rename_i h
  rw [ha.2.1 (fun e => h (.inl e)) (fun e => h (.inr e))]; rfl
theorem B2g (t : Ty) (G : IM) (cells : List Value) (ha : H8 t) (hr : C6 G t cells) : Fn prog 177 [.agg ⟨cells⟩] [] G (A7H (A0n t) G) := by
 rw [B73 ha]
 obtain ⟨tk, tks⟩ := t
 have hsm := ha.small
 rw [Ty.small] at hsm
 obtain ⟨hsm1, _⟩ := hsm
 obtain ⟨p, c, es, rfl, hk, hsl, hkl⟩ := hr.open
 simp only [Ty.k, Ty.ks] at hk hsl hkl ⊢
 have hn := hsl.le
 refine C4 func177 rfl ntmps177 results177 rfl ?_
 intro w0
 refine A5 ?_
 refine zf2 (fun b3 => ?_)
 refine zf1 (fun b4 => ?_)
 refine B8 ?_
 refine zf1 (fun b12 => ?_)
 refine E1 ?_
 refine C2 ?_
 (refine V1 25 2 ?_; refine K2 (fun (x : Nat × Option Addr × Nat × List (List Value)) => ⟨[(4, .int .i64 x.1), (3, .pointer (some ⟨b12, 0, none⟩)), (1, .pointer (some ⟨b3, 0, none⟩)), (2, .pointer (some ⟨b4, 0, none⟩))], [.blk b12 [.int .i64 tk, .slice x.2.1 x.1 x.2.2.1], .slc x.2.1 x.2.2.1 25 2 x.1 x.2.2.2.flatten, .blk b4 [.int .i64 0, .slice none 0 0], .blk b3 [.int .i64 tk, .slice p tks.length c]], G⟩) (fun x => x.1 ≤ tks.length ∧ E7 G (List.replicate x.1 R1) x.2.2.2) (fun x => tks.length - x.1) (0, none, 0, []) ?_ ?_ ?_)
 (simp only [J5]; exact E3)
 (exact ⟨Nat.zero_le _, rfl⟩)
 (rintro ⟨i, pn, cn, es'⟩ ⟨hi, hst⟩; simp only [] at hi hst ⊢; have hsl' := hst.len; rw [List.length_replicate] at hsl')
 refine B8 ?_
 refine zf8 (fun h34 => ?_) (fun h34 => ?_)
 refine A7 ?_
 refine C2 ?_
 refine zf6 ?_
 refine xx2 0 1 ?_
 refine A2 2 ?_
 refine M9 rfl rfl ((A2n _)) rfl rfl rfl ?_
 refine A2 3 ?_
 refine zf3 (fun b48 => ?_)
 refine A2 4 ?_
 refine R4 rfl rfl rfl rfl rfl rfl (fun _ _ => by repeat (first | exact Sw.here | apply Sw.there)) (O4 zG0) rfl zI0 zJ0 zO0 rfl rfl zC (fun pn' cn' => ?_)
 refine xx1 5 ?_
 refine A2 6 ?_
 refine R8 rfl rfl rfl rfl rfl rfl rfl rfl zK0 zC0 (by rfl) ?_
 refine B1 ?_
 refine zf4 ?_
 refine A5 ?_
 refine J7 (i + 1, pn', cn', es' ++ [[.int .i64 1, .slice none 0 0]]) ?_ ?_ ?_
 (simp only [J5]; exact E3)
 (dsimp only; exact ⟨by omega, by rw [List.replicate_succ']; exact E7.snoc hst (A06 _)⟩)
 (show tks.length - (i + 1) < tks.length - i; omega)
 refine K5 ?_
 (refine H1 (cs := es'.flatten) zB0 (fun G2 hle2 hsl2 hno2 => ?_); obtain rfl : i = tks.length := zO0)
 refine tT ?_
 refine zf9 ?_
 (exact ⟨rfl, _, rfl, (hst.mono hle2).ty zP0 hsl2 hk⟩)
section
variable {k : Int} {nm : ByteArray} {num : Int} {ty fr : Ty} {lb : Int} {ks : List Tm}
end
theorem B74 (G : IM) : Fn prog 198 [.bool true] [] G (TmP (U3 (true = true))) := by
 refine C4 func198 rfl ntmps198 results198 rfl ?_
 intro w0
 refine A5 ?_
 refine zf1 (fun b3 => ?_)
 refine W8 ?_
 refine zf9 ?_
 (exact TmP.mk (A54 _ ⟨by decide, by decide⟩))
theorem B75 (G : IM) : Fn prog 198 [.bool false] [] G (TmP (U3 (false = true))) := by
 refine C4 func198 rfl ntmps198 results198 rfl ?_
 intro w0
 refine A5 ?_
 refine zf1 (fun b3 => ?_)
 refine A0H ?_
 refine zf9 ?_
 (exact TmP.mk (A54 _ ⟨by decide, by decide⟩))
theorem B2h (b : Bool) (G : IM) : Fn prog 198 [.bool b] [] G (TmP (U3 (b = true))) := by
 cases b
 ·exact B75 G
 ·exact B74 G
theorem A6i (k : Int) (a b : Tm) (G : IM) (ca cb : List Value) (hk78 : k = 7 ∨ k = 8) (hca : 0 ≤ a.num ∧ a.num ≤ 999) (hcb : 0 ≤ b.num ∧ b.num ≤ 999) (hra : B7 G a ca) (hrb : B7 G b cb) : Fn prog 181 [.int .i64 k, .agg ⟨ca⟩, .agg ⟨cb⟩] [] G (A0p (W4 k C5 C5 0 [a, b])) := by
 obtain ⟨ak, anm, anum, ⟨atk, atks⟩, ⟨afk, afks⟩, alb, aks⟩ := a
 obtain ⟨bk, bnm, bnum, ⟨btk, btks⟩, ⟨bfk, bfks⟩, blb, bks⟩ := b
 obtain ⟨apt, act, apf, acf, ap, ac, aes, rfl, hak, hanum, halb, haty, hafr, hasl, hakl⟩ := hra.open9
 obtain ⟨bpt, bct, bpf, bcf, bp, bc, bes, rfl, hbk, hbnum, hblb, hbty, hbfr, hbsl, hbkl⟩ := hrb.open9
 simp only [Tm.num] at hca hcb
 have hR : W4 k C5 C5 0 [Tm.mk ak anm anum (.mk atk atks) (.mk afk afks) alb aks, Tm.mk bk bnm bnum (.mk btk btks) (.mk bfk bfks) blb bks] = (if ak = 2 ∧ bk = 2 then (if k = 7 then A2q ((anum + bnum) % 1000) else U3 (anum < bnum), 1, 0) else V6) := by
  unfold W4; rw [if_neg zO0, if_pos hk78]; rfl
 rw [hR]
 have htm : (anum + bnum).tmod 1000 = (anum + bnum) % 1000 := A7K hca hcb
 have hb : F8 ((anum + bnum) % 1000) := ⟨by omega, by omega⟩
 refine C4 func181 rfl ntmps181 results181 rfl ?_
 intro w0
 refine A5 ?_
 refine zf2 (fun b3 => ?_)
 refine zf2 (fun b4 => ?_)
 refine zf1 (fun b5 => ?_)
 refine E1 ?_
 refine zf16 (fun h15 => ?_) (fun h15 => ?_)
 refine A0H ?_
 refine zf15 ?_
 (exact A0p.mk (by rw [if_neg zO0]; rfl) (Q3 _))
 refine B5 ?_
 refine zf16 (fun h39 => ?_) (fun h39 => ?_)
 refine K5 ?_
 refine zf15 ?_
 (exact A0p.mk (by rw [if_neg zO0]; rfl) (Q3 _))
 refine I9 ?_
 refine zf0 (fun h66 => ?_) (fun h66 => ?_)
 refine E1 ?_
 refine zf4 ?_
 refine sP (A3C rfl rfl zO0) rfl rfl ?_
 (rw [htm]; refine F0 rfl (A3g _ _) rfl rfl ?_)
 refine B8 ?_
 refine zf15 ?_
 (exact A0p.mk (u := A2q (HMod.hMod (anum + bnum) 1000)) (by rw [if_pos ⟨by omega, by omega⟩, if_pos zO0]) (B7.put (us := []) ⟨by decide, by decide⟩ hb ⟨by decide, by decide⟩ (A1n _) (A1n _) rfl (D7.nil _ _) rfl))
 refine J3 ?_
 (refine sB (J8 rfl rfl) rfl rfl (fun h99 => ?_) (fun h99 => ?_))
 (refine H6 rfl (B2h _ _) rfl rfl (fun u G1 hle1 hh => ?_); obtain ⟨uc, rfl, hru⟩ := hh; have hul := hru.len; have huo := hru.one)
 refine sS rfl rfl rfl hul huo rfl ?_ (hu := by exact E0 hul.symm)
 refine B1 ?_
 refine E5 (rC rfl (A3 rfl rfl (B9 zG0) hul)) (rT rfl) (rT rfl) ?_
 (exact A0p.mk (by rw [if_pos ⟨by omega, by omega⟩, if_neg zO0]; unfold U3; rw [if_pos zO0, if_pos rfl]) hru)
 (refine H6 rfl (B2h _ _) rfl rfl (fun u G1 hle1 hh => ?_); obtain ⟨uc, rfl, hru⟩ := hh; have hul := hru.len; have huo := hru.one)
 refine sS rfl rfl rfl hul huo rfl ?_ (hu := by exact E0 hul.symm)
 refine B1 ?_
 refine E5 (rC rfl (A3 rfl rfl (B9 zG0) hul)) (rT rfl) (rT rfl) ?_
 (exact A0p.mk (by rw [if_pos ⟨by omega, by omega⟩, if_neg zO0]; unfold U3; rw [if_neg zO0, if_neg zN0]) hru)
theorem B76 {e : Tm} (h : S6 e = true) : A0e e = R2 [] e := by
 have hs := ((A2R e).1 h).1
 obtain ⟨h1, h2⟩ := A36 e 1 [] 0 hs A4Z
 unfold A0e
 cases hE : P5 [] e 0 with
 | none => rw [B19 h hE, h2 hE]
 | some r =>
  obtain ⟨u, a, l⟩ := r
  rw [B2a h hE, (h1 u a l hE).1]
theorem B77 (h : S4 e = some (u, t)) : S6 e = true ∧ ∃ l, P5 [] e 0 = some (u, t, l) := by
 unfold S4 at h
 split at h
 ·rename_i hv
  refine ⟨hv, ?_⟩
  split at h
  ·rename_i u' t' l' he; cases h; exact ⟨l', he⟩
  ·cases h
 ·cases h
def A8c (t : Ty) (x : Bool) (G : IM) : IM → Value → List A9 → Prop := M3 fun G' v => ∃ cells, v = .tuple ⟨[.agg ⟨cells⟩, .bool x]⟩ ∧ C6 G' (if x = true then t else C5) cells
theorem B78 (t : Ty) (G : IM) (cells : List Value) (hr : C6 G t cells) : Fn prog 103 [.agg ⟨cells⟩, .bool true] [] G (A8c t true G) := by
 obtain ⟨p, c, e, rfl, _⟩ := hr.open
 refine C4 func103 rfl ntmps103 results103 rfl ?_
 intro w0
 refine A5 ?_
 refine zf2 (fun b3 => ?_)
 refine zf1 (fun b4 => ?_)
 refine A1i ?_
 refine zf5 ?_
 (exact ⟨rfl, _, rfl, hr⟩)
theorem B79 (t : Ty) (G : IM) (cells : List Value) (hr : C6 G t cells) : Fn prog 103 [.agg ⟨cells⟩, .bool false] [] G (A8c t false G) := by
 obtain ⟨p, c, e, rfl, _⟩ := hr.open
 refine C4 func103 rfl ntmps103 results103 rfl ?_
 intro w0
 refine A5 ?_
 refine zf2 (fun b3 => ?_)
 refine zf1 (fun b4 => ?_)
 refine A1A ?_
 refine zf5 ?_
 (exact ⟨rfl, _, rfl, N2 _ ⟨by omega, by omega⟩⟩)
theorem B8a (t : Ty) (x : Bool) (G : IM) (cells : List Value) (hr : C6 G t cells) : Fn prog 103 [.agg ⟨cells⟩, .bool x] [] G (A8c t x G) := by
 cases x
 ·exact B79 t G cells hr
 ·exact B78 t G cells hr
variable {cells : List Value} {G' : IM}
theorem A2s.sure {o : Option Ty} (h : ∀ u, o = some u → u = t) (hr : C6 G' (if o.isSome = true then t else C5) cells) : A2s o G G' (.tuple ⟨[.agg ⟨cells⟩, .bool o.isSome]⟩) [] := by
 cases o with
 | none => exact ⟨rfl, cells, C5, rfl, hr, by simp⟩
 | some u => exact ⟨rfl, cells, t, rfl, hr, fun x hx => by cases hx; exact (h _ rfl).symm⟩
theorem B8b (e : Tm) (G : IM) (cells : List Value) (hcnt : H9 e ≤ 4294967296) (hr : B7 G e cells) :
  Fn prog 130 [.slice none 0 0, .agg ⟨cells⟩] [] G (A2s (A0e e) G) := by
 have hl := hr.len
 have hone := hr.one
 have hw := A5U e G cells hcnt hr
 have hT := fun h : S6 e = true => B2f e 1 [] G none 0 0 cells ((A2R e).1 h).1 zO0 A4Z (S9.nil G) hr
 have hts := fun h => @B76 e h
 have hno := @B7Q e
 refine C4 func130 rfl ntmps130 results130 rfl ?_
 intro w0
 refine A5 ?_
 refine zf2 (fun b3 => ?_)
 refine zf1 (fun b4 => ?_)
 refine B8 ?_
 refine F0 rfl ((B6n _)) rfl rfl ?_
 refine A5 ?_
 refine sL (A3 rfl rfl (B9 zG0) zL0) rfl rfl ?_
 refine L4 rfl (hw) rfl rfl (fun h16 => ?_) (fun h16 => ?_)
 refine I9 ?_
 refine sL (A3 rfl rfl (B9 zG0) zL0) rfl rfl ?_
 (refine H6 rfl (hT zL0) rfl rfl (fun v G1 hle1 hh => ?_); obtain ⟨mt, mc, rfl, hmr, hma, hmu⟩ := hh; obtain ⟨p1, c1, e1, rfl, _⟩ := hmr.open; have hmo := hts zL0)
 refine A5 ?_
 (refine H6 rfl (B8a mt _ _ _ hmr) rfl rfl (fun v G2 hle2 hh => ?_); obtain ⟨mc2, rfl, hmr2⟩ := hh; obtain ⟨p2, c2, e2, rfl, _⟩ := hmr2.open)
 refine B8 ?_
 refine zf5 ?_
 (rw [hmo]; exact A2s.sure hmu hmr2)
 refine K5 ?_
 refine zf5 ?_
 (exact A2s.no (u := C5) (N2 _ ⟨by omega, by omega⟩) rfl (hno zL0))
theorem B2i (e : Tm) (G : IM) (cells : List Value) (hcnt : H9 e ≤ 4294967296) (hr : B7 G e cells) :
  Fn prog 78 [.agg ⟨cells⟩] [] G (A2s (A0e e) G) := by
 have hl := hr.len
 have hone := hr.one
 refine C4 func78 rfl ntmps78 results78 rfl ?_
 intro w0
 refine A5 ?_
 refine zf2 (fun b3 => ?_)
 refine zf1 (fun b4 => ?_)
 refine B1 ?_
 refine sL (A3 rfl rfl (B9 zG0) zL0) rfl rfl ?_
 (refine H6 rfl (B8b e G cells hcnt hr) rfl rfl (fun v G1 hle1 hh => ?_); obtain ⟨cu, u, rfl, hru, hu⟩ := hh; obtain ⟨p1, c1, e1, rfl, _⟩ := hru.open)
 refine B8 ?_
 refine zf5 ?_
 (exact ⟨rfl, _, u, rfl, hru, hu⟩)
def A2x (e : Tm) (a b : Ty) (l : Int) : IM → Value → List A9 → Prop := M3 fun G' v => ∃ cells, v = .tuple ⟨[.agg ⟨cells⟩, .int .i64 (if N1 a b = true then l else l + 1)]⟩ ∧ B7 G' (if N1 a b = true then e else O1 e a b l) cells
variable {a b : Ty}
theorem A2x.yes (h : N1 a b = true) (hr : B7 G e cells) : A2x e a b l G (.tuple ⟨[.agg ⟨cells⟩, .int .i64 l]⟩) [] := ⟨rfl, cells, by rw [if_pos h], by rw [if_pos h]; exact hr⟩
theorem A2x.no (h : N1 a b = false) (hr : B7 G (O1 e a b l) cells) : A2x e a b l G (.tuple ⟨[.agg ⟨cells⟩, .int .i64 (l + 1)]⟩) [] := ⟨rfl, cells, by rw [if_neg (by rw [h]; decide)], by rw [if_neg (by rw [h]; decide)]; exact hr⟩
theorem B8c (e : Tm) (a b : Ty) (label : Int) (G : IM) (ce ca cb : List Value) (hlab : -1099511627776 ≤ label ∧ label ≤ 1099511627776) (hr : B7 G e ce) (hra : C6 G a ca) (hrb : C6 G b cb) (hsa : a.small) (hsb : b.small) :
  Fn prog 102 [.agg ⟨ce⟩, .agg ⟨ca⟩, .agg ⟨cb⟩, .int .i64 label] [] G (A2x e a b label) := by
 have hl := hr.len
 have hone := hr.one
 obtain ⟨hlab1, hlab2⟩ := hlab
 have hSame := B7V a b G ca cb hra hrb
 obtain ⟨ak, aks⟩ := a
 obtain ⟨bk, bks⟩ := b
 obtain ⟨pa, cca, ea, rfl, _⟩ := hra.open
 obtain ⟨pb, ccb, eb, rfl, _⟩ := hrb.open
 simp only [Ty.k, Ty.ks] at hra hrb hSame ⊢
 obtain ⟨v1, v2, v3, v4, v5, v6, v7, v8, v9, rfl⟩ := nine hl
 refine C4 func102 rfl ntmps102 results102 rfl ?_
 intro w0
 refine A5 ?_
 refine zf2 (fun b3 => ?_)
 refine zf2 (fun b4 => ?_)
 refine zf2 (fun b5 => ?_)
 refine zf1 (fun b6 => ?_)
 refine D4 ?_
 refine L4 rfl (hSame) rfl rfl (fun h15 => ?_) (fun h15 => ?_)
 refine B1 ?_
 refine sL (A3 rfl rfl (B9 zG0) hl) rfl rfl ?_
 refine I0 ?_
 refine sS rfl rfl rfl hl hone rfl ?_ (hu := by exact E0 hl.symm)
 refine B1 ?_
 refine F4 (rC rfl (A3 rfl rfl (B9 zG0) hl)) (rT rfl) ?_
 (exact A2x.yes zL0 hr)
 refine A7 ?_
 refine zf6 ?_
 refine aL 5 rfl (A3 rfl rfl (B9 zG0) hl) rfl ?_
 refine xx4 0 2 4 8 ?_
 refine aP 9 rfl (J1 rfl rfl zO0 zO0) rfl ?_
 refine N5 (j := 1) (j' := 6) zM0 ?_ ?_
 (refine E6 rfl rfl (W3 _ _ _ hsa hra) rfl rfl rfl (fun v G1 hle1 hh => ?_); obtain ⟨cs1, F1, rfl, hs1, hn1⟩ := hh; obtain ⟨p1, c1, rfl, _⟩ := hs1.open; have hC2 := W3 _ G1 _ hsb (hrb.mono hle1))
 refine N5 (j := 3) (j' := 6) zM0 ?_ ?_
 (refine E6 rfl rfl hC2 rfl rfl rfl (fun v G2 hle2 hh => ?_); obtain ⟨cs2, F2, rfl, hs2, hn2⟩ := hh; obtain ⟨p2, c2, rfl, _⟩ := hs2.open; have hr1 := hs1.R.mono ((E8.le G1 _).trans hle2); have hr2 := hs2.R.mono (E8.le G2 G1); have hre := hr.mono (hle1.trans hle2))
 refine A2 6 ?_
 refine zf3 (fun b49 => ?_)
 exact y34
 refine zf3 (fun b60 => ?_)
 exact y37
 refine zf3 (fun b73 => ?_)
 refine A2 1 ?_
 (refine E6 rfl rfl (W3 _ _ _ hsa hra) rfl rfl rfl (fun v G1 hle1 hh => ?_); obtain ⟨cs1, F1, rfl, hs1, hn1⟩ := hh; obtain ⟨p1, c1, rfl, _⟩ := hs1.open; have hC2 := W3 _ G1 _ hsb (hrb.mono hle1))
 exact y37
def T1 (w ts : List Ty) : List Ty := if w = [] then ts else w
variable {w : List Ty}
theorem A46 {ts : List Ty} : T1 (a :: w) ts = a :: w := by unfold T1; rw [if_neg zP0]
def Z5 (ws : List Ty) (n : Nat) (G : IM) : IM → Value → List A9 → Prop := M3 fun G' v => ∃ p c es, v = .slice p n c ∧ ws.length = n ∧ D7 G' p n c 2 es ∧ E7 G' ws es
variable {ws : List Ty} {n c : Nat} {p : Option Addr}
theorem Z5.mk {ws' : List Ty} {es : List (List Value)} (he : ws = ws') (hl : ws'.length = n) (hs : Sl G' p n c 2 es.flatten) (hst : E7 G' ws' es) : Z5 ws n G G' (.slice p n c) [] := by
 subst he
 exact ⟨rfl, p, c, es, rfl, hl, D7.of hs (by rw [hst.len, hl]) hst.all (fun e he => (hst.each e he).2), hst⟩
variable {ca : List Value}
theorem Z5.mk1 (he : ws = [a]) (hn : n = 1) (hs : Sl G' p 1 c 2 ca) (ha : C6 G' a ca) : Z5 ws n G G' (.slice p 1 c) [] := by
 subst hn
 exact Z5.mk (ws' := [a]) (es := [ca]) he rfl (by simpa using hs) ⟨_, _, rfl, ha, rfl⟩
theorem Z5.mk2 {cb : List Value} (he : ws = [a, b]) (hn : n = 2) (hs : Sl G' p 2 c 2 (ca ++ cb)) (ha : C6 G' a ca) (hb : C6 G' b cb) : Z5 ws n G G' (.slice p 2 c) [] := by
 subst hn
 exact Z5.mk (ws' := [a, b]) (es := [ca, cb]) he rfl (by simpa using hs) ⟨_, _, rfl, ha, _, _, rfl, hb, rfl⟩
theorem Z5.mk3 {d : Ty} {cb cd : List Value} (he : ws = [a, b, d]) (hn : n = 3) (hs : Sl G' p 3 c 2 (ca ++ (cb ++ cd))) (ha : C6 G' a ca) (hb : C6 G' b cb) (hd : C6 G' d cd) : Z5 ws n G G' (.slice p 3 c) [] := by
 subst hn
 exact Z5.mk (ws' := [a, b, d]) (es := [ca, cb, cd]) he rfl (by simpa using hs) ⟨_, _, rfl, ha, _, _, rfl, hb, _, _, rfl, hd, rfl⟩
section
variable {cx : Cx} {k : Int} {nm : ByteArray} {ty : Ty} {ts w : List Ty} {t : Ty}
theorem wo6 (hk : k = 6) (h : M0 cx k nm ty ts = some (w, t)) (hl : 0 < ts.length) : ∃ a b, S7 4 ts[0] = some (a, b) ∧ T1 w ts = [.mk 4 [a, b], a] := by
 subst hk
 rw [mW6, gD hl] at h
 split at h
 ·rename_i a b hm
  split at h
  ·cases h; exact ⟨a, _, hm, A46⟩
  ·cases h
 ·cases h
theorem B8d (hk : k = 7 ∨ k = 8) (h : M0 cx k nm ty ts = some (w, t)) : T1 w ts = [Q7, Q7] := by
 rw [X6 hk] at h
 split at h
 ·cases h; exact A46
 ·cases h
theorem wo9 (hk : k = 9) (h : M0 cx k nm ty ts = some (w, t)) : T1 w ts = [V4, t, t] := by
 subst hk
 rw [mW9] at h
 split at h
 ·cases h; exact A46
 ·cases h
theorem B8e (hk : k = 11 ∨ k = 12) (h : M0 cx k nm ty ts = some (w, t)) (hl : 0 < ts.length) : ∃ a b, S7 5 ts[0] = some (a, b) ∧ T1 w ts = [.mk 5 [a, b]] := by
 rw [A35 hk, gD hl] at h
 split at h
 ·rename_i a b hm; cases h; exact ⟨a, b, hm, A46⟩
 ·cases h
theorem B8f (hk : k = 13) (h : M0 cx k nm ty ts = some (w, t)) : T1 w ts = [t] := by
 subst hk
 rw [A3n] at h
 split at h
 ·cases h; exact A46
 ·cases h
theorem wo0 (hk : 1 ≤ k ∧ k ≤ 5 ∨ k = 10) (h : M0 cx k nm ty ts = some (w, t)) : T1 w ts = ts := by
 have : w = [] := by
  have hk' : k = 1 ∨ k = 2 ∨ (k = 3 ∨ k = 4) ∨ k = 5 ∨ k = 10 := by omega
  rcases hk' with rfl | rfl | hk | rfl | rfl
  ·rw [mW1] at h; split at h <;> cases h; rfl
  ·rw [mW2] at h; cases h; rfl
  ·rw [A4V hk] at h; cases h; rfl
  ·rw [mW5] at h; cases h; rfl
  ·rw [A58] at h; cases h; rfl
 subst this; rfl
end
theorem B8g (cx : Cx) (k : Int) (nm : ByteArray) (num : Int) (ty fr : Ty) (lb : Int) (ks : List Tm) (ts w : List Ty) (t : Ty) (G : IM) (cells tcells : List Value) (p : Option Addr) (c : Nat) (es : List (List Value))
  (hw : M0 cx k nm ty ts = some (w, t)) (hk14 : k ≠ 14) (hops : E4 k = ts.length) (hr : B7 G (.mk k nm num ty fr lb ks) cells) (hsl : D7 G p ts.length c 2 es) (hkl : E7 G ts es) (har : ∀ t ∈ ts, H8 t) (hrt : C6 G t tcells) :
  Fn prog 133 [.agg ⟨cells⟩, .slice p ts.length c, .agg ⟨tcells⟩] [] G (Z5 (T1 w ts) ts.length G) := by
 have hone := hr.one
 have hop := A3Y hops
 have hkr : 1 ≤ k ∧ k ≤ 14 := A42 (by rw [hops]; omega)
 have ha0 := fun h : 0 < ts.length => har _ (List.getElem_mem h)
 obtain ⟨tyk, tyks⟩ := ty
 obtain ⟨fk, fks⟩ := fr
 obtain ⟨tk, tks⟩ := t
 obtain ⟨q9, d9, e9, rfl, _⟩ := hrt.open
 obtain ⟨pt, ct, pf, cf, pk, ck, ek, rfl, hk, hnum, hlb, hrty, hrfr, _, _⟩ := hr.open9
 have o6 := fun h hl => wo6 h hw hl
 have o78 := fun h => B8d h hw
 have o9 := fun h => wo9 h hw
 have o11 := fun h hl => B8e h hw hl
 have o13 := fun h => B8f h hw
 have o0 := fun h => wo0 h hw
 refine C4 func133 rfl ntmps133 results133 rfl ?_
 intro w0
 refine A5 ?_
 refine zf2 (fun b3 => ?_)
 refine zf2 (fun b4 => ?_)
 refine I9 ?_
 refine C2 (tS (tR (sB (qE rfl rfl) rfl rfl (fun h18 => ?_) (fun h18 => ?_))))
 refine B8 ?_
 (have hl2 : ts.length = 2 := hop.1 zO0; obtain ⟨b0, o0', q0, d0, hp0, hat0, hre0, hg0⟩ := hsl.kidTy hkl (i := 0) zO0 zO0; cases hp0; refine sP (B2 (j := 0) rfl rfl rfl zO0) rfl rfl ?_)
 refine sL (A3 rfl rfl (hat0 _) rfl) rfl rfl ?_
 (obtain ⟨ma', mb', hm, hwo⟩ := o6 zO0 zO0; refine H6 rfl (A4a 4 ts[0] G _ (.inl rfl) (ha0 zO0) hre0) rfl rfl (fun v G1 hle1 hh => ?_); obtain ⟨ma, mca, mb, mcb, rfl, hma, hmb, hma2, hmb2, hpp⟩ := hh; have hpe := hpp _ hm; simp only [Prod.mk.injEq] at hpe; obtain ⟨rfl, rfl⟩ := hpe; obtain ⟨p1, c1, e1, rfl, _⟩ := hma.open; obtain ⟨p2, c2, e2, rfl, _⟩ := hmb.open; have hTwo := A3r 4 _ _ G1 _ _ (.inl rfl) hma2 hmb2 hma hmb)
 refine B6 ?_
 refine zf1 (fun b33 => ?_)
 refine zf1 (fun b34 => ?_)
 refine E1 ?_
 (refine H6 rfl hTwo rfl rfl (fun v G2 hle2 hh => ?_); obtain ⟨mc, rfl, hmr⟩ := hh; obtain ⟨p3, c3, e3, rfl, _⟩ := hmr.open; have hma4 := hma.mono hle2)
 refine B5 ?_
 refine zf1 (fun b48 => ?_)
 refine D4 ?_
 refine zf7 (fun b57 => ?_)
 refine B5 ?_
 (refine H1 zB0 (fun G5 hle5 hsl5 hno5 => ?_))
 refine B6 ?_
 (exact Z5.mk2 hwo (hop.1 zO0) hsl5 (hmr.mono hle5) (hma4.mono hle5))
 refine B8 ?_
 refine zf0 (fun h74 => ?_) (fun h74 => ?_)
 refine E1 ?_
 refine F0 rfl ((A0X _)) rfl rfl ?_
 refine F0 rfl ((A0X _)) rfl rfl ?_
 refine zf7 (fun b86 => ?_)
 refine B5 ?_
 (refine H1 zB0 (fun G5 hle5 hsl5 hno5 => ?_))
 refine B6 ?_
 (exact Z5.mk2 (o78 zO0) (hop.1 zO0) hsl5 (K9 _) (K9 _))
 refine B1 ?_
 refine zf0 (fun h101 => ?_) (fun h101 => ?_)
 refine A7 ?_
 refine F0 rfl ((A0X _)) rfl rfl ?_
 refine F0 rfl ((A0X _)) rfl rfl ?_
 refine zf7 (fun b110 => ?_)
 refine B5 ?_
 (refine H1 zB0 (fun G5 hle5 hsl5 hno5 => ?_))
 refine B6 ?_
 (exact Z5.mk2 (o78 zO0) (hop.1 zO0) hsl5 (K9 _) (K9 _))
 refine A7 ?_
 refine zf0 (fun h126 => ?_) (fun h126 => ?_)
 refine B1 ?_
 refine zf6 ?_
 refine xx2 1 2 ?_
 refine A2 0 ?_
 refine M9 rfl rfl ((A3W _)) rfl rfl rfl ?_
 refine A2 3 ?_
 refine zf3 (fun b138 => ?_)
 refine xx1 4 ?_
 refine A5 ?_
 (refine H1 zB0 (fun G5 hle5 hsl5 hno5 => ?_))
 refine B6 ?_
 (exact Z5.mk3 (o9 zO0) (hop.2.1 zO0) hsl5 (A0A _) (hrt.mono hle5) (hrt.mono hle5))
 refine B8 ?_
 refine zf0 (fun h155 => ?_) (fun h155 => ?_)
 refine I9 ?_
 (have hl1 : ts.length = 1 := hop.2.2 zO0; obtain ⟨b0, o0', q0, d0, hp0, hat0, hre0, hg0⟩ := hsl.kidTy hkl (i := 0) zO0 zO0; cases hp0; refine sP (B2 (j := 0) rfl rfl rfl zO0) rfl rfl ?_)
 refine sL (A3 rfl rfl (hat0 _) rfl) rfl rfl ?_
 (obtain ⟨ma', mb', hm, hwo⟩ := o11 zO0 zO0; refine H6 rfl (A4a 5 ts[0] G _ (.inr rfl) (ha0 zO0) hre0) rfl rfl (fun v G1 hle1 hh => ?_); obtain ⟨ma, mca, mb, mcb, rfl, hma, hmb, hma2, hmb2, hpp⟩ := hh; have hpe := hpp _ hm; simp only [Prod.mk.injEq] at hpe; obtain ⟨rfl, rfl⟩ := hpe; obtain ⟨p1, c1, e1, rfl, _⟩ := hma.open; obtain ⟨p2, c2, e2, rfl, _⟩ := hmb.open; have hTwo := A3r 5 _ _ G1 _ _ (.inr rfl) hma2 hmb2 hma hmb)
 refine B6 ?_
 refine zf1 (fun b173 => ?_)
 refine zf1 (fun b174 => ?_)
 refine E1 ?_
 (refine H6 rfl hTwo rfl rfl (fun v G2 hle2 hh => ?_); obtain ⟨mc, rfl, hmr⟩ := hh; obtain ⟨p3, c3, e3, rfl, _⟩ := hmr.open; have hma4 := hma.mono hle2)
 refine B5 ?_
 refine zf1 (fun b188 => ?_)
 refine B8 ?_
 refine zf7 (fun b196 => ?_)
 refine B5 ?_
 (refine H1 zB0 (fun G5 hle5 hsl5 hno5 => ?_))
 refine B6 ?_
 (exact Z5.mk1 hwo (hop.2.2 zO0) hsl5 (hmr.mono hle5))
 refine B1 ?_
 refine zf0 (fun h211 => ?_) (fun h211 => ?_)
 refine B8 ?_
 (have hl1 : ts.length = 1 := hop.2.2 zO0; obtain ⟨b0, o0', q0, d0, hp0, hat0, hre0, hg0⟩ := hsl.kidTy hkl (i := 0) zO0 zO0; cases hp0; refine sP (B2 (j := 0) rfl rfl rfl zO0) rfl rfl ?_)
 refine sL (A3 rfl rfl (hat0 _) rfl) rfl rfl ?_
 (obtain ⟨ma', mb', hm, hwo⟩ := o11 zO0 zO0; refine H6 rfl (A4a 5 ts[0] G _ (.inr rfl) (ha0 zO0) hre0) rfl rfl (fun v G1 hle1 hh => ?_); obtain ⟨ma, mca, mb, mcb, rfl, hma, hmb, hma2, hmb2, hpp⟩ := hh; have hpe := hpp _ hm; simp only [Prod.mk.injEq] at hpe; obtain ⟨rfl, rfl⟩ := hpe; obtain ⟨p1, c1, e1, rfl, _⟩ := hma.open; obtain ⟨p2, c2, e2, rfl, _⟩ := hmb.open; have hTwo := A3r 5 _ _ G1 _ _ (.inr rfl) hma2 hmb2 hma hmb)
 refine B6 ?_
 refine zf1 (fun b226 => ?_)
 refine zf1 (fun b227 => ?_)
 refine E1 ?_
 (refine H6 rfl hTwo rfl rfl (fun v G2 hle2 hh => ?_); obtain ⟨mc, rfl, hmr⟩ := hh; obtain ⟨p3, c3, e3, rfl, _⟩ := hmr.open; have hma4 := hma.mono hle2)
 refine B5 ?_
 refine zf1 (fun b241 => ?_)
 refine B8 ?_
 refine zf7 (fun b249 => ?_)
 refine B5 ?_
 (refine H1 zB0 (fun G5 hle5 hsl5 hno5 => ?_))
 refine B6 ?_
 (exact Z5.mk1 hwo (hop.2.2 zO0) hsl5 (hmr.mono hle5))
 refine A7 ?_
 refine zf0 (fun h265 => ?_) (fun h265 => ?_)
 refine B8 ?_
 refine zf7 (fun b273 => ?_)
 refine B5 ?_
 (refine H1 zB0 (fun G5 hle5 hsl5 hno5 => ?_))
 refine B6 ?_
 (exact Z5.mk1 (o13 zO0) (hop.2.2 zO0) hsl5 (hrt.mono hle5))
 refine K1 ?_
 (exact Z5.mk (o0 zO0) rfl hsl.sl hkl)
theorem B2j : ∀ (us : List Tm) (h : List Ty) (l : Int), J4 us h h l = (us, l)
 | [], h, l => by simp [J4]
 | u :: us, [], l => by simp [J4]
 | u :: us, a :: h, l => by simp only [J4, A7t, if_true, B2j us h l]
theorem A6j {us : List Tm} {h : List Ty} : J4 us h (T1 w h) l = J4 us h w l := by
 unfold T1
 split
 ·rename_i hw; subst hw; rw [B2j, A1b]
 ·rfl
theorem B8h {k : Int} {nm : ByteArray} {ty : Ty} {h : List Ty} (hh : ∀ a ∈ h, H7 a = true) (hw : Wt cx k nm ty h w t) : ∀ a ∈ T1 w h, H7 a = true := by
 intro a ha
 unfold T1 at ha
 split at ha
 ·exact hh a ha
 ·rename_i hne
  obtain ⟨i, hi, rfl⟩ := List.mem_iff_getElem.1 ha
  exact (hw.ok i hi (by rcases hw.len with h1 | h1; exact absurd h1 hne; omega)).2
def B8i (u : Tm) (t : Ty) (l : Int) (G : IM) : IM → Value → List A9 → Prop := M3 fun G' v => ∃ cu ct, v = .tuple ⟨[.agg ⟨cu⟩, .agg ⟨ct⟩, .int .i64 (l + 1)]⟩ ∧ B7 G' u cu ∧ C6 G' t ct
theorem B2k {cx : Cx} : ∀ {ks : List Tm} {l : Int} {us : List Tm} {h : List Ty} {l' : Int}, O2 cx ks l = some (us, h, l') → us.length = ks.length ∧ h.length = ks.length
 | [], l, us, h, l', he => by simp only [O2, Option.some.injEq, Prod.mk.injEq] at he; obtain ⟨rfl, rfl, _⟩ := he; exact ⟨rfl, rfl⟩
 | t :: ts, l, us, h, l', he => by
  rw [O2] at he
  split at he
  ·cases he
  ·split at he
   ·cases he
   ·rename_i hz
    simp only [Option.some.injEq, Prod.mk.injEq] at he
    obtain ⟨rfl, rfl, _⟩ := he
    have := B2k hz
    simp [this.1, this.2]
theorem B8j : ∀ (e : Tm) (d : Int) (cx : Cx) (l0 : Int) (u0 : Tm) (t0 : Ty) (l1 : Int) (G : IM) (p : Option Addr) (n c : Nat) (cells : List Value), P5 cx e l0 = some (u0, t0, l1) → O9 12 14 e d = true → (n : Int) ≤ d → cxV cx → S9 G cx p n c → B7 G e cells → 0 ≤ l0 → l0 + (H9 e : Int) ≤ 1000000000 →
  Fn prog 79 [.slice p n c, .agg ⟨cells⟩, .int .i64 (l0 + 1)] [] G (B8i u0 t0 l1 G) := by
 refine Tm.ind fun k nm num ty fr lb ks ih d cx l0 u0 t0 l1 G p n c cells hel hv hnd hcv hx hr hl0 hlc => ?_
 have hr0 := hr
 have hone := hr.one
 have hT := B2f _ d cx G p n c cells hv hnd hcv hx hr
 obtain ⟨hts1, hts2⟩ := (A36 _ d cx l0 hv hcv).1 u0 t0 l1 hel
 rw [hts1] at hT
 have hsm := B0K _ d hv
 obtain ⟨hv1, hv2, hv3, hv4⟩ := A07 hv
 have hvk := (A1Q 12 14 ks _).1 hv4
 have har := (W0.1 hv3).1
 have hop := A3Y har
 obtain ⟨hta, hts⟩ := A3Z hv3
 have hcvX : cxV (L5 cx k nm ty) := A40 hcv fun hk => (W0.1 hv3).2.2.2.2.2.1 (.inl hk)
 have hck : H9 (.mk k nm num ty fr lb ks) = I3 ks + 1 := A2r ..
 rw [hck] at hlc
 rw [P5] at hel
 rcases hEL : O2 (L5 cx k nm ty) ks l0 with _ | ⟨usA, tsA, lA⟩
 ·rw [hEL] at hel; cases hel
 rw [hEL] at hel
 unfold A2t at hel
 rcases hNT : U6 cx k nm ty tsA with _ | ⟨w, t9⟩
 ·simp only [hNT] at hel; cases hel
 simp only [hNT, Option.some.injEq, Prod.mk.injEq] at hel
 obtain ⟨hu0, rfl, rfl⟩ := hel
 obtain ⟨hlA1, hlA2⟩ := B2k hEL
 have hmw := (A59 hNT).2
 obtain ⟨_, htv, _⟩ := (B1h ks (fun t ht d' cx' l' h1 h2 => A36 t d' cx' l' h1 h2) (d + 1) _ l0 hv4 hcvX).1 usA tsA lA hEL
 have hcAll := A1X usA tsA w lA
 have hWV : ∀ a ∈ T1 w tsA, H7 a = true := B8h htv (B11 htv (fun hk => (W0.1 hv3).2.2.2.2.2.1 (.inr (.inl hk))) (by rw [hlA2]; exact har) hv2 hmw)
 obtain ⟨tk, tks⟩ := ty
 obtain ⟨fk, fks⟩ := fr
 obtain ⟨pt, ct, pf, cf, q, cq, es, rfl, hk, hnum, hlb, hty, hfr, hsl, hkl⟩ := hr.open9
 have hlen : ks.length ≤ 3 := by have := A1G k; omega
 have hk13 : k = 13 → ks.length = 1 := fun h => hop.2.2 zO0
 refine C4 func79 rfl ntmps79 results79 rfl ?_
 intro w0
 refine A5 ?_
 refine zf2 (fun b3 => ?_)
 refine zf1 (fun b4 => ?_)
 refine zf1 (fun b5 => ?_)
 refine B8 ?_
 (refine H6 rfl hT rfl rfl (fun v G1 hle1 hh => ?_); obtain ⟨mt, mc, rfl, hmr, hma, hmu⟩ := hh; obtain rfl := hmu _ rfl; obtain ⟨p1, d1, e1, rfl, _⟩ := hmr.open; have hC := B0p _ G1 _ hsm (hr0.mono hle1))
 refine B5 ?_
 refine zf1 (fun b17 => ?_)
 refine B8 ?_
 (refine H6 rfl hC rfl rfl (fun v G2 hle2 hh => ?_); obtain ⟨cs1, F1, rfl, hs1, hn1⟩ := hh; have hr1 := hs1.R.mono (E8.le G2 G1); obtain ⟨q1, c1, q2, c2, q3, c3, es1, rfl, _, _, _, hty1, hfr1, _, _⟩ := hr1.open9; have hle02 := hle1.trans hle2; replace hx := hx.mono hle02; replace hty := hty.mono hle02; replace hsl := hsl.mono hle02; replace hkl := hkl.mono hle02; replace hmr := hmr.mono hle2; replace hr0 := hr0.mono hle02)
 refine zf1 (fun b26 => ?_)
 refine J3 ?_
 (show J9 _ _ (.region 4 ..) _ _; refine P4 (fun (x : Bool) => ⟨[(30, .bool x), (0, .slice p n c), (2, .int .i64 (l0 + 1)), (4, .pointer (some ⟨b3, 0, none⟩)), (6, .pointer (some ⟨b4, 0, none⟩)), (7, .pointer (some ⟨b5, 0, none⟩)), (9, .pointer (some ⟨b17, 0, none⟩)), (11, .pointer (some ⟨b26, 0, none⟩))], [.blk b26 [.int .i64 k, .string nm, .int .i64 num, .int .i64 tk, .slice q1 tks.length c1, .int .i64 fk, .slice q2 fks.length c2, .int .i64 lb, .slice none 0 0], .blk b17 [.int .i64 t9.k, .slice p1 t9.ks.length d1], .blk b5 [.int .i64 0, .slice none 0 0], .blk b4 zq9, .blk b3 [.int .i64 k, .string nm, .int .i64 num, .int .i64 tk, .slice pt tks.length ct, .int .i64 fk, .slice pf fks.length cf, .int .i64 lb, .slice q ks.length cq]], G2⟩) (fun x => x = true ↔ k = 5) ?_ ?_)
 ·refine B5 ?_
  refine zf0 (fun h42 => ?_) (fun h42 => ?_)
  ·refine sD ?_
   refine E2 true (D6 zA0 zQ) ⟨fun _ => zO0, fun _ => rfl⟩
  ·refine sD ?_
   refine E2 false (D6 zA0 zQ) ⟨fun h => (by cases h), fun _ => zO0⟩
 ·(rintro (x : Bool) hx5)
  (show J9 _ _ (.cond (.tmp 30) _ _) _ _; refine P4 (fun (x : Option Addr × Nat × Nat × IM) => ⟨[(0, .slice x.1 x.2.1 x.2.2.1), (2, .int .i64 (l0 + 1)), (4, .pointer (some ⟨b3, 0, none⟩)), (6, .pointer (some ⟨b4, 0, none⟩)), (7, .pointer (some ⟨b5, 0, none⟩)), (9, .pointer (some ⟨b17, 0, none⟩)), (11, .pointer (some ⟨b26, 0, none⟩))], [.blk b26 [.int .i64 k, .string nm, .int .i64 num, .int .i64 tk, .slice q1 tks.length c1, .int .i64 fk, .slice q2 fks.length c2, .int .i64 lb, .slice none 0 0], .blk b17 [.int .i64 t9.k, .slice p1 t9.ks.length d1], .blk b5 [.int .i64 0, .slice none 0 0], .blk b4 zq9, .blk b3 [.int .i64 k, .string nm, .int .i64 num, .int .i64 tk, .slice pt tks.length ct, .int .i64 fk, .slice pf fks.length cf, .int .i64 lb, .slice q ks.length cq]], x.2.2.2⟩) (fun x => C3 G2 x.2.2.2 ∧ S9 x.2.2.2 (L5 cx k nm (.mk tk tks)) x.1 x.2.1 x.2.2.1 ∧ (x.2.1 : Int) ≤ d + 1) (A4n rfl (fun hxt => ?_) (fun hxf => ?_)) ?_)
  ·refine A7 ?_
   (refine H6 rfl (B2c G2 cx p n c nm (.mk tk tks) _ hx zO0 hty) rfl rfl (fun v G3 hle3 hh => ?_); obtain ⟨pm0, cm0, rfl, hxm⟩ := hh)
   refine A5 ?_
   refine E2 (pm0, n + 1, cm0, G3) (D6 zA0 zQ) ?_
   (dsimp only; exact ⟨hle3, by rw [L5, if_pos (hx5.1 zL0)]; exact hxm, by omega⟩)
  ·refine tK ?_
   refine E2 (p, n, c, G2) (D6 zA0 zQ) ?_
   (dsimp only; exact ⟨C3.refl _, by rw [L5, if_neg (fun h => by have := hx5.2 h; rw [this] at hxf; cases hxf)]; exact hx, by omega⟩)
  ·(rintro ⟨(px : Option Addr), nx, cxx, Gx⟩ ⟨hleX, hxX, hnX⟩; simp only [] at hleX hxX hnX ⊢; replace hty1 := hty1.mono hleX; replace hfr1 := hfr1.mono hleX; replace hsl := hsl.mono hleX; replace hkl := hkl.mono hleX; replace hmr := hmr.mono hleX; replace hr0 := hr0.mono hleX)
   refine A5 ?_
   refine zf7 (fun b66 => ?_)
   refine E1 ?_
   refine C2 ?_
   (refine V1 28 9 ?_; refine K2 (fun (x : Nat × (Option Addr × Nat × List Tm × List (List Value)) × (Option Addr × Nat × List Ty × List (List Value)) × Int × IM) => ⟨[(13, .int .i64 x.1), (12, .slice x.2.2.1.1 x.1 x.2.2.1.2.1), (0, .slice px nx cxx), (2, .int .i64 (x.2.2.2.1 + 1)), (4, .pointer (some ⟨b3, 0, none⟩)), (6, .pointer (some ⟨b4, 0, none⟩)), (7, .pointer (some ⟨b5, 0, none⟩)), (9, .pointer (some ⟨b17, 0, none⟩)), (11, .pointer (some ⟨b26, 0, none⟩))], [.blk b26 [.int .i64 k, .string nm, .int .i64 num, .int .i64 tk, .slice q1 tks.length c1, .int .i64 fk, .slice q2 fks.length c2, .int .i64 lb, .slice x.2.1.1 x.1 x.2.1.2.1], .slc x.2.1.1 x.2.1.2.1 28 9 x.1 x.2.1.2.2.2.flatten, .slc x.2.2.1.1 x.2.2.1.2.1 25 2 x.1 x.2.2.1.2.2.2.flatten, .blk b17 [.int .i64 t9.k, .slice p1 t9.ks.length d1], .blk b5 [.int .i64 0, .slice none 0 0], .blk b4 zq9, .blk b3 [.int .i64 k, .string nm, .int .i64 num, .int .i64 tk, .slice pt tks.length ct, .int .i64 fk, .slice pf fks.length cf, .int .i64 lb, .slice q ks.length cq]], x.2.2.2.2⟩) (fun x => x.1 ≤ ks.length ∧ C3 Gx x.2.2.2.2 ∧ x.2.1.2.2.1.length = x.1 ∧ H4 x.2.2.2.2 x.2.1.2.2.1 x.2.1.2.2.2 ∧ x.2.2.1.2.2.1.length = x.1 ∧ E7 x.2.2.2.2 x.2.2.1.2.2.1 x.2.2.1.2.2.2 ∧ O2 (L5 cx k nm (.mk tk tks)) (ks.take x.1) l0 = some (x.2.1.2.2.1, x.2.2.1.2.2.1, x.2.2.2.1) ∧ l0 ≤ x.2.2.2.1 ∧ x.2.2.2.1 + x.1 ≤ l0 + (I3 (ks.take x.1) : Int)) (fun x => ks.length - x.1) (0, (none, 0, [], []), (some ⟨b66, 0, none⟩, 0, [], []), l0, Gx) ?_ ?_ ?_)
   ·(simp only [List.take_zero, A1b]; exact (D6 zA0 zQ))
   ·(exact ⟨by simp, C3.refl _, rfl, by simp [H4], rfl, by simp [E7], by simp [O2], Int.le_refl _, by simp [I3]⟩)
   ·(rintro ⟨i, ⟨pn, cn, us, es'⟩, ⟨pm, cm, ts, ess⟩, l, Gi⟩ ⟨hi, hle, hlu, hst, hlt, hstt, hml, hl1, hl2⟩; simp only [] at hi hle hlu hst hlt hstt hml hl1 hl2 ⊢; replace hty1 := hty1.mono hle; replace hfr1 := hfr1.mono hle; replace hsl := hsl.mono hle; replace hkl := hkl.mono hle; replace hmr := hmr.mono hle; replace hr0 := hr0.mono hle; replace hxX := hxX.mono hle)
    refine B8 ?_
    refine zf8 (fun h88 => ?_) (fun h88 => ?_)
    ·refine A7 ?_
     refine C2 ?_
     refine A7 ?_
     (obtain ⟨b, o, e, rfl, hl, hate, hre, hgb⟩ := hsl.kidTm hkl (i := i) zO0 zO0; have hsc := A3L (ks := ks) (i := i) zO0; have hsk := A3K (ks := ks) (i := i) zO0; rcases hE : P5 (L5 cx k nm (Ty.mk tk tks)) ks[i] l with _ | ⟨u, t, l3⟩; (have hno := A77 zO0 hml hE; rw [hEL] at hno; cases hno); have hlm := A79.el_mono _ _ _ _ _ _ hE; have hlx := B13 ks[i] (d + 1) _ l u t l3 (hvk i zO0) hE; refine sP (B2 rfl rfl rfl zO0) rfl rfl ?_)
     refine sL (A3 rfl rfl (hate _) hl) rfl rfl ?_
     refine I0 ?_
     (refine H6 rfl (ih ks[i] (List.getElem_mem zO0) (d + 1) _ l u t l3 Gi px nx cxx _ hE (hvk i zO0) zO0 hcvX hxX hre zO0 zO0) rfl rfl (fun v G3 hle3 hh => ?_); obtain ⟨uc, tc, rfl, hru, hrt⟩ := hh; obtain ⟨v1, v2, v3, v4, v5, v6, v7, v8, v9, rfl⟩ := nine hru.len; obtain ⟨p3, c3, e3, rfl, _⟩ := hrt.open; have hlu9 := hru.len; have hou9 := hru.one)
     refine B6 ?_
     refine zf1 (fun b110 => ?_)
     refine zf1 (fun b111 => ?_)
     refine sS rfl rfl rfl hlu9 hou9 rfl ?_ (hu := by exact E0 hlu9.symm)
     refine E1 ?_
     refine zf7 (fun b122 => ?_)
     refine A2g rfl rfl rfl rfl rfl (fun _ _ => by repeat (first | exact Sw.here | apply Sw.there)) (O4 zG0) rfl (fun u hu => List.all_eq_true.1 hou9 u hu) zJ0 zO0 rfl (fun pn' cn' => ?_)
     refine D4 ?_
     refine zf7 (fun b132 => ?_)
     refine A2g rfl rfl rfl rfl rfl (fun _ _ => by repeat (first | exact Sw.here | apply Sw.there)) (O4 zG0) rfl zI0 zJ0 zO0 rfl (fun pm' cm' => ?_)
     refine J3 ?_
     refine zf4 ?_
     refine A5 ?_
     refine J7 (i + 1, (pn', cn', us ++ [u], es' ++ [[v1, v2, v3, v4, v5, v6, v7, v8, v9]]), (pm', cm', ts ++ [t], ess ++ [[.int .i64 t.k, .slice p3 t.ks.length c3]]), l3, G3) ?_ ?_ ?_
     ·(simp only [J5]; exact E3)
     ·(dsimp only; exact ⟨by omega, hle.trans hle3, by simp [hlu], H4.snoc (hst.mono hle3) hru, by simp [hlt], E7.snoc (hstt.mono hle3) hrt, A43 zO0 hml hE, by omega, by omega⟩)
     ·(show ks.length - (i + 1) < ks.length - i; omega)
    ·refine K7 ?_
     (obtain rfl : i = ks.length := zO0; rw [List.take_length] at hml hl2; rw [hEL] at hml; simp only [Option.some.injEq, Prod.mk.injEq] at hml; obtain ⟨rfl, rfl, rfl⟩ := hml; refine V7 (cs := ess.flatten) zB0 (fun G4 hle4 hsl4 hno4 => ?_); have hstt4 := hstt.mono hle4; have hslT : D7 G4 pm ks.length cm 2 ess := D7.of hsl4 (by rw [hstt4.len, hlt]) hstt4.all (fun e he => (hstt4.each e he).2); have hW := B8g cx k nm num (.mk tk tks) (.mk fk fks) lb ks _ w _ G4 _ _ pm cm ess hmw hv2 (by rw [hlt]; exact har) (hr0.mono hle4) (by rw [hlt]; exact hslT) hstt4 (fun t ht => A3t (htv t ht)) (hmr.mono hle4); rw [hlt] at hW; refine H6 rfl hW rfl rfl (fun v G5 hle5 hh => ?_); obtain ⟨pw, cw, esw, rfl, hlw, hsw, hstw⟩ := hh; have hle45 := hle4.trans hle5; replace hty1 := hty1.mono hle45; replace hfr1 := hfr1.mono hle45; replace hmr := hmr.mono hle45; replace hst := hst.mono hle45; replace hslT := hslT.mono hle5; replace hstt := hstt.mono hle45; rcases Nat.eq_zero_or_pos ks.length with h0 | h0)
     ·refine E1 ?_
      refine C2 ?_
      (have h0' : ks.length = 0 := h0; refine K2 (fun (_ : Nat) => ⟨[(18, .int .i64 0), (17, .slice pw ks.length cw), (12, .slice pm ks.length cm), (2, .int .i64 (lA + 1)), (4, .pointer (some ⟨b3, 0, none⟩)), (6, .pointer (some ⟨b4, 0, none⟩)), (7, .pointer (some ⟨b5, 0, none⟩)), (9, .pointer (some ⟨b17, 0, none⟩)), (11, .pointer (some ⟨b26, 0, none⟩))], [.blk b26 [.int .i64 k, .string nm, .int .i64 num, .int .i64 tk, .slice q1 tks.length c1, .int .i64 fk, .slice q2 fks.length c2, .int .i64 lb, .slice pn ks.length cn], .slc pn cn 28 9 ks.length es'.flatten, .blk b17 [.int .i64 t9.k, .slice p1 t9.ks.length d1], .blk b5 [.int .i64 0, .slice none 0 0], .blk b4 zq9, .blk b3 [.int .i64 k, .string nm, .int .i64 num, .int .i64 tk, .slice pt tks.length ct, .int .i64 fk, .slice pf fks.length cf, .int .i64 lb, .slice q ks.length cq]], G5⟩) (fun _ => True) (fun i => i) 0 ?_ ?_ ?_)
      ·exact E3
      ·trivial
      ·(rintro (i0 : Nat) _)
       refine A7 ?_
       refine sP (A3H rfl rfl zO0) rfl rfl ?_
       refine K7 ?_
       refine zf11 ?_
       refine A7 ?_
       refine zf6 ?_
       refine xx3 0 1 2 ?_
       refine A2 3 ?_
       refine oS rfl rfl rfl rfl rfl rfl rfl rfl ?_
       refine A2 4 ?_
       refine oS rfl rfl rfl rfl rfl rfl rfl rfl ?_
       refine xx1 5 ?_
       refine A5 ?_
       (refine H1 (cs := es'.flatten) zB0 (fun G8 hle8 hsl8 hno8 => ?_); have hst8 := hst.mono hle8)
       refine tT ?_
       refine zf20 ?_
       (have hu9 : usA = [] := List.length_eq_zero_iff.1 zO0; have hne : k ≠ 13 := (fun h => by have := hk13 h; omega); have hz : J4 usA tsA w lA = (usA, lA) := (by rw [hu9]; simp [J4]); rw [if_neg hne, hz] at hu0; subst hu0; rw [hz]; exact ⟨rfl, _, _, rfl, B7.put hk hnum hlb (hty1.mono hle8) (hfr1.mono hle8) hlA1.symm (D7.of hsl8 (by rw [hst8.len, hlA1]) hst8.all (fun e he => (hst8.each e he).2)) hst8, hmr.mono hle8⟩)
     ·(refine A3j (cs := es'.flatten) zB0 h0 (fun bc C hpe hnc hcm => ?_); subst hpe; refine sQ (qA rfl) rfl ?_)
      refine D4 ?_
      refine C2 ?_
      (have hLoop2 := hlw; refine K2 (fun (x : Nat × List (List Value) × IM) => ⟨[(18, .int .i64 x.1), (17, .slice pw ks.length cw), (12, .slice pm ks.length cm), (2, .int .i64 ((J4 usA tsA ((T1 w tsA).take x.1) lA).2 + 1)), (4, .pointer (some ⟨b3, 0, none⟩)), (6, .pointer (some ⟨b4, 0, none⟩)), (7, .pointer (some ⟨b5, 0, none⟩)), (9, .pointer (some ⟨b17, 0, none⟩)), (11, .pointer (some ⟨b26, 0, none⟩))], [.blk b26 [.int .i64 k, .string nm, .int .i64 num, .int .i64 tk, .slice q1 tks.length c1, .int .i64 fk, .slice q2 fks.length c2, .int .i64 lb, .slice (some ⟨bc, 0, none⟩) ks.length cn], .blk bc (x.2.1.flatten ++ C), .blk b17 [.int .i64 t9.k, .slice p1 t9.ks.length d1], .blk b5 [.int .i64 0, .slice none 0 0], .blk b4 zq9, .blk b3 [.int .i64 k, .string nm, .int .i64 num, .int .i64 tk, .slice pt tks.length ct, .int .i64 fk, .slice pf fks.length cf, .int .i64 lb, .slice q ks.length cq]], x.2.2⟩) (fun x => x.1 ≤ ks.length ∧ C3 G5 x.2.2 ∧ H4 x.2.2 (J4 usA tsA ((T1 w tsA).take x.1) lA).1 x.2.1) (fun x => ks.length - x.1) (0, es', G5) ?_ ?_ ?_)
      ·(simp only [List.take_zero, A1b]; exact (D6 zA0 zQ))
      ·(exact ⟨Nat.zero_le _, C3.refl _, by simp only [List.take_zero, A1b]; exact hst⟩)
      ·(rintro ⟨j, es2, G6⟩ ⟨hj, hle6, hst2⟩; simp only [] at hj hle6 hst2 ⊢; replace hty1 := hty1.mono hle6; replace hfr1 := hfr1.mono hle6; replace hmr := hmr.mono hle6; replace hslT := hslT.mono hle6; replace hstt := hstt.mono hle6; replace hsw := hsw.mono hle6; replace hstw := hstw.mono hle6; have hle2s := hst2.len; rw [A2w] at hle2s; have hall2 := hst2.all)
       refine A7 ?_
       refine zf8 (fun h242 => ?_) (fun h242 => ?_)
       ·refine A7 ?_
        refine C2 ?_
        (have hjw : j < (T1 w tsA).length := zO0; obtain ⟨bt, ot, qt, dt, hpt, hatt, hrtt, hgt⟩ := hslT.kidTy hstt (i := j) zO0 zO0; obtain ⟨bw, ow, qw, dw, hpw, hatw, hrtw, hgw⟩ := (show D7 G6 pw (T1 w tsA).length cw 2 esw from by rw [hlw]; exact hsw).kidTy hstw (i := j) zO0 zO0; cases hpt; cases hpw; obtain ⟨m1, m2, _⟩ := A44 usA tsA (T1 w tsA) lA j hjw zO0 zO0; obtain ⟨m3, m4⟩ := B1V (us := usA) (h := tsA) (w := T1 w tsA) (l := lA) hjw zO0 zO0; obtain ⟨hE1, hE2⟩ := hst2.at2 (i := j) zO0 zO0; rw [m2] at hE2; have hE3 := hE2.len; have hcj := A1X usA tsA ((T1 w tsA).take j) lA; refine zdd D9 rfl ?_)
        refine xx6 0 1 2 3 4 5 ?_
        refine aP 6 rfl (B2 (j := j) rfl rfl rfl zO0) rfl ?_
        refine aL 7 rfl (A3 rfl rfl (A50 (es := es2) zG0 zO0 hall2) hE3) rfl ?_
        refine xx2 8 9 ?_
        refine aP 10 rfl (B2 (j := j) rfl rfl rfl zO0) rfl ?_
        refine aL 11 rfl (A3 rfl rfl (hatt _) rfl) rfl ?_
        refine xx2 12 13 ?_
        refine aP 14 rfl (B2 (j := j) rfl rfl rfl zO0) rfl ?_
        refine aL 15 rfl (A3 rfl rfl (hatw _) rfl) rfl ?_
        refine xx1 16 ?_
        refine A2 17 ?_
        (have hwsm := (A3t (hWV _ (List.getElem_mem (show j < (T1 w tsA).length by omega)))).small; refine E6 rfl rfl (B8c usA[j] tsA[j] (T1 w tsA)[j] _ _ _ _ _ zO0 hE2 hrtt hrtw (A3t (htv _ (List.getElem_mem zO0))).small hwsm) rfl rfl rfl (fun v G7 hle7 hh => ?_); obtain ⟨uc, rfl, hru⟩ := hh; rw [show (if N1 tsA[j] (T1 w tsA)[j] = true then (J4 usA tsA ((T1 w tsA).take j) lA).2 + 1 else (J4 usA tsA ((T1 w tsA).take j) lA).2 + 1 + 1) = (J4 usA tsA ((T1 w tsA).take (j + 1)) lA).2 + 1 from by rw [m4]; split <;> rfl]; have hlu9 := hru.len; have hou9 := hru.one)
        refine xx2 18 19 ?_
        refine aP 21 rfl (B2 (j := j) rfl rfl rfl zO0) rfl ?_
        refine xx1 20 ?_
        refine A2 22 ?_
        refine R8 rfl rfl rfl rfl hlu9 hou9 rfl rfl zM0 zC0 (by exact A3k zO0 hall2 hlu9) ?_
        refine xx1 23 ?_
        refine B1 ?_
        refine zf4 ?_
        refine A5 ?_
        refine J7 (j + 1, es2.set j uc, G7) ?_ ?_ ?_
        ·(simp only [List.take_zero, A1b]; exact (D6 zA0 zQ))
        ·(dsimp only; exact ⟨by omega, hle6.trans hle7, by rw [m3]; exact H4.set (hst2.mono hle7) hru⟩)
        ·(show ks.length - (j + 1) < ks.length - j; omega)
       ·refine K7 ?_
        refine zf0 (fun h302 => ?_) (fun h302 => ?_)
        ·refine B6 ?_
         (have hq13 : k = 13 := zO0; have hl13 := hk13 hq13; have hjw : j = (T1 w tsA).length := zO0; rw [hjw, List.take_length, A6j] at hst2; have hm0 := A2w usA tsA w lA; obtain ⟨hE1, hE2⟩ := hst2.at2 (i := 0) zO0 zO0; have hE3 := hE2.len; have hE4 := hE2.one; refine zdd D9 rfl ?_)
         refine xx3 0 1 2 ?_
         refine aL 3 rfl (A3 rfl rfl (A50 (es := es2) zG0 zO0 hall2) hE3) rfl ?_
         refine xx2 4 5 ?_
         refine A2 6 ?_
         refine oS rfl rfl rfl rfl hE3 hE4 rfl rfl ?_ (hu := by exact E0 hE3.symm)
         refine A2 7 ?_
         refine oS rfl rfl rfl rfl rfl rfl rfl rfl ?_
         refine xx1 8 ?_
         refine A5 ?_
         (refine A2i (bs := [(bc, es2.flatten ++ C)]) (Pk.perm zB0) (fun hn9 hd9 hle9 => ?_))
         refine A5 ?_
         refine E5 (rC rfl (A3 rfl rfl (B9 zG0) hE3)) (rC rfl (A4 rfl rfl)) (rT rfl) ?_
         (rw [if_pos hq13, B17 zO0] at hu0; subst hu0; rw [hjw, List.take_length, A6j]; exact ⟨rfl, _, _, rfl, hE2.mono hle9, hmr.mono hle9⟩)
        ·refine A7 ?_
         refine zf6 ?_
         refine xx3 0 1 2 ?_
         refine A2 3 ?_
         refine oS rfl rfl rfl rfl rfl rfl rfl rfl ?_
         refine A2 4 ?_
         refine oS rfl rfl rfl rfl rfl rfl rfl rfl ?_
         refine xx1 5 ?_
         refine A5 ?_
         (refine A2i (bs := [(bc, es2.flatten ++ C)]) (Pk.perm zB0) (fun hn9 hd9 hle9 => ?_))
         refine tT ?_
         refine zf20 ?_
         (have hjw : j = (T1 w tsA).length := zO0; rw [hjw, List.take_length, A6j] at hst2; have hst9 := hst2.mono hle9; have hm0 := A2w usA tsA w lA; rw [if_neg zO0] at hu0; subst hu0; rw [hjw, List.take_length, A6j]; exact ⟨rfl, _, _, rfl, B7.put hk hnum hlb (hty1.mono hle9) (hfr1.mono hle9) (by rw [hm0, hlA1]) (D7.of (Sl.of_blk (A := []) (by rw [A0S hst9.all, hst9.len, hm0, hlA1]) zO0 hcm (Wi.in hn9 List.mem_cons_self)) (by rw [hst9.len, hm0, hlA1]) hst9.all (fun e he => (hst9.each e he).2)) hst9, hmr.mono hle9⟩)
theorem B8k (e : Tm) (G : IM) (cells : List Value) (hcnt : H9 e ≤ 4294967296) (hr : B7 G e cells) : Fn prog 40 [.agg ⟨cells⟩] [] G (A1J (S4 e)) := by
 have hl := hr.len
 have hone := hr.one
 refine C4 func40 rfl ntmps40 results40 rfl ?_
 intro w0
 refine A5 ?_
 refine zf2 (fun b3 => ?_)
 refine zf1 (fun b4 => ?_)
 refine zf1 (fun b5 => ?_)
 refine B1 ?_
 refine sL (A3 rfl rfl (B9 zG0) zL0) rfl rfl ?_
 focus (refine H6 rfl (B2i e _ _ zO0 hr) rfl rfl (fun v G1 hle1 hh => ?_); obtain ⟨mc, mt, rfl, hmr, hmu⟩ := hh; obtain ⟨pt, ct, et, rfl, _⟩ := hmr.open; obtain ⟨r, hI⟩ : ∃ r, S4 e = r := ⟨_, rfl⟩; rcases r with _ | ⟨u, t⟩; (have hto : A0e e = none := by unfold A0e; rw [hI]); rotate_left; (have hto : A0e e = some t := by unfold A0e; rw [hI]); obtain ⟨hv, l3, hE⟩ := B77 hI; obtain ⟨hv1, hv2⟩ := (A2R e).1 hv; rotate_left; all_goals rw [hto]; all_goals simp only [Option.isSome])
 refine B5 ?_
 refine zf1 (fun b16 => ?_)
 refine A2I ?_
 refine zf20 ?_
 (exact A1J.no (by first | exact hI | rfl) (Q3 _) (N2 _ ⟨by omega, by omega⟩))
 refine B5 ?_
 refine zf1 (fun b45 => ?_)
 refine L9 ?_
 refine sL (A3 rfl rfl (B9 zG0) zL0) rfl rfl ?_
 (have hIn := B8j e 1 [] 0 u t l3 G1 none 0 0 cells hE hv1 zO0 A4Z (S9.nil _) (hr.mono hle1) zO0 zO0; refine H6 rfl hIn rfl rfl (fun v G2 hle2 hh => ?_); obtain ⟨cu, tc, rfl, hru, hrt⟩ := hh; obtain ⟨qt, dt, et2, rfl, _⟩ := hrt.open; have hlu := hru.len; have hou := hru.one)
 refine B6 ?_
 refine zf1 (fun b68 => ?_)
 refine zf1 (fun b69 => ?_)
 refine Y2 rfl rfl rfl hlu hou rfl zC0 (by exact E0 (by first | exact hlu.symm | omega)) ?_
 refine B1 ?_
 refine zf6 ?_
 refine aL 0 rfl (A3 rfl rfl (B9 zG0) hlu) rfl ?_
 refine xx1 1 ?_
 refine A2 2 ?_
 refine oS rfl rfl rfl rfl hlu hou rfl rfl ?_ (hu := by exact E0 hlu.symm)
 refine A2 3 ?_
 refine oS rfl rfl rfl rfl rfl rfl rfl rfl ?_
 refine xx1 4 ?_
 refine B5 ?_
 refine E5 (rC rfl (A3 rfl rfl (B9 zG0) hlu)) (rC rfl (A4 rfl rfl)) (rT rfl) ?_
 (exact A1J.yes (by first | exact hI | rfl) hru hrt)
def A4b : ByteArray := ⟨⟨[112, 97, 105, 114]⟩⟩
def A4c : ByteArray := ⟨⟨[102, 117, 110, 99, 116, 105, 111, 110]⟩⟩
def txT : ByteArray := ⟨⟨[84]⟩⟩
def txF : ByteArray := ⟨⟨[70]⟩⟩
def A8d (n : Int) : ByteArray := ⟨(Lib.decDigits n.toNat).toArray⟩
def A1q (k num : Int) : ByteArray := if k = 2 then A8d num else if k = 3 then txT else txF
mutual
def X8 : Tm → ByteArray
 | .mk k nm num ty fr lb ks => if k = 10 ∨ (T8 (.mk k nm num ty fr lb []) = true ∧ ty.k = 5) then A4b else if k = 5 ∨ T8 (.mk k nm num ty fr lb []) = true then A4c else if k = 14 then B8l ks else A1q k num
def B8l : List Tm → ByteArray
 | [] => ⟨⟨[]⟩⟩
 | t :: _ => X8 t
end
section
variable {k : Int} {nm : ByteArray} {num : Int} {ty fr : Ty} {lb : Int} {ks : List Tm}
theorem A8e (h : k = 10 ∨ (T8 (.mk k nm num ty fr lb ks) = true ∧ ty.k = 5)) : X8 (.mk k nm num ty fr lb ks) = A4b := by
 rw [X8]
 exact if_pos h
theorem A8f (h : ¬(k = 10 ∨ (T8 (.mk k nm num ty fr lb ks) = true ∧ ty.k = 5))) (h2 : k = 5 ∨ T8 (.mk k nm num ty fr lb ks) = true) : X8 (.mk k nm num ty fr lb ks) = A4c := by
 rw [X8]
 exact (if_neg h).trans (if_pos h2)
theorem B2l (h : T8 (.mk k nm num ty fr lb ks) = false) (hk : k = 14) (h0 : 0 < ks.length) : X8 (.mk k nm num ty fr lb ks) = X8 ks[0] := by
 rw [X8, if_neg (by rintro (h1 | h1); omega; exact Bool.noConfusion (h1.1.symm.trans h)), if_neg (by rintro (h1 | h1); omega; exact Bool.noConfusion (h1.symm.trans h)), if_pos hk]
 cases ks with
 | nil => simp at h0
 | cons t ts => rfl
theorem A8g (h : T8 (.mk k nm num ty fr lb ks) = false) (hk : k ≠ 14) (h10 : k ≠ 10) (h5 : k ≠ 5) : X8 (.mk k nm num ty fr lb ks) = A1q k num := by
 rw [X8, if_neg (by rintro (h1 | h1); omega; exact Bool.noConfusion (h1.1.symm.trans h)), if_neg (by rintro (h1 | h1); omega; exact Bool.noConfusion (h1.symm.trans h)), if_neg hk]
end
def U4 (e : Tm) (fuel : Int) : ByteArray × Int × Int := match S4 e with
 | none => (⟨⟨[]⟩⟩, 3, 0)
 | some (u, _) => if (P1 u fuel).2.1 = 0 then (X8 (P1 u fuel).1, 0, 0) else (⟨⟨[]⟩⟩, (P1 u fuel).2.1, (P1 u fuel).2.2)
def A8h (r : ByteArray × Int × Int) (G : IM) : IM → Value → List A9 → Prop := M3 fun _ v => v = .tuple ⟨[.string r.1, .int .i64 r.2.1, .int .i64 r.2.2]⟩
theorem B2m {e : Tm} {fuel : Int} (h : S4 e = none) : U4 e fuel = (⟨⟨[]⟩⟩, 3, 0) := by unfold U4; rw [h]
theorem A8i {e u : Tm} {t : Ty} {fuel : Int} (h : S4 e = some (u, t)) (h0 : (P1 u fuel).2.1 = 0) : U4 e fuel = (X8 (P1 u fuel).1, 0, 0) := by unfold U4; rw [h]; simp only [h0, if_true]
theorem A8j {e u : Tm} {t : Ty} {fuel : Int} (h : S4 e = some (u, t)) (h0 : (P1 u fuel).2.1 ≠ 0) : U4 e fuel = (⟨⟨[]⟩⟩, (P1 u fuel).2.1, (P1 u fuel).2.2) := by unfold U4; rw [h]; simp only [if_neg h0]
theorem B2n : ∀ (n : Nat) (e : Tm), (P9 n e).2.1 = 0 → P7 (P9 n e).1 = true ∧ H5 (P9 n e).1 = true ∧ (P9 n e).2.2.1 = 0
 | 0, e, h => by rw [A73] at h ⊢; exact stepv e h
 | n + 1, e, h => by
  by_cases h1 : (I2 e).2.1 = 1
  ·rw [A74 h1] at h ⊢; exact B2n n _ h
  ·rw [A75 h1] at h ⊢; exact stepv e h
where
 stepv (e : Tm) (h : (I2 e).2.1 = 0) : P7 (I2 e).1 = true ∧ H5 (I2 e).1 = true ∧ (I2 e).2.2 = 0 := by
  cases h1 : P7 e with
  | false => rw [B1G h1] at h; simp at h
  | true =>
   cases h2 : H5 e with
   | true => rw [A7Z h1 h2]; exact ⟨h1, h2, rfl⟩
   | false =>
    by_cases h3 : (I8 e).2.1 = 1
    ·cases h4 : P7 (I8 e).1 with
     | false => rw [A71 h1 h2 h3 h4] at h; simp at h
     | true => rw [A72 h1 h2 h3 h4] at h; simp at h
    ·rw [A70 h1 h2 h3] at h
     exact absurd h (stp_ne0 e)
 stp_ne0 : ∀ (e : Tm), (I8 e).2.1 ≠ 0 := by
  refine Tm.ind fun k nm num ty fr lb ks ih => ?_
  rw [I8]
  cases hL : X5 (if k = 9 then 1 else ks.length) ks with
  | none => exact red_ne0 k ty fr lb ks
  | some p =>
   obtain ⟨us, c, l⟩ := p
   have := stpL_ne0 ks ih _ us c l hL
   simp only
   by_cases hc : c = 1
   ·rw [if_pos hc]; simp
   ·rw [if_neg hc]; exact this
 red_ne0 (k : Int) (ty fr : Ty) (lb : Int) (ks : List Tm) : (W4 k ty fr lb ks).2.1 ≠ 0 := by
  unfold W4 V6
  repeat' split
  all_goals simp
 stpL_ne0 (ks : List Tm) (ih : ∀ t ∈ ks, (I8 t).2.1 ≠ 0) : ∀ (n : Nat) us c l, X5 n ks = some (us, c, l) → c ≠ 0 := by
  induction ks with
  | nil => intro n us c l h; cases n <;> simp [X5] at h
  | cons t ts iht =>
   intro n us c l h
   cases n with
   | zero => simp [X5] at h
   | succ n =>
    rw [A6e] at h
    by_cases hv : H5 t = true
    ·rw [if_pos hv] at h
     split at h
     ·rename_i us' c' l' h'
      simp only [Option.some.injEq, Prod.mk.injEq] at h
      obtain ⟨_, rfl, _⟩ := h
      exact iht (fun u hu => ih u (List.mem_cons_of_mem _ hu)) n _ _ _ h'
     ·cases h
    ·rw [if_neg hv] at h
     simp only [Option.some.injEq, Prod.mk.injEq] at h
     obtain ⟨_, rfl, _⟩ := h
     exact ih t List.mem_cons_self
theorem B8m {e : Tm} {fuel : Int} (h : (P1 e fuel).2.1 = 0) : P7 (P1 e fuel).1 = true ∧ H5 (P1 e fuel).1 = true ∧ (P1 e fuel).2.2 = 0 := by
 cases hf : Q5 fuel 0 300 with
 | false => rw [B1K hf] at h; simp at h
 | true =>
  by_cases h1 : (P9 fuel.toNat e).2.1 = 1
  ·rw [B1L hf h1] at h; simp at h
  ·rw [B1M hf h1] at h ⊢; exact B2n _ _ h
inductive MV where
 | mk (k num : Int) (env parts : List MV)
def MV.k : MV → Int | .mk k _ _ _ => k
def MV.num : MV → Int | .mk _ n _ _ => n
def MV.env : MV → List MV | .mk _ _ e _ => e
def MV.parts : MV → List MV | .mk _ _ _ p => p
def mv0 : MV := .mk 0 0 [] []
mutual
def RMv (kc : Int → Int) (G : IM) : MV → List Value → Prop
 | .mk k num env parts, cells => ∃ p c es q d fs, cells = [.int .i64 (kc k), .int .i64 num, .slice p env.length c, .slice q parts.length d] ∧ F8 num ∧ F8 (kc k) ∧ D7 G p env.length c 4 es ∧ A4d kc G env es ∧ D7 G q parts.length d 4 fs ∧ A4d kc G parts fs
def A4d (kc : Int → Int) (G : IM) : List MV → List (List Value) → Prop
 | [], es => es = []
 | t :: ts, es => ∃ a r, es = a :: r ∧ RMv kc G t a ∧ A4d kc G ts r
end
section
variable {kc : Int → Int} {G : IM}
end

def RFr (kc : Int → Int) (G : IM) (f : Int × List MV) (cells : List Value) : Prop := ∃ p c es, cells = [.int .i64 f.1, .slice p f.2.length c] ∧ F8 f.1 ∧ D7 G p f.2.length c 4 es ∧ A4d kc G f.2 es
def B2o (kc : Int → Int) (G : IM) : List (Int × List MV) → List (List Value) → Prop
 | [], es => es = []
 | t :: ts, es => ∃ a r, es = a :: r ∧ RFr kc G t a ∧ B2o kc G ts r
section
variable {kc : Int → Int} {G : IM}
end

structure MSt where
 at' : Int
 st : List MV
 env : List MV
 fr : List (Int × List MV)
def RSs (kc : Int → Int) (G : IM) (s : MSt) (cells : List Value) : Prop := ∃ pe ce ps cs pf cf ee es ef, cells = [.int .i64 s.at', .slice pe s.env.length ce, .slice ps s.st.length cs, .slice pf s.fr.length cf] ∧ F8 s.at' ∧
 D7 G pe s.env.length ce 4 ee ∧ A4d kc G s.env ee ∧ D7 G ps s.st.length cs 4 es ∧ A4d kc G s.st es ∧ D7 G pf s.fr.length cf 2 ef ∧ B2o kc G s.fr ef
def A6k (k : Int) : Nat := if k = 6 ∨ k = 7 ∨ k = 8 ∨ k = 11 then 2 else if k = 9 ∨ k = 12 ∨ k = 13 then 1 else 0
def A8k (k : Int) : Int × Nat × Int := if k = 6 then (2, 1, 1) else if k = 7 ∨ k = 8 then (0, 2, 2) else if k = 9 then (1, 1, 3) else if k = 12 ∨ k = 13 then (3, 1, 4) else (0, 0, 0)
def A2X (s : MSt) (v : MV) : MSt := { s with st := s.st ++ [v] }
def mGo (k a : Int) (s : MSt) (v : List MV) : MSt ⊕ (Int × Int) :=
 if k = 1 then .inl (A2X s (.mk 0 a [] []))
 else if k = 2 then .inl (A2X s (.mk 1 a [] []))
 else if k = 3 then (if (s.env.length : Int) - 1 - a < 0 then .inr (3, 0) else .inl (A2X s (s.env.getD ((s.env.length : Int) - 1 - a).toNat mv0)))
 else if k = 4 then .inl { A2X s (.mk 2 s.at' s.env []) with at' := s.at' + a }
 else if k = 5 then (if s.fr.length = 0 then .inr (3, 0) else .inl { s with at' := (s.fr.getD (s.fr.length - 1) (0, [])).1, env := (s.fr.getD (s.fr.length - 1) (0, [])).2, fr := s.fr.take (s.fr.length - 1) })
 else if k = 6 then .inl { s with at' := (v.getD 0 mv0).num, env := (v.getD 0 mv0).env ++ [v.getD 1 mv0], fr := s.fr ++ [(s.at', s.env)] }
 else if k = 7 then .inl (A2X s (.mk 0 (((v.getD 0 mv0).num + (v.getD 1 mv0).num) % 1000) [] []))
 else if k = 8 then .inl (A2X s (.mk 1 (if (v.getD 0 mv0).num < (v.getD 1 mv0).num then 1 else 0) [] []))
 else if k = 9 then .inl (if (v.getD 0 mv0).num = 0 then { s with at' := s.at' + a } else s)
 else if k = 10 then .inl { s with at' := s.at' + a }
 else if k = 11 then .inl (A2X s (.mk 3 0 [] v))
 else .inl (A2X s ((v.getD 0 mv0).parts.getD (k - 12).toNat mv0))
def B8n (k : Int) (v : List MV) : Bool := (v.take (A8k k).2.1).all fun u => decide (u.k = (A8k k).1)
def B8o (k a : Int) (s : MSt) : MSt ⊕ (Int × Int) :=
 if s.st.length < A6k k then .inr (3, 0)
 else if B8n k (s.st.drop (s.st.length - A6k k)) = true then mGo k a { s with at' := s.at' + 1, st := s.st.take (s.st.length - A6k k) } (s.st.drop (s.st.length - A6k k))
 else .inr (2, (A8k k).2.2)
def B8p (v : MV) : ByteArray := if v.k = 0 then ⟨(Lib.decDigits v.num.toNat).toArray⟩ else if v.k = 1 then (if v.num = 0 then ⟨#[70]⟩ else ⟨#[84]⟩) else if v.k = 2 then ⟨⟨[102, 117, 110, 99, 116, 105, 111, 110]⟩⟩ else ⟨⟨[112, 97, 105, 114]⟩⟩
def B8q (s : MSt) : ByteArray × Int × Int := if s.st.length ≠ 1 ∨ 0 < s.fr.length then (⟨#[]⟩, 3, 0) else (B8p (s.st.getD 0 mv0), 0, 0)
def B2p (ops : List (Int × Int)) : Nat → MSt → ByteArray × Int × Int
 | t, s => if (ops.length : Int) ≤ s.at' then B8q s else match t with
  | 0 => (⟨#[]⟩, 5, 0)
  | t + 1 => match B8o (ops.getD s.at'.toNat (0, 0)).1 (ops.getD s.at'.toNat (0, 0)).2 s with
   | .inl s' => B2p ops t s'
   | .inr (c, e) => (⟨#[]⟩, c, e)
def B8r (k behind : Int) : Int := if k = 1 then 999 else if k = 2 then 1 else if k = 3 then 11 else if k = 4 ∨ k = 9 ∨ k = 10 then behind else 0
def B8s (n : Nat) (i : Nat) (x : Int × Int) : Bool := decide (1 ≤ x.1 ∧ x.1 ≤ 13 ∧ 0 ≤ x.2 ∧ x.2 ≤ B8r x.1 ((n : Int) - 1 - i))
def B8t (ops : List (Int × Int)) : Bool := decide (1 ≤ ops.length ∧ ops.length ≤ 120) && (List.range ops.length).all fun i => B8s ops.length i (ops.getD i (0, 0))
def C0G (ops : List (Int × Int)) (ticks : Int) : ByteArray × Int × Int :=
 if B8t ops = true ∧ 0 ≤ ticks ∧ ticks ≤ 2000 then B2p ops ticks.toNat ⟨0, [], [], []⟩ else (⟨#[]⟩, 3, 0)
theorem B2q (k : Nat) : strOfNums [dgi k] = (⟨[UInt8.ofNat (48 + k % 10)].toArray⟩ : ByteArray) := by
 have : (dgi k).toNat = 48 + k % 10 := by unfold dgi; omega
 simp [strOfNums, this]
theorem B8u (a b : List UInt8) : (⟨a.toArray⟩ : ByteArray) ++ ⟨b.toArray⟩ = ⟨(a ++ b).toArray⟩ := by
 apply ByteArray.ext; simp
theorem B8v {k : Nat} {out : ByteArray} (h : 9 < k) : (⟨(Lib.decDigits (k / 10)).toArray⟩ : ByteArray) ++ (strOfNums [dgi k] ++ out) = ⟨(Lib.decDigits k).toArray⟩ ++ out := by
 have e : (⟨(Lib.decDigits k).toArray⟩ : ByteArray) = ⟨(Lib.decDigits (k / 10)).toArray⟩ ++ ⟨[UInt8.ofNat (48 + k % 10)].toArray⟩ := by
  rw [B8u (Lib.decDigits (k / 10))]
  congr 2
  rw [Lib.decDigits, dif_neg zO0]
 rw [e, B2q, ByteArray.append_assoc]
theorem B8w {k : Nat} {out : ByteArray} (h : ¬9 < k) : strOfNums [dgi k] ++ out = ⟨(Lib.decDigits k).toArray⟩ ++ out := by
 rw [B2q, Lib.decDigits, dif_pos zO0, Nat.mod_eq_of_lt zO0]
theorem B8x {k : Nat} (h : ¬9 < k) : dgi k = 48 + (k : Int) := by unfold dgi; omega
theorem B8y (k : Nat) (hk : k < 10000) (G : IM) : Fn prog 137 [.int .i64 (k : Int)] [] G (I1 (.string ⟨(Lib.decDigits k).toArray⟩) G) := by
 refine C4 func137 rfl ntmps137 results137 rfl ?_
 intro w0
 refine E1 ?_
 refine sP (A3H rfl rfl zO0) rfl rfl ?_
 refine E1 ?_
 refine sP (A3H rfl rfl zO0) rfl rfl ?_
 refine J3 ?_
 refine C2 (K2 (fun (x : Nat × ByteArray) => ⟨[(0, .int .i64 (x.1 : Int)), (2, .string ⟨#[]⟩), (3, .string x.2)], [], G⟩) (fun x => x.1 < 10000 ∧ x.1 + x.2.size < 10020 ∧ (⟨(Lib.decDigits x.1).toArray⟩ : ByteArray) ++ x.2 = ⟨(Lib.decDigits k).toArray⟩) (fun x => x.1) (k, ⟨#[]⟩) ?_ ?_ ?_)
 (simp only [J5]; exact E3)
 (dsimp only; exact ⟨hk, by have : (⟨#[]⟩ : ByteArray).size = 0 := rfl; omega, ByteArray.append_empty⟩)
 (rintro ⟨j, out⟩ ⟨hj, hsz, hd⟩; simp only [] at hj hsz hd ⊢)
 refine B6 ?_
 refine zf17 (fun h41 => ?_) (fun h41 => ?_)
 refine B1 ?_
 refine C2 ?_
 refine B5 ?_
 refine sP (A69 (n := 10) rfl rfl zO0) rfl rfl ?_
 refine zf4 ?_
 refine sP (A9o rfl rfl rfl zO0 zO0) rfl rfl ?_
 refine zf7 (fun b54 => ?_)
 refine sL (A9p (xs := [dgi j]) rfl rfl rfl rfl rfl (O4 zG0)) rfl rfl ?_
 refine I0 ?_
 (have hs1 := strOfNums_size [dgi j]; have hs2 : [dgi j].length = 1 := rfl; refine sP (A3D rfl rfl zO0) rfl rfl ?_)
 refine B1 ?_
 refine sP (A7a (n := 10) rfl rfl zO0 zO0) rfl rfl ?_
 refine B5 ?_
 refine J7 (j / 10, strOfNums [dgi j] ++ out) ?_ ?_ ?_
 (simp only [J5]; exact E3)
 (dsimp only; exact ⟨by omega, by (rw [ByteArray.size_append]; omega), by rw [← hd]; exact B8v zO0⟩)
 (show j / 10 < j; omega)
 refine J3 ?_
 refine zf4 ?_
 refine sP (A9o rfl rfl rfl zO0 zO0) rfl rfl ?_
 refine zf7 (fun b84 => ?_)
 (have hs9 := B8x (k := j) zO0; refine sL (A9p (xs := [48 + (j : Int)]) rfl rfl rfl rfl rfl (O4 zG0)) rfl rfl ?_; rw [← hs9])
 refine I0 ?_
 (have hs1 := strOfNums_size [dgi j]; have hs2 : [dgi j].length = 1 := rfl; refine sP (A3D rfl rfl zO0) rfl rfl ?_)
 refine B1 ?_
 exact ⟨rfl, by rw [B8w zO0, hd], rfl⟩
theorem B2r (k : Int) (nm : ByteArray) (num : Int) (ty fr : Ty) (lb : Int) (ks : List Tm) (G : IM) (cells : List Value) (hT : A05 G) (hk3 : k = 2 ∨ k = 3 ∨ k = 4) (hn : 0 ≤ num ∧ num ≤ 999) (hr : B7 G (.mk k nm num ty fr lb ks) cells) : Fn prog 71 [.agg ⟨cells⟩] [] G (I1 (.string (A1q k num)) G) := by
 obtain ⟨tk, tks⟩ := ty
 obtain ⟨fk, fks⟩ := fr
 obtain ⟨pt, ct, pf, cf, p, c, es, rfl, hk, hnum, hlb, hty, hfr, hsl, hkl⟩ := hr.open9
 have hI := B48 num G hT hn.1 hn.2
 refine C4 func71 rfl ntmps71 results71 rfl ?_
 intro w0
 refine A5 ?_
 refine zf2 (fun b3 => ?_)
 refine B1 ?_
 refine sQ (A8Z rfl rfl) rfl ?_
 refine I9 ?_
 refine C2 ?_
 refine A5 ?_
 refine zf11 ?_
 refine A7 ?_
 refine zf0 (fun h30 => ?_) (fun h30 => ?_)
 refine D4 ?_
 refine F0 rfl (hI) rfl rfl ?_
 refine B8 ?_
 (exact ⟨rfl, by unfold A1q; rw [if_pos zO0]; rfl, rfl⟩)
 refine A7 ?_
 refine zf0 (fun h54 => ?_) (fun h54 => ?_)
 refine K7 ?_
 (exact ⟨rfl, by unfold A1q; rw [if_neg zO0, if_pos zO0]; rfl, rfl⟩)
 refine A7 ?_
 refine zf12 ?_
 refine K7 ?_
 (exact ⟨rfl, by unfold A1q; rw [if_neg zO0, if_neg zO0]; rfl, rfl⟩)
theorem B8z : ∀ (t : Tm) (G : IM) (cells : List Value), A05 G → cv t → H5 t = true → B7 G t cells → Fn prog 49 [.agg ⟨cells⟩] [] G (I1 (.string (X8 t)) G) := by
 refine Tm.ind fun k nm num ty fr lb ks ih G cells hT hc hv hr => ?_
 have hr0 := hr
 have hP := A3l _ G _ hr
 obtain ⟨hN, hkk⟩ := hc.node
 have hop := hN.ops
 have h14 : k = 14 → ks.length = 1 := fun h => by rw [h] at hop; have : E4 14 = 1 := rfl; omega
 have hL := fun h => B2r k nm num ty fr lb ks G cells hT h hN.num0 hr
 have hvp := @A8e k nm num ty fr lb ks
 have hvf := @A8f k nm num ty fr lb ks
 have hvc := @B2l k nm num ty fr lb ks
 have hvl := @A8g k nm num ty fr lb ks
 have hvn := @B0U k nm num ty fr lb ks
 have hvy := @A53 k nm num ty fr lb ks
 have hprx := A08 k nm num ty fr lb ks
 have hinj := A52 k nm num ty fr lb ks
 have hleaf : T8 (.mk k nm num ty fr lb ks) = false → k ≠ 14 → k ≠ 10 → k ≠ 5 → k = 2 ∨ k = 3 ∨ k = 4 := by
  intro h1 h2 h3 h4
  have := hvn h3 h1 (by rw [hinj, decide_eq_false zO0]; rfl)
  rw [this] at hv
  have := of_decide_eq_true hv
  omega
 have hkv : T8 (.mk k nm num ty fr lb ks) = false → k = 14 → ∀ t ∈ ks, H5 t = true := by
  intro h1 h2 t ht
  cases hi : inj (.mk k nm num ty fr lb ks) with
  | true => have := hvy (.inr (.inr hi)); rw [hv] at this; exact List.all_eq_true.1 this.symm t ht
  | false =>
   have := hvn zO0 h1 hi
   rw [hv] at this
   have := of_decide_eq_true this.symm
   omega
 generalize hpx : T8 (.mk k nm num ty fr lb ks) = bp at *
 obtain ⟨tk, tks⟩ := ty
 obtain ⟨fk, fks⟩ := fr
 obtain ⟨pt, ct, pf, cf, p, c, es, rfl, hk, hnum, hlb, hty, hfr, hsl, hkl⟩ := hr.open9
 refine C4 func49 rfl ntmps49 results49 rfl ?_
 intro w0
 refine A5 ?_
 refine zf2 (fun b3 => ?_)
 refine B6 ?_
 refine C2 ?_
 refine B6 ?_
 refine zf0 (fun h13 => ?_) (fun h13 => ?_)
 refine A2I ?_
 (exact ⟨rfl, congrArg Value.string (hvp (by first | exact .inl zO0 | exact .inr ⟨by assumption, by assumption⟩)).symm, rfl⟩)
 refine A5 ?_
 refine L4 rfl (hP) rfl rfl (fun h40 => ?_) (fun h40 => ?_)
 refine B6 ?_
 refine zf0 (fun h45 => ?_) (fun h45 => ?_)
 refine K1 ?_
 (exact ⟨rfl, congrArg Value.string (hvp (by first | exact .inl zO0 | exact .inr ⟨by assumption, by assumption⟩)).symm, rfl⟩)
 refine I9 ?_
 refine zf0 (fun h72 => ?_) (fun h72 => ?_)
 refine W8 ?_
 (exact ⟨rfl, congrArg Value.string (hvf (by rintro (h | ⟨h1, h2⟩) <;> first | omega | exact Bool.noConfusion (h1.symm.trans (show bp = false by assumption)) | (simp only [Ty.k] at h2; omega)) (by first | exact .inl zO0 | exact .inr zL0)).symm, rfl⟩)
 refine A5 ?_
 refine L4 rfl (hP) rfl rfl (fun h93 => ?_) (fun h93 => ?_)
 refine K5 ?_
 (exact ⟨rfl, congrArg Value.string (hvf (by rintro (h | ⟨h1, h2⟩) <;> first | omega | exact Bool.noConfusion (h1.symm.trans (show bp = false by assumption)) | (simp only [Ty.k] at h2; omega)) (by first | exact .inl zO0 | exact .inr zL0)).symm, rfl⟩)
 refine E1 ?_
 refine zf0 (fun h118 => ?_) (fun h118 => ?_)
 refine D4 ?_
 (have hl1 := h14 zO0; obtain ⟨bx, ox, e, rfl, hl, hat, hre, hgb⟩ := hsl.kidTm hkl (i := 0) zO0 zO0; have hih := ih ks[0] (List.getElem_mem zO0) G e hT (hkk _ (List.getElem_mem zO0)) (hkv zL0 zO0 _ (List.getElem_mem zO0)) hre; refine sP (B2 (j := 0) rfl rfl rfl zO0) rfl rfl ?_)
 refine sL (A3 rfl rfl (hat _) hl) rfl rfl ?_
 refine F0 rfl (hih) rfl rfl ?_
 refine B8 ?_
 (exfalso; have h1 : bp = true := zL0; have h2 : bp = false := zL0; rw [h1] at h2; cases h2)
 refine I9 ?_
 refine F0 rfl ((hL (hleaf zL0 zO0 zO0 zO0))) rfl rfl ?_
 refine B1 ?_
 (exfalso; have h1 : bp = true := zL0; have h2 : bp = false := zL0; rw [h1] at h2; cases h2)
 refine K1 ?_
 refine zf0 (fun h170 => ?_) (fun h170 => ?_)
 refine W8 ?_
 (exact ⟨rfl, congrArg Value.string (hvf (by rintro (h | ⟨h1, h2⟩) <;> first | omega | exact Bool.noConfusion (h1.symm.trans (show bp = false by assumption)) | (simp only [Ty.k] at h2; omega)) (by first | exact .inl zO0 | exact .inr zL0)).symm, rfl⟩)
 refine A5 ?_
 refine L4 rfl (hP) rfl rfl (fun h191 => ?_) (fun h191 => ?_)
 refine K5 ?_
 (exfalso; have h1 : bp = true := zL0; have h2 : bp = false := zL0; rw [h1] at h2; cases h2)
 refine E1 ?_
 refine zf0 (fun h216 => ?_) (fun h216 => ?_)
 refine D4 ?_
 (have hl1 := h14 zO0; obtain ⟨bx, ox, e, rfl, hl, hat, hre, hgb⟩ := hsl.kidTm hkl (i := 0) zO0 zO0; have hih := ih ks[0] (List.getElem_mem zO0) G e hT (hkk _ (List.getElem_mem zO0)) (hkv zL0 zO0 _ (List.getElem_mem zO0)) hre; refine sP (B2 (j := 0) rfl rfl rfl zO0) rfl rfl ?_)
 refine sL (A3 rfl rfl (hat _) hl) rfl rfl ?_
 refine F0 rfl (hih) rfl rfl ?_
 refine B8 ?_
 (exact ⟨rfl, congrArg Value.string (hvc zL0 zO0 zO0).symm, rfl⟩)
 refine I9 ?_
 refine F0 rfl ((hL (hleaf zL0 zO0 zO0 zO0))) rfl rfl ?_
 refine B1 ?_
 (exact ⟨rfl, congrArg Value.string (hvl zL0 zO0 zO0 zO0).symm, rfl⟩)
theorem B8A (e : Tm) (fuel : Int) (G : IM) (cells : List Value) (hT : A05 G) (hr : B7 G e cells) : Fn prog 19 [.agg ⟨cells⟩, .int .i64 fuel] [] G (A8h (U4 e fuel) G) := by
 have hRl := hr.len
 have hRo := hr.one
 have hno := @B2m e fuel
 have hyv := fun u t => @A8i e u t fuel
 have hyn := fun u t => @A8j e u t fuel
 refine C4 func19 rfl ntmps19 results19 rfl ?_
 intro w0
 refine A5 ?_
 refine zf2 (fun b3 => ?_)
 refine B8 ?_
 refine sL (A3 rfl rfl (B9 zG0) hRl) rfl rfl ?_
 focus (refine H6 rfl (B2b e G cells hr) rfl rfl (fun v G1 hle1 hh => ?_); obtain ⟨cu, ct, rfl, hru, hrt⟩ := hh; rcases hI : S4 e with _ | ⟨u, t⟩; rotate_left; rw [hI] at hru hrt; simp only [Option.getD_some] at hru hrt; rotate_left; rw [hI] at hru hrt; simp only [Option.getD_none] at hru hrt; simp only [Option.isSome]; rotate_left; simp only [Option.isSome]; rotate_left; all_goals (have hul := hru.len; have huo := hru.one; obtain ⟨p3, c3, e3, rfl, _⟩ := hrt.open))
 refine B6 ?_
 refine zf1 (fun b17 => ?_)
 refine zf1 (fun b18 => ?_)
 refine sS rfl rfl rfl hul huo rfl ?_ (hu := by exact E0 hul.symm)
 refine A1i ?_
 refine zf22 ?_
 (exact ⟨rfl, by rw [hno (by first | exact hI | rfl | assumption)]⟩)
 refine B6 ?_
 refine zf1 (fun b47 => ?_)
 refine zf1 (fun b48 => ?_)
 refine sS rfl rfl rfl hul huo rfl ?_ (hu := by exact E0 hul.symm)
 refine L9 ?_
 refine sL (A3 rfl rfl (B9 zG0) hul) rfl rfl ?_
 refine I0 ?_
 (have hyv := hyv u t hI; have hyn := hyn u t hI; have hev := @B8m u fuel; refine H6 rfl (B7t u fuel G1 cu hru) rfl rfl (fun v G2 hle2 hh => ?_); obtain ⟨wc, hvv, hrw⟩ := hh; have hwl := hrw.len; have hwo := hrw.one; generalize P1 u fuel = r at hvv hrw hyv hyn hev; obtain ⟨w, c, l⟩ := r; simp only at hvv hrw hyv hyn hev; subst hvv)
 refine B6 ?_
 refine zf1 (fun b73 => ?_)
 refine sS rfl rfl rfl hwl hwo rfl ?_ (hu := by exact E0 hwl.symm)
 refine D4 ?_
 refine zf16 (fun h83 => ?_) (fun h83 => ?_)
 refine K5 ?_
 refine zf22 ?_
 (exact ⟨rfl, by rw [hyn zO0]⟩)
 refine B8 ?_
 refine sL (A3 rfl rfl (B9 zG0) hwl) rfl rfl ?_
 (obtain ⟨he1, he2, he3⟩ := hev zO0; refine F0 rfl (B8z w G2 wc (hT.mono (hle1.trans hle2)) (A1S he1).1 he2 hrw) rfl rfl ?_)
 refine D4 ?_
 refine zf22 ?_
 (obtain rfl : c = 0 := zO0; subst he3; exact ⟨rfl, by rw [hyv rfl]⟩)
def A6l (e : Tm) (fuel : Int) : List Int × Int × Bool :=
 if (U4 e fuel).2.1 = 2 then ((A4U ((S4 e).getD (L7, C5)).1 (A0W (U4 e fuel).2.2)).1, (U4 e fuel).2.2, (A4U ((S4 e).getD (L7, C5)).1 (A0W (U4 e fuel).2.2)).2) else ([], 0, false)
def C0H (e : Tm) (fuel : Int) (G : IM) : IM → Value → List A9 → Prop := M3 fun G' v => ∃ p c, v = .tuple ⟨[.slice p (A6l e fuel).1.length c, .int .i64 (A6l e fuel).2.1, .bool (A6l e fuel).2.2]⟩ ∧ SP1 (E8 G' G) (A6l e fuel).1 p c
theorem A6m {P : Program} {Γ : M5} {env : M8} {hp : List A9} {ty t1 t2 : TypeId} {x y : Operand} {k k' : IntKind} {m n : Int} (hx : evo env x = some (.int k m)) (hy : evo env y = some (.int k' n)) :
  J6 P Γ ⟨env, hp, G⟩ (.call ⟨.builtin .max, ⟨[x, y]⟩, ⟨[t1, t2]⟩⟩) ty (.int k (if m < n then n else m)) := by
 refine ⟨fun a _ hs _ _ _ _ w => ?_⟩
 simp [execOp, resolve, invoke, builtin, Builtin.max_, Builtin.max2, (hs.evo hx : a.eval x = _), (hs.evo hy : a.eval y = _)]
end Gw
end Go.Proofs.YtmceanphadildaaGreatDoor
