/-
  The program's insertion of casts: a cast.
-/
import Derived.Test.YtfpgncjeejickaaGreatDoorKd4
import Derived.Test.YtfpgncjeejickaaGreatDoorKd3
import Derived.Test.YtfpgncjeejickaaGreatDoorKd5
import Derived.Test.YtfpgncjeejickaaGreatDoorKd2
import Derived.Test.YtfpgncjeejickaaGreatDoorKd1
set_option linter.unusedVariables false
set_option linter.unusedSimpArgs false
set_option maxHeartbeats 0
set_option maxRecDepth 100000
set_option synthInstance.maxSize 4000
set_option synthInstance.maxHeartbeats 0
namespace Go.Proofs.YtfpgncjeejickaaGreatDoor
open Go Go.RowKit
namespace Gw
section fin
variable {P : Program} {Γ : L8} {env : M7} {hp : List A5} {G : IM}
theorem A2U {r r2 r3 : ResultVar} {post : IM → Value → List A5 → Prop} {v v2 v3 : Value} {outs : List A5} (h : X0 P Γ ⟨env, hp, G⟩ r v) (h2 : X0 P Γ ⟨env, hp, G⟩ r2 v2) (h3 : X0 P Γ ⟨env, hp, G⟩ r3 v3) (ho : A0 hp outs) (hk : post G (.tuple ⟨[v, v2, v3]⟩) outs) :
  A0v P Γ [r, r2, r3] post .ret ⟨env, hp, G⟩ := A8b (.cons h (.cons h2 (.cons h3 .nil))) ho.spec hk
end fin
def CsP (bx : Nat) (e : Tm) (a b : Ty) (l : Int) : IM → Value → List A5 → Prop := fun G' v outs => ∃ cells, v = .agg ⟨cells⟩ ∧ outs = [.blk bx [.int .i64 (if N5 a b = true then l else l + 1)]] ∧ A8 G' (if N5 a b = true then e else N1 e a b (l + 1)) cells
theorem CsP.yes {G : IM} {bx : Nat} {e : Tm} {a b : Ty} {l : Int} {cells : List Value} (h : N5 a b = true) (hr : A8 G e cells) : CsP bx e a b l G (.agg ⟨cells⟩) [.blk bx [.int .i64 l]] := ⟨cells, rfl, by rw [if_pos h], by rw [if_pos h]; exact hr⟩
theorem CsP.no {G : IM} {bx : Nat} {e : Tm} {a b : Ty} {l : Int} {cells : List Value} (h : N5 a b = false) (hr : A8 G (N1 e a b (l + 1)) cells) : CsP bx e a b l G (.agg ⟨cells⟩) [.blk bx [.int .i64 (l + 1)]] := ⟨cells, rfl, by rw [if_neg (by rw [h]; decide)], by rw [if_neg (by rw [h]; decide)]; exact hr⟩
theorem B6g (bx : Nat) (e : Tm) (a b : Ty) (l : Int) (G : IM) (ce ca cb : List Value) (hl : -1000000000000 ≤ l ∧ l ≤ 1000000000000) (hre : A8 G e ce) (hra : C3 G a ca) (hrb : C3 G b cb) :
  Fn Tryz.prog 191 [.pointer (some ⟨bx, 0, none⟩), .agg ⟨ce⟩, .agg ⟨ca⟩, .agg ⟨cb⟩] [.blk bx [.int .i64 l]] G (CsP bx e a b l) := by
 have hel := hre.len
 have heo := hre.one
 have hS := A6Z a b G ca cb hra hrb
 obtain ⟨v1, v2, v3, v4, v5, v6, v7, v8, v9, rfl⟩ := nine hel
 obtain ⟨ak, aks⟩ := a
 obtain ⟨bk, bks⟩ := b
 obtain ⟨pa, cca, ea, rfl, hka, _⟩ := hra.open
 obtain ⟨pb, ccb, eb, rfl, hkb, _⟩ := hrb.open
 refine B7 Tryz.func191 rfl Tryz.ntmps191 Tryz.results191 rfl ?_
 intro w0
 refine A1 ?_
 refine sE (C7 rfl rfl) rfl (fun b3 => ?_)
 refine sE (C7 rfl rfl) rfl (fun b4 => ?_)
 refine sE (C7 rfl rfl) rfl (fun b5 => ?_)
 refine sE (B0 rfl) rfl (fun b6 => ?_)
 refine B4 ?_
 refine E1 rfl (hS) rfl rfl (fun h14 => ?_) (fun h14 => ?_)
 refine B1 ?_
 refine sL (A2 rfl rfl (B2 (by repeat first | exact mH | apply mT)) hel) rfl rfl ?_
 refine sS rfl rfl rfl hel heo rfl ?_ (hu := by exact C9 hel.symm)
 refine B3 ?_
 refine H5 (outs := [.blk bx [.int .i64 _]]) (rC rfl (A4 rfl rfl)) (A0.cons (by repeat (first | exact Pk.here | apply Pk.there)) A0.nil) ?_
 (exact CsP.yes (by assumption) hre)
 refine D0 ?_
 refine sQ (Z1 rfl) rfl ?_
 refine A1 ?_
 refine sP (K5 rfl rfl (by omega) (by omega)) rfl rfl ?_
 refine sQ (Z1 rfl) rfl ?_
 refine B1 ?_
 refine E3 E4 rfl ?_
 refine Q9 (i := 6) (l' := [ff,ff,ff,ff,ff,ff,tt,ff,ff,ff]) rfl D7 (A2 rfl rfl (B2 (by repeat first | exact mH | apply mT)) hel) rfl (by kernel_rfl) rfl rfl ?_
 refine aL 0 rfl (A4 rfl rfl) rfl ?_
 refine aL 1 rfl (A4 rfl rfl) rfl ?_
 refine aP 2 rfl (qM rfl) rfl ?_
 refine aP 3 rfl (Z1 rfl) rfl ?_
 refine aP 4 rfl (B9 rfl) rfl ?_
 refine aL 5 rfl (D3 rfl rfl) rfl ?_
 refine A3 7 ?_
 (refine E6 rfl (D4 rfl rfl rfl (by omega) (by unfold maxLen; omega) rfl) rfl rfl ?_; rintro _ ⟨b55, rfl⟩)
 refine aP 8 rfl (pBd rfl rfl) rfl ?_
 refine A3 9 ?_
 refine I9 rfl ?_
 refine A1 ?_
 (refine I5 (cs := [v1, v2, v3, v4, v5, v6, v7, v8, v9]) (by repeat (first | exact Pk.here | apply Pk.there)) (fun G2 hle2 hsl2 hno2 => ?_))
 refine tT ?_
 refine H5 (outs := [.blk bx [.int .i64 _]]) (rC rfl (A4 rfl rfl)) (A0.cons (by repeat (first | exact Pk.here | apply Pk.there)) A0.nil) ?_
 (exact CsP.no (by assumption) (A8.put (us := [e]) (es := [[v1, v2, v3, v4, v5, v6, v7, v8, v9]]) ⟨by decide, by decide⟩ ⟨by decide, by decide⟩ ⟨by omega, by omega⟩ (hrb.mono hle2) (hra.mono hle2) rfl (D6.of hsl2 rfl (by intro x hx; obtain rfl := List.mem_singleton.1 hx; rfl) (by intro x hx; obtain rfl := List.mem_singleton.1 hx; exact heo)) (by simp only [D9]; exact ⟨_, _, rfl, hre.mono hle2, rfl⟩)))
def ElP (bx : Nat) (cx : Cx) (e : Tm) (l : Int) : IM → Value → List A5 → Prop := fun G' v outs => ∃ u cu t ct l', v = .tuple ⟨[.agg ⟨cu⟩, .agg ⟨ct⟩, .bool (K8 cx e l).isSome]⟩ ∧ outs = [.blk bx [.int .i64 l']] ∧ A8 G' u cu ∧ C3 G' t ct ∧ l ≤ l' ∧ l' + 1 ≤ l + (D2 e : Int) ∧ ∀ r, K8 cx e l = some r → r = (u, t, l')
theorem ElP.no {G : IM} {bx : Nat} {cx : Cx} {e : Tm} {l l' : Int} {u : Tm} {t : Ty} {cu ct : List Value} (h : K8 cx e l = none) (hu : A8 G u cu) (ht : C3 G t ct) (h1 : l ≤ l') (h2 : l' + 1 ≤ l + (D2 e : Int)) : ElP bx cx e l G (.tuple ⟨[.agg ⟨cu⟩, .agg ⟨ct⟩, .bool false]⟩) [.blk bx [.int .i64 l']] :=
 ⟨u, cu, t, ct, l', by rw [h]; rfl, rfl, hu, ht, h1, h2, fun r hr => by rw [h] at hr; cases hr⟩
theorem ElP.yes {G : IM} {bx : Nat} {cx : Cx} {e : Tm} {l l' : Int} {u : Tm} {t : Ty} {cu ct : List Value} (h : K8 cx e l = some (u, t, l')) (hu : A8 G u cu) (ht : C3 G t ct) (h1 : l ≤ l') (h2 : l' + 1 ≤ l + (D2 e : Int)) : ElP bx cx e l G (.tuple ⟨[.agg ⟨cu⟩, .agg ⟨ct⟩, .bool true]⟩) [.blk bx [.int .i64 l']] :=
 ⟨u, cu, t, ct, l', by rw [h]; rfl, rfl, hu, ht, h1, h2, fun r hr => by rw [h] at hr; cases hr; rfl⟩
section
variable {cx : Cx} {k : Int} {nm : ByteArray} {num : Int} {ty fr : Ty} {lb : Int} {ks us : List Tm} {h : List Ty} {l l' : Int}
theorem B6h (hL : M4 (J9 cx k nm ty) ks l = none) : K8 cx (.mk k nm num ty fr lb ks) l = none := by rw [K8, hL]
theorem A7v (hL : M4 (J9 cx k nm ty) ks l = some (us, h, l')) (hn : U2 cx k nm ty h = none) : K8 cx (.mk k nm num ty fr lb ks) l = none := by rw [K8, hL]; simp only [Q7, hn]
theorem B6i {w : List Ty} {t : Ty} (hL : M4 (J9 cx k nm ty) ks l = some (us, h, l')) (hn : U2 cx k nm ty h = some (w, t)) (hk : k = 13) : K8 cx (.mk k nm num ty fr lb ks) l = some ((F9 us h w l').1.getD 0 E2, t, (F9 us h w l').2) := by
 rw [K8, hL]; simp only [Q7, hn, if_pos hk]
theorem B0X {w : List Ty} {t : Ty} (hL : M4 (J9 cx k nm ty) ks l = some (us, h, l')) (hn : U2 cx k nm ty h = some (w, t)) (hk : k ≠ 13) : K8 cx (.mk k nm num ty fr lb ks) l = some (.mk k nm num ty fr lb (F9 us h w l').1, t, (F9 us h w l').2) := by
 rw [K8, hL]; simp only [Q7, hn, if_neg hk]
end
theorem A5E {t : Ty} (h : H1 t = true) : F4 t := (A5d h).1
theorem B6j {us : List Tm} (h : 0 < us.length) : us.getD 0 E2 = us[0] := by rw [List.getD_eq_getElem?_getD, List.getElem?_eq_getElem h, Option.getD_some]
theorem B6k (bx : Nat) : ∀ (e : Tm) (d : Int) (cx : Cx) (l0 : Int) (G : IM) (pc : Option Addr) (nc cc : Nat) (cells : List Value), L7 12 14 e d = true → (nc : Int) ≤ d → cxV cx → U4 G cx pc nc cc → A8 G e cells → 0 ≤ l0 → l0 + (D2 e : Int) ≤ 1000000000 →
  Fn Tryz.prog 139 [.pointer (some ⟨bx, 0, none⟩), .slice pc nc cc, .agg ⟨cells⟩] [.blk bx [.int .i64 l0]] G (ElP bx cx e l0) := by
 refine Tm.ind fun k nm num ty fr lb ks ih d cx l0 G pc nc cc cells hv hnd hcv hx hr hl0 hlc => ?_
 have hr0 := hr
 have hone := hr.one
 obtain ⟨hv1, hv2, hv3, hv4⟩ := X8 hv
 have hvk := (A0U 12 14 ks _).1 hv4
 have har := (T0.1 hv3).1
 have hop := A5c har
 obtain ⟨hta, hts⟩ := A39 hv3
 have hkr : 1 ≤ k ∧ k ≤ 14 := A5C (by rw [har]; omega)
 have hcvX : cxV (J9 cx k nm ty) := A5n hcv fun hk => (T0.1 hv3).2.2.2.2.2.1 (.inl hk)
 have hck : D2 (.mk k nm num ty fr lb ks) = E0 ks + 1 := A0E ..
 rw [hck] at hlc
 obtain ⟨tk, tks⟩ := ty
 obtain ⟨fk, fks⟩ := fr
 obtain ⟨pt, ct, pf, cf, q, cq, es, rfl, hk, hnum, hlb, hty, hfr, hsl, hkl⟩ := hr.open9
 have hlen : ks.length ≤ 3 := by have := A1x k; omega
 obtain ⟨hx1, esx, hx2, hx3⟩ := id hx
 have hcl := B4R G pc nc cc esx hx2 (by omega)
 have hcnt0 := A8z ks
 refine B7 Tryz.func139 rfl Tryz.ntmps139 Tryz.results139 rfl ?_
 intro w0
 refine A1 ?_
 refine sE (C7 rfl rfl) rfl (fun b3 => ?_)
 refine sE (B0 rfl) rfl (fun b4 => ?_)
 refine sE (B0 rfl) rfl (fun b5 => ?_)
 refine J2 ?_
 (show J3 _ _ (.seq (.region 2 _ _) (.cond (.tmp 25) _ _)) _ _; refine Z4 (fun (x : Option Addr × Nat × Nat × IM) => ⟨[(9, .slice x.1 x.2.1 x.2.2.1), (1, .slice pc nc cc), (0, .pointer (some ⟨bx, 0, none⟩)), (5, .pointer (some ⟨b3, 0, none⟩)), (6, .pointer (some ⟨b4, 0, none⟩)), (7, .pointer (some ⟨b5, 0, none⟩))], [.blk b5 [.int .i64 0, .slice none 0 0], .blk b4 [.int .i64 0, .string ⟨⟨[]⟩⟩, .int .i64 0, .int .i64 0, .slice none 0 0, .int .i64 0, .slice none 0 0, .int .i64 0, .slice none 0 0], .blk b3 [.int .i64 k, .string nm, .int .i64 num, .int .i64 tk, .slice pt tks.length ct, .int .i64 fk, .slice pf fks.length cf, .int .i64 lb, .slice q ks.length cq], .blk bx [.int .i64 l0]], x.2.2.2⟩) (fun x => C2 G x.2.2.2 ∧ U4 x.2.2.2 (J9 cx k nm (.mk tk tks)) x.1 x.2.1 x.2.2.1 ∧ x.2.1 ≤ nc + 1) ?_ ?_)
 ·refine B3 ?_
  refine sB (qE rfl rfl) rfl rfl (fun h21 => ?_) (fun h21 => ?_)
  ·refine B6 ?_
   refine E3 E4 rfl ?_
   refine J5 (i := 0) (l' := [tt,ff,ff,ff,ff,ff,ff,ff,ff,ff]) rfl D7 (qM rfl) rfl (by kernel_rfl) rfl rfl ?_
   refine aP 2 rfl (B9 rfl) rfl ?_
   refine aL 3 rfl (D3 rfl rfl) rfl ?_
   refine aP 4 rfl (B9 rfl) rfl ?_
   refine aL 5 rfl (A4 rfl rfl) rfl ?_
   refine aP 6 rfl (pBd rfl rfl) rfl ?_
   refine U6 (j := 1) (j' := 7) (by kernel_rfl) ?_ ?_
   ·(refine A8l rfl rfl hcl rfl rfl rfl (fun v33 G33 outs33 hle33 h33 => ?_); obtain ⟨hG, p1, c1, rfl, rfl⟩ := h33; replace hG := hG.symm; subst hG)
    replace hr := hr.mono hle33
    replace hr0 := hr0.mono hle33
    replace hty := hty.mono hle33
    replace hfr := hfr.mono hle33
    replace hsl := hsl.mono hle33
    replace hkl := hkl.mono hle33
    replace hx2 := hx2.mono hle33
    refine A3 7 ?_
    (refine E6 rfl (D4 rfl rfl rfl (by omega) (by unfold maxLen; omega) rfl) rfl rfl ?_; rintro _ ⟨b35, rfl⟩)
    refine A3 8 ?_
    (refine R5 rfl rfl rfl rfl rfl rfl (fun _ _ => by repeat (first | exact Sw.here | apply Sw.there)) (P3 (by repeat first | exact mH | apply mT)) rfl (by simp [Value.oneCell']) (by unfold maxLen; omega) (by omega) rfl rfl (by repeat (first | exact A9.nil | apply A9.dep (by decide +kernel) | apply A9.blk (by decide +kernel) (by repeat (first | exact Pk.here | apply Pk.there)) (by repeat first | exact mH | apply mT))) (fun p5 c5 => ?_); refine A4M (cs := esx.flatten ++ [.string nm, .int .i64 tk, .slice pt tks.length ct]) (by repeat (first | exact Pk.here | apply Pk.there)) (fun Gf hleF hslF hnoF => ?_); have hxF := U4.snoc (nm := nm) (t := .mk tk tks) hx1 hx2.len hx2.all hx2.one hx3 hleF ⟨_, _, rfl, hty.mono hleF⟩ hslF)
    refine aP 9 rfl (qA rfl) rfl ?_
    refine aD' ?_
    refine P8 (p5, nc + 1, c5, Gf) (N8 (by repeat (first | exact E5.nil | refine E5.cons rfl ?_)) (by repeat (first | exact A0.refl | exact A0.nil | refine A0.cons (by repeat (first | exact Pk.here | apply Pk.there)) ?_ | apply A0.drop))) ⟨hleF, by (dsimp only; rw [J9, if_pos (by omega)]; exact hxF), by (dsimp only; omega)⟩
   ·(refine E6 rfl (D4 rfl rfl rfl (by omega) (by unfold maxLen; omega) rfl) rfl rfl ?_; rintro _ ⟨b41, rfl⟩)
    refine A3 1 ?_
    (refine A8l rfl rfl hcl rfl rfl rfl (fun v43 G43 outs43 hle43 h43 => ?_); obtain ⟨hG, p1, c1, rfl, rfl⟩ := h43; replace hG := hG.symm; subst hG)
    replace hr := hr.mono hle43
    replace hr0 := hr0.mono hle43
    replace hty := hty.mono hle43
    replace hfr := hfr.mono hle43
    replace hsl := hsl.mono hle43
    replace hkl := hkl.mono hle43
    replace hx2 := hx2.mono hle43
    refine A3 8 ?_
    (refine R5 rfl rfl rfl rfl rfl rfl (fun _ _ => by repeat (first | exact Sw.here | apply Sw.there)) (P3 (by repeat first | exact mH | apply mT)) rfl (by simp [Value.oneCell']) (by unfold maxLen; omega) (by omega) rfl rfl (by repeat (first | exact A9.nil | apply A9.dep (by decide +kernel) | apply A9.blk (by decide +kernel) (by repeat (first | exact Pk.here | apply Pk.there)) (by repeat first | exact mH | apply mT))) (fun p5 c5 => ?_); refine A4M (cs := esx.flatten ++ [.string nm, .int .i64 tk, .slice pt tks.length ct]) (by repeat (first | exact Pk.here | apply Pk.there)) (fun Gf hleF hslF hnoF => ?_); have hxF := U4.snoc (nm := nm) (t := .mk tk tks) hx1 hx2.len hx2.all hx2.one hx3 hleF ⟨_, _, rfl, hty.mono hleF⟩ hslF)
    refine aP 9 rfl (qA rfl) rfl ?_
    refine aD' ?_
    refine P8 (p5, nc + 1, c5, Gf) (N8 (by repeat (first | exact E5.nil | refine E5.cons rfl ?_)) (by repeat (first | exact A0.refl | exact A0.nil | refine A0.cons (by repeat (first | exact Pk.here | apply Pk.there)) ?_ | apply A0.drop))) ⟨hleF, by (dsimp only; rw [J9, if_pos (by omega)]; exact hxF), by (dsimp only; omega)⟩
  ·refine B3 ?_
   refine P8 (pc, nc, cc, G) (N8 (by repeat (first | exact E5.nil | refine E5.cons rfl ?_)) (by repeat (first | exact A0.refl | exact A0.nil | refine A0.cons (by repeat (first | exact Pk.here | apply Pk.there)) ?_ | apply A0.drop))) ⟨C2.refl _, by (dsimp only; rw [J9, if_neg (by omega)]; exact hx), by (dsimp only; omega)⟩
 ·(rintro ⟨p6, n6, c6, Gx⟩ ⟨hleX, hxX, hn6⟩; simp only [] at hleX hxX hn6 ⊢; replace hsl := hsl.mono hleX; replace hkl := hkl.mono hleX; replace hx := hx.mono hleX; replace hr0 := hr0.mono hleX; replace hty := hty.mono hleX; replace hfr := hfr.mono hleX)
  refine B6 ?_
  refine sE (B0 rfl) rfl (fun b58 => ?_)
  refine A08 ?_
  refine C0 ?_
  (refine V7 28 9 ?_; refine V7 25 2 ?_; refine L9 (fun (x : Nat × (Option Addr × Nat × List Tm × List (List Value)) × (Option Addr × Nat × List Ty × List (List Value)) × Int × IM) => ⟨[(40, .int .i64 x.1), (39, .int .i64 ks.length), (38, .slice q ks.length cq), (11, .slice x.2.2.1.1 x.1 x.2.2.1.2.1), (9, .slice p6 n6 c6), (1, .slice pc nc cc), (0, .pointer (some ⟨bx, 0, none⟩)), (5, .pointer (some ⟨b3, 0, none⟩)), (6, .pointer (some ⟨b4, 0, none⟩)), (7, .pointer (some ⟨b5, 0, none⟩)), (10, .pointer (some ⟨b58, 0, none⟩))], [.blk b58 [.int .i64 k, .string nm, .int .i64 num, .int .i64 tk, .slice pt tks.length ct, .int .i64 fk, .slice pf fks.length cf, .int .i64 lb, .slice x.2.1.1 x.1 x.2.1.2.1], .slc x.2.1.1 x.2.1.2.1 28 9 x.1 x.2.1.2.2.2.flatten, .slc x.2.2.1.1 x.2.2.1.2.1 25 2 x.1 x.2.2.1.2.2.2.flatten, .blk b5 [.int .i64 0, .slice none 0 0], .blk b4 [.int .i64 0, .string ⟨⟨[]⟩⟩, .int .i64 0, .int .i64 0, .slice none 0 0, .int .i64 0, .slice none 0 0, .int .i64 0, .slice none 0 0], .blk b3 [.int .i64 k, .string nm, .int .i64 num, .int .i64 tk, .slice pt tks.length ct, .int .i64 fk, .slice pf fks.length cf, .int .i64 lb, .slice q ks.length cq], .blk bx [.int .i64 x.2.2.2.1]], x.2.2.2.2⟩) (fun x => x.1 ≤ ks.length ∧ C2 Gx x.2.2.2.2 ∧ x.2.1.2.2.1.length = x.1 ∧ D9 x.2.2.2.2 x.2.1.2.2.1 x.2.1.2.2.2 ∧ x.2.2.1.2.2.1.length = x.1 ∧ H0 x.2.2.2.2 x.2.2.1.2.2.1 x.2.2.1.2.2.2 ∧ (∀ t ∈ x.2.2.1.2.2.1, F4 t) ∧ M4 (J9 cx k nm (.mk tk tks)) (ks.take x.1) l0 = some (x.2.1.2.2.1, x.2.2.1.2.2.1, x.2.2.2.1) ∧ l0 ≤ x.2.2.2.1 ∧ x.2.2.2.1 + x.1 ≤ l0 + (E0 (ks.take x.1) : Int)) (fun x => ks.length - x.1) (0, (none, 0, [], []), (none, 0, [], []), l0, Gx) ?_ ?_ ?_)
  ·(simp only [List.take_zero, U9]; exact (N8 (by repeat (first | exact E5.nil | refine E5.cons rfl ?_)) (by repeat (first | exact A0.refl | exact A0.nil | refine A0.cons (by repeat (first | exact Pk.here | apply Pk.there)) ?_ | apply A0.drop))))
  ·(exact ⟨by simp, C2.refl _, rfl, by simp [D9], rfl, by simp [H0], by simp, by simp [M4], Int.le_refl _, by simp [E0]⟩)
  ·(rintro ⟨i, ⟨pn, cn, us, es'⟩, ⟨pm, cm, ts, ess⟩, l, Gi⟩ ⟨hi, hle, hlu, hst, hlt, hstt, hat, hml, hl1, hl2⟩; simp only [] at hi hle hlu hst hlt hstt hat hml hl1 hl2 ⊢; replace hty := hty.mono hle; replace hfr := hfr.mono hle; replace hsl := hsl.mono hle; replace hkl := hkl.mono hle; replace hr0 := hr0.mono hle; replace hx := hx.mono hle; replace hxX := hxX.mono hle)
   refine A1 ?_
   refine sB (K6 rfl rfl) rfl rfl (fun h89 => ?_) (fun h89 => ?_)
   ·refine B4 ?_
    refine C0 ?_
    refine A1 ?_
    (obtain ⟨b, o, e, rfl, hl, hate, hre, hgb⟩ := hsl.kidTm hkl (i := i) (by omega) (by omega); have hon := hre.one; have hsc := A8y (ks := ks) (i := i) (by omega); have hsk := A8x (ks := ks) (i := i) (by omega); refine sP (B8 rfl rfl rfl (by omega)) rfl rfl ?_)
    refine sL (A2 rfl rfl (hate _) hl) rfl rfl ?_
    refine sE (B0 rfl) rfl (fun b102 => ?_)
    refine sS rfl rfl rfl hl hon rfl ?_ (hu := by exact C9 hl.symm)
    refine A7 ?_
    refine sL (A2 rfl rfl (B2 (by repeat first | exact mH | apply mT)) hl) rfl rfl ?_
    (refine I0 rfl (ih ks[i] (List.getElem_mem (by omega)) (d + 1) _ l Gi p6 n6 c6 _ (hvk i (by omega)) (by omega) hcvX hxX hre (by omega) (by omega)) (Pk.perm (by repeat (first | exact Pk.here | apply Pk.there))) rfl rfl (fun v G3 outs hle3 hh => ?_); obtain ⟨u, uc, t, tc, l3, rfl, rfl, hru, hrt, hl3, hl4, hu⟩ := hh; obtain ⟨v1, v2, v3, v4, v5, v6, v7, v8, v9, rfl⟩ := nine hru.len; obtain ⟨p3, c3, e3, rfl, _⟩ := hrt.open; have hlu9 := hru.len; have hou9 := hru.one; rcases hE : K8 (J9 cx k nm (Ty.mk tk tks)) ks[i] l with _ | ⟨u2, t2, l2⟩; rotate_left; have hue := hu _ hE; simp only [Prod.mk.injEq] at hue; obtain ⟨rfl, rfl, rfl⟩ := hue; rotate_left)
    ·refine B3 ?_
     refine sE (B0 rfl) rfl (fun b116 => ?_)
     refine sE (B0 rfl) rfl (fun b117 => ?_)
     refine sS rfl rfl rfl hlu9 hou9 rfl ?_ (hu := by exact C9 hlu9.symm)
     refine A8k ?_
     refine A2U (outs := [.blk bx [.int .i64 _]]) (rC rfl (A4 rfl rfl)) (rC rfl (A4 rfl rfl)) (rT rfl) (A0.cons (by repeat (first | exact Pk.here | apply Pk.there)) A0.nil) ?_
     (exact ElP.no (B6h (B0e (by omega) hml hE)) (M1 _) (O2 _ ⟨by omega, by omega⟩) (by omega) (by rw [hck]; omega))
    ·refine B3 ?_
     refine sE (B0 rfl) rfl (fun b153 => ?_)
     refine sE (B0 rfl) rfl (fun b154 => ?_)
     refine sS rfl rfl rfl hlu9 hou9 rfl ?_ (hu := by exact C9 hlu9.symm)
     refine K2 ?_
     refine E3 E4 rfl ?_
     refine J5 (i := 0) (l' := [tt,ff,ff,ff,ff,ff,ff,ff,ff,ff,ff,ff]) rfl D7 (B9 rfl) rfl (by kernel_rfl) rfl rfl ?_
     refine aL 1 rfl (D3 rfl rfl) rfl ?_
     refine aL 2 rfl (A4 rfl rfl) rfl ?_
     refine aP 5 rfl (qM rfl) rfl ?_
     refine aL 6 rfl (A4 rfl rfl) rfl ?_
     refine U6 (j := 3) (j' := 7) (by kernel_rfl) ?_ ?_
     ·(refine E6 rfl (D4 rfl rfl rfl (by omega) (by unfold maxLen; omega) rfl) rfl rfl ?_; rintro _ ⟨b177, rfl⟩)
      refine U6 (j := 4) (j' := 7) (by kernel_rfl) ?_ ?_
      ·(refine R5 rfl rfl rfl rfl rfl rfl (fun _ _ => by repeat (first | exact Sw.here | apply Sw.there)) (P3 (by repeat first | exact mH | apply mT)) rfl (fun u hu => List.all_eq_true.1 hou9 u hu) (by unfold maxLen; omega) (by omega) rfl rfl (by repeat (first | exact A9.nil | apply A9.dep (by decide +kernel) | apply A9.im (by decide +kernel) (by assumption) (by repeat first | exact mH | apply mT) | apply A9.blk (by decide +kernel) (by repeat (first | exact Pk.here | apply Pk.there)) (by repeat first | exact mH | apply mT) | apply A9.slc (by decide +kernel) (by repeat (first | exact Pk.here | apply Pk.there)) (by repeat first | exact mH | apply mT))) (fun pn' cn' => ?_))
       refine aP 9 rfl (B9 rfl) rfl ?_
       refine A3 7 ?_
       (refine E6 rfl (D4 rfl rfl rfl (by omega) (by unfold maxLen; omega) rfl) rfl rfl ?_; rintro _ ⟨b182, rfl⟩)
       refine A3 8 ?_
       (refine R5 rfl rfl rfl rfl rfl rfl (fun _ _ => by repeat (first | exact Sw.here | apply Sw.there)) (P3 (by repeat first | exact mH | apply mT)) rfl (by simp [Value.oneCell']) (by unfold maxLen; omega) (by omega) rfl rfl (by repeat (first | exact A9.nil | apply A9.dep (by decide +kernel) | apply A9.im (by decide +kernel) (by assumption) (by repeat first | exact mH | apply mT) | apply A9.blk (by decide +kernel) (by repeat (first | exact Pk.here | apply Pk.there)) (by repeat first | exact mH | apply mT) | apply A9.slc (by decide +kernel) (by repeat (first | exact Pk.here | apply Pk.there)) (by repeat first | exact mH | apply mT))) (fun pm' cm' => ?_))
       refine A3 10 ?_
       refine oS rfl rfl rfl rfl rfl rfl rfl rfl ?_
       refine aP 11 rfl (qA rfl) rfl ?_
       refine B3 ?_
       refine sP (K5 rfl rfl (by omega) (by omega)) rfl rfl ?_
       refine A1 ?_
       refine L0 (i + 1, (pn', cn', us ++ [u2], es' ++ [[v1, v2, v3, v4, v5, v6, v7, v8, v9]]), (pm', cm', ts ++ [t2], ess ++ [[.int .i64 t2.k, .slice p3 t2.ks.length c3]]), l2, G3) ?_ ?_ ?_
       ·(simp only [I7]; exact D5)
       ·(dsimp only; exact ⟨by omega, hle.trans hle3, by simp [hlu], D9.snoc (hst.mono hle3) hru, by simp [hlt], H0.snoc (hstt.mono hle3) hrt, A3b hat (A5E ((A5o ks[i] (d + 1) _ l (hvk i (by omega)) hcvX).1 _ _ _ hE).2), A5r (by omega) hml hE, by omega, by omega⟩)
       ·(show ks.length - (i + 1) < ks.length - i; omega)
      ·(refine E6 rfl (D4 rfl rfl rfl (by omega) (by unfold maxLen; omega) rfl) rfl rfl ?_; rintro _ ⟨b199, rfl⟩)
       refine A3 4 ?_
       (refine R5 rfl rfl rfl rfl rfl rfl (fun _ _ => by repeat (first | exact Sw.here | apply Sw.there)) (P3 (by repeat first | exact mH | apply mT)) rfl (fun u hu => List.all_eq_true.1 hou9 u hu) (by unfold maxLen; omega) (by omega) rfl rfl (by repeat (first | exact A9.nil | apply A9.dep (by decide +kernel) | apply A9.im (by decide +kernel) (by assumption) (by repeat first | exact mH | apply mT) | apply A9.blk (by decide +kernel) (by repeat (first | exact Pk.here | apply Pk.there)) (by repeat first | exact mH | apply mT) | apply A9.slc (by decide +kernel) (by repeat (first | exact Pk.here | apply Pk.there)) (by repeat first | exact mH | apply mT))) (fun pn' cn' => ?_))
       refine aP 9 rfl (B9 rfl) rfl ?_
       refine A3 8 ?_
       (refine R5 rfl rfl rfl rfl rfl rfl (fun _ _ => by repeat (first | exact Sw.here | apply Sw.there)) (P3 (by repeat first | exact mH | apply mT)) rfl (by simp [Value.oneCell']) (by unfold maxLen; omega) (by omega) rfl rfl (by repeat (first | exact A9.nil | apply A9.dep (by decide +kernel) | apply A9.im (by decide +kernel) (by assumption) (by repeat first | exact mH | apply mT) | apply A9.blk (by decide +kernel) (by repeat (first | exact Pk.here | apply Pk.there)) (by repeat first | exact mH | apply mT) | apply A9.slc (by decide +kernel) (by repeat (first | exact Pk.here | apply Pk.there)) (by repeat first | exact mH | apply mT))) (fun pm' cm' => ?_))
       refine A3 10 ?_
       refine oS rfl rfl rfl rfl rfl rfl rfl rfl ?_
       refine aP 11 rfl (qA rfl) rfl ?_
       refine B3 ?_
       refine sP (K5 rfl rfl (by omega) (by omega)) rfl rfl ?_
       refine A1 ?_
       refine L0 (i + 1, (pn', cn', us ++ [u2], es' ++ [[v1, v2, v3, v4, v5, v6, v7, v8, v9]]), (pm', cm', ts ++ [t2], ess ++ [[.int .i64 t2.k, .slice p3 t2.ks.length c3]]), l2, G3) ?_ ?_ ?_
       ·(simp only [I7]; exact D5)
       ·(dsimp only; exact ⟨by omega, hle.trans hle3, by simp [hlu], D9.snoc (hst.mono hle3) hru, by simp [hlt], H0.snoc (hstt.mono hle3) hrt, A3b hat (A5E ((A5o ks[i] (d + 1) _ l (hvk i (by omega)) hcvX).1 _ _ _ hE).2), A5r (by omega) hml hE, by omega, by omega⟩)
       ·(show ks.length - (i + 1) < ks.length - i; omega)
     ·(refine E6 rfl (D4 rfl rfl rfl (by omega) (by unfold maxLen; omega) rfl) rfl rfl ?_; rintro _ ⟨b219, rfl⟩)
      refine A3 3 ?_
      (refine E6 rfl (D4 rfl rfl rfl (by omega) (by unfold maxLen; omega) rfl) rfl rfl ?_; rintro _ ⟨b221, rfl⟩)
      refine A3 4 ?_
      (refine R5 rfl rfl rfl rfl rfl rfl (fun _ _ => by repeat (first | exact Sw.here | apply Sw.there)) (P3 (by repeat first | exact mH | apply mT)) rfl (fun u hu => List.all_eq_true.1 hou9 u hu) (by unfold maxLen; omega) (by omega) rfl rfl (by repeat (first | exact A9.nil | apply A9.dep (by decide +kernel) | apply A9.im (by decide +kernel) (by assumption) (by repeat first | exact mH | apply mT) | apply A9.blk (by decide +kernel) (by repeat (first | exact Pk.here | apply Pk.there)) (by repeat first | exact mH | apply mT) | apply A9.slc (by decide +kernel) (by repeat (first | exact Pk.here | apply Pk.there)) (by repeat first | exact mH | apply mT))) (fun pn' cn' => ?_))
      refine aP 9 rfl (B9 rfl) rfl ?_
      refine A3 8 ?_
      (refine R5 rfl rfl rfl rfl rfl rfl (fun _ _ => by repeat (first | exact Sw.here | apply Sw.there)) (P3 (by repeat first | exact mH | apply mT)) rfl (by simp [Value.oneCell']) (by unfold maxLen; omega) (by omega) rfl rfl (by repeat (first | exact A9.nil | apply A9.dep (by decide +kernel) | apply A9.im (by decide +kernel) (by assumption) (by repeat first | exact mH | apply mT) | apply A9.blk (by decide +kernel) (by repeat (first | exact Pk.here | apply Pk.there)) (by repeat first | exact mH | apply mT) | apply A9.slc (by decide +kernel) (by repeat (first | exact Pk.here | apply Pk.there)) (by repeat first | exact mH | apply mT))) (fun pm' cm' => ?_))
      refine A3 10 ?_
      refine oS rfl rfl rfl rfl rfl rfl rfl rfl ?_
      refine aP 11 rfl (qA rfl) rfl ?_
      refine B3 ?_
      refine sP (K5 rfl rfl (by omega) (by omega)) rfl rfl ?_
      refine A1 ?_
      refine L0 (i + 1, (pn', cn', us ++ [u2], es' ++ [[v1, v2, v3, v4, v5, v6, v7, v8, v9]]), (pm', cm', ts ++ [t2], ess ++ [[.int .i64 t2.k, .slice p3 t2.ks.length c3]]), l2, G3) ?_ ?_ ?_
      ·(simp only [I7]; exact D5)
      ·(dsimp only; exact ⟨by omega, hle.trans hle3, by simp [hlu], D9.snoc (hst.mono hle3) hru, by simp [hlt], H0.snoc (hstt.mono hle3) hrt, A3b hat (A5E ((A5o ks[i] (d + 1) _ l (hvk i (by omega)) hcvX).1 _ _ _ hE).2), A5r (by omega) hml hE, by omega, by omega⟩)
      ·(show ks.length - (i + 1) < ks.length - i; omega)
   ·refine K2 ?_
    (obtain rfl : i = ks.length := (by omega); have hk14 : k ≠ 14 := hv2; rw [List.take_length] at hml hl2; refine V8 (cs := ess.flatten) (by repeat (first | exact Pk.here | apply Pk.there)) (fun G3 hle3 hsl3 hno3 => ?_); have hst3 := hstt.mono hle3; have hslU : D6 G3 pm ks.length cm 2 ess := D6.of hsl3 (by rw [hst3.len, hlt]) hst3.all (fun e he => (hst3.each e he).2); refine E7 rfl (B4O cx k nm num (.mk tk tks) (.mk fk fks) lb ks ts G3 pc nc cc _ pm ks.length cm ess (hx.mono hle3) har hlt.symm hk14 hta (hr0.mono hle3) hslU hst3 hat) rfl rfl (fun v G4 hle4 hh => ?_); obtain ⟨pw, nw, cw, ew, w, wc, wt, rfl, hnw, hslw, hstw, hrt, hw⟩ := hh; obtain ⟨p3, c3, e3, rfl, _⟩ := hrt.open; replace hst3 := hst3.mono hle4; replace hslU := hslU.mono hle4; have hle34 := hle3.trans hle4; replace hst := hst.mono hle34; replace hty := hty.mono hle34; replace hfr := hfr.mono hle34; rcases hmw : J8 cx k nm (Ty.mk tk tks) ts with _ | ⟨w2, t2⟩; rotate_left; have hwe := hw _ hmw; simp only [Prod.mk.injEq] at hwe; obtain ⟨rfl, rfl⟩ := hwe; have hwl := B4Q (by rw [hlt]; exact hop) hkr hk14 hmw; have hcl2 := A2m us ts w2 l; rcases Nat.eq_zero_or_pos ks.length with h0 | h0; rotate_left; rotate_left)
    ·refine B3 ?_
     refine sE (B0 rfl) rfl (fun b260 => ?_)
     refine A8j ?_
     (refine I5 (cs := es'.flatten) (by repeat (first | exact Pk.here | apply Pk.there)) (fun G8 hle8 hsl8 hno8 => ?_); have hst8 := hst.mono hle8)
     refine A1 ?_
     refine A2U (outs := [.blk bx [.int .i64 _]]) (rC rfl (A4 rfl rfl)) (rC rfl (A4 rfl rfl)) (rT rfl) (A0.cons (by repeat (first | exact Pk.here | apply Pk.there)) A0.nil) ?_
     (exact ElP.no (A7v hml (B4S hmw)) (M1 _) (O2 _ ⟨by omega, by omega⟩) (by omega) (by rw [hck]; omega))
    ·refine B3 ?_
     refine sE (B0 rfl) rfl (fun b297 => ?_)
     refine O0 ?_
     refine E1 rfl ((A3T _ _ _ hrt)) rfl rfl (fun h310 => ?_) (fun h310 => ?_)
     ·refine I6 ?_
      refine C0 ?_
      (have h0' : ks.length = 0 := h0; refine L9 (fun (_ : Nat) => ⟨[(86, .int .i64 0), (85, .int .i64 nw), (84, .slice pw nw cw), (11, .slice pm ks.length cm), (1, .slice pc nc cc), (0, .pointer (some ⟨bx, 0, none⟩)), (5, .pointer (some ⟨b3, 0, none⟩)), (6, .pointer (some ⟨b4, 0, none⟩)), (7, .pointer (some ⟨b5, 0, none⟩)), (10, .pointer (some ⟨b58, 0, none⟩)), (18, .pointer (some ⟨b297, 0, none⟩))], [.blk b297 [.int .i64 t2.k, .slice p3 t2.ks.length c3], .blk b58 [.int .i64 k, .string nm, .int .i64 num, .int .i64 tk, .slice pt tks.length ct, .int .i64 fk, .slice pf fks.length cf, .int .i64 lb, .slice pn ks.length cn], .slc pn cn 28 9 ks.length es'.flatten, .blk b5 [.int .i64 0, .slice none 0 0], .blk b4 [.int .i64 0, .string ⟨⟨[]⟩⟩, .int .i64 0, .int .i64 0, .slice none 0 0, .int .i64 0, .slice none 0 0, .int .i64 0, .slice none 0 0], .blk b3 [.int .i64 k, .string nm, .int .i64 num, .int .i64 tk, .slice pt tks.length ct, .int .i64 fk, .slice pf fks.length cf, .int .i64 lb, .slice q ks.length cq], .blk bx [.int .i64 l]], G4⟩) (fun _ => True) (fun i => i) 0 ?_ ?_ ?_)
      ·exact D5
      ·trivial
      ·(rintro (i0 : Nat) _)
       refine A1 ?_
       refine sP (A3H rfl rfl (by omega)) rfl rfl ?_
       refine K2 ?_
       refine sP (H7 rfl rfl (by omega)) rfl rfl ?_
       refine A7 ?_
       refine E3 E4 rfl ?_
       refine Q9 (i := 0) (l' := [tt,ff,ff,ff,ff]) rfl D7 (A4 rfl rfl) rfl (by kernel_rfl) rfl rfl ?_
       refine aL 1 rfl (A4 rfl rfl) rfl ?_
       refine A3 2 ?_
       refine oS rfl rfl rfl rfl rfl rfl rfl rfl ?_
       refine A3 3 ?_
       refine oS rfl rfl rfl rfl rfl rfl rfl rfl ?_
       refine aP 4 rfl (qA rfl) rfl ?_
       refine A1 ?_
       (refine I5 (cs := es'.flatten) (by repeat (first | exact Pk.here | apply Pk.there)) (fun G8 hle8 hsl8 hno8 => ?_); have hst8 := hst.mono hle8)
       refine tT ?_
       refine A2U (outs := [.blk bx [.int .i64 _]]) (rC rfl (A4 rfl rfl)) (rC rfl (A4 rfl rfl)) (rT rfl) (A0.cons (by repeat (first | exact Pk.here | apply Pk.there)) A0.nil) ?_
       (obtain rfl : w2 = [] := List.length_eq_zero_iff.1 (by omega); have hne : k ≠ 13 := (fun h => by have := hop.2.2 (.inr (.inr (.inr h))); omega); have hel := B0X (num := num) (fr := .mk fk fks) (lb := lb) hml (A4f hmw (b := true) (by assumption)) hne; rw [U9] at hel; exact ElP.yes hel (A8.put hk hnum hlb (hty.mono hle8) (hfr.mono hle8) (by rw [hlu]) (D6.of hsl8 (by rw [hst8.len, hlu]) hst8.all (fun e he => (hst8.each e he).2)) hst8) (hrt.mono hle8) (by omega) (by rw [hck]; omega))
     ·refine K2 ?_
      (refine I5 (cs := es'.flatten) (by repeat (first | exact Pk.here | apply Pk.there)) (fun G8 hle8 hsl8 hno8 => ?_); have hst8 := hst.mono hle8)
      refine A1 ?_
      refine A2U (outs := [.blk bx [.int .i64 _]]) (rC rfl (A4 rfl rfl)) (rC rfl (A4 rfl rfl)) (rT rfl) (A0.cons (by repeat (first | exact Pk.here | apply Pk.there)) A0.nil) ?_
      (exact ElP.no (A7v hml (A4f hmw (b := false) (by assumption))) (M1 _) (O2 _ ⟨by omega, by omega⟩) (by omega) (by rw [hck]; omega))
    ·(refine A4a (cs := es'.flatten) (by repeat (first | exact Pk.here | apply Pk.there)) h0 (fun bc C hpe hnc hcm => ?_); subst hpe; refine sQ (qM rfl) rfl ?_)
     refine B6 ?_
     refine sE (B0 rfl) rfl (fun b392 => ?_)
     refine O0 ?_
     refine E1 rfl ((A3T _ _ _ hrt)) rfl rfl (fun h405 => ?_) (fun h405 => ?_)
     ·refine I6 ?_
      refine C0 ?_
      (have h0' := h0; refine L9 (fun (x : Nat × List (List Value) × IM) => ⟨[(86, .int .i64 x.1), (85, .int .i64 nw), (84, .slice pw nw cw), (11, .slice pm ks.length cm), (1, .slice pc nc cc), (0, .pointer (some ⟨bx, 0, none⟩)), (5, .pointer (some ⟨b3, 0, none⟩)), (6, .pointer (some ⟨b4, 0, none⟩)), (7, .pointer (some ⟨b5, 0, none⟩)), (10, .pointer (some ⟨b58, 0, none⟩)), (18, .pointer (some ⟨b392, 0, none⟩))], [.blk b392 [.int .i64 t2.k, .slice p3 t2.ks.length c3], .blk b58 [.int .i64 k, .string nm, .int .i64 num, .int .i64 tk, .slice pt tks.length ct, .int .i64 fk, .slice pf fks.length cf, .int .i64 lb, .slice (some ⟨bc, 0, none⟩) ks.length cn], .blk bc (x.2.1.flatten ++ C), .blk b5 [.int .i64 0, .slice none 0 0], .blk b4 [.int .i64 0, .string ⟨⟨[]⟩⟩, .int .i64 0, .int .i64 0, .slice none 0 0, .int .i64 0, .slice none 0 0, .int .i64 0, .slice none 0 0], .blk b3 [.int .i64 k, .string nm, .int .i64 num, .int .i64 tk, .slice pt tks.length ct, .int .i64 fk, .slice pf fks.length cf, .int .i64 lb, .slice q ks.length cq], .blk bx [.int .i64 (F9 us ts (w2.take x.1) l).2]], x.2.2⟩) (fun x => x.1 ≤ nw ∧ C2 G4 x.2.2 ∧ D9 x.2.2 (F9 us ts (w2.take x.1) l).1 x.2.1) (fun x => nw - x.1) (0, es', G4) ?_ ?_ ?_)
      ·(simp only [List.take_zero, U9]; exact (N8 (by repeat (first | exact E5.nil | refine E5.cons rfl ?_)) (by repeat (first | exact A0.refl | exact A0.nil | refine A0.cons (by repeat (first | exact Pk.here | apply Pk.there)) ?_ | apply A0.drop))))
      ·(exact ⟨Nat.zero_le _, C2.refl _, by simp only [List.take_zero, U9]; exact hst⟩)
      ·(rintro ⟨j, es2, G6⟩ ⟨hj, hle6, hst2⟩; simp only [] at hj hle6 hst2 ⊢; replace hslw := hslw.mono hle6; replace hstw := hstw.mono hle6; replace hslU := hslU.mono hle6; replace hst3 := hst3.mono hle6; replace hty := hty.mono hle6; replace hfr := hfr.mono hle6; replace hrt := hrt.mono hle6; have hall2 := hst2.all; have hle2s := hst2.len; rw [A3i] at hle2s)
       refine A1 ?_
       refine sB (K6 rfl rfl) rfl rfl (fun h428 => ?_) (fun h428 => ?_)
       ·refine B4 ?_
        refine C0 ?_
        refine B6 ?_
        (have hjw : j < w2.length := (by omega); obtain ⟨b5w, o5w, q5, d5, hp5, hat, hrw, hgb⟩ := hslw.kidTy hstw (i := j) (by omega) (by omega); cases hp5; refine sP (B8 rfl rfl rfl (by omega)) rfl rfl ?_)
        refine sL (A2 rfl rfl (hat _) rfl) rfl rfl ?_
        refine sE (B0 rfl) rfl (fun b442 => ?_)
        refine B3 ?_
        (have hjw2 := hjw; obtain ⟨b0, o0, q0, d0, hp0, hat0, hre0, hg0⟩ := hslU.kidTy hst3 (i := j) (by omega) (by omega); cases hp0; obtain ⟨m1, m2, _⟩ := A5s us ts w2 l j hjw (by omega) (by omega); obtain ⟨m3, m4⟩ := B5f (us := us) (h := ts) (w := w2) (l := l) hjw (by omega) (by omega); obtain ⟨hE1, hE2⟩ := hst2.at2 (i := j) (by omega) (by omega); rw [m2] at hE2; have hE3 := hE2.len; have hE4 := hE2.one; have hcj := A2m us ts (w2.take j) l; refine E3 E4 rfl ?_)
        refine J5 (i := 0) (l' := [tt,ff,ff,ff,ff,ff,ff,ff,ff,ff,ff,ff,ff,ff,ff,ff,ff]) rfl D7 (B9 rfl) rfl (by kernel_rfl) rfl rfl ?_
        refine aL 1 rfl (D3 rfl rfl) rfl ?_
        refine aP 2 rfl (qM rfl) rfl ?_
        refine aP 3 rfl (qM rfl) rfl ?_
        refine aP 4 rfl (B9 rfl) rfl ?_
        refine aL 5 rfl (D3 rfl rfl) rfl ?_
        refine aP 6 rfl (qM rfl) rfl ?_
        refine aP 7 rfl (B8 (j := j) rfl rfl rfl (by omega)) rfl ?_
        refine aL 8 rfl (A2 rfl rfl (A9C (es := es2) (by repeat first | exact mH | apply mT) (by omega) hall2) hE3) rfl ?_
        refine aP 9 rfl (qM rfl) rfl ?_
        refine aP 10 rfl (qM rfl) rfl ?_
        refine aP 11 rfl (B8 (j := j) rfl rfl rfl (by omega)) rfl ?_
        refine aL 12 rfl (A2 rfl rfl (hat0 _) rfl) rfl ?_
        refine aL 13 rfl (A4 rfl rfl) rfl ?_
        refine A3 14 ?_
        (refine A0d (l' := [tt,tt,tt,tt,tt,tt,tt,tt,tt,tt,tt,tt,tt,tt,tt,ff,ff]) rfl rfl (B6g bx us[j] ts[j] w2[j] (F9 us ts (w2.take j) l).2 G6 _ _ _ (by omega) hE2 hre0 hrw) (Pk.perm (by repeat (first | exact Pk.here | apply Pk.there))) rfl rfl rfl (by repeat (first | exact A9.nil | apply A9.dep (by decide +kernel) | apply A9.im (by decide +kernel) (by assumption) (by repeat first | exact mH | apply mT) | apply A9.blk (by decide +kernel) (by repeat (first | exact Pk.here | apply Pk.there)) (by repeat first | exact mH | apply mT) | apply A9.slc (by decide +kernel) (by repeat (first | exact Pk.here | apply Pk.there)) (by repeat first | exact mH | apply mT))) (fun v G7 outs hle7 hh => ?_); obtain ⟨uc, rfl, rfl, hru⟩ := hh; rw [← m4]; have hlu9 := hru.len; have hou9 := hru.one)
        refine aP 15 rfl (B8 (j := j) rfl rfl rfl (by omega)) rfl ?_
        refine A3 16 ?_
        refine R2 rfl rfl rfl rfl hlu9 hou9 rfl rfl (by kernel_rfl) (by repeat first | exact Sw.here | apply Sw.there) (by exact A4b (by omega) hall2 hlu9) ?_
        refine B3 ?_
        refine sP (K5 rfl rfl (by omega) (by omega)) rfl rfl ?_
        refine A1 ?_
        refine L0 (j + 1, es2.set j uc, G7) ?_ ?_ ?_
        ·(simp only [List.take_zero, U9]; exact (N8 (by repeat (first | exact E5.nil | refine E5.cons rfl ?_)) (by repeat (first | exact A0.refl | exact A0.nil | refine A0.cons (by repeat (first | exact Pk.here | apply Pk.there)) ?_ | apply A0.drop))))
        ·(dsimp only; exact ⟨by omega, hle6.trans hle7, by rw [m3]; exact D9.set (hst2.mono hle7) hru⟩)
        ·(show nw - (j + 1) < nw - j; omega)
       ·refine K2 ?_
        refine sB (qE rfl rfl) rfl rfl (fun h492 => ?_) (fun h492 => ?_)
        ·refine B3 ?_
         (have hq13 : k = 13 := (by omega); have hl13 := hop.2.2 (.inr (.inr (.inr hq13))); have hjw : j = w2.length := (by omega); rw [hjw, List.take_length] at hst2; have hm0 := A3i us ts w2 l; obtain ⟨hE1, hE2⟩ := hst2.at2 (i := 0) (by omega) (by omega); have hE3 := hE2.len; have hE4 := hE2.one; refine E3 E4 rfl ?_)
         refine J5 (i := 0) (l' := [tt,ff,ff,ff,ff,ff,ff,ff]) rfl D7 (B9 rfl) rfl (by kernel_rfl) rfl rfl ?_
         refine aL 1 rfl (D3 rfl rfl) rfl ?_
         refine aP 2 rfl (B8 (j := 0) rfl rfl rfl (by omega)) rfl ?_
         refine aL 3 rfl (A2 rfl rfl (A9C (es := es2) (by repeat first | exact mH | apply mT) (by omega) hall2) hE3) rfl ?_
         refine aL 4 rfl (A4 rfl rfl) rfl ?_
         refine A3 5 ?_
         refine oS rfl rfl rfl rfl hE3 hE4 rfl rfl ?_ (hu := by exact C9 hE3.symm)
         refine A3 6 ?_
         refine oS rfl rfl rfl rfl rfl rfl rfl rfl ?_
         refine aP 7 rfl (qA rfl) rfl ?_
         refine A1 ?_
         (refine A23 (bs := [(bc, es2.flatten ++ C)]) (Pk.perm (by repeat (first | exact Pk.here | apply Pk.there))) (fun hn9 hd9 hle9 => ?_))
         refine A1 ?_
         refine A2U (outs := [.blk bx [.int .i64 _]]) (rC rfl (A2 rfl rfl (B2 (by repeat first | exact mH | apply mT)) hE3)) (rC rfl (A4 rfl rfl)) (rT rfl) (A0.cons (by repeat (first | exact Pk.here | apply Pk.there)) A0.nil) ?_
         (have hel := B6i (num := num) (fr := .mk fk fks) (lb := lb) hml (A4f hmw (b := true) (by assumption)) hq13; rw [B6j (by omega)] at hel; rw [hjw, List.take_length]; exact ElP.yes hel (hE2.mono hle9) (hrt.mono hle9) (by omega) (by rw [hck]; omega))
        ·refine A7 ?_
         refine E3 E4 rfl ?_
         refine Q9 (i := 0) (l' := [tt,ff,ff,ff,ff]) rfl D7 (A4 rfl rfl) rfl (by kernel_rfl) rfl rfl ?_
         refine aL 1 rfl (A4 rfl rfl) rfl ?_
         refine A3 2 ?_
         refine oS rfl rfl rfl rfl rfl rfl rfl rfl ?_
         refine A3 3 ?_
         refine oS rfl rfl rfl rfl rfl rfl rfl rfl ?_
         refine aP 4 rfl (qA rfl) rfl ?_
         refine A1 ?_
         (refine A23 (bs := [(bc, es2.flatten ++ C)]) (Pk.perm (by repeat (first | exact Pk.here | apply Pk.there))) (fun hn9 hd9 hle9 => ?_))
         refine tT ?_
         refine A2U (outs := [.blk bx [.int .i64 _]]) (rC rfl (A4 rfl rfl)) (rC rfl (A4 rfl rfl)) (rT rfl) (A0.cons (by repeat (first | exact Pk.here | apply Pk.there)) A0.nil) ?_
         (have hjw : j = w2.length := (by omega); rw [hjw, List.take_length] at hst2; have hst9 := hst2.mono hle9; have hel := B0X (num := num) (fr := .mk fk fks) (lb := lb) hml (A4f hmw (b := true) (by assumption)) (show k ≠ 13 by omega); rw [hjw, List.take_length]; have hm0 := A3i us ts w2 l; exact ElP.yes hel (A8.put hk hnum hlb (hty.mono hle9) (hfr.mono hle9) (by rw [hm0, hlu]) (D6.of (Sl.of_blk (A := []) (by rw [A1q hst9.all, hst9.len, hm0, hlu]) (by omega) hcm (Wi.in hn9 List.mem_cons_self)) (by rw [hst9.len, hm0, hlu]) hst9.all (fun e he => (hst9.each e he).2)) hst9) (hrt.mono hle9) (by omega) (by rw [hck]; omega))
     ·refine J7 ?_
      refine A2U (outs := [.blk bx [.int .i64 _]]) (rC rfl (A4 rfl rfl)) (rC rfl (A4 rfl rfl)) (rT rfl) (A0.cons (by repeat (first | exact Pk.here | apply Pk.there)) A0.nil) ?_
      (exact ElP.no (A7v hml (A4f hmw (b := false) (by assumption))) (M1 _) (O2 _ ⟨by omega, by omega⟩) (by omega) (by rw [hck]; omega))
def A2p (r : Option (Tm × Ty)) : IM → Value → List A5 → Prop := M9 fun G' v => ∃ cu ct, v = .tuple ⟨[.agg ⟨cu⟩, .agg ⟨ct⟩, .bool r.isSome]⟩ ∧ A8 G' (r.getD (E2, A6)).1 cu ∧ C3 G' (r.getD (E2, A6)).2 ct
theorem A2p.no {G : IM} {r : Option (Tm × Ty)} {cu ct : List Value} (h : r = none) (hu : A8 G E2 cu) (ht : C3 G A6 ct) : A2p r G (.tuple ⟨[.agg ⟨cu⟩, .agg ⟨ct⟩, .bool false]⟩) [] := by subst h; exact ⟨rfl, cu, ct, rfl, hu, ht⟩
theorem A2p.yes {G : IM} {r : Option (Tm × Ty)} {u : Tm} {t : Ty} {cu ct : List Value} (h : r = some (u, t)) (hu : A8 G u cu) (ht : C3 G t ct) : A2p r G (.tuple ⟨[.agg ⟨cu⟩, .agg ⟨ct⟩, .bool true]⟩) [] := by subst h; exact ⟨rfl, cu, ct, rfl, hu, ht⟩
theorem B0Y {e : Tm} (h : M8 e = false) : T6 e = none := by unfold T6; rw [if_neg (by rw [h]; decide)]
theorem B0Z {e : Tm} (h : M8 e = true) (h2 : K8 [] e 0 = none) : T6 e = none := by unfold T6; rw [if_pos h, h2]
theorem B00 {e u : Tm} {t : Ty} {l : Int} (h : M8 e = true) (h2 : K8 [] e 0 = some (u, t, l)) : T6 e = some (u, t) := by unfold T6; rw [if_pos h, h2]
theorem B6l (e : Tm) (G : IM) (cells : List Value) (hr : A8 G e cells) : Fn Tryz.prog 68 [.agg ⟨cells⟩] [] G (A2p (T6 e)) := by
 have hRl := hr.len
 have hRo := hr.one
 have hV := A3U e G cells hr
 have hno := @B0Y e
 have hnn := @B0Z e
 have hso := @B00 e
 refine B7 Tryz.func68 rfl Tryz.ntmps68 Tryz.results68 rfl ?_
 intro w0
 refine A1 ?_
 refine sE (C7 rfl rfl) rfl (fun b3 => ?_)
 refine sE (B0 rfl) rfl (fun b4 => ?_)
 refine sE (B0 rfl) rfl (fun b5 => ?_)
 refine A7 ?_
 refine sL (A2 rfl rfl (B2 (by repeat first | exact mH | apply mT)) hRl) rfl rfl ?_
 refine E1 rfl (hV) rfl rfl (fun h13 => ?_) (fun h13 => ?_)
 refine D8 ?_
 refine sE (C7 rfl rfl) rfl (fun b23 => ?_)
 refine sL (A2 rfl rfl (B2 (by repeat first | exact mH | apply mT)) hRl) rfl rfl ?_
 focus (have htv : M8 e = true := (by assumption); obtain ⟨hsh, hcn⟩ := (X7 e).1 htv; refine I0 rfl (B6k _ e 1 [] 0 G none 0 0 _ hsh (by omega) A5m (U4.nil G) hr (by omega) (by omega)) (Pk.perm (by repeat (first | exact Pk.here | apply Pk.there))) rfl rfl (fun v G1 outs hle1 hh => ?_); obtain ⟨u, uc, t, tc, l3, rfl, rfl, hru, hrt, hl3, hl4, hu⟩ := hh; have hul := hru.len; have huo := hru.one; obtain ⟨p3, c3, e3, rfl, _⟩ := hrt.open; have hnn := hnn htv; have hso := @hso u t l3 htv; rcases hE : K8 [] e 0 with _ | ⟨u2, t2, l2⟩; rotate_left; have hue := hu _ hE; simp only [Prod.mk.injEq] at hue; obtain ⟨rfl, rfl, rfl⟩ := hue; have hso := hso hE; obtain ⟨hg1, hg2, hg3⟩ := B0S hso; rotate_left; simp only [Option.isSome]; rotate_left; simp only [Option.isSome])
 refine B3 ?_
 refine sE (B0 rfl) rfl (fun b30 => ?_)
 refine sE (B0 rfl) rfl (fun b31 => ?_)
 refine sS rfl rfl rfl hul huo rfl ?_ (hu := by exact C9 hul.symm)
 refine I6 ?_
 refine E3 E4 rfl ?_
 refine Q9 (i := 0) (l' := [tt,ff,ff,ff,ff,ff,ff]) rfl D7 (A2 rfl rfl (B2 (by repeat first | exact mH | apply mT)) hul) rfl (by kernel_rfl) rfl rfl ?_
 refine aL 2 rfl (A4 rfl rfl) rfl ?_
 refine A3 1 ?_
 (refine K4 rfl rfl (A27 _ _ _ (A3n hg1) hru) rfl rfl rfl (fun v G2 hle2 hh => ?_); obtain ⟨cs2, F2, rfl, hs2, hn2⟩ := hh; have hwl := hs2.R.len; have hwo := hs2.R.one; have hr2 := hs2.R.mono (C8.le G2 G1); replace hrt := hrt.mono hle2)
 refine A3 3 ?_
 (refine K4 rfl rfl (A2d _ _ _ (A5E hg3).small hrt) rfl rfl rfl (fun v G3 hle3 hh => ?_); obtain ⟨cs3, F3, rfl, hs3, hn3⟩ := hh; obtain ⟨p4, c4, rfl, _⟩ := hs3.open; have hr3 := hs3.R.mono (C8.le G3 G2); replace hr2 := hr2.mono hle3)
 refine A3 4 ?_
 refine oS rfl rfl rfl rfl hwl hwo rfl rfl ?_ (hu := by exact C9 hwl.symm)
 refine A3 5 ?_
 refine oS rfl rfl rfl rfl rfl rfl rfl rfl ?_
 refine aP 6 rfl (qA rfl) rfl ?_
 refine B6 ?_
 refine D1 (rC rfl (A2 rfl rfl (B2 (by repeat first | exact mH | apply mT)) hwl)) (rC rfl (A4 rfl rfl)) (rT rfl) ?_
 (exact A2p.yes hso hr2 hr3)
 refine B3 ?_
 refine sE (B0 rfl) rfl (fun b69 => ?_)
 refine sE (B0 rfl) rfl (fun b70 => ?_)
 refine sS rfl rfl rfl hul huo rfl ?_ (hu := by exact C9 hul.symm)
 refine A08 ?_
 refine D1 (rC rfl (A4 rfl rfl)) (rC rfl (A4 rfl rfl)) (rT rfl) ?_
 (exact A2p.no (hnn hE) (M1 _) (O2 _ ⟨by omega, by omega⟩))
 refine I6 ?_
 refine D1 (rC rfl (A4 rfl rfl)) (rC rfl (A4 rfl rfl)) (rT rfl) ?_
 (exact A2p.no (hno (by assumption)) (M1 _) (O2 _ ⟨by omega, by omega⟩))
def A0q (e : Tm) : Option Ty := match T6 e with | some (_, t) => some t | none => none
theorem B6m {e : Tm} (h : M8 e = false) : A0q e = none := by unfold A0q; rw [B0Y h]
def Z8 (e : Tm) (fuel : Int) : ByteArray × Int × Int := match T6 e with
 | none => (⟨⟨[]⟩⟩, 3, 0)
 | some (u, _) => if (Q3 u fuel).2.1 = 0 then (X3 (Q3 u fuel).1, 0, 0) else (⟨⟨[]⟩⟩, (Q3 u fuel).2.1, (Q3 u fuel).2.2)
def A7w (r : ByteArray × Int × Int) (G : IM) : IM → Value → List A5 → Prop := M9 fun _ v => v = .tuple ⟨[.string r.1, .int .i64 r.2.1, .int .i64 r.2.2]⟩
theorem B6n {e : Tm} {fuel : Int} (h : T6 e = none) : Z8 e fuel = (⟨⟨[]⟩⟩, 3, 0) := by unfold Z8; rw [h]
theorem A7x {e u : Tm} {t : Ty} {fuel : Int} (h : T6 e = some (u, t)) (h0 : (Q3 u fuel).2.1 = 0) : Z8 e fuel = (X3 (Q3 u fuel).1, 0, 0) := by unfold Z8; rw [h]; simp only [h0, if_true]
theorem A7y {e u : Tm} {t : Ty} {fuel : Int} (h : T6 e = some (u, t)) (h0 : (Q3 u fuel).2.1 ≠ 0) : Z8 e fuel = (⟨⟨[]⟩⟩, (Q3 u fuel).2.1, (Q3 u fuel).2.2) := by unfold Z8; rw [h]; simp only [if_neg h0]
theorem B01 : ∀ (n : Nat) (e : Tm), (Q4 n e).2.1 = 0 → J1 (Q4 n e).1 = true ∧ C5 (Q4 n e).1 = true ∧ (Q4 n e).2.2.1 = 0
 | 0, e, h => by rw [A7n] at h ⊢; exact stepv e h
 | n + 1, e, h => by
  by_cases h1 : (H2 e).2.1 = 1
  ·rw [A7o h1] at h ⊢; exact B01 n _ h
  ·rw [A7p h1] at h ⊢; exact stepv e h
where
 stepv (e : Tm) (h : (H2 e).2.1 = 0) : J1 (H2 e).1 = true ∧ C5 (H2 e).1 = true ∧ (H2 e).2.2 = 0 := by
  cases h1 : J1 e with
  | false => rw [B0w h1] at h; simp at h
  | true =>
   cases h2 : C5 e with
   | true => rw [A7j h1 h2]; exact ⟨h1, h2, rfl⟩
   | false =>
    by_cases h3 : (J0 e).2.1 = 1
    ·cases h4 : J1 (J0 e).1 with
     | false => rw [A7l h1 h2 h3 h4] at h; simp at h
     | true => rw [A7m h1 h2 h3 h4] at h; simp at h
    ·rw [A7k h1 h2 h3] at h
     exact absurd h (stp_ne0 e)
 stp_ne0 : ∀ (e : Tm), (J0 e).2.1 ≠ 0 := by
  refine Tm.ind fun k nm num ty fr lb ks ih => ?_
  rw [J0]
  cases hL : Y0 (if k = 9 then 1 else ks.length) ks with
  | none => exact red_ne0 k ty fr lb ks
  | some p =>
   obtain ⟨us, c, l⟩ := p
   have := stpL_ne0 ks ih _ us c l hL
   simp only
   by_cases hc : c = 1
   ·rw [if_pos hc]; simp
   ·rw [if_neg hc]; exact this
 red_ne0 (k : Int) (ty fr : Ty) (lb : Int) (ks : List Tm) : (S4 k ty fr lb ks).2.1 ≠ 0 := by
  unfold S4 S3
  repeat' split
  all_goals simp
 stpL_ne0 (ks : List Tm) (ih : ∀ t ∈ ks, (J0 t).2.1 ≠ 0) : ∀ (n : Nat) us c l, Y0 n ks = some (us, c, l) → c ≠ 0 := by
  induction ks with
  | nil => intro n us c l h; cases n <;> simp [Y0] at h
  | cons t ts iht =>
   intro n us c l h
   cases n with
   | zero => simp [Y0] at h
   | succ n =>
    rw [A5B] at h
    by_cases hv : C5 t = true
    ·rw [if_pos hv] at h
     split at h
     ·rename_i us' c' l' h'
      simp only [Option.some.injEq, Prod.mk.injEq] at h
      obtain ⟨_, rfl, _⟩ := h
      exact iht (fun u hu => ih u (List.mem_cons_of_mem _ hu)) n _ _ _ h'
     ·cases h
    ·rw [if_neg hv] at h
     simp only [Option.some.injEq, Prod.mk.injEq] at h
     obtain ⟨_, rfl, _⟩ := h
     exact ih t List.mem_cons_self
theorem B6o {e : Tm} {fuel : Int} (h : (Q3 e fuel).2.1 = 0) : J1 (Q3 e fuel).1 = true ∧ C5 (Q3 e fuel).1 = true ∧ (Q3 e fuel).2.2 = 0 := by
 cases hf : Q0 fuel 0 300 with
 | false => rw [B0A hf] at h; simp at h
 | true =>
  by_cases h1 : (Q4 fuel.toNat e).2.1 = 1
  ·rw [B0B hf h1] at h; simp at h
  ·rw [B0C hf h1] at h ⊢; exact B01 _ _ h
def B6p (r s : ByteArray × Int × Int) : Int := if r.2.1 = 2 then 2 else if r.2.1 ≠ 0 ∨ s.2.1 = 4 ∨ s.2.1 = 5 then 3 else if s.2.1 = 0 ∧ r.1 = s.1 then 1 else 4
def B93 (a b : Tm) (fuel : Int) : Int := if (A0q a).isSome = true ∧ A5t a b = true ∧ Q0 fuel 0 300 = true then B6p (Z8 a fuel) (Z8 b fuel) else 0
def gxT : GX → ByteArray
 | .n n => B0T n
 | .b b => if b = true then txT else txF
 | .p => A7s
 | .f => A7t
theorem B02 {v : GE} (h : GV v) : X3 v.tm = gxT v.tx := by
 induction h with
 | num => rfl
 | @tru b => cases b <;> rfl
 | lam => rfl
 | pair _ _ _ _ => rfl
 | pf _ _ => rfl
 | pp _ _ => rfl
 | @inj A l e hv hg i =>
  rw [GE.tm, A7u (h0 := by simp)]
  ·exact i
  ·rw [A1j]
   refine decide_eq_false ?_
   rintro ⟨_, _, h | h⟩ <;> simp [GT.ty, Ty.k] at h
  ·rfl
theorem B6q {fuel : Int} (hf : Q0 fuel 0 300 = true) (u : Tm) : Q3 u fuel = ((K7 fuel.toNat u).1, (K7 fuel.toNat u).2.1, (K7 fuel.toNat u).2.2.1) := by
 unfold Q3
 rw [if_pos (A2H.1 hf)]
theorem B6r {a : Tm} (h : (A0q a).isSome = true) : ∃ u t, T6 a = some (u, t) := by
 unfold A0q at h
 split at h
 ·exact ⟨_, _, by assumption⟩
 ·cases h
theorem B03 {a u : Tm} {t : Ty} (h : T6 a = some (u, t)) : A0q a = some t := by unfold A0q; rw [h]
theorem B6s {a : Tm} {fuel : Int} (h : (A0q a).isSome = true) (hf : Q0 fuel 0 300 = true) : (Z8 a fuel).2.1 = 0 ∨ (Z8 a fuel).2.1 = 2 ∨ (Z8 a fuel).2.1 = 4 ∨ (Z8 a fuel).2.1 = 5 := by
 obtain ⟨u, t, hu⟩ := B6r h
 obtain ⟨h1, h2, _⟩ := B0S hu
 have hg := B0K (fun l => l ≠ 0) (fun l h => by omega) fuel.toNat u t h1 h2 (B0H u (A0Z h1).1)
 have he := B6q hf u
 by_cases h0 : (Q3 u fuel).2.1 = 0
 ·rw [A7x hu h0]; exact .inl rfl
 ·rw [A7y hu h0, he]
  rcases hg with ⟨g, _⟩ | ⟨g, _⟩ | ⟨g, _⟩ | ⟨g, _⟩
  ·exact .inl g
  ·exact .inr (.inl g)
  ·exact .inr (.inr (.inl g))
  ·exact .inr (.inr (.inr g))
def GE.er : GE → GE
 | .var x => .var x
 | .num n => .num n
 | .tru b => .tru b
 | .lam x _ e => .lam x .any e.er
 | .app f a => .app f.er a.er
 | .ar s a b => .ar s a.er b.er
 | .ite c a b => .ite c.er a.er b.er
 | .pair a b => .pair a.er b.er
 | .part s e => .part s e.er
 | .cast _ _ _ e => e.er
def GE.nt : GE → Prop
 | .var _ => True
 | .num _ => True
 | .tru _ => True
 | .lam _ A e => A = .any ∧ e.nt
 | .app f a => f.nt ∧ a.nt
 | .ar _ a b => a.nt ∧ b.nt
 | .ite c a b => c.nt ∧ a.nt ∧ b.nt
 | .pair a b => a.nt ∧ b.nt
 | .part _ e => e.nt
 | .cast _ _ _ _ => False
theorem A3p : ∀ e : GE, e.er.nt := by
 intro e
 induction e with
 | var x => trivial
 | num n => trivial
 | tru b => trivial
 | lam x A e i => exact ⟨rfl, i⟩
 | app f a i j => exact ⟨i, j⟩
 | ar s a b i j => exact ⟨i, j⟩
 | ite c a b i j k => exact ⟨i, j, k⟩
 | pair a b i j => exact ⟨i, j⟩
 | part s e i => exact i
 | cast A B l e i => exact i
theorem B6t (x : ByteArray) (v : GE) : ∀ e : GE, (e.sub x v).er = e.er.sub x v.er := by
 intro e
 induction e with
 | var y => simp only [GE.er, GE.sub]; split <;> rfl
 | num n => rfl
 | tru b => rfl
 | lam y A e i =>
  simp only [GE.er, GE.sub]
  split
  ·rfl
  ·rw [GE.er, i]
 | app f a i j => simp only [GE.er, GE.sub, i, j]
 | ar s a b i j => simp only [GE.er, GE.sub, i, j]
 | ite c a b i j k => simp only [GE.er, GE.sub, i, j, k]
 | pair a b i j => simp only [GE.er, GE.sub, i, j]
 | part s e i => simp only [GE.er, GE.sub, i]
 | cast A B l e i => simp only [GE.er, GE.sub, i]
theorem A13 {e : GE} (h : GV e) : GV e.er := by
 induction h with
 | num => exact .num
 | tru => exact .tru
 | lam => exact .lam
 | pair _ _ i j => exact .pair i j
 | pf _ i => exact i
 | pp _ i => exact i
 | inj _ _ i => exact i
theorem B04 {e r : GE} (h : GS e r) : e.er = r.er ∨ GS e.er r.er := by
 induction h with
 | app1 _ i => exact i.elim (fun h => .inl (by simp only [GE.er, h])) (fun h => .inr (.app1 h))
 | app2 v _ i => exact i.elim (fun h => .inl (by simp only [GE.er, h])) (fun h => .inr (.app2 (A13 v) h))
 | ar1 _ i => exact i.elim (fun h => .inl (by simp only [GE.er, h])) (fun h => .inr (.ar1 h))
 | ar2 v _ i => exact i.elim (fun h => .inl (by simp only [GE.er, h])) (fun h => .inr (.ar2 (A13 v) h))
 | ite1 _ i => exact i.elim (fun h => .inl (by simp only [GE.er, h])) (fun h => .inr (.ite1 h))
 | pair1 _ i => exact i.elim (fun h => .inl (by simp only [GE.er, h])) (fun h => .inr (.pair1 h))
 | pair2 v _ i => exact i.elim (fun h => .inl (by simp only [GE.er, h])) (fun h => .inr (.pair2 (A13 v) h))
 | part1 _ i => exact i.elim (fun h => .inl (by simp only [GE.er, h])) (fun h => .inr (.part1 h))
 | cast1 _ i => exact i
 | beta v => exact .inr (by rw [B6t]; exact .beta (A13 v))
 | appx _ _ => exact .inl rfl
 | @ar s m n => exact .inr (by rw [show (A1r s m n).er = A1r s m n by unfold A1r; split <;> rfl]; exact .ar)
 | @ite b x y => exact .inr (by rw [show (if b = true then x else y).er = if b = true then x.er else y.er by split <;> rfl]; exact .ite)
 | @part s a b v v2 => exact .inr (by rw [show (if s = true then b else a).er = if s = true then b.er else a.er by split <;> rfl]; exact .part (A13 v) (A13 v2))
 | partx _ => exact .inl rfl
 | cid _ _ => exact .inl rfl
 | up _ _ _ => exact .inl rfl
 | down _ _ _ => exact .inl rfl
 | hit _ _ => exact .inl rfl
inductive Sn : Nat → GE → GE → Prop
 | refl {e} : Sn 0 e e
 | step {n a b c} : GS a b → Sn n b c → Sn (n + 1) a c
theorem B6u {n : Nat} {e r : GE} (h : Sn n e r) : ∃ m, m ≤ n ∧ Sn m e.er r.er := by
 induction h with
 | refl => exact ⟨0, Nat.le_refl _, .refl⟩
 | step s _ i =>
  obtain ⟨m, h1, h2⟩ := i
  rcases B04 s with h | h
  ·exact ⟨m, by omega, by rw [h]; exact h2⟩
  ·exact ⟨m + 1, by omega, .step h h2⟩
theorem B6v {Γ : GC} {v v' : GE} {U U' : GT} (h : GP Γ v v' U U') : ∀ {A B : GT}, Γ = N3 → U = .fn A B → GV v → v.er.tx = .f := by
 induction h with
 | castR _ _ _ i => exact i
 | castL h _ _ i =>
  intro A B hE hU hv
  subst hU
  cases hv with
  | pf hv => exact i hE rfl hv
 | castB h _ _ _ i =>
  intro A B hE hU hv
  subst hU
  cases hv with
  | pf hv => exact i hE rfl hv
 | lam _ _ _ => intro _ _ _ _ _; rfl
 | app _ _ _ _ => intro _ _ _ _ hv; cases hv
 | ite _ _ _ _ _ _ => intro _ _ _ _ hv; cases hv
 | part _ _ => intro _ _ _ _ hv; cases hv
 | ar _ _ _ _ => intro _ _ _ _ hv; cases hv
 | var _ _ => intro _ _ _ _ hv; cases hv
 | _ => intro _ _ _ hU; cases hU
theorem B6w {Γ : GC} {v v' : GE} {U U' : GT} (h : GP Γ v v' U U') : ∀ {A B : GT}, Γ = N3 → U = .pr A B → GV v → v.er.tx = .p := by
 induction h with
 | castR _ _ _ i => exact i
 | castL h _ _ i =>
  intro A B hE hU hv
  subst hU
  cases hv with
  | pp hv => exact i hE rfl hv
 | castB h _ _ _ i =>
  intro A B hE hU hv
  subst hU
  cases hv with
  | pp hv => exact i hE rfl hv
 | pair _ _ _ _ => intro _ _ _ _ _; rfl
 | app _ _ _ _ => intro _ _ _ _ hv; cases hv
 | ite _ _ _ _ _ _ => intro _ _ _ _ hv; cases hv
 | part _ _ => intro _ _ _ _ hv; cases hv
 | ar _ _ _ _ => intro _ _ _ _ hv; cases hv
 | var _ _ => intro _ _ _ _ hv; cases hv
 | _ => intro _ _ _ hU; cases hU
theorem B6x {Γ : GC} {v v' : GE} {U U' : GT} (h : GP Γ v v' U U') : Γ = N3 → GV v → v.er.tx = v.tx := by
 have cst : ∀ {Γ : GC} {e e' : GE} {A B A' : GT} {l : Int}, GP Γ e e' A A' → (Γ = N3 → GV e → e.er.tx = e.tx) → Γ = N3 → GV (.cast A B l e) → (GE.cast A B l e).er.tx = (GE.cast A B l e).tx := by
  intro Γ e e' A B A' l h i hE hv
  cases hv with
  | pf hv => rw [GE.er, B6v h hE rfl hv]; rfl
  | pp hv => rw [GE.er, B6w h hE rfl hv]; rfl
  | inj hv _ => exact i hE hv
 induction h with
 | castL h _ _ i => exact cst h i
 | castB h _ _ _ i => exact cst h i
 | castR _ _ _ i => exact i
 | num => intro _ _; rfl
 | tru => intro _ _; rfl
 | lam _ _ _ => intro _ _; rfl
 | pair _ _ _ _ => intro _ _; rfl
 | app _ _ _ _ => intro _ hv; cases hv
 | ite _ _ _ _ _ _ => intro _ hv; cases hv
 | part _ _ => intro _ hv; cases hv
 | ar _ _ _ _ => intro _ hv; cases hv
 | var _ _ => intro _ hv; cases hv
def A2q (k : Int) : Int := if k = 6 then 1 else if k = 7 ∨ k = 8 then 2 else if k = 9 then 3 else if k = 11 ∨ k = 12 then 4 else 5
def T7 (k : Int) (ks : List Tm) : Stp := match P2 k ks with
 | some u => (u, 1, 0)
 | none => (E2, 2, A2q k)
mutual
def H3 : Tm → Stp
 | .mk k nm num ty fr lb ks => match V5 (if k = 9 then 1 else ks.length) ks with
  | some (ks', c, l) => if c = 1 then (.mk k nm num ty fr lb ks', 1, 0) else (E2, c, l)
  | none => T7 k ks
def V5 : Nat → List Tm → Option (List Tm × Int × Int)
 | _, [] => none
 | n, t :: ts => match n with
  | 0 => none
  | n + 1 => if C5 t = true then (match V5 n ts with
    | some (us, c, l) => some (t :: us, c, l)
    | none => none)
   else some ((H3 t).1 :: ts, (H3 t).2.1, (H3 t).2.2)
end
mutual
def N4 : Tm → Bool
 | .mk k _ _ ty _ _ ks => decide (k ≠ 14 ∧ (k ≠ 5 ∨ ty.k = 1)) && A5F ks
def A5F : List Tm → Bool
 | [] => true
 | t :: ts => N4 t && A5F ts
end
theorem A7z : ∀ ks, A5F ks = ks.all N4
 | [] => rfl
 | t :: ts => by rw [A5F, A7z ts, List.all_cons]
theorem X4 {k : Int} {nm : ByteArray} {num : Int} {ty fr : Ty} {lb : Int} {ks : List Tm} : N4 (.mk k nm num ty fr lb ks) = true ↔ (k ≠ 14 ∧ (k ≠ 5 ∨ ty.k = 1)) ∧ ∀ t ∈ ks, N4 t = true := by
 rw [N4, Bool.and_eq_true, decide_eq_true_eq, A7z, List.all_eq_true]
def P0 (e : Tm) : Bool := J1 e && N4 e
def F0 (e : Tm) : Stp :=
 if P0 e = false then (E2, 3, 0) else if C5 e = true then (e, 0, 0)
 else if (H3 e).2.1 ≠ 1 then (E2, (H3 e).2.1, (H3 e).2.2)
 else if P0 (H3 e).1 = false then (E2, 4, 0) else ((H3 e).1, 1, 0)
def R8 : Nat → Tm → Tm × Int × Int × Nat
 | 0, e => ((F0 e).1, (F0 e).2.1, (F0 e).2.2, 0)
 | n + 1, e => if (F0 e).2.1 = 1 then ((R8 n (F0 e).1).1, (R8 n (F0 e).1).2.1, (R8 n (F0 e).1).2.2.1, (R8 n (F0 e).1).2.2.2 + 1)
  else ((F0 e).1, (F0 e).2.1, (F0 e).2.2, 0)
def I1 : Nat → Tm → Tm × Int × Int × Nat
 | 0, e => if (F0 e).2.1 = 1 then (E2, 5, 0, 0) else ((F0 e).1, (F0 e).2.1, (F0 e).2.2, 0)
 | n + 1, e => if (F0 e).2.1 = 1 then ((I1 n (F0 e).1).1, (I1 n (F0 e).1).2.1, (I1 n (F0 e).1).2.2.1, (I1 n (F0 e).1).2.2.2 + 1)
  else ((F0 e).1, (F0 e).2.1, (F0 e).2.2, 0)
theorem B05 (e : Tm) : R8 0 e = ((F0 e).1, (F0 e).2.1, (F0 e).2.2, 0) := by rw [R8]
theorem B06 {n : Nat} {e : Tm} (h : (F0 e).2.1 = 1) : R8 (n + 1) e = ((R8 n (F0 e).1).1, (R8 n (F0 e).1).2.1, (R8 n (F0 e).1).2.2.1, (R8 n (F0 e).1).2.2.2 + 1) := by rw [R8, if_pos h]
theorem B07 {n : Nat} {e : Tm} (h : (F0 e).2.1 ≠ 1) : R8 (n + 1) e = ((F0 e).1, (F0 e).2.1, (F0 e).2.2, 0) := by rw [R8, if_neg h]
theorem B08 : ∀ (n : Nat) (e : Tm), (R8 n e).2.1 = 1 → I1 n e = (E2, 5, 0, (R8 n e).2.2.2)
 | 0, e, h => by rw [B05] at h ⊢; rw [I1, if_pos h]
 | n + 1, e, h => by
  by_cases h1 : (F0 e).2.1 = 1
  ·rw [B06 h1] at h ⊢
   rw [I1, if_pos h1, B08 n _ h]
  ·rw [B07 h1] at h; exact absurd h h1
theorem B09 : ∀ (n : Nat) (e : Tm), (R8 n e).2.1 ≠ 1 → I1 n e = R8 n e
 | 0, e, h => by rw [B05] at h ⊢; rw [I1, if_neg h]
 | n + 1, e, h => by
  by_cases h1 : (F0 e).2.1 = 1
  ·rw [B06 h1] at h ⊢
   rw [I1, if_pos h1, B09 n _ h]
  ·rw [B07 h1]; rw [I1, if_neg h1]
theorem B6y {m i : Nat} {e : Tm} (h : (F0 e).2.1 ≠ 1 ∨ m = 0) : W4 i (R8 m e) = ((F0 e).1, (F0 e).2.1, (F0 e).2.2, i) := by
 cases m with
 | zero => simp [W4, R8]
 | succ m =>
  rcases h with h | h
  ·simp only [W4, R8]; rw [if_neg h]; simp
  ·cases h
theorem B6z {m i : Nat} {e : Tm} (h : (F0 e).2.1 = 1) (hm : 0 < m) : W4 i (R8 m e) = W4 (i + 1) (R8 (m - 1) (F0 e).1) := by
 obtain ⟨k, rfl⟩ : ∃ k, m = k + 1 := ⟨m - 1, by omega⟩
 simp only [W4, R8]; rw [if_pos h]; simp only [Nat.add_sub_cancel, Nat.add_assoc, Nat.add_comm 1 i]
theorem B6A {m i : Nat} {e : Tm} (h : (F0 e).2.1 ≠ 1) : W4 i (I1 m e) = ((F0 e).1, (F0 e).2.1, (F0 e).2.2, i) := by
 cases m with
 | zero => rw [I1, if_neg h]; simp [W4]
 | succ m => rw [I1, if_neg h]; simp [W4]
theorem B6B {m i : Nat} {e : Tm} (h : (F0 e).2.1 = 1) (hm : m = 0) : W4 i (I1 m e) = (E2, 5, 0, i) := by
 subst hm; rw [I1, if_pos h]; simp [W4]
theorem B6C {m i : Nat} {e : Tm} (h : (F0 e).2.1 = 1) (hm : 0 < m) : W4 i (I1 m e) = W4 (i + 1) (I1 (m - 1) (F0 e).1) := by
 obtain ⟨k, rfl⟩ : ∃ k, m = k + 1 := ⟨m - 1, by omega⟩
 rw [I1, if_pos h]; simp only [W4, Nat.add_sub_cancel, Nat.add_assoc, Nat.add_comm 1 i]
def U5 (e : Tm) (fuel : Int) : Stp := if 0 ≤ fuel ∧ fuel ≤ 300 then ((I1 fuel.toNat e).1, (I1 fuel.toNat e).2.1, (I1 fuel.toNat e).2.2.1) else (E2, 3, 0)
def B94 (e : Tm) (fuel : Int) : Int := if 0 ≤ fuel ∧ fuel ≤ 300 then ((I1 fuel.toNat e).2.2.2 : Int) else 0
theorem A4m (n : Nat) (t : Tm) (ts : List Tm) : V5 (n + 1) (t :: ts) = if C5 t = true then (match V5 n ts with | some (us, c, l) => some (t :: us, c, l) | none => none) else some ((H3 t).1 :: ts, (H3 t).2.1, (H3 t).2.2) := by
 rw [V5]
theorem B1a : ∀ (n : Nat) (ks : List Tm), (∀ i, i < n → (h : i < ks.length) → C5 ks[i] = true) → V5 n ks = none
 | n, [], _ => by cases n <;> rfl
 | 0, t :: ts, _ => rfl
 | n + 1, t :: ts, h => by
  rw [A4m, if_pos (show C5 t = true from h 0 (by omega) (by simp)), B1a n ts (fun i hi hl => h (i + 1) (by omega) (by simpa using hl))]
theorem A7A : ∀ (n : Nat) (ks : List Tm) (i : Nat) (hi : i < ks.length), i < n → (∀ j, j < i → (h : j < ks.length) → C5 ks[j] = true) → C5 ks[i] = false → V5 n ks = some (ks.set i (H3 ks[i]).1, (H3 ks[i]).2.1, (H3 ks[i]).2.2)
 | n, [], i, hi, _, _, _ => by simp at hi
 | 0, t :: ts, i, _, hn, _, _ => by omega
 | n + 1, t :: ts, 0, _, _, _, hv => by
  rw [A4m, if_neg (by rw [show C5 t = false from hv]; decide)]; rfl
 | n + 1, t :: ts, i + 1, hi, hn, hj, hv => by
  rw [A4m, if_pos (show C5 t = true from hj 0 (by omega) (by simp)), A7A n ts i (by simpa using hi) (by omega) (fun j hji hl => hj (j + 1) (by omega) (by simpa using hl)) hv]
  rfl
theorem B6D {k : Int} {nm : ByteArray} {num : Int} {ty fr : Ty} {lb : Int} {ks : List Tm} (h : (H3 (.mk k nm num ty fr lb ks)).2.1 = 1) : (H3 (.mk k nm num ty fr lb ks)).2.2 = 0 := by
 rw [H3] at h ⊢
 cases hL : V5 (if k = 9 then 1 else ks.length) ks with
 | none =>
  rw [hL] at h
  simp only [T7] at h ⊢
  cases hr : P2 k ks with
  | none => rw [hr] at h; cases h
  | some u => rfl
 | some p =>
  obtain ⟨us, c, l⟩ := p
  rw [hL] at h
  simp only at h ⊢
  by_cases hc : c = 1
  ·rw [if_pos hc]
  ·rw [if_neg hc] at h; exact absurd h hc
theorem B6E {t : Tm} (h : (H3 t).2.1 = 1) : (H3 t).2.2 = 0 := by cases t; exact B6D h
theorem A7B {k : Int} {nm : ByteArray} {num : Int} {ty fr : Ty} {lb : Int} {ks : List Tm} {i : Nat} (hi : i < ks.length) (hn : i < (if k = 9 then 1 else ks.length)) (hj : ∀ j, j < i → (h : j < ks.length) → C5 ks[j] = true) (hv : C5 ks[i] = false) :
  (H3 (.mk k nm num ty fr lb ks)).2.1 = (H3 ks[i]).2.1 ∧ (H3 (.mk k nm num ty fr lb ks)).2.2 = (H3 ks[i]).2.2 ∧ ((H3 ks[i]).2.1 = 1 → (H3 (.mk k nm num ty fr lb ks)).1 = .mk k nm num ty fr lb (ks.set i (H3 ks[i]).1)) := by
 rw [H3, A7A _ ks i hi hn hj hv]
 simp only
 by_cases hc : (H3 ks[i]).2.1 = 1
 ·rw [if_pos hc]
  exact ⟨hc.symm, (B6E hc).symm, fun _ => rfl⟩
 ·rw [if_neg hc]
  exact ⟨rfl, rfl, fun h => absurd h hc⟩
theorem A7C {k : Int} {nm : ByteArray} {num : Int} {ty fr : Ty} {lb : Int} {ks : List Tm} (h : ∀ i, i < (if k = 9 then 1 else ks.length) → (hl : i < ks.length) → C5 ks[i] = true) : H3 (.mk k nm num ty fr lb ks) = T7 k ks := by
 rw [H3, B1a _ _ h]
theorem A1k {k : Int} {ks : List Tm} {u : Tm} (h : P2 k ks = some u) : T7 k ks = (u, 1, 0) := by unfold T7; rw [h]
theorem A14 {k : Int} {ks : List Tm} (h : P2 k ks = none) : T7 k ks = (E2, 2, A2q k) := by unfold T7; rw [h]
theorem A5G {e : Tm} (h : P0 e = false) : F0 e = (E2, 3, 0) := by unfold F0; rw [if_pos h]
theorem A4n {e : Tm} (h : P0 e = true) (h2 : C5 e = true) : F0 e = (e, 0, 0) := by unfold F0; rw [if_neg (by rw [h]; decide), if_pos h2]
theorem A5H {e : Tm} (h : P0 e = true) (h2 : C5 e = false) (h3 : (H3 e).2.1 ≠ 1) : F0 e = (E2, (H3 e).2.1, (H3 e).2.2) := by
 unfold F0; rw [if_neg (by rw [h]; decide), if_neg (by rw [h2]; decide), if_pos h3]
theorem A4o {e : Tm} (h : P0 e = true) (h2 : C5 e = false) (h3 : (H3 e).2.1 = 1) (h4 : P0 (H3 e).1 = false) : F0 e = (E2, 4, 0) := by
 unfold F0; rw [if_neg (by rw [h]; decide), if_neg (by rw [h2]; decide), if_neg (by omega), if_pos h4]
theorem A4p {e : Tm} (h : P0 e = true) (h2 : C5 e = false) (h3 : (H3 e).2.1 = 1) (h4 : P0 (H3 e).1 = true) : F0 e = ((H3 e).1, 1, 0) := by
 unfold F0; rw [if_neg (by rw [h]; decide), if_neg (by rw [h2]; decide), if_neg (by omega), if_neg (by rw [h4]; decide)]
theorem A01 {e : Tm} (h : P0 e = true) : J1 e = true ∧ N4 e = true := by
 unfold P0 at h; rwa [Bool.and_eq_true] at h
mutual
theorem B1b {x : ByteArray} {v : Tm} (hv : N4 v = true) : ∀ t : Tm, N4 t = true → N4 (R3 x v t) = true
 | .mk k nm num ty fr lb ks, h => by
  have h' := X4.1 h
  rw [R3]
  split
  ·exact hv
  ·split
   ·exact h
   ·exact X4.2 ⟨h'.1, B1c hv ks h'.2⟩
theorem B1c {x : ByteArray} {v : Tm} (hv : N4 v = true) : ∀ ts : List Tm, (∀ t ∈ ts, N4 t = true) → ∀ t ∈ Q2 x v ts, N4 t = true
 | [], _ => by simp [Q2]
 | t :: ts, h => by
  have h1 := B1b (x := x) hv t (h t List.mem_cons_self)
  have h2 := B1c (x := x) hv ts fun u hu => h u (List.mem_cons_of_mem _ hu)
  intro u hu
  rw [Q2] at hu
  rcases List.mem_cons.1 hu with he | hu
  ·rw [he]; exact h1
  ·exact h2 u hu
end
theorem B6F : N4 E2 = true := by decide
theorem A5I {ks : List Tm} (h : ∀ t ∈ ks, N4 t = true) (i : Nat) : N4 (kd ks i) = true := by
 unfold kd
 rw [List.getD_eq_getElem?_getD]
 cases hi : ks[i]? with
 | none => exact B6F
 | some t => exact h t (List.mem_of_getElem? hi)
theorem B6G {t : Tm} (h : N4 t = true) : ∀ u ∈ t.ks, N4 u = true := by cases t; exact (X4.1 h).2
theorem B6H {k : Int} {ks : List Tm} {u : Tm} (h : ∀ t ∈ ks, N4 t = true) (hr : P2 k ks = some u) : N4 u = true := by
 have a0 := A5I h 0
 have a1 := A5I h 1
 have a2 := A5I h 2
 have b := fun i => A5I (B6G a0) i
 revert hr
 unfold P2
 split
 ·split
  ·intro he; cases he; exact B1b a1 _ (b 0)
  ·intro he; cases he
 ·split
  ·split
   ·intro he
    cases he
    split
    ·exact X4.2 ⟨⟨by decide, .inl (by decide)⟩, by simp⟩
    ·exact X4.2 ⟨⟨by split <;> decide, .inl (by split <;> decide)⟩, by simp⟩
   ·intro he; cases he
  ·split
   ·split
    ·intro he; cases he; exact a1
    ·split
     ·intro he; cases he; exact a2
     ·intro he; cases he
   ·split
    ·split
     ·intro he; cases he; exact b _
     ·intro he; cases he
    ·intro he; cases he
theorem B6I (ks : List Tm) (ih : ∀ t ∈ ks, N4 t = true → (H3 t).2.1 = 1 → N4 (H3 t).1 = true) : ∀ (n : Nat) (us : List Tm) (c l : Int), (∀ t ∈ ks, N4 t = true) → V5 n ks = some (us, c, l) → c = 1 → ∀ t ∈ us, N4 t = true := by
 induction ks with
 | nil => intro n us c l _ h; cases n <;> (rw [V5] at h; cases h)
 | cons t ts ihl =>
  intro n us c l hb h hc
  cases n with
  | zero => rw [V5] at h; cases h
  | succ n =>
   rw [A4m] at h
   split at h
   ·split at h
    ·rename_i us' c' l' h'
     cases h
     have := ihl (fun t ht => ih t (List.mem_cons_of_mem _ ht)) n us' c l (fun t ht => hb t (List.mem_cons_of_mem _ ht)) h' hc
     intro u hu
     rcases List.mem_cons.1 hu with he | hu
     ·rw [he]; exact hb t List.mem_cons_self
     ·exact this u hu
    ·cases h
   ·cases h
    intro u hu
    rcases List.mem_cons.1 hu with he | hu
    ·rw [he]; exact ih t List.mem_cons_self (hb t List.mem_cons_self) hc
    ·exact hb u (List.mem_cons_of_mem _ hu)
theorem B6J : ∀ t : Tm, N4 t = true → (H3 t).2.1 = 1 → N4 (H3 t).1 = true := by
 refine Tm.ind fun k nm num ty fr lb ks ih h hc => ?_
 obtain ⟨h1, h2⟩ := X4.1 h
 rw [H3] at hc ⊢
 split at hc
 ·rename_i ks' c l hs
  by_cases h1' : c = 1
  ·rw [if_pos h1']
   exact X4.2 ⟨h1, B6I ks ih _ _ _ _ h2 hs h1'⟩
  ·rw [if_neg h1'] at hc; exact absurd hc h1'
 ·cases hr : P2 k ks with
  | none => rw [A14 hr] at hc; cases hc
  | some u => rw [A1k hr]; exact B6H h2 hr
theorem B6K {e : Tm} (h : P0 e = true) (h3 : (H3 e).2.1 = 1) : P0 (H3 e).1 = J1 (H3 e).1 := by
 unfold P0
 rw [B6J e (A01 h).2 h3, Bool.and_true]
theorem B6L {e : Tm} (h : (F0 e).2.1 = 1) : P0 (F0 e).1 = true := by
 cases h1 : P0 e with
 | false => rw [A5G h1] at h; simp at h
 | true =>
  cases h2 : C5 e with
  | true => rw [A4n h1 h2] at h; simp at h
  | false =>
   by_cases h3 : (H3 e).2.1 = 1
   ·cases h4 : P0 (H3 e).1 with
    | false => rw [A4o h1 h2 h3 h4] at h; simp at h
    | true => rw [A4p h1 h2 h3 h4]; exact h4
   ·rw [A5H h1 h2 h3] at h; exact absurd h h3
section
variable {k : Int} {nm : ByteArray} {num : Int} {ty fr : Ty} {lb : Int} {a b c : Tm} {t : Tm} {l : Int}
theorem A4q (h : C5 a = false) (ks : List Tm) (r : Tm) (hs : H3 a = (r, 1, 0)) : H3 (.mk k nm num ty fr lb (a :: ks)) = (.mk k nm num ty fr lb (r :: ks), 1, 0) := by
 have : ∃ n, (if k = 9 then 1 else (a :: ks).length) = n + 1 := ⟨if k = 9 then 0 else ks.length, by split <;> simp⟩
 obtain ⟨n, hn⟩ := this
 rw [H3, hn, V5, if_neg (by rw [h]; decide), hs]
 simp
theorem A7D (h0 : C5 a = true) (h : C5 b = false) (hk : k ≠ 9) (r : Tm) (hs : H3 b = (r, 1, 0)) : H3 (.mk k nm num ty fr lb [a, b]) = (.mk k nm num ty fr lb [a, r], 1, 0) := by
 rw [H3, if_neg hk]
 simp only [List.length_cons, List.length_nil, V5, h0, h, if_true, hs]
 simp
theorem A5J (h : C5 a = true) : H3 (.mk k nm num ty fr lb [a]) = T7 k [a] := by
 rw [H3, show (if k = 9 then 1 else [a].length) = 1 by split <;> rfl, V5, h]
 simp [V5]
theorem A1l (h : C5 a = true) (h2 : C5 b = true) (hk : k ≠ 9) : H3 (.mk k nm num ty fr lb [a, b]) = T7 k [a, b] := by
 rw [H3, if_neg hk]
 simp [V5, h, h2]
theorem A5K (h : C5 a = true) : H3 (.mk 9 nm num ty fr lb [a, b, c]) = T7 9 [a, b, c] := by
 rw [H3, if_pos rfl]
 simp [V5, h]
end
theorem B6M {x : ByteArray} {v : GE} (hv : v.nt) : ∀ e : GE, e.nt → (e.sub x v).nt := by
 intro e
 induction e with
 | var y => intro _; rw [GE.sub]; split; exact hv; trivial
 | num n => intro h; exact h
 | tru b => intro h; exact h
 | lam y A e i => intro h; rw [GE.sub]; split; exact h; exact ⟨h.1, i h.2⟩
 | app f a i j => intro h; exact ⟨i h.1, j h.2⟩
 | ar s a b i j => intro h; exact ⟨i h.1, j h.2⟩
 | ite c a b i j k => intro h; exact ⟨i h.1, j h.2.1, k h.2.2⟩
 | pair a b i j => intro h; exact ⟨i h.1, j h.2⟩
 | part s e i => intro h; exact i h
 | cast A B l e i => intro h; exact h.elim
theorem A3q {e r : GE} (h : GS e r) : e.nt → H3 e.tm = (r.tm, 1, 0) ∧ r.nt := by
 induction h with
 | app1 s i => exact fun h => ⟨by rw [GE.tm, A4q (nv s) _ _ (i h.1).1, GE.tm], (i h.1).2, h.2⟩
 | app2 v s i => exact fun h => ⟨by rw [GE.tm, A7D ((O6 _).2 v) (nv s) (by decide) _ (i h.2).1, GE.tm], h.1, (i h.2).2⟩
 | ar1 s i => exact fun h => ⟨by rw [GE.tm, A4q (nv s) _ _ (i h.1).1, GE.tm], (i h.1).2, h.2⟩
 | @ar2 t _ _ _ v s i => exact fun h => ⟨by rw [GE.tm, A7D ((O6 _).2 v) (nv s) (by cases t <;> decide) _ (i h.2).1, GE.tm], h.1, (i h.2).2⟩
 | ite1 s i => exact fun h => ⟨by rw [GE.tm, A4q (nv s) _ _ (i h.1).1, GE.tm], (i h.1).2, h.2⟩
 | pair1 s i => exact fun h => ⟨by rw [GE.tm, A4q (nv s) _ _ (i h.1).1, GE.tm], (i h.1).2, h.2⟩
 | pair2 v s i => exact fun h => ⟨by rw [GE.tm, A7D ((O6 _).2 v) (nv s) (by decide) _ (i h.2).1, GE.tm], h.1, (i h.2).2⟩
 | part1 s i => exact fun h => ⟨by rw [GE.tm, A4q (nv s) _ _ (i h).1, GE.tm], (i h).2⟩
 | cast1 s i => exact fun h => h.elim
 | @beta x A b v hv =>
  intro h
  refine ⟨?_, B6M h.2 _ h.1.2⟩
  rw [GE.tm, A1l ((O6 _).2 .lam) ((O6 _).2 hv) (by decide), A1k (u := (b.sub x v).tm) (by rw [A9H]; rfl)]
 | appx _ _ => exact fun h => h.1.elim
 | @ar s m n =>
  intro h
  refine ⟨?_, by unfold A1r; split <;> trivial⟩
  rw [GE.tm, A1l rfl rfl (by cases s <;> decide)]
  cases s
  ·rfl
  ·by_cases hmn : m < n
   ·simp only [A1r, if_true, decide_eq_true hmn, GE.tm]
    refine A1k ?_
    simp only [P2, kd, List.getD_cons_zero, List.getD_cons_succ, Tm.k, Tm.num]
    simp [W3, Y8, hmn]
   ·simp only [A1r, if_true, decide_eq_false hmn, GE.tm]
    refine A1k ?_
    simp only [P2, kd, List.getD_cons_zero, List.getD_cons_succ, Tm.k, Tm.num]
    simp [W3, Y8, hmn]
 | @ite b x y =>
  intro h
  refine ⟨?_, by cases b; exact h.2.2; exact h.2.1⟩
  rw [GE.tm, A5K ((O6 _).2 .tru)]
  cases b <;> rfl
 | @part s a b v v2 =>
  intro h
  refine ⟨?_, by cases s; exact h.1; exact h.2⟩
  rw [GE.tm, A5J ((O6 _).2 (.pair v v2))]
  cases s <;> rfl
 | partx _ => exact fun h => h.elim
 | cid _ _ => exact fun h => h.elim
 | up _ _ _ => exact fun h => h.elim
 | down _ _ _ => exact fun h => h.elim
 | hit _ _ => exact fun h => h.elim
theorem A4r : ∀ e : GE, N4 e.tm = true ↔ e.nt := by
 intro e
 induction e with
 | var x => rw [GE.tm, X4]; simp [GE.nt]
 | num n => rw [GE.tm, X4]; simp [GE.nt]
 | tru b => rw [GE.tm, X4]; cases b <;> simp [GE.nt]
 | lam x A e i => rw [GE.tm, X4, A1W]; simp [GE.nt, i]
 | app f a i j => rw [GE.tm, X4]; simp [GE.nt, i, j]
 | ar s a b i j => rw [GE.tm, X4]; cases s <;> simp [GE.nt, i, j]
 | ite c a b i j k => rw [GE.tm, X4]; simp [GE.nt, i, j, k]
 | pair a b i j => rw [GE.tm, X4]; simp [GE.nt, i, j]
 | part s e i => rw [GE.tm, X4]; cases s <;> simp [GE.nt, i]
 | cast A B l e i => rw [GE.tm, X4]; simp [GE.nt]
theorem B6N {n : Nat} {e : Tm} (h : (F0 e).2.1 = 1) : I1 (n + 1) e = ((I1 n (F0 e).1).1, (I1 n (F0 e).1).2.1, (I1 n (F0 e).1).2.2.1, (I1 n (F0 e).1).2.2.2 + 1) := by rw [I1, if_pos h]
theorem B6O : ∀ {m : Nat} {e w : GE}, Sn m e w → GV w → e.nt → ∀ (n : Nat), J1 e.tm = true → ((I1 n e.tm).2.1 = 0 ∧ (I1 n e.tm).1 = w.tm ∧ (I1 n e.tm).2.2.2 = m ∧ (I1 n e.tm).2.2.1 = 0) ∨ (I1 n e.tm).2.1 = 4 ∨ ((I1 n e.tm).2.1 = 5 ∧ n < m) := by
 intro m e w h
 induction h with
 | @refl e =>
  intro hv hn n hc
  have hb : P0 e.tm = true := by unfold P0; rw [hc, (A4r e).2 hn]; rfl
  have : F0 e.tm = (e.tm, 0, 0) := A4n hb ((O6 _).2 hv)
  cases n with
  | zero => rw [I1, this]; exact .inl ⟨rfl, rfl, rfl, rfl⟩
  | succ n => rw [I1, this]; exact .inl ⟨rfl, rfl, rfl, rfl⟩
 | @step m a b c s _ ih =>
  intro hv hn n hc
  obtain ⟨hs, hnb⟩ := A3q s hn
  have hb : P0 a.tm = true := by unfold P0; rw [hc, (A4r a).2 hn]; rfl
  have hbb : P0 b.tm = J1 b.tm := by unfold P0; rw [(A4r b).2 hnb, Bool.and_true]
  cases hcb : J1 b.tm with
  | false =>
   have : F0 a.tm = (E2, 4, 0) := A4o hb (nv s) (by rw [hs]) (by rw [hs]; show P0 b.tm = false; rw [hbb, hcb])
   cases n with
   | zero => rw [I1, this]; exact .inr (.inl rfl)
   | succ n => rw [I1, this]; exact .inr (.inl rfl)
  | true =>
   have : F0 a.tm = (b.tm, 1, 0) := by
    have h5 := A4p hb (nv s) (by rw [hs]) (by rw [hs]; show P0 b.tm = true; rw [hbb, hcb])
    rw [h5, hs]
   cases n with
   | zero => rw [I1, this]; exact .inr (.inr ⟨rfl, Nat.succ_pos _⟩)
   | succ n =>
    rw [B6N (by rw [this]), this]
    rcases ih hv hnb n hcb with ⟨h1, h2, h3, h4⟩ | h1 | ⟨h1, h2⟩
    ·exact .inl ⟨h1, h2, by show (I1 n b.tm).2.2.2 + 1 = _; rw [h3], h4⟩
    ·exact .inr (.inl h1)
    ·exact .inr (.inr ⟨h1, by omega⟩)
theorem B6P : ∀ (n : Nat) {e e' : GE} {A A' : GT}, GP N3 e e' A A' → (K7 n e.tm).2.1 = 0 → ∃ w, (K7 n e.tm).1 = w.tm ∧ GV w ∧ Sn (K7 n e.tm).2.2.2 e w ∧ (K7 n e.tm).2.2.2 ≤ n ∧ ∃ w' B B', GP N3 w w' B B' := by
 intro n
 have fin : ∀ {n : Nat} {e e' : GE} {A A' : GT}, GP N3 e e' A A' → (H2 e.tm).2.1 = 0 → ∃ w, (H2 e.tm).1 = w.tm ∧ GV w ∧ Sn 0 e w ∧ 0 ≤ n ∧ ∃ w' B B', GP N3 w w' B B' := by
  intro n e e' A A' hp h0
  have hv : C5 e.tm = true := by
   rcases A6V hp rfl with hv | ⟨r, s⟩ | b
   ·exact (O6 _).2 hv
   ·exact (A9L h0 (by rw [A5g s]; show (1 : Int) ≠ 0; decide)).1
   ·exact (A9L h0 (by rw [b.2]; decide)).1
  refine ⟨e, ?_, (O6 _).1 hv, .refl, Nat.zero_le _, e', A, A', hp⟩
  unfold H2 at h0 ⊢
  split at h0
  ·cases h0
  ·rename_i h1; rw [if_neg h1, if_pos hv]
 induction n with
 | zero =>
  intro e e' A A' hp h
  rw [K7] at h ⊢
  by_cases h1 : (H2 e.tm).2.1 = 1
  ·rw [if_pos h1] at h; cases h
  ·rw [if_neg h1] at h ⊢; exact fin hp h
 | succ n ih =>
  intro e e' A A' hp h
  by_cases h1 : (H2 e.tm).2.1 = 1
  ·obtain ⟨_, hv, hs, he⟩ := A9K h1
   rcases A6V hp rfl with hv' | ⟨r, s⟩ | b
   ·rw [(O6 _).2 hv'] at hv; cases hv
   ·rw [A9M h1] at h ⊢
    have hr : (H2 e.tm).1 = r.tm := by rw [he, A5g s]
    rw [hr] at h ⊢
    obtain ⟨r', _, hp'⟩ := sim hp rfl s
    obtain ⟨w, h2, h3, h4, h5, h6⟩ := ih hp' h
    exact ⟨w, h2, h3, .step s h4, by show (K7 n r.tm).2.2.2 + 1 ≤ n + 1; omega, h6⟩
   ·rw [b.2] at hs; cases hs
  ·rw [K7, if_neg h1] at h ⊢; exact fin hp h
def pAt (t : Tm) (label : Int) (l : List Int) : Bool := match tAt t l with
 | some x => decide (x.k = 14 ∧ x.lb = label)
 | none => false
def A7E (t : Tm) (label : Int) : List Int × Bool := match (B3l t).find? (pAt t label) with
 | some l => (l, true)
 | none => ([], false)
def SP1 (G : IM) (l : List Int) (p : Option Addr) (c : Nat) : Prop := Sl G p l.length c 1 (A3P l) ∧ ∀ b ∈ K0 p, G b ≠ none
def CpP (t : Tm) (label : Int) (G : IM) : IM → Value → List A5 → Prop := M9 fun G' v => ∃ p c, v = .tuple ⟨[.slice p (A7E t label).1.length c, .bool (A7E t label).2]⟩ ∧ SP1 (C8 G' G) (A7E t label).1 p c
mutual
def A2V : Tm → List Tm
 | .mk k nm num ty fr lb ks => (if k = 14 then [.mk k nm num ty fr lb ks] else []) ++ A7F ks
def A7F : List Tm → List Tm
 | [] => []
 | t :: ts => A2V t ++ A7F ts
end
def B1d (label : Int) (x : Tm) : Bool := decide (x.lb = label)
def B95 (t : Tm) (label : Int) : Prop := ((A2V t).find? (B1d label) = none → (A4V t []).find? (pAt t label) = none) ∧ (∀ x, (A2V t).find? (B1d label) = some x → ∃ l, (A4V t []).find? (pAt t label) = some l ∧ tAt t l = some x)
def B1e (label : Int) : List Tm → List Ty
 | [] => []
 | c :: cs => (if c.lb = label then [c.fr, c.ty] else []) ++ B1e label cs
def B96 (t : Tm) (label : Int) : List Ty := if J1 t = true then B1e label (A2V t) else []
mutual
def A3r : GT → GT → Bool
 | _, .any => true
 | .fn a b, .fn c d => A2r c a && A3r b d
 | .pr a b, .pr c d => A3r a c && A3r b d
 | .int, .int => true
 | .bool, .bool => true
 | _, _ => false
termination_by a b => SizeOf.sizeOf a + SizeOf.sizeOf b
def A2r : GT → GT → Bool
 | .any, _ => true
 | .fn a b, .any => A3r .any a && A2r b .any
 | .pr a b, .any => A2r a .any && A2r b .any
 | .int, .any => true
 | .bool, .any => true
 | .fn a b, .fn c d => A3r c a && A2r b d
 | .pr a b, .pr c d => A2r a c && A2r b d
 | .int, .int => true
 | .bool, .bool => true
 | _, _ => false
termination_by a b => SizeOf.sizeOf a + SizeOf.sizeOf b
end
def GQ (Q : GT → GT → Int → Prop) : GE → Prop
 | .var _ => True
 | .num _ => True
 | .tru _ => True
 | .lam _ _ e => GQ Q e
 | .app f a => GQ Q f ∧ GQ Q a
 | .ar _ a b => GQ Q a ∧ GQ Q b
 | .ite c a b => GQ Q c ∧ GQ Q a ∧ GQ Q b
 | .pair a b => GQ Q a ∧ GQ Q b
 | .part _ e => GQ Q e
 | .cast A B l e => Q A B l ∧ GQ Q e
structure Clo (Q : GT → GT → Int → Prop) : Prop where
 fn : ∀ {a b c d l}, Q (.fn a b) (.fn c d) l → Q c a (-l) ∧ Q b d l
 pr : ∀ {a b c d l}, Q (.pr a b) (.pr c d) l → Q a c l ∧ Q b d l
 up : ∀ {A l}, A ≠ .any → Q A .any l → Q A.gr .any l ∧ Q A A.gr l
 down : ∀ {B l}, B ≠ .any → Q .any B l → Q B.gr B l ∧ Q .any B.gr l
def QL (m : Int) : GT → GT → Int → Prop := fun A B l => (l = m → A3r A B = true) ∧ (l = -m → A2r A B = true)
mutual
def A2W : Tm → List Ty
 | .mk k _ _ ty _ _ ks => (if k = 5 ∨ k = 13 then [ty] else []) ++ B1f ks
def B1f : List Tm → List Ty
 | [] => []
 | t :: ts => A2W t ++ B1f ts
end
mutual
def A7G : Tm → List Ty → Tm
 | .mk k nm num ty fr lb ks, l => .mk k nm num (if k = 5 ∨ k = 13 then l.getD 0 A6 else ty) fr lb (B1g ks (if k = 5 ∨ k = 13 then l.drop 1 else l))
def B1g : List Tm → List Ty → List Tm
 | [], _ => []
 | t :: ts, l => A7G t l :: B1g ts (l.drop (A2W t).length)
end
def B1h (mask : Nat) : Nat → List Ty → List Ty
 | _, [] => []
 | i, t :: ts => (if (mask / 2 ^ i) % 2 = 1 then .mk 1 [] else t) :: B1h mask (i + 1) ts
def B6Q (e : Tm) (mask : Nat) : Tm := A7G e (B1h mask 0 (A2W e))
def B6R (e : Tm) : List Tm := (List.range (2 ^ (A2W e).length)).map (B6Q e)
section cap
variable {P : Program} {Γ : L8} {env : M7} {hp : List A5} {G : IM} {K : Po} {ops : Array Oper} {rest : List Oper}
end cap
def B97 (ts : List Ty) : IM → Value → List A5 → Prop := fun G' v outs => ∃ p c es, v = .slice p ts.length c ∧ outs = [.slc p c 25 2 ts.length es.flatten] ∧ H0 G' ts es
def RtP (u : Tm) (l : List Ty) : IM → Value → List A5 → Prop := fun G' v outs => outs = [] ∧ ∃ cu p c el, v = .tuple ⟨[.agg ⟨cu⟩, .slice p l.length c]⟩ ∧ A8 G' u cu ∧ D6 G' p l.length c 2 el ∧ H0 G' l el
section bits
variable {P : Program} {Γ : L8} {env : M7} {hp : List A5} {G : IM} {ty : TypeId}
end bits
section wr
variable {P : Program} {Γ : L8} {env : M7} {hp : List A5} {G : IM} {ty : TypeId} {K : Po} {ops : Array Oper} {rest : List Oper}
variable {pos : String} {af : Array Edge} {gd : Option (Nat × Bool)}
end wr
theorem A7H (G : IM) : C3 G (.mk 1 []) [.int .i64 1, .slice none 0 0] := by
 simp only [C3]; exact ⟨none, 0, [], rfl, ⟨by decide, by decide⟩, D6.nil G 2, by simp [H0]⟩
def B98 (e : Tm) : Option (List Tm) := if (A0q e).isSome = true ∧ (A2W e).length ≤ 6 then some (B6R e) else none
def CfP (r : Option (List Tm)) : IM → Value → List A5 → Prop := fun G' v outs => outs = [] ∧ ∃ p c es, v = .tuple ⟨[.slice p (r.getD []).length c, .bool r.isSome]⟩ ∧ D6 G' p (r.getD []).length c 9 es ∧ D9 G' (r.getD []) es
def MsP (r : Option (List Int)) (e : A5) (G : IM) : IM → Value → List A5 → Prop := fun G' v outs => outs = [e] ∧ ∃ p c, v = .tuple ⟨[.slice p (r.getD []).length c, .bool r.isSome]⟩ ∧ SP1 (C8 G' G) (r.getD []) p c
def IsP (l : List Int) (b : Bool) (G : IM) : IM → Value → List A5 → Prop := M9 fun G' v => ∃ p c, v = .tuple ⟨[.slice p l.length c, .bool b]⟩ ∧ SP1 (C8 G' G) l p c
theorem A8.nine {G : IM} {t : Tm} {cells : List Value} (h : A8 G t cells) : ∃ v1 v2 v3 v4 v5 v6 v7 v8 v9, cells = [v1, v2, v3, v4, v5, v6, v7, v8, v9] := by
 obtain ⟨_, _, _, _, _, _, _, _, _, rfl, _⟩ := h.open
 exact ⟨_, _, _, _, _, _, _, _, _, rfl⟩
theorem A4s {G : IM} {e : Tm} {ce : List Value} {k : Int} {nm : ByteArray} {tk : Int} {tks : List Ty} {q p : Option Addr} {d c : Nat} (hk : F8 k) (ht : C3 G (.mk tk tks) [.int .i64 tk, .slice q tks.length d]) (h1 : A8 G e ce) (hs : Sl G p 1 c 9 ce) :
  A8 G (.mk k nm 0 (.mk tk tks) A6 0 [e]) [.int .i64 k, .string nm, .int .i64 0, .int .i64 tk, .slice q tks.length d, .int .i64 0, .slice none 0 0, .int .i64 0, .slice p 1 c] := by
 obtain ⟨a1, a2⟩ := B4w h1 hs
 exact A8.of9 (ks := [e]) hk ⟨by omega, by omega⟩ ⟨by omega, by omega⟩ ht (O2 _ ⟨by omega, by omega⟩) a1 a2
theorem A4t {G : IM} {e f : Tm} {ce cf : List Value} {k : Int} {nm : ByteArray} {p : Option Addr} {c : Nat} (hk : F8 k) (h1 : A8 G e ce) (h2 : A8 G f cf) (hs : Sl G p 2 c 9 (ce ++ cf)) :
  A8 G (.mk k nm 0 A6 A6 0 [e, f]) [.int .i64 k, .string nm, .int .i64 0, .int .i64 0, .slice none 0 0, .int .i64 0, .slice none 0 0, .int .i64 0, .slice p 2 c] := by
 have hL : D9 G [e, f] [ce, cf] := by simp only [D9]; exact ⟨ce, [cf], rfl, h1, cf, [], rfl, h2, rfl⟩
 exact A8.of9 (ks := [e, f]) hk ⟨by omega, by omega⟩ ⟨by omega, by omega⟩ (O2 _ ⟨by omega, by omega⟩) (O2 _ ⟨by omega, by omega⟩)
  (D6.of (by simpa using hs) rfl hL.all (fun x hx => by obtain ⟨q, hq⟩ := List.getElem?_of_mem hx; exact (hL.inv hq E2).2.one)) hL
theorem B6S {G : IM} {e f g : Tm} {ce cf cg : List Value} {k : Int} {nm : ByteArray} {p : Option Addr} {c : Nat} (hk : F8 k) (h1 : A8 G e ce) (h2 : A8 G f cf) (h3 : A8 G g cg) (hs : Sl G p 3 c 9 (ce ++ (cf ++ cg))) :
  A8 G (.mk k nm 0 A6 A6 0 [e, f, g]) [.int .i64 k, .string nm, .int .i64 0, .int .i64 0, .slice none 0 0, .int .i64 0, .slice none 0 0, .int .i64 0, .slice p 3 c] := by
 have hL : D9 G [e, f, g] [ce, cf, cg] := by simp only [D9]; exact ⟨ce, [cf, cg], rfl, h1, cf, [cg], rfl, h2, cg, [], rfl, h3, rfl⟩
 exact A8.of9 (ks := [e, f, g]) hk ⟨by omega, by omega⟩ ⟨by omega, by omega⟩ (O2 _ ⟨by omega, by omega⟩) (O2 _ ⟨by omega, by omega⟩)
  (D6.of (by simpa using hs) rfl hL.all (fun x hx => by obtain ⟨q, hq⟩ := List.getElem?_of_mem hx; exact (hL.inv hq E2).2.one)) hL
def mB : Nat → Nat
 | 0 => 200
 | n + 1 => 3 * mB n + 200
theorem A1F (n : Nat) : 200 ≤ mB n := by cases n <;> simp only [mB] <;> omega
def A1G (n : Nat) (depth : Int) (t : Ty) : Prop := R6 4 t ∧ (n : Int) - 1000 ≤ depth ∧ depth ≤ 1000 ∧ ((depth ≤ 1 ∧ R6 n t) ∨ (2 ≤ depth ∧ depth + 3 ≤ n))
theorem A1G.sub {n : Nat} {depth : Int} {t t' : Ty} (h : A1G (n + 1) depth t) (hd : 1 < depth) (h4 : R6 4 t') : A1G n (depth - 1) t' := by
 obtain ⟨h1, h2, h3, h5⟩ := h
 refine ⟨h4, by omega, by omega, ?_⟩
 rcases h5 with ⟨h5, _⟩ | ⟨h5, h6⟩
 ·omega
 ·by_cases h7 : 3 ≤ depth
  ·exact .inr ⟨by omega, by omega⟩
  ·exact .inl ⟨by omega, h4.le (by omega)⟩
theorem A1G.kid {n : Nat} {depth : Int} {k : Int} {ks : List Ty} {t' : Ty} (h : A1G (n + 1) depth (.mk k ks)) (ht : t' ∈ ks) : A1G n (depth - 1) t' := by
 have h4 : R6 4 t' := (A6x h.1 ht).up
 by_cases hd : 1 < depth
 ·exact h.sub hd h4
 ·obtain ⟨h1, h2, h3, h5⟩ := h
  refine ⟨h4, by omega, by omega, .inl ⟨by omega, ?_⟩⟩
  rcases h5 with ⟨_, h5⟩ | ⟨h5, _⟩
  ·exact A6x h5 ht
  ·omega
theorem A1G.pos {n : Nat} {depth : Int} {k : Int} {ks : List Ty} (h : A1G n depth (.mk k ks)) (hd : 1 < depth ∨ k = 4 ∨ k = 5) : ∃ m, n = m + 1 := by
 cases n with
 | succ m => exact ⟨m, rfl⟩
 | zero =>
  obtain ⟨h1, h2, h3, h5⟩ := h
  rcases h5 with ⟨h5, h6⟩ | ⟨h5, h6⟩
  ·have := h6.2
   omega
  ·omega
theorem R1 : A6.small := by simp [A6, Ty.small, Ty.smallL]
theorem O8 {k : Int} {nm : ByteArray} {num : Int} (h : nm.size ≤ 1) : (Tm.mk k nm num A6 A6 0 []).small := by
 simp only [Tm.small, Tm.smallL]; exact ⟨by omega, R1, R1, by simp, trivial⟩
theorem M2 {k : Int} {nm : ByteArray} {num : Int} {ty : Ty} {a : Tm} (h : nm.size ≤ 1) (ht : ty.small) (ha : a.small) : (Tm.mk k nm num ty A6 0 [a]).small := by
 simp only [Tm.small, Tm.smallL]; exact ⟨by omega, ht, R1, by simp, ha, trivial⟩
theorem T3 {k : Int} {nm : ByteArray} {num : Int} {a b : Tm} (h : nm.size ≤ 1) (ha : a.small) (hb : b.small) : (Tm.mk k nm num A6 A6 0 [a, b]).small := by
 simp only [Tm.small, Tm.smallL]; exact ⟨by omega, R1, R1, by simp, ha, hb, trivial⟩
theorem A0I {k : Int} {nm : ByteArray} {num : Int} {a b c : Tm} (h : nm.size ≤ 1) (ha : a.small) (hb : b.small) (hc : c.small) : (Tm.mk k nm num A6 A6 0 [a, b, c]).small := by
 simp only [Tm.small, Tm.smallL]; exact ⟨by omega, R1, R1, by simp, ha, hb, hc, trivial⟩
theorem A0J : (Ty.mk 1 []).small := by simp [Ty.small, Ty.smallL]
def B1i (br : Nat) (pb : Option Addr) (nb cb : Nat) (bs : List UInt8) (n : Nat) : Prop := ∀ (depth : Int) (t : Ty) (p : Nat) (G : IM) (pc : Option Addr) (nc cc : Nat) (cells : List Value), A1G n depth t → (n : Int) - 1000 ≤ depth → depth ≤ 1000 → nc + n ≤ 40 → X9 G pc nc cc → C3 G t cells → Sl G pb nb cb 1 (O9 bs) → p + mB n < 1099511627776 →
 Fn Tryz.prog 127 [.pointer (some ⟨br, 0, none⟩), .slice pc nc cc, .agg ⟨cells⟩, .int .i64 depth] [rd br pb nb cb p] G
  (A0z br pb nb cb p (mB n) (fun G' v => ∃ e cells, v = .agg ⟨cells⟩ ∧ A8 G' e cells ∧ e.small ∧ D2 e ≤ mB n))
theorem B1j (br : Nat) (pb : Option Addr) (nb cb : Nat) (bs : List UInt8) (hnb : nb ≤ 2000) (m : Nat) (hM : B1i br pb nb cb bs m) (depth : Int) (a t : Ty) (p : Nat) (G : IM) (pc : Option Addr) (nc cc : Nat) (ca cells : List Value)
  (hfu : A1G m depth t) (hd0 : (m : Int) - 1000 ≤ depth) (hd1 : depth ≤ 1000) (hnc : nc + 1 + m ≤ 40) (hx : X9 G pc nc cc) (hra : C3 G a ca) (haa : F4 a ∧ L4 a ≤ 30) (hrt : C3 G t cells) (hb : Sl G pb nb cb 1 (O9 bs)) (hp : p + 1 + mB m < 1099511627776) :
  Fn Tryz.prog 181 [.pointer (some ⟨br, 0, none⟩), .slice pc nc cc, .agg ⟨ca⟩, .agg ⟨cells⟩, .int .i64 depth] [rd br pb nb cb p] G
   (A0z br pb nb cb p (1 + mB m) (fun G' v => ∃ e cells, v = .agg ⟨cells⟩ ∧ A8 G' e cells ∧ e.small ∧ D2 e ≤ 1 + mB m)) := by
 obtain ⟨ak, aks⟩ := a
 obtain ⟨tk, tks⟩ := t
 obtain ⟨pa, cca, ea, rfl, _⟩ := hra.open
 obtain ⟨pt, cct, et, rfl, _⟩ := hrt.open
 simp only [Ty.k, Ty.ks] at hra hrt ⊢
 refine B7 Tryz.func181 rfl Tryz.ntmps181 Tryz.results181 rfl ?_
 intro w0
 refine A1 ?_
 refine sE (C7 rfl rfl) rfl (fun b3 => ?_)
 refine sE (C7 rfl rfl) rfl (fun b4 => ?_)
 refine sE (B0 rfl) rfl (fun b5 => ?_)
 refine B1 ?_
 (refine M5 (D4 rfl rfl rfl (by omega) (by unfold maxLen; omega) rfl) rfl ?_; rintro _ ⟨b11, rfl⟩)
 (refine V8 (by repeat (first | exact Pk.here | apply Pk.there)) (fun G4 hle4 hsl4 _ => ?_); refine I0 rfl (A6F G4 br pb nb cb p bs _ _ _ _ (hb.mono hle4) hnb (by omega) hsl4 (by decide)) (Pk.perm (by repeat (first | exact Pk.here | apply Pk.there))) rfl rfl (fun v G5 outs hle5 hh => ?_); obtain ⟨rfl, rfl, hv⟩ := hh; obtain ⟨nm, rfl, hnm⟩ : ∃ nm : ByteArray, v = .string nm ∧ nm.size ≤ 1 := (by simp only [List.mem_cons, List.not_mem_nil, or_false] at hv; rcases hv with rfl | rfl | rfl | rfl <;> exact ⟨_, rfl, by decide⟩); replace hra := hra.mono hle4; replace hx := hx.mono hle4; replace hb := hb.mono hle4; replace hrt := hrt.mono hle4;)
 refine B3 ?_
 refine E3 E4 rfl ?_
 refine J5 (i := 0) (l' := [tt,ff,ff,ff,ff,ff,ff,ff,ff,ff,ff,ff,ff,ff]) rfl D7 (qM rfl) rfl (by kernel_rfl) rfl rfl ?_
 refine aL 1 rfl (A4 rfl rfl) rfl ?_
 refine aP 3 rfl (qM rfl) rfl ?_
 refine aP 4 rfl (qM rfl) rfl ?_
 refine aP 5 rfl (qM rfl) rfl ?_
 refine aL 6 rfl (A4 rfl rfl) rfl ?_
 refine aL 8 rfl (A4 rfl rfl) rfl ?_
 refine aP 9 rfl (qM rfl) rfl ?_
 refine A3 2 ?_
 (refine K4 rfl rfl (W7 _ _ _ haa.1.small hra) rfl rfl rfl (fun v G6 hle6 hh => ?_); obtain ⟨T8, F1, rfl, hs1, hn1⟩ := hh; obtain ⟨p1, c1, rfl, _⟩ := hs1.open; have hr1 := hs1.R.mono (C8.le G6 _); replace hra := hra.mono hle6; replace hx := hx.mono hle6; replace hb := hb.mono hle6; replace hrt := hrt.mono hle6;)
 refine A3 7 ?_
 (refine K4 rfl rfl (B4q _ pc nc cc nm (.mk ak aks) _ hx (by omega) hra haa.1 haa.2 hnm) rfl rfl rfl (fun v G7 hle7 hh => ?_); obtain ⟨pm, cm, rfl, hxm⟩ := hh; replace hr1 := hr1.mono hle7; replace hx := hx.mono hle7; replace hb := hb.mono hle7; replace hrt := hrt.mono hle7; have hcall := hM depth (.mk tk tks) (p + 1) _ pm (nc + 1) cm _ hfu hd0 hd1 (by omega) hxm hrt hb (by omega))
 refine A3 10 ?_
 (refine A0d (l' := [tt,tt,tt,tt,tt,tt,tt,tt,tt,tt,tt,ff,ff,ff]) rfl rfl hcall (Pk.perm (by repeat (first | exact Pk.here | apply Pk.there))) rfl rfl rfl (by repeat (first | exact A9.nil | apply A9.dep (by decide +kernel) | apply A9.blk (by decide +kernel) (by repeat (first | exact Pk.here | apply Pk.there)) (by repeat first | exact mH | apply mT))) (fun v G8 outs hle8 hh => ?_); obtain ⟨p8, hp81, hp82, rfl, e8, c8, rfl, hr8, hs8, hc8⟩ := hh; obtain ⟨a1, a2, a3, a4, a5, a6, a7, a8, a9, rfl⟩ := hr8.nine; replace hr1 := hr1.mono hle8)
 refine A3 11 ?_
 (refine E6 rfl (D4 rfl rfl rfl (by omega) (by unfold maxLen; omega) rfl) rfl rfl ?_; rintro _ ⟨b33, rfl⟩)
 refine aP 12 rfl (pBd rfl rfl) rfl ?_
 refine A3 13 ?_
 refine R2 rfl rfl rfl rfl rfl rfl rfl rfl (by decide +kernel) (by repeat first | exact Sw.here | apply Sw.there) (by rfl) ?_
 refine A1 ?_
 (refine I5 (cs := [a1, a2, a3, a4, a5, a6, a7, a8, a9]) (by repeat (first | exact Pk.here | apply Pk.there)) (fun G9 hle9 hsl9 hno9 => ?_); have hN := A4s (k := 5) (nm := nm) ⟨by omega, by omega⟩ (hr1.mono hle9) (hr8.mono hle9) hsl9)
 refine tT ?_
 refine H5 (outs := [rd br pb nb cb p8]) (rC rfl (A4 rfl rfl)) (by repeat (first | exact A0.nil | refine A0.cons Pk.here ?_ | refine A0.cons (Pk.there Pk.here) ?_ | refine A0.cons (Pk.there (Pk.there Pk.here)) ?_ | apply A0.drop)) ?_
 (exact ⟨p8, by omega, by omega, rfl, _, _, rfl, hN, M2 hnm haa.1.small hs8, by simp only [D2, E0]; omega⟩)
structure A4u {ι : Type} (S : ι → Sy) (φ : ι → Prop) (K : Po) (e : Exit) (σ : Sy) : Prop where
 run : match e with
  | .normal => ∃ i, φ i ∧ Sub σ (S i)
  | e => K e σ
section cut
variable {P : Program} {Γ : L8} {K : Po} {σ : Sy} {ι : Type}
theorem B1k {c y : Code} (S : ι → Sy) (φ : ι → Prop) (h : J3 P Γ c (A4u S φ K) σ) (k : ∀ i, φ i → J3 P Γ y K (S i)) : J3 P Γ c (A03 P Γ y K) σ := by
 refine A5W h ?_
 rintro e σ ⟨hk⟩
 cases e with
 | normal => obtain ⟨i, hi, hs⟩ := hk; exact ⟨A71 hs (k i hi)⟩
 | _ => exact ⟨hk⟩
theorem A4v {S : ι → Sy} {φ : ι → Prop} {σ : Sy} (i : ι) (hs : Sub σ (S i)) (h : φ i) : A4u S φ K .normal σ := ⟨⟨i, h, hs⟩⟩
theorem A02 {S : ι → Sy} {φ : ι → Prop} {σ : Sy} (h : K .ret σ) : A4u S φ K .ret σ := ⟨h⟩
theorem B6T {S : ι → Sy} {φ : ι → Prop} (h : A0a K) : A0a (A4u S φ K) := fun c σ hk => h c σ hk.run
instance npC6 {S : ι → Sy} {φ : ι → Prop} [h : NpC K] : NpC (A4u S φ K) := ⟨B6T h.h⟩
end cut
theorem A2s (G : IM) (nm : ByteArray) (num : Int) {k : Int} (hk : F8 k) (hn : F8 num) : A8 G (.mk k nm num A6 A6 0 []) [.int .i64 k, .string nm, .int .i64 num, .int .i64 0, .slice none 0 0, .int .i64 0, .slice none 0 0, .int .i64 0, .slice none 0 0] := A1w hk hn
theorem C3.kidsM {G : IM} {k : Int} {ks : List Ty} {q : Option Addr} {c : Nat} (h : C3 G (.mk k ks) [.int .i64 k, .slice q ks.length c]) : ∃ es, D6 G q ks.length c 2 es ∧ H0 G ks es := by
 obtain ⟨q', c', es, he, _, h1, h2⟩ := h.open
 cases he
 exact ⟨es, h1, h2⟩
theorem B6U (br : Nat) (pb : Option Addr) (nb cb : Nat) (bs : List UInt8) (hnb : nb ≤ 2000) : ∀ n, B1i br pb nb cb bs n := by
 refine fun n => Nat.strongRecOn n fun n ih depth t p G pc nc cc cells hfu hd0 hd1 hnc hx hrt hb hp => ?_
 have hge := A1F n
 have har := hfu.1.ar
 have hszt := A43 hfu.1
 have hnn := A1c t
 have hncl := hx.le
 obtain ⟨k, ks⟩ := t
 obtain ⟨q, c, es, rfl, hk, _, _⟩ := hrt.open
 simp only [Ty.k, Ty.ks] at hk hrt ⊢
 have hsz30 : L4 (.mk k ks) ≤ 30 := hszt
 have hops : k = 4 ∨ k = 5 → ks.length = 2 := by have h2 := har; rw [F4] at h2; exact h2.1
 refine B7 Tryz.func127 rfl Tryz.ntmps127 Tryz.results127 rfl ?_
 intro w0
 refine A1 ?_
 refine sE (C7 rfl rfl) rfl (fun b3 => ?_)
 refine sE (B0 rfl) rfl (fun b4 => ?_)
 refine B4 ?_
 refine sP (Q5 rfl rfl (by omega) (by omega)) rfl rfl ?_
 refine B6 ?_
 refine C0 ?_
 (refine L9 (fun (x : Nat × Nat × IM) => ⟨(9, .int .i64 ((x.1 : Int) - 1)) :: [(0, .pointer (some ⟨br, 0, none⟩)), (1, .slice pc nc cc), (3, .int .i64 depth), (6, .pointer (some ⟨b3, 0, none⟩)), (8, .pointer (some ⟨b4, 0, none⟩))], [rd br pb nb cb x.2.1, .blk b4 [.int .i64 0, .string ⟨⟨[]⟩⟩, .int .i64 0, .int .i64 0, .slice none 0 0, .int .i64 0, .slice none 0 0, .int .i64 0, .slice none 0 0], .blk b3 [.int .i64 k, .slice q ks.length c]], x.2.2⟩) (fun x => x.1 ≤ nc ∧ C2 G x.2.2 ∧ p ≤ x.2.1 ∧ x.2.1 + x.1 ≤ p + nc) (fun x => x.1) (nc, p, G) ?_ ?_ ?_)
 (simp only [I7]; exact D5)
 (exact ⟨Nat.le_refl _, C2.refl _, Nat.le_refl _, Nat.le_refl _⟩)
 (rintro ⟨(i : Nat), (p1 : Nat), G1⟩ ⟨hi, hleL, hpL, hpL2⟩; simp only [] at hi hleL hpL hpL2 ⊢; replace hx := hx.mono hleL; replace hb := hb.mono hleL; replace hrt := hrt.mono hleL;)
 refine B3 ?_
 refine sB (A06 rfl rfl) rfl rfl (fun h25 => ?_) (fun h25 => ?_)
 refine A7 ?_
 (show J3 _ _ (.block 1 ..) _ _; obtain ⟨j, rfl⟩ : ∃ j, i = j + 1 := ⟨i - 1, by omega⟩; rw [show ((j + 1 : Nat) : Int) - 1 = (j : Int) from by omega]; obtain ⟨b, o, nm1, t1, qq1, dd1, rfl, hat, hr1, ha1, hs1, hgb, hns1⟩ := hx.get (i := j) (by omega); refine C0 ?_)
 refine B1 ?_
 refine sP (B8 (j := j) rfl rfl rfl (by omega)) rfl rfl ?_
 refine E8 ?_
 refine sL (A0u rfl rfl ((hat _).sub (j := 0) rfl)) rfl rfl ?_
 (refine E7 rfl (B4p _ _ nc cc nm1 hx) rfl rfl (fun v G2 hle2 hh => ?_); obtain ⟨ts, tcs, xs, rfl, hrs, has, hss⟩ := hh; obtain ⟨ps, cs, ess, rfl, _⟩ := hrs.open; obtain ⟨b, o, nm1, t1, qq1, dd1, hpp, hat, hr1, ha1, hs1, hgb, hns1⟩ := (hx.mono hle2).get (i := j) (by omega); cases hpp; replace hx := hx.mono hle2; replace hb := hb.mono hle2; replace hrt := hrt.mono hle2;)
 refine B6 ?_
 refine sE (B0 rfl) rfl (fun b45 => ?_)
 refine B4 ?_
 (have hinloop := hrs; refine I0 rfl (Y6 _ br pb nb cb (p1) bs 3 hb hnb (by omega)) (Pk.perm (by repeat (first | exact Pk.here | apply Pk.there))) rfl rfl (fun v Gp outs hle53 hh => ?_); obtain ⟨rfl, rfl, j53, rfl, hj53, hk53⟩ := hh; have hinl := hj53)
 replace hrs := hrs.mono hle53
 replace hr1 := hr1.mono hle53
 replace hb := hb.mono hle53
 replace hrt := hrt.mono hle53
 replace hinloop := hinloop.mono hle53
 refine sB (qE rfl rfl) rfl rfl (fun h54 => ?_) (fun h54 => ?_)
 refine A1 ?_
 refine E1 rfl ((A2c ts _ _ hrs)) rfl rfl (fun h57 => ?_) (fun h57 => ?_)
 refine B3 ?_
 refine E1 rfl ((A1V ts (.mk k ks) _ _ _ has har hrs hrt)) rfl rfl (fun h62 => ?_) (fun h62 => ?_)
 refine D0 ?_
 refine sP (B8 (j := j) rfl rfl rfl (by omega)) rfl rfl ?_
 refine E8 ?_
 refine sL (A0u rfl rfl ((hat _).sub (j := 0) rfl)) rfl rfl ?_
 refine J2 ?_
 refine H5 (outs := [rd br pb nb cb (p1 + 1)]) (rC rfl (A4 rfl rfl)) (by repeat (first | exact A0.nil | refine A0.cons Pk.here ?_ | refine A0.cons (Pk.there Pk.here) ?_ | refine A0.cons (Pk.there (Pk.there Pk.here)) ?_ | apply A0.drop)) ?_
 (exact ⟨(p1 + 1), by omega, by omega, rfl, _, _, rfl, A2s _ _ _ ⟨by omega, by omega⟩ (by first | exact ⟨by omega, by omega⟩ | exact hkn), by first | exact O8 (by first | assumption | decide) | exact A0I (by decide) (by assumption) (by assumption) (by assumption) | exact T3 (by decide) (by assumption) (by assumption) | exact M2 (by decide) R1 (by assumption) | exact M2 (by decide) har.small (by assumption) | exact M2 (by decide) R1 (T3 (by decide) (by assumption) (O8 (by decide))) | exact M2 (by decide) A0J (O8 (by decide)) | assumption, by simp only [D2, E0]; omega⟩)
 refine D8 ?_
 refine sP (Q5 rfl rfl (by omega) (by omega)) rfl rfl ?_
 refine A1 ?_
 (have hinloop := hrs; refine L0 (j, p1 + 1, Gp) ?_ ?_ ?_)
 (simp only [I7]; exact D5)
 (dsimp only; exact ⟨by omega, hleL.trans hle2, by omega, by omega⟩)
 (show _ < _ + 1; omega)
 refine K2 ?_
 refine sP (Q5 rfl rfl (by omega) (by omega)) rfl rfl ?_
 refine A1 ?_
 (have hinloop := hrs; refine L0 (j, p1 + 1, Gp) ?_ ?_ ?_)
 (simp only [I7]; exact D5)
 (dsimp only; exact ⟨by omega, hleL.trans hle2, by omega, by omega⟩)
 (show _ < _ + 1; omega)
 refine V3 ?_
 refine sP (Q5 rfl rfl (by omega) (by omega)) rfl rfl ?_
 refine A1 ?_
 (have hinloop := hrs; refine L0 (j, p1 + 1, Gp) ?_ ?_ ?_)
 (simp only [I7]; exact D5)
 (dsimp only; exact ⟨by omega, hleL.trans hle2, by omega, by omega⟩)
 (show _ < _ + 1; omega)
 refine J2 ?_
 (show J3 _ _ (.region 7 ..) _ _; refine Z4 (fun (x : Bool) => ⟨(49, .bool x) :: [(0, .pointer (some ⟨br, 0, none⟩)), (1, .slice pc nc cc), (3, .int .i64 depth), (6, .pointer (some ⟨b3, 0, none⟩)), (8, .pointer (some ⟨b4, 0, none⟩))], [rd br pb nb cb p1, .blk b4 [.int .i64 0, .string ⟨⟨[]⟩⟩, .int .i64 0, .int .i64 0, .slice none 0 0, .int .i64 0, .slice none 0 0, .int .i64 0, .slice none 0 0], .blk b3 [.int .i64 k, .slice q ks.length c]], G1⟩) (fun x => x = true → 1 < depth) ?_ ?_)
 refine A1 ?_
 refine sB (Z2 rfl rfl) rfl rfl (fun h160 => ?_) (fun h160 => ?_)
 refine sD ?_
 refine P8 true (N8 (by repeat (first | exact E5.nil | refine E5.cons rfl ?_)) (by repeat (first | exact A0.refl | exact A0.nil | refine A0.cons (by repeat (first | exact Pk.here | apply Pk.there)) ?_ | apply A0.drop))) (fun _ => by omega)
 refine sD ?_
 refine P8 false (N8 (by repeat (first | exact E5.nil | refine E5.cons rfl ?_)) (by repeat (first | exact A0.refl | exact A0.nil | refine A0.cons (by repeat (first | exact Pk.here | apply Pk.there)) ?_ | apply A0.drop))) (fun h => absurd h (by decide))
 (rintro (x49 : Bool) hx49)
 (show J3 _ _ (.cond (.tmp 49) _ _) _ _; refine B1k (fun (x : Nat × IM) => ⟨[(0, .pointer (some ⟨br, 0, none⟩)), (1, .slice pc nc cc), (3, .int .i64 depth), (6, .pointer (some ⟨b3, 0, none⟩)), (8, .pointer (some ⟨b4, 0, none⟩))], [rd br pb nb cb x.1, .blk b4 [.int .i64 0, .string ⟨⟨[]⟩⟩, .int .i64 0, .int .i64 0, .slice none 0 0, .int .i64 0, .slice none 0 0, .int .i64 0, .slice none 0 0], .blk b3 [.int .i64 k, .slice q ks.length c]], x.2⟩) (fun x => C2 G1 x.2 ∧ p1 ≤ x.1 ∧ x.1 ≤ p1 + 1) (A3B rfl (fun hxt => ?_) (fun hxf => ?_)) ?_)
 refine B6 ?_
 (have hx49b := hx49 hxt; refine I0 rfl (Y6 _ br pb nb cb (p1) bs 9 hb hnb (by omega)) (Pk.perm (by repeat (first | exact Pk.here | apply Pk.there))) rfl rfl (fun v Gp outs hle170 hh => ?_); obtain ⟨rfl, rfl, j170, rfl, hj170, hk170⟩ := hh; have hpk9 := hj170)
 replace hb := hb.mono hle170
 replace hrt := hrt.mono hle170
 refine A1 ?_
 refine C0 (tS (tR (sB (qE rfl rfl) rfl rfl (fun h176 => ?_) (fun h176 => ?_))))
 refine B1 ?_
 (obtain ⟨m, rfl⟩ := hfu.pos (.inl (by omega)); have hmB : mB (m + 1) = 3 * mB m + 200 := rfl; have hgm := A1F m; refine E3 E4 rfl ?_)
 refine Q9 (i := 0) (l' := [tt,ff,ff,ff,ff,ff,ff,ff,ff,ff,ff,ff,ff]) rfl D7 (A4 rfl rfl) rfl (by kernel_rfl) rfl rfl ?_
 refine aP 2 rfl (qM rfl) rfl ?_
 refine aP 3 rfl (qM rfl) rfl ?_
 refine aP 4 rfl (qM rfl) rfl ?_
 refine aL 5 rfl (A4 rfl rfl) rfl ?_
 refine aP 7 rfl (qM rfl) rfl ?_
 refine aP 8 rfl (Q5 rfl rfl (by omega) (by omega)) rfl ?_
 refine A3 1 ?_
 (refine K4 rfl rfl (W7 _ _ _ har.small hrt) rfl rfl rfl (fun v G6 hle6 hh => ?_); obtain ⟨T8, F1, rfl, hs1, hn1⟩ := hh; obtain ⟨pz, cz, rfl, _⟩ := hs1.open; have hrz := hs1.R.mono (C8.le G6 _); replace hx := hx.mono hle6; replace hb := hb.mono hle6; replace hrt := hrt.mono hle6;)
 refine A3 6 ?_
 (have hcall := A6M br pb nb cb bs hnb (.mk k ks) (p1 + 1) _ _ har hrt hb (by omega); refine A0d (l' := [tt,tt,tt,tt,tt,tt,tt,tt,tt,ff,ff,ff,ff]) rfl rfl hcall (Pk.perm (by repeat (first | exact Pk.here | apply Pk.there))) rfl rfl rfl (by repeat (first | exact A9.nil | apply A9.dep (by decide +kernel) | apply A9.im (by decide +kernel) hg0 (by repeat first | exact mH | apply mT) | apply A9.im (by decide +kernel) hg1 (by repeat first | exact mH | apply mT) | apply A9.blk (by decide +kernel) (by repeat (first | exact Pk.here | apply Pk.there)) (by repeat first | exact mH | apply mT))) (fun v Gn outs hleA hh => ?_); obtain ⟨pA, hpA1, hpA2, rfl, uA, cuA, rfl, hruA, huaA, husA, huhA⟩ := hh; obtain ⟨quA, duA, euA, rfl, _⟩ := hruA.open; replace hrz := hrz.mono hleA; replace hx := hx.mono hleA; replace hb := hb.mono hleA; replace hrt := hrt.mono hleA;)
 refine A3 9 ?_
 (have hcall := ih m (by omega) (depth - 1) uA pA _ pc nc cc _ (hfu.sub (by omega) (huhA 4 hfu.1)) (by omega) (by omega) (by omega) hx hruA hb (by omega); refine A0d (l' := [tt,tt,tt,tt,tt,tt,tt,tt,tt,tt,ff,ff,ff]) rfl rfl hcall (Pk.perm (by repeat (first | exact Pk.here | apply Pk.there))) rfl rfl rfl (by repeat (first | exact A9.nil | apply A9.dep (by decide +kernel) | apply A9.im (by decide +kernel) hg0 (by repeat first | exact mH | apply mT) | apply A9.im (by decide +kernel) hg1 (by repeat first | exact mH | apply mT) | apply A9.blk (by decide +kernel) (by repeat (first | exact Pk.here | apply Pk.there)) (by repeat first | exact mH | apply mT))) (fun v Gn outs hlea hh => ?_); obtain ⟨pa, hpa1, hpa2, rfl, ea, ca, rfl, hra, hsma, hca⟩ := hh; obtain ⟨a1, a2, a3, a4, a5, a6, a7, a8, a9, rfl⟩ := hra.nine; replace hrz := hrz.mono hlea; replace hx := hx.mono hlea; replace hb := hb.mono hlea; replace hrt := hrt.mono hlea;)
 refine A3 10 ?_
 (refine E6 rfl (D4 rfl rfl rfl (by omega) (by unfold maxLen; omega) rfl) rfl rfl ?_; rintro _ ⟨b197, rfl⟩)
 refine aP 11 rfl (pBd rfl rfl) rfl ?_
 refine A3 12 ?_
 refine R2 rfl rfl rfl rfl rfl rfl rfl rfl (by decide +kernel) (by repeat first | exact Sw.here | apply Sw.there) (by rfl) ?_
 refine A1 ?_
 (refine I5 (cs := [a1, a2, a3, a4, a5, a6, a7, a8, a9]) (by repeat (first | exact Pk.here | apply Pk.there)) (fun G9 hle9 hsl9 hno9 => ?_); have hN := A4s (k := 13) (nm := ⟨⟨[]⟩⟩) ⟨by omega, by omega⟩ (hrz.mono hle9) (hra.mono hle9) hsl9)
 refine A1 ?_
 refine A02 ?_
 refine H5 (outs := [rd br pb nb cb pa]) (rC rfl (A4 rfl rfl)) (by repeat (first | exact A0.nil | refine A0.cons Pk.here ?_ | refine A0.cons (Pk.there Pk.here) ?_ | refine A0.cons (Pk.there (Pk.there Pk.here)) ?_ | apply A0.drop)) ?_
 (exact ⟨pa, by omega, by omega, rfl, _, _, rfl, hN, by first | exact O8 (by first | assumption | decide) | exact A0I (by decide) (by assumption) (by assumption) (by assumption) | exact T3 (by decide) (by assumption) (by assumption) | exact M2 (by decide) R1 (by assumption) | exact M2 (by decide) har.small (by assumption) | exact M2 (by decide) R1 (T3 (by decide) (by assumption) (O8 (by decide))) | exact M2 (by decide) A0J (O8 (by decide)) | assumption, by simp only [D2, E0]; omega⟩)
 refine A7 ?_
 refine sB (qE rfl rfl) rfl rfl (fun h215 => ?_) (fun h215 => ?_)
 refine B1 ?_
 (obtain ⟨m, rfl⟩ := hfu.pos (.inl (by omega)); have hmB : mB (m + 1) = 3 * mB m + 200 := rfl; have hgm := A1F m; refine E3 E4 rfl ?_)
 refine J5 (i := 0) (l' := [tt,ff,ff,ff,ff,ff,ff,ff,ff,ff,ff,ff,ff,ff,ff,ff,ff,ff,ff,ff,ff]) rfl D7 (qM rfl) rfl (by kernel_rfl) rfl rfl ?_
 refine aP 1 rfl (qM rfl) rfl ?_
 refine aP 3 rfl (qM rfl) rfl ?_
 refine aP 4 rfl (Q5 rfl rfl (by omega) (by omega)) rfl ?_
 refine aP 6 rfl (qM rfl) rfl ?_
 refine aP 7 rfl (qM rfl) rfl ?_
 refine aL 8 rfl (A4 rfl rfl) rfl ?_
 refine aP 9 rfl (qM rfl) rfl ?_
 refine aP 10 rfl (Q5 rfl rfl (by omega) (by omega)) rfl ?_
 refine aP 12 rfl (qM rfl) rfl ?_
 refine aP 13 rfl (qM rfl) rfl ?_
 refine aL 14 rfl (A4 rfl rfl) rfl ?_
 refine aP 15 rfl (qM rfl) rfl ?_
 refine aP 16 rfl (Q5 rfl rfl (by omega) (by omega)) rfl ?_
 refine A3 2 ?_
 refine P4 rfl rfl ((A38 _)) rfl rfl rfl ?_
 refine A3 5 ?_
 (have hcall := ih m (by omega) (depth - 1) (.mk 3 []) (p1 + 1) _ pc nc cc _ (hfu.sub (by omega) (A26 4 (by decide) (by decide))) (by omega) (by omega) (by omega) hx (O2 _ ⟨by omega, by omega⟩) hb (by omega); refine A0d (l' := [tt,tt,tt,tt,tt,tt,tt,tt,tt,tt,tt,ff,tt,tt,tt,tt,tt,ff,ff,ff,ff]) rfl rfl hcall (Pk.perm (by repeat (first | exact Pk.here | apply Pk.there))) rfl rfl rfl (by repeat (first | exact A9.nil | apply A9.dep (by decide +kernel) | apply A9.im (by decide +kernel) hg0 (by repeat first | exact mH | apply mT) | apply A9.im (by decide +kernel) hg1 (by repeat first | exact mH | apply mT) | apply A9.blk (by decide +kernel) (by repeat (first | exact Pk.here | apply Pk.there)) (by repeat first | exact mH | apply mT))) (fun v Gn outs hlef hh => ?_); obtain ⟨pf, hpf1, hpf2, rfl, ef, cf, rfl, hrf, hsmf, hcf⟩ := hh; obtain ⟨f1, f2, f3, f4, f5, f6, f7, f8, f9, rfl⟩ := hrf.nine; replace hx := hx.mono hlef; replace hb := hb.mono hlef; replace hrt := hrt.mono hlef;)
 refine A3 11 ?_
 (have hcall := ih m (by omega) (depth - 1) (.mk k ks) pf _ pc nc cc _ (hfu.sub (by omega) hfu.1) (by omega) (by omega) (by omega) hx hrt hb (by omega); refine A0d (l' := [tt,tt,tt,tt,tt,tt,tt,tt,tt,tt,tt,tt,tt,tt,tt,tt,tt,ff,ff,ff,ff]) rfl rfl hcall (Pk.perm (by repeat (first | exact Pk.here | apply Pk.there))) rfl rfl rfl (by repeat (first | exact A9.nil | apply A9.dep (by decide +kernel) | apply A9.im (by decide +kernel) hg0 (by repeat first | exact mH | apply mT) | apply A9.im (by decide +kernel) hg1 (by repeat first | exact mH | apply mT) | apply A9.blk (by decide +kernel) (by repeat (first | exact Pk.here | apply Pk.there)) (by repeat first | exact mH | apply mT))) (fun v Gn outs hleg hh => ?_); obtain ⟨pg, hpg1, hpg2, rfl, eg, cg, rfl, hrg, hsmg, hcg⟩ := hh; obtain ⟨g1, g2, g3, g4, g5, g6, g7, g8, g9, rfl⟩ := hrg.nine; replace hrf := hrf.mono hleg; replace hx := hx.mono hleg; replace hb := hb.mono hleg; replace hrt := hrt.mono hleg;)
 refine A3 17 ?_
 (have hcall := ih m (by omega) (depth - 1) (.mk k ks) pg _ pc nc cc _ (hfu.sub (by omega) hfu.1) (by omega) (by omega) (by omega) hx hrt hb (by omega); refine A0d (l' := [tt,tt,tt,tt,tt,tt,tt,tt,tt,tt,tt,tt,tt,tt,tt,tt,tt,tt,ff,ff,ff]) rfl rfl hcall (Pk.perm (by repeat (first | exact Pk.here | apply Pk.there))) rfl rfl rfl (by repeat (first | exact A9.nil | apply A9.dep (by decide +kernel) | apply A9.im (by decide +kernel) hg0 (by repeat first | exact mH | apply mT) | apply A9.im (by decide +kernel) hg1 (by repeat first | exact mH | apply mT) | apply A9.blk (by decide +kernel) (by repeat (first | exact Pk.here | apply Pk.there)) (by repeat first | exact mH | apply mT))) (fun v Gn outs hlei hh => ?_); obtain ⟨pi, hpi1, hpi2, rfl, ei, ci, rfl, hri, hsmi, hci⟩ := hh; obtain ⟨i1, i2, i3, i4, i5, i6, i7, i8, i9, rfl⟩ := hri.nine; replace hrf := hrf.mono hlei; replace hrg := hrg.mono hlei; replace hx := hx.mono hlei; replace hb := hb.mono hlei; replace hrt := hrt.mono hlei;)
 refine A3 18 ?_
 (refine E6 rfl (D4 rfl rfl rfl (by omega) (by unfold maxLen; omega) rfl) rfl rfl ?_; rintro _ ⟨b245, rfl⟩)
 refine A3 19 ?_
 refine P4 rfl rfl ((A2F _ _ _ _ _)) rfl rfl rfl ?_
 refine A3 20 ?_
 refine R2 rfl rfl rfl rfl rfl rfl rfl rfl (by decide +kernel) (by repeat first | exact Sw.here | apply Sw.there) (by rfl) ?_
 refine A1 ?_
 (refine I5 (cs := [f1, f2, f3, f4, f5, f6, f7, f8, f9] ++ ([g1, g2, g3, g4, g5, g6, g7, g8, g9] ++ [i1, i2, i3, i4, i5, i6, i7, i8, i9])) (by repeat (first | exact Pk.here | apply Pk.there)) (fun G9 hle9 hsl9 hno9 => ?_); have hN := B6S (k := 9) (nm := ⟨⟨[]⟩⟩) ⟨by omega, by omega⟩ (hrf.mono hle9) (hrg.mono hle9) (hri.mono hle9) hsl9)
 refine A1 ?_
 refine A02 ?_
 refine H5 (outs := [rd br pb nb cb pi]) (rC rfl (A4 rfl rfl)) (by repeat (first | exact A0.nil | refine A0.cons Pk.here ?_ | refine A0.cons (Pk.there Pk.here) ?_ | refine A0.cons (Pk.there (Pk.there Pk.here)) ?_ | apply A0.drop)) ?_
 (exact ⟨pi, by omega, by omega, rfl, _, _, rfl, hN, by first | exact O8 (by first | assumption | decide) | exact A0I (by decide) (by assumption) (by assumption) (by assumption) | exact T3 (by decide) (by assumption) (by assumption) | exact M2 (by decide) R1 (by assumption) | exact M2 (by decide) har.small (by assumption) | exact M2 (by decide) R1 (T3 (by decide) (by assumption) (O8 (by decide))) | exact M2 (by decide) A0J (O8 (by decide)) | assumption, by simp only [D2, E0]; omega⟩)
 refine A7 ?_
 refine sB (qE rfl rfl) rfl rfl (fun h264 => ?_) (fun h264 => ?_)
 refine B4 ?_
 (have hcall := A36 br pb nb cb bs hnb 0 (p1 + 1) _ (by omega) hb (by have : dB (0 + 1) ≤ 6 := (by decide); omega); refine I0 rfl hcall (Pk.perm (by repeat (first | exact Pk.here | apply Pk.there))) rfl rfl (fun v Gn outs hleD hh => ?_); obtain ⟨pD, hpD1, hpD2, rfl, uD, cuD, rfl, hruD, husD, huhD⟩ := hh; have huaD := huhD.ar; obtain ⟨quD, duD, euD, rfl, _⟩ := hruD.open; have hdBD : dB (0 + 1) ≤ 6 := (by decide); replace hx := hx.mono hleD; replace hb := hb.mono hleD; replace hrt := hrt.mono hleD;)
 refine sE (B0 rfl) rfl (fun b273 => ?_)
 refine B3 ?_
 (obtain ⟨m, rfl⟩ := hfu.pos (.inl (by omega)); have hmB : mB (m + 1) = 3 * mB m + 200 := rfl; have hgm := A1F m; refine E3 E4 rfl ?_)
 refine J5 (i := 0) (l' := [tt,ff,ff,ff,ff,ff,ff,ff,ff,ff,ff,ff,ff,ff,ff,ff,ff,ff]) rfl D7 (qM rfl) rfl (by kernel_rfl) rfl rfl ?_
 refine aP 1 rfl (qM rfl) rfl ?_
 refine aL 2 rfl (A4 rfl rfl) rfl ?_
 refine aL 3 rfl (A4 rfl rfl) rfl ?_
 refine aP 4 rfl (qM rfl) rfl ?_
 refine aP 5 rfl (Q5 rfl rfl (by omega) (by omega)) rfl ?_
 refine aP 7 rfl (qM rfl) rfl ?_
 refine aP 8 rfl (qM rfl) rfl ?_
 refine aP 9 rfl (qM rfl) rfl ?_
 refine aL 10 rfl (A4 rfl rfl) rfl ?_
 refine aP 12 rfl (qM rfl) rfl ?_
 refine aP 13 rfl (Q5 rfl rfl (by omega) (by omega)) rfl ?_
 refine A3 6 ?_
 (have hcall := B1j br pb nb cb bs hnb m (ih m (by omega)) (depth - 1) uD (.mk k ks) (pD) _ pc nc cc _ _ (hfu.sub (by omega) hfu.1) (by omega) (by omega) (by omega) hx hruD ⟨huaD, by omega⟩ hrt hb (by omega); refine A0d (l' := [tt,tt,tt,tt,tt,tt,tt,tt,tt,tt,tt,ff,tt,tt,ff,ff,ff,ff]) rfl rfl hcall (Pk.perm (by repeat (first | exact Pk.here | apply Pk.there))) rfl rfl rfl (by repeat (first | exact A9.nil | apply A9.dep (by decide +kernel) | apply A9.im (by decide +kernel) hg0 (by repeat first | exact mH | apply mT) | apply A9.im (by decide +kernel) hg1 (by repeat first | exact mH | apply mT) | apply A9.blk (by decide +kernel) (by repeat (first | exact Pk.here | apply Pk.there)) (by repeat first | exact mH | apply mT))) (fun v Gn outs hlel hh => ?_); obtain ⟨pl, hpl1, hpl2, rfl, el, cl, rfl, hrl, hsml, hcl⟩ := hh; obtain ⟨l1, l2, l3, l4, l5, l6, l7, l8, l9, rfl⟩ := hrl.nine; replace hruD := hruD.mono hlel; replace hx := hx.mono hlel; replace hb := hb.mono hlel; replace hrt := hrt.mono hlel;)
 refine A3 11 ?_
 (have hcall := A6M br pb nb cb bs hnb uD (pl) _ _ huaD hruD hb (by omega); refine A0d (l' := [tt,tt,tt,tt,tt,tt,tt,tt,tt,tt,tt,tt,tt,tt,ff,ff,ff,ff]) rfl rfl hcall (Pk.perm (by repeat (first | exact Pk.here | apply Pk.there))) rfl rfl rfl (by repeat (first | exact A9.nil | apply A9.dep (by decide +kernel) | apply A9.im (by decide +kernel) hg0 (by repeat first | exact mH | apply mT) | apply A9.im (by decide +kernel) hg1 (by repeat first | exact mH | apply mT) | apply A9.blk (by decide +kernel) (by repeat (first | exact Pk.here | apply Pk.there)) (by repeat first | exact mH | apply mT))) (fun v Gn outs hleE hh => ?_); obtain ⟨pE, hpE1, hpE2, rfl, uE, cuE, rfl, hruE, huaE, husE, huhE⟩ := hh; obtain ⟨quE, duE, euE, rfl, _⟩ := hruE.open; replace hrl := hrl.mono hleE; replace hx := hx.mono hleE; replace hb := hb.mono hleE; replace hrt := hrt.mono hleE;)
 refine A3 14 ?_
 (have hcall := ih m (by omega) (depth - 1) uE pE _ pc nc cc _ (hfu.sub (by omega) (huhE 4 (huhD.le (by omega)))) (by omega) (by omega) (by omega) hx hruE hb (by omega); refine A0d (l' := [tt,tt,tt,tt,tt,tt,tt,tt,tt,tt,tt,tt,tt,tt,tt,ff,ff,ff]) rfl rfl hcall (Pk.perm (by repeat (first | exact Pk.here | apply Pk.there))) rfl rfl rfl (by repeat (first | exact A9.nil | apply A9.dep (by decide +kernel) | apply A9.im (by decide +kernel) hg0 (by repeat first | exact mH | apply mT) | apply A9.im (by decide +kernel) hg1 (by repeat first | exact mH | apply mT) | apply A9.blk (by decide +kernel) (by repeat (first | exact Pk.here | apply Pk.there)) (by repeat first | exact mH | apply mT))) (fun v Gn outs hled hh => ?_); obtain ⟨pd, hpd1, hpd2, rfl, ed, cd, rfl, hrd, hsmd, hcd⟩ := hh; obtain ⟨d1, d2, d3, d4, d5, d6, d7, d8, d9, rfl⟩ := hrd.nine; replace hrl := hrl.mono hled; replace hx := hx.mono hled; replace hb := hb.mono hled; replace hrt := hrt.mono hled;)
 refine A3 15 ?_
 (refine E6 rfl (D4 rfl rfl rfl (by omega) (by unfold maxLen; omega) rfl) rfl rfl ?_; rintro _ ⟨b298, rfl⟩)
 refine A3 16 ?_
 refine P4 rfl rfl ((A2F _ _ _ _ _)) rfl rfl rfl ?_
 refine A3 17 ?_
 refine R2 rfl rfl rfl rfl rfl rfl rfl rfl (by decide +kernel) (by repeat first | exact Sw.here | apply Sw.there) (by rfl) ?_
 refine A1 ?_
 (refine I5 (cs := [l1, l2, l3, l4, l5, l6, l7, l8, l9] ++ [d1, d2, d3, d4, d5, d6, d7, d8, d9]) (by repeat (first | exact Pk.here | apply Pk.there)) (fun G9 hle9 hsl9 hno9 => ?_); have hN := A4t (k := 6) (nm := ⟨⟨[]⟩⟩) ⟨by omega, by omega⟩ (hrl.mono hle9) (hrd.mono hle9) hsl9)
 refine A1 ?_
 refine A02 ?_
 refine H5 (outs := [rd br pb nb cb pd]) (rC rfl (A4 rfl rfl)) (by repeat (first | exact A0.nil | refine A0.cons Pk.here ?_ | refine A0.cons (Pk.there Pk.here) ?_ | refine A0.cons (Pk.there (Pk.there Pk.here)) ?_ | apply A0.drop)) ?_
 (exact ⟨pd, by omega, by omega, rfl, _, _, rfl, hN, by first | exact O8 (by first | assumption | decide) | exact A0I (by decide) (by assumption) (by assumption) (by assumption) | exact T3 (by decide) (by assumption) (by assumption) | exact M2 (by decide) R1 (by assumption) | exact M2 (by decide) har.small (by assumption) | exact M2 (by decide) R1 (T3 (by decide) (by assumption) (O8 (by decide))) | exact M2 (by decide) A0J (O8 (by decide)) | assumption, by simp only [D2, E0]; omega⟩)
 refine A7 ?_
 refine sB (qE rfl rfl) rfl rfl (fun h317 => ?_) (fun h317 => ?_)
 refine J2 ?_
 refine sP (Q5 rfl rfl (by omega) (by omega)) rfl rfl ?_
 (have hpkq := hpk9; obtain ⟨m, rfl⟩ := hfu.pos (.inl (by omega)); have hmB : mB (m + 1) = 3 * mB m + 200 := rfl; have hgm := A1F m; have hcall := ih m (by omega) (depth - 1) (.mk k ks) (p1 + 1) _ pc nc cc _ (hfu.sub (by omega) hfu.1) (by omega) (by omega) (by omega) hx hrt hb (by omega); refine I0 rfl hcall (Pk.perm (by repeat (first | exact Pk.here | apply Pk.there))) rfl rfl (fun v Gn outs hleh hh => ?_); obtain ⟨ph, hph1, hph2, rfl, eh, ch, rfl, hrh, hsmh, hch⟩ := hh; obtain ⟨h1, h2, h3, h4, h5, h6, h7, h8, h9, rfl⟩ := hrh.nine; replace hx := hx.mono hleh; replace hb := hb.mono hleh; replace hrt := hrt.mono hleh;)
 refine I3 rfl ((A2e _ _)) rfl rfl ?_
 (refine M5 (D4 rfl rfl rfl (by omega) (by unfold maxLen; omega) rfl) rfl ?_; rintro _ ⟨b331, rfl⟩)
 refine I3 rfl ((A2F _ _ _ _ _)) rfl rfl ?_
 (refine M5 (D4 rfl rfl rfl (by omega) (by unfold maxLen; omega) rfl) rfl ?_; rintro _ ⟨b333, rfl⟩)
 refine I3 rfl ((A2F _ _ _ _ _)) rfl rfl ?_
 refine B6 ?_
 (refine I5 (cs := [h1, h2, h3, h4, h5, h6, h7, h8, h9] ++ [.int .i64 2, .string ⟨⟨[]⟩⟩, .int .i64 1, .int .i64 0, .slice none 0 0, .int .i64 0, .slice none 0 0, .int .i64 0, .slice none 0 0]) (by repeat (first | exact Pk.here | apply Pk.there)) (fun G8 hle8 hsl8 hno8 => ?_); have hNi := A4t (k := 10) (nm := ⟨⟨[]⟩⟩) ⟨by omega, by omega⟩ (hrh.mono hle8) (A2s G8 ⟨⟨[]⟩⟩ 1 (k := 2) ⟨by omega, by omega⟩ ⟨by omega, by omega⟩) hsl8; refine I5 (by repeat (first | exact Pk.here | apply Pk.there)) (fun G9 hle9 hsl9 hno9 => ?_); have hN := A4s (k := 11) (nm := ⟨⟨[]⟩⟩) ⟨by omega, by omega⟩ (O2 G9 (k := 0) ⟨by omega, by omega⟩) (hNi.mono hle9) hsl9)
 refine A1 ?_
 refine A02 ?_
 refine H5 (outs := [rd br pb nb cb ph]) (rC rfl (A4 rfl rfl)) (by repeat (first | exact A0.nil | refine A0.cons Pk.here ?_ | refine A0.cons (Pk.there Pk.here) ?_ | refine A0.cons (Pk.there (Pk.there Pk.here)) ?_ | apply A0.drop)) ?_
 (exact ⟨ph, by omega, by omega, rfl, _, _, rfl, hN, by first | exact O8 (by first | assumption | decide) | exact A0I (by decide) (by assumption) (by assumption) (by assumption) | exact T3 (by decide) (by assumption) (by assumption) | exact M2 (by decide) R1 (by assumption) | exact M2 (by decide) har.small (by assumption) | exact M2 (by decide) R1 (T3 (by decide) (by assumption) (O8 (by decide))) | exact M2 (by decide) A0J (O8 (by decide)) | assumption, by simp only [D2, E0]; omega⟩)
 refine A7 ?_
 refine A4v (p1 + 1, Gp) (N8 (by repeat (first | exact E5.nil | refine E5.cons rfl ?_)) (by repeat (first | exact A0.refl | exact A0.nil | refine A0.cons (by repeat (first | exact Pk.here | apply Pk.there)) ?_ | apply A0.drop))) ⟨C2.refl _, by dsimp only; omega, by dsimp only; omega⟩
 refine tK ?_
 refine A4v (p1, G1) (N8 (by repeat (first | exact E5.nil | refine E5.cons rfl ?_)) (by repeat (first | exact A0.refl | exact A0.nil | refine A0.cons (by repeat (first | exact Pk.here | apply Pk.there)) ?_ | apply A0.drop))) ⟨C2.refl _, by dsimp only; omega, by dsimp only; omega⟩
 (rintro ⟨(p2 : Nat), G2⟩ ⟨hle2c, hp2a, hp2b⟩; simp only [] at hle2c hp2a hp2b ⊢; have hcut1 := hp2a; replace hx := hx.mono hle2c; replace hb := hb.mono hle2c; replace hrt := hrt.mono hle2c;)
 refine B4 ?_
 (show J3 _ _ (.block 3 ..) _ _; refine B1k (fun (x : Nat × IM) => ⟨[(0, .pointer (some ⟨br, 0, none⟩)), (1, .slice pc nc cc), (3, .int .i64 depth), (6, .pointer (some ⟨b3, 0, none⟩)), (8, .pointer (some ⟨b4, 0, none⟩))], [rd br pb nb cb x.1, .blk b4 [.int .i64 0, .string ⟨⟨[]⟩⟩, .int .i64 0, .int .i64 0, .slice none 0 0, .int .i64 0, .slice none 0 0, .int .i64 0, .slice none 0 0], .blk b3 [.int .i64 k, .slice q ks.length c]], x.2⟩) (fun x => C2 G2 x.2 ∧ p2 ≤ x.1 ∧ x.1 ≤ p2 + 2) ?_ ?_)
 refine C0 (tS (tR (sB (qE rfl rfl) rfl rfl (fun h365 => ?_) (fun h365 => ?_))))
 refine D0 ?_
 refine sB (Z2 rfl rfl) rfl rfl (fun h374 => ?_) (fun h374 => ?_)
 refine A1 ?_
 (have hkk3 : k = 3 := (by omega); refine I0 rfl (Y6 _ br pb nb cb (p2) bs 2 hb hnb (by omega)) (Pk.perm (by repeat (first | exact Pk.here | apply Pk.there))) rfl rfl (fun v Gp outs hle377 hh => ?_); obtain ⟨rfl, rfl, j377, rfl, hj377, hk377⟩ := hh; have hpk22 := hj377)
 replace hb := hb.mono hle377
 replace hrt := hrt.mono hle377
 refine sB (qE rfl rfl) rfl rfl (fun h378 => ?_) (fun h378 => ?_)
 refine D0 ?_
 refine I3 rfl ((A1y _)) rfl rfl ?_
 refine E8 ?_
 refine sP (Q5 rfl rfl (by omega) (by omega)) rfl rfl ?_
 (have hkk3q := hkk3; obtain ⟨m, rfl⟩ := hfu.pos (.inl (by omega)); have hmB : mB (m + 1) = 3 * mB m + 200 := rfl; have hgm := A1F m; have hcall := ih m (by omega) (depth - 1) (.mk 2 []) (p2 + 1) _ pc nc cc _ (hfu.sub (by omega) (A26 4 (by decide) (by decide))) (by omega) (by omega) (by omega) hx (O2 _ ⟨by omega, by omega⟩) hb (by omega); refine I0 rfl hcall (Pk.perm (by repeat (first | exact Pk.here | apply Pk.there))) rfl rfl (fun v Gn outs hlen hh => ?_); obtain ⟨pn, hpn1, hpn2, rfl, en, cn, rfl, hrn, hsmn, hcn⟩ := hh; obtain ⟨n1, n2, n3, n4, n5, n6, n7, n8, n9, rfl⟩ := hrn.nine; replace hx := hx.mono hlen; replace hb := hb.mono hlen; replace hrt := hrt.mono hlen;)
 refine A1 ?_
 refine I3 rfl ((A1y _)) rfl rfl ?_
 refine E8 ?_
 refine sP (Q5 rfl rfl (by omega) (by omega)) rfl rfl ?_
 (have hcall := ih m (by omega) (depth - 1) (.mk 2 []) pn _ pc nc cc _ (hfu.sub (by omega) (A26 4 (by decide) (by decide))) (by omega) (by omega) (by omega) hx (O2 _ ⟨by omega, by omega⟩) hb (by omega); refine I0 rfl hcall (Pk.perm (by repeat (first | exact Pk.here | apply Pk.there))) rfl rfl (fun v Gn outs hleo hh => ?_); obtain ⟨po, hpo1, hpo2, rfl, eo, co, rfl, hro, hsmo, hco⟩ := hh; obtain ⟨o1, o2, o3, o4, o5, o6, o7, o8, o9, rfl⟩ := hro.nine; replace hrn := hrn.mono hleo; replace hx := hx.mono hleo; replace hb := hb.mono hleo; replace hrt := hrt.mono hleo;)
 (refine M5 (D4 rfl rfl rfl (by omega) (by unfold maxLen; omega) rfl) rfl ?_; rintro _ ⟨b397, rfl⟩)
 refine I3 rfl ((A2F _ _ _ _ _)) rfl rfl ?_
 refine B6 ?_
 (refine I5 (cs := [n1, n2, n3, n4, n5, n6, n7, n8, n9] ++ [o1, o2, o3, o4, o5, o6, o7, o8, o9]) (by repeat (first | exact Pk.here | apply Pk.there)) (fun G9 hle9 hsl9 hno9 => ?_); have hN := A4t (k := 8) (nm := ⟨⟨[]⟩⟩) ⟨by omega, by omega⟩ (hrn.mono hle9) (hro.mono hle9) hsl9)
 refine B6 ?_
 refine A02 ?_
 refine H5 (outs := [rd br pb nb cb po]) (rC rfl (A4 rfl rfl)) (by repeat (first | exact A0.nil | refine A0.cons Pk.here ?_ | refine A0.cons (Pk.there Pk.here) ?_ | refine A0.cons (Pk.there (Pk.there Pk.here)) ?_ | apply A0.drop)) ?_
 (exact ⟨po, by omega, by omega, rfl, _, _, rfl, hN, by first | exact O8 (by first | assumption | decide) | exact A0I (by decide) (by assumption) (by assumption) (by assumption) | exact T3 (by decide) (by assumption) (by assumption) | exact M2 (by decide) R1 (by assumption) | exact M2 (by decide) har.small (by assumption) | exact M2 (by decide) R1 (T3 (by decide) (by assumption) (O8 (by decide))) | exact M2 (by decide) A0J (O8 (by decide)) | assumption, by simp only [D2, E0]; omega⟩)
 refine K2 ?_
 refine A02 ?_
 refine H5 (outs := [rd br pb nb cb (p2 + 1)]) (rC rfl (A4 rfl rfl)) (by repeat (first | exact A0.nil | refine A0.cons Pk.here ?_ | refine A0.cons (Pk.there Pk.here) ?_ | refine A0.cons (Pk.there (Pk.there Pk.here)) ?_ | apply A0.drop)) ?_
 (exact ⟨(p2 + 1), by omega, by omega, rfl, _, _, rfl, A2s _ _ _ ⟨by omega, by omega⟩ (by first | exact ⟨by omega, by omega⟩ | exact hkn), by first | exact O8 (by first | assumption | decide) | exact A0I (by decide) (by assumption) (by assumption) (by assumption) | exact T3 (by decide) (by assumption) (by assumption) | exact M2 (by decide) R1 (by assumption) | exact M2 (by decide) har.small (by assumption) | exact M2 (by decide) R1 (T3 (by decide) (by assumption) (O8 (by decide))) | exact M2 (by decide) A0J (O8 (by decide)) | assumption, by simp only [D2, E0]; omega⟩)
 refine V9 ?_
 refine A02 ?_
 refine H5 (outs := [rd br pb nb cb p2]) (rC rfl (A4 rfl rfl)) (by repeat (first | exact A0.nil | refine A0.cons Pk.here ?_ | refine A0.cons (Pk.there Pk.here) ?_ | refine A0.cons (Pk.there (Pk.there Pk.here)) ?_ | apply A0.drop)) ?_
 (exact ⟨p2, by omega, by omega, rfl, _, _, rfl, A2s _ _ _ ⟨by omega, by omega⟩ (by first | exact ⟨by omega, by omega⟩ | exact hkn), by first | exact O8 (by first | assumption | decide) | exact A0I (by decide) (by assumption) (by assumption) (by assumption) | exact T3 (by decide) (by assumption) (by assumption) | exact M2 (by decide) R1 (by assumption) | exact M2 (by decide) har.small (by assumption) | exact M2 (by decide) R1 (T3 (by decide) (by assumption) (O8 (by decide))) | exact M2 (by decide) A0J (O8 (by decide)) | assumption, by simp only [D2, E0]; omega⟩)
 refine A7 ?_
 refine sB (qE rfl rfl) rfl rfl (fun h453 => ?_) (fun h453 => ?_)
 refine B1 ?_
 (have hk45 : k = 4 ∨ k = 5 := (by omega); have hl2 := hops hk45; obtain ⟨m, rfl⟩ := hfu.pos (.inr hk45); have hmB : mB (m + 1) = 3 * mB m + 200 := rfl; have hgm := A1F m; obtain ⟨es9, hsl, hkl⟩ := hrt.kidsM; obtain ⟨b0, o0, q0, d0, hp0, hat0, hre0, hg0⟩ := hsl.kidTy hkl (i := 0) (by omega) (by omega); obtain ⟨b1, o1, q1, d1, hp1, hat1, hre1, hg1⟩ := hsl.kidTy hkl (i := 1) (by omega) (by omega); cases hp0; cases hp1; have hmem0 := List.getElem_mem (l := ks) (n := 0) (by omega); have hmem1 := List.getElem_mem (l := ks) (n := 1) (by omega); refine E3 E4 rfl ?_)
 refine J5 (i := 0) (l' := [tt,ff,ff,ff,ff,ff,ff,ff,ff,ff,ff,ff,ff,ff]) rfl D7 (qM rfl) rfl (by kernel_rfl) rfl rfl ?_
 refine aP 1 rfl (qM rfl) rfl ?_
 refine aP 2 rfl (B9 rfl) rfl ?_
 refine aL 3 rfl (D3 rfl rfl) rfl ?_
 refine aP 4 rfl (B8 (j := 0) rfl rfl rfl (by omega)) rfl ?_
 refine aL 5 rfl (A2 rfl rfl (hat0 _) rfl) rfl ?_
 refine aP 6 rfl (B9 rfl) rfl ?_
 refine aL 7 rfl (D3 rfl rfl) rfl ?_
 refine aP 8 rfl (B8 (j := 1) rfl rfl rfl (by omega)) rfl ?_
 refine aL 9 rfl (A2 rfl rfl (hat1 _) rfl) rfl ?_
 refine aP 10 rfl (qM rfl) rfl ?_
 refine aP 11 rfl (Q5 rfl rfl (by omega) (by omega)) rfl ?_
 refine A3 12 ?_
 (have hcall := B1j br pb nb cb bs hnb m (ih m (by omega)) (depth - 1) ks[0] ks[1] (p2) _ pc nc cc _ _ (hfu.kid hmem1) (by omega) (by omega) (by omega) hx hre0 ⟨har.kid _ hmem0, by have := B4n (k := k) hmem0; omega⟩ hre1 hb (by omega); refine A0d (l' := [tt,tt,tt,tt,tt,tt,tt,tt,tt,tt,tt,tt,tt,ff]) rfl rfl hcall (Pk.perm (by repeat (first | exact Pk.here | apply Pk.there))) rfl rfl rfl (by repeat (first | exact A9.nil | apply A9.dep (by decide +kernel) | apply A9.im (by decide +kernel) hg0 (by repeat first | exact mH | apply mT) | apply A9.im (by decide +kernel) hg1 (by repeat first | exact mH | apply mT) | apply A9.blk (by decide +kernel) (by repeat (first | exact Pk.here | apply Pk.there)) (by repeat first | exact mH | apply mT))) (fun v Gn outs hlek hh => ?_); obtain ⟨pk, hpk1, hpk2, rfl, ek, ck, rfl, hrk, hsmk, hck⟩ := hh; obtain ⟨k1, k2, k3, k4, k5, k6, k7, k8, k9, rfl⟩ := hrk.nine; replace hx := hx.mono hlek; replace hb := hb.mono hlek; replace hrt := hrt.mono hlek;)
 refine A3 13 ?_
 refine R2 rfl rfl rfl rfl rfl hrk.one rfl rfl (by kernel_rfl) (by repeat first | exact Sw.here | apply Sw.there) (by rfl) ?_
 refine B3 ?_
 refine A02 ?_
 refine H5 (outs := [rd br pb nb cb pk]) (rC rfl (A4 rfl rfl)) (by repeat (first | exact A0.nil | refine A0.cons Pk.here ?_ | refine A0.cons (Pk.there Pk.here) ?_ | refine A0.cons (Pk.there (Pk.there Pk.here)) ?_ | apply A0.drop)) ?_
 (exact ⟨pk, by omega, by omega, rfl, _, _, rfl, hrk, hsmk, by omega⟩)
 refine A7 ?_
 refine sB (qE rfl rfl) rfl rfl (fun h489 => ?_) (fun h489 => ?_)
 refine B1 ?_
 (have hk45 : k = 4 ∨ k = 5 := (by omega); have hl2 := hops hk45; obtain ⟨m, rfl⟩ := hfu.pos (.inr hk45); have hmB : mB (m + 1) = 3 * mB m + 200 := rfl; have hgm := A1F m; obtain ⟨es9, hsl, hkl⟩ := hrt.kidsM; obtain ⟨b0, o0, q0, d0, hp0, hat0, hre0, hg0⟩ := hsl.kidTy hkl (i := 0) (by omega) (by omega); obtain ⟨b1, o1, q1, d1, hp1, hat1, hre1, hg1⟩ := hsl.kidTy hkl (i := 1) (by omega) (by omega); cases hp0; cases hp1; have hmem0 := List.getElem_mem (l := ks) (n := 0) (by omega); have hmem1 := List.getElem_mem (l := ks) (n := 1) (by omega); refine E3 E4 rfl ?_)
 refine J5 (i := 0) (l' := [tt,ff,ff,ff,ff,ff,ff,ff,ff,ff,ff,ff,ff,ff,ff,ff,ff,ff,ff,ff,ff]) rfl D7 (qM rfl) rfl (by kernel_rfl) rfl rfl ?_
 refine aP 1 rfl (qM rfl) rfl ?_
 refine aP 2 rfl (B9 rfl) rfl ?_
 refine aL 3 rfl (D3 rfl rfl) rfl ?_
 refine aP 4 rfl (B8 (j := 0) rfl rfl rfl (by omega)) rfl ?_
 refine aL 5 rfl (A2 rfl rfl (hat0 _) rfl) rfl ?_
 refine aP 6 rfl (qM rfl) rfl ?_
 refine aP 7 rfl (Q5 rfl rfl (by omega) (by omega)) rfl ?_
 refine aP 9 rfl (qM rfl) rfl ?_
 refine aP 10 rfl (qM rfl) rfl ?_
 refine aP 11 rfl (B9 rfl) rfl ?_
 refine aL 12 rfl (D3 rfl rfl) rfl ?_
 refine aP 13 rfl (B8 (j := 1) rfl rfl rfl (by omega)) rfl ?_
 refine aL 14 rfl (A2 rfl rfl (hat1 _) rfl) rfl ?_
 refine aP 15 rfl (qM rfl) rfl ?_
 refine aP 16 rfl (Q5 rfl rfl (by omega) (by omega)) rfl ?_
 refine A3 8 ?_
 (have hcall := ih m (by omega) (depth - 1) ks[0] p2 _ pc nc cc _ (hfu.kid hmem0) (by omega) (by omega) (by omega) hx hre0 hb (by omega); refine A0d (l' := [tt,tt,tt,tt,tt,tt,tt,tt,tt,tt,tt,tt,tt,tt,tt,tt,tt,ff,ff,ff,ff]) rfl rfl hcall (Pk.perm (by repeat (first | exact Pk.here | apply Pk.there))) rfl rfl rfl (by repeat (first | exact A9.nil | apply A9.dep (by decide +kernel) | apply A9.im (by decide +kernel) hg0 (by repeat first | exact mH | apply mT) | apply A9.im (by decide +kernel) hg1 (by repeat first | exact mH | apply mT) | apply A9.blk (by decide +kernel) (by repeat (first | exact Pk.here | apply Pk.there)) (by repeat first | exact mH | apply mT))) (fun v Gn outs hles hh => ?_); obtain ⟨ps, hps1, hps2, rfl, es, cs, rfl, hrs, hsms, hcs⟩ := hh; obtain ⟨s1, s2, s3, s4, s5, s6, s7, s8, s9, rfl⟩ := hrs.nine; replace hre1 := hre1.mono hles; replace hx := hx.mono hles; replace hb := hb.mono hles; replace hrt := hrt.mono hles;)
 refine A3 17 ?_
 (have hcall := ih m (by omega) (depth - 1) ks[1] ps _ pc nc cc _ (hfu.kid hmem1) (by omega) (by omega) (by omega) hx hre1 hb (by omega); refine A0d (l' := [tt,tt,tt,tt,tt,tt,tt,tt,tt,tt,tt,tt,tt,tt,tt,tt,tt,tt,ff,ff,ff]) rfl rfl hcall (Pk.perm (by repeat (first | exact Pk.here | apply Pk.there))) rfl rfl rfl (by repeat (first | exact A9.nil | apply A9.dep (by decide +kernel) | apply A9.im (by decide +kernel) hg0 (by repeat first | exact mH | apply mT) | apply A9.im (by decide +kernel) hg1 (by repeat first | exact mH | apply mT) | apply A9.blk (by decide +kernel) (by repeat (first | exact Pk.here | apply Pk.there)) (by repeat first | exact mH | apply mT))) (fun v Gn outs hlew hh => ?_); obtain ⟨pw, hpw1, hpw2, rfl, ew, cw, rfl, hrw, hsmw, hcw⟩ := hh; obtain ⟨w1, w2, w3, w4, w5, w6, w7, w8, w9, rfl⟩ := hrw.nine; replace hrs := hrs.mono hlew; replace hx := hx.mono hlew; replace hb := hb.mono hlew; replace hrt := hrt.mono hlew;)
 refine A3 18 ?_
 (refine E6 rfl (D4 rfl rfl rfl (by omega) (by unfold maxLen; omega) rfl) rfl rfl ?_; rintro _ ⟨b517, rfl⟩)
 refine A3 19 ?_
 refine P4 rfl rfl ((A2F _ _ _ _ _)) rfl rfl rfl ?_
 refine A3 20 ?_
 refine R2 rfl rfl rfl rfl rfl rfl rfl rfl (by decide +kernel) (by repeat first | exact Sw.here | apply Sw.there) (by rfl) ?_
 refine A1 ?_
 (refine I5 (cs := [s1, s2, s3, s4, s5, s6, s7, s8, s9] ++ [w1, w2, w3, w4, w5, w6, w7, w8, w9]) (by repeat (first | exact Pk.here | apply Pk.there)) (fun G9 hle9 hsl9 hno9 => ?_); have hN := A4t (k := 10) (nm := ⟨⟨[]⟩⟩) ⟨by omega, by omega⟩ (hrs.mono hle9) (hrw.mono hle9) hsl9)
 refine A1 ?_
 refine A02 ?_
 refine H5 (outs := [rd br pb nb cb pw]) (rC rfl (A4 rfl rfl)) (by repeat (first | exact A0.nil | refine A0.cons Pk.here ?_ | refine A0.cons (Pk.there Pk.here) ?_ | refine A0.cons (Pk.there (Pk.there Pk.here)) ?_ | apply A0.drop)) ?_
 (exact ⟨pw, by omega, by omega, rfl, _, _, rfl, hN, by first | exact O8 (by first | assumption | decide) | exact A0I (by decide) (by assumption) (by assumption) (by assumption) | exact T3 (by decide) (by assumption) (by assumption) | exact M2 (by decide) R1 (by assumption) | exact M2 (by decide) har.small (by assumption) | exact M2 (by decide) R1 (T3 (by decide) (by assumption) (O8 (by decide))) | exact M2 (by decide) A0J (O8 (by decide)) | assumption, by simp only [D2, E0]; omega⟩)
 refine A7 ?_
 refine sB (qE rfl rfl) rfl rfl (fun h536 => ?_) (fun h536 => ?_)
 refine D0 ?_
 refine sB (Z2 rfl rfl) rfl rfl (fun h545 => ?_) (fun h545 => ?_)
 refine A1 ?_
 (have hkk1 : k = 1 := (by omega); refine I0 rfl (Y6 _ br pb nb cb (p2) bs 3 hb hnb (by omega)) (Pk.perm (by repeat (first | exact Pk.here | apply Pk.there))) rfl rfl (fun v Gp outs hle548 hh => ?_); obtain ⟨rfl, rfl, j548, rfl, hj548, hk548⟩ := hh; have hpk23 := hj548)
 replace hb := hb.mono hle548
 replace hrt := hrt.mono hle548
 refine sB (qE rfl rfl) rfl rfl (fun h549 => ?_) (fun h549 => ?_)
 refine D8 ?_
 (have hcall := A36 br pb nb cb bs hnb 1 (p2 + 1) _ (by omega) hb (by have : dB (1 + 1) ≤ 6 := (by decide); omega); refine I0 rfl hcall (Pk.perm (by repeat (first | exact Pk.here | apply Pk.there))) rfl rfl (fun v Gn outs hleF hh => ?_); obtain ⟨pF, hpF1, hpF2, rfl, uF, cuF, rfl, hruF, husF, huhF⟩ := hh; have huaF := huhF.ar; obtain ⟨quF, duF, euF, rfl, _⟩ := hruF.open; have hdBF : dB (1 + 1) ≤ 6 := (by decide); replace hx := hx.mono hleF; replace hb := hb.mono hleF; replace hrt := hrt.mono hleF;)
 refine E8 ?_
 refine sP (Q5 rfl rfl (by omega) (by omega)) rfl rfl ?_
 (obtain ⟨m, rfl⟩ := hfu.pos (.inl (by omega)); have hmB : mB (m + 1) = 3 * mB m + 200 := rfl; have hgm := A1F m; have hcall := ih m (by omega) (depth - 1) uF pF _ pc nc cc _ (hfu.sub (by omega) (huhF.le (by omega))) (by omega) (by omega) (by omega) hx hruF hb (by omega); refine I0 rfl hcall (Pk.perm (by repeat (first | exact Pk.here | apply Pk.there))) rfl rfl (fun v Gn outs hlex hh => ?_); obtain ⟨px, hpx1, hpx2, rfl, ex, cx, rfl, hrx, hsmx, hcx⟩ := hh; obtain ⟨x1, x2, x3, x4, x5, x6, x7, x8, x9, rfl⟩ := hrx.nine; replace hx := hx.mono hlex; replace hb := hb.mono hlex; replace hrt := hrt.mono hlex;)
 refine sS rfl rfl rfl rfl hrx.one rfl ?_
 refine B1 ?_
 refine A02 ?_
 refine H5 (outs := [rd br pb nb cb px]) (rC rfl (A4 rfl rfl)) (by repeat (first | exact A0.nil | refine A0.cons Pk.here ?_ | refine A0.cons (Pk.there Pk.here) ?_ | refine A0.cons (Pk.there (Pk.there Pk.here)) ?_ | apply A0.drop)) ?_
 (exact ⟨px, by omega, by omega, rfl, _, _, rfl, hrx, hsmx, by omega⟩)
 refine D8 ?_
 (refine I0 rfl (Y6 _ br pb nb cb (p2 + 1) bs 3 hb hnb (by omega)) (Pk.perm (by repeat (first | exact Pk.here | apply Pk.there))) rfl rfl (fun v Gp outs hle581 hh => ?_); obtain ⟨rfl, rfl, j581, rfl, hj581, hk581⟩ := hh; have hpk21 := hj581)
 replace hb := hb.mono hle581
 replace hrt := hrt.mono hle581
 refine sB (qE rfl rfl) rfl rfl (fun h582 => ?_) (fun h582 => ?_)
 refine B1 ?_
 refine I3 rfl ((A1v _)) rfl rfl ?_
 refine E8 ?_
 (refine M5 (D4 rfl rfl rfl (by omega) (by unfold maxLen; omega) rfl) rfl ?_; rintro _ ⟨b590, rfl⟩)
 refine B3 ?_
 (refine I5 (cs := [.int .i64 4, .string ⟨⟨[]⟩⟩, .int .i64 0, .int .i64 0, .slice none 0 0, .int .i64 0, .slice none 0 0, .int .i64 0, .slice none 0 0]) (by repeat (first | exact Pk.here | apply Pk.there)) (fun G9 hle9 hsl9 hno9 => ?_); have hN := A4s (k := 13) (nm := ⟨⟨[]⟩⟩) ⟨by omega, by omega⟩ (A0N _) (A2s G9 ⟨⟨[]⟩⟩ 0 (k := 4) ⟨by omega, by omega⟩ ⟨by omega, by omega⟩) hsl9)
 refine A1 ?_
 refine A02 ?_
 refine H5 (outs := [rd br pb nb cb (p2 + 1 + 1)]) (rC rfl (A4 rfl rfl)) (by repeat (first | exact A0.nil | refine A0.cons Pk.here ?_ | refine A0.cons (Pk.there Pk.here) ?_ | refine A0.cons (Pk.there (Pk.there Pk.here)) ?_ | apply A0.drop)) ?_
 (exact ⟨(p2 + 1 + 1), by omega, by omega, rfl, _, _, rfl, hN, by first | exact O8 (by first | assumption | decide) | exact A0I (by decide) (by assumption) (by assumption) (by assumption) | exact T3 (by decide) (by assumption) (by assumption) | exact M2 (by decide) R1 (by assumption) | exact M2 (by decide) har.small (by assumption) | exact M2 (by decide) R1 (T3 (by decide) (by assumption) (O8 (by decide))) | exact M2 (by decide) A0J (O8 (by decide)) | assumption, by simp only [D2, E0]; omega⟩)
 refine B1 ?_
 refine A4v (p2 + 1 + 1, Gp) (N8 (by repeat (first | exact E5.nil | refine E5.cons rfl ?_)) (by repeat (first | exact A0.refl | exact A0.nil | refine A0.cons (by repeat (first | exact Pk.here | apply Pk.there)) ?_ | apply A0.drop))) ⟨C2.refl _, by dsimp only; omega, by dsimp only; omega⟩
 refine J6 ?_
 (have hkk1 : k = 1 := (by omega); refine I0 rfl (Y6 _ br pb nb cb (p2) bs 3 hb hnb (by omega)) (Pk.perm (by repeat (first | exact Pk.here | apply Pk.there))) rfl rfl (fun v Gp outs hle620 hh => ?_); obtain ⟨rfl, rfl, j620, rfl, hj620, hk620⟩ := hh; have hpk23 := hj620)
 replace hb := hb.mono hle620
 replace hrt := hrt.mono hle620
 refine sB (qE rfl rfl) rfl rfl (fun h621 => ?_) (fun h621 => ?_)
 refine B1 ?_
 refine I3 rfl ((A1v _)) rfl rfl ?_
 refine E8 ?_
 (refine M5 (D4 rfl rfl rfl (by omega) (by unfold maxLen; omega) rfl) rfl ?_; rintro _ ⟨b629, rfl⟩)
 refine B3 ?_
 (refine I5 (cs := [.int .i64 4, .string ⟨⟨[]⟩⟩, .int .i64 0, .int .i64 0, .slice none 0 0, .int .i64 0, .slice none 0 0, .int .i64 0, .slice none 0 0]) (by repeat (first | exact Pk.here | apply Pk.there)) (fun G9 hle9 hsl9 hno9 => ?_); have hN := A4s (k := 13) (nm := ⟨⟨[]⟩⟩) ⟨by omega, by omega⟩ (A0N _) (A2s G9 ⟨⟨[]⟩⟩ 0 (k := 4) ⟨by omega, by omega⟩ ⟨by omega, by omega⟩) hsl9)
 refine A1 ?_
 refine A02 ?_
 refine H5 (outs := [rd br pb nb cb (p2 + 1)]) (rC rfl (A4 rfl rfl)) (by repeat (first | exact A0.nil | refine A0.cons Pk.here ?_ | refine A0.cons (Pk.there Pk.here) ?_ | refine A0.cons (Pk.there (Pk.there Pk.here)) ?_ | apply A0.drop)) ?_
 (exact ⟨(p2 + 1), by omega, by omega, rfl, _, _, rfl, hN, by first | exact O8 (by first | assumption | decide) | exact A0I (by decide) (by assumption) (by assumption) (by assumption) | exact T3 (by decide) (by assumption) (by assumption) | exact M2 (by decide) R1 (by assumption) | exact M2 (by decide) har.small (by assumption) | exact M2 (by decide) R1 (T3 (by decide) (by assumption) (O8 (by decide))) | exact M2 (by decide) A0J (O8 (by decide)) | assumption, by simp only [D2, E0]; omega⟩)
 refine B1 ?_
 refine A4v (p2 + 1, Gp) (N8 (by repeat (first | exact E5.nil | refine E5.cons rfl ?_)) (by repeat (first | exact A0.refl | exact A0.nil | refine A0.cons (by repeat (first | exact Pk.here | apply Pk.there)) ?_ | apply A0.drop))) ⟨C2.refl _, by dsimp only; omega, by dsimp only; omega⟩
 refine A7 ?_
 refine A4v (p2, G2) (N8 (by repeat (first | exact E5.nil | refine E5.cons rfl ?_)) (by repeat (first | exact A0.refl | exact A0.nil | refine A0.cons (by repeat (first | exact Pk.here | apply Pk.there)) ?_ | apply A0.drop))) ⟨C2.refl _, by dsimp only; omega, by dsimp only; omega⟩
 (have hq := hcut1; rintro ⟨(p5 : Nat), G5⟩ ⟨hle5c, hp5a, hp5b⟩; simp only [] at hle5c hp5a hp5b ⊢; have hcut2 := hp5a; replace hx := hx.mono hle5c; replace hb := hb.mono hle5c; replace hrt := hrt.mono hle5c;)
 refine B3 ?_
 refine sB (Z2 rfl rfl) rfl rfl (fun h658 => ?_) (fun h658 => ?_)
 refine A1 ?_
 (refine I0 rfl (Y6 _ br pb nb cb (p5) bs 2 hb hnb (by omega)) (Pk.perm (by repeat (first | exact Pk.here | apply Pk.there))) rfl rfl (fun v Gp outs hle661 hh => ?_); obtain ⟨rfl, rfl, j661, rfl, hj661, hk661⟩ := hh; have hpk5 := hj661)
 replace hb := hb.mono hle661
 replace hrt := hrt.mono hle661
 refine sB (qE rfl rfl) rfl rfl (fun h662 => ?_) (fun h662 => ?_)
 refine D8 ?_
 refine I3 rfl ((A1y _)) rfl rfl ?_
 (have hz2 : L4 (.mk 2 []) = 0 := rfl; have hcall := A6M br pb nb cb bs hnb (.mk 2 []) (p5 + 1) _ _ (U3 (by decide) (by decide)) (O2 _ ⟨by omega, by omega⟩) hb (by omega); refine I0 rfl hcall (Pk.perm (by repeat (first | exact Pk.here | apply Pk.there))) rfl rfl (fun v Gn outs hleG hh => ?_); obtain ⟨pG, hpG1, hpG2, rfl, uG, cuG, rfl, hruG, huaG, husG, huhG⟩ := hh; obtain ⟨quG, duG, euG, rfl, _⟩ := hruG.open; replace hx := hx.mono hleG; replace hb := hb.mono hleG; replace hrt := hrt.mono hleG;)
 refine E8 ?_
 refine sP (Q5 rfl rfl (by omega) (by omega)) rfl rfl ?_
 (obtain ⟨m, rfl⟩ := hfu.pos (.inl (by omega)); have hmB : mB (m + 1) = 3 * mB m + 200 := rfl; have hgm := A1F m; have hcall := ih m (by omega) (depth - 1) uG pG _ pc nc cc _ (hfu.sub (by omega) (huhG 4 (A26 4 (by decide) (by decide)))) (by omega) (by omega) (by omega) hx hruG hb (by omega); refine I0 rfl hcall (Pk.perm (by repeat (first | exact Pk.here | apply Pk.there))) rfl rfl (fun v Gn outs hley hh => ?_); obtain ⟨py, hpy1, hpy2, rfl, ey, cy, rfl, hry, hsmy, hcy⟩ := hh; obtain ⟨y1, y2, y3, y4, y5, y6, y7, y8, y9, rfl⟩ := hry.nine; replace hx := hx.mono hley; replace hb := hb.mono hley; replace hrt := hrt.mono hley;)
 refine A1 ?_
 refine I3 rfl ((A1y _)) rfl rfl ?_
 refine E8 ?_
 refine sP (Q5 rfl rfl (by omega) (by omega)) rfl rfl ?_
 (have hcall := ih m (by omega) (depth - 1) (.mk 2 []) py _ pc nc cc _ (hfu.sub (by omega) (A26 4 (by decide) (by decide))) (by omega) (by omega) (by omega) hx (O2 _ ⟨by omega, by omega⟩) hb (by omega); refine I0 rfl hcall (Pk.perm (by repeat (first | exact Pk.here | apply Pk.there))) rfl rfl (fun v Gn outs hlec hh => ?_); obtain ⟨pc, hpc1, hpc2, rfl, ec, cc, rfl, hrc, hsmc, hcc⟩ := hh; obtain ⟨c1, c2, c3, c4, c5, c6, c7, c8, c9, rfl⟩ := hrc.nine; replace hry := hry.mono hlec; replace hx := hx.mono hlec; replace hb := hb.mono hlec; replace hrt := hrt.mono hlec;)
 (refine M5 (D4 rfl rfl rfl (by omega) (by unfold maxLen; omega) rfl) rfl ?_; rintro _ ⟨b683, rfl⟩)
 refine I3 rfl ((A2F _ _ _ _ _)) rfl rfl ?_
 refine B6 ?_
 (refine I5 (cs := [y1, y2, y3, y4, y5, y6, y7, y8, y9] ++ [c1, c2, c3, c4, c5, c6, c7, c8, c9]) (by repeat (first | exact Pk.here | apply Pk.there)) (fun G9 hle9 hsl9 hno9 => ?_); have hN := A4t (k := 7) (nm := ⟨⟨[]⟩⟩) ⟨by omega, by omega⟩ (hry.mono hle9) (hrc.mono hle9) hsl9)
 refine A1 ?_
 refine H5 (outs := [rd br pb nb cb pc]) (rC rfl (A4 rfl rfl)) (by repeat (first | exact A0.nil | refine A0.cons Pk.here ?_ | refine A0.cons (Pk.there Pk.here) ?_ | refine A0.cons (Pk.there (Pk.there Pk.here)) ?_ | apply A0.drop)) ?_
 (exact ⟨pc, by omega, by omega, rfl, _, _, rfl, hN, by first | exact O8 (by first | assumption | decide) | exact A0I (by decide) (by assumption) (by assumption) (by assumption) | exact T3 (by decide) (by assumption) (by assumption) | exact M2 (by decide) R1 (by assumption) | exact M2 (by decide) har.small (by assumption) | exact M2 (by decide) R1 (T3 (by decide) (by assumption) (O8 (by decide))) | exact M2 (by decide) A0J (O8 (by decide)) | assumption, by simp only [D2, E0]; omega⟩)
 refine D8 ?_
 (refine M5 (D4 rfl rfl rfl (by omega) (by unfold maxLen; omega) rfl) rfl ?_; rintro _ ⟨b702, rfl⟩)
 (refine V8 (by repeat (first | exact Pk.here | apply Pk.there)) (fun G4 hle4 hsl4 _ => ?_); refine I0 rfl (A0e G4 br pb nb cb (p5 + 1) bs _ _ _ _ (hb.mono hle4) hnb (by omega) hsl4 (by decide)) (Pk.perm (by repeat (first | exact Pk.here | apply Pk.there))) rfl rfl (fun v G7 outs hle7 hh => ?_); obtain ⟨rfl, rfl, hv⟩ := hh; obtain ⟨kn, rfl, hkn⟩ : ∃ k, v = .int .i64 k ∧ F8 k := (by simp only [List.mem_cons, List.not_mem_nil, or_false] at hv; rcases hv with rfl | rfl | rfl | rfl | rfl <;> exact ⟨_, rfl, by unfold F8; omega⟩))
 refine I3 rfl ((A2e _ _)) rfl rfl ?_
 refine B3 ?_
 refine H5 (outs := [rd br pb nb cb (p5 + 1 + 1)]) (rC rfl (A4 rfl rfl)) (by repeat (first | exact A0.nil | refine A0.cons Pk.here ?_ | refine A0.cons (Pk.there Pk.here) ?_ | refine A0.cons (Pk.there (Pk.there Pk.here)) ?_ | apply A0.drop)) ?_
 (exact ⟨(p5 + 1 + 1), by omega, by omega, rfl, _, _, rfl, A2s _ _ _ ⟨by omega, by omega⟩ (by first | exact ⟨by omega, by omega⟩ | exact hkn), by first | exact O8 (by first | assumption | decide) | exact A0I (by decide) (by assumption) (by assumption) (by assumption) | exact T3 (by decide) (by assumption) (by assumption) | exact M2 (by decide) R1 (by assumption) | exact M2 (by decide) har.small (by assumption) | exact M2 (by decide) R1 (T3 (by decide) (by assumption) (O8 (by decide))) | exact M2 (by decide) A0J (O8 (by decide)) | assumption, by simp only [D2, E0]; omega⟩)
 refine J6 ?_
 (refine M5 (D4 rfl rfl rfl (by omega) (by unfold maxLen; omega) rfl) rfl ?_; rintro _ ⟨b724, rfl⟩)
 (refine V8 (by repeat (first | exact Pk.here | apply Pk.there)) (fun G4 hle4 hsl4 _ => ?_); refine I0 rfl (A0e G4 br pb nb cb p5 bs _ _ _ _ (hb.mono hle4) hnb (by omega) hsl4 (by decide)) (Pk.perm (by repeat (first | exact Pk.here | apply Pk.there))) rfl rfl (fun v G7 outs hle7 hh => ?_); obtain ⟨rfl, rfl, hv⟩ := hh; obtain ⟨kn, rfl, hkn⟩ : ∃ k, v = .int .i64 k ∧ F8 k := (by simp only [List.mem_cons, List.not_mem_nil, or_false] at hv; rcases hv with rfl | rfl | rfl | rfl | rfl <;> exact ⟨_, rfl, by unfold F8; omega⟩))
 refine I3 rfl ((A2e _ _)) rfl rfl ?_
 refine B3 ?_
 refine H5 (outs := [rd br pb nb cb (p5 + 1)]) (rC rfl (A4 rfl rfl)) (by repeat (first | exact A0.nil | refine A0.cons Pk.here ?_ | refine A0.cons (Pk.there Pk.here) ?_ | refine A0.cons (Pk.there (Pk.there Pk.here)) ?_ | apply A0.drop)) ?_
 (exact ⟨(p5 + 1), by omega, by omega, rfl, _, _, rfl, A2s _ _ _ ⟨by omega, by omega⟩ (by first | exact ⟨by omega, by omega⟩ | exact hkn), by first | exact O8 (by first | assumption | decide) | exact A0I (by decide) (by assumption) (by assumption) (by assumption) | exact T3 (by decide) (by assumption) (by assumption) | exact M2 (by decide) R1 (by assumption) | exact M2 (by decide) har.small (by assumption) | exact M2 (by decide) R1 (T3 (by decide) (by assumption) (O8 (by decide))) | exact M2 (by decide) A0J (O8 (by decide)) | assumption, by simp only [D2, E0]; omega⟩)
def Q8 (o : Option Ty) (G : IM) : IM → Value → List A5 → Prop := M9 fun G' v => ∃ t cells, v = .tuple ⟨[.agg ⟨cells⟩, .bool o.isSome]⟩ ∧ C3 G' t cells ∧ F4 t ∧ ∀ u, o = some u → u = t
theorem Q8.yes {G G' : IM} {o : Option Ty} {t : Ty} {cells : List Value} (h : o = some t) (hr : C3 G' t cells) (ha : F4 t) : Q8 o G G' (.tuple ⟨[.agg ⟨cells⟩, .bool true]⟩) [] := by
 subst h; exact ⟨rfl, t, cells, rfl, hr, ha, fun u h => (by cases h; rfl)⟩
theorem Q8.no {G G' : IM} {o : Option Ty} {t : Ty} {cells : List Value} (h : o = none) (hr : C3 G' t cells) (ha : F4 t) : Q8 o G G' (.tuple ⟨[.agg ⟨cells⟩, .bool false]⟩) [] := by
 subst h; exact ⟨rfl, t, cells, rfl, hr, ha, fun u h => (by cases h)⟩
theorem Q8.mk {G G' : IM} {o : Option Ty} {b : Bool} {t : Ty} {cells : List Value} (h : o = if b = true then some t else none) (hr : C3 G' t cells) (ha : F4 t) : Q8 o G G' (.tuple ⟨[.agg ⟨cells⟩, .bool b]⟩) [] := by
 cases b
 ·exact Q8.no h hr ha
 ·exact Q8.yes h hr ha
theorem B6V {t : Ty} (h : H1 t = true) : F4 t := (A5d h).1
theorem A5L (k : Int) (a b : Ty) (G : IM) (ca cb : List Value) (hk : k = 4 ∨ k = 5) (ha : F4 a) (hb : F4 b) (hra : C3 G a ca) (hrb : C3 G b cb) :
  Fn Tryz.prog 198 [.int .i64 k, .agg ⟨ca⟩, .agg ⟨cb⟩] [] G (M9 fun G' v => ∃ cells, v = .tuple ⟨[.agg ⟨cells⟩, .bool (H1 (.mk k [a, b]))]⟩ ∧ C3 G' (.mk k [a, b]) cells) := by
 obtain ⟨ak, aks⟩ := a
 obtain ⟨bk, bks⟩ := b
 obtain ⟨pa, cca, ea, rfl, _⟩ := hra.open
 obtain ⟨pb, ccb, eb, rfl, _⟩ := hrb.open
 have hki : F8 k := ⟨by omega, by omega⟩
 refine B7 Tryz.func198 rfl Tryz.ntmps198 Tryz.results198 rfl ?_
 intro w0
 refine A1 ?_
 refine sE (C7 rfl rfl) rfl (fun b3 => ?_)
 refine sE (C7 rfl rfl) rfl (fun b4 => ?_)
 refine sE (B0 rfl) rfl (fun b5 => ?_)
 refine B3 ?_
 refine E3 E4 rfl ?_
 refine J5 (i := 0) (l' := [tt,ff,ff,ff,ff,ff,ff,ff,ff]) rfl D7 (qM rfl) rfl (by kernel_rfl) rfl rfl ?_
 refine aL 1 rfl (A4 rfl rfl) rfl ?_
 refine aL 3 rfl (A4 rfl rfl) rfl ?_
 refine U6 (j := 2) (j' := 7) (by kernel_rfl) ?_ ?_
 (refine K4 rfl rfl (W7 _ G _ ha.small hra) rfl rfl rfl (fun v G1 hle1 hh => ?_); obtain ⟨T8, F1, rfl, hs1, hn1⟩ := hh; obtain ⟨p1, c1, rfl, _⟩ := hs1.open; have hC2 := W7 _ G1 _ hb.small (hrb.mono hle1))
 refine U6 (j := 4) (j' := 7) (by kernel_rfl) ?_ ?_
 (refine K4 rfl rfl hC2 rfl rfl rfl (fun v G2 hle2 hh => ?_); obtain ⟨cs2, F2, rfl, hs2, hn2⟩ := hh; obtain ⟨p2, c2, rfl, _⟩ := hs2.open; have hr1 := hs1.R.mono ((C8.le G1 G).trans hle2); have hr2 := hs2.R.mono (C8.le G2 G1))
 refine U6 (j := 5) (j' := 7) (by kernel_rfl) ?_ ?_
 (refine E6 rfl (D4 rfl rfl rfl (by omega) (by unfold maxLen; omega) rfl) rfl rfl ?_; rintro _ ⟨b19, rfl⟩)
 refine aP 6 rfl (pBd rfl rfl) rfl ?_
 refine A3 7 ?_
 (refine E6 rfl (B0 rfl) rfl rfl ?_; rintro _ ⟨b22, rfl⟩)
 refine A3 8 ?_
 refine I9 rfl ?_
 refine B6 ?_
 (have hr1' := hr1; refine A1Q (by repeat (first | exact Pk.here | apply Pk.there)) (fun G5 hle5 hsl5 hno5 => ?_); have hRT : C3 G5 (.mk k [.mk ak aks, .mk bk bks]) _ := H0.ty (ts := [.mk ak aks, .mk bk bks]) (es := [[.int .i64 ak, .slice p1 aks.length c1], [.int .i64 bk, .slice p2 bks.length c2]]) ⟨_, _, rfl, hr1.mono hle5, _, _, rfl, hr2.mono hle5, rfl⟩ rfl hsl5 hki; have hV := A2c _ G5 _ hRT; refine E3 E4 rfl ?_)
 refine Q9 (i := 0) (l' := [tt,ff,ff,ff,ff]) rfl D7 (A4 rfl rfl) rfl (by kernel_rfl) rfl rfl ?_
 refine aL 1 rfl (A4 rfl rfl) rfl ?_
 refine A3 2 ?_
 refine P4 rfl rfl (hV) rfl rfl rfl ?_
 refine A3 3 ?_
 refine I9 rfl ?_
 refine aP 4 rfl (qA rfl) rfl ?_
 refine B6 ?_
 refine I8 (rC rfl (A4 rfl rfl)) (rT rfl) ?_
 (exact ⟨rfl, _, rfl, hRT⟩)
 (refine E6 rfl (B0 rfl) rfl rfl ?_; rintro _ ⟨b41, rfl⟩)
 refine A3 5 ?_
 (refine E6 rfl (D4 rfl rfl rfl (by omega) (by unfold maxLen; omega) rfl) rfl rfl ?_; rintro _ ⟨b43, rfl⟩)
 refine aP 6 rfl (pBd rfl rfl) rfl ?_
 refine A3 8 ?_
 refine I9 rfl ?_
 refine B6 ?_
 (have hr1' := hr1; refine A1Q (by repeat (first | exact Pk.here | apply Pk.there)) (fun G5 hle5 hsl5 hno5 => ?_); have hRT : C3 G5 (.mk k [.mk ak aks, .mk bk bks]) _ := H0.ty (ts := [.mk ak aks, .mk bk bks]) (es := [[.int .i64 ak, .slice p1 aks.length c1], [.int .i64 bk, .slice p2 bks.length c2]]) ⟨_, _, rfl, hr1.mono hle5, _, _, rfl, hr2.mono hle5, rfl⟩ rfl hsl5 hki; have hV := A2c _ G5 _ hRT; refine E3 E4 rfl ?_)
 refine Q9 (i := 0) (l' := [tt,ff,ff,ff,ff]) rfl D7 (A4 rfl rfl) rfl (by kernel_rfl) rfl rfl ?_
 refine aL 1 rfl (A4 rfl rfl) rfl ?_
 refine A3 2 ?_
 refine P4 rfl rfl (hV) rfl rfl rfl ?_
 refine A3 3 ?_
 refine I9 rfl ?_
 refine aP 4 rfl (qA rfl) rfl ?_
 refine B6 ?_
 refine I8 (rC rfl (A4 rfl rfl)) (rT rfl) ?_
 (exact ⟨rfl, _, rfl, hRT⟩)
 (refine E6 rfl (B0 rfl) rfl rfl ?_; rintro _ ⟨b63, rfl⟩)
 refine A3 4 ?_
 (refine K4 rfl rfl hC2 rfl rfl rfl (fun v G2 hle2 hh => ?_); obtain ⟨cs2, F2, rfl, hs2, hn2⟩ := hh; obtain ⟨p2, c2, rfl, _⟩ := hs2.open; have hr1 := hs1.R.mono ((C8.le G1 G).trans hle2); have hr2 := hs2.R.mono (C8.le G2 G1))
 refine A3 5 ?_
 (refine E6 rfl (D4 rfl rfl rfl (by omega) (by unfold maxLen; omega) rfl) rfl rfl ?_; rintro _ ⟨b67, rfl⟩)
 refine aP 6 rfl (pBd rfl rfl) rfl ?_
 refine A3 8 ?_
 refine I9 rfl ?_
 refine B6 ?_
 (have hr1' := hr1; refine A1Q (by repeat (first | exact Pk.here | apply Pk.there)) (fun G5 hle5 hsl5 hno5 => ?_); have hRT : C3 G5 (.mk k [.mk ak aks, .mk bk bks]) _ := H0.ty (ts := [.mk ak aks, .mk bk bks]) (es := [[.int .i64 ak, .slice p1 aks.length c1], [.int .i64 bk, .slice p2 bks.length c2]]) ⟨_, _, rfl, hr1.mono hle5, _, _, rfl, hr2.mono hle5, rfl⟩ rfl hsl5 hki; have hV := A2c _ G5 _ hRT; refine E3 E4 rfl ?_)
 refine Q9 (i := 0) (l' := [tt,ff,ff,ff,ff]) rfl D7 (A4 rfl rfl) rfl (by kernel_rfl) rfl rfl ?_
 refine aL 1 rfl (A4 rfl rfl) rfl ?_
 refine A3 2 ?_
 refine P4 rfl rfl (hV) rfl rfl rfl ?_
 refine A3 3 ?_
 refine I9 rfl ?_
 refine aP 4 rfl (qA rfl) rfl ?_
 refine B6 ?_
 refine I8 (rC rfl (A4 rfl rfl)) (rT rfl) ?_
 (exact ⟨rfl, _, rfl, hRT⟩)
 (refine E6 rfl (B0 rfl) rfl rfl ?_; rintro _ ⟨b87, rfl⟩)
 refine A3 2 ?_
 (refine K4 rfl rfl (W7 _ G _ ha.small hra) rfl rfl rfl (fun v G1 hle1 hh => ?_); obtain ⟨T8, F1, rfl, hs1, hn1⟩ := hh; obtain ⟨p1, c1, rfl, _⟩ := hs1.open; have hC2 := W7 _ G1 _ hb.small (hrb.mono hle1))
 refine A3 4 ?_
 (refine K4 rfl rfl hC2 rfl rfl rfl (fun v G2 hle2 hh => ?_); obtain ⟨cs2, F2, rfl, hs2, hn2⟩ := hh; obtain ⟨p2, c2, rfl, _⟩ := hs2.open; have hr1 := hs1.R.mono ((C8.le G1 G).trans hle2); have hr2 := hs2.R.mono (C8.le G2 G1))
 refine A3 5 ?_
 (refine E6 rfl (D4 rfl rfl rfl (by omega) (by unfold maxLen; omega) rfl) rfl rfl ?_; rintro _ ⟨b93, rfl⟩)
 refine aP 6 rfl (pBd rfl rfl) rfl ?_
 refine A3 8 ?_
 refine I9 rfl ?_
 refine B6 ?_
 (have hr1' := hr1; refine A1Q (by repeat (first | exact Pk.here | apply Pk.there)) (fun G5 hle5 hsl5 hno5 => ?_); have hRT : C3 G5 (.mk k [.mk ak aks, .mk bk bks]) _ := H0.ty (ts := [.mk ak aks, .mk bk bks]) (es := [[.int .i64 ak, .slice p1 aks.length c1], [.int .i64 bk, .slice p2 bks.length c2]]) ⟨_, _, rfl, hr1.mono hle5, _, _, rfl, hr2.mono hle5, rfl⟩ rfl hsl5 hki; have hV := A2c _ G5 _ hRT; refine E3 E4 rfl ?_)
 refine Q9 (i := 0) (l' := [tt,ff,ff,ff,ff]) rfl D7 (A4 rfl rfl) rfl (by kernel_rfl) rfl rfl ?_
 refine aL 1 rfl (A4 rfl rfl) rfl ?_
 refine A3 2 ?_
 refine P4 rfl rfl (hV) rfl rfl rfl ?_
 refine A3 3 ?_
 refine I9 rfl ?_
 refine aP 4 rfl (qA rfl) rfl ?_
 refine B6 ?_
 refine I8 (rC rfl (A4 rfl rfl)) (rT rfl) ?_
 (exact ⟨rfl, _, rfl, hRT⟩)
theorem A7I (k : Int) (t : Ty) (G : IM) (cells : List Value) (hk : k = 4 ∨ k = 5) (ha : F4 t) (hr : C3 G t cells) :
  Fn Tryz.prog 239 [.int .i64 k, .agg ⟨cells⟩] [] G (A9Q k t G) := by
 obtain ⟨tk, ks⟩ := t
 have ha2 := ha
 rw [F4] at ha2
 have hkid := ha.kid
 obtain ⟨p, c, es, rfl, htk, hsl, hkl⟩ := hr.open
 simp only [Ty.k, Ty.ks] at htk hsl hkl ⊢
 refine B7 Tryz.func239 rfl Tryz.ntmps239 Tryz.results239 rfl ?_
 intro w0
 refine A1 ?_
 refine sE (C7 rfl rfl) rfl (fun b3 => ?_)
 refine sE (B0 rfl) rfl (fun b4 => ?_)
 refine sE (B0 rfl) rfl (fun b5 => ?_)
 refine D0 ?_
 refine sB (qE rfl rfl) rfl rfl (fun h14 => ?_) (fun h14 => ?_)
 refine B1 ?_
 refine I3 rfl ((A1v _)) rfl rfl ?_
 refine I3 rfl ((A1v _)) rfl rfl ?_
 refine B4 ?_
 refine D1 (rC rfl (A4 rfl rfl)) (rC rfl (A4 rfl rfl)) (rT rfl) ?_
 (refine ⟨rfl, _, _, _, _, ?_, A0N _, A0N _, A3Y, A3Y, ?_⟩ <;> rw [A1h, if_neg (by omega), if_pos (by omega)] <;> first | rfl | (intro p hp; cases hp; rfl))
 refine J4 ?_
 refine sB (N7 rfl rfl) rfl rfl (fun h42 => ?_) (fun h42 => ?_)
 refine K2 ?_
 refine D1 (rC rfl (A4 rfl rfl)) (rC rfl (A4 rfl rfl)) (rT rfl) ?_
 (refine ⟨rfl, A6, _, A6, _, ?_, O2 _ ⟨by omega, by omega⟩, O2 _ ⟨by omega, by omega⟩, U3 (by omega) (by omega), U3 (by omega) (by omega), ?_⟩ <;> rw [A1h, if_neg (by omega), if_neg (by omega)] <;> first | rfl | (intro p hp; cases hp))
 refine A7 ?_
 (have hlen : ks.length = 2 := ha2.1 (by omega); obtain ⟨b, o, q0, d0, hp0, hat0, hre0, hg0⟩ := hsl.kidTy hkl (i := 0) (by omega) (by omega); obtain ⟨b', o', q1, d1, hp1, hat1, hre1, hg1⟩ := hsl.kidTy hkl (i := 1) (by omega) (by omega); subst hp0; cases hp1; have hC1 := W7 _ G _ (hkid _ (List.getElem_mem (by omega))).small hre0; refine E3 E4 rfl ?_)
 refine J5 (i := 0) (l' := [tt,ff,ff,ff,ff,ff,ff,ff,ff,ff,ff,ff,ff]) rfl D7 (B9 rfl) rfl (by kernel_rfl) rfl rfl ?_
 refine aL 1 rfl (D3 rfl rfl) rfl ?_
 refine aP 2 rfl (B8 (j := 0) rfl rfl rfl (by omega)) rfl ?_
 refine aL 3 rfl (A2 rfl rfl (hat0 _) rfl) rfl ?_
 refine aP 5 rfl (B9 rfl) rfl ?_
 refine aL 6 rfl (D3 rfl rfl) rfl ?_
 refine aP 7 rfl (B8 (j := 1) rfl rfl rfl (by omega)) rfl ?_
 refine aL 8 rfl (A2 rfl rfl (hat1 _) rfl) rfl ?_
 refine A3 4 ?_
 (refine K4 rfl rfl hC1 rfl rfl rfl (fun v G1 hle1 hh => ?_); obtain ⟨T8, F1, rfl, hs1, hn1⟩ := hh; obtain ⟨p1, c1, rfl, _⟩ := hs1.open; have hC2 := W7 _ G1 _ (hkid _ (List.getElem_mem (by omega))).small (hre1.mono hle1))
 refine A3 9 ?_
 (refine K4 rfl rfl hC2 rfl rfl rfl (fun v G2 hle2 hh => ?_); obtain ⟨cs2, F2, rfl, hs2, hn2⟩ := hh; obtain ⟨p2, c2, rfl, _⟩ := hs2.open; have hr1 := hs1.R.mono ((C8.le G1 G).trans hle2); have hr2 := hs2.R.mono (C8.le G2 G1))
 refine A3 10 ?_
 refine I9 rfl ?_
 refine A3 11 ?_
 refine R2 rfl rfl rfl rfl rfl rfl rfl rfl (by decide +kernel) (by repeat first | exact Sw.here | apply Sw.there) (by rfl) ?_
 refine aP 12 rfl (qA rfl) rfl ?_
 refine B6 ?_
 refine D1 (rC rfl (A4 rfl rfl)) (rC rfl (A4 rfl rfl)) (rT rfl) ?_
 (refine ⟨rfl, _, _, _, _, ?_, hr1, hr2, hkid _ (List.getElem_mem (by omega)), hkid _ (List.getElem_mem (by omega)), ?_⟩ <;> rw [A1h, if_pos (by omega)] <;> first | rfl | (intro p hp; cases hp; simp [hlen]))
theorem B6W (G : IM) (cx : Cx) (hv : cxV cx) (p : Option Addr) (n c : Nat) (nm : ByteArray) (hx : U4 G cx p n c) :
  Fn Tryz.prog 177 [.slice p n c, .string nm] [] G (Q8 (P7 cx nm) G) := by
 have hn := hx.le
 refine B7 Tryz.func177 rfl Tryz.ntmps177 Tryz.results177 rfl ?_
 intro w0
 refine A1 ?_
 refine sE (B0 rfl) rfl (fun b3 => ?_)
 refine D0 ?_
 refine sP (Q5 rfl rfl (by omega) (by omega)) rfl rfl ?_
 refine B6 ?_
 refine C0 ?_
 (refine L9 (fun (i : Nat) => ⟨[(6, .int .i64 ((i : Int) - 1)), (0, .slice p n c), (1, .string nm), (4, .pointer (some ⟨b3, 0, none⟩))], [.blk b3 [.int .i64 0, .slice none 0 0]], G⟩) (fun i => i ≤ n ∧ P7 cx nm = W2 cx nm i) (fun i => i) n ?_ ?_ ?_)
 exact D5
 (exact ⟨Nat.le_refl _, by unfold P7; rw [hx.1]⟩)
 (rintro i ⟨hi, hlk⟩)
 refine B3 ?_
 refine sB (A06 rfl rfl) rfl rfl (fun h25 => ?_) (fun h25 => ?_)
 refine A7 ?_
 (show J3 _ _ (.block 1 _) _ _; obtain ⟨j, rfl⟩ : ∃ j, i = j + 1 := ⟨i - 1, by omega⟩; rw [show ((j + 1 : Nat) : Int) - 1 = (j : Int) from by omega]; obtain ⟨b, o, nm1, t1, q1, d1, hcx, rfl, hat, hr1, hgb⟩ := hx.get (i := j) (by omega); have ha1 := B6V (hv _ (List.mem_of_getElem? hcx)); refine C0 ?_)
 refine B3 ?_
 refine sP (B8 rfl rfl rfl (by omega)) rfl rfl ?_
 refine E8 ?_
 refine sL (A0u rfl rfl ((hat _).sub (j := 0) rfl)) rfl rfl ?_
 refine E8 ?_
 refine sB (A1p rfl rfl) rfl rfl (fun h41 => ?_) (fun h41 => ?_)
 refine B4 ?_
 refine sP (B8 rfl rfl rfl (by omega)) rfl rfl ?_
 refine E8 ?_
 refine sL (A2 rfl rfl (hat _).drop rfl) rfl rfl ?_
 (refine E7 rfl (W7 _ G _ ha1.small hr1) rfl rfl (fun v G1 hle1 hh => ?_); obtain ⟨T8, F1, rfl, hs1', hn1⟩ := hh; obtain ⟨p1, c1, rfl, _⟩ := hs1'.open; have hrr := hs1'.R.mono (C8.le G1 G))
 refine J2 ?_
 refine I8 (rC rfl (A4 rfl rfl)) (rT rfl) ?_
 (exact Q8.yes (by rw [hlk]; exact A32 hcx (by assumption)) hrr ha1)
 refine D0 ?_
 refine sP (Q5 rfl rfl (by omega) (by omega)) rfl rfl ?_
 refine A1 ?_
 refine L0 j ?_ ?_ ?_
 exact D5
 (exact ⟨by omega, by rw [hlk]; exact A33 hcx (by assumption)⟩)
 (show _ < _ + 1; omega)
 refine J7 ?_
 refine I8 (rC rfl (A4 rfl rfl)) (rT rfl) ?_
 (obtain rfl : i = 0 := (by omega); exact Q8.no (by rw [hlk]; rfl) (O2 _ ⟨by omega, by omega⟩) (U3 (by omega) (by omega)))
end Gw
end Go.Proofs.YtfpgncjeejickaaGreatDoor
