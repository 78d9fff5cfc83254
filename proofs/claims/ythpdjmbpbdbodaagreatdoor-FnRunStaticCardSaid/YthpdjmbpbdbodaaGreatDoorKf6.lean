/-
  The program's insertion of casts. ReplaceAt: the program's and the reference model's. Nodes at paths, in plain words: paths concatenate. Replacing a node, in plain words: what is put is found, and putting back undoes. A closed term's type is its type everywhere; a node replaced by one of its type leaves the type. Terms with casts: what a type says of a node. Types are kept by steps; a closed term with a type does not get stuck, and what is blamed is a label of its casts. A term with its casts put in is valid, and has the type that the term has. CastTypeOf. The program's InsertCasts, TypeOf. The reference's typing, exactly: types of terms.
-/
import Derived.Test.YthpdjmbpbdbodaaGreatDoorKf5
import Derived.Test.YthpdjmbpbdbodaaGreatDoorKf4
import Derived.Test.YthpdjmbpbdbodaaGreatDoorKf2
import Derived.Test.YthpdjmbpbdbodaaGreatDoorKf1
set_option linter.unusedVariables false
set_option linter.unusedSimpArgs false
set_option maxHeartbeats 0
set_option maxRecDepth 100000
set_option synthInstance.maxSize 4000
set_option synthInstance.maxHeartbeats 0
namespace Go.Proofs.YthpdjmbpbdbodaaGreatDoor
open Go Go.RowKit
namespace Gw
def ElP (bx : Nat) (cx : Cx) (e : Tm) (l : Int) : IM → Value → List A6 → Prop := fun G' v outs => ∃ u cu t ct l', v = .tuple ⟨[.agg ⟨cu⟩, .agg ⟨ct⟩, .bool (M8 cx e l).isSome]⟩ ∧ outs = [.blk bx [.int .i64 l']] ∧ B0 G' u cu ∧ B7 G' t ct ∧ l ≤ l' ∧ l' + 1 ≤ l + (D1 e : Int) ∧ ∀ r, M8 cx e l = some r → r = (u, t, l')
theorem ElP.no {G : IM} {bx : Nat} {cx : Cx} {e : Tm} {l l' : Int} {u : Tm} {t : Ty} {cu ct : List Value} (h : M8 cx e l = none) (hu : B0 G u cu) (ht : B7 G t ct) (h1 : l ≤ l') (h2 : l' + 1 ≤ l + (D1 e : Int)) : ElP bx cx e l G (.tuple ⟨[.agg ⟨cu⟩, .agg ⟨ct⟩, .bool false]⟩) [.blk bx [.int .i64 l']] :=
 ⟨u, cu, t, ct, l', by rw [h]; rfl, rfl, hu, ht, h1, h2, fun r hr => by rw [h] at hr; cases hr⟩
theorem ElP.yes {G : IM} {bx : Nat} {cx : Cx} {e : Tm} {l l' : Int} {u : Tm} {t : Ty} {cu ct : List Value} (h : M8 cx e l = some (u, t, l')) (hu : B0 G u cu) (ht : B7 G t ct) (h1 : l ≤ l') (h2 : l' + 1 ≤ l + (D1 e : Int)) : ElP bx cx e l G (.tuple ⟨[.agg ⟨cu⟩, .agg ⟨ct⟩, .bool true]⟩) [.blk bx [.int .i64 l']] :=
 ⟨u, cu, t, ct, l', by rw [h]; rfl, rfl, hu, ht, h1, h2, fun r hr => by rw [h] at hr; cases hr; rfl⟩
section
variable {cx : Cx} {k : Int} {nm : ByteArray} {num : Int} {ty fr : Ty} {lb : Int} {ks us : List Tm} {h : List Ty} {l l' : Int}
theorem B2K (hL : M2 (J2 cx k nm ty) ks l = none) : M8 cx (.mk k nm num ty fr lb ks) l = none := by rw [M8, hL]
theorem A5U (hL : M2 (J2 cx k nm ty) ks l = some (us, h, l')) (hn : S1 cx k nm ty h = none) : M8 cx (.mk k nm num ty fr lb ks) l = none := by rw [M8, hL]; simp only [A0V, hn]
theorem B2L {w : List Ty} {t : Ty} (hL : M2 (J2 cx k nm ty) ks l = some (us, h, l')) (hn : S1 cx k nm ty h = some (w, t)) (hk : k = 13) : M8 cx (.mk k nm num ty fr lb ks) l = some ((F4 us h w l').1.getD 0 J6, t, (F4 us h w l').2) := by
 rw [M8, hL]; simp only [A0V, hn, if_pos hk]
theorem A8p {w : List Ty} {t : Ty} (hL : M2 (J2 cx k nm ty) ks l = some (us, h, l')) (hn : S1 cx k nm ty h = some (w, t)) (hk : k ≠ 13) : M8 cx (.mk k nm num ty fr lb ks) l = some (.mk k nm num ty fr lb (F4 us h w l').1, t, (F4 us h w l').2) := by
 rw [M8, hL]; simp only [A0V, hn, if_neg hk]
end
theorem A2h {t : Ty} (h : E4 t = true) : E2 t := (A2D h).1
theorem A8q {us : List Tm} (h : 0 < us.length) : us.getD 0 J6 = us[0] := by rw [List.getD_eq_getElem?_getD, List.getElem?_eq_getElem h, Option.getD_some]
theorem B2M (bx : Nat) : ∀ (e : Tm) (d : Int) (cx : Cx) (l0 : Int) (G : IM) (pc : Option Addr) (nc cc : Nat) (cells : List Value), N5 12 14 e d = true → (nc : Int) ≤ d → V0 cx → R3 G cx pc nc cc → B0 G e cells → 0 ≤ l0 → l0 + (D1 e : Int) ≤ 1000000000 →
  Fn Tryz.prog 83 [.pointer (some ⟨bx, 0, none⟩), .slice pc nc cc, .agg ⟨cells⟩] [.blk bx [.int .i64 l0]] G (ElP bx cx e l0) := by
 refine Tm.ind fun k nm num ty fr lb ks ih d cx l0 G pc nc cc cells hv hnd hcv hx hr hl0 hlc => ?_
 have hr0 := hr
 have hone := hr.one
 obtain ⟨hv1, hv2, hv3, hv4⟩ := A0z hv
 have hvk := (A0T 12 14 ks _).1 hv4
 have har := (U0.1 hv3).1
 have hop := A2C har
 obtain ⟨hta, hts⟩ := A2E hv3
 have hkr : 1 ≤ k ∧ k ≤ 14 := A3B (by rw [har]; omega)
 have hcvX : V0 (J2 cx k nm ty) := A2G hcv fun hk => (U0.1 hv3).2.2.2.2.2.1 (.inl hk)
 have hck : D1 (.mk k nm num ty fr lb ks) = E1 ks + 1 := W6 ..
 rw [hck] at hlc
 obtain ⟨tk, tks⟩ := ty
 obtain ⟨fk, fks⟩ := fr
 obtain ⟨pt, ct, pf, cf, q, cq, es, rfl, hk, hnum, hlb, hty, hfr, hsl, hkl⟩ := hr.open9
 have hlen : ks.length ≤ 3 := by have := A06 k; omega
 obtain ⟨hx1, esx, hx2, hx3⟩ := id hx
 have hcl := B11 G pc nc cc esx hx2 (by omega)
 have hcnt0 := A46 ks
 refine C0 Tryz.func83 rfl Tryz.ntmps83 Tryz.results83 rfl ?_
 intro w0
 refine tS (tR ?_)
 refine sE (C5 rfl rfl) rfl (fun b3 => ?_)
 refine sE (A7 rfl) rfl (fun b4 => ?_)
 refine sE (A7 rfl) rfl (fun b5 => ?_)
 refine sQ (qA rfl) rfl (sD (nS (tS (tR (sQ (qM rfl) rfl (sQ (qA rfl) rfl (sD (nS (tS ?_)))))))))
 (show H9 _ _ (.seq (.region 2 _ _) (.cond (.tmp 25) _ _)) _ _; refine Y4 (fun (x : Option Addr × Nat × Nat × IM) => ⟨[(9, .slice x.1 x.2.1 x.2.2.1), (1, .slice pc nc cc), (0, .pointer (some ⟨bx, 0, none⟩)), (5, .pointer (some ⟨b3, 0, none⟩)), (6, .pointer (some ⟨b4, 0, none⟩)), (7, .pointer (some ⟨b5, 0, none⟩))], [.blk b5 [.int .i64 0, .slice none 0 0], .blk b4 [.int .i64 0, .string ⟨⟨[]⟩⟩, .int .i64 0, .int .i64 0, .slice none 0 0, .int .i64 0, .slice none 0 0, .int .i64 0, .slice none 0 0], .blk b3 [.int .i64 k, .string nm, .int .i64 num, .int .i64 tk, .slice pt tks.length ct, .int .i64 fk, .slice pf fks.length cf, .int .i64 lb, .slice q ks.length cq], .blk bx [.int .i64 l0]], x.2.2.2⟩) (fun x => B8 G x.2.2.2 ∧ R3 x.2.2.2 (J2 cx k nm (.mk tk tks)) x.1 x.2.1 x.2.2.1 ∧ x.2.1 ≤ nc + 1) ?_ ?_)
 ·refine tS (tR (sQ (A0 rfl) rfl (sL (A3 rfl rfl) rfl rfl ?_)))
  refine sB (qE rfl rfl) rfl rfl (fun h21 => ?_) (fun h21 => ?_)
  ·refine sD (nS (qT rfl ?_))
   refine D4 D6 rfl ?_
   refine I6 (i := 0) (l' := [tt,ff,ff,ff,ff,ff,ff,ff,ff,ff]) rfl C9 (qM rfl) rfl (by kernel_rfl) rfl rfl ?_
   refine aP 2 rfl (A0 rfl) rfl ?_
   refine aL 3 rfl (A3 rfl rfl) rfl ?_
   refine aP 4 rfl (A0 rfl) rfl ?_
   refine aL 5 rfl (A2 rfl rfl) rfl ?_
   refine aP 6 rfl (H6 rfl rfl) rfl ?_
   refine Q1 (j := 1) (j' := 7) (by kernel_rfl) ?_ ?_
   ·(refine A6F rfl rfl hcl rfl rfl rfl (fun v33 G33 outs33 hle33 h33 => ?_); obtain ⟨hG, p1, c1, rfl, rfl⟩ := h33; replace hG := hG.symm; subst hG)
    replace hr := hr.mono hle33
    replace hr0 := hr0.mono hle33
    replace hty := hty.mono hle33
    replace hfr := hfr.mono hle33
    replace hsl := hsl.mono hle33
    replace hkl := hkl.mono hle33
    replace hx2 := hx2.mono hle33
    refine A4 7 ?_
    (refine E0 rfl (C7 rfl rfl rfl (by omega) (by unfold maxLen; omega) rfl) rfl rfl ?_; rintro _ ⟨b35, rfl⟩)
    refine A4 8 ?_
    (refine Q2 rfl rfl rfl rfl rfl rfl (fun _ _ => by repeat (first | exact Sw.here | apply Sw.there)) (M9 (by repeat first | exact mH | apply mT)) rfl (by simp [Value.oneCell']) (by unfold maxLen; omega) (by omega) rfl rfl (by repeat (first | exact A8.nil | apply A8.dep (by decide +kernel) | apply A8.blk (by decide +kernel) (by repeat (first | exact Pk.here | apply Pk.there)) (by repeat first | exact mH | apply mT))) (fun p5 c5 => ?_); refine A3S (cs := esx.flatten ++ [.string nm, .int .i64 tk, .slice pt tks.length ct]) (by repeat (first | exact Pk.here | apply Pk.there)) (fun Gf hleF hslF hnoF => ?_); have hxF := R3.snoc (nm := nm) (t := .mk tk tks) hx1 hx2.len hx2.all hx2.one hx3 hleF ⟨_, _, rfl, hty.mono hleF⟩ hslF)
    refine aP 9 rfl (qA rfl) rfl ?_
    refine B5 ?_
    refine P1 (p5, nc + 1, c5, Gf) (K6 (by repeat (first | exact D8.nil | refine D8.cons rfl ?_)) (by repeat (first | exact A1.refl | exact A1.nil | refine A1.cons (by repeat (first | exact Pk.here | apply Pk.there)) ?_ | apply A1.drop))) ⟨hleF, by (dsimp only; rw [J2, if_pos (by omega)]; exact hxF), by (dsimp only; omega)⟩
   ·(refine E0 rfl (C7 rfl rfl rfl (by omega) (by unfold maxLen; omega) rfl) rfl rfl ?_; rintro _ ⟨b41, rfl⟩)
    refine A4 1 ?_
    (refine A6F rfl rfl hcl rfl rfl rfl (fun v43 G43 outs43 hle43 h43 => ?_); obtain ⟨hG, p1, c1, rfl, rfl⟩ := h43; replace hG := hG.symm; subst hG)
    replace hr := hr.mono hle43
    replace hr0 := hr0.mono hle43
    replace hty := hty.mono hle43
    replace hfr := hfr.mono hle43
    replace hsl := hsl.mono hle43
    replace hkl := hkl.mono hle43
    replace hx2 := hx2.mono hle43
    refine A4 8 ?_
    (refine Q2 rfl rfl rfl rfl rfl rfl (fun _ _ => by repeat (first | exact Sw.here | apply Sw.there)) (M9 (by repeat first | exact mH | apply mT)) rfl (by simp [Value.oneCell']) (by unfold maxLen; omega) (by omega) rfl rfl (by repeat (first | exact A8.nil | apply A8.dep (by decide +kernel) | apply A8.blk (by decide +kernel) (by repeat (first | exact Pk.here | apply Pk.there)) (by repeat first | exact mH | apply mT))) (fun p5 c5 => ?_); refine A3S (cs := esx.flatten ++ [.string nm, .int .i64 tk, .slice pt tks.length ct]) (by repeat (first | exact Pk.here | apply Pk.there)) (fun Gf hleF hslF hnoF => ?_); have hxF := R3.snoc (nm := nm) (t := .mk tk tks) hx1 hx2.len hx2.all hx2.one hx3 hleF ⟨_, _, rfl, hty.mono hleF⟩ hslF)
    refine aP 9 rfl (qA rfl) rfl ?_
    refine B5 ?_
    refine P1 (p5, nc + 1, c5, Gf) (K6 (by repeat (first | exact D8.nil | refine D8.cons rfl ?_)) (by repeat (first | exact A1.refl | exact A1.nil | refine A1.cons (by repeat (first | exact Pk.here | apply Pk.there)) ?_ | apply A1.drop))) ⟨hleF, by (dsimp only; rw [J2, if_pos (by omega)]; exact hxF), by (dsimp only; omega)⟩
  ·refine sD (nS (cF rfl (tK ?_)))
   refine P1 (pc, nc, cc, G) (K6 (by repeat (first | exact D8.nil | refine D8.cons rfl ?_)) (by repeat (first | exact A1.refl | exact A1.nil | refine A1.cons (by repeat (first | exact Pk.here | apply Pk.there)) ?_ | apply A1.drop))) ⟨B8.refl _, by (dsimp only; rw [J2, if_neg (by omega)]; exact hx), by (dsimp only; omega)⟩
 ·(rintro ⟨p6, n6, c6, Gx⟩ ⟨hleX, hxX, hn6⟩; simp only [] at hleX hxX hn6 ⊢; replace hsl := hsl.mono hleX; replace hkl := hkl.mono hleX; replace hx := hx.mono hleX; replace hr0 := hr0.mono hleX; replace hty := hty.mono hleX; replace hfr := hfr.mono hleX)
  refine tS (tR (sL (A2 rfl rfl) rfl rfl ?_))
  refine sE (A7 rfl) rfl (fun b58 => ?_)
  refine A0L ?_
  refine B9 ?_
  (refine S0 28 9 ?_; refine S0 25 2 ?_; refine J4 (fun (x : Nat × (Option Addr × Nat × List Tm × List (List Value)) × (Option Addr × Nat × List Ty × List (List Value)) × Int × IM) => ⟨[(40, .int .i64 x.1), (39, .int .i64 ks.length), (38, .slice q ks.length cq), (11, .slice x.2.2.1.1 x.1 x.2.2.1.2.1), (9, .slice p6 n6 c6), (1, .slice pc nc cc), (0, .pointer (some ⟨bx, 0, none⟩)), (5, .pointer (some ⟨b3, 0, none⟩)), (6, .pointer (some ⟨b4, 0, none⟩)), (7, .pointer (some ⟨b5, 0, none⟩)), (10, .pointer (some ⟨b58, 0, none⟩))], [.blk b58 [.int .i64 k, .string nm, .int .i64 num, .int .i64 tk, .slice pt tks.length ct, .int .i64 fk, .slice pf fks.length cf, .int .i64 lb, .slice x.2.1.1 x.1 x.2.1.2.1], .slc x.2.1.1 x.2.1.2.1 28 9 x.1 x.2.1.2.2.2.flatten, .slc x.2.2.1.1 x.2.2.1.2.1 25 2 x.1 x.2.2.1.2.2.2.flatten, .blk b5 [.int .i64 0, .slice none 0 0], .blk b4 [.int .i64 0, .string ⟨⟨[]⟩⟩, .int .i64 0, .int .i64 0, .slice none 0 0, .int .i64 0, .slice none 0 0, .int .i64 0, .slice none 0 0], .blk b3 [.int .i64 k, .string nm, .int .i64 num, .int .i64 tk, .slice pt tks.length ct, .int .i64 fk, .slice pf fks.length cf, .int .i64 lb, .slice q ks.length cq], .blk bx [.int .i64 x.2.2.2.1]], x.2.2.2.2⟩) (fun x => x.1 ≤ ks.length ∧ B8 Gx x.2.2.2.2 ∧ x.2.1.2.2.1.length = x.1 ∧ D3 x.2.2.2.2 x.2.1.2.2.1 x.2.1.2.2.2 ∧ x.2.2.1.2.2.1.length = x.1 ∧ C6 x.2.2.2.2 x.2.2.1.2.2.1 x.2.2.1.2.2.2 ∧ (∀ t ∈ x.2.2.1.2.2.1, E2 t) ∧ M2 (J2 cx k nm (.mk tk tks)) (ks.take x.1) l0 = some (x.2.1.2.2.1, x.2.2.1.2.2.1, x.2.2.2.1) ∧ l0 ≤ x.2.2.2.1 ∧ x.2.2.2.1 + x.1 ≤ l0 + (E1 (ks.take x.1) : Int)) (fun x => ks.length - x.1) (0, (none, 0, [], []), (none, 0, [], []), l0, Gx) ?_ ?_ ?_)
  ·(simp only [List.take_zero, A0q]; exact (K6 (by repeat (first | exact D8.nil | refine D8.cons rfl ?_)) (by repeat (first | exact A1.refl | exact A1.nil | refine A1.cons (by repeat (first | exact Pk.here | apply Pk.there)) ?_ | apply A1.drop))))
  ·(exact ⟨by simp, B8.refl _, rfl, by simp [D3], rfl, by simp [C6], by simp, by simp [M2], Int.le_refl _, by simp [E1]⟩)
  ·(rintro ⟨i, ⟨pn, cn, us, es'⟩, ⟨pm, cm, ts, ess⟩, l, Gi⟩ ⟨hi, hle, hlu, hst, hlt, hstt, hat, hml, hl1, hl2⟩; simp only [] at hi hle hlu hst hlt hstt hat hml hl1 hl2 ⊢; replace hty := hty.mono hle; replace hfr := hfr.mono hle; replace hsl := hsl.mono hle; replace hkl := hkl.mono hle; replace hr0 := hr0.mono hle; replace hx := hx.mono hle; replace hxX := hxX.mono hle)
   refine tS (tR ?_)
   refine sB (J1 rfl rfl) rfl rfl (fun h89 => ?_) (fun h89 => ?_)
   ·refine sD (nS (tS (qT rfl (tK (nS (tS ?_))))))
    refine B9 ?_
    refine tS (tR ?_)
    (obtain ⟨b, o, e, rfl, hl, hate, hre, hgb⟩ := hsl.kidTm hkl (i := i) (by omega) (by omega); have hon := hre.one; have hsc := A0Q (ks := ks) (i := i) (by omega); have hsk := A0P (ks := ks) (i := i) (by omega); refine sP (B3 rfl rfl rfl (by omega)) rfl rfl ?_)
    refine sL (A5 rfl rfl (hate _) hl) rfl rfl ?_
    refine sE (A7 rfl) rfl (fun b102 => ?_)
    refine sS rfl rfl rfl hl hon rfl ?_ (hu := by exact D5 hl.symm)
    refine sD (nS (tS (tR (sQ (qM rfl) rfl (sQ (qM rfl) rfl ?_)))))
    refine sL (A5 rfl rfl (B2 (by repeat first | exact mH | apply mT)) hl) rfl rfl ?_
    (refine I8 rfl (ih ks[i] (List.getElem_mem (by omega)) (d + 1) _ l Gi p6 n6 c6 _ (hvk i (by omega)) (by omega) hcvX hxX hre (by omega) (by omega)) (Pk.perm (by repeat (first | exact Pk.here | apply Pk.there))) rfl rfl (fun v G3 outs hle3 hh => ?_); obtain ⟨u, uc, t, tc, l3, rfl, rfl, hru, hrt, hl3, hl4, hu⟩ := hh; obtain ⟨v1, v2, v3, v4, v5, v6, v7, v8, v9, rfl⟩ := nine hru.len; obtain ⟨p3, c3, e3, rfl, _⟩ := hrt.open; have hlu9 := hru.len; have hou9 := hru.one; rcases hE : M8 (J2 cx k nm (Ty.mk tk tks)) ks[i] l with _ | ⟨u2, t2, l2⟩; rotate_left; have hue := hu _ hE; simp only [Prod.mk.injEq] at hue; obtain ⟨rfl, rfl, rfl⟩ := hue; rotate_left)
    ·refine sQ (qM rfl) rfl (sQ (pX rfl rfl) rfl (sQ (pX rfl rfl) rfl (sQ (pX rfl rfl) rfl ?_)))
     refine sE (A7 rfl) rfl (fun b116 => ?_)
     refine sE (A7 rfl) rfl (fun b117 => ?_)
     refine sS rfl rfl rfl hlu9 hou9 rfl ?_ (hu := by exact D5 hlu9.symm)
     refine A6E ?_
     refine A2g (outs := [.blk bx [.int .i64 _]]) (rC rfl (A2 rfl rfl)) (rC rfl (A2 rfl rfl)) (rT rfl) (A1.cons (by repeat (first | exact Pk.here | apply Pk.there)) A1.nil) ?_
     (exact ElP.no (B2K (A5J (by omega) hml hE)) (L3 _) (M1 _ ⟨by omega, by omega⟩) (by omega) (by rw [hck]; omega))
    ·refine sQ (qM rfl) rfl (sQ (pX rfl rfl) rfl (sQ (pX rfl rfl) rfl (sQ (pX rfl rfl) rfl ?_)))
     refine sE (A7 rfl) rfl (fun b153 => ?_)
     refine sE (A7 rfl) rfl (fun b154 => ?_)
     refine sS rfl rfl rfl hlu9 hou9 rfl ?_ (hu := by exact D5 hlu9.symm)
     refine B1 ?_
     refine sQ (qA rfl) rfl (sD (nS (tS (tS (tR (sQ (qM rfl) rfl (sQ (K4 rfl) rfl (sD (nS (cF rfl (tK (nS ?_))))))))))))
     refine D4 D6 rfl ?_
     refine I6 (i := 0) (l' := [tt,ff,ff,ff,ff,ff,ff,ff,ff,ff,ff,ff]) rfl C9 (A0 rfl) rfl (by kernel_rfl) rfl rfl ?_
     refine aL 1 rfl (A3 rfl rfl) rfl ?_
     refine aL 2 rfl (A2 rfl rfl) rfl ?_
     refine aP 5 rfl (qM rfl) rfl ?_
     refine aL 6 rfl (A2 rfl rfl) rfl ?_
     refine Q1 (j := 3) (j' := 7) (by kernel_rfl) ?_ ?_
     ·(refine E0 rfl (C7 rfl rfl rfl (by omega) (by unfold maxLen; omega) rfl) rfl rfl ?_; rintro _ ⟨b177, rfl⟩)
      refine Q1 (j := 4) (j' := 7) (by kernel_rfl) ?_ ?_
      ·(refine Q2 rfl rfl rfl rfl rfl rfl (fun _ _ => by repeat (first | exact Sw.here | apply Sw.there)) (M9 (by repeat first | exact mH | apply mT)) rfl (fun u hu => List.all_eq_true.1 hou9 u hu) (by unfold maxLen; omega) (by omega) rfl rfl (by repeat (first | exact A8.nil | apply A8.dep (by decide +kernel) | apply A8.im (by decide +kernel) (by assumption) (by repeat first | exact mH | apply mT) | apply A8.blk (by decide +kernel) (by repeat (first | exact Pk.here | apply Pk.there)) (by repeat first | exact mH | apply mT) | apply A8.slc (by decide +kernel) (by repeat (first | exact Pk.here | apply Pk.there)) (by repeat first | exact mH | apply mT))) (fun pn' cn' => ?_))
       refine aP 9 rfl (A0 rfl) rfl ?_
       refine A4 7 ?_
       (refine E0 rfl (C7 rfl rfl rfl (by omega) (by unfold maxLen; omega) rfl) rfl rfl ?_; rintro _ ⟨b182, rfl⟩)
       refine A4 8 ?_
       (refine Q2 rfl rfl rfl rfl rfl rfl (fun _ _ => by repeat (first | exact Sw.here | apply Sw.there)) (M9 (by repeat first | exact mH | apply mT)) rfl (by simp [Value.oneCell']) (by unfold maxLen; omega) (by omega) rfl rfl (by repeat (first | exact A8.nil | apply A8.dep (by decide +kernel) | apply A8.im (by decide +kernel) (by assumption) (by repeat first | exact mH | apply mT) | apply A8.blk (by decide +kernel) (by repeat (first | exact Pk.here | apply Pk.there)) (by repeat first | exact mH | apply mT) | apply A8.slc (by decide +kernel) (by repeat (first | exact Pk.here | apply Pk.there)) (by repeat first | exact mH | apply mT))) (fun pm' cm' => ?_))
       refine A4 10 ?_
       refine oS rfl rfl rfl rfl rfl rfl rfl rfl ?_
       refine aP 11 rfl (qA rfl) rfl ?_
       refine B5 (E3 (nS (tR ?_)))
       refine sP (I7 rfl rfl (by omega) (by omega)) rfl rfl ?_
       refine sQ (qM rfl) rfl (sD ?_)
       refine J3 (i + 1, (pn', cn', us ++ [u2], es' ++ [[v1, v2, v3, v4, v5, v6, v7, v8, v9]]), (pm', cm', ts ++ [t2], ess ++ [[.int .i64 t2.k, .slice p3 t2.ks.length c3]]), l2, G3) ?_ ?_ ?_
       ·(simp only [I3]; exact D9)
       ·(dsimp only; exact ⟨by omega, hle.trans hle3, by simp [hlu], D3.snoc (hst.mono hle3) hru, by simp [hlt], C6.snoc (hstt.mono hle3) hrt, A2B hat (A2h ((A2b ks[i] (d + 1) _ l (hvk i (by omega)) hcvX).1 _ _ _ hE).2), A3t (by omega) hml hE, by omega, by omega⟩)
       ·(show ks.length - (i + 1) < ks.length - i; omega)
      ·(refine E0 rfl (C7 rfl rfl rfl (by omega) (by unfold maxLen; omega) rfl) rfl rfl ?_; rintro _ ⟨b199, rfl⟩)
       refine A4 4 ?_
       (refine Q2 rfl rfl rfl rfl rfl rfl (fun _ _ => by repeat (first | exact Sw.here | apply Sw.there)) (M9 (by repeat first | exact mH | apply mT)) rfl (fun u hu => List.all_eq_true.1 hou9 u hu) (by unfold maxLen; omega) (by omega) rfl rfl (by repeat (first | exact A8.nil | apply A8.dep (by decide +kernel) | apply A8.im (by decide +kernel) (by assumption) (by repeat first | exact mH | apply mT) | apply A8.blk (by decide +kernel) (by repeat (first | exact Pk.here | apply Pk.there)) (by repeat first | exact mH | apply mT) | apply A8.slc (by decide +kernel) (by repeat (first | exact Pk.here | apply Pk.there)) (by repeat first | exact mH | apply mT))) (fun pn' cn' => ?_))
       refine aP 9 rfl (A0 rfl) rfl ?_
       refine A4 8 ?_
       (refine Q2 rfl rfl rfl rfl rfl rfl (fun _ _ => by repeat (first | exact Sw.here | apply Sw.there)) (M9 (by repeat first | exact mH | apply mT)) rfl (by simp [Value.oneCell']) (by unfold maxLen; omega) (by omega) rfl rfl (by repeat (first | exact A8.nil | apply A8.dep (by decide +kernel) | apply A8.im (by decide +kernel) (by assumption) (by repeat first | exact mH | apply mT) | apply A8.blk (by decide +kernel) (by repeat (first | exact Pk.here | apply Pk.there)) (by repeat first | exact mH | apply mT) | apply A8.slc (by decide +kernel) (by repeat (first | exact Pk.here | apply Pk.there)) (by repeat first | exact mH | apply mT))) (fun pm' cm' => ?_))
       refine A4 10 ?_
       refine oS rfl rfl rfl rfl rfl rfl rfl rfl ?_
       refine aP 11 rfl (qA rfl) rfl ?_
       refine B5 (E3 (nS (tR ?_)))
       refine sP (I7 rfl rfl (by omega) (by omega)) rfl rfl ?_
       refine sQ (qM rfl) rfl (sD ?_)
       refine J3 (i + 1, (pn', cn', us ++ [u2], es' ++ [[v1, v2, v3, v4, v5, v6, v7, v8, v9]]), (pm', cm', ts ++ [t2], ess ++ [[.int .i64 t2.k, .slice p3 t2.ks.length c3]]), l2, G3) ?_ ?_ ?_
       ·(simp only [I3]; exact D9)
       ·(dsimp only; exact ⟨by omega, hle.trans hle3, by simp [hlu], D3.snoc (hst.mono hle3) hru, by simp [hlt], C6.snoc (hstt.mono hle3) hrt, A2B hat (A2h ((A2b ks[i] (d + 1) _ l (hvk i (by omega)) hcvX).1 _ _ _ hE).2), A3t (by omega) hml hE, by omega, by omega⟩)
       ·(show ks.length - (i + 1) < ks.length - i; omega)
     ·(refine E0 rfl (C7 rfl rfl rfl (by omega) (by unfold maxLen; omega) rfl) rfl rfl ?_; rintro _ ⟨b219, rfl⟩)
      refine A4 3 ?_
      (refine E0 rfl (C7 rfl rfl rfl (by omega) (by unfold maxLen; omega) rfl) rfl rfl ?_; rintro _ ⟨b221, rfl⟩)
      refine A4 4 ?_
      (refine Q2 rfl rfl rfl rfl rfl rfl (fun _ _ => by repeat (first | exact Sw.here | apply Sw.there)) (M9 (by repeat first | exact mH | apply mT)) rfl (fun u hu => List.all_eq_true.1 hou9 u hu) (by unfold maxLen; omega) (by omega) rfl rfl (by repeat (first | exact A8.nil | apply A8.dep (by decide +kernel) | apply A8.im (by decide +kernel) (by assumption) (by repeat first | exact mH | apply mT) | apply A8.blk (by decide +kernel) (by repeat (first | exact Pk.here | apply Pk.there)) (by repeat first | exact mH | apply mT) | apply A8.slc (by decide +kernel) (by repeat (first | exact Pk.here | apply Pk.there)) (by repeat first | exact mH | apply mT))) (fun pn' cn' => ?_))
      refine aP 9 rfl (A0 rfl) rfl ?_
      refine A4 8 ?_
      (refine Q2 rfl rfl rfl rfl rfl rfl (fun _ _ => by repeat (first | exact Sw.here | apply Sw.there)) (M9 (by repeat first | exact mH | apply mT)) rfl (by simp [Value.oneCell']) (by unfold maxLen; omega) (by omega) rfl rfl (by repeat (first | exact A8.nil | apply A8.dep (by decide +kernel) | apply A8.im (by decide +kernel) (by assumption) (by repeat first | exact mH | apply mT) | apply A8.blk (by decide +kernel) (by repeat (first | exact Pk.here | apply Pk.there)) (by repeat first | exact mH | apply mT) | apply A8.slc (by decide +kernel) (by repeat (first | exact Pk.here | apply Pk.there)) (by repeat first | exact mH | apply mT))) (fun pm' cm' => ?_))
      refine A4 10 ?_
      refine oS rfl rfl rfl rfl rfl rfl rfl rfl ?_
      refine aP 11 rfl (qA rfl) rfl ?_
      refine B5 (E3 (nS (tR ?_)))
      refine sP (I7 rfl rfl (by omega) (by omega)) rfl rfl ?_
      refine sQ (qM rfl) rfl (sD ?_)
      refine J3 (i + 1, (pn', cn', us ++ [u2], es' ++ [[v1, v2, v3, v4, v5, v6, v7, v8, v9]]), (pm', cm', ts ++ [t2], ess ++ [[.int .i64 t2.k, .slice p3 t2.ks.length c3]]), l2, G3) ?_ ?_ ?_
      ·(simp only [I3]; exact D9)
      ·(dsimp only; exact ⟨by omega, hle.trans hle3, by simp [hlu], D3.snoc (hst.mono hle3) hru, by simp [hlt], C6.snoc (hstt.mono hle3) hrt, A2B hat (A2h ((A2b ks[i] (d + 1) _ l (hvk i (by omega)) hcvX).1 _ _ _ hE).2), A3t (by omega) hml hE, by omega, by omega⟩)
      ·(show ks.length - (i + 1) < ks.length - i; omega)
   ·refine R2 ?_
    (obtain rfl : i = ks.length := (by omega); have hk14 : k ≠ 14 := hv2; rw [List.take_length] at hml hl2; refine R8 (cs := ess.flatten) (by repeat (first | exact Pk.here | apply Pk.there)) (fun G3 hle3 hsl3 hno3 => ?_); have hst3 := hstt.mono hle3; have hslU : D2 G3 pm ks.length cm 2 ess := D2.of hsl3 (by rw [hst3.len, hlt]) hst3.all (fun e he => (hst3.each e he).2); refine E5 rfl (B1Y cx k nm num (.mk tk tks) (.mk fk fks) lb ks ts G3 pc nc cc _ pm ks.length cm ess (hx.mono hle3) har hlt.symm hk14 hta (hr0.mono hle3) hslU hst3 hat) rfl rfl (fun v G4 hle4 hh => ?_); obtain ⟨pw, nw, cw, ew, w, wc, wt, rfl, hnw, hslw, hstw, hrt, hw⟩ := hh; obtain ⟨p3, c3, e3, rfl, _⟩ := hrt.open; replace hst3 := hst3.mono hle4; replace hslU := hslU.mono hle4; have hle34 := hle3.trans hle4; replace hst := hst.mono hle34; replace hty := hty.mono hle34; replace hfr := hfr.mono hle34; rcases hmw : K0 cx k nm (Ty.mk tk tks) ts with _ | ⟨w2, t2⟩; rotate_left; have hwe := hw _ hmw; simp only [Prod.mk.injEq] at hwe; obtain ⟨rfl, rfl⟩ := hwe; have hwl := B10 (by rw [hlt]; exact hop) hkr hk14 hmw; have hcl2 := A09 us ts w2 l; rcases Nat.eq_zero_or_pos ks.length with h0 | h0; rotate_left; rotate_left)
    ·refine sQ (qM rfl) rfl (sQ (pX rfl rfl) rfl (sQ (pX rfl rfl) rfl (sQ (pX rfl rfl) rfl ?_)))
     refine sE (A7 rfl) rfl (fun b260 => ?_)
     refine A6D ?_
     (refine E9 (cs := es'.flatten) (by repeat (first | exact Pk.here | apply Pk.there)) (fun G8 hle8 hsl8 hno8 => ?_); have hst8 := hst.mono hle8)
     refine tT (rS ?_)
     refine A2g (outs := [.blk bx [.int .i64 _]]) (rC rfl (A2 rfl rfl)) (rC rfl (A2 rfl rfl)) (rT rfl) (A1.cons (by repeat (first | exact Pk.here | apply Pk.there)) A1.nil) ?_
     (exact ElP.no (A5U hml (B12 hmw)) (L3 _) (M1 _ ⟨by omega, by omega⟩) (by omega) (by rw [hck]; omega))
    ·refine sQ (qM rfl) rfl (sQ (pX rfl rfl) rfl (sQ (pX rfl rfl) rfl (sQ (pX rfl rfl) rfl ?_)))
     refine sE (A7 rfl) rfl (fun b297 => ?_)
     refine U4 ?_
     refine E7 rfl ((A28 _ _ _ hrt)) rfl rfl (fun h310 => ?_) (fun h310 => ?_)
     ·refine L9 ?_
      refine B9 ?_
      (have h0' : ks.length = 0 := h0; refine J4 (fun (_ : Nat) => ⟨[(86, .int .i64 0), (85, .int .i64 nw), (84, .slice pw nw cw), (11, .slice pm ks.length cm), (1, .slice pc nc cc), (0, .pointer (some ⟨bx, 0, none⟩)), (5, .pointer (some ⟨b3, 0, none⟩)), (6, .pointer (some ⟨b4, 0, none⟩)), (7, .pointer (some ⟨b5, 0, none⟩)), (10, .pointer (some ⟨b58, 0, none⟩)), (18, .pointer (some ⟨b297, 0, none⟩))], [.blk b297 [.int .i64 t2.k, .slice p3 t2.ks.length c3], .blk b58 [.int .i64 k, .string nm, .int .i64 num, .int .i64 tk, .slice pt tks.length ct, .int .i64 fk, .slice pf fks.length cf, .int .i64 lb, .slice pn ks.length cn], .slc pn cn 28 9 ks.length es'.flatten, .blk b5 [.int .i64 0, .slice none 0 0], .blk b4 [.int .i64 0, .string ⟨⟨[]⟩⟩, .int .i64 0, .int .i64 0, .slice none 0 0, .int .i64 0, .slice none 0 0, .int .i64 0, .slice none 0 0], .blk b3 [.int .i64 k, .string nm, .int .i64 num, .int .i64 tk, .slice pt tks.length ct, .int .i64 fk, .slice pf fks.length cf, .int .i64 lb, .slice q ks.length cq], .blk bx [.int .i64 l]], G4⟩) (fun _ => True) (fun i => i) 0 ?_ ?_ ?_)
      ·exact D9
      ·trivial
      ·(rintro (i0 : Nat) _)
       refine tS (tR ?_)
       refine sP (A2r rfl rfl (by omega)) rfl rfl ?_
       refine R2 ?_
       refine sP (I2 rfl rfl (by omega)) rfl rfl ?_
       refine sD (nS (cF rfl (tK (nS (tS ?_)))))
       refine D4 D6 rfl ?_
       refine K2 (i := 0) (l' := [tt,ff,ff,ff,ff]) rfl C9 (A2 rfl rfl) rfl (by kernel_rfl) rfl rfl ?_
       refine aL 1 rfl (A2 rfl rfl) rfl ?_
       refine A4 2 ?_
       refine oS rfl rfl rfl rfl rfl rfl rfl rfl ?_
       refine A4 3 ?_
       refine oS rfl rfl rfl rfl rfl rfl rfl rfl ?_
       refine aP 4 rfl (qA rfl) rfl ?_
       refine B5 (nS ?_)
       (refine E9 (cs := es'.flatten) (by repeat (first | exact Pk.here | apply Pk.there)) (fun G8 hle8 hsl8 hno8 => ?_); have hst8 := hst.mono hle8)
       refine tT ?_
       refine A2g (outs := [.blk bx [.int .i64 _]]) (rC rfl (A2 rfl rfl)) (rC rfl (A2 rfl rfl)) (rT rfl) (A1.cons (by repeat (first | exact Pk.here | apply Pk.there)) A1.nil) ?_
       (obtain rfl : w2 = [] := List.length_eq_zero_iff.1 (by omega); have hne : k ≠ 13 := (fun h => by have := hop.2.2 (.inr (.inr (.inr h))); omega); have hel := A8p (num := num) (fr := .mk fk fks) (lb := lb) hml (A3x hmw (b := true) (by assumption)) hne; rw [A0q] at hel; exact ElP.yes hel (B0.put hk hnum hlb (hty.mono hle8) (hfr.mono hle8) (by rw [hlu]) (D2.of hsl8 (by rw [hst8.len, hlu]) hst8.all (fun e he => (hst8.each e he).2)) hst8) (hrt.mono hle8) (by omega) (by rw [hck]; omega))
     ·refine R2 ?_
      (refine E9 (cs := es'.flatten) (by repeat (first | exact Pk.here | apply Pk.there)) (fun G8 hle8 hsl8 hno8 => ?_); have hst8 := hst.mono hle8)
      refine tT (rS ?_)
      refine A2g (outs := [.blk bx [.int .i64 _]]) (rC rfl (A2 rfl rfl)) (rC rfl (A2 rfl rfl)) (rT rfl) (A1.cons (by repeat (first | exact Pk.here | apply Pk.there)) A1.nil) ?_
      (exact ElP.no (A5U hml (A3x hmw (b := false) (by assumption))) (L3 _) (M1 _ ⟨by omega, by omega⟩) (by omega) (by rw [hck]; omega))
    ·(refine A3j (cs := es'.flatten) (by repeat (first | exact Pk.here | apply Pk.there)) h0 (fun bc C hpe hnc hcm => ?_); subst hpe; refine sQ (qM rfl) rfl ?_)
     refine sQ (pX rfl rfl) rfl (sQ (pX rfl rfl) rfl (sQ (pX rfl rfl) rfl ?_))
     refine sE (A7 rfl) rfl (fun b392 => ?_)
     refine U4 ?_
     refine E7 rfl ((A28 _ _ _ hrt)) rfl rfl (fun h405 => ?_) (fun h405 => ?_)
     ·refine L9 ?_
      refine B9 ?_
      (have h0' := h0; refine J4 (fun (x : Nat × List (List Value) × IM) => ⟨[(86, .int .i64 x.1), (85, .int .i64 nw), (84, .slice pw nw cw), (11, .slice pm ks.length cm), (1, .slice pc nc cc), (0, .pointer (some ⟨bx, 0, none⟩)), (5, .pointer (some ⟨b3, 0, none⟩)), (6, .pointer (some ⟨b4, 0, none⟩)), (7, .pointer (some ⟨b5, 0, none⟩)), (10, .pointer (some ⟨b58, 0, none⟩)), (18, .pointer (some ⟨b392, 0, none⟩))], [.blk b392 [.int .i64 t2.k, .slice p3 t2.ks.length c3], .blk b58 [.int .i64 k, .string nm, .int .i64 num, .int .i64 tk, .slice pt tks.length ct, .int .i64 fk, .slice pf fks.length cf, .int .i64 lb, .slice (some ⟨bc, 0, none⟩) ks.length cn], .blk bc (x.2.1.flatten ++ C), .blk b5 [.int .i64 0, .slice none 0 0], .blk b4 [.int .i64 0, .string ⟨⟨[]⟩⟩, .int .i64 0, .int .i64 0, .slice none 0 0, .int .i64 0, .slice none 0 0, .int .i64 0, .slice none 0 0], .blk b3 [.int .i64 k, .string nm, .int .i64 num, .int .i64 tk, .slice pt tks.length ct, .int .i64 fk, .slice pf fks.length cf, .int .i64 lb, .slice q ks.length cq], .blk bx [.int .i64 (F4 us ts (w2.take x.1) l).2]], x.2.2⟩) (fun x => x.1 ≤ nw ∧ B8 G4 x.2.2 ∧ D3 x.2.2 (F4 us ts (w2.take x.1) l).1 x.2.1) (fun x => nw - x.1) (0, es', G4) ?_ ?_ ?_)
      ·(simp only [List.take_zero, A0q]; exact (K6 (by repeat (first | exact D8.nil | refine D8.cons rfl ?_)) (by repeat (first | exact A1.refl | exact A1.nil | refine A1.cons (by repeat (first | exact Pk.here | apply Pk.there)) ?_ | apply A1.drop))))
      ·(exact ⟨Nat.zero_le _, B8.refl _, by simp only [List.take_zero, A0q]; exact hst⟩)
      ·(rintro ⟨j, es2, G6⟩ ⟨hj, hle6, hst2⟩; simp only [] at hj hle6 hst2 ⊢; replace hslw := hslw.mono hle6; replace hstw := hstw.mono hle6; replace hslU := hslU.mono hle6; replace hst3 := hst3.mono hle6; replace hty := hty.mono hle6; replace hfr := hfr.mono hle6; replace hrt := hrt.mono hle6; have hall2 := hst2.all; have hle2s := hst2.len; rw [A1w] at hle2s)
       refine tS (tR ?_)
       refine sB (J1 rfl rfl) rfl rfl (fun h428 => ?_) (fun h428 => ?_)
       ·refine sD (nS (tS (qT rfl (tK (nS (tS ?_))))))
        refine B9 ?_
        refine tS (tR (sQ (qM rfl) rfl ?_))
        (have hjw : j < w2.length := (by omega); obtain ⟨b5w, o5w, q5, d5, hp5, hat, hrw, hgb⟩ := hslw.kidTy hstw (i := j) (by omega) (by omega); cases hp5; refine sP (B3 rfl rfl rfl (by omega)) rfl rfl ?_)
        refine sL (A5 rfl rfl (hat _) rfl) rfl rfl ?_
        refine sE (A7 rfl) rfl (fun b442 => ?_)
        refine sQ (qA rfl) rfl (B1 ?_)
        refine sD (nS ?_)
        (have hjw2 := hjw; obtain ⟨b0, o0, q0, d0, hp0, hat0, hre0, hg0⟩ := hslU.kidTy hst3 (i := j) (by omega) (by omega); cases hp0; obtain ⟨m1, m2, _⟩ := A3u us ts w2 l j hjw (by omega) (by omega); obtain ⟨m3, m4⟩ := A75 (us := us) (h := ts) (w := w2) (l := l) hjw (by omega) (by omega); obtain ⟨hE1, hE2⟩ := hst2.at2 (i := j) (by omega) (by omega); rw [m2] at hE2; have hE3 := hE2.len; have hE4 := hE2.one; have hcj := A09 us ts (w2.take j) l; refine D4 D6 rfl ?_)
        refine I6 (i := 0) (l' := [tt,ff,ff,ff,ff,ff,ff,ff,ff,ff,ff,ff,ff,ff,ff,ff,ff]) rfl C9 (A0 rfl) rfl (by kernel_rfl) rfl rfl ?_
        refine aL 1 rfl (A3 rfl rfl) rfl ?_
        refine aP 2 rfl (qM rfl) rfl ?_
        refine aP 3 rfl (qM rfl) rfl ?_
        refine aP 4 rfl (A0 rfl) rfl ?_
        refine aL 5 rfl (A3 rfl rfl) rfl ?_
        refine aP 6 rfl (qM rfl) rfl ?_
        refine aP 7 rfl (B3 (j := j) rfl rfl rfl (by omega)) rfl ?_
        refine aL 8 rfl (A5 rfl rfl (A4e (es := es2) (by repeat first | exact mH | apply mT) (by omega) hall2) hE3) rfl ?_
        refine aP 9 rfl (qM rfl) rfl ?_
        refine aP 10 rfl (qM rfl) rfl ?_
        refine aP 11 rfl (B3 (j := j) rfl rfl rfl (by omega)) rfl ?_
        refine aL 12 rfl (A5 rfl rfl (hat0 _) rfl) rfl ?_
        refine aL 13 rfl (A2 rfl rfl) rfl ?_
        refine A4 14 ?_
        (refine V7 (l' := [tt,tt,tt,tt,tt,tt,tt,tt,tt,tt,tt,tt,tt,tt,tt,ff,ff]) rfl rfl (B2g bx us[j] ts[j] w2[j] (F4 us ts (w2.take j) l).2 G6 _ _ _ (by omega) hE2 hre0 hrw) (Pk.perm (by repeat (first | exact Pk.here | apply Pk.there))) rfl rfl rfl (by repeat (first | exact A8.nil | apply A8.dep (by decide +kernel) | apply A8.im (by decide +kernel) (by assumption) (by repeat first | exact mH | apply mT) | apply A8.blk (by decide +kernel) (by repeat (first | exact Pk.here | apply Pk.there)) (by repeat first | exact mH | apply mT) | apply A8.slc (by decide +kernel) (by repeat (first | exact Pk.here | apply Pk.there)) (by repeat first | exact mH | apply mT))) (fun v G7 outs hle7 hh => ?_); obtain ⟨uc, rfl, rfl, hru⟩ := hh; rw [← m4]; have hlu9 := hru.len; have hou9 := hru.one)
        refine aP 15 rfl (B3 (j := j) rfl rfl rfl (by omega)) rfl ?_
        refine A4 16 ?_
        refine Q6 rfl rfl rfl rfl hlu9 hou9 rfl rfl (by kernel_rfl) (by repeat first | exact Sw.here | apply Sw.there) (by exact A3k (by omega) hall2 hlu9) ?_
        refine B5 (E3 (nS (tR ?_)))
        refine sP (I7 rfl rfl (by omega) (by omega)) rfl rfl ?_
        refine sQ (qM rfl) rfl (sD ?_)
        refine J3 (j + 1, es2.set j uc, G7) ?_ ?_ ?_
        ·(simp only [List.take_zero, A0q]; exact (K6 (by repeat (first | exact D8.nil | refine D8.cons rfl ?_)) (by repeat (first | exact A1.refl | exact A1.nil | refine A1.cons (by repeat (first | exact Pk.here | apply Pk.there)) ?_ | apply A1.drop))))
        ·(dsimp only; exact ⟨by omega, hle6.trans hle7, by rw [m3]; exact D3.set (hst2.mono hle7) hru⟩)
        ·(show nw - (j + 1) < nw - j; omega)
       ·refine R2 ?_
        refine sB (qE rfl rfl) rfl rfl (fun h492 => ?_) (fun h492 => ?_)
        ·refine sD (nS (qT rfl (tS ?_)))
         (have hq13 : k = 13 := (by omega); have hl13 := hop.2.2 (.inr (.inr (.inr hq13))); have hjw : j = w2.length := (by omega); rw [hjw, List.take_length] at hst2; have hm0 := A1w us ts w2 l; obtain ⟨hE1, hE2⟩ := hst2.at2 (i := 0) (by omega) (by omega); have hE3 := hE2.len; have hE4 := hE2.one; refine D4 D6 rfl ?_)
         refine I6 (i := 0) (l' := [tt,ff,ff,ff,ff,ff,ff,ff]) rfl C9 (A0 rfl) rfl (by kernel_rfl) rfl rfl ?_
         refine aL 1 rfl (A3 rfl rfl) rfl ?_
         refine aP 2 rfl (B3 (j := 0) rfl rfl rfl (by omega)) rfl ?_
         refine aL 3 rfl (A5 rfl rfl (A4e (es := es2) (by repeat first | exact mH | apply mT) (by omega) hall2) hE3) rfl ?_
         refine aL 4 rfl (A2 rfl rfl) rfl ?_
         refine A4 5 ?_
         refine oS rfl rfl rfl rfl hE3 hE4 rfl rfl ?_ (hu := by exact D5 hE3.symm)
         refine A4 6 ?_
         refine oS rfl rfl rfl rfl rfl rfl rfl rfl ?_
         refine aP 7 rfl (qA rfl) rfl ?_
         refine B5 (nS ?_)
         (refine A1Y (bs := [(bc, es2.flatten ++ C)]) (Pk.perm (by repeat (first | exact Pk.here | apply Pk.there))) (fun hn9 hd9 hle9 => ?_))
         refine tT (rS ?_)
         refine A2g (outs := [.blk bx [.int .i64 _]]) (rC rfl (A5 rfl rfl (B2 (by repeat first | exact mH | apply mT)) hE3)) (rC rfl (A2 rfl rfl)) (rT rfl) (A1.cons (by repeat (first | exact Pk.here | apply Pk.there)) A1.nil) ?_
         (have hel := B2L (num := num) (fr := .mk fk fks) (lb := lb) hml (A3x hmw (b := true) (by assumption)) hq13; rw [A8q (by omega)] at hel; rw [hjw, List.take_length]; exact ElP.yes hel (hE2.mono hle9) (hrt.mono hle9) (by omega) (by rw [hck]; omega))
        ·refine sD (nS (cF rfl (tK (nS (tS ?_)))))
         refine D4 D6 rfl ?_
         refine K2 (i := 0) (l' := [tt,ff,ff,ff,ff]) rfl C9 (A2 rfl rfl) rfl (by kernel_rfl) rfl rfl ?_
         refine aL 1 rfl (A2 rfl rfl) rfl ?_
         refine A4 2 ?_
         refine oS rfl rfl rfl rfl rfl rfl rfl rfl ?_
         refine A4 3 ?_
         refine oS rfl rfl rfl rfl rfl rfl rfl rfl ?_
         refine aP 4 rfl (qA rfl) rfl ?_
         refine B5 (nS ?_)
         (refine A1Y (bs := [(bc, es2.flatten ++ C)]) (Pk.perm (by repeat (first | exact Pk.here | apply Pk.there))) (fun hn9 hd9 hle9 => ?_))
         refine tT ?_
         refine A2g (outs := [.blk bx [.int .i64 _]]) (rC rfl (A2 rfl rfl)) (rC rfl (A2 rfl rfl)) (rT rfl) (A1.cons (by repeat (first | exact Pk.here | apply Pk.there)) A1.nil) ?_
         (have hjw : j = w2.length := (by omega); rw [hjw, List.take_length] at hst2; have hst9 := hst2.mono hle9; have hel := A8p (num := num) (fr := .mk fk fks) (lb := lb) hml (A3x hmw (b := true) (by assumption)) (show k ≠ 13 by omega); rw [hjw, List.take_length]; have hm0 := A1w us ts w2 l; exact ElP.yes hel (B0.put hk hnum hlb (hty.mono hle9) (hfr.mono hle9) (by rw [hm0, hlu]) (D2.of (Sl.of_blk (A := []) (by rw [A0v hst9.all, hst9.len, hm0, hlu]) (by omega) hcm (Wi.in hn9 List.mem_cons_self)) (by rw [hst9.len, hm0, hlu]) hst9.all (fun e he => (hst9.each e he).2)) hst9) (hrt.mono hle9) (by omega) (by rw [hck]; omega))
     ·refine O9 ?_
      refine A2g (outs := [.blk bx [.int .i64 _]]) (rC rfl (A2 rfl rfl)) (rC rfl (A2 rfl rfl)) (rT rfl) (A1.cons (by repeat (first | exact Pk.here | apply Pk.there)) A1.nil) ?_
      (exact ElP.no (A5U hml (A3x hmw (b := false) (by assumption))) (L3 _) (M1 _ ⟨by omega, by omega⟩) (by omega) (by rw [hck]; omega))
def B2N (r : Tm) : Tm × Bool := if O1 r = true then (r, true) else (J6, false)
def B5c (t : Tm) (path : List Int) (x : Tm) : Tm × Bool := if O1 t = true ∧ O1 x = true ∧ tAt t path ≠ none then B2N (A7K t path x) else (J6, false)
mutual
theorem A5V (D N : Int) : ∀ (t : Tm) (d d' : Int), d' ≤ d → N5 D N t d = true → N5 D N t d' = true
 | .mk k nm num ty fr lb ks, d, d', hd, h => by
  obtain ⟨h1, h2, h3, h4⟩ := A0z h
  rw [A03 (by omega) h2 h3]
  exact A4v D N ks _ _ (by omega) h4
theorem A4v (D N : Int) : ∀ (ts : List Tm) (d d' : Int), d' ≤ d → N6 D N ts d = true → N6 D N ts d' = true
 | [], d, d', hd, h => by rw [N6]
 | t :: ts, d, d', hd, h => by
  rw [N6, Bool.and_eq_true] at h ⊢
  exact ⟨A5V D N t d d' hd h.1, A4v D N ts d d' hd h.2⟩
end
theorem A8r (cy : Cx) (nm : ByteArray) : ∀ (cx : Cx) (n : Nat), n ≤ cx.length → ∀ t, U1 cx nm n = some t → U1 (cy ++ cx) nm (cy.length + n) = some t
 | cx, 0, _, t, h => by rw [U1] at h; cases h
 | cx, n + 1, hn, t, h => by
  have hb : cx[n]? = some cx[n] := List.getElem?_eq_getElem (by omega)
  have hb2 : (cy ++ cx)[cy.length + n]? = some (cx[n].1, cx[n].2) := by
   rw [List.getElem?_append_right (by omega), show cy.length + n - cy.length = n by omega]; exact hb
  by_cases he : cx[n].1 = nm
  ·rw [A3e (x := cx[n].1) (t := cx[n].2) hb he] at h
   rw [← Nat.add_assoc, A3e hb2 he]; exact h
  ·rw [A3f (x := cx[n].1) (t := cx[n].2) hb he] at h
   rw [← Nat.add_assoc, A3f hb2 he]
   exact A8r cy nm cx n (by omega) t h
theorem B2O {cy cx : Cx} {nm : ByteArray} {t : Ty} (h : N2 cx nm = some t) : N2 (cy ++ cx) nm = some t := by
 unfold N2 at h ⊢
 rw [List.length_append]
 exact A8r cy nm cx _ (Nat.le_refl _) t h
theorem B2P {cy cx : Cx} {k : Int} {nm : ByteArray} {ty : Ty} {h : List Ty} {r : List Ty × Ty} (hr : K0 cx k nm ty h = some r) : K0 (cy ++ cx) k nm ty h = some r := by
 unfold K0 at hr ⊢
 split
 ·rename_i hk
  rw [if_pos hk] at hr
  split at hr
  ·rename_i t ht; rw [B2O ht]; exact hr
  ·cases hr
 ·rename_i hk
  rw [if_neg hk] at hr
  exact hr
theorem B2Q {cy cx : Cx} {k : Int} {nm : ByteArray} {ty : Ty} {h : List Ty} {r : List Ty × Ty} (hr : S1 cx k nm ty h = some r) : S1 (cy ++ cx) k nm ty h = some r := by
 unfold S1 at hr ⊢
 split at hr
 ·rename_i w t hw; rw [B2P hw]; exact hr
 ·cases hr
theorem B2R (cy cx : Cx) (k : Int) (nm : ByteArray) (ty : Ty) : J2 (cy ++ cx) k nm ty = cy ++ J2 cx k nm ty := by
 unfold J2; split <;> simp
mutual
theorem A8s (cy : Cx) : ∀ (e : Tm) (cx : Cx) (t : Ty), H1 cx e = some t → H1 (cy ++ cx) e = some t
 | .mk k nm num ty fr lb ks, cx, t, h => by
  rw [H1] at h ⊢
  split at h
  ·cases h
  ·rename_i hs hh
   rw [B2R, A8t cy ks _ hs hh]
   dsimp only
   split at h
   ·rename_i hk; rw [if_pos hk]; exact h
   ·rename_i hk
    rw [if_neg hk]
    split at h
    ·cases h
    ·rename_i w u hw
     rw [B2Q hw]; exact h
theorem A8t (cy : Cx) : ∀ (ts : List Tm) (cx : Cx) (us : List Ty), L5 cx ts = some us → L5 (cy ++ cx) ts = some us
 | [], cx, us, h => by rw [L5] at h ⊢; exact h
 | t :: ts, cx, us, h => by
  rw [L5] at h ⊢
  split at h
  ·cases h
  ·rename_i u hu
   split at h
   ·cases h
   ·rename_i us' hus
    rw [A8s cy t cx u hu]
    dsimp only
    rw [A8t cy ts cx us' hus]
    exact h
end
theorem A8u {cx : Cx} : ∀ {ks : List Tm} {h : List Ty}, L5 cx ks = some h → ∀ (j : Nat) (hj : j < ks.length), ∃ u, H1 cx ks[j] = some u ∧ ∀ x, H1 cx x = some u → L5 cx (ks.set j x) = some h
 | [], h, _, j, hj => by simp at hj
 | t :: ts, h, he, j, hj => by
  rw [L5] at he
  split at he
  ·cases he
  ·rename_i u hu
   split at he
   ·cases he
   ·rename_i us hus
    cases he
    cases j with
    | zero => exact ⟨u, hu, fun x hx => by rw [List.set_cons_zero, L5, hx]; dsimp only; rw [hus]⟩
    | succ j =>
     obtain ⟨v, hv, hv2⟩ := A8u hus j (by simpa using hj)
     exact ⟨v, hv, fun x hx => by rw [List.set_cons_succ, L5, hu]; dsimp only; rw [hv2 x hx]⟩
theorem A1b {cx : Cx} {k : Int} {nm : ByteArray} {num : Int} {ty fr : Ty} {lb : Int} {ks : List Tm} {T : Ty} (h : H1 cx (.mk k nm num ty fr lb ks) = some T) :
  ∃ us, L5 (J2 cx k nm ty) ks = some us ∧ (k = 14 → us.getD 0 B4 = fr ∧ T = ty) ∧ (k ≠ 14 → E4 T = true ∧ ∃ w, K0 cx k nm ty us = some (w, T) ∧ A0y w us = true) := by
 rw [H1] at h
 split at h
 ·cases h
 ·rename_i us hu
  refine ⟨us, hu, fun hk => ?_, fun hk => ?_⟩
  ·rw [if_pos hk] at h
   split at h
   ·rename_i hs; cases h; exact ⟨(A0d _ _).1 hs, rfl⟩
   ·cases h
  ·rw [if_neg hk] at h
   split at h
   ·cases h
   ·rename_i w t hn
    split at h
    ·rename_i hs
     cases h
     obtain ⟨h1, h2⟩ := A3w hn
     exact ⟨h1, w, h2, hs⟩
    ·cases h
theorem A5W {cx : Cx} {k : Int} {nm : ByteArray} {num : Int} {ty fr : Ty} {lb : Int} {ks : List Tm} {T : Ty} {us w : List Ty} (hu : L5 (J2 cx k nm ty) ks = some us) (hk : k ≠ 14) (hv : E4 T = true) (hw : K0 cx k nm ty us = some (w, T)) (hs : A0y w us = true) : H1 cx (.mk k nm num ty fr lb ks) = some T := by
 rw [H1, hu]
 simp only [if_neg hk]
 unfold S1
 rw [hw]
 simp only [hv, if_true, hs]
theorem A3G {cx : Cx} {a : Tm} {us : List Ty} (h : L5 cx [a] = some us) : ∃ x, H1 cx a = some x ∧ us = [x] := by
 rw [L5] at h
 split at h
 ·cases h
 ·rename_i x hx
  rw [L5] at h
  simp only [Option.some.injEq] at h
  exact ⟨x, hx, h.symm⟩
theorem A4w {cx : Cx} {a b : Tm} {us : List Ty} (h : L5 cx [a, b] = some us) : ∃ x y, H1 cx a = some x ∧ H1 cx b = some y ∧ us = [x, y] := by
 rw [L5] at h
 split at h
 ·cases h
 ·rename_i x hx
  split at h
  ·cases h
  ·rename_i vs hv
   obtain ⟨y, hy, rfl⟩ := A3G hv
   simp only [Option.some.injEq] at h
   exact ⟨x, y, hx, hy, h.symm⟩
theorem B2S {cx : Cx} {a b c : Tm} {us : List Ty} (h : L5 cx [a, b, c] = some us) : ∃ x y z, H1 cx a = some x ∧ H1 cx b = some y ∧ H1 cx c = some z ∧ us = [x, y, z] := by
 rw [L5] at h
 split at h
 ·cases h
 ·rename_i x hx
  split at h
  ·cases h
  ·rename_i vs hv
   obtain ⟨y, z, hy, hz, rfl⟩ := A4w hv
   simp only [Option.some.injEq] at h
   exact ⟨x, y, z, hx, hy, hz, h.symm⟩
theorem A5X {cx : Cx} {a : Tm} {x : Ty} (h : H1 cx a = some x) : L5 cx [a] = some [x] := by rw [L5, h]; rfl
theorem B2T {cx : Cx} {a b : Tm} {x y : Ty} (h : H1 cx a = some x) (h2 : H1 cx b = some y) : L5 cx [a, b] = some [x, y] := by rw [L5, h, A5X h2]
mutual
theorem A1O : ∀ a : Ty, J5 a a = true
 | .mk k ks => by rw [U9, A8v ks]; simp
theorem A8v : ∀ xs : List Ty, O3 xs xs = true
 | [] => rfl
 | a :: xs => by rw [O3, A1O a, A8v xs]; rfl
end
mutual
theorem A5Y : ∀ a : Ty, U2 a a = a
 | .mk k ks => by
  rw [A2x, A8w ks]
  by_cases h : k = 1
  ·rw [if_pos h]
  ·rw [if_neg h, if_neg h]
theorem A8w : ∀ xs : List Ty, T2 xs xs = xs
 | [] => rfl
 | a :: xs => by rw [T2, A5Y a, A8w xs]
end
theorem A4x {k : Int} {ks : List Ty} (hk : k = 4 ∨ k = 5) (h : E4 (.mk k ks) = true) : ∃ a b, ks = [a, b] ∧ E4 a = true ∧ E4 b = true := by
 unfold E4 at h ⊢
 rw [A3r, Bool.and_eq_true, Bool.and_eq_true, decide_eq_true_eq, decide_eq_true_eq] at h
 have h2 : ks.length = 2 := by
  have : T1 k = 2 := by rcases hk with rfl | rfl <;> rfl
  omega
 match ks, h2, h.2 with
 | [x, y], _, hL =>
  simp only [T7, Bool.and_eq_true] at hL
  exact ⟨x, y, rfl, A3s _ 2 1 (by omega) hL.1, A3s _ 2 1 (by omega) hL.2.1⟩
theorem A8x {k : Int} {ks : List Ty} (h : E4 (.mk k ks) = true) (hk : k ≠ 4) (hk5 : k ≠ 5) : (k = 1 ∨ k = 2 ∨ k = 3) ∧ ks = [] := by
 unfold E4 at h
 rw [A3r, Bool.and_eq_true, Bool.and_eq_true, decide_eq_true_eq, decide_eq_true_eq] at h
 obtain ⟨h1, h2, h3⟩ := M0 k
 have hl := h.1.2
 have hk3 : k = 1 ∨ k = 2 ∨ k = 3 := by
  apply Classical.byContradiction
  intro hc
  rw [h3 (by omega) (by omega) (by omega) hk hk5] at hl; omega
 rw [h1 hk3] at hl
 exact ⟨hk3, List.length_eq_zero_iff.1 (by omega)⟩
theorem A8y {cx : Cx} {e : Tm} {T : Ty} (hc : cv e) (h : H1 cx e = some T) : E4 T = true := by
 obtain ⟨k, nm, num, ty, fr, lb, ks⟩ := e
 exact B1Z (fun hk => (hc.node.1.c14 hk).2.1) h
section inv
variable {cx : Cx} {nm : ByteArray} {num : Int} {ty fr : Ty} {lb : Int} {a b c : Tm} {T : Ty}
theorem B2U {x y : Ty} (h : A0y [x] [y] = true) : x = y := by
 simp only [A0y, Bool.and_true] at h; exact (A0d _ _).1 h
theorem A8z {x y x' y' : Ty} (h : A0y [x, y] [x', y'] = true) : x = x' ∧ y = y' := by
 simp only [A0y, Bool.and_true, Bool.and_eq_true] at h; exact ⟨(A0d _ _).1 h.1, (A0d _ _).1 h.2⟩
theorem B2V {x y z x' y' z' : Ty} (h : A0y [x, y, z] [x', y', z'] = true) : x = x' ∧ y = y' ∧ z = z' := by
 simp only [A0y, Bool.and_true, Bool.and_eq_true] at h; exact ⟨(A0d _ _).1 h.1, (A0d _ _).1 h.2.1, (A0d _ _).1 h.2.2⟩
theorem A4y : ∀ xs : List Ty, A0y xs xs = true
 | [] => rfl
 | a :: xs => by rw [A0y, A37, A4y xs]; rfl
theorem B2W (h : H1 cx (.mk 6 nm num ty fr lb [a, b]) = some T) : ∃ A, H1 cx a = some (.mk 4 [A, T]) ∧ H1 cx b = some A := by
 obtain ⟨us, hu, _, hn⟩ := A1b h
 rw [J2, if_neg (by omega)] at hu
 obtain ⟨x, y, hx, hy, rfl⟩ := A4w hu
 obtain ⟨_, w, hw, hs⟩ := hn (by decide)
 unfold K0 at hw
 simp only [show ¬((6 : Int) = 1) by decide, show ¬((6 : Int) = 2) by decide, show ¬((6 : Int) = 3 ∨ (6 : Int) = 4) by decide, show ¬((6 : Int) = 5) by decide, if_false, if_true, List.getD_cons_zero, List.getD_cons_succ] at hw
 split at hw
 ·rename_i p q hm
  split at hw
  ·cases hw
   obtain ⟨h1, h2⟩ := A8z hs
   subst h1 h2
   exact ⟨_, hx, hy⟩
  ·cases hw
 ·cases hw
theorem B2X {A : Ty} (hv : E4 T = true) (ha : H1 cx a = some (.mk 4 [A, T])) (hb : H1 cx b = some A) : H1 cx (.mk 6 nm num ty fr lb [a, b]) = some T := by
 refine A5W (us := [.mk 4 [A, T], A]) (w := [.mk 4 [A, T], A]) (B2T ha hb) (by decide) hv ?_ (A4y _)
 unfold K0
 simp only [show ¬((6 : Int) = 1) by decide, show ¬((6 : Int) = 2) by decide, show ¬((6 : Int) = 3 ∨ (6 : Int) = 4) by decide, show ¬((6 : Int) = 5) by decide, if_false, if_true, List.getD_cons_zero, List.getD_cons_succ, A0W, A1O]
theorem B2Y {k : Int} (hk : k = 7 ∨ k = 8) (h : H1 cx (.mk k nm num ty fr lb [a, b]) = some T) : H1 cx a = some P4 ∧ H1 cx b = some P4 ∧ T = if k = 8 then S6 else P4 := by
 obtain ⟨us, hu, _, hn⟩ := A1b h
 rw [J2, if_neg (by omega)] at hu
 obtain ⟨x, y, hx, hy, rfl⟩ := A4w hu
 obtain ⟨_, w, hw, hs⟩ := hn (by omega)
 unfold K0 at hw
 rw [if_neg (by omega), if_neg (by omega), if_neg (by omega), if_neg (by omega), if_neg (by omega), if_pos hk] at hw
 split at hw
 ·cases hw
  obtain ⟨h1, h2⟩ := A8z hs
  subst h1 h2
  exact ⟨hx, hy, rfl⟩
 ·cases hw
theorem B2Z (h : H1 cx (.mk 9 nm num ty fr lb [a, b, c]) = some T) : H1 cx a = some S6 ∧ H1 cx b = some T ∧ H1 cx c = some T := by
 obtain ⟨us, hu, _, hn⟩ := A1b h
 rw [J2, if_neg (by omega)] at hu
 obtain ⟨x, y, z, hx, hy, hz, rfl⟩ := B2S hu
 obtain ⟨_, w, hw, hs⟩ := hn (by decide)
 unfold K0 at hw
 rw [if_neg (by omega), if_neg (by omega), if_neg (by omega), if_neg (by omega), if_neg (by omega), if_neg (by omega), if_pos rfl] at hw
 split at hw
 ·cases hw
  obtain ⟨h1, h2, h3⟩ := B2V hs
  simp only [List.getD_cons_zero, List.getD_cons_succ] at h2 h3 ⊢
  refine ⟨by rw [hx, h1], by rw [hy]; congr 1; exact h2.symm, by rw [hz]; congr 1; exact h3.symm⟩
 ·cases hw
theorem A8A (h : H1 cx (.mk 10 nm num ty fr lb [a, b]) = some T) : ∃ A B, H1 cx a = some A ∧ H1 cx b = some B ∧ T = .mk 5 [A, B] := by
 obtain ⟨us, hu, _, hn⟩ := A1b h
 rw [J2, if_neg (by omega)] at hu
 obtain ⟨x, y, hx, hy, rfl⟩ := A4w hu
 obtain ⟨_, w, hw, hs⟩ := hn (by decide)
 unfold K0 at hw
 rw [if_neg (by omega), if_neg (by omega), if_neg (by omega), if_neg (by omega), if_neg (by omega), if_neg (by omega), if_neg (by omega), if_pos rfl] at hw
 cases hw
 exact ⟨x, y, hx, hy, rfl⟩
theorem B20 {k : Int} (hk : k = 11 ∨ k = 12) (h : H1 cx (.mk k nm num ty fr lb [a]) = some T) : ∃ A B, H1 cx a = some (.mk 5 [A, B]) ∧ T = if k = 12 then B else A := by
 obtain ⟨us, hu, _, hn⟩ := A1b h
 rw [J2, if_neg (by omega)] at hu
 obtain ⟨x, hx, rfl⟩ := A3G hu
 obtain ⟨_, w, hw, hs⟩ := hn (by omega)
 unfold K0 at hw
 rw [if_neg (by omega), if_neg (by omega), if_neg (by omega), if_neg (by omega), if_neg (by omega), if_neg (by omega), if_neg (by omega), if_neg (by omega), if_neg (by omega)] at hw
 split at hw
 ·rename_i p q hm
  cases hw
  have h1 := B2U hs
  subst h1
  exact ⟨p, q, hx, rfl⟩
 ·cases hw
theorem A8B {k : Int} {A B : Ty} (hk : k = 11 ∨ k = 12) (hv : E4 (if k = 12 then B else A) = true) (h : H1 cx a = some (.mk 5 [A, B])) : H1 cx (.mk k nm num ty fr lb [a]) = some (if k = 12 then B else A) := by
 refine A5W (us := [.mk 5 [A, B]]) (w := [.mk 5 [A, B]]) (by rw [J2, if_neg (by omega)]; exact A5X h) (by omega) hv ?_ (A4y _)
 unfold K0
 rw [if_neg (by omega), if_neg (by omega), if_neg (by omega), if_neg (by omega), if_neg (by omega), if_neg (by omega), if_neg (by omega), if_neg (by omega), if_neg (by omega)]
 simp only [List.getD_cons_zero, A0W, if_true, List.getD_cons_succ]
theorem A3H (h : H1 cx (.mk 14 nm num ty fr lb [a]) = some T) : H1 cx a = some fr ∧ T = ty := by
 obtain ⟨us, hu, hn, _⟩ := A1b h
 obtain ⟨x, hx, rfl⟩ := A3G hu
 obtain ⟨h1, h2⟩ := hn rfl
 simp only [List.getD_cons_zero] at h1
 subst h1
 exact ⟨hx, h2⟩
theorem A1x (h : H1 cx a = some fr) : H1 cx (.mk 14 nm num ty fr lb [a]) = some ty := by
 rw [H1, show J2 cx 14 nm ty = cx from rfl, A5X h]
 simp only [if_true, List.getD_cons_zero, A37]
theorem A8C (h : H1 cx (.mk 5 nm num ty fr lb [a]) = some T) : ∃ B, H1 (cx ++ [(nm, ty)]) a = some B ∧ T = .mk 4 [ty, B] := by
 obtain ⟨us, hu, _, hn⟩ := A1b h
 rw [J2, if_pos rfl] at hu
 obtain ⟨x, hx, rfl⟩ := A3G hu
 obtain ⟨_, w, hw, hs⟩ := hn (by decide)
 unfold K0 at hw
 rw [if_neg (by omega), if_neg (by omega), if_neg (by omega), if_pos rfl] at hw
 cases hw
 exact ⟨x, hx, rfl⟩
theorem A8D (h : H1 cx (.mk 1 nm num ty fr lb []) = some T) : N2 cx nm = some T := by
 obtain ⟨us, hu, _, hn⟩ := A1b h
 obtain ⟨_, w, hw, hs⟩ := hn (by decide)
 unfold K0 at hw
 rw [if_pos rfl] at hw
 split at hw
 ·rename_i t ht; cases hw; exact ht
 ·cases hw
theorem B21 (h : H1 cx (.mk 2 nm num ty fr lb []) = some T) : T = P4 := by
 obtain ⟨us, hu, _, hn⟩ := A1b h
 obtain ⟨_, w, hw, hs⟩ := hn (by decide)
 cases hw; rfl
theorem B22 {k : Int} (hk : k = 3 ∨ k = 4) (h : H1 cx (.mk k nm num ty fr lb []) = some T) : T = S6 := by
 obtain ⟨us, hu, _, hn⟩ := A1b h
 obtain ⟨_, w, hw, hs⟩ := hn (by omega)
 rcases hk with rfl | rfl <;> (cases hw; rfl)
end inv
theorem A1c (cx : Cx) (x nm : ByteArray) (t : Ty) : N2 (cx ++ [(x, t)]) nm = if x = nm then some t else N2 cx nm := by
 unfold N2
 rw [List.length_append, show ([(x, t)] : Cx).length = 1 from rfl]
 have hl : (cx ++ [(x, t)])[cx.length]? = some (x, t) := by rw [List.getElem?_append_right (Nat.le_refl _)]; simp
 by_cases h : x = nm
 ·rw [A3e hl h, if_pos h]
 ·rw [A3f hl h, if_neg h]
  have : ∀ n, n ≤ cx.length → U1 (cx ++ [(x, t)]) nm n = U1 cx nm n := by
   intro n
   induction n with
   | zero => intro _; rfl
   | succ n ih =>
    intro hn
    rw [U1, U1, List.getElem?_append_left (by omega), ih (by omega)]
  exact this _ (Nat.le_refl _)
theorem B23 {cx cy : Cx} (h : ∀ x, N2 cx x = N2 cy x) (k : Int) (nm : ByteArray) (ty : Ty) : ∀ x, N2 (J2 cx k nm ty) x = N2 (J2 cy k nm ty) x := by
 intro x
 unfold J2
 split
 ·rw [A1c, A1c, h]
 ·exact h x
theorem A8E {cx cy : Cx} {k : Int} {nm : ByteArray} {ty : Ty} {h : List Ty} (he : N2 cx nm = N2 cy nm) : S1 cx k nm ty h = S1 cy k nm ty h := by
 unfold S1 K0
 rw [he]
mutual
theorem B24 : ∀ (e : Tm) (cx cy : Cx), (∀ x, N2 cx x = N2 cy x) → H1 cx e = H1 cy e
 | .mk k nm num ty fr lb ks, cx, cy, h => by
  rw [H1, H1, A5Z ks _ _ (B23 h k nm ty)]
  split
  ·rfl
  ·rw [A8E (h nm)]
theorem A5Z : ∀ (ts : List Tm) (cx cy : Cx), (∀ x, N2 cx x = N2 cy x) → L5 cx ts = L5 cy ts
 | [], _, _, _ => by rw [L5, L5]
 | t :: ts, cx, cy, h => by rw [L5, L5, B24 t cx cy h, A5Z ts cx cy h]
end
theorem B25 {cx cy : Cx} {k : Int} {nm : ByteArray} {ty : Ty} {h : List Ty} (hk : k ≠ 1) : K0 cx k nm ty h = K0 cy k nm ty h := by
 unfold K0
 rw [if_neg hk, if_neg hk]
theorem A8F {cx cy : Cx} {k : Int} {nm : ByteArray} {ty : Ty} {h : List Ty} (hk : k ≠ 1) : S1 cx k nm ty h = S1 cy k nm ty h := by
 unfold S1; rw [B25 (cy := cy) hk]
mutual
theorem A8G {x : ByteArray} {A : Ty} {v : Tm} (hv : H1 [] v = some A) : ∀ (e : Tm) (cx cy : Cx) (T : Ty), cv e → (∀ y, y ≠ x → N2 cx y = N2 cy y) → N2 cx x = some A → H1 cx e = some T → H1 cy (V8 x v e) = some T
 | .mk k nm num ty fr lb ks, cx, cy, T, hc, h, hx, ht => by
  have hkk := hc.node.2
  have hop := hc.node.1.ops
  rw [V8]
  by_cases h1 : k = 1 ∧ nm = x
  ·rw [if_pos h1]
   obtain ⟨rfl, rfl⟩ := h1
   have hks : ks = [] := List.length_eq_zero_iff.1 (by have : D0 1 = 0 := rfl; omega)
   subst hks
   have h2 := A8D ht
   rw [hx] at h2
   cases h2
   have h3 := A8s cy v [] A hv
   rwa [List.append_nil] at h3
  ·rw [if_neg h1]
   by_cases h5 : k = 5 ∧ nm = x
   ·rw [if_pos h5]
    obtain ⟨rfl, rfl⟩ := h5
    rw [H1] at ht ⊢
    rw [← A5Z ks (J2 cx 5 nm ty) (J2 cy 5 nm ty) (fun y => by
     rw [J2, J2, if_pos rfl, if_pos rfl, A1c, A1c]
     by_cases hy : nm = y
     ·rw [if_pos hy, if_pos hy]
     ·rw [if_neg hy, if_neg hy]; exact h y (fun e => hy e.symm))]
    split at ht
    ·cases ht
    ·rename_i us hu
     rw [A8F (cy := cx) (by decide)]
     exact ht
   ·rw [if_neg h5]
    rw [H1] at ht ⊢
    have hin : ∀ us, L5 (J2 cx k nm ty) ks = some us → L5 (J2 cy k nm ty) (T3 x v ks) = some us := by
     intro us hu
     refine A8H hv ks _ _ us hkk ?_ ?_ hu
     ·intro y hy
      unfold J2
      split
      ·rw [A1c, A1c, h y hy]
      ·exact h y hy
     ·unfold J2
      split
      ·rename_i hk
       rw [A1c, if_neg (fun e => h5 ⟨hk, e⟩)]; exact hx
      ·exact hx
    split at ht
    ·cases ht
    ·rename_i us hu
     rw [hin us hu]
     simp only at ht ⊢
     by_cases hk1 : k = 1
     ·subst hk1
      have hn : nm ≠ x := fun e => h1 ⟨rfl, e⟩
      rw [A8E (h nm hn)] at ht
      exact ht
     ·rw [A8F (cy := cx) hk1]
      exact ht
theorem A8H {x : ByteArray} {A : Ty} {v : Tm} (hv : H1 [] v = some A) : ∀ (ts : List Tm) (cx cy : Cx) (us : List Ty), (∀ t ∈ ts, cv t) → (∀ y, y ≠ x → N2 cx y = N2 cy y) → N2 cx x = some A → L5 cx ts = some us → L5 cy (T3 x v ts) = some us
 | [], cx, cy, us, _, _, _, hu => by rw [L5] at hu; cases hu; rw [T3, L5]
 | t :: ts, cx, cy, us, hc, h, hx, hu => by
  rw [L5] at hu
  split at hu
  ·cases hu
  ·rename_i T hT
   split at hu
   ·cases hu
   ·rename_i Ts hTs
    cases hu
    rw [T3, L5, A8G hv t cx cy T (hc t List.mem_cons_self) h hx hT, A8H hv ts cx cy Ts (fun u hu => hc u (List.mem_cons_of_mem _ hu)) h hx hTs]
end
mutual
def U8 (L : Int → Prop) : Tm → Prop
 | .mk k nm num ty fr lb ks => (k = 14 → L lb) ∧ A1d L ks
def A1d (L : Int → Prop) : List Tm → Prop
 | [] => True
 | t :: ts => U8 L t ∧ A1d L ts
end
theorem Z7 {L : Int → Prop} {k : Int} {nm : ByteArray} {num : Int} {ty fr : Ty} {lb : Int} {ks : List Tm} : U8 L (.mk k nm num ty fr lb ks) ↔ (k = 14 → L lb) ∧ A1d L ks := by rw [U8]
theorem A1y {L : Int → Prop} : ∀ {ts : List Tm}, A1d L ts ↔ ∀ t ∈ ts, U8 L t
 | [] => by simp [A1d]
 | t :: ts => by rw [A1d, A1y (ts := ts)]; simp
theorem A2i {L : Int → Prop} {e : Tm} {a b : Ty} {l : Int} (hl : L l) (h : U8 L e) : U8 L (J9 e a b l) := by
 rw [J9, Z7]; exact ⟨fun _ => hl, by simp [A1d, h]⟩
theorem A50 {L : Int → Prop} {k : Int} {ks : List Tm} (hk : k ≠ 14) (h : ∀ t ∈ ks, U8 L t) : U8 L (V9 k ks) := by
 rw [V9, Z7]; exact ⟨fun e => absurd e hk, A1y.2 h⟩
mutual
theorem A8I {L : Int → Prop} {x : ByteArray} {v : Tm} (hv : U8 L v) : ∀ t, U8 L t → U8 L (V8 x v t)
 | .mk k nm num ty fr lb ks, h => by
  rw [Z7] at h
  rw [V8]
  split
  ·exact hv
  ·split
   ·rw [Z7]; exact h
   ·rw [Z7]; exact ⟨h.1, A8J hv ks h.2⟩
theorem A8J {L : Int → Prop} {x : ByteArray} {v : Tm} (hv : U8 L v) : ∀ ts, A1d L ts → A1d L (T3 x v ts)
 | [], _ => by rw [T3]; trivial
 | t :: ts, h => by rw [T3, A1d]; exact ⟨A8I hv t h.1, A8J hv ts h.2⟩
end
theorem A2P {f : Tm} {U : Ty} (hv : E8 f = true) (ht : H1 [] f = some U) (hc : cv f) :
  (U.k = 2 → f.k = 2) ∧ (U.k = 3 → f.k = 3 ∨ f.k = 4) ∧ (U.k = 4 → f.k = 5 ∨ (O4 f = true ∧ f.ty.k = 4)) ∧ (U.k = 5 → f.k = 10 ∨ (O4 f = true ∧ f.ty.k = 5)) ∧ (U.k = 1 → inj f = true) := by
 obtain ⟨k, nm, num, ty, fr, lb, ks⟩ := f
 obtain ⟨hN, _⟩ := hc.node
 have hop := hN.ops
 rw [A0D, A3z]
 show (U.k = 2 → k = 2) ∧ (U.k = 3 → k = 3 ∨ k = 4) ∧ (U.k = 4 → k = 5 ∨ (_ ∧ ty.k = 4)) ∧ (U.k = 5 → k = 10 ∨ (_ ∧ ty.k = 5)) ∧ (U.k = 1 → _)
 by_cases h10 : k = 10
 ·subst h10
  obtain ⟨a, b, rfl⟩ := ks2 (ks := ks) (by have : D0 10 = 2 := rfl; omega)
  obtain ⟨A, B, _, _, rfl⟩ := A8A ht
  refine ⟨fun h => ?_, fun h => ?_, fun h => ?_, fun h => .inl rfl, fun h => ?_⟩ <;> (exfalso; simp [Ty.k, P4, S6] at h)
 by_cases h14 : k = 14
 ·subst h14
  obtain ⟨a, rfl⟩ := X0 (ks := ks) (by have : D0 14 = 1 := rfl; omega)
  obtain ⟨_, rfl⟩ := A3H ht
  by_cases hp : fr.k = U.k ∧ (U.k = 4 ∨ U.k = 5)
  ·refine ⟨fun h => by omega, fun h => by omega, fun h => .inr ⟨decide_eq_true ⟨rfl, hp⟩, h⟩, fun h => .inr ⟨decide_eq_true ⟨rfl, hp⟩, h⟩, fun h => by omega⟩
  ·by_cases hi : U.k = 1 ∧ S3 fr = true
   ·refine ⟨fun h => by omega, fun h => by omega, fun h => by omega, fun h => by omega, fun _ => ?_⟩
    rw [hi.2, decide_eq_true ⟨rfl, hi.1⟩]; rfl
   ·exfalso
    rw [E8, if_neg (by rintro (h | h | h); exact absurd h (by decide); exact hp h.2; exact hi h.2)] at hv
    exact absurd (of_decide_eq_true hv) (by decide)
 ·have hk : k = 2 ∨ k = 3 ∨ k = 4 ∨ k = 5 := by
   rw [E8, if_neg (by rintro (h | h | h); exact h10 h; exact h14 h.1; exact h14 h.1)] at hv
   exact of_decide_eq_true hv
  by_cases h5 : k = 5
  ·subst h5
   obtain ⟨a, rfl⟩ := X0 (ks := ks) (by have : D0 5 = 1 := rfl; omega)
   obtain ⟨B, _, rfl⟩ := A8C ht
   refine ⟨fun h => ?_, fun h => ?_, fun h => .inl rfl, fun h => ?_, fun h => ?_⟩ <;> (exfalso; simp [Ty.k, P4, S6] at h)
  ·have hks : ks = [] := List.length_eq_zero_iff.1 (by
    rcases hk with h | h | h | h
    ·subst h; have : D0 2 = 0 := rfl; omega
    ·subst h; have : D0 3 = 0 := rfl; omega
    ·subst h; have : D0 4 = 0 := rfl; omega
    ·exact absurd h h5)
   subst hks
   by_cases h2 : k = 2
   ·subst h2
    obtain rfl := B21 ht
    refine ⟨fun _ => rfl, fun h => ?_, fun h => ?_, fun h => ?_, fun h => ?_⟩ <;> (exfalso; simp [Ty.k, P4, S6] at h)
   ·have h34 : k = 3 ∨ k = 4 := by omega
    obtain rfl := B22 h34 ht
    refine ⟨fun h => ?_, fun _ => h34, fun h => ?_, fun h => ?_, fun h => ?_⟩ <;> (exfalso; simp [Ty.k, P4, S6] at h)
theorem A8K {k : Int} {nm : ByteArray} {num : Int} {ty fr : Ty} {lb : Int} {ks : List Tm} (h : O4 (.mk k nm num ty fr lb ks) = true) : k = 14 ∧ fr.k = ty.k ∧ (ty.k = 4 ∨ ty.k = 5) := by
 rw [A0D] at h; exact of_decide_eq_true h
def A2j (L : Int → Prop) (T : Ty) (r : Stp) : Prop := (r.2.1 = 1 ∧ H1 [] r.1 = some T ∧ U8 L r.1) ∨ (r.2.1 = 2 ∧ L r.2.2)
theorem A8L {t : Ty} (h : S3 t = true) : t = R9 t := by
 unfold S3 at h
 rw [Bool.and_eq_true] at h
 exact (A0d _ _).1 h.2
theorem B26 {t u : Ty} (h : t.k = u.k) : R9 t = R9 u := by unfold R9; rw [h]
theorem B27 (L : Int → Prop) (hL : ∀ l, L l → L (-l)) {k : Int} {nm : ByteArray} {num : Int} {ty fr : Ty} {lb : Int} {ks : List Tm} {T : Ty} (hc : cv (.mk k nm num ty fr lb ks))
  (h8 : k = 1 ∨ k = 6 ∨ k = 7 ∨ k = 8 ∨ k = 9 ∨ k = 11 ∨ k = 12 ∨ k = 14) (hnv : E8 (.mk k nm num ty fr lb ks) = false)
  (hval : ∀ i, i < (if k = 9 then 1 else ks.length) → (hl : i < ks.length) → E8 ks[i] = true)
  (ht : H1 [] (.mk k nm num ty fr lb ks) = some T) (hlb : U8 L (.mk k nm num ty fr lb ks)) : A2j L T (O2 k ty fr lb ks) := by
 obtain ⟨hN, hkk⟩ := hc.node
 have hop := hN.ops
 rw [Z7, A1y] at hlb
 obtain ⟨hl14, hlk⟩ := hlb
 have hTv := A8y hc ht
 unfold O2
 by_cases h6 : k = 6
 ·subst h6
  obtain ⟨f, v, rfl⟩ := ks2 (ks := ks) (by have : D0 6 = 2 := rfl; omega)
  obtain ⟨A, hf, hv⟩ := B2W ht
  have hcf := hkk f (by simp)
  have hcv := hkk v (by simp)
  have hlf := hlk f (by simp)
  have hlv := hlk v (by simp)
  have hvf : E8 f = true := hval 0 (by simp) (by simp)
  have hfv := A8y hcf hf
  rw [if_pos rfl]
  obtain ⟨_, _, hcan, _⟩ := A2P hvf hf hcf
  obtain ⟨fk, fnm, fnum, fty, ffr, flb, fks⟩ := f
  obtain ⟨hNf, hkf⟩ := hcf.node
  have hopf := hNf.ops
  rw [Z7, A1y] at hlf
  show A2j L T (if fk = 5 then (V8 fnm v (kd fks 0), 1, 0) else if O4 (.mk fk fnm fnum fty ffr flb fks) = true ∧ fty.k = 4 then (J9 (V9 6 [kd fks 0, J9 v (kt fty.ks 0) (kt ffr.ks 0) (-flb)]) (kt ffr.ks 1) (kt fty.ks 1) flb, 1, 0) else P5)
  by_cases h5 : fk = 5
  ·subst h5
   rw [if_pos rfl]
   obtain ⟨b, rfl⟩ := X0 (ks := fks) (by have : D0 5 = 1 := rfl; omega)
   obtain ⟨B, hb, hT⟩ := A8C hf
   cases hT
   refine .inl ⟨rfl, ?_, A8I hlv _ (hlf.2 b (by simp))⟩
   exact A8G hv b _ [] _ (hkf b (by simp)) (fun y hy => by rw [A1c, if_neg (fun e => hy e.symm)]) (by rw [A1c, if_pos rfl]) hb
  ·rw [if_neg h5]
   have hcan' : O4 (.mk fk fnm fnum fty ffr flb fks) = true ∧ fty.k = 4 := (hcan rfl).resolve_left h5
   rw [if_pos hcan']
   obtain ⟨rfl, hfk, _⟩ := A8K hcan'.1
   obtain ⟨g, rfl⟩ := X0 (ks := fks) (by have : D0 14 = 1 := rfl; omega)
   obtain ⟨hg, rfl⟩ := A3H hf
   obtain ⟨_, hv1, hv2⟩ := hNf.c14 rfl
   obtain ⟨frk, frs⟩ := ffr
   obtain rfl : frk = 4 := hfk.trans hcan'.2
   obtain ⟨C, D, rfl, hC, hD⟩ := A4x (.inl rfl) hv2
   have hfl := hlf.1 rfl
   refine .inl ⟨rfl, ?_, A2i hfl (A50 (by decide) (by
    intro t htm
    simp only [List.mem_cons, List.not_mem_nil, or_false] at htm
    rcases htm with rfl | rfl
    ·exact hlf.2 _ (by simp [kd])
    ·exact A2i (hL _ hfl) hlv))⟩
   exact A1x (B2X (A := C) hD hg (A1x hv))
 rw [if_neg h6]
 by_cases h7 : k = 7 ∨ k = 8
 ·obtain ⟨a, b, rfl⟩ := ks2 (ks := ks) (by rcases h7 with h | h <;> subst h <;> (first | (have : D0 7 = 2 := rfl; omega) | (have : D0 8 = 2 := rfl; omega)))
  obtain ⟨ha, hb, hT⟩ := B2Y h7 ht
  have hva : E8 a = true := hval 0 (by rw [if_neg (by omega)]; simp) (by simp)
  have hvb : E8 b = true := hval 1 (by rw [if_neg (by omega)]; simp) (by simp)
  have ha2 := (A2P hva ha (hkk a (by simp))).1 rfl
  have hb2 := (A2P hvb hb (hkk b (by simp))).1 rfl
  rw [if_pos h7, if_pos (show (kd [a, b] 0).k = 2 ∧ (kd [a, b] 1).k = 2 from ⟨ha2, hb2⟩)]
  by_cases hk7 : k = 7
  ·rw [if_pos hk7]
   rw [if_neg (by omega)] at hT
   subst hT
   exact .inl ⟨rfl, rfl, by rw [A1I, Z7]; exact ⟨fun e => absurd e (by decide), trivial⟩⟩
  ·rw [if_neg hk7]
   rw [if_pos (by omega)] at hT
   subst hT
   refine .inl ⟨rfl, ?_, ?_⟩
   ·unfold X7; split <;> rfl
   ·unfold X7; exact A50 (by split <;> decide) (by simp)
 rw [if_neg h7]
 by_cases h9 : k = 9
 ·subst h9
  obtain ⟨a, b, c, rfl⟩ := ks3 (ks := ks) (by have : D0 9 = 3 := rfl; omega)
  obtain ⟨ha, hb, hcc⟩ := B2Z ht
  have hva : E8 a = true := hval 0 (by simp) (by simp)
  have ha2 := (A2P hva ha (hkk a (by simp))).2.1 rfl
  rw [if_pos rfl]
  show A2j L T (if a.k = 3 then (b, 1, 0) else if a.k = 4 then (c, 1, 0) else P5)
  by_cases h3 : a.k = 3
  ·rw [if_pos h3]; exact .inl ⟨rfl, hb, hlk b (by simp)⟩
  ·rw [if_neg h3, if_pos (by omega)]; exact .inl ⟨rfl, hcc, hlk c (by simp)⟩
 rw [if_neg h9]
 by_cases h11 : k = 11 ∨ k = 12
 ·obtain ⟨a, rfl⟩ := X0 (ks := ks) (by rcases h11 with h | h <;> subst h <;> (first | (have : D0 11 = 1 := rfl; omega) | (have : D0 12 = 1 := rfl; omega)))
  obtain ⟨A, B, ha, hT⟩ := B20 h11 ht
  have hva : E8 a = true := hval 0 (by rw [if_neg (by omega)]; simp) (by simp)
  have hca := hkk a (by simp)
  have hla := hlk a (by simp)
  have ha2 := (A2P hva ha hca).2.2.2.1 rfl
  rw [if_pos h11]
  obtain ⟨fk, fnm, fnum, fty, ffr, flb, fks⟩ := a
  obtain ⟨hNf, hkf⟩ := hca.node
  have hopf := hNf.ops
  rw [Z7, A1y] at hla
  show A2j L T (if fk = 10 then (kd fks (k - 11).toNat, 1, 0) else if O4 (.mk fk fnm fnum fty ffr flb fks) = true ∧ fty.k = 5 then (J9 (V9 k [kd fks 0]) (kt ffr.ks (k - 11).toNat) (kt fty.ks (k - 11).toNat) flb, 1, 0) else P5)
  by_cases h10 : fk = 10
  ·subst h10
   rw [if_pos rfl]
   obtain ⟨x, y, rfl⟩ := ks2 (ks := fks) (by have : D0 10 = 2 := rfl; omega)
   obtain ⟨A', B', hx, hy, he⟩ := A8A ha
   cases he
   rcases h11 with rfl | rfl
   ·rw [if_neg (by decide)] at hT; subst hT; exact .inl ⟨rfl, hx, hla.2 x (by simp)⟩
   ·rw [if_pos rfl] at hT; subst hT; exact .inl ⟨rfl, hy, hla.2 y (by simp)⟩
  ·rw [if_neg h10]
   have hcan' : O4 (.mk fk fnm fnum fty ffr flb fks) = true ∧ fty.k = 5 := ha2.resolve_left h10
   rw [if_pos hcan']
   obtain ⟨rfl, hfk, _⟩ := A8K hcan'.1
   obtain ⟨g, rfl⟩ := X0 (ks := fks) (by have : D0 14 = 1 := rfl; omega)
   obtain ⟨hg, rfl⟩ := A3H ha
   obtain ⟨_, hv1, hv2⟩ := hNf.c14 rfl
   obtain ⟨frk, frs⟩ := ffr
   obtain rfl : frk = 5 := hfk.trans hcan'.2
   obtain ⟨C, D, rfl, hC, hD⟩ := A4x (.inr rfl) hv2
   have hfl := hla.1 rfl
   refine .inl ⟨rfl, ?_, A2i hfl (A50 (by omega) (by
    intro t htm
    simp only [List.mem_cons, List.not_mem_nil, or_false] at htm
    subst htm
    exact hla.2 _ (by simp [kd])))⟩
   have hg' : H1 [] (kd [g] 0) = some (.mk 5 [C, D]) := hg
   rcases h11 with rfl | rfl
   ·rw [if_neg (by decide)] at hT; subst hT
    exact A1x (A8B (k := 11) (.inl rfl) (by rw [if_neg (by decide)]; exact hC) hg')
   ·rw [if_pos rfl] at hT; subst hT
    exact A1x (A8B (k := 12) (.inr rfl) (by rw [if_pos rfl]; exact hD) hg')
 rw [if_neg h11]
 by_cases h14 : k = 14
 ·subst h14
  obtain ⟨a, rfl⟩ := X0 (ks := ks) (by have : D0 14 = 1 := rfl; omega)
  obtain ⟨ha, rfl⟩ := A3H ht
  have hva : E8 a = true := hval 0 (by simp) (by simp)
  have hca := hkk a (by simp)
  have hla := hlk a (by simp)
  have hlb := hl14 rfl
  obtain ⟨hcons, htv, hfv⟩ := hN.c14 rfl
  rw [if_pos rfl]
  have hnp : ¬(fr.k = T.k ∧ (T.k = 4 ∨ T.k = 5)) := by
   intro hh
   rw [A2M (.inr (.inl (by rw [A0D]; exact decide_eq_true ⟨rfl, hh⟩))), List.all_cons, hva] at hnv
   cases hnv
  by_cases h1 : fr.k = T.k
  ·rw [if_pos h1]
   refine .inl ⟨rfl, ?_, hla⟩
   show H1 [] a = some T
   rw [ha]
   obtain ⟨fk, fs⟩ := fr
   obtain ⟨tk, ts⟩ := T
   obtain rfl : fk = tk := h1
   obtain ⟨_, rfl⟩ := A8x hfv (fun e => hnp ⟨rfl, .inl e⟩) (fun e => hnp ⟨rfl, .inr e⟩)
   obtain ⟨_, rfl⟩ := A8x htv (fun e => hnp ⟨rfl, .inl e⟩) (fun e => hnp ⟨rfl, .inr e⟩)
   rfl
  ·rw [if_neg h1]
   by_cases h2 : T.k = 1
   ·rw [if_pos h2]
    exact .inl ⟨rfl, A1x (A1x ha), A2i hlb (A2i hlb hla)⟩
   ·rw [if_neg h2]
    by_cases h3 : S3 T = false
    ·rw [if_pos h3]
     exact .inl ⟨rfl, A1x (A1x ha), A2i hlb (A2i hlb hla)⟩
    ·rw [if_neg h3]
     have hfr1 : fr.k = 1 := by
      obtain ⟨fk, fs⟩ := fr
      obtain ⟨tk, ts⟩ := T
      rw [U9] at hcons
      simp only [Bool.or_eq_true, Bool.and_eq_true, decide_eq_true_eq] at hcons
      rcases hcons with (h | h) | h
      ·exact h
      ·exact absurd h h2
      ·exact absurd h.1 h1
     have hi := (A2P hva ha hca).2.2.2.2 hfr1
     rw [if_neg (by rw [show kd [a] 0 = a from rfl, hi]; decide)]
     have hg : S3 T = true := by cases h : S3 T with | true => rfl | false => exact absurd h h3
     obtain ⟨fk, fnm, fnum, fty, ffr, flb, fks⟩ := a
     obtain ⟨hNf, _⟩ := hca.node
     have hopf := hNf.ops
     rw [Z7, A1y] at hla
     have hgi := A5N hi
     obtain rfl : fk = 14 := A3A hi
     obtain ⟨g, rfl⟩ := X0 (ks := fks) (by have : D0 14 = 1 := rfl; omega)
     obtain ⟨hgt, _⟩ := A3H ha
     show A2j L T (if ffr.k = T.k then (kd [g] 0, 1, 0) else (J6, 2, lb))
     by_cases h4 : ffr.k = T.k
     ·rw [if_pos h4]
      refine .inl ⟨rfl, ?_, hla.2 g (by simp)⟩
      show H1 [] g = some T
      rw [hgt]
      congr 1
      exact (A8L hgi).trans ((B26 h4).trans (A8L hg).symm)
     ·rw [if_neg h4]
      exact .inr ⟨rfl, hlb⟩
 ·exfalso
  obtain rfl : k = 1 := by omega
  have hks : ks = [] := List.length_eq_zero_iff.1 (by have : D0 1 = 0 := rfl; omega)
  subst hks
  have := A8D ht
  simp [N2, U1] at this
theorem B28 {L : Int → Prop} {ks : List Tm} {i : Nat} {u : Tm} (h : ∀ t ∈ ks, U8 L t) (hu : U8 L u) : ∀ t ∈ ks.set i u, U8 L t := by
 intro t ht
 rcases List.mem_or_eq_of_mem_set ht with h1 | h1
 ·exact h t h1
 ·rw [h1]; exact hu
theorem B29 (L : Int → Prop) (hL : ∀ l, L l → L (-l)) : ∀ (e : Tm) (T : Ty), cv e → E8 e = false → H1 [] e = some T → U8 L e → A2j L T (I0 e) := by
 refine Tm.ind fun k nm num ty fr lb ks ih T hc hv ht hlb => ?_
 obtain ⟨hN, hkk⟩ := hc.node
 by_cases hall : ∀ i, i < (if k = 9 then 1 else ks.length) → (hl : i < ks.length) → E8 ks[i] = true
 ·have h8 := A5P hc hv hall
  have := B27 L hL hc h8 hv hall ht hlb
  rw [I0, A4r _ _ hall]
  exact this
 ·
  have hex : ∃ i, ∃ (hl : i < ks.length), i < (if k = 9 then 1 else ks.length) ∧ E8 ks[i] = false ∧ ∀ j, j < i → (h : j < ks.length) → E8 ks[j] = true := by
   have h0 : ∃ i, ∃ (hl : i < ks.length), i < (if k = 9 then 1 else ks.length) ∧ E8 ks[i] = false := by
    apply Classical.byContradiction
    intro hn
    exact hall fun i hi hl => by
     cases h : E8 ks[i] with
     | true => rfl
     | false => exact absurd ⟨i, hl, hi, h⟩ hn
   obtain ⟨i, h1⟩ := h0
   induction i using Nat.strongRecOn with
   | _ i ih2 =>
    obtain ⟨hl, hi, hvi⟩ := h1
    by_cases hj : ∃ j, j < i ∧ ∃ (h : j < ks.length), E8 ks[j] = false
    ·obtain ⟨j, hji, hjl, hjv⟩ := hj
     exact ih2 j hji ⟨hjl, by omega, hjv⟩
    ·refine ⟨i, hl, hi, hvi, fun j hji hjl => ?_⟩
     cases h : E8 ks[j] with
     | true => rfl
     | false => exact absurd ⟨j, hji, hjl, h⟩ hj
  obtain ⟨i, hl, hi, hvi, hbe⟩ := hex
  obtain ⟨s1, s2, s3⟩ := @A8j k nm num ty fr lb ks i hl hi hbe hvi
  have hk5 : k ≠ 5 := by
   rintro rfl
   rw [E8, if_neg (by omega)] at hv
   exact absurd hv (by decide)
  have hlb2 := (Z7.1 hlb).2
  rw [A1y] at hlb2
  rw [H1] at ht
  split at ht
  ·cases ht
  ·rename_i us hu
   rw [J2, if_neg hk5] at hu
   obtain ⟨U, hU, hset⟩ := A8u hu i hl
   have hg := ih ks[i] (List.getElem_mem hl) U (hkk _ (List.getElem_mem hl)) hvi hU (hlb2 _ (List.getElem_mem hl))
   unfold A2j
   rw [s1, s2]
   rcases hg with ⟨g1, g2, g3⟩ | ⟨g1, g2⟩
   ·refine .inl ⟨g1, ?_, ?_⟩
    ·rw [s3 g1, H1, J2, if_neg hk5, hset _ g2]
     exact ht
    ·rw [s3 g1, Z7]
     exact ⟨(Z7.1 hlb).1, A1y.2 (B28 hlb2 g3)⟩
   ·exact .inr ⟨g1, g2⟩
theorem A8M (L : Int → Prop) (hL : ∀ l, L l → L (-l)) (e : Tm) (T : Ty) (hc : O1 e = true) (ht : H1 [] e = some T) (hl : U8 L e) :
  (H5 e = (e, 0, 0) ∧ E8 e = true) ∨ (∃ l, H5 e = (J6, 2, l) ∧ L l) ∨ H5 e = (J6, 4, 0) ∨ (∃ u, H5 e = (u, 1, 0) ∧ O1 u = true ∧ H1 [] u = some T ∧ U8 L u) := by
 cases hv : E8 e with
 | true => exact .inl ⟨A3C hc hv, rfl⟩
 | false =>
  rcases B29 L hL e T (A1J hc).1 hv ht hl with ⟨g1, g2, g3⟩ | ⟨g1, g2⟩
  ·cases hcv : O1 (I0 e).1 with
   | false => exact .inr (.inr (.inl (A3E hc hv g1 hcv)))
   | true => exact .inr (.inr (.inr ⟨_, A3F hc hv g1 hcv, hcv, g2, g3⟩))
  ·exact .inr (.inl ⟨(I0 e).2.2, by rw [A3D hc hv (by omega), g1], g2⟩)
theorem A8N (L : Int → Prop) (hL : ∀ l, L l → L (-l)) : ∀ (n : Nat) (e : Tm) (T : Ty), O1 e = true → H1 [] e = some T → U8 L e →
  ((K7 n e).2.1 = 0 ∧ (K7 n e).2.2.1 = 0 ∧ H1 [] (K7 n e).1 = some T ∧ E8 (K7 n e).1 = true ∧ O1 (K7 n e).1 = true) ∨ ((K7 n e).2.1 = 2 ∧ L (K7 n e).2.2.1) ∨ ((K7 n e).2.1 = 4 ∧ (K7 n e).2.2.1 = 0) ∨ ((K7 n e).2.1 = 5 ∧ (K7 n e).2.2.1 = 0)
 | 0, e, T, hc, ht, hl => by
  rcases A8M L hL e T hc ht hl with ⟨h, hv⟩ | ⟨l, h, hl⟩ | h | ⟨u, h, hu1, hu2, hu3⟩
  ·simp [K7, h, ht, hv, hc]
  ·simp [K7, h, hl]
  ·simp [K7, h]
  ·simp [K7, h]
 | n + 1, e, T, hc, ht, hl => by
  rcases A8M L hL e T hc ht hl with ⟨h, hv⟩ | ⟨l, h, hl⟩ | h | ⟨u, h, hu1, hu2, hu3⟩
  ·simp [K7, h, ht, hv, hc]
  ·simp [K7, h, hl]
  ·simp [K7, h]
  ·have ih := A8N L hL n u T hu1 hu2 hu3
   simpa only [K7, h, if_true] using ih
mutual
theorem A8O : ∀ a b : Ty, J5 a b = true → J5 b a = true
 | .mk k ks, .mk k' ks', h => by
  rw [U9] at h ⊢
  simp only [Bool.or_eq_true, Bool.and_eq_true, decide_eq_true_eq] at h ⊢
  rcases h with (h | h) | h
  ·exact .inl (.inr h)
  ·exact .inl (.inl h)
  ·exact .inr ⟨h.1.symm, A8P ks ks' h.2⟩
theorem A8P : ∀ xs ys : List Ty, O3 xs ys = true → O3 ys xs = true
 | [], [], _ => rfl
 | [], b :: ys, h => by simp [O3] at h
 | a :: xs, [], h => by simp [O3] at h
 | a :: xs, b :: ys, h => by
  simp only [O3, Bool.and_eq_true] at h ⊢
  exact ⟨A8O a b h.1, A8P xs ys h.2⟩
end
mutual
theorem A8Q : ∀ a b : Ty, J5 a b = true → J5 a (U2 a b) = true ∧ J5 b (U2 a b) = true
 | .mk k ks, .mk k' ks', h => by
  rw [A2x]
  by_cases h1 : k = 1
  ·rw [if_pos h1]
   exact ⟨h, A1O _⟩
  ·rw [if_neg h1]
   by_cases h2 : k' = 1
   ·rw [if_pos h2]
    exact ⟨A1O _, A8O _ _ h⟩
   ·rw [if_neg h2]
    rw [U9] at h
    simp only [Bool.or_eq_true, Bool.and_eq_true, decide_eq_true_eq] at h
    have h3 : k = k' ∧ O3 ks ks' = true := by
     rcases h with (h | h) | h
     ·exact absurd h h1
     ·exact absurd h h2
     ·exact h
    obtain ⟨m1, m2⟩ := A8R ks ks' h3.2
    rw [U9, U9, m1, m2]
    simp [h3.1]
theorem A8R : ∀ xs ys : List Ty, O3 xs ys = true → O3 xs (T2 xs ys) = true ∧ O3 ys (T2 xs ys) = true
 | [], [], _ => ⟨rfl, rfl⟩
 | [], b :: ys, h => by simp [O3] at h
 | a :: xs, [], h => by simp [O3] at h
 | a :: xs, b :: ys, h => by
  simp only [O3, Bool.and_eq_true] at h
  obtain ⟨m1, m2⟩ := A8Q a b h.1
  obtain ⟨m3, m4⟩ := A8R xs ys h.2
  simp only [T2, O3, m1, m2, m3, m4]
  exact ⟨rfl, rfl⟩
end
theorem B3a {k : Int} {a b : Ty} (hk : k = 4 ∨ k = 5) (h : E4 (.mk k [a, b]) = true) : E4 a = true ∧ E4 b = true := by
 obtain ⟨x, y, he, h1, h2⟩ := A4x hk h
 cases he
 exact ⟨h1, h2⟩
theorem B3b {k : Int} (hk : k = 4 ∨ k = 5) : E4 (.mk k [P3, P3]) = true := by rcases hk with rfl | rfl <;> decide
theorem A8S {k : Int} {t a b : Ty} (hk : k = 4 ∨ k = 5) (ht : E4 t = true) (h : Q3 k t = some (a, b)) : E4 (.mk k [a, b]) = true ∧ J5 t (.mk k [a, b]) = true := by
 obtain ⟨tk, ks⟩ := t
 rw [A0W] at h
 by_cases he : tk = k
 ·subst he
  rw [if_pos rfl] at h
  obtain ⟨x, y, rfl, _, _⟩ := A4x hk ht
  cases h
  exact ⟨ht, A1O _⟩
 ·rw [if_neg he] at h
  by_cases h1 : tk = 1
  ·rw [if_pos h1] at h
   cases h
   refine ⟨B3b hk, ?_⟩
   rw [U9, h1]; rfl
  ·rw [if_neg h1] at h; cases h
structure Wt (cx : Cx) (k : Int) (nm : ByteArray) (ty : Ty) (h w : List Ty) (t : Ty) : Prop where
 len : w = [] ∨ w.length = h.length
 ok : ∀ i, (hi : i < w.length) → (hh : i < h.length) → J5 h[i] w[i] = true ∧ E4 w[i] = true
 again : k ≠ 13 → K0 cx k nm ty (if w = [] then h else w) = some (w, t)
 asT : k = 13 → w = [t]
theorem A51 {cx : Cx} {k : Int} {nm : ByteArray} {ty : Ty} {h w : List Ty} {t : Ty} (hh : ∀ a ∈ h, E4 a = true) (hty : k = 13 → E4 ty = true) (hn : D0 k = (h.length : Int)) (h14 : k ≠ 14) (hw : K0 cx k nm ty h = some (w, t)) : Wt cx k nm ty h w t := by
 have hkr := A3B (by rw [hn]; omega : 0 ≤ D0 k)
 have hkk : k = 1 ∨ k = 2 ∨ (k = 3 ∨ k = 4) ∨ k = 5 ∨ k = 6 ∨ (k = 7 ∨ k = 8) ∨ k = 9 ∨ k = 10 ∨ (k = 11 ∨ k = 12) ∨ k = 13 := by omega
 have nil : w = [] → k ≠ 13 → Wt cx k nm ty h w t := by
  rintro rfl h13
  exact ⟨.inl rfl, fun i hi => by simp at hi, fun _ => by rw [if_pos rfl]; exact hw, fun h => absurd h h13⟩
 rcases hkk with rfl | rfl | hk | rfl | rfl | hk | rfl | rfl | hk | rfl
 ·refine nil ?_ (by decide)
  rw [mW1] at hw; split at hw <;> cases hw; rfl
 ·refine nil ?_ (by decide)
  rw [mW2] at hw; cases hw; rfl
 ·refine nil ?_ (by omega)
  rw [A3v hk] at hw; cases hw; rfl
 ·refine nil ?_ (by decide)
  rw [mW5] at hw; cases hw; rfl
 ·match h, (show h.length = 2 by have : D0 6 = 2 := rfl; omega) with
  | [x, y], _ =>
  rw [mW6] at hw
  simp only [List.getD_cons_zero, List.getD_cons_succ] at hw
  split at hw
  ·rename_i a b hm
   split at hw
   ·rename_i hc
    cases hw
    obtain ⟨v1, v2⟩ := A8S (.inl rfl) (hh x (by simp)) hm
    obtain ⟨v3, v4⟩ := B3a (.inl rfl) v1
    refine ⟨.inr rfl, fun i hi hi2 => ?_, fun _ => ?_, fun h => absurd h (by decide)⟩
    ·match i, hi with
     | 0, _ => exact ⟨v2, v1⟩
     | 1, _ => exact ⟨hc, v3⟩
    ·rw [if_neg (by simp), mW6]
     simp only [List.getD_cons_zero, List.getD_cons_succ, A0W, if_true, A1O]
   ·cases hw
  ·cases hw
 ·match h, (show h.length = 2 by rcases hk with rfl | rfl <;> (first | (have : D0 7 = 2 := rfl; omega) | (have : D0 8 = 2 := rfl; omega))) with
  | [x, y], _ =>
  rw [U7 hk] at hw
  simp only [List.getD_cons_zero, List.getD_cons_succ] at hw
  split at hw
  ·rename_i hc
   cases hw
   refine ⟨.inr rfl, fun i hi hi2 => ?_, fun _ => ?_, fun h => by omega⟩
   ·match i, hi with
    | 0, _ => exact ⟨hc.1, (show E4 P4 = true by decide)⟩
    | 1, _ => exact ⟨hc.2, (show E4 P4 = true by decide)⟩
   ·rw [if_neg (by simp), U7 hk]
    simp only [List.getD_cons_zero, List.getD_cons_succ, A1O, and_self, if_true]
  ·cases hw
 ·match h, (show h.length = 3 by have : D0 9 = 3 := rfl; omega) with
  | [x, y, z], _ =>
  rw [mW9] at hw
  simp only [List.getD_cons_zero, List.getD_cons_succ] at hw
  split at hw
  ·rename_i hc
   cases hw
   obtain ⟨c1, c2⟩ := A8Q y z hc.2
   have vm := A5C y z 1 hc.2 (hh y (by simp)) (hh z (by simp))
   refine ⟨.inr rfl, fun i hi hi2 => ?_, fun _ => ?_, fun h => absurd h (by decide)⟩
   ·match i, hi with
    | 0, _ => exact ⟨hc.1, (show E4 S6 = true by decide)⟩
    | 1, _ => exact ⟨c1, vm⟩
    | 2, _ => exact ⟨c2, vm⟩
   ·rw [if_neg (by simp), mW9]
    simp only [List.getD_cons_zero, List.getD_cons_succ, A1O, and_self, if_true, A5Y]
  ·cases hw
 ·refine nil ?_ (by decide)
  rw [A4n] at hw; cases hw; rfl
 ·match h, (show h.length = 1 by rcases hk with rfl | rfl <;> (first | (have : D0 11 = 1 := rfl; omega) | (have : D0 12 = 1 := rfl; omega))) with
  | [x], _ =>
  rw [A2K hk] at hw
  simp only [List.getD_cons_zero] at hw
  split at hw
  ·rename_i a b hm
   cases hw
   obtain ⟨v1, v2⟩ := A8S (.inr rfl) (hh x (by simp)) hm
   refine ⟨.inr rfl, fun i hi hi2 => ?_, fun _ => ?_, fun h => by omega⟩
   ·match i, hi with
    | 0, _ => exact ⟨v2, v1⟩
   ·rw [if_neg (by simp), A2K hk]
    simp only [List.getD_cons_zero, List.getD_cons_succ, A0W, if_true]
  ·cases hw
 ·match h, (show h.length = 1 by have : D0 13 = 1 := rfl; omega) with
  | [x], _ =>
  rw [A2d] at hw
  simp only [List.getD_cons_zero] at hw
  split at hw
  ·rename_i hc
   cases hw
   refine ⟨.inr rfl, fun i hi hi2 => ?_, fun h => absurd rfl h, fun _ => rfl⟩
   match i, hi with
   | 0, _ => exact ⟨hc, hty rfl⟩
  ·cases hw
theorem B3c {l : Int} (h1 : 1 ≤ l) (h2 : l ≤ 99) : A0O l = true := by
 unfold A0O
 rw [A18.2 ⟨h1, h2⟩]; rfl
theorem B3d {u : Tm} {a b : Ty} {l D : Int} (hu : N5 40 13 u (D + 1) = true) (hc : J5 a b = true) (ha : E4 a = true) (hb : E4 b = true) (h1 : 1 ≤ l) (h2 : l ≤ 99) (hD : D ≤ 40) : N5 40 13 (J9 u a b l) D = true := by
 unfold J9
 rw [A03 hD (by decide) (U0.2 ⟨rfl, by simp, fun _ => rfl, by simp, fun _ => rfl, fun _ => hb, by simp, fun _ => ⟨by simp [A0N, ha, hb, hc], B3c h1 h2⟩, by simp⟩)]
 simp [N6, hu]
theorem A52 {cx : Cx} : ∀ (us : List Tm) (h w : List Ty) (l D : Int), us.length = h.length → w.length = h.length → (∀ i, (hi : i < w.length) → (hh : i < h.length) → J5 h[i] w[i] = true ∧ E4 w[i] = true) → (∀ a ∈ h, E4 a = true) → L5 cx us = some h → N6 40 13 us (D + 1) = true → 0 ≤ l → (F4 us h w l).2 ≤ 99 → D ≤ 40 →
  L5 cx (F4 us h w l).1 = some w ∧ N6 40 13 (F4 us h w l).1 D = true ∧ (E1 (F4 us h w l).1 : Int) = E1 us + ((F4 us h w l).2 - l)
 | [], [], [], l, D, _, _, _, _, ht, _, _, _, _ => by simp [F4, L5, N6, E1]
 | [], a :: h, w, l, D, hl, _, _, _, _, _, _, _, _ => by simp at hl
 | u :: us, [], w, l, D, hl, _, _, _, _, _, _, _, _ => by simp at hl
 | [], [], b :: w, l, D, _, hl, _, _, _, _, _, _, _ => by simp at hl
 | u :: us, a :: h, [], l, D, _, hl, _, _, _, _, _, _, _ => by simp at hl
 | u :: us, a :: h, b :: w, l, D, h1, h2, hw, hv, ht, hs, hl, h99, hD => by
  rw [L5] at ht
  split at ht
  ·cases ht
  ·rename_i a' ha
   split at ht
   ·cases ht
   ·rename_i h' hh'
    simp only [Option.some.injEq, List.cons.injEq] at ht
    obtain ⟨rfl, rfl⟩ := ht
    rw [N6, Bool.and_eq_true] at hs
    obtain ⟨c1, c2⟩ := hw 0 (by simp) (by simp)
    have hw' : ∀ i, (hi : i < w.length) → (hh : i < h'.length) → J5 h'[i] w[i] = true ∧ E4 w[i] = true := fun i hi hh => hw (i + 1) (by simpa using hi) (by simpa using hh)
    have hv' : ∀ x ∈ h', E4 x = true := fun x hx => hv x (List.mem_cons_of_mem _ hx)
    simp only [F4] at h99 ⊢
    by_cases he : N1 a' b = true
    ·simp only [if_pos he] at h99 ⊢
     obtain ⟨i1, i2, i3⟩ := A52 us h' w l D (by simpa using h1) (by simpa using h2) hw' hv' hh' hs.2 hl h99 hD
     have hab := (A0d _ _).1 he
     subst hab
     refine ⟨by rw [L5, ha, i1], ?_, ?_⟩
     ·rw [N6, Bool.and_eq_true]; exact ⟨A5V 40 13 u (D + 1) D (by omega) hs.1, i2⟩
     ·simp only [E1]; omega
    ·simp only [if_neg he] at h99 ⊢
     obtain ⟨i1, i2, i3⟩ := A52 us h' w (l + 1) D (by simpa using h1) (by simpa using h2) hw' hv' hh' hs.2 (by omega) h99 hD
     have hlab := A09 us h' w (l + 1)
     refine ⟨by rw [L5, J9, A1x ha, i1], ?_, ?_⟩
     ·rw [N6, Bool.and_eq_true]
      exact ⟨B3d hs.1 c1 (hv a' List.mem_cons_self) c2 (by omega) (by omega) hD, i2⟩
     ·simp only [E1, A1N]; omega
def A8T (cx : Cx) (t : Tm) (D l : Int) (u : Tm) (a : Ty) (l' : Int) : Prop := N5 40 13 u D = true ∧ H1 cx u = some a ∧ E4 a = true ∧ l ≤ l' ∧ l' + 1 ≤ l + (D1 t : Int) ∧ (D1 u : Int) ≤ D1 t + (l' - l)
theorem A53 (ks : List Tm) (ih : ∀ t ∈ ks, ∀ (d D : Int) (cx : Cx) (l : Int) (u : Tm) (a : Ty) (l' : Int), N5 12 14 t d = true → V0 cx → 0 ≤ l → M8 cx t l = some (u, a, l') → l' ≤ 99 → D + 2 * (13 - d) ≤ 41 → A8T cx t D l u a l') :
  ∀ (d D : Int) (cx : Cx) (l : Int) (us : List Tm) (h : List Ty) (l' : Int), N6 12 14 ks d = true → V0 cx → 0 ≤ l → M2 cx ks l = some (us, h, l') → l' ≤ 99 → D + 2 * (13 - d) ≤ 41 →
   N6 40 13 us D = true ∧ L5 cx us = some h ∧ (∀ a ∈ h, E4 a = true) ∧ l ≤ l' ∧ l' + ks.length ≤ l + (E1 ks : Int) ∧ (E1 us : Int) ≤ E1 ks + (l' - l) ∧ h.length = ks.length ∧ us.length = ks.length := by
 induction ks with
 | nil =>
  intro d D cx l us h l' _ _ _ he _ _
  simp only [M2, Option.some.injEq, Prod.mk.injEq] at he
  obtain ⟨rfl, rfl, rfl⟩ := he
  simp [N6, L5, E1]
 | cons t ts ihl =>
  intro d D cx l us h l' hs hcx hl he h99 hD
  rw [N6, Bool.and_eq_true] at hs
  rw [M2] at he
  split at he
  ·cases he
  ·rename_i u a l1 h1
   split at he
   ·cases he
   ·rename_i us' h' l2 h2
    simp only [Option.some.injEq, Prod.mk.injEq] at he
    obtain ⟨rfl, rfl, rfl⟩ := he
    have hp := B0v t
    
    have hmono : l1 ≤ l2 := by
     have : ∀ (zs : List Tm) (l : Int) us h l', M2 cx zs l = some (us, h, l') → l ≤ l' := by
      intro zs
      induction zs with
      | nil => intro l us h l' he; simp only [M2, Option.some.injEq, Prod.mk.injEq] at he; omega
      | cons z zs ihz =>
       intro l us h l' he
       rw [M2] at he
       split at he
       ·cases he
       ·rename_i u a l1 hz
        split at he
        ·cases he
        ·rename_i us' h' l2 hzs
         simp only [Option.some.injEq, Prod.mk.injEq] at he
         have := ihz _ _ _ _ hzs
         have := el_mono cx z l _ _ _ hz
         omega
     exact this ts l1 us' h' l2 h2
    obtain ⟨a1, a2, a3, a4, a5, a6⟩ := ih t List.mem_cons_self d D cx l u a l1 hs.1 hcx hl h1 (by omega) hD
    obtain ⟨b1, b2, b3, b4, b5, b6, b7, b8⟩ := ihl (fun x hx => ih x (List.mem_cons_of_mem _ hx)) d D cx l1 us' h' l2 hs.2 hcx (by omega) h2 h99 hD
    refine ⟨by rw [N6, a1, b1]; rfl, by rw [L5, a2, b2], ?_, by omega, ?_, ?_, by simp [b7], by simp [b8]⟩
    ·intro x hx
     rcases List.mem_cons.1 hx with h | h
     ·rw [h]; exact a3
     ·exact b3 x h
    ·simp only [E1, List.length_cons]; omega
    ·simp only [E1]; omega
where
 el_mono (cx : Cx) : ∀ (z : Tm) (l : Int) (u : Tm) (a : Ty) (l' : Int), M8 cx z l = some (u, a, l') → l ≤ l' := by
  intro z
  revert cx
  refine Tm.ind (C := fun z => ∀ (cx : Cx) (l : Int) (u : Tm) (a : Ty) (l' : Int), M8 cx z l = some (u, a, l') → l ≤ l') ?_ z
  intro k nm num ty fr lb ks ih cx l u a l' he
  rw [M8] at he
  have hL : ∀ (zs : List Tm), (∀ t ∈ zs, t ∈ ks) → ∀ (cx : Cx) (l : Int) us h l', M2 cx zs l = some (us, h, l') → l ≤ l' := by
   intro zs
   induction zs with
   | nil => intro _ cx l us h l' he; simp only [M2, Option.some.injEq, Prod.mk.injEq] at he; omega
   | cons z zs ihz =>
    intro hin cx l us h l' he
    rw [M2] at he
    split at he
    ·cases he
    ·rename_i u a l1 hz
     split at he
     ·cases he
     ·rename_i us' h' l2 hzs
      simp only [Option.some.injEq, Prod.mk.injEq] at he
      have := ihz (fun t ht => hin t (List.mem_cons_of_mem _ ht)) _ _ _ _ _ hzs
      have := ih z (hin z List.mem_cons_self) _ l _ _ _ hz
      omega
  split at he
  ·cases he
  ·rename_i us h l1 hk
   have h1 := hL ks (fun _ h => h) _ _ _ _ _ hk
   unfold A0V at he
   split at he
   ·cases he
   ·rename_i w t hn
    simp only [Option.some.injEq, Prod.mk.injEq] at he
    have := A09 us h w l1
    omega
theorem B3e : ∀ (t : Tm) (d D : Int) (cx : Cx) (l : Int) (u : Tm) (a : Ty) (l' : Int), N5 12 14 t d = true → V0 cx → 0 ≤ l → M8 cx t l = some (u, a, l') → l' ≤ 99 → D + 2 * (13 - d) ≤ 41 → A8T cx t D l u a l' := by
 refine Tm.ind fun k nm num ty fr lb ks ih d D cx l u a l' hs hcx hl he h99 hD => ?_
 obtain ⟨hd, h14, h3, h4⟩ := A0z hs
 obtain ⟨n1, n2, n3, n4, n5, n6, n7, n8, n9⟩ := U0.1 h3
 rw [M8] at he
 split at he
 ·cases he
 ·rename_i us h l1 hL
  unfold A0V at he
  split at he
  ·cases he
  ·rename_i w t hN
   simp only [Option.some.injEq, Prod.mk.injEq] at he
   obtain ⟨hu, rfl, rfl⟩ := he
   have hlab := A09 us h w l1
   obtain ⟨b1, b2, b3, b4, b5, b6, b7, b8⟩ := A53 ks ih (d + 1) (D + 2) (J2 cx k nm ty) l us h l1 h4 (A2G hcx fun hk => n6 (.inl hk)) hl hL (by omega) (by omega)
   obtain ⟨hv, hw⟩ := A3w hN
   have hwt := A51 b3 (fun hk => n6 (.inr (.inl hk))) (by rw [b7]; exact n1) h14 hw
   
   obtain ⟨c1, c2, c3⟩ : L5 (J2 cx k nm ty) (F4 us h w l1).1 = some (if w = [] then h else w) ∧ N6 40 13 (F4 us h w l1).1 (D + 1) = true ∧ (E1 (F4 us h w l1).1 : Int) = E1 us + ((F4 us h w l1).2 - l1) := by
    rcases hwt.len with hn | hn
    ·subst hn
     rw [A0q, if_pos rfl]
     refine ⟨b2, ?_, by simp⟩
     exact A4v 40 13 us (D + 2) (D + 1) (by omega) b1
    ·by_cases hn0 : w = []
     ·subst hn0
      rw [A0q, if_pos rfl]
      refine ⟨b2, ?_, by simp⟩
      exact A4v 40 13 us (D + 2) (D + 1) (by omega) b1
     ·rw [if_neg hn0]
      exact A52 us h w l1 (D + 1) (by omega) hn hwt.ok b3 b2 (by rw [show D + 1 + 1 = D + 2 by omega]; exact b1) (by omega) h99 (by omega)
   have hlm := A1w us h w l1
   have hck : D1 (.mk k nm num ty fr lb ks) = E1 ks + 1 := W6 ..
   refine ⟨?_, ?_, hv, by omega, by rw [hck]; omega, ?_⟩
   ·rw [← hu]
    split
    ·rename_i hk
     have hl1 : ks.length = 1 := by rw [hk] at n1; have : D0 13 = 1 := rfl; omega
     have h0 : 0 < (F4 us h w l1).1.length := by omega
     rw [getD0' h0]
     have := (A0T 40 13 _ _).1 c2 0 h0
     exact A5V 40 13 _ (D + 1) D (by omega) this
    ·rename_i hk
     rw [A03 (by omega) hk (by rw [hlm, b8]; exact h3)]
     exact c2
   ·rw [← hu]
    split
    ·rename_i hk
     have hl1 : ks.length = 1 := by rw [hk] at n1; have : D0 13 = 1 := rfl; omega
     have h0 : 0 < (F4 us h w l1).1.length := by omega
     rw [getD0' h0]
     rw [hwt.asT hk, if_neg (by simp)] at c1
     rw [J2, if_neg (by omega)] at c1
     rw [← hwt.asT hk] at c1
     obtain ⟨x, hx⟩ : ∃ x, (F4 us h w l1).1 = [x] := by
      match hm : (F4 us h w l1).1, (show (F4 us h w l1).1.length = 1 by omega) with
      | [x], _ => exact ⟨x, rfl⟩
     simp only [hx, List.getElem_cons_zero] at c1 ⊢
     obtain ⟨y, hy, he⟩ := A3G c1
     rw [hwt.asT hk] at he
     cases he; exact hy
    ·rename_i hk
     refine A5W c1 h14 hv (hwt.again hk) ?_
     by_cases hn0 : w = []
     ·rw [hn0]; rfl
     ·rw [if_neg hn0]; exact A4y w
   ·rw [← hu, hck]
    split
    ·rename_i hk
     have hl1 : ks.length = 1 := by rw [hk] at n1; have : D0 13 = 1 := rfl; omega
     have h0 : 0 < (F4 us h w l1).1.length := by omega
     rw [getD0' h0]
     have := A45 (List.getElem_mem h0)
     omega
    ·rw [W6]; omega
where
 getD0' {us : List Tm} (h : 0 < us.length) : us.getD 0 J6 = us[0] := by rw [List.getD_eq_getElem?_getD, List.getElem?_eq_getElem h, Option.getD_some]
theorem A8U : ∀ (t : Tm) (d : Int) (cx : Cx) (l : Int) (u : Tm) (a : Ty) (l' : Int), N5 12 14 t d = true → M8 cx t l = some (u, a, l') → l' + 1 ≤ l + (D1 t : Int) := by
 refine Tm.ind fun k nm num ty fr lb ks ih d cx l u a l' hs he => ?_
 obtain ⟨hd, h14, h3, h4⟩ := A0z hs
 obtain ⟨n1, _⟩ := U0.1 h3
 have hL : ∀ (zs : List Tm), (∀ t ∈ zs, t ∈ ks) → N6 12 14 zs (d + 1) = true → ∀ (cx : Cx) (l : Int) us h l', M2 cx zs l = some (us, h, l') → l' + zs.length ≤ l + (E1 zs : Int) ∧ us.length = zs.length := by
  intro zs
  induction zs with
  | nil => intro _ _ cx l us h l' he; simp only [M2, Option.some.injEq, Prod.mk.injEq] at he; obtain ⟨rfl, _, rfl⟩ := he; simp [E1]
  | cons z zs ihz =>
   intro hin hsz cx l us h l' he
   rw [N6, Bool.and_eq_true] at hsz
   rw [M2] at he
   split at he
   ·cases he
   ·rename_i u a l1 hz
    split at he
    ·cases he
    ·rename_i us' h' l2 hzs
     simp only [Option.some.injEq, Prod.mk.injEq] at he
     obtain ⟨rfl, rfl, rfl⟩ := he
     have h5 := ihz (fun t ht => hin t (List.mem_cons_of_mem _ ht)) hsz.2 _ _ _ _ _ hzs
     have h6 := ih z (hin z List.mem_cons_self) (d + 1) _ l _ _ _ hsz.1 hz
     simp only [E1, List.length_cons]
     exact ⟨by omega, by omega⟩
 rw [M8] at he
 split at he
 ·cases he
 ·rename_i us h l1 hk
  obtain ⟨g1, g2⟩ := hL ks (fun _ h => h) h4 _ _ _ _ _ hk
  unfold A0V at he
  split at he
  ·cases he
  ·rename_i w t hn
   simp only [Option.some.injEq, Prod.mk.injEq] at he
   have := A09 us h w l1
   have hck : D1 (.mk k nm num ty fr lb ks) = E1 ks + 1 := W6 ..
   rw [hck]; omega
theorem A54 {e u : Tm} {t : Ty} (h : U3 e = some (u, t)) : O1 u = true ∧ H1 [] u = some t ∧ E4 t = true := by
 unfold U3 at h
 split at h
 ·rename_i hv
  obtain ⟨h1, h2⟩ := (A04 e).1 hv
  split at h
  ·rename_i u' t' l' he
   cases h
   have hl : l' ≤ 99 := by
    have := A53.el_mono [] e 0 _ _ _ he
    have h3 : ∀ (t : Tm) (cx : Cx) (l : Int) (u : Tm) (a : Ty) (l' : Int), M8 cx t l = some (u, a, l') → l' ≤ l + 4 * (D1 t : Int) → True := fun _ _ _ _ _ _ _ _ => trivial
    exact el_lab e 1 h1 (by omega) he
   obtain ⟨g1, g2, g3, g4, g5, g6⟩ := B3e e 1 1 [] 0 u t l' h1 A2F (by omega) he hl (by omega)
   exact ⟨(A5p u).2 ⟨g1, by omega⟩, g2, g3⟩
  ·cases h
 ·cases h
where
 el_lab (e : Tm) (d : Int) (h1 : N5 12 14 e d = true) (h2 : D1 e ≤ 30) {u : Tm} {t : Ty} {l' : Int} (he : M8 [] e 0 = some (u, t, l')) : l' ≤ 99 := by
  have := A8U e d [] 0 u t l' h1 he
  omega
def A0Y (r : Option (Tm × Ty)) : IM → Value → List A6 → Prop := L8 fun G' v => ∃ cu ct, v = .tuple ⟨[.agg ⟨cu⟩, .agg ⟨ct⟩, .bool r.isSome]⟩ ∧ B0 G' (r.getD (J6, B4)).1 cu ∧ B7 G' (r.getD (J6, B4)).2 ct
theorem A0Y.no {G : IM} {r : Option (Tm × Ty)} {cu ct : List Value} (h : r = none) (hu : B0 G J6 cu) (ht : B7 G B4 ct) : A0Y r G (.tuple ⟨[.agg ⟨cu⟩, .agg ⟨ct⟩, .bool false]⟩) [] := by subst h; exact ⟨rfl, cu, ct, rfl, hu, ht⟩
theorem A0Y.yes {G : IM} {r : Option (Tm × Ty)} {u : Tm} {t : Ty} {cu ct : List Value} (h : r = some (u, t)) (hu : B0 G u cu) (ht : B7 G t ct) : A0Y r G (.tuple ⟨[.agg ⟨cu⟩, .agg ⟨ct⟩, .bool true]⟩) [] := by subst h; exact ⟨rfl, cu, ct, rfl, hu, ht⟩
theorem A8V {e : Tm} (h : P9 e = false) : U3 e = none := by unfold U3; rw [if_neg (by rw [h]; decide)]
theorem A8W {e : Tm} (h : P9 e = true) (h2 : M8 [] e 0 = none) : U3 e = none := by unfold U3; rw [if_pos h, h2]
theorem A8X {e u : Tm} {t : Ty} {l : Int} (h : P9 e = true) (h2 : M8 [] e 0 = some (u, t, l)) : U3 e = some (u, t) := by unfold U3; rw [if_pos h, h2]
theorem B3f (e : Tm) (G : IM) (cells : List Value) (hr : B0 G e cells) : Fn Tryz.prog 43 [.agg ⟨cells⟩] [] G (A0Y (U3 e)) := by
 have hRl := hr.len
 have hRo := hr.one
 have hV := A7c e G cells hr
 have hno := @A8V e
 have hnn := @A8W e
 have hso := @A8X e
 refine C0 Tryz.func43 rfl Tryz.ntmps43 Tryz.results43 rfl ?_
 intro w0
 refine tS (tR ?_)
 refine sE (C5 rfl rfl) rfl (fun b3 => ?_)
 refine sE (A7 rfl) rfl (fun b4 => ?_)
 refine sE (A7 rfl) rfl (fun b5 => ?_)
 refine sQ (qA rfl) rfl (sD (nS (tS (tS (tR ?_)))))
 refine sL (A5 rfl rfl (B2 (by repeat first | exact mH | apply mT)) hRl) rfl rfl ?_
 refine E7 rfl (hV) rfl rfl (fun h13 => ?_) (fun h13 => ?_)
 refine sQ (K4 rfl) rfl (sD (nS (cF rfl (tK (nS (tS (tR (sQ (H6 rfl rfl) rfl ?_))))))))
 refine sE (C5 rfl rfl) rfl (fun b23 => ?_)
 refine sL (A5 rfl rfl (B2 (by repeat first | exact mH | apply mT)) hRl) rfl rfl ?_
 focus (have htv : P9 e = true := (by assumption); obtain ⟨hsh, hcn⟩ := (A04 e).1 htv; refine I8 rfl (B2M _ e 1 [] 0 G none 0 0 _ hsh (by omega) A2F (R3.nil G) hr (by omega) (by omega)) (Pk.perm (by repeat (first | exact Pk.here | apply Pk.there))) rfl rfl (fun v G1 outs hle1 hh => ?_); obtain ⟨u, uc, t, tc, l3, rfl, rfl, hru, hrt, hl3, hl4, hu⟩ := hh; have hul := hru.len; have huo := hru.one; obtain ⟨p3, c3, e3, rfl, _⟩ := hrt.open; have hnn := hnn htv; have hso := @hso u t l3 htv; rcases hE : M8 [] e 0 with _ | ⟨u2, t2, l2⟩; rotate_left; have hue := hu _ hE; simp only [Prod.mk.injEq] at hue; obtain ⟨rfl, rfl, rfl⟩ := hue; have hso := hso hE; obtain ⟨hg1, hg2, hg3⟩ := A54 hso; rotate_left; simp only [Option.isSome]; rotate_left; simp only [Option.isSome])
 refine sQ (qM rfl) rfl (sQ (pX rfl rfl) rfl (sQ (pX rfl rfl) rfl (sQ (pX rfl rfl) rfl ?_)))
 refine sE (A7 rfl) rfl (fun b30 => ?_)
 refine sE (A7 rfl) rfl (fun b31 => ?_)
 refine sS rfl rfl rfl hul huo rfl ?_ (hu := by exact D5 hul.symm)
 refine B1 ?_
 refine sQ (qA rfl) rfl (sD (nS (tS (tS (tR (sQ (qM rfl) rfl (sQ (K4 rfl) rfl (sD (nS (cF rfl (tK (nS (tS ?_)))))))))))))
 refine D4 D6 rfl ?_
 refine K2 (i := 0) (l' := [tt,ff,ff,ff,ff,ff,ff]) rfl C9 (A5 rfl rfl (B2 (by repeat first | exact mH | apply mT)) hul) rfl (by kernel_rfl) rfl rfl ?_
 refine aL 2 rfl (A2 rfl rfl) rfl ?_
 refine A4 1 ?_
 (refine F0 rfl rfl (A5n _ _ _ (A4s hg1) hru) rfl rfl rfl (fun v G2 hle2 hh => ?_); obtain ⟨cs2, F2, rfl, hs2, hn2⟩ := hh; have hwl := hs2.R.len; have hwo := hs2.R.one; have hr2 := hs2.R.mono (C4.le G2 G1); replace hrt := hrt.mono hle2)
 refine A4 3 ?_
 (refine F0 rfl rfl (A12 _ _ _ (A2h hg3).small hrt) rfl rfl rfl (fun v G3 hle3 hh => ?_); obtain ⟨cs3, F3, rfl, hs3, hn3⟩ := hh; obtain ⟨p4, c4, rfl, _⟩ := hs3.open; have hr3 := hs3.R.mono (C4.le G3 G2); replace hr2 := hr2.mono hle3)
 refine A4 4 ?_
 refine oS rfl rfl rfl rfl hwl hwo rfl rfl ?_ (hu := by exact D5 hwl.symm)
 refine A4 5 ?_
 refine oS rfl rfl rfl rfl rfl rfl rfl rfl ?_
 refine aP 6 rfl (qA rfl) rfl ?_
 refine B5 (nS (tT ?_))
 refine C8 (rC rfl (A5 rfl rfl (B2 (by repeat first | exact mH | apply mT)) hwl)) (rC rfl (A2 rfl rfl)) (rT rfl) ?_
 (exact A0Y.yes hso hr2 hr3)
 refine sQ (qM rfl) rfl (sQ (pX rfl rfl) rfl (sQ (pX rfl rfl) rfl (sQ (pX rfl rfl) rfl ?_)))
 refine sE (A7 rfl) rfl (fun b69 => ?_)
 refine sE (A7 rfl) rfl (fun b70 => ?_)
 refine sS rfl rfl rfl hul huo rfl ?_ (hu := by exact D5 hul.symm)
 refine A0L ?_
 refine C8 (rC rfl (A2 rfl rfl)) (rC rfl (A2 rfl rfl)) (rT rfl) ?_
 (exact A0Y.no (hnn hE) (L3 _) (M1 _ ⟨by omega, by omega⟩))
 refine L9 ?_
 refine C8 (rC rfl (A2 rfl rfl)) (rC rfl (A2 rfl rfl)) (rT rfl) ?_
 (exact A0Y.no (hno (by assumption)) (L3 _) (M1 _ ⟨by omega, by omega⟩))
def A0h (e : Tm) : Option Ty := match U3 e with | some (_, t) => some t | none => none
theorem B3g {e : Tm} (h : P9 e = false) : A0h e = none := by unfold A0h; rw [A8V h]
section
variable {ak bk : Int} {aks bks : List Ty}
theorem B3h (h : ak ≠ bk) : N1 (.mk ak aks) (.mk bk bks) = false := by rw [A11, decide_eq_false h]; rfl
theorem B3i (h : aks.length ≠ bks.length) : N1 (.mk ak aks) (.mk bk bks) = false := by
 rw [A11]
 cases hl : Y3 aks bks with
 | false => simp
 | true => exact absurd ((A3d _ _).1 hl).1 h
theorem B3j {i : Nat} (hi : i < aks.length) (hi' : i < bks.length) (h : N1 aks[i] bks[i] = false) : N1 (.mk ak aks) (.mk bk bks) = false := by
 rw [A11]
 cases hl : Y3 aks bks with
 | false => simp
 | true => have := ((A3d _ _).1 hl).2 i hi hi'; rw [h] at this; cases this
theorem B3k (hk : ak = bk) (hl : aks.length = bks.length) (h : ∀ i, (h : i < aks.length) → (h' : i < bks.length) → N1 aks[i] bks[i] = true) : N1 (.mk ak aks) (.mk bk bks) = true := by
 rw [A11, decide_eq_true hk, (A3d _ _).2 ⟨hl, h⟩]; rfl
end
theorem A8Y : ∀ (a b : Ty) (G : IM) (ca cb : List Value), B7 G a ca → B7 G b cb → Fn Tryz.prog 98 [.agg ⟨ca⟩, .agg ⟨cb⟩] [] G (H4 (.bool (N1 a b)) G) := by
 refine Ty.ind fun ak aks ih b G ca cb hra hrb => ?_
 obtain ⟨bk, bks⟩ := b
 obtain ⟨pa, cca, ea, rfl, hak, hsla, hkla⟩ := hra.open
 obtain ⟨pb, ccb, eb, rfl, hbk, hslb, hklb⟩ := hrb.open
 simp only [Ty.k, Ty.ks] at hak hsla hkla hbk hslb hklb ⊢
 have hna := hsla.le
 have hnb := hslb.le
 have e1 := @B3h ak bk aks bks
 have e2 := @B3i ak bk aks bks
 have e3 := fun i => @B3j ak bk aks bks i
 have e4 := @B3k ak bk aks bks
 generalize N1 (.mk ak aks) (.mk bk bks) = R at e1 e2 e3 e4 ⊢
 refine C0 Tryz.func98 rfl Tryz.ntmps98 Tryz.results98 rfl ?_
 intro w0
 refine tS (tR ?_)
 refine sE (C5 rfl rfl) rfl (fun b3 => ?_)
 refine sE (C5 rfl rfl) rfl (fun b4 => ?_)
 refine A3U ?_
 refine sB (N9 rfl rfl) rfl rfl (fun h15 => ?_) (fun h15 => ?_)
 refine A0b ?_
 (exact ⟨rfl, by rw [e1 (by omega)], rfl⟩)
 refine wk7 ?_
 refine sB (N9 rfl rfl) rfl rfl (fun h44 => ?_) (fun h44 => ?_)
 refine sQ (D7 rfl rfl) rfl (sD (nS (qT rfl (tS (tR (sQ (qA rfl) rfl (sD (nS (tT (rS (A9 (rT rfl) ?_)))))))))))
 (exact ⟨rfl, by rw [e2 (by omega)], rfl⟩)
 refine sQ (D7 rfl rfl) rfl (sD (nS (cF rfl (tK (nS (tS (tS (tR (sQ (qA rfl) rfl (sD (nS ?_)))))))))))
 refine B9 ?_
 (refine J4 (fun (i : Nat) => ⟨[(5, .int .i64 i), (2, .pointer (some ⟨b3, 0, none⟩)), (3, .pointer (some ⟨b4, 0, none⟩))], [.blk b4 [.int .i64 bk, .slice pb bks.length ccb], .blk b3 [.int .i64 ak, .slice pa aks.length cca]], G⟩) (fun i => i ≤ aks.length ∧ ∀ j, (h : j < aks.length) → (h' : j < bks.length) → j < i → N1 aks[j] bks[j] = true) (fun i => aks.length - i) 0 ?_ ?_ ?_)
 exact D9
 (exact ⟨Nat.zero_le _, fun j _ _ hj => absurd hj (Nat.not_lt_zero j)⟩)
 (rintro i ⟨hi, hall⟩)
 refine tS (tS (tR (sQ (qM rfl) rfl (sQ (A0 rfl) rfl (sL (A3 rfl rfl) rfl rfl (sQ (H8 rfl rfl) rfl ?_))))))
 refine sB (J1 rfl rfl) rfl rfl (fun h82 => ?_) (fun h82 => ?_)
 refine sD (nS (qT rfl (tK (nS (tS ?_)))))
 refine B9 ?_
 refine tS ?_
 (obtain ⟨b, o, q0, d0, hp0, hat0, hre0, hg0⟩ := hsla.kidTy hkla (i := i) (by omega) (by omega); obtain ⟨b', o', q1, d1, hp1, hat1, hre1, hg1⟩ := hslb.kidTy hklb (i := i) (by omega) (by omega); subst hp0; subst hp1; have hih := ih aks[i] (List.getElem_mem (by omega)) bks[i] G _ _ hre0 hre1; refine D4 D6 rfl ?_)
 refine I6 (i := 0) (l' := [tt,ff,ff,ff,ff,ff,ff,ff,ff,ff,ff,ff]) rfl C9 (A0 rfl) rfl (by kernel_rfl) rfl rfl ?_
 refine aL 1 rfl (A3 rfl rfl) rfl ?_
 refine aP 2 rfl (qM rfl) rfl ?_
 refine aP 3 rfl (B3 rfl rfl rfl (by omega)) rfl ?_
 refine aL 4 rfl (A5 rfl rfl (hat0 _) rfl) rfl ?_
 refine aP 5 rfl (A0 rfl) rfl ?_
 refine aL 6 rfl (A3 rfl rfl) rfl ?_
 refine aP 7 rfl (qM rfl) rfl ?_
 refine aP 8 rfl (B3 rfl rfl rfl (by omega)) rfl ?_
 refine aL 9 rfl (A5 rfl rfl (hat1 _) rfl) rfl ?_
 refine A4 10 ?_
 refine S4 rfl rfl (hih) rfl rfl rfl (fun h103 => ?_) (fun h103 => ?_)
 refine aP 11 rfl (K4 rfl) rfl ?_
 refine B5 (nS (cF rfl (tK (E3 (nS (tR (sQ (qM rfl) rfl ?_)))))))
 refine sP (I7 rfl rfl (by omega) (by omega)) rfl rfl ?_
 refine sQ (qA rfl) rfl (sD ?_)
 refine J3 (i + 1) ?_ ?_ ?_
 exact D9
 (exact ⟨by omega, fun j h h' hj => by by_cases hji : j = i; (subst hji; assumption); exact hall j h h' (by omega)⟩)
 omega
 refine aP 11 rfl (N8 rfl) rfl ?_
 refine B5 (nS (qT rfl (tS (tR (sQ (qA rfl) rfl (sD (nS (tT (rB (rS (T4 (rB (rS (A9 (rT rfl) ?_))))))))))))))
 (exact ⟨rfl, by rw [e3 i (by omega) (by omega) (by assumption)], rfl⟩)
 refine sD (nS (cF rfl (M3 (M5 (N7 (M6 (nS (tS (tR (sQ (qA rfl) rfl (sD (nS (tT (A9 (rT rfl) ?_))))))))))))))
 (exact ⟨rfl, by rw [e4 (by omega) (by omega) (fun j h h' => hall j h h' (by omega))], rfl⟩)
theorem A8Z (G : IM) (cx : Cx) (p : Option Addr) (n c : Nat) (nm : ByteArray) (t : Ty) (cells : List Value) (hx : R3 G cx p n c) (hn : n ≤ 1000) (hr : B7 G t cells) :
  Fn Tryz.prog 130 [.slice p n c, .string nm, .agg ⟨cells⟩] [] G (L8 fun G' v => ∃ p' c', v = .slice p' (n + 1) c' ∧ R3 G' (cx ++ [(nm, t)]) p' (n + 1) c') := by
 obtain ⟨k, ks⟩ := t
 obtain ⟨q, d, es0, rfl, _⟩ := hr.open
 simp only [Ty.k, Ty.ks] at hr ⊢
 obtain ⟨hx1, es, h2, h3⟩ := id hx
 have hSl : Sl G p n c 3 es.flatten := h2.1
 have h1c : ∀ u ∈ es.flatten, u.oneCell' = true := by
  intro u hu
  obtain ⟨e, he, hue⟩ := List.mem_flatten.1 hu
  exact List.all_eq_true.1 (h2.one e he) u hue
 refine C0 Tryz.func130 rfl Tryz.ntmps130 Tryz.results130 rfl ?_
 intro w0
 refine tS (tR ?_)
 refine sE (C5 rfl rfl) rfl (fun b3 => ?_)
 refine sQ (qA rfl) rfl (sD (nS (tS ?_)))
 refine D4 D6 rfl ?_
 refine I6 (i := 1) (l' := [ff,tt,ff,ff,ff,ff,ff,ff,ff]) rfl C9 (qM rfl) rfl (by kernel_rfl) rfl rfl ?_
 refine aP 3 rfl (qM rfl) rfl ?_
 refine aL 4 rfl (A2 rfl rfl) rfl ?_
 refine aP 5 rfl (H6 rfl rfl) rfl ?_
 refine Q1 (j := 0) (j' := 6) (by kernel_rfl) ?_ ?_
 (refine E0 rfl (C7 rfl rfl rfl (by omega) (by unfold maxLen; omega) rfl) rfl rfl ?_; rintro _ ⟨b14, rfl⟩)
 refine Q1 (j := 2) (j' := 6) (by kernel_rfl) ?_ ?_
 (refine A2z rfl rfl rfl rfl rfl rfl (fun _ _ => by repeat (first | exact Sw.here | apply Sw.there)) hSl h1c (Nat.zero_le _) (by unfold maxLen; omega) (by omega) rfl rfl (by repeat (first | exact A8.nil | apply A8.dep (by decide +kernel) | apply A8.blk (by decide +kernel) (by repeat (first | exact Pk.here | apply Pk.there)) (by repeat first | exact mH | apply mT))) (fun p4 c4 => ?_); simp only [Nat.zero_add, List.nil_append])
 refine A4 6 ?_
 (refine E0 rfl (C7 rfl rfl rfl (by omega) (by unfold maxLen; omega) rfl) rfl rfl ?_; rintro _ ⟨b18, rfl⟩)
 refine A4 7 ?_
 (refine Q2 rfl rfl rfl rfl rfl rfl (fun _ _ => by repeat (first | exact Sw.here | apply Sw.there)) (M9 (by repeat first | exact mH | apply mT)) rfl (by simp [Value.oneCell']) (by unfold maxLen; omega) (by omega) rfl rfl (by repeat (first | exact A8.nil | apply A8.dep (by decide +kernel) | apply A8.blk (by decide +kernel) (by repeat (first | exact Pk.here | apply Pk.there)) (by repeat first | exact mH | apply mT))) (fun p5 c5 => ?_))
 refine aP 8 rfl (qA rfl) rfl ?_
 refine B5 (nS ?_)
 (refine E9 (cs := es.flatten ++ [.string nm, .int .i64 k, .slice q ks.length d]) (by repeat (first | exact Pk.here | apply Pk.there)) (fun G5 hle5 hsl5 hno5 => ?_))
 refine tT (A9 (rT rfl) ?_)
 (exact ⟨rfl, _, _, rfl, R3.snoc (nm := nm) (t := .mk k ks) hx1 h2.len h2.all h2.one h3 hle5 ⟨_, _, rfl, hr.mono hle5⟩ hsl5⟩)
 (refine E0 rfl (C7 rfl rfl rfl (by omega) (by unfold maxLen; omega) rfl) rfl rfl ?_; rintro _ ⟨b28, rfl⟩)
 refine A4 2 ?_
 (refine A2z rfl rfl rfl rfl rfl rfl (fun _ _ => by repeat (first | exact Sw.here | apply Sw.there)) hSl h1c (Nat.zero_le _) (by unfold maxLen; omega) (by omega) rfl rfl (by repeat (first | exact A8.nil | apply A8.dep (by decide +kernel) | apply A8.blk (by decide +kernel) (by repeat (first | exact Pk.here | apply Pk.there)) (by repeat first | exact mH | apply mT))) (fun p4 c4 => ?_); simp only [Nat.zero_add, List.nil_append])
 refine A4 7 ?_
 (refine Q2 rfl rfl rfl rfl rfl rfl (fun _ _ => by repeat (first | exact Sw.here | apply Sw.there)) (M9 (by repeat first | exact mH | apply mT)) rfl (by simp [Value.oneCell']) (by unfold maxLen; omega) (by omega) rfl rfl (by repeat (first | exact A8.nil | apply A8.dep (by decide +kernel) | apply A8.blk (by decide +kernel) (by repeat (first | exact Pk.here | apply Pk.there)) (by repeat first | exact mH | apply mT))) (fun p5 c5 => ?_))
 refine aP 8 rfl (qA rfl) rfl ?_
 refine B5 (nS ?_)
 (refine E9 (cs := es.flatten ++ [.string nm, .int .i64 k, .slice q ks.length d]) (by repeat (first | exact Pk.here | apply Pk.there)) (fun G5 hle5 hsl5 hno5 => ?_))
 refine tT (A9 (rT rfl) ?_)
 (exact ⟨rfl, _, _, rfl, R3.snoc (nm := nm) (t := .mk k ks) hx1 h2.len h2.all h2.one h3 hle5 ⟨_, _, rfl, hr.mono hle5⟩ hsl5⟩)
 (refine E0 rfl (C7 rfl rfl rfl (by omega) (by unfold maxLen; omega) rfl) rfl rfl ?_; rintro _ ⟨b40, rfl⟩)
 refine A4 0 ?_
 (refine E0 rfl (C7 rfl rfl rfl (by omega) (by unfold maxLen; omega) rfl) rfl rfl ?_; rintro _ ⟨b42, rfl⟩)
 refine A4 2 ?_
 (refine A2z rfl rfl rfl rfl rfl rfl (fun _ _ => by repeat (first | exact Sw.here | apply Sw.there)) hSl h1c (Nat.zero_le _) (by unfold maxLen; omega) (by omega) rfl rfl (by repeat (first | exact A8.nil | apply A8.dep (by decide +kernel) | apply A8.blk (by decide +kernel) (by repeat (first | exact Pk.here | apply Pk.there)) (by repeat first | exact mH | apply mT))) (fun p4 c4 => ?_); simp only [Nat.zero_add, List.nil_append])
 refine A4 7 ?_
 (refine Q2 rfl rfl rfl rfl rfl rfl (fun _ _ => by repeat (first | exact Sw.here | apply Sw.there)) (M9 (by repeat first | exact mH | apply mT)) rfl (by simp [Value.oneCell']) (by unfold maxLen; omega) (by omega) rfl rfl (by repeat (first | exact A8.nil | apply A8.dep (by decide +kernel) | apply A8.blk (by decide +kernel) (by repeat (first | exact Pk.here | apply Pk.there)) (by repeat first | exact mH | apply mT))) (fun p5 c5 => ?_))
 refine aP 8 rfl (qA rfl) rfl ?_
 refine B5 (nS ?_)
 (refine E9 (cs := es.flatten ++ [.string nm, .int .i64 k, .slice q ks.length d]) (by repeat (first | exact Pk.here | apply Pk.there)) (fun G5 hle5 hsl5 hno5 => ?_))
 refine tT (A9 (rT rfl) ?_)
 (exact ⟨rfl, _, _, rfl, R3.snoc (nm := nm) (t := .mk k ks) hx1 h2.len h2.all h2.one h3 hle5 ⟨_, _, rfl, hr.mono hle5⟩ hsl5⟩)
theorem A80 {cx : Cx} : ∀ {ks : List Tm} {i : Nat} {us : List Ty} {u : Ty} (hi : i < ks.length), U6 cx (ks.take i) = some us → P6 cx ks[i] = some u → U6 cx (ks.take (i + 1)) = some (us ++ [u])
 | [], i, us, u, hi, _, _ => by simp at hi
 | t :: ts, 0, us, u, _, h1, h2 => by
  simp only [List.take_zero, U6, Option.some.injEq] at h1
  subst h1
  simp only [List.getElem_cons_zero] at h2
  simp [U6, h2]
 | t :: ts, i + 1, us, u, hi, h1, h2 => by
  simp only [List.take_succ_cons, U6] at h1 ⊢
  split at h1
  ·cases h1
  ·rename_i a ha
   split at h1
   ·cases h1
   ·rename_i bs has
    simp only [Option.some.injEq] at h1
    subst h1
    simp only [List.getElem_cons_succ] at h2
    have := A80 (ks := ts) (i := i) (by simpa using hi) has h2
    simp only [this, List.cons_append]
theorem A81 {cx : Cx} : ∀ {ks : List Tm} {i : Nat} (hi : i < ks.length), P6 cx ks[i] = none → U6 cx ks = none
 | [], i, hi, _ => by simp at hi
 | t :: ts, 0, _, h => by simp only [List.getElem_cons_zero] at h; rw [U6, h]
 | t :: ts, i + 1, hi, h => by
  simp only [List.getElem_cons_succ] at h
  have := A81 (ks := ts) (i := i) (by simpa using hi) h
  rw [U6, this]
  cases P6 cx t <;> rfl
section
variable {cx : Cx} {k : Int} {nm : ByteArray} {num : Int} {ty fr : Ty} {lb : Int} {ks : List Tm}
theorem B3l (hk : k = 1) (h0 : ks = []) : P6 cx (.mk k nm num ty fr lb ks) = N2 cx nm := by
 subst hk h0
 rw [P6, U6]
 simp only [V3, mW1]
 cases N2 cx nm with
 | none => rfl
 | some t => simp
theorem B3m (hk : k = 2) (h0 : ks = []) : P6 cx (.mk k nm num ty fr lb ks) = some P4 := by subst hk h0; rfl
theorem B3n (hk : k = 3 ∨ k = 4) (h0 : ks = []) : P6 cx (.mk k nm num ty fr lb ks) = some S6 := by subst h0; rcases hk with rfl | rfl <;> rfl
theorem B3o {b : Tm} (hk : k = 5) (h : P6 (cx ++ [(nm, ty)]) b = none) : P6 cx (.mk k nm num ty fr lb [b]) = none := by
 subst hk; rw [P6, J2, if_pos rfl, U6, h]
theorem B3p {b : Tm} {t : Ty} (hk : k = 5) (h : P6 (cx ++ [(nm, ty)]) b = some t) : P6 cx (.mk k nm num ty fr lb [b]) = if E4 (.mk 4 [ty, t]) = true then some (.mk 4 [ty, t]) else none := by
 subst hk
 rw [P6, J2, if_pos rfl, U6, h]
 simp only [U6, V3, mW5, List.getD_cons_zero]
 cases E4 (.mk 4 [ty, t]) <;> simp
theorem B3q (hk : k ≠ 5) (h : U6 cx ks = none) : P6 cx (.mk k nm num ty fr lb ks) = none := by rw [P6, J2, if_neg hk, h]
theorem B3r {ts : List Ty} (hk : k ≠ 5) (h : U6 cx ks = some ts) : P6 cx (.mk k nm num ty fr lb ks) = V3 cx k nm ty ts := by rw [P6, J2, if_neg hk, h]
end
theorem A82 : ∀ (e : Tm) (d : Int) (cx : Cx) (G : IM) (p : Option Addr) (n c : Nat) (cells : List Value), N5 12 14 e d = true → (n : Int) ≤ d → V0 cx → R3 G cx p n c → B0 G e cells →
  Fn Tryz.prog 129 [.slice p n c, .agg ⟨cells⟩] [] G (O8 (P6 cx e) G) := by
 refine Tm.ind fun k nm num ty fr lb ks ih d cx G p n c cells hv hnd hcv hx hr => ?_
 have hr0 := hr
 have hone := hr.one
 obtain ⟨hv1, hv2, hv3, hv4⟩ := A0z hv
 have hvk := (A0T 12 14 ks _).1 hv4
 have har := (U0.1 hv3).1
 have hop := A2C har
 obtain ⟨hta, hts⟩ := A2E hv3
 have hkr : 1 ≤ k ∧ k ≤ 14 := A3B (by rw [har]; omega)
 have hcv5 : k = 5 → V0 (cx ++ [(nm, ty)]) := fun hk => by have := A2G (k := k) (nm := nm) (ty := ty) hcv fun hk => (U0.1 hv3).2.2.2.2.2.1 (.inl hk); rwa [J2, if_pos hk] at this
 have h0 : k ≤ 4 → ks = [] := fun h => List.length_eq_zero_iff.1 (by
  have hk : k = 1 ∨ k = 2 ∨ k = 3 ∨ k = 4 := by omega
  rcases hk with rfl | rfl | rfl | rfl
  ·have : D0 1 = 0 := rfl; omega
  ·have : D0 2 = 0 := rfl; omega
  ·have : D0 3 = 0 := rfl; omega
  ·have : D0 4 = 0 := rfl; omega)
 have f1 := fun hk => @B3l cx k nm num ty fr lb ks hk (h0 (by omega))
 have f2 := fun hk => @B3m cx k nm num ty fr lb ks hk (h0 (by omega))
 have f3 := fun hk => @B3n cx k nm num ty fr lb ks hk (h0 (by omega))
 have f4 : ∀ (hk : k = 5) (hl : 0 < ks.length), P6 (cx ++ [(nm, ty)]) ks[0] = none → P6 cx (.mk k nm num ty fr lb ks) = none := fun hk hl h => by
  obtain ⟨b, rfl⟩ := X0 (hop.2.2 (.inl hk)); exact B3o hk h
 have f5 : ∀ (t : Ty) (hk : k = 5) (hl : 0 < ks.length), P6 (cx ++ [(nm, ty)]) ks[0] = some t → P6 cx (.mk k nm num ty fr lb ks) = if E4 (.mk 4 [ty, t]) = true then some (.mk 4 [ty, t]) else none := fun t hk hl h => by
  obtain ⟨b, rfl⟩ := X0 (hop.2.2 (.inl hk)); exact B3p hk h
 have f6 := @B3q cx k nm num ty fr lb ks
 have f7 := fun ts => @B3r cx k nm num ty fr lb ks ts
 generalize P6 cx (.mk k nm num ty fr lb ks) = R at f1 f2 f3 f4 f5 f6 f7 ⊢
 obtain ⟨tk, tks⟩ := ty
 obtain ⟨fk, fks⟩ := fr
 obtain ⟨pt, ct, pf, cf, q, cq, es, rfl, hk, hnum, hlb, hty, hfr, hsl, hkl⟩ := hr.open9
 have hlen : ks.length ≤ 3 := by have := A06 k; omega
 refine C0 Tryz.func129 rfl Tryz.ntmps129 Tryz.results129 rfl ?_
 intro w0
 refine tS (tR ?_)
 refine sE (C5 rfl rfl) rfl (fun b3 => ?_)
 refine sE (A7 rfl) rfl (fun b4 => ?_)
 refine sQ (qA rfl) rfl (sD (nS (tS (tS (tR (sQ (A0 rfl) rfl (sL (A3 rfl rfl) rfl rfl (sD (nS ?_)))))))))
 refine B9 (tS (tR (sB (qE rfl rfl) rfl rfl (fun h18 => ?_) (fun h18 => ?_))))
 refine sQ (qA rfl) rfl (sD (nS (qT rfl (tS (tR (sQ (qM rfl) rfl (sQ (A0 rfl) rfl (sL (A3 rfl rfl) rfl rfl ?_))))))))
 (refine E5 rfl (B1Q G cx hcv p n c nm hx) rfl rfl (fun v G1 hle1 hh => ?_); obtain ⟨mt, mc, rfl, hmr, hma, hmu⟩ := hh; obtain ⟨p1, c1, e1, rfl, _⟩ := hmr.open)
 refine sQ (pX rfl rfl) rfl (sQ (pX rfl rfl) rfl (B1 ?_))
 refine sQ (qA rfl) rfl (sD (nS (tT (rB (rS ?_)))))
 refine H7 (rC rfl (A2 rfl rfl)) (rT rfl) ?_
 (rw [f1 (by omega)]; exact ⟨rfl, _, _, rfl, hmr, hma, hmu⟩)
 refine sQ (qA rfl) rfl (sD (nS (cF rfl (tS (tR ?_)))))
 refine sB (qE rfl rfl) rfl rfl (fun h46 => ?_) (fun h46 => ?_)
 refine sQ (qA rfl) rfl (sD (nS (qT rfl (tS (tR ?_)))))
 refine H0 rfl ((A0e _)) rfl rfl ?_
 refine B1 ?_
 refine sQ (qA rfl) rfl (sD (nS (tT (rB (rS ?_)))))
 refine H7 (rC rfl (A2 rfl rfl)) (rT rfl) ?_
 (rw [f2 (by omega)]; exact O8.yes rfl (J7 _) (S2 (by omega) (by omega)))
 refine sQ (qA rfl) rfl (sD (nS (cF rfl (tS (tS (tR ?_))))))
 refine sB (qE rfl rfl) rfl rfl (fun h70 => ?_) (fun h70 => ?_)
 refine sQ (qA rfl) rfl (sD (nS (qT rfl (tK (nS (qT rfl (tS (tR ?_))))))))
 refine H0 rfl ((A2A _)) rfl rfl ?_
 refine B1 ?_
 refine sQ (qA rfl) rfl (sD (nS (tT (rB (rS ?_)))))
 refine H7 (rC rfl (A2 rfl rfl)) (rT rfl) ?_
 (rw [f3 (by omega)]; exact O8.yes rfl (X8 _) (S2 (by omega) (by omega)))
 refine sQ (qA rfl) rfl (sD (nS (cF rfl (tR ?_))))
 refine sB (qE rfl rfl) rfl rfl (fun h95 => ?_) (fun h95 => ?_)
 refine sQ (qA rfl) rfl (sD (nS (qT rfl (tS (tR ?_)))))
 refine H0 rfl ((A2A _)) rfl rfl ?_
 refine B1 ?_
 refine sQ (qA rfl) rfl (sD (nS (tT (rB (rS ?_)))))
 refine H7 (rC rfl (A2 rfl rfl)) (rT rfl) ?_
 (rw [f3 (by omega)]; exact O8.yes rfl (X8 _) (S2 (by omega) (by omega)))
 refine sQ (qA rfl) rfl (sD (nS (cF rfl (tS (tR ?_)))))
 refine sB (qE rfl rfl) rfl rfl (fun h118 => ?_) (fun h118 => ?_)
 refine sQ (qA rfl) rfl (sD (nS (qT rfl (tS ?_))))
 (have hl1 : ks.length = 1 := hop.2.2 (by omega); obtain ⟨b, o, e, rfl, hl, hat, hre, hgb⟩ := hsl.kidTm hkl (i := 0) (by omega) (by omega); have hMore := A8Z G cx p n c nm (.mk tk tks) _ hx (by omega) hty; refine D4 D6 rfl ?_)
 refine I6 (i := 0) (l' := [tt,ff,ff,ff,ff,ff,ff,ff,ff,ff,ff,ff,ff,ff,ff,ff,ff]) rfl C9 (qM rfl) rfl (by kernel_rfl) rfl rfl ?_
 refine aP 1 rfl (A0 rfl) rfl ?_
 refine aL 2 rfl (A3 rfl rfl) rfl ?_
 refine aP 3 rfl (A0 rfl) rfl ?_
 refine aL 4 rfl (A2 rfl rfl) rfl ?_
 refine aP 6 rfl (A0 rfl) rfl ?_
 refine aL 7 rfl (A3 rfl rfl) rfl ?_
 refine aP 8 rfl (B3 (j := 0) rfl rfl rfl (by omega)) rfl ?_
 refine aL 9 rfl (A5 rfl rfl (hat _) hl) rfl ?_
 refine Q1 (j := 5) (j' := 14) (by kernel_rfl) ?_ ?_
 (refine F0 rfl rfl hMore rfl rfl rfl (fun v G1 hle1 hh => ?_); obtain ⟨pm, cm, rfl, hxm⟩ := hh; have hreM := hre.mono hle1; have hLam := ih ks[0] (List.getElem_mem (by omega)) (d + 1) _ G1 pm (n + 1) cm _ (hvk 0 (by omega)) (by omega) (hcv5 (by omega)) hxm hreM; have htyM := hty.mono hle1)
 refine Q1 (j := 10) (j' := 14) (by kernel_rfl) ?_ ?_
 focus (refine F0 rfl rfl hLam rfl rfl rfl (fun v G2 hle2 hh => ?_); obtain ⟨mt, mc, rfl, hmr, hma, hmu⟩ := hh; obtain ⟨p1, c1, e1, rfl, _⟩ := hmr.open; have htyN := htyM.mono hle2; rcases hE : P6 (cx ++ [(nm, Ty.mk tk tks)]) ks[0] with _ | mt2; rotate_left; obtain rfl := hmu _ hE; rotate_left; all_goals simp only [Option.isSome])
 refine aP 11 rfl (qM rfl) rfl ?_
 refine aP 12 rfl (pX rfl rfl) rfl ?_
 refine aP 13 rfl (pX rfl rfl) rfl ?_
 refine A4 14 ?_
 (refine E0 rfl (A7 rfl) rfl rfl ?_; rintro _ ⟨b142, rfl⟩)
 refine A4 15 ?_
 refine F8 rfl ?_
 refine aP 16 rfl (qA rfl) rfl ?_
 refine A0m ?_
 refine H7 (rC rfl (A2 rfl rfl)) (rT rfl) ?_
 (rw [f4 (by omega) (by omega) (by first | exact hE | assumption)]; exact O8.no rfl (M1 _ ⟨by omega, by omega⟩) (S2 (by omega) (by omega)))
 refine aP 11 rfl (qM rfl) rfl ?_
 refine aP 12 rfl (pX rfl rfl) rfl ?_
 refine aP 13 rfl (pX rfl rfl) rfl ?_
 refine A4 14 ?_
 (refine E0 rfl (A7 rfl) rfl rfl ?_; rintro _ ⟨b173, rfl⟩)
 refine A4 15 ?_
 refine F8 rfl ?_
 refine aP 16 rfl (qA rfl) rfl ?_
 refine S9 ?_
 (refine E5 rfl (A2c 4 (.mk tk tks) _ _ _ _ (.inl rfl) hta hma htyN hmr) rfl rfl (fun v G3 hle3 hh => ?_); obtain ⟨mc2, rfl, hmr2⟩ := hh; obtain ⟨p2, c2, e2, rfl, _⟩ := hmr2.open)
 refine sQ (pX rfl rfl) rfl (sQ (pX rfl rfl) rfl (B1 ?_))
 refine sQ (qA rfl) rfl (sD (nS (tT (rB (rS ?_)))))
 refine H7 (rC rfl (A2 rfl rfl)) (rT rfl) ?_
 (rw [f5 _ (by omega) (by omega) (by first | exact hE | assumption)]; exact O8.mk rfl hmr2 (A4c (.inl rfl) hta hma))
 (refine E0 rfl (A7 rfl) rfl rfl ?_; rintro _ ⟨b206, rfl⟩)
 refine A4 10 ?_
 focus (refine F0 rfl rfl hLam rfl rfl rfl (fun v G2 hle2 hh => ?_); obtain ⟨mt, mc, rfl, hmr, hma, hmu⟩ := hh; obtain ⟨p1, c1, e1, rfl, _⟩ := hmr.open; have htyN := htyM.mono hle2; rcases hE : P6 (cx ++ [(nm, Ty.mk tk tks)]) ks[0] with _ | mt2; rotate_left; obtain rfl := hmu _ hE; rotate_left; all_goals simp only [Option.isSome])
 refine aP 11 rfl (qM rfl) rfl ?_
 refine aP 12 rfl (pX rfl rfl) rfl ?_
 refine aP 13 rfl (pX rfl rfl) rfl ?_
 refine A4 15 ?_
 refine F8 rfl ?_
 refine aP 16 rfl (qA rfl) rfl ?_
 refine A0m ?_
 refine H7 (rC rfl (A2 rfl rfl)) (rT rfl) ?_
 (rw [f4 (by omega) (by omega) (by first | exact hE | assumption)]; exact O8.no rfl (M1 _ ⟨by omega, by omega⟩) (S2 (by omega) (by omega)))
 refine aP 11 rfl (qM rfl) rfl ?_
 refine aP 12 rfl (pX rfl rfl) rfl ?_
 refine aP 13 rfl (pX rfl rfl) rfl ?_
 refine A4 15 ?_
 refine F8 rfl ?_
 refine aP 16 rfl (qA rfl) rfl ?_
 refine S9 ?_
 (refine E5 rfl (A2c 4 (.mk tk tks) _ _ _ _ (.inl rfl) hta hma htyN hmr) rfl rfl (fun v G3 hle3 hh => ?_); obtain ⟨mc2, rfl, hmr2⟩ := hh; obtain ⟨p2, c2, e2, rfl, _⟩ := hmr2.open)
 refine sQ (pX rfl rfl) rfl (sQ (pX rfl rfl) rfl (B1 ?_))
 refine sQ (qA rfl) rfl (sD (nS (tT (rB (rS ?_)))))
 refine H7 (rC rfl (A2 rfl rfl)) (rT rfl) ?_
 (rw [f5 _ (by omega) (by omega) (by first | exact hE | assumption)]; exact O8.mk rfl hmr2 (A4c (.inl rfl) hta hma))
 (refine E0 rfl (A7 rfl) rfl rfl ?_; rintro _ ⟨b273, rfl⟩)
 refine A4 5 ?_
 (refine F0 rfl rfl hMore rfl rfl rfl (fun v G1 hle1 hh => ?_); obtain ⟨pm, cm, rfl, hxm⟩ := hh; have hreM := hre.mono hle1; have hLam := ih ks[0] (List.getElem_mem (by omega)) (d + 1) _ G1 pm (n + 1) cm _ (hvk 0 (by omega)) (by omega) (hcv5 (by omega)) hxm hreM; have htyM := hty.mono hle1)
 refine A4 10 ?_
 focus (refine F0 rfl rfl hLam rfl rfl rfl (fun v G2 hle2 hh => ?_); obtain ⟨mt, mc, rfl, hmr, hma, hmu⟩ := hh; obtain ⟨p1, c1, e1, rfl, _⟩ := hmr.open; have htyN := htyM.mono hle2; rcases hE : P6 (cx ++ [(nm, Ty.mk tk tks)]) ks[0] with _ | mt2; rotate_left; obtain rfl := hmu _ hE; rotate_left; all_goals simp only [Option.isSome])
 refine aP 11 rfl (qM rfl) rfl ?_
 refine aP 12 rfl (pX rfl rfl) rfl ?_
 refine aP 13 rfl (pX rfl rfl) rfl ?_
 refine A4 15 ?_
 refine F8 rfl ?_
 refine aP 16 rfl (qA rfl) rfl ?_
 refine A0m ?_
 refine H7 (rC rfl (A2 rfl rfl)) (rT rfl) ?_
 (rw [f4 (by omega) (by omega) (by first | exact hE | assumption)]; exact O8.no rfl (M1 _ ⟨by omega, by omega⟩) (S2 (by omega) (by omega)))
 refine aP 11 rfl (qM rfl) rfl ?_
 refine aP 12 rfl (pX rfl rfl) rfl ?_
 refine aP 13 rfl (pX rfl rfl) rfl ?_
 refine A4 15 ?_
 refine F8 rfl ?_
 refine aP 16 rfl (qA rfl) rfl ?_
 refine S9 ?_
 (refine E5 rfl (A2c 4 (.mk tk tks) _ _ _ _ (.inl rfl) hta hma htyN hmr) rfl rfl (fun v G3 hle3 hh => ?_); obtain ⟨mc2, rfl, hmr2⟩ := hh; obtain ⟨p2, c2, e2, rfl, _⟩ := hmr2.open)
 refine sQ (pX rfl rfl) rfl (sQ (pX rfl rfl) rfl (B1 ?_))
 refine sQ (qA rfl) rfl (sD (nS (tT (rB (rS ?_)))))
 refine H7 (rC rfl (A2 rfl rfl)) (rT rfl) ?_
 (rw [f5 _ (by omega) (by omega) (by first | exact hE | assumption)]; exact O8.mk rfl hmr2 (A4c (.inl rfl) hta hma))
 refine sQ (qA rfl) rfl (sD (nS (cF rfl (tK (E3 (nS (tS (tR ?_))))))))
 (refine I5 (C7 rfl rfl rfl (by omega) (by unfold maxLen; omega) rfl) rfl ?_; rintro _ ⟨b351, rfl⟩)
 refine sQ (qA rfl) rfl (sD (nS (tS (tS (tR (sQ (qA rfl) rfl (sD (nS ?_))))))))
 refine B9 ?_
 (refine J4 (fun (x : Nat × Option Addr × Nat × List Ty × List (List Value) × IM) => ⟨[(9, .int .i64 x.1), (8, .slice x.2.1 x.1 x.2.2.1), (3, .pointer (some ⟨b3, 0, none⟩)), (4, .pointer (some ⟨b4, 0, none⟩)), (0, .slice p n c)], [.slc x.2.1 x.2.2.1 25 2 x.1 x.2.2.2.2.1.flatten, .blk b4 [.int .i64 0, .slice none 0 0], .blk b3 [.int .i64 k, .string nm, .int .i64 num, .int .i64 tk, .slice pt tks.length ct, .int .i64 fk, .slice pf fks.length cf, .int .i64 lb, .slice q ks.length cq]], x.2.2.2.2.2⟩) (fun x => x.1 ≤ ks.length ∧ B8 G x.2.2.2.2.2 ∧ x.2.2.2.1.length = x.1 ∧ C6 x.2.2.2.2.2 x.2.2.2.1 x.2.2.2.2.1 ∧ (∀ u ∈ x.2.2.2.1, E2 u) ∧ U6 cx (ks.take x.1) = some x.2.2.2.1) (fun x => ks.length - x.1) (0, some ⟨b351, 0, none⟩, 0, [], [], G) ?_ ?_ ?_)
 (simp only [I3]; exact D9)
 (exact ⟨by simp, B8.refl _, rfl, by simp [C6], by simp, by simp [U6]⟩)
 (rintro ⟨i, pn, cn, us, es', Gi⟩ ⟨hi, hle, hlu, hst, hau, hsu⟩; simp only [] at hi hle hlu hst hau hsu ⊢; replace hsl := hsl.mono hle; replace hkl := hkl.mono hle; replace hx := hx.mono hle; replace hr0 := hr0.mono hle)
 refine tS (tS (tR (sQ (qM rfl) rfl (sQ (A0 rfl) rfl (sL (A3 rfl rfl) rfl rfl (sQ (H8 rfl rfl) rfl ?_))))))
 refine sB (J1 rfl rfl) rfl rfl (fun h373 => ?_) (fun h373 => ?_)
 refine sD (nS (qT rfl (tK (nS (tS ?_)))))
 refine B9 ?_
 refine tS (tR (sQ (qM rfl) rfl (sQ (A0 rfl) rfl (sL (A3 rfl rfl) rfl rfl (sQ (qM rfl) rfl ?_)))))
 (obtain ⟨b, o, e, rfl, hl, hat, hre, hgb⟩ := hsl.kidTm hkl (i := i) (by omega) (by omega); refine sP (B3 rfl rfl rfl (by omega)) rfl rfl ?_)
 refine sL (A5 rfl rfl (hat _) hl) rfl rfl ?_
 focus (refine E5 rfl (ih ks[i] (List.getElem_mem (by omega)) (d + 1) cx Gi p n c _ (hvk i (by omega)) (by omega) hcv hx hre) rfl rfl (fun v G2 hle2 hh => ?_); obtain ⟨u, uc, rfl, hru, hua, huu⟩ := hh; obtain ⟨p3, c3, e3, rfl, _⟩ := hru.open; rcases hE : P6 cx ks[i] with _ | u2; rotate_left; obtain rfl := huu _ hE; rotate_left; all_goals simp only [Option.isSome])
 refine sQ (qM rfl) rfl (sQ (pX rfl rfl) rfl (sQ (pX rfl rfl) rfl ?_))
 refine sE (A7 rfl) rfl (fun b393 => ?_)
 refine A3V ?_
 refine H7 (rC rfl (A2 rfl rfl)) (rT rfl) ?_
 (rw [f6 (by omega) (A81 (by omega) hE)]; exact O8.no rfl (M1 _ ⟨by omega, by omega⟩) (S2 (by omega) (by omega)))
 refine sQ (qM rfl) rfl (sQ (pX rfl rfl) rfl (sQ (pX rfl rfl) rfl ?_))
 refine sE (A7 rfl) rfl (fun b425 => ?_)
 refine S9 ?_
 (refine I5 (C7 rfl rfl rfl (by omega) (by unfold maxLen; omega) rfl) rfl ?_; rintro _ ⟨b443, rfl⟩)
 refine A0M rfl rfl rfl rfl rfl (fun _ _ => by repeat (first | exact Sw.here | apply Sw.there)) (M9 (by repeat first | exact mH | apply mT)) rfl (by simp [Value.oneCell']) (by unfold maxLen; omega) (by omega) rfl (fun pn' cn' => ?_)
 refine sQ (qA rfl) rfl (sD (E3 (nS (tR (sQ (qM rfl) rfl ?_)))))
 refine sP (I7 rfl rfl (by omega) (by omega)) rfl rfl ?_
 refine sQ (qA rfl) rfl (sD ?_)
 refine J3 (i + 1, pn', cn', us ++ [u2], es' ++ [[.int .i64 u2.k, .slice p3 u2.ks.length c3]], G2) ?_ ?_ ?_
 (simp only [I3]; exact D9)
 (dsimp only; exact ⟨by omega, hle.trans hle2, by simp [hlu], C6.snoc (hst.mono hle2) hru, A2B hau hua, A80 (by omega) hsu hE⟩)
 (show ks.length - (i + 1) < ks.length - i; omega)
 refine sD (nS (cF rfl (M3 (M5 (N7 (M6 (nS (tS (tR (sL (A2 rfl rfl) rfl rfl (sQ (qM rfl) rfl ?_)))))))))))
 (obtain rfl : i = ks.length := (by omega); rw [List.take_length] at hsu; refine R8 (cs := es'.flatten) (by repeat (first | exact Pk.here | apply Pk.there)) (fun G3 hle3 hsl3 hno3 => ?_); have hst3 := hst.mono hle3; have hRes := B1W cx k nm num (.mk tk tks) (.mk fk fks) lb ks us G3 _ pn cn es' (by rw [hlu]; exact har) (by omega) hta (hr0.mono hle3) (by rw [hlu]; exact D2.of hsl3 (by rw [hst3.len, hlu]) hst3.all (fun e he => (hst3.each e he).2)) hst3 hau; rw [hlu] at hRes; refine E5 rfl hRes rfl rfl (fun v G4 hle4 hh => ?_); obtain ⟨mt, mc, rfl, hmr, hma, hmu⟩ := hh; obtain ⟨p1, c1, e1, rfl, _⟩ := hmr.open)
 refine sQ (pX rfl rfl) rfl (sQ (pX rfl rfl) rfl (B1 ?_))
 refine sQ (qA rfl) rfl (sD (nS (tT ?_)))
 refine H7 (rC rfl (A2 rfl rfl)) (rT rfl) ?_
 (rw [f7 us (by omega) hsu]; exact ⟨rfl, _, _, rfl, hmr, hma, hmu⟩)
end Gw
end Go.Proofs.YthpdjmbpbdbodaaGreatDoor
