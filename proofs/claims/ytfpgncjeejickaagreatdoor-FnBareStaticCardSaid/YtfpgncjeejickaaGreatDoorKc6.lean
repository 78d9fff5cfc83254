/-
  The program's insertion of casts. CastTypeOf. The program's InsertCasts, TypeOf. A run of a term, in plain words. A comparison of runs, in plain words. Runs of terms of which one is more precise. Terms of the calculus without their casts and types: they step as the terms do (plain). Evaluation of terms without casts and types, in plain words. Runs of terms without casts and types, and of the terms that they are left of (plain). All paths of a term, in plain words: they are different, each has a node, none goes on to where no operand is. The first cast with a label. The casts of a term, in plain words: the first one with a label is the node at the first path to such a cast. What is blamed is unsafe: plain. The types that a term's text holds, and terms with other types: the plain words. Own slices and their capacity; data of terms one after the other. The types that a term's text holds: the program's list. Terms with other types: the program's. Shifts and masks of small numbers; writing into an own slice. Terms some of whose types become the unknown type: the program's. The configurations of a term: the program's. A number for each configuration: the program's. Drawn terms that often have a type: one lambda, given the terms below. Drawn terms that often have a type.
-/
import Derived.Test.YtfpgncjeejickaaGreatDoorKc5
import Derived.Test.YtfpgncjeejickaaGreatDoorKc4
import Derived.Test.YtfpgncjeejickaaGreatDoorKc2
import Derived.Test.YtfpgncjeejickaaGreatDoorKc3
import Derived.Test.YtfpgncjeejickaaGreatDoorKc1
set_option linter.unusedVariables false
set_option linter.unusedSimpArgs false
set_option maxHeartbeats 0
set_option maxRecDepth 100000
set_option synthInstance.maxSize 4000
set_option synthInstance.maxHeartbeats 0
namespace Go.Proofs.YtfpgncjeejickaaGreatDoor
open Go Go.RowKit
namespace Gw
def ElP (bx : Nat) (cx : Cx) (e : Tm) (l : Int) : IM → Value → List A4 → Prop := fun G' v outs => ∃ u cu t ct l', v = .tuple ⟨[.agg ⟨cu⟩, .agg ⟨ct⟩, .bool (M5 cx e l).isSome]⟩ ∧ outs = [.blk bx [.int .i64 l']] ∧ A8 G' u cu ∧ B7 G' t ct ∧ l ≤ l' ∧ l' + 1 ≤ l + (C6 e : Int) ∧ ∀ r, M5 cx e l = some r → r = (u, t, l')
theorem ElP.no {G : IM} {bx : Nat} {cx : Cx} {e : Tm} {l l' : Int} {u : Tm} {t : Ty} {cu ct : List Value} (h : M5 cx e l = none) (hu : A8 G u cu) (ht : B7 G t ct) (h1 : l ≤ l') (h2 : l' + 1 ≤ l + (C6 e : Int)) : ElP bx cx e l G (.tuple ⟨[.agg ⟨cu⟩, .agg ⟨ct⟩, .bool false]⟩) [.blk bx [.int .i64 l']] :=
 ⟨u, cu, t, ct, l', by rw [h]; rfl, rfl, hu, ht, h1, h2, fun r hr => by rw [h] at hr; cases hr⟩
theorem ElP.yes {G : IM} {bx : Nat} {cx : Cx} {e : Tm} {l l' : Int} {u : Tm} {t : Ty} {cu ct : List Value} (h : M5 cx e l = some (u, t, l')) (hu : A8 G u cu) (ht : B7 G t ct) (h1 : l ≤ l') (h2 : l' + 1 ≤ l + (C6 e : Int)) : ElP bx cx e l G (.tuple ⟨[.agg ⟨cu⟩, .agg ⟨ct⟩, .bool true]⟩) [.blk bx [.int .i64 l']] :=
 ⟨u, cu, t, ct, l', by rw [h]; rfl, rfl, hu, ht, h1, h2, fun r hr => by rw [h] at hr; cases hr; rfl⟩
section
variable {cx : Cx} {k : Int} {nm : ByteArray} {num : Int} {ty fr : Ty} {lb : Int} {ks us : List Tm} {h : List Ty} {l l' : Int}
theorem B4V (hL : M1 (P0 cx k nm ty) ks l = none) : M5 cx (.mk k nm num ty fr lb ks) l = none := by rw [M5, hL]
theorem A6T (hL : M1 (P0 cx k nm ty) ks l = some (us, h, l')) (hn : Z9 cx k nm ty h = none) : M5 cx (.mk k nm num ty fr lb ks) l = none := by rw [M5, hL]; simp only [Q8, hn]
theorem B4W {w : List Ty} {t : Ty} (hL : M1 (P0 cx k nm ty) ks l = some (us, h, l')) (hn : Z9 cx k nm ty h = some (w, t)) (hk : k = 13) : M5 cx (.mk k nm num ty fr lb ks) l = some ((E8 us h w l').1.getD 0 F4, t, (E8 us h w l').2) := by
 rw [M5, hL]; simp only [Q8, hn, if_pos hk]
theorem A94 {w : List Ty} {t : Ty} (hL : M1 (P0 cx k nm ty) ks l = some (us, h, l')) (hn : Z9 cx k nm ty h = some (w, t)) (hk : k ≠ 13) : M5 cx (.mk k nm num ty fr lb ks) l = some (.mk k nm num ty fr lb (E8 us h w l').1, t, (E8 us h w l').2) := by
 rw [M5, hL]; simp only [Q8, hn, if_neg hk]
end
theorem A35 {t : Ty} (h : E7 t = true) : E5 t := (A3Q h).1
theorem B4X {us : List Tm} (h : 0 < us.length) : us.getD 0 F4 = us[0] := by rw [List.getD_eq_getElem?_getD, List.getElem?_eq_getElem h, Option.getD_some]
theorem A95 (bx : Nat) : ∀ (e : Tm) (d : Int) (cx : Cx) (l0 : Int) (G : IM) (pc : Option Addr) (nc cc : Nat) (cells : List Value), J1 12 14 e d = true → (nc : Int) ≤ d → Y2 cx → T2 G cx pc nc cc → A8 G e cells → 0 ≤ l0 → l0 + (C6 e : Int) ≤ 1000000000 →
  Fn Tryz.prog 139 [.pointer (some ⟨bx, 0, none⟩), .slice pc nc cc, .agg ⟨cells⟩] [.blk bx [.int .i64 l0]] G (ElP bx cx e l0) := by
 refine Tm.ind fun k nm num ty fr lb ks ih d cx l0 G pc nc cc cells hv hnd hcv hx hr hl0 hlc => ?_
 have hr0 := hr
 have hone := hr.one
 obtain ⟨hv1, hv2, hv3, hv4⟩ := W6 hv
 have hvk := (A05 12 14 ks _).1 hv4
 have har := (U8.1 hv3).1
 have hop := A4R har
 obtain ⟨hta, hts⟩ := A4S hv3
 have hkr : 1 ≤ k ∧ k ≤ 14 := A5e (by rw [har]; omega)
 have hcvX : Y2 (P0 cx k nm ty) := A3Y hcv fun hk => (U8.1 hv3).2.2.2.2.2.1 (.inl hk)
 have hck : C6 (.mk k nm num ty fr lb ks) = D6 ks + 1 := U1 ..
 rw [hck] at hlc
 obtain ⟨tk, tks⟩ := ty
 obtain ⟨fk, fks⟩ := fr
 obtain ⟨pt, ct, pf, cf, q, cq, es, rfl, hk, hnum, hlb, hty, hfr, hsl, hkl⟩ := hr.open9
 have hlen : ks.length ≤ 3 := by have := A1L k; omega
 obtain ⟨hx1, esx, hx2, hx3⟩ := id hx
 have hcl := B3L G pc nc cc esx hx2 (by omega)
 have hcnt0 := A7U ks
 refine B2 Tryz.func139 rfl Tryz.ntmps139 Tryz.results139 rfl ?_
 intro w0
 refine tS (tR ?_)
 refine sE (B9 rfl rfl) rfl (fun b3 => ?_)
 refine sE (A5 rfl) rfl (fun b4 => ?_)
 refine sE (A5 rfl) rfl (fun b5 => ?_)
 refine I9 ?_
 (show I8 _ _ (.seq (.region 2 _ _) (.cond (.tmp 25) _ _)) _ _; refine A0k (fun (x : Option Addr × Nat × Nat × IM) => ⟨[(9, .slice x.1 x.2.1 x.2.2.1), (1, .slice pc nc cc), (0, .pointer (some ⟨bx, 0, none⟩)), (5, .pointer (some ⟨b3, 0, none⟩)), (6, .pointer (some ⟨b4, 0, none⟩)), (7, .pointer (some ⟨b5, 0, none⟩))], [.blk b5 [.int .i64 0, .slice none 0 0], .blk b4 [.int .i64 0, .string ⟨⟨[]⟩⟩, .int .i64 0, .int .i64 0, .slice none 0 0, .int .i64 0, .slice none 0 0, .int .i64 0, .slice none 0 0], .blk b3 [.int .i64 k, .string nm, .int .i64 num, .int .i64 tk, .slice pt tks.length ct, .int .i64 fk, .slice pf fks.length cf, .int .i64 lb, .slice q ks.length cq], .blk bx [.int .i64 l0]], x.2.2.2⟩) (fun x => B6 G x.2.2.2 ∧ T2 x.2.2.2 (P0 cx k nm (.mk tk tks)) x.1 x.2.1 x.2.2.1 ∧ x.2.1 ≤ nc + 1) ?_ ?_)
 ·refine tS (tR (sQ (B1 rfl) rfl (sL (C0 rfl rfl) rfl rfl ?_)))
  refine sB (qE rfl rfl) rfl rfl (fun h21 => ?_) (fun h21 => ?_)
  ·refine sD (nS (qT rfl ?_))
   refine E1 E2 rfl ?_
   refine J5 (i := 0) (l' := [tt,ff,ff,ff,ff,ff,ff,ff,ff,ff]) rfl D5 (qM rfl) rfl (by kernel_rfl) rfl rfl ?_
   refine aP 2 rfl (B1 rfl) rfl ?_
   refine aL 3 rfl (C0 rfl rfl) rfl ?_
   refine aP 4 rfl (B1 rfl) rfl ?_
   refine aL 5 rfl (A2 rfl rfl) rfl ?_
   refine aP 6 rfl (W1 rfl rfl) rfl ?_
   refine V3 (j := 1) (j' := 7) (by kernel_rfl) ?_ ?_
   ·(refine A7G rfl rfl hcl rfl rfl rfl (fun v33 G33 outs33 hle33 h33 => ?_); obtain ⟨hG, p1, c1, rfl, rfl⟩ := h33; replace hG := hG.symm; subst hG)
    replace hr := hr.mono hle33
    replace hr0 := hr0.mono hle33
    replace hty := hty.mono hle33
    replace hfr := hfr.mono hle33
    replace hsl := hsl.mono hle33
    replace hkl := hkl.mono hle33
    replace hx2 := hx2.mono hle33
    refine A3 7 ?_
    (refine E4 rfl (C9 rfl rfl rfl (by omega) (by unfold maxLen; omega) rfl) rfl rfl ?_; rintro _ ⟨b35, rfl⟩)
    refine A3 8 ?_
    (refine Q5 rfl rfl rfl rfl rfl rfl (fun _ _ => by repeat (first | exact Sw.here | apply Sw.there)) (P3 (by repeat first | exact mH | apply mT)) rfl (by simp [Value.oneCell']) (by unfold maxLen; omega) (by omega) rfl rfl (by repeat (first | exact A6.nil | apply A6.dep (by decide +kernel) | apply A6.blk (by decide +kernel) (by repeat (first | exact Pk.here | apply Pk.there)) (by repeat first | exact mH | apply mT))) (fun p5 c5 => ?_); refine A4p (cs := esx.flatten ++ [.string nm, .int .i64 tk, .slice pt tks.length ct]) (by repeat (first | exact Pk.here | apply Pk.there)) (fun Gf hleF hslF hnoF => ?_); have hxF := T2.snoc (nm := nm) (t := .mk tk tks) hx1 hx2.len hx2.all hx2.one hx3 hleF ⟨_, _, rfl, hty.mono hleF⟩ hslF)
    refine aP 9 rfl (qA rfl) rfl ?_
    refine C5 ?_
    refine Q2 (p5, nc + 1, c5, Gf) (O1 (by repeat (first | exact E3.nil | refine E3.cons rfl ?_)) (by repeat (first | exact A0.refl | exact A0.nil | refine A0.cons (by repeat (first | exact Pk.here | apply Pk.there)) ?_ | apply A0.drop))) ⟨hleF, by (dsimp only; rw [P0, if_pos (by omega)]; exact hxF), by (dsimp only; omega)⟩
   ·(refine E4 rfl (C9 rfl rfl rfl (by omega) (by unfold maxLen; omega) rfl) rfl rfl ?_; rintro _ ⟨b41, rfl⟩)
    refine A3 1 ?_
    (refine A7G rfl rfl hcl rfl rfl rfl (fun v43 G43 outs43 hle43 h43 => ?_); obtain ⟨hG, p1, c1, rfl, rfl⟩ := h43; replace hG := hG.symm; subst hG)
    replace hr := hr.mono hle43
    replace hr0 := hr0.mono hle43
    replace hty := hty.mono hle43
    replace hfr := hfr.mono hle43
    replace hsl := hsl.mono hle43
    replace hkl := hkl.mono hle43
    replace hx2 := hx2.mono hle43
    refine A3 8 ?_
    (refine Q5 rfl rfl rfl rfl rfl rfl (fun _ _ => by repeat (first | exact Sw.here | apply Sw.there)) (P3 (by repeat first | exact mH | apply mT)) rfl (by simp [Value.oneCell']) (by unfold maxLen; omega) (by omega) rfl rfl (by repeat (first | exact A6.nil | apply A6.dep (by decide +kernel) | apply A6.blk (by decide +kernel) (by repeat (first | exact Pk.here | apply Pk.there)) (by repeat first | exact mH | apply mT))) (fun p5 c5 => ?_); refine A4p (cs := esx.flatten ++ [.string nm, .int .i64 tk, .slice pt tks.length ct]) (by repeat (first | exact Pk.here | apply Pk.there)) (fun Gf hleF hslF hnoF => ?_); have hxF := T2.snoc (nm := nm) (t := .mk tk tks) hx1 hx2.len hx2.all hx2.one hx3 hleF ⟨_, _, rfl, hty.mono hleF⟩ hslF)
    refine aP 9 rfl (qA rfl) rfl ?_
    refine C5 ?_
    refine Q2 (p5, nc + 1, c5, Gf) (O1 (by repeat (first | exact E3.nil | refine E3.cons rfl ?_)) (by repeat (first | exact A0.refl | exact A0.nil | refine A0.cons (by repeat (first | exact Pk.here | apply Pk.there)) ?_ | apply A0.drop))) ⟨hleF, by (dsimp only; rw [P0, if_pos (by omega)]; exact hxF), by (dsimp only; omega)⟩
  ·refine sD (nS (cF rfl (tK ?_)))
   refine Q2 (pc, nc, cc, G) (O1 (by repeat (first | exact E3.nil | refine E3.cons rfl ?_)) (by repeat (first | exact A0.refl | exact A0.nil | refine A0.cons (by repeat (first | exact Pk.here | apply Pk.there)) ?_ | apply A0.drop))) ⟨B6.refl _, by (dsimp only; rw [P0, if_neg (by omega)]; exact hx), by (dsimp only; omega)⟩
 ·(rintro ⟨p6, n6, c6, Gx⟩ ⟨hleX, hxX, hn6⟩; simp only [] at hleX hxX hn6 ⊢; replace hsl := hsl.mono hleX; replace hkl := hkl.mono hleX; replace hx := hx.mono hleX; replace hr0 := hr0.mono hleX; replace hty := hty.mono hleX; replace hfr := hfr.mono hleX)
  refine tS (tR (sL (A2 rfl rfl) rfl rfl ?_))
  refine sE (A5 rfl) rfl (fun b58 => ?_)
  refine A1c ?_
  refine B4 ?_
  (refine V5 28 9 ?_; refine V5 25 2 ?_; refine K9 (fun (x : Nat × (Option Addr × Nat × List Tm × List (List Value)) × (Option Addr × Nat × List Ty × List (List Value)) × Int × IM) => ⟨[(40, .int .i64 x.1), (39, .int .i64 ks.length), (38, .slice q ks.length cq), (11, .slice x.2.2.1.1 x.1 x.2.2.1.2.1), (9, .slice p6 n6 c6), (1, .slice pc nc cc), (0, .pointer (some ⟨bx, 0, none⟩)), (5, .pointer (some ⟨b3, 0, none⟩)), (6, .pointer (some ⟨b4, 0, none⟩)), (7, .pointer (some ⟨b5, 0, none⟩)), (10, .pointer (some ⟨b58, 0, none⟩))], [.blk b58 [.int .i64 k, .string nm, .int .i64 num, .int .i64 tk, .slice pt tks.length ct, .int .i64 fk, .slice pf fks.length cf, .int .i64 lb, .slice x.2.1.1 x.1 x.2.1.2.1], .slc x.2.1.1 x.2.1.2.1 28 9 x.1 x.2.1.2.2.2.flatten, .slc x.2.2.1.1 x.2.2.1.2.1 25 2 x.1 x.2.2.1.2.2.2.flatten, .blk b5 [.int .i64 0, .slice none 0 0], .blk b4 [.int .i64 0, .string ⟨⟨[]⟩⟩, .int .i64 0, .int .i64 0, .slice none 0 0, .int .i64 0, .slice none 0 0, .int .i64 0, .slice none 0 0], .blk b3 [.int .i64 k, .string nm, .int .i64 num, .int .i64 tk, .slice pt tks.length ct, .int .i64 fk, .slice pf fks.length cf, .int .i64 lb, .slice q ks.length cq], .blk bx [.int .i64 x.2.2.2.1]], x.2.2.2.2⟩) (fun x => x.1 ≤ ks.length ∧ B6 Gx x.2.2.2.2 ∧ x.2.1.2.2.1.length = x.1 ∧ D7 x.2.2.2.2 x.2.1.2.2.1 x.2.1.2.2.2 ∧ x.2.2.1.2.2.1.length = x.1 ∧ D2 x.2.2.2.2 x.2.2.1.2.2.1 x.2.2.1.2.2.2 ∧ (∀ t ∈ x.2.2.1.2.2.1, E5 t) ∧ M1 (P0 cx k nm (.mk tk tks)) (ks.take x.1) l0 = some (x.2.1.2.2.1, x.2.2.1.2.2.1, x.2.2.2.1) ∧ l0 ≤ x.2.2.2.1 ∧ x.2.2.2.1 + x.1 ≤ l0 + (D6 (ks.take x.1) : Int)) (fun x => ks.length - x.1) (0, (none, 0, [], []), (none, 0, [], []), l0, Gx) ?_ ?_ ?_)
  ·(simp only [List.take_zero, Y3]; exact (O1 (by repeat (first | exact E3.nil | refine E3.cons rfl ?_)) (by repeat (first | exact A0.refl | exact A0.nil | refine A0.cons (by repeat (first | exact Pk.here | apply Pk.there)) ?_ | apply A0.drop))))
  ·(exact ⟨by simp, B6.refl _, rfl, by simp [D7], rfl, by simp [D2], by simp, by simp [M1], Int.le_refl _, by simp [D6]⟩)
  ·(rintro ⟨i, ⟨pn, cn, us, es'⟩, ⟨pm, cm, ts, ess⟩, l, Gi⟩ ⟨hi, hle, hlu, hst, hlt, hstt, hat, hml, hl1, hl2⟩; simp only [] at hi hle hlu hst hlt hstt hat hml hl1 hl2 ⊢; replace hty := hty.mono hle; replace hfr := hfr.mono hle; replace hsl := hsl.mono hle; replace hkl := hkl.mono hle; replace hr0 := hr0.mono hle; replace hx := hx.mono hle; replace hxX := hxX.mono hle)
   refine tS (tR ?_)
   refine sB (K6 rfl rfl) rfl rfl (fun h89 => ?_) (fun h89 => ?_)
   ·refine sD (nS (tS (qT rfl (tK (nS (tS ?_))))))
    refine B4 ?_
    refine tS (tR ?_)
    (obtain ⟨b, o, e, rfl, hl, hate, hre, hgb⟩ := hsl.kidTm hkl (i := i) (by omega) (by omega); have hon := hre.one; have hsc := A4A (ks := ks) (i := i) (by omega); have hsk := A4z (ks := ks) (i := i) (by omega); refine sP (B3 rfl rfl rfl (by omega)) rfl rfl ?_)
    refine sL (A1 rfl rfl (hate _) hl) rfl rfl ?_
    refine sE (A5 rfl) rfl (fun b102 => ?_)
    refine sS rfl rfl rfl hl hon rfl ?_ (hu := by exact C3 hl.symm)
    refine sD (nS (tS (tR (sQ (qM rfl) rfl (sQ (qM rfl) rfl ?_)))))
    refine sL (A1 rfl rfl (A9 (by repeat first | exact mH | apply mT)) hl) rfl rfl ?_
    (refine I7 rfl (ih ks[i] (List.getElem_mem (by omega)) (d + 1) _ l Gi p6 n6 c6 _ (hvk i (by omega)) (by omega) hcvX hxX hre (by omega) (by omega)) (Pk.perm (by repeat (first | exact Pk.here | apply Pk.there))) rfl rfl (fun v G3 outs hle3 hh => ?_); obtain ⟨u, uc, t, tc, l3, rfl, rfl, hru, hrt, hl3, hl4, hu⟩ := hh; obtain ⟨v1, v2, v3, v4, v5, v6, v7, v8, v9, rfl⟩ := nine hru.len; obtain ⟨p3, c3, e3, rfl, _⟩ := hrt.open; have hlu9 := hru.len; have hou9 := hru.one; rcases hE : M5 (P0 cx k nm (Ty.mk tk tks)) ks[i] l with _ | ⟨u2, t2, l2⟩; rotate_left; have hue := hu _ hE; simp only [Prod.mk.injEq] at hue; obtain ⟨rfl, rfl, rfl⟩ := hue; rotate_left)
    ·refine F0 ?_
     refine sE (A5 rfl) rfl (fun b116 => ?_)
     refine sE (A5 rfl) rfl (fun b117 => ?_)
     refine sS rfl rfl rfl hlu9 hou9 rfl ?_ (hu := by exact C3 hlu9.symm)
     refine A7F ?_
     refine A2F (outs := [.blk bx [.int .i64 _]]) (rC rfl (A2 rfl rfl)) (rC rfl (A2 rfl rfl)) (rT rfl) (A0.cons (by repeat (first | exact Pk.here | apply Pk.there)) A0.nil) ?_
     (exact ElP.no (B4V (A9p (by omega) hml hE)) (L7 _) (N3 _ ⟨by omega, by omega⟩) (by omega) (by rw [hck]; omega))
    ·refine F0 ?_
     refine sE (A5 rfl) rfl (fun b153 => ?_)
     refine sE (A5 rfl) rfl (fun b154 => ?_)
     refine sS rfl rfl rfl hlu9 hou9 rfl ?_ (hu := by exact C3 hlu9.symm)
     refine J2 ?_
     refine E1 E2 rfl ?_
     refine J5 (i := 0) (l' := [tt,ff,ff,ff,ff,ff,ff,ff,ff,ff,ff,ff]) rfl D5 (B1 rfl) rfl (by kernel_rfl) rfl rfl ?_
     refine aL 1 rfl (C0 rfl rfl) rfl ?_
     refine aL 2 rfl (A2 rfl rfl) rfl ?_
     refine aP 5 rfl (qM rfl) rfl ?_
     refine aL 6 rfl (A2 rfl rfl) rfl ?_
     refine V3 (j := 3) (j' := 7) (by kernel_rfl) ?_ ?_
     ·(refine E4 rfl (C9 rfl rfl rfl (by omega) (by unfold maxLen; omega) rfl) rfl rfl ?_; rintro _ ⟨b177, rfl⟩)
      refine V3 (j := 4) (j' := 7) (by kernel_rfl) ?_ ?_
      ·(refine Q5 rfl rfl rfl rfl rfl rfl (fun _ _ => by repeat (first | exact Sw.here | apply Sw.there)) (P3 (by repeat first | exact mH | apply mT)) rfl (fun u hu => List.all_eq_true.1 hou9 u hu) (by unfold maxLen; omega) (by omega) rfl rfl (by repeat (first | exact A6.nil | apply A6.dep (by decide +kernel) | apply A6.im (by decide +kernel) (by assumption) (by repeat first | exact mH | apply mT) | apply A6.blk (by decide +kernel) (by repeat (first | exact Pk.here | apply Pk.there)) (by repeat first | exact mH | apply mT) | apply A6.slc (by decide +kernel) (by repeat (first | exact Pk.here | apply Pk.there)) (by repeat first | exact mH | apply mT))) (fun pn' cn' => ?_))
       refine aP 9 rfl (B1 rfl) rfl ?_
       refine A3 7 ?_
       (refine E4 rfl (C9 rfl rfl rfl (by omega) (by unfold maxLen; omega) rfl) rfl rfl ?_; rintro _ ⟨b182, rfl⟩)
       refine A3 8 ?_
       (refine Q5 rfl rfl rfl rfl rfl rfl (fun _ _ => by repeat (first | exact Sw.here | apply Sw.there)) (P3 (by repeat first | exact mH | apply mT)) rfl (by simp [Value.oneCell']) (by unfold maxLen; omega) (by omega) rfl rfl (by repeat (first | exact A6.nil | apply A6.dep (by decide +kernel) | apply A6.im (by decide +kernel) (by assumption) (by repeat first | exact mH | apply mT) | apply A6.blk (by decide +kernel) (by repeat (first | exact Pk.here | apply Pk.there)) (by repeat first | exact mH | apply mT) | apply A6.slc (by decide +kernel) (by repeat (first | exact Pk.here | apply Pk.there)) (by repeat first | exact mH | apply mT))) (fun pm' cm' => ?_))
       refine A3 10 ?_
       refine oS rfl rfl rfl rfl rfl rfl rfl rfl ?_
       refine aP 11 rfl (qA rfl) rfl ?_
       refine C5 (M8 (nS (tR ?_)))
       refine sP (K2 rfl rfl (by omega) (by omega)) rfl rfl ?_
       refine sQ (qM rfl) rfl (sD ?_)
       refine K7 (i + 1, (pn', cn', us ++ [u2], es' ++ [[v1, v2, v3, v4, v5, v6, v7, v8, v9]]), (pm', cm', ts ++ [t2], ess ++ [[.int .i64 t2.k, .slice p3 t2.ks.length c3]]), l2, G3) ?_ ?_ ?_
       ·(simp only [J6]; exact D1)
       ·(dsimp only; exact ⟨by omega, hle.trans hle3, by simp [hlu], D7.snoc (hst.mono hle3) hru, by simp [hlt], D2.snoc (hstt.mono hle3) hrt, A2X hat (A35 ((A3Z ks[i] (d + 1) _ l (hvk i (by omega)) hcvX).1 _ _ _ hE).2), A43 (by omega) hml hE, by omega, by omega⟩)
       ·(show ks.length - (i + 1) < ks.length - i; omega)
      ·(refine E4 rfl (C9 rfl rfl rfl (by omega) (by unfold maxLen; omega) rfl) rfl rfl ?_; rintro _ ⟨b199, rfl⟩)
       refine A3 4 ?_
       (refine Q5 rfl rfl rfl rfl rfl rfl (fun _ _ => by repeat (first | exact Sw.here | apply Sw.there)) (P3 (by repeat first | exact mH | apply mT)) rfl (fun u hu => List.all_eq_true.1 hou9 u hu) (by unfold maxLen; omega) (by omega) rfl rfl (by repeat (first | exact A6.nil | apply A6.dep (by decide +kernel) | apply A6.im (by decide +kernel) (by assumption) (by repeat first | exact mH | apply mT) | apply A6.blk (by decide +kernel) (by repeat (first | exact Pk.here | apply Pk.there)) (by repeat first | exact mH | apply mT) | apply A6.slc (by decide +kernel) (by repeat (first | exact Pk.here | apply Pk.there)) (by repeat first | exact mH | apply mT))) (fun pn' cn' => ?_))
       refine aP 9 rfl (B1 rfl) rfl ?_
       refine A3 8 ?_
       (refine Q5 rfl rfl rfl rfl rfl rfl (fun _ _ => by repeat (first | exact Sw.here | apply Sw.there)) (P3 (by repeat first | exact mH | apply mT)) rfl (by simp [Value.oneCell']) (by unfold maxLen; omega) (by omega) rfl rfl (by repeat (first | exact A6.nil | apply A6.dep (by decide +kernel) | apply A6.im (by decide +kernel) (by assumption) (by repeat first | exact mH | apply mT) | apply A6.blk (by decide +kernel) (by repeat (first | exact Pk.here | apply Pk.there)) (by repeat first | exact mH | apply mT) | apply A6.slc (by decide +kernel) (by repeat (first | exact Pk.here | apply Pk.there)) (by repeat first | exact mH | apply mT))) (fun pm' cm' => ?_))
       refine A3 10 ?_
       refine oS rfl rfl rfl rfl rfl rfl rfl rfl ?_
       refine aP 11 rfl (qA rfl) rfl ?_
       refine C5 (M8 (nS (tR ?_)))
       refine sP (K2 rfl rfl (by omega) (by omega)) rfl rfl ?_
       refine sQ (qM rfl) rfl (sD ?_)
       refine K7 (i + 1, (pn', cn', us ++ [u2], es' ++ [[v1, v2, v3, v4, v5, v6, v7, v8, v9]]), (pm', cm', ts ++ [t2], ess ++ [[.int .i64 t2.k, .slice p3 t2.ks.length c3]]), l2, G3) ?_ ?_ ?_
       ·(simp only [J6]; exact D1)
       ·(dsimp only; exact ⟨by omega, hle.trans hle3, by simp [hlu], D7.snoc (hst.mono hle3) hru, by simp [hlt], D2.snoc (hstt.mono hle3) hrt, A2X hat (A35 ((A3Z ks[i] (d + 1) _ l (hvk i (by omega)) hcvX).1 _ _ _ hE).2), A43 (by omega) hml hE, by omega, by omega⟩)
       ·(show ks.length - (i + 1) < ks.length - i; omega)
     ·(refine E4 rfl (C9 rfl rfl rfl (by omega) (by unfold maxLen; omega) rfl) rfl rfl ?_; rintro _ ⟨b219, rfl⟩)
      refine A3 3 ?_
      (refine E4 rfl (C9 rfl rfl rfl (by omega) (by unfold maxLen; omega) rfl) rfl rfl ?_; rintro _ ⟨b221, rfl⟩)
      refine A3 4 ?_
      (refine Q5 rfl rfl rfl rfl rfl rfl (fun _ _ => by repeat (first | exact Sw.here | apply Sw.there)) (P3 (by repeat first | exact mH | apply mT)) rfl (fun u hu => List.all_eq_true.1 hou9 u hu) (by unfold maxLen; omega) (by omega) rfl rfl (by repeat (first | exact A6.nil | apply A6.dep (by decide +kernel) | apply A6.im (by decide +kernel) (by assumption) (by repeat first | exact mH | apply mT) | apply A6.blk (by decide +kernel) (by repeat (first | exact Pk.here | apply Pk.there)) (by repeat first | exact mH | apply mT) | apply A6.slc (by decide +kernel) (by repeat (first | exact Pk.here | apply Pk.there)) (by repeat first | exact mH | apply mT))) (fun pn' cn' => ?_))
      refine aP 9 rfl (B1 rfl) rfl ?_
      refine A3 8 ?_
      (refine Q5 rfl rfl rfl rfl rfl rfl (fun _ _ => by repeat (first | exact Sw.here | apply Sw.there)) (P3 (by repeat first | exact mH | apply mT)) rfl (by simp [Value.oneCell']) (by unfold maxLen; omega) (by omega) rfl rfl (by repeat (first | exact A6.nil | apply A6.dep (by decide +kernel) | apply A6.im (by decide +kernel) (by assumption) (by repeat first | exact mH | apply mT) | apply A6.blk (by decide +kernel) (by repeat (first | exact Pk.here | apply Pk.there)) (by repeat first | exact mH | apply mT) | apply A6.slc (by decide +kernel) (by repeat (first | exact Pk.here | apply Pk.there)) (by repeat first | exact mH | apply mT))) (fun pm' cm' => ?_))
      refine A3 10 ?_
      refine oS rfl rfl rfl rfl rfl rfl rfl rfl ?_
      refine aP 11 rfl (qA rfl) rfl ?_
      refine C5 (M8 (nS (tR ?_)))
      refine sP (K2 rfl rfl (by omega) (by omega)) rfl rfl ?_
      refine sQ (qM rfl) rfl (sD ?_)
      refine K7 (i + 1, (pn', cn', us ++ [u2], es' ++ [[v1, v2, v3, v4, v5, v6, v7, v8, v9]]), (pm', cm', ts ++ [t2], ess ++ [[.int .i64 t2.k, .slice p3 t2.ks.length c3]]), l2, G3) ?_ ?_ ?_
      ·(simp only [J6]; exact D1)
      ·(dsimp only; exact ⟨by omega, hle.trans hle3, by simp [hlu], D7.snoc (hst.mono hle3) hru, by simp [hlt], D2.snoc (hstt.mono hle3) hrt, A2X hat (A35 ((A3Z ks[i] (d + 1) _ l (hvk i (by omega)) hcvX).1 _ _ _ hE).2), A43 (by omega) hml hE, by omega, by omega⟩)
      ·(show ks.length - (i + 1) < ks.length - i; omega)
   ·refine J2 ?_
    (obtain rfl : i = ks.length := (by omega); have hk14 : k ≠ 14 := hv2; rw [List.take_length] at hml hl2; refine T6 (cs := ess.flatten) (by repeat (first | exact Pk.here | apply Pk.there)) (fun G3 hle3 hsl3 hno3 => ?_); have hst3 := hstt.mono hle3; have hslU : D0 G3 pm ks.length cm 2 ess := D0.of hsl3 (by rw [hst3.len, hlt]) hst3.all (fun e he => (hst3.each e he).2); refine E0 rfl (B3J cx k nm num (.mk tk tks) (.mk fk fks) lb ks ts G3 pc nc cc _ pm ks.length cm ess (hx.mono hle3) har hlt.symm hk14 hta (hr0.mono hle3) hslU hst3 hat) rfl rfl (fun v G4 hle4 hh => ?_); obtain ⟨pw, nw, cw, ew, w, wc, wt, rfl, hnw, hslw, hstw, hrt, hw⟩ := hh; obtain ⟨p3, c3, e3, rfl, _⟩ := hrt.open; replace hst3 := hst3.mono hle4; replace hslU := hslU.mono hle4; have hle34 := hle3.trans hle4; replace hst := hst.mono hle34; replace hty := hty.mono hle34; replace hfr := hfr.mono hle34; rcases hmw : N2 cx k nm (Ty.mk tk tks) ts with _ | ⟨w2, t2⟩; rotate_left; have hwe := hw _ hmw; simp only [Prod.mk.injEq] at hwe; obtain ⟨rfl, rfl⟩ := hwe; have hwl := B3K (by rw [hlt]; exact hop) hkr hk14 hmw; have hcl2 := A18 us ts w2 l; rcases Nat.eq_zero_or_pos ks.length with h0 | h0; rotate_left; rotate_left)
    ·refine F0 ?_
     refine sE (A5 rfl) rfl (fun b260 => ?_)
     refine A7E ?_
     (refine I5 (cs := es'.flatten) (by repeat (first | exact Pk.here | apply Pk.there)) (fun G8 hle8 hsl8 hno8 => ?_); have hst8 := hst.mono hle8)
     refine tT (rS ?_)
     refine A2F (outs := [.blk bx [.int .i64 _]]) (rC rfl (A2 rfl rfl)) (rC rfl (A2 rfl rfl)) (rT rfl) (A0.cons (by repeat (first | exact Pk.here | apply Pk.there)) A0.nil) ?_
     (exact ElP.no (A6T hml (B3M hmw)) (L7 _) (N3 _ ⟨by omega, by omega⟩) (by omega) (by rw [hck]; omega))
    ·refine F0 ?_
     refine sE (A5 rfl) rfl (fun b297 => ?_)
     refine N6 ?_
     refine D8 rfl ((A3A _ _ _ hrt)) rfl rfl (fun h310 => ?_) (fun h310 => ?_)
     ·refine H9 ?_
      refine B4 ?_
      (have h0' : ks.length = 0 := h0; refine K9 (fun (_ : Nat) => ⟨[(86, .int .i64 0), (85, .int .i64 nw), (84, .slice pw nw cw), (11, .slice pm ks.length cm), (1, .slice pc nc cc), (0, .pointer (some ⟨bx, 0, none⟩)), (5, .pointer (some ⟨b3, 0, none⟩)), (6, .pointer (some ⟨b4, 0, none⟩)), (7, .pointer (some ⟨b5, 0, none⟩)), (10, .pointer (some ⟨b58, 0, none⟩)), (18, .pointer (some ⟨b297, 0, none⟩))], [.blk b297 [.int .i64 t2.k, .slice p3 t2.ks.length c3], .blk b58 [.int .i64 k, .string nm, .int .i64 num, .int .i64 tk, .slice pt tks.length ct, .int .i64 fk, .slice pf fks.length cf, .int .i64 lb, .slice pn ks.length cn], .slc pn cn 28 9 ks.length es'.flatten, .blk b5 [.int .i64 0, .slice none 0 0], .blk b4 [.int .i64 0, .string ⟨⟨[]⟩⟩, .int .i64 0, .int .i64 0, .slice none 0 0, .int .i64 0, .slice none 0 0, .int .i64 0, .slice none 0 0], .blk b3 [.int .i64 k, .string nm, .int .i64 num, .int .i64 tk, .slice pt tks.length ct, .int .i64 fk, .slice pf fks.length cf, .int .i64 lb, .slice q ks.length cq], .blk bx [.int .i64 l]], G4⟩) (fun _ => True) (fun i => i) 0 ?_ ?_ ?_)
      ·exact D1
      ·trivial
      ·(rintro (i0 : Nat) _)
       refine tS (tR ?_)
       refine sP (A2M rfl rfl (by omega)) rfl rfl ?_
       refine J2 ?_
       refine sP (H4 rfl rfl (by omega)) rfl rfl ?_
       refine sD (nS (cF rfl (tK (nS (tS ?_)))))
       refine E1 E2 rfl ?_
       refine P9 (i := 0) (l' := [tt,ff,ff,ff,ff]) rfl D5 (A2 rfl rfl) rfl (by kernel_rfl) rfl rfl ?_
       refine aL 1 rfl (A2 rfl rfl) rfl ?_
       refine A3 2 ?_
       refine oS rfl rfl rfl rfl rfl rfl rfl rfl ?_
       refine A3 3 ?_
       refine oS rfl rfl rfl rfl rfl rfl rfl rfl ?_
       refine aP 4 rfl (qA rfl) rfl ?_
       refine C5 (nS ?_)
       (refine I5 (cs := es'.flatten) (by repeat (first | exact Pk.here | apply Pk.there)) (fun G8 hle8 hsl8 hno8 => ?_); have hst8 := hst.mono hle8)
       refine tT ?_
       refine A2F (outs := [.blk bx [.int .i64 _]]) (rC rfl (A2 rfl rfl)) (rC rfl (A2 rfl rfl)) (rT rfl) (A0.cons (by repeat (first | exact Pk.here | apply Pk.there)) A0.nil) ?_
       (obtain rfl : w2 = [] := List.length_eq_zero_iff.1 (by omega); have hne : k ≠ 13 := (fun h => by have := hop.2.2 (.inr (.inr (.inr h))); omega); have hel := A94 (num := num) (fr := .mk fk fks) (lb := lb) hml (A3W hmw (b := true) (by assumption)) hne; rw [Y3] at hel; exact ElP.yes hel (A8.put hk hnum hlb (hty.mono hle8) (hfr.mono hle8) (by rw [hlu]) (D0.of hsl8 (by rw [hst8.len, hlu]) hst8.all (fun e he => (hst8.each e he).2)) hst8) (hrt.mono hle8) (by omega) (by rw [hck]; omega))
     ·refine J2 ?_
      (refine I5 (cs := es'.flatten) (by repeat (first | exact Pk.here | apply Pk.there)) (fun G8 hle8 hsl8 hno8 => ?_); have hst8 := hst.mono hle8)
      refine tT (rS ?_)
      refine A2F (outs := [.blk bx [.int .i64 _]]) (rC rfl (A2 rfl rfl)) (rC rfl (A2 rfl rfl)) (rT rfl) (A0.cons (by repeat (first | exact Pk.here | apply Pk.there)) A0.nil) ?_
      (exact ElP.no (A6T hml (A3W hmw (b := false) (by assumption))) (L7 _) (N3 _ ⟨by omega, by omega⟩) (by omega) (by rw [hck]; omega))
    ·(refine A3R (cs := es'.flatten) (by repeat (first | exact Pk.here | apply Pk.there)) h0 (fun bc C hpe hnc hcm => ?_); subst hpe; refine sQ (qM rfl) rfl ?_)
     refine K3 ?_
     refine sE (A5 rfl) rfl (fun b392 => ?_)
     refine N6 ?_
     refine D8 rfl ((A3A _ _ _ hrt)) rfl rfl (fun h405 => ?_) (fun h405 => ?_)
     ·refine H9 ?_
      refine B4 ?_
      (have h0' := h0; refine K9 (fun (x : Nat × List (List Value) × IM) => ⟨[(86, .int .i64 x.1), (85, .int .i64 nw), (84, .slice pw nw cw), (11, .slice pm ks.length cm), (1, .slice pc nc cc), (0, .pointer (some ⟨bx, 0, none⟩)), (5, .pointer (some ⟨b3, 0, none⟩)), (6, .pointer (some ⟨b4, 0, none⟩)), (7, .pointer (some ⟨b5, 0, none⟩)), (10, .pointer (some ⟨b58, 0, none⟩)), (18, .pointer (some ⟨b392, 0, none⟩))], [.blk b392 [.int .i64 t2.k, .slice p3 t2.ks.length c3], .blk b58 [.int .i64 k, .string nm, .int .i64 num, .int .i64 tk, .slice pt tks.length ct, .int .i64 fk, .slice pf fks.length cf, .int .i64 lb, .slice (some ⟨bc, 0, none⟩) ks.length cn], .blk bc (x.2.1.flatten ++ C), .blk b5 [.int .i64 0, .slice none 0 0], .blk b4 [.int .i64 0, .string ⟨⟨[]⟩⟩, .int .i64 0, .int .i64 0, .slice none 0 0, .int .i64 0, .slice none 0 0, .int .i64 0, .slice none 0 0], .blk b3 [.int .i64 k, .string nm, .int .i64 num, .int .i64 tk, .slice pt tks.length ct, .int .i64 fk, .slice pf fks.length cf, .int .i64 lb, .slice q ks.length cq], .blk bx [.int .i64 (E8 us ts (w2.take x.1) l).2]], x.2.2⟩) (fun x => x.1 ≤ nw ∧ B6 G4 x.2.2 ∧ D7 x.2.2 (E8 us ts (w2.take x.1) l).1 x.2.1) (fun x => nw - x.1) (0, es', G4) ?_ ?_ ?_)
      ·(simp only [List.take_zero, Y3]; exact (O1 (by repeat (first | exact E3.nil | refine E3.cons rfl ?_)) (by repeat (first | exact A0.refl | exact A0.nil | refine A0.cons (by repeat (first | exact Pk.here | apply Pk.there)) ?_ | apply A0.drop))))
      ·(exact ⟨Nat.zero_le _, B6.refl _, by simp only [List.take_zero, Y3]; exact hst⟩)
      ·(rintro ⟨j, es2, G6⟩ ⟨hj, hle6, hst2⟩; simp only [] at hj hle6 hst2 ⊢; replace hslw := hslw.mono hle6; replace hstw := hstw.mono hle6; replace hslU := hslU.mono hle6; replace hst3 := hst3.mono hle6; replace hty := hty.mono hle6; replace hfr := hfr.mono hle6; replace hrt := hrt.mono hle6; have hall2 := hst2.all; have hle2s := hst2.len; rw [A24] at hle2s)
       refine tS (tR ?_)
       refine sB (K6 rfl rfl) rfl rfl (fun h428 => ?_) (fun h428 => ?_)
       ·refine sD (nS (tS (qT rfl (tK (nS (tS ?_))))))
        refine B4 ?_
        refine tS (tR (sQ (qM rfl) rfl ?_))
        (have hjw : j < w2.length := (by omega); obtain ⟨b5w, o5w, q5, d5, hp5, hat, hrw, hgb⟩ := hslw.kidTy hstw (i := j) (by omega) (by omega); cases hp5; refine sP (B3 rfl rfl rfl (by omega)) rfl rfl ?_)
        refine sL (A1 rfl rfl (hat _) rfl) rfl rfl ?_
        refine sE (A5 rfl) rfl (fun b442 => ?_)
        refine sQ (qA rfl) rfl (F9 ?_)
        refine sD (nS ?_)
        (have hjw2 := hjw; obtain ⟨b0, o0, q0, d0, hp0, hat0, hre0, hg0⟩ := hslU.kidTy hst3 (i := j) (by omega) (by omega); cases hp0; obtain ⟨m1, m2, _⟩ := A44 us ts w2 l j hjw (by omega) (by omega); obtain ⟨m3, m4⟩ := B3W (us := us) (h := ts) (w := w2) (l := l) hjw (by omega) (by omega); obtain ⟨hE1, hE2⟩ := hst2.at2 (i := j) (by omega) (by omega); rw [m2] at hE2; have hE3 := hE2.len; have hE4 := hE2.one; have hcj := A18 us ts (w2.take j) l; refine E1 E2 rfl ?_)
        refine J5 (i := 0) (l' := [tt,ff,ff,ff,ff,ff,ff,ff,ff,ff,ff,ff,ff,ff,ff,ff,ff]) rfl D5 (B1 rfl) rfl (by kernel_rfl) rfl rfl ?_
        refine aL 1 rfl (C0 rfl rfl) rfl ?_
        refine aP 2 rfl (qM rfl) rfl ?_
        refine aP 3 rfl (qM rfl) rfl ?_
        refine aP 4 rfl (B1 rfl) rfl ?_
        refine aL 5 rfl (C0 rfl rfl) rfl ?_
        refine aP 6 rfl (qM rfl) rfl ?_
        refine aP 7 rfl (B3 (j := j) rfl rfl rfl (by omega)) rfl ?_
        refine aL 8 rfl (A1 rfl rfl (A8Z (es := es2) (by repeat first | exact mH | apply mT) (by omega) hall2) hE3) rfl ?_
        refine aP 9 rfl (qM rfl) rfl ?_
        refine aP 10 rfl (qM rfl) rfl ?_
        refine aP 11 rfl (B3 (j := j) rfl rfl rfl (by omega)) rfl ?_
        refine aL 12 rfl (A1 rfl rfl (hat0 _) rfl) rfl ?_
        refine aL 13 rfl (A2 rfl rfl) rfl ?_
        refine A3 14 ?_
        (refine A0b (l' := [tt,tt,tt,tt,tt,tt,tt,tt,tt,tt,tt,tt,tt,tt,tt,ff,ff]) rfl rfl (B4U bx us[j] ts[j] w2[j] (E8 us ts (w2.take j) l).2 G6 _ _ _ (by omega) hE2 hre0 hrw) (Pk.perm (by repeat (first | exact Pk.here | apply Pk.there))) rfl rfl rfl (by repeat (first | exact A6.nil | apply A6.dep (by decide +kernel) | apply A6.im (by decide +kernel) (by assumption) (by repeat first | exact mH | apply mT) | apply A6.blk (by decide +kernel) (by repeat (first | exact Pk.here | apply Pk.there)) (by repeat first | exact mH | apply mT) | apply A6.slc (by decide +kernel) (by repeat (first | exact Pk.here | apply Pk.there)) (by repeat first | exact mH | apply mT))) (fun v G7 outs hle7 hh => ?_); obtain ⟨uc, rfl, rfl, hru⟩ := hh; rw [← m4]; have hlu9 := hru.len; have hou9 := hru.one)
        refine aP 15 rfl (B3 (j := j) rfl rfl rfl (by omega)) rfl ?_
        refine A3 16 ?_
        refine R2 rfl rfl rfl rfl hlu9 hou9 rfl rfl (by kernel_rfl) (by repeat first | exact Sw.here | apply Sw.there) (by exact A3S (by omega) hall2 hlu9) ?_
        refine C5 (M8 (nS (tR ?_)))
        refine sP (K2 rfl rfl (by omega) (by omega)) rfl rfl ?_
        refine sQ (qM rfl) rfl (sD ?_)
        refine K7 (j + 1, es2.set j uc, G7) ?_ ?_ ?_
        ·(simp only [List.take_zero, Y3]; exact (O1 (by repeat (first | exact E3.nil | refine E3.cons rfl ?_)) (by repeat (first | exact A0.refl | exact A0.nil | refine A0.cons (by repeat (first | exact Pk.here | apply Pk.there)) ?_ | apply A0.drop))))
        ·(dsimp only; exact ⟨by omega, hle6.trans hle7, by rw [m3]; exact D7.set (hst2.mono hle7) hru⟩)
        ·(show nw - (j + 1) < nw - j; omega)
       ·refine J2 ?_
        refine sB (qE rfl rfl) rfl rfl (fun h492 => ?_) (fun h492 => ?_)
        ·refine sD (nS (qT rfl (tS ?_)))
         (have hq13 : k = 13 := (by omega); have hl13 := hop.2.2 (.inr (.inr (.inr hq13))); have hjw : j = w2.length := (by omega); rw [hjw, List.take_length] at hst2; have hm0 := A24 us ts w2 l; obtain ⟨hE1, hE2⟩ := hst2.at2 (i := 0) (by omega) (by omega); have hE3 := hE2.len; have hE4 := hE2.one; refine E1 E2 rfl ?_)
         refine J5 (i := 0) (l' := [tt,ff,ff,ff,ff,ff,ff,ff]) rfl D5 (B1 rfl) rfl (by kernel_rfl) rfl rfl ?_
         refine aL 1 rfl (C0 rfl rfl) rfl ?_
         refine aP 2 rfl (B3 (j := 0) rfl rfl rfl (by omega)) rfl ?_
         refine aL 3 rfl (A1 rfl rfl (A8Z (es := es2) (by repeat first | exact mH | apply mT) (by omega) hall2) hE3) rfl ?_
         refine aL 4 rfl (A2 rfl rfl) rfl ?_
         refine A3 5 ?_
         refine oS rfl rfl rfl rfl hE3 hE4 rfl rfl ?_ (hu := by exact C3 hE3.symm)
         refine A3 6 ?_
         refine oS rfl rfl rfl rfl rfl rfl rfl rfl ?_
         refine aP 7 rfl (qA rfl) rfl ?_
         refine C5 (nS ?_)
         (refine A2P (bs := [(bc, es2.flatten ++ C)]) (Pk.perm (by repeat (first | exact Pk.here | apply Pk.there))) (fun hn9 hd9 hle9 => ?_))
         refine tT (rS ?_)
         refine A2F (outs := [.blk bx [.int .i64 _]]) (rC rfl (A1 rfl rfl (A9 (by repeat first | exact mH | apply mT)) hE3)) (rC rfl (A2 rfl rfl)) (rT rfl) (A0.cons (by repeat (first | exact Pk.here | apply Pk.there)) A0.nil) ?_
         (have hel := B4W (num := num) (fr := .mk fk fks) (lb := lb) hml (A3W hmw (b := true) (by assumption)) hq13; rw [B4X (by omega)] at hel; rw [hjw, List.take_length]; exact ElP.yes hel (hE2.mono hle9) (hrt.mono hle9) (by omega) (by rw [hck]; omega))
        ·refine sD (nS (cF rfl (tK (nS (tS ?_)))))
         refine E1 E2 rfl ?_
         refine P9 (i := 0) (l' := [tt,ff,ff,ff,ff]) rfl D5 (A2 rfl rfl) rfl (by kernel_rfl) rfl rfl ?_
         refine aL 1 rfl (A2 rfl rfl) rfl ?_
         refine A3 2 ?_
         refine oS rfl rfl rfl rfl rfl rfl rfl rfl ?_
         refine A3 3 ?_
         refine oS rfl rfl rfl rfl rfl rfl rfl rfl ?_
         refine aP 4 rfl (qA rfl) rfl ?_
         refine C5 (nS ?_)
         (refine A2P (bs := [(bc, es2.flatten ++ C)]) (Pk.perm (by repeat (first | exact Pk.here | apply Pk.there))) (fun hn9 hd9 hle9 => ?_))
         refine tT ?_
         refine A2F (outs := [.blk bx [.int .i64 _]]) (rC rfl (A2 rfl rfl)) (rC rfl (A2 rfl rfl)) (rT rfl) (A0.cons (by repeat (first | exact Pk.here | apply Pk.there)) A0.nil) ?_
         (have hjw : j = w2.length := (by omega); rw [hjw, List.take_length] at hst2; have hst9 := hst2.mono hle9; have hel := A94 (num := num) (fr := .mk fk fks) (lb := lb) hml (A3W hmw (b := true) (by assumption)) (show k ≠ 13 by omega); rw [hjw, List.take_length]; have hm0 := A24 us ts w2 l; exact ElP.yes hel (A8.put hk hnum hlb (hty.mono hle9) (hfr.mono hle9) (by rw [hm0, hlu]) (D0.of (Sl.of_blk (A := []) (by rw [A1d hst9.all, hst9.len, hm0, hlu]) (by omega) hcm (Wi.in hn9 List.mem_cons_self)) (by rw [hst9.len, hm0, hlu]) hst9.all (fun e he => (hst9.each e he).2)) hst9) (hrt.mono hle9) (by omega) (by rw [hck]; omega))
     ·refine K4 ?_
      refine A2F (outs := [.blk bx [.int .i64 _]]) (rC rfl (A2 rfl rfl)) (rC rfl (A2 rfl rfl)) (rT rfl) (A0.cons (by repeat (first | exact Pk.here | apply Pk.there)) A0.nil) ?_
      (exact ElP.no (A6T hml (A3W hmw (b := false) (by assumption))) (L7 _) (N3 _ ⟨by omega, by omega⟩) (by omega) (by rw [hck]; omega))
def A2d (r : Option (Tm × Ty)) : IM → Value → List A4 → Prop := L5 fun G' v => ∃ cu ct, v = .tuple ⟨[.agg ⟨cu⟩, .agg ⟨ct⟩, .bool r.isSome]⟩ ∧ A8 G' (r.getD (F4, A7)).1 cu ∧ B7 G' (r.getD (F4, A7)).2 ct
theorem A2d.no {G : IM} {r : Option (Tm × Ty)} {cu ct : List Value} (h : r = none) (hu : A8 G F4 cu) (ht : B7 G A7 ct) : A2d r G (.tuple ⟨[.agg ⟨cu⟩, .agg ⟨ct⟩, .bool false]⟩) [] := by subst h; exact ⟨rfl, cu, ct, rfl, hu, ht⟩
theorem A2d.yes {G : IM} {r : Option (Tm × Ty)} {u : Tm} {t : Ty} {cu ct : List Value} (h : r = some (u, t)) (hu : A8 G u cu) (ht : B7 G t ct) : A2d r G (.tuple ⟨[.agg ⟨cu⟩, .agg ⟨ct⟩, .bool true]⟩) [] := by subst h; exact ⟨rfl, cu, ct, rfl, hu, ht⟩
theorem A96 {e : Tm} (h : N9 e = false) : T3 e = none := by unfold T3; rw [if_neg (by rw [h]; decide)]
theorem A6U {e : Tm} (h : N9 e = true) (h2 : M5 [] e 0 = none) : T3 e = none := by unfold T3; rw [if_pos h, h2]
theorem A6V {e u : Tm} {t : Ty} {l : Int} (h : N9 e = true) (h2 : M5 [] e 0 = some (u, t, l)) : T3 e = some (u, t) := by unfold T3; rw [if_pos h, h2]
theorem B4Y (e : Tm) (G : IM) (cells : List Value) (hr : A8 G e cells) : Fn Tryz.prog 68 [.agg ⟨cells⟩] [] G (A2d (T3 e)) := by
 have hRl := hr.len
 have hRo := hr.one
 have hV := A4G e G cells hr
 have hno := @A96 e
 have hnn := @A6U e
 have hso := @A6V e
 refine B2 Tryz.func68 rfl Tryz.ntmps68 Tryz.results68 rfl ?_
 intro w0
 refine tS (tR ?_)
 refine sE (B9 rfl rfl) rfl (fun b3 => ?_)
 refine sE (A5 rfl) rfl (fun b4 => ?_)
 refine sE (A5 rfl) rfl (fun b5 => ?_)
 refine sQ (qA rfl) rfl (sD (nS (tS (tS (tR ?_)))))
 refine sL (A1 rfl rfl (A9 (by repeat first | exact mH | apply mT)) hRl) rfl rfl ?_
 refine D8 rfl (hV) rfl rfl (fun h13 => ?_) (fun h13 => ?_)
 refine D4 ?_
 refine sE (B9 rfl rfl) rfl (fun b23 => ?_)
 refine sL (A1 rfl rfl (A9 (by repeat first | exact mH | apply mT)) hRl) rfl rfl ?_
 focus (have htv : N9 e = true := (by assumption); obtain ⟨hsh, hcn⟩ := (A0a e).1 htv; refine I7 rfl (A95 _ e 1 [] 0 G none 0 0 _ hsh (by omega) A23 (T2.nil G) hr (by omega) (by omega)) (Pk.perm (by repeat (first | exact Pk.here | apply Pk.there))) rfl rfl (fun v G1 outs hle1 hh => ?_); obtain ⟨u, uc, t, tc, l3, rfl, rfl, hru, hrt, hl3, hl4, hu⟩ := hh; have hul := hru.len; have huo := hru.one; obtain ⟨p3, c3, e3, rfl, _⟩ := hrt.open; have hnn := hnn htv; have hso := @hso u t l3 htv; rcases hE : M5 [] e 0 with _ | ⟨u2, t2, l2⟩; rotate_left; have hue := hu _ hE; simp only [Prod.mk.injEq] at hue; obtain ⟨rfl, rfl, rfl⟩ := hue; have hso := hso hE; obtain ⟨hg1, hg2, hg3⟩ := A6P hso; rotate_left; simp only [Option.isSome]; rotate_left; simp only [Option.isSome])
 refine F0 ?_
 refine sE (A5 rfl) rfl (fun b30 => ?_)
 refine sE (A5 rfl) rfl (fun b31 => ?_)
 refine sS rfl rfl rfl hul huo rfl ?_ (hu := by exact C3 hul.symm)
 refine H9 ?_
 refine E1 E2 rfl ?_
 refine P9 (i := 0) (l' := [tt,ff,ff,ff,ff,ff,ff]) rfl D5 (A1 rfl rfl (A9 (by repeat first | exact mH | apply mT)) hul) rfl (by kernel_rfl) rfl rfl ?_
 refine aL 2 rfl (A2 rfl rfl) rfl ?_
 refine A3 1 ?_
 (refine K0 rfl rfl (A3L _ _ _ (A28 hg1) hru) rfl rfl rfl (fun v G2 hle2 hh => ?_); obtain ⟨cs2, F2, rfl, hs2, hn2⟩ := hh; have hwl := hs2.R.len; have hwo := hs2.R.one; have hr2 := hs2.R.mono (C1.le G2 G1); replace hrt := hrt.mono hle2)
 refine A3 3 ?_
 (refine K0 rfl rfl (A10 _ _ _ (A35 hg3).small hrt) rfl rfl rfl (fun v G3 hle3 hh => ?_); obtain ⟨cs3, F3, rfl, hs3, hn3⟩ := hh; obtain ⟨p4, c4, rfl, _⟩ := hs3.open; have hr3 := hs3.R.mono (C1.le G3 G2); replace hr2 := hr2.mono hle3)
 refine A3 4 ?_
 refine oS rfl rfl rfl rfl hwl hwo rfl rfl ?_ (hu := by exact C3 hwl.symm)
 refine A3 5 ?_
 refine oS rfl rfl rfl rfl rfl rfl rfl rfl ?_
 refine aP 6 rfl (qA rfl) rfl ?_
 refine C5 (nS (tT ?_))
 refine C4 (rC rfl (A1 rfl rfl (A9 (by repeat first | exact mH | apply mT)) hwl)) (rC rfl (A2 rfl rfl)) (rT rfl) ?_
 (exact A2d.yes hso hr2 hr3)
 refine F0 ?_
 refine sE (A5 rfl) rfl (fun b69 => ?_)
 refine sE (A5 rfl) rfl (fun b70 => ?_)
 refine sS rfl rfl rfl hul huo rfl ?_ (hu := by exact C3 hul.symm)
 refine A1c ?_
 refine C4 (rC rfl (A2 rfl rfl)) (rC rfl (A2 rfl rfl)) (rT rfl) ?_
 (exact A2d.no (hnn hE) (L7 _) (N3 _ ⟨by omega, by omega⟩))
 refine H9 ?_
 refine C4 (rC rfl (A2 rfl rfl)) (rC rfl (A2 rfl rfl)) (rT rfl) ?_
 (exact A2d.no (hno (by assumption)) (L7 _) (N3 _ ⟨by omega, by omega⟩))
def U4 (e : Tm) : Option Ty := match T3 e with | some (_, t) => some t | none => none
theorem B4Z (e : Tm) (G : IM) (cells : List Value) (htv : N9 e = true) (hr : A8 G e cells) : Fn Tryz.prog 142 [.slice none 0 0, .agg ⟨cells⟩] [] G (Y1 (U4 e) G) := by
 have hRl := hr.len
 have hRo := hr.one
 have hnn := @A6U e htv
 have hso := fun u t l => @A6V e u t l htv
 obtain ⟨hsh, hcn⟩ := (A0a e).1 htv
 refine B2 Tryz.func142 rfl Tryz.ntmps142 Tryz.results142 rfl ?_
 intro w0
 refine tS (tR ?_)
 refine sE (B9 rfl rfl) rfl (fun b3 => ?_)
 refine sE (A5 rfl) rfl (fun b4 => ?_)
 refine J8 ?_
 refine sE (B9 rfl rfl) rfl (fun b11 => ?_)
 refine sQ (qM rfl) rfl ?_
 refine sL (A1 rfl rfl (A9 (by repeat first | exact mH | apply mT)) hRl) rfl rfl ?_
 focus (refine I7 rfl (A95 _ e 1 [] 0 G none 0 0 _ hsh (by omega) A23 (T2.nil G) hr (by omega) (by omega)) (Pk.perm (by repeat (first | exact Pk.here | apply Pk.there))) rfl rfl (fun v G1 outs hle1 hh => ?_); obtain ⟨u, uc, t, tc, l3, rfl, rfl, hru, hrt, hl3, hl4, hu⟩ := hh; have hul := hru.len; have huo := hru.one; obtain ⟨p3, c3, e3, rfl, _⟩ := hrt.open; have hso := hso u t l3; rcases hE : M5 [] e 0 with _ | ⟨u2, t2, l2⟩; rotate_left; have hue := hu _ hE; simp only [Prod.mk.injEq] at hue; obtain ⟨rfl, rfl, rfl⟩ := hue; have hso := hso hE; rotate_left; simp only [Option.isSome]; rotate_left; simp only [Option.isSome])
 refine F0 ?_
 refine sE (A5 rfl) rfl (fun b19 => ?_)
 refine sE (A5 rfl) rfl (fun b20 => ?_)
 refine sS rfl rfl rfl hul huo rfl ?_ (hu := by exact C3 hul.symm)
 refine J9 ?_
 refine I2 (rC rfl (A2 rfl rfl)) (rT rfl) ?_
 (exact Y1.yes hrt rfl (by unfold U4; rw [hso]))
 refine F0 ?_
 refine sE (A5 rfl) rfl (fun b41 => ?_)
 refine sE (A5 rfl) rfl (fun b42 => ?_)
 refine sS rfl rfl rfl hul huo rfl ?_ (hu := by exact C3 hul.symm)
 refine J9 ?_
 refine I2 (rC rfl (A2 rfl rfl)) (rT rfl) ?_
 (exact Y1.no hrt rfl (by unfold U4; rw [hnn hE]))
theorem B40 (fid : FuncId) (us cs : List Value) (G : IM) : Fn Tryz.prog 230 [.slice none 0 0, .func (.func fid) ⟨us⟩ ⟨cs⟩] [] G (H0 (.int .i64 (-1)) G) := by
 refine B2 Tryz.func230 rfl Tryz.ntmps230 Tryz.results230 rfl ?_
 intro w0
 refine J9 ?_
 refine B4 ?_
 refine K9 (fun (_ : Nat) => ⟨[(8, .int .i64 0), (7, .int .i64 0)], [], G⟩) (fun _ => True) (fun i => i) 0 ?_ ?_ ?_
 ·exact D1
 ·trivial
 ·(rintro (i0 : Nat) _)
  refine tS (tR ?_)
  refine sP (A2M rfl rfl (by omega)) rfl rfl ?_
  refine K4 ?_
  trivial
theorem B41 (fid : FuncId) (us cs : List Value) (G : IM) : Fn Tryz.prog 193 [.slice none 0 0, .func (.func fid) ⟨us⟩ ⟨cs⟩] [] G (H0 (.bool false) G) := by
 refine B2 Tryz.func193 rfl Tryz.ntmps193 Tryz.results193 rfl ?_
 intro w0
 refine D4 ?_
 refine H3 rfl (B40 fid us cs G) rfl rfl ?_
 refine sP (B1V rfl rfl (by omega)) rfl rfl ?_
 refine sQ (qA rfl) rfl (sD (nS (tT (D9 (rT rfl) ?_))))
 (exact ⟨rfl, rfl, rfl⟩)
theorem B42 (G : IM) : Fn Tryz.prog 141 [.slice none 0 0] [] G (H0 (.bool true) G) := by
 refine B2 Tryz.func141 rfl Tryz.ntmps141 Tryz.results141 rfl ?_
 intro w0
 refine D4 ?_
 refine sP (A7w rfl rfl (by omega)) rfl rfl ?_
 refine sQ (qM rfl) rfl (sQ (qM rfl) rfl ?_)
 refine H3 rfl ((B41 _ _ _ _)) rfl rfl ?_
 refine C2 ?_
 (exact ⟨rfl, rfl, rfl⟩)
theorem A97 {e : Tm} (h : N9 e = false) : U4 e = none := by unfold U4; rw [A96 h]
theorem B43 {e : Tm} {t : Ty} (h : U4 e = some t) : E7 t = true := by
 unfold U4 at h
 split at h
 ·rename_i u t' hi; cases h; exact (A6P hi).2.2
 ·cases h
theorem B44 (e : Tm) (G : IM) (cells : List Value) (hr : A8 G e cells) : Fn Tryz.prog 69 [.slice none 0 0, .agg ⟨cells⟩] [] G (Y1 (U4 e) G) := by
 have hRl := hr.len
 have hRo := hr.one
 refine B2 Tryz.func69 rfl Tryz.ntmps69 Tryz.results69 rfl ?_
 intro w0
 refine tS (tR ?_)
 refine sE (B9 rfl rfl) rfl (fun b3 => ?_)
 refine sE (A5 rfl) rfl (fun b4 => ?_)
 refine C2 ?_
 refine H3 rfl ((B42 _)) rfl rfl ?_
 refine sQ (Z3 rfl) rfl (sQ (qM rfl) rfl ?_)
 refine sL (A1 rfl rfl (A9 (by repeat first | exact mH | apply mT)) hRl) rfl rfl ?_
 refine D8 rfl ((A4G e _ _ hr)) rfl rfl (fun h16 => ?_) (fun h16 => ?_)
 refine I9 ?_
 refine sL (A1 rfl rfl (A9 (by repeat first | exact mH | apply mT)) hRl) rfl rfl ?_
 focus (refine E0 rfl (B4Z e G cells (by assumption) hr) rfl rfl (fun v G1 hle1 hh => ?_); obtain ⟨cu, u, rfl, hru, hu⟩ := hh; obtain ⟨p1, c1, e1, rfl, _⟩ := hru.open; rcases hct : U4 e with _ | u2; rotate_left; obtain rfl := hu u2 hct; have hgv := B43 hct; rotate_left; simp only [Option.isSome]; rotate_left; simp only [Option.isSome])
 refine K3 ?_
 refine sE (A5 rfl) rfl (fun b32 => ?_)
 refine T0 ?_
 (refine E0 rfl (A10 _ G1 _ (A35 hgv).small hru) rfl rfl (fun v G2 hle2 hh => ?_); obtain ⟨cs2, F2, rfl, hs2, hn2⟩ := hh; obtain ⟨p2, c2, rfl, _⟩ := hs2.open; have hr2 := hs2.R.mono (C1.le G2 G1))
 refine F9 ?_
 refine sQ (qA rfl) rfl (sD (nS (tT ?_)))
 refine I2 (rC rfl (A2 rfl rfl)) (rT rfl) ?_
 (exact Y1.yes hr2 rfl (by first | exact hct | rfl))
 refine K3 ?_
 refine sE (A5 rfl) rfl (fun b61 => ?_)
 refine A0D ?_
 refine I2 (rC rfl (A2 rfl rfl)) (rT rfl) ?_
 (exact Y1.no (u := A7) (N3 _ ⟨by omega, by omega⟩) rfl (by first | exact hct | rfl))
 refine J2 ?_
 refine I2 (rC rfl (A2 rfl rfl)) (rT rfl) ?_
 (exact Y1.no (u := A7) (N3 _ ⟨by omega, by omega⟩) rfl (A97 (by assumption)))
theorem B45 (e : Tm) (G : IM) (cells : List Value) (hr : A8 G e cells) : Fn Tryz.prog 23 [.agg ⟨cells⟩] [] G (Y1 (U4 e) G) := by
 have hRl := hr.len
 have hRo := hr.one
 refine B2 Tryz.func23 rfl Tryz.ntmps23 Tryz.results23 rfl ?_
 intro w0
 refine tS (tR ?_)
 refine sE (B9 rfl rfl) rfl (fun b3 => ?_)
 refine sE (A5 rfl) rfl (fun b4 => ?_)
 refine sQ (qA rfl) rfl (sD (nS (tS (tR ?_))))
 refine sL (A1 rfl rfl (A9 (by repeat first | exact mH | apply mT)) hRl) rfl rfl ?_
 (refine E0 rfl (B44 e G cells hr) rfl rfl (fun v G1 hle1 hh => ?_); obtain ⟨cu, u, rfl, hru, hu⟩ := hh; obtain ⟨p1, c1, e1, rfl, _⟩ := hru.open)
 refine C2 ?_
 refine I2 (rC rfl (A2 rfl rfl)) (rT rfl) ?_
 (exact ⟨rfl, _, u, rfl, hru, hu⟩)
def A0d (e : Tm) (fuel : Int) : ByteArray × Int × Int := match T3 e with
 | none => (⟨⟨[]⟩⟩, 3, 0)
 | some (u, _) => if (S3 u fuel).2.1 = 0 then (U3 (S3 u fuel).1, 0, 0) else (⟨⟨[]⟩⟩, (S3 u fuel).2.1, (S3 u fuel).2.2)
def A6W (r : ByteArray × Int × Int) (G : IM) : IM → Value → List A4 → Prop := L5 fun _ v => v = .tuple ⟨[.string r.1, .int .i64 r.2.1, .int .i64 r.2.2]⟩
theorem A98 {e : Tm} {fuel : Int} (h : T3 e = none) : A0d e fuel = (⟨⟨[]⟩⟩, 3, 0) := by unfold A0d; rw [h]
theorem A6X {e u : Tm} {t : Ty} {fuel : Int} (h : T3 e = some (u, t)) (h0 : (S3 u fuel).2.1 = 0) : A0d e fuel = (U3 (S3 u fuel).1, 0, 0) := by unfold A0d; rw [h]; simp only [h0, if_true]
theorem A5j {e u : Tm} {t : Ty} {fuel : Int} (h : T3 e = some (u, t)) (h0 : (S3 u fuel).2.1 ≠ 0) : A0d e fuel = (⟨⟨[]⟩⟩, (S3 u fuel).2.1, (S3 u fuel).2.2) := by unfold A0d; rw [h]; simp only [if_neg h0]
theorem A99 : ∀ (n : Nat) (e : Tm), (P4 n e).2.1 = 0 → J3 (P4 n e).1 = true ∧ C8 (P4 n e).1 = true ∧ (P4 n e).2.2.1 = 0
 | 0, e, h => by rw [A6L] at h ⊢; exact stepv e h
 | n + 1, e, h => by
  by_cases h1 : (H5 e).2.1 = 1
  ·rw [A6M h1] at h ⊢; exact A99 n _ h
  ·rw [A6N h1] at h ⊢; exact stepv e h
where
 stepv (e : Tm) (h : (H5 e).2.1 = 0) : J3 (H5 e).1 = true ∧ C8 (H5 e).1 = true ∧ (H5 e).2.2 = 0 := by
  cases h1 : J3 e with
  | false => rw [A9K h1] at h; simp at h
  | true =>
   cases h2 : C8 e with
   | true => rw [A5f h1 h2]; exact ⟨h1, h2, rfl⟩
   | false =>
    by_cases h3 : (H7 e).2.1 = 1
    ·cases h4 : J3 (H7 e).1 with
     | false => rw [A5g h1 h2 h3 h4] at h; simp at h
     | true => rw [A5h h1 h2 h3 h4] at h; simp at h
    ·rw [A9L h1 h2 h3] at h
     exact absurd h (stp_ne0 e)
 stp_ne0 : ∀ (e : Tm), (H7 e).2.1 ≠ 0 := by
  refine Tm.ind fun k nm num ty fr lb ks ih => ?_
  rw [H7]
  cases hL : V8 (if k = 9 then 1 else ks.length) ks with
  | none => exact red_ne0 k ty fr lb ks
  | some p =>
   obtain ⟨us, c, l⟩ := p
   have := stpL_ne0 ks ih _ us c l hL
   simp only
   by_cases hc : c = 1
   ·rw [if_pos hc]; simp
   ·rw [if_neg hc]; exact this
 red_ne0 (k : Int) (ty fr : Ty) (lb : Int) (ks : List Tm) : (Q7 k ty fr lb ks).2.1 ≠ 0 := by
  unfold Q7 S8
  repeat' split
  all_goals simp
 stpL_ne0 (ks : List Tm) (ih : ∀ t ∈ ks, (H7 t).2.1 ≠ 0) : ∀ (n : Nat) us c l, V8 n ks = some (us, c, l) → c ≠ 0 := by
  induction ks with
  | nil => intro n us c l h; cases n <;> simp [V8] at h
  | cons t ts iht =>
   intro n us c l h
   cases n with
   | zero => simp [V8] at h
   | succ n =>
    rw [A5d] at h
    by_cases hv : C8 t = true
    ·rw [if_pos hv] at h
     split at h
     ·rename_i us' c' l' h'
      simp only [Option.some.injEq, Prod.mk.injEq] at h
      obtain ⟨_, rfl, _⟩ := h
      exact iht (fun u hu => ih u (List.mem_cons_of_mem _ hu)) n _ _ _ h'
     ·cases h
    ·rw [if_neg hv] at h
     simp only [Option.some.injEq, Prod.mk.injEq] at h
     obtain ⟨_, rfl, _⟩ := h
     exact ih t List.mem_cons_self
theorem B46 {e : Tm} {fuel : Int} (h : (S3 e fuel).2.1 = 0) : J3 (S3 e fuel).1 = true ∧ C8 (S3 e fuel).1 = true ∧ (S3 e fuel).2.2 = 0 := by
 cases hf : P8 fuel 0 300 with
 | false => rw [A9P hf] at h; simp at h
 | true =>
  by_cases h1 : (P4 fuel.toNat e).2.1 = 1
  ·rw [A9Q hf h1] at h; simp at h
  ·rw [A9R hf h1] at h ⊢; exact A99 _ _ h
def B47 (r s : ByteArray × Int × Int) : Int := if r.2.1 = 2 then 2 else if r.2.1 ≠ 0 ∨ s.2.1 = 4 ∨ s.2.1 = 5 then 3 else if s.2.1 = 0 ∧ r.1 = s.1 then 1 else 4
def B7W (a b : Tm) (fuel : Int) : Int := if (U4 a).isSome = true ∧ A45 a b = true ∧ P8 fuel 0 300 = true then B47 (A0d a fuel) (A0d b fuel) else 0
def gxT : GX → ByteArray
 | .n n => A90 n
 | .b b => if b = true then txT else txF
 | .p => A6Q
 | .f => A6R
theorem A3c {v : GE} (h : GV v) : U3 v.tm = gxT v.tx := by
 induction h with
 | num => rfl
 | @tru b => cases b <;> rfl
 | lam => rfl
 | pair _ _ _ _ => rfl
 | pf _ _ => rfl
 | pp _ _ => rfl
 | @inj A l e hv hg i =>
  rw [GE.tm, A6S (h0 := by simp)]
  ·exact i
  ·rw [A2b]
   refine decide_eq_false ?_
   rintro ⟨_, _, h | h⟩ <;> simp [GT.ty, Ty.k] at h
  ·rfl
theorem B48 {a : Tm} (h : (U4 a).isSome = true) : ∃ u t, T3 a = some (u, t) := by
 unfold U4 at h
 split at h
 ·exact ⟨_, _, by assumption⟩
 ·cases h
theorem B0a {a u : Tm} {t : Ty} (h : T3 a = some (u, t)) : U4 a = some t := by unfold U4; rw [h]
def GE.er : GE → GE
 | .var x => .var x
 | .num n => .num n
 | .tru b => .tru b
 | .lam x _ e => .lam x .any e.er
 | .app f a => .app f.er a.er
 | .ar s a b => .ar s a.er b.er
 | .ite c a b => .ite c.er a.er b.er
 | .pair a b => .pair a.er b.er
 | .part s e => .part s e.er
 | .cast _ _ _ e => e.er
def GE.nt : GE → Prop
 | .var _ => True
 | .num _ => True
 | .tru _ => True
 | .lam _ A e => A = .any ∧ e.nt
 | .app f a => f.nt ∧ a.nt
 | .ar _ a b => a.nt ∧ b.nt
 | .ite c a b => c.nt ∧ a.nt ∧ b.nt
 | .pair a b => a.nt ∧ b.nt
 | .part _ e => e.nt
 | .cast _ _ _ _ => False
theorem A1T : ∀ e : GE, e.er.nt := by
 intro e
 induction e with
 | var x => trivial
 | num n => trivial
 | tru b => trivial
 | lam x A e i => exact ⟨rfl, i⟩
 | app f a i j => exact ⟨i, j⟩
 | ar s a b i j => exact ⟨i, j⟩
 | ite c a b i j k => exact ⟨i, j, k⟩
 | pair a b i j => exact ⟨i, j⟩
 | part s e i => exact i
 | cast A B l e i => exact i
theorem B0b (x : ByteArray) (v : GE) : ∀ e : GE, (e.sub x v).er = e.er.sub x v.er := by
 intro e
 induction e with
 | var y => simp only [GE.er, GE.sub]; split <;> rfl
 | num n => rfl
 | tru b => rfl
 | lam y A e i =>
  simp only [GE.er, GE.sub]
  split
  ·rfl
  ·rw [GE.er, i]
 | app f a i j => simp only [GE.er, GE.sub, i, j]
 | ar s a b i j => simp only [GE.er, GE.sub, i, j]
 | ite c a b i j k => simp only [GE.er, GE.sub, i, j, k]
 | pair a b i j => simp only [GE.er, GE.sub, i, j]
 | part s e i => simp only [GE.er, GE.sub, i]
 | cast A B l e i => simp only [GE.er, GE.sub, i]
theorem Z0 {e : GE} (h : GV e) : GV e.er := by
 induction h with
 | num => exact .num
 | tru => exact .tru
 | lam => exact .lam
 | pair _ _ i j => exact .pair i j
 | pf _ i => exact i
 | pp _ i => exact i
 | inj _ _ i => exact i
theorem B49 {e r : GE} (h : GS e r) : e.er = r.er ∨ GS e.er r.er := by
 induction h with
 | app1 _ i => exact i.elim (fun h => .inl (by simp only [GE.er, h])) (fun h => .inr (.app1 h))
 | app2 v _ i => exact i.elim (fun h => .inl (by simp only [GE.er, h])) (fun h => .inr (.app2 (Z0 v) h))
 | ar1 _ i => exact i.elim (fun h => .inl (by simp only [GE.er, h])) (fun h => .inr (.ar1 h))
 | ar2 v _ i => exact i.elim (fun h => .inl (by simp only [GE.er, h])) (fun h => .inr (.ar2 (Z0 v) h))
 | ite1 _ i => exact i.elim (fun h => .inl (by simp only [GE.er, h])) (fun h => .inr (.ite1 h))
 | pair1 _ i => exact i.elim (fun h => .inl (by simp only [GE.er, h])) (fun h => .inr (.pair1 h))
 | pair2 v _ i => exact i.elim (fun h => .inl (by simp only [GE.er, h])) (fun h => .inr (.pair2 (Z0 v) h))
 | part1 _ i => exact i.elim (fun h => .inl (by simp only [GE.er, h])) (fun h => .inr (.part1 h))
 | cast1 _ i => exact i
 | beta v => exact .inr (by rw [B0b]; exact .beta (Z0 v))
 | appx _ _ => exact .inl rfl
 | @ar s m n => exact .inr (by rw [show (A0G s m n).er = A0G s m n by unfold A0G; split <;> rfl]; exact .ar)
 | @ite b x y => exact .inr (by rw [show (if b = true then x else y).er = if b = true then x.er else y.er by split <;> rfl]; exact .ite)
 | @part s a b v v2 => exact .inr (by rw [show (if s = true then b else a).er = if s = true then b.er else a.er by split <;> rfl]; exact .part (Z0 v) (Z0 v2))
 | partx _ => exact .inl rfl
 | cid _ _ => exact .inl rfl
 | up _ _ _ => exact .inl rfl
 | down _ _ _ => exact .inl rfl
 | hit _ _ => exact .inl rfl
inductive Sn : Nat → GE → GE → Prop
 | refl {e} : Sn 0 e e
 | step {n a b c} : GS a b → Sn n b c → Sn (n + 1) a c
theorem B5a {n : Nat} {e r : GE} (h : Sn n e r) : ∃ m, m ≤ n ∧ Sn m e.er r.er := by
 induction h with
 | refl => exact ⟨0, Nat.le_refl _, .refl⟩
 | step s _ i =>
  obtain ⟨m, h1, h2⟩ := i
  rcases B49 s with h | h
  ·exact ⟨m, by omega, by rw [h]; exact h2⟩
  ·exact ⟨m + 1, by omega, .step h h2⟩
theorem B5b {Γ : GC} {v v' : GE} {U U' : GT} (h : GP Γ v v' U U') : ∀ {A B : GT}, Γ = N1 → U = .fn A B → GV v → v.er.tx = .f := by
 induction h with
 | castR _ _ _ i => exact i
 | castL h _ _ i =>
  intro A B hE hU hv
  subst hU
  cases hv with
  | pf hv => exact i hE rfl hv
 | castB h _ _ _ i =>
  intro A B hE hU hv
  subst hU
  cases hv with
  | pf hv => exact i hE rfl hv
 | lam _ _ _ => intro _ _ _ _ _; rfl
 | app _ _ _ _ => intro _ _ _ _ hv; cases hv
 | ite _ _ _ _ _ _ => intro _ _ _ _ hv; cases hv
 | part _ _ => intro _ _ _ _ hv; cases hv
 | ar _ _ _ _ => intro _ _ _ _ hv; cases hv
 | var _ _ => intro _ _ _ _ hv; cases hv
 | _ => intro _ _ _ hU; cases hU
theorem B5c {Γ : GC} {v v' : GE} {U U' : GT} (h : GP Γ v v' U U') : ∀ {A B : GT}, Γ = N1 → U = .pr A B → GV v → v.er.tx = .p := by
 induction h with
 | castR _ _ _ i => exact i
 | castL h _ _ i =>
  intro A B hE hU hv
  subst hU
  cases hv with
  | pp hv => exact i hE rfl hv
 | castB h _ _ _ i =>
  intro A B hE hU hv
  subst hU
  cases hv with
  | pp hv => exact i hE rfl hv
 | pair _ _ _ _ => intro _ _ _ _ _; rfl
 | app _ _ _ _ => intro _ _ _ _ hv; cases hv
 | ite _ _ _ _ _ _ => intro _ _ _ _ hv; cases hv
 | part _ _ => intro _ _ _ _ hv; cases hv
 | ar _ _ _ _ => intro _ _ _ _ hv; cases hv
 | var _ _ => intro _ _ _ _ hv; cases hv
 | _ => intro _ _ _ hU; cases hU
theorem B5d {Γ : GC} {v v' : GE} {U U' : GT} (h : GP Γ v v' U U') : Γ = N1 → GV v → v.er.tx = v.tx := by
 have cst : ∀ {Γ : GC} {e e' : GE} {A B A' : GT} {l : Int}, GP Γ e e' A A' → (Γ = N1 → GV e → e.er.tx = e.tx) → Γ = N1 → GV (.cast A B l e) → (GE.cast A B l e).er.tx = (GE.cast A B l e).tx := by
  intro Γ e e' A B A' l h i hE hv
  cases hv with
  | pf hv => rw [GE.er, B5b h hE rfl hv]; rfl
  | pp hv => rw [GE.er, B5c h hE rfl hv]; rfl
  | inj hv _ => exact i hE hv
 induction h with
 | castL h _ _ i => exact cst h i
 | castB h _ _ _ i => exact cst h i
 | castR _ _ _ i => exact i
 | num => intro _ _; rfl
 | tru => intro _ _; rfl
 | lam _ _ _ => intro _ _; rfl
 | pair _ _ _ _ => intro _ _; rfl
 | app _ _ _ _ => intro _ hv; cases hv
 | ite _ _ _ _ _ _ => intro _ hv; cases hv
 | part _ _ => intro _ hv; cases hv
 | ar _ _ _ _ => intro _ hv; cases hv
 | var _ _ => intro _ hv; cases hv
def A2e (k : Int) : Int := if k = 6 then 1 else if k = 7 ∨ k = 8 then 2 else if k = 9 then 3 else if k = 11 ∨ k = 12 then 4 else 5
def U5 (k : Int) (ks : List Tm) : Stp := match P2 k ks with
 | some u => (u, 1, 0)
 | none => (F4, 2, A2e k)
mutual
def H1 : Tm → Stp
 | .mk k nm num ty fr lb ks => match V9 (if k = 9 then 1 else ks.length) ks with
  | some (ks', c, l) => if c = 1 then (.mk k nm num ty fr lb ks', 1, 0) else (F4, c, l)
  | none => U5 k ks
def V9 : Nat → List Tm → Option (List Tm × Int × Int)
 | _, [] => none
 | n, t :: ts => match n with
  | 0 => none
  | n + 1 => if C8 t = true then (match V9 n ts with
    | some (us, c, l) => some (t :: us, c, l)
    | none => none)
   else some ((H1 t).1 :: ts, (H1 t).2.1, (H1 t).2.2)
end
mutual
def M6 : Tm → Bool
 | .mk k _ _ ty _ _ ks => decide (k ≠ 14 ∧ (k ≠ 5 ∨ ty.k = 1)) && A5k ks
def A5k : List Tm → Bool
 | [] => true
 | t :: ts => M6 t && A5k ts
end
theorem A6Y : ∀ ks, A5k ks = ks.all M6
 | [] => rfl
 | t :: ts => by rw [A5k, A6Y ts, List.all_cons]
theorem X0 {k : Int} {nm : ByteArray} {num : Int} {ty fr : Ty} {lb : Int} {ks : List Tm} : M6 (.mk k nm num ty fr lb ks) = true ↔ (k ≠ 14 ∧ (k ≠ 5 ∨ ty.k = 1)) ∧ ∀ t ∈ ks, M6 t = true := by
 rw [M6, Bool.and_eq_true, decide_eq_true_eq, A6Y, List.all_eq_true]
def M9 (e : Tm) : Bool := J3 e && M6 e
def H2 (e : Tm) : Stp :=
 if M9 e = false then (F4, 3, 0) else if C8 e = true then (e, 0, 0)
 else if (H1 e).2.1 ≠ 1 then (F4, (H1 e).2.1, (H1 e).2.2)
 else if M9 (H1 e).1 = false then (F4, 4, 0) else ((H1 e).1, 1, 0)
def R0 : Nat → Tm → Tm × Int × Int × Nat
 | 0, e => ((H2 e).1, (H2 e).2.1, (H2 e).2.2, 0)
 | n + 1, e => if (H2 e).2.1 = 1 then ((R0 n (H2 e).1).1, (R0 n (H2 e).1).2.1, (R0 n (H2 e).1).2.2.1, (R0 n (H2 e).1).2.2.2 + 1)
  else ((H2 e).1, (H2 e).2.1, (H2 e).2.2, 0)
def I4 : Nat → Tm → Tm × Int × Int × Nat
 | 0, e => if (H2 e).2.1 = 1 then (F4, 5, 0, 0) else ((H2 e).1, (H2 e).2.1, (H2 e).2.2, 0)
 | n + 1, e => if (H2 e).2.1 = 1 then ((I4 n (H2 e).1).1, (I4 n (H2 e).1).2.1, (I4 n (H2 e).1).2.2.1, (I4 n (H2 e).1).2.2.2 + 1)
  else ((H2 e).1, (H2 e).2.1, (H2 e).2.2, 0)
theorem B0c (e : Tm) : R0 0 e = ((H2 e).1, (H2 e).2.1, (H2 e).2.2, 0) := by rw [R0]
theorem B0d {n : Nat} {e : Tm} (h : (H2 e).2.1 = 1) : R0 (n + 1) e = ((R0 n (H2 e).1).1, (R0 n (H2 e).1).2.1, (R0 n (H2 e).1).2.2.1, (R0 n (H2 e).1).2.2.2 + 1) := by rw [R0, if_pos h]
theorem B0e {n : Nat} {e : Tm} (h : (H2 e).2.1 ≠ 1) : R0 (n + 1) e = ((H2 e).1, (H2 e).2.1, (H2 e).2.2, 0) := by rw [R0, if_neg h]
theorem B0f : ∀ (n : Nat) (e : Tm), (R0 n e).2.1 = 1 → I4 n e = (F4, 5, 0, (R0 n e).2.2.2)
 | 0, e, h => by rw [B0c] at h ⊢; rw [I4, if_pos h]
 | n + 1, e, h => by
  by_cases h1 : (H2 e).2.1 = 1
  ·rw [B0d h1] at h ⊢
   rw [I4, if_pos h1, B0f n _ h]
  ·rw [B0e h1] at h; exact absurd h h1
theorem B0g : ∀ (n : Nat) (e : Tm), (R0 n e).2.1 ≠ 1 → I4 n e = R0 n e
 | 0, e, h => by rw [B0c] at h ⊢; rw [I4, if_neg h]
 | n + 1, e, h => by
  by_cases h1 : (H2 e).2.1 = 1
  ·rw [B0d h1] at h ⊢
   rw [I4, if_pos h1, B0g n _ h]
  ·rw [B0e h1]; rw [I4, if_neg h1]
theorem B5e {m i : Nat} {e : Tm} (h : (H2 e).2.1 ≠ 1 ∨ m = 0) : W4 i (R0 m e) = ((H2 e).1, (H2 e).2.1, (H2 e).2.2, i) := by
 cases m with
 | zero => simp [W4, R0]
 | succ m =>
  rcases h with h | h
  ·simp only [W4, R0]; rw [if_neg h]; simp
  ·cases h
theorem B5f {m i : Nat} {e : Tm} (h : (H2 e).2.1 = 1) (hm : 0 < m) : W4 i (R0 m e) = W4 (i + 1) (R0 (m - 1) (H2 e).1) := by
 obtain ⟨k, rfl⟩ : ∃ k, m = k + 1 := ⟨m - 1, by omega⟩
 simp only [W4, R0]; rw [if_pos h]; simp only [Nat.add_sub_cancel, Nat.add_assoc, Nat.add_comm 1 i]
theorem B5g {m i : Nat} {e : Tm} (h : (H2 e).2.1 ≠ 1) : W4 i (I4 m e) = ((H2 e).1, (H2 e).2.1, (H2 e).2.2, i) := by
 cases m with
 | zero => rw [I4, if_neg h]; simp [W4]
 | succ m => rw [I4, if_neg h]; simp [W4]
theorem B5h {m i : Nat} {e : Tm} (h : (H2 e).2.1 = 1) (hm : m = 0) : W4 i (I4 m e) = (F4, 5, 0, i) := by
 subst hm; rw [I4, if_pos h]; simp [W4]
theorem B5i {m i : Nat} {e : Tm} (h : (H2 e).2.1 = 1) (hm : 0 < m) : W4 i (I4 m e) = W4 (i + 1) (I4 (m - 1) (H2 e).1) := by
 obtain ⟨k, rfl⟩ : ∃ k, m = k + 1 := ⟨m - 1, by omega⟩
 rw [I4, if_pos h]; simp only [W4, Nat.add_sub_cancel, Nat.add_assoc, Nat.add_comm 1 i]
def Q4 (e : Tm) (fuel : Int) : Stp := if 0 ≤ fuel ∧ fuel ≤ 300 then ((I4 fuel.toNat e).1, (I4 fuel.toNat e).2.1, (I4 fuel.toNat e).2.2.1) else (F4, 3, 0)
def B7X (e : Tm) (fuel : Int) : Int := if 0 ≤ fuel ∧ fuel ≤ 300 then ((I4 fuel.toNat e).2.2.2 : Int) else 0
theorem A36 (n : Nat) (t : Tm) (ts : List Tm) : V9 (n + 1) (t :: ts) = if C8 t = true then (match V9 n ts with | some (us, c, l) => some (t :: us, c, l) | none => none) else some ((H1 t).1 :: ts, (H1 t).2.1, (H1 t).2.2) := by
 rw [V9]
theorem B0h : ∀ (n : Nat) (ks : List Tm), (∀ i, i < n → (h : i < ks.length) → C8 ks[i] = true) → V9 n ks = none
 | n, [], _ => by cases n <;> rfl
 | 0, t :: ts, _ => rfl
 | n + 1, t :: ts, h => by
  rw [A36, if_pos (show C8 t = true from h 0 (by omega) (by simp)), B0h n ts (fun i hi hl => h (i + 1) (by omega) (by simpa using hl))]
theorem A6Z : ∀ (n : Nat) (ks : List Tm) (i : Nat) (hi : i < ks.length), i < n → (∀ j, j < i → (h : j < ks.length) → C8 ks[j] = true) → C8 ks[i] = false → V9 n ks = some (ks.set i (H1 ks[i]).1, (H1 ks[i]).2.1, (H1 ks[i]).2.2)
 | n, [], i, hi, _, _, _ => by simp at hi
 | 0, t :: ts, i, _, hn, _, _ => by omega
 | n + 1, t :: ts, 0, _, _, _, hv => by
  rw [A36, if_neg (by rw [show C8 t = false from hv]; decide)]; rfl
 | n + 1, t :: ts, i + 1, hi, hn, hj, hv => by
  rw [A36, if_pos (show C8 t = true from hj 0 (by omega) (by simp)), A6Z n ts i (by simpa using hi) (by omega) (fun j hji hl => hj (j + 1) (by omega) (by simpa using hl)) hv]
  rfl
theorem B5j {k : Int} {nm : ByteArray} {num : Int} {ty fr : Ty} {lb : Int} {ks : List Tm} (h : (H1 (.mk k nm num ty fr lb ks)).2.1 = 1) : (H1 (.mk k nm num ty fr lb ks)).2.2 = 0 := by
 rw [H1] at h ⊢
 cases hL : V9 (if k = 9 then 1 else ks.length) ks with
 | none =>
  rw [hL] at h
  simp only [U5] at h ⊢
  cases hr : P2 k ks with
  | none => rw [hr] at h; cases h
  | some u => rfl
 | some p =>
  obtain ⟨us, c, l⟩ := p
  rw [hL] at h
  simp only at h ⊢
  by_cases hc : c = 1
  ·rw [if_pos hc]
  ·rw [if_neg hc] at h; exact absurd h hc
theorem B5k {t : Tm} (h : (H1 t).2.1 = 1) : (H1 t).2.2 = 0 := by cases t; exact B5j h
theorem B5l {k : Int} {nm : ByteArray} {num : Int} {ty fr : Ty} {lb : Int} {ks : List Tm} {i : Nat} (hi : i < ks.length) (hn : i < (if k = 9 then 1 else ks.length)) (hj : ∀ j, j < i → (h : j < ks.length) → C8 ks[j] = true) (hv : C8 ks[i] = false) :
  (H1 (.mk k nm num ty fr lb ks)).2.1 = (H1 ks[i]).2.1 ∧ (H1 (.mk k nm num ty fr lb ks)).2.2 = (H1 ks[i]).2.2 ∧ ((H1 ks[i]).2.1 = 1 → (H1 (.mk k nm num ty fr lb ks)).1 = .mk k nm num ty fr lb (ks.set i (H1 ks[i]).1)) := by
 rw [H1, A6Z _ ks i hi hn hj hv]
 simp only
 by_cases hc : (H1 ks[i]).2.1 = 1
 ·rw [if_pos hc]
  exact ⟨hc.symm, (B5k hc).symm, fun _ => rfl⟩
 ·rw [if_neg hc]
  exact ⟨rfl, rfl, fun h => absurd h hc⟩
theorem B0i {k : Int} {nm : ByteArray} {num : Int} {ty fr : Ty} {lb : Int} {ks : List Tm} (h : ∀ i, i < (if k = 9 then 1 else ks.length) → (hl : i < ks.length) → C8 ks[i] = true) : H1 (.mk k nm num ty fr lb ks) = U5 k ks := by
 rw [H1, B0h _ _ h]
theorem A09 {k : Int} {ks : List Tm} {u : Tm} (h : P2 k ks = some u) : U5 k ks = (u, 1, 0) := by unfold U5; rw [h]
theorem A2f {k : Int} {ks : List Tm} (h : P2 k ks = none) : U5 k ks = (F4, 2, A2e k) := by unfold U5; rw [h]
theorem A60 {e : Tm} (h : M9 e = false) : H2 e = (F4, 3, 0) := by unfold H2; rw [if_pos h]
theorem A3d {e : Tm} (h : M9 e = true) (h2 : C8 e = true) : H2 e = (e, 0, 0) := by unfold H2; rw [if_neg (by rw [h]; decide), if_pos h2]
theorem A61 {e : Tm} (h : M9 e = true) (h2 : C8 e = false) (h3 : (H1 e).2.1 ≠ 1) : H2 e = (F4, (H1 e).2.1, (H1 e).2.2) := by
 unfold H2; rw [if_neg (by rw [h]; decide), if_neg (by rw [h2]; decide), if_pos h3]
theorem A3e {e : Tm} (h : M9 e = true) (h2 : C8 e = false) (h3 : (H1 e).2.1 = 1) (h4 : M9 (H1 e).1 = false) : H2 e = (F4, 4, 0) := by
 unfold H2; rw [if_neg (by rw [h]; decide), if_neg (by rw [h2]; decide), if_neg (by omega), if_pos h4]
theorem A3f {e : Tm} (h : M9 e = true) (h2 : C8 e = false) (h3 : (H1 e).2.1 = 1) (h4 : M9 (H1 e).1 = true) : H2 e = ((H1 e).1, 1, 0) := by
 unfold H2; rw [if_neg (by rw [h]; decide), if_neg (by rw [h2]; decide), if_neg (by omega), if_neg (by rw [h4]; decide)]
theorem A0S {e : Tm} (h : M9 e = true) : J3 e = true ∧ M6 e = true := by
 unfold M9 at h; rwa [Bool.and_eq_true] at h
mutual
theorem B0j {x : ByteArray} {v : Tm} (hv : M6 v = true) : ∀ t : Tm, M6 t = true → M6 (S2 x v t) = true
 | .mk k nm num ty fr lb ks, h => by
  have h' := X0.1 h
  rw [S2]
  split
  ·exact hv
  ·split
   ·exact h
   ·exact X0.2 ⟨h'.1, B0k hv ks h'.2⟩
theorem B0k {x : ByteArray} {v : Tm} (hv : M6 v = true) : ∀ ts : List Tm, (∀ t ∈ ts, M6 t = true) → ∀ t ∈ R5 x v ts, M6 t = true
 | [], _ => by simp [R5]
 | t :: ts, h => by
  have h1 := B0j (x := x) hv t (h t List.mem_cons_self)
  have h2 := B0k (x := x) hv ts fun u hu => h u (List.mem_cons_of_mem _ hu)
  intro u hu
  rw [R5] at hu
  rcases List.mem_cons.1 hu with he | hu
  ·rw [he]; exact h1
  ·exact h2 u hu
end
theorem B5m : M6 F4 = true := by decide
theorem A5l {ks : List Tm} (h : ∀ t ∈ ks, M6 t = true) (i : Nat) : M6 (kd ks i) = true := by
 unfold kd
 rw [List.getD_eq_getElem?_getD]
 cases hi : ks[i]? with
 | none => exact B5m
 | some t => exact h t (List.mem_of_getElem? hi)
theorem B5n {t : Tm} (h : M6 t = true) : ∀ u ∈ t.ks, M6 u = true := by cases t; exact (X0.1 h).2
theorem B5o {k : Int} {ks : List Tm} {u : Tm} (h : ∀ t ∈ ks, M6 t = true) (hr : P2 k ks = some u) : M6 u = true := by
 have a0 := A5l h 0
 have a1 := A5l h 1
 have a2 := A5l h 2
 have b := fun i => A5l (B5n a0) i
 revert hr
 unfold P2
 split
 ·split
  ·intro he; cases he; exact B0j a1 _ (b 0)
  ·intro he; cases he
 ·split
  ·split
   ·intro he
    cases he
    split
    ·exact X0.2 ⟨⟨by decide, .inl (by decide)⟩, by simp⟩
    ·exact X0.2 ⟨⟨by split <;> decide, .inl (by split <;> decide)⟩, by simp⟩
   ·intro he; cases he
  ·split
   ·split
    ·intro he; cases he; exact a1
    ·split
     ·intro he; cases he; exact a2
     ·intro he; cases he
   ·split
    ·split
     ·intro he; cases he; exact b _
     ·intro he; cases he
    ·intro he; cases he
theorem B5p (ks : List Tm) (ih : ∀ t ∈ ks, M6 t = true → (H1 t).2.1 = 1 → M6 (H1 t).1 = true) : ∀ (n : Nat) (us : List Tm) (c l : Int), (∀ t ∈ ks, M6 t = true) → V9 n ks = some (us, c, l) → c = 1 → ∀ t ∈ us, M6 t = true := by
 induction ks with
 | nil => intro n us c l _ h; cases n <;> (rw [V9] at h; cases h)
 | cons t ts ihl =>
  intro n us c l hb h hc
  cases n with
  | zero => rw [V9] at h; cases h
  | succ n =>
   rw [A36] at h
   split at h
   ·split at h
    ·rename_i us' c' l' h'
     cases h
     have := ihl (fun t ht => ih t (List.mem_cons_of_mem _ ht)) n us' c l (fun t ht => hb t (List.mem_cons_of_mem _ ht)) h' hc
     intro u hu
     rcases List.mem_cons.1 hu with he | hu
     ·rw [he]; exact hb t List.mem_cons_self
     ·exact this u hu
    ·cases h
   ·cases h
    intro u hu
    rcases List.mem_cons.1 hu with he | hu
    ·rw [he]; exact ih t List.mem_cons_self (hb t List.mem_cons_self) hc
    ·exact hb u (List.mem_cons_of_mem _ hu)
theorem B5q : ∀ t : Tm, M6 t = true → (H1 t).2.1 = 1 → M6 (H1 t).1 = true := by
 refine Tm.ind fun k nm num ty fr lb ks ih h hc => ?_
 obtain ⟨h1, h2⟩ := X0.1 h
 rw [H1] at hc ⊢
 split at hc
 ·rename_i ks' c l hs
  by_cases h1' : c = 1
  ·rw [if_pos h1']
   exact X0.2 ⟨h1, B5p ks ih _ _ _ _ h2 hs h1'⟩
  ·rw [if_neg h1'] at hc; exact absurd hc h1'
 ·cases hr : P2 k ks with
  | none => rw [A2f hr] at hc; cases hc
  | some u => rw [A09 hr]; exact B5o h2 hr
theorem B5r {e : Tm} (h : M9 e = true) (h3 : (H1 e).2.1 = 1) : M9 (H1 e).1 = J3 (H1 e).1 := by
 unfold M9
 rw [B5q e (A0S h).2 h3, Bool.and_true]
theorem B5s {e : Tm} (h : (H2 e).2.1 = 1) : M9 (H2 e).1 = true := by
 cases h1 : M9 e with
 | false => rw [A60 h1] at h; simp at h
 | true =>
  cases h2 : C8 e with
  | true => rw [A3d h1 h2] at h; simp at h
  | false =>
   by_cases h3 : (H1 e).2.1 = 1
   ·cases h4 : M9 (H1 e).1 with
    | false => rw [A3e h1 h2 h3 h4] at h; simp at h
    | true => rw [A3f h1 h2 h3 h4]; exact h4
   ·rw [A61 h1 h2 h3] at h; exact absurd h h3
section
variable {k : Int} {nm : ByteArray} {num : Int} {ty fr : Ty} {lb : Int} {a b c : Tm} {t : Tm} {l : Int}
theorem A37 (h : C8 a = false) (ks : List Tm) (r : Tm) (hs : H1 a = (r, 1, 0)) : H1 (.mk k nm num ty fr lb (a :: ks)) = (.mk k nm num ty fr lb (r :: ks), 1, 0) := by
 have : ∃ n, (if k = 9 then 1 else (a :: ks).length) = n + 1 := ⟨if k = 9 then 0 else ks.length, by split <;> simp⟩
 obtain ⟨n, hn⟩ := this
 rw [H1, hn, V9, if_neg (by rw [h]; decide), hs]
 simp
theorem A62 (h0 : C8 a = true) (h : C8 b = false) (hk : k ≠ 9) (r : Tm) (hs : H1 b = (r, 1, 0)) : H1 (.mk k nm num ty fr lb [a, b]) = (.mk k nm num ty fr lb [a, r], 1, 0) := by
 rw [H1, if_neg hk]
 simp only [List.length_cons, List.length_nil, V9, h0, h, if_true, hs]
 simp
theorem B5t (h : C8 a = true) : H1 (.mk k nm num ty fr lb [a]) = U5 k [a] := by
 rw [H1, show (if k = 9 then 1 else [a].length) = 1 by split <;> rfl, V9, h]
 simp [V9]
theorem B0l (h : C8 a = true) (h2 : C8 b = true) (hk : k ≠ 9) : H1 (.mk k nm num ty fr lb [a, b]) = U5 k [a, b] := by
 rw [H1, if_neg hk]
 simp [V9, h, h2]
theorem B5u (h : C8 a = true) : H1 (.mk 9 nm num ty fr lb [a, b, c]) = U5 9 [a, b, c] := by
 rw [H1, if_pos rfl]
 simp [V9, h]
end
theorem B5v {x : ByteArray} {v : GE} (hv : v.nt) : ∀ e : GE, e.nt → (e.sub x v).nt := by
 intro e
 induction e with
 | var y => intro _; rw [GE.sub]; split; exact hv; trivial
 | num n => intro h; exact h
 | tru b => intro h; exact h
 | lam y A e i => intro h; rw [GE.sub]; split; exact h; exact ⟨h.1, i h.2⟩
 | app f a i j => intro h; exact ⟨i h.1, j h.2⟩
 | ar s a b i j => intro h; exact ⟨i h.1, j h.2⟩
 | ite c a b i j k => intro h; exact ⟨i h.1, j h.2.1, k h.2.2⟩
 | pair a b i j => intro h; exact ⟨i h.1, j h.2⟩
 | part s e i => intro h; exact i h
 | cast A B l e i => intro h; exact h.elim
theorem A63 {e r : GE} (h : GS e r) : e.nt → H1 e.tm = (r.tm, 1, 0) ∧ r.nt := by
 induction h with
 | app1 s i => exact fun h => ⟨by rw [GE.tm, A37 (nv s) _ _ (i h.1).1, GE.tm], (i h.1).2, h.2⟩
 | app2 v s i => exact fun h => ⟨by rw [GE.tm, A62 ((Q0 _).2 v) (nv s) (by decide) _ (i h.2).1, GE.tm], h.1, (i h.2).2⟩
 | ar1 s i => exact fun h => ⟨by rw [GE.tm, A37 (nv s) _ _ (i h.1).1, GE.tm], (i h.1).2, h.2⟩
 | @ar2 t _ _ _ v s i => exact fun h => ⟨by rw [GE.tm, A62 ((Q0 _).2 v) (nv s) (by cases t <;> decide) _ (i h.2).1, GE.tm], h.1, (i h.2).2⟩
 | ite1 s i => exact fun h => ⟨by rw [GE.tm, A37 (nv s) _ _ (i h.1).1, GE.tm], (i h.1).2, h.2⟩
 | pair1 s i => exact fun h => ⟨by rw [GE.tm, A37 (nv s) _ _ (i h.1).1, GE.tm], (i h.1).2, h.2⟩
 | pair2 v s i => exact fun h => ⟨by rw [GE.tm, A62 ((Q0 _).2 v) (nv s) (by decide) _ (i h.2).1, GE.tm], h.1, (i h.2).2⟩
 | part1 s i => exact fun h => ⟨by rw [GE.tm, A37 (nv s) _ _ (i h).1, GE.tm], (i h).2⟩
 | cast1 s i => exact fun h => h.elim
 | @beta x A b v hv =>
  intro h
  refine ⟨?_, B5v h.2 _ h.1.2⟩
  rw [GE.tm, B0l ((Q0 _).2 .lam) ((Q0 _).2 hv) (by decide), A09 (u := (b.sub x v).tm) (by rw [A84]; rfl)]
 | appx _ _ => exact fun h => h.1.elim
 | @ar s m n =>
  intro h
  refine ⟨?_, by unfold A0G; split <;> trivial⟩
  rw [GE.tm, B0l rfl rfl (by cases s <;> decide)]
  cases s
  ·rfl
  ·by_cases hmn : m < n
   ·simp only [A0G, if_true, decide_eq_true hmn, GE.tm]
    refine A09 ?_
    simp only [P2, kd, List.getD_cons_zero, List.getD_cons_succ, Tm.k, Tm.num]
    simp [W8, A0t, hmn]
   ·simp only [A0G, if_true, decide_eq_false hmn, GE.tm]
    refine A09 ?_
    simp only [P2, kd, List.getD_cons_zero, List.getD_cons_succ, Tm.k, Tm.num]
    simp [W8, A0t, hmn]
 | @ite b x y =>
  intro h
  refine ⟨?_, by cases b; exact h.2.2; exact h.2.1⟩
  rw [GE.tm, B5u ((Q0 _).2 .tru)]
  cases b <;> rfl
 | @part s a b v v2 =>
  intro h
  refine ⟨?_, by cases s; exact h.1; exact h.2⟩
  rw [GE.tm, B5t ((Q0 _).2 (.pair v v2))]
  cases s <;> rfl
 | partx _ => exact fun h => h.elim
 | cid _ _ => exact fun h => h.elim
 | up _ _ _ => exact fun h => h.elim
 | down _ _ _ => exact fun h => h.elim
 | hit _ _ => exact fun h => h.elim
theorem A1U : ∀ e : GE, M6 e.tm = true ↔ e.nt := by
 intro e
 induction e with
 | var x => rw [GE.tm, X0]; simp [GE.nt]
 | num n => rw [GE.tm, X0]; simp [GE.nt]
 | tru b => rw [GE.tm, X0]; cases b <;> simp [GE.nt]
 | lam x A e i => rw [GE.tm, X0, A1o]; simp [GE.nt, i]
 | app f a i j => rw [GE.tm, X0]; simp [GE.nt, i, j]
 | ar s a b i j => rw [GE.tm, X0]; cases s <;> simp [GE.nt, i, j]
 | ite c a b i j k => rw [GE.tm, X0]; simp [GE.nt, i, j, k]
 | pair a b i j => rw [GE.tm, X0]; simp [GE.nt, i, j]
 | part s e i => rw [GE.tm, X0]; cases s <;> simp [GE.nt, i]
 | cast A B l e i => rw [GE.tm, X0]; simp [GE.nt]
theorem B0m {n : Nat} {e : Tm} (h : (H2 e).2.1 = 1) : I4 (n + 1) e = ((I4 n (H2 e).1).1, (I4 n (H2 e).1).2.1, (I4 n (H2 e).1).2.2.1, (I4 n (H2 e).1).2.2.2 + 1) := by rw [I4, if_pos h]
theorem B5w : ∀ {m : Nat} {e w : GE}, Sn m e w → GV w → e.nt → ∀ (n : Nat), J3 e.tm = true → ((I4 n e.tm).2.1 = 0 ∧ (I4 n e.tm).1 = w.tm ∧ (I4 n e.tm).2.2.2 = m ∧ (I4 n e.tm).2.2.1 = 0) ∨ (I4 n e.tm).2.1 = 4 ∨ ((I4 n e.tm).2.1 = 5 ∧ n < m) := by
 intro m e w h
 induction h with
 | @refl e =>
  intro hv hn n hc
  have hb : M9 e.tm = true := by unfold M9; rw [hc, (A1U e).2 hn]; rfl
  have : H2 e.tm = (e.tm, 0, 0) := A3d hb ((Q0 _).2 hv)
  cases n with
  | zero => rw [I4, this]; exact .inl ⟨rfl, rfl, rfl, rfl⟩
  | succ n => rw [I4, this]; exact .inl ⟨rfl, rfl, rfl, rfl⟩
 | @step m a b c s _ ih =>
  intro hv hn n hc
  obtain ⟨hs, hnb⟩ := A63 s hn
  have hb : M9 a.tm = true := by unfold M9; rw [hc, (A1U a).2 hn]; rfl
  have hbb : M9 b.tm = J3 b.tm := by unfold M9; rw [(A1U b).2 hnb, Bool.and_true]
  cases hcb : J3 b.tm with
  | false =>
   have : H2 a.tm = (F4, 4, 0) := A3e hb (nv s) (by rw [hs]) (by rw [hs]; show M9 b.tm = false; rw [hbb, hcb])
   cases n with
   | zero => rw [I4, this]; exact .inr (.inl rfl)
   | succ n => rw [I4, this]; exact .inr (.inl rfl)
  | true =>
   have : H2 a.tm = (b.tm, 1, 0) := by
    have h5 := A3f hb (nv s) (by rw [hs]) (by rw [hs]; show M9 b.tm = true; rw [hbb, hcb])
    rw [h5, hs]
   cases n with
   | zero => rw [I4, this]; exact .inr (.inr ⟨rfl, Nat.succ_pos _⟩)
   | succ n =>
    rw [B0m (by rw [this]), this]
    rcases ih hv hnb n hcb with ⟨h1, h2, h3, h4⟩ | h1 | ⟨h1, h2⟩
    ·exact .inl ⟨h1, h2, by show (I4 n b.tm).2.2.2 + 1 = _; rw [h3], h4⟩
    ·exact .inr (.inl h1)
    ·exact .inr (.inr ⟨h1, by omega⟩)
theorem B5x : ∀ (n : Nat) {e e' : GE} {A A' : GT}, GP N1 e e' A A' → (N4 n e.tm).2.1 = 0 → ∃ w, (N4 n e.tm).1 = w.tm ∧ GV w ∧ Sn (N4 n e.tm).2.2.2 e w ∧ (N4 n e.tm).2.2.2 ≤ n ∧ ∃ w' B B', GP N1 w w' B B' := by
 intro n
 have fin : ∀ {n : Nat} {e e' : GE} {A A' : GT}, GP N1 e e' A A' → (H5 e.tm).2.1 = 0 → ∃ w, (H5 e.tm).1 = w.tm ∧ GV w ∧ Sn 0 e w ∧ 0 ≤ n ∧ ∃ w' B B', GP N1 w w' B B' := by
  intro n e e' A A' hp h0
  have hv : C8 e.tm = true := by
   rcases A4Y hp rfl with hv | ⟨r, s⟩ | b
   ·exact (Q0 _).2 hv
   ·exact (A87 h0 (by rw [A4W s]; show (1 : Int) ≠ 0; decide)).1
   ·exact (A87 h0 (by rw [b.2]; decide)).1
  refine ⟨e, ?_, (Q0 _).1 hv, .refl, Nat.zero_le _, e', A, A', hp⟩
  unfold H5 at h0 ⊢
  split at h0
  ·cases h0
  ·rename_i h1; rw [if_neg h1, if_pos hv]
 induction n with
 | zero =>
  intro e e' A A' hp h
  rw [N4] at h ⊢
  by_cases h1 : (H5 e.tm).2.1 = 1
  ·rw [if_pos h1] at h; cases h
  ·rw [if_neg h1] at h ⊢; exact fin hp h
 | succ n ih =>
  intro e e' A A' hp h
  by_cases h1 : (H5 e.tm).2.1 = 1
  ·obtain ⟨_, hv, hs, he⟩ := B3z h1
   rcases A4Y hp rfl with hv' | ⟨r, s⟩ | b
   ·rw [(Q0 _).2 hv'] at hv; cases hv
   ·rw [A88 h1] at h ⊢
    have hr : (H5 e.tm).1 = r.tm := by rw [he, A4W s]
    rw [hr] at h ⊢
    obtain ⟨r', _, hp'⟩ := sim hp rfl s
    obtain ⟨w, h2, h3, h4, h5, h6⟩ := ih hp' h
    exact ⟨w, h2, h3, .step s h4, by show (N4 n r.tm).2.2.2 + 1 ≤ n + 1; omega, h6⟩
   ·rw [b.2] at hs; cases hs
  ·rw [N4, if_neg h1] at h ⊢; exact fin hp h
theorem B5y {n N : Nat} {e e' : GE} {A A' : GT} (hp : GP N1 e e' A A') (h : (N4 n e.tm).2.1 = 0) (hN : n ≤ N) (hc : J3 e.er.tm = true) :
  (I4 N e.er.tm).2.1 = 4 ∨ ((I4 N e.er.tm).2.1 = 0 ∧ U3 (I4 N e.er.tm).1 = U3 (N4 n e.tm).1 ∧ (I4 N e.er.tm).2.2.2 ≤ (N4 n e.tm).2.2.2 ∧ (I4 N e.er.tm).2.2.1 = 0) := by
 obtain ⟨w, h1, h2, h3, h4, w', B, B', h5⟩ := B5x n hp h
 obtain ⟨m, hm, h6⟩ := B5a h3
 rcases B5w h6 (Z0 h2) (A1T e) N hc with ⟨g1, g2, g3, g4⟩ | g | ⟨g1, g2⟩
 ·refine .inr ⟨g1, ?_, by omega, g4⟩
  rw [g2, h1, A3c (Z0 h2), A3c h2, B5d h5 rfl h2]
 ·exact .inl g
 ·omega
def pAt (t : Tm) (label : Int) (l : List Int) : Bool := match tAt t l with
 | some x => decide (x.k = 14 ∧ x.lb = label)
 | none => false
def A64 (t : Tm) (label : Int) : List Int × Bool := match (B2k t).find? (pAt t label) with
 | some l => (l, true)
 | none => ([], false)
def SP1 (G : IM) (l : List Int) (p : Option Addr) (c : Nat) : Prop := Sl G p l.length c 1 (A3x l) ∧ ∀ b ∈ J4 p, G b ≠ none
def CpP (t : Tm) (label : Int) (G : IM) : IM → Value → List A4 → Prop := L5 fun G' v => ∃ p c, v = .tuple ⟨[.slice p (A64 t label).1.length c, .bool (A64 t label).2]⟩ ∧ SP1 (C1 G' G) (A64 t label).1 p c
mutual
def A3g : Tm → List Tm
 | .mk k nm num ty fr lb ks => (if k = 14 then [.mk k nm num ty fr lb ks] else []) ++ A65 ks
def A65 : List Tm → List Tm
 | [] => []
 | t :: ts => A3g t ++ A65 ts
end
def B0n (label : Int) (x : Tm) : Bool := decide (x.lb = label)
def B7Y (t : Tm) (label : Int) : Prop := ((A3g t).find? (B0n label) = none → (A4x t []).find? (pAt t label) = none) ∧ (∀ x, (A3g t).find? (B0n label) = some x → ∃ l, (A4x t []).find? (pAt t label) = some l ∧ tAt t l = some x)
def B0o (label : Int) : List Tm → List Ty
 | [] => []
 | c :: cs => (if c.lb = label then [c.fr, c.ty] else []) ++ B0o label cs
def B7Z (t : Tm) (label : Int) : List Ty := if J3 t = true then B0o label (A3g t) else []
mutual
def A3h : GT → GT → Bool
 | _, .any => true
 | .fn a b, .fn c d => A2g c a && A3h b d
 | .pr a b, .pr c d => A3h a c && A3h b d
 | .int, .int => true
 | .bool, .bool => true
 | _, _ => false
termination_by a b => SizeOf.sizeOf a + SizeOf.sizeOf b
def A2g : GT → GT → Bool
 | .any, _ => true
 | .fn a b, .any => A3h .any a && A2g b .any
 | .pr a b, .any => A2g a .any && A2g b .any
 | .int, .any => true
 | .bool, .any => true
 | .fn a b, .fn c d => A3h c a && A2g b d
 | .pr a b, .pr c d => A2g a c && A2g b d
 | .int, .int => true
 | .bool, .bool => true
 | _, _ => false
termination_by a b => SizeOf.sizeOf a + SizeOf.sizeOf b
end
def GQ (Q : GT → GT → Int → Prop) : GE → Prop
 | .var _ => True
 | .num _ => True
 | .tru _ => True
 | .lam _ _ e => GQ Q e
 | .app f a => GQ Q f ∧ GQ Q a
 | .ar _ a b => GQ Q a ∧ GQ Q b
 | .ite c a b => GQ Q c ∧ GQ Q a ∧ GQ Q b
 | .pair a b => GQ Q a ∧ GQ Q b
 | .part _ e => GQ Q e
 | .cast A B l e => Q A B l ∧ GQ Q e
structure Clo (Q : GT → GT → Int → Prop) : Prop where
 fn : ∀ {a b c d l}, Q (.fn a b) (.fn c d) l → Q c a (-l) ∧ Q b d l
 pr : ∀ {a b c d l}, Q (.pr a b) (.pr c d) l → Q a c l ∧ Q b d l
 up : ∀ {A l}, A ≠ .any → Q A .any l → Q A.gr .any l ∧ Q A A.gr l
 down : ∀ {B l}, B ≠ .any → Q .any B l → Q B.gr B l ∧ Q .any B.gr l
theorem A2h {k : Int} {ty fr : Ty} {lb : Int} {ks : List Tm} (h : (Q7 k ty fr lb ks).2.1 = 2) : k = 14 ∧ (Q7 k ty fr lb ks).2.2 = lb ∧ fr.k ≠ ty.k ∧ ty.k ≠ 1 := by
 unfold Q7 at h ⊢
 by_cases h6 : k = 6
 ·rw [if_pos h6] at h; (repeat' split at h) <;> cases h
 rw [if_neg h6] at h ⊢
 by_cases h7 : k = 7 ∨ k = 8
 ·rw [if_pos h7] at h; split at h <;> cases h
 rw [if_neg h7] at h ⊢
 by_cases h9 : k = 9
 ·rw [if_pos h9] at h; (repeat' split at h) <;> cases h
 rw [if_neg h9] at h ⊢
 by_cases h11 : k = 11 ∨ k = 12
 ·rw [if_pos h11] at h; (repeat' split at h) <;> cases h
 rw [if_neg h11] at h ⊢
 by_cases h14 : k = 14
 ·rw [if_pos h14] at h ⊢
  by_cases e1 : fr.k = ty.k
  ·rw [if_pos e1] at h; cases h
  rw [if_neg e1] at h ⊢
  by_cases e2 : ty.k = 1
  ·rw [if_pos e2] at h; cases h
  rw [if_neg e2] at h ⊢
  by_cases e3 : V1 ty = false
  ·rw [if_pos e3] at h; cases h
  rw [if_neg e3] at h ⊢
  by_cases e4 : inj (kd ks 0) = false
  ·rw [if_pos e4] at h; cases h
  rw [if_neg e4] at h ⊢
  by_cases e5 : (kd ks 0).fr.k = ty.k
  ·rw [if_pos e5] at h; cases h
  rw [if_neg e5] at h ⊢
  exact ⟨h14, rfl, e1, e2⟩
 ·rw [if_neg h14] at h; cases h
theorem B0p : ∀ (n : Nat) (ks us : List Tm) (c l : Int), V8 n ks = some (us, c, l) → ∃ t ∈ ks, (H7 t).2.1 = c ∧ (H7 t).2.2 = l
 | n, [], us, c, l, h => by rw [V8] at h; cases h
 | 0, t :: ts, us, c, l, h => by rw [V8] at h; cases h
 | n + 1, t :: ts, us, c, l, h => by
  rw [V8] at h
  split at h
  ·split at h
   ·rename_i us' c' l' h'
    obtain ⟨t', h1, h2, h3⟩ := B0p n ts us' c' l' h'
    cases h
    exact ⟨t', List.mem_cons_of_mem _ h1, h2, h3⟩
   ·cases h
  ·cases h
   exact ⟨t, List.mem_cons_self, rfl, rfl⟩
theorem A2i {k : Int} {nm : ByteArray} {num : Int} {ty fr : Ty} {lb : Int} {ks : List Tm} (h : (H7 (.mk k nm num ty fr lb ks)).2.1 = 2) :
  (∃ t ∈ ks, (H7 t).2.1 = 2 ∧ (H7 t).2.2 = (H7 (.mk k nm num ty fr lb ks)).2.2) ∨ ((Q7 k ty fr lb ks).2.1 = 2 ∧ (Q7 k ty fr lb ks).2.2 = (H7 (.mk k nm num ty fr lb ks)).2.2) := by
 rw [H7] at h ⊢
 split at h
 ·rename_i ks' c l hs
  obtain ⟨t, h1, h2, h3⟩ := B0p _ _ _ _ _ hs
  by_cases hc : c = 1
  ·rw [if_pos hc] at h; cases h
  ·rw [if_neg hc] at h ⊢
   exact .inl ⟨t, h1, h2.trans h, h3⟩
 ·exact .inr ⟨h, rfl⟩
theorem B0q {Q : GT → GT → Int → Prop} : ∀ (e : GE), cv e.tm → GQ Q e → (H7 e.tm).2.1 = 2 → ∃ B, B ≠ .any ∧ Q .any B (H7 e.tm).2.2 := by
 have leaf : ∀ {k : Int} {nm : ByteArray} {num : Int} {ty fr : Ty} {lb : Int}, k ≠ 14 → (H7 (.mk k nm num ty fr lb [])).2.1 ≠ 2 := by
  intro k nm num ty fr lb hk h
  rcases A2i h with ⟨t, ht, _⟩ | ⟨h2, _⟩
  ·cases ht
  ·exact hk (A2h h2).1
 intro e
 induction e with
 | var x => intro _ _ h; exact absurd h (leaf (by decide))
 | num n => intro _ _ h; exact absurd h (leaf (by decide))
 | tru b => intro _ _ h; exact absurd h (leaf (by cases b <;> decide))
 | lam x A e i =>
  intro hc hq h
  rw [GE.tm] at hc h ⊢
  rcases A2i h with ⟨t, ht, h1, h2⟩ | ⟨h2, _⟩
  ·obtain rfl := List.mem_singleton.1 ht
   rw [← h2]; exact i (hc.node.2 _ ht) hq h1
  ·exact absurd (A2h h2).1 (by decide)
 | app f a i j =>
  intro hc hq h
  rw [GE.tm] at hc h ⊢
  rcases A2i h with ⟨t, ht, h1, h2⟩ | ⟨h2, _⟩
  ·have hm := hc.node.2 t ht
   rw [← h2]
   simp only [List.mem_cons, List.not_mem_nil, or_false] at ht
   rcases ht with rfl | rfl
   ·exact i hm hq.1 h1
   ·exact j hm hq.2 h1
  ·exact absurd (A2h h2).1 (by decide)
 | ar s a b i j =>
  intro hc hq h
  rw [GE.tm] at hc h ⊢
  rcases A2i h with ⟨t, ht, h1, h2⟩ | ⟨h2, _⟩
  ·have hm := hc.node.2 t ht
   rw [← h2]
   simp only [List.mem_cons, List.not_mem_nil, or_false] at ht
   rcases ht with rfl | rfl
   ·exact i hm hq.1 h1
   ·exact j hm hq.2 h1
  ·exact absurd (A2h h2).1 (by cases s <;> decide)
 | ite c a b i j k =>
  intro hc hq h
  rw [GE.tm] at hc h ⊢
  rcases A2i h with ⟨t, ht, h1, h2⟩ | ⟨h2, _⟩
  ·have hm := hc.node.2 t ht
   rw [← h2]
   simp only [List.mem_cons, List.not_mem_nil, or_false] at ht
   rcases ht with rfl | rfl | rfl
   ·exact i hm hq.1 h1
   ·exact j hm hq.2.1 h1
   ·exact k hm hq.2.2 h1
  ·exact absurd (A2h h2).1 (by decide)
 | pair a b i j =>
  intro hc hq h
  rw [GE.tm] at hc h ⊢
  rcases A2i h with ⟨t, ht, h1, h2⟩ | ⟨h2, _⟩
  ·have hm := hc.node.2 t ht
   rw [← h2]
   simp only [List.mem_cons, List.not_mem_nil, or_false] at ht
   rcases ht with rfl | rfl
   ·exact i hm hq.1 h1
   ·exact j hm hq.2 h1
  ·exact absurd (A2h h2).1 (by decide)
 | part s e i =>
  intro hc hq h
  rw [GE.tm] at hc h ⊢
  rcases A2i h with ⟨t, ht, h1, h2⟩ | ⟨h2, _⟩
  ·obtain rfl := List.mem_singleton.1 ht
   rw [← h2]; exact i (hc.node.2 _ ht) hq h1
  ·exact absurd (A2h h2).1 (by cases s <;> decide)
 | cast A B l e i =>
  intro hc hq h
  rw [GE.tm] at hc h ⊢
  rcases A2i h with ⟨t, ht, h1, h2⟩ | ⟨h2, hl⟩
  ·obtain rfl := List.mem_singleton.1 ht
   rw [← h2]; exact i (hc.node.2 _ ht) hq.2 h1
  ·obtain ⟨_, e1, e2, e3⟩ := A2h h2
   have hB : B ≠ .any := fun hb => e3 (A1o.2 hb)
   rw [← hl, e1]
   have hco := (A0I A B).1 (hc.node.1.c14 rfl).1
   have : A = .any := by
    cases hco with
    | l => rfl
    | r => exact absurd rfl hB
    | int => exact absurd rfl e2
    | bool => exact absurd rfl e2
    | fn _ _ => exact absurd rfl e2
    | pr _ _ => exact absurd rfl e2
   subst this
   exact ⟨B, hB, hq.1⟩
def QL (m : Int) : GT → GT → Int → Prop := fun A B l => (l = m → A3h A B = true) ∧ (l = -m → A2g A B = true)
mutual
def V2 : Tm → List Ty
 | .mk k _ _ ty _ _ ks => (if k = 5 ∨ k = 13 then [ty] else []) ++ S0 ks
def S0 : List Tm → List Ty
 | [] => []
 | t :: ts => V2 t ++ S0 ts
end
theorem B0r : ∀ (a b : List Tm), S0 (a ++ b) = S0 a ++ S0 b
 | [], b => by simp [S0]
 | t :: a, b => by simp [S0, B0r a b]
theorem A5m {ks : List Tm} {i : Nat} (hi : i < ks.length) : S0 (ks.take (i + 1)) = S0 (ks.take i) ++ V2 ks[i] := by
 rw [List.take_succ_eq_append_getElem hi, B0r, S0, S0, List.append_nil]
mutual
theorem A66 : ∀ t : Tm, (V2 t).length ≤ C6 t
 | .mk k nm num ty fr lb ks => by
  have := A3i ks
  rw [V2, C6, List.length_append]
  split <;> simp <;> omega
theorem A3i : ∀ ts : List Tm, (S0 ts).length ≤ D6 ts
 | [] => by simp [S0]
 | t :: ts => by
  have := A66 t
  have := A3i ts
  rw [S0, D6, List.length_append]; omega
end
mutual
def A67 : Tm → List Ty → Tm
 | .mk k nm num ty fr lb ks, l => .mk k nm num (if k = 5 ∨ k = 13 then l.getD 0 A7 else ty) fr lb (B0s ks (if k = 5 ∨ k = 13 then l.drop 1 else l))
def B0s : List Tm → List Ty → List Tm
 | [], _ => []
 | t :: ts, l => A67 t l :: B0s ts (l.drop (V2 t).length)
end
def B0t (mask : Nat) : Nat → List Ty → List Ty
 | _, [] => []
 | i, t :: ts => (if (mask / 2 ^ i) % 2 = 1 then .mk 1 [] else t) :: B0t mask (i + 1) ts
def B5z (e : Tm) (mask : Nat) : Tm := A67 e (B0t mask 0 (V2 e))
def B5A (e : Tm) : List Tm := (List.range (2 ^ (V2 e).length)).map (B5z e)
section cap
variable {P : Program} {Γ : M0} {env : M4} {hp : List A4} {G : IM} {K : Po} {ops : Array Oper} {rest : List Oper}
theorem St.slc_cap {a : Act} {w : World} {p : Option Addr} {c el sz n : Nat} {cs : List Value} {hp' : List A4} (hs : St Γ ⟨env, hp, G⟩ a w) (hk : Pk hp (.slc p c el sz n cs) hp') : n ≤ c := by
 have hown : T4 [.slc p c el sz n cs] G w := hs.res.own.of_mem hk.perm
 obtain ⟨hl, h⟩ := hown.ok _ List.mem_cons_self
 rcases h with ⟨hv, hn⟩ | ⟨g, cap, cur, hv, _, hg, hnc, hcm, hsz, ht⟩
 ·omega
 ·cases hv; exact hnc
theorem B0u {p : Option Addr} {c el sz n : Nat} {cs : List Value} {hp' : List A4} (hk : Pk hp (.slc p c el sz n cs) hp') (h : n ≤ c → I0 P Γ ops rest K ⟨env, hp, G⟩) : I0 P Γ ops rest K ⟨env, hp, G⟩ :=
 ⟨fun a w hs => (h (hs.slc_cap hk)).run a w hs⟩
end cap
theorem D2.append {G : IM} : ∀ {a b : List Ty} {es fs : List (List Value)}, D2 G a es → D2 G b fs → D2 G (a ++ b) (es ++ fs)
 | [], b, es, fs, h, h2 => by simp only [D2] at h; subst h; simpa using h2
 | t :: a, b, es, fs, h, h2 => by
  simp only [D2] at h
  obtain ⟨x, r, rfl, h3, h4⟩ := h
  simp only [List.cons_append, D2]
  exact ⟨x, r ++ fs, rfl, h3, D2.append h4 h2⟩
theorem D2.ones {G : IM} {ts : List Ty} {es : List (List Value)} (h : D2 G ts es) : ∀ u ∈ es.flatten, u.oneCell' = true := by
 intro u hu
 obtain ⟨e, he, hue⟩ := List.mem_flatten.1 hu
 exact List.all_eq_true.1 (h.each e he).2 u hue
theorem D2.one1 {G : IM} {t : Ty} {c : List Value} (h : B7 G t c) : D2 G [t] [c] := by
 simp only [D2]; exact ⟨c, [], rfl, h, rfl⟩
def A38 (ts : List Ty) : IM → Value → List A4 → Prop := fun G' v outs => ∃ p c es, v = .slice p ts.length c ∧ outs = [.slc p c 25 2 ts.length es.flatten] ∧ D2 G' ts es
theorem A38.mk {ts : List Ty} {n : Nat} {G' : IM} {p : Option Addr} {c : Nat} {es : List (List Value)} (hn : ts.length = n) (hr : D2 G' ts es) : A38 ts G' (.slice p n c) [.slc p c 25 2 n es.flatten] := by
 subst hn
 exact ⟨p, c, es, rfl, rfl, hr⟩
theorem B5B : ∀ (t : Tm) (G : IM) (cells : List Value), t.small → C6 t ≤ 4000000 → A8 G t cells → Fn Tryz.prog 72 [.agg ⟨cells⟩] [] G (A38 (V2 t)) := by
 refine Tm.ind fun k nm num ty fr lb ks ih G cells hts hcnt hr => ?_
 have hT := B4S _ G cells hr
 have hone := hr.one
 simp only [Tm.small] at hts
 obtain ⟨_, hty', _, hsm, hks⟩ := hts
 have hcy : A5i k = true → V2 (.mk k nm num ty fr lb ks) = [ty] ++ S0 ks := fun h => by rw [V2, if_pos (of_decide_eq_true h)]
 have hcn : A5i k = false → V2 (.mk k nm num ty fr lb ks) = [] ++ S0 ks := fun h => by rw [V2, if_neg (of_decide_eq_false h)]
 rw [C6] at hcnt
 obtain ⟨tk, tks⟩ := ty
 obtain ⟨fk, fks⟩ := fr
 have hT' : Fn Tryz.prog 144 _ [] G (H0 (.bool (A5i k)) G) := hT
 obtain ⟨pt, ct, pf, cf, q, cq, ek, rfl, hk, hnum, hlb, hty, hfr, hsl, hkl⟩ := hr.open9
 have hn := hsl.le
 refine B2 Tryz.func72 rfl Tryz.ntmps72 Tryz.results72 rfl ?_
 intro w0
 refine tS (tR ?_)
 refine sE (B9 rfl rfl) rfl (fun b3 => ?_)
 refine N6 ?_
 refine D8 rfl (hT') rfl rfl (fun h16 => ?_) (fun h16 => ?_)
 refine sD (nS (qT rfl ?_))
 (show I8 _ _ (.region 3 ..) _ _; refine V5 25 2 ?_; refine tR ?_)
 refine K3 ?_
 (refine E0 rfl (A10 (.mk tk tks) G _ hty' hty) rfl rfl (fun v G1 hle1 hh => ?_); obtain ⟨cs1, F1, rfl, hs1, hn1⟩ := hh; have hr1 := hs1.R.mono (C1.le _ _); obtain ⟨p1, c1, rfl, _⟩ := hs1.open)
 (refine L9 (C9 rfl rfl rfl (by omega) (by unfold maxLen; omega) rfl) rfl ?_; rintro _ ⟨b25, rfl⟩)
 (refine A4s rfl rfl rfl rfl rfl (fun _ _ => by repeat (first | exact Sw.here | apply Sw.there)) (P3 (by repeat first | exact mH | apply mT)) rfl (by simp [Value.oneCell']) (by unfold maxLen; omega) (by omega) rfl (fun pn0 cn0 => ?_))
 refine N6 ?_
 refine B4 ?_
 (have h14 := hcy (by assumption); have hinit := D2.one1 hr1; refine K9 (fun (x : Nat × Nat × Option Addr × Nat × List (List Value) × IM) => ⟨[(17, .int .i64 x.1), (16, .int .i64 ks.length), (15, .slice q ks.length cq), (3, .slice x.2.2.1 x.2.1 x.2.2.2.1)], [.slc x.2.2.1 x.2.2.2.1 25 2 x.2.1 x.2.2.2.2.1.flatten], x.2.2.2.2.2⟩) (fun x => x.1 ≤ ks.length ∧ B6 G x.2.2.2.2.2 ∧ D2 x.2.2.2.2.2 ([Ty.mk tk tks] ++ S0 (ks.take x.1)) x.2.2.2.2.1 ∧ ([Ty.mk tk tks] ++ S0 (ks.take x.1)).length = x.2.1) (fun x => ks.length - x.1) (0, 1, pn0, cn0, [[.int .i64 tk, .slice p1 tks.length c1]], G1) ?_ ?_ ?_)
 (simp only [J6]; exact D1)
 (exact ⟨Nat.zero_le _, hle1, (by show D2 G1 ([Ty.mk tk tks] ++ S0 (ks.take 0)) _; rw [List.take_zero, S0, List.append_nil]; exact hinit), by simp [S0]⟩)
 (rintro ⟨(i : Nat), (m : Nat), pn, cn, es, Gi⟩ ⟨hi, hle, hst, hlen⟩; simp only [] at hi hle hst hlen ⊢; replace hsl := hsl.mono hle; replace hkl := hkl.mono hle; have hb1 := A3i (ks.take i); have hb2 := A3i ks; simp only [List.length_append, List.length_singleton, List.length_nil] at hlen)
 refine tS (tR ?_)
 refine sB (K6 rfl rfl) rfl rfl (fun h46 => ?_) (fun h46 => ?_)
 refine sD (nS (tS (qT rfl (tK (nS (tS ?_))))))
 refine B4 ?_
 refine tS (tR ?_)
 (obtain ⟨b, o, e, rfl, hl, hat, hre, hgb⟩ := hsl.kidTm hkl (i := i) (by omega) (by omega); have hone9 := hre.one; have hsc := A4A (ks := ks) (i := i) (by omega); have hsk := A4z (ks := ks) (i := i) (by omega); refine sP (B3 rfl rfl rfl (by omega)) rfl rfl ?_)
 refine sL (A1 rfl rfl (hat _) hl) rfl rfl ?_
 refine sE (A5 rfl) rfl (fun b59 => ?_)
 refine sS rfl rfl rfl hl hone9 rfl ?_ (hu := by exact C3 hl.symm)
 refine sD (nS (tR (sQ (qM rfl) rfl ?_)))
 refine sL (A1 rfl rfl (A9 (by repeat first | exact mH | apply mT)) hl) rfl rfl ?_
 (refine A2r rfl (ih ks[i] (List.getElem_mem (by omega)) _ _ (Tm.smallL_mem hks _ (List.getElem_mem (by omega))) (by omega) hre) rfl rfl (fun v G3 outs hle3 hh => ?_); obtain ⟨p3, c3, e3, rfl, rfl, hr3⟩ := hh; have hlk := A66 ks[i]; refine T6 (cs := e3.flatten) Pk.here (fun G4 hle4 hsl4 hno4 => ?_); refine B0u (cs := es.flatten) (by repeat (first | exact Pk.here | apply Pk.there)) (fun hcap => ?_))
 (refine A3M rfl rfl rfl rfl rfl (fun _ _ => by repeat (first | exact Sw.here | apply Sw.there)) hsl4 hr3.ones hcap (by unfold maxLen; omega) (by omega) rfl (fun p4 c4 => ?_))
 refine sQ (qA rfl) rfl (sD (M8 (nS (tR ?_))))
 refine sP (K2 rfl rfl (by omega) (by omega)) rfl rfl ?_
 refine sQ (qM rfl) rfl (sD ?_)
 (have hap := D2.append (hst.mono (hle3.trans hle4)) (hr3.mono hle4); refine K7 (i + 1, m + (V2 ks[i]).length, p4, c4, es ++ e3, G4) (by simp only [List.flatten_append]; exact (O1 (by repeat (first | exact E3.nil | refine E3.cons rfl ?_)) (by repeat (first | exact A0.refl | exact A0.nil | refine A0.cons (by repeat (first | exact Pk.here | apply Pk.there)) ?_ | apply A0.drop)))) ?_ ?_)
 (dsimp only; exact ⟨by omega, hle.trans (hle3.trans hle4), by rw [A5m (by omega), ← List.append_assoc]; exact hap, by rw [A5m (by omega)]; simp only [List.length_append, List.length_singleton, List.length_nil]; omega⟩)
 (show ks.length - (i + 1) < ks.length - i; omega)
 refine H9 ?_
 (obtain rfl : i = ks.length := (by omega))
 refine tT ?_
 refine H6 (outs := [.slc pn cn 25 2 m es.flatten]) (rT rfl) (A0.cons (by repeat (first | exact Pk.here | apply Pk.there)) A0.nil) ?_
 (rw [h14]; rw [List.take_length] at hst hlen; exact A38.mk (by simp only [List.length_append, List.length_singleton, List.length_nil]; omega) hst)
 refine J2 ?_
 refine B4 ?_
 (have h14 := hcn (by assumption); refine V5 25 2 ?_; refine K9 (fun (x : Nat × Nat × Option Addr × Nat × List (List Value) × IM) => ⟨[(17, .int .i64 x.1), (16, .int .i64 ks.length), (15, .slice q ks.length cq), (3, .slice x.2.2.1 x.2.1 x.2.2.2.1)], [.slc x.2.2.1 x.2.2.2.1 25 2 x.2.1 x.2.2.2.2.1.flatten], x.2.2.2.2.2⟩) (fun x => x.1 ≤ ks.length ∧ B6 G x.2.2.2.2.2 ∧ D2 x.2.2.2.2.2 ([] ++ S0 (ks.take x.1)) x.2.2.2.2.1 ∧ ([] ++ S0 (ks.take x.1)).length = x.2.1) (fun x => ks.length - x.1) (0, 0, none, 0, [], G) ?_ ?_ ?_)
 (simp only [J6]; exact D1)
 (exact ⟨Nat.zero_le _, B6.refl _, by simp [S0, D2], by simp [S0]⟩)
 (rintro ⟨(i : Nat), (m : Nat), pn, cn, es, Gi⟩ ⟨hi, hle, hst, hlen⟩; simp only [] at hi hle hst hlen ⊢; replace hsl := hsl.mono hle; replace hkl := hkl.mono hle; have hb1 := A3i (ks.take i); have hb2 := A3i ks; simp only [List.length_append, List.length_singleton, List.length_nil] at hlen)
 refine tS (tR ?_)
 refine sB (K6 rfl rfl) rfl rfl (fun h119 => ?_) (fun h119 => ?_)
 refine sD (nS (tS (qT rfl (tK (nS (tS ?_))))))
 refine B4 ?_
 refine tS (tR ?_)
 (obtain ⟨b, o, e, rfl, hl, hat, hre, hgb⟩ := hsl.kidTm hkl (i := i) (by omega) (by omega); have hone9 := hre.one; have hsc := A4A (ks := ks) (i := i) (by omega); have hsk := A4z (ks := ks) (i := i) (by omega); refine sP (B3 rfl rfl rfl (by omega)) rfl rfl ?_)
 refine sL (A1 rfl rfl (hat _) hl) rfl rfl ?_
 refine sE (A5 rfl) rfl (fun b132 => ?_)
 refine sS rfl rfl rfl hl hone9 rfl ?_ (hu := by exact C3 hl.symm)
 refine sD (nS (tR (sQ (qM rfl) rfl ?_)))
 refine sL (A1 rfl rfl (A9 (by repeat first | exact mH | apply mT)) hl) rfl rfl ?_
 (refine A2r rfl (ih ks[i] (List.getElem_mem (by omega)) _ _ (Tm.smallL_mem hks _ (List.getElem_mem (by omega))) (by omega) hre) rfl rfl (fun v G3 outs hle3 hh => ?_); obtain ⟨p3, c3, e3, rfl, rfl, hr3⟩ := hh; have hlk := A66 ks[i]; refine T6 (cs := e3.flatten) Pk.here (fun G4 hle4 hsl4 hno4 => ?_); refine B0u (cs := es.flatten) (by repeat (first | exact Pk.here | apply Pk.there)) (fun hcap => ?_))
 (refine A3M rfl rfl rfl rfl rfl (fun _ _ => by repeat (first | exact Sw.here | apply Sw.there)) hsl4 hr3.ones hcap (by unfold maxLen; omega) (by omega) rfl (fun p4 c4 => ?_))
 refine sQ (qA rfl) rfl (sD (M8 (nS (tR ?_))))
 refine sP (K2 rfl rfl (by omega) (by omega)) rfl rfl ?_
 refine sQ (qM rfl) rfl (sD ?_)
 (have hap := D2.append (hst.mono (hle3.trans hle4)) (hr3.mono hle4); refine K7 (i + 1, m + (V2 ks[i]).length, p4, c4, es ++ e3, G4) (by simp only [List.flatten_append]; exact (O1 (by repeat (first | exact E3.nil | refine E3.cons rfl ?_)) (by repeat (first | exact A0.refl | exact A0.nil | refine A0.cons (by repeat (first | exact Pk.here | apply Pk.there)) ?_ | apply A0.drop)))) ?_ ?_)
 (dsimp only; exact ⟨by omega, hle.trans (hle3.trans hle4), by rw [A5m (by omega), ← List.append_assoc]; exact hap, by rw [A5m (by omega)]; simp only [List.length_append, List.length_singleton, List.length_nil]; omega⟩)
 (show ks.length - (i + 1) < ks.length - i; omega)
 refine H9 ?_
 (obtain rfl : i = ks.length := (by omega))
 refine tT ?_
 refine H6 (outs := [.slc pn cn 25 2 m es.flatten]) (rT rfl) (A0.cons (by repeat (first | exact Pk.here | apply Pk.there)) A0.nil) ?_
 (rw [h14]; rw [List.take_length] at hst hlen; exact A38.mk (by simp only [List.length_append, List.length_singleton, List.length_nil]; omega) hst)
def RtP (u : Tm) (l : List Ty) : IM → Value → List A4 → Prop := fun G' v outs => outs = [] ∧ ∃ cu p c el, v = .tuple ⟨[.agg ⟨cu⟩, .slice p l.length c]⟩ ∧ A8 G' u cu ∧ D0 G' p l.length c 2 el ∧ D2 G' l el
section bits
variable {P : Program} {Γ : M0} {env : M4} {hp : List A4} {G : IM} {ty : TypeId}
end bits
section wr
variable {P : Program} {Γ : M0} {env : M4} {hp : List A4} {G : IM} {ty : TypeId} {K : Po} {ops : Array Oper} {rest : List Oper}
variable {pos : String} {af : Array Edge} {gd : Option (Nat × Bool)}
end wr
def B70 (e : Tm) : Option (List Tm) := if (U4 e).isSome = true ∧ (V2 e).length ≤ 6 then some (B5A e) else none
def CfP (r : Option (List Tm)) : IM → Value → List A4 → Prop := fun G' v outs => outs = [] ∧ ∃ p c es, v = .tuple ⟨[.slice p (r.getD []).length c, .bool r.isSome]⟩ ∧ D0 G' p (r.getD []).length c 9 es ∧ D7 G' (r.getD []) es
def MsP (r : Option (List Int)) (e : A4) (G : IM) : IM → Value → List A4 → Prop := fun G' v outs => outs = [e] ∧ ∃ p c, v = .tuple ⟨[.slice p (r.getD []).length c, .bool r.isSome]⟩ ∧ SP1 (C1 G' G) (r.getD []) p c
def IsP (l : List Int) (b : Bool) (G : IM) : IM → Value → List A4 → Prop := L5 fun G' v => ∃ p c, v = .tuple ⟨[.slice p l.length c, .bool b]⟩ ∧ SP1 (C1 G' G) l p c
theorem A8.nine {G : IM} {t : Tm} {cells : List Value} (h : A8 G t cells) : ∃ v1 v2 v3 v4 v5 v6 v7 v8 v9, cells = [v1, v2, v3, v4, v5, v6, v7, v8, v9] := by
 obtain ⟨_, _, _, _, _, _, _, _, _, rfl, _⟩ := h.open
 exact ⟨_, _, _, _, _, _, _, _, _, rfl⟩
theorem A39 {G : IM} {e : Tm} {ce : List Value} {k : Int} {nm : ByteArray} {tk : Int} {tks : List Ty} {q p : Option Addr} {d c : Nat} (hk : E6 k) (ht : B7 G (.mk tk tks) [.int .i64 tk, .slice q tks.length d]) (h1 : A8 G e ce) (hs : Sl G p 1 c 9 ce) :
  A8 G (.mk k nm 0 (.mk tk tks) A7 0 [e]) [.int .i64 k, .string nm, .int .i64 0, .int .i64 tk, .slice q tks.length d, .int .i64 0, .slice none 0 0, .int .i64 0, .slice p 1 c] := by
 obtain ⟨a1, a2⟩ := B3q h1 hs
 exact A8.of9 (ks := [e]) hk ⟨by omega, by omega⟩ ⟨by omega, by omega⟩ ht (N3 _ ⟨by omega, by omega⟩) a1 a2
theorem A4a {G : IM} {e f : Tm} {ce cf : List Value} {k : Int} {nm : ByteArray} {p : Option Addr} {c : Nat} (hk : E6 k) (h1 : A8 G e ce) (h2 : A8 G f cf) (hs : Sl G p 2 c 9 (ce ++ cf)) :
  A8 G (.mk k nm 0 A7 A7 0 [e, f]) [.int .i64 k, .string nm, .int .i64 0, .int .i64 0, .slice none 0 0, .int .i64 0, .slice none 0 0, .int .i64 0, .slice p 2 c] := by
 have hL : D7 G [e, f] [ce, cf] := by simp only [D7]; exact ⟨ce, [cf], rfl, h1, cf, [], rfl, h2, rfl⟩
 exact A8.of9 (ks := [e, f]) hk ⟨by omega, by omega⟩ ⟨by omega, by omega⟩ (N3 _ ⟨by omega, by omega⟩) (N3 _ ⟨by omega, by omega⟩)
  (D0.of (by simpa using hs) rfl hL.all (fun x hx => by obtain ⟨q, hq⟩ := List.getElem?_of_mem hx; exact (hL.inv hq F4).2.one)) hL
theorem B5C {G : IM} {e f g : Tm} {ce cf cg : List Value} {k : Int} {nm : ByteArray} {p : Option Addr} {c : Nat} (hk : E6 k) (h1 : A8 G e ce) (h2 : A8 G f cf) (h3 : A8 G g cg) (hs : Sl G p 3 c 9 (ce ++ (cf ++ cg))) :
  A8 G (.mk k nm 0 A7 A7 0 [e, f, g]) [.int .i64 k, .string nm, .int .i64 0, .int .i64 0, .slice none 0 0, .int .i64 0, .slice none 0 0, .int .i64 0, .slice p 3 c] := by
 have hL : D7 G [e, f, g] [ce, cf, cg] := by simp only [D7]; exact ⟨ce, [cf, cg], rfl, h1, cf, [cg], rfl, h2, cg, [], rfl, h3, rfl⟩
 exact A8.of9 (ks := [e, f, g]) hk ⟨by omega, by omega⟩ ⟨by omega, by omega⟩ (N3 _ ⟨by omega, by omega⟩) (N3 _ ⟨by omega, by omega⟩)
  (D0.of (by simpa using hs) rfl hL.all (fun x hx => by obtain ⟨q, hq⟩ := List.getElem?_of_mem hx; exact (hL.inv hq F4).2.one)) hL
def mB : Nat → Nat
 | 0 => 200
 | n + 1 => 3 * mB n + 200
theorem A1s (n : Nat) : 200 ≤ mB n := by cases n <;> simp only [mB] <;> omega
def A1t (n : Nat) (depth : Int) (t : Ty) : Prop := Q6 4 t ∧ (n : Int) - 1000 ≤ depth ∧ depth ≤ 1000 ∧ ((depth ≤ 1 ∧ Q6 n t) ∨ (2 ≤ depth ∧ depth + 3 ≤ n))
theorem A1t.sub {n : Nat} {depth : Int} {t t' : Ty} (h : A1t (n + 1) depth t) (hd : 1 < depth) (h4 : Q6 4 t') : A1t n (depth - 1) t' := by
 obtain ⟨h1, h2, h3, h5⟩ := h
 refine ⟨h4, by omega, by omega, ?_⟩
 rcases h5 with ⟨h5, _⟩ | ⟨h5, h6⟩
 ·omega
 ·by_cases h7 : 3 ≤ depth
  ·exact .inr ⟨by omega, by omega⟩
  ·exact .inl ⟨by omega, h4.le (by omega)⟩
theorem A1t.kid {n : Nat} {depth : Int} {k : Int} {ks : List Ty} {t' : Ty} (h : A1t (n + 1) depth (.mk k ks)) (ht : t' ∈ ks) : A1t n (depth - 1) t' := by
 have h4 : Q6 4 t' := (A58 h.1 ht).up
 by_cases hd : 1 < depth
 ·exact h.sub hd h4
 ·obtain ⟨h1, h2, h3, h5⟩ := h
  refine ⟨h4, by omega, by omega, .inl ⟨by omega, ?_⟩⟩
  rcases h5 with ⟨_, h5⟩ | ⟨h5, _⟩
  ·exact A58 h5 ht
  ·omega
theorem A1t.pos {n : Nat} {depth : Int} {k : Int} {ks : List Ty} (h : A1t n depth (.mk k ks)) (hd : 1 < depth ∨ k = 4 ∨ k = 5) : ∃ m, n = m + 1 := by
 cases n with
 | succ m => exact ⟨m, rfl⟩
 | zero =>
  obtain ⟨h1, h2, h3, h5⟩ := h
  rcases h5 with ⟨h5, h6⟩ | ⟨h5, h6⟩
  ·have := h6.2
   omega
  ·omega
theorem Q1 : A7.small := by simp [A7, Ty.small, Ty.smallL]
theorem O8 {k : Int} {nm : ByteArray} {num : Int} (h : nm.size ≤ 1) : (Tm.mk k nm num A7 A7 0 []).small := by
 simp only [Tm.small, Tm.smallL]; exact ⟨by omega, Q1, Q1, by simp, trivial⟩
theorem L3 {k : Int} {nm : ByteArray} {num : Int} {ty : Ty} {a : Tm} (h : nm.size ≤ 1) (ht : ty.small) (ha : a.small) : (Tm.mk k nm num ty A7 0 [a]).small := by
 simp only [Tm.small, Tm.smallL]; exact ⟨by omega, ht, Q1, by simp, ha, trivial⟩
theorem S9 {k : Int} {nm : ByteArray} {num : Int} {a b : Tm} (h : nm.size ≤ 1) (ha : a.small) (hb : b.small) : (Tm.mk k nm num A7 A7 0 [a, b]).small := by
 simp only [Tm.small, Tm.smallL]; exact ⟨by omega, Q1, Q1, by simp, ha, hb, trivial⟩
theorem A0A {k : Int} {nm : ByteArray} {num : Int} {a b c : Tm} (h : nm.size ≤ 1) (ha : a.small) (hb : b.small) (hc : c.small) : (Tm.mk k nm num A7 A7 0 [a, b, c]).small := by
 simp only [Tm.small, Tm.smallL]; exact ⟨by omega, Q1, Q1, by simp, ha, hb, hc, trivial⟩
theorem A0B : (Ty.mk 1 []).small := by simp [Ty.small, Ty.smallL]
def B0v (br : Nat) (pb : Option Addr) (nb cb : Nat) (bs : List UInt8) (n : Nat) : Prop := ∀ (depth : Int) (t : Ty) (p : Nat) (G : IM) (pc : Option Addr) (nc cc : Nat) (cells : List Value), A1t n depth t → (n : Int) - 1000 ≤ depth → depth ≤ 1000 → nc + n ≤ 40 → X2 G pc nc cc → B7 G t cells → Sl G pb nb cb 1 (O6 bs) → p + mB n < 1099511627776 →
 Fn Tryz.prog 127 [.pointer (some ⟨br, 0, none⟩), .slice pc nc cc, .agg ⟨cells⟩, .int .i64 depth] [rd br pb nb cb p] G
  (A0s br pb nb cb p (mB n) (fun G' v => ∃ e cells, v = .agg ⟨cells⟩ ∧ A8 G' e cells ∧ e.small ∧ C6 e ≤ mB n))
theorem B0w (br : Nat) (pb : Option Addr) (nb cb : Nat) (bs : List UInt8) (hnb : nb ≤ 2000) (m : Nat) (hM : B0v br pb nb cb bs m) (depth : Int) (a t : Ty) (p : Nat) (G : IM) (pc : Option Addr) (nc cc : Nat) (ca cells : List Value)
  (hfu : A1t m depth t) (hd0 : (m : Int) - 1000 ≤ depth) (hd1 : depth ≤ 1000) (hnc : nc + 1 + m ≤ 40) (hx : X2 G pc nc cc) (hra : B7 G a ca) (haa : E5 a ∧ J7 a ≤ 30) (hrt : B7 G t cells) (hb : Sl G pb nb cb 1 (O6 bs)) (hp : p + 1 + mB m < 1099511627776) :
  Fn Tryz.prog 181 [.pointer (some ⟨br, 0, none⟩), .slice pc nc cc, .agg ⟨ca⟩, .agg ⟨cells⟩, .int .i64 depth] [rd br pb nb cb p] G
   (A0s br pb nb cb p (1 + mB m) (fun G' v => ∃ e cells, v = .agg ⟨cells⟩ ∧ A8 G' e cells ∧ e.small ∧ C6 e ≤ 1 + mB m)) := by
 obtain ⟨ak, aks⟩ := a
 obtain ⟨tk, tks⟩ := t
 obtain ⟨pa, cca, ea, rfl, _⟩ := hra.open
 obtain ⟨pt, cct, et, rfl, _⟩ := hrt.open
 simp only [Ty.k, Ty.ks] at hra hrt ⊢
 refine B2 Tryz.func181 rfl Tryz.ntmps181 Tryz.results181 rfl ?_
 intro w0
 refine tS (tR ?_)
 refine sE (B9 rfl rfl) rfl (fun b3 => ?_)
 refine sE (B9 rfl rfl) rfl (fun b4 => ?_)
 refine sE (A5 rfl) rfl (fun b5 => ?_)
 refine sD (nS (tS (tR (sQ (qM rfl) rfl ?_))))
 (refine L9 (C9 rfl rfl rfl (by omega) (by unfold maxLen; omega) rfl) rfl ?_; rintro _ ⟨b11, rfl⟩)
 (refine T6 (by repeat (first | exact Pk.here | apply Pk.there)) (fun G4 hle4 hsl4 _ => ?_); refine I7 rfl (A6i G4 br pb nb cb p bs _ _ _ _ (hb.mono hle4) hnb (by omega) hsl4 (by decide)) (Pk.perm (by repeat (first | exact Pk.here | apply Pk.there))) rfl rfl (fun v G5 outs hle5 hh => ?_); obtain ⟨rfl, rfl, hv⟩ := hh; obtain ⟨nm, rfl, hnm⟩ : ∃ nm : ByteArray, v = .string nm ∧ nm.size ≤ 1 := (by simp only [List.mem_cons, List.not_mem_nil, or_false] at hv; rcases hv with rfl | rfl | rfl | rfl <;> exact ⟨_, rfl, by decide⟩); replace hra := hra.mono hle4; replace hx := hx.mono hle4; replace hb := hb.mono hle4; replace hrt := hrt.mono hle4;)
 refine sQ (qA rfl) rfl (sD (nS (tS ?_)))
 refine E1 E2 rfl ?_
 refine J5 (i := 0) (l' := [tt,ff,ff,ff,ff,ff,ff,ff,ff,ff,ff,ff,ff,ff]) rfl D5 (qM rfl) rfl (by kernel_rfl) rfl rfl ?_
 refine aL 1 rfl (A2 rfl rfl) rfl ?_
 refine aP 3 rfl (qM rfl) rfl ?_
 refine aP 4 rfl (qM rfl) rfl ?_
 refine aP 5 rfl (qM rfl) rfl ?_
 refine aL 6 rfl (A2 rfl rfl) rfl ?_
 refine aL 8 rfl (A2 rfl rfl) rfl ?_
 refine aP 9 rfl (qM rfl) rfl ?_
 refine A3 2 ?_
 (refine K0 rfl rfl (W5 _ _ _ haa.1.small hra) rfl rfl rfl (fun v G6 hle6 hh => ?_); obtain ⟨cs1, F1, rfl, hs1, hn1⟩ := hh; obtain ⟨p1, c1, rfl, _⟩ := hs1.open; have hr1 := hs1.R.mono (C1.le G6 _); replace hra := hra.mono hle6; replace hx := hx.mono hle6; replace hb := hb.mono hle6; replace hrt := hrt.mono hle6;)
 refine A3 7 ?_
 (refine K0 rfl rfl (B3k _ pc nc cc nm (.mk ak aks) _ hx (by omega) hra haa.1 haa.2 hnm) rfl rfl rfl (fun v G7 hle7 hh => ?_); obtain ⟨pm, cm, rfl, hxm⟩ := hh; replace hr1 := hr1.mono hle7; replace hx := hx.mono hle7; replace hb := hb.mono hle7; replace hrt := hrt.mono hle7; have hcall := hM depth (.mk tk tks) (p + 1) _ pm (nc + 1) cm _ hfu hd0 hd1 (by omega) hxm hrt hb (by omega))
 refine A3 10 ?_
 (refine A0b (l' := [tt,tt,tt,tt,tt,tt,tt,tt,tt,tt,tt,ff,ff,ff]) rfl rfl hcall (Pk.perm (by repeat (first | exact Pk.here | apply Pk.there))) rfl rfl rfl (by repeat (first | exact A6.nil | apply A6.dep (by decide +kernel) | apply A6.blk (by decide +kernel) (by repeat (first | exact Pk.here | apply Pk.there)) (by repeat first | exact mH | apply mT))) (fun v G8 outs hle8 hh => ?_); obtain ⟨p8, hp81, hp82, rfl, e8, c8, rfl, hr8, hs8, hc8⟩ := hh; obtain ⟨a1, a2, a3, a4, a5, a6, a7, a8, a9, rfl⟩ := hr8.nine; replace hr1 := hr1.mono hle8)
 refine A3 11 ?_
 (refine E4 rfl (C9 rfl rfl rfl (by omega) (by unfold maxLen; omega) rfl) rfl rfl ?_; rintro _ ⟨b33, rfl⟩)
 refine aP 12 rfl (W1 rfl rfl) rfl ?_
 refine A3 13 ?_
 refine R2 rfl rfl rfl rfl rfl rfl rfl rfl (by decide +kernel) (by repeat first | exact Sw.here | apply Sw.there) (by rfl) ?_
 refine C5 (nS ?_)
 (refine I5 (cs := [a1, a2, a3, a4, a5, a6, a7, a8, a9]) (by repeat (first | exact Pk.here | apply Pk.there)) (fun G9 hle9 hsl9 hno9 => ?_); have hN := A39 (k := 5) (nm := nm) ⟨by omega, by omega⟩ (hr1.mono hle9) (hr8.mono hle9) hsl9)
 refine tT ?_
 refine H6 (outs := [rd br pb nb cb p8]) (rC rfl (A2 rfl rfl)) (by repeat (first | exact A0.nil | refine A0.cons Pk.here ?_ | refine A0.cons (Pk.there Pk.here) ?_ | refine A0.cons (Pk.there (Pk.there Pk.here)) ?_ | apply A0.drop)) ?_
 (exact ⟨p8, by omega, by omega, rfl, _, _, rfl, hN, L3 hnm haa.1.small hs8, by simp only [C6, D6]; omega⟩)
structure A4b {ι : Type} (S : ι → Sy) (φ : ι → Prop) (K : Po) (e : Exit) (σ : Sy) : Prop where
 run : match e with
  | .normal => ∃ i, φ i ∧ Sub σ (S i)
  | e => K e σ
section cut
variable {P : Program} {Γ : M0} {K : Po} {σ : Sy} {ι : Type}
theorem B0x {c y : Code} (S : ι → Sy) (φ : ι → Prop) (h : I8 P Γ c (A4b S φ K) σ) (k : ∀ i, φ i → I8 P Γ y K (S i)) : I8 P Γ c (A0U P Γ y K) σ := by
 refine A5z h ?_
 rintro e σ ⟨hk⟩
 cases e with
 | normal => obtain ⟨i, hi, hs⟩ := hk; exact ⟨A7k hs (k i hi)⟩
 | _ => exact ⟨hk⟩
theorem A4c {S : ι → Sy} {φ : ι → Prop} {σ : Sy} (i : ι) (hs : Sub σ (S i)) (h : φ i) : A4b S φ K .normal σ := ⟨⟨i, h, hs⟩⟩
theorem A0T {S : ι → Sy} {φ : ι → Prop} {σ : Sy} (h : K .ret σ) : A4b S φ K .ret σ := ⟨h⟩
theorem B5D {S : ι → Sy} {φ : ι → Prop} (h : Z1 K) : Z1 (A4b S φ K) := fun c σ hk => h c σ hk.run
instance npC6 {S : ι → Sy} {φ : ι → Prop} [h : NpC K] : NpC (A4b S φ K) := ⟨B5D h.h⟩
end cut
theorem A2j (G : IM) (nm : ByteArray) (num : Int) {k : Int} (hk : E6 k) (hn : E6 num) : A8 G (.mk k nm num A7 A7 0 []) [.int .i64 k, .string nm, .int .i64 num, .int .i64 0, .slice none 0 0, .int .i64 0, .slice none 0 0, .int .i64 0, .slice none 0 0] := A1m hk hn
theorem B7.kidsM {G : IM} {k : Int} {ks : List Ty} {q : Option Addr} {c : Nat} (h : B7 G (.mk k ks) [.int .i64 k, .slice q ks.length c]) : ∃ es, D0 G q ks.length c 2 es ∧ D2 G ks es := by
 obtain ⟨q', c', es, he, _, h1, h2⟩ := h.open
 cases he
 exact ⟨es, h1, h2⟩
theorem B5E (br : Nat) (pb : Option Addr) (nb cb : Nat) (bs : List UInt8) (hnb : nb ≤ 2000) : ∀ n, B0v br pb nb cb bs n := by
 refine fun n => Nat.strongRecOn n fun n ih depth t p G pc nc cc cells hfu hd0 hd1 hnc hx hrt hb hp => ?_
 have hge := A1s n
 have har := hfu.1.ar
 have hszt := A4I hfu.1
 have hnn := A03 t
 have hncl := hx.le
 obtain ⟨k, ks⟩ := t
 obtain ⟨q, c, es, rfl, hk, _, _⟩ := hrt.open
 simp only [Ty.k, Ty.ks] at hk hrt ⊢
 have hsz30 : J7 (.mk k ks) ≤ 30 := hszt
 have hops : k = 4 ∨ k = 5 → ks.length = 2 := by have h2 := har; rw [E5] at h2; exact h2.1
 refine B2 Tryz.func127 rfl Tryz.ntmps127 Tryz.results127 rfl ?_
 intro w0
 refine tS (tR ?_)
 refine sE (B9 rfl rfl) rfl (fun b3 => ?_)
 refine sE (A5 rfl) rfl (fun b4 => ?_)
 refine C2 ?_
 refine sP (P5 rfl rfl (by omega) (by omega)) rfl rfl ?_
 refine sQ (qA rfl) rfl (sD (nS ?_))
 refine B4 ?_
 (refine K9 (fun (x : Nat × Nat × IM) => ⟨(9, .int .i64 ((x.1 : Int) - 1)) :: [(0, .pointer (some ⟨br, 0, none⟩)), (1, .slice pc nc cc), (3, .int .i64 depth), (6, .pointer (some ⟨b3, 0, none⟩)), (8, .pointer (some ⟨b4, 0, none⟩))], [rd br pb nb cb x.2.1, .blk b4 [.int .i64 0, .string ⟨⟨[]⟩⟩, .int .i64 0, .int .i64 0, .slice none 0 0, .int .i64 0, .slice none 0 0, .int .i64 0, .slice none 0 0], .blk b3 [.int .i64 k, .slice q ks.length c]], x.2.2⟩) (fun x => x.1 ≤ nc ∧ B6 G x.2.2 ∧ p ≤ x.2.1 ∧ x.2.1 + x.1 ≤ p + nc) (fun x => x.1) (nc, p, G) ?_ ?_ ?_)
 (simp only [J6]; exact D1)
 (exact ⟨Nat.le_refl _, B6.refl _, Nat.le_refl _, Nat.le_refl _⟩)
 (rintro ⟨(i : Nat), (p1 : Nat), G1⟩ ⟨hi, hleL, hpL, hpL2⟩; simp only [] at hi hleL hpL hpL2 ⊢; replace hx := hx.mono hleL; replace hb := hb.mono hleL; replace hrt := hrt.mono hleL;)
 refine tS (tS (tR (sQ (qM rfl) rfl ?_)))
 refine sB (A0L rfl rfl) rfl rfl (fun h25 => ?_) (fun h25 => ?_)
 refine sD (nS (qT rfl (tK (nS (tS ?_)))))
 (show I8 _ _ (.block 1 ..) _ _; obtain ⟨j, rfl⟩ : ∃ j, i = j + 1 := ⟨i - 1, by omega⟩; rw [show ((j + 1 : Nat) : Int) - 1 = (j : Int) from by omega]; obtain ⟨b, o, nm1, t1, qq1, dd1, rfl, hat, hr1, ha1, hs1, hgb, hns1⟩ := hx.get (i := j) (by omega); refine B4 ?_)
 refine R1 ?_
 refine sP (B3 (j := j) rfl rfl rfl (by omega)) rfl rfl ?_
 refine sQ (qF rfl) rfl ?_
 refine sL (A0p rfl rfl ((hat _).sub (j := 0) rfl)) rfl rfl ?_
 (refine E0 rfl (B3j _ _ nc cc nm1 hx) rfl rfl (fun v G2 hle2 hh => ?_); obtain ⟨ts, tcs, xs, rfl, hrs, has, hss⟩ := hh; obtain ⟨ps, cs, ess, rfl, _⟩ := hrs.open; obtain ⟨b, o, nm1, t1, qq1, dd1, hpp, hat, hr1, ha1, hs1, hgb, hns1⟩ := (hx.mono hle2).get (i := j) (by omega); cases hpp; replace hx := hx.mono hle2; replace hb := hb.mono hle2; replace hrt := hrt.mono hle2;)
 refine K3 ?_
 refine sE (A5 rfl) rfl (fun b45 => ?_)
 refine C2 ?_
 (have hinloop := hrs; refine I7 rfl (X9 _ br pb nb cb (p1) bs 3 hb hnb (by omega)) (Pk.perm (by repeat (first | exact Pk.here | apply Pk.there))) rfl rfl (fun v Gp outs hle53 hh => ?_); obtain ⟨rfl, rfl, j53, rfl, hj53, hk53⟩ := hh; have hinl := hj53)
 replace hrs := hrs.mono hle53
 replace hr1 := hr1.mono hle53
 replace hb := hb.mono hle53
 replace hrt := hrt.mono hle53
 replace hinloop := hinloop.mono hle53
 refine sB (qE rfl rfl) rfl rfl (fun h54 => ?_) (fun h54 => ?_)
 refine sQ (qM rfl) rfl (sL (A2 rfl rfl) rfl rfl ?_)
 refine D8 rfl ((A1Z ts _ _ hrs)) rfl rfl (fun h57 => ?_) (fun h57 => ?_)
 refine F0 ?_
 refine D8 rfl ((A1M ts (.mk k ks) _ _ _ has har hrs hrt)) rfl rfl (fun h62 => ?_) (fun h62 => ?_)
 refine D3 ?_
 refine sP (B3 (j := j) rfl rfl rfl (by omega)) rfl rfl ?_
 refine sQ (qF rfl) rfl ?_
 refine sL (A0p rfl rfl ((hat _).sub (j := 0) rfl)) rfl rfl ?_
 refine I9 ?_
 refine H6 (outs := [rd br pb nb cb (p1 + 1)]) (rC rfl (A2 rfl rfl)) (by repeat (first | exact A0.nil | refine A0.cons Pk.here ?_ | refine A0.cons (Pk.there Pk.here) ?_ | refine A0.cons (Pk.there (Pk.there Pk.here)) ?_ | apply A0.drop)) ?_
 (exact ⟨(p1 + 1), by omega, by omega, rfl, _, _, rfl, A2j _ _ _ ⟨by omega, by omega⟩ (by first | exact ⟨by omega, by omega⟩ | exact hkn), by first | exact O8 (by first | assumption | decide) | exact A0A (by decide) (by assumption) (by assumption) (by assumption) | exact S9 (by decide) (by assumption) (by assumption) | exact L3 (by decide) Q1 (by assumption) | exact L3 (by decide) har.small (by assumption) | exact L3 (by decide) Q1 (S9 (by decide) (by assumption) (O8 (by decide))) | exact L3 (by decide) A0B (O8 (by decide)) | assumption, by simp only [C6, D6]; omega⟩)
 refine D4 ?_
 refine sP (P5 rfl rfl (by omega) (by omega)) rfl rfl ?_
 refine sQ (qA rfl) rfl (sD ?_)
 (have hinloop := hrs; refine K7 (j, p1 + 1, Gp) ?_ ?_ ?_)
 (simp only [J6]; exact D1)
 (dsimp only; exact ⟨by omega, hleL.trans hle2, by omega, by omega⟩)
 (show _ < _ + 1; omega)
 refine J2 ?_
 refine sP (P5 rfl rfl (by omega) (by omega)) rfl rfl ?_
 refine sQ (qA rfl) rfl (sD ?_)
 (have hinloop := hrs; refine K7 (j, p1 + 1, Gp) ?_ ?_ ?_)
 (simp only [J6]; exact D1)
 (dsimp only; exact ⟨by omega, hleL.trans hle2, by omega, by omega⟩)
 (show _ < _ + 1; omega)
 refine T0 ?_
 refine sP (P5 rfl rfl (by omega) (by omega)) rfl rfl ?_
 refine sQ (qA rfl) rfl (sD ?_)
 (have hinloop := hrs; refine K7 (j, p1 + 1, Gp) ?_ ?_ ?_)
 (simp only [J6]; exact D1)
 (dsimp only; exact ⟨by omega, hleL.trans hle2, by omega, by omega⟩)
 (show _ < _ + 1; omega)
 refine I9 ?_
 (show I8 _ _ (.region 7 ..) _ _; refine A0k (fun (x : Bool) => ⟨(49, .bool x) :: [(0, .pointer (some ⟨br, 0, none⟩)), (1, .slice pc nc cc), (3, .int .i64 depth), (6, .pointer (some ⟨b3, 0, none⟩)), (8, .pointer (some ⟨b4, 0, none⟩))], [rd br pb nb cb p1, .blk b4 [.int .i64 0, .string ⟨⟨[]⟩⟩, .int .i64 0, .int .i64 0, .slice none 0 0, .int .i64 0, .slice none 0 0, .int .i64 0, .slice none 0 0], .blk b3 [.int .i64 k, .slice q ks.length c]], G1⟩) (fun x => x = true → 1 < depth) ?_ ?_)
 refine tR (sQ (qM rfl) rfl ?_)
 refine sB (X6 rfl rfl) rfl rfl (fun h160 => ?_) (fun h160 => ?_)
 refine sD ?_
 refine Q2 true (O1 (by repeat (first | exact E3.nil | refine E3.cons rfl ?_)) (by repeat (first | exact A0.refl | exact A0.nil | refine A0.cons (by repeat (first | exact Pk.here | apply Pk.there)) ?_ | apply A0.drop))) (fun _ => by omega)
 refine sD ?_
 refine Q2 false (O1 (by repeat (first | exact E3.nil | refine E3.cons rfl ?_)) (by repeat (first | exact A0.refl | exact A0.nil | refine A0.cons (by repeat (first | exact Pk.here | apply Pk.there)) ?_ | apply A0.drop))) (fun h => absurd h (by decide))
 (rintro (x49 : Bool) hx49)
 (show I8 _ _ (.cond (.tmp 49) _ _) _ _; refine B0x (fun (x : Nat × IM) => ⟨[(0, .pointer (some ⟨br, 0, none⟩)), (1, .slice pc nc cc), (3, .int .i64 depth), (6, .pointer (some ⟨b3, 0, none⟩)), (8, .pointer (some ⟨b4, 0, none⟩))], [rd br pb nb cb x.1, .blk b4 [.int .i64 0, .string ⟨⟨[]⟩⟩, .int .i64 0, .int .i64 0, .slice none 0 0, .int .i64 0, .slice none 0 0, .int .i64 0, .slice none 0 0], .blk b3 [.int .i64 k, .slice q ks.length c]], x.2⟩) (fun x => B6 G1 x.2 ∧ p1 ≤ x.1 ∧ x.1 ≤ p1 + 1) (A4g rfl (fun hxt => ?_) (fun hxf => ?_)) ?_)
 refine tS (tR (sQ (qM rfl) rfl ?_))
 (have hx49b := hx49 hxt; refine I7 rfl (X9 _ br pb nb cb (p1) bs 9 hb hnb (by omega)) (Pk.perm (by repeat (first | exact Pk.here | apply Pk.there))) rfl rfl (fun v Gp outs hle170 hh => ?_); obtain ⟨rfl, rfl, j170, rfl, hj170, hk170⟩ := hh; have hpk9 := hj170)
 replace hb := hb.mono hle170
 replace hrt := hrt.mono hle170
 refine sD (nS ?_)
 refine B4 (tS (tR (sB (qE rfl rfl) rfl rfl (fun h176 => ?_) (fun h176 => ?_))))
 refine sQ (qA rfl) rfl (sD (nS (qT rfl (tS ?_))))
 (obtain ⟨m, rfl⟩ := hfu.pos (.inl (by omega)); have hmB : mB (m + 1) = 3 * mB m + 200 := rfl; have hgm := A1s m; refine E1 E2 rfl ?_)
 refine P9 (i := 0) (l' := [tt,ff,ff,ff,ff,ff,ff,ff,ff,ff,ff,ff,ff]) rfl D5 (A2 rfl rfl) rfl (by kernel_rfl) rfl rfl ?_
 refine aP 2 rfl (qM rfl) rfl ?_
 refine aP 3 rfl (qM rfl) rfl ?_
 refine aP 4 rfl (qM rfl) rfl ?_
 refine aL 5 rfl (A2 rfl rfl) rfl ?_
 refine aP 7 rfl (qM rfl) rfl ?_
 refine aP 8 rfl (P5 rfl rfl (by omega) (by omega)) rfl ?_
 refine A3 1 ?_
 (refine K0 rfl rfl (W5 _ _ _ har.small hrt) rfl rfl rfl (fun v G6 hle6 hh => ?_); obtain ⟨cs1, F1, rfl, hs1, hn1⟩ := hh; obtain ⟨pz, cz, rfl, _⟩ := hs1.open; have hrz := hs1.R.mono (C1.le G6 _); replace hx := hx.mono hle6; replace hb := hb.mono hle6; replace hrt := hrt.mono hle6;)
 refine A3 6 ?_
 (have hcall := A6q br pb nb cb bs hnb (.mk k ks) (p1 + 1) _ _ har hrt hb (by omega); refine A0b (l' := [tt,tt,tt,tt,tt,tt,tt,tt,tt,ff,ff,ff,ff]) rfl rfl hcall (Pk.perm (by repeat (first | exact Pk.here | apply Pk.there))) rfl rfl rfl (by repeat (first | exact A6.nil | apply A6.dep (by decide +kernel) | apply A6.im (by decide +kernel) hg0 (by repeat first | exact mH | apply mT) | apply A6.im (by decide +kernel) hg1 (by repeat first | exact mH | apply mT) | apply A6.blk (by decide +kernel) (by repeat (first | exact Pk.here | apply Pk.there)) (by repeat first | exact mH | apply mT))) (fun v Gn outs hleA hh => ?_); obtain ⟨pA, hpA1, hpA2, rfl, uA, cuA, rfl, hruA, huaA, husA, huhA⟩ := hh; obtain ⟨quA, duA, euA, rfl, _⟩ := hruA.open; replace hrz := hrz.mono hleA; replace hx := hx.mono hleA; replace hb := hb.mono hleA; replace hrt := hrt.mono hleA;)
 refine A3 9 ?_
 (have hcall := ih m (by omega) (depth - 1) uA pA _ pc nc cc _ (hfu.sub (by omega) (huhA 4 hfu.1)) (by omega) (by omega) (by omega) hx hruA hb (by omega); refine A0b (l' := [tt,tt,tt,tt,tt,tt,tt,tt,tt,tt,ff,ff,ff]) rfl rfl hcall (Pk.perm (by repeat (first | exact Pk.here | apply Pk.there))) rfl rfl rfl (by repeat (first | exact A6.nil | apply A6.dep (by decide +kernel) | apply A6.im (by decide +kernel) hg0 (by repeat first | exact mH | apply mT) | apply A6.im (by decide +kernel) hg1 (by repeat first | exact mH | apply mT) | apply A6.blk (by decide +kernel) (by repeat (first | exact Pk.here | apply Pk.there)) (by repeat first | exact mH | apply mT))) (fun v Gn outs hlea hh => ?_); obtain ⟨pa, hpa1, hpa2, rfl, ea, ca, rfl, hra, hsma, hca⟩ := hh; obtain ⟨a1, a2, a3, a4, a5, a6, a7, a8, a9, rfl⟩ := hra.nine; replace hrz := hrz.mono hlea; replace hx := hx.mono hlea; replace hb := hb.mono hlea; replace hrt := hrt.mono hlea;)
 refine A3 10 ?_
 (refine E4 rfl (C9 rfl rfl rfl (by omega) (by unfold maxLen; omega) rfl) rfl rfl ?_; rintro _ ⟨b197, rfl⟩)
 refine aP 11 rfl (W1 rfl rfl) rfl ?_
 refine A3 12 ?_
 refine R2 rfl rfl rfl rfl rfl rfl rfl rfl (by decide +kernel) (by repeat first | exact Sw.here | apply Sw.there) (by rfl) ?_
 refine C5 (nS ?_)
 (refine I5 (cs := [a1, a2, a3, a4, a5, a6, a7, a8, a9]) (by repeat (first | exact Pk.here | apply Pk.there)) (fun G9 hle9 hsl9 hno9 => ?_); have hN := A39 (k := 13) (nm := ⟨⟨[]⟩⟩) ⟨by omega, by omega⟩ (hrz.mono hle9) (hra.mono hle9) hsl9)
 refine tT (rB ?_)
 refine A0T ?_
 refine H6 (outs := [rd br pb nb cb pa]) (rC rfl (A2 rfl rfl)) (by repeat (first | exact A0.nil | refine A0.cons Pk.here ?_ | refine A0.cons (Pk.there Pk.here) ?_ | refine A0.cons (Pk.there (Pk.there Pk.here)) ?_ | apply A0.drop)) ?_
 (exact ⟨pa, by omega, by omega, rfl, _, _, rfl, hN, by first | exact O8 (by first | assumption | decide) | exact A0A (by decide) (by assumption) (by assumption) (by assumption) | exact S9 (by decide) (by assumption) (by assumption) | exact L3 (by decide) Q1 (by assumption) | exact L3 (by decide) har.small (by assumption) | exact L3 (by decide) Q1 (S9 (by decide) (by assumption) (O8 (by decide))) | exact L3 (by decide) A0B (O8 (by decide)) | assumption, by simp only [C6, D6]; omega⟩)
 refine sQ (qA rfl) rfl (sD (nS (cF rfl (tS (tR ?_)))))
 refine sB (qE rfl rfl) rfl rfl (fun h215 => ?_) (fun h215 => ?_)
 refine sQ (qA rfl) rfl (sD (nS (qT rfl (tS ?_))))
 (obtain ⟨m, rfl⟩ := hfu.pos (.inl (by omega)); have hmB : mB (m + 1) = 3 * mB m + 200 := rfl; have hgm := A1s m; refine E1 E2 rfl ?_)
 refine J5 (i := 0) (l' := [tt,ff,ff,ff,ff,ff,ff,ff,ff,ff,ff,ff,ff,ff,ff,ff,ff,ff,ff,ff,ff]) rfl D5 (qM rfl) rfl (by kernel_rfl) rfl rfl ?_
 refine aP 1 rfl (qM rfl) rfl ?_
 refine aP 3 rfl (qM rfl) rfl ?_
 refine aP 4 rfl (P5 rfl rfl (by omega) (by omega)) rfl ?_
 refine aP 6 rfl (qM rfl) rfl ?_
 refine aP 7 rfl (qM rfl) rfl ?_
 refine aL 8 rfl (A2 rfl rfl) rfl ?_
 refine aP 9 rfl (qM rfl) rfl ?_
 refine aP 10 rfl (P5 rfl rfl (by omega) (by omega)) rfl ?_
 refine aP 12 rfl (qM rfl) rfl ?_
 refine aP 13 rfl (qM rfl) rfl ?_
 refine aL 14 rfl (A2 rfl rfl) rfl ?_
 refine aP 15 rfl (qM rfl) rfl ?_
 refine aP 16 rfl (P5 rfl rfl (by omega) (by omega)) rfl ?_
 refine A3 2 ?_
 refine P6 rfl rfl ((A3P _)) rfl rfl rfl ?_
 refine A3 5 ?_
 (have hcall := ih m (by omega) (depth - 1) (.mk 3 []) (p1 + 1) _ pc nc cc _ (hfu.sub (by omega) (A2U 4 (by decide) (by decide))) (by omega) (by omega) (by omega) hx (N3 _ ⟨by omega, by omega⟩) hb (by omega); refine A0b (l' := [tt,tt,tt,tt,tt,tt,tt,tt,tt,tt,tt,ff,tt,tt,tt,tt,tt,ff,ff,ff,ff]) rfl rfl hcall (Pk.perm (by repeat (first | exact Pk.here | apply Pk.there))) rfl rfl rfl (by repeat (first | exact A6.nil | apply A6.dep (by decide +kernel) | apply A6.im (by decide +kernel) hg0 (by repeat first | exact mH | apply mT) | apply A6.im (by decide +kernel) hg1 (by repeat first | exact mH | apply mT) | apply A6.blk (by decide +kernel) (by repeat (first | exact Pk.here | apply Pk.there)) (by repeat first | exact mH | apply mT))) (fun v Gn outs hlef hh => ?_); obtain ⟨pf, hpf1, hpf2, rfl, ef, cf, rfl, hrf, hsmf, hcf⟩ := hh; obtain ⟨f1, f2, f3, f4, f5, f6, f7, f8, f9, rfl⟩ := hrf.nine; replace hx := hx.mono hlef; replace hb := hb.mono hlef; replace hrt := hrt.mono hlef;)
 refine A3 11 ?_
 (have hcall := ih m (by omega) (depth - 1) (.mk k ks) pf _ pc nc cc _ (hfu.sub (by omega) hfu.1) (by omega) (by omega) (by omega) hx hrt hb (by omega); refine A0b (l' := [tt,tt,tt,tt,tt,tt,tt,tt,tt,tt,tt,tt,tt,tt,tt,tt,tt,ff,ff,ff,ff]) rfl rfl hcall (Pk.perm (by repeat (first | exact Pk.here | apply Pk.there))) rfl rfl rfl (by repeat (first | exact A6.nil | apply A6.dep (by decide +kernel) | apply A6.im (by decide +kernel) hg0 (by repeat first | exact mH | apply mT) | apply A6.im (by decide +kernel) hg1 (by repeat first | exact mH | apply mT) | apply A6.blk (by decide +kernel) (by repeat (first | exact Pk.here | apply Pk.there)) (by repeat first | exact mH | apply mT))) (fun v Gn outs hleg hh => ?_); obtain ⟨pg, hpg1, hpg2, rfl, eg, cg, rfl, hrg, hsmg, hcg⟩ := hh; obtain ⟨g1, g2, g3, g4, g5, g6, g7, g8, g9, rfl⟩ := hrg.nine; replace hrf := hrf.mono hleg; replace hx := hx.mono hleg; replace hb := hb.mono hleg; replace hrt := hrt.mono hleg;)
 refine A3 17 ?_
 (have hcall := ih m (by omega) (depth - 1) (.mk k ks) pg _ pc nc cc _ (hfu.sub (by omega) hfu.1) (by omega) (by omega) (by omega) hx hrt hb (by omega); refine A0b (l' := [tt,tt,tt,tt,tt,tt,tt,tt,tt,tt,tt,tt,tt,tt,tt,tt,tt,tt,ff,ff,ff]) rfl rfl hcall (Pk.perm (by repeat (first | exact Pk.here | apply Pk.there))) rfl rfl rfl (by repeat (first | exact A6.nil | apply A6.dep (by decide +kernel) | apply A6.im (by decide +kernel) hg0 (by repeat first | exact mH | apply mT) | apply A6.im (by decide +kernel) hg1 (by repeat first | exact mH | apply mT) | apply A6.blk (by decide +kernel) (by repeat (first | exact Pk.here | apply Pk.there)) (by repeat first | exact mH | apply mT))) (fun v Gn outs hlei hh => ?_); obtain ⟨pi, hpi1, hpi2, rfl, ei, ci, rfl, hri, hsmi, hci⟩ := hh; obtain ⟨i1, i2, i3, i4, i5, i6, i7, i8, i9, rfl⟩ := hri.nine; replace hrf := hrf.mono hlei; replace hrg := hrg.mono hlei; replace hx := hx.mono hlei; replace hb := hb.mono hlei; replace hrt := hrt.mono hlei;)
 refine A3 18 ?_
 (refine E4 rfl (C9 rfl rfl rfl (by omega) (by unfold maxLen; omega) rfl) rfl rfl ?_; rintro _ ⟨b245, rfl⟩)
 refine A3 19 ?_
 refine P6 rfl rfl ((A2v _ _ _ _ _)) rfl rfl rfl ?_
 refine A3 20 ?_
 refine R2 rfl rfl rfl rfl rfl rfl rfl rfl (by decide +kernel) (by repeat first | exact Sw.here | apply Sw.there) (by rfl) ?_
 refine C5 (nS ?_)
 (refine I5 (cs := [f1, f2, f3, f4, f5, f6, f7, f8, f9] ++ ([g1, g2, g3, g4, g5, g6, g7, g8, g9] ++ [i1, i2, i3, i4, i5, i6, i7, i8, i9])) (by repeat (first | exact Pk.here | apply Pk.there)) (fun G9 hle9 hsl9 hno9 => ?_); have hN := B5C (k := 9) (nm := ⟨⟨[]⟩⟩) ⟨by omega, by omega⟩ (hrf.mono hle9) (hrg.mono hle9) (hri.mono hle9) hsl9)
 refine tT (rB ?_)
 refine A0T ?_
 refine H6 (outs := [rd br pb nb cb pi]) (rC rfl (A2 rfl rfl)) (by repeat (first | exact A0.nil | refine A0.cons Pk.here ?_ | refine A0.cons (Pk.there Pk.here) ?_ | refine A0.cons (Pk.there (Pk.there Pk.here)) ?_ | apply A0.drop)) ?_
 (exact ⟨pi, by omega, by omega, rfl, _, _, rfl, hN, by first | exact O8 (by first | assumption | decide) | exact A0A (by decide) (by assumption) (by assumption) (by assumption) | exact S9 (by decide) (by assumption) (by assumption) | exact L3 (by decide) Q1 (by assumption) | exact L3 (by decide) har.small (by assumption) | exact L3 (by decide) Q1 (S9 (by decide) (by assumption) (O8 (by decide))) | exact L3 (by decide) A0B (O8 (by decide)) | assumption, by simp only [C6, D6]; omega⟩)
 refine sQ (qA rfl) rfl (sD (nS (cF rfl (tS (tR ?_)))))
 refine sB (qE rfl rfl) rfl rfl (fun h264 => ?_) (fun h264 => ?_)
 refine C2 ?_
 (have hcall := A3N br pb nb cb bs hnb 0 (p1 + 1) _ (by omega) hb (by have : dB (0 + 1) ≤ 6 := (by decide); omega); refine I7 rfl hcall (Pk.perm (by repeat (first | exact Pk.here | apply Pk.there))) rfl rfl (fun v Gn outs hleD hh => ?_); obtain ⟨pD, hpD1, hpD2, rfl, uD, cuD, rfl, hruD, husD, huhD⟩ := hh; have huaD := huhD.ar; obtain ⟨quD, duD, euD, rfl, _⟩ := hruD.open; have hdBD : dB (0 + 1) ≤ 6 := (by decide); replace hx := hx.mono hleD; replace hb := hb.mono hleD; replace hrt := hrt.mono hleD;)
 refine sE (A5 rfl) rfl (fun b273 => ?_)
 refine F9 ?_
 refine sD (nS (tS ?_))
 (obtain ⟨m, rfl⟩ := hfu.pos (.inl (by omega)); have hmB : mB (m + 1) = 3 * mB m + 200 := rfl; have hgm := A1s m; refine E1 E2 rfl ?_)
 refine J5 (i := 0) (l' := [tt,ff,ff,ff,ff,ff,ff,ff,ff,ff,ff,ff,ff,ff,ff,ff,ff,ff]) rfl D5 (qM rfl) rfl (by kernel_rfl) rfl rfl ?_
 refine aP 1 rfl (qM rfl) rfl ?_
 refine aL 2 rfl (A2 rfl rfl) rfl ?_
 refine aL 3 rfl (A2 rfl rfl) rfl ?_
 refine aP 4 rfl (qM rfl) rfl ?_
 refine aP 5 rfl (P5 rfl rfl (by omega) (by omega)) rfl ?_
 refine aP 7 rfl (qM rfl) rfl ?_
 refine aP 8 rfl (qM rfl) rfl ?_
 refine aP 9 rfl (qM rfl) rfl ?_
 refine aL 10 rfl (A2 rfl rfl) rfl ?_
 refine aP 12 rfl (qM rfl) rfl ?_
 refine aP 13 rfl (P5 rfl rfl (by omega) (by omega)) rfl ?_
 refine A3 6 ?_
 (have hcall := B0w br pb nb cb bs hnb m (ih m (by omega)) (depth - 1) uD (.mk k ks) (pD) _ pc nc cc _ _ (hfu.sub (by omega) hfu.1) (by omega) (by omega) (by omega) hx hruD ⟨huaD, by omega⟩ hrt hb (by omega); refine A0b (l' := [tt,tt,tt,tt,tt,tt,tt,tt,tt,tt,tt,ff,tt,tt,ff,ff,ff,ff]) rfl rfl hcall (Pk.perm (by repeat (first | exact Pk.here | apply Pk.there))) rfl rfl rfl (by repeat (first | exact A6.nil | apply A6.dep (by decide +kernel) | apply A6.im (by decide +kernel) hg0 (by repeat first | exact mH | apply mT) | apply A6.im (by decide +kernel) hg1 (by repeat first | exact mH | apply mT) | apply A6.blk (by decide +kernel) (by repeat (first | exact Pk.here | apply Pk.there)) (by repeat first | exact mH | apply mT))) (fun v Gn outs hlel hh => ?_); obtain ⟨pl, hpl1, hpl2, rfl, el, cl, rfl, hrl, hsml, hcl⟩ := hh; obtain ⟨l1, l2, l3, l4, l5, l6, l7, l8, l9, rfl⟩ := hrl.nine; replace hruD := hruD.mono hlel; replace hx := hx.mono hlel; replace hb := hb.mono hlel; replace hrt := hrt.mono hlel;)
 refine A3 11 ?_
 (have hcall := A6q br pb nb cb bs hnb uD (pl) _ _ huaD hruD hb (by omega); refine A0b (l' := [tt,tt,tt,tt,tt,tt,tt,tt,tt,tt,tt,tt,tt,tt,ff,ff,ff,ff]) rfl rfl hcall (Pk.perm (by repeat (first | exact Pk.here | apply Pk.there))) rfl rfl rfl (by repeat (first | exact A6.nil | apply A6.dep (by decide +kernel) | apply A6.im (by decide +kernel) hg0 (by repeat first | exact mH | apply mT) | apply A6.im (by decide +kernel) hg1 (by repeat first | exact mH | apply mT) | apply A6.blk (by decide +kernel) (by repeat (first | exact Pk.here | apply Pk.there)) (by repeat first | exact mH | apply mT))) (fun v Gn outs hleE hh => ?_); obtain ⟨pE, hpE1, hpE2, rfl, uE, cuE, rfl, hruE, huaE, husE, huhE⟩ := hh; obtain ⟨quE, duE, euE, rfl, _⟩ := hruE.open; replace hrl := hrl.mono hleE; replace hx := hx.mono hleE; replace hb := hb.mono hleE; replace hrt := hrt.mono hleE;)
 refine A3 14 ?_
 (have hcall := ih m (by omega) (depth - 1) uE pE _ pc nc cc _ (hfu.sub (by omega) (huhE 4 (huhD.le (by omega)))) (by omega) (by omega) (by omega) hx hruE hb (by omega); refine A0b (l' := [tt,tt,tt,tt,tt,tt,tt,tt,tt,tt,tt,tt,tt,tt,tt,ff,ff,ff]) rfl rfl hcall (Pk.perm (by repeat (first | exact Pk.here | apply Pk.there))) rfl rfl rfl (by repeat (first | exact A6.nil | apply A6.dep (by decide +kernel) | apply A6.im (by decide +kernel) hg0 (by repeat first | exact mH | apply mT) | apply A6.im (by decide +kernel) hg1 (by repeat first | exact mH | apply mT) | apply A6.blk (by decide +kernel) (by repeat (first | exact Pk.here | apply Pk.there)) (by repeat first | exact mH | apply mT))) (fun v Gn outs hled hh => ?_); obtain ⟨pd, hpd1, hpd2, rfl, ed, cd, rfl, hrd, hsmd, hcd⟩ := hh; obtain ⟨d1, d2, d3, d4, d5, d6, d7, d8, d9, rfl⟩ := hrd.nine; replace hrl := hrl.mono hled; replace hx := hx.mono hled; replace hb := hb.mono hled; replace hrt := hrt.mono hled;)
 refine A3 15 ?_
 (refine E4 rfl (C9 rfl rfl rfl (by omega) (by unfold maxLen; omega) rfl) rfl rfl ?_; rintro _ ⟨b298, rfl⟩)
 refine A3 16 ?_
 refine P6 rfl rfl ((A2v _ _ _ _ _)) rfl rfl rfl ?_
 refine A3 17 ?_
 refine R2 rfl rfl rfl rfl rfl rfl rfl rfl (by decide +kernel) (by repeat first | exact Sw.here | apply Sw.there) (by rfl) ?_
 refine C5 (nS ?_)
 (refine I5 (cs := [l1, l2, l3, l4, l5, l6, l7, l8, l9] ++ [d1, d2, d3, d4, d5, d6, d7, d8, d9]) (by repeat (first | exact Pk.here | apply Pk.there)) (fun G9 hle9 hsl9 hno9 => ?_); have hN := A4a (k := 6) (nm := ⟨⟨[]⟩⟩) ⟨by omega, by omega⟩ (hrl.mono hle9) (hrd.mono hle9) hsl9)
 refine tT (rB ?_)
 refine A0T ?_
 refine H6 (outs := [rd br pb nb cb pd]) (rC rfl (A2 rfl rfl)) (by repeat (first | exact A0.nil | refine A0.cons Pk.here ?_ | refine A0.cons (Pk.there Pk.here) ?_ | refine A0.cons (Pk.there (Pk.there Pk.here)) ?_ | apply A0.drop)) ?_
 (exact ⟨pd, by omega, by omega, rfl, _, _, rfl, hN, by first | exact O8 (by first | assumption | decide) | exact A0A (by decide) (by assumption) (by assumption) (by assumption) | exact S9 (by decide) (by assumption) (by assumption) | exact L3 (by decide) Q1 (by assumption) | exact L3 (by decide) har.small (by assumption) | exact L3 (by decide) Q1 (S9 (by decide) (by assumption) (O8 (by decide))) | exact L3 (by decide) A0B (O8 (by decide)) | assumption, by simp only [C6, D6]; omega⟩)
 refine sQ (qA rfl) rfl (sD (nS (cF rfl (tS (tR ?_)))))
 refine sB (qE rfl rfl) rfl rfl (fun h317 => ?_) (fun h317 => ?_)
 refine I9 ?_
 refine sP (P5 rfl rfl (by omega) (by omega)) rfl rfl ?_
 (have hpkq := hpk9; obtain ⟨m, rfl⟩ := hfu.pos (.inl (by omega)); have hmB : mB (m + 1) = 3 * mB m + 200 := rfl; have hgm := A1s m; have hcall := ih m (by omega) (depth - 1) (.mk k ks) (p1 + 1) _ pc nc cc _ (hfu.sub (by omega) hfu.1) (by omega) (by omega) (by omega) hx hrt hb (by omega); refine I7 rfl hcall (Pk.perm (by repeat (first | exact Pk.here | apply Pk.there))) rfl rfl (fun v Gn outs hleh hh => ?_); obtain ⟨ph, hph1, hph2, rfl, eh, ch, rfl, hrh, hsmh, hch⟩ := hh; obtain ⟨h1, h2, h3, h4, h5, h6, h7, h8, h9, rfl⟩ := hrh.nine; replace hx := hx.mono hleh; replace hb := hb.mono hleh; replace hrt := hrt.mono hleh;)
 refine H3 rfl ((A11 _ _)) rfl rfl ?_
 (refine L9 (C9 rfl rfl rfl (by omega) (by unfold maxLen; omega) rfl) rfl ?_; rintro _ ⟨b331, rfl⟩)
 refine H3 rfl ((A2v _ _ _ _ _)) rfl rfl ?_
 (refine L9 (C9 rfl rfl rfl (by omega) (by unfold maxLen; omega) rfl) rfl ?_; rintro _ ⟨b333, rfl⟩)
 refine H3 rfl ((A2v _ _ _ _ _)) rfl rfl ?_
 refine F9 ?_
 refine sD (nS ?_)
 (refine I5 (cs := [h1, h2, h3, h4, h5, h6, h7, h8, h9] ++ [.int .i64 2, .string ⟨⟨[]⟩⟩, .int .i64 1, .int .i64 0, .slice none 0 0, .int .i64 0, .slice none 0 0, .int .i64 0, .slice none 0 0]) (by repeat (first | exact Pk.here | apply Pk.there)) (fun G8 hle8 hsl8 hno8 => ?_); have hNi := A4a (k := 10) (nm := ⟨⟨[]⟩⟩) ⟨by omega, by omega⟩ (hrh.mono hle8) (A2j G8 ⟨⟨[]⟩⟩ 1 (k := 2) ⟨by omega, by omega⟩ ⟨by omega, by omega⟩) hsl8; refine I5 (by repeat (first | exact Pk.here | apply Pk.there)) (fun G9 hle9 hsl9 hno9 => ?_); have hN := A39 (k := 11) (nm := ⟨⟨[]⟩⟩) ⟨by omega, by omega⟩ (N3 G9 (k := 0) ⟨by omega, by omega⟩) (hNi.mono hle9) hsl9)
 refine tT (rB ?_)
 refine A0T ?_
 refine H6 (outs := [rd br pb nb cb ph]) (rC rfl (A2 rfl rfl)) (by repeat (first | exact A0.nil | refine A0.cons Pk.here ?_ | refine A0.cons (Pk.there Pk.here) ?_ | refine A0.cons (Pk.there (Pk.there Pk.here)) ?_ | apply A0.drop)) ?_
 (exact ⟨ph, by omega, by omega, rfl, _, _, rfl, hN, by first | exact O8 (by first | assumption | decide) | exact A0A (by decide) (by assumption) (by assumption) (by assumption) | exact S9 (by decide) (by assumption) (by assumption) | exact L3 (by decide) Q1 (by assumption) | exact L3 (by decide) har.small (by assumption) | exact L3 (by decide) Q1 (S9 (by decide) (by assumption) (O8 (by decide))) | exact L3 (by decide) A0B (O8 (by decide)) | assumption, by simp only [C6, D6]; omega⟩)
 refine sQ (qA rfl) rfl (sD (nS (cF rfl (tK (M8 ?_)))))
 refine A4c (p1 + 1, Gp) (O1 (by repeat (first | exact E3.nil | refine E3.cons rfl ?_)) (by repeat (first | exact A0.refl | exact A0.nil | refine A0.cons (by repeat (first | exact Pk.here | apply Pk.there)) ?_ | apply A0.drop))) ⟨B6.refl _, by dsimp only; omega, by dsimp only; omega⟩
 refine tK ?_
 refine A4c (p1, G1) (O1 (by repeat (first | exact E3.nil | refine E3.cons rfl ?_)) (by repeat (first | exact A0.refl | exact A0.nil | refine A0.cons (by repeat (first | exact Pk.here | apply Pk.there)) ?_ | apply A0.drop))) ⟨B6.refl _, by dsimp only; omega, by dsimp only; omega⟩
 (rintro ⟨(p2 : Nat), G2⟩ ⟨hle2c, hp2a, hp2b⟩; simp only [] at hle2c hp2a hp2b ⊢; have hcut1 := hp2a; replace hx := hx.mono hle2c; replace hb := hb.mono hle2c; replace hrt := hrt.mono hle2c;)
 refine C2 ?_
 (show I8 _ _ (.block 3 ..) _ _; refine B0x (fun (x : Nat × IM) => ⟨[(0, .pointer (some ⟨br, 0, none⟩)), (1, .slice pc nc cc), (3, .int .i64 depth), (6, .pointer (some ⟨b3, 0, none⟩)), (8, .pointer (some ⟨b4, 0, none⟩))], [rd br pb nb cb x.1, .blk b4 [.int .i64 0, .string ⟨⟨[]⟩⟩, .int .i64 0, .int .i64 0, .slice none 0 0, .int .i64 0, .slice none 0 0, .int .i64 0, .slice none 0 0], .blk b3 [.int .i64 k, .slice q ks.length c]], x.2⟩) (fun x => B6 G2 x.2 ∧ p2 ≤ x.1 ∧ x.1 ≤ p2 + 2) ?_ ?_)
 refine B4 (tS (tR (sB (qE rfl rfl) rfl rfl (fun h365 => ?_) (fun h365 => ?_))))
 refine D3 ?_
 refine sB (X6 rfl rfl) rfl rfl (fun h374 => ?_) (fun h374 => ?_)
 refine sQ (qM rfl) rfl (sQ (qM rfl) rfl ?_)
 (have hkk3 : k = 3 := (by omega); refine I7 rfl (X9 _ br pb nb cb (p2) bs 2 hb hnb (by omega)) (Pk.perm (by repeat (first | exact Pk.here | apply Pk.there))) rfl rfl (fun v Gp outs hle377 hh => ?_); obtain ⟨rfl, rfl, j377, rfl, hj377, hk377⟩ := hh; have hpk22 := hj377)
 replace hb := hb.mono hle377
 replace hrt := hrt.mono hle377
 refine sB (qE rfl rfl) rfl rfl (fun h378 => ?_) (fun h378 => ?_)
 refine D3 ?_
 refine H3 rfl ((A1n _)) rfl rfl ?_
 refine sQ (qM rfl) rfl ?_
 refine sP (P5 rfl rfl (by omega) (by omega)) rfl rfl ?_
 (have hkk3q := hkk3; obtain ⟨m, rfl⟩ := hfu.pos (.inl (by omega)); have hmB : mB (m + 1) = 3 * mB m + 200 := rfl; have hgm := A1s m; have hcall := ih m (by omega) (depth - 1) (.mk 2 []) (p2 + 1) _ pc nc cc _ (hfu.sub (by omega) (A2U 4 (by decide) (by decide))) (by omega) (by omega) (by omega) hx (N3 _ ⟨by omega, by omega⟩) hb (by omega); refine I7 rfl hcall (Pk.perm (by repeat (first | exact Pk.here | apply Pk.there))) rfl rfl (fun v Gn outs hlen hh => ?_); obtain ⟨pn, hpn1, hpn2, rfl, en, cn, rfl, hrn, hsmn, hcn⟩ := hh; obtain ⟨n1, n2, n3, n4, n5, n6, n7, n8, n9, rfl⟩ := hrn.nine; replace hx := hx.mono hlen; replace hb := hb.mono hlen; replace hrt := hrt.mono hlen;)
 refine sQ (qM rfl) rfl (sQ (qM rfl) rfl ?_)
 refine H3 rfl ((A1n _)) rfl rfl ?_
 refine sQ (qM rfl) rfl ?_
 refine sP (P5 rfl rfl (by omega) (by omega)) rfl rfl ?_
 (have hcall := ih m (by omega) (depth - 1) (.mk 2 []) pn _ pc nc cc _ (hfu.sub (by omega) (A2U 4 (by decide) (by decide))) (by omega) (by omega) (by omega) hx (N3 _ ⟨by omega, by omega⟩) hb (by omega); refine I7 rfl hcall (Pk.perm (by repeat (first | exact Pk.here | apply Pk.there))) rfl rfl (fun v Gn outs hleo hh => ?_); obtain ⟨po, hpo1, hpo2, rfl, eo, co, rfl, hro, hsmo, hco⟩ := hh; obtain ⟨o1, o2, o3, o4, o5, o6, o7, o8, o9, rfl⟩ := hro.nine; replace hrn := hrn.mono hleo; replace hx := hx.mono hleo; replace hb := hb.mono hleo; replace hrt := hrt.mono hleo;)
 (refine L9 (C9 rfl rfl rfl (by omega) (by unfold maxLen; omega) rfl) rfl ?_; rintro _ ⟨b397, rfl⟩)
 refine H3 rfl ((A2v _ _ _ _ _)) rfl rfl ?_
 refine F9 ?_
 refine sD (nS ?_)
 (refine I5 (cs := [n1, n2, n3, n4, n5, n6, n7, n8, n9] ++ [o1, o2, o3, o4, o5, o6, o7, o8, o9]) (by repeat (first | exact Pk.here | apply Pk.there)) (fun G9 hle9 hsl9 hno9 => ?_); have hN := A4a (k := 8) (nm := ⟨⟨[]⟩⟩) ⟨by omega, by omega⟩ (hrn.mono hle9) (hro.mono hle9) hsl9)
 refine tT (rS (rB ?_))
 refine A0T ?_
 refine H6 (outs := [rd br pb nb cb po]) (rC rfl (A2 rfl rfl)) (by repeat (first | exact A0.nil | refine A0.cons Pk.here ?_ | refine A0.cons (Pk.there Pk.here) ?_ | refine A0.cons (Pk.there (Pk.there Pk.here)) ?_ | apply A0.drop)) ?_
 (exact ⟨po, by omega, by omega, rfl, _, _, rfl, hN, by first | exact O8 (by first | assumption | decide) | exact A0A (by decide) (by assumption) (by assumption) (by assumption) | exact S9 (by decide) (by assumption) (by assumption) | exact L3 (by decide) Q1 (by assumption) | exact L3 (by decide) har.small (by assumption) | exact L3 (by decide) Q1 (S9 (by decide) (by assumption) (O8 (by decide))) | exact L3 (by decide) A0B (O8 (by decide)) | assumption, by simp only [C6, D6]; omega⟩)
 refine J2 ?_
 refine A0T ?_
 refine H6 (outs := [rd br pb nb cb (p2 + 1)]) (rC rfl (A2 rfl rfl)) (by repeat (first | exact A0.nil | refine A0.cons Pk.here ?_ | refine A0.cons (Pk.there Pk.here) ?_ | refine A0.cons (Pk.there (Pk.there Pk.here)) ?_ | apply A0.drop)) ?_
 (exact ⟨(p2 + 1), by omega, by omega, rfl, _, _, rfl, A2j _ _ _ ⟨by omega, by omega⟩ (by first | exact ⟨by omega, by omega⟩ | exact hkn), by first | exact O8 (by first | assumption | decide) | exact A0A (by decide) (by assumption) (by assumption) (by assumption) | exact S9 (by decide) (by assumption) (by assumption) | exact L3 (by decide) Q1 (by assumption) | exact L3 (by decide) har.small (by assumption) | exact L3 (by decide) Q1 (S9 (by decide) (by assumption) (O8 (by decide))) | exact L3 (by decide) A0B (O8 (by decide)) | assumption, by simp only [C6, D6]; omega⟩)
 refine V6 ?_
 refine A0T ?_
 refine H6 (outs := [rd br pb nb cb p2]) (rC rfl (A2 rfl rfl)) (by repeat (first | exact A0.nil | refine A0.cons Pk.here ?_ | refine A0.cons (Pk.there Pk.here) ?_ | refine A0.cons (Pk.there (Pk.there Pk.here)) ?_ | apply A0.drop)) ?_
 (exact ⟨p2, by omega, by omega, rfl, _, _, rfl, A2j _ _ _ ⟨by omega, by omega⟩ (by first | exact ⟨by omega, by omega⟩ | exact hkn), by first | exact O8 (by first | assumption | decide) | exact A0A (by decide) (by assumption) (by assumption) (by assumption) | exact S9 (by decide) (by assumption) (by assumption) | exact L3 (by decide) Q1 (by assumption) | exact L3 (by decide) har.small (by assumption) | exact L3 (by decide) Q1 (S9 (by decide) (by assumption) (O8 (by decide))) | exact L3 (by decide) A0B (O8 (by decide)) | assumption, by simp only [C6, D6]; omega⟩)
 refine sQ (qA rfl) rfl (sD (nS (cF rfl (tS (tR ?_)))))
 refine sB (qE rfl rfl) rfl rfl (fun h453 => ?_) (fun h453 => ?_)
 refine sQ (qA rfl) rfl (sD (nS (qT rfl (tS ?_))))
 (have hk45 : k = 4 ∨ k = 5 := (by omega); have hl2 := hops hk45; obtain ⟨m, rfl⟩ := hfu.pos (.inr hk45); have hmB : mB (m + 1) = 3 * mB m + 200 := rfl; have hgm := A1s m; obtain ⟨es9, hsl, hkl⟩ := hrt.kidsM; obtain ⟨b0, o0, q0, d0, hp0, hat0, hre0, hg0⟩ := hsl.kidTy hkl (i := 0) (by omega) (by omega); obtain ⟨b1, o1, q1, d1, hp1, hat1, hre1, hg1⟩ := hsl.kidTy hkl (i := 1) (by omega) (by omega); cases hp0; cases hp1; have hmem0 := List.getElem_mem (l := ks) (n := 0) (by omega); have hmem1 := List.getElem_mem (l := ks) (n := 1) (by omega); refine E1 E2 rfl ?_)
 refine J5 (i := 0) (l' := [tt,ff,ff,ff,ff,ff,ff,ff,ff,ff,ff,ff,ff,ff]) rfl D5 (qM rfl) rfl (by kernel_rfl) rfl rfl ?_
 refine aP 1 rfl (qM rfl) rfl ?_
 refine aP 2 rfl (B1 rfl) rfl ?_
 refine aL 3 rfl (C0 rfl rfl) rfl ?_
 refine aP 4 rfl (B3 (j := 0) rfl rfl rfl (by omega)) rfl ?_
 refine aL 5 rfl (A1 rfl rfl (hat0 _) rfl) rfl ?_
 refine aP 6 rfl (B1 rfl) rfl ?_
 refine aL 7 rfl (C0 rfl rfl) rfl ?_
 refine aP 8 rfl (B3 (j := 1) rfl rfl rfl (by omega)) rfl ?_
 refine aL 9 rfl (A1 rfl rfl (hat1 _) rfl) rfl ?_
 refine aP 10 rfl (qM rfl) rfl ?_
 refine aP 11 rfl (P5 rfl rfl (by omega) (by omega)) rfl ?_
 refine A3 12 ?_
 (have hcall := B0w br pb nb cb bs hnb m (ih m (by omega)) (depth - 1) ks[0] ks[1] (p2) _ pc nc cc _ _ (hfu.kid hmem1) (by omega) (by omega) (by omega) hx hre0 ⟨har.kid _ hmem0, by have := B3h (k := k) hmem0; omega⟩ hre1 hb (by omega); refine A0b (l' := [tt,tt,tt,tt,tt,tt,tt,tt,tt,tt,tt,tt,tt,ff]) rfl rfl hcall (Pk.perm (by repeat (first | exact Pk.here | apply Pk.there))) rfl rfl rfl (by repeat (first | exact A6.nil | apply A6.dep (by decide +kernel) | apply A6.im (by decide +kernel) hg0 (by repeat first | exact mH | apply mT) | apply A6.im (by decide +kernel) hg1 (by repeat first | exact mH | apply mT) | apply A6.blk (by decide +kernel) (by repeat (first | exact Pk.here | apply Pk.there)) (by repeat first | exact mH | apply mT))) (fun v Gn outs hlek hh => ?_); obtain ⟨pk, hpk1, hpk2, rfl, ek, ck, rfl, hrk, hsmk, hck⟩ := hh; obtain ⟨k1, k2, k3, k4, k5, k6, k7, k8, k9, rfl⟩ := hrk.nine; replace hx := hx.mono hlek; replace hb := hb.mono hlek; replace hrt := hrt.mono hlek;)
 refine A3 13 ?_
 refine R2 rfl rfl rfl rfl rfl hrk.one rfl rfl (by kernel_rfl) (by repeat first | exact Sw.here | apply Sw.there) (by rfl) ?_
 refine C5 (nS (tT (rB ?_)))
 refine A0T ?_
 refine H6 (outs := [rd br pb nb cb pk]) (rC rfl (A2 rfl rfl)) (by repeat (first | exact A0.nil | refine A0.cons Pk.here ?_ | refine A0.cons (Pk.there Pk.here) ?_ | refine A0.cons (Pk.there (Pk.there Pk.here)) ?_ | apply A0.drop)) ?_
 (exact ⟨pk, by omega, by omega, rfl, _, _, rfl, hrk, hsmk, by omega⟩)
 refine sQ (qA rfl) rfl (sD (nS (cF rfl (tS (tR ?_)))))
 refine sB (qE rfl rfl) rfl rfl (fun h489 => ?_) (fun h489 => ?_)
 refine sQ (qA rfl) rfl (sD (nS (qT rfl (tS ?_))))
 (have hk45 : k = 4 ∨ k = 5 := (by omega); have hl2 := hops hk45; obtain ⟨m, rfl⟩ := hfu.pos (.inr hk45); have hmB : mB (m + 1) = 3 * mB m + 200 := rfl; have hgm := A1s m; obtain ⟨es9, hsl, hkl⟩ := hrt.kidsM; obtain ⟨b0, o0, q0, d0, hp0, hat0, hre0, hg0⟩ := hsl.kidTy hkl (i := 0) (by omega) (by omega); obtain ⟨b1, o1, q1, d1, hp1, hat1, hre1, hg1⟩ := hsl.kidTy hkl (i := 1) (by omega) (by omega); cases hp0; cases hp1; have hmem0 := List.getElem_mem (l := ks) (n := 0) (by omega); have hmem1 := List.getElem_mem (l := ks) (n := 1) (by omega); refine E1 E2 rfl ?_)
 refine J5 (i := 0) (l' := [tt,ff,ff,ff,ff,ff,ff,ff,ff,ff,ff,ff,ff,ff,ff,ff,ff,ff,ff,ff,ff]) rfl D5 (qM rfl) rfl (by kernel_rfl) rfl rfl ?_
 refine aP 1 rfl (qM rfl) rfl ?_
 refine aP 2 rfl (B1 rfl) rfl ?_
 refine aL 3 rfl (C0 rfl rfl) rfl ?_
 refine aP 4 rfl (B3 (j := 0) rfl rfl rfl (by omega)) rfl ?_
 refine aL 5 rfl (A1 rfl rfl (hat0 _) rfl) rfl ?_
 refine aP 6 rfl (qM rfl) rfl ?_
 refine aP 7 rfl (P5 rfl rfl (by omega) (by omega)) rfl ?_
 refine aP 9 rfl (qM rfl) rfl ?_
 refine aP 10 rfl (qM rfl) rfl ?_
 refine aP 11 rfl (B1 rfl) rfl ?_
 refine aL 12 rfl (C0 rfl rfl) rfl ?_
 refine aP 13 rfl (B3 (j := 1) rfl rfl rfl (by omega)) rfl ?_
 refine aL 14 rfl (A1 rfl rfl (hat1 _) rfl) rfl ?_
 refine aP 15 rfl (qM rfl) rfl ?_
 refine aP 16 rfl (P5 rfl rfl (by omega) (by omega)) rfl ?_
 refine A3 8 ?_
 (have hcall := ih m (by omega) (depth - 1) ks[0] p2 _ pc nc cc _ (hfu.kid hmem0) (by omega) (by omega) (by omega) hx hre0 hb (by omega); refine A0b (l' := [tt,tt,tt,tt,tt,tt,tt,tt,tt,tt,tt,tt,tt,tt,tt,tt,tt,ff,ff,ff,ff]) rfl rfl hcall (Pk.perm (by repeat (first | exact Pk.here | apply Pk.there))) rfl rfl rfl (by repeat (first | exact A6.nil | apply A6.dep (by decide +kernel) | apply A6.im (by decide +kernel) hg0 (by repeat first | exact mH | apply mT) | apply A6.im (by decide +kernel) hg1 (by repeat first | exact mH | apply mT) | apply A6.blk (by decide +kernel) (by repeat (first | exact Pk.here | apply Pk.there)) (by repeat first | exact mH | apply mT))) (fun v Gn outs hles hh => ?_); obtain ⟨ps, hps1, hps2, rfl, es, cs, rfl, hrs, hsms, hcs⟩ := hh; obtain ⟨s1, s2, s3, s4, s5, s6, s7, s8, s9, rfl⟩ := hrs.nine; replace hre1 := hre1.mono hles; replace hx := hx.mono hles; replace hb := hb.mono hles; replace hrt := hrt.mono hles;)
 refine A3 17 ?_
 (have hcall := ih m (by omega) (depth - 1) ks[1] ps _ pc nc cc _ (hfu.kid hmem1) (by omega) (by omega) (by omega) hx hre1 hb (by omega); refine A0b (l' := [tt,tt,tt,tt,tt,tt,tt,tt,tt,tt,tt,tt,tt,tt,tt,tt,tt,tt,ff,ff,ff]) rfl rfl hcall (Pk.perm (by repeat (first | exact Pk.here | apply Pk.there))) rfl rfl rfl (by repeat (first | exact A6.nil | apply A6.dep (by decide +kernel) | apply A6.im (by decide +kernel) hg0 (by repeat first | exact mH | apply mT) | apply A6.im (by decide +kernel) hg1 (by repeat first | exact mH | apply mT) | apply A6.blk (by decide +kernel) (by repeat (first | exact Pk.here | apply Pk.there)) (by repeat first | exact mH | apply mT))) (fun v Gn outs hlew hh => ?_); obtain ⟨pw, hpw1, hpw2, rfl, ew, cw, rfl, hrw, hsmw, hcw⟩ := hh; obtain ⟨w1, w2, w3, w4, w5, w6, w7, w8, w9, rfl⟩ := hrw.nine; replace hrs := hrs.mono hlew; replace hx := hx.mono hlew; replace hb := hb.mono hlew; replace hrt := hrt.mono hlew;)
 refine A3 18 ?_
 (refine E4 rfl (C9 rfl rfl rfl (by omega) (by unfold maxLen; omega) rfl) rfl rfl ?_; rintro _ ⟨b517, rfl⟩)
 refine A3 19 ?_
 refine P6 rfl rfl ((A2v _ _ _ _ _)) rfl rfl rfl ?_
 refine A3 20 ?_
 refine R2 rfl rfl rfl rfl rfl rfl rfl rfl (by decide +kernel) (by repeat first | exact Sw.here | apply Sw.there) (by rfl) ?_
 refine C5 (nS ?_)
 (refine I5 (cs := [s1, s2, s3, s4, s5, s6, s7, s8, s9] ++ [w1, w2, w3, w4, w5, w6, w7, w8, w9]) (by repeat (first | exact Pk.here | apply Pk.there)) (fun G9 hle9 hsl9 hno9 => ?_); have hN := A4a (k := 10) (nm := ⟨⟨[]⟩⟩) ⟨by omega, by omega⟩ (hrs.mono hle9) (hrw.mono hle9) hsl9)
 refine tT (rB ?_)
 refine A0T ?_
 refine H6 (outs := [rd br pb nb cb pw]) (rC rfl (A2 rfl rfl)) (by repeat (first | exact A0.nil | refine A0.cons Pk.here ?_ | refine A0.cons (Pk.there Pk.here) ?_ | refine A0.cons (Pk.there (Pk.there Pk.here)) ?_ | apply A0.drop)) ?_
 (exact ⟨pw, by omega, by omega, rfl, _, _, rfl, hN, by first | exact O8 (by first | assumption | decide) | exact A0A (by decide) (by assumption) (by assumption) (by assumption) | exact S9 (by decide) (by assumption) (by assumption) | exact L3 (by decide) Q1 (by assumption) | exact L3 (by decide) har.small (by assumption) | exact L3 (by decide) Q1 (S9 (by decide) (by assumption) (O8 (by decide))) | exact L3 (by decide) A0B (O8 (by decide)) | assumption, by simp only [C6, D6]; omega⟩)
 refine sQ (qA rfl) rfl (sD (nS (cF rfl (tS (tR ?_)))))
 refine sB (qE rfl rfl) rfl rfl (fun h536 => ?_) (fun h536 => ?_)
 refine D3 ?_
 refine sB (X6 rfl rfl) rfl rfl (fun h545 => ?_) (fun h545 => ?_)
 refine sQ (qM rfl) rfl (sQ (qM rfl) rfl ?_)
 (have hkk1 : k = 1 := (by omega); refine I7 rfl (X9 _ br pb nb cb (p2) bs 3 hb hnb (by omega)) (Pk.perm (by repeat (first | exact Pk.here | apply Pk.there))) rfl rfl (fun v Gp outs hle548 hh => ?_); obtain ⟨rfl, rfl, j548, rfl, hj548, hk548⟩ := hh; have hpk23 := hj548)
 replace hb := hb.mono hle548
 replace hrt := hrt.mono hle548
 refine sB (qE rfl rfl) rfl rfl (fun h549 => ?_) (fun h549 => ?_)
 refine D4 ?_
 (have hcall := A3N br pb nb cb bs hnb 1 (p2 + 1) _ (by omega) hb (by have : dB (1 + 1) ≤ 6 := (by decide); omega); refine I7 rfl hcall (Pk.perm (by repeat (first | exact Pk.here | apply Pk.there))) rfl rfl (fun v Gn outs hleF hh => ?_); obtain ⟨pF, hpF1, hpF2, rfl, uF, cuF, rfl, hruF, husF, huhF⟩ := hh; have huaF := huhF.ar; obtain ⟨quF, duF, euF, rfl, _⟩ := hruF.open; have hdBF : dB (1 + 1) ≤ 6 := (by decide); replace hx := hx.mono hleF; replace hb := hb.mono hleF; replace hrt := hrt.mono hleF;)
 refine sQ (qM rfl) rfl ?_
 refine sP (P5 rfl rfl (by omega) (by omega)) rfl rfl ?_
 (obtain ⟨m, rfl⟩ := hfu.pos (.inl (by omega)); have hmB : mB (m + 1) = 3 * mB m + 200 := rfl; have hgm := A1s m; have hcall := ih m (by omega) (depth - 1) uF pF _ pc nc cc _ (hfu.sub (by omega) (huhF.le (by omega))) (by omega) (by omega) (by omega) hx hruF hb (by omega); refine I7 rfl hcall (Pk.perm (by repeat (first | exact Pk.here | apply Pk.there))) rfl rfl (fun v Gn outs hlex hh => ?_); obtain ⟨px, hpx1, hpx2, rfl, ex, cx, rfl, hrx, hsmx, hcx⟩ := hh; obtain ⟨x1, x2, x3, x4, x5, x6, x7, x8, x9, rfl⟩ := hrx.nine; replace hx := hx.mono hlex; replace hb := hb.mono hlex; replace hrt := hrt.mono hlex;)
 refine sS rfl rfl rfl rfl hrx.one rfl ?_
 refine sD (nS (tT (rS (rB ?_))))
 refine A0T ?_
 refine H6 (outs := [rd br pb nb cb px]) (rC rfl (A2 rfl rfl)) (by repeat (first | exact A0.nil | refine A0.cons Pk.here ?_ | refine A0.cons (Pk.there Pk.here) ?_ | refine A0.cons (Pk.there (Pk.there Pk.here)) ?_ | apply A0.drop)) ?_
 (exact ⟨px, by omega, by omega, rfl, _, _, rfl, hrx, hsmx, by omega⟩)
 refine D4 ?_
 (refine I7 rfl (X9 _ br pb nb cb (p2 + 1) bs 3 hb hnb (by omega)) (Pk.perm (by repeat (first | exact Pk.here | apply Pk.there))) rfl rfl (fun v Gp outs hle581 hh => ?_); obtain ⟨rfl, rfl, j581, rfl, hj581, hk581⟩ := hh; have hpk21 := hj581)
 replace hb := hb.mono hle581
 replace hrt := hrt.mono hle581
 refine sB (qE rfl rfl) rfl rfl (fun h582 => ?_) (fun h582 => ?_)
 refine sD (nS (qT rfl (tS (tR ?_))))
 refine H3 rfl ((A1k _)) rfl rfl ?_
 refine sQ (W1 rfl rfl) rfl ?_
 (refine L9 (C9 rfl rfl rfl (by omega) (by unfold maxLen; omega) rfl) rfl ?_; rintro _ ⟨b590, rfl⟩)
 refine sQ (W1 rfl rfl) rfl (F9 ?_)
 refine sD (nS ?_)
 (refine I5 (cs := [.int .i64 4, .string ⟨⟨[]⟩⟩, .int .i64 0, .int .i64 0, .slice none 0 0, .int .i64 0, .slice none 0 0, .int .i64 0, .slice none 0 0]) (by repeat (first | exact Pk.here | apply Pk.there)) (fun G9 hle9 hsl9 hno9 => ?_); have hN := A39 (k := 13) (nm := ⟨⟨[]⟩⟩) ⟨by omega, by omega⟩ (A0H _) (A2j G9 ⟨⟨[]⟩⟩ 0 (k := 4) ⟨by omega, by omega⟩ ⟨by omega, by omega⟩) hsl9)
 refine tT (rB ?_)
 refine A0T ?_
 refine H6 (outs := [rd br pb nb cb (p2 + 1 + 1)]) (rC rfl (A2 rfl rfl)) (by repeat (first | exact A0.nil | refine A0.cons Pk.here ?_ | refine A0.cons (Pk.there Pk.here) ?_ | refine A0.cons (Pk.there (Pk.there Pk.here)) ?_ | apply A0.drop)) ?_
 (exact ⟨(p2 + 1 + 1), by omega, by omega, rfl, _, _, rfl, hN, by first | exact O8 (by first | assumption | decide) | exact A0A (by decide) (by assumption) (by assumption) (by assumption) | exact S9 (by decide) (by assumption) (by assumption) | exact L3 (by decide) Q1 (by assumption) | exact L3 (by decide) har.small (by assumption) | exact L3 (by decide) Q1 (S9 (by decide) (by assumption) (O8 (by decide))) | exact L3 (by decide) A0B (O8 (by decide)) | assumption, by simp only [C6, D6]; omega⟩)
 refine sD (nS (cF rfl (tK (M8 ?_))))
 refine A4c (p2 + 1 + 1, Gp) (O1 (by repeat (first | exact E3.nil | refine E3.cons rfl ?_)) (by repeat (first | exact A0.refl | exact A0.nil | refine A0.cons (by repeat (first | exact Pk.here | apply Pk.there)) ?_ | apply A0.drop))) ⟨B6.refl _, by dsimp only; omega, by dsimp only; omega⟩
 refine J9 ?_
 (have hkk1 : k = 1 := (by omega); refine I7 rfl (X9 _ br pb nb cb (p2) bs 3 hb hnb (by omega)) (Pk.perm (by repeat (first | exact Pk.here | apply Pk.there))) rfl rfl (fun v Gp outs hle620 hh => ?_); obtain ⟨rfl, rfl, j620, rfl, hj620, hk620⟩ := hh; have hpk23 := hj620)
 replace hb := hb.mono hle620
 replace hrt := hrt.mono hle620
 refine sB (qE rfl rfl) rfl rfl (fun h621 => ?_) (fun h621 => ?_)
 refine sD (nS (qT rfl (tS (tR ?_))))
 refine H3 rfl ((A1k _)) rfl rfl ?_
 refine sQ (W1 rfl rfl) rfl ?_
 (refine L9 (C9 rfl rfl rfl (by omega) (by unfold maxLen; omega) rfl) rfl ?_; rintro _ ⟨b629, rfl⟩)
 refine sQ (W1 rfl rfl) rfl (F9 ?_)
 refine sD (nS ?_)
 (refine I5 (cs := [.int .i64 4, .string ⟨⟨[]⟩⟩, .int .i64 0, .int .i64 0, .slice none 0 0, .int .i64 0, .slice none 0 0, .int .i64 0, .slice none 0 0]) (by repeat (first | exact Pk.here | apply Pk.there)) (fun G9 hle9 hsl9 hno9 => ?_); have hN := A39 (k := 13) (nm := ⟨⟨[]⟩⟩) ⟨by omega, by omega⟩ (A0H _) (A2j G9 ⟨⟨[]⟩⟩ 0 (k := 4) ⟨by omega, by omega⟩ ⟨by omega, by omega⟩) hsl9)
 refine tT (rB ?_)
 refine A0T ?_
 refine H6 (outs := [rd br pb nb cb (p2 + 1)]) (rC rfl (A2 rfl rfl)) (by repeat (first | exact A0.nil | refine A0.cons Pk.here ?_ | refine A0.cons (Pk.there Pk.here) ?_ | refine A0.cons (Pk.there (Pk.there Pk.here)) ?_ | apply A0.drop)) ?_
 (exact ⟨(p2 + 1), by omega, by omega, rfl, _, _, rfl, hN, by first | exact O8 (by first | assumption | decide) | exact A0A (by decide) (by assumption) (by assumption) (by assumption) | exact S9 (by decide) (by assumption) (by assumption) | exact L3 (by decide) Q1 (by assumption) | exact L3 (by decide) har.small (by assumption) | exact L3 (by decide) Q1 (S9 (by decide) (by assumption) (O8 (by decide))) | exact L3 (by decide) A0B (O8 (by decide)) | assumption, by simp only [C6, D6]; omega⟩)
 refine sD (nS (cF rfl (tK (M8 ?_))))
 refine A4c (p2 + 1, Gp) (O1 (by repeat (first | exact E3.nil | refine E3.cons rfl ?_)) (by repeat (first | exact A0.refl | exact A0.nil | refine A0.cons (by repeat (first | exact Pk.here | apply Pk.there)) ?_ | apply A0.drop))) ⟨B6.refl _, by dsimp only; omega, by dsimp only; omega⟩
 refine sQ (qA rfl) rfl (sD (nS (cF rfl (tK (M8 ?_)))))
 refine A4c (p2, G2) (O1 (by repeat (first | exact E3.nil | refine E3.cons rfl ?_)) (by repeat (first | exact A0.refl | exact A0.nil | refine A0.cons (by repeat (first | exact Pk.here | apply Pk.there)) ?_ | apply A0.drop))) ⟨B6.refl _, by dsimp only; omega, by dsimp only; omega⟩
 (have hq := hcut1; rintro ⟨(p5 : Nat), G5⟩ ⟨hle5c, hp5a, hp5b⟩; simp only [] at hle5c hp5a hp5b ⊢; have hcut2 := hp5a; replace hx := hx.mono hle5c; replace hb := hb.mono hle5c; replace hrt := hrt.mono hle5c;)
 refine tS (tS (tR (sQ (qM rfl) rfl ?_)))
 refine sB (X6 rfl rfl) rfl rfl (fun h658 => ?_) (fun h658 => ?_)
 refine sQ (qM rfl) rfl (sQ (qM rfl) rfl ?_)
 (refine I7 rfl (X9 _ br pb nb cb (p5) bs 2 hb hnb (by omega)) (Pk.perm (by repeat (first | exact Pk.here | apply Pk.there))) rfl rfl (fun v Gp outs hle661 hh => ?_); obtain ⟨rfl, rfl, j661, rfl, hj661, hk661⟩ := hh; have hpk5 := hj661)
 replace hb := hb.mono hle661
 replace hrt := hrt.mono hle661
 refine sB (qE rfl rfl) rfl rfl (fun h662 => ?_) (fun h662 => ?_)
 refine D4 ?_
 refine H3 rfl ((A1n _)) rfl rfl ?_
 (have hz2 : J7 (.mk 2 []) = 0 := rfl; have hcall := A6q br pb nb cb bs hnb (.mk 2 []) (p5 + 1) _ _ (T9 (by decide) (by decide)) (N3 _ ⟨by omega, by omega⟩) hb (by omega); refine I7 rfl hcall (Pk.perm (by repeat (first | exact Pk.here | apply Pk.there))) rfl rfl (fun v Gn outs hleG hh => ?_); obtain ⟨pG, hpG1, hpG2, rfl, uG, cuG, rfl, hruG, huaG, husG, huhG⟩ := hh; obtain ⟨quG, duG, euG, rfl, _⟩ := hruG.open; replace hx := hx.mono hleG; replace hb := hb.mono hleG; replace hrt := hrt.mono hleG;)
 refine sQ (qM rfl) rfl ?_
 refine sP (P5 rfl rfl (by omega) (by omega)) rfl rfl ?_
 (obtain ⟨m, rfl⟩ := hfu.pos (.inl (by omega)); have hmB : mB (m + 1) = 3 * mB m + 200 := rfl; have hgm := A1s m; have hcall := ih m (by omega) (depth - 1) uG pG _ pc nc cc _ (hfu.sub (by omega) (huhG 4 (A2U 4 (by decide) (by decide)))) (by omega) (by omega) (by omega) hx hruG hb (by omega); refine I7 rfl hcall (Pk.perm (by repeat (first | exact Pk.here | apply Pk.there))) rfl rfl (fun v Gn outs hley hh => ?_); obtain ⟨py, hpy1, hpy2, rfl, ey, cy, rfl, hry, hsmy, hcy⟩ := hh; obtain ⟨y1, y2, y3, y4, y5, y6, y7, y8, y9, rfl⟩ := hry.nine; replace hx := hx.mono hley; replace hb := hb.mono hley; replace hrt := hrt.mono hley;)
 refine sQ (qM rfl) rfl (sQ (qM rfl) rfl ?_)
 refine H3 rfl ((A1n _)) rfl rfl ?_
 refine sQ (qM rfl) rfl ?_
 refine sP (P5 rfl rfl (by omega) (by omega)) rfl rfl ?_
 (have hcall := ih m (by omega) (depth - 1) (.mk 2 []) py _ pc nc cc _ (hfu.sub (by omega) (A2U 4 (by decide) (by decide))) (by omega) (by omega) (by omega) hx (N3 _ ⟨by omega, by omega⟩) hb (by omega); refine I7 rfl hcall (Pk.perm (by repeat (first | exact Pk.here | apply Pk.there))) rfl rfl (fun v Gn outs hlec hh => ?_); obtain ⟨pc, hpc1, hpc2, rfl, ec, cc, rfl, hrc, hsmc, hcc⟩ := hh; obtain ⟨c1, c2, c3, c4, c5, c6, c7, c8, c9, rfl⟩ := hrc.nine; replace hry := hry.mono hlec; replace hx := hx.mono hlec; replace hb := hb.mono hlec; replace hrt := hrt.mono hlec;)
 (refine L9 (C9 rfl rfl rfl (by omega) (by unfold maxLen; omega) rfl) rfl ?_; rintro _ ⟨b683, rfl⟩)
 refine H3 rfl ((A2v _ _ _ _ _)) rfl rfl ?_
 refine F9 ?_
 refine sD (nS ?_)
 (refine I5 (cs := [y1, y2, y3, y4, y5, y6, y7, y8, y9] ++ [c1, c2, c3, c4, c5, c6, c7, c8, c9]) (by repeat (first | exact Pk.here | apply Pk.there)) (fun G9 hle9 hsl9 hno9 => ?_); have hN := A4a (k := 7) (nm := ⟨⟨[]⟩⟩) ⟨by omega, by omega⟩ (hry.mono hle9) (hrc.mono hle9) hsl9)
 refine tT (rS ?_)
 refine H6 (outs := [rd br pb nb cb pc]) (rC rfl (A2 rfl rfl)) (by repeat (first | exact A0.nil | refine A0.cons Pk.here ?_ | refine A0.cons (Pk.there Pk.here) ?_ | refine A0.cons (Pk.there (Pk.there Pk.here)) ?_ | apply A0.drop)) ?_
 (exact ⟨pc, by omega, by omega, rfl, _, _, rfl, hN, by first | exact O8 (by first | assumption | decide) | exact A0A (by decide) (by assumption) (by assumption) (by assumption) | exact S9 (by decide) (by assumption) (by assumption) | exact L3 (by decide) Q1 (by assumption) | exact L3 (by decide) har.small (by assumption) | exact L3 (by decide) Q1 (S9 (by decide) (by assumption) (O8 (by decide))) | exact L3 (by decide) A0B (O8 (by decide)) | assumption, by simp only [C6, D6]; omega⟩)
 refine D4 ?_
 (refine L9 (C9 rfl rfl rfl (by omega) (by unfold maxLen; omega) rfl) rfl ?_; rintro _ ⟨b702, rfl⟩)
 (refine T6 (by repeat (first | exact Pk.here | apply Pk.there)) (fun G4 hle4 hsl4 _ => ?_); refine I7 rfl (A0c G4 br pb nb cb (p5 + 1) bs _ _ _ _ (hb.mono hle4) hnb (by omega) hsl4 (by decide)) (Pk.perm (by repeat (first | exact Pk.here | apply Pk.there))) rfl rfl (fun v G7 outs hle7 hh => ?_); obtain ⟨rfl, rfl, hv⟩ := hh; obtain ⟨kn, rfl, hkn⟩ : ∃ k, v = .int .i64 k ∧ E6 k := (by simp only [List.mem_cons, List.not_mem_nil, or_false] at hv; rcases hv with rfl | rfl | rfl | rfl | rfl <;> exact ⟨_, rfl, by unfold E6; omega⟩))
 refine H3 rfl ((A11 _ _)) rfl rfl ?_
 refine F9 ?_
 refine sD (nS (tT ?_))
 refine H6 (outs := [rd br pb nb cb (p5 + 1 + 1)]) (rC rfl (A2 rfl rfl)) (by repeat (first | exact A0.nil | refine A0.cons Pk.here ?_ | refine A0.cons (Pk.there Pk.here) ?_ | refine A0.cons (Pk.there (Pk.there Pk.here)) ?_ | apply A0.drop)) ?_
 (exact ⟨(p5 + 1 + 1), by omega, by omega, rfl, _, _, rfl, A2j _ _ _ ⟨by omega, by omega⟩ (by first | exact ⟨by omega, by omega⟩ | exact hkn), by first | exact O8 (by first | assumption | decide) | exact A0A (by decide) (by assumption) (by assumption) (by assumption) | exact S9 (by decide) (by assumption) (by assumption) | exact L3 (by decide) Q1 (by assumption) | exact L3 (by decide) har.small (by assumption) | exact L3 (by decide) Q1 (S9 (by decide) (by assumption) (O8 (by decide))) | exact L3 (by decide) A0B (O8 (by decide)) | assumption, by simp only [C6, D6]; omega⟩)
 refine J9 ?_
 (refine L9 (C9 rfl rfl rfl (by omega) (by unfold maxLen; omega) rfl) rfl ?_; rintro _ ⟨b724, rfl⟩)
 (refine T6 (by repeat (first | exact Pk.here | apply Pk.there)) (fun G4 hle4 hsl4 _ => ?_); refine I7 rfl (A0c G4 br pb nb cb p5 bs _ _ _ _ (hb.mono hle4) hnb (by omega) hsl4 (by decide)) (Pk.perm (by repeat (first | exact Pk.here | apply Pk.there))) rfl rfl (fun v G7 outs hle7 hh => ?_); obtain ⟨rfl, rfl, hv⟩ := hh; obtain ⟨kn, rfl, hkn⟩ : ∃ k, v = .int .i64 k ∧ E6 k := (by simp only [List.mem_cons, List.not_mem_nil, or_false] at hv; rcases hv with rfl | rfl | rfl | rfl | rfl <;> exact ⟨_, rfl, by unfold E6; omega⟩))
 refine H3 rfl ((A11 _ _)) rfl rfl ?_
 refine F9 ?_
 refine sD (nS (tT ?_))
 refine H6 (outs := [rd br pb nb cb (p5 + 1)]) (rC rfl (A2 rfl rfl)) (by repeat (first | exact A0.nil | refine A0.cons Pk.here ?_ | refine A0.cons (Pk.there Pk.here) ?_ | refine A0.cons (Pk.there (Pk.there Pk.here)) ?_ | apply A0.drop)) ?_
 (exact ⟨(p5 + 1), by omega, by omega, rfl, _, _, rfl, A2j _ _ _ ⟨by omega, by omega⟩ (by first | exact ⟨by omega, by omega⟩ | exact hkn), by first | exact O8 (by first | assumption | decide) | exact A0A (by decide) (by assumption) (by assumption) (by assumption) | exact S9 (by decide) (by assumption) (by assumption) | exact L3 (by decide) Q1 (by assumption) | exact L3 (by decide) har.small (by assumption) | exact L3 (by decide) Q1 (S9 (by decide) (by assumption) (O8 (by decide))) | exact L3 (by decide) A0B (O8 (by decide)) | assumption, by simp only [C6, D6]; omega⟩)
end Gw
end Go.Proofs.YtfpgncjeejickaaGreatDoor
