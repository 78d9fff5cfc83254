/-
  The program's insertion of casts. CastTypeOf. The program's InsertCasts, TypeOf. The program's RunTerm. The reference's typing, exactly. The reference's typing, exactly: meets, the types of nodes. The reference's typing, exactly: types of terms. The reference's evaluator: ground types, values, casts, replacing a name.
-/
import Derived.Test.YtebfignffjhnhaaGreatDoorKh5
import Derived.Test.YtebfignffjhnhaaGreatDoorKh4
import Derived.Test.YtebfignffjhnhaaGreatDoorKh2
import Derived.Test.YtebfignffjhnhaaGreatDoorKh3
set_option linter.unusedVariables false
set_option linter.unusedSimpArgs false
set_option maxHeartbeats 0
set_option maxRecDepth 100000
set_option synthInstance.maxSize 4000
set_option synthInstance.maxHeartbeats 0
namespace Go.Proofs.YtebfignffjhnhaaGreatDoor
open Go Go.RowKit
namespace Gw
def ElP (bx : Nat) (cx : Cx) (e : Tm) (l : Int) : IM → Value → List A6 → Prop := fun G' v outs => ∃ u cu t ct l', v = .tuple ⟨[.agg ⟨cu⟩, .agg ⟨ct⟩, .bool (M6 cx e l).isSome]⟩ ∧ outs = [.blk bx [.int .i64 l']] ∧ B1 G' u cu ∧ C3 G' t ct ∧ l ≤ l' ∧ l' + 1 ≤ l + (D3 e : Int) ∧ ∀ r, M6 cx e l = some r → r = (u, t, l')
theorem ElP.no {G : IM} {bx : Nat} {cx : Cx} {e : Tm} {l l' : Int} {u : Tm} {t : Ty} {cu ct : List Value} (h : M6 cx e l = none) (hu : B1 G u cu) (ht : C3 G t ct) (h1 : l ≤ l') (h2 : l' + 1 ≤ l + (D3 e : Int)) : ElP bx cx e l G (.tuple ⟨[.agg ⟨cu⟩, .agg ⟨ct⟩, .bool false]⟩) [.blk bx [.int .i64 l']] :=
 ⟨u, cu, t, ct, l', by rw [h]; rfl, rfl, hu, ht, h1, h2, fun r hr => by rw [h] at hr; cases hr⟩
theorem ElP.yes {G : IM} {bx : Nat} {cx : Cx} {e : Tm} {l l' : Int} {u : Tm} {t : Ty} {cu ct : List Value} (h : M6 cx e l = some (u, t, l')) (hu : B1 G u cu) (ht : C3 G t ct) (h1 : l ≤ l') (h2 : l' + 1 ≤ l + (D3 e : Int)) : ElP bx cx e l G (.tuple ⟨[.agg ⟨cu⟩, .agg ⟨ct⟩, .bool true]⟩) [.blk bx [.int .i64 l']] :=
 ⟨u, cu, t, ct, l', by rw [h]; rfl, rfl, hu, ht, h1, h2, fun r hr => by rw [h] at hr; cases hr; rfl⟩
section
variable {cx : Cx} {k : Int} {nm : ByteArray} {num : Int} {ty fr : Ty} {lb : Int} {ks us : List Tm} {h : List Ty} {l l' : Int}
theorem B6n (hL : M0 (O0 cx k nm ty) ks l = none) : M6 cx (.mk k nm num ty fr lb ks) l = none := by rw [M6, hL]
theorem B03 (hL : M0 (O0 cx k nm ty) ks l = some (us, h, l')) (hn : Y7 cx k nm ty h = none) : M6 cx (.mk k nm num ty fr lb ks) l = none := by rw [M6, hL]; simp only [Q7, hn]
theorem B6o {w : List Ty} {t : Ty} (hL : M0 (O0 cx k nm ty) ks l = some (us, h, l')) (hn : Y7 cx k nm ty h = some (w, t)) (hk : k = 13) : M6 cx (.mk k nm num ty fr lb ks) l = some ((H4 us h w l').1.getD 0 K7, t, (H4 us h w l').2) := by
 rw [M6, hL]; simp only [Q7, hn, if_pos hk]
theorem B04 {w : List Ty} {t : Ty} (hL : M0 (O0 cx k nm ty) ks l = some (us, h, l')) (hn : Y7 cx k nm ty h = some (w, t)) (hk : k ≠ 13) : M6 cx (.mk k nm num ty fr lb ks) l = some (.mk k nm num ty fr lb (H4 us h w l').1, t, (H4 us h w l').2) := by
 rw [M6, hL]; simp only [Q7, hn, if_neg hk]
end
theorem A2i {t : Ty} (h : H1 t = true) : F9 t := (A33 h).1
theorem B05 {us : List Tm} (h : 0 < us.length) : us.getD 0 K7 = us[0] := by rw [List.getD_eq_getElem?_getD, List.getElem?_eq_getElem h, Option.getD_some]
theorem B06 {Q : Prop} (h : Q := by (exact ElP.no (B03 hml (A5b hmw (b := false) (by assumption))) (P6 _) (O1 _ ⟨by omega, by omega⟩) (by omega) (by rw [hck]; omega))) : Q := h
theorem B07 (bx : Nat) : ∀ (e : Tm) (d : Int) (cx : Cx) (l0 : Int) (G : IM) (pc : Option Addr) (nc cc : Nat) (cells : List Value), M8 12 14 e d = true → (nc : Int) ≤ d → Z8 cx → S9 G cx pc nc cc → B1 G e cells → 0 ≤ l0 → l0 + (D3 e : Int) ≤ 1000000000 →
  Fn Tryz.prog 61 [.pointer (some ⟨bx, 0, none⟩), .slice pc nc cc, .agg ⟨cells⟩] [.blk bx [.int .i64 l0]] G (ElP bx cx e l0) := by
 refine Tm.ind fun k nm num ty fr lb ks ih d cx l0 G pc nc cc cells hv hnd hcv hx hr hl0 hlc => ?_
 have hr0 := hr
 have hone := hr.one
 obtain ⟨hv1, hv2, hv3, hv4⟩ := A0P hv
 have hvk := (A1n 12 14 ks _).1 hv4
 have har := (T9.1 hv3).1
 have hop := A3j har
 obtain ⟨hta, hts⟩ := A3k hv3
 have hkr : 1 ≤ k ∧ k ≤ 14 := A4f (by rw [har]; omega)
 have hcvX : Z8 (O0 cx k nm ty) := A38 hcv fun hk => (T9.1 hv3).2.2.2.2.2.1 (.inl hk)
 have hck : D3 (.mk k nm num ty fr lb ks) = E7 ks + 1 := Z1 ..
 rw [hck] at hlc
 obtain ⟨tk, tks⟩ := ty
 obtain ⟨fk, fks⟩ := fr
 obtain ⟨pt, ct, pf, cf, q, cq, es, rfl, hk, hnum, hlb, hty, hfr, hsl, hkl⟩ := hr.open9
 have hlen : ks.length ≤ 3 := by have := A1r k; omega
 obtain ⟨hx1, esx, hx2, hx3⟩ := id hx
 have hcl := B4X G pc nc cc esx hx2 (by omega)
 have hcnt0 := A4K ks
 refine C1 Tryz.func61 rfl Tryz.ntmps61 Tryz.results61 rfl ?_
 intro w0
 refine A3 ?_
 refine sE (C7 rfl rfl) rfl (fun b3 => ?_)
 refine sE (A7 rfl) rfl (fun b4 => ?_)
 refine sE (A7 rfl) rfl (fun b5 => ?_)
 refine J3 ?_
 (show J6 _ _ (.seq (.region 2 _ _) (.cond (.tmp 25) _ _)) _ _; refine A0k (fun (x : Option Addr × Nat × Nat × IM) => ⟨[(9, .slice x.1 x.2.1 x.2.2.1), (1, .slice pc nc cc), (0, .pointer (some ⟨bx, 0, none⟩)), (5, .pointer (some ⟨b3, 0, none⟩)), (6, .pointer (some ⟨b4, 0, none⟩)), (7, .pointer (some ⟨b5, 0, none⟩))], [.blk b5 [.int .i64 0, .slice none 0 0], .blk b4 [.int .i64 0, .string ⟨⟨[]⟩⟩, .int .i64 0, .int .i64 0, .slice none 0 0, .int .i64 0, .slice none 0 0, .int .i64 0, .slice none 0 0], .blk b3 [.int .i64 k, .string nm, .int .i64 num, .int .i64 tk, .slice pt tks.length ct, .int .i64 fk, .slice pf fks.length cf, .int .i64 lb, .slice q ks.length cq], .blk bx [.int .i64 l0]], x.2.2.2⟩) (fun x => C2 G x.2.2.2 ∧ S9 x.2.2.2 (O0 cx k nm (.mk tk tks)) x.1 x.2.1 x.2.2.1 ∧ x.2.1 ≤ nc + 1) ?_ ?_)
 ·refine B4 ?_
  refine sB (qE rfl rfl) rfl rfl (fun h21 => ?_) (fun h21 => ?_)
  ·refine B7 ?_
   refine E2 E4 rfl ?_
   refine J4 (i := 0) (l' := [tt,ff,ff,ff,ff,ff,ff,ff,ff,ff]) rfl D6 (qM rfl) rfl (by kernel_rfl) rfl rfl ?_
   refine aP 2 rfl (B9 rfl) rfl ?_
   refine aL 3 rfl (C8 rfl rfl) rfl ?_
   refine aP 4 rfl (B9 rfl) rfl ?_
   refine aL 5 rfl (A5 rfl rfl) rfl ?_
   refine aP 6 rfl (X0 rfl rfl) rfl ?_
   refine Q8 (j := 1) (j' := 7) (by kernel_rfl) ?_ ?_
   ·(refine A8s rfl rfl hcl rfl rfl rfl (fun v33 G33 outs33 hle33 h33 => ?_); obtain ⟨hG, p1, c1, rfl, rfl⟩ := h33; replace hG := hG.symm; subst hG)
    replace hr := hr.mono hle33
    replace hr0 := hr0.mono hle33
    replace hty := hty.mono hle33
    replace hfr := hfr.mono hle33
    replace hsl := hsl.mono hle33
    replace hkl := hkl.mono hle33
    replace hx2 := hx2.mono hle33
    refine A4 7 ?_
    (refine E5 rfl (D0 rfl rfl rfl (by omega) (by unfold maxLen; omega) rfl) rfl rfl ?_; rintro _ ⟨b35, rfl⟩)
    refine A4 8 ?_
    (refine R0 rfl rfl rfl rfl rfl rfl (fun _ _ => by repeat (first | exact Sw.here | apply Sw.there)) (M1 (by repeat first | exact mH | apply mT)) rfl (by simp [Value.oneCell']) (by unfold maxLen; omega) (by omega) rfl rfl (by repeat (first | exact B2.nil | apply B2.dep (by decide +kernel) | apply B2.blk (by decide +kernel) (by repeat (first | exact Pk.here | apply Pk.there)) (by repeat first | exact mH | apply mT))) (fun p5 c5 => ?_); refine A4B (cs := esx.flatten ++ [.string nm, .int .i64 tk, .slice pt tks.length ct]) (by repeat (first | exact Pk.here | apply Pk.there)) (fun Gf hleF hslF hnoF => ?_); have hxF := S9.snoc (nm := nm) (t := .mk tk tks) hx1 hx2.len hx2.all hx2.one hx3 hleF ⟨_, _, rfl, hty.mono hleF⟩ hslF)
    refine aP 9 rfl (qA rfl) rfl ?_
    refine aD' ?_
    refine P8 (p5, nc + 1, c5, Gf) (K2 (by repeat (first | exact D8.nil | refine D8.cons rfl ?_)) (by repeat (first | exact A0.refl | exact A0.nil | refine A0.cons (by repeat (first | exact Pk.here | apply Pk.there)) ?_ | apply A0.drop))) ⟨hleF, by (dsimp only; rw [O0, if_pos (by omega)]; exact hxF), by (dsimp only; omega)⟩
   ·(refine E5 rfl (D0 rfl rfl rfl (by omega) (by unfold maxLen; omega) rfl) rfl rfl ?_; rintro _ ⟨b41, rfl⟩)
    refine A4 1 ?_
    (refine A8s rfl rfl hcl rfl rfl rfl (fun v43 G43 outs43 hle43 h43 => ?_); obtain ⟨hG, p1, c1, rfl, rfl⟩ := h43; replace hG := hG.symm; subst hG)
    replace hr := hr.mono hle43
    replace hr0 := hr0.mono hle43
    replace hty := hty.mono hle43
    replace hfr := hfr.mono hle43
    replace hsl := hsl.mono hle43
    replace hkl := hkl.mono hle43
    replace hx2 := hx2.mono hle43
    refine A4 8 ?_
    (refine R0 rfl rfl rfl rfl rfl rfl (fun _ _ => by repeat (first | exact Sw.here | apply Sw.there)) (M1 (by repeat first | exact mH | apply mT)) rfl (by simp [Value.oneCell']) (by unfold maxLen; omega) (by omega) rfl rfl (by repeat (first | exact B2.nil | apply B2.dep (by decide +kernel) | apply B2.blk (by decide +kernel) (by repeat (first | exact Pk.here | apply Pk.there)) (by repeat first | exact mH | apply mT))) (fun p5 c5 => ?_); refine A4B (cs := esx.flatten ++ [.string nm, .int .i64 tk, .slice pt tks.length ct]) (by repeat (first | exact Pk.here | apply Pk.there)) (fun Gf hleF hslF hnoF => ?_); have hxF := S9.snoc (nm := nm) (t := .mk tk tks) hx1 hx2.len hx2.all hx2.one hx3 hleF ⟨_, _, rfl, hty.mono hleF⟩ hslF)
    refine aP 9 rfl (qA rfl) rfl ?_
    refine aD' ?_
    refine P8 (p5, nc + 1, c5, Gf) (K2 (by repeat (first | exact D8.nil | refine D8.cons rfl ?_)) (by repeat (first | exact A0.refl | exact A0.nil | refine A0.cons (by repeat (first | exact Pk.here | apply Pk.there)) ?_ | apply A0.drop))) ⟨hleF, by (dsimp only; rw [O0, if_pos (by omega)]; exact hxF), by (dsimp only; omega)⟩
  ·refine B4 ?_
   refine P8 (pc, nc, cc, G) (K2 (by repeat (first | exact D8.nil | refine D8.cons rfl ?_)) (by repeat (first | exact A0.refl | exact A0.nil | refine A0.cons (by repeat (first | exact Pk.here | apply Pk.there)) ?_ | apply A0.drop))) ⟨C2.refl _, by (dsimp only; rw [O0, if_neg (by omega)]; exact hx), by (dsimp only; omega)⟩
 ·(rintro ⟨p6, n6, c6, Gx⟩ ⟨hleX, hxX, hn6⟩; simp only [] at hleX hxX hn6 ⊢; replace hsl := hsl.mono hleX; replace hkl := hkl.mono hleX; replace hx := hx.mono hleX; replace hr0 := hr0.mono hleX; replace hty := hty.mono hleX; replace hfr := hfr.mono hleX)
  refine B7 ?_
  refine sE (A7 rfl) rfl (fun b58 => ?_)
  refine A06 ?_
  refine C0 ?_
  (refine Q9 37 9 ?_; refine Q9 34 2 ?_; refine J0 (fun (x : Nat × (Option Addr × Nat × List Tm × List (List Value)) × (Option Addr × Nat × List Ty × List (List Value)) × Int × IM) => ⟨[(40, .int .i64 x.1), (39, .int .i64 ks.length), (38, .slice q ks.length cq), (11, .slice x.2.2.1.1 x.1 x.2.2.1.2.1), (9, .slice p6 n6 c6), (1, .slice pc nc cc), (0, .pointer (some ⟨bx, 0, none⟩)), (5, .pointer (some ⟨b3, 0, none⟩)), (6, .pointer (some ⟨b4, 0, none⟩)), (7, .pointer (some ⟨b5, 0, none⟩)), (10, .pointer (some ⟨b58, 0, none⟩))], [.blk b58 [.int .i64 k, .string nm, .int .i64 num, .int .i64 tk, .slice pt tks.length ct, .int .i64 fk, .slice pf fks.length cf, .int .i64 lb, .slice x.2.1.1 x.1 x.2.1.2.1], .slc x.2.1.1 x.2.1.2.1 37 9 x.1 x.2.1.2.2.2.flatten, .slc x.2.2.1.1 x.2.2.1.2.1 34 2 x.1 x.2.2.1.2.2.2.flatten, .blk b5 [.int .i64 0, .slice none 0 0], .blk b4 [.int .i64 0, .string ⟨⟨[]⟩⟩, .int .i64 0, .int .i64 0, .slice none 0 0, .int .i64 0, .slice none 0 0, .int .i64 0, .slice none 0 0], .blk b3 [.int .i64 k, .string nm, .int .i64 num, .int .i64 tk, .slice pt tks.length ct, .int .i64 fk, .slice pf fks.length cf, .int .i64 lb, .slice q ks.length cq], .blk bx [.int .i64 x.2.2.2.1]], x.2.2.2.2⟩) (fun x => x.1 ≤ ks.length ∧ C2 Gx x.2.2.2.2 ∧ x.2.1.2.2.1.length = x.1 ∧ E1 x.2.2.2.2 x.2.1.2.2.1 x.2.1.2.2.2 ∧ x.2.2.1.2.2.1.length = x.1 ∧ C9 x.2.2.2.2 x.2.2.1.2.2.1 x.2.2.1.2.2.2 ∧ (∀ t ∈ x.2.2.1.2.2.1, F9 t) ∧ M0 (O0 cx k nm (.mk tk tks)) (ks.take x.1) l0 = some (x.2.1.2.2.1, x.2.2.1.2.2.1, x.2.2.2.1) ∧ l0 ≤ x.2.2.2.1 ∧ x.2.2.2.1 + x.1 ≤ l0 + (E7 (ks.take x.1) : Int)) (fun x => ks.length - x.1) (0, (none, 0, [], []), (none, 0, [], []), l0, Gx) ?_ ?_ ?_)
  ·(simp only [List.take_zero, V4]; exact (K2 (by repeat (first | exact D8.nil | refine D8.cons rfl ?_)) (by repeat (first | exact A0.refl | exact A0.nil | refine A0.cons (by repeat (first | exact Pk.here | apply Pk.there)) ?_ | apply A0.drop))))
  ·(exact ⟨by simp, C2.refl _, rfl, by simp [E1], rfl, by simp [C9], by simp, by simp [M0], Int.le_refl _, by simp [E7]⟩)
  ·(rintro ⟨i, ⟨pn, cn, us, es'⟩, ⟨pm, cm, ts, ess⟩, l, Gi⟩ ⟨hi, hle, hlu, hst, hlt, hstt, hat, hml, hl1, hl2⟩; simp only [] at hi hle hlu hst hlt hstt hat hml hl1 hl2 ⊢; replace hty := hty.mono hle; replace hfr := hfr.mono hle; replace hsl := hsl.mono hle; replace hkl := hkl.mono hle; replace hr0 := hr0.mono hle; replace hx := hx.mono hle; replace hxX := hxX.mono hle)
   refine A3 ?_
   refine sB (I8 rfl rfl) rfl rfl (fun h89 => ?_) (fun h89 => ?_)
   ·refine B5 ?_
    refine C0 ?_
    refine A3 ?_
    (obtain ⟨b, o, e, rfl, hl, hate, hre, hgb⟩ := hsl.kidTm hkl (i := i) (by omega) (by omega); have hon := hre.one; have hsc := A0M (ks := ks) (i := i) (by omega); have hsk := A0L (ks := ks) (i := i) (by omega); refine sP (B6 rfl rfl rfl (by omega)) rfl rfl ?_)
    refine sL (A2 rfl rfl (hate _) hl) rfl rfl ?_
    refine sE (A7 rfl) rfl (fun b102 => ?_)
    refine sS rfl rfl rfl hl hon rfl ?_ (hu := by exact D4 hl.symm)
    refine A8 ?_
    refine sL (A2 rfl rfl (A9 (by repeat first | exact mH | apply mT)) hl) rfl rfl ?_
    (refine J2 rfl (ih ks[i] (List.getElem_mem (by omega)) (d + 1) _ l Gi p6 n6 c6 _ (hvk i (by omega)) (by omega) hcvX hxX hre (by omega) (by omega)) (Pk.perm (by repeat (first | exact Pk.here | apply Pk.there))) rfl rfl (fun v G3 outs hle3 hh => ?_); obtain ⟨u, uc, t, tc, l3, rfl, rfl, hru, hrt, hl3, hl4, hu⟩ := hh; obtain ⟨v1, v2, v3, v4, v5, v6, v7, v8, v9, rfl⟩ := nine hru.len; obtain ⟨p3, c3, e3, rfl, _⟩ := hrt.open; have hlu9 := hru.len; have hou9 := hru.one; rcases hE : M6 (O0 cx k nm (Ty.mk tk tks)) ks[i] l with _ | ⟨u2, t2, l2⟩; rotate_left; have hue := hu _ hE; simp only [Prod.mk.injEq] at hue; obtain ⟨rfl, rfl, rfl⟩ := hue; rotate_left)
    ·refine B4 ?_
     refine sE (A7 rfl) rfl (fun b116 => ?_)
     refine sE (A7 rfl) rfl (fun b117 => ?_)
     refine sS rfl rfl rfl hlu9 hou9 rfl ?_ (hu := by exact D4 hlu9.symm)
     refine A59 ?_
     refine A2S (outs := [.blk bx [.int .i64 _]]) (rC rfl (A5 rfl rfl)) (rC rfl (A5 rfl rfl)) (rT rfl) (A0.cons (by repeat (first | exact Pk.here | apply Pk.there)) A0.nil) ?_
     (exact ElP.no (B6n (A61 (by omega) hml hE)) (P6 _) (O1 _ ⟨by omega, by omega⟩) (by omega) (by rw [hck]; omega))
    ·refine B4 ?_
     refine sE (A7 rfl) rfl (fun b153 => ?_)
     refine sE (A7 rfl) rfl (fun b154 => ?_)
     refine sS rfl rfl rfl hlu9 hou9 rfl ?_ (hu := by exact D4 hlu9.symm)
     refine J9 ?_
     refine E2 E4 rfl ?_
     refine J4 (i := 0) (l' := [tt,ff,ff,ff,ff,ff,ff,ff,ff,ff,ff,ff]) rfl D6 (B9 rfl) rfl (by kernel_rfl) rfl rfl ?_
     refine aL 1 rfl (C8 rfl rfl) rfl ?_
     refine aL 2 rfl (A5 rfl rfl) rfl ?_
     refine aP 5 rfl (qM rfl) rfl ?_
     refine aL 6 rfl (A5 rfl rfl) rfl ?_
     refine Q8 (j := 3) (j' := 7) (by kernel_rfl) ?_ ?_
     ·(refine E5 rfl (D0 rfl rfl rfl (by omega) (by unfold maxLen; omega) rfl) rfl rfl ?_; rintro _ ⟨b177, rfl⟩)
      refine Q8 (j := 4) (j' := 7) (by kernel_rfl) ?_ ?_
      ·(refine R0 rfl rfl rfl rfl rfl rfl (fun _ _ => by repeat (first | exact Sw.here | apply Sw.there)) (M1 (by repeat first | exact mH | apply mT)) rfl (fun u hu => List.all_eq_true.1 hou9 u hu) (by unfold maxLen; omega) (by omega) rfl rfl (by repeat (first | exact B2.nil | apply B2.dep (by decide +kernel) | apply B2.im (by decide +kernel) (by assumption) (by repeat first | exact mH | apply mT) | apply B2.blk (by decide +kernel) (by repeat (first | exact Pk.here | apply Pk.there)) (by repeat first | exact mH | apply mT) | apply B2.slc (by decide +kernel) (by repeat (first | exact Pk.here | apply Pk.there)) (by repeat first | exact mH | apply mT))) (fun pn' cn' => ?_))
       refine aP 9 rfl (B9 rfl) rfl ?_
       refine A4 7 ?_
       (refine E5 rfl (D0 rfl rfl rfl (by omega) (by unfold maxLen; omega) rfl) rfl rfl ?_; rintro _ ⟨b182, rfl⟩)
       refine A4 8 ?_
       (refine R0 rfl rfl rfl rfl rfl rfl (fun _ _ => by repeat (first | exact Sw.here | apply Sw.there)) (M1 (by repeat first | exact mH | apply mT)) rfl (by simp [Value.oneCell']) (by unfold maxLen; omega) (by omega) rfl rfl (by repeat (first | exact B2.nil | apply B2.dep (by decide +kernel) | apply B2.im (by decide +kernel) (by assumption) (by repeat first | exact mH | apply mT) | apply B2.blk (by decide +kernel) (by repeat (first | exact Pk.here | apply Pk.there)) (by repeat first | exact mH | apply mT) | apply B2.slc (by decide +kernel) (by repeat (first | exact Pk.here | apply Pk.there)) (by repeat first | exact mH | apply mT))) (fun pm' cm' => ?_))
       refine A4 10 ?_
       refine oS rfl rfl rfl rfl rfl rfl rfl rfl ?_
       refine aP 11 rfl (qA rfl) rfl ?_
       refine B4 ?_
       refine sP (H5 rfl rfl (by omega) (by omega)) rfl rfl ?_
       refine A3 ?_
       refine I1 (i + 1, (pn', cn', us ++ [u2], es' ++ [[v1, v2, v3, v4, v5, v6, v7, v8, v9]]), (pm', cm', ts ++ [t2], ess ++ [[.int .i64 t2.k, .slice p3 t2.ks.length c3]]), l2, G3) ?_ ?_ ?_
       ·(simp only [H6]; exact D2)
       ·(dsimp only; exact ⟨by omega, hle.trans hle3, by simp [hlu], E1.snoc (hst.mono hle3) hru, by simp [hlt], C9.snoc (hstt.mono hle3) hrt, A3i hat (A2i ((A3s ks[i] (d + 1) _ l (hvk i (by omega)) hcvX).1 _ _ _ hE).2), A39 (by omega) hml hE, by omega, by omega⟩)
       ·(show ks.length - (i + 1) < ks.length - i; omega)
      ·(refine E5 rfl (D0 rfl rfl rfl (by omega) (by unfold maxLen; omega) rfl) rfl rfl ?_; rintro _ ⟨b199, rfl⟩)
       refine A4 4 ?_
       (refine R0 rfl rfl rfl rfl rfl rfl (fun _ _ => by repeat (first | exact Sw.here | apply Sw.there)) (M1 (by repeat first | exact mH | apply mT)) rfl (fun u hu => List.all_eq_true.1 hou9 u hu) (by unfold maxLen; omega) (by omega) rfl rfl (by repeat (first | exact B2.nil | apply B2.dep (by decide +kernel) | apply B2.im (by decide +kernel) (by assumption) (by repeat first | exact mH | apply mT) | apply B2.blk (by decide +kernel) (by repeat (first | exact Pk.here | apply Pk.there)) (by repeat first | exact mH | apply mT) | apply B2.slc (by decide +kernel) (by repeat (first | exact Pk.here | apply Pk.there)) (by repeat first | exact mH | apply mT))) (fun pn' cn' => ?_))
       refine aP 9 rfl (B9 rfl) rfl ?_
       refine A4 8 ?_
       (refine R0 rfl rfl rfl rfl rfl rfl (fun _ _ => by repeat (first | exact Sw.here | apply Sw.there)) (M1 (by repeat first | exact mH | apply mT)) rfl (by simp [Value.oneCell']) (by unfold maxLen; omega) (by omega) rfl rfl (by repeat (first | exact B2.nil | apply B2.dep (by decide +kernel) | apply B2.im (by decide +kernel) (by assumption) (by repeat first | exact mH | apply mT) | apply B2.blk (by decide +kernel) (by repeat (first | exact Pk.here | apply Pk.there)) (by repeat first | exact mH | apply mT) | apply B2.slc (by decide +kernel) (by repeat (first | exact Pk.here | apply Pk.there)) (by repeat first | exact mH | apply mT))) (fun pm' cm' => ?_))
       refine A4 10 ?_
       refine oS rfl rfl rfl rfl rfl rfl rfl rfl ?_
       refine aP 11 rfl (qA rfl) rfl ?_
       refine B4 ?_
       refine sP (H5 rfl rfl (by omega) (by omega)) rfl rfl ?_
       refine A3 ?_
       refine I1 (i + 1, (pn', cn', us ++ [u2], es' ++ [[v1, v2, v3, v4, v5, v6, v7, v8, v9]]), (pm', cm', ts ++ [t2], ess ++ [[.int .i64 t2.k, .slice p3 t2.ks.length c3]]), l2, G3) ?_ ?_ ?_
       ·(simp only [H6]; exact D2)
       ·(dsimp only; exact ⟨by omega, hle.trans hle3, by simp [hlu], E1.snoc (hst.mono hle3) hru, by simp [hlt], C9.snoc (hstt.mono hle3) hrt, A3i hat (A2i ((A3s ks[i] (d + 1) _ l (hvk i (by omega)) hcvX).1 _ _ _ hE).2), A39 (by omega) hml hE, by omega, by omega⟩)
       ·(show ks.length - (i + 1) < ks.length - i; omega)
     ·(refine E5 rfl (D0 rfl rfl rfl (by omega) (by unfold maxLen; omega) rfl) rfl rfl ?_; rintro _ ⟨b219, rfl⟩)
      refine A4 3 ?_
      (refine E5 rfl (D0 rfl rfl rfl (by omega) (by unfold maxLen; omega) rfl) rfl rfl ?_; rintro _ ⟨b221, rfl⟩)
      refine A4 4 ?_
      (refine R0 rfl rfl rfl rfl rfl rfl (fun _ _ => by repeat (first | exact Sw.here | apply Sw.there)) (M1 (by repeat first | exact mH | apply mT)) rfl (fun u hu => List.all_eq_true.1 hou9 u hu) (by unfold maxLen; omega) (by omega) rfl rfl (by repeat (first | exact B2.nil | apply B2.dep (by decide +kernel) | apply B2.im (by decide +kernel) (by assumption) (by repeat first | exact mH | apply mT) | apply B2.blk (by decide +kernel) (by repeat (first | exact Pk.here | apply Pk.there)) (by repeat first | exact mH | apply mT) | apply B2.slc (by decide +kernel) (by repeat (first | exact Pk.here | apply Pk.there)) (by repeat first | exact mH | apply mT))) (fun pn' cn' => ?_))
      refine aP 9 rfl (B9 rfl) rfl ?_
      refine A4 8 ?_
      (refine R0 rfl rfl rfl rfl rfl rfl (fun _ _ => by repeat (first | exact Sw.here | apply Sw.there)) (M1 (by repeat first | exact mH | apply mT)) rfl (by simp [Value.oneCell']) (by unfold maxLen; omega) (by omega) rfl rfl (by repeat (first | exact B2.nil | apply B2.dep (by decide +kernel) | apply B2.im (by decide +kernel) (by assumption) (by repeat first | exact mH | apply mT) | apply B2.blk (by decide +kernel) (by repeat (first | exact Pk.here | apply Pk.there)) (by repeat first | exact mH | apply mT) | apply B2.slc (by decide +kernel) (by repeat (first | exact Pk.here | apply Pk.there)) (by repeat first | exact mH | apply mT))) (fun pm' cm' => ?_))
      refine A4 10 ?_
      refine oS rfl rfl rfl rfl rfl rfl rfl rfl ?_
      refine aP 11 rfl (qA rfl) rfl ?_
      refine B4 ?_
      refine sP (H5 rfl rfl (by omega) (by omega)) rfl rfl ?_
      refine A3 ?_
      refine I1 (i + 1, (pn', cn', us ++ [u2], es' ++ [[v1, v2, v3, v4, v5, v6, v7, v8, v9]]), (pm', cm', ts ++ [t2], ess ++ [[.int .i64 t2.k, .slice p3 t2.ks.length c3]]), l2, G3) ?_ ?_ ?_
      ·(simp only [H6]; exact D2)
      ·(dsimp only; exact ⟨by omega, hle.trans hle3, by simp [hlu], E1.snoc (hst.mono hle3) hru, by simp [hlt], C9.snoc (hstt.mono hle3) hrt, A3i hat (A2i ((A3s ks[i] (d + 1) _ l (hvk i (by omega)) hcvX).1 _ _ _ hE).2), A39 (by omega) hml hE, by omega, by omega⟩)
      ·(show ks.length - (i + 1) < ks.length - i; omega)
   ·refine J9 ?_
    (obtain rfl : i = ks.length := (by omega); have hk14 : k ≠ 14 := hv2; rw [List.take_length] at hml hl2; refine R9 (cs := ess.flatten) (by repeat (first | exact Pk.here | apply Pk.there)) (fun G3 hle3 hsl3 hno3 => ?_); have hst3 := hstt.mono hle3; have hslU : D7 G3 pm ks.length cm 2 ess := D7.of hsl3 (by rw [hst3.len, hlt]) hst3.all (fun e he => (hst3.each e he).2); refine D9 rfl (B4V cx k nm num (.mk tk tks) (.mk fk fks) lb ks ts G3 pc nc cc _ pm ks.length cm ess (hx.mono hle3) har hlt.symm hk14 hta (hr0.mono hle3) hslU hst3 hat) rfl rfl (fun v G4 hle4 hh => ?_); obtain ⟨pw, nw, cw, ew, w, wc, wt, rfl, hnw, hslw, hstw, hrt, hw⟩ := hh; obtain ⟨p3, c3, e3, rfl, _⟩ := hrt.open; replace hst3 := hst3.mono hle4; replace hslU := hslU.mono hle4; have hle34 := hle3.trans hle4; replace hst := hst.mono hle34; replace hty := hty.mono hle34; replace hfr := hfr.mono hle34; rcases hmw : L9 cx k nm (Ty.mk tk tks) ts with _ | ⟨w2, t2⟩; rotate_left; have hwe := hw _ hmw; simp only [Prod.mk.injEq] at hwe; obtain ⟨rfl, rfl⟩ := hwe; have hwl := B4W (by rw [hlt]; exact hop) hkr hk14 hmw; have hcl2 := A1s us ts w2 l; rcases Nat.eq_zero_or_pos ks.length with h0 | h0; rotate_left; rotate_left)
    ·refine B4 ?_
     refine sE (A7 rfl) rfl (fun b260 => ?_)
     refine A58 ?_
     (refine F0 (cs := es'.flatten) (by repeat (first | exact Pk.here | apply Pk.there)) (fun G8 hle8 hsl8 hno8 => ?_); have hst8 := hst.mono hle8)
     refine A3 ?_
     refine A2S (outs := [.blk bx [.int .i64 _]]) (rC rfl (A5 rfl rfl)) (rC rfl (A5 rfl rfl)) (rT rfl) (A0.cons (by repeat (first | exact Pk.here | apply Pk.there)) A0.nil) ?_
     (exact ElP.no (B03 hml (B4Y hmw)) (P6 _) (O1 _ ⟨by omega, by omega⟩) (by omega) (by rw [hck]; omega))
    ·refine B4 ?_
     refine sE (A7 rfl) rfl (fun b297 => ?_)
     refine K5 ?_
     refine F4 rfl ((A3U _ _ _ hrt)) rfl rfl (fun h310 => ?_) (fun h310 => ?_)
     ·refine I7 ?_
      refine C0 ?_
      (have h0' : ks.length = 0 := h0; refine J0 (fun (_ : Nat) => ⟨[(86, .int .i64 0), (85, .int .i64 nw), (84, .slice pw nw cw), (11, .slice pm ks.length cm), (1, .slice pc nc cc), (0, .pointer (some ⟨bx, 0, none⟩)), (5, .pointer (some ⟨b3, 0, none⟩)), (6, .pointer (some ⟨b4, 0, none⟩)), (7, .pointer (some ⟨b5, 0, none⟩)), (10, .pointer (some ⟨b58, 0, none⟩)), (18, .pointer (some ⟨b297, 0, none⟩))], [.blk b297 [.int .i64 t2.k, .slice p3 t2.ks.length c3], .blk b58 [.int .i64 k, .string nm, .int .i64 num, .int .i64 tk, .slice pt tks.length ct, .int .i64 fk, .slice pf fks.length cf, .int .i64 lb, .slice pn ks.length cn], .slc pn cn 37 9 ks.length es'.flatten, .blk b5 [.int .i64 0, .slice none 0 0], .blk b4 [.int .i64 0, .string ⟨⟨[]⟩⟩, .int .i64 0, .int .i64 0, .slice none 0 0, .int .i64 0, .slice none 0 0, .int .i64 0, .slice none 0 0], .blk b3 [.int .i64 k, .string nm, .int .i64 num, .int .i64 tk, .slice pt tks.length ct, .int .i64 fk, .slice pf fks.length cf, .int .i64 lb, .slice q ks.length cq], .blk bx [.int .i64 l]], G4⟩) (fun _ => True) (fun i => i) 0 ?_ ?_ ?_)
      ·exact D2
      ·trivial
      ·(rintro (i0 : Nat) _)
       refine A3 ?_
       refine sP (A1I rfl rfl (by omega)) rfl rfl ?_
       refine J9 ?_
       refine sP (J8 rfl rfl (by omega)) rfl rfl ?_
       refine A8 ?_
       refine E2 E4 rfl ?_
       refine L4 (i := 0) (l' := [tt,ff,ff,ff,ff]) rfl D6 (A5 rfl rfl) rfl (by kernel_rfl) rfl rfl ?_
       refine aL 1 rfl (A5 rfl rfl) rfl ?_
       refine A4 2 ?_
       refine oS rfl rfl rfl rfl rfl rfl rfl rfl ?_
       refine A4 3 ?_
       refine oS rfl rfl rfl rfl rfl rfl rfl rfl ?_
       refine aP 4 rfl (qA rfl) rfl ?_
       refine A3 ?_
       (refine F0 (cs := es'.flatten) (by repeat (first | exact Pk.here | apply Pk.there)) (fun G8 hle8 hsl8 hno8 => ?_); have hst8 := hst.mono hle8)
       refine tT ?_
       refine A2S (outs := [.blk bx [.int .i64 _]]) (rC rfl (A5 rfl rfl)) (rC rfl (A5 rfl rfl)) (rT rfl) (A0.cons (by repeat (first | exact Pk.here | apply Pk.there)) A0.nil) ?_
       (obtain rfl : w2 = [] := List.length_eq_zero_iff.1 (by omega); have hne : k ≠ 13 := (fun h => by have := hop.2.2 (.inr (.inr (.inr h))); omega); have hel := B04 (num := num) (fr := .mk fk fks) (lb := lb) hml (A5b hmw (b := true) (by assumption)) hne; rw [V4] at hel; exact ElP.yes hel (B1.put hk hnum hlb (hty.mono hle8) (hfr.mono hle8) (by rw [hlu]) (D7.of hsl8 (by rw [hst8.len, hlu]) hst8.all (fun e he => (hst8.each e he).2)) hst8) (hrt.mono hle8) (by omega) (by rw [hck]; omega))
     ·refine J9 ?_
      (refine F0 (cs := es'.flatten) (by repeat (first | exact Pk.here | apply Pk.there)) (fun G8 hle8 hsl8 hno8 => ?_); have hst8 := hst.mono hle8)
      refine A3 ?_
      refine A2S (outs := [.blk bx [.int .i64 _]]) (rC rfl (A5 rfl rfl)) (rC rfl (A5 rfl rfl)) (rT rfl) (A0.cons (by repeat (first | exact Pk.here | apply Pk.there)) A0.nil) ?_
      exact B06
    ·(refine A34 (cs := es'.flatten) (by repeat (first | exact Pk.here | apply Pk.there)) h0 (fun bc C hpe hnc hcm => ?_); subst hpe; refine sQ (qM rfl) rfl ?_)
     refine B7 ?_
     refine sE (A7 rfl) rfl (fun b392 => ?_)
     refine K5 ?_
     refine F4 rfl ((A3U _ _ _ hrt)) rfl rfl (fun h405 => ?_) (fun h405 => ?_)
     ·refine I7 ?_
      refine C0 ?_
      (have h0' := h0; refine J0 (fun (x : Nat × List (List Value) × IM) => ⟨[(86, .int .i64 x.1), (85, .int .i64 nw), (84, .slice pw nw cw), (11, .slice pm ks.length cm), (1, .slice pc nc cc), (0, .pointer (some ⟨bx, 0, none⟩)), (5, .pointer (some ⟨b3, 0, none⟩)), (6, .pointer (some ⟨b4, 0, none⟩)), (7, .pointer (some ⟨b5, 0, none⟩)), (10, .pointer (some ⟨b58, 0, none⟩)), (18, .pointer (some ⟨b392, 0, none⟩))], [.blk b392 [.int .i64 t2.k, .slice p3 t2.ks.length c3], .blk b58 [.int .i64 k, .string nm, .int .i64 num, .int .i64 tk, .slice pt tks.length ct, .int .i64 fk, .slice pf fks.length cf, .int .i64 lb, .slice (some ⟨bc, 0, none⟩) ks.length cn], .blk bc (x.2.1.flatten ++ C), .blk b5 [.int .i64 0, .slice none 0 0], .blk b4 [.int .i64 0, .string ⟨⟨[]⟩⟩, .int .i64 0, .int .i64 0, .slice none 0 0, .int .i64 0, .slice none 0 0, .int .i64 0, .slice none 0 0], .blk b3 [.int .i64 k, .string nm, .int .i64 num, .int .i64 tk, .slice pt tks.length ct, .int .i64 fk, .slice pf fks.length cf, .int .i64 lb, .slice q ks.length cq], .blk bx [.int .i64 (H4 us ts (w2.take x.1) l).2]], x.2.2⟩) (fun x => x.1 ≤ nw ∧ C2 G4 x.2.2 ∧ E1 x.2.2 (H4 us ts (w2.take x.1) l).1 x.2.1) (fun x => nw - x.1) (0, es', G4) ?_ ?_ ?_)
      ·(simp only [List.take_zero, V4]; exact (K2 (by repeat (first | exact D8.nil | refine D8.cons rfl ?_)) (by repeat (first | exact A0.refl | exact A0.nil | refine A0.cons (by repeat (first | exact Pk.here | apply Pk.there)) ?_ | apply A0.drop))))
      ·(exact ⟨Nat.zero_le _, C2.refl _, by simp only [List.take_zero, V4]; exact hst⟩)
      ·(rintro ⟨j, es2, G6⟩ ⟨hj, hle6, hst2⟩; simp only [] at hj hle6 hst2 ⊢; replace hslw := hslw.mono hle6; replace hstw := hstw.mono hle6; replace hslU := hslU.mono hle6; replace hst3 := hst3.mono hle6; replace hty := hty.mono hle6; replace hfr := hfr.mono hle6; replace hrt := hrt.mono hle6; have hall2 := hst2.all; have hle2s := hst2.len; rw [A1W] at hle2s)
       refine A3 ?_
       refine sB (I8 rfl rfl) rfl rfl (fun h428 => ?_) (fun h428 => ?_)
       ·refine B5 ?_
        refine C0 ?_
        refine B7 ?_
        (have hjw : j < w2.length := (by omega); obtain ⟨b5w, o5w, q5, d5, hp5, hat, hrw, hgb⟩ := hslw.kidTy hstw (i := j) (by omega) (by omega); cases hp5; refine sP (B6 rfl rfl rfl (by omega)) rfl rfl ?_)
        refine sL (A2 rfl rfl (hat _) rfl) rfl rfl ?_
        refine sE (A7 rfl) rfl (fun b442 => ?_)
        refine B4 ?_
        (have hjw2 := hjw; obtain ⟨b0, o0, q0, d0, hp0, hat0, hre0, hg0⟩ := hslU.kidTy hst3 (i := j) (by omega) (by omega); cases hp0; obtain ⟨m1, m2, _⟩ := A4a us ts w2 l j hjw (by omega) (by omega); obtain ⟨m3, m4⟩ := B0j (us := us) (h := ts) (w := w2) (l := l) hjw (by omega) (by omega); obtain ⟨hE1, hE2⟩ := hst2.at2 (i := j) (by omega) (by omega); rw [m2] at hE2; have hE3 := hE2.len; have hE4 := hE2.one; have hcj := A1s us ts (w2.take j) l; refine E2 E4 rfl ?_)
        refine J4 (i := 0) (l' := [tt,ff,ff,ff,ff,ff,ff,ff,ff,ff,ff,ff,ff,ff,ff,ff,ff]) rfl D6 (B9 rfl) rfl (by kernel_rfl) rfl rfl ?_
        refine aL 1 rfl (C8 rfl rfl) rfl ?_
        refine aP 2 rfl (qM rfl) rfl ?_
        refine aP 3 rfl (qM rfl) rfl ?_
        refine aP 4 rfl (B9 rfl) rfl ?_
        refine aL 5 rfl (C8 rfl rfl) rfl ?_
        refine aP 6 rfl (qM rfl) rfl ?_
        refine aP 7 rfl (B6 (j := j) rfl rfl rfl (by omega)) rfl ?_
        refine aL 8 rfl (A2 rfl rfl (A44 (es := es2) (by repeat first | exact mH | apply mT) (by omega) hall2) hE3) rfl ?_
        refine aP 9 rfl (qM rfl) rfl ?_
        refine aP 10 rfl (qM rfl) rfl ?_
        refine aP 11 rfl (B6 (j := j) rfl rfl rfl (by omega)) rfl ?_
        refine aL 12 rfl (A2 rfl rfl (hat0 _) rfl) rfl ?_
        refine aL 13 rfl (A5 rfl rfl) rfl ?_
        refine A4 14 ?_
        (refine Y9 (l' := [tt,tt,tt,tt,tt,tt,tt,tt,tt,tt,tt,tt,tt,tt,tt,ff,ff]) rfl rfl (B6m bx us[j] ts[j] w2[j] (H4 us ts (w2.take j) l).2 G6 _ _ _ (by omega) hE2 hre0 hrw) (Pk.perm (by repeat (first | exact Pk.here | apply Pk.there))) rfl rfl rfl (by repeat (first | exact B2.nil | apply B2.dep (by decide +kernel) | apply B2.im (by decide +kernel) (by assumption) (by repeat first | exact mH | apply mT) | apply B2.blk (by decide +kernel) (by repeat (first | exact Pk.here | apply Pk.there)) (by repeat first | exact mH | apply mT) | apply B2.slc (by decide +kernel) (by repeat (first | exact Pk.here | apply Pk.there)) (by repeat first | exact mH | apply mT))) (fun v G7 outs hle7 hh => ?_); obtain ⟨uc, rfl, rfl, hru⟩ := hh; rw [← m4]; have hlu9 := hru.len; have hou9 := hru.one)
        refine aP 15 rfl (B6 (j := j) rfl rfl rfl (by omega)) rfl ?_
        refine A4 16 ?_
        refine R5 rfl rfl rfl rfl hlu9 hou9 rfl rfl (by kernel_rfl) (by repeat first | exact Sw.here | apply Sw.there) (by exact A35 (by omega) hall2 hlu9) ?_
        refine B4 ?_
        refine sP (H5 rfl rfl (by omega) (by omega)) rfl rfl ?_
        refine A3 ?_
        refine I1 (j + 1, es2.set j uc, G7) ?_ ?_ ?_
        ·(simp only [List.take_zero, V4]; exact (K2 (by repeat (first | exact D8.nil | refine D8.cons rfl ?_)) (by repeat (first | exact A0.refl | exact A0.nil | refine A0.cons (by repeat (first | exact Pk.here | apply Pk.there)) ?_ | apply A0.drop))))
        ·(dsimp only; exact ⟨by omega, hle6.trans hle7, by rw [m3]; exact E1.set (hst2.mono hle7) hru⟩)
        ·(show nw - (j + 1) < nw - j; omega)
       ·refine J9 ?_
        refine sB (qE rfl rfl) rfl rfl (fun h492 => ?_) (fun h492 => ?_)
        ·refine B4 ?_
         (have hq13 : k = 13 := (by omega); have hl13 := hop.2.2 (.inr (.inr (.inr hq13))); have hjw : j = w2.length := (by omega); rw [hjw, List.take_length] at hst2; have hm0 := A1W us ts w2 l; obtain ⟨hE1, hE2⟩ := hst2.at2 (i := 0) (by omega) (by omega); have hE3 := hE2.len; have hE4 := hE2.one; refine E2 E4 rfl ?_)
         refine J4 (i := 0) (l' := [tt,ff,ff,ff,ff,ff,ff,ff]) rfl D6 (B9 rfl) rfl (by kernel_rfl) rfl rfl ?_
         refine aL 1 rfl (C8 rfl rfl) rfl ?_
         refine aP 2 rfl (B6 (j := 0) rfl rfl rfl (by omega)) rfl ?_
         refine aL 3 rfl (A2 rfl rfl (A44 (es := es2) (by repeat first | exact mH | apply mT) (by omega) hall2) hE3) rfl ?_
         refine aL 4 rfl (A5 rfl rfl) rfl ?_
         refine A4 5 ?_
         refine oS rfl rfl rfl rfl hE3 hE4 rfl rfl ?_ (hu := by exact D4 hE3.symm)
         refine A4 6 ?_
         refine oS rfl rfl rfl rfl rfl rfl rfl rfl ?_
         refine aP 7 rfl (qA rfl) rfl ?_
         refine A3 ?_
         (refine A2v (bs := [(bc, es2.flatten ++ C)]) (Pk.perm (by repeat (first | exact Pk.here | apply Pk.there))) (fun hn9 hd9 hle9 => ?_))
         refine A3 ?_
         refine A2S (outs := [.blk bx [.int .i64 _]]) (rC rfl (A2 rfl rfl (A9 (by repeat first | exact mH | apply mT)) hE3)) (rC rfl (A5 rfl rfl)) (rT rfl) (A0.cons (by repeat (first | exact Pk.here | apply Pk.there)) A0.nil) ?_
         (have hel := B6o (num := num) (fr := .mk fk fks) (lb := lb) hml (A5b hmw (b := true) (by assumption)) hq13; rw [B05 (by omega)] at hel; rw [hjw, List.take_length]; exact ElP.yes hel (hE2.mono hle9) (hrt.mono hle9) (by omega) (by rw [hck]; omega))
        ·refine A8 ?_
         refine E2 E4 rfl ?_
         refine L4 (i := 0) (l' := [tt,ff,ff,ff,ff]) rfl D6 (A5 rfl rfl) rfl (by kernel_rfl) rfl rfl ?_
         refine aL 1 rfl (A5 rfl rfl) rfl ?_
         refine A4 2 ?_
         refine oS rfl rfl rfl rfl rfl rfl rfl rfl ?_
         refine A4 3 ?_
         refine oS rfl rfl rfl rfl rfl rfl rfl rfl ?_
         refine aP 4 rfl (qA rfl) rfl ?_
         refine A3 ?_
         (refine A2v (bs := [(bc, es2.flatten ++ C)]) (Pk.perm (by repeat (first | exact Pk.here | apply Pk.there))) (fun hn9 hd9 hle9 => ?_))
         refine tT ?_
         refine A2S (outs := [.blk bx [.int .i64 _]]) (rC rfl (A5 rfl rfl)) (rC rfl (A5 rfl rfl)) (rT rfl) (A0.cons (by repeat (first | exact Pk.here | apply Pk.there)) A0.nil) ?_
         (have hjw : j = w2.length := (by omega); rw [hjw, List.take_length] at hst2; have hst9 := hst2.mono hle9; have hel := B04 (num := num) (fr := .mk fk fks) (lb := lb) hml (A5b hmw (b := true) (by assumption)) (show k ≠ 13 by omega); rw [hjw, List.take_length]; have hm0 := A1W us ts w2 l; exact ElP.yes hel (B1.put hk hnum hlb (hty.mono hle9) (hfr.mono hle9) (by rw [hm0, hlu]) (D7.of (Sl.of_blk (A := []) (by rw [A09 hst9.all, hst9.len, hm0, hlu]) (by omega) hcm (Wi.in hn9 List.mem_cons_self)) (by rw [hst9.len, hm0, hlu]) hst9.all (fun e he => (hst9.each e he).2)) hst9) (hrt.mono hle9) (by omega) (by rw [hck]; omega))
     ·refine K0 ?_
      refine A2S (outs := [.blk bx [.int .i64 _]]) (rC rfl (A5 rfl rfl)) (rC rfl (A5 rfl rfl)) (rT rfl) (A0.cons (by repeat (first | exact Pk.here | apply Pk.there)) A0.nil) ?_
      exact B06
def A1i (r : Option (Tm × Ty)) : IM → Value → List A6 → Prop := K1 fun G' v => ∃ cu ct, v = .tuple ⟨[.agg ⟨cu⟩, .agg ⟨ct⟩, .bool r.isSome]⟩ ∧ B1 G' (r.getD (K7, B3)).1 cu ∧ C3 G' (r.getD (K7, B3)).2 ct
theorem A1i.no {G : IM} {r : Option (Tm × Ty)} {cu ct : List Value} (h : r = none) (hu : B1 G K7 cu) (ht : C3 G B3 ct) : A1i r G (.tuple ⟨[.agg ⟨cu⟩, .agg ⟨ct⟩, .bool false]⟩) [] := by subst h; exact ⟨rfl, cu, ct, rfl, hu, ht⟩
theorem A1i.yes {G : IM} {r : Option (Tm × Ty)} {u : Tm} {t : Ty} {cu ct : List Value} (h : r = some (u, t)) (hu : B1 G u cu) (ht : C3 G t ct) : A1i r G (.tuple ⟨[.agg ⟨cu⟩, .agg ⟨ct⟩, .bool true]⟩) [] := by subst h; exact ⟨rfl, cu, ct, rfl, hu, ht⟩
theorem B08 {e : Tm} (h : N9 e = false) : U4 e = none := by unfold U4; rw [if_neg (by rw [h]; decide)]
theorem A7r {e : Tm} (h : N9 e = true) (h2 : M6 [] e 0 = none) : U4 e = none := by unfold U4; rw [if_pos h, h2]
theorem A7s {e u : Tm} {t : Ty} {l : Int} (h : N9 e = true) (h2 : M6 [] e 0 = some (u, t, l)) : U4 e = some (u, t) := by unfold U4; rw [if_pos h, h2]
theorem B6p (e : Tm) (G : IM) (cells : List Value) (hr : B1 G e cells) : Fn Tryz.prog 25 [.agg ⟨cells⟩] [] G (A1i (U4 e)) := by
 have hRl := hr.len
 have hRo := hr.one
 have hV := A3V e G cells hr
 have hno := @B08 e
 have hnn := @A7r e
 have hso := @A7s e
 refine C1 Tryz.func25 rfl Tryz.ntmps25 Tryz.results25 rfl ?_
 intro w0
 refine A3 ?_
 refine sE (C7 rfl rfl) rfl (fun b3 => ?_)
 refine sE (A7 rfl) rfl (fun b4 => ?_)
 refine sE (A7 rfl) rfl (fun b5 => ?_)
 refine A8 ?_
 refine sL (A2 rfl rfl (A9 (by repeat first | exact mH | apply mT)) hRl) rfl rfl ?_
 refine F4 rfl (hV) rfl rfl (fun h13 => ?_) (fun h13 => ?_)
 refine E0 ?_
 refine sE (C7 rfl rfl) rfl (fun b23 => ?_)
 refine sL (A2 rfl rfl (A9 (by repeat first | exact mH | apply mT)) hRl) rfl rfl ?_
 focus (have htv : N9 e = true := (by assumption); obtain ⟨hsh, hcn⟩ := (A0C e).1 htv; refine J2 rfl (B07 _ e 1 [] 0 G none 0 0 _ hsh (by omega) A3r (S9.nil G) hr (by omega) (by omega)) (Pk.perm (by repeat (first | exact Pk.here | apply Pk.there))) rfl rfl (fun v G1 outs hle1 hh => ?_); obtain ⟨u, uc, t, tc, l3, rfl, rfl, hru, hrt, hl3, hl4, hu⟩ := hh; have hul := hru.len; have huo := hru.one; obtain ⟨p3, c3, e3, rfl, _⟩ := hrt.open; have hnn := hnn htv; have hso := @hso u t l3 htv; rcases hE : M6 [] e 0 with _ | ⟨u2, t2, l2⟩; rotate_left; have hue := hu _ hE; simp only [Prod.mk.injEq] at hue; obtain ⟨rfl, rfl, rfl⟩ := hue; have hso := hso hE; obtain ⟨hg1, hg2, hg3⟩ := A5t hso; rotate_left; simp only [Option.isSome]; rotate_left; simp only [Option.isSome])
 refine B4 ?_
 refine sE (A7 rfl) rfl (fun b30 => ?_)
 refine sE (A7 rfl) rfl (fun b31 => ?_)
 refine sS rfl rfl rfl hul huo rfl ?_ (hu := by exact D4 hul.symm)
 refine I7 ?_
 refine E2 E4 rfl ?_
 refine L4 (i := 0) (l' := [tt,ff,ff,ff,ff,ff,ff]) rfl D6 (A2 rfl rfl (A9 (by repeat first | exact mH | apply mT)) hul) rfl (by kernel_rfl) rfl rfl ?_
 refine aL 2 rfl (A5 rfl rfl) rfl ?_
 refine A4 1 ?_
 (refine H7 rfl rfl (A6E _ _ _ (A5m hg1) hru) rfl rfl rfl (fun v G2 hle2 hh => ?_); obtain ⟨cs2, F2, rfl, hs2, hn2⟩ := hh; have hwl := hs2.R.len; have hwo := hs2.R.one; have hr2 := hs2.R.mono (C5.le G2 G1); replace hrt := hrt.mono hle2)
 refine A4 3 ?_
 (refine H7 rfl rfl (A1Q _ _ _ (A2i hg3).small hrt) rfl rfl rfl (fun v G3 hle3 hh => ?_); obtain ⟨cs3, F3, rfl, hs3, hn3⟩ := hh; obtain ⟨p4, c4, rfl, _⟩ := hs3.open; have hr3 := hs3.R.mono (C5.le G3 G2); replace hr2 := hr2.mono hle3)
 refine A4 4 ?_
 refine oS rfl rfl rfl rfl hwl hwo rfl rfl ?_ (hu := by exact D4 hwl.symm)
 refine A4 5 ?_
 refine oS rfl rfl rfl rfl rfl rfl rfl rfl ?_
 refine aP 6 rfl (qA rfl) rfl ?_
 refine B7 ?_
 refine D5 (rC rfl (A2 rfl rfl (A9 (by repeat first | exact mH | apply mT)) hwl)) (rC rfl (A5 rfl rfl)) (rT rfl) ?_
 (exact A1i.yes hso hr2 hr3)
 refine B4 ?_
 refine sE (A7 rfl) rfl (fun b69 => ?_)
 refine sE (A7 rfl) rfl (fun b70 => ?_)
 refine sS rfl rfl rfl hul huo rfl ?_ (hu := by exact D4 hul.symm)
 refine A06 ?_
 refine D5 (rC rfl (A5 rfl rfl)) (rC rfl (A5 rfl rfl)) (rT rfl) ?_
 (exact A1i.no (hnn hE) (P6 _) (O1 _ ⟨by omega, by omega⟩))
 refine I7 ?_
 refine D5 (rC rfl (A5 rfl rfl)) (rC rfl (A5 rfl rfl)) (rT rfl) ?_
 (exact A1i.no (hno (by assumption)) (P6 _) (O1 _ ⟨by omega, by omega⟩))
def Q3 (e : Tm) : Option Ty := match U4 e with | some (_, t) => some t | none => none
theorem B6q (e : Tm) (G : IM) (cells : List Value) (htv : N9 e = true) (hr : B1 G e cells) : Fn Tryz.prog 206 [.slice none 0 0, .agg ⟨cells⟩] [] G (Y0 (Q3 e) G) := by
 have hRl := hr.len
 have hRo := hr.one
 have hnn := @A7r e htv
 have hso := fun u t l => @A7s e u t l htv
 obtain ⟨hsh, hcn⟩ := (A0C e).1 htv
 refine C1 Tryz.func206 rfl Tryz.ntmps206 Tryz.results206 rfl ?_
 intro w0
 refine A3 ?_
 refine sE (C7 rfl rfl) rfl (fun b3 => ?_)
 refine sE (A7 rfl) rfl (fun b4 => ?_)
 refine A8 ?_
 refine sE (C7 rfl rfl) rfl (fun b11 => ?_)
 refine E3 ?_
 refine sL (A2 rfl rfl (A9 (by repeat first | exact mH | apply mT)) hRl) rfl rfl ?_
 focus (refine J2 rfl (B07 _ e 1 [] 0 G none 0 0 _ hsh (by omega) A3r (S9.nil G) hr (by omega) (by omega)) (Pk.perm (by repeat (first | exact Pk.here | apply Pk.there))) rfl rfl (fun v G1 outs hle1 hh => ?_); obtain ⟨u, uc, t, tc, l3, rfl, rfl, hru, hrt, hl3, hl4, hu⟩ := hh; have hul := hru.len; have huo := hru.one; obtain ⟨p3, c3, e3, rfl, _⟩ := hrt.open; have hso := hso u t l3; rcases hE : M6 [] e 0 with _ | ⟨u2, t2, l2⟩; rotate_left; have hue := hu _ hE; simp only [Prod.mk.injEq] at hue; obtain ⟨rfl, rfl, rfl⟩ := hue; have hso := hso hE; rotate_left; simp only [Option.isSome]; rotate_left; simp only [Option.isSome])
 refine B4 ?_
 refine sE (A7 rfl) rfl (fun b19 => ?_)
 refine sE (A7 rfl) rfl (fun b20 => ?_)
 refine sS rfl rfl rfl hul huo rfl ?_ (hu := by exact D4 hul.symm)
 refine J7 ?_
 refine E9 (rC rfl (A5 rfl rfl)) (rT rfl) ?_
 (exact Y0.yes hrt rfl (by unfold Q3; rw [hso]))
 refine B4 ?_
 refine sE (A7 rfl) rfl (fun b41 => ?_)
 refine sE (A7 rfl) rfl (fun b42 => ?_)
 refine sS rfl rfl rfl hul huo rfl ?_ (hu := by exact D4 hul.symm)
 refine J7 ?_
 refine E9 (rC rfl (A5 rfl rfl)) (rT rfl) ?_
 (exact Y0.no hrt rfl (by unfold Q3; rw [hnn hE]))
theorem B6r (fid : FuncId) (us cs : List Value) (G : IM) : Fn Tryz.prog 247 [.slice none 0 0, .func (.func fid) ⟨us⟩ ⟨cs⟩] [] G (I5 (.int .i64 (-1)) G) := by
 refine C1 Tryz.func247 rfl Tryz.ntmps247 Tryz.results247 rfl ?_
 intro w0
 refine J7 ?_
 refine C0 ?_
 refine J0 (fun (_ : Nat) => ⟨[(8, .int .i64 0), (7, .int .i64 0)], [], G⟩) (fun _ => True) (fun i => i) 0 ?_ ?_ ?_
 ·exact D2
 ·trivial
 ·(rintro (i0 : Nat) _)
  refine A3 ?_
  refine sP (A1I rfl rfl (by omega)) rfl rfl ?_
  refine K0 ?_
  trivial
theorem B6s (fid : FuncId) (us cs : List Value) (G : IM) : Fn Tryz.prog 232 [.slice none 0 0, .func (.func fid) ⟨us⟩ ⟨cs⟩] [] G (I5 (.bool false) G) := by
 refine C1 Tryz.func232 rfl Tryz.ntmps232 Tryz.results232 rfl ?_
 intro w0
 refine E0 ?_
 refine E8 rfl (B6r fid us cs G) rfl rfl ?_
 refine sP (A4z rfl rfl (by omega)) rfl rfl ?_
 refine B0 ?_
 (exact ⟨rfl, rfl, rfl⟩)
theorem B6t (G : IM) : Fn Tryz.prog 205 [.slice none 0 0] [] G (I5 (.bool true) G) := by
 refine C1 Tryz.func205 rfl Tryz.ntmps205 Tryz.results205 rfl ?_
 intro w0
 refine E0 ?_
 refine sP (A8j rfl rfl (by omega)) rfl rfl ?_
 refine A3 ?_
 refine E8 rfl ((B6s _ _ _ _)) rfl rfl ?_
 refine B5 ?_
 (exact ⟨rfl, rfl, rfl⟩)
theorem B09 {e : Tm} (h : N9 e = false) : Q3 e = none := by unfold Q3; rw [B08 h]
theorem B6u {e : Tm} {t : Ty} (h : Q3 e = some t) : H1 t = true := by
 unfold Q3 at h
 split at h
 ·rename_i u t' hi; cases h; exact (A5t hi).2.2
 ·cases h
theorem B6v (e : Tm) (G : IM) (cells : List Value) (hr : B1 G e cells) : Fn Tryz.prog 160 [.slice none 0 0, .agg ⟨cells⟩] [] G (Y0 (Q3 e) G) := by
 have hRl := hr.len
 have hRo := hr.one
 refine C1 Tryz.func160 rfl Tryz.ntmps160 Tryz.results160 rfl ?_
 intro w0
 refine A3 ?_
 refine sE (C7 rfl rfl) rfl (fun b3 => ?_)
 refine sE (A7 rfl) rfl (fun b4 => ?_)
 refine B5 ?_
 refine E8 rfl ((B6t _)) rfl rfl ?_
 refine A3 ?_
 refine sL (A2 rfl rfl (A9 (by repeat first | exact mH | apply mT)) hRl) rfl rfl ?_
 refine F4 rfl ((A3V e _ _ hr)) rfl rfl (fun h16 => ?_) (fun h16 => ?_)
 refine J3 ?_
 refine sL (A2 rfl rfl (A9 (by repeat first | exact mH | apply mT)) hRl) rfl rfl ?_
 focus (refine D9 rfl (B6q e G cells (by assumption) hr) rfl rfl (fun v G1 hle1 hh => ?_); obtain ⟨cu, u, rfl, hru, hu⟩ := hh; obtain ⟨p1, c1, e1, rfl, _⟩ := hru.open; rcases hct : Q3 e with _ | u2; rotate_left; obtain rfl := hu u2 hct; have hgv := B6u hct; rotate_left; simp only [Option.isSome]; rotate_left; simp only [Option.isSome])
 refine B7 ?_
 refine sE (A7 rfl) rfl (fun b32 => ?_)
 refine Q5 ?_
 (refine D9 rfl (A1Q _ G1 _ (A2i hgv).small hru) rfl rfl (fun v G2 hle2 hh => ?_); obtain ⟨cs2, F2, rfl, hs2, hn2⟩ := hh; obtain ⟨p2, c2, rfl, _⟩ := hs2.open; have hr2 := hs2.R.mono (C5.le G2 G1))
 refine B0 ?_
 refine E9 (rC rfl (A5 rfl rfl)) (rT rfl) ?_
 (exact Y0.yes hr2 rfl (by first | exact hct | rfl))
 refine B7 ?_
 refine sE (A7 rfl) rfl (fun b61 => ?_)
 refine A0z ?_
 refine E9 (rC rfl (A5 rfl rfl)) (rT rfl) ?_
 (exact Y0.no (u := B3) (O1 _ ⟨by omega, by omega⟩) rfl (by first | exact hct | rfl))
 refine J9 ?_
 refine E9 (rC rfl (A5 rfl rfl)) (rT rfl) ?_
 (exact Y0.no (u := B3) (O1 _ ⟨by omega, by omega⟩) rfl (B09 (by assumption)))
theorem B6w (e : Tm) (G : IM) (cells : List Value) (hr : B1 G e cells) : Fn Tryz.prog 118 [.agg ⟨cells⟩] [] G (Y0 (Q3 e) G) := by
 have hRl := hr.len
 have hRo := hr.one
 refine C1 Tryz.func118 rfl Tryz.ntmps118 Tryz.results118 rfl ?_
 intro w0
 refine A3 ?_
 refine sE (C7 rfl rfl) rfl (fun b3 => ?_)
 refine sE (A7 rfl) rfl (fun b4 => ?_)
 refine B0 ?_
 refine sL (A2 rfl rfl (A9 (by repeat first | exact mH | apply mT)) hRl) rfl rfl ?_
 (refine D9 rfl (B6v e G cells hr) rfl rfl (fun v G1 hle1 hh => ?_); obtain ⟨cu, u, rfl, hru, hu⟩ := hh; obtain ⟨p1, c1, e1, rfl, _⟩ := hru.open)
 refine B5 ?_
 refine E9 (rC rfl (A5 rfl rfl)) (rT rfl) ?_
 (exact ⟨rfl, _, u, rfl, hru, hu⟩)
def O2 (e : Tm) (fuel : Int) : ByteArray × Int × Int := match U4 e with
 | none => (⟨⟨[]⟩⟩, 3, 0)
 | some (u, _) => if (S8 u fuel).2.1 = 0 then (A0a (S8 u fuel).1, 0, 0) else (⟨⟨[]⟩⟩, (S8 u fuel).2.1, (S8 u fuel).2.2)
def B1a (r : ByteArray × Int × Int) (G : IM) : IM → Value → List A6 → Prop := K1 fun _ v => v = .tuple ⟨[.string r.1, .int .i64 r.2.1, .int .i64 r.2.2]⟩
theorem A7t {e : Tm} {fuel : Int} (h : U4 e = none) : O2 e fuel = (⟨⟨[]⟩⟩, 3, 0) := by unfold O2; rw [h]
theorem A5v {e u : Tm} {t : Ty} {fuel : Int} (h : U4 e = some (u, t)) (h0 : (S8 u fuel).2.1 = 0) : O2 e fuel = (A0a (S8 u fuel).1, 0, 0) := by unfold O2; rw [h]; simp only [h0, if_true]
theorem A4g {e u : Tm} {t : Ty} {fuel : Int} (h : U4 e = some (u, t)) (h0 : (S8 u fuel).2.1 ≠ 0) : O2 e fuel = (⟨⟨[]⟩⟩, (S8 u fuel).2.1, (S8 u fuel).2.2) := by unfold O2; rw [h]; simp only [if_neg h0]
theorem B1b : ∀ (n : Nat) (e : Tm), (P3 n e).2.1 = 0 → O4 (P3 n e).1 = true ∧ H2 (P3 n e).1 = true ∧ (P3 n e).2.2.1 = 0
 | 0, e, h => by rw [A7c] at h ⊢; exact stepv e h
 | n + 1, e, h => by
  by_cases h1 : (H3 e).2.1 = 1
  ·rw [A7d h1] at h ⊢; exact B1b n _ h
  ·rw [A7e h1] at h ⊢; exact stepv e h
where
 stepv (e : Tm) (h : (H3 e).2.1 = 0) : O4 (H3 e).1 = true ∧ H2 (H3 e).1 = true ∧ (H3 e).2.2 = 0 := by
  cases h1 : O4 e with
  | false => rw [A5n h1] at h; simp at h
  | true =>
   cases h2 : H2 e with
   | true => rw [A5o h1 h2]; exact ⟨h1, h2, rfl⟩
   | false =>
    by_cases h3 : (H8 e).2.1 = 1
    ·cases h4 : O4 (H8 e).1 with
     | false => rw [A5q h1 h2 h3 h4] at h; simp at h
     | true => rw [A5r h1 h2 h3 h4] at h; simp at h
    ·rw [A5p h1 h2 h3] at h
     exact absurd h (stp_ne0 e)
 stp_ne0 : ∀ (e : Tm), (H8 e).2.1 ≠ 0 := by
  refine Tm.ind fun k nm num ty fr lb ks ih => ?_
  rw [H8]
  cases hL : V2 (if k = 9 then 1 else ks.length) ks with
  | none => exact red_ne0 k ty fr lb ks
  | some p =>
   obtain ⟨us, c, l⟩ := p
   have := stpL_ne0 ks ih _ us c l hL
   simp only
   by_cases hc : c = 1
   ·rw [if_pos hc]; simp
   ·rw [if_neg hc]; exact this
 red_ne0 (k : Int) (ty fr : Ty) (lb : Int) (ks : List Tm) : (N7 k ty fr lb ks).2.1 ≠ 0 := by
  unfold N7 R4
  repeat' split
  all_goals simp
 stpL_ne0 (ks : List Tm) (ih : ∀ t ∈ ks, (H8 t).2.1 ≠ 0) : ∀ (n : Nat) us c l, V2 n ks = some (us, c, l) → c ≠ 0 := by
  induction ks with
  | nil => intro n us c l h; cases n <;> simp [V2] at h
  | cons t ts iht =>
   intro n us c l h
   cases n with
   | zero => simp [V2] at h
   | succ n =>
    rw [A5l] at h
    by_cases hv : H2 t = true
    ·rw [if_pos hv] at h
     split at h
     ·rename_i us' c' l' h'
      simp only [Option.some.injEq, Prod.mk.injEq] at h
      obtain ⟨_, rfl, _⟩ := h
      exact iht (fun u hu => ih u (List.mem_cons_of_mem _ hu)) n _ _ _ h'
     ·cases h
    ·rw [if_neg hv] at h
     simp only [Option.some.injEq, Prod.mk.injEq] at h
     obtain ⟨_, rfl, _⟩ := h
     exact ih t List.mem_cons_self
theorem B1c {e : Tm} {fuel : Int} (h : (S8 e fuel).2.1 = 0) : O4 (S8 e fuel).1 = true ∧ H2 (S8 e fuel).1 = true ∧ (S8 e fuel).2.2 = 0 := by
 cases hf : O7 fuel 0 300 with
 | false => rw [A7h hf] at h; simp at h
 | true =>
  by_cases h1 : (P3 fuel.toNat e).2.1 = 1
  ·rw [B0J hf h1] at h; simp at h
  ·rw [B0K hf h1] at h ⊢; exact B1b _ _ h
theorem B1d {Q : Prop} (h : Q := by (obtain rfl : c = 0 := (by omega); subst he3; exact ⟨rfl, by rw [hyv rfl]⟩)) : Q := h
theorem A3y (e : Tm) (fuel : Int) (G : IM) (cells : List Value) (hT : X1 G) (hr : B1 G e cells) : Fn Tryz.prog 23 [.agg ⟨cells⟩, .int .i64 fuel] [] G (B1a (O2 e fuel) G) := by
 have hRl := hr.len
 have hRo := hr.one
 have hno := @A7t e fuel
 have hyv := fun u t => @A5v e u t fuel
 have hyn := fun u t => @A4g e u t fuel
 refine C1 Tryz.func23 rfl Tryz.ntmps23 Tryz.results23 rfl ?_
 intro w0
 refine A3 ?_
 refine sE (C7 rfl rfl) rfl (fun b3 => ?_)
 refine B5 ?_
 refine sL (A2 rfl rfl (A9 (by repeat first | exact mH | apply mT)) hRl) rfl rfl ?_
 focus (refine D9 rfl (B6p e G cells hr) rfl rfl (fun v G1 hle1 hh => ?_); obtain ⟨cu, ct, rfl, hru, hrt⟩ := hh; rcases hI : U4 e with _ | ⟨u, t⟩; rotate_left; rw [hI] at hru hrt; simp only [Option.getD_some] at hru hrt; rotate_left; rw [hI] at hru hrt; simp only [Option.getD_none] at hru hrt; simp only [Option.isSome]; rotate_left; simp only [Option.isSome]; rotate_left; all_goals (have hul := hru.len; have huo := hru.one; obtain ⟨p3, c3, e3, rfl, _⟩ := hrt.open))
 refine B4 ?_
 refine sE (A7 rfl) rfl (fun b17 => ?_)
 refine sE (A7 rfl) rfl (fun b18 => ?_)
 refine sS rfl rfl rfl hul huo rfl ?_ (hu := by exact D4 hul.symm)
 refine A0z ?_
 refine D5 (rT rfl) (rT rfl) (rT rfl) ?_
 (exact ⟨rfl, by rw [hno (by first | exact hI | rfl | assumption)]⟩)
 refine B4 ?_
 refine sE (A7 rfl) rfl (fun b47 => ?_)
 refine sE (A7 rfl) rfl (fun b48 => ?_)
 refine sS rfl rfl rfl hul huo rfl ?_ (hu := by exact D4 hul.symm)
 refine K0 ?_
 refine sL (A2 rfl rfl (A9 (by repeat first | exact mH | apply mT)) hul) rfl rfl ?_
 refine E3 ?_
 (have hyv := hyv u t hI; have hyn := hyn u t hI; have hev := @B1c u fuel; refine D9 rfl (B51 u fuel G1 cu hru) rfl rfl (fun v G2 hle2 hh => ?_); obtain ⟨wc, hvv, hrw⟩ := hh; have hwl := hrw.len; have hwo := hrw.one; generalize S8 u fuel = r at hvv hrw hyv hyn hev; obtain ⟨w, c, l⟩ := r; simp only at hvv hrw hyv hyn hev; subst hvv)
 refine B4 ?_
 refine sE (A7 rfl) rfl (fun b73 => ?_)
 refine sS rfl rfl rfl hwl hwo rfl ?_ (hu := by exact D4 hwl.symm)
 refine D1 ?_
 refine sB (N5 rfl rfl) rfl rfl (fun h83 => ?_) (fun h83 => ?_)
 refine J9 ?_
 refine D5 (rT rfl) (rT rfl) (rT rfl) ?_
 (exact ⟨rfl, by rw [hyn (by omega)]⟩)
 refine B5 ?_
 refine sL (A2 rfl rfl (A9 (by repeat first | exact mH | apply mT)) hwl) rfl rfl ?_
 (obtain ⟨he1, he2, he3⟩ := hev (by omega); refine E8 rfl (B6l w G2 wc (hT.mono (hle1.trans hle2)) (A2E he1).1 he2 hrw) rfl rfl ?_)
 refine D1 ?_
 refine D5 (rT rfl) (rT rfl) (rT rfl) ?_
 exact B1d
def R7 (o : Option Ty) (G : IM) : IM → Value → List A6 → Prop := K1 fun G' v => ∃ t cells, v = .tuple ⟨[.agg ⟨cells⟩, .bool o.isSome]⟩ ∧ C3 G' t cells ∧ F9 t ∧ ∀ u, o = some u → u = t
theorem R7.yes {G G' : IM} {o : Option Ty} {t : Ty} {cells : List Value} (h : o = some t) (hr : C3 G' t cells) (ha : F9 t) : R7 o G G' (.tuple ⟨[.agg ⟨cells⟩, .bool true]⟩) [] := by
 subst h; exact ⟨rfl, t, cells, rfl, hr, ha, fun u h => (by cases h; rfl)⟩
theorem R7.no {G G' : IM} {o : Option Ty} {t : Ty} {cells : List Value} (h : o = none) (hr : C3 G' t cells) (ha : F9 t) : R7 o G G' (.tuple ⟨[.agg ⟨cells⟩, .bool false]⟩) [] := by
 subst h; exact ⟨rfl, t, cells, rfl, hr, ha, fun u h => (by cases h)⟩
theorem R7.mk {G G' : IM} {o : Option Ty} {b : Bool} {t : Ty} {cells : List Value} (h : o = if b = true then some t else none) (hr : C3 G' t cells) (ha : F9 t) : R7 o G G' (.tuple ⟨[.agg ⟨cells⟩, .bool b]⟩) [] := by
 cases b
 ·exact R7.no h hr ha
 ·exact R7.yes h hr ha
theorem A7u {t : Ty} (h : H1 t = true) : F9 t := (A33 h).1
theorem A2T (k : Int) (a b : Ty) (G : IM) (ca cb : List Value) (hk : k = 4 ∨ k = 5) (ha : F9 a) (hb : F9 b) (hra : C3 G a ca) (hrb : C3 G b cb) :
  Fn Tryz.prog 189 [.int .i64 k, .agg ⟨ca⟩, .agg ⟨cb⟩] [] G (K1 fun G' v => ∃ cells, v = .tuple ⟨[.agg ⟨cells⟩, .bool (H1 (.mk k [a, b]))]⟩ ∧ C3 G' (.mk k [a, b]) cells) := by
 obtain ⟨ak, aks⟩ := a
 obtain ⟨bk, bks⟩ := b
 obtain ⟨pa, cca, ea, rfl, _⟩ := hra.open
 obtain ⟨pb, ccb, eb, rfl, _⟩ := hrb.open
 have hki : F8 k := ⟨by omega, by omega⟩
 refine C1 Tryz.func189 rfl Tryz.ntmps189 Tryz.results189 rfl ?_
 intro w0
 refine A3 ?_
 refine sE (C7 rfl rfl) rfl (fun b3 => ?_)
 refine sE (C7 rfl rfl) rfl (fun b4 => ?_)
 refine sE (A7 rfl) rfl (fun b5 => ?_)
 refine B4 ?_
 refine E2 E4 rfl ?_
 refine J4 (i := 0) (l' := [tt,ff,ff,ff,ff,ff,ff,ff,ff]) rfl D6 (qM rfl) rfl (by kernel_rfl) rfl rfl ?_
 refine aL 1 rfl (A5 rfl rfl) rfl ?_
 refine aL 3 rfl (A5 rfl rfl) rfl ?_
 refine Q8 (j := 2) (j' := 7) (by kernel_rfl) ?_ ?_
 (refine H7 rfl rfl (P7 _ G _ ha.small hra) rfl rfl rfl (fun v G1 hle1 hh => ?_); obtain ⟨cs1, F1, rfl, hs1, hn1⟩ := hh; obtain ⟨p1, c1, rfl, _⟩ := hs1.open; have hC2 := P7 _ G1 _ hb.small (hrb.mono hle1))
 refine Q8 (j := 4) (j' := 7) (by kernel_rfl) ?_ ?_
 (refine H7 rfl rfl hC2 rfl rfl rfl (fun v G2 hle2 hh => ?_); obtain ⟨cs2, F2, rfl, hs2, hn2⟩ := hh; obtain ⟨p2, c2, rfl, _⟩ := hs2.open; have hr1 := hs1.R.mono ((C5.le G1 G).trans hle2); have hr2 := hs2.R.mono (C5.le G2 G1))
 refine Q8 (j := 5) (j' := 7) (by kernel_rfl) ?_ ?_
 (refine E5 rfl (D0 rfl rfl rfl (by omega) (by unfold maxLen; omega) rfl) rfl rfl ?_; rintro _ ⟨b19, rfl⟩)
 refine aP 6 rfl (X0 rfl rfl) rfl ?_
 refine A4 7 ?_
 (refine E5 rfl (A7 rfl) rfl rfl ?_; rintro _ ⟨b22, rfl⟩)
 refine A4 8 ?_
 refine I2 rfl ?_
 refine B7 ?_
 (have hr1' := hr1; refine A10 (by repeat (first | exact Pk.here | apply Pk.there)) (fun G5 hle5 hsl5 hno5 => ?_); have hRT : C3 G5 (.mk k [.mk ak aks, .mk bk bks]) _ := C9.ty (ts := [.mk ak aks, .mk bk bks]) (es := [[.int .i64 ak, .slice p1 aks.length c1], [.int .i64 bk, .slice p2 bks.length c2]]) ⟨_, _, rfl, hr1.mono hle5, _, _, rfl, hr2.mono hle5, rfl⟩ rfl hsl5 hki; have hV := A1O _ G5 _ hRT; refine E2 E4 rfl ?_)
 refine L4 (i := 0) (l' := [tt,ff,ff,ff,ff]) rfl D6 (A5 rfl rfl) rfl (by kernel_rfl) rfl rfl ?_
 refine aL 1 rfl (A5 rfl rfl) rfl ?_
 refine A4 2 ?_
 refine N3 rfl rfl (hV) rfl rfl rfl ?_
 refine A4 3 ?_
 refine I2 rfl ?_
 refine aP 4 rfl (qA rfl) rfl ?_
 refine B7 ?_
 refine E9 (rC rfl (A5 rfl rfl)) (rT rfl) ?_
 (exact ⟨rfl, _, rfl, hRT⟩)
 (refine E5 rfl (A7 rfl) rfl rfl ?_; rintro _ ⟨b41, rfl⟩)
 refine A4 5 ?_
 (refine E5 rfl (D0 rfl rfl rfl (by omega) (by unfold maxLen; omega) rfl) rfl rfl ?_; rintro _ ⟨b43, rfl⟩)
 refine aP 6 rfl (X0 rfl rfl) rfl ?_
 refine A4 8 ?_
 refine I2 rfl ?_
 refine B7 ?_
 (have hr1' := hr1; refine A10 (by repeat (first | exact Pk.here | apply Pk.there)) (fun G5 hle5 hsl5 hno5 => ?_); have hRT : C3 G5 (.mk k [.mk ak aks, .mk bk bks]) _ := C9.ty (ts := [.mk ak aks, .mk bk bks]) (es := [[.int .i64 ak, .slice p1 aks.length c1], [.int .i64 bk, .slice p2 bks.length c2]]) ⟨_, _, rfl, hr1.mono hle5, _, _, rfl, hr2.mono hle5, rfl⟩ rfl hsl5 hki; have hV := A1O _ G5 _ hRT; refine E2 E4 rfl ?_)
 refine L4 (i := 0) (l' := [tt,ff,ff,ff,ff]) rfl D6 (A5 rfl rfl) rfl (by kernel_rfl) rfl rfl ?_
 refine aL 1 rfl (A5 rfl rfl) rfl ?_
 refine A4 2 ?_
 refine N3 rfl rfl (hV) rfl rfl rfl ?_
 refine A4 3 ?_
 refine I2 rfl ?_
 refine aP 4 rfl (qA rfl) rfl ?_
 refine B7 ?_
 refine E9 (rC rfl (A5 rfl rfl)) (rT rfl) ?_
 (exact ⟨rfl, _, rfl, hRT⟩)
 (refine E5 rfl (A7 rfl) rfl rfl ?_; rintro _ ⟨b63, rfl⟩)
 refine A4 4 ?_
 (refine H7 rfl rfl hC2 rfl rfl rfl (fun v G2 hle2 hh => ?_); obtain ⟨cs2, F2, rfl, hs2, hn2⟩ := hh; obtain ⟨p2, c2, rfl, _⟩ := hs2.open; have hr1 := hs1.R.mono ((C5.le G1 G).trans hle2); have hr2 := hs2.R.mono (C5.le G2 G1))
 refine A4 5 ?_
 (refine E5 rfl (D0 rfl rfl rfl (by omega) (by unfold maxLen; omega) rfl) rfl rfl ?_; rintro _ ⟨b67, rfl⟩)
 refine aP 6 rfl (X0 rfl rfl) rfl ?_
 refine A4 8 ?_
 refine I2 rfl ?_
 refine B7 ?_
 (have hr1' := hr1; refine A10 (by repeat (first | exact Pk.here | apply Pk.there)) (fun G5 hle5 hsl5 hno5 => ?_); have hRT : C3 G5 (.mk k [.mk ak aks, .mk bk bks]) _ := C9.ty (ts := [.mk ak aks, .mk bk bks]) (es := [[.int .i64 ak, .slice p1 aks.length c1], [.int .i64 bk, .slice p2 bks.length c2]]) ⟨_, _, rfl, hr1.mono hle5, _, _, rfl, hr2.mono hle5, rfl⟩ rfl hsl5 hki; have hV := A1O _ G5 _ hRT; refine E2 E4 rfl ?_)
 refine L4 (i := 0) (l' := [tt,ff,ff,ff,ff]) rfl D6 (A5 rfl rfl) rfl (by kernel_rfl) rfl rfl ?_
 refine aL 1 rfl (A5 rfl rfl) rfl ?_
 refine A4 2 ?_
 refine N3 rfl rfl (hV) rfl rfl rfl ?_
 refine A4 3 ?_
 refine I2 rfl ?_
 refine aP 4 rfl (qA rfl) rfl ?_
 refine B7 ?_
 refine E9 (rC rfl (A5 rfl rfl)) (rT rfl) ?_
 (exact ⟨rfl, _, rfl, hRT⟩)
 (refine E5 rfl (A7 rfl) rfl rfl ?_; rintro _ ⟨b87, rfl⟩)
 refine A4 2 ?_
 (refine H7 rfl rfl (P7 _ G _ ha.small hra) rfl rfl rfl (fun v G1 hle1 hh => ?_); obtain ⟨cs1, F1, rfl, hs1, hn1⟩ := hh; obtain ⟨p1, c1, rfl, _⟩ := hs1.open; have hC2 := P7 _ G1 _ hb.small (hrb.mono hle1))
 refine A4 4 ?_
 (refine H7 rfl rfl hC2 rfl rfl rfl (fun v G2 hle2 hh => ?_); obtain ⟨cs2, F2, rfl, hs2, hn2⟩ := hh; obtain ⟨p2, c2, rfl, _⟩ := hs2.open; have hr1 := hs1.R.mono ((C5.le G1 G).trans hle2); have hr2 := hs2.R.mono (C5.le G2 G1))
 refine A4 5 ?_
 (refine E5 rfl (D0 rfl rfl rfl (by omega) (by unfold maxLen; omega) rfl) rfl rfl ?_; rintro _ ⟨b93, rfl⟩)
 refine aP 6 rfl (X0 rfl rfl) rfl ?_
 refine A4 8 ?_
 refine I2 rfl ?_
 refine B7 ?_
 (have hr1' := hr1; refine A10 (by repeat (first | exact Pk.here | apply Pk.there)) (fun G5 hle5 hsl5 hno5 => ?_); have hRT : C3 G5 (.mk k [.mk ak aks, .mk bk bks]) _ := C9.ty (ts := [.mk ak aks, .mk bk bks]) (es := [[.int .i64 ak, .slice p1 aks.length c1], [.int .i64 bk, .slice p2 bks.length c2]]) ⟨_, _, rfl, hr1.mono hle5, _, _, rfl, hr2.mono hle5, rfl⟩ rfl hsl5 hki; have hV := A1O _ G5 _ hRT; refine E2 E4 rfl ?_)
 refine L4 (i := 0) (l' := [tt,ff,ff,ff,ff]) rfl D6 (A5 rfl rfl) rfl (by kernel_rfl) rfl rfl ?_
 refine aL 1 rfl (A5 rfl rfl) rfl ?_
 refine A4 2 ?_
 refine N3 rfl rfl (hV) rfl rfl rfl ?_
 refine A4 3 ?_
 refine I2 rfl ?_
 refine aP 4 rfl (qA rfl) rfl ?_
 refine B7 ?_
 refine E9 (rC rfl (A5 rfl rfl)) (rT rfl) ?_
 (exact ⟨rfl, _, rfl, hRT⟩)
theorem A3z (k : Int) (t : Ty) (G : IM) (cells : List Value) (hk : k = 4 ∨ k = 5) (ha : F9 t) (hr : C3 G t cells) :
  Fn Tryz.prog 191 [.int .i64 k, .agg ⟨cells⟩] [] G (A96 k t G) := by
 obtain ⟨tk, ks⟩ := t
 have ha2 := ha
 rw [F9] at ha2
 have hkid := ha.kid
 obtain ⟨p, c, es, rfl, htk, hsl, hkl⟩ := hr.open
 simp only [Ty.k, Ty.ks] at htk hsl hkl ⊢
 refine C1 Tryz.func191 rfl Tryz.ntmps191 Tryz.results191 rfl ?_
 intro w0
 refine A3 ?_
 refine sE (C7 rfl rfl) rfl (fun b3 => ?_)
 refine sE (A7 rfl) rfl (fun b4 => ?_)
 refine sE (A7 rfl) rfl (fun b5 => ?_)
 refine D1 ?_
 refine sB (qE rfl rfl) rfl rfl (fun h14 => ?_) (fun h14 => ?_)
 refine B0 ?_
 refine E8 rfl ((A1q _)) rfl rfl ?_
 refine E8 rfl ((A1q _)) rfl rfl ?_
 refine B5 ?_
 refine D5 (rC rfl (A5 rfl rfl)) (rC rfl (A5 rfl rfl)) (rT rfl) ?_
 (refine ⟨rfl, _, _, _, _, ?_, A0O _, A0O _, A3X, A3X, ?_⟩ <;> rw [A1V, if_neg (by omega), if_pos (by omega)] <;> first | rfl | (intro p hp; cases hp; rfl))
 refine J1 ?_
 refine sB (N5 rfl rfl) rfl rfl (fun h42 => ?_) (fun h42 => ?_)
 refine J9 ?_
 refine D5 (rC rfl (A5 rfl rfl)) (rC rfl (A5 rfl rfl)) (rT rfl) ?_
 (refine ⟨rfl, B3, _, B3, _, ?_, O1 _ ⟨by omega, by omega⟩, O1 _ ⟨by omega, by omega⟩, W5 (by omega) (by omega), W5 (by omega) (by omega), ?_⟩ <;> rw [A1V, if_neg (by omega), if_neg (by omega)] <;> first | rfl | (intro p hp; cases hp))
 refine A8 ?_
 (have hlen : ks.length = 2 := ha2.1 (by omega); obtain ⟨b, o, q0, d0, hp0, hat0, hre0, hg0⟩ := hsl.kidTy hkl (i := 0) (by omega) (by omega); obtain ⟨b', o', q1, d1, hp1, hat1, hre1, hg1⟩ := hsl.kidTy hkl (i := 1) (by omega) (by omega); subst hp0; cases hp1; have hC1 := P7 _ G _ (hkid _ (List.getElem_mem (by omega))).small hre0; refine E2 E4 rfl ?_)
 refine J4 (i := 0) (l' := [tt,ff,ff,ff,ff,ff,ff,ff,ff,ff,ff,ff,ff]) rfl D6 (B9 rfl) rfl (by kernel_rfl) rfl rfl ?_
 refine aL 1 rfl (C8 rfl rfl) rfl ?_
 refine aP 2 rfl (B6 (j := 0) rfl rfl rfl (by omega)) rfl ?_
 refine aL 3 rfl (A2 rfl rfl (hat0 _) rfl) rfl ?_
 refine aP 5 rfl (B9 rfl) rfl ?_
 refine aL 6 rfl (C8 rfl rfl) rfl ?_
 refine aP 7 rfl (B6 (j := 1) rfl rfl rfl (by omega)) rfl ?_
 refine aL 8 rfl (A2 rfl rfl (hat1 _) rfl) rfl ?_
 refine A4 4 ?_
 (refine H7 rfl rfl hC1 rfl rfl rfl (fun v G1 hle1 hh => ?_); obtain ⟨cs1, F1, rfl, hs1, hn1⟩ := hh; obtain ⟨p1, c1, rfl, _⟩ := hs1.open; have hC2 := P7 _ G1 _ (hkid _ (List.getElem_mem (by omega))).small (hre1.mono hle1))
 refine A4 9 ?_
 (refine H7 rfl rfl hC2 rfl rfl rfl (fun v G2 hle2 hh => ?_); obtain ⟨cs2, F2, rfl, hs2, hn2⟩ := hh; obtain ⟨p2, c2, rfl, _⟩ := hs2.open; have hr1 := hs1.R.mono ((C5.le G1 G).trans hle2); have hr2 := hs2.R.mono (C5.le G2 G1))
 refine A4 10 ?_
 refine I2 rfl ?_
 refine A4 11 ?_
 refine R5 rfl rfl rfl rfl rfl rfl rfl rfl (by decide +kernel) (by repeat first | exact Sw.here | apply Sw.there) (by rfl) ?_
 refine aP 12 rfl (qA rfl) rfl ?_
 refine B7 ?_
 refine D5 (rC rfl (A5 rfl rfl)) (rC rfl (A5 rfl rfl)) (rT rfl) ?_
 (refine ⟨rfl, _, _, _, _, ?_, hr1, hr2, hkid _ (List.getElem_mem (by omega)), hkid _ (List.getElem_mem (by omega)), ?_⟩ <;> rw [A1V, if_pos (by omega)] <;> first | rfl | (intro p hp; cases hp; simp [hlen]))
theorem B6x (G : IM) (cx : Cx) (hv : Z8 cx) (p : Option Addr) (n c : Nat) (nm : ByteArray) (hx : S9 G cx p n c) :
  Fn Tryz.prog 162 [.slice p n c, .string nm] [] G (R7 (A0j cx nm) G) := by
 have hn := hx.le
 refine C1 Tryz.func162 rfl Tryz.ntmps162 Tryz.results162 rfl ?_
 intro w0
 refine A3 ?_
 refine sE (A7 rfl) rfl (fun b3 => ?_)
 refine D1 ?_
 refine sP (O9 rfl rfl (by omega) (by omega)) rfl rfl ?_
 refine B7 ?_
 refine C0 ?_
 (refine J0 (fun (i : Nat) => ⟨[(6, .int .i64 ((i : Int) - 1)), (0, .slice p n c), (1, .string nm), (4, .pointer (some ⟨b3, 0, none⟩))], [.blk b3 [.int .i64 0, .slice none 0 0]], G⟩) (fun i => i ≤ n ∧ A0j cx nm = X8 cx nm i) (fun i => i) n ?_ ?_ ?_)
 exact D2
 (exact ⟨Nat.le_refl _, by unfold A0j; rw [hx.1]⟩)
 (rintro i ⟨hi, hlk⟩)
 refine B4 ?_
 refine sB (A0I rfl rfl) rfl rfl (fun h25 => ?_) (fun h25 => ?_)
 refine A8 ?_
 (show J6 _ _ (.block 1 _) _ _; obtain ⟨j, rfl⟩ : ∃ j, i = j + 1 := ⟨i - 1, by omega⟩; rw [show ((j + 1 : Nat) : Int) - 1 = (j : Int) from by omega]; obtain ⟨b, o, nm1, t1, q1, d1, hcx, rfl, hat, hr1, hgb⟩ := hx.get (i := j) (by omega); have ha1 := A7u (hv _ (List.mem_of_getElem? hcx)); refine C0 ?_)
 refine B4 ?_
 refine sP (B6 rfl rfl rfl (by omega)) rfl rfl ?_
 refine E3 ?_
 refine sL (T3 rfl rfl ((hat _).sub (j := 0) rfl)) rfl rfl ?_
 refine E3 ?_
 refine sB (A1G rfl rfl) rfl rfl (fun h41 => ?_) (fun h41 => ?_)
 refine B5 ?_
 refine sP (B6 rfl rfl rfl (by omega)) rfl rfl ?_
 refine E3 ?_
 refine sL (A2 rfl rfl (hat _).drop rfl) rfl rfl ?_
 (refine D9 rfl (P7 _ G _ ha1.small hr1) rfl rfl (fun v G1 hle1 hh => ?_); obtain ⟨cs1, F1, rfl, hs1', hn1⟩ := hh; obtain ⟨p1, c1, rfl, _⟩ := hs1'.open; have hrr := hs1'.R.mono (C5.le G1 G))
 refine J3 ?_
 refine E9 (rC rfl (A5 rfl rfl)) (rT rfl) ?_
 (exact R7.yes (by rw [hlk]; exact A6y hcx (by assumption)) hrr ha1)
 refine D1 ?_
 refine sP (O9 rfl rfl (by omega) (by omega)) rfl rfl ?_
 refine A3 ?_
 refine I1 j ?_ ?_ ?_
 exact D2
 (exact ⟨by omega, by rw [hlk]; exact A6z hcx (by assumption)⟩)
 (show _ < _ + 1; omega)
 refine K0 ?_
 refine E9 (rC rfl (A5 rfl rfl)) (rT rfl) ?_
 (obtain rfl : i = 0 := (by omega); exact R7.no (by rw [hlk]; rfl) (O1 _ ⟨by omega, by omega⟩) (W5 (by omega) (by omega)))
theorem A5w : ∀ (xs ys : List Ty), xs.length = ys.length → (S6 xs ys).length = xs.length
 | [], [], _ => rfl
 | a :: xs, b :: ys, h => by simp only [S6, List.length_cons]; rw [A5w xs ys (by simpa using h)]
 | [], b :: ys, h => by simp at h
 | a :: xs, [], h => by simp at h
theorem A7v : ∀ (xs ys : List Ty) (i : Nat) (h : i < xs.length) (h' : i < ys.length) (hl : i < (S6 xs ys).length), (S6 xs ys)[i] = U2 xs[i] ys[i]
 | [], _, i, h, _, _ => by simp at h
 | a :: xs, [], i, _, h', _ => by simp at h'
 | a :: xs, b :: ys, 0, _, _, _ => by simp [S6]
 | a :: xs, b :: ys, i + 1, h, h', hl => by
  simp only [S6, List.getElem_cons_succ]
  exact A7v xs ys i (by simpa using h) (by simpa using h') _
theorem B6y {xs ys : List Ty} {i : Nat} (hl : xs.length = ys.length) (h : i < xs.length) : (S6 xs ys).take (i + 1) = (S6 xs ys).take i ++ [U2 xs[i] (ys[i]'(by omega))] := by
 rw [List.take_succ_eq_append_getElem (by rw [A5w _ _ hl]; exact h), A7v _ _ i h (by omega)]
theorem B6z : ∀ (a b : Ty) (G : IM) (ca cb : List Value), K4 a b = true → F9 a → F9 b → C3 G a ca → C3 G b cb → Fn Tryz.prog 221 [.agg ⟨ca⟩, .agg ⟨cb⟩] [] G (K1 fun G' v => ∃ cells, v = .agg ⟨cells⟩ ∧ C3 G' (U2 a b) cells) := by
 refine Ty.ind fun ak aks ih b G ca cb hc ha hb hra hrb => ?_
 obtain ⟨bk, bks⟩ := b
 have hka := ha.kid
 have hkb := hb.kid
 have hca := P7 _ G _ ha.small hra
 have hcb := P7 _ G _ hb.small hrb
 have hcc : ak ≠ 1 → bk ≠ 1 → aks.length = bks.length ∧ ∀ i, (h : i < aks.length) → (h' : i < bks.length) → K4 aks[i] bks[i] = true := by
  intro h1 h2
  rw [U9, decide_eq_false h1, decide_eq_false h2] at hc
  simp only [Bool.false_or, Bool.and_eq_true, decide_eq_true_eq] at hc
  exact (A2w _ _).1 hc.2
 rw [A1e]
 obtain ⟨pa, cca, ea, rfl, hak, hsla, hkla⟩ := hra.open
 obtain ⟨pb, ccb, eb, rfl, hbk, hslb, hklb⟩ := hrb.open
 simp only [Ty.k, Ty.ks] at hak hsla hkla hbk hslb hklb ⊢
 have hna := hsla.le
 have hnb := hslb.le
 have hl2 := ha.two
 refine C1 Tryz.func221 rfl Tryz.ntmps221 Tryz.results221 rfl ?_
 intro w0
 refine A3 ?_
 refine sE (C7 rfl rfl) rfl (fun b3 => ?_)
 refine sE (C7 rfl rfl) rfl (fun b4 => ?_)
 refine sE (A7 rfl) rfl (fun b5 => ?_)
 refine B5 ?_
 refine sB (qE rfl rfl) rfl rfl (fun h13 => ?_) (fun h13 => ?_)
 refine A8 ?_
 (refine D9 rfl (by first | exact hcb | exact hca) rfl rfl (fun v G1 hle1 hh => ?_); obtain ⟨cs1, F1, rfl, hs1, hn1⟩ := hh; obtain ⟨p1, c1, rfl, _⟩ := hs1.open; have hr1 := hs1.R.mono (C5.le G1 G))
 refine B0 ?_
 refine M3 (rC rfl (A5 rfl rfl)) ?_
 (rw [if_pos (by omega)]; exact ⟨rfl, _, rfl, hr1⟩)
 refine J3 ?_
 refine sB (qE rfl rfl) rfl rfl (fun h38 => ?_) (fun h38 => ?_)
 refine A8 ?_
 (refine D9 rfl (by first | exact hcb | exact hca) rfl rfl (fun v G1 hle1 hh => ?_); obtain ⟨cs1, F1, rfl, hs1, hn1⟩ := hh; obtain ⟨p1, c1, rfl, _⟩ := hs1.open; have hr1 := hs1.R.mono (C5.le G1 G))
 refine B0 ?_
 refine M3 (rC rfl (A5 rfl rfl)) ?_
 (rw [if_neg (by omega), if_pos (by omega)]; exact ⟨rfl, _, rfl, hr1⟩)
 refine J3 ?_
 refine sE (A7 rfl) rfl (fun b63 => ?_)
 refine E0 ?_
 refine C0 ?_
 (obtain ⟨hlab, hcab⟩ := hcc (by omega) (by omega); refine Q9 34 2 ?_; refine J0 (fun (x : Nat × Option Addr × Nat × List Ty × List (List Value) × IM) => ⟨[(6, .int .i64 x.1), (5, .pointer (some ⟨b63, 0, none⟩)), (4, .pointer (some ⟨b5, 0, none⟩)), (2, .pointer (some ⟨b3, 0, none⟩)), (3, .pointer (some ⟨b4, 0, none⟩))], [.blk b63 [.int .i64 ak, .slice x.2.1 x.1 x.2.2.1], .slc x.2.1 x.2.2.1 34 2 x.1 x.2.2.2.2.1.flatten, .blk b5 [.int .i64 0, .slice none 0 0], .blk b4 [.int .i64 bk, .slice pb bks.length ccb], .blk b3 [.int .i64 ak, .slice pa aks.length cca]], x.2.2.2.2.2⟩) (fun x => x.1 ≤ aks.length ∧ C2 G x.2.2.2.2.2 ∧ x.2.2.2.1.length = x.1 ∧ C9 x.2.2.2.2.2 x.2.2.2.1 x.2.2.2.2.1 ∧ x.2.2.2.1 = (S6 aks bks).take x.1) (fun x => aks.length - x.1) (0, none, 0, [], [], G) ?_ ?_ ?_)
 (simp only [H6]; exact D2)
 (exact ⟨by simp, C2.refl _, rfl, by simp [C9], rfl⟩)
 (rintro ⟨i, pn, cn, us, es', Gi⟩ ⟨hi, hle, hlu, hst, hus⟩; simp only [] at hi hle hlu hst hus ⊢; replace hsla := hsla.mono hle; replace hkla := hkla.mono hle; replace hslb := hslb.mono hle; replace hklb := hklb.mono hle)
 refine B5 ?_
 refine sB (I8 rfl rfl) rfl rfl (fun h85 => ?_) (fun h85 => ?_)
 refine A8 ?_
 refine C0 ?_
 (obtain ⟨b, o, q0, d0, hp0, hat0, hre0, hg0⟩ := hsla.kidTy hkla (i := i) (by omega) (by omega); obtain ⟨b', o', q1, d1, hp1, hat1, hre1, hg1⟩ := hslb.kidTy hklb (i := i) (by omega) (by omega); subst hp0; subst hp1; have hih := ih aks[i] (List.getElem_mem (by omega)) bks[i] Gi _ _ (hcab i (by omega) (by omega)) (hka _ (List.getElem_mem (by omega))) (hkb _ (List.getElem_mem (by omega))) hre0 hre1; refine E2 E4 rfl ?_)
 refine J4 (i := 0) (l' := [tt,ff,ff,ff,ff,ff,ff,ff,ff,ff,ff,ff,ff,ff,ff,ff,ff]) rfl D6 (B9 rfl) rfl (by kernel_rfl) rfl rfl ?_
 refine aL 1 rfl (C8 rfl rfl) rfl ?_
 refine aP 2 rfl (B9 rfl) rfl ?_
 refine aL 3 rfl (C8 rfl rfl) rfl ?_
 refine aP 4 rfl (qM rfl) rfl ?_
 refine aP 5 rfl (B6 rfl rfl rfl (by omega)) rfl ?_
 refine aL 6 rfl (A2 rfl rfl (hat0 _) rfl) rfl ?_
 refine aP 7 rfl (B9 rfl) rfl ?_
 refine aL 8 rfl (C8 rfl rfl) rfl ?_
 refine aP 9 rfl (qM rfl) rfl ?_
 refine aP 10 rfl (B6 rfl rfl rfl (by omega)) rfl ?_
 refine aL 11 rfl (A2 rfl rfl (hat1 _) rfl) rfl ?_
 refine A4 12 ?_
 (refine H7 rfl rfl hih rfl rfl rfl (fun v G1 hle1 hh => ?_); obtain ⟨cells', rfl, hru⟩ := hh; generalize hu : U2 aks[i] bks[i] = u at hru; obtain ⟨p3, c3, es3, rfl, _⟩ := hru.open)
 refine A4 13 ?_
 (refine E5 rfl (D0 rfl rfl rfl (by omega) (by unfold maxLen; omega) rfl) rfl rfl ?_; rintro _ ⟨b109, rfl⟩)
 refine A4 14 ?_
 refine R0 rfl rfl rfl rfl rfl rfl (fun _ _ => by repeat (first | exact Sw.here | apply Sw.there)) (M1 (by repeat first | exact mH | apply mT)) rfl (by simp [Value.oneCell']) (by unfold maxLen; omega) (by omega) rfl rfl (by repeat (first | exact B2.nil | apply B2.dep (by decide +kernel) | apply B2.blk (by decide +kernel) (by repeat (first | exact Pk.here | apply Pk.there)) (by repeat first | exact mH | apply mT))) (fun pn' cn' => ?_)
 refine aP 15 rfl (B9 rfl) rfl ?_
 refine A4 16 ?_
 refine R5 rfl rfl rfl rfl rfl rfl rfl rfl (by decide +kernel) (by repeat first | exact Sw.here | apply Sw.there) (by rfl) ?_
 refine B0 ?_
 refine sP (H5 rfl rfl (by omega) (by omega)) rfl rfl ?_
 refine A3 ?_
 refine I1 (i + 1, pn', cn', us ++ [u], es' ++ [[.int .i64 u.k, .slice p3 u.ks.length c3]], G1) ?_ ?_ ?_
 (simp only [H6]; exact D2)
 (dsimp only; exact ⟨by omega, hle.trans hle1, by simp [hlu], C9.snoc (hst.mono hle1) hru, by rw [B6y hlab (by omega), ← hus, hu]⟩)
 (show aks.length - (i + 1) < aks.length - i; omega)
 refine J9 ?_
 (refine F0 (by repeat (first | exact Pk.here | apply Pk.there)) (fun G2 hle2 hsl2 hno2 => ?_); obtain rfl : i = aks.length := (by omega))
 refine tT ?_
 refine M3 (rC rfl (A5 rfl rfl)) ?_
 (rw [List.take_of_length_le (by rw [A5w _ _ hlab]; omega)] at hus; rw [if_neg (by omega), if_neg (by omega), ← hus]; exact ⟨rfl, _, rfl, (hst.mono hle2).ty hlu hsl2 hak⟩)
theorem gD {ts : List Ty} {i : Nat} (h : i < ts.length) : ts.getD i B3 = ts[i] := by rw [List.getD_eq_getElem?_getD, List.getElem?_eq_getElem h, Option.getD_some]
section
variable {cx : Cx} {k : Int} {nm : ByteArray} {ty : Ty} {ts : List Ty}
theorem B1e (h : 1 < ts.length) : X2 cx 6 nm ty ts = match R2 4 ts[0] with | some (a, b) => if K4 ts[1] a = true then some b else none | none => none := by
 unfold X2 L9
 rw [gD (i := 0) (by omega), gD (i := 1) h]
 simp only [show ¬((6 : Int) = 1) by decide, show ¬((6 : Int) = 2) by decide, show ¬((6 : Int) = 3 ∨ (6 : Int) = 4) by decide, show ¬((6 : Int) = 5) by decide, if_false, if_true]
 cases R2 4 ts[0] with
 | none => rfl
 | some p =>
  obtain ⟨a, b⟩ := p
  by_cases hc : K4 ts[1] a = true
  ·simp [hc]
  ·simp [hc]
theorem B1f (hk : k = 7 ∨ k = 8) (h : 1 < ts.length) : X2 cx k nm ty ts = if K4 ts[0] T4 = true ∧ K4 ts[1] T4 = true then some (if k = 8 then X7 else T4) else none := by
 unfold X2 L9
 rw [gD (i := 0) (by omega), gD (i := 1) h, if_neg (by omega), if_neg (by omega), if_neg (by omega), if_neg (by omega), if_neg (by omega), if_pos hk]
 by_cases hc : K4 ts[0] T4 = true ∧ K4 ts[1] T4 = true
 ·rw [if_pos hc, if_pos hc]; simp only; rw [if_neg (by omega)]
 ·rw [if_neg hc, if_neg hc]
theorem B1g (h : 2 < ts.length) : X2 cx 9 nm ty ts = if K4 ts[0] X7 = true ∧ K4 ts[1] ts[2] = true then some (U2 ts[1] ts[2]) else none := by
 unfold X2 L9
 rw [gD (i := 0) (by omega), gD (i := 1) (by omega), gD (i := 2) h, if_neg (by omega), if_neg (by omega), if_neg (by omega), if_neg (by omega), if_neg (by omega), if_neg (by omega), if_pos rfl]
 by_cases hc : K4 ts[0] X7 = true ∧ K4 ts[1] ts[2] = true
 ·rw [if_pos hc, if_pos hc]; simp
 ·rw [if_neg hc, if_neg hc]
theorem B6A (h : 1 < ts.length) : X2 cx 10 nm ty ts = if H1 (.mk 5 [ts[0], ts[1]]) = true then some (.mk 5 [ts[0], ts[1]]) else none := by
 unfold X2 L9
 rw [gD (i := 0) (by omega), gD (i := 1) h, if_neg (by omega), if_neg (by omega), if_neg (by omega), if_neg (by omega), if_neg (by omega), if_neg (by omega), if_neg (by omega), if_pos rfl]
 cases hv : H1 (.mk 5 [ts[0], ts[1]]) <;> simp [hv]
theorem B6B (h : 0 < ts.length) : X2 cx 13 nm ty ts = if K4 ts[0] ty = true then some ty else none := by
 unfold X2 L9
 rw [gD (i := 0) h, if_neg (by omega), if_neg (by omega), if_neg (by omega), if_neg (by omega), if_neg (by omega), if_neg (by omega), if_neg (by omega), if_neg (by omega), if_pos rfl]
 by_cases hc : K4 ts[0] ty = true
 ·rw [if_pos hc, if_pos hc]; simp
 ·rw [if_neg hc, if_neg hc]
theorem A5x (hk : k = 11 ∨ k = 12) (h : 0 < ts.length) : X2 cx k nm ty ts = match R2 5 ts[0] with | some (a, b) => some (if k = 12 then b else a) | none => none := by
 unfold X2 L9
 rw [gD (i := 0) h, if_neg (by omega), if_neg (by omega), if_neg (by omega), if_neg (by omega), if_neg (by omega), if_neg (by omega), if_neg (by omega), if_neg (by omega), if_neg (by omega)]
 cases R2 5 ts[0] with
 | none => rfl
 | some p =>
  obtain ⟨a, b⟩ := p
  simp only
  rw [if_neg (by omega)]
end
theorem B6C : ∀ (a b : Ty), K4 a b = true → F9 a → F9 b → F9 (U2 a b) := by
 refine Ty.ind fun k ks ih b hc ha hb => ?_
 obtain ⟨k', ks'⟩ := b
 rw [A1e]
 split
 ·exact hb
 ·split
  ·exact ha
  ·rw [U9] at hc
   simp only [Bool.or_eq_true, Bool.and_eq_true, decide_eq_true_eq] at hc
   obtain ⟨hk, hl⟩ : k = k' ∧ N6 ks ks' = true := by
    rcases hc with (h | h) | h
    ·contradiction
    ·contradiction
    ·exact h
   obtain ⟨hll, hcc⟩ := (A2w _ _).1 hl
   have hlen := A5w ks ks' hll
   refine A9O ha hlen fun u hu => ?_
   obtain ⟨i, hi, rfl⟩ := List.mem_iff_getElem.1 hu
   rw [A7v ks ks' i (by omega) (by omega)]
   exact ih _ (List.getElem_mem _) _ (hcc i (by omega) (by omega)) (ha.kid _ (List.getElem_mem _)) (hb.kid _ (List.getElem_mem _))
theorem B1h {Q : Prop} (h : Q := by (have hk7 : k = 7 := (by omega); exact R7.mk (by rw [B1f (.inl hk7) (by omega)]; simp_all [T4]) (O1 _ ⟨by omega, by omega⟩) (W5 (by omega) (by omega)))) : Q := h
theorem B1i {Q : Prop} (h : Q := by (have hk8 : k = 8 := (by omega); exact R7.mk (by rw [B1f (.inr hk8) (by omega)]; simp_all [T4, X7]) (O1 _ ⟨by omega, by omega⟩) (W5 (by omega) (by omega)))) : Q := h
theorem B6D (cx : Cx) (k : Int) (nm : ByteArray) (num : Int) (ty fr : Ty) (lb : Int) (ks : List Tm) (ts : List Ty) (G : IM) (cells : List Value) (p : Option Addr) (c : Nat) (es : List (List Value))
  (hops : E6 k = ts.length) (hk6 : 6 ≤ k ∧ k ≤ 13) (hty : F9 ty) (hr : B1 G (.mk k nm num ty fr lb ks) cells) (hsl : D7 G p ts.length c 2 es) (hkl : C9 G ts es) (har : ∀ t ∈ ts, F9 t) :
  Fn Tryz.prog 190 [.agg ⟨cells⟩, .slice p ts.length c] [] G (R7 (X2 cx k nm ty ts) G) := by
 have hone := hr.one
 have hop := A3j hops
 have ha0 := fun h : 0 < ts.length => har _ (List.getElem_mem h)
 have ha1 := fun h : 1 < ts.length => har _ (List.getElem_mem h)
 have ha2 := fun h : 2 < ts.length => har _ (List.getElem_mem h)
 obtain ⟨tk, tks⟩ := ty
 obtain ⟨fk, fks⟩ := fr
 obtain ⟨pt, ct, pf, cf, pk, ck, ek, rfl, hk, hnum, hlb, hrty, hrfr, _, _⟩ := hr.open9
 refine C1 Tryz.func190 rfl Tryz.ntmps190 Tryz.results190 rfl ?_
 intro w0
 refine A3 ?_
 refine sE (C7 rfl rfl) rfl (fun b3 => ?_)
 refine sE (A7 rfl) rfl (fun b4 => ?_)
 refine J3 ?_
 refine C0 (tS (tR (sB (qE rfl rfl) rfl rfl (fun h18 => ?_) (fun h18 => ?_))))
 refine B5 ?_
 (have hl2 : ts.length = 2 := hop.1 (by omega); obtain ⟨b0, o0, q0, d0, hp0, hat0, hre0, hg0⟩ := hsl.kidTy hkl (i := 0) (by omega) (by omega); obtain ⟨b1, o1, q1, d1, hp1, hat1, hre1, hg1⟩ := hsl.kidTy hkl (i := 1) (by omega) (by omega); cases hp0; cases hp1; refine sP (B6 (j := 0) rfl rfl rfl (by omega)) rfl rfl ?_)
 refine sL (A2 rfl rfl (hat0 _) rfl) rfl rfl ?_
 focus (refine D9 rfl (A3z 4 ts[0] G _ (.inl rfl) (ha0 (by omega)) hre0) rfl rfl (fun v G1 hle1 hh => ?_); obtain ⟨ma, mca, mb, mcb, rfl, hma, hmb, hma2, hmb2, hpp⟩ := hh; obtain ⟨p1, c1, e1, rfl, _⟩ := hma.open; obtain ⟨p2, c2, e2, rfl, _⟩ := hmb.open; replace hsl := hsl.mono hle1; replace hkl := hkl.mono hle1; rcases hm : R2 4 ts[0] with _ | pr; rotate_left; obtain rfl := hpp _ hm; rotate_left; all_goals simp only [Option.isSome])
 refine B4 ?_
 refine sE (A7 rfl) rfl (fun b33 => ?_)
 refine sE (A7 rfl) rfl (fun b34 => ?_)
 refine A8 ?_
 (have hl2 : ts.length = 2 := hop.1 (by omega); obtain ⟨b0, o0, q0, d0, hp0, hat0, hre0, hg0⟩ := hsl.kidTy hkl (i := 0) (by omega) (by omega); obtain ⟨b1, o1, q1, d1, hp1, hat1, hre1, hg1⟩ := hsl.kidTy hkl (i := 1) (by omega) (by omega); cases hp0; cases hp1; refine E2 E4 rfl ?_)
 refine L4 (i := 0) (l' := [tt,ff,ff,ff,ff,ff,ff,ff,ff,ff,ff]) rfl D6 (A5 rfl rfl) rfl (by kernel_rfl) rfl rfl ?_
 refine aP 1 rfl (qM rfl) rfl ?_
 refine aP 2 rfl (qM rfl) rfl ?_
 refine C4 3 rfl rfl rfl ?_
 refine C4 4 rfl rfl rfl ?_
 refine C4 5 rfl rfl rfl ?_
 refine C4 6 rfl rfl rfl ?_
 refine C4 7 rfl rfl rfl ?_
 refine aP 8 rfl (O6 rfl rfl) rfl ?_
 refine A4 9 ?_
 refine I2 rfl ?_
 refine aP 10 rfl (qA rfl) rfl ?_
 refine B0 ?_
 refine E9 (rC rfl (A5 rfl rfl)) (rT rfl) ?_
 (obtain rfl : k = 6 := (by omega); exact R7.no (by rw [B1e (by omega), hm]) hmb hmb2)
 refine B4 ?_
 refine sE (A7 rfl) rfl (fun b65 => ?_)
 refine sE (A7 rfl) rfl (fun b66 => ?_)
 refine A8 ?_
 (have hl2 : ts.length = 2 := hop.1 (by omega); obtain ⟨b0, o0, q0, d0, hp0, hat0, hre0, hg0⟩ := hsl.kidTy hkl (i := 0) (by omega) (by omega); obtain ⟨b1, o1, q1, d1, hp1, hat1, hre1, hg1⟩ := hsl.kidTy hkl (i := 1) (by omega) (by omega); cases hp0; cases hp1; refine E2 E4 rfl ?_)
 refine L4 (i := 0) (l' := [tt,ff,ff,ff,ff,ff,ff,ff,ff,ff,ff]) rfl D6 (A5 rfl rfl) rfl (by kernel_rfl) rfl rfl ?_
 refine aP 1 rfl (qM rfl) rfl ?_
 refine aP 2 rfl (qM rfl) rfl ?_
 refine aP 3 rfl (qM rfl) rfl ?_
 refine aP 4 rfl (B6 (j := 1) rfl rfl rfl (by omega)) rfl ?_
 refine aL 5 rfl (A2 rfl rfl (hat1 _) rfl) rfl ?_
 refine aL 6 rfl (A5 rfl rfl) rfl ?_
 refine A4 7 ?_
 refine N3 rfl rfl ((A1T ts[1] ma _ _ _ (ha1 (by omega)) hma2 hre1 hma)) rfl rfl rfl ?_
 refine aP 8 rfl (M9 rfl rfl) rfl ?_
 refine A4 9 ?_
 refine I2 rfl ?_
 refine aP 10 rfl (qA rfl) rfl ?_
 refine B0 ?_
 refine E9 (rC rfl (A5 rfl rfl)) (rT rfl) ?_
 (obtain rfl : k = 6 := (by omega); exact R7.mk (by rw [B1e (by omega), hm]) hmb hmb2)
 refine A8 ?_
 refine sB (qE rfl rfl) rfl rfl (fun h100 => ?_) (fun h100 => ?_)
 refine B0 ?_
 (have hl2 : ts.length = 2 := hop.1 (by omega); obtain ⟨b0, o0, q0, d0, hp0, hat0, hre0, hg0⟩ := hsl.kidTy hkl (i := 0) (by omega) (by omega); obtain ⟨b1, o1, q1, d1, hp1, hat1, hre1, hg1⟩ := hsl.kidTy hkl (i := 1) (by omega) (by omega); cases hp0; cases hp1; refine E2 E4 rfl ?_)
 refine J4 (i := 1) (l' := [ff,tt,ff,ff,ff,ff,ff,ff,ff,ff,ff,ff,ff,ff,ff]) rfl D6 (qM rfl) rfl (by kernel_rfl) rfl rfl ?_
 refine aP 2 rfl (B6 (j := 0) rfl rfl rfl (by omega)) rfl ?_
 refine aL 3 rfl (A2 rfl rfl (hat0 _) rfl) rfl ?_
 refine A4 0 ?_
 refine N3 rfl rfl ((A0D _)) rfl rfl rfl ?_
 refine A4 4 ?_
 refine N3 rfl rfl ((A0D _)) rfl rfl rfl ?_
 refine A4 5 ?_
 refine T8 rfl rfl ((A1T ts[0] (.mk 2 []) _ _ _ (ha0 (by omega)) (W5 (by decide) (by decide)) hre0 (O1 _ ⟨by omega, by omega⟩))) rfl rfl rfl (fun h115 => ?_) (fun h115 => ?_)
 refine aP 6 rfl (qM rfl) rfl ?_
 refine aP 7 rfl (qM rfl) rfl ?_
 refine aP 8 rfl (B6 (j := 1) rfl rfl rfl (by omega)) rfl ?_
 refine aL 9 rfl (A2 rfl rfl (hat1 _) rfl) rfl ?_
 refine A4 10 ?_
 refine N3 rfl rfl ((A0D _)) rfl rfl rfl ?_
 refine A4 11 ?_
 refine N3 rfl rfl ((A1T ts[1] (.mk 2 []) _ _ _ (ha1 (by omega)) (W5 (by decide) (by decide)) hre1 (O1 _ ⟨by omega, by omega⟩))) rfl rfl rfl ?_
 refine aP 12 rfl (M9 rfl rfl) rfl ?_
 refine A4 13 ?_
 refine I2 rfl ?_
 refine aP 14 rfl (qA rfl) rfl ?_
 refine B0 ?_
 refine E9 (rC rfl (A5 rfl rfl)) (rT rfl) ?_
 exact B1h
 refine aP 6 rfl (qM rfl) rfl ?_
 refine C4 7 rfl rfl rfl ?_
 refine C4 8 rfl rfl rfl ?_
 refine C4 9 rfl rfl rfl ?_
 refine C4 10 rfl rfl rfl ?_
 refine C4 11 rfl rfl rfl ?_
 refine aP 12 rfl (O6 rfl rfl) rfl ?_
 refine A4 13 ?_
 refine I2 rfl ?_
 refine aP 14 rfl (qA rfl) rfl ?_
 refine B0 ?_
 refine E9 (rC rfl (A5 rfl rfl)) (rT rfl) ?_
 exact B1h
 refine A8 ?_
 refine sB (qE rfl rfl) rfl rfl (fun h158 => ?_) (fun h158 => ?_)
 refine B0 ?_
 (have hl2 : ts.length = 2 := hop.1 (by omega); obtain ⟨b0, o0, q0, d0, hp0, hat0, hre0, hg0⟩ := hsl.kidTy hkl (i := 0) (by omega) (by omega); obtain ⟨b1, o1, q1, d1, hp1, hat1, hre1, hg1⟩ := hsl.kidTy hkl (i := 1) (by omega) (by omega); cases hp0; cases hp1; refine E2 E4 rfl ?_)
 refine J4 (i := 1) (l' := [ff,tt,ff,ff,ff,ff,ff,ff,ff,ff,ff,ff,ff,ff,ff]) rfl D6 (qM rfl) rfl (by kernel_rfl) rfl rfl ?_
 refine aP 2 rfl (B6 (j := 0) rfl rfl rfl (by omega)) rfl ?_
 refine aL 3 rfl (A2 rfl rfl (hat0 _) rfl) rfl ?_
 refine A4 0 ?_
 refine N3 rfl rfl ((A3h _)) rfl rfl rfl ?_
 refine A4 4 ?_
 refine N3 rfl rfl ((A0D _)) rfl rfl rfl ?_
 refine A4 5 ?_
 refine T8 rfl rfl ((A1T ts[0] (.mk 2 []) _ _ _ (ha0 (by omega)) (W5 (by decide) (by decide)) hre0 (O1 _ ⟨by omega, by omega⟩))) rfl rfl rfl (fun h173 => ?_) (fun h173 => ?_)
 refine aP 6 rfl (qM rfl) rfl ?_
 refine aP 7 rfl (qM rfl) rfl ?_
 refine aP 8 rfl (B6 (j := 1) rfl rfl rfl (by omega)) rfl ?_
 refine aL 9 rfl (A2 rfl rfl (hat1 _) rfl) rfl ?_
 refine A4 10 ?_
 refine N3 rfl rfl ((A0D _)) rfl rfl rfl ?_
 refine A4 11 ?_
 refine N3 rfl rfl ((A1T ts[1] (.mk 2 []) _ _ _ (ha1 (by omega)) (W5 (by decide) (by decide)) hre1 (O1 _ ⟨by omega, by omega⟩))) rfl rfl rfl ?_
 refine aP 12 rfl (M9 rfl rfl) rfl ?_
 refine A4 13 ?_
 refine I2 rfl ?_
 refine aP 14 rfl (qA rfl) rfl ?_
 refine B0 ?_
 refine E9 (rC rfl (A5 rfl rfl)) (rT rfl) ?_
 exact B1i
 refine aP 6 rfl (qM rfl) rfl ?_
 refine C4 7 rfl rfl rfl ?_
 refine C4 8 rfl rfl rfl ?_
 refine C4 9 rfl rfl rfl ?_
 refine C4 10 rfl rfl rfl ?_
 refine C4 11 rfl rfl rfl ?_
 refine aP 12 rfl (O6 rfl rfl) rfl ?_
 refine A4 13 ?_
 refine I2 rfl ?_
 refine aP 14 rfl (qA rfl) rfl ?_
 refine B0 ?_
 refine E9 (rC rfl (A5 rfl rfl)) (rT rfl) ?_
 exact B1i
 refine A8 ?_
 refine sB (qE rfl rfl) rfl rfl (fun h216 => ?_) (fun h216 => ?_)
 refine A8 ?_
 (have hl3 : ts.length = 3 := hop.2.1 (by omega); obtain ⟨b0, o0, q0, d0, hp0, hat0, hre0, hg0⟩ := hsl.kidTy hkl (i := 0) (by omega) (by omega); obtain ⟨b1, o1, q1, d1, hp1, hat1, hre1, hg1⟩ := hsl.kidTy hkl (i := 1) (by omega) (by omega); obtain ⟨b2, o2, q2, d2, hp2, hat2, hre2, hg2⟩ := hsl.kidTy hkl (i := 2) (by omega) (by omega); cases hp0; cases hp1; cases hp2; refine E2 E4 rfl ?_)
 refine J4 (i := 0) (l' := [tt,ff,ff,ff,ff,ff,ff,ff]) rfl D6 (qM rfl) rfl (by kernel_rfl) rfl rfl ?_
 refine aP 1 rfl (B6 (j := 1) rfl rfl rfl (by omega)) rfl ?_
 refine aL 2 rfl (A2 rfl rfl (hat1 _) rfl) rfl ?_
 refine aP 3 rfl (qM rfl) rfl ?_
 refine aP 4 rfl (B6 (j := 2) rfl rfl rfl (by omega)) rfl ?_
 refine aL 5 rfl (A2 rfl rfl (hat2 _) rfl) rfl ?_
 refine A4 6 ?_
 refine T8 rfl rfl ((A1T ts[1] ts[2] _ _ _ (ha1 (by omega)) (ha2 (by omega)) hre1 hre2)) rfl rfl rfl (fun h231 => ?_) (fun h231 => ?_)
 refine aP 7 rfl (pNt rfl) rfl ?_
 refine A8 ?_
 (have hl3 : ts.length = 3 := hop.2.1 (by omega); obtain ⟨b0, o0, q0, d0, hp0, hat0, hre0, hg0⟩ := hsl.kidTy hkl (i := 0) (by omega) (by omega); obtain ⟨b1, o1, q1, d1, hp1, hat1, hre1, hg1⟩ := hsl.kidTy hkl (i := 1) (by omega) (by omega); obtain ⟨b2, o2, q2, d2, hp2, hat2, hre2, hg2⟩ := hsl.kidTy hkl (i := 2) (by omega) (by omega); cases hp0; cases hp1; cases hp2; refine E2 E4 rfl ?_)
 refine J4 (i := 0) (l' := [tt,ff,ff,ff,ff,ff,ff,ff,ff,ff,ff,ff,ff,ff]) rfl D6 (qM rfl) rfl (by kernel_rfl) rfl rfl ?_
 refine aP 1 rfl (B6 (j := 1) rfl rfl rfl (by omega)) rfl ?_
 refine aL 2 rfl (A2 rfl rfl (hat1 _) rfl) rfl ?_
 refine aP 3 rfl (qM rfl) rfl ?_
 refine aP 4 rfl (B6 (j := 2) rfl rfl rfl (by omega)) rfl ?_
 refine aL 5 rfl (A2 rfl rfl (hat2 _) rfl) rfl ?_
 refine aP 7 rfl (qM rfl) rfl ?_
 refine aP 8 rfl (B6 (j := 0) rfl rfl rfl (by omega)) rfl ?_
 refine aL 9 rfl (A2 rfl rfl (hat0 _) rfl) rfl ?_
 refine A4 6 ?_
 (refine H7 rfl rfl (B6z ts[1] ts[2] G _ _ (by assumption) (ha1 (by omega)) (ha2 (by omega)) hre1 hre2) rfl rfl rfl (fun v G1 hle1 hh => ?_); obtain ⟨mc, rfl, hmr⟩ := hh; obtain ⟨mt, hmt⟩ : ∃ mt, U2 ts[1] ts[2] = mt := ⟨_, rfl⟩; rw [hmt] at hmr; have hma : F9 mt := (hmt ▸ B6C ts[1] ts[2] (by assumption) (ha1 (by omega)) (ha2 (by omega))); obtain ⟨p1, c1, e1, rfl, _⟩ := hmr.open; have hre0q := hre0.mono hle1)
 refine A4 10 ?_
 refine N3 rfl rfl ((A3h _)) rfl rfl rfl ?_
 refine A4 11 ?_
 refine N3 rfl rfl ((A1T ts[0] (.mk 3 []) _ _ _ (ha0 (by omega)) (W5 (by decide) (by decide)) hre0q (O1 _ ⟨by omega, by omega⟩))) rfl rfl rfl ?_
 refine A4 12 ?_
 refine I2 rfl ?_
 refine aP 13 rfl (qA rfl) rfl ?_
 refine B0 ?_
 refine E9 (rC rfl (A5 rfl rfl)) (rT rfl) ?_
 (obtain rfl : k = 9 := (by omega); exact R7.mk (by rw [B1g (by omega), hmt]; simp_all [X7]) hmr hma)
 refine aP 7 rfl (pNf rfl) rfl ?_
 refine J9 ?_
 refine E9 (rC rfl (A5 rfl rfl)) (rT rfl) ?_
 (obtain rfl : k = 9 := (by omega); exact R7.no (by rw [B1g (by omega)]; simp_all) (O1 _ ⟨by omega, by omega⟩) (W5 (by omega) (by omega)))
 refine A8 ?_
 refine sB (qE rfl rfl) rfl rfl (fun h288 => ?_) (fun h288 => ?_)
 refine B0 ?_
 (have hl2 : ts.length = 2 := hop.1 (by omega); obtain ⟨b0, o0, q0, d0, hp0, hat0, hre0, hg0⟩ := hsl.kidTy hkl (i := 0) (by omega) (by omega); obtain ⟨b1, o1, q1, d1, hp1, hat1, hre1, hg1⟩ := hsl.kidTy hkl (i := 1) (by omega) (by omega); cases hp0; cases hp1; refine E2 E4 rfl ?_)
 refine J4 (i := 0) (l' := [tt,ff,ff,ff,ff,ff,ff,ff,ff,ff,ff]) rfl D6 (qM rfl) rfl (by kernel_rfl) rfl rfl ?_
 refine aP 1 rfl (B6 (j := 0) rfl rfl rfl (by omega)) rfl ?_
 refine aL 2 rfl (A2 rfl rfl (hat0 _) rfl) rfl ?_
 refine aP 3 rfl (qM rfl) rfl ?_
 refine aP 4 rfl (B6 (j := 1) rfl rfl rfl (by omega)) rfl ?_
 refine aL 5 rfl (A2 rfl rfl (hat1 _) rfl) rfl ?_
 refine A4 6 ?_
 (refine H7 rfl rfl (A2T 5 ts[0] ts[1] G _ _ (.inr rfl) (ha0 (by omega)) (ha1 (by omega)) hre0 hre1) rfl rfl rfl (fun v G1 hle1 hh => ?_); obtain ⟨mc, rfl, hmr⟩ := hh; have hma := A9M (.inr rfl) (ha0 (by omega)) (ha1 (by omega)); obtain ⟨p1, c1, e1, rfl, _⟩ := hmr.open)
 refine aP 7 rfl (pX rfl rfl) rfl ?_
 refine aP 8 rfl (pX rfl rfl) rfl ?_
 refine A4 9 ?_
 refine I2 rfl ?_
 refine aP 10 rfl (qA rfl) rfl ?_
 refine B0 ?_
 refine E9 (rC rfl (A5 rfl rfl)) (rT rfl) ?_
 (obtain rfl : k = 10 := (by omega); exact R7.mk (by rw [B6A (by omega)]) hmr hma)
 refine A8 ?_
 refine sB (qE rfl rfl) rfl rfl (fun h321 => ?_) (fun h321 => ?_)
 refine B5 ?_
 (have hl1 : ts.length = 1 := hop.2.2 (by omega); obtain ⟨b0, o0, q0, d0, hp0, hat0, hre0, hg0⟩ := hsl.kidTy hkl (i := 0) (by omega) (by omega); cases hp0; refine sP (B6 (j := 0) rfl rfl rfl (by omega)) rfl rfl ?_)
 refine sL (A2 rfl rfl (hat0 _) rfl) rfl rfl ?_
 focus (refine D9 rfl (A3z 5 ts[0] G _ (.inr rfl) (ha0 (by omega)) hre0) rfl rfl (fun v G1 hle1 hh => ?_); obtain ⟨ma, mca, mb, mcb, rfl, hma, hmb, hma2, hmb2, hpp⟩ := hh; obtain ⟨p1, c1, e1, rfl, _⟩ := hma.open; obtain ⟨p2, c2, e2, rfl, _⟩ := hmb.open; rcases hm : R2 5 ts[0] with _ | pr; rotate_left; obtain rfl := hpp _ hm; rotate_left; all_goals simp only [Option.isSome])
 refine B4 ?_
 refine sE (A7 rfl) rfl (fun b336 => ?_)
 refine sE (A7 rfl) rfl (fun b337 => ?_)
 refine K0 ?_
 refine E9 (rC rfl (A5 rfl rfl)) (rT rfl) ?_
 (have hk11 : k = 11 := (by omega); exact R7.no (by rw [A5x (.inl hk11) (by omega), hm]) hma hma2)
 refine B4 ?_
 refine sE (A7 rfl) rfl (fun b360 => ?_)
 refine sE (A7 rfl) rfl (fun b361 => ?_)
 refine K0 ?_
 refine E9 (rC rfl (A5 rfl rfl)) (rT rfl) ?_
 (have hk11 : k = 11 := (by omega); exact R7.yes (by rw [A5x (.inl hk11) (by omega), hm]; simp only; rw [if_neg (by omega)]) hma hma2)
 refine A8 ?_
 refine sB (qE rfl rfl) rfl rfl (fun h386 => ?_) (fun h386 => ?_)
 refine B5 ?_
 (have hl1 : ts.length = 1 := hop.2.2 (by omega); obtain ⟨b0, o0, q0, d0, hp0, hat0, hre0, hg0⟩ := hsl.kidTy hkl (i := 0) (by omega) (by omega); cases hp0; refine sP (B6 (j := 0) rfl rfl rfl (by omega)) rfl rfl ?_)
 refine sL (A2 rfl rfl (hat0 _) rfl) rfl rfl ?_
 focus (refine D9 rfl (A3z 5 ts[0] G _ (.inr rfl) (ha0 (by omega)) hre0) rfl rfl (fun v G1 hle1 hh => ?_); obtain ⟨ma, mca, mb, mcb, rfl, hma, hmb, hma2, hmb2, hpp⟩ := hh; obtain ⟨p1, c1, e1, rfl, _⟩ := hma.open; obtain ⟨p2, c2, e2, rfl, _⟩ := hmb.open; rcases hm : R2 5 ts[0] with _ | pr; rotate_left; obtain rfl := hpp _ hm; rotate_left; all_goals simp only [Option.isSome])
 refine B4 ?_
 refine sE (A7 rfl) rfl (fun b401 => ?_)
 refine sE (A7 rfl) rfl (fun b402 => ?_)
 refine K0 ?_
 refine E9 (rC rfl (A5 rfl rfl)) (rT rfl) ?_
 (have hk12 : k = 12 := (by omega); exact R7.no (by rw [A5x (.inr hk12) (by omega), hm]) hmb hmb2)
 refine B4 ?_
 refine sE (A7 rfl) rfl (fun b425 => ?_)
 refine sE (A7 rfl) rfl (fun b426 => ?_)
 refine K0 ?_
 refine E9 (rC rfl (A5 rfl rfl)) (rT rfl) ?_
 (have hk12 : k = 12 := (by omega); exact R7.yes (by rw [A5x (.inr hk12) (by omega), hm]; simp only; rw [if_pos (by omega)]) hmb hmb2)
 refine A8 ?_
 refine sP (X5 rfl rfl (by omega)) rfl rfl ?_
 refine B0 ?_
 (have hl1 : ts.length = 1 := hop.2.2 (by omega); obtain ⟨b0, o0, q0, d0, hp0, hat0, hre0, hg0⟩ := hsl.kidTy hkl (i := 0) (by omega) (by omega); cases hp0; refine E2 E4 rfl ?_)
 refine J4 (i := 0) (l' := [tt,ff,ff,ff,ff,ff,ff,ff,ff,ff,ff]) rfl D6 (B9 rfl) rfl (by kernel_rfl) rfl rfl ?_
 refine aL 1 rfl (A5 rfl rfl) rfl ?_
 refine aP 3 rfl (qM rfl) rfl ?_
 refine aP 4 rfl (B6 (j := 0) rfl rfl rfl (by omega)) rfl ?_
 refine aL 5 rfl (A2 rfl rfl (hat0 _) rfl) rfl ?_
 refine aP 6 rfl (B9 rfl) rfl ?_
 refine aL 7 rfl (A5 rfl rfl) rfl ?_
 refine A4 2 ?_
 (refine H7 rfl rfl (P7 (.mk tk tks) G _ hty.small hrty) rfl rfl rfl (fun v G1 hle1 hh => ?_); obtain ⟨cs1, F1, rfl, hs1, hn1⟩ := hh; obtain ⟨p1, c1, rfl, _⟩ := hs1.open; have hmr := hs1.R.mono (C5.le G1 G); have hre0q := hre0.mono hle1; have hrtyq := hrty.mono hle1)
 refine A4 8 ?_
 refine N3 rfl rfl ((A1T ts[0] (.mk tk tks) _ _ _ (ha0 (by omega)) hty hre0q hrtyq)) rfl rfl rfl ?_
 refine A4 9 ?_
 refine I2 rfl ?_
 refine aP 10 rfl (qA rfl) rfl ?_
 refine B0 ?_
 refine E9 (rC rfl (A5 rfl rfl)) (rT rfl) ?_
 (obtain rfl : k = 13 := (by omega); exact R7.mk (by rw [B6B (by omega)]) hmr hty)
section
variable {ak bk : Int} {aks bks : List Ty}
theorem B6E (h : ak ≠ bk) : M5 (.mk ak aks) (.mk bk bks) = false := by rw [A3d, decide_eq_false h]; rfl
theorem B6F (h : aks.length ≠ bks.length) : M5 (.mk ak aks) (.mk bk bks) = false := by
 rw [A3d]
 cases hl : A0i aks bks with
 | false => simp
 | true => exact absurd ((A3Z _ _).1 hl).1 h
theorem B6G {i : Nat} (hi : i < aks.length) (hi' : i < bks.length) (h : M5 aks[i] bks[i] = false) : M5 (.mk ak aks) (.mk bk bks) = false := by
 rw [A3d]
 cases hl : A0i aks bks with
 | false => simp
 | true => have := ((A3Z _ _).1 hl).2 i hi hi'; rw [h] at this; cases this
theorem B6H (hk : ak = bk) (hl : aks.length = bks.length) (h : ∀ i, (h : i < aks.length) → (h' : i < bks.length) → M5 aks[i] bks[i] = true) : M5 (.mk ak aks) (.mk bk bks) = true := by
 rw [A3d, decide_eq_true hk, (A3Z _ _).2 ⟨hl, h⟩]; rfl
end
theorem B1j : ∀ (a b : Ty) (G : IM) (ca cb : List Value), C3 G a ca → C3 G b cb → Fn Tryz.prog 192 [.agg ⟨ca⟩, .agg ⟨cb⟩] [] G (I5 (.bool (M5 a b)) G) := by
 refine Ty.ind fun ak aks ih b G ca cb hra hrb => ?_
 obtain ⟨bk, bks⟩ := b
 obtain ⟨pa, cca, ea, rfl, hak, hsla, hkla⟩ := hra.open
 obtain ⟨pb, ccb, eb, rfl, hbk, hslb, hklb⟩ := hrb.open
 simp only [Ty.k, Ty.ks] at hak hsla hkla hbk hslb hklb ⊢
 have hna := hsla.le
 have hnb := hslb.le
 have e1 := @B6E ak bk aks bks
 have e2 := @B6F ak bk aks bks
 have e3 := fun i => @B6G ak bk aks bks i
 have e4 := @B6H ak bk aks bks
 generalize M5 (.mk ak aks) (.mk bk bks) = R at e1 e2 e3 e4 ⊢
 refine C1 Tryz.func192 rfl Tryz.ntmps192 Tryz.results192 rfl ?_
 intro w0
 refine A3 ?_
 refine sE (C7 rfl rfl) rfl (fun b3 => ?_)
 refine sE (C7 rfl rfl) rfl (fun b4 => ?_)
 refine J3 ?_
 refine sB (N5 rfl rfl) rfl rfl (fun h15 => ?_) (fun h15 => ?_)
 refine A0e ?_
 (exact ⟨rfl, by rw [e1 (by omega)], rfl⟩)
 refine B5 ?_
 refine sB (N5 rfl rfl) rfl rfl (fun h44 => ?_) (fun h44 => ?_)
 refine K5 ?_
 (exact ⟨rfl, by rw [e2 (by omega)], rfl⟩)
 refine K5 ?_
 refine C0 ?_
 (refine J0 (fun (i : Nat) => ⟨[(5, .int .i64 i), (2, .pointer (some ⟨b3, 0, none⟩)), (3, .pointer (some ⟨b4, 0, none⟩))], [.blk b4 [.int .i64 bk, .slice pb bks.length ccb], .blk b3 [.int .i64 ak, .slice pa aks.length cca]], G⟩) (fun i => i ≤ aks.length ∧ ∀ j, (h : j < aks.length) → (h' : j < bks.length) → j < i → M5 aks[j] bks[j] = true) (fun i => aks.length - i) 0 ?_ ?_ ?_)
 exact D2
 (exact ⟨Nat.zero_le _, fun j _ _ hj => absurd hj (Nat.not_lt_zero j)⟩)
 (rintro i ⟨hi, hall⟩)
 refine B5 ?_
 refine sB (I8 rfl rfl) rfl rfl (fun h82 => ?_) (fun h82 => ?_)
 refine A8 ?_
 refine C0 ?_
 refine tS ?_
 (obtain ⟨b, o, q0, d0, hp0, hat0, hre0, hg0⟩ := hsla.kidTy hkla (i := i) (by omega) (by omega); obtain ⟨b', o', q1, d1, hp1, hat1, hre1, hg1⟩ := hslb.kidTy hklb (i := i) (by omega) (by omega); subst hp0; subst hp1; have hih := ih aks[i] (List.getElem_mem (by omega)) bks[i] G _ _ hre0 hre1; refine E2 E4 rfl ?_)
 refine J4 (i := 0) (l' := [tt,ff,ff,ff,ff,ff,ff,ff,ff,ff,ff,ff]) rfl D6 (B9 rfl) rfl (by kernel_rfl) rfl rfl ?_
 refine aL 1 rfl (C8 rfl rfl) rfl ?_
 refine aP 2 rfl (qM rfl) rfl ?_
 refine aP 3 rfl (B6 rfl rfl rfl (by omega)) rfl ?_
 refine aL 4 rfl (A2 rfl rfl (hat0 _) rfl) rfl ?_
 refine aP 5 rfl (B9 rfl) rfl ?_
 refine aL 6 rfl (C8 rfl rfl) rfl ?_
 refine aP 7 rfl (qM rfl) rfl ?_
 refine aP 8 rfl (B6 rfl rfl rfl (by omega)) rfl ?_
 refine aL 9 rfl (A2 rfl rfl (hat1 _) rfl) rfl ?_
 refine A4 10 ?_
 refine T8 rfl rfl (hih) rfl rfl rfl (fun h103 => ?_) (fun h103 => ?_)
 refine aP 11 rfl (pNt rfl) rfl ?_
 refine D1 ?_
 refine sP (H5 rfl rfl (by omega) (by omega)) rfl rfl ?_
 refine A3 ?_
 refine I1 (i + 1) ?_ ?_ ?_
 exact D2
 (exact ⟨by omega, fun j h h' hj => by by_cases hji : j = i; (subst hji; assumption); exact hall j h h' (by omega)⟩)
 omega
 refine aP 11 rfl (pNf rfl) rfl ?_
 refine I7 ?_
 (exact ⟨rfl, by rw [e3 i (by omega) (by omega) (by assumption)], rfl⟩)
 refine I7 ?_
 (exact ⟨rfl, by rw [e4 (by omega) (by omega) (fun j h h' => hall j h h' (by omega))], rfl⟩)
theorem A7w {Q : Prop} (h : Q := by (exact ⟨rfl, _, _, rfl, S9.snoc (nm := nm) (t := .mk k ks) hx1 h2.len h2.all h2.one h3 hle5 ⟨_, _, rfl, hr.mono hle5⟩ hsl5⟩)) : Q := h
theorem B1k (G : IM) (cx : Cx) (p : Option Addr) (n c : Nat) (nm : ByteArray) (t : Ty) (cells : List Value) (hx : S9 G cx p n c) (hn : n ≤ 1000) (hr : C3 G t cells) :
  Fn Tryz.prog 141 [.slice p n c, .string nm, .agg ⟨cells⟩] [] G (K1 fun G' v => ∃ p' c', v = .slice p' (n + 1) c' ∧ S9 G' (cx ++ [(nm, t)]) p' (n + 1) c') := by
 obtain ⟨k, ks⟩ := t
 obtain ⟨q, d, es0, rfl, _⟩ := hr.open
 simp only [Ty.k, Ty.ks] at hr ⊢
 obtain ⟨hx1, es, h2, h3⟩ := id hx
 have hSl : Sl G p n c 3 es.flatten := h2.1
 have h1c : ∀ u ∈ es.flatten, u.oneCell' = true := by
  intro u hu
  obtain ⟨e, he, hue⟩ := List.mem_flatten.1 hu
  exact List.all_eq_true.1 (h2.one e he) u hue
 refine C1 Tryz.func141 rfl Tryz.ntmps141 Tryz.results141 rfl ?_
 intro w0
 refine A3 ?_
 refine sE (C7 rfl rfl) rfl (fun b3 => ?_)
 refine B4 ?_
 refine E2 E4 rfl ?_
 refine J4 (i := 1) (l' := [ff,tt,ff,ff,ff,ff,ff,ff,ff]) rfl D6 (qM rfl) rfl (by kernel_rfl) rfl rfl ?_
 refine aP 3 rfl (qM rfl) rfl ?_
 refine aL 4 rfl (A5 rfl rfl) rfl ?_
 refine aP 5 rfl (X0 rfl rfl) rfl ?_
 refine Q8 (j := 0) (j' := 6) (by kernel_rfl) ?_ ?_
 (refine E5 rfl (D0 rfl rfl rfl (by omega) (by unfold maxLen; omega) rfl) rfl rfl ?_; rintro _ ⟨b14, rfl⟩)
 refine Q8 (j := 2) (j' := 6) (by kernel_rfl) ?_ ?_
 (refine A3f rfl rfl rfl rfl rfl rfl (fun _ _ => by repeat (first | exact Sw.here | apply Sw.there)) hSl h1c (Nat.zero_le _) (by unfold maxLen; omega) (by omega) rfl rfl (by repeat (first | exact B2.nil | apply B2.dep (by decide +kernel) | apply B2.blk (by decide +kernel) (by repeat (first | exact Pk.here | apply Pk.there)) (by repeat first | exact mH | apply mT))) (fun p4 c4 => ?_); simp only [Nat.zero_add, List.nil_append])
 refine A4 6 ?_
 (refine E5 rfl (D0 rfl rfl rfl (by omega) (by unfold maxLen; omega) rfl) rfl rfl ?_; rintro _ ⟨b18, rfl⟩)
 refine A4 7 ?_
 (refine R0 rfl rfl rfl rfl rfl rfl (fun _ _ => by repeat (first | exact Sw.here | apply Sw.there)) (M1 (by repeat first | exact mH | apply mT)) rfl (by simp [Value.oneCell']) (by unfold maxLen; omega) (by omega) rfl rfl (by repeat (first | exact B2.nil | apply B2.dep (by decide +kernel) | apply B2.blk (by decide +kernel) (by repeat (first | exact Pk.here | apply Pk.there)) (by repeat first | exact mH | apply mT))) (fun p5 c5 => ?_))
 refine aP 8 rfl (qA rfl) rfl ?_
 refine A3 ?_
 (refine F0 (cs := es.flatten ++ [.string nm, .int .i64 k, .slice q ks.length d]) (by repeat (first | exact Pk.here | apply Pk.there)) (fun G5 hle5 hsl5 hno5 => ?_))
 refine A3 ?_
 exact A7w
 (refine E5 rfl (D0 rfl rfl rfl (by omega) (by unfold maxLen; omega) rfl) rfl rfl ?_; rintro _ ⟨b28, rfl⟩)
 refine A4 2 ?_
 (refine A3f rfl rfl rfl rfl rfl rfl (fun _ _ => by repeat (first | exact Sw.here | apply Sw.there)) hSl h1c (Nat.zero_le _) (by unfold maxLen; omega) (by omega) rfl rfl (by repeat (first | exact B2.nil | apply B2.dep (by decide +kernel) | apply B2.blk (by decide +kernel) (by repeat (first | exact Pk.here | apply Pk.there)) (by repeat first | exact mH | apply mT))) (fun p4 c4 => ?_); simp only [Nat.zero_add, List.nil_append])
 refine A4 7 ?_
 (refine R0 rfl rfl rfl rfl rfl rfl (fun _ _ => by repeat (first | exact Sw.here | apply Sw.there)) (M1 (by repeat first | exact mH | apply mT)) rfl (by simp [Value.oneCell']) (by unfold maxLen; omega) (by omega) rfl rfl (by repeat (first | exact B2.nil | apply B2.dep (by decide +kernel) | apply B2.blk (by decide +kernel) (by repeat (first | exact Pk.here | apply Pk.there)) (by repeat first | exact mH | apply mT))) (fun p5 c5 => ?_))
 refine aP 8 rfl (qA rfl) rfl ?_
 refine A3 ?_
 (refine F0 (cs := es.flatten ++ [.string nm, .int .i64 k, .slice q ks.length d]) (by repeat (first | exact Pk.here | apply Pk.there)) (fun G5 hle5 hsl5 hno5 => ?_))
 refine A3 ?_
 exact A7w
 (refine E5 rfl (D0 rfl rfl rfl (by omega) (by unfold maxLen; omega) rfl) rfl rfl ?_; rintro _ ⟨b40, rfl⟩)
 refine A4 0 ?_
 (refine E5 rfl (D0 rfl rfl rfl (by omega) (by unfold maxLen; omega) rfl) rfl rfl ?_; rintro _ ⟨b42, rfl⟩)
 refine A4 2 ?_
 (refine A3f rfl rfl rfl rfl rfl rfl (fun _ _ => by repeat (first | exact Sw.here | apply Sw.there)) hSl h1c (Nat.zero_le _) (by unfold maxLen; omega) (by omega) rfl rfl (by repeat (first | exact B2.nil | apply B2.dep (by decide +kernel) | apply B2.blk (by decide +kernel) (by repeat (first | exact Pk.here | apply Pk.there)) (by repeat first | exact mH | apply mT))) (fun p4 c4 => ?_); simp only [Nat.zero_add, List.nil_append])
 refine A4 7 ?_
 (refine R0 rfl rfl rfl rfl rfl rfl (fun _ _ => by repeat (first | exact Sw.here | apply Sw.there)) (M1 (by repeat first | exact mH | apply mT)) rfl (by simp [Value.oneCell']) (by unfold maxLen; omega) (by omega) rfl rfl (by repeat (first | exact B2.nil | apply B2.dep (by decide +kernel) | apply B2.blk (by decide +kernel) (by repeat (first | exact Pk.here | apply Pk.there)) (by repeat first | exact mH | apply mT))) (fun p5 c5 => ?_))
 refine aP 8 rfl (qA rfl) rfl ?_
 refine A3 ?_
 (refine F0 (cs := es.flatten ++ [.string nm, .int .i64 k, .slice q ks.length d]) (by repeat (first | exact Pk.here | apply Pk.there)) (fun G5 hle5 hsl5 hno5 => ?_))
 refine A3 ?_
 exact A7w
theorem B1l {cx : Cx} : ∀ {ks : List Tm} {i : Nat} {us : List Ty} {u : Ty} (hi : i < ks.length), W2 cx (ks.take i) = some us → Q2 cx ks[i] = some u → W2 cx (ks.take (i + 1)) = some (us ++ [u])
 | [], i, us, u, hi, _, _ => by simp at hi
 | t :: ts, 0, us, u, _, h1, h2 => by
  simp only [List.take_zero, W2, Option.some.injEq] at h1
  subst h1
  simp only [List.getElem_cons_zero] at h2
  simp [W2, h2]
 | t :: ts, i + 1, us, u, hi, h1, h2 => by
  simp only [List.take_succ_cons, W2] at h1 ⊢
  split at h1
  ·cases h1
  ·rename_i a ha
   split at h1
   ·cases h1
   ·rename_i bs has
    simp only [Option.some.injEq] at h1
    subst h1
    simp only [List.getElem_cons_succ] at h2
    have := B1l (ks := ts) (i := i) (by simpa using hi) has h2
    simp only [this, List.cons_append]
theorem B1m {cx : Cx} : ∀ {ks : List Tm} {i : Nat} (hi : i < ks.length), Q2 cx ks[i] = none → W2 cx ks = none
 | [], i, hi, _ => by simp at hi
 | t :: ts, 0, _, h => by simp only [List.getElem_cons_zero] at h; rw [W2, h]
 | t :: ts, i + 1, hi, h => by
  simp only [List.getElem_cons_succ] at h
  have := B1m (ks := ts) (i := i) (by simpa using hi) h
  rw [W2, this]
  cases Q2 cx t <;> rfl
section
variable {cx : Cx} {k : Int} {nm : ByteArray} {num : Int} {ty fr : Ty} {lb : Int} {ks : List Tm}
theorem B6I (hk : k = 1) (h0 : ks = []) : Q2 cx (.mk k nm num ty fr lb ks) = A0j cx nm := by
 subst hk h0
 rw [Q2, W2]
 simp only [X2, mW1]
 cases A0j cx nm with
 | none => rfl
 | some t => simp
theorem B6J (hk : k = 2) (h0 : ks = []) : Q2 cx (.mk k nm num ty fr lb ks) = some T4 := by subst hk h0; rfl
theorem B6K (hk : k = 3 ∨ k = 4) (h0 : ks = []) : Q2 cx (.mk k nm num ty fr lb ks) = some X7 := by subst h0; rcases hk with rfl | rfl <;> rfl
theorem B6L {b : Tm} (hk : k = 5) (h : Q2 (cx ++ [(nm, ty)]) b = none) : Q2 cx (.mk k nm num ty fr lb [b]) = none := by
 subst hk; rw [Q2, O0, if_pos rfl, W2, h]
theorem B6M {b : Tm} {t : Ty} (hk : k = 5) (h : Q2 (cx ++ [(nm, ty)]) b = some t) : Q2 cx (.mk k nm num ty fr lb [b]) = if H1 (.mk 4 [ty, t]) = true then some (.mk 4 [ty, t]) else none := by
 subst hk
 rw [Q2, O0, if_pos rfl, W2, h]
 simp only [W2, X2, mW5, List.getD_cons_zero]
 cases H1 (.mk 4 [ty, t]) <;> simp
theorem B6N (hk : k ≠ 5) (h : W2 cx ks = none) : Q2 cx (.mk k nm num ty fr lb ks) = none := by rw [Q2, O0, if_neg hk, h]
theorem B6O {ts : List Ty} (hk : k ≠ 5) (h : W2 cx ks = some ts) : Q2 cx (.mk k nm num ty fr lb ks) = X2 cx k nm ty ts := by rw [Q2, O0, if_neg hk, h]
end
theorem B1n {Q : Prop} (h : Q := by (rw [f3 (by omega)]; exact R7.yes rfl (A0t _) (W5 (by omega) (by omega)))) : Q := h
theorem A7x {Q : Prop} (h : Q := by (rw [f4 (by omega) (by omega) (by first | exact hE | assumption)]; exact R7.no rfl (O1 _ ⟨by omega, by omega⟩) (W5 (by omega) (by omega)))) : Q := h
theorem A7y {Q : Prop} (h : Q := by (rw [f5 _ (by omega) (by omega) (by first | exact hE | assumption)]; exact R7.mk rfl hmr2 (A9M (.inl rfl) hta hma))) : Q := h
theorem B1o : ∀ (e : Tm) (d : Int) (cx : Cx) (G : IM) (p : Option Addr) (n c : Nat) (cells : List Value), M8 12 14 e d = true → (n : Int) ≤ d → Z8 cx → S9 G cx p n c → B1 G e cells →
  Fn Tryz.prog 140 [.slice p n c, .agg ⟨cells⟩] [] G (R7 (Q2 cx e) G) := by
 refine Tm.ind fun k nm num ty fr lb ks ih d cx G p n c cells hv hnd hcv hx hr => ?_
 have hr0 := hr
 have hone := hr.one
 obtain ⟨hv1, hv2, hv3, hv4⟩ := A0P hv
 have hvk := (A1n 12 14 ks _).1 hv4
 have har := (T9.1 hv3).1
 have hop := A3j har
 obtain ⟨hta, hts⟩ := A3k hv3
 have hkr : 1 ≤ k ∧ k ≤ 14 := A4f (by rw [har]; omega)
 have hcv5 : k = 5 → Z8 (cx ++ [(nm, ty)]) := fun hk => by have := A38 (k := k) (nm := nm) (ty := ty) hcv fun hk => (T9.1 hv3).2.2.2.2.2.1 (.inl hk); rwa [O0, if_pos hk] at this
 have h0 : k ≤ 4 → ks = [] := fun h => List.length_eq_zero_iff.1 (by
  have hk : k = 1 ∨ k = 2 ∨ k = 3 ∨ k = 4 := by omega
  rcases hk with rfl | rfl | rfl | rfl
  ·have : E6 1 = 0 := rfl; omega
  ·have : E6 2 = 0 := rfl; omega
  ·have : E6 3 = 0 := rfl; omega
  ·have : E6 4 = 0 := rfl; omega)
 have f1 := fun hk => @B6I cx k nm num ty fr lb ks hk (h0 (by omega))
 have f2 := fun hk => @B6J cx k nm num ty fr lb ks hk (h0 (by omega))
 have f3 := fun hk => @B6K cx k nm num ty fr lb ks hk (h0 (by omega))
 have f4 : ∀ (hk : k = 5) (hl : 0 < ks.length), Q2 (cx ++ [(nm, ty)]) ks[0] = none → Q2 cx (.mk k nm num ty fr lb ks) = none := fun hk hl h => by
  obtain ⟨b, rfl⟩ := ks1 (hop.2.2 (.inl hk)); exact B6L hk h
 have f5 : ∀ (t : Ty) (hk : k = 5) (hl : 0 < ks.length), Q2 (cx ++ [(nm, ty)]) ks[0] = some t → Q2 cx (.mk k nm num ty fr lb ks) = if H1 (.mk 4 [ty, t]) = true then some (.mk 4 [ty, t]) else none := fun t hk hl h => by
  obtain ⟨b, rfl⟩ := ks1 (hop.2.2 (.inl hk)); exact B6M hk h
 have f6 := @B6N cx k nm num ty fr lb ks
 have f7 := fun ts => @B6O cx k nm num ty fr lb ks ts
 generalize Q2 cx (.mk k nm num ty fr lb ks) = R at f1 f2 f3 f4 f5 f6 f7 ⊢
 obtain ⟨tk, tks⟩ := ty
 obtain ⟨fk, fks⟩ := fr
 obtain ⟨pt, ct, pf, cf, q, cq, es, rfl, hk, hnum, hlb, hty, hfr, hsl, hkl⟩ := hr.open9
 have hlen : ks.length ≤ 3 := by have := A1r k; omega
 refine C1 Tryz.func140 rfl Tryz.ntmps140 Tryz.results140 rfl ?_
 intro w0
 refine A3 ?_
 refine sE (C7 rfl rfl) rfl (fun b3 => ?_)
 refine sE (A7 rfl) rfl (fun b4 => ?_)
 refine J3 ?_
 refine C0 (tS (tR (sB (qE rfl rfl) rfl rfl (fun h18 => ?_) (fun h18 => ?_))))
 refine E0 ?_
 (refine D9 rfl (B6x G cx hcv p n c nm hx) rfl rfl (fun v G1 hle1 hh => ?_); obtain ⟨mt, mc, rfl, hmr, hma, hmu⟩ := hh; obtain ⟨p1, c1, e1, rfl, _⟩ := hmr.open)
 refine E0 ?_
 refine E9 (rC rfl (A5 rfl rfl)) (rT rfl) ?_
 (rw [f1 (by omega)]; exact ⟨rfl, _, _, rfl, hmr, hma, hmu⟩)
 refine A8 ?_
 refine sB (qE rfl rfl) rfl rfl (fun h46 => ?_) (fun h46 => ?_)
 refine A8 ?_
 refine E8 rfl ((A0D _)) rfl rfl ?_
 refine B5 ?_
 refine E9 (rC rfl (A5 rfl rfl)) (rT rfl) ?_
 (rw [f2 (by omega)]; exact R7.yes rfl (K8 _) (W5 (by omega) (by omega)))
 refine B5 ?_
 refine sB (qE rfl rfl) rfl rfl (fun h70 => ?_) (fun h70 => ?_)
 refine E0 ?_
 refine E8 rfl ((A3h _)) rfl rfl ?_
 refine B5 ?_
 refine E9 (rC rfl (A5 rfl rfl)) (rT rfl) ?_
 exact B1n
 refine B0 ?_
 refine sB (qE rfl rfl) rfl rfl (fun h95 => ?_) (fun h95 => ?_)
 refine A8 ?_
 refine E8 rfl ((A3h _)) rfl rfl ?_
 refine B5 ?_
 refine E9 (rC rfl (A5 rfl rfl)) (rT rfl) ?_
 exact B1n
 refine A8 ?_
 refine sB (qE rfl rfl) rfl rfl (fun h118 => ?_) (fun h118 => ?_)
 refine B0 ?_
 (have hl1 : ks.length = 1 := hop.2.2 (by omega); obtain ⟨b, o, e, rfl, hl, hat, hre, hgb⟩ := hsl.kidTm hkl (i := 0) (by omega) (by omega); have hMore := B1k G cx p n c nm (.mk tk tks) _ hx (by omega) hty; refine E2 E4 rfl ?_)
 refine J4 (i := 0) (l' := [tt,ff,ff,ff,ff,ff,ff,ff,ff,ff,ff,ff,ff,ff,ff,ff,ff]) rfl D6 (qM rfl) rfl (by kernel_rfl) rfl rfl ?_
 refine aP 1 rfl (B9 rfl) rfl ?_
 refine aL 2 rfl (C8 rfl rfl) rfl ?_
 refine aP 3 rfl (B9 rfl) rfl ?_
 refine aL 4 rfl (A5 rfl rfl) rfl ?_
 refine aP 6 rfl (B9 rfl) rfl ?_
 refine aL 7 rfl (C8 rfl rfl) rfl ?_
 refine aP 8 rfl (B6 (j := 0) rfl rfl rfl (by omega)) rfl ?_
 refine aL 9 rfl (A2 rfl rfl (hat _) hl) rfl ?_
 refine Q8 (j := 5) (j' := 14) (by kernel_rfl) ?_ ?_
 (refine H7 rfl rfl hMore rfl rfl rfl (fun v G1 hle1 hh => ?_); obtain ⟨pm, cm, rfl, hxm⟩ := hh; have hreM := hre.mono hle1; have hLam := ih ks[0] (List.getElem_mem (by omega)) (d + 1) _ G1 pm (n + 1) cm _ (hvk 0 (by omega)) (by omega) (hcv5 (by omega)) hxm hreM; have htyM := hty.mono hle1)
 refine Q8 (j := 10) (j' := 14) (by kernel_rfl) ?_ ?_
 focus (refine H7 rfl rfl hLam rfl rfl rfl (fun v G2 hle2 hh => ?_); obtain ⟨mt, mc, rfl, hmr, hma, hmu⟩ := hh; obtain ⟨p1, c1, e1, rfl, _⟩ := hmr.open; have htyN := htyM.mono hle2; rcases hE : Q2 (cx ++ [(nm, Ty.mk tk tks)]) ks[0] with _ | mt2; rotate_left; obtain rfl := hmu _ hE; rotate_left; all_goals simp only [Option.isSome])
 refine aP 11 rfl (qM rfl) rfl ?_
 refine aP 12 rfl (pX rfl rfl) rfl ?_
 refine aP 13 rfl (pX rfl rfl) rfl ?_
 refine A4 14 ?_
 (refine E5 rfl (A7 rfl) rfl rfl ?_; rintro _ ⟨b142, rfl⟩)
 refine A4 15 ?_
 refine I2 rfl ?_
 refine aP 16 rfl (qA rfl) rfl ?_
 refine A0z ?_
 refine E9 (rC rfl (A5 rfl rfl)) (rT rfl) ?_
 exact A7x
 refine aP 11 rfl (qM rfl) rfl ?_
 refine aP 12 rfl (pX rfl rfl) rfl ?_
 refine aP 13 rfl (pX rfl rfl) rfl ?_
 refine A4 14 ?_
 (refine E5 rfl (A7 rfl) rfl rfl ?_; rintro _ ⟨b173, rfl⟩)
 refine A4 15 ?_
 refine I2 rfl ?_
 refine aP 16 rfl (qA rfl) rfl ?_
 refine Q5 ?_
 (refine D9 rfl (A2T 4 (.mk tk tks) _ _ _ _ (.inl rfl) hta hma htyN hmr) rfl rfl (fun v G3 hle3 hh => ?_); obtain ⟨mc2, rfl, hmr2⟩ := hh; obtain ⟨p2, c2, e2, rfl, _⟩ := hmr2.open)
 refine E0 ?_
 refine E9 (rC rfl (A5 rfl rfl)) (rT rfl) ?_
 exact A7y
 (refine E5 rfl (A7 rfl) rfl rfl ?_; rintro _ ⟨b206, rfl⟩)
 refine A4 10 ?_
 focus (refine H7 rfl rfl hLam rfl rfl rfl (fun v G2 hle2 hh => ?_); obtain ⟨mt, mc, rfl, hmr, hma, hmu⟩ := hh; obtain ⟨p1, c1, e1, rfl, _⟩ := hmr.open; have htyN := htyM.mono hle2; rcases hE : Q2 (cx ++ [(nm, Ty.mk tk tks)]) ks[0] with _ | mt2; rotate_left; obtain rfl := hmu _ hE; rotate_left; all_goals simp only [Option.isSome])
 refine aP 11 rfl (qM rfl) rfl ?_
 refine aP 12 rfl (pX rfl rfl) rfl ?_
 refine aP 13 rfl (pX rfl rfl) rfl ?_
 refine A4 15 ?_
 refine I2 rfl ?_
 refine aP 16 rfl (qA rfl) rfl ?_
 refine A0z ?_
 refine E9 (rC rfl (A5 rfl rfl)) (rT rfl) ?_
 exact A7x
 refine aP 11 rfl (qM rfl) rfl ?_
 refine aP 12 rfl (pX rfl rfl) rfl ?_
 refine aP 13 rfl (pX rfl rfl) rfl ?_
 refine A4 15 ?_
 refine I2 rfl ?_
 refine aP 16 rfl (qA rfl) rfl ?_
 refine Q5 ?_
 (refine D9 rfl (A2T 4 (.mk tk tks) _ _ _ _ (.inl rfl) hta hma htyN hmr) rfl rfl (fun v G3 hle3 hh => ?_); obtain ⟨mc2, rfl, hmr2⟩ := hh; obtain ⟨p2, c2, e2, rfl, _⟩ := hmr2.open)
 refine E0 ?_
 refine E9 (rC rfl (A5 rfl rfl)) (rT rfl) ?_
 exact A7y
 (refine E5 rfl (A7 rfl) rfl rfl ?_; rintro _ ⟨b273, rfl⟩)
 refine A4 5 ?_
 (refine H7 rfl rfl hMore rfl rfl rfl (fun v G1 hle1 hh => ?_); obtain ⟨pm, cm, rfl, hxm⟩ := hh; have hreM := hre.mono hle1; have hLam := ih ks[0] (List.getElem_mem (by omega)) (d + 1) _ G1 pm (n + 1) cm _ (hvk 0 (by omega)) (by omega) (hcv5 (by omega)) hxm hreM; have htyM := hty.mono hle1)
 refine A4 10 ?_
 focus (refine H7 rfl rfl hLam rfl rfl rfl (fun v G2 hle2 hh => ?_); obtain ⟨mt, mc, rfl, hmr, hma, hmu⟩ := hh; obtain ⟨p1, c1, e1, rfl, _⟩ := hmr.open; have htyN := htyM.mono hle2; rcases hE : Q2 (cx ++ [(nm, Ty.mk tk tks)]) ks[0] with _ | mt2; rotate_left; obtain rfl := hmu _ hE; rotate_left; all_goals simp only [Option.isSome])
 refine aP 11 rfl (qM rfl) rfl ?_
 refine aP 12 rfl (pX rfl rfl) rfl ?_
 refine aP 13 rfl (pX rfl rfl) rfl ?_
 refine A4 15 ?_
 refine I2 rfl ?_
 refine aP 16 rfl (qA rfl) rfl ?_
 refine A0z ?_
 refine E9 (rC rfl (A5 rfl rfl)) (rT rfl) ?_
 exact A7x
 refine aP 11 rfl (qM rfl) rfl ?_
 refine aP 12 rfl (pX rfl rfl) rfl ?_
 refine aP 13 rfl (pX rfl rfl) rfl ?_
 refine A4 15 ?_
 refine I2 rfl ?_
 refine aP 16 rfl (qA rfl) rfl ?_
 refine Q5 ?_
 (refine D9 rfl (A2T 4 (.mk tk tks) _ _ _ _ (.inl rfl) hta hma htyN hmr) rfl rfl (fun v G3 hle3 hh => ?_); obtain ⟨mc2, rfl, hmr2⟩ := hh; obtain ⟨p2, c2, e2, rfl, _⟩ := hmr2.open)
 refine E0 ?_
 refine E9 (rC rfl (A5 rfl rfl)) (rT rfl) ?_
 exact A7y
 refine E0 ?_
 (refine I3 (D0 rfl rfl rfl (by omega) (by unfold maxLen; omega) rfl) rfl ?_; rintro _ ⟨b351, rfl⟩)
 refine E0 ?_
 refine C0 ?_
 (refine J0 (fun (x : Nat × Option Addr × Nat × List Ty × List (List Value) × IM) => ⟨[(9, .int .i64 x.1), (8, .slice x.2.1 x.1 x.2.2.1), (3, .pointer (some ⟨b3, 0, none⟩)), (4, .pointer (some ⟨b4, 0, none⟩)), (0, .slice p n c)], [.slc x.2.1 x.2.2.1 34 2 x.1 x.2.2.2.2.1.flatten, .blk b4 [.int .i64 0, .slice none 0 0], .blk b3 [.int .i64 k, .string nm, .int .i64 num, .int .i64 tk, .slice pt tks.length ct, .int .i64 fk, .slice pf fks.length cf, .int .i64 lb, .slice q ks.length cq]], x.2.2.2.2.2⟩) (fun x => x.1 ≤ ks.length ∧ C2 G x.2.2.2.2.2 ∧ x.2.2.2.1.length = x.1 ∧ C9 x.2.2.2.2.2 x.2.2.2.1 x.2.2.2.2.1 ∧ (∀ u ∈ x.2.2.2.1, F9 u) ∧ W2 cx (ks.take x.1) = some x.2.2.2.1) (fun x => ks.length - x.1) (0, some ⟨b351, 0, none⟩, 0, [], [], G) ?_ ?_ ?_)
 (simp only [H6]; exact D2)
 (exact ⟨by simp, C2.refl _, rfl, by simp [C9], by simp, by simp [W2]⟩)
 (rintro ⟨i, pn, cn, us, es', Gi⟩ ⟨hi, hle, hlu, hst, hau, hsu⟩; simp only [] at hi hle hlu hst hau hsu ⊢; replace hsl := hsl.mono hle; replace hkl := hkl.mono hle; replace hx := hx.mono hle; replace hr0 := hr0.mono hle)
 refine B5 ?_
 refine sB (I8 rfl rfl) rfl rfl (fun h373 => ?_) (fun h373 => ?_)
 refine A8 ?_
 refine C0 ?_
 refine A8 ?_
 (obtain ⟨b, o, e, rfl, hl, hat, hre, hgb⟩ := hsl.kidTm hkl (i := i) (by omega) (by omega); refine sP (B6 rfl rfl rfl (by omega)) rfl rfl ?_)
 refine sL (A2 rfl rfl (hat _) hl) rfl rfl ?_
 focus (refine D9 rfl (ih ks[i] (List.getElem_mem (by omega)) (d + 1) cx Gi p n c _ (hvk i (by omega)) (by omega) hcv hx hre) rfl rfl (fun v G2 hle2 hh => ?_); obtain ⟨u, uc, rfl, hru, hua, huu⟩ := hh; obtain ⟨p3, c3, e3, rfl, _⟩ := hru.open; rcases hE : Q2 cx ks[i] with _ | u2; rotate_left; obtain rfl := huu _ hE; rotate_left; all_goals simp only [Option.isSome])
 refine B7 ?_
 refine sE (A7 rfl) rfl (fun b393 => ?_)
 refine A4D ?_
 refine E9 (rC rfl (A5 rfl rfl)) (rT rfl) ?_
 (rw [f6 (by omega) (B1m (by omega) hE)]; exact R7.no rfl (O1 _ ⟨by omega, by omega⟩) (W5 (by omega) (by omega)))
 refine B7 ?_
 refine sE (A7 rfl) rfl (fun b425 => ?_)
 refine Q5 ?_
 (refine I3 (D0 rfl rfl rfl (by omega) (by unfold maxLen; omega) rfl) rfl ?_; rintro _ ⟨b443, rfl⟩)
 refine Y5 rfl rfl rfl rfl rfl (fun _ _ => by repeat (first | exact Sw.here | apply Sw.there)) (M1 (by repeat first | exact mH | apply mT)) rfl (by simp [Value.oneCell']) (by unfold maxLen; omega) (by omega) rfl (fun pn' cn' => ?_)
 refine A8 ?_
 refine sP (H5 rfl rfl (by omega) (by omega)) rfl rfl ?_
 refine A3 ?_
 refine I1 (i + 1, pn', cn', us ++ [u2], es' ++ [[.int .i64 u2.k, .slice p3 u2.ks.length c3]], G2) ?_ ?_ ?_
 (simp only [H6]; exact D2)
 (dsimp only; exact ⟨by omega, hle.trans hle2, by simp [hlu], C9.snoc (hst.mono hle2) hru, A3i hau hua, B1l (by omega) hsu hE⟩)
 exact V0
 refine K5 ?_
 (obtain rfl : i = ks.length := (by omega); rw [List.take_length] at hsu; refine R9 (cs := es'.flatten) (by repeat (first | exact Pk.here | apply Pk.there)) (fun G3 hle3 hsl3 hno3 => ?_); have hst3 := hst.mono hle3; have hRes := B6D cx k nm num (.mk tk tks) (.mk fk fks) lb ks us G3 _ pn cn es' (by rw [hlu]; exact har) (by omega) hta (hr0.mono hle3) (by rw [hlu]; exact D7.of hsl3 (by rw [hst3.len, hlu]) hst3.all (fun e he => (hst3.each e he).2)) hst3 hau; rw [hlu] at hRes; refine D9 rfl hRes rfl rfl (fun v G4 hle4 hh => ?_); obtain ⟨mt, mc, rfl, hmr, hma, hmu⟩ := hh; obtain ⟨p1, c1, e1, rfl, _⟩ := hmr.open)
 refine B5 ?_
 refine E9 (rC rfl (A5 rfl rfl)) (rT rfl) ?_
 (rw [f7 us (by omega) hsu]; exact ⟨rfl, _, _, rfl, hmr, hma, hmu⟩)
theorem B6P {t : Ty} (ha : F9 t) : V1 t = .mk t.k (List.replicate t.ks.length O8) := by
 obtain ⟨k, ks⟩ := t
 rw [F9] at ha
 show (if k = 4 ∨ k = 5 then Ty.mk k [O8, O8] else .mk k []) = _
 show _ = Ty.mk k (List.replicate ks.length O8)
 split
 ·rename_i h; rw [ha.1 h]; rfl
 ·rename_i h
  rw [ha.2.1 (fun e => h (.inl e)) (fun e => h (.inr e))]; rfl
theorem A7z (t : Ty) (G : IM) (cells : List Value) (ha : F9 t) (hr : C3 G t cells) : Fn Tryz.prog 212 [.agg ⟨cells⟩] [] G (A6V (V1 t) G) := by
 rw [B6P ha]
 obtain ⟨tk, tks⟩ := t
 have hsm := ha.small
 rw [Ty.small] at hsm
 obtain ⟨hsm1, _⟩ := hsm
 obtain ⟨p, c, es, rfl, hk, hsl, hkl⟩ := hr.open
 simp only [Ty.k, Ty.ks] at hk hsl hkl ⊢
 have hn := hsl.le
 refine C1 Tryz.func212 rfl Tryz.ntmps212 Tryz.results212 rfl ?_
 intro w0
 refine A3 ?_
 refine sE (C7 rfl rfl) rfl (fun b3 => ?_)
 refine sE (A7 rfl) rfl (fun b4 => ?_)
 refine B5 ?_
 refine sE (A7 rfl) rfl (fun b12 => ?_)
 refine E0 ?_
 refine C0 ?_
 (refine Q9 34 2 ?_; refine J0 (fun (x : Nat × Option Addr × Nat × List (List Value)) => ⟨[(4, .int .i64 x.1), (3, .pointer (some ⟨b12, 0, none⟩)), (1, .pointer (some ⟨b3, 0, none⟩)), (2, .pointer (some ⟨b4, 0, none⟩))], [.blk b12 [.int .i64 tk, .slice x.2.1 x.1 x.2.2.1], .slc x.2.1 x.2.2.1 34 2 x.1 x.2.2.2.flatten, .blk b4 [.int .i64 0, .slice none 0 0], .blk b3 [.int .i64 tk, .slice p tks.length c]], G⟩) (fun x => x.1 ≤ tks.length ∧ C9 G (List.replicate x.1 O8) x.2.2.2) (fun x => tks.length - x.1) (0, none, 0, []) ?_ ?_ ?_)
 (simp only [H6]; exact D2)
 (exact ⟨Nat.zero_le _, rfl⟩)
 (rintro ⟨i, pn, cn, es'⟩ ⟨hi, hst⟩; simp only [] at hi hst ⊢; have hsl' := hst.len; rw [List.length_replicate] at hsl')
 refine B5 ?_
 refine sB (I8 rfl rfl) rfl rfl (fun h34 => ?_) (fun h34 => ?_)
 refine A8 ?_
 refine C0 ?_
 refine E2 E4 rfl ?_
 refine J4 (i := 0) (l' := [tt,ff,ff,ff,ff,ff,ff]) rfl D6 (B9 rfl) rfl (by kernel_rfl) rfl rfl ?_
 refine aL 1 rfl (C8 rfl rfl) rfl ?_
 refine A4 2 ?_
 refine N3 rfl rfl ((A1q _)) rfl rfl rfl ?_
 refine A4 3 ?_
 (refine E5 rfl (D0 rfl rfl rfl (by omega) (by unfold maxLen; omega) rfl) rfl rfl ?_; rintro _ ⟨b48, rfl⟩)
 refine A4 4 ?_
 refine R0 rfl rfl rfl rfl rfl rfl (fun _ _ => by repeat (first | exact Sw.here | apply Sw.there)) (M1 (by repeat first | exact mH | apply mT)) rfl (by simp [Value.oneCell']) (by unfold maxLen; omega) (by omega) rfl rfl (by repeat (first | exact B2.nil | apply B2.dep (by decide +kernel) | apply B2.im (by decide +kernel) (by assumption) (by repeat first | exact mH | apply mT) | apply B2.blk (by decide +kernel) (by repeat (first | exact Pk.here | apply Pk.there)) (by repeat first | exact mH | apply mT) | apply B2.slc (by decide +kernel) (by repeat (first | exact Pk.here | apply Pk.there)) (by repeat first | exact mH | apply mT))) (fun pn' cn' => ?_)
 refine aP 5 rfl (B9 rfl) rfl ?_
 refine A4 6 ?_
 refine R5 rfl rfl rfl rfl rfl rfl rfl rfl (by decide +kernel) (by repeat first | exact Sw.here | apply Sw.there) (by rfl) ?_
 refine B0 ?_
 refine sP (H5 rfl rfl (by omega) (by omega)) rfl rfl ?_
 refine A3 ?_
 refine I1 (i + 1, pn', cn', es' ++ [[.int .i64 1, .slice none 0 0]]) ?_ ?_ ?_
 (simp only [H6]; exact D2)
 (dsimp only; exact ⟨by omega, by rw [List.replicate_succ']; exact C9.snoc hst (A0O _)⟩)
 (show tks.length - (i + 1) < tks.length - i; omega)
 refine J9 ?_
 (refine F0 (cs := es'.flatten) (by repeat (first | exact Pk.here | apply Pk.there)) (fun G2 hle2 hsl2 hno2 => ?_); obtain rfl : i = tks.length := (by omega))
 refine tT ?_
 refine M3 (rC rfl (A5 rfl rfl)) ?_
 (exact ⟨rfl, _, rfl, (hst.mono hle2).ty (by simp) hsl2 hk⟩)
theorem B1p (t : Ty) (G : IM) (cells : List Value) (ha : F9 t) (hr : C3 G t cells) : Fn Tryz.prog 171 [.agg ⟨cells⟩] [] G (I5 (.bool (U3 t)) G) := by
 refine Fn.forget (post := K1 fun _ v => v = .bool (U3 t)) ?_ (fun _ _ _ h => h.2)
 have hr0 := hr
 have hG := A7z t G cells ha hr
 obtain ⟨tk, tks⟩ := t
 obtain ⟨p, c, es, rfl, hk, _⟩ := hr.open
 simp only [Ty.k, Ty.ks] at hk hr0 hG ⊢
 have hd : U3 (.mk tk tks) = (decide (tk ≠ 1) && M5 (.mk tk tks) (V1 (.mk tk tks))) := rfl
 rw [hd]
 generalize V1 (.mk tk tks) = g at hG ⊢
 refine C1 Tryz.func171 rfl Tryz.ntmps171 Tryz.results171 rfl ?_
 intro w0
 refine A3 ?_
 refine sE (C7 rfl rfl) rfl (fun b3 => ?_)
 refine B4 ?_
 refine E2 E4 rfl ?_
 refine J4 (i := 0) (l' := [tt,ff,ff,ff,ff,ff,ff,ff,ff,ff]) rfl D6 (B9 rfl) rfl (by kernel_rfl) rfl rfl ?_
 refine aL 1 rfl (C8 rfl rfl) rfl ?_
 refine A0v (i := 2) (l' := [tt,tt,tt,ff,ff,ff,ff,ff,ff,ff]) rfl D6 (N5 rfl rfl) rfl (by kernel_rfl) rfl rfl (fun h11 => ?_) (fun h11 => ?_)
 refine aP 3 rfl (qM rfl) rfl ?_
 refine aL 4 rfl (A5 rfl rfl) rfl ?_
 refine aL 5 rfl (A5 rfl rfl) rfl ?_
 refine A4 6 ?_
 (refine H7 rfl rfl hG rfl rfl rfl (fun v G1 hle1 hh => ?_); obtain ⟨cg, rfl, hrg⟩ := hh; have hT := B1j (.mk tk tks) g G1 _ _ (hr0.mono hle1) hrg; obtain ⟨pg, cgg, eg, rfl, _⟩ := hrg.open)
 refine A4 7 ?_
 refine N3 rfl rfl (hT) rfl rfl rfl ?_
 refine aP 8 rfl (M9 rfl rfl) rfl ?_
 refine aP 9 rfl (qA rfl) rfl ?_
 refine B4 ?_
 (refine ⟨rfl, ?_⟩; show Value.bool _ = Value.bool _; rw [decide_eq_true (by omega), Bool.true_and])
 refine aP 3 rfl (qM rfl) rfl ?_
 refine C4 4 rfl rfl rfl ?_
 refine C4 5 rfl rfl rfl ?_
 refine C4 6 rfl rfl rfl ?_
 refine C4 7 rfl rfl rfl ?_
 refine aP 8 rfl (O6 rfl rfl) rfl ?_
 refine aP 9 rfl (qA rfl) rfl ?_
 refine B4 ?_
 (refine ⟨rfl, ?_⟩; show Value.bool _ = Value.bool _; rw [decide_eq_false (by omega), Bool.false_and])
theorem A5y (t : Tm) (G : IM) (cells : List Value) (hr : B1 G t cells) : Fn Tryz.prog 130 [.agg ⟨cells⟩] [] G (I5 (.bool (R3 t)) G) := by
 obtain ⟨k, nm, num, ⟨tk, tks⟩, ⟨fk, fks⟩, lb, ks⟩ := t
 obtain ⟨pt, ct, pf, cf, p, c, es, rfl, hk, hnum, hlb, hty, hfr, hsl, hkl⟩ := hr.open9
 have hd : R3 (.mk k nm num (.mk tk tks) (.mk fk fks) lb ks) = decide (k = 14 ∧ fk = tk ∧ (tk = 4 ∨ tk = 5)) := rfl
 rw [hd]
 refine C1 Tryz.func130 rfl Tryz.ntmps130 Tryz.results130 rfl ?_
 intro w0
 refine A3 ?_
 refine sE (C7 rfl rfl) rfl (fun b3 => ?_)
 refine B5 ?_
 refine sB (qE rfl rfl) rfl rfl (fun h11 => ?_) (fun h11 => ?_)
 refine B5 ?_
 refine sB (qE rfl rfl) rfl rfl (fun h19 => ?_) (fun h19 => ?_)
 refine B0 ?_
 refine sB (qE rfl rfl) rfl rfl (fun h25 => ?_) (fun h25 => ?_)
 refine K5 ?_
 exact A2f
 refine B4 ?_
 refine sB (qE rfl rfl) rfl rfl (fun h43 => ?_) (fun h43 => ?_)
 refine B5 ?_
 exact A2f
 refine B5 ?_
 exact A2O
 refine U7 ?_
 exact A2O
 refine A4D ?_
 exact A2O
theorem A7A (t : Tm) (G : IM) (cells : List Value) (ha : F9 t.fr) (hr : B1 G t cells) : Fn Tryz.prog 131 [.agg ⟨cells⟩] [] G (I5 (.bool (inj t)) G) := by
 obtain ⟨k, nm, num, ⟨tk, tks⟩, ⟨fk, fks⟩, lb, ks⟩ := t
 obtain ⟨pt, ct, pf, cf, p, c, es, rfl, hk, hnum, hlb, hty, hfr, hsl, hkl⟩ := hr.open9
 have hd : inj (.mk k nm num (.mk tk tks) (.mk fk fks) lb ks) = (decide (k = 14 ∧ tk = 1) && U3 (.mk fk fks)) := rfl
 rw [hd]
 have hG := B1p (.mk fk fks) G _ ha hfr
 refine C1 Tryz.func131 rfl Tryz.ntmps131 Tryz.results131 rfl ?_
 intro w0
 refine A3 ?_
 refine sE (C7 rfl rfl) rfl (fun b3 => ?_)
 refine B5 ?_
 refine sB (qE rfl rfl) rfl rfl (fun h11 => ?_) (fun h11 => ?_)
 refine B4 ?_
 refine sB (qE rfl rfl) rfl rfl (fun h16 => ?_) (fun h16 => ?_)
 refine B4 ?_
 refine E8 rfl (hG) rfl rfl ?_
 refine A8 ?_
 (exact ⟨rfl, by rw [decide_eq_true (by omega), Bool.true_and], rfl⟩)
 refine J1 ?_
 exact A5g
 refine K0 ?_
 exact A5g
section
variable {k : Int} {nm : ByteArray} {num : Int} {ty fr : Ty} {lb : Int} {ks : List Tm}
theorem B6Q (h : k = 2 ∨ k = 3 ∨ k = 4 ∨ k = 5) : H2 (.mk k nm num ty fr lb ks) = true := by
 rw [H2, if_neg (by omega)]; exact decide_eq_true h
theorem B6R (h : k = 10) (hl : ks.length = 2) : H2 (.mk k nm num ty fr lb ks) = (H2 (ks[0]'(by omega)) && H2 (ks[1]'(by omega))) := by
 rw [A4e (.inl h)]
 obtain ⟨a, b, rfl⟩ := ks2 hl
 simp
theorem B1q (h : R3 (.mk k nm num ty fr lb ks) = true ∨ inj (.mk k nm num ty fr lb ks) = true) (hl : ks.length = 1) : H2 (.mk k nm num ty fr lb ks) = H2 (ks[0]'(by omega)) := by
 rw [A4e (.inr h)]
 obtain ⟨a, rfl⟩ := ks1 hl
 simp
theorem B6S (h : ¬(k = 2 ∨ k = 3 ∨ k = 4 ∨ k = 5)) (h10 : k ≠ 10) (h2 : R3 (.mk k nm num ty fr lb ks) = false) (h3 : inj (.mk k nm num ty fr lb ks) = false) : H2 (.mk k nm num ty fr lb ks) = false := by
 rw [A5i h10 h2 h3]; exact decide_eq_false h
theorem B6T (h : R3 (.mk k nm num ty fr lb ks) = true ∨ inj (.mk k nm num ty fr lb ks) = true) : k = 14 := by
 rcases h with h | h
 ·exact (prx_spec' h)
 ·exact A5k h
where
 prx_spec' {k : Int} {nm : ByteArray} {num : Int} {ty fr : Ty} {lb : Int} {ks : List Tm} (h : R3 (.mk k nm num ty fr lb ks) = true) : k = 14 := by rw [A1w] at h; exact (of_decide_eq_true h).1
end
theorem A7B {Q : Prop} (h : Q := by (exact ⟨rfl, by rw [e2 (by omega) hl2]; simp [*], rfl⟩)) : Q := h
theorem A5z {Q : Prop} (h : Q := by (exact ⟨rfl, by rw [e3 (by first | exact .inl (by assumption) | exact .inr (by assumption)) hl1]; simp [*], rfl⟩)) : Q := h
theorem A7C : ∀ (t : Tm) (G : IM) (cells : List Value), cv t → B1 G t cells → Fn Tryz.prog 210 [.agg ⟨cells⟩] [] G (I5 (.bool (H2 t)) G) := by
 refine Tm.ind fun k nm num ty fr lb ks ih G cells hc hr => ?_
 obtain ⟨hN, hkk⟩ := hc.node
 have hop := hN.ops
 have h10 : k = 10 → ks.length = 2 := fun h => by rw [h] at hop; have : E6 10 = 2 := rfl; omega
 have h14 : k = 14 → ks.length = 1 := fun h => by rw [h] at hop; have : E6 14 = 1 := rfl; omega
 have hP := A5y _ G _ hr
 have hI := A7A (.mk k nm num ty fr lb ks) G _ hN.frA hr
 have e1 := @B6Q k nm num ty fr lb ks
 have e2 := @B6R k nm num ty fr lb ks
 have e3 := @B1q k nm num ty fr lb ks
 have e4 := @B6S k nm num ty fr lb ks
 have e5 := @B6T k nm num ty fr lb ks
 generalize hpx : R3 (.mk k nm num ty fr lb ks) = bp at hP e3 e4 e5
 generalize hij : inj (.mk k nm num ty fr lb ks) = bi at hI e3 e4 e5
 generalize H2 (.mk k nm num ty fr lb ks) = R at e1 e2 e3 e4 ⊢
 obtain ⟨tk, tks⟩ := ty
 obtain ⟨fk, fks⟩ := fr
 obtain ⟨pt, ct, pf, cf, p, c, es, rfl, hk, hnum, hlb, hty, hfr, hsl, hkl⟩ := hr.open9
 refine C1 Tryz.func210 rfl Tryz.ntmps210 Tryz.results210 rfl ?_
 intro w0
 refine A3 ?_
 refine sE (C7 rfl rfl) rfl (fun b3 => ?_)
 refine J3 ?_
 refine C0 (tS (tS (tR (sB (qE rfl rfl) rfl rfl (fun h18 => ?_) (fun h18 => ?_)))))
 refine K0 ?_
 (exact ⟨rfl, by rw [e1 (by omega)], rfl⟩)
 refine A8 ?_
 refine sB (qE rfl rfl) rfl rfl (fun h42 => ?_) (fun h42 => ?_)
 refine K0 ?_
 (exact ⟨rfl, by rw [e1 (by omega)], rfl⟩)
 refine A8 ?_
 refine sB (qE rfl rfl) rfl rfl (fun h66 => ?_) (fun h66 => ?_)
 refine K0 ?_
 (exact ⟨rfl, by rw [e1 (by omega)], rfl⟩)
 refine B0 ?_
 refine sB (qE rfl rfl) rfl rfl (fun h89 => ?_) (fun h89 => ?_)
 refine J7 ?_
 (exact ⟨rfl, by rw [e1 (by omega)], rfl⟩)
 refine A8 ?_
 refine sB (qE rfl rfl) rfl rfl (fun h110 => ?_) (fun h110 => ?_)
 refine D1 ?_
 (have hl2 := h10 (by omega); obtain ⟨bx, ox, e, rfl, hl, hat, hre, hgb⟩ := hsl.kidTm hkl (i := 0) (by omega) (by omega); have hih := ih ks[0] (List.getElem_mem (by omega)) G e (hkk _ (List.getElem_mem (by omega))) hre; obtain ⟨_, _, e', hp', hl', hat', hre', hgb'⟩ := hsl.kidTm hkl (i := 1) (by omega) (by omega); cases hp'; have hih' := ih ks[1] (List.getElem_mem (by omega)) G e' (hkk _ (List.getElem_mem (by omega))) hre'; refine sP (B6 (j := 0) rfl rfl rfl (by omega)) rfl rfl ?_)
 refine sL (A2 rfl rfl (hat _) hl) rfl rfl ?_
 refine F4 rfl (hih) rfl rfl (fun h121 => ?_) (fun h121 => ?_)
 refine B7 ?_
 refine sP (B6 (j := 1) rfl rfl rfl (by omega)) rfl rfl ?_
 refine sL (A2 rfl rfl (hat' _) hl') rfl rfl ?_
 refine F4 rfl (hih') rfl rfl (fun h127 => ?_) (fun h127 => ?_)
 refine D1 ?_
 exact A7B
 refine D1 ?_
 exact A7B
 refine J9 ?_
 exact A7B
 refine J3 ?_
 refine F4 rfl (hP) rfl rfl (fun h171 => ?_) (fun h171 => ?_)
 refine B5 ?_
 (have hl1 := h14 (by first | exact e5 (.inl (by assumption)) | exact e5 (.inr (by assumption))); obtain ⟨bx, ox, e, rfl, hl, hat, hre, hgb⟩ := hsl.kidTm hkl (i := 0) (by omega) (by omega); have hih := ih ks[0] (List.getElem_mem (by omega)) G e (hkk _ (List.getElem_mem (by omega))) hre; refine sP (B6 (j := 0) rfl rfl rfl (by omega)) rfl rfl ?_)
 refine sL (A2 rfl rfl (hat _) hl) rfl rfl ?_
 refine F4 rfl (hih) rfl rfl (fun h181 => ?_) (fun h181 => ?_)
 refine A8 ?_
 exact A5z
 refine A8 ?_
 exact A5z
 refine A3 ?_
 refine F4 rfl (hI) rfl rfl (fun h198 => ?_) (fun h198 => ?_)
 refine B4 ?_
 (have hl1 := h14 (by first | exact e5 (.inl (by assumption)) | exact e5 (.inr (by assumption))); obtain ⟨bx, ox, e, rfl, hl, hat, hre, hgb⟩ := hsl.kidTm hkl (i := 0) (by omega) (by omega); have hih := ih ks[0] (List.getElem_mem (by omega)) G e (hkk _ (List.getElem_mem (by omega))) hre; refine sP (B6 (j := 0) rfl rfl rfl (by omega)) rfl rfl ?_)
 refine sL (A2 rfl rfl (hat _) hl) rfl rfl ?_
 refine F4 rfl (hih) rfl rfl (fun h205 => ?_) (fun h205 => ?_)
 refine A8 ?_
 exact A5z
 refine A8 ?_
 exact A5z
 refine J7 ?_
 (exact ⟨rfl, by rw [e4 (by omega) (by omega) (by assumption) (by assumption)], rfl⟩)
theorem A7D {Q : Prop} (h : Q := by (exact W6.mk (B1.of9 (ks := [e]) ⟨by omega, by omega⟩ ⟨by omega, by omega⟩ hl (hr2.mono hle5) (hr1.mono hle5) hone1 hone2))) : Q := h
theorem A0Q (e : Tm) (a b : Ty) (l : Int) (G : IM) (ce ca cb : List Value) (hl : F8 l) (he : B1 G e ce) (ha : C3 G a ca) (hb : C3 G b cb) (hsa : a.small) (hsb : b.small) : Fn Tryz.prog 257 [.agg ⟨ce⟩, .agg ⟨ca⟩, .agg ⟨cb⟩, .int .i64 l] [] G (W6 (L3 e a b l)) := by
 have hel := he.len
 have heo := he.one
 obtain ⟨v1, v2, v3, v4, v5, v6, v7, v8, v9, rfl⟩ := nine hel
 obtain ⟨ak, aks⟩ := a
 obtain ⟨bk, bks⟩ := b
 obtain ⟨pa, cca, ea, rfl, _⟩ := ha.open
 obtain ⟨pb, ccb, eb, rfl, _⟩ := hb.open
 refine C1 Tryz.func257 rfl Tryz.ntmps257 Tryz.results257 rfl ?_
 intro w0
 refine A3 ?_
 refine sE (C7 rfl rfl) rfl (fun b3 => ?_)
 refine sE (C7 rfl rfl) rfl (fun b4 => ?_)
 refine sE (C7 rfl rfl) rfl (fun b5 => ?_)
 refine sE (A7 rfl) rfl (fun b6 => ?_)
 refine B7 ?_
 refine E2 E4 rfl ?_
 refine L4 (i := 0) (l' := [tt,ff,ff,ff,ff,ff,ff,ff,ff]) rfl D6 (A5 rfl rfl) rfl (by kernel_rfl) rfl rfl ?_
 refine aL 2 rfl (A5 rfl rfl) rfl ?_
 refine aP 4 rfl (qM rfl) rfl ?_
 refine aL 5 rfl (A5 rfl rfl) rfl ?_
 refine Q8 (j := 1) (j' := 6) (by kernel_rfl) ?_ ?_
 (refine H7 rfl rfl (P7 (.mk ak aks) _ _ hsa ha) rfl rfl rfl (fun v G1 hle1 hh => ?_); obtain ⟨cs1, F1, rfl, hs1, hn1⟩ := hh; obtain ⟨p1, c1, rfl, _⟩ := hs1.open; have hC2 := P7 _ G1 _ hsb (hb.mono hle1))
 refine Q8 (j := 3) (j' := 6) (by kernel_rfl) ?_ ?_
 (refine H7 rfl rfl hC2 rfl rfl rfl (fun v G2 hle2 hh => ?_); obtain ⟨cs2, F2, rfl, hs2, hn2⟩ := hh; obtain ⟨p2, c2, rfl, _⟩ := hs2.open; have hr1 := hs1.R.mono ((C5.le G1 _).trans hle2); have hr2 := hs2.R.mono (C5.le G2 G1); have hre := he.mono (hle1.trans hle2))
 refine A4 6 ?_
 (refine E5 rfl (D0 rfl rfl rfl (by omega) (by unfold maxLen; omega) rfl) rfl rfl ?_; rintro _ ⟨b20, rfl⟩)
 refine aP 7 rfl (X0 rfl rfl) rfl ?_
 refine A4 8 ?_
 refine I2 rfl ?_
 refine A3 ?_
 (refine F0 (cs := [v1, v2, v3, v4, v5, v6, v7, v8, v9]) (by repeat (first | exact Pk.here | apply Pk.there)) (fun G5 hle5 hsl5 hno5 => ?_); obtain ⟨hone1, hone2⟩ := A2C (hre.mono hle5) hsl5)
 refine tT ?_
 refine M3 (rC rfl (A5 rfl rfl)) ?_
 exact A7D
 (refine E5 rfl (D0 rfl rfl rfl (by omega) (by unfold maxLen; omega) rfl) rfl rfl ?_; rintro _ ⟨b30, rfl⟩)
 refine A4 3 ?_
 (refine H7 rfl rfl hC2 rfl rfl rfl (fun v G2 hle2 hh => ?_); obtain ⟨cs2, F2, rfl, hs2, hn2⟩ := hh; obtain ⟨p2, c2, rfl, _⟩ := hs2.open; have hr1 := hs1.R.mono ((C5.le G1 _).trans hle2); have hr2 := hs2.R.mono (C5.le G2 G1); have hre := he.mono (hle1.trans hle2))
 refine aP 7 rfl (X0 rfl rfl) rfl ?_
 refine A4 8 ?_
 refine I2 rfl ?_
 refine A3 ?_
 (refine F0 (cs := [v1, v2, v3, v4, v5, v6, v7, v8, v9]) (by repeat (first | exact Pk.here | apply Pk.there)) (fun G5 hle5 hsl5 hno5 => ?_); obtain ⟨hone1, hone2⟩ := A2C (hre.mono hle5) hsl5)
 refine tT ?_
 refine M3 (rC rfl (A5 rfl rfl)) ?_
 exact A7D
 (refine E5 rfl (D0 rfl rfl rfl (by omega) (by unfold maxLen; omega) rfl) rfl rfl ?_; rintro _ ⟨b42, rfl⟩)
 refine A4 1 ?_
 (refine H7 rfl rfl (P7 (.mk ak aks) _ _ hsa ha) rfl rfl rfl (fun v G1 hle1 hh => ?_); obtain ⟨cs1, F1, rfl, hs1, hn1⟩ := hh; obtain ⟨p1, c1, rfl, _⟩ := hs1.open; have hC2 := P7 _ G1 _ hsb (hb.mono hle1))
 refine A4 3 ?_
 (refine H7 rfl rfl hC2 rfl rfl rfl (fun v G2 hle2 hh => ?_); obtain ⟨cs2, F2, rfl, hs2, hn2⟩ := hh; obtain ⟨p2, c2, rfl, _⟩ := hs2.open; have hr1 := hs1.R.mono ((C5.le G1 _).trans hle2); have hr2 := hs2.R.mono (C5.le G2 G1); have hre := he.mono (hle1.trans hle2))
 refine aP 7 rfl (X0 rfl rfl) rfl ?_
 refine A4 8 ?_
 refine I2 rfl ?_
 refine A3 ?_
 (refine F0 (cs := [v1, v2, v3, v4, v5, v6, v7, v8, v9]) (by repeat (first | exact Pk.here | apply Pk.there)) (fun G5 hle5 hsl5 hno5 => ?_); obtain ⟨hone1, hone2⟩ := A2C (hre.mono hle5) hsl5)
 refine tT ?_
 refine M3 (rC rfl (A5 rfl rfl)) ?_
 exact A7D
theorem B6U (G : IM) : Fn Tryz.prog 258 [.bool true] [] G (W6 (Z7 (true = true))) := by
 refine C1 Tryz.func258 rfl Tryz.ntmps258 Tryz.results258 rfl ?_
 intro w0
 refine A3 ?_
 refine sE (A7 rfl) rfl (fun b3 => ?_)
 refine Q5 ?_
 refine M3 (rC rfl (A5 rfl rfl)) ?_
 exact A5j
theorem B6V (G : IM) : Fn Tryz.prog 258 [.bool false] [] G (W6 (Z7 (false = true))) := by
 refine C1 Tryz.func258 rfl Tryz.ntmps258 Tryz.results258 rfl ?_
 intro w0
 refine A3 ?_
 refine sE (A7 rfl) rfl (fun b3 => ?_)
 refine U7 ?_
 refine M3 (rC rfl (A5 rfl rfl)) ?_
 exact A5j
theorem B1r (b : Bool) (G : IM) : Fn Tryz.prog 258 [.bool b] [] G (W6 (Z7 (b = true))) := by
 cases b
 ·exact B6V G
 ·exact B6U G
theorem A7E {Q : Prop} (h : Q := by (dsimp only; exact ⟨by omega, hle.trans hle3, by rw [B0u (by omega)]; exact E1.snoc (hst.mono hle3) hru⟩)) : Q := h
theorem A7F {Q : Prop} (h : Q := by (rw [if_neg (by rintro ⟨h1, h2⟩; first | omega | contradiction), if_neg (by rintro ⟨h1, h2⟩; first | omega | contradiction)]; rw [List.take_of_length_le (by rw [A1x]; omega)] at hst; exact W6.mk (B1.put hk hnum hlb (hty1.mono hle4) (hfr1.mono hle4) (by rw [A1x]) (D7.of hsl4 (by omega) hst.all (fun e he => (hst.each e he).2)) (hst.mono hle4)))) : Q := h
theorem B6W (y : ByteArray) (v : Tm) (vc : List Value) (hvs : v.small) : ∀ (t : Tm) (G : IM) (cells : List Value), t.small → B1 G t cells → B1 G v vc → Fn Tryz.prog 256 [.agg ⟨cells⟩, .string y, .agg ⟨vc⟩] [] G (W6 (T7 y v t)) := by
 refine Tm.ind fun k nm num ty fr lb ks ih G cells hts hr hv => ?_
 have hr0 := hr
 have hts0 := hts
 obtain ⟨_, htsm, hfsm, hsm, hks⟩ := A0s.1 hts
 have hvl := hv.len
 have hvo := hv.one
 have hRl := hr.len
 have hRo := hr.one
 rw [T7]
 have hCv := A3e v G vc hvs hv
 have hCt := A3e _ G cells hts0 hr0
 obtain ⟨tk, tks⟩ := ty
 obtain ⟨fk, fks⟩ := fr
 obtain ⟨pt, ct, pf, cf, p, c, es, rfl, hk, hnum, hlb, hty, hfr, hsl, hkl⟩ := hr.open9
 have hn := hsl.le
 refine C1 Tryz.func256 rfl Tryz.ntmps256 Tryz.results256 rfl ?_
 intro w0
 refine A3 ?_
 refine sE (C7 rfl rfl) rfl (fun b3 => ?_)
 refine sE (C7 rfl rfl) rfl (fun b4 => ?_)
 refine sE (A7 rfl) rfl (fun b5 => ?_)
 refine B5 ?_
 refine sB (qE rfl rfl) rfl rfl (fun h13 => ?_) (fun h13 => ?_)
 refine B4 ?_
 refine sB (A1G rfl rfl) rfl rfl (fun h18 => ?_) (fun h18 => ?_)
 refine A8 ?_
 refine sL (A2 rfl rfl (A9 (by repeat first | exact mH | apply mT)) hvl) rfl rfl ?_
 (refine D9 rfl hCv rfl rfl (fun v9 G1 hle1 hh => ?_); obtain ⟨uc, F1, rfl, hs1, hn1⟩ := hh; have hru := hs1.R.mono (C5.le G1 G); have hul := hru.len; have huo := hru.one)
 refine sS rfl rfl rfl hul huo rfl ?_ (hu := by exact D4 hul.symm)
 refine B4 ?_
 refine M3 (rC rfl (A2 rfl rfl (A9 (by repeat first | exact mH | apply mT)) hul)) ?_
 (rw [if_pos (by refine ⟨by omega, by assumption⟩)]; exact W6.mk hru)
 refine J1 ?_
 refine sP (J8 rfl rfl (by omega)) rfl rfl ?_
 refine J9 ?_
 refine sE (A7 rfl) rfl (fun b60 => ?_)
 refine B5 ?_
 (refine D9 rfl (P7 (.mk tk tks) _ _ htsm hty) rfl rfl (fun v9 G1 hle1 hh => ?_); obtain ⟨cs1, F1, rfl, hs1, hn1⟩ := hh; obtain ⟨q1, c1, rfl, _⟩ := hs1.open; have hC2 := P7 (.mk fk fks) G1 _ hfsm (hfr.mono hle1))
 refine D1 ?_
 (refine D9 rfl hC2 rfl rfl (fun v9 G2 hle2 hh => ?_); obtain ⟨cs2, F2, rfl, hs2, hn2⟩ := hh; obtain ⟨q2, c2, rfl, _⟩ := hs2.open; have hty1 := hs1.R.mono ((C5.le G1 _).trans hle2); have hfr1 := hs2.R.mono (C5.le G2 G1); have hle12 := hle1.trans hle2; replace hsl := hsl.mono hle12; replace hkl := hkl.mono hle12; replace hv := hv.mono hle12)
 refine K0 ?_
 refine C0 ?_
 (refine Q9 37 9 ?_; refine J0 (fun (x : Nat × Option Addr × Nat × List (List Value) × IM) => ⟨[(8, .int .i64 x.1), (1, .string y), (3, .pointer (some ⟨b3, 0, none⟩)), (5, .pointer (some ⟨b4, 0, none⟩)), (6, .pointer (some ⟨b5, 0, none⟩)), (7, .pointer (some ⟨b60, 0, none⟩))], [.blk b60 [.int .i64 k, .string nm, .int .i64 num, .int .i64 tk, .slice q1 tks.length c1, .int .i64 fk, .slice q2 fks.length c2, .int .i64 lb, .slice x.2.1 x.1 x.2.2.1], .slc x.2.1 x.2.2.1 37 9 x.1 x.2.2.2.1.flatten, .blk b5 [.int .i64 0, .string ⟨⟨[]⟩⟩, .int .i64 0, .int .i64 0, .slice none 0 0, .int .i64 0, .slice none 0 0, .int .i64 0, .slice none 0 0], .blk b4 vc, .blk b3 [.int .i64 k, .string nm, .int .i64 num, .int .i64 tk, .slice pt tks.length ct, .int .i64 fk, .slice pf fks.length cf, .int .i64 lb, .slice p ks.length c]], x.2.2.2.2⟩) (fun x => x.1 ≤ ks.length ∧ C2 G2 x.2.2.2.2 ∧ E1 x.2.2.2.2 ((S7 y v ks).take x.1) x.2.2.2.1) (fun x => ks.length - x.1) (0, none, 0, [], G2) ?_ ?_ ?_)
 (simp only [H6]; exact D2)
 exact A2Q
 (rintro ⟨i, pn, cn, es', Gi⟩ ⟨hi, hle, hst⟩; simp only [] at hi hle hst ⊢; replace hsl := hsl.mono hle; replace hkl := hkl.mono hle; replace hv := hv.mono hle; replace hty1 := hty1.mono hle; replace hfr1 := hfr1.mono hle; have hsl' := hst.len; rw [List.length_take, A1x] at hsl')
 refine B5 ?_
 refine sB (I8 rfl rfl) rfl rfl (fun h106 => ?_) (fun h106 => ?_)
 refine A8 ?_
 refine C0 ?_
 (have hil : i < ks.length := (by omega); obtain ⟨bx, ox, e, rfl, hl, hat, hre, hgb⟩ := hsl.kidTm hkl (i := i) (by omega) (by omega); have hel := hre.len; have heo := hre.one; refine E2 E4 rfl ?_)
 refine L4 (i := 8) (l' := [ff,ff,ff,ff,ff,ff,ff,ff,tt,ff,ff,ff,ff,ff]) rfl D6 (A2 rfl rfl (A9 (by repeat first | exact mH | apply mT)) hvl) rfl (by kernel_rfl) rfl rfl ?_
 refine aP 0 rfl (B9 rfl) rfl ?_
 refine aL 1 rfl (C8 rfl rfl) rfl ?_
 refine aP 2 rfl (B9 rfl) rfl ?_
 refine aL 3 rfl (C8 rfl rfl) rfl ?_
 refine aP 4 rfl (qM rfl) rfl ?_
 refine aP 5 rfl (B6 (j := i) rfl rfl rfl (by omega)) rfl ?_
 refine aL 6 rfl (A2 rfl rfl (hat _) hl) rfl ?_
 refine aP 7 rfl (qM rfl) rfl ?_
 refine A4 9 ?_
 (refine H7 rfl rfl (ih ks[i] (List.getElem_mem (by omega)) Gi _ (Tm.smallL_mem hks _ (List.getElem_mem (by omega))) hre hv) rfl rfl rfl (fun u G3 hle3 hh => ?_); obtain ⟨uc, rfl, hru⟩ := hh; have hul := hru.len; have huo := hru.one; obtain ⟨v1, v2, v3, v4, v5, v6, v7, v8, v9, rfl⟩ := nine hul)
 refine A4 10 ?_
 (refine E5 rfl (D0 rfl rfl rfl (by omega) (by unfold maxLen; omega) rfl) rfl rfl ?_; rintro _ ⟨b127, rfl⟩)
 refine A4 11 ?_
 (refine R0 rfl rfl rfl rfl rfl rfl (fun _ _ => by repeat (first | exact Sw.here | apply Sw.there)) (M1 (by repeat first | exact mH | apply mT)) rfl (fun u hu => List.all_eq_true.1 huo u hu) (by unfold maxLen; omega) (by omega) rfl rfl (by repeat (first | exact B2.nil | apply B2.dep (by decide +kernel) | apply B2.im (by decide +kernel) (by assumption) (by repeat first | exact mH | apply mT) | apply B2.blk (by decide +kernel) (by repeat (first | exact Pk.here | apply Pk.there)) (by repeat first | exact mH | apply mT) | apply B2.slc (by decide +kernel) (by repeat (first | exact Pk.here | apply Pk.there)) (by repeat first | exact mH | apply mT))) (fun p7 c7 => ?_))
 refine aP 12 rfl (B9 rfl) rfl ?_
 refine A4 13 ?_
 refine R5 rfl rfl rfl rfl rfl rfl rfl rfl (by decide +kernel) (by repeat first | exact Sw.here | apply Sw.there) (by rfl) ?_
 refine B0 ?_
 refine sP (H5 rfl rfl (by omega) (by omega)) rfl rfl ?_
 refine A3 ?_
 refine I1 (i + 1, p7, c7, es' ++ [[v1, v2, v3, v4, v5, v6, v7, v8, v9]], G3) ?_ ?_ ?_
 (simp only [H6]; exact D2)
 exact A7E
 exact V0
 refine J9 ?_
 (refine F0 (cs := es'.flatten) (by repeat (first | exact Pk.here | apply Pk.there)) (fun G4 hle4 hsl4 hno4 => ?_); obtain rfl : i = ks.length := (by omega))
 refine tT ?_
 refine M3 (rC rfl (A5 rfl rfl)) ?_
 exact A7F
 refine K0 ?_
 refine sB (qE rfl rfl) rfl rfl (fun h179 => ?_) (fun h179 => ?_)
 refine B4 ?_
 refine sB (A1G rfl rfl) rfl rfl (fun h184 => ?_) (fun h184 => ?_)
 refine B5 ?_
 (refine D9 rfl hCt rfl rfl (fun v9 G1 hle1 hh => ?_); obtain ⟨uc, F1, rfl, hs1, hn1⟩ := hh; have hru := hs1.R.mono (C5.le G1 G); have hul := hru.len; have huo := hru.one)
 refine sS rfl rfl rfl hul huo rfl ?_ (hu := by exact D4 hul.symm)
 refine B4 ?_
 refine M3 (rC rfl (A2 rfl rfl (A9 (by repeat first | exact mH | apply mT)) hul)) ?_
 (rw [if_neg (by rintro ⟨h1, h2⟩; first | omega | contradiction), if_pos (by refine ⟨by omega, by assumption⟩)]; exact W6.mk hru)
 refine E0 ?_
 refine sE (A7 rfl) rfl (fun b209 => ?_)
 refine B5 ?_
 (refine D9 rfl (P7 (.mk tk tks) _ _ htsm hty) rfl rfl (fun v9 G1 hle1 hh => ?_); obtain ⟨cs1, F1, rfl, hs1, hn1⟩ := hh; obtain ⟨q1, c1, rfl, _⟩ := hs1.open; have hC2 := P7 (.mk fk fks) G1 _ hfsm (hfr.mono hle1))
 refine D1 ?_
 (refine D9 rfl hC2 rfl rfl (fun v9 G2 hle2 hh => ?_); obtain ⟨cs2, F2, rfl, hs2, hn2⟩ := hh; obtain ⟨q2, c2, rfl, _⟩ := hs2.open; have hty1 := hs1.R.mono ((C5.le G1 _).trans hle2); have hfr1 := hs2.R.mono (C5.le G2 G1); have hle12 := hle1.trans hle2; replace hsl := hsl.mono hle12; replace hkl := hkl.mono hle12; replace hv := hv.mono hle12)
 refine K0 ?_
 refine C0 ?_
 (refine Q9 37 9 ?_; refine J0 (fun (x : Nat × Option Addr × Nat × List (List Value) × IM) => ⟨[(8, .int .i64 x.1), (1, .string y), (3, .pointer (some ⟨b3, 0, none⟩)), (5, .pointer (some ⟨b4, 0, none⟩)), (6, .pointer (some ⟨b5, 0, none⟩)), (7, .pointer (some ⟨b209, 0, none⟩))], [.blk b209 [.int .i64 k, .string nm, .int .i64 num, .int .i64 tk, .slice q1 tks.length c1, .int .i64 fk, .slice q2 fks.length c2, .int .i64 lb, .slice x.2.1 x.1 x.2.2.1], .slc x.2.1 x.2.2.1 37 9 x.1 x.2.2.2.1.flatten, .blk b5 [.int .i64 0, .string ⟨⟨[]⟩⟩, .int .i64 0, .int .i64 0, .slice none 0 0, .int .i64 0, .slice none 0 0, .int .i64 0, .slice none 0 0], .blk b4 vc, .blk b3 [.int .i64 k, .string nm, .int .i64 num, .int .i64 tk, .slice pt tks.length ct, .int .i64 fk, .slice pf fks.length cf, .int .i64 lb, .slice p ks.length c]], x.2.2.2.2⟩) (fun x => x.1 ≤ ks.length ∧ C2 G2 x.2.2.2.2 ∧ E1 x.2.2.2.2 ((S7 y v ks).take x.1) x.2.2.2.1) (fun x => ks.length - x.1) (0, none, 0, [], G2) ?_ ?_ ?_)
 (simp only [H6]; exact D2)
 exact A2Q
 (rintro ⟨i, pn, cn, es', Gi⟩ ⟨hi, hle, hst⟩; simp only [] at hi hle hst ⊢; replace hsl := hsl.mono hle; replace hkl := hkl.mono hle; replace hv := hv.mono hle; replace hty1 := hty1.mono hle; replace hfr1 := hfr1.mono hle; have hsl' := hst.len; rw [List.length_take, A1x] at hsl')
 refine B5 ?_
 refine sB (I8 rfl rfl) rfl rfl (fun h255 => ?_) (fun h255 => ?_)
 refine A8 ?_
 refine C0 ?_
 (have hil : i < ks.length := (by omega); obtain ⟨bx, ox, e, rfl, hl, hat, hre, hgb⟩ := hsl.kidTm hkl (i := i) (by omega) (by omega); have hel := hre.len; have heo := hre.one; refine E2 E4 rfl ?_)
 refine L4 (i := 8) (l' := [ff,ff,ff,ff,ff,ff,ff,ff,tt,ff,ff,ff,ff,ff]) rfl D6 (A2 rfl rfl (A9 (by repeat first | exact mH | apply mT)) hvl) rfl (by kernel_rfl) rfl rfl ?_
 refine aP 0 rfl (B9 rfl) rfl ?_
 refine aL 1 rfl (C8 rfl rfl) rfl ?_
 refine aP 2 rfl (B9 rfl) rfl ?_
 refine aL 3 rfl (C8 rfl rfl) rfl ?_
 refine aP 4 rfl (qM rfl) rfl ?_
 refine aP 5 rfl (B6 (j := i) rfl rfl rfl (by omega)) rfl ?_
 refine aL 6 rfl (A2 rfl rfl (hat _) hl) rfl ?_
 refine aP 7 rfl (qM rfl) rfl ?_
 refine A4 9 ?_
 (refine H7 rfl rfl (ih ks[i] (List.getElem_mem (by omega)) Gi _ (Tm.smallL_mem hks _ (List.getElem_mem (by omega))) hre hv) rfl rfl rfl (fun u G3 hle3 hh => ?_); obtain ⟨uc, rfl, hru⟩ := hh; have hul := hru.len; have huo := hru.one; obtain ⟨v1, v2, v3, v4, v5, v6, v7, v8, v9, rfl⟩ := nine hul)
 refine A4 10 ?_
 (refine E5 rfl (D0 rfl rfl rfl (by omega) (by unfold maxLen; omega) rfl) rfl rfl ?_; rintro _ ⟨b276, rfl⟩)
 refine A4 11 ?_
 (refine R0 rfl rfl rfl rfl rfl rfl (fun _ _ => by repeat (first | exact Sw.here | apply Sw.there)) (M1 (by repeat first | exact mH | apply mT)) rfl (fun u hu => List.all_eq_true.1 huo u hu) (by unfold maxLen; omega) (by omega) rfl rfl (by repeat (first | exact B2.nil | apply B2.dep (by decide +kernel) | apply B2.im (by decide +kernel) (by assumption) (by repeat first | exact mH | apply mT) | apply B2.blk (by decide +kernel) (by repeat (first | exact Pk.here | apply Pk.there)) (by repeat first | exact mH | apply mT) | apply B2.slc (by decide +kernel) (by repeat (first | exact Pk.here | apply Pk.there)) (by repeat first | exact mH | apply mT))) (fun p7 c7 => ?_))
 refine aP 12 rfl (B9 rfl) rfl ?_
 refine A4 13 ?_
 refine R5 rfl rfl rfl rfl rfl rfl rfl rfl (by decide +kernel) (by repeat first | exact Sw.here | apply Sw.there) (by rfl) ?_
 refine B0 ?_
 refine sP (H5 rfl rfl (by omega) (by omega)) rfl rfl ?_
 refine A3 ?_
 refine I1 (i + 1, p7, c7, es' ++ [[v1, v2, v3, v4, v5, v6, v7, v8, v9]], G3) ?_ ?_ ?_
 (simp only [H6]; exact D2)
 exact A7E
 exact V0
 refine J9 ?_
 (refine F0 (cs := es'.flatten) (by repeat (first | exact Pk.here | apply Pk.there)) (fun G4 hle4 hsl4 hno4 => ?_); obtain rfl : i = ks.length := (by omega))
 refine tT ?_
 refine M3 (rC rfl (A5 rfl rfl)) ?_
 exact A7F
 refine J9 ?_
 refine sE (A7 rfl) rfl (fun b326 => ?_)
 refine B5 ?_
 (refine D9 rfl (P7 (.mk tk tks) _ _ htsm hty) rfl rfl (fun v9 G1 hle1 hh => ?_); obtain ⟨cs1, F1, rfl, hs1, hn1⟩ := hh; obtain ⟨q1, c1, rfl, _⟩ := hs1.open; have hC2 := P7 (.mk fk fks) G1 _ hfsm (hfr.mono hle1))
 refine D1 ?_
 (refine D9 rfl hC2 rfl rfl (fun v9 G2 hle2 hh => ?_); obtain ⟨cs2, F2, rfl, hs2, hn2⟩ := hh; obtain ⟨q2, c2, rfl, _⟩ := hs2.open; have hty1 := hs1.R.mono ((C5.le G1 _).trans hle2); have hfr1 := hs2.R.mono (C5.le G2 G1); have hle12 := hle1.trans hle2; replace hsl := hsl.mono hle12; replace hkl := hkl.mono hle12; replace hv := hv.mono hle12)
 refine K0 ?_
 refine C0 ?_
 (refine Q9 37 9 ?_; refine J0 (fun (x : Nat × Option Addr × Nat × List (List Value) × IM) => ⟨[(8, .int .i64 x.1), (1, .string y), (3, .pointer (some ⟨b3, 0, none⟩)), (5, .pointer (some ⟨b4, 0, none⟩)), (6, .pointer (some ⟨b5, 0, none⟩)), (7, .pointer (some ⟨b326, 0, none⟩))], [.blk b326 [.int .i64 k, .string nm, .int .i64 num, .int .i64 tk, .slice q1 tks.length c1, .int .i64 fk, .slice q2 fks.length c2, .int .i64 lb, .slice x.2.1 x.1 x.2.2.1], .slc x.2.1 x.2.2.1 37 9 x.1 x.2.2.2.1.flatten, .blk b5 [.int .i64 0, .string ⟨⟨[]⟩⟩, .int .i64 0, .int .i64 0, .slice none 0 0, .int .i64 0, .slice none 0 0, .int .i64 0, .slice none 0 0], .blk b4 vc, .blk b3 [.int .i64 k, .string nm, .int .i64 num, .int .i64 tk, .slice pt tks.length ct, .int .i64 fk, .slice pf fks.length cf, .int .i64 lb, .slice p ks.length c]], x.2.2.2.2⟩) (fun x => x.1 ≤ ks.length ∧ C2 G2 x.2.2.2.2 ∧ E1 x.2.2.2.2 ((S7 y v ks).take x.1) x.2.2.2.1) (fun x => ks.length - x.1) (0, none, 0, [], G2) ?_ ?_ ?_)
 (simp only [H6]; exact D2)
 exact A2Q
 (rintro ⟨i, pn, cn, es', Gi⟩ ⟨hi, hle, hst⟩; simp only [] at hi hle hst ⊢; replace hsl := hsl.mono hle; replace hkl := hkl.mono hle; replace hv := hv.mono hle; replace hty1 := hty1.mono hle; replace hfr1 := hfr1.mono hle; have hsl' := hst.len; rw [List.length_take, A1x] at hsl')
 refine B5 ?_
 refine sB (I8 rfl rfl) rfl rfl (fun h372 => ?_) (fun h372 => ?_)
 refine A8 ?_
 refine C0 ?_
 (have hil : i < ks.length := (by omega); obtain ⟨bx, ox, e, rfl, hl, hat, hre, hgb⟩ := hsl.kidTm hkl (i := i) (by omega) (by omega); have hel := hre.len; have heo := hre.one; refine E2 E4 rfl ?_)
 refine L4 (i := 8) (l' := [ff,ff,ff,ff,ff,ff,ff,ff,tt,ff,ff,ff,ff,ff]) rfl D6 (A2 rfl rfl (A9 (by repeat first | exact mH | apply mT)) hvl) rfl (by kernel_rfl) rfl rfl ?_
 refine aP 0 rfl (B9 rfl) rfl ?_
 refine aL 1 rfl (C8 rfl rfl) rfl ?_
 refine aP 2 rfl (B9 rfl) rfl ?_
 refine aL 3 rfl (C8 rfl rfl) rfl ?_
 refine aP 4 rfl (qM rfl) rfl ?_
 refine aP 5 rfl (B6 (j := i) rfl rfl rfl (by omega)) rfl ?_
 refine aL 6 rfl (A2 rfl rfl (hat _) hl) rfl ?_
 refine aP 7 rfl (qM rfl) rfl ?_
 refine A4 9 ?_
 (refine H7 rfl rfl (ih ks[i] (List.getElem_mem (by omega)) Gi _ (Tm.smallL_mem hks _ (List.getElem_mem (by omega))) hre hv) rfl rfl rfl (fun u G3 hle3 hh => ?_); obtain ⟨uc, rfl, hru⟩ := hh; have hul := hru.len; have huo := hru.one; obtain ⟨v1, v2, v3, v4, v5, v6, v7, v8, v9, rfl⟩ := nine hul)
 refine A4 10 ?_
 (refine E5 rfl (D0 rfl rfl rfl (by omega) (by unfold maxLen; omega) rfl) rfl rfl ?_; rintro _ ⟨b393, rfl⟩)
 refine A4 11 ?_
 (refine R0 rfl rfl rfl rfl rfl rfl (fun _ _ => by repeat (first | exact Sw.here | apply Sw.there)) (M1 (by repeat first | exact mH | apply mT)) rfl (fun u hu => List.all_eq_true.1 huo u hu) (by unfold maxLen; omega) (by omega) rfl rfl (by repeat (first | exact B2.nil | apply B2.dep (by decide +kernel) | apply B2.im (by decide +kernel) (by assumption) (by repeat first | exact mH | apply mT) | apply B2.blk (by decide +kernel) (by repeat (first | exact Pk.here | apply Pk.there)) (by repeat first | exact mH | apply mT) | apply B2.slc (by decide +kernel) (by repeat (first | exact Pk.here | apply Pk.there)) (by repeat first | exact mH | apply mT))) (fun p7 c7 => ?_))
 refine aP 12 rfl (B9 rfl) rfl ?_
 refine A4 13 ?_
 refine R5 rfl rfl rfl rfl rfl rfl rfl rfl (by decide +kernel) (by repeat first | exact Sw.here | apply Sw.there) (by rfl) ?_
 refine B0 ?_
 refine sP (H5 rfl rfl (by omega) (by omega)) rfl rfl ?_
 refine A3 ?_
 refine I1 (i + 1, p7, c7, es' ++ [[v1, v2, v3, v4, v5, v6, v7, v8, v9]], G3) ?_ ?_ ?_
 (simp only [H6]; exact D2)
 exact A7E
 exact V0
 refine J9 ?_
 (refine F0 (cs := es'.flatten) (by repeat (first | exact Pk.here | apply Pk.there)) (fun G4 hle4 hsl4 hno4 => ?_); obtain rfl : i = ks.length := (by omega))
 refine tT ?_
 refine M3 (rC rfl (A5 rfl rfl)) ?_
 exact A7F
end Gw
end Go.Proofs.YtebfignffjhnhaaGreatDoor
