/-
  The program's insertion of casts. ReplaceAt: the program's and the reference model's. Nodes at paths, in plain words: paths concatenate. Replacing a node, in plain words: what is put is found, and putting back undoes. A closed term's type is its type everywhere; a node replaced by one of its type leaves the type. Terms with casts: what a type says of a node. Types are kept by steps; a closed term with a type does not get stuck, and what is blamed is a label of its casts. A term with its casts put in is valid, and has the type that the term has. CastTypeOf. The program's InsertCasts, TypeOf. The program's RunTerm. The reference's typing, exactly. The reference's typing, exactly: meets, the types of nodes. The reference's typing, exactly: types of terms.
-/
import Derived.Test.YtmnfamimopcldaaGreatDoorKa4
import Derived.Test.YtmnfamimopcldaaGreatDoorKa2
import Derived.Test.YtmnfamimopcldaaGreatDoorKa3
set_option linter.unusedVariables false
set_option linter.unusedSimpArgs false
set_option maxHeartbeats 0
set_option maxRecDepth 100000
set_option synthInstance.maxSize 4000
set_option synthInstance.maxHeartbeats 0
namespace Go.Proofs.YtmnfamimopcldaaGreatDoor
open Go Go.RowKit
namespace Gw
/-- A term with casts, its type, the last label, where there is one. -/
def ElP (bx : Nat) (cx : Cx) (e : Tm) (l : Int) : IM → Value → List Ent → Prop := fun G' v outs => ∃ u cu t ct l', v = .tuple ⟨[.agg ⟨cu⟩, .agg ⟨ct⟩, .bool (mEl cx e l).isSome]⟩ ∧ outs = [.blk bx [.int .i64 l']] ∧ RTm G' u cu ∧ RTy G' t ct ∧ l ≤ l' ∧ l' + 1 ≤ l + (tmCount e : Int) ∧ ∀ r, mEl cx e l = some r → r = (u, t, l')
theorem ElP.no {G : IM} {bx : Nat} {cx : Cx} {e : Tm} {l l' : Int} {u : Tm} {t : Ty} {cu ct : List Value} (h : mEl cx e l = none) (hu : RTm G u cu) (ht : RTy G t ct) (h1 : l ≤ l') (h2 : l' + 1 ≤ l + (tmCount e : Int)) : ElP bx cx e l G (.tuple ⟨[.agg ⟨cu⟩, .agg ⟨ct⟩, .bool false]⟩) [.blk bx [.int .i64 l']] :=
 ⟨u, cu, t, ct, l', by rw [h]; rfl, rfl, hu, ht, h1, h2, fun r hr => by rw [h] at hr; cases hr⟩
theorem ElP.yes {G : IM} {bx : Nat} {cx : Cx} {e : Tm} {l l' : Int} {u : Tm} {t : Ty} {cu ct : List Value} (h : mEl cx e l = some (u, t, l')) (hu : RTm G u cu) (ht : RTy G t ct) (h1 : l ≤ l') (h2 : l' + 1 ≤ l + (tmCount e : Int)) : ElP bx cx e l G (.tuple ⟨[.agg ⟨cu⟩, .agg ⟨ct⟩, .bool true]⟩) [.blk bx [.int .i64 l']] :=
 ⟨u, cu, t, ct, l', by rw [h]; rfl, rfl, hu, ht, h1, h2, fun r hr => by rw [h] at hr; cases hr; rfl⟩
section
variable {cx : Cx} {k : Int} {nm : ByteArray} {num : Int} {ty fr : Ty} {lb : Int} {ks us : List Tm} {h : List Ty} {l l' : Int}
theorem mEl_kids (hL : mElL (inCx cx k nm ty) ks l = none) : mEl cx (.mk k nm num ty fr lb ks) l = none := by rw [mEl, hL]
theorem mEl_no (hL : mElL (inCx cx k nm ty) ks l = some (us, h, l')) (hn : mNodeT cx k nm ty h = none) : mEl cx (.mk k nm num ty fr lb ks) l = none := by rw [mEl, hL]; simp only [mElN, hn]
theorem mEl_as {w : List Ty} {t : Ty} (hL : mElL (inCx cx k nm ty) ks l = some (us, h, l')) (hn : mNodeT cx k nm ty h = some (w, t)) (hk : k = 13) : mEl cx (.mk k nm num ty fr lb ks) l = some ((mCasts us h w l').1.getD 0 tm0, t, (mCasts us h w l').2) := by
 rw [mEl, hL]; simp only [mElN, hn, if_pos hk]
theorem mEl_go {w : List Ty} {t : Ty} (hL : mElL (inCx cx k nm ty) ks l = some (us, h, l')) (hn : mNodeT cx k nm ty h = some (w, t)) (hk : k ≠ 13) : mEl cx (.mk k nm num ty fr lb ks) l = some (.mk k nm num ty fr lb (mCasts us h w l').1, t, (mCasts us h w l').2) := by
 rw [mEl, hL]; simp only [mElN, hn, if_neg hk]
end
theorem tValid_ar' {t : Ty} (h : tValid t = true) : tAr t := (tValid_ann h).1
theorem getD0 {us : List Tm} (h : 0 < us.length) : us.getD 0 tm0 = us[0] := by rw [List.getD_eq_getElem?_getD, List.getElem?_eq_getElem h, Option.getD_some]
theorem elTerm_fn (bx : Nat) : ∀ (e : Tm) (d : Int) (cx : Cx) (l0 : Int) (G : IM) (pc : Option Addr) (nc cc : Nat) (cells : List Value), sShape 12 14 e d = true → (nc : Int) ≤ d → cxV cx → RCx G cx pc nc cc → RTm G e cells → 0 ≤ l0 → l0 + (tmCount e : Int) ≤ 1000000000 →
  Fn Tryz.prog 54 [.pointer (some ⟨bx, 0, none⟩), .slice pc nc cc, .agg ⟨cells⟩] [.blk bx [.int .i64 l0]] G (ElP bx cx e l0) := by
 refine Tm.ind fun k nm num ty fr lb ks ih d cx l0 G pc nc cc cells hv hnd hcv hx hr hl0 hlc => ?_
 have hr0 := hr
 have hone := hr.one
 obtain ⟨hv1, hv2, hv3, hv4⟩ := sShape_go2 hv
 have hvk := (sShapeL_iff 12 14 ks _).1 hv4
 have har := (tmNode_iff.1 hv3).1
 have hop := tm_ops har
 obtain ⟨hta, hts⟩ := node_ann hv3
 have hkr : 1 ≤ k ∧ k ≤ 14 := tmOps_rng (by rw [har]; omega)
 have hcvX : cxV (inCx cx k nm ty) := cxV_in hcv fun hk => (tmNode_iff.1 hv3).2.2.2.2.2.1 (.inl hk)
 have hck : tmCount (.mk k nm num ty fr lb ks) = tmCountL ks + 1 := tmCount_mk ..
 rw [hck] at hlc
 obtain ⟨tk, tks⟩ := ty
 obtain ⟨fk, fks⟩ := fr
 obtain ⟨pt, ct, pf, cf, q, cq, es, rfl, hk, hnum, hlb, hty, hfr, hsl, hkl⟩ := hr.open9
 have hlen : ks.length ≤ 3 := by have := tmOps_le k; omega
 obtain ⟨hx1, esx, hx2, hx3⟩ := id hx
 have hcl := clone_bd G pc nc cc esx hx2 (by omega)
 have hcnt0 := len_le_count ks
 refine fn_enter Tryz.func54 rfl Tryz.ntmps54 Tryz.results54 rfl ?_
 intro w0
 refine tS ?_
 refine tR ?_
 refine sE (step_box_a rfl rfl) rfl (fun b3 => ?_)
 refine sE (step_alloc rfl) rfl (fun b4 => ?_)
 refine sE (step_alloc rfl) rfl (fun b5 => ?_)
 refine sQ (pA rfl) rfl ?_
 refine sD ?_
 refine nS ?_
 refine tS ?_
 refine tR ?_
 refine sQ (pM rfl) rfl ?_
 refine sQ (pA rfl) rfl ?_
 refine sD ?_
 refine nS ?_
 refine tS ?_
 (show Tri _ _ (.seq (.region 2 _ _) (.cond (.tmp 25) _ _)) _ _; refine tri_cut (fun (x : Option Addr × Nat × Nat × IM) => ⟨[(9, .slice x.1 x.2.1 x.2.2.1), (1, .slice pc nc cc), (0, .pointer (some ⟨bx, 0, none⟩)), (5, .pointer (some ⟨b3, 0, none⟩)), (6, .pointer (some ⟨b4, 0, none⟩)), (7, .pointer (some ⟨b5, 0, none⟩))], [.blk b5 [.int .i64 0, .slice none 0 0], .blk b4 [.int .i64 0, .string ⟨⟨[]⟩⟩, .int .i64 0, .int .i64 0, .slice none 0 0, .int .i64 0, .slice none 0 0, .int .i64 0, .slice none 0 0], .blk b3 [.int .i64 k, .string nm, .int .i64 num, .int .i64 tk, .slice pt tks.length ct, .int .i64 fk, .slice pf fks.length cf, .int .i64 lb, .slice q ks.length cq], .blk bx [.int .i64 l0]], x.2.2.2⟩) (fun x => IMle G x.2.2.2 ∧ RCx x.2.2.2 (inCx cx k nm (.mk tk tks)) x.1 x.2.1 x.2.2.1 ∧ x.2.1 ≤ nc + 1) ?_ ?_)
 ·refine tS ?_
  refine tR ?_
  refine sQ (pF0 rfl) rfl ?_
  refine sL (lBs rfl rfl) rfl rfl ?_
  refine sB (pE rfl rfl) rfl rfl (fun h21 => ?_) (fun h21 => ?_)
  ·refine sD ?_
   refine nS ?_
   refine cT rfl ?_
   refine tri_draw mixed rfl ?_
   refine any_pure (i := 0) (l' := [tt,ff,ff,ff,ff,ff,ff,ff,ff,ff]) rfl npI (pM rfl) rfl (by kernel_rfl) rfl rfl ?_
   refine aP 2 rfl (pF0 rfl) rfl ?_
   refine aL 3 rfl (lBs rfl rfl) rfl ?_
   refine aP 4 rfl (pF0 rfl) rfl ?_
   refine aL 5 rfl (lBa rfl rfl) rfl ?_
   refine aP 6 rfl (pBd rfl rfl) rfl ?_
   refine any_two (j := 1) (j' := 7) (by kernel_rfl) ?_ ?_
   ·(refine one_own rfl rfl hcl rfl rfl rfl (fun v33 G33 outs33 hle33 h33 => ?_); obtain ⟨hG, p1, c1, rfl, rfl⟩ := h33; replace hG := hG.symm; subst hG)
    replace hr := hr.mono hle33
    replace hr0 := hr0.mono hle33
    replace hty := hty.mono hle33
    replace hfr := hfr.mono hle33
    replace hsl := hsl.mono hle33
    replace hkl := hkl.mono hle33
    replace hx2 := hx2.mono hle33
    refine aO' 7 ?_
    (refine one_step0 rfl (step_buildSlice rfl rfl rfl (by omega) (by unfold maxLen; omega) rfl) rfl rfl ?_; rintro _ ⟨b35, rfl⟩)
    refine aO' 8 ?_
    (refine one_append rfl rfl rfl rfl rfl rfl (fun _ _ => by repeat (first | exact Sw.here | apply Sw.there)) (at_slc_all (by repeat first | exact mH | apply mT)) rfl (by simp [Value.oneCell']) (by unfold maxLen; omega) (by omega) rfl rfl (by repeat (first | exact HmOk.nil | apply HmOk.dep (by decide +kernel) | apply HmOk.blk (by decide +kernel) (by repeat (first | exact Pk.here | apply Pk.there)) (by repeat first | exact mH | apply mT))) (fun p5 c5 => ?_); refine any_freeze (cs := esx.flatten ++ [.string nm, .int .i64 tk, .slice pt tks.length ct]) (by repeat (first | exact Pk.here | apply Pk.there)) (fun Gf hleF hslF hnoF => ?_); have hxF := RCx.snoc (nm := nm) (t := .mk tk tks) hx1 hx2.len hx2.all hx2.one hx3 hleF ⟨_, _, rfl, hty.mono hleF⟩ hslF)
    refine aP 9 rfl (pA rfl) rfl ?_
    refine aD' ?_
    refine nrm_cut (p5, nc + 1, c5, Gf) (sub_mk (by repeat (first | exact SubE.nil | refine SubE.cons rfl ?_)) (by repeat (first | exact SubH.refl | exact SubH.nil | refine SubH.cons (by repeat (first | exact Pk.here | apply Pk.there)) ?_ | apply SubH.drop))) ⟨hleF, by (dsimp only; rw [inCx, if_pos (by omega)]; exact hxF), by (dsimp only; omega)⟩
   ·(refine one_step0 rfl (step_buildSlice rfl rfl rfl (by omega) (by unfold maxLen; omega) rfl) rfl rfl ?_; rintro _ ⟨b41, rfl⟩)
    refine aO' 1 ?_
    (refine one_own rfl rfl hcl rfl rfl rfl (fun v43 G43 outs43 hle43 h43 => ?_); obtain ⟨hG, p1, c1, rfl, rfl⟩ := h43; replace hG := hG.symm; subst hG)
    replace hr := hr.mono hle43
    replace hr0 := hr0.mono hle43
    replace hty := hty.mono hle43
    replace hfr := hfr.mono hle43
    replace hsl := hsl.mono hle43
    replace hkl := hkl.mono hle43
    replace hx2 := hx2.mono hle43
    refine aO' 8 ?_
    (refine one_append rfl rfl rfl rfl rfl rfl (fun _ _ => by repeat (first | exact Sw.here | apply Sw.there)) (at_slc_all (by repeat first | exact mH | apply mT)) rfl (by simp [Value.oneCell']) (by unfold maxLen; omega) (by omega) rfl rfl (by repeat (first | exact HmOk.nil | apply HmOk.dep (by decide +kernel) | apply HmOk.blk (by decide +kernel) (by repeat (first | exact Pk.here | apply Pk.there)) (by repeat first | exact mH | apply mT))) (fun p5 c5 => ?_); refine any_freeze (cs := esx.flatten ++ [.string nm, .int .i64 tk, .slice pt tks.length ct]) (by repeat (first | exact Pk.here | apply Pk.there)) (fun Gf hleF hslF hnoF => ?_); have hxF := RCx.snoc (nm := nm) (t := .mk tk tks) hx1 hx2.len hx2.all hx2.one hx3 hleF ⟨_, _, rfl, hty.mono hleF⟩ hslF)
    refine aP 9 rfl (pA rfl) rfl ?_
    refine aD' ?_
    refine nrm_cut (p5, nc + 1, c5, Gf) (sub_mk (by repeat (first | exact SubE.nil | refine SubE.cons rfl ?_)) (by repeat (first | exact SubH.refl | exact SubH.nil | refine SubH.cons (by repeat (first | exact Pk.here | apply Pk.there)) ?_ | apply SubH.drop))) ⟨hleF, by (dsimp only; rw [inCx, if_pos (by omega)]; exact hxF), by (dsimp only; omega)⟩
  ·refine sD ?_
   refine nS ?_
   refine cF rfl ?_
   refine tK ?_
   refine nrm_cut (pc, nc, cc, G) (sub_mk (by repeat (first | exact SubE.nil | refine SubE.cons rfl ?_)) (by repeat (first | exact SubH.refl | exact SubH.nil | refine SubH.cons (by repeat (first | exact Pk.here | apply Pk.there)) ?_ | apply SubH.drop))) ⟨IMle.refl _, by (dsimp only; rw [inCx, if_neg (by omega)]; exact hx), by (dsimp only; omega)⟩
 ·(rintro ⟨p6, n6, c6, Gx⟩ ⟨hleX, hxX, hn6⟩; simp only [] at hleX hxX hn6 ⊢; replace hsl := hsl.mono hleX; replace hkl := hkl.mono hleX; replace hx := hx.mono hleX; replace hr0 := hr0.mono hleX; replace hty := hty.mono hleX; replace hfr := hfr.mono hleX)
  refine tS ?_
  refine tR ?_
  refine sL (lBa rfl rfl) rfl rfl ?_
  refine sE (step_alloc rfl) rfl (fun b58 => ?_)
  refine sS' ?_
  refine sD ?_
  refine nS ?_
  refine tS ?_
  refine tR ?_
  refine sQ (pF0 rfl) rfl ?_
  refine sS' ?_
  refine sD ?_
  refine nS ?_
  refine tS ?_
  refine tR ?_
  refine sQ (pA rfl) rfl ?_
  refine sD ?_
  refine nS ?_
  refine tS ?_
  refine tS ?_
  refine tR ?_
  refine sQ (pF0 rfl) rfl ?_
  refine sL (lBs rfl rfl) rfl rfl ?_
  refine sQ (pLn rfl rfl) rfl ?_
  refine sQ (pM rfl) rfl ?_
  refine sD ?_
  refine nS ?_
  refine tri_block ?_
  (refine tri_nil 35 9 ?_; refine tri_nil 32 2 ?_; refine tri_loopN (fun (x : Nat × (Option Addr × Nat × List Tm × List (List Value)) × (Option Addr × Nat × List Ty × List (List Value)) × Int × IM) => ⟨[(40, .int .i64 x.1), (39, .int .i64 ks.length), (38, .slice q ks.length cq), (11, .slice x.2.2.1.1 x.1 x.2.2.1.2.1), (9, .slice p6 n6 c6), (1, .slice pc nc cc), (0, .pointer (some ⟨bx, 0, none⟩)), (5, .pointer (some ⟨b3, 0, none⟩)), (6, .pointer (some ⟨b4, 0, none⟩)), (7, .pointer (some ⟨b5, 0, none⟩)), (10, .pointer (some ⟨b58, 0, none⟩))], [.blk b58 [.int .i64 k, .string nm, .int .i64 num, .int .i64 tk, .slice pt tks.length ct, .int .i64 fk, .slice pf fks.length cf, .int .i64 lb, .slice x.2.1.1 x.1 x.2.1.2.1], .slc x.2.1.1 x.2.1.2.1 35 9 x.1 x.2.1.2.2.2.flatten, .slc x.2.2.1.1 x.2.2.1.2.1 32 2 x.1 x.2.2.1.2.2.2.flatten, .blk b5 [.int .i64 0, .slice none 0 0], .blk b4 [.int .i64 0, .string ⟨⟨[]⟩⟩, .int .i64 0, .int .i64 0, .slice none 0 0, .int .i64 0, .slice none 0 0, .int .i64 0, .slice none 0 0], .blk b3 [.int .i64 k, .string nm, .int .i64 num, .int .i64 tk, .slice pt tks.length ct, .int .i64 fk, .slice pf fks.length cf, .int .i64 lb, .slice q ks.length cq], .blk bx [.int .i64 x.2.2.2.1]], x.2.2.2.2⟩) (fun x => x.1 ≤ ks.length ∧ IMle Gx x.2.2.2.2 ∧ x.2.1.2.2.1.length = x.1 ∧ RTmL x.2.2.2.2 x.2.1.2.2.1 x.2.1.2.2.2 ∧ x.2.2.1.2.2.1.length = x.1 ∧ RTyL x.2.2.2.2 x.2.2.1.2.2.1 x.2.2.1.2.2.2 ∧ (∀ t ∈ x.2.2.1.2.2.1, tAr t) ∧ mElL (inCx cx k nm (.mk tk tks)) (ks.take x.1) l0 = some (x.2.1.2.2.1, x.2.2.1.2.2.1, x.2.2.2.1) ∧ l0 ≤ x.2.2.2.1 ∧ x.2.2.2.1 + x.1 ≤ l0 + (tmCountL (ks.take x.1) : Int)) (fun x => ks.length - x.1) (0, (none, 0, [], []), (none, 0, [], []), l0, Gx) ?_ ?_ ?_)
  ·(simp only [List.take_zero, mCasts_nil]; exact (sub_mk (by repeat (first | exact SubE.nil | refine SubE.cons rfl ?_)) (by repeat (first | exact SubH.refl | exact SubH.nil | refine SubH.cons (by repeat (first | exact Pk.here | apply Pk.there)) ?_ | apply SubH.drop))))
  ·(exact ⟨by simp, IMle.refl _, rfl, by simp [RTmL], rfl, by simp [RTyL], by simp, by simp [mElL], Int.le_refl _, by simp [tmCountL]⟩)
  ·(rintro ⟨i, ⟨pn, cn, us, es'⟩, ⟨pm, cm, ts, ess⟩, l, Gi⟩ ⟨hi, hle, hlu, hst, hlt, hstt, hat, hml, hl1, hl2⟩; simp only [] at hi hle hlu hst hlt hstt hat hml hl1 hl2 ⊢; replace hty := hty.mono hle; replace hfr := hfr.mono hle; replace hsl := hsl.mono hle; replace hkl := hkl.mono hle; replace hr0 := hr0.mono hle; replace hx := hx.mono hle; replace hxX := hxX.mono hle)
   refine tS ?_
   refine tR ?_
   refine sB (pure_lss rfl rfl) rfl rfl (fun h89 => ?_) (fun h89 => ?_)
   ·refine sD ?_
    refine nS ?_
    refine tS ?_
    refine cT rfl ?_
    refine tK ?_
    refine nS ?_
    refine tS ?_
    refine tri_block ?_
    refine tS ?_
    refine tR ?_
    (obtain ⟨b, o, e, rfl, hl, hate, hre, hgb⟩ := hsl.kidTm hkl (i := i) (by omega) (by omega); have hon := hre.one; have hsc := tmCountL_succ (ks := ks) (i := i) (by omega); have hsk := tmCountL_take (ks := ks) (i := i) (by omega); refine sP (pIN rfl rfl rfl (by omega)) rfl rfl ?_)
    refine sL (load_a rfl rfl (hate _) hl) rfl rfl ?_
    refine sE (step_alloc rfl) rfl (fun b102 => ?_)
    refine sS rfl rfl rfl hl hon rfl ?_ (hu := by exact upd_all hl.symm)
    refine sD ?_
    refine nS ?_
    refine tS ?_
    refine tR ?_
    refine sQ (pM rfl) rfl ?_
    refine sQ (pM rfl) rfl ?_
    refine sL (load_a rfl rfl (at_blk_all (by repeat first | exact mH | apply mT)) hl) rfl rfl ?_
    (refine seq_take rfl (ih ks[i] (List.getElem_mem (by omega)) (d + 1) _ l Gi p6 n6 c6 _ (hvk i (by omega)) (by omega) hcvX hxX hre (by omega) (by omega)) (Pk.perm (by repeat (first | exact Pk.here | apply Pk.there))) rfl rfl (fun v G3 outs hle3 hh => ?_); obtain ⟨u, uc, t, tc, l3, rfl, rfl, hru, hrt, hl3, hl4, hu⟩ := hh; obtain ⟨v1, v2, v3, v4, v5, v6, v7, v8, v9, rfl⟩ := nine hru.len; obtain ⟨p3, c3, e3, rfl, _⟩ := hrt.open; have hlu9 := hru.len; have hou9 := hru.one; rcases hE : mEl (inCx cx k nm (Ty.mk tk tks)) ks[i] l with _ | ⟨u2, t2, l2⟩; rotate_left; have hue := hu _ hE; simp only [Prod.mk.injEq] at hue; obtain ⟨rfl, rfl, rfl⟩ := hue; rotate_left)
    ·refine sQ (pM rfl) rfl ?_
     refine sQ (pX rfl rfl) rfl ?_
     refine sQ (pX rfl rfl) rfl ?_
     refine sQ (pX rfl rfl) rfl ?_
     refine sE (step_alloc rfl) rfl (fun b116 => ?_)
     refine sE (step_alloc rfl) rfl (fun b117 => ?_)
     refine sS rfl rfl rfl hlu9 hou9 rfl ?_ (hu := by exact upd_all hlu9.symm)
     refine sS' ?_
     refine sQ (pA rfl) rfl ?_
     refine sD ?_
     refine nS ?_
     refine tS ?_
     refine tS ?_
     refine tR ?_
     refine sQ (pM rfl) rfl ?_
     refine sQ (pNf rfl) rfl ?_
     refine sD ?_
     refine nS ?_
     refine cT rfl ?_
     refine tS ?_
     refine tR ?_
     refine sQ (pBd rfl rfl) rfl ?_
     refine sQ (pBd rfl rfl) rfl ?_
     refine sS' ?_
     refine sS' ?_
     refine sQ (pA rfl) rfl ?_
     refine sD ?_
     refine nS ?_
     refine tT ?_
     refine rS ?_
     refine rB ?_
     refine rS ?_
     refine ret_loopN ?_
     refine rB ?_
     refine rS ?_
     refine ret_own3 (outs := [.blk bx [.int .i64 _]]) (rC rfl (lBa rfl rfl)) (rC rfl (lBa rfl rfl)) (rT rfl) (SubH.cons (by repeat (first | exact Pk.here | apply Pk.there)) SubH.nil) ?_
     (exact ElP.no (mEl_kids (mElL_no (by omega) hml hE)) (tm0_r _) (tyLeaf_r _ ⟨by omega, by omega⟩) (by omega) (by rw [hck]; omega))
    ·refine sQ (pM rfl) rfl ?_
     refine sQ (pX rfl rfl) rfl ?_
     refine sQ (pX rfl rfl) rfl ?_
     refine sQ (pX rfl rfl) rfl ?_
     refine sE (step_alloc rfl) rfl (fun b153 => ?_)
     refine sE (step_alloc rfl) rfl (fun b154 => ?_)
     refine sS rfl rfl rfl hlu9 hou9 rfl ?_ (hu := by exact upd_all hlu9.symm)
     refine sS' ?_
     refine sQ (pA rfl) rfl ?_
     refine sD ?_
     refine nS ?_
     refine tS ?_
     refine tS ?_
     refine tR ?_
     refine sQ (pM rfl) rfl ?_
     refine sQ (pNt rfl) rfl ?_
     refine sD ?_
     refine nS ?_
     refine cF rfl ?_
     refine tK ?_
     refine nS ?_
     refine tri_draw mixed rfl ?_
     refine any_pure (i := 0) (l' := [tt,ff,ff,ff,ff,ff,ff,ff,ff,ff,ff,ff]) rfl npI (pF0 rfl) rfl (by kernel_rfl) rfl rfl ?_
     refine aL 1 rfl (lBs rfl rfl) rfl ?_
     refine aL 2 rfl (lBa rfl rfl) rfl ?_
     refine aP 5 rfl (pM rfl) rfl ?_
     refine aL 6 rfl (lBa rfl rfl) rfl ?_
     refine any_two (j := 3) (j' := 7) (by kernel_rfl) ?_ ?_
     ·(refine one_step0 rfl (step_buildSlice rfl rfl rfl (by omega) (by unfold maxLen; omega) rfl) rfl rfl ?_; rintro _ ⟨b177, rfl⟩)
      refine any_two (j := 4) (j' := 7) (by kernel_rfl) ?_ ?_
      ·(refine one_append rfl rfl rfl rfl rfl rfl (fun _ _ => by repeat (first | exact Sw.here | apply Sw.there)) (at_slc_all (by repeat first | exact mH | apply mT)) rfl (fun u hu => List.all_eq_true.1 hou9 u hu) (by unfold maxLen; omega) (by omega) rfl rfl (by repeat (first | exact HmOk.nil | apply HmOk.dep (by decide +kernel) | apply HmOk.im (by decide +kernel) (by assumption) (by repeat first | exact mH | apply mT) | apply HmOk.blk (by decide +kernel) (by repeat (first | exact Pk.here | apply Pk.there)) (by repeat first | exact mH | apply mT) | apply HmOk.slc (by decide +kernel) (by repeat (first | exact Pk.here | apply Pk.there)) (by repeat first | exact mH | apply mT))) (fun pn' cn' => ?_))
       refine aP 9 rfl (pF0 rfl) rfl ?_
       refine aO' 7 ?_
       (refine one_step0 rfl (step_buildSlice rfl rfl rfl (by omega) (by unfold maxLen; omega) rfl) rfl rfl ?_; rintro _ ⟨b182, rfl⟩)
       refine aO' 8 ?_
       (refine one_append rfl rfl rfl rfl rfl rfl (fun _ _ => by repeat (first | exact Sw.here | apply Sw.there)) (at_slc_all (by repeat first | exact mH | apply mT)) rfl (by simp [Value.oneCell']) (by unfold maxLen; omega) (by omega) rfl rfl (by repeat (first | exact HmOk.nil | apply HmOk.dep (by decide +kernel) | apply HmOk.im (by decide +kernel) (by assumption) (by repeat first | exact mH | apply mT) | apply HmOk.blk (by decide +kernel) (by repeat (first | exact Pk.here | apply Pk.there)) (by repeat first | exact mH | apply mT) | apply HmOk.slc (by decide +kernel) (by repeat (first | exact Pk.here | apply Pk.there)) (by repeat first | exact mH | apply mT))) (fun pm' cm' => ?_))
       refine aO' 10 ?_
       refine oS rfl rfl rfl rfl rfl rfl rfl rfl ?_
       refine aP 11 rfl (pA rfl) rfl ?_
       refine aD' ?_
       refine nrm_block ?_
       refine nS ?_
       refine tR ?_
       refine sP (pure_add rfl rfl (by omega) (by omega)) rfl rfl ?_
       refine sQ (pM rfl) rfl ?_
       refine sD ?_
       refine nrm_loopN (i + 1, (pn', cn', us ++ [u2], es' ++ [[v1, v2, v3, v4, v5, v6, v7, v8, v9]]), (pm', cm', ts ++ [t2], ess ++ [[.int .i64 t2.k, .slice p3 t2.ks.length c3]]), l2, G3) ?_ ?_ ?_
       ·(simp only [flat_snoc]; exact sMk)
       ·(dsimp only; exact ⟨by omega, hle.trans hle3, by simp [hlu], RTmL.snoc (hst.mono hle3) hru, by simp [hlt], RTyL.snoc (hstt.mono hle3) hrt, forall_snoc hat (tValid_ar' ((el_tyS ks[i] (d + 1) _ l (hvk i (by omega)) hcvX).1 _ _ _ hE).2), mElL_succ (by omega) hml hE, by omega, by omega⟩)
       ·(show ks.length - (i + 1) < ks.length - i; omega)
      ·(refine one_step0 rfl (step_buildSlice rfl rfl rfl (by omega) (by unfold maxLen; omega) rfl) rfl rfl ?_; rintro _ ⟨b199, rfl⟩)
       refine aO' 4 ?_
       (refine one_append rfl rfl rfl rfl rfl rfl (fun _ _ => by repeat (first | exact Sw.here | apply Sw.there)) (at_slc_all (by repeat first | exact mH | apply mT)) rfl (fun u hu => List.all_eq_true.1 hou9 u hu) (by unfold maxLen; omega) (by omega) rfl rfl (by repeat (first | exact HmOk.nil | apply HmOk.dep (by decide +kernel) | apply HmOk.im (by decide +kernel) (by assumption) (by repeat first | exact mH | apply mT) | apply HmOk.blk (by decide +kernel) (by repeat (first | exact Pk.here | apply Pk.there)) (by repeat first | exact mH | apply mT) | apply HmOk.slc (by decide +kernel) (by repeat (first | exact Pk.here | apply Pk.there)) (by repeat first | exact mH | apply mT))) (fun pn' cn' => ?_))
       refine aP 9 rfl (pF0 rfl) rfl ?_
       refine aO' 8 ?_
       (refine one_append rfl rfl rfl rfl rfl rfl (fun _ _ => by repeat (first | exact Sw.here | apply Sw.there)) (at_slc_all (by repeat first | exact mH | apply mT)) rfl (by simp [Value.oneCell']) (by unfold maxLen; omega) (by omega) rfl rfl (by repeat (first | exact HmOk.nil | apply HmOk.dep (by decide +kernel) | apply HmOk.im (by decide +kernel) (by assumption) (by repeat first | exact mH | apply mT) | apply HmOk.blk (by decide +kernel) (by repeat (first | exact Pk.here | apply Pk.there)) (by repeat first | exact mH | apply mT) | apply HmOk.slc (by decide +kernel) (by repeat (first | exact Pk.here | apply Pk.there)) (by repeat first | exact mH | apply mT))) (fun pm' cm' => ?_))
       refine aO' 10 ?_
       refine oS rfl rfl rfl rfl rfl rfl rfl rfl ?_
       refine aP 11 rfl (pA rfl) rfl ?_
       refine aD' ?_
       refine nrm_block ?_
       refine nS ?_
       refine tR ?_
       refine sP (pure_add rfl rfl (by omega) (by omega)) rfl rfl ?_
       refine sQ (pM rfl) rfl ?_
       refine sD ?_
       refine nrm_loopN (i + 1, (pn', cn', us ++ [u2], es' ++ [[v1, v2, v3, v4, v5, v6, v7, v8, v9]]), (pm', cm', ts ++ [t2], ess ++ [[.int .i64 t2.k, .slice p3 t2.ks.length c3]]), l2, G3) ?_ ?_ ?_
       ·(simp only [flat_snoc]; exact sMk)
       ·(dsimp only; exact ⟨by omega, hle.trans hle3, by simp [hlu], RTmL.snoc (hst.mono hle3) hru, by simp [hlt], RTyL.snoc (hstt.mono hle3) hrt, forall_snoc hat (tValid_ar' ((el_tyS ks[i] (d + 1) _ l (hvk i (by omega)) hcvX).1 _ _ _ hE).2), mElL_succ (by omega) hml hE, by omega, by omega⟩)
       ·(show ks.length - (i + 1) < ks.length - i; omega)
     ·(refine one_step0 rfl (step_buildSlice rfl rfl rfl (by omega) (by unfold maxLen; omega) rfl) rfl rfl ?_; rintro _ ⟨b219, rfl⟩)
      refine aO' 3 ?_
      (refine one_step0 rfl (step_buildSlice rfl rfl rfl (by omega) (by unfold maxLen; omega) rfl) rfl rfl ?_; rintro _ ⟨b221, rfl⟩)
      refine aO' 4 ?_
      (refine one_append rfl rfl rfl rfl rfl rfl (fun _ _ => by repeat (first | exact Sw.here | apply Sw.there)) (at_slc_all (by repeat first | exact mH | apply mT)) rfl (fun u hu => List.all_eq_true.1 hou9 u hu) (by unfold maxLen; omega) (by omega) rfl rfl (by repeat (first | exact HmOk.nil | apply HmOk.dep (by decide +kernel) | apply HmOk.im (by decide +kernel) (by assumption) (by repeat first | exact mH | apply mT) | apply HmOk.blk (by decide +kernel) (by repeat (first | exact Pk.here | apply Pk.there)) (by repeat first | exact mH | apply mT) | apply HmOk.slc (by decide +kernel) (by repeat (first | exact Pk.here | apply Pk.there)) (by repeat first | exact mH | apply mT))) (fun pn' cn' => ?_))
      refine aP 9 rfl (pF0 rfl) rfl ?_
      refine aO' 8 ?_
      (refine one_append rfl rfl rfl rfl rfl rfl (fun _ _ => by repeat (first | exact Sw.here | apply Sw.there)) (at_slc_all (by repeat first | exact mH | apply mT)) rfl (by simp [Value.oneCell']) (by unfold maxLen; omega) (by omega) rfl rfl (by repeat (first | exact HmOk.nil | apply HmOk.dep (by decide +kernel) | apply HmOk.im (by decide +kernel) (by assumption) (by repeat first | exact mH | apply mT) | apply HmOk.blk (by decide +kernel) (by repeat (first | exact Pk.here | apply Pk.there)) (by repeat first | exact mH | apply mT) | apply HmOk.slc (by decide +kernel) (by repeat (first | exact Pk.here | apply Pk.there)) (by repeat first | exact mH | apply mT))) (fun pm' cm' => ?_))
      refine aO' 10 ?_
      refine oS rfl rfl rfl rfl rfl rfl rfl rfl ?_
      refine aP 11 rfl (pA rfl) rfl ?_
      refine aD' ?_
      refine nrm_block ?_
      refine nS ?_
      refine tR ?_
      refine sP (pure_add rfl rfl (by omega) (by omega)) rfl rfl ?_
      refine sQ (pM rfl) rfl ?_
      refine sD ?_
      refine nrm_loopN (i + 1, (pn', cn', us ++ [u2], es' ++ [[v1, v2, v3, v4, v5, v6, v7, v8, v9]]), (pm', cm', ts ++ [t2], ess ++ [[.int .i64 t2.k, .slice p3 t2.ks.length c3]]), l2, G3) ?_ ?_ ?_
      ·(simp only [flat_snoc]; exact sMk)
      ·(dsimp only; exact ⟨by omega, hle.trans hle3, by simp [hlu], RTmL.snoc (hst.mono hle3) hru, by simp [hlt], RTyL.snoc (hstt.mono hle3) hrt, forall_snoc hat (tValid_ar' ((el_tyS ks[i] (d + 1) _ l (hvk i (by omega)) hcvX).1 _ _ _ hE).2), mElL_succ (by omega) hml hE, by omega, by omega⟩)
      ·(show ks.length - (i + 1) < ks.length - i; omega)
   ·refine sD ?_
    refine nS ?_
    refine tS ?_
    refine cF rfl ?_
    refine tri_exit ?_
    refine ext_seq ?_
    refine ext_loopN ?_
    refine ext_block_eq ?_
    refine nS ?_
    refine tS ?_
    refine tR ?_
    refine sQ (pM rfl) rfl ?_
    refine sL (lBa rfl rfl) rfl rfl ?_
    refine sQ (pM rfl) rfl ?_
    (obtain rfl : i = ks.length := (by omega); have hk14 : k ≠ 14 := hv2; rw [List.take_length] at hml hl2; refine triL_freeze (cs := ess.flatten) (by repeat (first | exact Pk.here | apply Pk.there)) (fun G3 hle3 hsl3 hno3 => ?_); have hst3 := hstt.mono hle3; have hslU : SlE G3 pm ks.length cm 2 ess := SlE.of hsl3 (by rw [hst3.len, hlt]) hst3.all (fun e he => (hst3.each e he).2); refine seq_imm rfl (wanted_fn cx k nm num (.mk tk tks) (.mk fk fks) lb ks ts G3 pc nc cc _ pm ks.length cm ess (hx.mono hle3) har hlt.symm hk14 hta (hr0.mono hle3) hslU hst3 hat) rfl rfl (fun v G4 hle4 hh => ?_); obtain ⟨pw, nw, cw, ew, w, wc, wt, rfl, hnw, hslw, hstw, hrt, hw⟩ := hh; obtain ⟨p3, c3, e3, rfl, _⟩ := hrt.open; replace hst3 := hst3.mono hle4; replace hslU := hslU.mono hle4; have hle34 := hle3.trans hle4; replace hst := hst.mono hle34; replace hty := hty.mono hle34; replace hfr := hfr.mono hle34; rcases hmw : mWanted cx k nm (Ty.mk tk tks) ts with _ | ⟨w2, t2⟩; rotate_left; have hwe := hw _ hmw; simp only [Prod.mk.injEq] at hwe; obtain ⟨rfl, rfl⟩ := hwe; have hwl := mWanted_len (by rw [hlt]; exact hop) hkr hk14 hmw; have hcl2 := mCasts_lab us ts w2 l; rcases Nat.eq_zero_or_pos ks.length with h0 | h0; rotate_left; rotate_left)
    ·refine sQ (pM rfl) rfl ?_
     refine sQ (pX rfl rfl) rfl ?_
     refine sQ (pX rfl rfl) rfl ?_
     refine sQ (pX rfl rfl) rfl ?_
     refine sE (step_alloc rfl) rfl (fun b260 => ?_)
     refine sQ (pA rfl) rfl ?_
     refine sS' ?_
     refine sQ (pA rfl) rfl ?_
     refine sD ?_
     refine nS ?_
     refine tS ?_
     refine tS ?_
     refine tR ?_
     refine sQ (pM rfl) rfl ?_
     refine sQ (pNf rfl) rfl ?_
     refine sQ (pM rfl) rfl ?_
     refine sK rfl rfl ?_
     refine sK rfl rfl ?_
     refine sK rfl rfl ?_
     refine sQ (pPt rfl rfl) rfl ?_
     refine sD ?_
     refine nS ?_
     refine cT rfl ?_
     refine tS ?_
     refine tR ?_
     refine sQ (pBd rfl rfl) rfl ?_
     refine sQ (pBd rfl rfl) rfl ?_
     refine sS' ?_
     refine sS' ?_
     refine sQ (pA rfl) rfl ?_
     refine sD ?_
     refine nS ?_
     (refine ret_freeze (cs := es'.flatten) (by repeat (first | exact Pk.here | apply Pk.there)) (fun G8 hle8 hsl8 hno8 => ?_); have hst8 := hst.mono hle8)
     refine tT ?_
     refine rS ?_
     refine ret_own3 (outs := [.blk bx [.int .i64 _]]) (rC rfl (lBa rfl rfl)) (rC rfl (lBa rfl rfl)) (rT rfl) (SubH.cons (by repeat (first | exact Pk.here | apply Pk.there)) SubH.nil) ?_
     (exact ElP.no (mEl_no hml (mNodeT_no hmw)) (tm0_r _) (tyLeaf_r _ ⟨by omega, by omega⟩) (by omega) (by rw [hck]; omega))
    ·refine sQ (pM rfl) rfl ?_
     refine sQ (pX rfl rfl) rfl ?_
     refine sQ (pX rfl rfl) rfl ?_
     refine sQ (pX rfl rfl) rfl ?_
     refine sE (step_alloc rfl) rfl (fun b297 => ?_)
     refine sQ (pA rfl) rfl ?_
     refine sS' ?_
     refine sQ (pA rfl) rfl ?_
     refine sD ?_
     refine nS ?_
     refine tS ?_
     refine tS ?_
     refine tR ?_
     refine sQ (pM rfl) rfl ?_
     refine sQ (pNt rfl) rfl ?_
     refine sQ (pM rfl) rfl ?_
     refine sL (lBa rfl rfl) rfl rfl ?_
     refine seq_valb rfl ((typeValid_fn _ _ _ hrt)) rfl rfl (fun h310 => ?_) (fun h310 => ?_)
     ·refine sQ (pNt rfl) rfl ?_
      refine sQ (pPf rfl rfl) rfl ?_
      refine sD ?_
      refine nS ?_
      refine cF rfl ?_
      refine tK ?_
      refine nS ?_
      refine tS ?_
      refine tS ?_
      refine tR ?_
      refine sQ (pM rfl) rfl ?_
      refine sQ (pLn rfl rfl) rfl ?_
      refine sQ (pM rfl) rfl ?_
      refine sD ?_
      refine nS ?_
      refine tri_block ?_
      (have h0' : ks.length = 0 := h0; refine tri_loopN (fun (_ : Nat) => ⟨[(86, .int .i64 0), (85, .int .i64 nw), (84, .slice pw nw cw), (11, .slice pm ks.length cm), (1, .slice pc nc cc), (0, .pointer (some ⟨bx, 0, none⟩)), (5, .pointer (some ⟨b3, 0, none⟩)), (6, .pointer (some ⟨b4, 0, none⟩)), (7, .pointer (some ⟨b5, 0, none⟩)), (10, .pointer (some ⟨b58, 0, none⟩)), (18, .pointer (some ⟨b297, 0, none⟩))], [.blk b297 [.int .i64 t2.k, .slice p3 t2.ks.length c3], .blk b58 [.int .i64 k, .string nm, .int .i64 num, .int .i64 tk, .slice pt tks.length ct, .int .i64 fk, .slice pf fks.length cf, .int .i64 lb, .slice pn ks.length cn], .slc pn cn 35 9 ks.length es'.flatten, .blk b5 [.int .i64 0, .slice none 0 0], .blk b4 [.int .i64 0, .string ⟨⟨[]⟩⟩, .int .i64 0, .int .i64 0, .slice none 0 0, .int .i64 0, .slice none 0 0, .int .i64 0, .slice none 0 0], .blk b3 [.int .i64 k, .string nm, .int .i64 num, .int .i64 tk, .slice pt tks.length ct, .int .i64 fk, .slice pf fks.length cf, .int .i64 lb, .slice q ks.length cq], .blk bx [.int .i64 l]], G4⟩) (fun _ => True) (fun i => i) 0 ?_ ?_ ?_)
      ·exact sMk
      ·trivial
      ·(rintro (i0 : Nat) _)
       refine tS ?_
       refine tR ?_
       refine sP (pure_lss_f rfl rfl (by omega)) rfl rfl ?_
       refine sD ?_
       refine nS ?_
       refine tS ?_
       refine cF rfl ?_
       refine tri_exit ?_
       refine ext_seq ?_
       refine ext_loopN ?_
       refine ext_block_eq ?_
       refine nS ?_
       refine tS ?_
       refine tS ?_
       refine tR ?_
       refine sQ (pF0 rfl) rfl ?_
       refine sL (lBs rfl rfl) rfl rfl ?_
       refine sP (pure_eql_f rfl rfl (by omega)) rfl rfl ?_
       refine sD ?_
       refine nS ?_
       refine cF rfl ?_
       refine tK ?_
       refine nS ?_
       refine tS ?_
       refine tri_draw mixed rfl ?_
       refine any_load (i := 0) (l' := [tt,ff,ff,ff,ff]) rfl npI (lBa rfl rfl) rfl (by kernel_rfl) rfl rfl ?_
       refine aL 1 rfl (lBa rfl rfl) rfl ?_
       refine aO' 2 ?_
       refine oS rfl rfl rfl rfl rfl rfl rfl rfl ?_
       refine aO' 3 ?_
       refine oS rfl rfl rfl rfl rfl rfl rfl rfl ?_
       refine aP 4 rfl (pA rfl) rfl ?_
       refine aD' ?_
       refine nS ?_
       (refine ret_freeze (cs := es'.flatten) (by repeat (first | exact Pk.here | apply Pk.there)) (fun G8 hle8 hsl8 hno8 => ?_); have hst8 := hst.mono hle8)
       refine tT ?_
       refine ret_own3 (outs := [.blk bx [.int .i64 _]]) (rC rfl (lBa rfl rfl)) (rC rfl (lBa rfl rfl)) (rT rfl) (SubH.cons (by repeat (first | exact Pk.here | apply Pk.there)) SubH.nil) ?_
       (obtain rfl : w2 = [] := List.length_eq_zero_iff.1 (by omega); have hne : k ≠ 13 := (fun h => by have := hop.2.2 (.inr (.inr (.inr h))); omega); have hel := mEl_go (num := num) (fr := .mk fk fks) (lb := lb) hml (mNodeT_go hmw (b := true) (by assumption)) hne; rw [mCasts_nil] at hel; exact ElP.yes hel (RTm.put hk hnum hlb (hty.mono hle8) (hfr.mono hle8) (by rw [hlu]) (SlE.of hsl8 (by rw [hst8.len, hlu]) hst8.all (fun e he => (hst8.each e he).2)) hst8) (hrt.mono hle8) (by omega) (by rw [hck]; omega))
     ·refine sQ (pNf rfl) rfl ?_
      refine sQ (pPf rfl rfl) rfl ?_
      refine sD ?_
      refine nS ?_
      refine cT rfl ?_
      refine tS ?_
      refine tR ?_
      refine sQ (pBd rfl rfl) rfl ?_
      refine sQ (pBd rfl rfl) rfl ?_
      refine sS' ?_
      refine sS' ?_
      refine sQ (pA rfl) rfl ?_
      refine sD ?_
      refine nS ?_
      (refine ret_freeze (cs := es'.flatten) (by repeat (first | exact Pk.here | apply Pk.there)) (fun G8 hle8 hsl8 hno8 => ?_); have hst8 := hst.mono hle8)
      refine tT ?_
      refine rS ?_
      refine ret_own3 (outs := [.blk bx [.int .i64 _]]) (rC rfl (lBa rfl rfl)) (rC rfl (lBa rfl rfl)) (rT rfl) (SubH.cons (by repeat (first | exact Pk.here | apply Pk.there)) SubH.nil) ?_
      (exact ElP.no (mEl_no hml (mNodeT_go hmw (b := false) (by assumption))) (tm0_r _) (tyLeaf_r _ ⟨by omega, by omega⟩) (by omega) (by rw [hck]; omega))
    ·(refine triL_open (cs := es'.flatten) (by repeat (first | exact Pk.here | apply Pk.there)) h0 (fun bc C hpe hnc hcm => ?_); subst hpe; refine sQ (pM rfl) rfl ?_)
     refine sQ (pX rfl rfl) rfl ?_
     refine sQ (pX rfl rfl) rfl ?_
     refine sQ (pX rfl rfl) rfl ?_
     refine sE (step_alloc rfl) rfl (fun b392 => ?_)
     refine sQ (pA rfl) rfl ?_
     refine sS' ?_
     refine sQ (pA rfl) rfl ?_
     refine sD ?_
     refine nS ?_
     refine tS ?_
     refine tS ?_
     refine tR ?_
     refine sQ (pM rfl) rfl ?_
     refine sQ (pNt rfl) rfl ?_
     refine sQ (pM rfl) rfl ?_
     refine sL (lBa rfl rfl) rfl rfl ?_
     refine seq_valb rfl ((typeValid_fn _ _ _ hrt)) rfl rfl (fun h405 => ?_) (fun h405 => ?_)
     ·refine sQ (pNt rfl) rfl ?_
      refine sQ (pPf rfl rfl) rfl ?_
      refine sD ?_
      refine nS ?_
      refine cF rfl ?_
      refine tK ?_
      refine nS ?_
      refine tS ?_
      refine tS ?_
      refine tR ?_
      refine sQ (pM rfl) rfl ?_
      refine sQ (pLn rfl rfl) rfl ?_
      refine sQ (pM rfl) rfl ?_
      refine sD ?_
      refine nS ?_
      refine tri_block ?_
      (have h0' := h0; refine tri_loopN (fun (x : Nat × List (List Value) × IM) => ⟨[(86, .int .i64 x.1), (85, .int .i64 nw), (84, .slice pw nw cw), (11, .slice pm ks.length cm), (1, .slice pc nc cc), (0, .pointer (some ⟨bx, 0, none⟩)), (5, .pointer (some ⟨b3, 0, none⟩)), (6, .pointer (some ⟨b4, 0, none⟩)), (7, .pointer (some ⟨b5, 0, none⟩)), (10, .pointer (some ⟨b58, 0, none⟩)), (18, .pointer (some ⟨b392, 0, none⟩))], [.blk b392 [.int .i64 t2.k, .slice p3 t2.ks.length c3], .blk b58 [.int .i64 k, .string nm, .int .i64 num, .int .i64 tk, .slice pt tks.length ct, .int .i64 fk, .slice pf fks.length cf, .int .i64 lb, .slice (some ⟨bc, 0, none⟩) ks.length cn], .blk bc (x.2.1.flatten ++ C), .blk b5 [.int .i64 0, .slice none 0 0], .blk b4 [.int .i64 0, .string ⟨⟨[]⟩⟩, .int .i64 0, .int .i64 0, .slice none 0 0, .int .i64 0, .slice none 0 0, .int .i64 0, .slice none 0 0], .blk b3 [.int .i64 k, .string nm, .int .i64 num, .int .i64 tk, .slice pt tks.length ct, .int .i64 fk, .slice pf fks.length cf, .int .i64 lb, .slice q ks.length cq], .blk bx [.int .i64 (mCasts us ts (w2.take x.1) l).2]], x.2.2⟩) (fun x => x.1 ≤ nw ∧ IMle G4 x.2.2 ∧ RTmL x.2.2 (mCasts us ts (w2.take x.1) l).1 x.2.1) (fun x => nw - x.1) (0, es', G4) ?_ ?_ ?_)
      ·(simp only [List.take_zero, mCasts_nil]; exact (sub_mk (by repeat (first | exact SubE.nil | refine SubE.cons rfl ?_)) (by repeat (first | exact SubH.refl | exact SubH.nil | refine SubH.cons (by repeat (first | exact Pk.here | apply Pk.there)) ?_ | apply SubH.drop))))
      ·(exact ⟨Nat.zero_le _, IMle.refl _, by simp only [List.take_zero, mCasts_nil]; exact hst⟩)
      ·(rintro ⟨j, es2, G6⟩ ⟨hj, hle6, hst2⟩; simp only [] at hj hle6 hst2 ⊢; replace hslw := hslw.mono hle6; replace hstw := hstw.mono hle6; replace hslU := hslU.mono hle6; replace hst3 := hst3.mono hle6; replace hty := hty.mono hle6; replace hfr := hfr.mono hle6; replace hrt := hrt.mono hle6; have hall2 := hst2.all; have hle2s := hst2.len; rw [mCasts_len] at hle2s)
       refine tS ?_
       refine tR ?_
       refine sB (pure_lss rfl rfl) rfl rfl (fun h428 => ?_) (fun h428 => ?_)
       ·refine sD ?_
        refine nS ?_
        refine tS ?_
        refine cT rfl ?_
        refine tK ?_
        refine nS ?_
        refine tS ?_
        refine tri_block ?_
        refine tS ?_
        refine tR ?_
        refine sQ (pM rfl) rfl ?_
        (have hjw : j < w2.length := (by omega); obtain ⟨b5w, o5w, q5, d5, hp5, hat, hrw, hgb⟩ := hslw.kidTy hstw (i := j) (by omega) (by omega); cases hp5; refine sP (pIN rfl rfl rfl (by omega)) rfl rfl ?_)
        refine sL (load_a rfl rfl (hat _) rfl) rfl rfl ?_
        refine sE (step_alloc rfl) rfl (fun b442 => ?_)
        refine sQ (pA rfl) rfl ?_
        refine sS' ?_
        refine sD ?_
        refine nS ?_
        (have hjw2 := hjw; obtain ⟨b0, o0, q0, d0, hp0, hat0, hre0, hg0⟩ := hslU.kidTy hst3 (i := j) (by omega) (by omega); cases hp0; obtain ⟨m1, m2, _⟩ := mCasts_succ us ts w2 l j hjw (by omega) (by omega); obtain ⟨m3, m4⟩ := mCasts_next (us := us) (h := ts) (w := w2) (l := l) hjw (by omega) (by omega); obtain ⟨hE1, hE2⟩ := hst2.at2 (i := j) (by omega) (by omega); rw [m2] at hE2; have hE3 := hE2.len; have hE4 := hE2.one; have hcj := mCasts_lab us ts (w2.take j) l; refine tri_draw mixed rfl ?_)
        refine any_pure (i := 0) (l' := [tt,ff,ff,ff,ff,ff,ff,ff,ff,ff,ff,ff,ff,ff,ff,ff,ff]) rfl npI (pF0 rfl) rfl (by kernel_rfl) rfl rfl ?_
        refine aL 1 rfl (lBs rfl rfl) rfl ?_
        refine aP 2 rfl (pM rfl) rfl ?_
        refine aP 3 rfl (pM rfl) rfl ?_
        refine aP 4 rfl (pF0 rfl) rfl ?_
        refine aL 5 rfl (lBs rfl rfl) rfl ?_
        refine aP 6 rfl (pM rfl) rfl ?_
        refine aP 7 rfl (pIN (j := j) rfl rfl rfl (by omega)) rfl ?_
        refine aL 8 rfl (load_a rfl rfl (at_elem (es := es2) (by repeat first | exact mH | apply mT) (by omega) hall2) hE3) rfl ?_
        refine aP 9 rfl (pM rfl) rfl ?_
        refine aP 10 rfl (pM rfl) rfl ?_
        refine aP 11 rfl (pIN (j := j) rfl rfl rfl (by omega)) rfl ?_
        refine aL 12 rfl (load_a rfl rfl (hat0 _) rfl) rfl ?_
        refine aL 13 rfl (lBa rfl rfl) rfl ?_
        refine aO' 14 ?_
        (refine one_take (l' := [tt,tt,tt,tt,tt,tt,tt,tt,tt,tt,tt,tt,tt,tt,tt,ff,ff]) rfl rfl (elCast_fn bx us[j] ts[j] w2[j] (mCasts us ts (w2.take j) l).2 G6 _ _ _ (by omega) hE2 hre0 hrw) (Pk.perm (by repeat (first | exact Pk.here | apply Pk.there))) rfl rfl rfl (by repeat (first | exact HmOk.nil | apply HmOk.dep (by decide +kernel) | apply HmOk.im (by decide +kernel) (by assumption) (by repeat first | exact mH | apply mT) | apply HmOk.blk (by decide +kernel) (by repeat (first | exact Pk.here | apply Pk.there)) (by repeat first | exact mH | apply mT) | apply HmOk.slc (by decide +kernel) (by repeat (first | exact Pk.here | apply Pk.there)) (by repeat first | exact mH | apply mT))) (fun v G7 outs hle7 hh => ?_); obtain ⟨uc, rfl, rfl, hru⟩ := hh; rw [← m4]; have hlu9 := hru.len; have hou9 := hru.one)
        refine aP 15 rfl (pIN (j := j) rfl rfl rfl (by omega)) rfl ?_
        refine aO' 16 ?_
        refine one_store rfl rfl rfl rfl hlu9 hou9 rfl rfl (by kernel_rfl) (by repeat first | exact Sw.here | apply Sw.there) (by exact upd_set (by omega) hall2 hlu9) ?_
        refine aD' ?_
        refine nrm_block ?_
        refine nS ?_
        refine tR ?_
        refine sP (pure_add rfl rfl (by omega) (by omega)) rfl rfl ?_
        refine sQ (pM rfl) rfl ?_
        refine sD ?_
        refine nrm_loopN (j + 1, es2.set j uc, G7) ?_ ?_ ?_
        ·(simp only [List.take_zero, mCasts_nil]; exact (sub_mk (by repeat (first | exact SubE.nil | refine SubE.cons rfl ?_)) (by repeat (first | exact SubH.refl | exact SubH.nil | refine SubH.cons (by repeat (first | exact Pk.here | apply Pk.there)) ?_ | apply SubH.drop))))
        ·(dsimp only; exact ⟨by omega, hle6.trans hle7, by rw [m3]; exact RTmL.set (hst2.mono hle7) hru⟩)
        ·(show nw - (j + 1) < nw - j; omega)
       ·refine sD ?_
        refine nS ?_
        refine tS ?_
        refine cF rfl ?_
        refine tri_exit ?_
        refine ext_seq ?_
        refine ext_loopN ?_
        refine ext_block_eq ?_
        refine nS ?_
        refine tS ?_
        refine tS ?_
        refine tR ?_
        refine sQ (pF0 rfl) rfl ?_
        refine sL (lBs rfl rfl) rfl rfl ?_
        refine sB (pE rfl rfl) rfl rfl (fun h492 => ?_) (fun h492 => ?_)
        ·refine sD ?_
         refine nS ?_
         refine cT rfl ?_
         refine tS ?_
         (have hq13 : k = 13 := (by omega); have hl13 := hop.2.2 (.inr (.inr (.inr hq13))); have hjw : j = w2.length := (by omega); rw [hjw, List.take_length] at hst2; have hm0 := mCasts_len us ts w2 l; obtain ⟨hE1, hE2⟩ := hst2.at2 (i := 0) (by omega) (by omega); have hE3 := hE2.len; have hE4 := hE2.one; refine tri_draw mixed rfl ?_)
         refine any_pure (i := 0) (l' := [tt,ff,ff,ff,ff,ff,ff,ff]) rfl npI (pF0 rfl) rfl (by kernel_rfl) rfl rfl ?_
         refine aL 1 rfl (lBs rfl rfl) rfl ?_
         refine aP 2 rfl (pIN (j := 0) rfl rfl rfl (by omega)) rfl ?_
         refine aL 3 rfl (load_a rfl rfl (at_elem (es := es2) (by repeat first | exact mH | apply mT) (by omega) hall2) hE3) rfl ?_
         refine aL 4 rfl (lBa rfl rfl) rfl ?_
         refine aO' 5 ?_
         refine oS rfl rfl rfl rfl hE3 hE4 rfl rfl ?_ (hu := by exact upd_all hE3.symm)
         refine aO' 6 ?_
         refine oS rfl rfl rfl rfl rfl rfl rfl rfl ?_
         refine aP 7 rfl (pA rfl) rfl ?_
         refine aD' ?_
         refine nS ?_
         (refine tri_freezes (bs := [(bc, es2.flatten ++ C)]) (Pk.perm (by repeat (first | exact Pk.here | apply Pk.there))) (fun hn9 hd9 hle9 => ?_))
         refine tT ?_
         refine rS ?_
         refine ret_own3 (outs := [.blk bx [.int .i64 _]]) (rC rfl (load_a rfl rfl (at_blk_all (by repeat first | exact mH | apply mT)) hE3)) (rC rfl (lBa rfl rfl)) (rT rfl) (SubH.cons (by repeat (first | exact Pk.here | apply Pk.there)) SubH.nil) ?_
         (have hel := mEl_as (num := num) (fr := .mk fk fks) (lb := lb) hml (mNodeT_go hmw (b := true) (by assumption)) hq13; rw [getD0 (by omega)] at hel; rw [hjw, List.take_length]; exact ElP.yes hel (hE2.mono hle9) (hrt.mono hle9) (by omega) (by rw [hck]; omega))
        ·refine sD ?_
         refine nS ?_
         refine cF rfl ?_
         refine tK ?_
         refine nS ?_
         refine tS ?_
         refine tri_draw mixed rfl ?_
         refine any_load (i := 0) (l' := [tt,ff,ff,ff,ff]) rfl npI (lBa rfl rfl) rfl (by kernel_rfl) rfl rfl ?_
         refine aL 1 rfl (lBa rfl rfl) rfl ?_
         refine aO' 2 ?_
         refine oS rfl rfl rfl rfl rfl rfl rfl rfl ?_
         refine aO' 3 ?_
         refine oS rfl rfl rfl rfl rfl rfl rfl rfl ?_
         refine aP 4 rfl (pA rfl) rfl ?_
         refine aD' ?_
         refine nS ?_
         (refine tri_freezes (bs := [(bc, es2.flatten ++ C)]) (Pk.perm (by repeat (first | exact Pk.here | apply Pk.there))) (fun hn9 hd9 hle9 => ?_))
         refine tT ?_
         refine ret_own3 (outs := [.blk bx [.int .i64 _]]) (rC rfl (lBa rfl rfl)) (rC rfl (lBa rfl rfl)) (rT rfl) (SubH.cons (by repeat (first | exact Pk.here | apply Pk.there)) SubH.nil) ?_
         (have hjw : j = w2.length := (by omega); rw [hjw, List.take_length] at hst2; have hst9 := hst2.mono hle9; have hel := mEl_go (num := num) (fr := .mk fk fks) (lb := lb) hml (mNodeT_go hmw (b := true) (by assumption)) (show k ≠ 13 by omega); rw [hjw, List.take_length]; have hm0 := mCasts_len us ts w2 l; exact ElP.yes hel (RTm.put hk hnum hlb (hty.mono hle9) (hfr.mono hle9) (by rw [hm0, hlu]) (SlE.of (Sl.of_blk (A := []) (by rw [flat_len hst9.all, hst9.len, hm0, hlu]) (by omega) hcm (Wi.in hn9 List.mem_cons_self)) (by rw [hst9.len, hm0, hlu]) hst9.all (fun e he => (hst9.each e he).2)) hst9) (hrt.mono hle9) (by omega) (by rw [hck]; omega))
     ·refine sQ (pNf rfl) rfl ?_
      refine sQ (pPf rfl rfl) rfl ?_
      refine sD ?_
      refine nS ?_
      refine cT rfl ?_
      refine tS ?_
      refine tR ?_
      refine sQ (pBd rfl rfl) rfl ?_
      refine sQ (pBd rfl rfl) rfl ?_
      refine sS' ?_
      refine sS' ?_
      refine sQ (pA rfl) rfl ?_
      refine sD ?_
      refine nS ?_
      refine tT ?_
      refine rS ?_
      refine ret_own3 (outs := [.blk bx [.int .i64 _]]) (rC rfl (lBa rfl rfl)) (rC rfl (lBa rfl rfl)) (rT rfl) (SubH.cons (by repeat (first | exact Pk.here | apply Pk.there)) SubH.nil) ?_
      (exact ElP.no (mEl_no hml (mNodeT_go hmw (b := false) (by assumption))) (tm0_r _) (tyLeaf_r _ ⟨by omega, by omega⟩) (by omega) (by rw [hck]; omega))
/-- A term that is valid, or none. -/
def mChk (r : Tm) : Tm × Bool := if castValid r = true then (r, true) else (tm0, false)
def mReplaceAt (t : Tm) (path : List Int) (x : Tm) : Tm × Bool := if castValid t = true ∧ castValid x = true ∧ tAt t path ≠ none then mChk (mPut t path x) else (tm0, false)
mutual
theorem sShape_down (D N : Int) : ∀ (t : Tm) (d d' : Int), d' ≤ d → sShape D N t d = true → sShape D N t d' = true
 | .mk k nm num ty fr lb ks, d, d', hd, h => by
  obtain ⟨h1, h2, h3, h4⟩ := sShape_go2 h
  rw [sShape_go (by omega) h2 h3]
  exact sShapeL_down D N ks _ _ (by omega) h4
theorem sShapeL_down (D N : Int) : ∀ (ts : List Tm) (d d' : Int), d' ≤ d → sShapeL D N ts d = true → sShapeL D N ts d' = true
 | [], d, d', hd, h => by rw [sShapeL]
 | t :: ts, d, d', hd, h => by
  rw [sShapeL, Bool.and_eq_true] at h ⊢
  exact ⟨sShape_down D N t d d' hd h.1, sShapeL_down D N ts d d' hd h.2⟩
end
theorem castTy_go' {cx : Cx} {k : Int} {nm : ByteArray} {num : Int} {ty fr : Ty} {lb : Int} {ks : List Tm} {T : Ty} {us w : List Ty} (hu : castTyL (inCx cx k nm ty) ks = some us) (hk : k ≠ 14) (hv : tValid T = true) (hw : mWanted cx k nm ty us = some (w, T)) (hs : sameTo w us = true) : castTy cx (.mk k nm num ty fr lb ks) = some T := by
 rw [castTy, hu]
 simp only [if_neg hk]
 unfold mNodeT
 rw [hw]
 simp only [hv, if_true, hs]
theorem castTyL_1 {cx : Cx} {a : Tm} {us : List Ty} (h : castTyL cx [a] = some us) : ∃ x, castTy cx a = some x ∧ us = [x] := by
 rw [castTyL] at h
 split at h
 ·cases h
 ·rename_i x hx
  rw [castTyL] at h
  simp only [Option.some.injEq] at h
  exact ⟨x, hx, h.symm⟩
theorem castTyL_mk1 {cx : Cx} {a : Tm} {x : Ty} (h : castTy cx a = some x) : castTyL cx [a] = some [x] := by rw [castTyL, h]; rfl
mutual
theorem tCons_self : ∀ a : Ty, tCons a a = true
 | .mk k ks => by rw [tCons_mk, tConsL_self ks]; simp
theorem tConsL_self : ∀ xs : List Ty, tConsL xs xs = true
 | [] => rfl
 | a :: xs => by rw [tConsL, tCons_self a, tConsL_self xs]; rfl
end
mutual
theorem mMeet_self : ∀ a : Ty, mMeet a a = a
 | .mk k ks => by
  rw [mMeet_mk, mMeetL_self ks]
  by_cases h : k = 1
  ·rw [if_pos h]
  ·rw [if_neg h, if_neg h]
theorem mMeetL_self : ∀ xs : List Ty, mMeetL xs xs = xs
 | [] => rfl
 | a :: xs => by rw [mMeetL, mMeet_self a, mMeetL_self xs]
end
theorem two_of {k : Int} {ks : List Ty} (hk : k = 4 ∨ k = 5) (h : tValid (.mk k ks) = true) : ∃ a b, ks = [a, b] ∧ tValid a = true ∧ tValid b = true := by
 unfold tValid at h ⊢
 rw [tScan_mk, Bool.and_eq_true, Bool.and_eq_true, decide_eq_true_eq, decide_eq_true_eq] at h
 have h2 : ks.length = 2 := by
  have : tyOps k = 2 := by rcases hk with rfl | rfl <;> rfl
  omega
 match ks, h2, h.2 with
 | [x, y], _, hL =>
  simp only [tScanL, Bool.and_eq_true] at hL
  exact ⟨x, y, rfl, tScan_up _ 2 1 (by omega) hL.1, tScan_up _ 2 1 (by omega) hL.2.1⟩
section inv
variable {cx : Cx} {nm : ByteArray} {num : Int} {ty fr : Ty} {lb : Int} {a b c : Tm} {T : Ty}
theorem sameTo_self : ∀ xs : List Ty, sameTo xs xs = true
 | [] => rfl
 | a :: xs => by rw [sameTo, tSame_self, sameTo_self xs]; rfl
theorem ty_cast_mk (h : castTy cx a = some fr) : castTy cx (.mk 14 nm num ty fr lb [a]) = some ty := by
 rw [castTy, show inCx cx 14 nm ty = cx from rfl, castTyL_mk1 h]
 simp only [if_true, List.getD_cons_zero, tSame_self]
end inv
/- A type depends on what the names stand for, no more. -/
mutual
/-- All labels of casts are of a kind. -/
def lbOk (L : Int → Prop) : Tm → Prop
 | .mk k nm num ty fr lb ks => (k = 14 → L lb) ∧ lbOkL L ks
def lbOkL (L : Int → Prop) : List Tm → Prop
 | [] => True
 | t :: ts => lbOk L t ∧ lbOkL L ts
end
/-- What a step of a closed term with a type is. -/
def Good (L : Int → Prop) (T : Ty) (r : Stp) : Prop := (r.2.1 = 1 ∧ castTy [] r.1 = some T ∧ lbOk L r.1) ∨ (r.2.1 = 2 ∧ L r.2.2)
mutual
theorem tCons_symm : ∀ a b : Ty, tCons a b = true → tCons b a = true
 | .mk k ks, .mk k' ks', h => by
  rw [tCons_mk] at h ⊢
  simp only [Bool.or_eq_true, Bool.and_eq_true, decide_eq_true_eq] at h ⊢
  rcases h with (h | h) | h
  ·exact .inl (.inr h)
  ·exact .inl (.inl h)
  ·exact .inr ⟨h.1.symm, tConsL_symm ks ks' h.2⟩
theorem tConsL_symm : ∀ xs ys : List Ty, tConsL xs ys = true → tConsL ys xs = true
 | [], [], _ => rfl
 | [], b :: ys, h => by simp [tConsL] at h
 | a :: xs, [], h => by simp [tConsL] at h
 | a :: xs, b :: ys, h => by
  simp only [tConsL, Bool.and_eq_true] at h ⊢
  exact ⟨tCons_symm a b h.1, tConsL_symm xs ys h.2⟩
end
mutual
theorem cons_meet : ∀ a b : Ty, tCons a b = true → tCons a (mMeet a b) = true ∧ tCons b (mMeet a b) = true
 | .mk k ks, .mk k' ks', h => by
  rw [mMeet_mk]
  by_cases h1 : k = 1
  ·rw [if_pos h1]
   exact ⟨h, tCons_self _⟩
  ·rw [if_neg h1]
   by_cases h2 : k' = 1
   ·rw [if_pos h2]
    exact ⟨tCons_self _, tCons_symm _ _ h⟩
   ·rw [if_neg h2]
    rw [tCons_mk] at h
    simp only [Bool.or_eq_true, Bool.and_eq_true, decide_eq_true_eq] at h
    have h3 : k = k' ∧ tConsL ks ks' = true := by
     rcases h with (h | h) | h
     ·exact absurd h h1
     ·exact absurd h h2
     ·exact h
    obtain ⟨m1, m2⟩ := cons_meetL ks ks' h3.2
    rw [tCons_mk, tCons_mk, m1, m2]
    simp [h3.1]
theorem cons_meetL : ∀ xs ys : List Ty, tConsL xs ys = true → tConsL xs (mMeetL xs ys) = true ∧ tConsL ys (mMeetL xs ys) = true
 | [], [], _ => ⟨rfl, rfl⟩
 | [], b :: ys, h => by simp [tConsL] at h
 | a :: xs, [], h => by simp [tConsL] at h
 | a :: xs, b :: ys, h => by
  simp only [tConsL, Bool.and_eq_true] at h
  obtain ⟨m1, m2⟩ := cons_meet a b h.1
  obtain ⟨m3, m4⟩ := cons_meetL xs ys h.2
  simp only [mMeetL, tConsL, m1, m2, m3, m4]
  exact ⟨rfl, rfl⟩
end
theorem valid_two {k : Int} {a b : Ty} (hk : k = 4 ∨ k = 5) (h : tValid (.mk k [a, b]) = true) : tValid a = true ∧ tValid b = true := by
 obtain ⟨x, y, he, h1, h2⟩ := two_of hk h
 cases he
 exact ⟨h1, h2⟩
theorem valid_any2 {k : Int} (hk : k = 4 ∨ k = 5) : tValid (.mk k [tyAny, tyAny]) = true := by rcases hk with rfl | rfl <;> decide
/-- The operands of a matched type: the type wanted is valid, and consistent with it. -/
theorem match_ok {k : Int} {t a b : Ty} (hk : k = 4 ∨ k = 5) (ht : tValid t = true) (h : mMatch k t = some (a, b)) : tValid (.mk k [a, b]) = true ∧ tCons t (.mk k [a, b]) = true := by
 obtain ⟨tk, ks⟩ := t
 rw [mMatch_mk] at h
 by_cases he : tk = k
 ·subst he
  rw [if_pos rfl] at h
  obtain ⟨x, y, rfl, _, _⟩ := two_of hk ht
  cases h
  exact ⟨ht, tCons_self _⟩
 ·rw [if_neg he] at h
  by_cases h1 : tk = 1
  ·rw [if_pos h1] at h
   cases h
   refine ⟨valid_any2 hk, ?_⟩
   rw [tCons_mk, h1]; rfl
  ·rw [if_neg h1] at h; cases h
/-- What is wanted of the operands. -/
structure Wt (cx : Cx) (k : Int) (nm : ByteArray) (ty : Ty) (h w : List Ty) (t : Ty) : Prop where
 len : w = [] ∨ w.length = h.length
 ok : ∀ i, (hi : i < w.length) → (hh : i < h.length) → tCons h[i] w[i] = true ∧ tValid w[i] = true
 again : k ≠ 13 → mWanted cx k nm ty (if w = [] then h else w) = some (w, t)
 asT : k = 13 → w = [t]
theorem wanted_wt {cx : Cx} {k : Int} {nm : ByteArray} {ty : Ty} {h w : List Ty} {t : Ty} (hh : ∀ a ∈ h, tValid a = true) (hty : k = 13 → tValid ty = true) (hn : tmOps k = (h.length : Int)) (h14 : k ≠ 14) (hw : mWanted cx k nm ty h = some (w, t)) : Wt cx k nm ty h w t := by
 have hkr := tmOps_rng (by rw [hn]; omega : 0 ≤ tmOps k)
 have hkk : k = 1 ∨ k = 2 ∨ (k = 3 ∨ k = 4) ∨ k = 5 ∨ k = 6 ∨ (k = 7 ∨ k = 8) ∨ k = 9 ∨ k = 10 ∨ (k = 11 ∨ k = 12) ∨ k = 13 := by omega
 have nil : w = [] → k ≠ 13 → Wt cx k nm ty h w t := by
  rintro rfl h13
  exact ⟨.inl rfl, fun i hi => by simp at hi, fun _ => by rw [if_pos rfl]; exact hw, fun h => absurd h h13⟩
 rcases hkk with rfl | rfl | hk | rfl | rfl | hk | rfl | rfl | hk | rfl
 ·refine nil ?_ (by decide)
  rw [mW1] at hw; split at hw <;> cases hw; rfl
 ·refine nil ?_ (by decide)
  rw [mW2] at hw; cases hw; rfl
 ·refine nil ?_ (by omega)
  rw [mW34 hk] at hw; cases hw; rfl
 ·refine nil ?_ (by decide)
  rw [mW5] at hw; cases hw; rfl
 ·match h, (show h.length = 2 by have : tmOps 6 = 2 := rfl; omega) with
  | [x, y], _ =>
  rw [mW6] at hw
  simp only [List.getD_cons_zero, List.getD_cons_succ] at hw
  split at hw
  ·rename_i a b hm
   split at hw
   ·rename_i hc
    cases hw
    obtain ⟨v1, v2⟩ := match_ok (.inl rfl) (hh x (by simp)) hm
    obtain ⟨v3, v4⟩ := valid_two (.inl rfl) v1
    refine ⟨.inr rfl, fun i hi hi2 => ?_, fun _ => ?_, fun h => absurd h (by decide)⟩
    ·match i, hi with
     | 0, _ => exact ⟨v2, v1⟩
     | 1, _ => exact ⟨hc, v3⟩
    ·rw [if_neg (by simp), mW6]
     simp only [List.getD_cons_zero, List.getD_cons_succ, mMatch_mk, if_true, tCons_self]
   ·cases hw
  ·cases hw
 ·match h, (show h.length = 2 by rcases hk with rfl | rfl <;> (first | (have : tmOps 7 = 2 := rfl; omega) | (have : tmOps 8 = 2 := rfl; omega))) with
  | [x, y], _ =>
  rw [mW78 hk] at hw
  simp only [List.getD_cons_zero, List.getD_cons_succ] at hw
  split at hw
  ·rename_i hc
   cases hw
   refine ⟨.inr rfl, fun i hi hi2 => ?_, fun _ => ?_, fun h => by omega⟩
   ·match i, hi with
    | 0, _ => exact ⟨hc.1, (show tValid tyInt = true by decide)⟩
    | 1, _ => exact ⟨hc.2, (show tValid tyInt = true by decide)⟩
   ·rw [if_neg (by simp), mW78 hk]
    simp only [List.getD_cons_zero, List.getD_cons_succ, tCons_self, and_self, if_true]
  ·cases hw
 ·match h, (show h.length = 3 by have : tmOps 9 = 3 := rfl; omega) with
  | [x, y, z], _ =>
  rw [mW9] at hw
  simp only [List.getD_cons_zero, List.getD_cons_succ] at hw
  split at hw
  ·rename_i hc
   cases hw
   obtain ⟨c1, c2⟩ := cons_meet y z hc.2
   have vm := meet_scan y z 1 hc.2 (hh y (by simp)) (hh z (by simp))
   refine ⟨.inr rfl, fun i hi hi2 => ?_, fun _ => ?_, fun h => absurd h (by decide)⟩
   ·match i, hi with
    | 0, _ => exact ⟨hc.1, (show tValid tyBool = true by decide)⟩
    | 1, _ => exact ⟨c1, vm⟩
    | 2, _ => exact ⟨c2, vm⟩
   ·rw [if_neg (by simp), mW9]
    simp only [List.getD_cons_zero, List.getD_cons_succ, tCons_self, and_self, if_true, mMeet_self]
  ·cases hw
 ·refine nil ?_ (by decide)
  rw [mW10] at hw; cases hw; rfl
 ·match h, (show h.length = 1 by rcases hk with rfl | rfl <;> (first | (have : tmOps 11 = 1 := rfl; omega) | (have : tmOps 12 = 1 := rfl; omega))) with
  | [x], _ =>
  rw [mW11 hk] at hw
  simp only [List.getD_cons_zero] at hw
  split at hw
  ·rename_i a b hm
   cases hw
   obtain ⟨v1, v2⟩ := match_ok (.inr rfl) (hh x (by simp)) hm
   refine ⟨.inr rfl, fun i hi hi2 => ?_, fun _ => ?_, fun h => by omega⟩
   ·match i, hi with
    | 0, _ => exact ⟨v2, v1⟩
   ·rw [if_neg (by simp), mW11 hk]
    simp only [List.getD_cons_zero, List.getD_cons_succ, mMatch_mk, if_true]
  ·cases hw
 ·match h, (show h.length = 1 by have : tmOps 13 = 1 := rfl; omega) with
  | [x], _ =>
  rw [mW13] at hw
  simp only [List.getD_cons_zero] at hw
  split at hw
  ·rename_i hc
   cases hw
   refine ⟨.inr rfl, fun i hi hi2 => ?_, fun h => absurd rfl h, fun _ => rfl⟩
   match i, hi with
   | 0, _ => exact ⟨hc, hty rfl⟩
  ·cases hw
theorem labelOk_of {l : Int} (h1 : 1 ≤ l) (h2 : l ≤ 99) : labelOk l = true := by
 unfold labelOk
 rw [withinB_iff.2 ⟨h1, h2⟩]; rfl
/-- A cast that is put in is valid. -/
theorem cst_shape {u : Tm} {a b : Ty} {l D : Int} (hu : sShape 40 13 u (D + 1) = true) (hc : tCons a b = true) (ha : tValid a = true) (hb : tValid b = true) (h1 : 1 ≤ l) (h2 : l ≤ 99) (hD : D ≤ 40) : sShape 40 13 (mCst u a b l) D = true := by
 unfold mCst
 rw [sShape_go hD (by decide) (tmNode_iff.2 ⟨rfl, by simp, fun _ => rfl, by simp, fun _ => rfl, fun _ => hb, by simp, fun _ => ⟨by simp [tConsistent, ha, hb, hc], labelOk_of h1 h2⟩, by simp⟩)]
 simp [sShapeL, hu]
theorem casts_ok {cx : Cx} : ∀ (us : List Tm) (h w : List Ty) (l D : Int), us.length = h.length → w.length = h.length → (∀ i, (hi : i < w.length) → (hh : i < h.length) → tCons h[i] w[i] = true ∧ tValid w[i] = true) → (∀ a ∈ h, tValid a = true) → castTyL cx us = some h → sShapeL 40 13 us (D + 1) = true → 0 ≤ l → (mCasts us h w l).2 ≤ 99 → D ≤ 40 →
  castTyL cx (mCasts us h w l).1 = some w ∧ sShapeL 40 13 (mCasts us h w l).1 D = true ∧ (tmCountL (mCasts us h w l).1 : Int) = tmCountL us + ((mCasts us h w l).2 - l)
 | [], [], [], l, D, _, _, _, _, ht, _, _, _, _ => by simp [mCasts, castTyL, sShapeL, tmCountL]
 | [], a :: h, w, l, D, hl, _, _, _, _, _, _, _, _ => by simp at hl
 | u :: us, [], w, l, D, hl, _, _, _, _, _, _, _, _ => by simp at hl
 | [], [], b :: w, l, D, _, hl, _, _, _, _, _, _, _ => by simp at hl
 | u :: us, a :: h, [], l, D, _, hl, _, _, _, _, _, _, _ => by simp at hl
 | u :: us, a :: h, b :: w, l, D, h1, h2, hw, hv, ht, hs, hl, h99, hD => by
  rw [castTyL] at ht
  split at ht
  ·cases ht
  ·rename_i a' ha
   split at ht
   ·cases ht
   ·rename_i h' hh'
    simp only [Option.some.injEq, List.cons.injEq] at ht
    obtain ⟨rfl, rfl⟩ := ht
    rw [sShapeL, Bool.and_eq_true] at hs
    obtain ⟨c1, c2⟩ := hw 0 (by simp) (by simp)
    have hw' : ∀ i, (hi : i < w.length) → (hh : i < h'.length) → tCons h'[i] w[i] = true ∧ tValid w[i] = true := fun i hi hh => hw (i + 1) (by simpa using hi) (by simpa using hh)
    have hv' : ∀ x ∈ h', tValid x = true := fun x hx => hv x (List.mem_cons_of_mem _ hx)
    simp only [mCasts] at h99 ⊢
    by_cases he : tSame a' b = true
    ·simp only [if_pos he] at h99 ⊢
     obtain ⟨i1, i2, i3⟩ := casts_ok us h' w l D (by simpa using h1) (by simpa using h2) hw' hv' hh' hs.2 hl h99 hD
     have hab := (tSame_iff _ _).1 he
     subst hab
     refine ⟨by rw [castTyL, ha, i1], ?_, ?_⟩
     ·rw [sShapeL, Bool.and_eq_true]; exact ⟨sShape_down 40 13 u (D + 1) D (by omega) hs.1, i2⟩
     ·simp only [tmCountL]; omega
    ·simp only [if_neg he] at h99 ⊢
     obtain ⟨i1, i2, i3⟩ := casts_ok us h' w (l + 1) D (by simpa using h1) (by simpa using h2) hw' hv' hh' hs.2 (by omega) h99 hD
     have hlab := mCasts_lab us h' w (l + 1)
     refine ⟨by rw [castTyL, mCst, ty_cast_mk ha, i1], ?_, ?_⟩
     ·rw [sShapeL, Bool.and_eq_true]
      exact ⟨cst_shape hs.1 c1 (hv a' List.mem_cons_self) c2 (by omega) (by omega) hD, i2⟩
     ·simp only [tmCountL, cst_count]; omega
def ElGood (cx : Cx) (t : Tm) (D l : Int) (u : Tm) (a : Ty) (l' : Int) : Prop := sShape 40 13 u D = true ∧ castTy cx u = some a ∧ tValid a = true ∧ l ≤ l' ∧ l' + 1 ≤ l + (tmCount t : Int) ∧ (tmCount u : Int) ≤ tmCount t + (l' - l)
theorem el_goodL (ks : List Tm) (ih : ∀ t ∈ ks, ∀ (d D : Int) (cx : Cx) (l : Int) (u : Tm) (a : Ty) (l' : Int), sShape 12 14 t d = true → cxV cx → 0 ≤ l → mEl cx t l = some (u, a, l') → l' ≤ 99 → D + 2 * (13 - d) ≤ 41 → ElGood cx t D l u a l') :
  ∀ (d D : Int) (cx : Cx) (l : Int) (us : List Tm) (h : List Ty) (l' : Int), sShapeL 12 14 ks d = true → cxV cx → 0 ≤ l → mElL cx ks l = some (us, h, l') → l' ≤ 99 → D + 2 * (13 - d) ≤ 41 →
   sShapeL 40 13 us D = true ∧ castTyL cx us = some h ∧ (∀ a ∈ h, tValid a = true) ∧ l ≤ l' ∧ l' + ks.length ≤ l + (tmCountL ks : Int) ∧ (tmCountL us : Int) ≤ tmCountL ks + (l' - l) ∧ h.length = ks.length ∧ us.length = ks.length := by
 induction ks with
 | nil =>
  intro d D cx l us h l' _ _ _ he _ _
  simp only [mElL, Option.some.injEq, Prod.mk.injEq] at he
  obtain ⟨rfl, rfl, rfl⟩ := he
  simp [sShapeL, castTyL, tmCountL]
 | cons t ts ihl =>
  intro d D cx l us h l' hs hcx hl he h99 hD
  rw [sShapeL, Bool.and_eq_true] at hs
  rw [mElL] at he
  split at he
  ·cases he
  ·rename_i u a l1 h1
   split at he
   ·cases he
   ·rename_i us' h' l2 h2
    simp only [Option.some.injEq, Prod.mk.injEq] at he
    obtain ⟨rfl, rfl, rfl⟩ := he
    have hp := tmCount_pos t
    -- the labels of the later operands go on from here
    have hmono : l1 ≤ l2 := by
     have : ∀ (zs : List Tm) (l : Int) us h l', mElL cx zs l = some (us, h, l') → l ≤ l' := by
      intro zs
      induction zs with
      | nil => intro l us h l' he; simp only [mElL, Option.some.injEq, Prod.mk.injEq] at he; omega
      | cons z zs ihz =>
       intro l us h l' he
       rw [mElL] at he
       split at he
       ·cases he
       ·rename_i u a l1 hz
        split at he
        ·cases he
        ·rename_i us' h' l2 hzs
         simp only [Option.some.injEq, Prod.mk.injEq] at he
         have := ihz _ _ _ _ hzs
         have := el_mono cx z l _ _ _ hz
         omega
     exact this ts l1 us' h' l2 h2
    obtain ⟨a1, a2, a3, a4, a5, a6⟩ := ih t List.mem_cons_self d D cx l u a l1 hs.1 hcx hl h1 (by omega) hD
    obtain ⟨b1, b2, b3, b4, b5, b6, b7, b8⟩ := ihl (fun x hx => ih x (List.mem_cons_of_mem _ hx)) d D cx l1 us' h' l2 hs.2 hcx (by omega) h2 h99 hD
    refine ⟨by rw [sShapeL, a1, b1]; rfl, by rw [castTyL, a2, b2], ?_, by omega, ?_, ?_, by simp [b7], by simp [b8]⟩
    ·intro x hx
     rcases List.mem_cons.1 hx with h | h
     ·rw [h]; exact a3
     ·exact b3 x h
    ·simp only [tmCountL, List.length_cons]; omega
    ·simp only [tmCountL]; omega
where
 el_mono (cx : Cx) : ∀ (z : Tm) (l : Int) (u : Tm) (a : Ty) (l' : Int), mEl cx z l = some (u, a, l') → l ≤ l' := by
  intro z
  revert cx
  refine Tm.ind (C := fun z => ∀ (cx : Cx) (l : Int) (u : Tm) (a : Ty) (l' : Int), mEl cx z l = some (u, a, l') → l ≤ l') ?_ z
  intro k nm num ty fr lb ks ih cx l u a l' he
  rw [mEl] at he
  have hL : ∀ (zs : List Tm), (∀ t ∈ zs, t ∈ ks) → ∀ (cx : Cx) (l : Int) us h l', mElL cx zs l = some (us, h, l') → l ≤ l' := by
   intro zs
   induction zs with
   | nil => intro _ cx l us h l' he; simp only [mElL, Option.some.injEq, Prod.mk.injEq] at he; omega
   | cons z zs ihz =>
    intro hin cx l us h l' he
    rw [mElL] at he
    split at he
    ·cases he
    ·rename_i u a l1 hz
     split at he
     ·cases he
     ·rename_i us' h' l2 hzs
      simp only [Option.some.injEq, Prod.mk.injEq] at he
      have := ihz (fun t ht => hin t (List.mem_cons_of_mem _ ht)) _ _ _ _ _ hzs
      have := ih z (hin z List.mem_cons_self) _ l _ _ _ hz
      omega
  split at he
  ·cases he
  ·rename_i us h l1 hk
   have h1 := hL ks (fun _ h => h) _ _ _ _ _ hk
   unfold mElN at he
   split at he
   ·cases he
   ·rename_i w t hn
    simp only [Option.some.injEq, Prod.mk.injEq] at he
    have := mCasts_lab us h w l1
    omega
theorem el_good : ∀ (t : Tm) (d D : Int) (cx : Cx) (l : Int) (u : Tm) (a : Ty) (l' : Int), sShape 12 14 t d = true → cxV cx → 0 ≤ l → mEl cx t l = some (u, a, l') → l' ≤ 99 → D + 2 * (13 - d) ≤ 41 → ElGood cx t D l u a l' := by
 refine Tm.ind fun k nm num ty fr lb ks ih d D cx l u a l' hs hcx hl he h99 hD => ?_
 obtain ⟨hd, h14, h3, h4⟩ := sShape_go2 hs
 obtain ⟨n1, n2, n3, n4, n5, n6, n7, n8, n9⟩ := tmNode_iff.1 h3
 rw [mEl] at he
 split at he
 ·cases he
 ·rename_i us h l1 hL
  unfold mElN at he
  split at he
  ·cases he
  ·rename_i w t hN
   simp only [Option.some.injEq, Prod.mk.injEq] at he
   obtain ⟨hu, rfl, rfl⟩ := he
   have hlab := mCasts_lab us h w l1
   obtain ⟨b1, b2, b3, b4, b5, b6, b7, b8⟩ := el_goodL ks ih (d + 1) (D + 2) (inCx cx k nm ty) l us h l1 h4 (cxV_in hcx fun hk => n6 (.inl hk)) hl hL (by omega) (by omega)
   obtain ⟨hv, hw⟩ := mNodeT_valid hN
   have hwt := wanted_wt b3 (fun hk => n6 (.inr (.inl hk))) (by rw [b7]; exact n1) h14 hw
   -- the operands behind their casts
   obtain ⟨c1, c2, c3⟩ : castTyL (inCx cx k nm ty) (mCasts us h w l1).1 = some (if w = [] then h else w) ∧ sShapeL 40 13 (mCasts us h w l1).1 (D + 1) = true ∧ (tmCountL (mCasts us h w l1).1 : Int) = tmCountL us + ((mCasts us h w l1).2 - l1) := by
    rcases hwt.len with hn | hn
    ·subst hn
     rw [mCasts_nil, if_pos rfl]
     refine ⟨b2, ?_, by simp⟩
     exact sShapeL_down 40 13 us (D + 2) (D + 1) (by omega) b1
    ·by_cases hn0 : w = []
     ·subst hn0
      rw [mCasts_nil, if_pos rfl]
      refine ⟨b2, ?_, by simp⟩
      exact sShapeL_down 40 13 us (D + 2) (D + 1) (by omega) b1
     ·rw [if_neg hn0]
      exact casts_ok us h w l1 (D + 1) (by omega) hn hwt.ok b3 b2 (by rw [show D + 1 + 1 = D + 2 by omega]; exact b1) (by omega) h99 (by omega)
   have hlm := mCasts_len us h w l1
   have hck : tmCount (.mk k nm num ty fr lb ks) = tmCountL ks + 1 := tmCount_mk ..
   refine ⟨?_, ?_, hv, by omega, by rw [hck]; omega, ?_⟩
   ·rw [← hu]
    split
    ·rename_i hk
     have hl1 : ks.length = 1 := by rw [hk] at n1; have : tmOps 13 = 1 := rfl; omega
     have h0 : 0 < (mCasts us h w l1).1.length := by omega
     rw [getD0' h0]
     have := (sShapeL_iff 40 13 _ _).1 c2 0 h0
     exact sShape_down 40 13 _ (D + 1) D (by omega) this
    ·rename_i hk
     rw [sShape_go (by omega) hk (by rw [hlm, b8]; exact h3)]
     exact c2
   ·rw [← hu]
    split
    ·rename_i hk
     have hl1 : ks.length = 1 := by rw [hk] at n1; have : tmOps 13 = 1 := rfl; omega
     have h0 : 0 < (mCasts us h w l1).1.length := by omega
     rw [getD0' h0]
     rw [hwt.asT hk, if_neg (by simp)] at c1
     rw [inCx, if_neg (by omega)] at c1
     rw [← hwt.asT hk] at c1
     obtain ⟨x, hx⟩ : ∃ x, (mCasts us h w l1).1 = [x] := by
      match hm : (mCasts us h w l1).1, (show (mCasts us h w l1).1.length = 1 by omega) with
      | [x], _ => exact ⟨x, rfl⟩
     simp only [hx, List.getElem_cons_zero] at c1 ⊢
     obtain ⟨y, hy, he⟩ := castTyL_1 c1
     rw [hwt.asT hk] at he
     cases he; exact hy
    ·rename_i hk
     refine castTy_go' c1 h14 hv (hwt.again hk) ?_
     by_cases hn0 : w = []
     ·rw [hn0]; rfl
     ·rw [if_neg hn0]; exact sameTo_self w
   ·rw [← hu, hck]
    split
    ·rename_i hk
     have hl1 : ks.length = 1 := by rw [hk] at n1; have : tmOps 13 = 1 := rfl; omega
     have h0 : 0 < (mCasts us h w l1).1.length := by omega
     rw [getD0' h0]
     have := tmCount_mem (List.getElem_mem h0)
     omega
    ·rw [tmCount_mk]; omega
where
 getD0' {us : List Tm} (h : 0 < us.length) : us.getD 0 tm0 = us[0] := by rw [List.getD_eq_getElem?_getD, List.getElem?_eq_getElem h, Option.getD_some]
theorem el_labK : ∀ (t : Tm) (d : Int) (cx : Cx) (l : Int) (u : Tm) (a : Ty) (l' : Int), sShape 12 14 t d = true → mEl cx t l = some (u, a, l') → l' + 1 ≤ l + (tmCount t : Int) := by
 refine Tm.ind fun k nm num ty fr lb ks ih d cx l u a l' hs he => ?_
 obtain ⟨hd, h14, h3, h4⟩ := sShape_go2 hs
 obtain ⟨n1, _⟩ := tmNode_iff.1 h3
 have hL : ∀ (zs : List Tm), (∀ t ∈ zs, t ∈ ks) → sShapeL 12 14 zs (d + 1) = true → ∀ (cx : Cx) (l : Int) us h l', mElL cx zs l = some (us, h, l') → l' + zs.length ≤ l + (tmCountL zs : Int) ∧ us.length = zs.length := by
  intro zs
  induction zs with
  | nil => intro _ _ cx l us h l' he; simp only [mElL, Option.some.injEq, Prod.mk.injEq] at he; obtain ⟨rfl, _, rfl⟩ := he; simp [tmCountL]
  | cons z zs ihz =>
   intro hin hsz cx l us h l' he
   rw [sShapeL, Bool.and_eq_true] at hsz
   rw [mElL] at he
   split at he
   ·cases he
   ·rename_i u a l1 hz
    split at he
    ·cases he
    ·rename_i us' h' l2 hzs
     simp only [Option.some.injEq, Prod.mk.injEq] at he
     obtain ⟨rfl, rfl, rfl⟩ := he
     have h5 := ihz (fun t ht => hin t (List.mem_cons_of_mem _ ht)) hsz.2 _ _ _ _ _ hzs
     have h6 := ih z (hin z List.mem_cons_self) (d + 1) _ l _ _ _ hsz.1 hz
     simp only [tmCountL, List.length_cons]
     exact ⟨by omega, by omega⟩
 rw [mEl] at he
 split at he
 ·cases he
 ·rename_i us h l1 hk
  obtain ⟨g1, g2⟩ := hL ks (fun _ h => h) h4 _ _ _ _ _ hk
  unfold mElN at he
  split at he
  ·cases he
  ·rename_i w t hn
   simp only [Option.some.injEq, Prod.mk.injEq] at he
   have := mCasts_lab us h w l1
   have hck : tmCount (.mk k nm num ty fr lb ks) = tmCountL ks + 1 := tmCount_mk ..
   rw [hck]; omega
/-- What comes of putting in casts is a valid term with casts, of the type. -/
theorem insert_good {e u : Tm} {t : Ty} (h : mInsert e = some (u, t)) : castValid u = true ∧ castTy [] u = some t ∧ tValid t = true := by
 unfold mInsert at h
 split at h
 ·rename_i hv
  obtain ⟨h1, h2⟩ := (termValid_iff e).1 hv
  split at h
  ·rename_i u' t' l' he
   cases h
   have hl : l' ≤ 99 := by
    have := el_goodL.el_mono [] e 0 _ _ _ he
    have h3 : ∀ (t : Tm) (cx : Cx) (l : Int) (u : Tm) (a : Ty) (l' : Int), mEl cx t l = some (u, a, l') → l' ≤ l + 4 * (tmCount t : Int) → True := fun _ _ _ _ _ _ _ _ => trivial
    exact el_lab e 1 h1 (by omega) he
   obtain ⟨g1, g2, g3, g4, g5, g6⟩ := el_good e 1 1 [] 0 u t l' h1 cxV_nil (by omega) he hl (by omega)
   exact ⟨(castValid_iff u).2 ⟨g1, by omega⟩, g2, g3⟩
  ·cases h
 ·cases h
where
 el_lab (e : Tm) (d : Int) (h1 : sShape 12 14 e d = true) (h2 : tmCount e ≤ 30) {u : Tm} {t : Ty} {l' : Int} (he : mEl [] e 0 = some (u, t, l')) : l' ≤ 99 := by
  have := el_labK e d [] 0 u t l' h1 he
  omega
/-- A term with casts and its type, if there are such. -/
def InsX (r : Option (Tm × Ty)) : IM → Value → List Ent → Prop := Imm fun G' v => ∃ cu ct, v = .tuple ⟨[.agg ⟨cu⟩, .agg ⟨ct⟩, .bool r.isSome]⟩ ∧ RTm G' (r.getD (tm0, ty0)).1 cu ∧ RTy G' (r.getD (tm0, ty0)).2 ct
theorem InsX.no {G : IM} {r : Option (Tm × Ty)} {cu ct : List Value} (h : r = none) (hu : RTm G tm0 cu) (ht : RTy G ty0 ct) : InsX r G (.tuple ⟨[.agg ⟨cu⟩, .agg ⟨ct⟩, .bool false]⟩) [] := by subst h; exact ⟨rfl, cu, ct, rfl, hu, ht⟩
theorem InsX.yes {G : IM} {r : Option (Tm × Ty)} {u : Tm} {t : Ty} {cu ct : List Value} (h : r = some (u, t)) (hu : RTm G u cu) (ht : RTy G t ct) : InsX r G (.tuple ⟨[.agg ⟨cu⟩, .agg ⟨ct⟩, .bool true]⟩) [] := by subst h; exact ⟨rfl, cu, ct, rfl, hu, ht⟩
theorem insert_no {e : Tm} (h : termValid e = false) : mInsert e = none := by unfold mInsert; rw [if_neg (by rw [h]; decide)]
theorem insert_none {e : Tm} (h : termValid e = true) (h2 : mEl [] e 0 = none) : mInsert e = none := by unfold mInsert; rw [if_pos h, h2]
theorem insert_some {e u : Tm} {t : Ty} {l : Int} (h : termValid e = true) (h2 : mEl [] e 0 = some (u, t, l)) : mInsert e = some (u, t) := by unfold mInsert; rw [if_pos h, h2]
theorem insertCastsX_fn (e : Tm) (G : IM) (cells : List Value) (hr : RTm G e cells) : Fn Tryz.prog 32 [.agg ⟨cells⟩] [] G (InsX (mInsert e)) := by
 have hRl := hr.len
 have hRo := hr.one
 have hV := termValid_fn e G cells hr
 have hno := @insert_no e
 have hnn := @insert_none e
 have hso := @insert_some e
 refine fn_enter Tryz.func32 rfl Tryz.ntmps32 Tryz.results32 rfl ?_
 intro w0
 refine tS (tR ?_)
 refine sE (step_box_a rfl rfl) rfl (fun b3 => ?_)
 refine sE (step_alloc rfl) rfl (fun b4 => ?_)
 refine sE (step_alloc rfl) rfl (fun b5 => ?_)
 refine sQ (pA rfl) rfl (sD (nS (tS (tS (tR (sL (load_a rfl rfl (at_blk_all (by repeat first | exact mH | apply mT)) hRl) rfl rfl ?_))))))
 refine seq_valb rfl (hV) rfl rfl (fun h13 => ?_) (fun h13 => ?_)
 refine sQ (pNt rfl) rfl (sD (nS (cF rfl ?_)))
 refine tK (nS (tS (tR (sQ (pBd rfl rfl) rfl ?_))))
 refine sE (step_box_a rfl rfl) rfl (fun b23 => ?_)
 refine sL (load_a rfl rfl (at_blk_all (by repeat first | exact mH | apply mT)) hRl) rfl rfl ?_
 focus (have htv : termValid e = true := (by assumption); obtain ⟨hsh, hcn⟩ := (termValid_iff e).1 htv; refine seq_take rfl (elTerm_fn _ e 1 [] 0 G none 0 0 _ hsh (by omega) cxV_nil (RCx.nil G) hr (by omega) (by omega)) (Pk.perm (by repeat (first | exact Pk.here | apply Pk.there))) rfl rfl (fun v G1 outs hle1 hh => ?_); obtain ⟨u, uc, t, tc, l3, rfl, rfl, hru, hrt, hl3, hl4, hu⟩ := hh; have hul := hru.len; have huo := hru.one; obtain ⟨p3, c3, e3, rfl, _⟩ := hrt.open; have hnn := hnn htv; have hso := @hso u t l3 htv; rcases hE : mEl [] e 0 with _ | ⟨u2, t2, l2⟩; rotate_left; have hue := hu _ hE; simp only [Prod.mk.injEq] at hue; obtain ⟨rfl, rfl, rfl⟩ := hue; have hso := hso hE; obtain ⟨hg1, hg2, hg3⟩ := insert_good hso; rotate_left; simp only [Option.isSome]; rotate_left; simp only [Option.isSome])
 refine sQ (pM rfl) rfl (sQ (pX rfl rfl) rfl (sQ (pX rfl rfl) rfl (sQ (pX rfl rfl) rfl ?_)))
 refine sE (step_alloc rfl) rfl (fun b30 => ?_)
 refine sE (step_alloc rfl) rfl (fun b31 => ?_)
 refine sS rfl rfl rfl hul huo rfl ?_ (hu := by exact upd_all hul.symm)
 refine sS' ?_
 refine sQ (pA rfl) rfl (sD (nS (tS (tS (tR (sQ (pM rfl) rfl ?_))))))
 refine sQ (pNt rfl) rfl (sD (nS (cF rfl ?_)))
 refine tK (nS (tS (tri_draw mixed rfl ?_)))
 refine any_load (i := 0) (l' := [tt,ff,ff,ff,ff,ff,ff]) rfl npI (load_a rfl rfl (at_blk_all (by repeat first | exact mH | apply mT)) hul) rfl (by kernel_rfl) rfl rfl ?_
 refine aL 2 rfl (lBa rfl rfl) rfl ?_
 refine aO' 1 ?_
 (refine one_imm rfl rfl (own_fn _ _ _ (cV_small hg1) hru) rfl rfl rfl (fun v G2 hle2 hh => ?_); obtain ⟨cs2, F2, rfl, hs2, hn2⟩ := hh; have hwl := hs2.R.len; have hwo := hs2.R.one; have hr2 := hs2.R.mono (Dif.le G2 G1); replace hrt := hrt.mono hle2)
 refine aO' 3 ?_
 (refine one_imm rfl rfl (ownType_fn _ _ _ (tValid_ar' hg3).small hrt) rfl rfl rfl (fun v G3 hle3 hh => ?_); obtain ⟨cs3, F3, rfl, hs3, hn3⟩ := hh; obtain ⟨p4, c4, rfl, _⟩ := hs3.open; have hr3 := hs3.R.mono (Dif.le G3 G2); replace hr2 := hr2.mono hle3)
 refine aO' 4 ?_
 refine oS rfl rfl rfl rfl hwl hwo rfl rfl ?_ (hu := by exact upd_all hwl.symm)
 refine aO' 5 ?_
 refine oS rfl rfl rfl rfl rfl rfl rfl rfl ?_
 refine aP 6 rfl (pA rfl) rfl ?_
 refine aD' ?_
 refine nS (tT (rF3 (rC rfl (load_a rfl rfl (at_blk_all (by repeat first | exact mH | apply mT)) hwl)) (rC rfl (lBa rfl rfl)) (rT rfl) ?_))
 (exact InsX.yes hso hr2 hr3)
 refine sQ (pM rfl) rfl (sQ (pX rfl rfl) rfl (sQ (pX rfl rfl) rfl (sQ (pX rfl rfl) rfl ?_)))
 refine sE (step_alloc rfl) rfl (fun b69 => ?_)
 refine sE (step_alloc rfl) rfl (fun b70 => ?_)
 refine sS rfl rfl rfl hul huo rfl ?_ (hu := by exact upd_all hul.symm)
 refine sS' ?_
 refine sQ (pA rfl) rfl (sD (nS (tS (tS (tR (sQ (pM rfl) rfl ?_))))))
 refine sQ (pNf rfl) rfl (sD (nS (cT rfl ?_)))
 refine tS (tR (sQ (pBd rfl rfl) rfl (sQ (pBd rfl rfl) rfl (sS' ?_))))
 refine sS' ?_
 refine sQ (pA rfl) rfl (sD (nS (tT (rS (rF3 (rC rfl (lBa rfl rfl)) (rC rfl (lBa rfl rfl)) (rT rfl) ?_)))))
 (exact InsX.no (hnn hE) (tm0_r _) (tyLeaf_r _ ⟨by omega, by omega⟩))
 refine sQ (pNf rfl) rfl (sD (nS (cT rfl ?_)))
 refine tS (tR (sQ (pBd rfl rfl) rfl (sQ (pBd rfl rfl) rfl (sS' ?_))))
 refine sS' ?_
 refine sQ (pA rfl) rfl (sD (nS (tT (rS (rF3 (rC rfl (lBa rfl rfl)) (rC rfl (lBa rfl rfl)) (rT rfl) ?_)))))
 (exact InsX.no (hno (by assumption)) (tm0_r _) (tyLeaf_r _ ⟨by omega, by omega⟩))
/-- The type of a term. -/
def mTypeOf (e : Tm) : Option Ty := match mInsert e with | some (_, t) => some t | none => none
theorem pTypeIn_fn (e : Tm) (G : IM) (cells : List Value) (htv : termValid e = true) (hr : RTm G e cells) : Fn Tryz.prog 72 [.slice none 0 0, .agg ⟨cells⟩] [] G (TyOk (mTypeOf e) G) := by
 have hRl := hr.len
 have hRo := hr.one
 have hnn := @insert_none e htv
 have hso := fun u t l => @insert_some e u t l htv
 obtain ⟨hsh, hcn⟩ := (termValid_iff e).1 htv
 refine fn_enter Tryz.func72 rfl Tryz.ntmps72 Tryz.results72 rfl ?_
 intro w0
 refine tS (tR ?_)
 refine sE (step_box_a rfl rfl) rfl (fun b3 => ?_)
 refine sE (step_alloc rfl) rfl (fun b4 => ?_)
 refine sQ (pA rfl) rfl (sD (nS (tS (tR (sQ (pBd rfl rfl) rfl ?_)))))
 refine sE (step_box_a rfl rfl) rfl (fun b11 => ?_)
 refine sQ (pM rfl) rfl (sL (load_a rfl rfl (at_blk_all (by repeat first | exact mH | apply mT)) hRl) rfl rfl ?_)
 focus (refine seq_take rfl (elTerm_fn _ e 1 [] 0 G none 0 0 _ hsh (by omega) cxV_nil (RCx.nil G) hr (by omega) (by omega)) (Pk.perm (by repeat (first | exact Pk.here | apply Pk.there))) rfl rfl (fun v G1 outs hle1 hh => ?_); obtain ⟨u, uc, t, tc, l3, rfl, rfl, hru, hrt, hl3, hl4, hu⟩ := hh; have hul := hru.len; have huo := hru.one; obtain ⟨p3, c3, e3, rfl, _⟩ := hrt.open; have hso := hso u t l3; rcases hE : mEl [] e 0 with _ | ⟨u2, t2, l2⟩; rotate_left; have hue := hu _ hE; simp only [Prod.mk.injEq] at hue; obtain ⟨rfl, rfl, rfl⟩ := hue; have hso := hso hE; rotate_left; simp only [Option.isSome]; rotate_left; simp only [Option.isSome])
 refine sQ (pM rfl) rfl (sQ (pX rfl rfl) rfl (sQ (pX rfl rfl) rfl (sQ (pX rfl rfl) rfl ?_)))
 refine sE (step_alloc rfl) rfl (fun b19 => ?_)
 refine sE (step_alloc rfl) rfl (fun b20 => ?_)
 refine sS rfl rfl rfl hul huo rfl ?_ (hu := by exact upd_all hul.symm)
 refine sS' ?_
 refine sQ (pA rfl) rfl (sD (nS (tS (tR (sL (lBa rfl rfl) rfl rfl ?_)))))
 refine sQ (pM rfl) rfl (sS' ?_)
 refine sQ (pA rfl) rfl (sD (nS (tT (rF2 (rC rfl (lBa rfl rfl)) (rT rfl) ?_))))
 (exact TyOk.yes hrt rfl (by unfold mTypeOf; rw [hso]))
 refine sQ (pM rfl) rfl (sQ (pX rfl rfl) rfl (sQ (pX rfl rfl) rfl (sQ (pX rfl rfl) rfl ?_)))
 refine sE (step_alloc rfl) rfl (fun b41 => ?_)
 refine sE (step_alloc rfl) rfl (fun b42 => ?_)
 refine sS rfl rfl rfl hul huo rfl ?_ (hu := by exact upd_all hul.symm)
 refine sS' ?_
 refine sQ (pA rfl) rfl (sD (nS (tS (tR (sL (lBa rfl rfl) rfl rfl ?_)))))
 refine sQ (pM rfl) rfl (sS' ?_)
 refine sQ (pA rfl) rfl (sD (nS (tT (rF2 (rC rfl (lBa rfl rfl)) (rT rfl) ?_))))
 (exact TyOk.no hrt rfl (by unfold mTypeOf; rw [hnn hE]))
theorem pIndexBind_fn (fid : FuncId) (us cs : List Value) (G : IM) : Fn Tryz.prog 135 [.slice none 0 0, .func (.func fid) ⟨us⟩ ⟨cs⟩] [] G (Val (.int .i64 (-1)) G) := by
 refine fn_enter Tryz.func135 rfl Tryz.ntmps135 Tryz.results135 rfl ?_
 intro w0
 refine tS ?_
 refine tR ?_
 refine sQ (pA rfl) rfl ?_
 refine sD ?_
 refine nS ?_
 refine tS ?_
 refine tS ?_
 refine tR ?_
 refine sQ (pM rfl) rfl ?_
 refine sQ (pLn rfl rfl) rfl ?_
 refine sQ (pM rfl) rfl ?_
 refine sD ?_
 refine nS ?_
 refine tri_block ?_
 refine tri_loopN (fun (_ : Nat) => ⟨[(8, .int .i64 0), (7, .int .i64 0)], [], G⟩) (fun _ => True) (fun i => i) 0 ?_ ?_ ?_
 ·exact sMk
 ·trivial
 ·(rintro (i0 : Nat) _)
  refine tS ?_
  refine tR ?_
  refine sP (pure_lss_f rfl rfl (by omega)) rfl rfl ?_
  refine sD ?_
  refine nS ?_
  refine tS ?_
  refine cF rfl ?_
  refine tri_exit ?_
  refine ext_seq ?_
  refine ext_loopN ?_
  refine ext_block_eq ?_
  refine nS ?_
  refine tS ?_
  refine tR ?_
  refine sQ (pA rfl) rfl ?_
  refine sD ?_
  refine nS ?_
  refine tT ?_
  refine rF1 (rT rfl) ?_
  trivial
theorem pContainsBind_fn (fid : FuncId) (us cs : List Value) (G : IM) : Fn Tryz.prog 107 [.slice none 0 0, .func (.func fid) ⟨us⟩ ⟨cs⟩] [] G (Val (.bool false) G) := by
 refine fn_enter Tryz.func107 rfl Tryz.ntmps107 Tryz.results107 rfl ?_
 intro w0
 refine tS (tR (sQ (pA rfl) rfl (sD (nS (tS (tR ?_))))))
 refine sQ (pM rfl) rfl (sQ (pM rfl) rfl (seq_val rfl (pIndexBind_fn fid us cs G) rfl rfl ?_))
 refine sP (pure_geq_f rfl rfl (by omega)) rfl rfl ?_
 refine sQ (pA rfl) rfl (sD (nS (tT (rF1 (rT rfl) ?_))))
 (exact ⟨rfl, rfl, rfl⟩)
theorem pCtxValid_fn (G : IM) : Fn Tryz.prog 71 [.slice none 0 0] [] G (Val (.bool true) G) := by
 refine fn_enter Tryz.func71 rfl Tryz.ntmps71 Tryz.results71 rfl ?_
 intro w0
 refine tS (tR (sQ (pA rfl) rfl (sD (nS (tS (tR ?_))))))
 refine sQ (pM rfl) rfl (sQ (pLn rfl rfl) rfl (sP (pure_leq_t rfl rfl (by omega)) rfl rfl ?_))
 refine sQ (pM rfl) rfl (sQ (pM rfl) rfl (seq_val rfl ((pContainsBind_fn _ _ _ _)) rfl rfl ?_))
 refine sQ (pNf rfl) rfl (sQ (pPt rfl rfl) rfl (sQ (pA rfl) rfl (sD (nS (tT (rF1 (rT rfl) ?_))))))
 (exact ⟨rfl, rfl, rfl⟩)
theorem typeOf_no {e : Tm} (h : termValid e = false) : mTypeOf e = none := by unfold mTypeOf; rw [insert_no h]
theorem typeOf_good {e : Tm} {t : Ty} (h : mTypeOf e = some t) : tValid t = true := by
 unfold mTypeOf at h
 split at h
 ·rename_i u t' hi; cases h; exact (insert_good hi).2.2
 ·cases h
theorem pTypeInX_fn (e : Tm) (G : IM) (cells : List Value) (hr : RTm G e cells) : Fn Tryz.prog 43 [.slice none 0 0, .agg ⟨cells⟩] [] G (TyOk (mTypeOf e) G) := by
 have hRl := hr.len
 have hRo := hr.one
 refine fn_enter Tryz.func43 rfl Tryz.ntmps43 Tryz.results43 rfl ?_
 intro w0
 refine tS (tR ?_)
 refine sE (step_box_a rfl rfl) rfl (fun b3 => ?_)
 refine sE (step_alloc rfl) rfl (fun b4 => ?_)
 refine sQ (pA rfl) rfl (sD (nS (tS (tS (tR (sQ (pM rfl) rfl ?_))))))
 refine seq_val rfl ((pCtxValid_fn _)) rfl rfl ?_
 refine sQ (pNt rfl) rfl (sQ (pM rfl) rfl (sL (load_a rfl rfl (at_blk_all (by repeat first | exact mH | apply mT)) hRl) rfl rfl ?_))
 refine seq_valb rfl ((termValid_fn e _ _ hr)) rfl rfl (fun h16 => ?_) (fun h16 => ?_)
 refine sQ (pNt rfl) rfl (sQ (pPf rfl rfl) rfl (sD (nS (cF rfl ?_))))
 refine tK (nS (tS (tR (sQ (pM rfl) rfl (sL (load_a rfl rfl (at_blk_all (by repeat first | exact mH | apply mT)) hRl) rfl rfl ?_)))))
 focus (refine seq_imm rfl (pTypeIn_fn e G cells (by assumption) hr) rfl rfl (fun v G1 hle1 hh => ?_); obtain ⟨cu, u, rfl, hru, hu⟩ := hh; obtain ⟨p1, c1, e1, rfl, _⟩ := hru.open; rcases hct : mTypeOf e with _ | u2; rotate_left; obtain rfl := hu u2 hct; have hgv := typeOf_good hct; rotate_left; simp only [Option.isSome]; rotate_left; simp only [Option.isSome])
 refine sQ (pM rfl) rfl (sQ (pX rfl rfl) rfl (sQ (pX rfl rfl) rfl ?_))
 refine sE (step_alloc rfl) rfl (fun b32 => ?_)
 refine sS' ?_
 refine sQ (pA rfl) rfl (sD (nS (tS (tS (tR (sQ (pM rfl) rfl ?_))))))
 refine sQ (pNt rfl) rfl (sD (nS (cF rfl ?_)))
 refine tK (nS (tS (tR (sL (lBa rfl rfl) rfl rfl ?_))))
 (refine seq_imm rfl (ownType_fn _ G1 _ (tValid_ar' hgv).small hru) rfl rfl (fun v G2 hle2 hh => ?_); obtain ⟨cs2, F2, rfl, hs2, hn2⟩ := hh; obtain ⟨p2, c2, rfl, _⟩ := hs2.open; have hr2 := hs2.R.mono (Dif.le G2 G1))
 refine sS' ?_
 refine sQ (pA rfl) rfl (sD (nS (tT (rF2 (rC rfl (lBa rfl rfl)) (rT rfl) ?_))))
 (exact TyOk.yes hr2 rfl (by first | exact hct | rfl))
 refine sQ (pM rfl) rfl (sQ (pX rfl rfl) rfl (sQ (pX rfl rfl) rfl ?_))
 refine sE (step_alloc rfl) rfl (fun b61 => ?_)
 refine sS' ?_
 refine sQ (pA rfl) rfl (sD (nS (tS (tS (tR (sQ (pM rfl) rfl ?_))))))
 refine sQ (pNf rfl) rfl (sD (nS (cT rfl ?_)))
 refine tS (tR (sQ (pBd rfl rfl) rfl (sS' ?_)))
 refine sQ (pA rfl) rfl (sD (nS (tT (rS (rF2 (rC rfl (lBa rfl rfl)) (rT rfl) ?_)))))
 (exact TyOk.no (u := ty0) (tyLeaf_r _ ⟨by omega, by omega⟩) rfl (by first | exact hct | rfl))
 refine sQ (pNf rfl) rfl (sQ (pPf rfl rfl) rfl (sD (nS (cT rfl ?_))))
 refine tS (tR (sQ (pBd rfl rfl) rfl (sS' ?_)))
 refine sQ (pA rfl) rfl (sD (nS (tT (rS (rF2 (rC rfl (lBa rfl rfl)) (rT rfl) ?_)))))
 (exact TyOk.no (u := ty0) (tyLeaf_r _ ⟨by omega, by omega⟩) rfl (typeOf_no (by assumption)))
theorem pTypeOf_fn (e : Tm) (G : IM) (cells : List Value) (hr : RTm G e cells) : Fn Tryz.prog 23 [.agg ⟨cells⟩] [] G (TyOk (mTypeOf e) G) := by
 have hRl := hr.len
 have hRo := hr.one
 refine fn_enter Tryz.func23 rfl Tryz.ntmps23 Tryz.results23 rfl ?_
 intro w0
 refine tS (tR ?_)
 refine sE (step_box_a rfl rfl) rfl (fun b3 => ?_)
 refine sE (step_alloc rfl) rfl (fun b4 => ?_)
 refine sQ (pA rfl) rfl (sD (nS (tS (tR (sL (load_a rfl rfl (at_blk_all (by repeat first | exact mH | apply mT)) hRl) rfl rfl ?_)))))
 (refine seq_imm rfl (pTypeInX_fn e G cells hr) rfl rfl (fun v G1 hle1 hh => ?_); obtain ⟨cu, u, rfl, hru, hu⟩ := hh; obtain ⟨p1, c1, e1, rfl, _⟩ := hru.open)
 refine sQ (pX rfl rfl) rfl (sQ (pX rfl rfl) rfl (sS' ?_))
 refine sQ (pA rfl) rfl (sD (nS (tT (rF2 (rC rfl (lBa rfl rfl)) (rT rfl) ?_))))
 (exact ⟨rfl, _, u, rfl, hru, hu⟩)
/-- What a run gives: a text, a code, a label. -/
def mRunTerm (e : Tm) (fuel : Int) : ByteArray × Int × Int := match mInsert e with
 | none => (⟨⟨[]⟩⟩, 3, 0)
 | some (u, _) => if (mEvalCast u fuel).2.1 = 0 then (mVText (mEvalCast u fuel).1, 0, 0) else (⟨⟨[]⟩⟩, (mEvalCast u fuel).2.1, (mEvalCast u fuel).2.2)
def RunX (r : ByteArray × Int × Int) (G : IM) : IM → Value → List Ent → Prop := Imm fun _ v => v = .tuple ⟨[.string r.1, .int .i64 r.2.1, .int .i64 r.2.2]⟩
theorem runTerm_no {e : Tm} {fuel : Int} (h : mInsert e = none) : mRunTerm e fuel = (⟨⟨[]⟩⟩, 3, 0) := by unfold mRunTerm; rw [h]
theorem runTerm_v {e u : Tm} {t : Ty} {fuel : Int} (h : mInsert e = some (u, t)) (h0 : (mEvalCast u fuel).2.1 = 0) : mRunTerm e fuel = (mVText (mEvalCast u fuel).1, 0, 0) := by unfold mRunTerm; rw [h]; simp only [h0, if_true]
theorem runTerm_n {e u : Tm} {t : Ty} {fuel : Int} (h : mInsert e = some (u, t)) (h0 : (mEvalCast u fuel).2.1 ≠ 0) : mRunTerm e fuel = (⟨⟨[]⟩⟩, (mEvalCast u fuel).2.1, (mEvalCast u fuel).2.2) := by unfold mRunTerm; rw [h]; simp only [if_neg h0]
theorem evR_val : ∀ (n : Nat) (e : Tm), (mEvR n e).2.1 = 0 → castValid (mEvR n e).1 = true ∧ mVal (mEvR n e).1 = true ∧ (mEvR n e).2.2.1 = 0
 | 0, e, h => by rw [evR_0] at h ⊢; exact stepv e h
 | n + 1, e, h => by
  by_cases h1 : (mStepCast e).2.1 = 1
  ·rw [evR_p h1] at h ⊢; exact evR_val n _ h
  ·rw [evR_n h1] at h ⊢; exact stepv e h
where
 stepv (e : Tm) (h : (mStepCast e).2.1 = 0) : castValid (mStepCast e).1 = true ∧ mVal (mStepCast e).1 = true ∧ (mStepCast e).2.2 = 0 := by
  cases h1 : castValid e with
  | false => rw [stepCast_1 h1] at h; simp at h
  | true =>
   cases h2 : mVal e with
   | true => rw [stepCast_2 h1 h2]; exact ⟨h1, h2, rfl⟩
   | false =>
    by_cases h3 : (mStp e).2.1 = 1
    ·cases h4 : castValid (mStp e).1 with
     | false => rw [stepCast_4 h1 h2 h3 h4] at h; simp at h
     | true => rw [stepCast_5 h1 h2 h3 h4] at h; simp at h
    ·rw [stepCast_3 h1 h2 h3] at h
     exact absurd h (stp_ne0 e)
 stp_ne0 : ∀ (e : Tm), (mStp e).2.1 ≠ 0 := by
  refine Tm.ind fun k nm num ty fr lb ks ih => ?_
  rw [mStp]
  cases hL : mStpL (if k = 9 then 1 else ks.length) ks with
  | none => exact red_ne0 k ty fr lb ks
  | some p =>
   obtain ⟨us, c, l⟩ := p
   have := stpL_ne0 ks ih _ us c l hL
   simp only
   by_cases hc : c = 1
   ·rw [if_pos hc]; simp
   ·rw [if_neg hc]; exact this
 red_ne0 (k : Int) (ty fr : Ty) (lb : Int) (ks : List Tm) : (mRed k ty fr lb ks).2.1 ≠ 0 := by
  unfold mRed stuck
  repeat' split
  all_goals simp
 stpL_ne0 (ks : List Tm) (ih : ∀ t ∈ ks, (mStp t).2.1 ≠ 0) : ∀ (n : Nat) us c l, mStpL n ks = some (us, c, l) → c ≠ 0 := by
  induction ks with
  | nil => intro n us c l h; cases n <;> simp [mStpL] at h
  | cons t ts iht =>
   intro n us c l h
   cases n with
   | zero => simp [mStpL] at h
   | succ n =>
    rw [stpL_cons] at h
    by_cases hv : mVal t = true
    ·rw [if_pos hv] at h
     split at h
     ·rename_i us' c' l' h'
      simp only [Option.some.injEq, Prod.mk.injEq] at h
      obtain ⟨_, rfl, _⟩ := h
      exact iht (fun u hu => ih u (List.mem_cons_of_mem _ hu)) n _ _ _ h'
     ·cases h
    ·rw [if_neg hv] at h
     simp only [Option.some.injEq, Prod.mk.injEq] at h
     obtain ⟨_, rfl, _⟩ := h
     exact ih t List.mem_cons_self
theorem evalCast_val {e : Tm} {fuel : Int} (h : (mEvalCast e fuel).2.1 = 0) : castValid (mEvalCast e fuel).1 = true ∧ mVal (mEvalCast e fuel).1 = true ∧ (mEvalCast e fuel).2.2 = 0 := by
 cases hf : withinB fuel 0 300 with
 | false => rw [evalCast_no hf] at h; simp at h
 | true =>
  by_cases h1 : (mEvR fuel.toNat e).2.1 = 1
  ·rw [evalCast_much hf h1] at h; simp at h
  ·rw [evalCast_end hf h1] at h ⊢; exact evR_val _ _ h
theorem runTerm_fn (e : Tm) (fuel : Int) (G : IM) (cells : List Value) (hT : TabG G) (hr : RTm G e cells) : Fn Tryz.prog 26 [.agg ⟨cells⟩, .int .i64 fuel] [] G (RunX (mRunTerm e fuel) G) := by
 have hRl := hr.len
 have hRo := hr.one
 have hno := @runTerm_no e fuel
 have hyv := fun u t => @runTerm_v e u t fuel
 have hyn := fun u t => @runTerm_n e u t fuel
 refine fn_enter Tryz.func26 rfl Tryz.ntmps26 Tryz.results26 rfl ?_
 intro w0
 refine tS (tR ?_)
 refine sE (step_box_a rfl rfl) rfl (fun b3 => ?_)
 refine sQ (pA rfl) rfl (sQ (pA rfl) rfl (sQ (pA rfl) rfl (sD (nS (tS (tR ?_))))))
 refine sL (load_a rfl rfl (at_blk_all (by repeat first | exact mH | apply mT)) hRl) rfl rfl ?_
 focus (refine seq_imm rfl (insertCastsX_fn e G cells hr) rfl rfl (fun v G1 hle1 hh => ?_); obtain ⟨cu, ct, rfl, hru, hrt⟩ := hh; rcases hI : mInsert e with _ | ⟨u, t⟩; rotate_left; rw [hI] at hru hrt; simp only [Option.getD_some] at hru hrt; rotate_left; rw [hI] at hru hrt; simp only [Option.getD_none] at hru hrt; simp only [Option.isSome]; rotate_left; simp only [Option.isSome]; rotate_left; all_goals (have hul := hru.len; have huo := hru.one; obtain ⟨p3, c3, e3, rfl, _⟩ := hrt.open))
 refine sQ (pM rfl) rfl (sQ (pX rfl rfl) rfl (sQ (pX rfl rfl) rfl (sQ (pX rfl rfl) rfl ?_)))
 refine sE (step_alloc rfl) rfl (fun b17 => ?_)
 refine sE (step_alloc rfl) rfl (fun b18 => ?_)
 refine sS rfl rfl rfl hul huo rfl ?_ (hu := by exact upd_all hul.symm)
 refine sS' ?_
 refine sQ (pA rfl) rfl (sD (nS (tS (tS (tR (sQ (pM rfl) rfl ?_))))))
 refine sQ (pNf rfl) rfl (sD (nS (cT rfl ?_)))
 refine tS (tR (sQ (pA rfl) rfl (sQ (pA rfl) rfl (sQ (pA rfl) rfl (sD (nS ?_))))))
 refine tT (rS (rF3 (rT rfl) (rT rfl) (rT rfl) ?_))
 (exact ⟨rfl, by rw [hno (by first | exact hI | rfl | assumption)]⟩)
 refine sQ (pM rfl) rfl (sQ (pX rfl rfl) rfl (sQ (pX rfl rfl) rfl (sQ (pX rfl rfl) rfl ?_)))
 refine sE (step_alloc rfl) rfl (fun b47 => ?_)
 refine sE (step_alloc rfl) rfl (fun b48 => ?_)
 refine sS rfl rfl rfl hul huo rfl ?_ (hu := by exact upd_all hul.symm)
 refine sS' ?_
 refine sQ (pA rfl) rfl (sD (nS (tS (tS (tR (sQ (pM rfl) rfl ?_))))))
 refine sQ (pNt rfl) rfl (sD (nS (cF rfl ?_)))
 refine tK (nS (tS (tR (sL (load_a rfl rfl (at_blk_all (by repeat first | exact mH | apply mT)) hul) rfl rfl ?_))))
 refine sQ (pM rfl) rfl ?_
 (have hyv := hyv u t hI; have hyn := hyn u t hI; have hev := @evalCast_val u fuel; refine seq_imm rfl (evalCast_fn u fuel G1 cu hru) rfl rfl (fun v G2 hle2 hh => ?_); obtain ⟨wc, hvv, hrw⟩ := hh; have hwl := hrw.len; have hwo := hrw.one; generalize mEvalCast u fuel = r at hvv hrw hyv hyn hev; obtain ⟨w, c, l⟩ := r; simp only at hvv hrw hyv hyn hev; subst hvv)
 refine sQ (pM rfl) rfl (sQ (pX rfl rfl) rfl (sQ (pX rfl rfl) rfl (sQ (pX rfl rfl) rfl ?_)))
 refine sE (step_alloc rfl) rfl (fun b73 => ?_)
 refine sS rfl rfl rfl hwl hwo rfl ?_ (hu := by exact upd_all hwl.symm)
 refine sQ (pA rfl) rfl (sQ (pA rfl) rfl (sD (nS (tS (tS (tR ?_))))))
 refine sQ (pM rfl) rfl (sB (pure_neq rfl rfl) rfl rfl (fun h83 => ?_) (fun h83 => ?_))
 refine sD (nS (cT rfl ?_))
 refine tS (tR (sQ (pM rfl) rfl (sQ (pM rfl) rfl (sQ (pA rfl) rfl (sQ (pA rfl) rfl (sQ (pA rfl) rfl ?_))))))
 refine sD (nS (tT (rS (rF3 (rT rfl) (rT rfl) (rT rfl) ?_))))
 (exact ⟨rfl, by rw [hyn (by omega)]⟩)
 refine sD (nS (cF rfl ?_))
 refine tK (nS (tS (tR (sL (load_a rfl rfl (at_blk_all (by repeat first | exact mH | apply mT)) hwl) rfl rfl ?_))))
 (obtain ⟨he1, he2, he3⟩ := hev (by omega); refine seq_val rfl (valueText_fn w G2 wc (hT.mono (hle1.trans hle2)) (cv_of he1).1 he2 hrw) rfl rfl ?_)
 refine sQ (pM rfl) rfl (sQ (pM rfl) rfl (sQ (pA rfl) rfl (sQ (pA rfl) rfl (sQ (pA rfl) rfl (sD (nS ?_))))))
 refine tT (rF3 (rT rfl) (rT rfl) (rT rfl) ?_)
 (obtain rfl : c = 0 := (by omega); subst he3; exact ⟨rfl, by rw [hyv rfl]⟩)
/-- A type, where there is one. -/
def TyO (o : Option Ty) (G : IM) : IM → Value → List Ent → Prop := Imm fun G' v => ∃ t cells, v = .tuple ⟨[.agg ⟨cells⟩, .bool o.isSome]⟩ ∧ RTy G' t cells ∧ tAr t ∧ ∀ u, o = some u → u = t
theorem TyO.yes {G G' : IM} {o : Option Ty} {t : Ty} {cells : List Value} (h : o = some t) (hr : RTy G' t cells) (ha : tAr t) : TyO o G G' (.tuple ⟨[.agg ⟨cells⟩, .bool true]⟩) [] := by
 subst h; exact ⟨rfl, t, cells, rfl, hr, ha, fun u h => (by cases h; rfl)⟩
theorem TyO.no {G G' : IM} {o : Option Ty} {t : Ty} {cells : List Value} (h : o = none) (hr : RTy G' t cells) (ha : tAr t) : TyO o G G' (.tuple ⟨[.agg ⟨cells⟩, .bool false]⟩) [] := by
 subst h; exact ⟨rfl, t, cells, rfl, hr, ha, fun u h => (by cases h)⟩
theorem TyO.mk {G G' : IM} {o : Option Ty} {b : Bool} {t : Ty} {cells : List Value} (h : o = if b = true then some t else none) (hr : RTy G' t cells) (ha : tAr t) : TyO o G G' (.tuple ⟨[.agg ⟨cells⟩, .bool b]⟩) [] := by
 cases b
 ·exact TyO.no h hr ha
 ·exact TyO.yes h hr ha
theorem tValid_ar {t : Ty} (h : tValid t = true) : tAr t := (tValid_ann h).1
theorem l3TwoX_fn (k : Int) (a b : Ty) (G : IM) (ca cb : List Value) (hk : k = 4 ∨ k = 5) (ha : tAr a) (hb : tAr b) (hra : RTy G a ca) (hrb : RTy G b cb) :
  Fn Tryz.prog 101 [.int .i64 k, .agg ⟨ca⟩, .agg ⟨cb⟩] [] G (Imm fun G' v => ∃ cells, v = .tuple ⟨[.agg ⟨cells⟩, .bool (tValid (.mk k [a, b]))]⟩ ∧ RTy G' (.mk k [a, b]) cells) := by
 obtain ⟨ak, aks⟩ := a
 obtain ⟨bk, bks⟩ := b
 obtain ⟨pa, cca, ea, rfl, _⟩ := hra.open
 obtain ⟨pb, ccb, eb, rfl, _⟩ := hrb.open
 have hki : I64 k := ⟨by omega, by omega⟩
 refine fn_enter Tryz.func101 rfl Tryz.ntmps101 Tryz.results101 rfl ?_
 intro w0
 refine tS (tR ?_)
 refine sE (step_box_a rfl rfl) rfl (fun b3 => ?_)
 refine sE (step_box_a rfl rfl) rfl (fun b4 => ?_)
 refine sE (step_alloc rfl) rfl (fun b5 => ?_)
 refine sQ (pA rfl) rfl (sD (nS (tS (tri_draw mixed rfl ?_))))
 refine any_pure (i := 0) (l' := [tt,ff,ff,ff,ff,ff,ff,ff,ff]) rfl npI (pM rfl) rfl (by kernel_rfl) rfl rfl ?_
 refine aL 1 rfl (lBa rfl rfl) rfl ?_
 refine aL 3 rfl (lBa rfl rfl) rfl ?_
 refine any_two (j := 2) (j' := 7) (by kernel_rfl) ?_ ?_
 (refine one_imm rfl rfl (l1Copy_fn _ G _ ha.small hra) rfl rfl rfl (fun v G1 hle1 hh => ?_); obtain ⟨cs1, F1, rfl, hs1, hn1⟩ := hh; obtain ⟨p1, c1, rfl, _⟩ := hs1.open; have hC2 := l1Copy_fn _ G1 _ hb.small (hrb.mono hle1))
 refine any_two (j := 4) (j' := 7) (by kernel_rfl) ?_ ?_
 (refine one_imm rfl rfl hC2 rfl rfl rfl (fun v G2 hle2 hh => ?_); obtain ⟨cs2, F2, rfl, hs2, hn2⟩ := hh; obtain ⟨p2, c2, rfl, _⟩ := hs2.open; have hr1 := hs1.R.mono ((Dif.le G1 G).trans hle2); have hr2 := hs2.R.mono (Dif.le G2 G1))
 refine any_two (j := 5) (j' := 7) (by kernel_rfl) ?_ ?_
 (refine one_step0 rfl (step_buildSlice rfl rfl rfl (by omega) (by unfold maxLen; omega) rfl) rfl rfl ?_; rintro _ ⟨b19, rfl⟩)
 refine aP 6 rfl (pBd rfl rfl) rfl ?_
 refine aO' 7 ?_
 (refine one_step0 rfl (step_alloc rfl) rfl rfl ?_; rintro _ ⟨b22, rfl⟩)
 refine aO' 8 ?_
 refine oT' rfl ?_
 refine aD' ?_
 refine nS (tS ?_)
 (have hr1' := hr1; refine tri_freeze (by repeat (first | exact Pk.here | apply Pk.there)) (fun G5 hle5 hsl5 hno5 => ?_); have hRT : RTy G5 (.mk k [.mk ak aks, .mk bk bks]) _ := RTyL.ty (ts := [.mk ak aks, .mk bk bks]) (es := [[.int .i64 ak, .slice p1 aks.length c1], [.int .i64 bk, .slice p2 bks.length c2]]) ⟨_, _, rfl, hr1.mono hle5, _, _, rfl, hr2.mono hle5, rfl⟩ rfl hsl5 hki; have hV := sTypeValid_fn _ G5 _ hRT; refine tri_draw mixed rfl ?_)
 refine any_load (i := 0) (l' := [tt,ff,ff,ff,ff]) rfl npI (lBa rfl rfl) rfl (by kernel_rfl) rfl rfl ?_
 refine aL 1 rfl (lBa rfl rfl) rfl ?_
 refine aO' 2 ?_
 refine one_val rfl rfl (hV) rfl rfl rfl ?_
 refine aO' 3 ?_
 refine oT' rfl ?_
 refine aP 4 rfl (pA rfl) rfl ?_
 refine aD' ?_
 refine nS (tT (rF2 (rC rfl (lBa rfl rfl)) (rT rfl) ?_))
 (exact ⟨rfl, _, rfl, hRT⟩)
 (refine one_step0 rfl (step_alloc rfl) rfl rfl ?_; rintro _ ⟨b41, rfl⟩)
 refine aO' 5 ?_
 (refine one_step0 rfl (step_buildSlice rfl rfl rfl (by omega) (by unfold maxLen; omega) rfl) rfl rfl ?_; rintro _ ⟨b43, rfl⟩)
 refine aP 6 rfl (pBd rfl rfl) rfl ?_
 refine aO' 8 ?_
 refine oT' rfl ?_
 refine aD' ?_
 refine nS (tS ?_)
 (have hr1' := hr1; refine tri_freeze (by repeat (first | exact Pk.here | apply Pk.there)) (fun G5 hle5 hsl5 hno5 => ?_); have hRT : RTy G5 (.mk k [.mk ak aks, .mk bk bks]) _ := RTyL.ty (ts := [.mk ak aks, .mk bk bks]) (es := [[.int .i64 ak, .slice p1 aks.length c1], [.int .i64 bk, .slice p2 bks.length c2]]) ⟨_, _, rfl, hr1.mono hle5, _, _, rfl, hr2.mono hle5, rfl⟩ rfl hsl5 hki; have hV := sTypeValid_fn _ G5 _ hRT; refine tri_draw mixed rfl ?_)
 refine any_load (i := 0) (l' := [tt,ff,ff,ff,ff]) rfl npI (lBa rfl rfl) rfl (by kernel_rfl) rfl rfl ?_
 refine aL 1 rfl (lBa rfl rfl) rfl ?_
 refine aO' 2 ?_
 refine one_val rfl rfl (hV) rfl rfl rfl ?_
 refine aO' 3 ?_
 refine oT' rfl ?_
 refine aP 4 rfl (pA rfl) rfl ?_
 refine aD' ?_
 refine nS (tT (rF2 (rC rfl (lBa rfl rfl)) (rT rfl) ?_))
 (exact ⟨rfl, _, rfl, hRT⟩)
 (refine one_step0 rfl (step_alloc rfl) rfl rfl ?_; rintro _ ⟨b63, rfl⟩)
 refine aO' 4 ?_
 (refine one_imm rfl rfl hC2 rfl rfl rfl (fun v G2 hle2 hh => ?_); obtain ⟨cs2, F2, rfl, hs2, hn2⟩ := hh; obtain ⟨p2, c2, rfl, _⟩ := hs2.open; have hr1 := hs1.R.mono ((Dif.le G1 G).trans hle2); have hr2 := hs2.R.mono (Dif.le G2 G1))
 refine aO' 5 ?_
 (refine one_step0 rfl (step_buildSlice rfl rfl rfl (by omega) (by unfold maxLen; omega) rfl) rfl rfl ?_; rintro _ ⟨b67, rfl⟩)
 refine aP 6 rfl (pBd rfl rfl) rfl ?_
 refine aO' 8 ?_
 refine oT' rfl ?_
 refine aD' ?_
 refine nS (tS ?_)
 (have hr1' := hr1; refine tri_freeze (by repeat (first | exact Pk.here | apply Pk.there)) (fun G5 hle5 hsl5 hno5 => ?_); have hRT : RTy G5 (.mk k [.mk ak aks, .mk bk bks]) _ := RTyL.ty (ts := [.mk ak aks, .mk bk bks]) (es := [[.int .i64 ak, .slice p1 aks.length c1], [.int .i64 bk, .slice p2 bks.length c2]]) ⟨_, _, rfl, hr1.mono hle5, _, _, rfl, hr2.mono hle5, rfl⟩ rfl hsl5 hki; have hV := sTypeValid_fn _ G5 _ hRT; refine tri_draw mixed rfl ?_)
 refine any_load (i := 0) (l' := [tt,ff,ff,ff,ff]) rfl npI (lBa rfl rfl) rfl (by kernel_rfl) rfl rfl ?_
 refine aL 1 rfl (lBa rfl rfl) rfl ?_
 refine aO' 2 ?_
 refine one_val rfl rfl (hV) rfl rfl rfl ?_
 refine aO' 3 ?_
 refine oT' rfl ?_
 refine aP 4 rfl (pA rfl) rfl ?_
 refine aD' ?_
 refine nS (tT (rF2 (rC rfl (lBa rfl rfl)) (rT rfl) ?_))
 (exact ⟨rfl, _, rfl, hRT⟩)
 (refine one_step0 rfl (step_alloc rfl) rfl rfl ?_; rintro _ ⟨b87, rfl⟩)
 refine aO' 2 ?_
 (refine one_imm rfl rfl (l1Copy_fn _ G _ ha.small hra) rfl rfl rfl (fun v G1 hle1 hh => ?_); obtain ⟨cs1, F1, rfl, hs1, hn1⟩ := hh; obtain ⟨p1, c1, rfl, _⟩ := hs1.open; have hC2 := l1Copy_fn _ G1 _ hb.small (hrb.mono hle1))
 refine aO' 4 ?_
 (refine one_imm rfl rfl hC2 rfl rfl rfl (fun v G2 hle2 hh => ?_); obtain ⟨cs2, F2, rfl, hs2, hn2⟩ := hh; obtain ⟨p2, c2, rfl, _⟩ := hs2.open; have hr1 := hs1.R.mono ((Dif.le G1 G).trans hle2); have hr2 := hs2.R.mono (Dif.le G2 G1))
 refine aO' 5 ?_
 (refine one_step0 rfl (step_buildSlice rfl rfl rfl (by omega) (by unfold maxLen; omega) rfl) rfl rfl ?_; rintro _ ⟨b93, rfl⟩)
 refine aP 6 rfl (pBd rfl rfl) rfl ?_
 refine aO' 8 ?_
 refine oT' rfl ?_
 refine aD' ?_
 refine nS (tS ?_)
 (have hr1' := hr1; refine tri_freeze (by repeat (first | exact Pk.here | apply Pk.there)) (fun G5 hle5 hsl5 hno5 => ?_); have hRT : RTy G5 (.mk k [.mk ak aks, .mk bk bks]) _ := RTyL.ty (ts := [.mk ak aks, .mk bk bks]) (es := [[.int .i64 ak, .slice p1 aks.length c1], [.int .i64 bk, .slice p2 bks.length c2]]) ⟨_, _, rfl, hr1.mono hle5, _, _, rfl, hr2.mono hle5, rfl⟩ rfl hsl5 hki; have hV := sTypeValid_fn _ G5 _ hRT; refine tri_draw mixed rfl ?_)
 refine any_load (i := 0) (l' := [tt,ff,ff,ff,ff]) rfl npI (lBa rfl rfl) rfl (by kernel_rfl) rfl rfl ?_
 refine aL 1 rfl (lBa rfl rfl) rfl ?_
 refine aO' 2 ?_
 refine one_val rfl rfl (hV) rfl rfl rfl ?_
 refine aO' 3 ?_
 refine oT' rfl ?_
 refine aP 4 rfl (pA rfl) rfl ?_
 refine aD' ?_
 refine nS (tT (rF2 (rC rfl (lBa rfl rfl)) (rT rfl) ?_))
 (exact ⟨rfl, _, rfl, hRT⟩)
theorem l3MatchX_fn (k : Int) (t : Ty) (G : IM) (cells : List Value) (hk : k = 4 ∨ k = 5) (ha : tAr t) (hr : RTy G t cells) :
  Fn Tryz.prog 116 [.int .i64 k, .agg ⟨cells⟩] [] G (MatchP k t G) := by
 obtain ⟨tk, ks⟩ := t
 have ha2 := ha
 rw [tAr] at ha2
 have hkid := ha.kid
 obtain ⟨p, c, es, rfl, htk, hsl, hkl⟩ := hr.open
 simp only [Ty.k, Ty.ks] at htk hsl hkl ⊢
 refine fn_enter Tryz.func116 rfl Tryz.ntmps116 Tryz.results116 rfl ?_
 intro w0
 refine tS (tR ?_)
 refine sE (step_box_a rfl rfl) rfl (fun b3 => ?_)
 refine sE (step_alloc rfl) rfl (fun b4 => ?_)
 refine sE (step_alloc rfl) rfl (fun b5 => ?_)
 refine sQ (pA rfl) rfl (sD (nS (tS (tS (tR (sQ (pF0 rfl) rfl ?_))))))
 refine sL (lBs rfl rfl) rfl rfl ?_
 refine sB (pE rfl rfl) rfl rfl (fun h14 => ?_) (fun h14 => ?_)
 refine sD (nS (cT rfl ?_))
 refine tS (tR (seq_val rfl ((l1Any_fn _)) rfl rfl ?_))
 refine seq_val rfl ((l1Any_fn _)) rfl rfl ?_
 refine sS' ?_
 refine sS' ?_
 refine sQ (pA rfl) rfl (sD (nS (tT (rS (rF3 (rC rfl (lBa rfl rfl)) (rC rfl (lBa rfl rfl)) (rT rfl) ?_)))))
 (refine ⟨rfl, _, _, _, _, ?_, tyAny_r _, tyAny_r _, tAr_any, tAr_any, ?_⟩ <;> rw [mMatch_mk, if_neg (by omega), if_pos (by omega)] <;> first | rfl | (intro p hp; cases hp; rfl))
 refine sD (nS (cF rfl ?_))
 refine tK (nS (tS (tS (tR (sQ (pF0 rfl) rfl (sL (lBs rfl rfl) rfl rfl ?_))))))
 refine sQ (pM rfl) rfl (sB (pure_neq rfl rfl) rfl rfl (fun h42 => ?_) (fun h42 => ?_))
 refine sD (nS (cT rfl ?_))
 refine tS (tR (sQ (pBd rfl rfl) rfl (sQ (pBd rfl rfl) rfl (sS' ?_))))
 refine sS' ?_
 refine sQ (pA rfl) rfl (sD (nS (tT (rS (rF3 (rC rfl (lBa rfl rfl)) (rC rfl (lBa rfl rfl)) (rT rfl) ?_)))))
 (refine ⟨rfl, ty0, _, ty0, _, ?_, tyLeaf_r _ ⟨by omega, by omega⟩, tyLeaf_r _ ⟨by omega, by omega⟩, tAr_leaf (by omega) (by omega), tAr_leaf (by omega) (by omega), ?_⟩ <;> rw [mMatch_mk, if_neg (by omega), if_neg (by omega)] <;> first | rfl | (intro p hp; cases hp))
 refine sD (nS (cF rfl ?_))
 refine tK (nS (tS ?_))
 (have hlen : ks.length = 2 := ha2.1 (by omega); obtain ⟨b, o, q0, d0, hp0, hat0, hre0, hg0⟩ := hsl.kidTy hkl (i := 0) (by omega) (by omega); obtain ⟨b', o', q1, d1, hp1, hat1, hre1, hg1⟩ := hsl.kidTy hkl (i := 1) (by omega) (by omega); subst hp0; cases hp1; have hC1 := l1Copy_fn _ G _ (hkid _ (List.getElem_mem (by omega))).small hre0; refine tri_draw mixed rfl ?_)
 refine any_pure (i := 0) (l' := [tt,ff,ff,ff,ff,ff,ff,ff,ff,ff,ff,ff,ff]) rfl npI (pF0 rfl) rfl (by kernel_rfl) rfl rfl ?_
 refine aL 1 rfl (lBs rfl rfl) rfl ?_
 refine aP 2 rfl (pIN (j := 0) rfl rfl rfl (by omega)) rfl ?_
 refine aL 3 rfl (load_a rfl rfl (hat0 _) rfl) rfl ?_
 refine aP 5 rfl (pF0 rfl) rfl ?_
 refine aL 6 rfl (lBs rfl rfl) rfl ?_
 refine aP 7 rfl (pIN (j := 1) rfl rfl rfl (by omega)) rfl ?_
 refine aL 8 rfl (load_a rfl rfl (hat1 _) rfl) rfl ?_
 refine aO' 4 ?_
 (refine one_imm rfl rfl hC1 rfl rfl rfl (fun v G1 hle1 hh => ?_); obtain ⟨cs1, F1, rfl, hs1, hn1⟩ := hh; obtain ⟨p1, c1, rfl, _⟩ := hs1.open; have hC2 := l1Copy_fn _ G1 _ (hkid _ (List.getElem_mem (by omega))).small (hre1.mono hle1))
 refine aO' 9 ?_
 (refine one_imm rfl rfl hC2 rfl rfl rfl (fun v G2 hle2 hh => ?_); obtain ⟨cs2, F2, rfl, hs2, hn2⟩ := hh; obtain ⟨p2, c2, rfl, _⟩ := hs2.open; have hr1 := hs1.R.mono ((Dif.le G1 G).trans hle2); have hr2 := hs2.R.mono (Dif.le G2 G1))
 refine aO' 10 ?_
 refine oT' rfl ?_
 refine aO' 11 ?_
 refine one_store rfl rfl rfl rfl rfl rfl rfl rfl (by decide +kernel) (by repeat first | exact Sw.here | apply Sw.there) (by rfl) ?_
 refine aP 12 rfl (pA rfl) rfl ?_
 refine aD' ?_
 refine nS (tT (rF3 (rC rfl (lBa rfl rfl)) (rC rfl (lBa rfl rfl)) (rT rfl) ?_))
 (refine ⟨rfl, _, _, _, _, ?_, hr1, hr2, hkid _ (List.getElem_mem (by omega)), hkid _ (List.getElem_mem (by omega)), ?_⟩ <;> rw [mMatch_mk, if_pos (by omega)] <;> first | rfl | (intro p hp; cases hp; simp [hlen]))
theorem l3LookX_fn (G : IM) (cx : Cx) (hv : cxV cx) (p : Option Addr) (n c : Nat) (nm : ByteArray) (hx : RCx G cx p n c) :
  Fn Tryz.prog 98 [.slice p n c, .string nm] [] G (TyO (mLook cx nm) G) := by
 have hn := hx.le
 refine fn_enter Tryz.func98 rfl Tryz.ntmps98 Tryz.results98 rfl ?_
 intro w0
 refine tS (tR ?_)
 refine sE (step_alloc rfl) rfl (fun b3 => ?_)
 refine sQ (pA rfl) rfl (sD (nS (tS (tS (tR (sQ (pM rfl) rfl ?_))))))
 refine sQ (pLn rfl rfl) rfl (sP (pure_sub rfl rfl (by omega) (by omega)) rfl rfl ?_)
 refine sQ (pA rfl) rfl (sD (nS (tri_block ?_)))
 (refine tri_loopN (fun (i : Nat) => ⟨[(6, .int .i64 ((i : Int) - 1)), (0, .slice p n c), (1, .string nm), (4, .pointer (some ⟨b3, 0, none⟩))], [.blk b3 [.int .i64 0, .slice none 0 0]], G⟩) (fun i => i ≤ n ∧ mLook cx nm = lookN cx nm i) (fun i => i) n ?_ ?_ ?_)
 exact sMk
 (exact ⟨Nat.le_refl _, by unfold mLook; rw [hx.1]⟩)
 (rintro i ⟨hi, hlk⟩)
 refine tS (tS (tR (sQ (pM rfl) rfl (sB (pure_geq rfl rfl) rfl rfl (fun h25 => ?_) (fun h25 => ?_)))))
 refine sD (nS (cT rfl ?_))
 refine tK (nS (tS ?_))
 (show Tri _ _ (.block 1 _) _ _; obtain ⟨j, rfl⟩ : ∃ j, i = j + 1 := ⟨i - 1, by omega⟩; rw [show ((j + 1 : Nat) : Int) - 1 = (j : Int) from by omega]; obtain ⟨b, o, nm1, t1, q1, d1, hcx, rfl, hat, hr1, hgb⟩ := hx.get (i := j) (by omega); have ha1 := tValid_ar (hv _ (List.mem_of_getElem? hcx)); refine tri_block ?_)
 refine tS (tR (sQ (pM rfl) rfl (sQ (pM rfl) rfl (sP (pIN rfl rfl rfl (by omega)) rfl rfl ?_))))
 refine sQ (pF rfl) rfl (sL (load_s rfl rfl ((hat _).sub (j := 0) rfl)) rfl rfl ?_)
 refine sQ (pM rfl) rfl (sB (pure_seql rfl rfl) rfl rfl (fun h41 => ?_) (fun h41 => ?_))
 refine sD (nS (cT rfl ?_))
 refine tS (tR (sQ (pM rfl) rfl (sQ (pM rfl) rfl (sP (pIN rfl rfl rfl (by omega)) rfl rfl ?_))))
 refine sQ (pF rfl) rfl (sL (load_a rfl rfl (hat _).drop rfl) rfl rfl ?_)
 (refine seq_imm rfl (l1Copy_fn _ G _ ha1.small hr1) rfl rfl (fun v G1 hle1 hh => ?_); obtain ⟨cs1, F1, rfl, hs1', hn1⟩ := hh; obtain ⟨p1, c1, rfl, _⟩ := hs1'.open; have hrr := hs1'.R.mono (Dif.le G1 G))
 refine sS' ?_
 refine sQ (pA rfl) rfl (sD (nS (tT (rB (rS (ret_loopN ?_))))))
 refine rB (rS (rF2 (rC rfl (lBa rfl rfl)) (rT rfl) ?_))
 (exact TyO.yes (by rw [hlk]; exact lookN_eq hcx (by assumption)) hrr ha1)
 refine sD (nS (cF rfl ?_))
 refine tK (nrm_block (nS (tR (sQ (pM rfl) rfl (sP (pure_sub rfl rfl (by omega) (by omega)) rfl rfl ?_)))))
 refine sQ (pA rfl) rfl (sD (nrm_loopN j ?_ ?_ ?_))
 exact sMk
 (exact ⟨by omega, by rw [hlk]; exact lookN_ne hcx (by assumption)⟩)
 (show _ < _ + 1; omega)
 refine sD (nS (cF rfl ?_))
 refine tri_exit ?_
 refine ext_seq ?_
 refine ext_loopN ?_
 refine ext_block_eq ?_
 refine nS (tS (tR (sQ (pBd rfl rfl) rfl (sS' ?_))))
 refine sQ (pA rfl) rfl (sD (nS (tT (rF2 (rC rfl (lBa rfl rfl)) (rT rfl) ?_))))
 (obtain rfl : i = 0 := (by omega); exact TyO.no (by rw [hlk]; rfl) (tyLeaf_r _ ⟨by omega, by omega⟩) (tAr_leaf (by omega) (by omega)))
theorem meetL_len : ∀ (xs ys : List Ty), xs.length = ys.length → (mMeetL xs ys).length = xs.length
 | [], [], _ => rfl
 | a :: xs, b :: ys, h => by simp only [mMeetL, List.length_cons]; rw [meetL_len xs ys (by simpa using h)]
 | [], b :: ys, h => by simp at h
 | a :: xs, [], h => by simp at h
theorem meetL_get : ∀ (xs ys : List Ty) (i : Nat) (h : i < xs.length) (h' : i < ys.length) (hl : i < (mMeetL xs ys).length), (mMeetL xs ys)[i] = mMeet xs[i] ys[i]
 | [], _, i, h, _, _ => by simp at h
 | a :: xs, [], i, _, h', _ => by simp at h'
 | a :: xs, b :: ys, 0, _, _, _ => by simp [mMeetL]
 | a :: xs, b :: ys, i + 1, h, h', hl => by
  simp only [mMeetL, List.getElem_cons_succ]
  exact meetL_get xs ys i (by simpa using h) (by simpa using h') _
theorem meetL_take {xs ys : List Ty} {i : Nat} (hl : xs.length = ys.length) (h : i < xs.length) : (mMeetL xs ys).take (i + 1) = (mMeetL xs ys).take i ++ [mMeet xs[i] (ys[i]'(by omega))] := by
 rw [List.take_succ_eq_append_getElem (by rw [meetL_len _ _ hl]; exact h), meetL_get _ _ i h (by omega)]
theorem l1MeetX_fn : ∀ (a b : Ty) (G : IM) (ca cb : List Value), tCons a b = true → tAr a → tAr b → RTy G a ca → RTy G b cb → Fn Tryz.prog 130 [.agg ⟨ca⟩, .agg ⟨cb⟩] [] G (Imm fun G' v => ∃ cells, v = .agg ⟨cells⟩ ∧ RTy G' (mMeet a b) cells) := by
 refine Ty.ind fun ak aks ih b G ca cb hc ha hb hra hrb => ?_
 obtain ⟨bk, bks⟩ := b
 have hka := ha.kid
 have hkb := hb.kid
 have hca := l1Copy_fn _ G _ ha.small hra
 have hcb := l1Copy_fn _ G _ hb.small hrb
 have hcc : ak ≠ 1 → bk ≠ 1 → aks.length = bks.length ∧ ∀ i, (h : i < aks.length) → (h' : i < bks.length) → tCons aks[i] bks[i] = true := by
  intro h1 h2
  rw [tCons_mk, decide_eq_false h1, decide_eq_false h2] at hc
  simp only [Bool.false_or, Bool.and_eq_true, decide_eq_true_eq] at hc
  exact (tConsL_iff _ _).1 hc.2
 rw [mMeet_mk]
 obtain ⟨pa, cca, ea, rfl, hak, hsla, hkla⟩ := hra.open
 obtain ⟨pb, ccb, eb, rfl, hbk, hslb, hklb⟩ := hrb.open
 simp only [Ty.k, Ty.ks] at hak hsla hkla hbk hslb hklb ⊢
 have hna := hsla.le
 have hnb := hslb.le
 have hl2 := ha.two
 refine fn_enter Tryz.func130 rfl Tryz.ntmps130 Tryz.results130 rfl ?_
 intro w0
 refine tS (tR ?_)
 refine sE (step_box_a rfl rfl) rfl (fun b3 => ?_)
 refine sE (step_box_a rfl rfl) rfl (fun b4 => ?_)
 refine sE (step_alloc rfl) rfl (fun b5 => ?_)
 refine sD (nS (tS (tS (tR (sQ (pF0 rfl) rfl (sL (lBs rfl rfl) rfl rfl ?_))))))
 refine sB (pE rfl rfl) rfl rfl (fun h13 => ?_) (fun h13 => ?_)
 refine sD (nS (cT rfl ?_))
 refine tS (tR (sL (lBa rfl rfl) rfl rfl ?_))
 (refine seq_imm rfl (by first | exact hcb | exact hca) rfl rfl (fun v G1 hle1 hh => ?_); obtain ⟨cs1, F1, rfl, hs1, hn1⟩ := hh; obtain ⟨p1, c1, rfl, _⟩ := hs1.open; have hr1 := hs1.R.mono (Dif.le G1 G))
 refine sS' ?_
 refine sD (nS (tT (rS (rF1 (rC rfl (lBa rfl rfl)) ?_))))
 (rw [if_pos (by omega)]; exact ⟨rfl, _, rfl, hr1⟩)
 refine sD (nS (cF rfl ?_))
 refine tK (nS (tS (tS (tR (sQ (pF0 rfl) rfl (sL (lBs rfl rfl) rfl rfl ?_))))))
 refine sB (pE rfl rfl) rfl rfl (fun h38 => ?_) (fun h38 => ?_)
 refine sD (nS (cT rfl ?_))
 refine tS (tR (sL (lBa rfl rfl) rfl rfl ?_))
 (refine seq_imm rfl (by first | exact hcb | exact hca) rfl rfl (fun v G1 hle1 hh => ?_); obtain ⟨cs1, F1, rfl, hs1, hn1⟩ := hh; obtain ⟨p1, c1, rfl, _⟩ := hs1.open; have hr1 := hs1.R.mono (Dif.le G1 G))
 refine sS' ?_
 refine sD (nS (tT (rS (rF1 (rC rfl (lBa rfl rfl)) ?_))))
 (rw [if_neg (by omega), if_pos (by omega)]; exact ⟨rfl, _, rfl, hr1⟩)
 refine sD (nS (cF rfl ?_))
 refine tK (nS (tS (tR (sQ (pF0 rfl) rfl (sL (lBs rfl rfl) rfl rfl ?_)))))
 refine sQ (pBd rfl rfl) rfl ?_
 refine sE (step_alloc rfl) rfl (fun b63 => ?_)
 refine sS' ?_
 refine sD (nS (tS (tS (tR (sQ (pA rfl) rfl (sD ?_))))))
 refine nS (tri_block ?_)
 (obtain ⟨hlab, hcab⟩ := hcc (by omega) (by omega); refine tri_nil 32 2 ?_; refine tri_loopN (fun (x : Nat × Option Addr × Nat × List Ty × List (List Value) × IM) => ⟨[(6, .int .i64 x.1), (5, .pointer (some ⟨b63, 0, none⟩)), (4, .pointer (some ⟨b5, 0, none⟩)), (2, .pointer (some ⟨b3, 0, none⟩)), (3, .pointer (some ⟨b4, 0, none⟩))], [.blk b63 [.int .i64 ak, .slice x.2.1 x.1 x.2.2.1], .slc x.2.1 x.2.2.1 32 2 x.1 x.2.2.2.2.1.flatten, .blk b5 [.int .i64 0, .slice none 0 0], .blk b4 [.int .i64 bk, .slice pb bks.length ccb], .blk b3 [.int .i64 ak, .slice pa aks.length cca]], x.2.2.2.2.2⟩) (fun x => x.1 ≤ aks.length ∧ IMle G x.2.2.2.2.2 ∧ x.2.2.2.1.length = x.1 ∧ RTyL x.2.2.2.2.2 x.2.2.2.1 x.2.2.2.2.1 ∧ x.2.2.2.1 = (mMeetL aks bks).take x.1) (fun x => aks.length - x.1) (0, none, 0, [], [], G) ?_ ?_ ?_)
 (simp only [flat_snoc]; exact sMk)
 (exact ⟨by simp, IMle.refl _, rfl, by simp [RTyL], rfl⟩)
 (rintro ⟨i, pn, cn, us, es', Gi⟩ ⟨hi, hle, hlu, hst, hus⟩; simp only [] at hi hle hlu hst hus ⊢; replace hsla := hsla.mono hle; replace hkla := hkla.mono hle; replace hslb := hslb.mono hle; replace hklb := hklb.mono hle)
 refine tS (tS (tR (sQ (pM rfl) rfl (sQ (pF0 rfl) rfl (sL (lBs rfl rfl) rfl rfl ?_)))))
 refine sQ (pLn rfl rfl) rfl (sB (pure_lss rfl rfl) rfl rfl (fun h85 => ?_) (fun h85 => ?_))
 refine sD (nS (cT rfl ?_))
 refine tK (nS (tS (tri_block ?_)))
 (obtain ⟨b, o, q0, d0, hp0, hat0, hre0, hg0⟩ := hsla.kidTy hkla (i := i) (by omega) (by omega); obtain ⟨b', o', q1, d1, hp1, hat1, hre1, hg1⟩ := hslb.kidTy hklb (i := i) (by omega) (by omega); subst hp0; subst hp1; have hih := ih aks[i] (List.getElem_mem (by omega)) bks[i] Gi _ _ (hcab i (by omega) (by omega)) (hka _ (List.getElem_mem (by omega))) (hkb _ (List.getElem_mem (by omega))) hre0 hre1; refine tri_draw mixed rfl ?_)
 refine any_pure (i := 0) (l' := [tt,ff,ff,ff,ff,ff,ff,ff,ff,ff,ff,ff,ff,ff,ff,ff,ff]) rfl npI (pF0 rfl) rfl (by kernel_rfl) rfl rfl ?_
 refine aL 1 rfl (lBs rfl rfl) rfl ?_
 refine aP 2 rfl (pF0 rfl) rfl ?_
 refine aL 3 rfl (lBs rfl rfl) rfl ?_
 refine aP 4 rfl (pM rfl) rfl ?_
 refine aP 5 rfl (pIN rfl rfl rfl (by omega)) rfl ?_
 refine aL 6 rfl (load_a rfl rfl (hat0 _) rfl) rfl ?_
 refine aP 7 rfl (pF0 rfl) rfl ?_
 refine aL 8 rfl (lBs rfl rfl) rfl ?_
 refine aP 9 rfl (pM rfl) rfl ?_
 refine aP 10 rfl (pIN rfl rfl rfl (by omega)) rfl ?_
 refine aL 11 rfl (load_a rfl rfl (hat1 _) rfl) rfl ?_
 refine aO' 12 ?_
 (refine one_imm rfl rfl hih rfl rfl rfl (fun v G1 hle1 hh => ?_); obtain ⟨cells', rfl, hru⟩ := hh; generalize hu : mMeet aks[i] bks[i] = u at hru; obtain ⟨p3, c3, es3, rfl, _⟩ := hru.open)
 refine aO' 13 ?_
 (refine one_step0 rfl (step_buildSlice rfl rfl rfl (by omega) (by unfold maxLen; omega) rfl) rfl rfl ?_; rintro _ ⟨b109, rfl⟩)
 refine aO' 14 ?_
 refine one_append rfl rfl rfl rfl rfl rfl (fun _ _ => by repeat (first | exact Sw.here | apply Sw.there)) (at_slc_all (by repeat first | exact mH | apply mT)) rfl (by simp [Value.oneCell']) (by unfold maxLen; omega) (by omega) rfl rfl (by repeat (first | exact HmOk.nil | apply HmOk.dep (by decide +kernel) | apply HmOk.blk (by decide +kernel) (by repeat (first | exact Pk.here | apply Pk.there)) (by repeat first | exact mH | apply mT))) (fun pn' cn' => ?_)
 refine aP 15 rfl (pF0 rfl) rfl ?_
 refine aO' 16 ?_
 refine one_store rfl rfl rfl rfl rfl rfl rfl rfl (by decide +kernel) (by repeat first | exact Sw.here | apply Sw.there) (by rfl) ?_
 refine aD' ?_
 refine nrm_block (nS (tR (sQ (pM rfl) rfl (sP (pure_add rfl rfl (by omega) (by omega)) rfl rfl ?_))))
 refine sQ (pA rfl) rfl (sD (nrm_loopN (i + 1, pn', cn', us ++ [u], es' ++ [[.int .i64 u.k, .slice p3 u.ks.length c3]], G1) ?_ ?_ ?_))
 (simp only [flat_snoc]; exact sMk)
 (dsimp only; exact ⟨by omega, hle.trans hle1, by simp [hlu], RTyL.snoc (hst.mono hle1) hru, by rw [meetL_take hlab (by omega), ← hus, hu]⟩)
 (show aks.length - (i + 1) < aks.length - i; omega)
 refine sD (nS (cF rfl ?_))
 refine tri_exit ?_
 refine ext_seq ?_
 refine ext_loopN ?_
 refine ext_block_eq ?_
 refine nS (tS (tR (sL (lBa rfl rfl) rfl rfl ?_)))
 refine sS' ?_
 refine sD (nS ?_)
 (refine ret_freeze (by repeat (first | exact Pk.here | apply Pk.there)) (fun G2 hle2 hsl2 hno2 => ?_); obtain rfl : i = aks.length := (by omega))
 refine tT (rF1 (rC rfl (lBa rfl rfl)) ?_)
 (rw [List.take_of_length_le (by rw [meetL_len _ _ hlab]; omega)] at hus; rw [if_neg (by omega), if_neg (by omega), ← hus]; exact ⟨rfl, _, rfl, (hst.mono hle2).ty hlu hsl2 hak⟩)
theorem gD {ts : List Ty} {i : Nat} (h : i < ts.length) : ts.getD i ty0 = ts[i] := by rw [List.getD_eq_getElem?_getD, List.getElem?_eq_getElem h, Option.getD_some]
section
variable {cx : Cx} {k : Int} {nm : ByteArray} {ty : Ty} {ts : List Ty}
theorem tySN6 (h : 1 < ts.length) : mTySN cx 6 nm ty ts = match mMatch 4 ts[0] with | some (a, b) => if tCons ts[1] a = true then some b else none | none => none := by
 unfold mTySN mWanted
 rw [gD (i := 0) (by omega), gD (i := 1) h]
 simp only [show ¬((6 : Int) = 1) by decide, show ¬((6 : Int) = 2) by decide, show ¬((6 : Int) = 3 ∨ (6 : Int) = 4) by decide, show ¬((6 : Int) = 5) by decide, if_false, if_true]
 cases mMatch 4 ts[0] with
 | none => rfl
 | some p =>
  obtain ⟨a, b⟩ := p
  by_cases hc : tCons ts[1] a = true
  ·simp [hc]
  ·simp [hc]
theorem tySN78 (hk : k = 7 ∨ k = 8) (h : 1 < ts.length) : mTySN cx k nm ty ts = if tCons ts[0] tyInt = true ∧ tCons ts[1] tyInt = true then some (if k = 8 then tyBool else tyInt) else none := by
 unfold mTySN mWanted
 rw [gD (i := 0) (by omega), gD (i := 1) h, if_neg (by omega), if_neg (by omega), if_neg (by omega), if_neg (by omega), if_neg (by omega), if_pos hk]
 by_cases hc : tCons ts[0] tyInt = true ∧ tCons ts[1] tyInt = true
 ·rw [if_pos hc, if_pos hc]; simp only; rw [if_neg (by omega)]
 ·rw [if_neg hc, if_neg hc]
theorem tySN9 (h : 2 < ts.length) : mTySN cx 9 nm ty ts = if tCons ts[0] tyBool = true ∧ tCons ts[1] ts[2] = true then some (mMeet ts[1] ts[2]) else none := by
 unfold mTySN mWanted
 rw [gD (i := 0) (by omega), gD (i := 1) (by omega), gD (i := 2) h, if_neg (by omega), if_neg (by omega), if_neg (by omega), if_neg (by omega), if_neg (by omega), if_neg (by omega), if_pos rfl]
 by_cases hc : tCons ts[0] tyBool = true ∧ tCons ts[1] ts[2] = true
 ·rw [if_pos hc, if_pos hc]; simp
 ·rw [if_neg hc, if_neg hc]
theorem tySN10 (h : 1 < ts.length) : mTySN cx 10 nm ty ts = if tValid (.mk 5 [ts[0], ts[1]]) = true then some (.mk 5 [ts[0], ts[1]]) else none := by
 unfold mTySN mWanted
 rw [gD (i := 0) (by omega), gD (i := 1) h, if_neg (by omega), if_neg (by omega), if_neg (by omega), if_neg (by omega), if_neg (by omega), if_neg (by omega), if_neg (by omega), if_pos rfl]
 cases hv : tValid (.mk 5 [ts[0], ts[1]]) <;> simp [hv]
theorem tySN13 (h : 0 < ts.length) : mTySN cx 13 nm ty ts = if tCons ts[0] ty = true then some ty else none := by
 unfold mTySN mWanted
 rw [gD (i := 0) h, if_neg (by omega), if_neg (by omega), if_neg (by omega), if_neg (by omega), if_neg (by omega), if_neg (by omega), if_neg (by omega), if_neg (by omega), if_pos rfl]
 by_cases hc : tCons ts[0] ty = true
 ·rw [if_pos hc, if_pos hc]; simp
 ·rw [if_neg hc, if_neg hc]
theorem tySN11 (hk : k = 11 ∨ k = 12) (h : 0 < ts.length) : mTySN cx k nm ty ts = match mMatch 5 ts[0] with | some (a, b) => some (if k = 12 then b else a) | none => none := by
 unfold mTySN mWanted
 rw [gD (i := 0) h, if_neg (by omega), if_neg (by omega), if_neg (by omega), if_neg (by omega), if_neg (by omega), if_neg (by omega), if_neg (by omega), if_neg (by omega), if_neg (by omega)]
 cases mMatch 5 ts[0] with
 | none => rfl
 | some p =>
  obtain ⟨a, b⟩ := p
  simp only
  rw [if_neg (by omega)]
end
theorem meet_ar : ∀ (a b : Ty), tCons a b = true → tAr a → tAr b → tAr (mMeet a b) := by
 refine Ty.ind fun k ks ih b hc ha hb => ?_
 obtain ⟨k', ks'⟩ := b
 rw [mMeet_mk]
 split
 ·exact hb
 ·split
  ·exact ha
  ·rw [tCons_mk] at hc
   simp only [Bool.or_eq_true, Bool.and_eq_true, decide_eq_true_eq] at hc
   obtain ⟨hk, hl⟩ : k = k' ∧ tConsL ks ks' = true := by
    rcases hc with (h | h) | h
    ·contradiction
    ·contradiction
    ·exact h
   obtain ⟨hll, hcc⟩ := (tConsL_iff _ _).1 hl
   have hlen := meetL_len ks ks' hll
   refine tAr_like ha hlen fun u hu => ?_
   obtain ⟨i, hi, rfl⟩ := List.mem_iff_getElem.1 hu
   rw [meetL_get ks ks' i (by omega) (by omega)]
   exact ih _ (List.getElem_mem _) _ (hcc i (by omega) (by omega)) (ha.kid _ (List.getElem_mem _)) (hb.kid _ (List.getElem_mem _))
theorem l3ResultX_fn (cx : Cx) (k : Int) (nm : ByteArray) (num : Int) (ty fr : Ty) (lb : Int) (ks : List Tm) (ts : List Ty) (G : IM) (cells : List Value) (p : Option Addr) (c : Nat) (es : List (List Value))
  (hops : tmOps k = ts.length) (hk6 : 6 ≤ k ∧ k ≤ 13) (hty : tAr ty) (hr : RTm G (.mk k nm num ty fr lb ks) cells) (hsl : SlE G p ts.length c 2 es) (hkl : RTyL G ts es) (har : ∀ t ∈ ts, tAr t) :
  Fn Tryz.prog 102 [.agg ⟨cells⟩, .slice p ts.length c] [] G (TyO (mTySN cx k nm ty ts) G) := by
 have hone := hr.one
 have hop := tm_ops hops
 have ha0 := fun h : 0 < ts.length => har _ (List.getElem_mem h)
 have ha1 := fun h : 1 < ts.length => har _ (List.getElem_mem h)
 have ha2 := fun h : 2 < ts.length => har _ (List.getElem_mem h)
 obtain ⟨tk, tks⟩ := ty
 obtain ⟨fk, fks⟩ := fr
 obtain ⟨pt, ct, pf, cf, pk, ck, ek, rfl, hk, hnum, hlb, hrty, hrfr, _, _⟩ := hr.open9
 refine fn_enter Tryz.func102 rfl Tryz.ntmps102 Tryz.results102 rfl ?_
 intro w0
 refine tS (tR ?_)
 refine sE (step_box_a rfl rfl) rfl (fun b3 => ?_)
 refine sE (step_alloc rfl) rfl (fun b4 => ?_)
 refine sQ (pA rfl) rfl (sD (nS (tS (tS (tR (sQ (pF0 rfl) rfl ?_))))))
 refine sL (lBs rfl rfl) rfl rfl ?_
 refine sD (nS (tri_block (tS (tR (sB (pE rfl rfl) rfl rfl (fun h18 => ?_) (fun h18 => ?_))))))
 refine sQ (pA rfl) rfl (sD (nS (cT rfl ?_)))
 refine tS (tR (sQ (pM rfl) rfl ?_))
 (have hl2 : ts.length = 2 := hop.1 (by omega); obtain ⟨b0, o0, q0, d0, hp0, hat0, hre0, hg0⟩ := hsl.kidTy hkl (i := 0) (by omega) (by omega); obtain ⟨b1, o1, q1, d1, hp1, hat1, hre1, hg1⟩ := hsl.kidTy hkl (i := 1) (by omega) (by omega); cases hp0; cases hp1; refine sP (pIN (j := 0) rfl rfl rfl (by omega)) rfl rfl ?_)
 refine sL (load_a rfl rfl (hat0 _) rfl) rfl rfl ?_
 focus (refine seq_imm rfl (l3MatchX_fn 4 ts[0] G _ (.inl rfl) (ha0 (by omega)) hre0) rfl rfl (fun v G1 hle1 hh => ?_); obtain ⟨ma, mca, mb, mcb, rfl, hma, hmb, hma2, hmb2, hpp⟩ := hh; obtain ⟨p1, c1, e1, rfl, _⟩ := hma.open; obtain ⟨p2, c2, e2, rfl, _⟩ := hmb.open; replace hsl := hsl.mono hle1; replace hkl := hkl.mono hle1; rcases hm : mMatch 4 ts[0] with _ | pr; rotate_left; obtain rfl := hpp _ hm; rotate_left; all_goals simp only [Option.isSome])
 refine sQ (pM rfl) rfl (sQ (pX rfl rfl) rfl (sQ (pX rfl rfl) rfl (sQ (pX rfl rfl) rfl ?_)))
 refine sE (step_alloc rfl) rfl (fun b33 => ?_)
 refine sE (step_alloc rfl) rfl (fun b34 => ?_)
 refine sS' ?_
 refine sS' ?_
 refine sQ (pA rfl) rfl (sD (nS (tS ?_)))
 (have hl2 : ts.length = 2 := hop.1 (by omega); obtain ⟨b0, o0, q0, d0, hp0, hat0, hre0, hg0⟩ := hsl.kidTy hkl (i := 0) (by omega) (by omega); obtain ⟨b1, o1, q1, d1, hp1, hat1, hre1, hg1⟩ := hsl.kidTy hkl (i := 1) (by omega) (by omega); cases hp0; cases hp1; refine tri_draw mixed rfl ?_)
 refine any_load (i := 0) (l' := [tt,ff,ff,ff,ff,ff,ff,ff,ff,ff,ff]) rfl npI (lBa rfl rfl) rfl (by kernel_rfl) rfl rfl ?_
 refine aP 1 rfl (pM rfl) rfl ?_
 refine aP 2 rfl (pM rfl) rfl ?_
 refine aK' 3 rfl rfl rfl ?_
 refine aK' 4 rfl rfl rfl ?_
 refine aK' 5 rfl rfl rfl ?_
 refine aK' 6 rfl rfl rfl ?_
 refine aK' 7 rfl rfl rfl ?_
 refine aP 8 rfl (pPf rfl rfl) rfl ?_
 refine aO' 9 ?_
 refine oT' rfl ?_
 refine aP 10 rfl (pA rfl) rfl ?_
 refine aD' ?_
 refine nS (tT (rB (rS (rF2 (rC rfl (lBa rfl rfl)) (rT rfl) ?_))))
 (obtain rfl : k = 6 := (by omega); exact TyO.no (by rw [tySN6 (by omega), hm]) hmb hmb2)
 refine sQ (pM rfl) rfl (sQ (pX rfl rfl) rfl (sQ (pX rfl rfl) rfl (sQ (pX rfl rfl) rfl ?_)))
 refine sE (step_alloc rfl) rfl (fun b65 => ?_)
 refine sE (step_alloc rfl) rfl (fun b66 => ?_)
 refine sS' ?_
 refine sS' ?_
 refine sQ (pA rfl) rfl (sD (nS (tS ?_)))
 (have hl2 : ts.length = 2 := hop.1 (by omega); obtain ⟨b0, o0, q0, d0, hp0, hat0, hre0, hg0⟩ := hsl.kidTy hkl (i := 0) (by omega) (by omega); obtain ⟨b1, o1, q1, d1, hp1, hat1, hre1, hg1⟩ := hsl.kidTy hkl (i := 1) (by omega) (by omega); cases hp0; cases hp1; refine tri_draw mixed rfl ?_)
 refine any_load (i := 0) (l' := [tt,ff,ff,ff,ff,ff,ff,ff,ff,ff,ff]) rfl npI (lBa rfl rfl) rfl (by kernel_rfl) rfl rfl ?_
 refine aP 1 rfl (pM rfl) rfl ?_
 refine aP 2 rfl (pM rfl) rfl ?_
 refine aP 3 rfl (pM rfl) rfl ?_
 refine aP 4 rfl (pIN (j := 1) rfl rfl rfl (by omega)) rfl ?_
 refine aL 5 rfl (load_a rfl rfl (hat1 _) rfl) rfl ?_
 refine aL 6 rfl (lBa rfl rfl) rfl ?_
 refine aO' 7 ?_
 refine one_val rfl rfl ((l1ConsistentA_fn ts[1] ma _ _ _ (ha1 (by omega)) hma2 hre1 hma)) rfl rfl rfl ?_
 refine aP 8 rfl (pPt rfl rfl) rfl ?_
 refine aO' 9 ?_
 refine oT' rfl ?_
 refine aP 10 rfl (pA rfl) rfl ?_
 refine aD' ?_
 refine nS (tT (rB (rS (rF2 (rC rfl (lBa rfl rfl)) (rT rfl) ?_))))
 (obtain rfl : k = 6 := (by omega); exact TyO.mk (by rw [tySN6 (by omega), hm]) hmb hmb2)
 refine sQ (pA rfl) rfl (sD (nS (cF rfl ?_)))
 refine tS (tR (sB (pE rfl rfl) rfl rfl (fun h100 => ?_) (fun h100 => ?_)))
 refine sQ (pA rfl) rfl (sD (nS (cT rfl ?_)))
 refine tS ?_
 (have hl2 : ts.length = 2 := hop.1 (by omega); obtain ⟨b0, o0, q0, d0, hp0, hat0, hre0, hg0⟩ := hsl.kidTy hkl (i := 0) (by omega) (by omega); obtain ⟨b1, o1, q1, d1, hp1, hat1, hre1, hg1⟩ := hsl.kidTy hkl (i := 1) (by omega) (by omega); cases hp0; cases hp1; refine tri_draw mixed rfl ?_)
 refine any_pure (i := 1) (l' := [ff,tt,ff,ff,ff,ff,ff,ff,ff,ff,ff,ff,ff,ff,ff]) rfl npI (pM rfl) rfl (by kernel_rfl) rfl rfl ?_
 refine aP 2 rfl (pIN (j := 0) rfl rfl rfl (by omega)) rfl ?_
 refine aL 3 rfl (load_a rfl rfl (hat0 _) rfl) rfl ?_
 refine aO' 0 ?_
 refine one_val rfl rfl ((l3Int_fn _)) rfl rfl rfl ?_
 refine aO' 4 ?_
 refine one_val rfl rfl ((l3Int_fn _)) rfl rfl rfl ?_
 refine aO' 5 ?_
 refine one_valb rfl rfl ((l1ConsistentA_fn ts[0] (.mk 2 []) _ _ _ (ha0 (by omega)) (tAr_leaf (by decide) (by decide)) hre0 (tyLeaf_r _ ⟨by omega, by omega⟩))) rfl rfl rfl (fun h115 => ?_) (fun h115 => ?_)
 refine aP 6 rfl (pM rfl) rfl ?_
 refine aP 7 rfl (pM rfl) rfl ?_
 refine aP 8 rfl (pIN (j := 1) rfl rfl rfl (by omega)) rfl ?_
 refine aL 9 rfl (load_a rfl rfl (hat1 _) rfl) rfl ?_
 refine aO' 10 ?_
 refine one_val rfl rfl ((l3Int_fn _)) rfl rfl rfl ?_
 refine aO' 11 ?_
 refine one_val rfl rfl ((l1ConsistentA_fn ts[1] (.mk 2 []) _ _ _ (ha1 (by omega)) (tAr_leaf (by decide) (by decide)) hre1 (tyLeaf_r _ ⟨by omega, by omega⟩))) rfl rfl rfl ?_
 refine aP 12 rfl (pPt rfl rfl) rfl ?_
 refine aO' 13 ?_
 refine oT' rfl ?_
 refine aP 14 rfl (pA rfl) rfl ?_
 refine aD' ?_
 refine nS (tT (rB (rS (rF2 (rC rfl (lBa rfl rfl)) (rT rfl) ?_))))
 (have hk7 : k = 7 := (by omega); exact TyO.mk (by rw [tySN78 (.inl hk7) (by omega)]; simp_all [tyInt]) (tyLeaf_r _ ⟨by omega, by omega⟩) (tAr_leaf (by omega) (by omega)))
 refine aP 6 rfl (pM rfl) rfl ?_
 refine aK' 7 rfl rfl rfl ?_
 refine aK' 8 rfl rfl rfl ?_
 refine aK' 9 rfl rfl rfl ?_
 refine aK' 10 rfl rfl rfl ?_
 refine aK' 11 rfl rfl rfl ?_
 refine aP 12 rfl (pPf rfl rfl) rfl ?_
 refine aO' 13 ?_
 refine oT' rfl ?_
 refine aP 14 rfl (pA rfl) rfl ?_
 refine aD' ?_
 refine nS (tT (rB (rS (rF2 (rC rfl (lBa rfl rfl)) (rT rfl) ?_))))
 (have hk7 : k = 7 := (by omega); exact TyO.mk (by rw [tySN78 (.inl hk7) (by omega)]; simp_all [tyInt]) (tyLeaf_r _ ⟨by omega, by omega⟩) (tAr_leaf (by omega) (by omega)))
 refine sQ (pA rfl) rfl (sD (nS (cF rfl ?_)))
 refine tS (tR (sB (pE rfl rfl) rfl rfl (fun h158 => ?_) (fun h158 => ?_)))
 refine sQ (pA rfl) rfl (sD (nS (cT rfl ?_)))
 refine tS ?_
 (have hl2 : ts.length = 2 := hop.1 (by omega); obtain ⟨b0, o0, q0, d0, hp0, hat0, hre0, hg0⟩ := hsl.kidTy hkl (i := 0) (by omega) (by omega); obtain ⟨b1, o1, q1, d1, hp1, hat1, hre1, hg1⟩ := hsl.kidTy hkl (i := 1) (by omega) (by omega); cases hp0; cases hp1; refine tri_draw mixed rfl ?_)
 refine any_pure (i := 1) (l' := [ff,tt,ff,ff,ff,ff,ff,ff,ff,ff,ff,ff,ff,ff,ff]) rfl npI (pM rfl) rfl (by kernel_rfl) rfl rfl ?_
 refine aP 2 rfl (pIN (j := 0) rfl rfl rfl (by omega)) rfl ?_
 refine aL 3 rfl (load_a rfl rfl (hat0 _) rfl) rfl ?_
 refine aO' 0 ?_
 refine one_val rfl rfl ((l3Bool_fn _)) rfl rfl rfl ?_
 refine aO' 4 ?_
 refine one_val rfl rfl ((l3Int_fn _)) rfl rfl rfl ?_
 refine aO' 5 ?_
 refine one_valb rfl rfl ((l1ConsistentA_fn ts[0] (.mk 2 []) _ _ _ (ha0 (by omega)) (tAr_leaf (by decide) (by decide)) hre0 (tyLeaf_r _ ⟨by omega, by omega⟩))) rfl rfl rfl (fun h173 => ?_) (fun h173 => ?_)
 refine aP 6 rfl (pM rfl) rfl ?_
 refine aP 7 rfl (pM rfl) rfl ?_
 refine aP 8 rfl (pIN (j := 1) rfl rfl rfl (by omega)) rfl ?_
 refine aL 9 rfl (load_a rfl rfl (hat1 _) rfl) rfl ?_
 refine aO' 10 ?_
 refine one_val rfl rfl ((l3Int_fn _)) rfl rfl rfl ?_
 refine aO' 11 ?_
 refine one_val rfl rfl ((l1ConsistentA_fn ts[1] (.mk 2 []) _ _ _ (ha1 (by omega)) (tAr_leaf (by decide) (by decide)) hre1 (tyLeaf_r _ ⟨by omega, by omega⟩))) rfl rfl rfl ?_
 refine aP 12 rfl (pPt rfl rfl) rfl ?_
 refine aO' 13 ?_
 refine oT' rfl ?_
 refine aP 14 rfl (pA rfl) rfl ?_
 refine aD' ?_
 refine nS (tT (rB (rS (rF2 (rC rfl (lBa rfl rfl)) (rT rfl) ?_))))
 (have hk8 : k = 8 := (by omega); exact TyO.mk (by rw [tySN78 (.inr hk8) (by omega)]; simp_all [tyInt, tyBool]) (tyLeaf_r _ ⟨by omega, by omega⟩) (tAr_leaf (by omega) (by omega)))
 refine aP 6 rfl (pM rfl) rfl ?_
 refine aK' 7 rfl rfl rfl ?_
 refine aK' 8 rfl rfl rfl ?_
 refine aK' 9 rfl rfl rfl ?_
 refine aK' 10 rfl rfl rfl ?_
 refine aK' 11 rfl rfl rfl ?_
 refine aP 12 rfl (pPf rfl rfl) rfl ?_
 refine aO' 13 ?_
 refine oT' rfl ?_
 refine aP 14 rfl (pA rfl) rfl ?_
 refine aD' ?_
 refine nS (tT (rB (rS (rF2 (rC rfl (lBa rfl rfl)) (rT rfl) ?_))))
 (have hk8 : k = 8 := (by omega); exact TyO.mk (by rw [tySN78 (.inr hk8) (by omega)]; simp_all [tyInt, tyBool]) (tyLeaf_r _ ⟨by omega, by omega⟩) (tAr_leaf (by omega) (by omega)))
 refine sQ (pA rfl) rfl (sD (nS (cF rfl ?_)))
 refine tS (tR (sB (pE rfl rfl) rfl rfl (fun h216 => ?_) (fun h216 => ?_)))
 refine sQ (pA rfl) rfl (sD (nS (cT rfl ?_)))
 refine tS (tS ?_)
 (have hl3 : ts.length = 3 := hop.2.1 (by omega); obtain ⟨b0, o0, q0, d0, hp0, hat0, hre0, hg0⟩ := hsl.kidTy hkl (i := 0) (by omega) (by omega); obtain ⟨b1, o1, q1, d1, hp1, hat1, hre1, hg1⟩ := hsl.kidTy hkl (i := 1) (by omega) (by omega); obtain ⟨b2, o2, q2, d2, hp2, hat2, hre2, hg2⟩ := hsl.kidTy hkl (i := 2) (by omega) (by omega); cases hp0; cases hp1; cases hp2; refine tri_draw mixed rfl ?_)
 refine any_pure (i := 0) (l' := [tt,ff,ff,ff,ff,ff,ff,ff]) rfl npI (pM rfl) rfl (by kernel_rfl) rfl rfl ?_
 refine aP 1 rfl (pIN (j := 1) rfl rfl rfl (by omega)) rfl ?_
 refine aL 2 rfl (load_a rfl rfl (hat1 _) rfl) rfl ?_
 refine aP 3 rfl (pM rfl) rfl ?_
 refine aP 4 rfl (pIN (j := 2) rfl rfl rfl (by omega)) rfl ?_
 refine aL 5 rfl (load_a rfl rfl (hat2 _) rfl) rfl ?_
 refine aO' 6 ?_
 refine one_valb rfl rfl ((l1ConsistentA_fn ts[1] ts[2] _ _ _ (ha1 (by omega)) (ha2 (by omega)) hre1 hre2)) rfl rfl rfl (fun h231 => ?_) (fun h231 => ?_)
 refine aP 7 rfl (pNt rfl) rfl ?_
 refine aD' ?_
 refine nS (cF rfl ?_)
 refine tK (nS (tS ?_))
 (have hl3 : ts.length = 3 := hop.2.1 (by omega); obtain ⟨b0, o0, q0, d0, hp0, hat0, hre0, hg0⟩ := hsl.kidTy hkl (i := 0) (by omega) (by omega); obtain ⟨b1, o1, q1, d1, hp1, hat1, hre1, hg1⟩ := hsl.kidTy hkl (i := 1) (by omega) (by omega); obtain ⟨b2, o2, q2, d2, hp2, hat2, hre2, hg2⟩ := hsl.kidTy hkl (i := 2) (by omega) (by omega); cases hp0; cases hp1; cases hp2; refine tri_draw mixed rfl ?_)
 refine any_pure (i := 0) (l' := [tt,ff,ff,ff,ff,ff,ff,ff,ff,ff,ff,ff,ff,ff]) rfl npI (pM rfl) rfl (by kernel_rfl) rfl rfl ?_
 refine aP 1 rfl (pIN (j := 1) rfl rfl rfl (by omega)) rfl ?_
 refine aL 2 rfl (load_a rfl rfl (hat1 _) rfl) rfl ?_
 refine aP 3 rfl (pM rfl) rfl ?_
 refine aP 4 rfl (pIN (j := 2) rfl rfl rfl (by omega)) rfl ?_
 refine aL 5 rfl (load_a rfl rfl (hat2 _) rfl) rfl ?_
 refine aP 7 rfl (pM rfl) rfl ?_
 refine aP 8 rfl (pIN (j := 0) rfl rfl rfl (by omega)) rfl ?_
 refine aL 9 rfl (load_a rfl rfl (hat0 _) rfl) rfl ?_
 refine aO' 6 ?_
 (refine one_imm rfl rfl (l1MeetX_fn ts[1] ts[2] G _ _ (by assumption) (ha1 (by omega)) (ha2 (by omega)) hre1 hre2) rfl rfl rfl (fun v G1 hle1 hh => ?_); obtain ⟨mc, rfl, hmr⟩ := hh; obtain ⟨mt, hmt⟩ : ∃ mt, mMeet ts[1] ts[2] = mt := ⟨_, rfl⟩; rw [hmt] at hmr; have hma : tAr mt := (hmt ▸ meet_ar ts[1] ts[2] (by assumption) (ha1 (by omega)) (ha2 (by omega))); obtain ⟨p1, c1, e1, rfl, _⟩ := hmr.open; have hre0q := hre0.mono hle1)
 refine aO' 10 ?_
 refine one_val rfl rfl ((l3Bool_fn _)) rfl rfl rfl ?_
 refine aO' 11 ?_
 refine one_val rfl rfl ((l1ConsistentA_fn ts[0] (.mk 3 []) _ _ _ (ha0 (by omega)) (tAr_leaf (by decide) (by decide)) hre0q (tyLeaf_r _ ⟨by omega, by omega⟩))) rfl rfl rfl ?_
 refine aO' 12 ?_
 refine oT' rfl ?_
 refine aP 13 rfl (pA rfl) rfl ?_
 refine aD' ?_
 refine nS (tT (rB (rS (rF2 (rC rfl (lBa rfl rfl)) (rT rfl) ?_))))
 (obtain rfl : k = 9 := (by omega); exact TyO.mk (by rw [tySN9 (by omega), hmt]; simp_all [tyBool]) hmr hma)
 refine aP 7 rfl (pNf rfl) rfl ?_
 refine aD' ?_
 refine nS (cT rfl ?_)
 refine tS (tR (sQ (pBd rfl rfl) rfl (sS' ?_)))
 refine sQ (pA rfl) rfl (sD (nS (tT (rS (rB (rS ?_))))))
 refine rF2 (rC rfl (lBa rfl rfl)) (rT rfl) ?_
 (obtain rfl : k = 9 := (by omega); exact TyO.no (by rw [tySN9 (by omega)]; simp_all) (tyLeaf_r _ ⟨by omega, by omega⟩) (tAr_leaf (by omega) (by omega)))
 refine sQ (pA rfl) rfl (sD (nS (cF rfl ?_)))
 refine tS (tR (sB (pE rfl rfl) rfl rfl (fun h288 => ?_) (fun h288 => ?_)))
 refine sQ (pA rfl) rfl (sD (nS (cT rfl ?_)))
 refine tS ?_
 (have hl2 : ts.length = 2 := hop.1 (by omega); obtain ⟨b0, o0, q0, d0, hp0, hat0, hre0, hg0⟩ := hsl.kidTy hkl (i := 0) (by omega) (by omega); obtain ⟨b1, o1, q1, d1, hp1, hat1, hre1, hg1⟩ := hsl.kidTy hkl (i := 1) (by omega) (by omega); cases hp0; cases hp1; refine tri_draw mixed rfl ?_)
 refine any_pure (i := 0) (l' := [tt,ff,ff,ff,ff,ff,ff,ff,ff,ff,ff]) rfl npI (pM rfl) rfl (by kernel_rfl) rfl rfl ?_
 refine aP 1 rfl (pIN (j := 0) rfl rfl rfl (by omega)) rfl ?_
 refine aL 2 rfl (load_a rfl rfl (hat0 _) rfl) rfl ?_
 refine aP 3 rfl (pM rfl) rfl ?_
 refine aP 4 rfl (pIN (j := 1) rfl rfl rfl (by omega)) rfl ?_
 refine aL 5 rfl (load_a rfl rfl (hat1 _) rfl) rfl ?_
 refine aO' 6 ?_
 (refine one_imm rfl rfl (l3TwoX_fn 5 ts[0] ts[1] G _ _ (.inr rfl) (ha0 (by omega)) (ha1 (by omega)) hre0 hre1) rfl rfl rfl (fun v G1 hle1 hh => ?_); obtain ⟨mc, rfl, hmr⟩ := hh; have hma := tAr_two (.inr rfl) (ha0 (by omega)) (ha1 (by omega)); obtain ⟨p1, c1, e1, rfl, _⟩ := hmr.open)
 refine aP 7 rfl (pX rfl rfl) rfl ?_
 refine aP 8 rfl (pX rfl rfl) rfl ?_
 refine aO' 9 ?_
 refine oT' rfl ?_
 refine aP 10 rfl (pA rfl) rfl ?_
 refine aD' ?_
 refine nS (tT (rB (rS (rF2 (rC rfl (lBa rfl rfl)) (rT rfl) ?_))))
 (obtain rfl : k = 10 := (by omega); exact TyO.mk (by rw [tySN10 (by omega)]) hmr hma)
 refine sQ (pA rfl) rfl (sD (nS (cF rfl ?_)))
 refine tS (tR (sB (pE rfl rfl) rfl rfl (fun h321 => ?_) (fun h321 => ?_)))
 refine sQ (pA rfl) rfl (sD (nS (cT rfl ?_)))
 refine tS (tR (sQ (pM rfl) rfl ?_))
 (have hl1 : ts.length = 1 := hop.2.2 (by omega); obtain ⟨b0, o0, q0, d0, hp0, hat0, hre0, hg0⟩ := hsl.kidTy hkl (i := 0) (by omega) (by omega); cases hp0; refine sP (pIN (j := 0) rfl rfl rfl (by omega)) rfl rfl ?_)
 refine sL (load_a rfl rfl (hat0 _) rfl) rfl rfl ?_
 focus (refine seq_imm rfl (l3MatchX_fn 5 ts[0] G _ (.inr rfl) (ha0 (by omega)) hre0) rfl rfl (fun v G1 hle1 hh => ?_); obtain ⟨ma, mca, mb, mcb, rfl, hma, hmb, hma2, hmb2, hpp⟩ := hh; obtain ⟨p1, c1, e1, rfl, _⟩ := hma.open; obtain ⟨p2, c2, e2, rfl, _⟩ := hmb.open; rcases hm : mMatch 5 ts[0] with _ | pr; rotate_left; obtain rfl := hpp _ hm; rotate_left; all_goals simp only [Option.isSome])
 refine sQ (pM rfl) rfl (sQ (pX rfl rfl) rfl (sQ (pX rfl rfl) rfl (sQ (pX rfl rfl) rfl ?_)))
 refine sE (step_alloc rfl) rfl (fun b336 => ?_)
 refine sE (step_alloc rfl) rfl (fun b337 => ?_)
 refine sS' ?_
 refine sS' ?_
 refine sQ (pA rfl) rfl (sD (nS (tS (tR (sL (lBa rfl rfl) rfl rfl ?_)))))
 refine sQ (pM rfl) rfl (sS' ?_)
 refine sQ (pA rfl) rfl (sD (nS (tT (rB (rS (rF2 (rC rfl (lBa rfl rfl)) (rT rfl) ?_))))))
 (have hk11 : k = 11 := (by omega); exact TyO.no (by rw [tySN11 (.inl hk11) (by omega), hm]) hma hma2)
 refine sQ (pM rfl) rfl (sQ (pX rfl rfl) rfl (sQ (pX rfl rfl) rfl (sQ (pX rfl rfl) rfl ?_)))
 refine sE (step_alloc rfl) rfl (fun b360 => ?_)
 refine sE (step_alloc rfl) rfl (fun b361 => ?_)
 refine sS' ?_
 refine sS' ?_
 refine sQ (pA rfl) rfl (sD (nS (tS (tR (sL (lBa rfl rfl) rfl rfl ?_)))))
 refine sQ (pM rfl) rfl (sS' ?_)
 refine sQ (pA rfl) rfl (sD (nS (tT (rB (rS (rF2 (rC rfl (lBa rfl rfl)) (rT rfl) ?_))))))
 (have hk11 : k = 11 := (by omega); exact TyO.yes (by rw [tySN11 (.inl hk11) (by omega), hm]; simp only; rw [if_neg (by omega)]) hma hma2)
 refine sQ (pA rfl) rfl (sD (nS (cF rfl ?_)))
 refine tS (tR (sB (pE rfl rfl) rfl rfl (fun h386 => ?_) (fun h386 => ?_)))
 refine sQ (pA rfl) rfl (sD (nS (cT rfl ?_)))
 refine tS (tR (sQ (pM rfl) rfl ?_))
 (have hl1 : ts.length = 1 := hop.2.2 (by omega); obtain ⟨b0, o0, q0, d0, hp0, hat0, hre0, hg0⟩ := hsl.kidTy hkl (i := 0) (by omega) (by omega); cases hp0; refine sP (pIN (j := 0) rfl rfl rfl (by omega)) rfl rfl ?_)
 refine sL (load_a rfl rfl (hat0 _) rfl) rfl rfl ?_
 focus (refine seq_imm rfl (l3MatchX_fn 5 ts[0] G _ (.inr rfl) (ha0 (by omega)) hre0) rfl rfl (fun v G1 hle1 hh => ?_); obtain ⟨ma, mca, mb, mcb, rfl, hma, hmb, hma2, hmb2, hpp⟩ := hh; obtain ⟨p1, c1, e1, rfl, _⟩ := hma.open; obtain ⟨p2, c2, e2, rfl, _⟩ := hmb.open; rcases hm : mMatch 5 ts[0] with _ | pr; rotate_left; obtain rfl := hpp _ hm; rotate_left; all_goals simp only [Option.isSome])
 refine sQ (pM rfl) rfl (sQ (pX rfl rfl) rfl (sQ (pX rfl rfl) rfl (sQ (pX rfl rfl) rfl ?_)))
 refine sE (step_alloc rfl) rfl (fun b401 => ?_)
 refine sE (step_alloc rfl) rfl (fun b402 => ?_)
 refine sS' ?_
 refine sS' ?_
 refine sQ (pA rfl) rfl (sD (nS (tS (tR (sL (lBa rfl rfl) rfl rfl ?_)))))
 refine sQ (pM rfl) rfl (sS' ?_)
 refine sQ (pA rfl) rfl (sD (nS (tT (rB (rS (rF2 (rC rfl (lBa rfl rfl)) (rT rfl) ?_))))))
 (have hk12 : k = 12 := (by omega); exact TyO.no (by rw [tySN11 (.inr hk12) (by omega), hm]) hmb hmb2)
 refine sQ (pM rfl) rfl (sQ (pX rfl rfl) rfl (sQ (pX rfl rfl) rfl (sQ (pX rfl rfl) rfl ?_)))
 refine sE (step_alloc rfl) rfl (fun b425 => ?_)
 refine sE (step_alloc rfl) rfl (fun b426 => ?_)
 refine sS' ?_
 refine sS' ?_
 refine sQ (pA rfl) rfl (sD (nS (tS (tR (sL (lBa rfl rfl) rfl rfl ?_)))))
 refine sQ (pM rfl) rfl (sS' ?_)
 refine sQ (pA rfl) rfl (sD (nS (tT (rB (rS (rF2 (rC rfl (lBa rfl rfl)) (rT rfl) ?_))))))
 (have hk12 : k = 12 := (by omega); exact TyO.yes (by rw [tySN11 (.inr hk12) (by omega), hm]; simp only; rw [if_pos (by omega)]) hmb hmb2)
 refine sQ (pA rfl) rfl (sD (nS (cF rfl ?_)))
 refine tS (tR (sP (pure_eql_t rfl rfl (by omega)) rfl rfl ?_))
 refine sQ (pA rfl) rfl (sD (nS (cT rfl ?_)))
 refine tS ?_
 (have hl1 : ts.length = 1 := hop.2.2 (by omega); obtain ⟨b0, o0, q0, d0, hp0, hat0, hre0, hg0⟩ := hsl.kidTy hkl (i := 0) (by omega) (by omega); cases hp0; refine tri_draw mixed rfl ?_)
 refine any_pure (i := 0) (l' := [tt,ff,ff,ff,ff,ff,ff,ff,ff,ff,ff]) rfl npI (pF0 rfl) rfl (by kernel_rfl) rfl rfl ?_
 refine aL 1 rfl (lBa rfl rfl) rfl ?_
 refine aP 3 rfl (pM rfl) rfl ?_
 refine aP 4 rfl (pIN (j := 0) rfl rfl rfl (by omega)) rfl ?_
 refine aL 5 rfl (load_a rfl rfl (hat0 _) rfl) rfl ?_
 refine aP 6 rfl (pF0 rfl) rfl ?_
 refine aL 7 rfl (lBa rfl rfl) rfl ?_
 refine aO' 2 ?_
 (refine one_imm rfl rfl (l1Copy_fn (.mk tk tks) G _ hty.small hrty) rfl rfl rfl (fun v G1 hle1 hh => ?_); obtain ⟨cs1, F1, rfl, hs1, hn1⟩ := hh; obtain ⟨p1, c1, rfl, _⟩ := hs1.open; have hmr := hs1.R.mono (Dif.le G1 G); have hre0q := hre0.mono hle1; have hrtyq := hrty.mono hle1)
 refine aO' 8 ?_
 refine one_val rfl rfl ((l1ConsistentA_fn ts[0] (.mk tk tks) _ _ _ (ha0 (by omega)) hty hre0q hrtyq)) rfl rfl rfl ?_
 refine aO' 9 ?_
 refine oT' rfl ?_
 refine aP 10 rfl (pA rfl) rfl ?_
 refine aD' ?_
 refine nS (tT (rB (rS (rF2 (rC rfl (lBa rfl rfl)) (rT rfl) ?_))))
 (obtain rfl : k = 13 := (by omega); exact TyO.mk (by rw [tySN13 (by omega)]) hmr hty)
section
variable {ak bk : Int} {aks bks : List Ty}
theorem tS_k (h : ak ≠ bk) : tSame (.mk ak aks) (.mk bk bks) = false := by rw [tSame_mk, decide_eq_false h]; rfl
theorem tS_len (h : aks.length ≠ bks.length) : tSame (.mk ak aks) (.mk bk bks) = false := by
 rw [tSame_mk]
 cases hl : tSameL aks bks with
 | false => simp
 | true => exact absurd ((tSameL_iff _ _).1 hl).1 h
theorem tS_no {i : Nat} (hi : i < aks.length) (hi' : i < bks.length) (h : tSame aks[i] bks[i] = false) : tSame (.mk ak aks) (.mk bk bks) = false := by
 rw [tSame_mk]
 cases hl : tSameL aks bks with
 | false => simp
 | true => have := ((tSameL_iff _ _).1 hl).2 i hi hi'; rw [h] at this; cases this
theorem tS_yes (hk : ak = bk) (hl : aks.length = bks.length) (h : ∀ i, (h : i < aks.length) → (h' : i < bks.length) → tSame aks[i] bks[i] = true) : tSame (.mk ak aks) (.mk bk bks) = true := by
 rw [tSame_mk, decide_eq_true hk, (tSameL_iff _ _).2 ⟨hl, h⟩]; rfl
end
theorem sTypeSameX_fn : ∀ (a b : Ty) (G : IM) (ca cb : List Value), RTy G a ca → RTy G b cb → Fn Tryz.prog 117 [.agg ⟨ca⟩, .agg ⟨cb⟩] [] G (Val (.bool (tSame a b)) G) := by
 refine Ty.ind fun ak aks ih b G ca cb hra hrb => ?_
 obtain ⟨bk, bks⟩ := b
 obtain ⟨pa, cca, ea, rfl, hak, hsla, hkla⟩ := hra.open
 obtain ⟨pb, ccb, eb, rfl, hbk, hslb, hklb⟩ := hrb.open
 simp only [Ty.k, Ty.ks] at hak hsla hkla hbk hslb hklb ⊢
 have hna := hsla.le
 have hnb := hslb.le
 have e1 := @tS_k ak bk aks bks
 have e2 := @tS_len ak bk aks bks
 have e3 := fun i => @tS_no ak bk aks bks i
 have e4 := @tS_yes ak bk aks bks
 generalize tSame (.mk ak aks) (.mk bk bks) = R at e1 e2 e3 e4 ⊢
 refine fn_enter Tryz.func117 rfl Tryz.ntmps117 Tryz.results117 rfl ?_
 intro w0
 refine tS (tR ?_)
 refine sE (step_box_a rfl rfl) rfl (fun b3 => ?_)
 refine sE (step_box_a rfl rfl) rfl (fun b4 => ?_)
 refine sQ (pA rfl) rfl (sD (nS (tS (tS (tR (sQ (pF0 rfl) rfl ?_))))))
 refine sL (lBs rfl rfl) rfl rfl ?_
 refine sQ (pF0 rfl) rfl (sL (lBs rfl rfl) rfl rfl ?_)
 refine sB (pure_neq rfl rfl) rfl rfl (fun h15 => ?_) (fun h15 => ?_)
 refine sQ (pM rfl) rfl (sK rfl rfl (sK rfl rfl (sK rfl rfl (sK rfl rfl (sK rfl rfl (sK rfl rfl ?_))))))
 refine sK rfl rfl (sQ (pPt rfl rfl) rfl (sD (nS (cT rfl ?_))))
 refine tS (tR (sQ (pA rfl) rfl (sD (nS (tT (rS ?_))))))
 refine rF1 (rT rfl) ?_
 (exact ⟨rfl, by rw [e1 (by omega)], rfl⟩)
 refine sQ (pM rfl) rfl (sQ (pF0 rfl) rfl (sL (lBs rfl rfl) rfl rfl ?_))
 refine sQ (pLn rfl rfl) rfl (sQ (pF0 rfl) rfl (sL (lBs rfl rfl) rfl rfl ?_))
 refine sQ (pLn rfl rfl) rfl (sB (pure_neq rfl rfl) rfl rfl (fun h44 => ?_) (fun h44 => ?_))
 refine sQ (pPf rfl rfl) rfl (sD (nS (cT rfl ?_)))
 refine tS (tR (sQ (pA rfl) rfl (sD (nS (tT (rS ?_))))))
 refine rF1 (rT rfl) ?_
 (exact ⟨rfl, by rw [e2 (by omega)], rfl⟩)
 refine sQ (pPf rfl rfl) rfl (sD (nS (cF rfl ?_)))
 refine tK (nS (tS (tS (tR (sQ (pA rfl) rfl (sD ?_))))))
 refine nS (tri_block ?_)
 (refine tri_loopN (fun (i : Nat) => ⟨[(5, .int .i64 i), (2, .pointer (some ⟨b3, 0, none⟩)), (3, .pointer (some ⟨b4, 0, none⟩))], [.blk b4 [.int .i64 bk, .slice pb bks.length ccb], .blk b3 [.int .i64 ak, .slice pa aks.length cca]], G⟩) (fun i => i ≤ aks.length ∧ ∀ j, (h : j < aks.length) → (h' : j < bks.length) → j < i → tSame aks[j] bks[j] = true) (fun i => aks.length - i) 0 ?_ ?_ ?_)
 exact sMk
 (exact ⟨Nat.zero_le _, fun j _ _ hj => absurd hj (Nat.not_lt_zero j)⟩)
 (rintro i ⟨hi, hall⟩)
 refine tS (tS (tR (sQ (pM rfl) rfl (sQ (pF0 rfl) rfl (sL (lBs rfl rfl) rfl rfl ?_)))))
 refine sQ (pLn rfl rfl) rfl (sB (pure_lss rfl rfl) rfl rfl (fun h82 => ?_) (fun h82 => ?_))
 refine sD (nS (cT rfl ?_))
 refine tK (nS (tS (tri_block (tS ?_))))
 (obtain ⟨b, o, q0, d0, hp0, hat0, hre0, hg0⟩ := hsla.kidTy hkla (i := i) (by omega) (by omega); obtain ⟨b', o', q1, d1, hp1, hat1, hre1, hg1⟩ := hslb.kidTy hklb (i := i) (by omega) (by omega); subst hp0; subst hp1; have hih := ih aks[i] (List.getElem_mem (by omega)) bks[i] G _ _ hre0 hre1; refine tri_draw mixed rfl ?_)
 refine any_pure (i := 0) (l' := [tt,ff,ff,ff,ff,ff,ff,ff,ff,ff,ff,ff]) rfl npI (pF0 rfl) rfl (by kernel_rfl) rfl rfl ?_
 refine aL 1 rfl (lBs rfl rfl) rfl ?_
 refine aP 2 rfl (pM rfl) rfl ?_
 refine aP 3 rfl (pIN rfl rfl rfl (by omega)) rfl ?_
 refine aL 4 rfl (load_a rfl rfl (hat0 _) rfl) rfl ?_
 refine aP 5 rfl (pF0 rfl) rfl ?_
 refine aL 6 rfl (lBs rfl rfl) rfl ?_
 refine aP 7 rfl (pM rfl) rfl ?_
 refine aP 8 rfl (pIN rfl rfl rfl (by omega)) rfl ?_
 refine aL 9 rfl (load_a rfl rfl (hat1 _) rfl) rfl ?_
 refine aO' 10 ?_
 refine one_valb rfl rfl (hih) rfl rfl rfl (fun h103 => ?_) (fun h103 => ?_)
 refine aP 11 rfl (pNt rfl) rfl ?_
 refine aD' ?_
 refine nS (cF rfl ?_)
 refine tK (nrm_block (nS (tR (sQ (pM rfl) rfl (sP (pure_add rfl rfl (by omega) (by omega)) rfl rfl ?_)))))
 refine sQ (pA rfl) rfl (sD (nrm_loopN (i + 1) ?_ ?_ ?_))
 exact sMk
 (exact ⟨by omega, fun j h h' hj => by by_cases hji : j = i; (subst hji; assumption); exact hall j h h' (by omega)⟩)
 omega
 refine aP 11 rfl (pNf rfl) rfl ?_
 refine aD' ?_
 refine nS (cT rfl ?_)
 refine tS (tR (sQ (pA rfl) rfl (sD (nS (tT (rB ?_))))))
 refine rS (ret_loopN (rB (rS (rF1 (rT rfl) ?_))))
 (exact ⟨rfl, by rw [e3 i (by omega) (by omega) (by assumption)], rfl⟩)
 refine sD (nS (cF rfl ?_))
 refine tri_exit ?_
 refine ext_seq ?_
 refine ext_loopN ?_
 refine ext_block_eq ?_
 refine nS (tS (tR (sQ (pA rfl) rfl (sD (nS (tT ?_))))))
 refine rF1 (rT rfl) ?_
 (exact ⟨rfl, by rw [e4 (by omega) (by omega) (fun j h h' => hall j h h' (by omega))], rfl⟩)
theorem l3MoreX_fn (G : IM) (cx : Cx) (p : Option Addr) (n c : Nat) (nm : ByteArray) (t : Ty) (cells : List Value) (hx : RCx G cx p n c) (hn : n ≤ 1000) (hr : RTy G t cells) :
  Fn Tryz.prog 83 [.slice p n c, .string nm, .agg ⟨cells⟩] [] G (Imm fun G' v => ∃ p' c', v = .slice p' (n + 1) c' ∧ RCx G' (cx ++ [(nm, t)]) p' (n + 1) c') := by
 obtain ⟨k, ks⟩ := t
 obtain ⟨q, d, es0, rfl, _⟩ := hr.open
 simp only [Ty.k, Ty.ks] at hr ⊢
 obtain ⟨hx1, es, h2, h3⟩ := id hx
 have hSl : Sl G p n c 3 es.flatten := h2.1
 have h1c : ∀ u ∈ es.flatten, u.oneCell' = true := by
  intro u hu
  obtain ⟨e, he, hue⟩ := List.mem_flatten.1 hu
  exact List.all_eq_true.1 (h2.one e he) u hue
 refine fn_enter Tryz.func83 rfl Tryz.ntmps83 Tryz.results83 rfl ?_
 intro w0
 refine tS (tR ?_)
 refine sE (step_box_a rfl rfl) rfl (fun b3 => ?_)
 refine sQ (pA rfl) rfl (sD (nS (tS (tri_draw mixed rfl ?_))))
 refine any_pure (i := 1) (l' := [ff,tt,ff,ff,ff,ff,ff,ff,ff]) rfl npI (pM rfl) rfl (by kernel_rfl) rfl rfl ?_
 refine aP 3 rfl (pM rfl) rfl ?_
 refine aL 4 rfl (lBa rfl rfl) rfl ?_
 refine aP 5 rfl (pBd rfl rfl) rfl ?_
 refine any_two (j := 0) (j' := 6) (by kernel_rfl) ?_ ?_
 (refine one_step0 rfl (step_buildSlice rfl rfl rfl (by omega) (by unfold maxLen; omega) rfl) rfl rfl ?_; rintro _ ⟨b14, rfl⟩)
 refine any_two (j := 2) (j' := 6) (by kernel_rfl) ?_ ?_
 (refine one_appendSl rfl rfl rfl rfl rfl rfl (fun _ _ => by repeat (first | exact Sw.here | apply Sw.there)) hSl h1c (Nat.zero_le _) (by unfold maxLen; omega) (by omega) rfl rfl (by repeat (first | exact HmOk.nil | apply HmOk.dep (by decide +kernel) | apply HmOk.blk (by decide +kernel) (by repeat (first | exact Pk.here | apply Pk.there)) (by repeat first | exact mH | apply mT))) (fun p4 c4 => ?_); simp only [Nat.zero_add, List.nil_append])
 refine aO' 6 ?_
 (refine one_step0 rfl (step_buildSlice rfl rfl rfl (by omega) (by unfold maxLen; omega) rfl) rfl rfl ?_; rintro _ ⟨b18, rfl⟩)
 refine aO' 7 ?_
 (refine one_append rfl rfl rfl rfl rfl rfl (fun _ _ => by repeat (first | exact Sw.here | apply Sw.there)) (at_slc_all (by repeat first | exact mH | apply mT)) rfl (by simp [Value.oneCell']) (by unfold maxLen; omega) (by omega) rfl rfl (by repeat (first | exact HmOk.nil | apply HmOk.dep (by decide +kernel) | apply HmOk.blk (by decide +kernel) (by repeat (first | exact Pk.here | apply Pk.there)) (by repeat first | exact mH | apply mT))) (fun p5 c5 => ?_))
 refine aP 8 rfl (pA rfl) rfl ?_
 refine aD' ?_
 refine nS ?_
 (refine ret_freeze (cs := es.flatten ++ [.string nm, .int .i64 k, .slice q ks.length d]) (by repeat (first | exact Pk.here | apply Pk.there)) (fun G5 hle5 hsl5 hno5 => ?_))
 refine tT (rF1 (rT rfl) ?_)
 (exact ⟨rfl, _, _, rfl, RCx.snoc (nm := nm) (t := .mk k ks) hx1 h2.len h2.all h2.one h3 hle5 ⟨_, _, rfl, hr.mono hle5⟩ hsl5⟩)
 (refine one_step0 rfl (step_buildSlice rfl rfl rfl (by omega) (by unfold maxLen; omega) rfl) rfl rfl ?_; rintro _ ⟨b28, rfl⟩)
 refine aO' 2 ?_
 (refine one_appendSl rfl rfl rfl rfl rfl rfl (fun _ _ => by repeat (first | exact Sw.here | apply Sw.there)) hSl h1c (Nat.zero_le _) (by unfold maxLen; omega) (by omega) rfl rfl (by repeat (first | exact HmOk.nil | apply HmOk.dep (by decide +kernel) | apply HmOk.blk (by decide +kernel) (by repeat (first | exact Pk.here | apply Pk.there)) (by repeat first | exact mH | apply mT))) (fun p4 c4 => ?_); simp only [Nat.zero_add, List.nil_append])
 refine aO' 7 ?_
 (refine one_append rfl rfl rfl rfl rfl rfl (fun _ _ => by repeat (first | exact Sw.here | apply Sw.there)) (at_slc_all (by repeat first | exact mH | apply mT)) rfl (by simp [Value.oneCell']) (by unfold maxLen; omega) (by omega) rfl rfl (by repeat (first | exact HmOk.nil | apply HmOk.dep (by decide +kernel) | apply HmOk.blk (by decide +kernel) (by repeat (first | exact Pk.here | apply Pk.there)) (by repeat first | exact mH | apply mT))) (fun p5 c5 => ?_))
 refine aP 8 rfl (pA rfl) rfl ?_
 refine aD' ?_
 refine nS ?_
 (refine ret_freeze (cs := es.flatten ++ [.string nm, .int .i64 k, .slice q ks.length d]) (by repeat (first | exact Pk.here | apply Pk.there)) (fun G5 hle5 hsl5 hno5 => ?_))
 refine tT (rF1 (rT rfl) ?_)
 (exact ⟨rfl, _, _, rfl, RCx.snoc (nm := nm) (t := .mk k ks) hx1 h2.len h2.all h2.one h3 hle5 ⟨_, _, rfl, hr.mono hle5⟩ hsl5⟩)
 (refine one_step0 rfl (step_buildSlice rfl rfl rfl (by omega) (by unfold maxLen; omega) rfl) rfl rfl ?_; rintro _ ⟨b40, rfl⟩)
 refine aO' 0 ?_
 (refine one_step0 rfl (step_buildSlice rfl rfl rfl (by omega) (by unfold maxLen; omega) rfl) rfl rfl ?_; rintro _ ⟨b42, rfl⟩)
 refine aO' 2 ?_
 (refine one_appendSl rfl rfl rfl rfl rfl rfl (fun _ _ => by repeat (first | exact Sw.here | apply Sw.there)) hSl h1c (Nat.zero_le _) (by unfold maxLen; omega) (by omega) rfl rfl (by repeat (first | exact HmOk.nil | apply HmOk.dep (by decide +kernel) | apply HmOk.blk (by decide +kernel) (by repeat (first | exact Pk.here | apply Pk.there)) (by repeat first | exact mH | apply mT))) (fun p4 c4 => ?_); simp only [Nat.zero_add, List.nil_append])
 refine aO' 7 ?_
 (refine one_append rfl rfl rfl rfl rfl rfl (fun _ _ => by repeat (first | exact Sw.here | apply Sw.there)) (at_slc_all (by repeat first | exact mH | apply mT)) rfl (by simp [Value.oneCell']) (by unfold maxLen; omega) (by omega) rfl rfl (by repeat (first | exact HmOk.nil | apply HmOk.dep (by decide +kernel) | apply HmOk.blk (by decide +kernel) (by repeat (first | exact Pk.here | apply Pk.there)) (by repeat first | exact mH | apply mT))) (fun p5 c5 => ?_))
 refine aP 8 rfl (pA rfl) rfl ?_
 refine aD' ?_
 refine nS ?_
 (refine ret_freeze (cs := es.flatten ++ [.string nm, .int .i64 k, .slice q ks.length d]) (by repeat (first | exact Pk.here | apply Pk.there)) (fun G5 hle5 hsl5 hno5 => ?_))
 refine tT (rF1 (rT rfl) ?_)
 (exact ⟨rfl, _, _, rfl, RCx.snoc (nm := nm) (t := .mk k ks) hx1 h2.len h2.all h2.one h3 hle5 ⟨_, _, rfl, hr.mono hle5⟩ hsl5⟩)
/- What the reference's look for a type meets. -/
theorem tySL_succ {cx : Cx} : ∀ {ks : List Tm} {i : Nat} {us : List Ty} {u : Ty} (hi : i < ks.length), mTySL cx (ks.take i) = some us → mTyS cx ks[i] = some u → mTySL cx (ks.take (i + 1)) = some (us ++ [u])
 | [], i, us, u, hi, _, _ => by simp at hi
 | t :: ts, 0, us, u, _, h1, h2 => by
  simp only [List.take_zero, mTySL, Option.some.injEq] at h1
  subst h1
  simp only [List.getElem_cons_zero] at h2
  simp [mTySL, h2]
 | t :: ts, i + 1, us, u, hi, h1, h2 => by
  simp only [List.take_succ_cons, mTySL] at h1 ⊢
  split at h1
  ·cases h1
  ·rename_i a ha
   split at h1
   ·cases h1
   ·rename_i bs has
    simp only [Option.some.injEq] at h1
    subst h1
    simp only [List.getElem_cons_succ] at h2
    have := tySL_succ (ks := ts) (i := i) (by simpa using hi) has h2
    simp only [this, List.cons_append]
theorem tySL_no {cx : Cx} : ∀ {ks : List Tm} {i : Nat} (hi : i < ks.length), mTyS cx ks[i] = none → mTySL cx ks = none
 | [], i, hi, _ => by simp at hi
 | t :: ts, 0, _, h => by simp only [List.getElem_cons_zero] at h; rw [mTySL, h]
 | t :: ts, i + 1, hi, h => by
  simp only [List.getElem_cons_succ] at h
  have := tySL_no (ks := ts) (i := i) (by simpa using hi) h
  rw [mTySL, this]
  cases mTyS cx t <;> rfl
section
variable {cx : Cx} {k : Int} {nm : ByteArray} {num : Int} {ty fr : Ty} {lb : Int} {ks : List Tm}
theorem tyS_1 (hk : k = 1) (h0 : ks = []) : mTyS cx (.mk k nm num ty fr lb ks) = mLook cx nm := by
 subst hk h0
 rw [mTyS, mTySL]
 simp only [mTySN, mW1]
 cases mLook cx nm with
 | none => rfl
 | some t => simp
theorem tyS_2 (hk : k = 2) (h0 : ks = []) : mTyS cx (.mk k nm num ty fr lb ks) = some tyInt := by subst hk h0; rfl
theorem tyS_34 (hk : k = 3 ∨ k = 4) (h0 : ks = []) : mTyS cx (.mk k nm num ty fr lb ks) = some tyBool := by subst h0; rcases hk with rfl | rfl <;> rfl
theorem tyS_5n {b : Tm} (hk : k = 5) (h : mTyS (cx ++ [(nm, ty)]) b = none) : mTyS cx (.mk k nm num ty fr lb [b]) = none := by
 subst hk; rw [mTyS, inCx, if_pos rfl, mTySL, h]
theorem tyS_5 {b : Tm} {t : Ty} (hk : k = 5) (h : mTyS (cx ++ [(nm, ty)]) b = some t) : mTyS cx (.mk k nm num ty fr lb [b]) = if tValid (.mk 4 [ty, t]) = true then some (.mk 4 [ty, t]) else none := by
 subst hk
 rw [mTyS, inCx, if_pos rfl, mTySL, h]
 simp only [mTySL, mTySN, mW5, List.getD_cons_zero]
 cases tValid (.mk 4 [ty, t]) <;> simp
theorem tyS_n (hk : k ≠ 5) (h : mTySL cx ks = none) : mTyS cx (.mk k nm num ty fr lb ks) = none := by rw [mTyS, inCx, if_neg hk, h]
theorem tyS_y {ts : List Ty} (hk : k ≠ 5) (h : mTySL cx ks = some ts) : mTyS cx (.mk k nm num ty fr lb ks) = mTySN cx k nm ty ts := by rw [mTyS, inCx, if_neg hk, h]
end
theorem l3TypeX_fn : ∀ (e : Tm) (d : Int) (cx : Cx) (G : IM) (p : Option Addr) (n c : Nat) (cells : List Value), sShape 12 14 e d = true → (n : Int) ≤ d → cxV cx → RCx G cx p n c → RTm G e cells →
  Fn Tryz.prog 63 [.slice p n c, .agg ⟨cells⟩] [] G (TyO (mTyS cx e) G) := by
 refine Tm.ind fun k nm num ty fr lb ks ih d cx G p n c cells hv hnd hcv hx hr => ?_
 have hr0 := hr
 have hone := hr.one
 obtain ⟨hv1, hv2, hv3, hv4⟩ := sShape_go2 hv
 have hvk := (sShapeL_iff 12 14 ks _).1 hv4
 have har := (tmNode_iff.1 hv3).1
 have hop := tm_ops har
 obtain ⟨hta, hts⟩ := node_ann hv3
 have hkr : 1 ≤ k ∧ k ≤ 14 := tmOps_rng (by rw [har]; omega)
 have hcv5 : k = 5 → cxV (cx ++ [(nm, ty)]) := fun hk => by have := cxV_in (k := k) (nm := nm) (ty := ty) hcv fun hk => (tmNode_iff.1 hv3).2.2.2.2.2.1 (.inl hk); rwa [inCx, if_pos hk] at this
 have h0 : k ≤ 4 → ks = [] := fun h => List.length_eq_zero_iff.1 (by
  have hk : k = 1 ∨ k = 2 ∨ k = 3 ∨ k = 4 := by omega
  rcases hk with rfl | rfl | rfl | rfl
  ·have : tmOps 1 = 0 := rfl; omega
  ·have : tmOps 2 = 0 := rfl; omega
  ·have : tmOps 3 = 0 := rfl; omega
  ·have : tmOps 4 = 0 := rfl; omega)
 have f1 := fun hk => @tyS_1 cx k nm num ty fr lb ks hk (h0 (by omega))
 have f2 := fun hk => @tyS_2 cx k nm num ty fr lb ks hk (h0 (by omega))
 have f3 := fun hk => @tyS_34 cx k nm num ty fr lb ks hk (h0 (by omega))
 have f4 : ∀ (hk : k = 5) (hl : 0 < ks.length), mTyS (cx ++ [(nm, ty)]) ks[0] = none → mTyS cx (.mk k nm num ty fr lb ks) = none := fun hk hl h => by
  obtain ⟨b, rfl⟩ := ks1 (hop.2.2 (.inl hk)); exact tyS_5n hk h
 have f5 : ∀ (t : Ty) (hk : k = 5) (hl : 0 < ks.length), mTyS (cx ++ [(nm, ty)]) ks[0] = some t → mTyS cx (.mk k nm num ty fr lb ks) = if tValid (.mk 4 [ty, t]) = true then some (.mk 4 [ty, t]) else none := fun t hk hl h => by
  obtain ⟨b, rfl⟩ := ks1 (hop.2.2 (.inl hk)); exact tyS_5 hk h
 have f6 := @tyS_n cx k nm num ty fr lb ks
 have f7 := fun ts => @tyS_y cx k nm num ty fr lb ks ts
 generalize mTyS cx (.mk k nm num ty fr lb ks) = R at f1 f2 f3 f4 f5 f6 f7 ⊢
 obtain ⟨tk, tks⟩ := ty
 obtain ⟨fk, fks⟩ := fr
 obtain ⟨pt, ct, pf, cf, q, cq, es, rfl, hk, hnum, hlb, hty, hfr, hsl, hkl⟩ := hr.open9
 have hlen : ks.length ≤ 3 := by have := tmOps_le k; omega
 refine fn_enter Tryz.func63 rfl Tryz.ntmps63 Tryz.results63 rfl ?_
 intro w0
 refine tS (tR ?_)
 refine sE (step_box_a rfl rfl) rfl (fun b3 => ?_)
 refine sE (step_alloc rfl) rfl (fun b4 => ?_)
 refine sQ (pA rfl) rfl (sD (nS (tS (tS (tR (sQ (pF0 rfl) rfl ?_))))))
 refine sL (lBs rfl rfl) rfl rfl ?_
 refine sD (nS (tri_block (tS (tR (sB (pE rfl rfl) rfl rfl (fun h18 => ?_) (fun h18 => ?_))))))
 refine sQ (pA rfl) rfl (sD (nS (cT rfl ?_)))
 refine tS (tR (sQ (pM rfl) rfl (sQ (pF0 rfl) rfl (sL (lBs rfl rfl) rfl rfl ?_))))
 (refine seq_imm rfl (l3LookX_fn G cx hcv p n c nm hx) rfl rfl (fun v G1 hle1 hh => ?_); obtain ⟨mt, mc, rfl, hmr, hma, hmu⟩ := hh; obtain ⟨p1, c1, e1, rfl, _⟩ := hmr.open)
 refine sQ (pX rfl rfl) rfl (sQ (pX rfl rfl) rfl (sS' ?_))
 refine sQ (pA rfl) rfl (sD (nS (tT (rB (rS (rF2 (rC rfl (lBa rfl rfl)) (rT rfl) ?_))))))
 (rw [f1 (by omega)]; exact ⟨rfl, _, _, rfl, hmr, hma, hmu⟩)
 refine sQ (pA rfl) rfl (sD (nS (cF rfl ?_)))
 refine tS (tR (sB (pE rfl rfl) rfl rfl (fun h46 => ?_) (fun h46 => ?_)))
 refine sQ (pA rfl) rfl (sD (nS (cT rfl ?_)))
 refine tS (tR (seq_val rfl ((l3Int_fn _)) rfl rfl ?_))
 refine sS' ?_
 refine sQ (pA rfl) rfl (sD (nS (tT (rB (rS (rF2 (rC rfl (lBa rfl rfl)) (rT rfl) ?_))))))
 (rw [f2 (by omega)]; exact TyO.yes rfl (tyInt_r _) (tAr_leaf (by omega) (by omega)))
 refine sQ (pA rfl) rfl (sD (nS (cF rfl ?_)))
 refine tS (tS (tR (sB (pE rfl rfl) rfl rfl (fun h70 => ?_) (fun h70 => ?_))))
 refine sQ (pA rfl) rfl (sD (nS (cT rfl ?_)))
 refine tK (nS (cT rfl ?_))
 refine tS (tR (seq_val rfl ((l3Bool_fn _)) rfl rfl ?_))
 refine sS' ?_
 refine sQ (pA rfl) rfl (sD (nS (tT (rB (rS (rF2 (rC rfl (lBa rfl rfl)) (rT rfl) ?_))))))
 (rw [f3 (by omega)]; exact TyO.yes rfl (tyBool_r _) (tAr_leaf (by omega) (by omega)))
 refine sQ (pA rfl) rfl (sD (nS (cF rfl ?_)))
 refine tR (sB (pE rfl rfl) rfl rfl (fun h95 => ?_) (fun h95 => ?_))
 refine sQ (pA rfl) rfl (sD (nS (cT rfl ?_)))
 refine tS (tR (seq_val rfl ((l3Bool_fn _)) rfl rfl ?_))
 refine sS' ?_
 refine sQ (pA rfl) rfl (sD (nS (tT (rB (rS (rF2 (rC rfl (lBa rfl rfl)) (rT rfl) ?_))))))
 (rw [f3 (by omega)]; exact TyO.yes rfl (tyBool_r _) (tAr_leaf (by omega) (by omega)))
 refine sQ (pA rfl) rfl (sD (nS (cF rfl ?_)))
 refine tS (tR (sB (pE rfl rfl) rfl rfl (fun h118 => ?_) (fun h118 => ?_)))
 refine sQ (pA rfl) rfl (sD (nS (cT rfl ?_)))
 refine tS ?_
 (have hl1 : ks.length = 1 := hop.2.2 (by omega); obtain ⟨b, o, e, rfl, hl, hat, hre, hgb⟩ := hsl.kidTm hkl (i := 0) (by omega) (by omega); have hMore := l3MoreX_fn G cx p n c nm (.mk tk tks) _ hx (by omega) hty; refine tri_draw mixed rfl ?_)
 refine any_pure (i := 0) (l' := [tt,ff,ff,ff,ff,ff,ff,ff,ff,ff,ff,ff,ff,ff,ff,ff,ff]) rfl npI (pM rfl) rfl (by kernel_rfl) rfl rfl ?_
 refine aP 1 rfl (pF0 rfl) rfl ?_
 refine aL 2 rfl (lBs rfl rfl) rfl ?_
 refine aP 3 rfl (pF0 rfl) rfl ?_
 refine aL 4 rfl (lBa rfl rfl) rfl ?_
 refine aP 6 rfl (pF0 rfl) rfl ?_
 refine aL 7 rfl (lBs rfl rfl) rfl ?_
 refine aP 8 rfl (pIN (j := 0) rfl rfl rfl (by omega)) rfl ?_
 refine aL 9 rfl (load_a rfl rfl (hat _) hl) rfl ?_
 refine any_two (j := 5) (j' := 14) (by kernel_rfl) ?_ ?_
 (refine one_imm rfl rfl hMore rfl rfl rfl (fun v G1 hle1 hh => ?_); obtain ⟨pm, cm, rfl, hxm⟩ := hh; have hreM := hre.mono hle1; have hLam := ih ks[0] (List.getElem_mem (by omega)) (d + 1) _ G1 pm (n + 1) cm _ (hvk 0 (by omega)) (by omega) (hcv5 (by omega)) hxm hreM; have htyM := hty.mono hle1)
 refine any_two (j := 10) (j' := 14) (by kernel_rfl) ?_ ?_
 focus (refine one_imm rfl rfl hLam rfl rfl rfl (fun v G2 hle2 hh => ?_); obtain ⟨mt, mc, rfl, hmr, hma, hmu⟩ := hh; obtain ⟨p1, c1, e1, rfl, _⟩ := hmr.open; have htyN := htyM.mono hle2; rcases hE : mTyS (cx ++ [(nm, Ty.mk tk tks)]) ks[0] with _ | mt2; rotate_left; obtain rfl := hmu _ hE; rotate_left; all_goals simp only [Option.isSome])
 refine aP 11 rfl (pM rfl) rfl ?_
 refine aP 12 rfl (pX rfl rfl) rfl ?_
 refine aP 13 rfl (pX rfl rfl) rfl ?_
 refine aO' 14 ?_
 (refine one_step0 rfl (step_alloc rfl) rfl rfl ?_; rintro _ ⟨b142, rfl⟩)
 refine aO' 15 ?_
 refine oT' rfl ?_
 refine aP 16 rfl (pA rfl) rfl ?_
 refine aD' ?_
 refine nS (tS (tS (tR (sQ (pM rfl) rfl (sQ (pNf rfl) rfl (sD ?_))))))
 refine nS (cT rfl ?_)
 refine tS (tR (sQ (pBd rfl rfl) rfl (sS' ?_)))
 refine sQ (pA rfl) rfl (sD (nS (tT (rS (rB (rS ?_))))))
 refine rF2 (rC rfl (lBa rfl rfl)) (rT rfl) ?_
 (rw [f4 (by omega) (by omega) (by first | exact hE | assumption)]; exact TyO.no rfl (tyLeaf_r _ ⟨by omega, by omega⟩) (tAr_leaf (by omega) (by omega)))
 refine aP 11 rfl (pM rfl) rfl ?_
 refine aP 12 rfl (pX rfl rfl) rfl ?_
 refine aP 13 rfl (pX rfl rfl) rfl ?_
 refine aO' 14 ?_
 (refine one_step0 rfl (step_alloc rfl) rfl rfl ?_; rintro _ ⟨b173, rfl⟩)
 refine aO' 15 ?_
 refine oT' rfl ?_
 refine aP 16 rfl (pA rfl) rfl ?_
 refine aD' ?_
 refine nS (tS (tS (tR (sQ (pM rfl) rfl (sQ (pNt rfl) rfl (sD ?_))))))
 refine nS (cF rfl ?_)
 refine tK (nS (tS (tR (sQ (pF0 rfl) rfl (sL (lBa rfl rfl) rfl rfl ?_)))))
 refine sL (lBa rfl rfl) rfl rfl ?_
 (refine seq_imm rfl (l3TwoX_fn 4 (.mk tk tks) _ _ _ _ (.inl rfl) hta hma htyN hmr) rfl rfl (fun v G3 hle3 hh => ?_); obtain ⟨mc2, rfl, hmr2⟩ := hh; obtain ⟨p2, c2, e2, rfl, _⟩ := hmr2.open)
 refine sQ (pX rfl rfl) rfl (sQ (pX rfl rfl) rfl (sS' ?_))
 refine sQ (pA rfl) rfl (sD (nS (tT (rB (rS (rF2 (rC rfl (lBa rfl rfl)) (rT rfl) ?_))))))
 (rw [f5 _ (by omega) (by omega) (by first | exact hE | assumption)]; exact TyO.mk rfl hmr2 (tAr_two (.inl rfl) hta hma))
 (refine one_step0 rfl (step_alloc rfl) rfl rfl ?_; rintro _ ⟨b206, rfl⟩)
 refine aO' 10 ?_
 focus (refine one_imm rfl rfl hLam rfl rfl rfl (fun v G2 hle2 hh => ?_); obtain ⟨mt, mc, rfl, hmr, hma, hmu⟩ := hh; obtain ⟨p1, c1, e1, rfl, _⟩ := hmr.open; have htyN := htyM.mono hle2; rcases hE : mTyS (cx ++ [(nm, Ty.mk tk tks)]) ks[0] with _ | mt2; rotate_left; obtain rfl := hmu _ hE; rotate_left; all_goals simp only [Option.isSome])
 refine aP 11 rfl (pM rfl) rfl ?_
 refine aP 12 rfl (pX rfl rfl) rfl ?_
 refine aP 13 rfl (pX rfl rfl) rfl ?_
 refine aO' 15 ?_
 refine oT' rfl ?_
 refine aP 16 rfl (pA rfl) rfl ?_
 refine aD' ?_
 refine nS (tS (tS (tR (sQ (pM rfl) rfl (sQ (pNf rfl) rfl (sD ?_))))))
 refine nS (cT rfl ?_)
 refine tS (tR (sQ (pBd rfl rfl) rfl (sS' ?_)))
 refine sQ (pA rfl) rfl (sD (nS (tT (rS (rB (rS ?_))))))
 refine rF2 (rC rfl (lBa rfl rfl)) (rT rfl) ?_
 (rw [f4 (by omega) (by omega) (by first | exact hE | assumption)]; exact TyO.no rfl (tyLeaf_r _ ⟨by omega, by omega⟩) (tAr_leaf (by omega) (by omega)))
 refine aP 11 rfl (pM rfl) rfl ?_
 refine aP 12 rfl (pX rfl rfl) rfl ?_
 refine aP 13 rfl (pX rfl rfl) rfl ?_
 refine aO' 15 ?_
 refine oT' rfl ?_
 refine aP 16 rfl (pA rfl) rfl ?_
 refine aD' ?_
 refine nS (tS (tS (tR (sQ (pM rfl) rfl (sQ (pNt rfl) rfl (sD ?_))))))
 refine nS (cF rfl ?_)
 refine tK (nS (tS (tR (sQ (pF0 rfl) rfl (sL (lBa rfl rfl) rfl rfl ?_)))))
 refine sL (lBa rfl rfl) rfl rfl ?_
 (refine seq_imm rfl (l3TwoX_fn 4 (.mk tk tks) _ _ _ _ (.inl rfl) hta hma htyN hmr) rfl rfl (fun v G3 hle3 hh => ?_); obtain ⟨mc2, rfl, hmr2⟩ := hh; obtain ⟨p2, c2, e2, rfl, _⟩ := hmr2.open)
 refine sQ (pX rfl rfl) rfl (sQ (pX rfl rfl) rfl (sS' ?_))
 refine sQ (pA rfl) rfl (sD (nS (tT (rB (rS (rF2 (rC rfl (lBa rfl rfl)) (rT rfl) ?_))))))
 (rw [f5 _ (by omega) (by omega) (by first | exact hE | assumption)]; exact TyO.mk rfl hmr2 (tAr_two (.inl rfl) hta hma))
 (refine one_step0 rfl (step_alloc rfl) rfl rfl ?_; rintro _ ⟨b273, rfl⟩)
 refine aO' 5 ?_
 (refine one_imm rfl rfl hMore rfl rfl rfl (fun v G1 hle1 hh => ?_); obtain ⟨pm, cm, rfl, hxm⟩ := hh; have hreM := hre.mono hle1; have hLam := ih ks[0] (List.getElem_mem (by omega)) (d + 1) _ G1 pm (n + 1) cm _ (hvk 0 (by omega)) (by omega) (hcv5 (by omega)) hxm hreM; have htyM := hty.mono hle1)
 refine aO' 10 ?_
 focus (refine one_imm rfl rfl hLam rfl rfl rfl (fun v G2 hle2 hh => ?_); obtain ⟨mt, mc, rfl, hmr, hma, hmu⟩ := hh; obtain ⟨p1, c1, e1, rfl, _⟩ := hmr.open; have htyN := htyM.mono hle2; rcases hE : mTyS (cx ++ [(nm, Ty.mk tk tks)]) ks[0] with _ | mt2; rotate_left; obtain rfl := hmu _ hE; rotate_left; all_goals simp only [Option.isSome])
 refine aP 11 rfl (pM rfl) rfl ?_
 refine aP 12 rfl (pX rfl rfl) rfl ?_
 refine aP 13 rfl (pX rfl rfl) rfl ?_
 refine aO' 15 ?_
 refine oT' rfl ?_
 refine aP 16 rfl (pA rfl) rfl ?_
 refine aD' ?_
 refine nS (tS (tS (tR (sQ (pM rfl) rfl (sQ (pNf rfl) rfl (sD ?_))))))
 refine nS (cT rfl ?_)
 refine tS (tR (sQ (pBd rfl rfl) rfl (sS' ?_)))
 refine sQ (pA rfl) rfl (sD (nS (tT (rS (rB (rS ?_))))))
 refine rF2 (rC rfl (lBa rfl rfl)) (rT rfl) ?_
 (rw [f4 (by omega) (by omega) (by first | exact hE | assumption)]; exact TyO.no rfl (tyLeaf_r _ ⟨by omega, by omega⟩) (tAr_leaf (by omega) (by omega)))
 refine aP 11 rfl (pM rfl) rfl ?_
 refine aP 12 rfl (pX rfl rfl) rfl ?_
 refine aP 13 rfl (pX rfl rfl) rfl ?_
 refine aO' 15 ?_
 refine oT' rfl ?_
 refine aP 16 rfl (pA rfl) rfl ?_
 refine aD' ?_
 refine nS (tS (tS (tR (sQ (pM rfl) rfl (sQ (pNt rfl) rfl (sD ?_))))))
 refine nS (cF rfl ?_)
 refine tK (nS (tS (tR (sQ (pF0 rfl) rfl (sL (lBa rfl rfl) rfl rfl ?_)))))
 refine sL (lBa rfl rfl) rfl rfl ?_
 (refine seq_imm rfl (l3TwoX_fn 4 (.mk tk tks) _ _ _ _ (.inl rfl) hta hma htyN hmr) rfl rfl (fun v G3 hle3 hh => ?_); obtain ⟨mc2, rfl, hmr2⟩ := hh; obtain ⟨p2, c2, e2, rfl, _⟩ := hmr2.open)
 refine sQ (pX rfl rfl) rfl (sQ (pX rfl rfl) rfl (sS' ?_))
 refine sQ (pA rfl) rfl (sD (nS (tT (rB (rS (rF2 (rC rfl (lBa rfl rfl)) (rT rfl) ?_))))))
 (rw [f5 _ (by omega) (by omega) (by first | exact hE | assumption)]; exact TyO.mk rfl hmr2 (tAr_two (.inl rfl) hta hma))
 refine sQ (pA rfl) rfl (sD (nS (cF rfl ?_)))
 refine tK (nrm_block (nS (tS (tR ?_))))
 (refine seq_step (step_buildSlice rfl rfl rfl (by omega) (by unfold maxLen; omega) rfl) rfl ?_; rintro _ ⟨b351, rfl⟩)
 refine sQ (pA rfl) rfl (sD (nS (tS (tS (tR (sQ (pA rfl) rfl ?_))))))
 refine sD (nS (tri_block ?_))
 (refine tri_loopN (fun (x : Nat × Option Addr × Nat × List Ty × List (List Value) × IM) => ⟨[(9, .int .i64 x.1), (8, .slice x.2.1 x.1 x.2.2.1), (3, .pointer (some ⟨b3, 0, none⟩)), (4, .pointer (some ⟨b4, 0, none⟩)), (0, .slice p n c)], [.slc x.2.1 x.2.2.1 32 2 x.1 x.2.2.2.2.1.flatten, .blk b4 [.int .i64 0, .slice none 0 0], .blk b3 [.int .i64 k, .string nm, .int .i64 num, .int .i64 tk, .slice pt tks.length ct, .int .i64 fk, .slice pf fks.length cf, .int .i64 lb, .slice q ks.length cq]], x.2.2.2.2.2⟩) (fun x => x.1 ≤ ks.length ∧ IMle G x.2.2.2.2.2 ∧ x.2.2.2.1.length = x.1 ∧ RTyL x.2.2.2.2.2 x.2.2.2.1 x.2.2.2.2.1 ∧ (∀ u ∈ x.2.2.2.1, tAr u) ∧ mTySL cx (ks.take x.1) = some x.2.2.2.1) (fun x => ks.length - x.1) (0, some ⟨b351, 0, none⟩, 0, [], [], G) ?_ ?_ ?_)
 (simp only [flat_snoc]; exact sMk)
 (exact ⟨by simp, IMle.refl _, rfl, by simp [RTyL], by simp, by simp [mTySL]⟩)
 (rintro ⟨i, pn, cn, us, es', Gi⟩ ⟨hi, hle, hlu, hst, hau, hsu⟩; simp only [] at hi hle hlu hst hau hsu ⊢; replace hsl := hsl.mono hle; replace hkl := hkl.mono hle; replace hx := hx.mono hle; replace hr0 := hr0.mono hle)
 refine tS (tS (tR (sQ (pM rfl) rfl (sQ (pF0 rfl) rfl (sL (lBs rfl rfl) rfl rfl ?_)))))
 refine sQ (pLn rfl rfl) rfl (sB (pure_lss rfl rfl) rfl rfl (fun h373 => ?_) (fun h373 => ?_))
 refine sD (nS (cT rfl ?_))
 refine tK (nS (tS (tri_block (tS (tR (sQ (pM rfl) rfl ?_))))))
 refine sQ (pF0 rfl) rfl (sL (lBs rfl rfl) rfl rfl ?_)
 refine sQ (pM rfl) rfl ?_
 (obtain ⟨b, o, e, rfl, hl, hat, hre, hgb⟩ := hsl.kidTm hkl (i := i) (by omega) (by omega); refine sP (pIN rfl rfl rfl (by omega)) rfl rfl ?_)
 refine sL (load_a rfl rfl (hat _) hl) rfl rfl ?_
 focus (refine seq_imm rfl (ih ks[i] (List.getElem_mem (by omega)) (d + 1) cx Gi p n c _ (hvk i (by omega)) (by omega) hcv hx hre) rfl rfl (fun v G2 hle2 hh => ?_); obtain ⟨u, uc, rfl, hru, hua, huu⟩ := hh; obtain ⟨p3, c3, e3, rfl, _⟩ := hru.open; rcases hE : mTyS cx ks[i] with _ | u2; rotate_left; obtain rfl := huu _ hE; rotate_left; all_goals simp only [Option.isSome])
 refine sQ (pM rfl) rfl (sQ (pX rfl rfl) rfl (sQ (pX rfl rfl) rfl ?_))
 refine sE (step_alloc rfl) rfl (fun b393 => ?_)
 refine sS' ?_
 refine sQ (pA rfl) rfl (sD (nS (tS (tS (tR (sQ (pM rfl) rfl ?_))))))
 refine sQ (pNf rfl) rfl (sD (nS (cT rfl ?_)))
 refine tS (tR (sQ (pBd rfl rfl) rfl (sS' ?_)))
 refine sQ (pA rfl) rfl (sD (nS (tT (rS (rB (rS ?_))))))
 refine ret_loopN (rB (rS (rF2 (rC rfl (lBa rfl rfl)) (rT rfl) ?_)))
 (rw [f6 (by omega) (tySL_no (by omega) hE)]; exact TyO.no rfl (tyLeaf_r _ ⟨by omega, by omega⟩) (tAr_leaf (by omega) (by omega)))
 refine sQ (pM rfl) rfl (sQ (pX rfl rfl) rfl (sQ (pX rfl rfl) rfl ?_))
 refine sE (step_alloc rfl) rfl (fun b425 => ?_)
 refine sS' ?_
 refine sQ (pA rfl) rfl (sD (nS (tS (tS (tR (sQ (pM rfl) rfl ?_))))))
 refine sQ (pNt rfl) rfl (sD (nS (cF rfl ?_)))
 refine tK (nS (tR (sQ (pM rfl) rfl (sL (lBa rfl rfl) rfl rfl ?_))))
 (refine seq_step (step_buildSlice rfl rfl rfl (by omega) (by unfold maxLen; omega) rfl) rfl ?_; rintro _ ⟨b443, rfl⟩)
 refine seq_append rfl rfl rfl rfl rfl (fun _ _ => by repeat (first | exact Sw.here | apply Sw.there)) (at_slc_all (by repeat first | exact mH | apply mT)) rfl (by simp [Value.oneCell']) (by unfold maxLen; omega) (by omega) rfl (fun pn' cn' => ?_)
 refine sQ (pA rfl) rfl (sD (nrm_block (nS (tR (sQ (pM rfl) rfl (sP (pure_add rfl rfl (by omega) (by omega)) rfl rfl ?_))))))
 refine sQ (pA rfl) rfl (sD (nrm_loopN (i + 1, pn', cn', us ++ [u2], es' ++ [[.int .i64 u2.k, .slice p3 u2.ks.length c3]], G2) ?_ ?_ ?_))
 (simp only [flat_snoc]; exact sMk)
 (dsimp only; exact ⟨by omega, hle.trans hle2, by simp [hlu], RTyL.snoc (hst.mono hle2) hru, forall_snoc hau hua, tySL_succ (by omega) hsu hE⟩)
 (show ks.length - (i + 1) < ks.length - i; omega)
 refine sD (nS (cF rfl ?_))
 refine tri_exit ?_
 refine ext_seq ?_
 refine ext_loopN ?_
 refine ext_block_eq ?_
 refine nS (tS (tR (sL (lBa rfl rfl) rfl rfl ?_)))
 refine sQ (pM rfl) rfl ?_
 (obtain rfl : i = ks.length := (by omega); rw [List.take_length] at hsu; refine triL_freeze (cs := es'.flatten) (by repeat (first | exact Pk.here | apply Pk.there)) (fun G3 hle3 hsl3 hno3 => ?_); have hst3 := hst.mono hle3; have hRes := l3ResultX_fn cx k nm num (.mk tk tks) (.mk fk fks) lb ks us G3 _ pn cn es' (by rw [hlu]; exact har) (by omega) hta (hr0.mono hle3) (by rw [hlu]; exact SlE.of hsl3 (by rw [hst3.len, hlu]) hst3.all (fun e he => (hst3.each e he).2)) hst3 hau; rw [hlu] at hRes; refine seq_imm rfl hRes rfl rfl (fun v G4 hle4 hh => ?_); obtain ⟨mt, mc, rfl, hmr, hma, hmu⟩ := hh; obtain ⟨p1, c1, e1, rfl, _⟩ := hmr.open)
 refine sQ (pX rfl rfl) rfl (sQ (pX rfl rfl) rfl (sS' ?_))
 refine sQ (pA rfl) rfl (sD (nS (tT (rF2 (rC rfl (lBa rfl rfl)) (rT rfl) ?_))))
 (rw [f7 us (by omega) hsu]; exact ⟨rfl, _, _, rfl, hmr, hma, hmu⟩)
end Gw
end Go.Proofs.YtmnfamimopcldaaGreatDoor
