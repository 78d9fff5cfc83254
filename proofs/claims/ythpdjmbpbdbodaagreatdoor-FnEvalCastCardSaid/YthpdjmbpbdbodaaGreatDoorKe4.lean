/-
  InsertCasts of the reference model: it ends, and what it gives is not much bigger than what it is given. Which names are free, at which place a name is bound: what comes out is small. Evaluation of terms with casts, in plain words. What a step gives is small. The program's functions on types and contexts: each computes what the plain words say. Nodes replaced: the program's put, the reference model's l16Replace. The reference model's replacing of nodes. What a node wants of its operands. The type of a term with casts. castType and CastTypeOf compute the type of a term with casts. ReplaceAt: the program's and the reference model's. Nodes at paths, in plain words: paths concatenate. Replacing a node, in plain words: what is put is found, and putting back undoes. A closed term's type is its type everywhere; a node replaced by one of its type leaves the type. Casts put into a term, in plain words. The reference's types are those of the insertion. Terms with casts: what a type says of a node. A function that only reads may be handed an own slice. The program's evaluator: proxies, injections, values, casts.
-/
import Derived.Test.YthpdjmbpbdbodaaGreatDoorKe3
import Derived.Test.YthpdjmbpbdbodaaGreatDoorKe2
import Derived.Test.YthpdjmbpbdbodaaGreatDoorKe1
import Derived.Test.YthpdjmbpbdbodaaGreatDoorKe0
set_option linter.unusedVariables false
set_option linter.unusedSimpArgs false
set_option maxHeartbeats 0
set_option maxRecDepth 100000
set_option synthInstance.maxSize 4000
set_option synthInstance.maxHeartbeats 0
namespace Go.Proofs.YthpdjmbpbdbodaaGreatDoor
open Go Go.RowKit
namespace Gw
theorem tmCountL_snoc : ∀ (ts : List Tm) (t : Tm), tmCountL (ts ++ [t]) = tmCountL ts + tmCount t
 | [], t => by simp [tmCountL]
 | a :: ts, t => by simp only [List.cons_append, tmCountL, tmCountL_snoc ts t]; omega
theorem smallL_snoc : ∀ {ts : List Tm} {t : Tm}, Tm.smallL ts → t.small → Tm.smallL (ts ++ [t])
 | [], t, _, h => by simp [Tm.smallL, h]
 | a :: ts, t, h, h2 => by
  simp only [Tm.smallL] at h
  simp only [List.cons_append, Tm.smallL]
  exact ⟨h.1, smallL_snoc h.2 h2⟩
theorem tmCountL_set : ∀ (ts : List Tm) (i : Nat) (u : Tm) (h : i < ts.length), tmCountL (ts.set i u) + tmCount ts[i] = tmCountL ts + tmCount u
 | [], i, u, h => by simp at h
 | a :: ts, 0, u, h => by simp only [List.set_cons_zero, tmCountL, List.getElem_cons_zero]; omega
 | a :: ts, i + 1, u, h => by
  have := tmCountL_set ts i u (by simpa using h)
  simp only [List.set_cons_succ, tmCountL, List.getElem_cons_succ]; omega
theorem smallL_set : ∀ {ts : List Tm} {i : Nat} {u : Tm}, Tm.smallL ts → u.small → Tm.smallL (ts.set i u)
 | [], i, u, h, _ => by simpa using h
 | a :: ts, 0, u, h, hu => by
  simp only [Tm.smallL, List.set_cons_zero] at h ⊢
  exact ⟨hu, h.2⟩
 | a :: ts, i + 1, u, h, hu => by
  simp only [Tm.smallL, List.set_cons_succ] at h ⊢
  exact ⟨h.1, smallL_set h.2 hu⟩
theorem tmCountL_get {ts : List Tm} {i : Nat} (h : i < ts.length) : tmCount ts[i] ≤ tmCountL ts := by
 have := tmCountL_take h
 omega
theorem RTmL.at2 {G : IM} {ts : List Tm} {es : List (List Value)} {i : Nat} (h : RTmL G ts es) (h1 : i < ts.length) (h2 : i < es.length) : i < es.length ∧ RTm G ts[i] es[i] := by
 have := (h.inv (List.getElem?_eq_getElem h2) tm0).2
 rw [List.getD_eq_getElem?_getD, List.getElem?_eq_getElem h1] at this
 exact ⟨h2, this⟩
mutual
theorem shape_small : ∀ (t : Tm) (d : Int), sShape 12 14 t d = true → t.small
 | .mk k nm num ty fr lb ks, d, h => by
  obtain ⟨h1, h2, h3, h4⟩ := sShape_go2 h
  have hn := tmNode_iff.1 h3
  rw [Tm.small]
  refine ⟨?_, (node_ann h3).1.small, ?_, ?_, shape_smallL ks _ h4⟩
  ·by_cases hk : k = 1 ∨ k = 5
   ·have := hn.2.1 hk
    simp only [nameOk, decide_eq_true_eq] at this
    omega
   ·rw [hn.2.2.1 hk]; decide
  ·rw [tNone_eq (hn.2.2.2.2.2.2.2.2 (by omega)).1]
   simp [ty0, Ty.small, Ty.smallL]
  ·have := tmOps_le k
   omega
theorem shape_smallL : ∀ (ts : List Tm) (d : Int), sShapeL 12 14 ts d = true → Tm.smallL ts
 | [], d, h => by rw [Tm.smallL]; trivial
 | t :: ts, d, h => by
  rw [sShapeL, Bool.and_eq_true] at h
  rw [Tm.smallL]
  exact ⟨shape_small t d h.1, shape_smallL ts d h.2⟩
end
/-- One element of an own block that was a slice of several cells each. -/
theorem at_elem {hp : List Ent} {G : IM} {b sz i : Nat} {es : List (List Value)} {C : List Value} (hm : Ent.blk b (es.flatten ++ C) ∈ hp) (hi : i < es.length) (ha : ∀ e ∈ es, e.length = sz) : At hp G b (0 + i * sz) es[i] := by
 refine .inl ⟨_, hm, fun j u hu => ?_⟩
 rw [flat_at hi, List.append_assoc, List.append_assoc]
 have hl : (es.take i).flatten.length = i * sz := by
  rw [flat_len (fun e he => ha e (List.mem_of_mem_take he)), List.length_take, Nat.min_eq_left (by omega)]
 have hj : j < es[i].length := (List.getElem?_eq_some_iff.1 hu).1
 rw [List.getElem?_append_right (by omega), show 0 + i * sz + j - (es.take i).flatten.length = j by omega, List.getElem?_append_left hj]
 exact hu
/-- A term with casts, its type, the next label. -/
def InsP (e : Tm) (label : Int) (G : IM) : IM → Value → List Ent → Prop := Imm fun G' v => ∃ u cu t ct l', v = .tuple ⟨[.agg ⟨cu⟩, .agg ⟨ct⟩, .int .i64 l']⟩ ∧ RTm G' u cu ∧ u.small ∧ tmCount u + 1 ≤ 2 * tmCount e ∧ RTy G' t ct ∧ tAr t ∧ szTy t ≤ 32 * (tmCount e : Int) ∧ label ≤ l' ∧ l' + 1 ≤ label + 2 * (tmCount e : Int)
theorem l4Insert_fn : ∀ (e : Tm) (d : Int) (G : IM) (p : Option Addr) (n c : Nat) (label : Int) (cells : List Value), sShape 12 14 e d = true → (n : Int) ≤ d → GCx G p n c → RTm G e cells → 0 ≤ label → label + 2 * (tmCount e : Int) ≤ 1099511627776 →
  Fn Tryz.prog 85 [.slice p n c, .agg ⟨cells⟩, .int .i64 label] [] G (InsP e label G) := by
 refine Tm.ind fun k nm num ty fr lb ks ih d G p n c label cells hv hnd hx hr hlab0 hlab => ?_
 have hr0 := hr
 have hone := hr.one
 have hT := l3Type_fn _ d G p n c cells hv hnd hx hr
 have hsm := shape_small _ d hv
 have hsm' := hsm
 rw [Tm.small] at hsm'
 obtain ⟨hnm, htsm, hfsm, _, hksm⟩ := hsm'
 obtain ⟨hv1, hv2, hv3, hv4⟩ := sShape_go2 hv
 have hvk := (sShapeL_iff 12 14 ks _).1 hv4
 have har := (tmNode_iff.1 hv3).1
 have hop := tm_ops har
 obtain ⟨hta, hts⟩ := node_ann hv3
 have hck : tmCount (.mk k nm num ty fr lb ks) = 1 + tmCountL ks := by rw [tmCount]; omega
 rw [hck] at hlab hT
 unfold InsP
 rw [hck]
 obtain ⟨tk, tks⟩ := ty
 obtain ⟨fk, fks⟩ := fr
 obtain ⟨pt, ct, pf, cf, q, cq, es, rfl, hk, hnum, hlb, hty, hfr, hsl, hkl⟩ := hr.open9
 have hlen : ks.length ≤ 3 := by have := tmOps_le k; omega
 have hk13 : k = 13 → ks.length = 1 := fun h => hop.2.2 (by omega)
 refine fn_enter Tryz.func85 rfl Tryz.ntmps85 Tryz.results85 rfl ?_
 intro w0
 refine tS ?_
 refine tR ?_
 refine sE (step_box_a rfl rfl) rfl (fun b3 => ?_)
 refine sE (step_alloc rfl) rfl (fun b4 => ?_)
 refine sE (step_alloc rfl) rfl (fun b5 => ?_)
 refine sQ (qA rfl) rfl ?_
 refine sD ?_
 refine nS ?_
 refine tS ?_
 refine tR ?_
 refine sQ (qM rfl) rfl ?_
 refine sL (lBa rfl rfl) rfl rfl ?_
 (refine seq_imm rfl hT rfl rfl (fun v G1 hle1 hh => ?_); obtain ⟨mt, mc, mx, rfl, hmr, hma, hms⟩ := hh; obtain ⟨p1, d1, e1, rfl, _⟩ := hmr.open; have hC := l2Copy_fn _ G1 _ hsm (hr0.mono hle1))
 refine sQ (qM rfl) rfl ?_
 refine sQ (pX rfl rfl) rfl ?_
 refine sQ (pX rfl rfl) rfl ?_
 refine sE (step_alloc rfl) rfl (fun b17 => ?_)
 refine sS' ?_
 refine sQ (qA rfl) rfl ?_
 refine sD ?_
 refine nS ?_
 refine tS ?_
 refine tR ?_
 refine sL (lBa rfl rfl) rfl rfl ?_
 (refine seq_imm rfl hC rfl rfl (fun v G2 hle2 hh => ?_); obtain ⟨cs1, F1, rfl, hs1, hn1⟩ := hh; have hr1 := hs1.R.mono (Dif.le G2 G1); obtain ⟨q1, c1, q2, c2, q3, c3, es1, rfl, _, _, _, hty1, hfr1, _, _⟩ := hr1.open9; have hle02 := hle1.trans hle2; replace hx := hx.mono hle02; replace hty := hty.mono hle02; replace hsl := hsl.mono hle02; replace hkl := hkl.mono hle02; replace hmr := hmr.mono hle2; replace hr0 := hr0.mono hle02)
 refine sE (step_alloc rfl) rfl (fun b26 => ?_)
 refine sS' ?_
 refine sD ?_
 refine nS ?_
 refine tS ?_
 refine tR ?_
 refine sQ (qF0 rfl) rfl ?_
 refine sS' ?_
 refine sD ?_
 refine nS ?_
 refine tS ?_
 refine tS ?_
 (show Tri _ _ (.region 4 ..) _ _; refine tri_cut (fun (x : Bool) => ⟨[(30, .bool x), (0, .slice p n c), (2, .int .i64 label), (4, .pointer (some ⟨b3, 0, none⟩)), (6, .pointer (some ⟨b4, 0, none⟩)), (7, .pointer (some ⟨b5, 0, none⟩)), (9, .pointer (some ⟨b17, 0, none⟩)), (11, .pointer (some ⟨b26, 0, none⟩))], [.blk b26 [.int .i64 k, .string nm, .int .i64 num, .int .i64 tk, .slice q1 tks.length c1, .int .i64 fk, .slice q2 fks.length c2, .int .i64 lb, .slice none 0 0], .blk b17 [.int .i64 mt.k, .slice p1 mt.ks.length d1], .blk b5 [.int .i64 0, .slice none 0 0], .blk b4 [.int .i64 0, .string ⟨⟨[]⟩⟩, .int .i64 0, .int .i64 0, .slice none 0 0, .int .i64 0, .slice none 0 0, .int .i64 0, .slice none 0 0], .blk b3 [.int .i64 k, .string nm, .int .i64 num, .int .i64 tk, .slice pt tks.length ct, .int .i64 fk, .slice pf fks.length cf, .int .i64 lb, .slice q ks.length cq]], G2⟩) (fun _ => True) ?_ ?_)
 ·refine tR ?_
  refine sQ (qF0 rfl) rfl ?_
  refine sL (lBs rfl rfl) rfl rfl ?_
  refine sB (qE rfl rfl) rfl rfl (fun h42 => ?_) (fun h42 => ?_)
  ·refine sD ?_
   refine nrm_cut true (sub_mk (by repeat (first | exact SubE.nil | refine SubE.cons rfl ?_)) (by repeat (first | exact SubH.refl | exact SubH.nil | refine SubH.cons (by repeat (first | exact Pk.here | apply Pk.there)) ?_ | apply SubH.drop))) trivial
  ·refine sD ?_
   refine nrm_cut false (sub_mk (by repeat (first | exact SubE.nil | refine SubE.cons rfl ?_)) (by repeat (first | exact SubH.refl | exact SubH.nil | refine SubH.cons (by repeat (first | exact Pk.here | apply Pk.there)) ?_ | apply SubH.drop))) trivial
 ·(rintro (x : Bool) _)
  (show Tri _ _ (.cond (.tmp 30) _ _) _ _; refine tri_cut (fun (x : Option Addr × Nat × Nat × IM) => ⟨[(0, .slice x.1 x.2.1 x.2.2.1), (2, .int .i64 label), (4, .pointer (some ⟨b3, 0, none⟩)), (6, .pointer (some ⟨b4, 0, none⟩)), (7, .pointer (some ⟨b5, 0, none⟩)), (9, .pointer (some ⟨b17, 0, none⟩)), (11, .pointer (some ⟨b26, 0, none⟩))], [.blk b26 [.int .i64 k, .string nm, .int .i64 num, .int .i64 tk, .slice q1 tks.length c1, .int .i64 fk, .slice q2 fks.length c2, .int .i64 lb, .slice none 0 0], .blk b17 [.int .i64 mt.k, .slice p1 mt.ks.length d1], .blk b5 [.int .i64 0, .slice none 0 0], .blk b4 [.int .i64 0, .string ⟨⟨[]⟩⟩, .int .i64 0, .int .i64 0, .slice none 0 0, .int .i64 0, .slice none 0 0, .int .i64 0, .slice none 0 0], .blk b3 [.int .i64 k, .string nm, .int .i64 num, .int .i64 tk, .slice pt tks.length ct, .int .i64 fk, .slice pf fks.length cf, .int .i64 lb, .slice q ks.length cq]], x.2.2.2⟩) (fun x => IMle G2 x.2.2.2 ∧ GCx x.2.2.2 x.1 x.2.1 x.2.2.1 ∧ (x.2.1 : Int) ≤ d + 1) (tri_cond rfl (fun hxt => ?_) (fun hxf => ?_)) ?_)
  ·refine tR ?_
   refine sQ (qM rfl) rfl ?_
   refine sQ (qF0 rfl) rfl ?_
   refine sL (lBs rfl rfl) rfl rfl ?_
   refine sQ (qF0 rfl) rfl ?_
   refine sL (lBa rfl rfl) rfl rfl ?_
   (refine seq_imm rfl (l3More_fn G2 p n c nm (.mk tk tks) _ hx (by omega) hty hta hts) rfl rfl (fun v G3 hle3 hh => ?_); obtain ⟨pm0, cm0, rfl, hxm⟩ := hh)
   refine sQ (qA rfl) rfl ?_
   refine sD ?_
   refine nrm_cut (pm0, n + 1, cm0, G3) (sub_mk (by repeat (first | exact SubE.nil | refine SubE.cons rfl ?_)) (by repeat (first | exact SubH.refl | exact SubH.nil | refine SubH.cons (by repeat (first | exact Pk.here | apply Pk.there)) ?_ | apply SubH.drop))) ?_
   (dsimp only; exact ⟨hle3, hxm, by omega⟩)
  ·refine tK ?_
   refine nrm_cut (p, n, c, G2) (sub_mk (by repeat (first | exact SubE.nil | refine SubE.cons rfl ?_)) (by repeat (first | exact SubH.refl | exact SubH.nil | refine SubH.cons (by repeat (first | exact Pk.here | apply Pk.there)) ?_ | apply SubH.drop))) ?_
   (dsimp only; exact ⟨IMle.refl _, hx, by omega⟩)
  ·(rintro ⟨(px : Option Addr), nx, cx, Gx⟩ ⟨hleX, hxX, hnX⟩; simp only [] at hleX hxX hnX ⊢; replace hty1 := hty1.mono hleX; replace hfr1 := hfr1.mono hleX; replace hsl := hsl.mono hleX; replace hkl := hkl.mono hleX; replace hmr := hmr.mono hleX; replace hr0 := hr0.mono hleX)
   refine tS ?_
   refine tR ?_
   (refine seq_step (step_buildSlice rfl rfl rfl (by omega) (by unfold maxLen; omega) rfl) rfl ?_; rintro _ ⟨b66, rfl⟩)
   refine sQ (qA rfl) rfl ?_
   refine sD ?_
   refine nS ?_
   refine tS ?_
   refine tS ?_
   refine tR ?_
   refine sQ (qA rfl) rfl ?_
   refine sD ?_
   refine nS ?_
   refine tri_block ?_
   (refine tri_nil 28 9 ?_; refine tri_loopN (fun (x : Nat × (Option Addr × Nat × List Tm × List (List Value)) × (Option Addr × Nat × List Ty × List (List Value)) × Int × IM) => ⟨[(13, .int .i64 x.1), (12, .slice x.2.2.1.1 x.1 x.2.2.1.2.1), (0, .slice px nx cx), (2, .int .i64 x.2.2.2.1), (4, .pointer (some ⟨b3, 0, none⟩)), (6, .pointer (some ⟨b4, 0, none⟩)), (7, .pointer (some ⟨b5, 0, none⟩)), (9, .pointer (some ⟨b17, 0, none⟩)), (11, .pointer (some ⟨b26, 0, none⟩))], [.blk b26 [.int .i64 k, .string nm, .int .i64 num, .int .i64 tk, .slice q1 tks.length c1, .int .i64 fk, .slice q2 fks.length c2, .int .i64 lb, .slice x.2.1.1 x.1 x.2.1.2.1], .slc x.2.1.1 x.2.1.2.1 28 9 x.1 x.2.1.2.2.2.flatten, .slc x.2.2.1.1 x.2.2.1.2.1 25 2 x.1 x.2.2.1.2.2.2.flatten, .blk b17 [.int .i64 mt.k, .slice p1 mt.ks.length d1], .blk b5 [.int .i64 0, .slice none 0 0], .blk b4 [.int .i64 0, .string ⟨⟨[]⟩⟩, .int .i64 0, .int .i64 0, .slice none 0 0, .int .i64 0, .slice none 0 0, .int .i64 0, .slice none 0 0], .blk b3 [.int .i64 k, .string nm, .int .i64 num, .int .i64 tk, .slice pt tks.length ct, .int .i64 fk, .slice pf fks.length cf, .int .i64 lb, .slice q ks.length cq]], x.2.2.2.2⟩) (fun x => x.1 ≤ ks.length ∧ IMle Gx x.2.2.2.2 ∧ x.2.1.2.2.1.length = x.1 ∧ RTmL x.2.2.2.2 x.2.1.2.2.1 x.2.1.2.2.2 ∧ Tm.smallL x.2.1.2.2.1 ∧ tmCountL x.2.1.2.2.1 + x.1 ≤ 2 * tmCountL (ks.take x.1) ∧ x.2.2.1.2.2.1.length = x.1 ∧ RTyL x.2.2.2.2 x.2.2.1.2.2.1 x.2.2.1.2.2.2 ∧ (∀ t ∈ x.2.2.1.2.2.1, tAr t) ∧ label ≤ x.2.2.2.1 ∧ x.2.2.2.1 + x.1 ≤ label + 2 * (tmCountL (ks.take x.1) : Int)) (fun x => ks.length - x.1) (0, (none, 0, [], []), (some ⟨b66, 0, none⟩, 0, [], []), label, Gx) ?_ ?_ ?_)
   ·(simp only [flat_snoc]; exact sMk)
   ·(exact ⟨by simp, IMle.refl _, rfl, by simp [RTmL], by simp [Tm.smallL], by simp [tmCountL], rfl, by simp [RTyL], by simp, by dsimp only; omega, by dsimp only; omega⟩)
   ·(rintro ⟨i, ⟨pn, cn, us, es'⟩, ⟨pm, cm, ts, ess⟩, l, Gi⟩ ⟨hi, hle, hlu, hst, hus, hcu, hlt, hstt, hat, hl1, hl2⟩; simp only [] at hi hle hlu hst hus hcu hlt hstt hat hl1 hl2 ⊢; replace hty1 := hty1.mono hle; replace hfr1 := hfr1.mono hle; replace hsl := hsl.mono hle; replace hkl := hkl.mono hle; replace hmr := hmr.mono hle; replace hr0 := hr0.mono hle; replace hxX := hxX.mono hle)
    refine tS ?_
    refine tS ?_
    refine tR ?_
    refine sQ (qM rfl) rfl ?_
    refine sQ (qF0 rfl) rfl ?_
    refine sL (lBs rfl rfl) rfl rfl ?_
    refine sQ (pLn rfl rfl) rfl ?_
    refine sB (pure_lss rfl rfl) rfl rfl (fun h88 => ?_) (fun h88 => ?_)
    ·refine sD ?_
     refine nS ?_
     refine qT rfl ?_
     refine tK ?_
     refine nS ?_
     refine tS ?_
     refine tri_block ?_
     refine tS ?_
     refine tR ?_
     refine sQ (qM rfl) rfl ?_
     refine sQ (qF0 rfl) rfl ?_
     refine sL (lBs rfl rfl) rfl rfl ?_
     refine sQ (qM rfl) rfl ?_
     (obtain ⟨b, o, e, rfl, hl, hate, hre, hgb⟩ := hsl.kidTm hkl (i := i) (by omega) (by omega); have hsc := tmCountL_succ (ks := ks) (i := i) (by omega); have hsk := tmCountL_take (ks := ks) (i := i) (by omega); refine sP (pIN rfl rfl rfl (by omega)) rfl rfl ?_)
     refine sL (load_a rfl rfl (hate _) hl) rfl rfl ?_
     refine sQ (qM rfl) rfl ?_
     (refine seq_imm rfl (ih ks[i] (List.getElem_mem (by omega)) (d + 1) Gi px nx cx l _ (hvk i (by omega)) (by omega) hxX hre (by omega) (by omega)) rfl rfl (fun v G3 hle3 hh => ?_); obtain ⟨u, uc, t, tc, l3, rfl, hru, hu1, hu2, hrt, ht1, ht2, hl3, hl4⟩ := hh; obtain ⟨v1, v2, v3, v4, v5, v6, v7, v8, v9, rfl⟩ : ∃ v1 v2 v3 v4 v5 v6 v7 v8 v9, uc = [v1, v2, v3, v4, v5, v6, v7, v8, v9] := (by obtain ⟨_, _, _, _, _, _, _, _, _, rfl, _⟩ := hru.open; exact ⟨_, _, _, _, _, _, _, _, _, rfl⟩); obtain ⟨p3, c3, e3, rfl, _⟩ := hrt.open; have hlu9 := hru.len; have hou9 := hru.one)
     refine sQ (qM rfl) rfl ?_
     refine sQ (pX rfl rfl) rfl ?_
     refine sQ (pX rfl rfl) rfl ?_
     refine sQ (pX rfl rfl) rfl ?_
     refine sE (step_alloc rfl) rfl (fun b110 => ?_)
     refine sE (step_alloc rfl) rfl (fun b111 => ?_)
     refine sS rfl rfl rfl hlu9 hou9 rfl ?_ (hu := by exact upd_all hlu9.symm)
     refine sS' ?_
     refine sQ (qA rfl) rfl ?_
     refine sD ?_
     refine nS ?_
     refine tS ?_
     refine tR ?_
     refine sQ (qF0 rfl) rfl ?_
     refine sL (lBs rfl rfl) rfl rfl ?_
     refine sL (lBa rfl rfl) rfl rfl ?_
     (refine seq_step (step_buildSlice rfl rfl rfl (by omega) (by unfold maxLen; omega) rfl) rfl ?_; rintro _ ⟨b122, rfl⟩)
     refine seq_append rfl rfl rfl rfl rfl (fun _ _ => by repeat (first | exact Sw.here | apply Sw.there)) (at_slc_all (by repeat first | exact mH | apply mT)) rfl (fun u hu => List.all_eq_true.1 hou9 u hu) (by unfold maxLen; omega) (by omega) rfl (fun pn' cn' => ?_)
     refine sQ (qF0 rfl) rfl ?_
     refine sS' ?_
     refine sD ?_
     refine nS ?_
     refine tS ?_
     refine tR ?_
     refine sQ (qM rfl) rfl ?_
     refine sL (lBa rfl rfl) rfl rfl ?_
     (refine seq_step (step_buildSlice rfl rfl rfl (by omega) (by unfold maxLen; omega) rfl) rfl ?_; rintro _ ⟨b132, rfl⟩)
     refine seq_append rfl rfl rfl rfl rfl (fun _ _ => by repeat (first | exact Sw.here | apply Sw.there)) (at_slc_all (by repeat first | exact mH | apply mT)) rfl (by simp [Value.oneCell']) (by unfold maxLen; omega) (by omega) rfl (fun pm' cm' => ?_)
     refine sQ (qA rfl) rfl ?_
     refine sD ?_
     refine nS ?_
     refine tR ?_
     refine sQ (qM rfl) rfl ?_
     refine sQ (qA rfl) rfl ?_
     refine sD ?_
     refine nrm_block ?_
     refine nS ?_
     refine tR ?_
     refine sQ (qM rfl) rfl ?_
     refine sP (pure_add rfl rfl (by omega) (by omega)) rfl rfl ?_
     refine sQ (qA rfl) rfl ?_
     refine sD ?_
     refine nrm_loopN (i + 1, (pn', cn', us ++ [u], es' ++ [[v1, v2, v3, v4, v5, v6, v7, v8, v9]]), (pm', cm', ts ++ [t], ess ++ [[.int .i64 t.k, .slice p3 t.ks.length c3]]), l3, G3) ?_ ?_ ?_
     ·(simp only [flat_snoc]; exact sMk)
     ·(dsimp only; exact ⟨by omega, hle.trans hle3, by simp [hlu], RTmL.snoc (hst.mono hle3) hru, smallL_snoc hus hu1, by rw [tmCountL_snoc]; omega, by simp [hlt], RTyL.snoc (hstt.mono hle3) hrt, forall_snoc hat ht1, by omega, by omega⟩)
     ·(show ks.length - (i + 1) < ks.length - i; omega)
    ·refine sD ?_
     refine nS ?_
     refine cF rfl ?_
     refine tri_exit ?_
     refine ext_seq ?_
     refine ext_loopN ?_
     refine ext_block_eq ?_
     refine nS ?_
     refine tS ?_
     refine tR ?_
     refine sL (lBa rfl rfl) rfl rfl ?_
     refine sQ (qM rfl) rfl ?_
     refine sL (lBa rfl rfl) rfl rfl ?_
     (obtain rfl : i = ks.length := (by omega); rw [List.take_length] at hcu hl2; refine triL_freeze (cs := ess.flatten) (by repeat (first | exact Pk.here | apply Pk.there)) (fun G4 hle4 hsl4 hno4 => ?_); have hstt4 := hstt.mono hle4; have hslT : SlE G4 pm ts.length cm 2 ess := (by rw [hlt]; exact SlE.of hsl4 (by rw [hstt4.len, hlt]) hstt4.all (fun e he => (hstt4.each e he).2)); have hW := l4Want_fn k nm num (.mk tk tks) (.mk fk fks) lb ks ts mt G4 _ _ pm cm ess (by rw [hlt]; exact har) (hr0.mono hle4) hslT hstt4 hat (hmr.mono hle4) hma; rw [hlt] at hW; refine seq_imm rfl hW rfl rfl (fun v G5 hle5 hh => ?_); obtain ⟨pw, cw, esw, ws, rfl, hlw, hsw, hstw, haw⟩ := hh; have hle45 := hle4.trans hle5; replace hty1 := hty1.mono hle45; replace hfr1 := hfr1.mono hle45; replace hmr := hmr.mono hle45; replace hst := hst.mono hle45; replace hslT := hslT.mono hle5; replace hstt := hstt.mono hle45; rcases Nat.eq_zero_or_pos ks.length with h0 | h0)
     ·refine sQ (qA rfl) rfl ?_
      refine sD ?_
      refine nS ?_
      refine tS ?_
      refine tS ?_
      refine tR ?_
      refine sQ (qA rfl) rfl ?_
      refine sD ?_
      refine nS ?_
      refine tri_block ?_
      (have h0' : ks.length = 0 := h0; refine tri_loopN (fun (_ : Nat) => ⟨[(18, .int .i64 0), (17, .slice pw ks.length cw), (12, .slice pm ks.length cm), (2, .int .i64 l), (4, .pointer (some ⟨b3, 0, none⟩)), (6, .pointer (some ⟨b4, 0, none⟩)), (7, .pointer (some ⟨b5, 0, none⟩)), (9, .pointer (some ⟨b17, 0, none⟩)), (11, .pointer (some ⟨b26, 0, none⟩))], [.blk b26 [.int .i64 k, .string nm, .int .i64 num, .int .i64 tk, .slice q1 tks.length c1, .int .i64 fk, .slice q2 fks.length c2, .int .i64 lb, .slice pn ks.length cn], .slc pn cn 28 9 ks.length es'.flatten, .blk b17 [.int .i64 mt.k, .slice p1 mt.ks.length d1], .blk b5 [.int .i64 0, .slice none 0 0], .blk b4 [.int .i64 0, .string ⟨⟨[]⟩⟩, .int .i64 0, .int .i64 0, .slice none 0 0, .int .i64 0, .slice none 0 0, .int .i64 0, .slice none 0 0], .blk b3 [.int .i64 k, .string nm, .int .i64 num, .int .i64 tk, .slice pt tks.length ct, .int .i64 fk, .slice pf fks.length cf, .int .i64 lb, .slice q ks.length cq]], G5⟩) (fun _ => True) (fun i => i) 0 ?_ ?_ ?_)
      ·exact sMk
      ·trivial
      ·(rintro (i0 : Nat) _)
       refine tS ?_
       refine tS ?_
       refine tR ?_
       refine sQ (qM rfl) rfl ?_
       refine sQ (qM rfl) rfl ?_
       refine sQ (pLn rfl rfl) rfl ?_
       refine sP (pure_lss_f rfl rfl (by omega)) rfl rfl ?_
       refine sD ?_
       refine nS ?_
       refine cF rfl ?_
       refine tri_exit ?_
       refine ext_seq ?_
       refine ext_loopN ?_
       refine ext_block_eq ?_
       refine nS ?_
       refine tS ?_
       refine tS ?_
       refine tR ?_
       refine sQ (qF0 rfl) rfl ?_
       refine sL (lBs rfl rfl) rfl rfl ?_
       refine sP (pure_eql_f rfl rfl (by omega)) rfl rfl ?_
       refine sD ?_
       refine nS ?_
       refine cF rfl ?_
       refine tK ?_
       refine nS ?_
       refine tS ?_
       refine tri_draw mixed rfl ?_
       refine any_load (i := 0) (l' := [tt,ff,ff,ff,ff,ff]) rfl npI (lBa rfl rfl) rfl (by kernel_rfl) rfl rfl ?_
       refine aL 1 rfl (lBa rfl rfl) rfl ?_
       refine aP 2 rfl (qM rfl) rfl ?_
       refine aO' 3 ?_
       refine one_storeM rfl rfl rfl rfl rfl rfl rfl rfl (by repeat first | exact Sw.here | apply Sw.there) (by rfl) (by repeat (first | exact HmOk.nil | apply HmOk.dep (by decide +kernel) | apply HmOk.blk (by decide +kernel) (by repeat (first | exact Pk.here | apply Pk.there)) (by repeat first | exact mH | apply mT))) ?_
       refine aO' 4 ?_
       refine one_storeM rfl rfl rfl rfl rfl rfl rfl rfl (by repeat first | exact Sw.here | apply Sw.there) (by rfl) (by repeat (first | exact HmOk.nil | apply HmOk.dep (by decide +kernel) | apply HmOk.blk (by decide +kernel) (by repeat (first | exact Pk.here | apply Pk.there)) (by repeat first | exact mH | apply mT))) ?_
       refine aP 5 rfl (qA rfl) rfl ?_
       refine aD' ?_
       refine nS ?_
       (refine ret_freeze (cs := es'.flatten) (by repeat (first | exact Pk.here | apply Pk.there)) (fun G8 hle8 hsl8 hno8 => ?_); have hst8 := hst.mono hle8)
       refine tT ?_
       refine rF3 (rC rfl (lBa rfl rfl)) (rC rfl (lBa rfl rfl)) (rT rfl) ?_
       (have hst8q := hst8; refine ⟨rfl, .mk k nm num (.mk tk tks) (.mk fk fks) lb us, _, mt, _, l, rfl, by rw [← hlu]; exact RTm.of9 hk hnum hlb (hty1.mono hle8) (hfr1.mono hle8) (by rw [hlu]; exact SlE.of hsl8 (by rw [hst8.len, hlu]) hst8.all (fun e he => by obtain ⟨q, hq⟩ := List.getElem?_of_mem he; exact (hst8.inv hq tm0).2.one)) hst8, by rw [Tm.small]; exact ⟨hnm, htsm, hfsm, by omega, hus⟩, by rw [tmCount]; omega, hmr.mono hle8, hma, by omega, by omega, by omega⟩)
     ·(refine triL_open (cs := es'.flatten) (by repeat (first | exact Pk.here | apply Pk.there)) h0 (fun bc C hpe hnc hcm => ?_); subst hpe; refine sQ (qA rfl) rfl ?_)
      refine sD ?_
      refine nS ?_
      refine tS ?_
      refine tS ?_
      refine tR ?_
      refine sQ (qA rfl) rfl ?_
      refine sD ?_
      refine nS ?_
      refine tri_block ?_
      (refine tri_loopN (fun (x : Nat × List Tm × List (List Value) × Int × IM) => ⟨[(18, .int .i64 x.1), (17, .slice pw ks.length cw), (12, .slice pm ks.length cm), (2, .int .i64 x.2.2.2.1), (4, .pointer (some ⟨b3, 0, none⟩)), (6, .pointer (some ⟨b4, 0, none⟩)), (7, .pointer (some ⟨b5, 0, none⟩)), (9, .pointer (some ⟨b17, 0, none⟩)), (11, .pointer (some ⟨b26, 0, none⟩))], [.blk b26 [.int .i64 k, .string nm, .int .i64 num, .int .i64 tk, .slice q1 tks.length c1, .int .i64 fk, .slice q2 fks.length c2, .int .i64 lb, .slice (some ⟨bc, 0, none⟩) ks.length cn], .blk bc (x.2.2.1.flatten ++ C), .blk b17 [.int .i64 mt.k, .slice p1 mt.ks.length d1], .blk b5 [.int .i64 0, .slice none 0 0], .blk b4 [.int .i64 0, .string ⟨⟨[]⟩⟩, .int .i64 0, .int .i64 0, .slice none 0 0, .int .i64 0, .slice none 0 0, .int .i64 0, .slice none 0 0], .blk b3 [.int .i64 k, .string nm, .int .i64 num, .int .i64 tk, .slice pt tks.length ct, .int .i64 fk, .slice pf fks.length cf, .int .i64 lb, .slice q ks.length cq]], x.2.2.2.2⟩) (fun x => x.1 ≤ ks.length ∧ IMle G5 x.2.2.2.2 ∧ x.2.1.length = ks.length ∧ RTmL x.2.2.2.2 x.2.1 x.2.2.1 ∧ Tm.smallL x.2.1 ∧ tmCountL x.2.1 ≤ tmCountL us + x.1 ∧ label ≤ x.2.2.2.1 ∧ x.2.2.2.1 ≤ l + x.1) (fun x => ks.length - x.1) (0, us, es', l, G5) ?_ ?_ ?_)
      ·(simp only [flat_snoc]; exact sMk)
      ·(exact ⟨by simp, IMle.refl _, hlu, hst, hus, Nat.le_refl _, hl1, by dsimp only; omega⟩)
      ·(rintro ⟨i2, us2, es2, l2, G6⟩ ⟨hi2, hle6, hlu2, hst2, hus2, hcu2, hl21, hl22⟩; simp only [] at hi2 hle6 hlu2 hst2 hus2 hcu2 hl21 hl22 ⊢; replace hty1 := hty1.mono hle6; replace hfr1 := hfr1.mono hle6; replace hmr := hmr.mono hle6; replace hslT := hslT.mono hle6; replace hstt := hstt.mono hle6; replace hsw := hsw.mono hle6; replace hstw := hstw.mono hle6; have hle2s := hst2.len; have hall2 := hst2.all)
       refine tS ?_
       refine tS ?_
       refine tR ?_
       refine sQ (qM rfl) rfl ?_
       refine sQ (qM rfl) rfl ?_
       refine sQ (pLn rfl rfl) rfl ?_
       refine sB (pure_lss rfl rfl) rfl rfl (fun h242 => ?_) (fun h242 => ?_)
       ·refine sD ?_
        refine nS ?_
        refine qT rfl ?_
        refine tK ?_
        refine nS ?_
        refine tS ?_
        refine tri_block ?_
        (have hi3 : i2 < ks.length := (by omega); obtain ⟨bt, ot, qt, dt, hpt, hatt, hrtt, hgt⟩ := hslT.kidTy hstt (i := i2) (by omega) (by omega); obtain ⟨bw, ow, qw, dw, hpw, hatw, hrtw, hgw⟩ := (show SlE G6 pw ws.length cw 2 esw from by rw [hlw]; exact hsw).kidTy hstw (i := i2) (by omega) (by omega); cases hpt; cases hpw; obtain ⟨hE1, hE2⟩ := hst2.at2 (i := i2) (by omega) (by omega); have hE3 := hE2.len; refine tri_draw mixed rfl ?_)
        refine any_pure (i := 0) (l' := [tt,ff,ff,ff,ff,ff,ff,ff,ff,ff,ff,ff,ff,ff,ff,ff,ff,ff,ff,ff,ff,ff,ff,ff]) rfl npI (qF0 rfl) rfl (by kernel_rfl) rfl rfl ?_
        refine aL 1 rfl (lBs rfl rfl) rfl ?_
        refine aP 2 rfl (qM rfl) rfl ?_
        refine aP 3 rfl (qF0 rfl) rfl ?_
        refine aL 4 rfl (lBs rfl rfl) rfl ?_
        refine aP 5 rfl (qM rfl) rfl ?_
        refine aP 6 rfl (pIN rfl rfl rfl (by omega)) rfl ?_
        refine aL 7 rfl (load_a rfl rfl (at_elem (es := es2) (by repeat first | exact mH | apply mT) (by omega) hall2) hE3) rfl ?_
        refine aP 8 rfl (qM rfl) rfl ?_
        refine aP 9 rfl (qM rfl) rfl ?_
        refine aP 10 rfl (pIN rfl rfl rfl (by omega)) rfl ?_
        refine aL 11 rfl (load_a rfl rfl (hatt _) rfl) rfl ?_
        refine aP 12 rfl (qM rfl) rfl ?_
        refine aP 13 rfl (qM rfl) rfl ?_
        refine aP 14 rfl (pIN rfl rfl rfl (by omega)) rfl ?_
        refine aL 15 rfl (load_a rfl rfl (hatw _) rfl) rfl ?_
        refine aP 16 rfl (qM rfl) rfl ?_
        refine aO' 17 ?_
        (refine one_imm rfl rfl (l4Cast_fn us2[i2] ts[i2] ws[i2] l2 _ _ _ _ (by omega) hE2 hrtt hrtw (hat _ (List.getElem_mem (by omega))) (haw _ (List.getElem_mem (by omega)))) rfl rfl rfl (fun v G7 hle7 hh => ?_); obtain ⟨u, uc, l3, rfl, hru, hu1, hu2, hl31, hl32⟩ := hh; have hlu9 := hru.len; have hou9 := hru.one)
        refine aP 18 rfl (qM rfl) rfl ?_
        refine aP 19 rfl (pX rfl rfl) rfl ?_
        refine aP 21 rfl (pIN rfl rfl rfl (by omega)) rfl ?_
        refine aP 20 rfl (pX rfl rfl) rfl ?_
        refine aO' 22 ?_
        refine one_store rfl rfl rfl rfl hlu9 hou9 rfl rfl (by kernel_rfl) (by repeat first | exact Sw.here | apply Sw.there) (by exact upd_set (by omega) hall2 hlu9) ?_
        refine aP 23 rfl (qA rfl) rfl ?_
        refine aD' ?_
        refine nrm_block ?_
        refine nS ?_
        refine tR ?_
        refine sQ (qM rfl) rfl ?_
        refine sP (pure_add rfl rfl (by omega) (by omega)) rfl rfl ?_
        refine sQ (qA rfl) rfl ?_
        refine sD ?_
        (have hset := tmCountL_set us2 i2 u (by omega); refine nrm_loopN (i2 + 1, us2.set i2 u, es2.set i2 uc, l3, G7) ?_ ?_ ?_)
        ·(simp only [flat_snoc]; exact sMk)
        ·(dsimp only; exact ⟨by omega, hle6.trans hle7, by simp [hlu2], RTmL.set (hst2.mono hle7) hru, smallL_set hus2 (hu1 (Tm.smallL_mem hus2 _ (List.getElem_mem (by omega)))), by omega, by omega, by omega⟩)
        ·(show ks.length - (i2 + 1) < ks.length - i2; omega)
       ·refine sD ?_
        refine nS ?_
        refine cF rfl ?_
        refine tri_exit ?_
        refine ext_seq ?_
        refine ext_loopN ?_
        refine ext_block_eq ?_
        refine nS ?_
        refine tS ?_
        refine tS ?_
        refine tR ?_
        refine sQ (qF0 rfl) rfl ?_
        refine sL (lBs rfl rfl) rfl rfl ?_
        refine sB (qE rfl rfl) rfl rfl (fun h302 => ?_) (fun h302 => ?_)
        ·refine sD ?_
         refine nS ?_
         refine qT rfl ?_
         refine tS ?_
         (have hq13 : k = 13 := (by assumption); have hl13 := hk13 hq13; obtain ⟨hE1, hE2⟩ := hst2.at2 (i := 0) (by omega) (by omega); have hE3 := hE2.len; have hE4 := hE2.one; have hEc := tmCountL_get (ts := us2) (i := 0) (by omega); refine tri_draw mixed rfl ?_)
         refine any_pure (i := 0) (l' := [tt,ff,ff,ff,ff,ff,ff,ff,ff]) rfl npI (qF0 rfl) rfl (by kernel_rfl) rfl rfl ?_
         refine aL 1 rfl (lBs rfl rfl) rfl ?_
         refine aP 2 rfl (pIN rfl rfl rfl (by omega)) rfl ?_
         refine aL 3 rfl (load_a rfl rfl (at_elem (es := es2) (by repeat first | exact mH | apply mT) (by omega) hall2) hE3) rfl ?_
         refine aL 4 rfl (lBa rfl rfl) rfl ?_
         refine aP 5 rfl (qM rfl) rfl ?_
         refine aO' 6 ?_
         refine one_storeM rfl rfl rfl rfl hE3 hE4 rfl rfl (by repeat first | exact Sw.here | apply Sw.there) (by exact upd_all hE3.symm) (by repeat (first | exact HmOk.nil | apply HmOk.dep (by decide +kernel) | apply HmOk.blk (by decide +kernel) (by repeat (first | exact Pk.here | apply Pk.there)) (by repeat first | exact mH | apply mT))) ?_
         refine aO' 7 ?_
         refine one_storeM rfl rfl rfl rfl rfl rfl rfl rfl (by repeat first | exact Sw.here | apply Sw.there) (by rfl) (by repeat (first | exact HmOk.nil | apply HmOk.dep (by decide +kernel) | apply HmOk.blk (by decide +kernel) (by repeat (first | exact Pk.here | apply Pk.there)) (by repeat first | exact mH | apply mT))) ?_
         refine aP 8 rfl (qA rfl) rfl ?_
         refine aD' ?_
         refine nS ?_
         (refine tri_freezes (bs := [(bc, es2.flatten ++ C)]) (Pk.perm (by repeat (first | exact Pk.here | apply Pk.there))) (fun hn9 hd9 hle9 => ?_))
         refine tT ?_
         refine rS ?_
         refine rF3 (rC rfl (load_a rfl rfl (at_blk_all (by repeat first | exact mH | apply mT)) hE3)) (rC rfl (lBa rfl rfl)) (rT rfl) ?_
         (exact ⟨rfl, us2[0], _, mt, _, l2, rfl, hE2.mono hle9, Tm.smallL_mem hus2 _ (List.getElem_mem _), by omega, hmr.mono hle9, hma, by omega, by omega, by omega⟩)
        ·refine sD ?_
         refine nS ?_
         refine cF rfl ?_
         refine tK ?_
         refine nS ?_
         refine tS ?_
         refine tri_draw mixed rfl ?_
         refine any_load (i := 0) (l' := [tt,ff,ff,ff,ff,ff]) rfl npI (lBa rfl rfl) rfl (by kernel_rfl) rfl rfl ?_
         refine aL 1 rfl (lBa rfl rfl) rfl ?_
         refine aP 2 rfl (qM rfl) rfl ?_
         refine aO' 3 ?_
         refine one_storeM rfl rfl rfl rfl rfl rfl rfl rfl (by repeat first | exact Sw.here | apply Sw.there) (by rfl) (by repeat (first | exact HmOk.nil | apply HmOk.dep (by decide +kernel) | apply HmOk.blk (by decide +kernel) (by repeat (first | exact Pk.here | apply Pk.there)) (by repeat first | exact mH | apply mT))) ?_
         refine aO' 4 ?_
         refine one_storeM rfl rfl rfl rfl rfl rfl rfl rfl (by repeat first | exact Sw.here | apply Sw.there) (by rfl) (by repeat (first | exact HmOk.nil | apply HmOk.dep (by decide +kernel) | apply HmOk.blk (by decide +kernel) (by repeat (first | exact Pk.here | apply Pk.there)) (by repeat first | exact mH | apply mT))) ?_
         refine aP 5 rfl (qA rfl) rfl ?_
         refine aD' ?_
         refine nS ?_
         (refine tri_freezes (bs := [(bc, es2.flatten ++ C)]) (Pk.perm (by repeat (first | exact Pk.here | apply Pk.there))) (fun hn9 hd9 hle9 => ?_))
         refine tT ?_
         refine rF3 (rC rfl (lBa rfl rfl)) (rC rfl (lBa rfl rfl)) (rT rfl) ?_
         (have hst9 := hst2.mono hle9; refine ⟨rfl, .mk k nm num (.mk tk tks) (.mk fk fks) lb us2, _, mt, _, l2, rfl, by rw [← hlu2]; exact RTm.of9 hk hnum hlb (hty1.mono hle9) (hfr1.mono hle9) (SlE.of (Sl.of_blk (A := []) (by rw [flat_len hst9.all, hst9.len]) (by omega) hcm (Wi.in hn9 List.mem_cons_self)) hst9.len hst9.all (fun e he => by obtain ⟨q, hq⟩ := List.getElem?_of_mem he; exact (hst9.inv hq tm0).2.one)) hst9, by rw [Tm.small]; exact ⟨hnm, htsm, hfsm, by omega, hus2⟩, by rw [tmCount]; omega, hmr.mono hle9, hma, by omega, by omega, by omega⟩)
theorem nameOk_size {nm : ByteArray} (h : nameOk nm = true) : nm.size = 1 := by
 unfold nameOk at h
 simp at h
 omega
theorem node_name {k : Int} {nm : ByteArray} {num : Int} {ty fr : Ty} {lb : Int} {n : Nat} (h : tmNode k nm num ty fr lb n = true) : nm.size ≤ 1 := by
 obtain ⟨_, h2, h3, _⟩ := tmNode_iff.1 h
 by_cases hk : k = 1 ∨ k = 5
 ·rw [nameOk_size (h2 hk)]; omega
 ·rw [h3 hk]; decide
def mGround (t : Ty) : Ty := if t.k = 4 ∨ t.k = 5 then .mk t.k [tyAny, tyAny] else .mk t.k []
def isGrd (t : Ty) : Bool := decide (t.k ≠ 1) && tSame t (mGround t)
/-- A cast between two function types or two pair types. -/
def prx (t : Tm) : Bool := decide (t.k = 14 ∧ t.fr.k = t.ty.k ∧ (t.ty.k = 4 ∨ t.ty.k = 5))
/-- A cast from a ground type to the unknown one. -/
def inj (t : Tm) : Bool := decide (t.k = 14 ∧ t.ty.k = 1) && isGrd t.fr
mutual
def mVal : Tm → Bool
 | .mk k nm num ty fr lb ks => if k = 10 ∨ (k = 14 ∧ fr.k = ty.k ∧ (ty.k = 4 ∨ ty.k = 5)) ∨ (k = 14 ∧ ty.k = 1 ∧ isGrd fr = true) then mValL ks else decide (k = 2 ∨ k = 3 ∨ k = 4 ∨ k = 5)
def mValL : List Tm → Bool
 | [] => true
 | t :: ts => mVal t && mValL ts
end
mutual
def mSubst (x : ByteArray) (v : Tm) : Tm → Tm
 | .mk k nm num ty fr lb ks => if k = 1 ∧ nm = x then v else if k = 5 ∧ nm = x then .mk k nm num ty fr lb ks else .mk k nm num ty fr lb (mSubstL x v ks)
def mSubstL (x : ByteArray) (v : Tm) : List Tm → List Tm
 | [] => []
 | t :: ts => mSubst x v t :: mSubstL x v ts
end
theorem mSubstL_eq (x : ByteArray) (v : Tm) : ∀ ks, mSubstL x v ks = ks.map (mSubst x v)
 | [] => rfl
 | t :: ts => by rw [mSubstL, mSubstL_eq x v ts, List.map_cons]
def mCst (e : Tm) (fr to : Ty) (lb : Int) : Tm := .mk 14 ⟨#[]⟩ 0 to fr lb [e]
def mNod (k : Int) (ks : List Tm) : Tm := .mk k ⟨#[]⟩ 0 ty0 ty0 0 ks
def mNum (n : Int) : Tm := .mk 2 ⟨#[]⟩ n ty0 ty0 0 []
def mTru (b : Prop) [Decidable b] : Tm := mNod (if b then 3 else 4) []
abbrev Stp := Tm × Int × Int
def stuck : Stp := (tm0, 3, 0)
def kd (ks : List Tm) (i : Nat) : Tm := ks.getD i tm0
def kt (ks : List Ty) (i : Nat) : Ty := ks.getD i ty0
/-- The step of a node that is no value, whose operands are. -/
def mRed (k : Int) (ty fr : Ty) (lb : Int) (ks : List Tm) : Stp :=
 if k = 6 then
  (if (kd ks 0).k = 5 then (mSubst (kd ks 0).nm (kd ks 1) (kd (kd ks 0).ks 0), 1, 0)
   else if prx (kd ks 0) = true ∧ (kd ks 0).ty.k = 4 then (mCst (mNod 6 [kd (kd ks 0).ks 0, mCst (kd ks 1) (kt (kd ks 0).ty.ks 0) (kt (kd ks 0).fr.ks 0) (-(kd ks 0).lb)]) (kt (kd ks 0).fr.ks 1) (kt (kd ks 0).ty.ks 1) (kd ks 0).lb, 1, 0)
   else stuck)
 else if k = 7 ∨ k = 8 then
  (if (kd ks 0).k = 2 ∧ (kd ks 1).k = 2 then (if k = 7 then mNum (((kd ks 0).num + (kd ks 1).num) % 1000) else mTru ((kd ks 0).num < (kd ks 1).num), 1, 0) else stuck)
 else if k = 9 then (if (kd ks 0).k = 3 then (kd ks 1, 1, 0) else if (kd ks 0).k = 4 then (kd ks 2, 1, 0) else stuck)
 else if k = 11 ∨ k = 12 then
  (if (kd ks 0).k = 10 then (kd (kd ks 0).ks (k - 11).toNat, 1, 0)
   else if prx (kd ks 0) = true ∧ (kd ks 0).ty.k = 5 then (mCst (mNod k [kd (kd ks 0).ks 0]) (kt (kd ks 0).fr.ks (k - 11).toNat) (kt (kd ks 0).ty.ks (k - 11).toNat) (kd ks 0).lb, 1, 0)
   else stuck)
 else if k = 14 then
  (if fr.k = ty.k then (kd ks 0, 1, 0)
   else if ty.k = 1 then (mCst (mCst (kd ks 0) fr (mGround fr) lb) (mGround fr) ty lb, 1, 0)
   else if isGrd ty = false then (mCst (mCst (kd ks 0) fr (mGround ty) lb) (mGround ty) ty lb, 1, 0)
   else if inj (kd ks 0) = false then stuck
   else if (kd ks 0).fr.k = ty.k then (kd (kd ks 0).ks 0, 1, 0)
   else (tm0, 2, lb))
 else stuck
mutual
/-- A step of a valid term that is no value. -/
def mStp : Tm → Stp
 | .mk k nm num ty fr lb ks => match mStpL (if k = 9 then 1 else ks.length) ks with
  | some (ks', c, l) => if c = 1 then (.mk k nm num ty fr lb ks', 1, 0) else (tm0, c, l)
  | none => mRed k ty fr lb ks
/-- The step of the first operand that is no value, of so many that count. -/
def mStpL : Nat → List Tm → Option (List Tm × Int × Int)
 | _, [] => none
 | n, t :: ts => match n with
  | 0 => none
  | n + 1 => if mVal t = true then (match mStpL n ts with
    | some (us, c, l) => some (t :: us, c, l)
    | none => none)
   else some ((mStp t).1 :: ts, (mStp t).2.1, (mStp t).2.2)
end
def mStepCast (e : Tm) : Stp :=
 if castValid e = false then stuck else if mVal e = true then (e, 0, 0)
 else if (mStp e).2.1 ≠ 1 then (tm0, (mStp e).2.1, (mStp e).2.2)
 else if castValid (mStp e).1 = false then (tm0, 4, 0) else ((mStp e).1, 1, 0)
/-- Steps, at most so many: what comes out, a code, a label, how many there were. -/
def mEv : Nat → Tm → Tm × Int × Int × Nat
 | 0, e => if (mStepCast e).2.1 = 1 then (tm0, 5, 0, 0) else ((mStepCast e).1, (mStepCast e).2.1, (mStepCast e).2.2, 0)
 | n + 1, e => if (mStepCast e).2.1 = 1 then ((mEv n (mStepCast e).1).1, (mEv n (mStepCast e).1).2.1, (mEv n (mStepCast e).1).2.2.1, (mEv n (mStepCast e).1).2.2.2 + 1)
  else ((mStepCast e).1, (mStepCast e).2.1, (mStepCast e).2.2, 0)
def mEvalCast (e : Tm) (fuel : Int) : Stp := if 0 ≤ fuel ∧ fuel ≤ 300 then ((mEv fuel.toNat e).1, (mEv fuel.toNat e).2.1, (mEv fuel.toNat e).2.2.1) else stuck
def mCountSteps (e : Tm) (fuel : Int) : Int := if 0 ≤ fuel ∧ fuel ≤ 300 then ((mEv fuel.toNat e).2.2.2 : Int) else 0
/- What is true of a node of a valid term with casts. -/
structure CvN (k : Int) (nm : ByteArray) (num : Int) (ty fr : Ty) (lb : Int) (ks : List Tm) : Prop where
 ops : tmOps k = ks.length
 ne : k ≠ 13
 nm1 : nm.size ≤ 1
 num0 : 0 ≤ num ∧ num ≤ 999
 tyA : tAr ty
 frA : tAr fr
 lbB : -99 ≤ lb ∧ lb ≤ 99
 c14 : k = 14 → tCons fr ty = true ∧ tValid ty = true ∧ tValid fr = true
 ty5 : ¬(k = 5 ∨ k = 14) → ty = ty0
 fr14 : k ≠ 14 → fr = ty0 ∧ lb = 0
/-- A part of a valid term with casts. -/
def cv (t : Tm) : Prop := ∃ d, sShape 40 13 t d = true
theorem withinB_iff {n lo hi : Int} : withinB n lo hi = true ↔ lo ≤ n ∧ n ≤ hi := by unfold withinB; rw [decide_eq_true_eq]
theorem cv.node {k : Int} {nm : ByteArray} {num : Int} {ty fr : Ty} {lb : Int} {ks : List Tm} (h : cv (.mk k nm num ty fr lb ks)) : CvN k nm num ty fr lb ks ∧ ∀ t ∈ ks, cv t := by
 obtain ⟨d, h⟩ := h
 obtain ⟨_, h2, h3, h4⟩ := sShape_go2 h
 obtain ⟨n1, n2, n3, n4, n5, n6, n7, n8, n9⟩ := tmNode_iff.1 h3
 refine ⟨⟨n1, h2, node_name h3, ?_, (node_ann h3).1, ?_, ?_, ?_, ?_, ?_⟩, fun t ht => ?_⟩
 ·by_cases hk : k = 2
  ·exact withinB_iff.1 (n4 hk)
  ·have := withinB_iff.1 (n5 hk); omega
 ·by_cases hk : k = 14
  ·have := (n8 hk).1
   simp only [tConsistent, Bool.and_eq_true] at this
   exact (tValid_ann this.1.1).1
  ·rw [tNone_eq (n9 hk).1]; exact tAr_leaf (by decide) (by decide)
 ·by_cases hk : k = 14
  ·have := (n8 hk).2
   simp only [labelOk, Bool.or_eq_true, withinB_iff] at this
   omega
  ·have := (n9 hk).2; omega
 ·intro hk
  have := (n8 hk).1
  simp only [tConsistent, Bool.and_eq_true] at this
  exact ⟨this.2, this.1.2, this.1.1⟩
 ·intro hk
  exact tNone_eq (n7 (by omega))
 ·intro hk
  exact ⟨tNone_eq (n9 hk).1, (n9 hk).2⟩
 ·obtain ⟨i, hi, rfl⟩ := List.mem_iff_getElem.1 ht
  exact ⟨_, (sShapeL_iff 40 13 ks _).1 h4 i hi⟩
theorem cv_of {t : Tm} (h : castValid t = true) : cv t ∧ tmCount t ≤ 200 := by
 obtain ⟨h1, h2⟩ := (castValid_iff t).1 h
 exact ⟨⟨1, h1⟩, h2⟩
mutual
theorem cv_small : ∀ (t : Tm), cv t → t.small
 | .mk k nm num ty fr lb ks, h => by
  obtain ⟨hn, hk⟩ := h.node
  rw [Tm.small]
  refine ⟨by have := hn.nm1; omega, hn.tyA.small, hn.frA.small, ?_, cv_smallL ks hk⟩
  have := tmOps_le k
  have := hn.ops
  omega
theorem cv_smallL : ∀ (ts : List Tm), (∀ t ∈ ts, cv t) → Tm.smallL ts
 | [], _ => by rw [Tm.smallL]; trivial
 | t :: ts, h => by
  rw [Tm.smallL]
  exact ⟨cv_small t (h t List.mem_cons_self), cv_smallL ts fun u hu => h u (List.mem_cons_of_mem _ hu)⟩
end
/- What a step gives is small, too. -/
theorem tmCount_mk (k : Int) (nm : ByteArray) (num : Int) (ty fr : Ty) (lb : Int) (ks : List Tm) : tmCount (.mk k nm num ty fr lb ks) = tmCountL ks + 1 := by rw [tmCount]
theorem small_mk {k : Int} {nm : ByteArray} {num : Int} {ty fr : Ty} {lb : Int} {ks : List Tm} : (Tm.mk k nm num ty fr lb ks).small ↔ nm.size ≤ 4294967296 ∧ ty.small ∧ fr.small ∧ ks.length ≤ 4294967296 ∧ Tm.smallL ks := by rw [Tm.small]
theorem tm0_sm : tm0.small := by simp [tm0, Tm.small, Ty.small, Ty.smallL, Tm.smallL, ByteArray.size]
theorem ty0_sm : ty0.small := by simp [ty0, Ty.small, Ty.smallL]
mutual
theorem subst_small {x : ByteArray} {v : Tm} (hv : v.small) : ∀ (t : Tm), t.small → (mSubst x v t).small ∧ tmCount (mSubst x v t) ≤ tmCount t * tmCount v
 | .mk k nm num ty fr lb ks, h => by
  obtain ⟨h1, h2, h3, h4, h5⟩ := small_mk.1 h
  obtain ⟨s1, s2⟩ := subst_smallL hv ks h5
  have hp : 1 ≤ tmCount v := by cases v; rw [tmCount]; omega
  rw [mSubst]
  split
  ·refine ⟨hv, ?_⟩
   rw [tmCount_mk]
   exact Nat.le_mul_of_pos_left _ (by omega)
  ·split
   ·exact ⟨h, Nat.le_mul_of_pos_right _ hp⟩
   ·refine ⟨small_mk.2 ⟨h1, h2, h3, by rw [mSubstL_eq, List.length_map]; exact h4, s1⟩, ?_⟩
    rw [tmCount_mk, tmCount_mk, Nat.add_mul]
    omega
theorem subst_smallL {x : ByteArray} {v : Tm} (hv : v.small) : ∀ (ts : List Tm), Tm.smallL ts → Tm.smallL (mSubstL x v ts) ∧ tmCountL (mSubstL x v ts) ≤ tmCountL ts * tmCount v
 | [], _ => by simp [mSubstL, Tm.smallL, tmCountL]
 | t :: ts, h => by
  simp only [Tm.smallL] at h
  obtain ⟨a1, a2⟩ := subst_small hv t h.1
  obtain ⟨b1, b2⟩ := subst_smallL hv ts h.2
  simp only [mSubstL, Tm.smallL, tmCountL, Nat.add_mul]
  exact ⟨⟨a1, b1⟩, by omega⟩
end
theorem kd_small {ks : List Tm} (h : Tm.smallL ks) (i : Nat) : (kd ks i).small := by
 unfold kd
 rw [List.getD_eq_getElem?_getD]
 cases hi : ks[i]? with
 | none => exact tm0_sm
 | some t => exact Tm.smallL_mem h t (List.mem_of_getElem? hi)
theorem kd_count {ks : List Tm} (i : Nat) : tmCount (kd ks i) ≤ tmCountL ks + 1 := by
 unfold kd
 rw [List.getD_eq_getElem?_getD]
 cases hi : ks[i]? with
 | none => simp [tm0, tmCount, tmCountL]
 | some t =>
  have := tmCount_mem (List.mem_of_getElem? hi)
  simp only [Option.getD_some]; omega
theorem small_get {t : Tm} (h : t.small) : t.nm.size ≤ 4294967296 ∧ t.ty.small ∧ t.fr.small ∧ t.ks.length ≤ 4294967296 ∧ Tm.smallL t.ks := by
 cases t; exact small_mk.1 h
theorem kt_small {ks : List Ty} (h : Ty.smallL ks) (i : Nat) : (kt ks i).small := by
 unfold kt
 rw [List.getD_eq_getElem?_getD]
 cases hi : ks[i]? with
 | none => exact ty0_sm
 | some t => exact Ty.smallL_mem h t (List.mem_of_getElem? hi)
theorem ty_small_ks {t : Ty} (h : t.small) : Ty.smallL t.ks := by cases t; simp only [Ty.small] at h; exact h.2
theorem mGround_small (t : Ty) : (mGround t).small := by
 unfold mGround; split <;> simp [tyAny, Ty.small, Ty.smallL]
theorem cst_small {e : Tm} {a b : Ty} {l : Int} (h : e.small) (ha : a.small) (hb : b.small) : (mCst e a b l).small := small_mk.2 ⟨by decide, hb, ha, by simp, by simp [Tm.smallL, h]⟩
theorem cst_count (e : Tm) (a b : Ty) (l : Int) : tmCount (mCst e a b l) = tmCount e + 1 := by rw [mCst, tmCount_mk, tmCountL, tmCountL]
theorem nod_small {k : Int} {ks : List Tm} (h : Tm.smallL ks) (hl : ks.length ≤ 4294967296) : (mNod k ks).small := small_mk.2 ⟨by decide, ty0_sm, ty0_sm, hl, h⟩
theorem nod_count (k : Int) (ks : List Tm) : tmCount (mNod k ks) = tmCountL ks + 1 := by rw [mNod, tmCount_mk]
theorem smallL1 {a : Tm} (h : a.small) : Tm.smallL [a] := by simp [Tm.smallL, h]
theorem smallL2 {a b : Tm} (h : a.small) (h2 : b.small) : Tm.smallL [a, b] := by simp [Tm.smallL, h, h2]
theorem cnt_tm0 : tmCount tm0 = 1 := by simp [tm0, tmCount, tmCountL]
theorem tm_eta (t : Tm) : tmCount t = tmCountL t.ks + 1 := by cases t; rw [tmCount_mk]; rfl
theorem red_small {k : Int} {ty fr : Ty} {lb : Int} {ks : List Tm} (hk : Tm.smallL ks) (hc : tmCountL ks ≤ 199) (ht : ty.small) (hf : fr.small) : (mRed k ty fr lb ks).1.small ∧ tmCount (mRed k ty fr lb ks).1 ≤ 40100 := by
 have a0 := kd_small hk 0
 have a1 := kd_small hk 1
 have a2 := kd_small hk 2
 have n0 := kd_count (ks := ks) 0
 have n1 := kd_count (ks := ks) 1
 have n2 := kd_count (ks := ks) 2
 obtain ⟨_, b2, b3, _, b5⟩ := small_get a0
 have e0 := tm_eta (kd ks 0)
 have m := fun i => kd_count (ks := (kd ks 0).ks) i
 have st : stuck.1.small ∧ tmCount stuck.1 ≤ 40100 := ⟨tm0_sm, by simp [stuck, tm0, tmCount, tmCountL]⟩
 have hty := fun i => kt_small (ty_small_ks b2) i
 have hfr := fun i => kt_small (ty_small_ks b3) i
 unfold mRed
 split
 ·split
  ·obtain ⟨s1, s2⟩ := subst_small (x := (kd ks 0).nm) a1 (kd (kd ks 0).ks 0) (kd_small b5 0)
   refine ⟨s1, Nat.le_trans s2 ?_⟩
   have : tmCount (kd (kd ks 0).ks 0) * tmCount (kd ks 1) ≤ 200 * 200 := Nat.mul_le_mul (by have := m 0; omega) (by omega)
   omega
  ·split
   ·refine ⟨cst_small (nod_small (smallL2 (kd_small b5 0) (cst_small a1 (hty 0) (hfr 0))) (by simp)) (hfr 1) (hty 1), ?_⟩
    have := m 0
    show tmCount (mCst _ _ _ _) ≤ 40100
    rw [cst_count, nod_count, tmCountL, tmCountL, tmCountL, cst_count]
    omega
   ·exact st
 ·split
  ·split
   ·split
    ·exact ⟨small_mk.2 ⟨by decide, ty0_sm, ty0_sm, by simp, by simp [Tm.smallL]⟩, by simp [mNum, tmCount, tmCountL]⟩
    ·exact ⟨nod_small (by simp [Tm.smallL]) (by simp), by simp [mTru, nod_count, tmCountL]⟩
   ·exact st
  ·split
   ·split
    ·exact ⟨a1, by show tmCount (kd ks 1) ≤ _; omega⟩
    ·split
     ·exact ⟨a2, by show tmCount (kd ks 2) ≤ _; omega⟩
     ·exact st
   ·split
    ·split
     ·exact ⟨kd_small b5 _, by have := m (k - 11).toNat; show tmCount (kd _ _) ≤ _; omega⟩
     ·split
      ·refine ⟨cst_small (nod_small (smallL1 (kd_small b5 0)) (by simp)) (hfr _) (hty _), ?_⟩
       have := m 0
       show tmCount (mCst _ _ _ _) ≤ 40100
       rw [cst_count, nod_count, tmCountL, tmCountL]
       omega
      ·exact st
    ·split
     ·split
      ·exact ⟨a0, by show tmCount (kd ks 0) ≤ _; omega⟩
      ·split
       ·refine ⟨cst_small (cst_small a0 hf (mGround_small fr)) (mGround_small fr) ht, ?_⟩
        show tmCount (mCst _ _ _ _) ≤ 40100
        rw [cst_count, cst_count]; omega
       ·split
        ·refine ⟨cst_small (cst_small a0 hf (mGround_small ty)) (mGround_small ty) ht, ?_⟩
         show tmCount (mCst _ _ _ _) ≤ 40100
         rw [cst_count, cst_count]; omega
        ·split
         ·exact st
         ·split
          ·exact ⟨kd_small b5 0, by have := m 0; show tmCount (kd _ _) ≤ _; omega⟩
          ·exact ⟨tm0_sm, by simp [tm0, tmCount, tmCountL]⟩
     ·exact st
theorem stp_smallL (ks : List Tm) (ih : ∀ t ∈ ks, t.small → tmCount t ≤ 200 → (mStp t).1.small ∧ tmCount (mStp t).1 ≤ tmCount t + 40100) : ∀ (n : Nat), Tm.smallL ks → tmCountL ks ≤ 199 → ∀ us c l, mStpL n ks = some (us, c, l) → Tm.smallL us ∧ us.length = ks.length ∧ tmCountL us ≤ tmCountL ks + 40100 := by
 induction ks with
 | nil => intro n _ _ us c l h; simp [mStpL] at h
 | cons t ts ihl =>
  intro n hs hc us c l h
  simp only [Tm.smallL] at hs
  simp only [tmCountL] at hc ⊢
  cases n with
  | zero => simp [mStpL] at h
  | succ n =>
   rw [mStpL] at h
   split at h
   ·split at h
    ·rename_i us' c' l' hs'
     cases h
     obtain ⟨l1, l2, l3⟩ := ihl (fun u hu => ih u (List.mem_cons_of_mem _ hu)) n hs.2 (by omega) us' c l hs'
     exact ⟨by simp only [Tm.smallL]; exact ⟨hs.1, l1⟩, by simp [l2], by simp only [tmCountL]; omega⟩
    ·cases h
   ·cases h
    obtain ⟨s1, s2⟩ := ih t List.mem_cons_self hs.1 (by omega)
    exact ⟨by simp only [Tm.smallL]; exact ⟨s1, hs.2⟩, by simp, by simp only [tmCountL]; omega⟩
theorem stp_small : ∀ (t : Tm), t.small → tmCount t ≤ 200 → (mStp t).1.small ∧ tmCount (mStp t).1 ≤ tmCount t + 40100 := by
 refine Tm.ind fun k nm num ty fr lb ks ih h hc => ?_
 obtain ⟨h1, h2, h3, h4, h5⟩ := small_mk.1 h
 rw [tmCount_mk] at hc
 have hL := stp_smallL ks ih (if k = 9 then 1 else ks.length) h5 (by omega)
 rw [mStp]
 split
 ·rename_i us c l hs
  obtain ⟨l1, l2, l3⟩ := hL us c l hs
  split
  ·refine ⟨small_mk.2 ⟨h1, h2, h3, by omega, l1⟩, ?_⟩
   show tmCount (.mk k nm num ty fr lb us) ≤ _
   rw [tmCount_mk, tmCount_mk]; omega
  ·exact ⟨tm0_sm, by show tmCount tm0 ≤ _; rw [cnt_tm0]; omega⟩
 ·have := red_small (k := k) (lb := lb) h5 (by omega) h2 h3
  rw [tmCount_mk]
  exact ⟨this.1, by omega⟩
/-- The type u is given back. -/
def RetTy (u : Ty) (G : IM) : IM → Value → List Ent → Prop := Imm fun G' v => ∃ cells, v = .agg ⟨cells⟩ ∧ RTy G' u cells
/-- A type, if there is one. -/
def TyOk (r : Option Ty) (G : IM) : IM → Value → List Ent → Prop := Imm fun G' v => ∃ cells u, v = .tuple ⟨[.agg ⟨cells⟩, .bool r.isSome]⟩ ∧ RTy G' u cells ∧ ∀ t, r = some t → u = t
theorem ty2_mk {G : IM} {k : Int} {a b : Ty} {ca cb : List Value} {p : Option Addr} {c : Nat} (hk : I64 k) (ha : RTy G a ca) (hb : RTy G b cb) (hs : Sl G p 2 c 2 (ca ++ cb)) : RTy G (.mk k [a, b]) [.int .i64 k, .slice p 2 c] := by
 have hL : RTyL G [a, b] [ca, cb] := by simp only [RTyL]; exact ⟨ca, [cb], rfl, ha, cb, [], rfl, hb, rfl⟩
 exact RTyL.ty (ts := [a, b]) (es := [ca, cb]) hL rfl (by simpa using hs) hk
theorem typeSameX_fn : ∀ (t t' : Ty) (G : IM) (cells cells' : List Value), RTy G t cells → RTy G t' cells' → Fn Tryz.prog 13 [.agg ⟨cells⟩, .agg ⟨cells'⟩] [] G (Val (.bool (tSame t t')) G) := by
 refine Ty.ind fun k ks ih t' G cells cells' hr hr' => ?_
 obtain ⟨k', ks'⟩ := t'
 obtain ⟨p, c, es, rfl, hk, hsl, hkl⟩ := hr.open
 obtain ⟨p', c', es', rfl, hk', hsl', hkl'⟩ := hr'.open
 simp only [Ty.k, Ty.ks] at hk hsl hkl hk' hsl' hkl' ⊢
 obtain ⟨A, hA⟩ : ∃ A, tSameL ks ks' = A := ⟨_, rfl⟩
 have hA' : A = true ↔ ks.length = ks'.length ∧ ∀ i, i < ks.length → tSame (ks.getD i ty0) (ks'.getD i ty0) = true := by
  rw [← hA, tSameL_iff]
  constructor
  ·rintro ⟨h1, h2⟩
   refine ⟨h1, fun i hi => ?_⟩
   have := h2 i hi (by omega)
   simpa [List.getD_eq_getElem?_getD, List.getElem?_eq_getElem hi, List.getElem?_eq_getElem (show i < ks'.length by omega)] using this
  ·rintro ⟨h1, h2⟩
   refine ⟨h1, fun i hi hi' => ?_⟩
   have := h2 i hi
   simpa [List.getD_eq_getElem?_getD, List.getElem?_eq_getElem hi, List.getElem?_eq_getElem hi'] using this
 refine fn_enter Tryz.func13 rfl Tryz.ntmps13 Tryz.results13 rfl ?_
 intro w0
 refine tS (tR ?_)
 refine sE (step_box_a rfl rfl) rfl (fun b3 => ?_)
 refine sE (step_box_a rfl rfl) rfl (fun b4 => ?_)
 refine sQ (qA rfl) rfl (sD (nS (tS (tR (sQ (qF0 rfl) rfl (sL (lBs rfl rfl) rfl rfl ?_))))))
 refine sQ (qF0 rfl) rfl (sL (lBs rfl rfl) rfl rfl ?_)
 refine sB (qE rfl rfl) rfl rfl (fun h14 => ?_) (fun h14 => ?_)
 refine sQ (qM rfl) rfl (sQ (qF0 rfl) rfl (sL (lBs rfl rfl) rfl rfl ?_))
 refine sQ (qF0 rfl) rfl (sL (lBs rfl rfl) rfl rfl ?_)
 refine seq_val rfl (equalFunc_Type _ _ _ _ _ _ _ _ _ hsl hsl' _ [] [] [] (fun i => tSame (ks.getD i ty0) (ks'.getD i ty0)) A hA' (fun i e e' he he' => ih _ (hkl.inv he ty0).1 _ _ _ _ (hkl.inv he ty0).2 (hkl'.inv he' ty0).2)) rfl rfl ?_
 refine sQ (pPt rfl rfl) rfl (sQ (qA rfl) rfl (sD (nS (tT (rF1 (rT rfl) ?_)))))
 exact ⟨rfl, by rw [tSame_mk, hA]; first | (rw [decide_eq_true (p := k = k') (by omega)]; rfl) | (rw [decide_eq_false (p := k = k') (by omega)]; rfl), rfl⟩
 refine sQ (qM rfl) rfl (sK rfl rfl (sK rfl rfl (sK rfl rfl (sK rfl rfl (sK rfl rfl (sQ (pPf rfl rfl) rfl ?_))))))
 refine sQ (qA rfl) rfl (sD (nS (tT (rF1 (rT rfl) ?_))))
 exact ⟨rfl, by rw [tSame_mk, hA]; first | (rw [decide_eq_true (p := k = k') (by omega)]; rfl) | (rw [decide_eq_false (p := k = k') (by omega)]; rfl), rfl⟩
theorem both_fn (k : Int) (a b : Ty) (G : IM) (ca cb : List Value) (hk : I64 k) (hra : RTy G a ca) (hrb : RTy G b cb) :
  Fn Tryz.prog 106 [.int .i64 k, .agg ⟨ca⟩, .agg ⟨cb⟩] [] G (RetTy (.mk k [a, b]) G) := by
 obtain ⟨pa, cca, ea, rfl, _⟩ := hra.open
 obtain ⟨pb, ccb, eb, rfl, _⟩ := hrb.open
 refine fn_enter Tryz.func106 rfl Tryz.ntmps106 Tryz.results106 rfl ?_
 intro w0
 refine tS (tR ?_)
 refine sE (step_box_a rfl rfl) rfl (fun b3 => ?_)
 refine sE (step_box_a rfl rfl) rfl (fun b4 => ?_)
 refine sE (step_alloc rfl) rfl (fun b5 => ?_)
 refine sD (nS (tS (tR (sQ (qM rfl) rfl (sL (lBa rfl rfl) rfl rfl ?_)))))
 refine sL (lBa rfl rfl) rfl rfl ?_
 (refine seq_step (step_buildSlice rfl rfl rfl (by omega) (by unfold maxLen; omega) rfl) rfl ?_; rintro _ ⟨b13, rfl⟩)
 refine sQ (pBd rfl rfl) rfl (sS' ?_)
 refine sD (nS ?_)
 (refine ret_freeze (by repeat (first | exact Pk.here | apply Pk.there)) (fun G5 hle5 hsl5 hno5 => ?_))
 refine tT (rF1 (rC rfl (lBa rfl rfl)) ?_)
 exact ⟨rfl, _, rfl, ty2_mk hk (hra.mono hle5) (hrb.mono hle5) hsl5⟩
theorem mMatch_mk (k tk : Int) (ks : List Ty) : mMatch k (.mk tk ks) = if tk = k then some (ks.getD 0 ty0, ks.getD 1 ty0) else if tk = 1 then some (tyAny, tyAny) else none := rfl
/-- The operands of a type as one of a kind, and whether they are. -/
def MatchP (k : Int) (t : Ty) (G : IM) : IM → Value → List Ent → Prop := Imm fun G' v => ∃ a ca b cb, v = .tuple ⟨[.agg ⟨ca⟩, .agg ⟨cb⟩, .bool (mMatch k t).isSome]⟩ ∧ RTy G' a ca ∧ RTy G' b cb ∧ tAr a ∧ tAr b ∧ ∀ p, mMatch k t = some p → p = (a, b)
theorem match_fn (k : Int) (t : Ty) (G : IM) (cells : List Value) (hk : k = 4 ∨ k = 5) (ha : tAr t) (hr : RTy G t cells) :
  Fn Tryz.prog 107 [.agg ⟨cells⟩, .int .i64 k] [] G (MatchP k t G) := by
 obtain ⟨tk, ks⟩ := t
 have ha2 := ha
 rw [tAr] at ha2
 have hkid := ha.kid
 obtain ⟨p, c, es, rfl, htk, hsl, hkl⟩ := hr.open
 simp only [Ty.k, Ty.ks] at htk hsl hkl ⊢
 refine fn_enter Tryz.func107 rfl Tryz.ntmps107 Tryz.results107 rfl ?_
 intro w0
 refine tS (tR ?_)
 refine sE (step_box_a rfl rfl) rfl (fun b3 => ?_)
 refine sE (step_alloc rfl) rfl (fun b4 => ?_)
 refine sE (step_alloc rfl) rfl (fun b5 => ?_)
 refine sQ (qA rfl) rfl (sD (nS (tS (tS (tR (sQ (qF0 rfl) rfl ?_))))))
 refine sL (lBs rfl rfl) rfl rfl ?_
 refine sD (nS (tri_block (tS (tR (sQ (qM rfl) rfl (sB (qE rfl rfl) rfl rfl (fun h20 => ?_) (fun h20 => ?_)))))))
 refine sQ (qA rfl) rfl (sD (nS (qT rfl ?_)))
 refine tS ?_
 (have hlen : ks.length = 2 := ha2.1 (by omega); obtain ⟨b, o, q0, d0, hp0, hat0, hre0, hg0⟩ := hsl.kidTy hkl (i := 0) (by omega) (by omega); obtain ⟨b', o', q1, d1, hp1, hat1, hre1, hg1⟩ := hsl.kidTy hkl (i := 1) (by omega) (by omega); subst hp0; cases hp1; refine tri_draw mixed rfl ?_)
 refine any_pure (i := 0) (l' := [tt,ff,ff,ff,ff,ff,ff,ff,ff,ff,ff]) rfl npI (qF0 rfl) rfl (by kernel_rfl) rfl rfl ?_
 refine aL 1 rfl (lBs rfl rfl) rfl ?_
 refine aP 2 rfl (pIN (j := 0) rfl rfl rfl (by omega)) rfl ?_
 refine aL 3 rfl (load_a rfl rfl (hat0 _) rfl) rfl ?_
 refine aP 4 rfl (qF0 rfl) rfl ?_
 refine aL 5 rfl (lBs rfl rfl) rfl ?_
 refine aP 6 rfl (pIN (j := 1) rfl rfl rfl (by omega)) rfl ?_
 refine aL 7 rfl (load_a rfl rfl (hat1 _) rfl) rfl ?_
 refine aO' 8 ?_
 refine oT' rfl ?_
 refine aO' 9 ?_
 refine oT' rfl ?_
 refine aP 10 rfl (qA rfl) rfl ?_
 refine aD' ?_
 refine nS (tT (rB (rS (rF3 (rC rfl (lBa rfl rfl)) (rC rfl (lBa rfl rfl)) (rT rfl) ?_))))
 (refine ⟨rfl, _, _, _, _, ?_, hre0, hre1, hkid _ (List.getElem_mem (by omega)), hkid _ (List.getElem_mem (by omega)), ?_⟩ <;> rw [mMatch_mk, if_pos (by omega)] <;> first | rfl | (intro p hp; cases hp; simp [hlen]))
 refine sQ (qA rfl) rfl (sD (nS (cF rfl ?_)))
 refine tS (tR (sB (qE rfl rfl) rfl rfl (fun h53 => ?_) (fun h53 => ?_)))
 refine sQ (qA rfl) rfl (sD (nS (qT rfl ?_)))
 refine tS (tR (seq_val rfl ((base_fn _ _)) rfl rfl ?_))
 refine seq_val rfl ((base_fn _ _)) rfl rfl ?_
 refine sS' ?_
 refine sS' ?_
 refine sQ (qA rfl) rfl (sD (nS (tT (rB (rS (rF3 (rC rfl (lBa rfl rfl)) (rC rfl (lBa rfl rfl)) (rT rfl) ?_))))))
 (refine ⟨rfl, _, _, _, _, ?_, tyAny_r _, tyAny_r _, tAr_any, tAr_any, ?_⟩ <;> rw [mMatch_mk, if_neg (by omega), if_pos (by omega)] <;> first | rfl | (intro p hp; cases hp; rfl))
 refine sQ (qA rfl) rfl (sD (nS (cF rfl ?_)))
 refine tK (nrm_block (nS (tS (tR (sQ (pBd rfl rfl) rfl (sQ (pBd rfl rfl) rfl ?_))))))
 refine sS' ?_
 refine sS' ?_
 refine sQ (qA rfl) rfl (sD (nS (tT (rF3 (rC rfl (lBa rfl rfl)) (rC rfl (lBa rfl rfl)) (rT rfl) ?_))))
 (refine ⟨rfl, ty0, _, ty0, _, ?_, tyLeaf_r _ ⟨by omega, by omega⟩, tyLeaf_r _ ⟨by omega, by omega⟩, tAr_leaf (by omega) (by omega), tAr_leaf (by omega) (by omega), ?_⟩ <;> rw [mMatch_mk, if_neg (by omega), if_neg (by omega)] <;> first | rfl | (intro p hp; cases hp))
/-- How a context lies in memory. -/
def RBd2 (G : IM) (b : ByteArray × Ty) (e : List Value) : Prop := ∃ q d, e = [.string b.1, .int .i64 b.2.k, .slice q b.2.ks.length d] ∧ RTy G b.2 [.int .i64 b.2.k, .slice q b.2.ks.length d]
theorem RBd2.mono {G G' : IM} {b : ByteArray × Ty} {e : List Value} (h : RBd2 G b e) (hg : IMle G G') : RBd2 G' b e := by
 obtain ⟨q, d, h1, h2⟩ := h
 exact ⟨q, d, h1, h2.mono hg⟩
def RCx (G : IM) (cx : Cx) (p : Option Addr) (n c : Nat) : Prop := n = cx.length ∧ ∃ es : List (List Value), SlE G p n c 3 es ∧ ∀ (i : Nat) (b : ByteArray × Ty), cx[i]? = some b → ∃ e, es[i]? = some e ∧ RBd2 G b e
theorem RCx.mono {G G' : IM} {cx : Cx} {p : Option Addr} {n c : Nat} (h : RCx G cx p n c) (hg : IMle G G') : RCx G' cx p n c := by
 obtain ⟨h1, es, h2, h3⟩ := h
 refine ⟨h1, es, h2.mono hg, fun i b hb => ?_⟩
 obtain ⟨e, he, hr⟩ := h3 i b hb
 exact ⟨e, he, hr.mono hg⟩
theorem RCx.nil (G : IM) : RCx G [] none 0 0 := ⟨rfl, [], SlE.nil _ _, by simp⟩
theorem RCx.le {G : IM} {cx : Cx} {p : Option Addr} {n c : Nat} (h : RCx G cx p n c) : n ≤ 9223372036854775807 := by
 obtain ⟨h1, es, h2, h3⟩ := h
 exact h2.le
theorem RCx.get {G : IM} {cx : Cx} {p : Option Addr} {n c : Nat} (h : RCx G cx p n c) {i : Nat} (hi : i < n) :
  ∃ b o nm t q d, cx[i]? = some (nm, t) ∧ p = some ⟨b, o, none⟩ ∧ (∀ hp, At hp G b (o + i * 3) [.string nm, .int .i64 t.k, .slice q t.ks.length d]) ∧ RTy G t [.int .i64 t.k, .slice q t.ks.length d] ∧ G b ≠ none := by
 obtain ⟨h1, es, h2, h3⟩ := h
 obtain ⟨e, b, o, he, rfl, hl, _, hat, hgb⟩ := h2.get (i := i) (by omega)
 have hx : cx[i]? = some cx[i] := List.getElem?_eq_getElem (by omega)
 obtain ⟨e', he', q, d, h4, h5⟩ := h3 i _ hx
 rw [he] at he'
 obtain rfl := Option.some.inj he'
 rw [h4] at hat
 exact ⟨b, o, cx[i].1, cx[i].2, q, d, hx, rfl, hat, h5, hgb⟩
theorem lookup_fn (G : IM) (cx : Cx) (p : Option Addr) (n c : Nat) (nm : ByteArray) (hx : RCx G cx p n c) :
  Fn Tryz.prog 105 [.slice p n c, .string nm] [] G (TyOk (mLook cx nm) G) := by
 have hn := hx.le
 have hn1 := hx.1
 refine fn_enter Tryz.func105 rfl Tryz.ntmps105 Tryz.results105 rfl ?_
 intro w0
 refine tS (tR ?_)
 refine sE (step_alloc rfl) rfl (fun b3 => ?_)
 refine sQ (qA rfl) rfl (sD (nS (tS (tS (tR (sQ (qM rfl) rfl ?_))))))
 refine sQ (pLn rfl rfl) rfl (sP (pure_sub rfl rfl (by omega) (by omega)) rfl rfl ?_)
 refine sQ (qA rfl) rfl (sD (nS (tri_block ?_)))
 (refine tri_loopN (fun (i : Nat) => ⟨[(6, .int .i64 ((i : Int) - 1)), (0, .slice p n c), (1, .string nm), (4, .pointer (some ⟨b3, 0, none⟩))], [.blk b3 [.int .i64 0, .slice none 0 0]], G⟩) (fun i => i ≤ n ∧ lookN cx nm i = mLook cx nm) (fun i => i) n ?_ ?_ ?_)
 exact sMk
 exact ⟨Nat.le_refl _, by rw [hn1]; rfl⟩
 (rintro i ⟨hi, hlk⟩)
 refine tS (tS (tR (sQ (qM rfl) rfl (sB (pure_geq rfl rfl) rfl rfl (fun h25 => ?_) (fun h25 => ?_)))))
 refine sD (nS (qT rfl ?_))
 refine tK (nS (tS ?_))
 (show Tri _ _ (.block 1 _) _ _; obtain ⟨j, rfl⟩ : ∃ j, i = j + 1 := ⟨i - 1, by omega⟩; rw [show ((j + 1 : Nat) : Int) - 1 = (j : Int) from by omega]; obtain ⟨b, o, nm1, t1, q1, d1, hcx, rfl, hat, hr1, hgb⟩ := hx.get (i := j) (by omega); refine tri_block ?_)
 refine tS (tR (sQ (qM rfl) rfl (sQ (qM rfl) rfl (sP (pIN rfl rfl rfl (by omega)) rfl rfl ?_))))
 refine sQ (qF rfl) rfl (sL (load_s rfl rfl ((hat _).sub (j := 0) rfl)) rfl rfl ?_)
 refine sQ (qM rfl) rfl (sB (pure_seql rfl rfl) rfl rfl (fun h41 => ?_) (fun h41 => ?_))
 refine sD (nS (qT rfl ?_))
 refine tS (tR (sQ (qM rfl) rfl (sQ (qM rfl) rfl (sP (pIN rfl rfl rfl (by omega)) rfl rfl ?_))))
 refine sQ (qF rfl) rfl (sL (load_a rfl rfl (hat _).drop rfl) rfl rfl ?_)
 refine sS' ?_
 refine sQ (qA rfl) rfl (sD (nS (tT (rB (rS (ret_loopN ?_))))))
 refine rB (rS (rF2 (rC rfl (lBa rfl rfl)) (rT rfl) ?_))
 (rw [lookN_eq hcx (by assumption)] at hlk; rw [← hlk]; exact ⟨rfl, _, _, rfl, hr1, fun t ht => by cases ht; rfl⟩)
 refine sD (nS (cF rfl ?_))
 refine tK (nrm_block (nS (tR (sQ (qM rfl) rfl (sP (pure_sub rfl rfl (by omega) (by omega)) rfl rfl ?_)))))
 refine sQ (qA rfl) rfl (sD (nrm_loopN j ?_ ?_ ?_))
 exact sMk
 (rw [lookN_ne hcx (by assumption)] at hlk; exact ⟨by omega, hlk⟩)
 (show _ < _ + 1; omega)
 refine sD (nS (cF rfl ?_))
 refine tri_exit ?_
 refine ext_seq ?_
 refine ext_loopN ?_
 refine ext_block_eq ?_
 refine nS (tS (tR (sQ (pBd rfl rfl) rfl (sS' ?_))))
 refine sQ (qA rfl) rfl (sD (nS (tT (rF2 (rC rfl (lBa rfl rfl)) (rT rfl) ?_))))
 (obtain rfl : i = 0 := (by omega); rw [lookN] at hlk; rw [← hlk]; exact ⟨rfl, _, ty0, rfl, tyLeaf_r _ ⟨by omega, by omega⟩, fun t ht => by cases ht⟩)
theorem mMeetL_two {xs ys : List Ty} (h : xs.length = 2) (h' : ys.length = 2) : mMeetL xs ys = [mMeet (xs[0]'(by omega)) (ys[0]'(by omega)), mMeet (xs[1]'(by omega)) (ys[1]'(by omega))] := by
 match xs, ys, h, h' with
 | [a, b], [c, d], _, _ => rfl
theorem cons_same {k k' : Int} {ks bs : List Ty} (h : tCons (.mk k ks) (.mk k' bs) = true) (hk : k ≠ 1) (hk' : k' ≠ 1) : k = k' ∧ tConsL ks bs = true := by
 rw [tCons_mk] at h
 simpa [hk, hk'] using h
theorem meet_fn : ∀ (a b : Ty) (G : IM) (ca cb : List Value), tCons a b = true → tAr a → tAr b → RTy G a ca → RTy G b cb →
  Fn Tryz.prog 109 [.agg ⟨ca⟩, .agg ⟨cb⟩] [] G (RetTy (mMeet a b) G) := by
 refine Ty.ind fun k ks ih b G ca cb hc haa hab hra hrb => ?_
 have hsa := haa.small
 have hsb := hab.small
 obtain ⟨bk, bks⟩ := b
 have hra0 := hra
 have hrb0 := hrb
 have ha2 := haa
 have hb2 := hab
 rw [tAr] at ha2 hb2
 have hkida := haa.kid
 have hkidb := hab.kid
 obtain ⟨p, c, es, rfl, hk, hsl, hkl⟩ := hra.open
 obtain ⟨p', c', es', rfl, hk', hsl', hkl'⟩ := hrb.open
 simp only [Ty.k, Ty.ks] at hk hsl hkl hk' hsl' hkl' ⊢
 have hn := hsl.le
 rw [mMeet_mk]
 refine fn_enter Tryz.func109 rfl Tryz.ntmps109 Tryz.results109 rfl ?_
 intro w0
 refine tS (tR ?_)
 refine sE (step_box_a rfl rfl) rfl (fun b3 => ?_)
 refine sE (step_box_a rfl rfl) rfl (fun b4 => ?_)
 refine sE (step_alloc rfl) rfl (fun b5 => ?_)
 refine sD (nS (tS (tri_block (tS (tR (sQ (qF0 rfl) rfl ?_))))))
 refine sL (lBs rfl rfl) rfl rfl ?_
 refine sB (qE rfl rfl) rfl rfl (fun h14 => ?_) (fun h14 => ?_)
 refine sQ (qA rfl) rfl (sD (nS (qT rfl ?_)))
 refine tS (tR (sL (lBa rfl rfl) rfl rfl ?_))
 (refine seq_imm rfl (ownType_fn _ _ _ hsb hrb0) rfl rfl (fun v G1 hle1 hh => ?_); obtain ⟨cs1, F1, rfl, hs1, hn1⟩ := hh; obtain ⟨p1, c1, rfl, _⟩ := hs1.open; have hr1 := hs1.R.mono (Dif.le G1 _))
 refine sS' ?_
 refine sD (nS (tT (rB (rS (rF1 (rC rfl (lBa rfl rfl)) ?_)))))
 (rw [if_pos (by omega)]; exact ⟨rfl, _, rfl, hr1⟩)
 refine sQ (qA rfl) rfl (sD (nS (cF rfl ?_)))
 refine tS (tR (sQ (qF0 rfl) rfl (sL (lBs rfl rfl) rfl rfl ?_)))
 refine sB (qE rfl rfl) rfl rfl (fun h39 => ?_) (fun h39 => ?_)
 refine sQ (qM rfl) rfl (sK rfl rfl (sK rfl rfl (sK rfl rfl (sK rfl rfl (sQ (pPt rfl rfl) rfl (sQ (qA rfl) rfl ?_))))))
 refine sD (nS (qT rfl ?_))
 refine tS (tR (sL (lBa rfl rfl) rfl rfl ?_))
 (refine seq_imm rfl (ownType_fn _ _ _ hsa hra0) rfl rfl (fun v G1 hle1 hh => ?_); obtain ⟨cs1, F1, rfl, hs1, hn1⟩ := hh; obtain ⟨p1, c1, rfl, _⟩ := hs1.open; have hr1 := hs1.R.mono (Dif.le G1 _))
 refine sS' ?_
 refine sD (nS (tT (rB (rS (rF1 (rC rfl (lBa rfl rfl)) ?_)))))
 (rw [if_neg (by omega)]; split <;> first | exact ⟨rfl, _, rfl, hr1⟩ | (obtain rfl : ks = [] := List.length_eq_zero_iff.1 (by omega); rw [mMeetL]; exact ⟨rfl, _, rfl, hr1⟩; simp))
 refine sQ (qM rfl) rfl (sQ (qF0 rfl) rfl (sL (lBs rfl rfl) rfl rfl ?_))
 refine sQ (pLn rfl rfl) rfl (sB (qE rfl rfl) rfl rfl (fun h66 => ?_) (fun h66 => ?_))
 refine sQ (pPf rfl rfl) rfl (sQ (qA rfl) rfl (sD (nS (qT rfl ?_))))
 refine tS (tR (sL (lBa rfl rfl) rfl rfl ?_))
 (refine seq_imm rfl (ownType_fn _ _ _ hsa hra0) rfl rfl (fun v G1 hle1 hh => ?_); obtain ⟨cs1, F1, rfl, hs1, hn1⟩ := hh; obtain ⟨p1, c1, rfl, _⟩ := hs1.open; have hr1 := hs1.R.mono (Dif.le G1 _))
 refine sS' ?_
 refine sD (nS (tT (rB (rS (rF1 (rC rfl (lBa rfl rfl)) ?_)))))
 (rw [if_neg (by omega)]; split <;> first | exact ⟨rfl, _, rfl, hr1⟩ | (obtain rfl : ks = [] := List.length_eq_zero_iff.1 (by omega); rw [mMeetL]; exact ⟨rfl, _, rfl, hr1⟩; simp))
 refine sQ (pPf rfl rfl) rfl (sQ (qA rfl) rfl (sD (nS (cF rfl ?_))))
 refine tK (nrm_block (nS (tS ?_)))
 (obtain ⟨hkk, hcl0⟩ := cons_same hc (by omega) (by omega); subst hkk; have hcl := (tConsL_iff _ _).1 hcl0; have hlen : ks.length = 2 := (by have := ha2.2.1; have := ha2.1; omega); have hlen' : bks.length = 2 := (by omega); obtain ⟨b0, o0, q0, d0, hp0, hat0, hre0, hg0⟩ := hsl.kidTy hkl (i := 0) (by omega) (by omega); obtain ⟨b1, o1, q1, d1, hp1, hat1, hre1, hg1⟩ := hsl.kidTy hkl (i := 1) (by omega) (by omega); subst hp0; cases hp1; obtain ⟨b2, o2, q2, d2, hp2, hat2, hre2, hg2⟩ := hsl'.kidTy hkl' (i := 0) (by omega) (by omega); obtain ⟨b3, o3, q3, d3, hp3, hat3, hre3, hg3⟩ := hsl'.kidTy hkl' (i := 1) (by omega) (by omega); subst hp2; cases hp3; have hM1 := ih ks[0] (List.getElem_mem (by omega)) bks[0] G _ _ (hcl.2 0 (by omega) (by omega)) (hkida _ (List.getElem_mem (by omega))) (hkidb _ (List.getElem_mem (by omega))) hre0 hre2; refine tri_draw mixed rfl ?_)
 refine any_pure (i := 0) (l' := [tt,ff,ff,ff,ff,ff,ff,ff,ff,ff,ff,ff,ff,ff,ff,ff,ff,ff,ff,ff,ff,ff]) rfl npI (qF0 rfl) rfl (by kernel_rfl) rfl rfl ?_
 refine aL 1 rfl (lBs rfl rfl) rfl ?_
 refine aP 2 rfl (qF0 rfl) rfl ?_
 refine aL 3 rfl (lBs rfl rfl) rfl ?_
 refine aP 4 rfl (pIN (j := 0) rfl rfl rfl (by omega)) rfl ?_
 refine aL 5 rfl (load_a rfl rfl (hat0 _) rfl) rfl ?_
 refine aP 6 rfl (qF0 rfl) rfl ?_
 refine aL 7 rfl (lBs rfl rfl) rfl ?_
 refine aP 8 rfl (pIN (j := 0) rfl rfl rfl (by omega)) rfl ?_
 refine aL 9 rfl (load_a rfl rfl (hat2 _) rfl) rfl ?_
 refine aP 11 rfl (qF0 rfl) rfl ?_
 refine aL 12 rfl (lBs rfl rfl) rfl ?_
 refine aP 13 rfl (pIN (j := 1) rfl rfl rfl (by omega)) rfl ?_
 refine aL 14 rfl (load_a rfl rfl (hat1 _) rfl) rfl ?_
 refine aP 15 rfl (qF0 rfl) rfl ?_
 refine aL 16 rfl (lBs rfl rfl) rfl ?_
 refine aP 17 rfl (pIN (j := 1) rfl rfl rfl (by omega)) rfl ?_
 refine aL 18 rfl (load_a rfl rfl (hat3 _) rfl) rfl ?_
 refine aO' 10 ?_
 (refine one_imm rfl rfl hM1 rfl rfl rfl (fun v G1 hle1 hh => ?_); obtain ⟨cm1, rfl, hm1⟩ := hh; have hM2 := ih ks[1] (List.getElem_mem (by omega)) bks[1] G1 _ _ (hcl.2 1 (by omega) (by omega)) (hkida _ (List.getElem_mem (by omega))) (hkidb _ (List.getElem_mem (by omega))) (hre1.mono hle1) (hre3.mono hle1))
 refine aO' 19 ?_
 (refine one_imm rfl rfl hM2 rfl rfl rfl (fun v G2 hle2 hh => ?_); obtain ⟨cm2, rfl, hm2⟩ := hh; have hB := both_fn k _ _ G2 _ _ hk (hm1.mono hle2) hm2)
 refine aO' 20 ?_
 (refine one_imm rfl rfl hB rfl rfl rfl (fun v G3 hle3 hh => ?_); obtain ⟨cm3, rfl, hm3⟩ := hh; obtain ⟨p5, c5, e5, rfl, _⟩ := hm3.open)
 refine aO' 21 ?_
 refine oT' rfl ?_
 refine aD' ?_
 refine nS (tT (rF1 (rC rfl (lBa rfl rfl)) ?_))
 (rw [if_neg (by omega), if_neg (by omega)]; rw [mMeetL_two hlen hlen']; exact ⟨rfl, _, rfl, hm3⟩)
theorem clone_tm (G : IM) (p : Option Addr) (n c : Nat) (es : List (List Value)) (h : SlE G p n c 9 es) (h0 : 0 < n) (hn : n ≤ 4294967296) :
  Fn Tryz.prog 142 [.slice p n c] [] G (fun G' v outs => G' = G ∧ ∃ p' c', v = .slice p' n c' ∧ outs = [.slc p' c' 28 9 n es.flatten]) := by
 obtain ⟨hl, hc, hm, hat⟩ := h.sl
 obtain ⟨b, o, full, rfl, hg, hv⟩ := hat.resolve_left (by omega)
 have ho : ∀ u ∈ es.flatten, u.oneCell' = true := by
  intro u hu
  obtain ⟨e, he, hue⟩ := List.mem_flatten.1 hu
  exact List.all_eq_true.1 (h.one e he) u hue
 refine fn_enter Tryz.func142 rfl Tryz.ntmps142 Tryz.results142 rfl ?_
 intro w0
 refine tS (tR (sQ (qA rfl) rfl (sD (nS (tS (tS ?_))))))
 refine tR (sQ (qM rfl) rfl (sQ (pure_slnil_f rfl rfl rfl) rfl (sD (nS (cF rfl ?_)))))
 refine tK (nS (tS (tR ?_)))
 (refine seq_step (step_buildSlice rfl rfl rfl (by omega) (by unfold maxLen; omega) rfl) rfl ?_; rintro _ ⟨b18, rfl⟩)
 refine sQ (qM rfl) rfl (seq_append rfl rfl rfl rfl rfl (fun _ _ => by repeat (first | exact Sw.here | apply Sw.there)) (at_im hg hv) hl ho (by unfold maxLen; omega) (by omega) rfl (fun pn cn => ?_))
 refine sQ (qA rfl) rfl (sD (nS (tT (ret_own1 (rT rfl) SubH.refl ?_))))
 exact ⟨rfl, _, _, by rw [Nat.zero_add], by rw [Nat.zero_add]; rfl⟩
theorem At.mono' {hp : List Ent} {G G' : IM} {b o : Nat} {vs : List Value} (hg : IMle G G') (h : At [] G b o vs) : At hp G' b o vs := by
 rcases h with ⟨cs, hm, hv⟩ | ⟨n, c, el, sz, cs, hm, hv⟩ | ⟨full, hx, hv⟩
 ·cases hm
 ·cases hm
 ·exact .inr (.inr ⟨full, hg _ _ hx, hv⟩)
theorem SlE.kidD {G : IM} {p : Option Addr} {n c : Nat} {es : List (List Value)} {ks : List Ty} (h : SlE G p n c 2 es) (hk : RTyL G ks es) {i : Nat} (hi : i < n) (hn : i < ks.length) :
  ∃ b o q d, p = some ⟨b, o, none⟩ ∧ (∀ hp, At hp G b (o + i * 2) [.int .i64 (ks.getD i ty0).k, .slice q (ks.getD i ty0).ks.length d]) ∧ RTy G (ks.getD i ty0) [.int .i64 (ks.getD i ty0).k, .slice q (ks.getD i ty0).ks.length d] ∧ G b ≠ none := by
 obtain ⟨b, o, q, d, h1, h2, h3, h4⟩ := h.kidTy hk hi hn
 rw [List.getD_eq_getElem?_getD, List.getElem?_eq_getElem hn, Option.getD_some]
 exact ⟨b, o, q, d, h1, h2, h3, h4⟩
theorem getD_ar {hs : List Ty} (h : ∀ t ∈ hs, tAr t) {i : Nat} (hi : i < hs.length) : tAr (hs.getD i ty0) := by
 rw [List.getD_eq_getElem?_getD, List.getElem?_eq_getElem hi, Option.getD_some]
 exact h _ (List.getElem_mem hi)
/-- What a node wants, and its type. -/
def WtP (r : Option (List Ty × Ty)) (G : IM) : IM → Value → List Ent → Prop := Imm fun G' v => ∃ p n c es w cu u, v = .tuple ⟨[.slice p n c, .agg ⟨cu⟩, .bool r.isSome]⟩ ∧ n = w.length ∧ SlE G' p n c 2 es ∧ RTyL G' w es ∧ RTy G' u cu ∧ ∀ q, r = some q → q = (w, u)
theorem WtP.mk {r : Option (List Ty × Ty)} {G G' : IM} {p : Option Addr} {n c : Nat} {es : List (List Value)} {w : List Ty} {cu : List Value} {u : Ty} {b : Bool} (hl : n = w.length) (hs : Sl G' p n c 2 es.flatten) (hw : RTyL G' w es) (hu : RTy G' u cu) (h : r = if b = true then some (w, u) else none) :
  WtP r G G' (.tuple ⟨[.slice p n c, .agg ⟨cu⟩, .bool b]⟩) [] := by
 refine ⟨rfl, p, n, c, es, w, cu, u, ?_, hl, SlE.of hs (by rw [hw.len, hl]) hw.all (fun e he => (hw.each e he).2), hw, hu, ?_⟩
 ·subst h; cases b <;> rfl
 ·subst h; cases b
  ·simp
  ·intro q hq; simpa using hq.symm
theorem WtP.nil {r : Option (List Ty × Ty)} {G G' : IM} {cu : List Value} {u : Ty} {b : Bool} (hu : RTy G' u cu) (h : r = if b = true then some ([], u) else none) :
  WtP r G G' (.tuple ⟨[.slice none 0 0, .agg ⟨cu⟩, .bool b]⟩) [] := WtP.mk (es := []) rfl (Sl.nil _ _) (by simp [RTyL]) hu h
theorem WtP.one {r : Option (List Ty × Ty)} {G G' : IM} {p : Option Addr} {c : Nat} {a : Ty} {ca : List Value} {cu : List Value} {u : Ty} {b : Bool} (hs : Sl G' p 1 c 2 ca) (ha : RTy G' a ca) (hu : RTy G' u cu) (h : r = if b = true then some ([a], u) else none) :
  WtP r G G' (.tuple ⟨[.slice p 1 c, .agg ⟨cu⟩, .bool b]⟩) [] := WtP.mk (es := [ca]) (w := [a]) rfl (by simpa using hs) ⟨_, _, rfl, ha, rfl⟩ hu h
theorem WtP.two {r : Option (List Ty × Ty)} {G G' : IM} {p : Option Addr} {c : Nat} {a a2 : Ty} {ca ca2 : List Value} {cu : List Value} {u : Ty} {b : Bool} (hs : Sl G' p 2 c 2 (ca ++ ca2)) (ha : RTy G' a ca) (ha2 : RTy G' a2 ca2) (hu : RTy G' u cu) (h : r = if b = true then some ([a, a2], u) else none) :
  WtP r G G' (.tuple ⟨[.slice p 2 c, .agg ⟨cu⟩, .bool b]⟩) [] := WtP.mk (es := [ca, ca2]) (w := [a, a2]) rfl (by simpa using hs) ⟨_, _, rfl, ha, _, _, rfl, ha2, rfl⟩ hu h
theorem WtP.three {r : Option (List Ty × Ty)} {G G' : IM} {p : Option Addr} {c : Nat} {a a2 a3 : Ty} {ca ca2 ca3 : List Value} {cu : List Value} {u : Ty} {b : Bool} (hs : Sl G' p 3 c 2 (ca ++ (ca2 ++ ca3))) (ha : RTy G' a ca) (ha2 : RTy G' a2 ca2) (ha3 : RTy G' a3 ca3) (hu : RTy G' u cu) (h : r = if b = true then some ([a, a2, a3], u) else none) :
  WtP r G G' (.tuple ⟨[.slice p 3 c, .agg ⟨cu⟩, .bool b]⟩) [] := WtP.mk (es := [ca, ca2, ca3]) (w := [a, a2, a3]) rfl (by simpa using hs) ⟨_, _, rfl, ha, _, _, rfl, ha2, _, _, rfl, ha3, rfl⟩ hu h
section
variable {cx : Cx} {nm : ByteArray} {ty : Ty} {h : List Ty}
theorem mW1 : mWanted cx 1 nm ty h = match mLook cx nm with | some t => some ([], t) | none => none := rfl
theorem mW2 : mWanted cx 2 nm ty h = some ([], tyInt) := rfl
theorem mW34 {k : Int} (hk : k = 3 ∨ k = 4) : mWanted cx k nm ty h = some ([], tyBool) := by rcases hk with rfl | rfl <;> rfl
theorem mW5 : mWanted cx 5 nm ty h = some ([], .mk 4 [ty, h.getD 0 ty0]) := rfl
theorem mW6 : mWanted cx 6 nm ty h = match mMatch 4 (h.getD 0 ty0) with | some (a, b) => if tCons (h.getD 1 ty0) a = true then some ([.mk 4 [a, b], a], b) else none | none => none := rfl
theorem mW78 {k : Int} (hk : k = 7 ∨ k = 8) : mWanted cx k nm ty h = if tCons (h.getD 0 ty0) tyInt = true ∧ tCons (h.getD 1 ty0) tyInt = true then some ([tyInt, tyInt], if k = 8 then tyBool else tyInt) else none := by rcases hk with rfl | rfl <;> rfl
theorem mW9 : mWanted cx 9 nm ty h = if tCons (h.getD 0 ty0) tyBool = true ∧ tCons (h.getD 1 ty0) (h.getD 2 ty0) = true then some ([tyBool, mMeet (h.getD 1 ty0) (h.getD 2 ty0), mMeet (h.getD 1 ty0) (h.getD 2 ty0)], mMeet (h.getD 1 ty0) (h.getD 2 ty0)) else none := rfl
theorem mW10 : mWanted cx 10 nm ty h = some ([], .mk 5 [h.getD 0 ty0, h.getD 1 ty0]) := rfl
theorem mW13 : mWanted cx 13 nm ty h = if tCons (h.getD 0 ty0) ty = true then some ([ty], ty) else none := rfl
theorem mW11 {k : Int} (hk : k = 11 ∨ k = 12) : mWanted cx k nm ty h = match mMatch 5 (h.getD 0 ty0) with | some (a, b) => some ([.mk 5 [a, b]], if k = 12 then b else a) | none => none := by rcases hk with rfl | rfl <;> rfl
end
theorem tyInt_r (G : IM) : RTy G tyInt [.int .i64 2, .slice none 0 0] := tyLeaf_r G ⟨by omega, by omega⟩
theorem tyBool_r (G : IM) : RTy G tyBool [.int .i64 3, .slice none 0 0] := tyLeaf_r G ⟨by omega, by omega⟩
theorem wanted_fn (cx : Cx) (k : Int) (nm : ByteArray) (num : Int) (ty fr : Ty) (lb : Int) (ks : List Tm) (h : List Ty) (G : IM) (pc : Option Addr) (nc cc : Nat) (cells : List Value) (p : Option Addr) (n c : Nat) (es : List (List Value))
  (hx : RCx G cx pc nc cc) (hops : tmOps k = n) (hnl : n = h.length) (hk14 : k ≠ 14) (hta : tAr ty) (hr : RTm G (.mk k nm num ty fr lb ks) cells) (hsl : SlE G p n c 2 es) (hkl : RTyL G h es) (har : ∀ t ∈ h, tAr t) :
  Fn Tryz.prog 67 [.slice pc nc cc, .agg ⟨cells⟩, .slice p n c] [] G (WtP (mWanted cx k nm ty h) G) := by
 have hone := hr.one
 have hop := tm_ops hops
 have hkr : 1 ≤ k ∧ k ≤ 14 := by
  apply Classical.byContradiction
  intro hc
  rw [tmOps_no hc] at hops; omega
 obtain ⟨tyk, tyks⟩ := ty
 obtain ⟨fk, fks⟩ := fr
 obtain ⟨pt, ct, pf, cf, pk, ck, ek, rfl, hk, hnum, hlb, hrty, hrfr, _, _⟩ := hr.open9
 refine fn_enter Tryz.func67 rfl Tryz.ntmps67 Tryz.results67 rfl ?_
 intro w0
 refine tS (tR ?_)
 refine sE (step_box_a rfl rfl) rfl (fun b3 => ?_)
 refine sQ (qA rfl) rfl ?_
 refine sE (step_alloc rfl) rfl (fun b5 => ?_)
 refine sQ (qA rfl) rfl (sD (nS (tS (tR (seq_val rfl ((base_fn _ _)) rfl rfl ?_)))))
 refine seq_val rfl ((base_fn _ _)) rfl rfl ?_
 refine sE (step_alloc rfl) rfl (fun b13 => ?_)
 refine sE (step_alloc rfl) rfl (fun b14 => ?_)
 refine sS' ?_
 refine sS' ?_
 refine sD (nS (tS (tS (tR (sQ (qF0 rfl) rfl (sL (lBs rfl rfl) rfl rfl ?_))))))
 refine sD (nS (tri_block (tS (tR (sB (qE rfl rfl) rfl rfl (fun h29 => ?_) (fun h29 => ?_))))))
 refine sQ (qA rfl) rfl (sD (nS (qT rfl ?_)))
 refine tS (tR (sQ (qM rfl) rfl (sQ (qF0 rfl) rfl (sL (lBs rfl rfl) rfl rfl ?_))))
 (refine seq_imm rfl (lookup_fn G cx pc nc cc nm hx) rfl rfl (fun v G1 hle1 hh => ?_); obtain ⟨cu, u, rfl, hru, hu⟩ := hh; obtain ⟨p1, c1, e1, rfl, _⟩ := hru.open)
 refine sQ (qM rfl) rfl (sQ (pX rfl rfl) rfl (sQ (pX rfl rfl) rfl ?_))
 refine sE (step_alloc rfl) rfl (fun b43 => ?_)
 refine sS' ?_
 refine sQ (qA rfl) rfl (sD (nS (tS (tri_draw mixed rfl ?_))))
 refine any_load (i := 0) (l' := [tt,ff,ff,ff,ff]) rfl npI (lBa rfl rfl) rfl (by kernel_rfl) rfl rfl ?_
 refine aP 1 rfl (qM rfl) rfl ?_
 refine aP 2 rfl (qA rfl) rfl ?_
 refine aO' 3 ?_
 refine oT' rfl ?_
 refine aP 4 rfl (qA rfl) rfl ?_
 refine aD' ?_
 refine nS (tT (rB (rS (rF3 (rT rfl) (rC rfl (lBa rfl rfl)) (rT rfl) ?_))))
 (have hk1 : k = 1 := (by omega); subst hk1; rw [mW1]; refine WtP.nil hru ?_; generalize mLook cx nm = r at hu ⊢; cases r with | none => rfl | some t => (rw [hu t rfl]; rfl))
 refine sQ (qA rfl) rfl (sD (nS (cF rfl ?_)))
 refine tS (tR (sB (qE rfl rfl) rfl rfl (fun h69 => ?_) (fun h69 => ?_)))
 refine sQ (qA rfl) rfl (sD (nS (qT rfl ?_)))
 refine tS (tri_draw mixed rfl ?_)
 refine any_load (i := 0) (l' := [tt,ff,ff,ff]) rfl npI (lBa rfl rfl) rfl (by kernel_rfl) rfl rfl ?_
 refine aP 1 rfl (qA rfl) rfl ?_
 refine aO' 2 ?_
 refine oT' rfl ?_
 refine aP 3 rfl (qA rfl) rfl ?_
 refine aD' ?_
 refine nS (tT (rB (rS (rF3 (rT rfl) (rC rfl (lBa rfl rfl)) (rT rfl) ?_))))
 (have hk1 : k = 2 := (by omega); subst hk1; exact WtP.nil (tyInt_r _) mW2)
 refine sQ (qA rfl) rfl (sD (nS (cF rfl ?_)))
 refine tS (tS (tR (sB (qE rfl rfl) rfl rfl (fun h95 => ?_) (fun h95 => ?_))))
 refine sQ (qA rfl) rfl (sD (nS (qT rfl ?_)))
 refine tK (nS (qT rfl ?_))
 refine tS (tri_draw mixed rfl ?_)
 refine any_load (i := 0) (l' := [tt,ff,ff,ff]) rfl npI (lBa rfl rfl) rfl (by kernel_rfl) rfl rfl ?_
 refine aP 1 rfl (qA rfl) rfl ?_
 refine aO' 2 ?_
 refine oT' rfl ?_
 refine aP 3 rfl (qA rfl) rfl ?_
 refine aD' ?_
 refine nS (tT (rB (rS (rF3 (rT rfl) (rC rfl (lBa rfl rfl)) (rT rfl) ?_))))
 (exact WtP.nil (tyBool_r _) (by rw [mW34 (by omega)]; rfl))
 refine sQ (qA rfl) rfl (sD (nS (cF rfl ?_)))
 refine tR (sB (qE rfl rfl) rfl rfl (fun h122 => ?_) (fun h122 => ?_))
 refine sQ (qA rfl) rfl (sD (nS (qT rfl ?_)))
 refine tS (tri_draw mixed rfl ?_)
 refine any_load (i := 0) (l' := [tt,ff,ff,ff]) rfl npI (lBa rfl rfl) rfl (by kernel_rfl) rfl rfl ?_
 refine aP 1 rfl (qA rfl) rfl ?_
 refine aO' 2 ?_
 refine oT' rfl ?_
 refine aP 3 rfl (qA rfl) rfl ?_
 refine aD' ?_
 refine nS (tT (rB (rS (rF3 (rT rfl) (rC rfl (lBa rfl rfl)) (rT rfl) ?_))))
 (exact WtP.nil (tyBool_r _) (by rw [mW34 (by omega)]; rfl))
 refine sQ (qA rfl) rfl (sD (nS (cF rfl ?_)))
 refine tS (tR (sB (qE rfl rfl) rfl rfl (fun h147 => ?_) (fun h147 => ?_)))
 refine sQ (qA rfl) rfl (sD (nS (qT rfl ?_)))
 refine tS ?_
 (have hl1 : n = 1 := hop.2.2 (by omega); obtain ⟨b0, o0, q0, d0, hp0, hat0, hre0, hg0⟩ := hsl.kidD hkl (i := 0) (by omega) (by omega); cases hp0; refine tri_draw mixed rfl ?_)
 refine any_pure (i := 0) (l' := [tt,ff,ff,ff,ff,ff,ff,ff,ff]) rfl npI (qF0 rfl) rfl (by kernel_rfl) rfl rfl ?_
 refine aL 1 rfl (lBa rfl rfl) rfl ?_
 refine aP 2 rfl (qM rfl) rfl ?_
 refine aP 3 rfl (pIN (j := 0) rfl rfl rfl (by omega)) rfl ?_
 refine aL 4 rfl (load_a rfl rfl (hat0 _) rfl) rfl ?_
 refine aO' 5 ?_
 (refine one_imm rfl rfl (both_fn 4 _ _ _ _ _ ⟨by omega, by omega⟩ hrty hre0) rfl rfl rfl (fun v GB hleB hh => ?_); obtain ⟨cB, rfl, hrB⟩ := hh; obtain ⟨p7, c7, e7, rfl, _⟩ := hrB.open)
 refine aP 6 rfl (qA rfl) rfl ?_
 refine aO' 7 ?_
 refine oT' rfl ?_
 refine aP 8 rfl (qA rfl) rfl ?_
 refine aD' ?_
 refine nS (tT (rB (rS (rF3 (rT rfl) (rC rfl (lBa rfl rfl)) (rT rfl) ?_))))
 (have hk1 : k = 5 := (by omega); subst hk1; exact WtP.nil hrB mW5)
 refine sQ (qA rfl) rfl (sD (nS (cF rfl ?_)))
 refine tS (tR (sB (qE rfl rfl) rfl rfl (fun h178 => ?_) (fun h178 => ?_)))
 refine sQ (qA rfl) rfl (sD (nS (qT rfl ?_)))
 refine tS (tR (sQ (qM rfl) rfl ?_))
 (have hl2 : n = 2 := hop.1 (by omega); obtain ⟨b0, o0, q0, d0, hp0, hat0, hre0, hg0⟩ := hsl.kidD hkl (i := 0) (by omega) (by omega); cases hp0; refine sP (pIN (j := 0) rfl rfl rfl (by omega)) rfl rfl ?_)
 refine sL (load_a rfl rfl (hat0 _) rfl) rfl rfl ?_
 (refine seq_imm rfl (match_fn 4 (h.getD 0 ty0) G _ (.inl rfl) (getD_ar har (by omega)) hre0) rfl rfl (fun v G1 hle1 hh => ?_); obtain ⟨ma, mca, mb, mcb, rfl, hma, hmb, hma2, hmb2, hmm⟩ := hh; obtain ⟨p1, c1, e1, rfl, _⟩ := hma.open; obtain ⟨p2, c2, e2, rfl, _⟩ := hmb.open; replace hsl := hsl.mono hle1; replace hkl := hkl.mono hle1; generalize hmi : (mMatch 4 (h.getD 0 ty0)).isSome = mi; cases mi)
 refine sQ (qM rfl) rfl (sQ (pX rfl rfl) rfl (sQ (pX rfl rfl) rfl (sQ (pX rfl rfl) rfl ?_)))
 refine sE (step_alloc rfl) rfl (fun b193 => ?_)
 refine sE (step_alloc rfl) rfl (fun b194 => ?_)
 refine sS' ?_
 refine sS' ?_
 refine sQ (qA rfl) rfl (sD (nS (tS ?_)))
 (have hl2 : n = 2 := hop.1 (by omega); obtain ⟨b0, o0, q0, d0, hp0, hat0, hre0, hg0⟩ := hsl.kidD hkl (i := 0) (by omega) (by omega); obtain ⟨b1, o1, q1, d1, hp1, hat1, hre1, hg1⟩ := hsl.kidD hkl (i := 1) (by omega) (by omega); cases hp0; cases hp1; refine tri_draw mixed rfl ?_)
 refine any_load (i := 0) (l' := [tt,ff,ff,ff,ff,ff,ff,ff,ff,ff,ff,ff,ff,ff,ff,ff,ff]) rfl npI (lBa rfl rfl) rfl (by kernel_rfl) rfl rfl ?_
 refine aL 1 rfl (lBa rfl rfl) rfl ?_
 refine aL 3 rfl (lBa rfl rfl) rfl ?_
 refine aL 5 rfl (lBa rfl rfl) rfl ?_
 refine aP 6 rfl (qM rfl) rfl ?_
 refine aO' 2 ?_
 (refine one_imm rfl rfl (both_fn _ ma mb _ _ _ ⟨by omega, by omega⟩ hma hmb) rfl rfl rfl (fun v GB hleB hh => ?_); obtain ⟨cB, rfl, hrB⟩ := hh; obtain ⟨p7, c7, e7, rfl, _⟩ := hrB.open; have hma' := hma.mono hleB; have hmb' := hmb.mono hleB)
 refine aP 7 rfl (qM rfl) rfl ?_
 refine aK' 8 rfl rfl rfl ?_
 refine aK' 9 rfl rfl rfl ?_
 refine aK' 10 rfl rfl rfl ?_
 refine aK' 11 rfl rfl rfl ?_
 refine any_two (j := 4) (j' := 12) (by kernel_rfl) ?_ ?_
 (refine one_step0 rfl (step_buildSlice rfl rfl rfl (by omega) (by unfold maxLen; omega) rfl) rfl rfl ?_; rintro _ ⟨b215, rfl⟩)
 refine aK' 12 rfl rfl rfl ?_
 refine aP 13 rfl (pPf rfl rfl) rfl ?_
 refine aP 14 rfl (qA rfl) rfl ?_
 refine aO' 15 ?_
 refine oT' rfl ?_
 refine aP 16 rfl (qA rfl) rfl ?_
 refine aD' ?_
 refine nS ?_
 (refine ret_freeze Pk.here (fun G5 hle5 hsl5 hno5 => ?_))
 refine tT (rB (rS (rF3 (rT rfl) (rC rfl (lBa rfl rfl)) (rT rfl) ?_)))
 (have hk1 : k = 6 := (by omega); subst hk1; refine WtP.two hsl5 (hrB.mono hle5) (hma'.mono hle5) (hmb'.mono hle5) ?_; rw [mW6]; cases hq : mMatch 4 (h.getD 0 ty0) with | none => rfl | some q => (rw [hq] at hmi; cases hmi))
 refine one_skip (l' := [tt,tt,tt,tt,ff,tt,tt,tt,tt,tt,tt,tt,tt,ff,ff,ff,ff]) rfl rfl rfl rfl ?_
 refine aP 13 rfl (pPf rfl rfl) rfl ?_
 refine aO' 4 ?_
 (refine one_step0 rfl (step_buildSlice rfl rfl rfl (by omega) (by unfold maxLen; omega) rfl) rfl rfl ?_; rintro _ ⟨b233, rfl⟩)
 refine aP 14 rfl (qA rfl) rfl ?_
 refine aO' 15 ?_
 refine oT' rfl ?_
 refine aP 16 rfl (qA rfl) rfl ?_
 refine aD' ?_
 refine nS ?_
 (refine ret_freeze Pk.here (fun G5 hle5 hsl5 hno5 => ?_))
 refine tT (rB (rS (rF3 (rT rfl) (rC rfl (lBa rfl rfl)) (rT rfl) ?_)))
 (have hk1 : k = 6 := (by omega); subst hk1; refine WtP.two hsl5 (hrB.mono hle5) (hma'.mono hle5) (hmb'.mono hle5) ?_; rw [mW6]; cases hq : mMatch 4 (h.getD 0 ty0) with | none => rfl | some q => (rw [hq] at hmi; cases hmi))
 refine sQ (qM rfl) rfl (sQ (pX rfl rfl) rfl (sQ (pX rfl rfl) rfl (sQ (pX rfl rfl) rfl ?_)))
 refine sE (step_alloc rfl) rfl (fun b250 => ?_)
 refine sE (step_alloc rfl) rfl (fun b251 => ?_)
 refine sS' ?_
 refine sS' ?_
 refine sQ (qA rfl) rfl (sD (nS (tS ?_)))
 (have hl2 : n = 2 := hop.1 (by omega); obtain ⟨b0, o0, q0, d0, hp0, hat0, hre0, hg0⟩ := hsl.kidD hkl (i := 0) (by omega) (by omega); obtain ⟨b1, o1, q1, d1, hp1, hat1, hre1, hg1⟩ := hsl.kidD hkl (i := 1) (by omega) (by omega); cases hp0; cases hp1; refine tri_draw mixed rfl ?_)
 refine any_load (i := 0) (l' := [tt,ff,ff,ff,ff,ff,ff,ff,ff,ff,ff,ff,ff,ff,ff,ff,ff]) rfl npI (lBa rfl rfl) rfl (by kernel_rfl) rfl rfl ?_
 refine aL 1 rfl (lBa rfl rfl) rfl ?_
 refine aL 3 rfl (lBa rfl rfl) rfl ?_
 refine aL 5 rfl (lBa rfl rfl) rfl ?_
 refine aP 6 rfl (qM rfl) rfl ?_
 refine aO' 2 ?_
 (refine one_imm rfl rfl (both_fn _ ma mb _ _ _ ⟨by omega, by omega⟩ hma hmb) rfl rfl rfl (fun v GB hleB hh => ?_); obtain ⟨cB, rfl, hrB⟩ := hh; obtain ⟨p7, c7, e7, rfl, _⟩ := hrB.open; have hma' := hma.mono hleB; have hmb' := hmb.mono hleB)
 refine aP 7 rfl (qM rfl) rfl ?_
 refine aP 8 rfl (qM rfl) rfl ?_
 refine aP 9 rfl (pIN (j := 1) rfl rfl rfl (by omega)) rfl ?_
 refine aL 10 rfl (load_a rfl rfl (At.mono' hleB (hat1 _)) rfl) rfl ?_
 refine aL 11 rfl (lBa rfl rfl) rfl ?_
 refine any_two (j := 4) (j' := 12) (by kernel_rfl) ?_ ?_
 (refine one_step0 rfl (step_buildSlice rfl rfl rfl (by omega) (by unfold maxLen; omega) rfl) rfl rfl ?_; rintro _ ⟨b272, rfl⟩)
 refine aO' 12 ?_
 refine one_valb rfl rfl ((consistent_fn _ _ _ _ _ (hre1.mono hleB) hma')) rfl rfl rfl (fun h274 => ?_) (fun h274 => ?_)
 refine aP 13 rfl (pPt rfl rfl) rfl ?_
 refine aP 14 rfl (qA rfl) rfl ?_
 refine aO' 15 ?_
 refine oT' rfl ?_
 refine aP 16 rfl (qA rfl) rfl ?_
 refine aD' ?_
 refine nS ?_
 (refine ret_freeze Pk.here (fun G5 hle5 hsl5 hno5 => ?_))
 refine tT (rB (rS (rF3 (rT rfl) (rC rfl (lBa rfl rfl)) (rT rfl) ?_)))
 (have hk1 : k = 6 := (by omega); subst hk1; refine WtP.two hsl5 (hrB.mono hle5) (hma'.mono hle5) (hmb'.mono hle5) ?_; rw [mW6]; cases hq : mMatch 4 (h.getD 0 ty0) with | none => (rw [hq] at hmi; cases hmi) | some q => (have hq2 := hmm q hq; subst hq2; dsimp only; split <;> first | rfl | (exfalso; simp_all; done)))
 refine aP 13 rfl (pPt rfl rfl) rfl ?_
 refine aP 14 rfl (qA rfl) rfl ?_
 refine aO' 15 ?_
 refine oT' rfl ?_
 refine aP 16 rfl (qA rfl) rfl ?_
 refine aD' ?_
 refine nS ?_
 (refine ret_freeze Pk.here (fun G5 hle5 hsl5 hno5 => ?_))
 refine tT (rB (rS (rF3 (rT rfl) (rC rfl (lBa rfl rfl)) (rT rfl) ?_)))
 (have hk1 : k = 6 := (by omega); subst hk1; refine WtP.two hsl5 (hrB.mono hle5) (hma'.mono hle5) (hmb'.mono hle5) ?_; rw [mW6]; cases hq : mMatch 4 (h.getD 0 ty0) with | none => (rw [hq] at hmi; cases hmi) | some q => (have hq2 := hmm q hq; subst hq2; dsimp only; split <;> first | rfl | (exfalso; simp_all; done)))
 refine one_valb rfl rfl ((consistent_fn _ _ _ _ _ (hre1.mono hleB) hma')) rfl rfl rfl (fun h301 => ?_) (fun h301 => ?_)
 refine aP 13 rfl (pPt rfl rfl) rfl ?_
 refine aO' 4 ?_
 (refine one_step0 rfl (step_buildSlice rfl rfl rfl (by omega) (by unfold maxLen; omega) rfl) rfl rfl ?_; rintro _ ⟨b304, rfl⟩)
 refine aP 14 rfl (qA rfl) rfl ?_
 refine aO' 15 ?_
 refine oT' rfl ?_
 refine aP 16 rfl (qA rfl) rfl ?_
 refine aD' ?_
 refine nS ?_
 (refine ret_freeze Pk.here (fun G5 hle5 hsl5 hno5 => ?_))
 refine tT (rB (rS (rF3 (rT rfl) (rC rfl (lBa rfl rfl)) (rT rfl) ?_)))
 (have hk1 : k = 6 := (by omega); subst hk1; refine WtP.two hsl5 (hrB.mono hle5) (hma'.mono hle5) (hmb'.mono hle5) ?_; rw [mW6]; cases hq : mMatch 4 (h.getD 0 ty0) with | none => (rw [hq] at hmi; cases hmi) | some q => (have hq2 := hmm q hq; subst hq2; dsimp only; split <;> first | rfl | (exfalso; simp_all; done)))
 refine aP 13 rfl (pPt rfl rfl) rfl ?_
 refine aO' 4 ?_
 (refine one_step0 rfl (step_buildSlice rfl rfl rfl (by omega) (by unfold maxLen; omega) rfl) rfl rfl ?_; rintro _ ⟨b319, rfl⟩)
 refine aP 14 rfl (qA rfl) rfl ?_
 refine aO' 15 ?_
 refine oT' rfl ?_
 refine aP 16 rfl (qA rfl) rfl ?_
 refine aD' ?_
 refine nS ?_
 (refine ret_freeze Pk.here (fun G5 hle5 hsl5 hno5 => ?_))
 refine tT (rB (rS (rF3 (rT rfl) (rC rfl (lBa rfl rfl)) (rT rfl) ?_)))
 (have hk1 : k = 6 := (by omega); subst hk1; refine WtP.two hsl5 (hrB.mono hle5) (hma'.mono hle5) (hmb'.mono hle5) ?_; rw [mW6]; cases hq : mMatch 4 (h.getD 0 ty0) with | none => (rw [hq] at hmi; cases hmi) | some q => (have hq2 := hmm q hq; subst hq2; dsimp only; split <;> first | rfl | (exfalso; simp_all; done)))
 refine sQ (qA rfl) rfl (sD (nS (cF rfl ?_)))
 refine tS (tS (tR (sB (qE rfl rfl) rfl rfl (fun h339 => ?_) (fun h339 => ?_))))
 refine sQ (qA rfl) rfl (sD (nS (qT rfl ?_)))
 refine tK (nS (qT rfl ?_))
 refine tS (tR (sL (lBa rfl rfl) rfl rfl ?_))
 refine sE (step_alloc rfl) rfl (fun b350 => ?_)
 refine sS' ?_
 refine sD (nS (tS (tS (tR (sQ (qF0 rfl) rfl (sL (lBs rfl rfl) rfl rfl ?_))))))
 refine sP (pure_eql_f rfl rfl (by omega)) rfl rfl ?_
 refine sD (nS (cF rfl ?_))
 refine tK (nS (tS ?_))
 (have hl2 : n = 2 := hop.1 (by omega); obtain ⟨b0, o0, q0, d0, hp0, hat0, hre0, hg0⟩ := hsl.kidD hkl (i := 0) (by omega) (by omega); obtain ⟨b1, o1, q1, d1, hp1, hat1, hre1, hg1⟩ := hsl.kidD hkl (i := 1) (by omega) (by omega); cases hp0; cases hp1; refine tri_draw mixed rfl ?_)
 refine any_load (i := 0) (l' := [tt,ff,ff,ff,ff,ff,ff,ff,ff,ff,ff,ff,ff,ff,ff,ff,ff,ff,ff]) rfl npI (lBa rfl rfl) rfl (by kernel_rfl) rfl rfl ?_
 refine aL 1 rfl (lBa rfl rfl) rfl ?_
 refine aL 3 rfl (lBa rfl rfl) rfl ?_
 refine aP 4 rfl (qM rfl) rfl ?_
 refine aP 5 rfl (pIN (j := 0) rfl rfl rfl (by omega)) rfl ?_
 refine aL 6 rfl (load_a rfl rfl (hat0 _) rfl) rfl ?_
 refine aL 7 rfl (lBa rfl rfl) rfl ?_
 refine any_two (j := 2) (j' := 8) (by kernel_rfl) ?_ ?_
 (refine one_step0 rfl (step_buildSlice rfl rfl rfl (by omega) (by unfold maxLen; omega) rfl) rfl rfl ?_; rintro _ ⟨b375, rfl⟩)
 refine aO' 8 ?_
 refine one_valb rfl rfl ((consistent_fn _ _ _ _ _ hre0 (tyInt_r _))) rfl rfl rfl (fun h377 => ?_) (fun h377 => ?_)
 refine aP 9 rfl (qM rfl) rfl ?_
 refine aP 10 rfl (qM rfl) rfl ?_
 refine aP 11 rfl (pIN (j := 1) rfl rfl rfl (by omega)) rfl ?_
 refine aL 12 rfl (load_a rfl rfl (hat1 _) rfl) rfl ?_
 refine aL 13 rfl (lBa rfl rfl) rfl ?_
 refine aO' 14 ?_
 refine one_valb rfl rfl ((consistent_fn _ _ _ _ _ hre1 (tyInt_r _))) rfl rfl rfl (fun h384 => ?_) (fun h384 => ?_)
 refine aP 15 rfl (pPt rfl rfl) rfl ?_
 refine aP 16 rfl (qA rfl) rfl ?_
 refine aO' 17 ?_
 refine oT' rfl ?_
 refine aP 18 rfl (qA rfl) rfl ?_
 refine aD' ?_
 refine nS ?_
 (refine ret_freeze Pk.here (fun G5 hle5 hsl5 hno5 => ?_))
 refine tT (rB (rS (rF3 (rT rfl) (rC rfl (lBa rfl rfl)) (rT rfl) ?_)))
 (refine WtP.two hsl5 (tyInt_r _) (tyInt_r _) (tyInt_r _) ?_; rw [mW78 (by omega)]; first | (rw [if_pos ⟨by assumption, by assumption⟩, if_neg (by omega)]; rfl) | (rw [if_neg (fun hc => by first | exact Bool.noConfusion (hc.1.symm.trans (by assumption)) | exact Bool.noConfusion (hc.2.symm.trans (by assumption)) | exact Bool.noConfusion (hc.symm.trans (by assumption)))]; rfl))
 refine aP 15 rfl (pPt rfl rfl) rfl ?_
 refine aP 16 rfl (qA rfl) rfl ?_
 refine aO' 17 ?_
 refine oT' rfl ?_
 refine aP 18 rfl (qA rfl) rfl ?_
 refine aD' ?_
 refine nS ?_
 (refine ret_freeze Pk.here (fun G5 hle5 hsl5 hno5 => ?_))
 refine tT (rB (rS (rF3 (rT rfl) (rC rfl (lBa rfl rfl)) (rT rfl) ?_)))
 (refine WtP.two hsl5 (tyInt_r _) (tyInt_r _) (tyInt_r _) ?_; rw [mW78 (by omega)]; first | (rw [if_pos ⟨by assumption, by assumption⟩, if_neg (by omega)]; rfl) | (rw [if_neg (fun hc => by first | exact Bool.noConfusion (hc.1.symm.trans (by assumption)) | exact Bool.noConfusion (hc.2.symm.trans (by assumption)) | exact Bool.noConfusion (hc.symm.trans (by assumption)))]; rfl))
 refine aP 9 rfl (qM rfl) rfl ?_
 refine aK' 10 rfl rfl rfl ?_
 refine aK' 11 rfl rfl rfl ?_
 refine aK' 12 rfl rfl rfl ?_
 refine aK' 13 rfl rfl rfl ?_
 refine aK' 14 rfl rfl rfl ?_
 refine aP 15 rfl (pPf rfl rfl) rfl ?_
 refine aP 16 rfl (qA rfl) rfl ?_
 refine aO' 17 ?_
 refine oT' rfl ?_
 refine aP 18 rfl (qA rfl) rfl ?_
 refine aD' ?_
 refine nS ?_
 (refine ret_freeze Pk.here (fun G5 hle5 hsl5 hno5 => ?_))
 refine tT (rB (rS (rF3 (rT rfl) (rC rfl (lBa rfl rfl)) (rT rfl) ?_)))
 (refine WtP.two hsl5 (tyInt_r _) (tyInt_r _) (tyInt_r _) ?_; rw [mW78 (by omega)]; first | (rw [if_pos ⟨by assumption, by assumption⟩, if_neg (by omega)]; rfl) | (rw [if_neg (fun hc => by first | exact Bool.noConfusion (hc.1.symm.trans (by assumption)) | exact Bool.noConfusion (hc.2.symm.trans (by assumption)) | exact Bool.noConfusion (hc.symm.trans (by assumption)))]; rfl))
 refine one_valb rfl rfl ((consistent_fn _ _ _ _ _ hre0 (tyInt_r _))) rfl rfl rfl (fun h430 => ?_) (fun h430 => ?_)
 refine aP 9 rfl (qM rfl) rfl ?_
 refine aP 10 rfl (qM rfl) rfl ?_
 refine aP 11 rfl (pIN (j := 1) rfl rfl rfl (by omega)) rfl ?_
 refine aL 12 rfl (load_a rfl rfl (hat1 _) rfl) rfl ?_
 refine aL 13 rfl (lBa rfl rfl) rfl ?_
 refine any_two (j := 2) (j' := 14) (by kernel_rfl) ?_ ?_
 (refine one_step0 rfl (step_buildSlice rfl rfl rfl (by omega) (by unfold maxLen; omega) rfl) rfl rfl ?_; rintro _ ⟨b437, rfl⟩)
 refine aO' 14 ?_
 refine one_valb rfl rfl ((consistent_fn _ _ _ _ _ hre1 (tyInt_r _))) rfl rfl rfl (fun h439 => ?_) (fun h439 => ?_)
 refine aP 15 rfl (pPt rfl rfl) rfl ?_
 refine aP 16 rfl (qA rfl) rfl ?_
 refine aO' 17 ?_
 refine oT' rfl ?_
 refine aP 18 rfl (qA rfl) rfl ?_
 refine aD' ?_
 refine nS ?_
 (refine ret_freeze Pk.here (fun G5 hle5 hsl5 hno5 => ?_))
 refine tT (rB (rS (rF3 (rT rfl) (rC rfl (lBa rfl rfl)) (rT rfl) ?_)))
 (refine WtP.two hsl5 (tyInt_r _) (tyInt_r _) (tyInt_r _) ?_; rw [mW78 (by omega)]; first | (rw [if_pos ⟨by assumption, by assumption⟩, if_neg (by omega)]; rfl) | (rw [if_neg (fun hc => by first | exact Bool.noConfusion (hc.1.symm.trans (by assumption)) | exact Bool.noConfusion (hc.2.symm.trans (by assumption)) | exact Bool.noConfusion (hc.symm.trans (by assumption)))]; rfl))
 refine aP 15 rfl (pPt rfl rfl) rfl ?_
 refine aP 16 rfl (qA rfl) rfl ?_
 refine aO' 17 ?_
 refine oT' rfl ?_
 refine aP 18 rfl (qA rfl) rfl ?_
 refine aD' ?_
 refine nS ?_
 (refine ret_freeze Pk.here (fun G5 hle5 hsl5 hno5 => ?_))
 refine tT (rB (rS (rF3 (rT rfl) (rC rfl (lBa rfl rfl)) (rT rfl) ?_)))
 (refine WtP.two hsl5 (tyInt_r _) (tyInt_r _) (tyInt_r _) ?_; rw [mW78 (by omega)]; first | (rw [if_pos ⟨by assumption, by assumption⟩, if_neg (by omega)]; rfl) | (rw [if_neg (fun hc => by first | exact Bool.noConfusion (hc.1.symm.trans (by assumption)) | exact Bool.noConfusion (hc.2.symm.trans (by assumption)) | exact Bool.noConfusion (hc.symm.trans (by assumption)))]; rfl))
 refine one_valb rfl rfl ((consistent_fn _ _ _ _ _ hre1 (tyInt_r _))) rfl rfl rfl (fun h466 => ?_) (fun h466 => ?_)
 refine aP 15 rfl (pPt rfl rfl) rfl ?_
 refine aO' 2 ?_
 (refine one_step0 rfl (step_buildSlice rfl rfl rfl (by omega) (by unfold maxLen; omega) rfl) rfl rfl ?_; rintro _ ⟨b469, rfl⟩)
 refine aP 16 rfl (qA rfl) rfl ?_
 refine aO' 17 ?_
 refine oT' rfl ?_
 refine aP 18 rfl (qA rfl) rfl ?_
 refine aD' ?_
 refine nS ?_
 (refine ret_freeze Pk.here (fun G5 hle5 hsl5 hno5 => ?_))
 refine tT (rB (rS (rF3 (rT rfl) (rC rfl (lBa rfl rfl)) (rT rfl) ?_)))
 (refine WtP.two hsl5 (tyInt_r _) (tyInt_r _) (tyInt_r _) ?_; rw [mW78 (by omega)]; first | (rw [if_pos ⟨by assumption, by assumption⟩, if_neg (by omega)]; rfl) | (rw [if_neg (fun hc => by first | exact Bool.noConfusion (hc.1.symm.trans (by assumption)) | exact Bool.noConfusion (hc.2.symm.trans (by assumption)) | exact Bool.noConfusion (hc.symm.trans (by assumption)))]; rfl))
 refine aP 15 rfl (pPt rfl rfl) rfl ?_
 refine aO' 2 ?_
 (refine one_step0 rfl (step_buildSlice rfl rfl rfl (by omega) (by unfold maxLen; omega) rfl) rfl rfl ?_; rintro _ ⟨b484, rfl⟩)
 refine aP 16 rfl (qA rfl) rfl ?_
 refine aO' 17 ?_
 refine oT' rfl ?_
 refine aP 18 rfl (qA rfl) rfl ?_
 refine aD' ?_
 refine nS ?_
 (refine ret_freeze Pk.here (fun G5 hle5 hsl5 hno5 => ?_))
 refine tT (rB (rS (rF3 (rT rfl) (rC rfl (lBa rfl rfl)) (rT rfl) ?_)))
 (refine WtP.two hsl5 (tyInt_r _) (tyInt_r _) (tyInt_r _) ?_; rw [mW78 (by omega)]; first | (rw [if_pos ⟨by assumption, by assumption⟩, if_neg (by omega)]; rfl) | (rw [if_neg (fun hc => by first | exact Bool.noConfusion (hc.1.symm.trans (by assumption)) | exact Bool.noConfusion (hc.2.symm.trans (by assumption)) | exact Bool.noConfusion (hc.symm.trans (by assumption)))]; rfl))
 refine aP 9 rfl (qM rfl) rfl ?_
 refine aK' 10 rfl rfl rfl ?_
 refine aK' 11 rfl rfl rfl ?_
 refine aK' 12 rfl rfl rfl ?_
 refine aK' 13 rfl rfl rfl ?_
 refine any_two (j := 2) (j' := 14) (by kernel_rfl) ?_ ?_
 (refine one_step0 rfl (step_buildSlice rfl rfl rfl (by omega) (by unfold maxLen; omega) rfl) rfl rfl ?_; rintro _ ⟨b503, rfl⟩)
 refine aK' 14 rfl rfl rfl ?_
 refine aP 15 rfl (pPf rfl rfl) rfl ?_
 refine aP 16 rfl (qA rfl) rfl ?_
 refine aO' 17 ?_
 refine oT' rfl ?_
 refine aP 18 rfl (qA rfl) rfl ?_
 refine aD' ?_
 refine nS ?_
 (refine ret_freeze Pk.here (fun G5 hle5 hsl5 hno5 => ?_))
 refine tT (rB (rS (rF3 (rT rfl) (rC rfl (lBa rfl rfl)) (rT rfl) ?_)))
 (refine WtP.two hsl5 (tyInt_r _) (tyInt_r _) (tyInt_r _) ?_; rw [mW78 (by omega)]; first | (rw [if_pos ⟨by assumption, by assumption⟩, if_neg (by omega)]; rfl) | (rw [if_neg (fun hc => by first | exact Bool.noConfusion (hc.1.symm.trans (by assumption)) | exact Bool.noConfusion (hc.2.symm.trans (by assumption)) | exact Bool.noConfusion (hc.symm.trans (by assumption)))]; rfl))
 refine one_skip (l' := [tt,tt,ff,tt,tt,tt,tt,tt,tt,tt,tt,tt,tt,tt,tt,ff,ff,ff,ff]) rfl rfl rfl rfl ?_
 refine aP 15 rfl (pPf rfl rfl) rfl ?_
 refine aO' 2 ?_
 (refine one_step0 rfl (step_buildSlice rfl rfl rfl (by omega) (by unfold maxLen; omega) rfl) rfl rfl ?_; rintro _ ⟨b521, rfl⟩)
 refine aP 16 rfl (qA rfl) rfl ?_
 refine aO' 17 ?_
 refine oT' rfl ?_
 refine aP 18 rfl (qA rfl) rfl ?_
 refine aD' ?_
 refine nS ?_
 (refine ret_freeze Pk.here (fun G5 hle5 hsl5 hno5 => ?_))
 refine tT (rB (rS (rF3 (rT rfl) (rC rfl (lBa rfl rfl)) (rT rfl) ?_)))
 (refine WtP.two hsl5 (tyInt_r _) (tyInt_r _) (tyInt_r _) ?_; rw [mW78 (by omega)]; first | (rw [if_pos ⟨by assumption, by assumption⟩, if_neg (by omega)]; rfl) | (rw [if_neg (fun hc => by first | exact Bool.noConfusion (hc.1.symm.trans (by assumption)) | exact Bool.noConfusion (hc.2.symm.trans (by assumption)) | exact Bool.noConfusion (hc.symm.trans (by assumption)))]; rfl))
 refine sQ (qA rfl) rfl (sD (nS (cF rfl ?_)))
 refine tR (sB (qE rfl rfl) rfl rfl (fun h539 => ?_) (fun h539 => ?_))
 refine sQ (qA rfl) rfl (sD (nS (qT rfl ?_)))
 refine tS (tR (sL (lBa rfl rfl) rfl rfl ?_))
 refine sE (step_alloc rfl) rfl (fun b547 => ?_)
 refine sS' ?_
 refine sD (nS (tS (tS (tR (sQ (qF0 rfl) rfl (sL (lBs rfl rfl) rfl rfl ?_))))))
 refine sP (pure_eql_t rfl rfl (by omega)) rfl rfl ?_
 refine sD (nS (qT rfl ?_))
 refine tR (sL (lBa rfl rfl) rfl rfl ?_)
 refine sS' ?_
 refine sD (nS (tS ?_))
 (have hl2 : n = 2 := hop.1 (by omega); obtain ⟨b0, o0, q0, d0, hp0, hat0, hre0, hg0⟩ := hsl.kidD hkl (i := 0) (by omega) (by omega); obtain ⟨b1, o1, q1, d1, hp1, hat1, hre1, hg1⟩ := hsl.kidD hkl (i := 1) (by omega) (by omega); cases hp0; cases hp1; refine tri_draw mixed rfl ?_)
 refine any_load (i := 0) (l' := [tt,ff,ff,ff,ff,ff,ff,ff,ff,ff,ff,ff,ff,ff,ff,ff,ff,ff,ff]) rfl npI (lBa rfl rfl) rfl (by kernel_rfl) rfl rfl ?_
 refine aL 1 rfl (lBa rfl rfl) rfl ?_
 refine aL 3 rfl (lBa rfl rfl) rfl ?_
 refine aP 4 rfl (qM rfl) rfl ?_
 refine aP 5 rfl (pIN (j := 0) rfl rfl rfl (by omega)) rfl ?_
 refine aL 6 rfl (load_a rfl rfl (hat0 _) rfl) rfl ?_
 refine aL 7 rfl (lBa rfl rfl) rfl ?_
 refine any_two (j := 2) (j' := 8) (by kernel_rfl) ?_ ?_
 (refine one_step0 rfl (step_buildSlice rfl rfl rfl (by omega) (by unfold maxLen; omega) rfl) rfl rfl ?_; rintro _ ⟨b575, rfl⟩)
 refine aO' 8 ?_
 refine one_valb rfl rfl ((consistent_fn _ _ _ _ _ hre0 (tyInt_r _))) rfl rfl rfl (fun h577 => ?_) (fun h577 => ?_)
 refine aP 9 rfl (qM rfl) rfl ?_
 refine aP 10 rfl (qM rfl) rfl ?_
 refine aP 11 rfl (pIN (j := 1) rfl rfl rfl (by omega)) rfl ?_
 refine aL 12 rfl (load_a rfl rfl (hat1 _) rfl) rfl ?_
 refine aL 13 rfl (lBa rfl rfl) rfl ?_
 refine aO' 14 ?_
 refine one_valb rfl rfl ((consistent_fn _ _ _ _ _ hre1 (tyInt_r _))) rfl rfl rfl (fun h584 => ?_) (fun h584 => ?_)
 refine aP 15 rfl (pPt rfl rfl) rfl ?_
 refine aP 16 rfl (qA rfl) rfl ?_
 refine aO' 17 ?_
 refine oT' rfl ?_
 refine aP 18 rfl (qA rfl) rfl ?_
 refine aD' ?_
 refine nS ?_
 (refine ret_freeze Pk.here (fun G5 hle5 hsl5 hno5 => ?_))
 refine tT (rB (rS (rF3 (rT rfl) (rC rfl (lBa rfl rfl)) (rT rfl) ?_)))
 (refine WtP.two hsl5 (tyInt_r _) (tyInt_r _) (tyBool_r _) ?_; rw [mW78 (by omega)]; first | (rw [if_pos ⟨by assumption, by assumption⟩, if_pos (by omega)]; rfl) | (rw [if_neg (fun hc => by first | exact Bool.noConfusion (hc.1.symm.trans (by assumption)) | exact Bool.noConfusion (hc.2.symm.trans (by assumption)) | exact Bool.noConfusion (hc.symm.trans (by assumption)))]; rfl))
 refine aP 15 rfl (pPt rfl rfl) rfl ?_
 refine aP 16 rfl (qA rfl) rfl ?_
 refine aO' 17 ?_
 refine oT' rfl ?_
 refine aP 18 rfl (qA rfl) rfl ?_
 refine aD' ?_
 refine nS ?_
 (refine ret_freeze Pk.here (fun G5 hle5 hsl5 hno5 => ?_))
 refine tT (rB (rS (rF3 (rT rfl) (rC rfl (lBa rfl rfl)) (rT rfl) ?_)))
 (refine WtP.two hsl5 (tyInt_r _) (tyInt_r _) (tyBool_r _) ?_; rw [mW78 (by omega)]; first | (rw [if_pos ⟨by assumption, by assumption⟩, if_pos (by omega)]; rfl) | (rw [if_neg (fun hc => by first | exact Bool.noConfusion (hc.1.symm.trans (by assumption)) | exact Bool.noConfusion (hc.2.symm.trans (by assumption)) | exact Bool.noConfusion (hc.symm.trans (by assumption)))]; rfl))
 refine aP 9 rfl (qM rfl) rfl ?_
 refine aK' 10 rfl rfl rfl ?_
 refine aK' 11 rfl rfl rfl ?_
 refine aK' 12 rfl rfl rfl ?_
 refine aK' 13 rfl rfl rfl ?_
 refine aK' 14 rfl rfl rfl ?_
 refine aP 15 rfl (pPf rfl rfl) rfl ?_
 refine aP 16 rfl (qA rfl) rfl ?_
 refine aO' 17 ?_
 refine oT' rfl ?_
 refine aP 18 rfl (qA rfl) rfl ?_
 refine aD' ?_
 refine nS ?_
 (refine ret_freeze Pk.here (fun G5 hle5 hsl5 hno5 => ?_))
 refine tT (rB (rS (rF3 (rT rfl) (rC rfl (lBa rfl rfl)) (rT rfl) ?_)))
 (refine WtP.two hsl5 (tyInt_r _) (tyInt_r _) (tyBool_r _) ?_; rw [mW78 (by omega)]; first | (rw [if_pos ⟨by assumption, by assumption⟩, if_pos (by omega)]; rfl) | (rw [if_neg (fun hc => by first | exact Bool.noConfusion (hc.1.symm.trans (by assumption)) | exact Bool.noConfusion (hc.2.symm.trans (by assumption)) | exact Bool.noConfusion (hc.symm.trans (by assumption)))]; rfl))
 refine one_valb rfl rfl ((consistent_fn _ _ _ _ _ hre0 (tyInt_r _))) rfl rfl rfl (fun h630 => ?_) (fun h630 => ?_)
 refine aP 9 rfl (qM rfl) rfl ?_
 refine aP 10 rfl (qM rfl) rfl ?_
 refine aP 11 rfl (pIN (j := 1) rfl rfl rfl (by omega)) rfl ?_
 refine aL 12 rfl (load_a rfl rfl (hat1 _) rfl) rfl ?_
 refine aL 13 rfl (lBa rfl rfl) rfl ?_
 refine any_two (j := 2) (j' := 14) (by kernel_rfl) ?_ ?_
 (refine one_step0 rfl (step_buildSlice rfl rfl rfl (by omega) (by unfold maxLen; omega) rfl) rfl rfl ?_; rintro _ ⟨b637, rfl⟩)
 refine aO' 14 ?_
 refine one_valb rfl rfl ((consistent_fn _ _ _ _ _ hre1 (tyInt_r _))) rfl rfl rfl (fun h639 => ?_) (fun h639 => ?_)
 refine aP 15 rfl (pPt rfl rfl) rfl ?_
 refine aP 16 rfl (qA rfl) rfl ?_
 refine aO' 17 ?_
 refine oT' rfl ?_
 refine aP 18 rfl (qA rfl) rfl ?_
 refine aD' ?_
 refine nS ?_
 (refine ret_freeze Pk.here (fun G5 hle5 hsl5 hno5 => ?_))
 refine tT (rB (rS (rF3 (rT rfl) (rC rfl (lBa rfl rfl)) (rT rfl) ?_)))
 (refine WtP.two hsl5 (tyInt_r _) (tyInt_r _) (tyBool_r _) ?_; rw [mW78 (by omega)]; first | (rw [if_pos ⟨by assumption, by assumption⟩, if_pos (by omega)]; rfl) | (rw [if_neg (fun hc => by first | exact Bool.noConfusion (hc.1.symm.trans (by assumption)) | exact Bool.noConfusion (hc.2.symm.trans (by assumption)) | exact Bool.noConfusion (hc.symm.trans (by assumption)))]; rfl))
 refine aP 15 rfl (pPt rfl rfl) rfl ?_
 refine aP 16 rfl (qA rfl) rfl ?_
 refine aO' 17 ?_
 refine oT' rfl ?_
 refine aP 18 rfl (qA rfl) rfl ?_
 refine aD' ?_
 refine nS ?_
 (refine ret_freeze Pk.here (fun G5 hle5 hsl5 hno5 => ?_))
 refine tT (rB (rS (rF3 (rT rfl) (rC rfl (lBa rfl rfl)) (rT rfl) ?_)))
 (refine WtP.two hsl5 (tyInt_r _) (tyInt_r _) (tyBool_r _) ?_; rw [mW78 (by omega)]; first | (rw [if_pos ⟨by assumption, by assumption⟩, if_pos (by omega)]; rfl) | (rw [if_neg (fun hc => by first | exact Bool.noConfusion (hc.1.symm.trans (by assumption)) | exact Bool.noConfusion (hc.2.symm.trans (by assumption)) | exact Bool.noConfusion (hc.symm.trans (by assumption)))]; rfl))
 refine one_valb rfl rfl ((consistent_fn _ _ _ _ _ hre1 (tyInt_r _))) rfl rfl rfl (fun h666 => ?_) (fun h666 => ?_)
 refine aP 15 rfl (pPt rfl rfl) rfl ?_
 refine aO' 2 ?_
 (refine one_step0 rfl (step_buildSlice rfl rfl rfl (by omega) (by unfold maxLen; omega) rfl) rfl rfl ?_; rintro _ ⟨b669, rfl⟩)
 refine aP 16 rfl (qA rfl) rfl ?_
 refine aO' 17 ?_
 refine oT' rfl ?_
 refine aP 18 rfl (qA rfl) rfl ?_
 refine aD' ?_
 refine nS ?_
 (refine ret_freeze Pk.here (fun G5 hle5 hsl5 hno5 => ?_))
 refine tT (rB (rS (rF3 (rT rfl) (rC rfl (lBa rfl rfl)) (rT rfl) ?_)))
 (refine WtP.two hsl5 (tyInt_r _) (tyInt_r _) (tyBool_r _) ?_; rw [mW78 (by omega)]; first | (rw [if_pos ⟨by assumption, by assumption⟩, if_pos (by omega)]; rfl) | (rw [if_neg (fun hc => by first | exact Bool.noConfusion (hc.1.symm.trans (by assumption)) | exact Bool.noConfusion (hc.2.symm.trans (by assumption)) | exact Bool.noConfusion (hc.symm.trans (by assumption)))]; rfl))
 refine aP 15 rfl (pPt rfl rfl) rfl ?_
 refine aO' 2 ?_
 (refine one_step0 rfl (step_buildSlice rfl rfl rfl (by omega) (by unfold maxLen; omega) rfl) rfl rfl ?_; rintro _ ⟨b684, rfl⟩)
 refine aP 16 rfl (qA rfl) rfl ?_
 refine aO' 17 ?_
 refine oT' rfl ?_
 refine aP 18 rfl (qA rfl) rfl ?_
 refine aD' ?_
 refine nS ?_
 (refine ret_freeze Pk.here (fun G5 hle5 hsl5 hno5 => ?_))
 refine tT (rB (rS (rF3 (rT rfl) (rC rfl (lBa rfl rfl)) (rT rfl) ?_)))
 (refine WtP.two hsl5 (tyInt_r _) (tyInt_r _) (tyBool_r _) ?_; rw [mW78 (by omega)]; first | (rw [if_pos ⟨by assumption, by assumption⟩, if_pos (by omega)]; rfl) | (rw [if_neg (fun hc => by first | exact Bool.noConfusion (hc.1.symm.trans (by assumption)) | exact Bool.noConfusion (hc.2.symm.trans (by assumption)) | exact Bool.noConfusion (hc.symm.trans (by assumption)))]; rfl))
 refine aP 9 rfl (qM rfl) rfl ?_
 refine aK' 10 rfl rfl rfl ?_
 refine aK' 11 rfl rfl rfl ?_
 refine aK' 12 rfl rfl rfl ?_
 refine aK' 13 rfl rfl rfl ?_
 refine any_two (j := 2) (j' := 14) (by kernel_rfl) ?_ ?_
 (refine one_step0 rfl (step_buildSlice rfl rfl rfl (by omega) (by unfold maxLen; omega) rfl) rfl rfl ?_; rintro _ ⟨b703, rfl⟩)
 refine aK' 14 rfl rfl rfl ?_
 refine aP 15 rfl (pPf rfl rfl) rfl ?_
 refine aP 16 rfl (qA rfl) rfl ?_
 refine aO' 17 ?_
 refine oT' rfl ?_
 refine aP 18 rfl (qA rfl) rfl ?_
 refine aD' ?_
 refine nS ?_
 (refine ret_freeze Pk.here (fun G5 hle5 hsl5 hno5 => ?_))
 refine tT (rB (rS (rF3 (rT rfl) (rC rfl (lBa rfl rfl)) (rT rfl) ?_)))
 (refine WtP.two hsl5 (tyInt_r _) (tyInt_r _) (tyBool_r _) ?_; rw [mW78 (by omega)]; first | (rw [if_pos ⟨by assumption, by assumption⟩, if_pos (by omega)]; rfl) | (rw [if_neg (fun hc => by first | exact Bool.noConfusion (hc.1.symm.trans (by assumption)) | exact Bool.noConfusion (hc.2.symm.trans (by assumption)) | exact Bool.noConfusion (hc.symm.trans (by assumption)))]; rfl))
 refine one_skip (l' := [tt,tt,ff,tt,tt,tt,tt,tt,tt,tt,tt,tt,tt,tt,tt,ff,ff,ff,ff]) rfl rfl rfl rfl ?_
 refine aP 15 rfl (pPf rfl rfl) rfl ?_
 refine aO' 2 ?_
 (refine one_step0 rfl (step_buildSlice rfl rfl rfl (by omega) (by unfold maxLen; omega) rfl) rfl rfl ?_; rintro _ ⟨b721, rfl⟩)
 refine aP 16 rfl (qA rfl) rfl ?_
 refine aO' 17 ?_
 refine oT' rfl ?_
 refine aP 18 rfl (qA rfl) rfl ?_
 refine aD' ?_
 refine nS ?_
 (refine ret_freeze Pk.here (fun G5 hle5 hsl5 hno5 => ?_))
 refine tT (rB (rS (rF3 (rT rfl) (rC rfl (lBa rfl rfl)) (rT rfl) ?_)))
 (refine WtP.two hsl5 (tyInt_r _) (tyInt_r _) (tyBool_r _) ?_; rw [mW78 (by omega)]; first | (rw [if_pos ⟨by assumption, by assumption⟩, if_pos (by omega)]; rfl) | (rw [if_neg (fun hc => by first | exact Bool.noConfusion (hc.1.symm.trans (by assumption)) | exact Bool.noConfusion (hc.2.symm.trans (by assumption)) | exact Bool.noConfusion (hc.symm.trans (by assumption)))]; rfl))
 refine sQ (qA rfl) rfl (sD (nS (cF rfl ?_)))
 refine tS (tR (sB (qE rfl rfl) rfl rfl (fun h740 => ?_) (fun h740 => ?_)))
 refine sQ (qA rfl) rfl (sD (nS (qT rfl ?_)))
 refine tS (tS ?_)
 (have hl3 : n = 3 := hop.2.1 (by omega); obtain ⟨b0, o0, q0, d0, hp0, hat0, hre0, hg0⟩ := hsl.kidD hkl (i := 0) (by omega) (by omega); obtain ⟨b1, o1, q1, d1, hp1, hat1, hre1, hg1⟩ := hsl.kidD hkl (i := 1) (by omega) (by omega); cases hp0; cases hp1; obtain ⟨b2, o2, q2, d2, hp2, hat2, hre2, hg2⟩ := hsl.kidD hkl (i := 2) (by omega) (by omega); cases hp2; refine tri_draw mixed rfl ?_)
 refine any_pure (i := 0) (l' := [tt,ff,ff,ff,ff,ff,ff,ff,ff,ff,ff,ff,ff,ff,ff,ff]) rfl npI (qM rfl) rfl (by kernel_rfl) rfl rfl ?_
 refine aP 1 rfl (pIN (j := 0) rfl rfl rfl (by omega)) rfl ?_
 refine aL 2 rfl (load_a rfl rfl (hat0 _) rfl) rfl ?_
 refine aL 3 rfl (lBa rfl rfl) rfl ?_
 refine aO' 4 ?_
 refine one_valb rfl rfl ((consistent_fn _ _ _ _ _ hre0 (tyBool_r _))) rfl rfl rfl (fun h753 => ?_) (fun h753 => ?_)
 refine aP 5 rfl (pNt rfl) rfl ?_
 refine aP 6 rfl (qM rfl) rfl ?_
 refine aP 7 rfl (qM rfl) rfl ?_
 refine aP 8 rfl (pIN (j := 1) rfl rfl rfl (by omega)) rfl ?_
 refine aL 9 rfl (load_a rfl rfl (hat1 _) rfl) rfl ?_
 refine aP 10 rfl (qM rfl) rfl ?_
 refine aP 11 rfl (pIN (j := 2) rfl rfl rfl (by omega)) rfl ?_
 refine aL 12 rfl (load_a rfl rfl (hat2 _) rfl) rfl ?_
 refine aO' 13 ?_
 refine one_valb rfl rfl ((consistent_fn _ _ _ _ _ hre1 hre2)) rfl rfl rfl (fun h763 => ?_) (fun h763 => ?_)
 refine aP 14 rfl (pNt rfl) rfl ?_
 refine aP 15 rfl (pPf rfl rfl) rfl ?_
 refine aD' ?_
 refine nS (cF rfl ?_)
 refine tK (nS (tS ?_))
 (have hl3 : n = 3 := hop.2.1 (by omega); obtain ⟨b0, o0, q0, d0, hp0, hat0, hre0, hg0⟩ := hsl.kidD hkl (i := 0) (by omega) (by omega); obtain ⟨b1, o1, q1, d1, hp1, hat1, hre1, hg1⟩ := hsl.kidD hkl (i := 1) (by omega) (by omega); cases hp0; cases hp1; obtain ⟨b2, o2, q2, d2, hp2, hat2, hre2, hg2⟩ := hsl.kidD hkl (i := 2) (by omega) (by omega); cases hp2; refine tri_draw mixed rfl ?_)
 refine any_pure (i := 0) (l' := [tt,ff,ff,ff,ff,ff,ff,ff,ff]) rfl npI (qM rfl) rfl (by kernel_rfl) rfl rfl ?_
 refine aP 1 rfl (pIN (j := 1) rfl rfl rfl (by omega)) rfl ?_
 refine aL 2 rfl (load_a rfl rfl (hat1 _) rfl) rfl ?_
 refine aP 3 rfl (qM rfl) rfl ?_
 refine aP 4 rfl (pIN (j := 2) rfl rfl rfl (by omega)) rfl ?_
 refine aL 5 rfl (load_a rfl rfl (hat2 _) rfl) rfl ?_
 refine any_two (j := 6) (j' := 7) (by kernel_rfl) ?_ ?_
 (refine one_imm rfl rfl (meet_fn _ _ _ _ _ (by assumption) (getD_ar har (by omega)) (getD_ar har (by omega)) hre1 hre2) rfl rfl rfl (fun v GM hleM hh => ?_); obtain ⟨cM, rfl, hrM⟩ := hh; obtain ⟨p7, c7, e7, rfl, _⟩ := hrM.open)
 refine aO' 7 ?_
 (refine one_step0 rfl (step_alloc rfl) rfl rfl ?_; rintro _ ⟨b782, rfl⟩)
 refine aO' 8 ?_
 refine oT' rfl ?_
 refine aD' ?_
 refine nS (tS ?_)
 (have hl3 : n = 3 := hop.2.1 (by omega); obtain ⟨b0, o0, q0, d0, hp0, hat0, hre0, hg0⟩ := hsl.kidD hkl (i := 0) (by omega) (by omega); obtain ⟨b1, o1, q1, d1, hp1, hat1, hre1, hg1⟩ := hsl.kidD hkl (i := 1) (by omega) (by omega); cases hp0; cases hp1; obtain ⟨b2, o2, q2, d2, hp2, hat2, hre2, hg2⟩ := hsl.kidD hkl (i := 2) (by omega) (by omega); cases hp2; refine tri_draw mixed rfl ?_)
 refine any_load (i := 0) (l' := [tt,ff,ff,ff,ff,ff,ff,ff]) rfl npI (lBa rfl rfl) rfl (by kernel_rfl) rfl rfl ?_
 refine aL 1 rfl (lBa rfl rfl) rfl ?_
 refine aL 2 rfl (lBa rfl rfl) rfl ?_
 refine aL 4 rfl (lBa rfl rfl) rfl ?_
 refine aO' 3 ?_
 (refine one_step0 rfl (step_buildSlice rfl rfl rfl (by omega) (by unfold maxLen; omega) rfl) rfl rfl ?_; rintro _ ⟨b794, rfl⟩)
 refine aP 5 rfl (qA rfl) rfl ?_
 refine aO' 6 ?_
 refine oT' rfl ?_
 refine aP 7 rfl (qA rfl) rfl ?_
 refine aD' ?_
 refine nS ?_
 (refine ret_freeze Pk.here (fun G5 hle5 hsl5 hno5 => ?_))
 refine tT (rB (rS (rF3 (rT rfl) (rC rfl (lBa rfl rfl)) (rT rfl) ?_)))
 (have hk1 : k = 9 := (by omega); subst hk1; exact WtP.three hsl5 (tyBool_r _) (hrM.mono hle5) (hrM.mono hle5) (hrM.mono hle5) (by rw [mW9, if_pos ⟨by assumption, by assumption⟩]; rfl))
 (refine one_step0 rfl (step_alloc rfl) rfl rfl ?_; rintro _ ⟨b807, rfl⟩)
 refine aO' 6 ?_
 (refine one_imm rfl rfl (meet_fn _ _ _ _ _ (by assumption) (getD_ar har (by omega)) (getD_ar har (by omega)) hre1 hre2) rfl rfl rfl (fun v GM hleM hh => ?_); obtain ⟨cM, rfl, hrM⟩ := hh; obtain ⟨p7, c7, e7, rfl, _⟩ := hrM.open)
 refine aO' 8 ?_
 refine oT' rfl ?_
 refine aD' ?_
 refine nS (tS ?_)
 (have hl3 : n = 3 := hop.2.1 (by omega); obtain ⟨b0, o0, q0, d0, hp0, hat0, hre0, hg0⟩ := hsl.kidD hkl (i := 0) (by omega) (by omega); obtain ⟨b1, o1, q1, d1, hp1, hat1, hre1, hg1⟩ := hsl.kidD hkl (i := 1) (by omega) (by omega); cases hp0; cases hp1; obtain ⟨b2, o2, q2, d2, hp2, hat2, hre2, hg2⟩ := hsl.kidD hkl (i := 2) (by omega) (by omega); cases hp2; refine tri_draw mixed rfl ?_)
 refine any_load (i := 0) (l' := [tt,ff,ff,ff,ff,ff,ff,ff]) rfl npI (lBa rfl rfl) rfl (by kernel_rfl) rfl rfl ?_
 refine aL 1 rfl (lBa rfl rfl) rfl ?_
 refine aL 2 rfl (lBa rfl rfl) rfl ?_
 refine aL 4 rfl (lBa rfl rfl) rfl ?_
 refine aO' 3 ?_
 (refine one_step0 rfl (step_buildSlice rfl rfl rfl (by omega) (by unfold maxLen; omega) rfl) rfl rfl ?_; rintro _ ⟨b821, rfl⟩)
 refine aP 5 rfl (qA rfl) rfl ?_
 refine aO' 6 ?_
 refine oT' rfl ?_
 refine aP 7 rfl (qA rfl) rfl ?_
 refine aD' ?_
 refine nS ?_
 (refine ret_freeze Pk.here (fun G5 hle5 hsl5 hno5 => ?_))
 refine tT (rB (rS (rF3 (rT rfl) (rC rfl (lBa rfl rfl)) (rT rfl) ?_)))
 (have hk1 : k = 9 := (by omega); subst hk1; exact WtP.three hsl5 (tyBool_r _) (hrM.mono hle5) (hrM.mono hle5) (hrM.mono hle5) (by rw [mW9, if_pos ⟨by assumption, by assumption⟩]; rfl))
 refine aP 14 rfl (pNf rfl) rfl ?_
 refine aP 15 rfl (pPf rfl rfl) rfl ?_
 refine aD' ?_
 refine nS (qT rfl ?_)
 refine tS (tR (sQ (pBd rfl rfl) rfl (sQ (qA rfl) rfl (sS' ?_))))
 refine sQ (qA rfl) rfl (sD (nS (tT (rS (rB (rS ?_))))))
 refine rF3 (rT rfl) (rC rfl (lBa rfl rfl)) (rT rfl) ?_
 (have hk1 : k = 9 := (by omega); subst hk1; exact WtP.nil (u := ty0) (tyLeaf_r _ ⟨by omega, by omega⟩) (by rw [mW9, if_neg (fun hc => by first | exact Bool.noConfusion (hc.1.symm.trans (by assumption)) | exact Bool.noConfusion (hc.2.symm.trans (by assumption)) | exact Bool.noConfusion (hc.symm.trans (by assumption)))]; rfl))
 refine aP 5 rfl (pNf rfl) rfl ?_
 refine aP 6 rfl (qM rfl) rfl ?_
 refine aK' 7 rfl rfl rfl ?_
 refine aK' 8 rfl rfl rfl ?_
 refine aK' 9 rfl rfl rfl ?_
 refine aK' 10 rfl rfl rfl ?_
 refine aK' 11 rfl rfl rfl ?_
 refine aK' 12 rfl rfl rfl ?_
 refine aK' 13 rfl rfl rfl ?_
 refine aK' 14 rfl rfl rfl ?_
 refine aP 15 rfl (pPt rfl rfl) rfl ?_
 refine aD' ?_
 refine nS (qT rfl ?_)
 refine tS (tR (sQ (pBd rfl rfl) rfl (sQ (qA rfl) rfl (sS' ?_))))
 refine sQ (qA rfl) rfl (sD (nS (tT (rS (rB (rS ?_))))))
 refine rF3 (rT rfl) (rC rfl (lBa rfl rfl)) (rT rfl) ?_
 (have hk1 : k = 9 := (by omega); subst hk1; exact WtP.nil (u := ty0) (tyLeaf_r _ ⟨by omega, by omega⟩) (by rw [mW9, if_neg (fun hc => by first | exact Bool.noConfusion (hc.1.symm.trans (by assumption)) | exact Bool.noConfusion (hc.2.symm.trans (by assumption)) | exact Bool.noConfusion (hc.symm.trans (by assumption)))]; rfl))
 refine sQ (qA rfl) rfl (sD (nS (cF rfl ?_)))
 refine tS (tR (sB (qE rfl rfl) rfl rfl (fun h887 => ?_) (fun h887 => ?_)))
 refine sQ (qA rfl) rfl (sD (nS (qT rfl ?_)))
 refine tS ?_
 (have hl2 : n = 2 := hop.1 (by omega); obtain ⟨b0, o0, q0, d0, hp0, hat0, hre0, hg0⟩ := hsl.kidD hkl (i := 0) (by omega) (by omega); obtain ⟨b1, o1, q1, d1, hp1, hat1, hre1, hg1⟩ := hsl.kidD hkl (i := 1) (by omega) (by omega); cases hp0; cases hp1; refine tri_draw mixed rfl ?_)
 refine any_pure (i := 0) (l' := [tt,ff,ff,ff,ff,ff,ff,ff,ff,ff]) rfl npI (qM rfl) rfl (by kernel_rfl) rfl rfl ?_
 refine aP 1 rfl (pIN (j := 0) rfl rfl rfl (by omega)) rfl ?_
 refine aL 2 rfl (load_a rfl rfl (hat0 _) rfl) rfl ?_
 refine aP 3 rfl (qM rfl) rfl ?_
 refine aP 4 rfl (pIN (j := 1) rfl rfl rfl (by omega)) rfl ?_
 refine aL 5 rfl (load_a rfl rfl (hat1 _) rfl) rfl ?_
 refine aO' 6 ?_
 (refine one_imm rfl rfl (both_fn 5 _ _ _ _ _ ⟨by omega, by omega⟩ hre0 hre1) rfl rfl rfl (fun v GB hleB hh => ?_); obtain ⟨cB, rfl, hrB⟩ := hh; obtain ⟨p7, c7, e7, rfl, _⟩ := hrB.open)
 refine aP 7 rfl (qA rfl) rfl ?_
 refine aO' 8 ?_
 refine oT' rfl ?_
 refine aP 9 rfl (qA rfl) rfl ?_
 refine aD' ?_
 refine nS (tT (rB (rS (rF3 (rT rfl) (rC rfl (lBa rfl rfl)) (rT rfl) ?_))))
 (have hk1 : k = 10 := (by omega); subst hk1; exact WtP.nil hrB mW10)
 refine sQ (qA rfl) rfl (sD (nS (cF rfl ?_)))
 refine tS (tR (sB (qE rfl rfl) rfl rfl (fun h919 => ?_) (fun h919 => ?_)))
 refine sQ (qA rfl) rfl (sD (nS (qT rfl ?_)))
 refine tS ?_
 (have hl1 : n = 1 := hop.2.2 (by omega); obtain ⟨b0, o0, q0, d0, hp0, hat0, hre0, hg0⟩ := hsl.kidD hkl (i := 0) (by omega) (by omega); cases hp0; refine tri_draw mixed rfl ?_)
 refine any_pure (i := 0) (l' := [tt,ff,ff,ff,ff,ff,ff,ff,ff,ff,ff,ff,ff,ff]) rfl npI (qF0 rfl) rfl (by kernel_rfl) rfl rfl ?_
 refine aL 1 rfl (lBa rfl rfl) rfl ?_
 refine aP 3 rfl (qF0 rfl) rfl ?_
 refine aL 4 rfl (lBa rfl rfl) rfl ?_
 refine aP 5 rfl (qM rfl) rfl ?_
 refine aP 6 rfl (pIN (j := 0) rfl rfl rfl (by omega)) rfl ?_
 refine aL 7 rfl (load_a rfl rfl (hat0 _) rfl) rfl ?_
 refine aP 8 rfl (qF0 rfl) rfl ?_
 refine aL 9 rfl (lBa rfl rfl) rfl ?_
 refine any_two (j := 2) (j' := 10) (by kernel_rfl) ?_ ?_
 (refine one_step0 rfl (step_buildSlice rfl rfl rfl (by omega) (by unfold maxLen; omega) rfl) rfl rfl ?_; rintro _ ⟨b936, rfl⟩)
 refine aO' 10 ?_
 refine one_valb rfl rfl ((consistent_fn _ _ _ _ _ hre0 hrty)) rfl rfl rfl (fun h938 => ?_) (fun h938 => ?_)
 refine aP 11 rfl (qA rfl) rfl ?_
 refine aO' 12 ?_
 refine oT' rfl ?_
 refine aP 13 rfl (qA rfl) rfl ?_
 refine aD' ?_
 refine nS ?_
 (refine ret_freeze Pk.here (fun G5 hle5 hsl5 hno5 => ?_))
 refine tT (rB (rS (rF3 (rT rfl) (rC rfl (lBa rfl rfl)) (rT rfl) ?_)))
 (have hk1 : k = 13 := (by omega); subst hk1; refine WtP.one hsl5 (hrty.mono hle5) (hrty.mono hle5) ?_; rw [mW13]; split <;> first | rfl | (exfalso; simp_all; done))
 refine aP 11 rfl (qA rfl) rfl ?_
 refine aO' 12 ?_
 refine oT' rfl ?_
 refine aP 13 rfl (qA rfl) rfl ?_
 refine aD' ?_
 refine nS ?_
 (refine ret_freeze Pk.here (fun G5 hle5 hsl5 hno5 => ?_))
 refine tT (rB (rS (rF3 (rT rfl) (rC rfl (lBa rfl rfl)) (rT rfl) ?_)))
 (have hk1 : k = 13 := (by omega); subst hk1; refine WtP.one hsl5 (hrty.mono hle5) (hrty.mono hle5) ?_; rw [mW13]; split <;> first | rfl | (exfalso; simp_all; done))
 refine one_valb rfl rfl ((consistent_fn _ _ _ _ _ hre0 hrty)) rfl rfl rfl (fun h963 => ?_) (fun h963 => ?_)
 refine aO' 2 ?_
 (refine one_step0 rfl (step_buildSlice rfl rfl rfl (by omega) (by unfold maxLen; omega) rfl) rfl rfl ?_; rintro _ ⟨b965, rfl⟩)
 refine aP 11 rfl (qA rfl) rfl ?_
 refine aO' 12 ?_
 refine oT' rfl ?_
 refine aP 13 rfl (qA rfl) rfl ?_
 refine aD' ?_
 refine nS ?_
 (refine ret_freeze Pk.here (fun G5 hle5 hsl5 hno5 => ?_))
 refine tT (rB (rS (rF3 (rT rfl) (rC rfl (lBa rfl rfl)) (rT rfl) ?_)))
 (have hk1 : k = 13 := (by omega); subst hk1; refine WtP.one hsl5 (hrty.mono hle5) (hrty.mono hle5) ?_; rw [mW13]; split <;> first | rfl | (exfalso; simp_all; done))
 refine aO' 2 ?_
 (refine one_step0 rfl (step_buildSlice rfl rfl rfl (by omega) (by unfold maxLen; omega) rfl) rfl rfl ?_; rintro _ ⟨b979, rfl⟩)
 refine aP 11 rfl (qA rfl) rfl ?_
 refine aO' 12 ?_
 refine oT' rfl ?_
 refine aP 13 rfl (qA rfl) rfl ?_
 refine aD' ?_
 refine nS ?_
 (refine ret_freeze Pk.here (fun G5 hle5 hsl5 hno5 => ?_))
 refine tT (rB (rS (rF3 (rT rfl) (rC rfl (lBa rfl rfl)) (rT rfl) ?_)))
 (have hk1 : k = 13 := (by omega); subst hk1; refine WtP.one hsl5 (hrty.mono hle5) (hrty.mono hle5) ?_; rw [mW13]; split <;> first | rfl | (exfalso; simp_all; done))
 refine sQ (qA rfl) rfl (sD (nS (cF rfl ?_)))
 refine tK (nrm_block (nS (tS (tR (sQ (qM rfl) rfl ?_)))))
 (have hk11 : k = 11 ∨ k = 12 := (by omega); have hl1 : n = 1 := hop.2.2 (by omega); obtain ⟨b0, o0, q0, d0, hp0, hat0, hre0, hg0⟩ := hsl.kidD hkl (i := 0) (by omega) (by omega); cases hp0; refine sP (pIN (j := 0) rfl rfl rfl (by omega)) rfl rfl ?_)
 refine sL (load_a rfl rfl (hat0 _) rfl) rfl rfl ?_
 (refine seq_imm rfl (match_fn 5 (h.getD 0 ty0) G _ (.inr rfl) (getD_ar har (by omega)) hre0) rfl rfl (fun v G1 hle1 hh => ?_); obtain ⟨ma, mca, mb, mcb, rfl, hma, hmb, hma2, hmb2, hmm⟩ := hh; obtain ⟨p1, c1, e1, rfl, _⟩ := hma.open; obtain ⟨p2, c2, e2, rfl, _⟩ := hmb.open)
 refine sQ (qM rfl) rfl (sQ (pX rfl rfl) rfl (sQ (pX rfl rfl) rfl (sQ (pX rfl rfl) rfl ?_)))
 refine sE (step_alloc rfl) rfl (fun b1009 => ?_)
 refine sE (step_alloc rfl) rfl (fun b1010 => ?_)
 refine sS' ?_
 refine sS' ?_
 refine sQ (qA rfl) rfl (sD (nS (tS (tR (sL (lBa rfl rfl) rfl rfl ?_)))))
 refine sE (step_alloc rfl) rfl (fun b1019 => ?_)
 refine sS' ?_
 refine sD (nS (tS (tS (tR (sQ (qF0 rfl) rfl (sL (lBs rfl rfl) rfl rfl ?_))))))
 refine sB (qE rfl rfl) rfl rfl (fun h1028 => ?_) (fun h1028 => ?_)
 refine sD (nS (qT rfl ?_))
 refine tR (sL (lBa rfl rfl) rfl rfl ?_)
 refine sS' ?_
 refine sD (nS (tS ?_))
 (have hl1 : n = 1 := hop.2.2 (by omega); obtain ⟨b0, o0, q0, d0, hp0, hat0, hre0, hg0⟩ := hsl.kidD hkl (i := 0) (by omega) (by omega); cases hp0; refine tri_draw mixed rfl ?_)
 refine any_load (i := 0) (l' := [tt,ff,ff,ff,ff,ff,ff,ff,ff]) rfl npI (lBa rfl rfl) rfl (by kernel_rfl) rfl rfl ?_
 refine aL 1 rfl (lBa rfl rfl) rfl ?_
 refine aL 4 rfl (lBa rfl rfl) rfl ?_
 refine aP 5 rfl (qM rfl) rfl ?_
 refine aO' 2 ?_
 (refine one_imm rfl rfl (both_fn _ ma mb _ _ _ ⟨by omega, by omega⟩ hma hmb) rfl rfl rfl (fun v GB hleB hh => ?_); obtain ⟨cB, rfl, hrB⟩ := hh; obtain ⟨p7, c7, e7, rfl, _⟩ := hrB.open; have hma' := hma.mono hleB; have hmb' := hmb.mono hleB)
 refine aO' 3 ?_
 (refine one_step0 rfl (step_buildSlice rfl rfl rfl (by omega) (by unfold maxLen; omega) rfl) rfl rfl ?_; rintro _ ⟨b1046, rfl⟩)
 refine aP 6 rfl (qA rfl) rfl ?_
 refine aO' 7 ?_
 refine oT' rfl ?_
 refine aP 8 rfl (qA rfl) rfl ?_
 refine aD' ?_
 refine nS ?_
 (refine ret_freeze Pk.here (fun G5 hle5 hsl5 hno5 => ?_))
 refine tT (rF3 (rT rfl) (rC rfl (lBa rfl rfl)) (rT rfl) ?_)
 (refine WtP.one hsl5 (hrB.mono hle5) (hmb'.mono hle5) ?_; rw [mW11 (by omega)]; cases hq : mMatch 5 (h.getD 0 ty0) with | none => rfl | some q => (have hq2 := hmm q hq; subst hq2; dsimp only; rw [if_pos (by omega)]; rfl))
 refine sD (nS (cF rfl ?_))
 refine tK (nS (tS ?_))
 (have hl1 : n = 1 := hop.2.2 (by omega); obtain ⟨b0, o0, q0, d0, hp0, hat0, hre0, hg0⟩ := hsl.kidD hkl (i := 0) (by omega) (by omega); cases hp0; refine tri_draw mixed rfl ?_)
 refine any_load (i := 0) (l' := [tt,ff,ff,ff,ff,ff,ff,ff,ff]) rfl npI (lBa rfl rfl) rfl (by kernel_rfl) rfl rfl ?_
 refine aL 1 rfl (lBa rfl rfl) rfl ?_
 refine aL 4 rfl (lBa rfl rfl) rfl ?_
 refine aP 5 rfl (qM rfl) rfl ?_
 refine aO' 2 ?_
 (refine one_imm rfl rfl (both_fn _ ma mb _ _ _ ⟨by omega, by omega⟩ hma hmb) rfl rfl rfl (fun v GB hleB hh => ?_); obtain ⟨cB, rfl, hrB⟩ := hh; obtain ⟨p7, c7, e7, rfl, _⟩ := hrB.open; have hma' := hma.mono hleB; have hmb' := hmb.mono hleB)
 refine aO' 3 ?_
 (refine one_step0 rfl (step_buildSlice rfl rfl rfl (by omega) (by unfold maxLen; omega) rfl) rfl rfl ?_; rintro _ ⟨b1071, rfl⟩)
 refine aP 6 rfl (qA rfl) rfl ?_
 refine aO' 7 ?_
 refine oT' rfl ?_
 refine aP 8 rfl (qA rfl) rfl ?_
 refine aD' ?_
 refine nS ?_
 (refine ret_freeze Pk.here (fun G5 hle5 hsl5 hno5 => ?_))
 refine tT (rF3 (rT rfl) (rC rfl (lBa rfl rfl)) (rT rfl) ?_)
 (refine WtP.one hsl5 (hrB.mono hle5) (hma'.mono hle5) ?_; rw [mW11 (by omega)]; cases hq : mMatch 5 (h.getD 0 ty0) with | none => rfl | some q => (have hq2 := hmm q hq; subst hq2; dsimp only; rw [if_neg (by omega)]; rfl))
theorem castTyL_succ {cx : Cx} : ∀ {ks : List Tm} {i : Nat} {us : List Ty} {u : Ty} (hi : i < ks.length), castTyL cx (ks.take i) = some us → castTy cx ks[i] = some u → castTyL cx (ks.take (i + 1)) = some (us ++ [u])
 | [], i, us, u, hi, _, _ => by simp at hi
 | t :: ts, 0, us, u, hi, h, h2 => by
  simp only [List.take_zero, castTyL] at h
  cases h
  simp only [List.getElem_cons_zero] at h2
  simp [castTyL, h2]
 | t :: ts, i + 1, us, u, hi, h, h2 => by
  simp only [List.take_succ_cons, castTyL] at h ⊢
  simp only [List.getElem_cons_succ] at h2
  split at h
  ·cases h
  ·rename_i v hv
   split at h
   ·cases h
   ·rename_i vs hvs
    cases h
    rw [castTyL_succ (by simpa using hi) hvs h2]
    rfl
theorem castTyL_none {cx : Cx} : ∀ {ks : List Tm} {i : Nat} (hi : i < ks.length), castTy cx ks[i] = none → castTyL cx ks = none
 | [], i, hi, _ => by simp at hi
 | t :: ts, 0, hi, h2 => by
  simp only [List.getElem_cons_zero] at h2
  simp [castTyL, h2]
 | t :: ts, i + 1, hi, h2 => by
  simp only [List.getElem_cons_succ] at h2
  have := castTyL_none (ks := ts) (i := i) (by simpa using hi) h2
  rw [castTyL, this]
  split <;> rfl
theorem mNodeT_valid {cx : Cx} {k : Int} {nm : ByteArray} {ty : Ty} {h w : List Ty} {t : Ty} (he : mNodeT cx k nm ty h = some (w, t)) : tValid t = true ∧ mWanted cx k nm ty h = some (w, t) := by
 unfold mNodeT at he
 split at he
 ·rename_i w' t' hw
  split at he
  ·cases he; exact ⟨by assumption, hw⟩
  ·cases he
 ·cases he
theorem castTy_valid {cx : Cx} {k : Int} {nm : ByteArray} {num : Int} {ty fr : Ty} {lb : Int} {ks : List Tm} {t : Ty} (h14 : k = 14 → tValid ty = true) (h : castTy cx (.mk k nm num ty fr lb ks) = some t) : tValid t = true := by
 rw [castTy] at h
 split at h
 ·cases h
 ·split at h
  ·rename_i hk
   split at h
   ·cases h; exact h14 hk
   ·cases h
  ·split at h
   ·cases h
   ·rename_i w u hw
    split at h
    ·cases h; exact (mNodeT_valid hw).1
    ·cases h
theorem castTy_ar {cx : Cx} {e : Tm} {D N d : Int} {t : Ty} (hv : sShape D N e d = true) (h : castTy cx e = some t) : tAr t := by
 obtain ⟨k, nm, num, ty, fr, lb, ks⟩ := e
 have hn := tmNode_iff.1 (sShape_go2 hv).2.2.1
 exact (tValid_ann (castTy_valid (fun hk => hn.2.2.2.2.2.1 (by omega)) h)).1
theorem mWanted_len {cx : Cx} {k : Int} {nm : ByteArray} {ty : Ty} {h w : List Ty} {t : Ty} (hop : (k = 6 ∨ k = 7 ∨ k = 8 ∨ k = 10 → h.length = 2) ∧ (k = 9 → h.length = 3) ∧ (k = 5 ∨ k = 11 ∨ k = 12 ∨ k = 13 → h.length = 1)) (hk : 1 ≤ k ∧ k ≤ 14) (h14 : k ≠ 14) (he : mWanted cx k nm ty h = some (w, t)) : w.length ≤ h.length := by
 have hkk : k = 1 ∨ k = 2 ∨ (k = 3 ∨ k = 4) ∨ k = 5 ∨ k = 6 ∨ (k = 7 ∨ k = 8) ∨ k = 9 ∨ k = 10 ∨ (k = 11 ∨ k = 12) ∨ k = 13 := by omega
 rcases hkk with rfl | rfl | hk | rfl | rfl | hk | rfl | rfl | hk | rfl
 ·rw [mW1] at he; split at he <;> cases he; simp
 ·rw [mW2] at he; cases he; simp
 ·rw [mW34 hk] at he; cases he; simp
 ·rw [mW5] at he; cases he; simp
 ·rw [mW6] at he
  split at he
  ·split at he <;> cases he
   have := hop.1 (by omega); simp [this]
  ·cases he
 ·rw [mW78 hk] at he
  split at he <;> cases he
  have := hop.1 (by omega); simp [this]
 ·rw [mW9] at he
  split at he <;> cases he
  have := hop.2.1 (by omega); simp [this]
 ·rw [mW10] at he; cases he; simp
 ·rw [mW11 hk] at he
  split at he
  ·cases he; have := hop.2.2 (by omega); simp [this]
  ·cases he
 ·rw [mW13] at he
  split at he <;> cases he
  have := hop.2.2 (by omega); simp [this]
theorem sameTo_t {w h : List Ty} {i : Nat} (hw : i < w.length) (hh : i < h.length) (hs : tSame w[i] h[i] = true) : sameTo (w.drop i) (h.drop i) = sameTo (w.drop (i + 1)) (h.drop (i + 1)) := by
 rw [List.drop_eq_getElem_cons hw, List.drop_eq_getElem_cons hh, sameTo, hs, Bool.true_and]
theorem sameTo_f {w h : List Ty} {i : Nat} (hw : i < w.length) (hh : i < h.length) (hs : tSame w[i] h[i] = false) : sameTo (w.drop i) (h.drop i) = false := by
 rw [List.drop_eq_getElem_cons hw, List.drop_eq_getElem_cons hh, sameTo, hs, Bool.false_and]
theorem sameTo_end {w h : List Ty} {i : Nat} (hw : i = w.length) : sameTo (w.drop i) (h.drop i) = true := by
 subst hw; rw [List.drop_length, sameTo]
theorem RCx.snoc {G G' : IM} {cx : Cx} {n : Nat} {p' : Option Addr} {c' : Nat} {es : List (List Value)} {e : List Value} {nm : ByteArray} {t : Ty} (h1 : n = cx.length) (hl : es.length = n) (h2 : ∀ x ∈ es, x.length = 3) (h3 : ∀ x ∈ es, x.all (·.oneCell') = true)
  (h4 : ∀ (i : Nat) (b : ByteArray × Ty), cx[i]? = some b → ∃ e, es[i]? = some e ∧ RBd2 G b e) (hg : IMle G G') (he : RBd2 G' (nm, t) e) (hs : Sl G' p' (n + 1) c' 3 (es.flatten ++ e)) : RCx G' (cx ++ [(nm, t)]) p' (n + 1) c' := by
 have hel : e.length = 3 ∧ e.all (·.oneCell') = true := by obtain ⟨q, d, rfl, _⟩ := he; exact ⟨rfl, rfl⟩
 refine ⟨by simp [h1], es ++ [e], SlE.of (by simpa using hs) (by simp [hl]) ?_ ?_, ?_⟩
 ·simp only [List.forall_mem_append, List.forall_mem_singleton]; exact ⟨h2, hel.1⟩
 ·simp only [List.forall_mem_append, List.forall_mem_singleton]; exact ⟨h3, hel.2⟩
 ·intro i b hb
  rw [List.getElem?_append] at hb ⊢
  split at hb
  ·rename_i hi
   obtain ⟨e', he', hr⟩ := h4 i b hb
   rw [if_pos (by omega)]
   exact ⟨e', he', hr.mono hg⟩
  ·rename_i hi
   have : i - cx.length = 0 := by
    apply Classical.byContradiction; intro hc
    rw [List.getElem?_eq_none (by simp; omega)] at hb; cases hb
   rw [this] at hb
   simp only [List.getElem?_cons_zero, Option.some.injEq] at hb
   subst hb
   rw [if_neg (by omega)]
   exact ⟨e, by rw [show i - es.length = 0 by omega]; rfl, he⟩
theorem clone_bd (G : IM) (p : Option Addr) (n c : Nat) (es : List (List Value)) (h : SlE G p n c 3 es) (hn : n ≤ 4294967296) :
  Fn Tryz.prog 66 [.slice p n c] [] G (fun G' v outs => G' = G ∧ ∃ p' c', v = .slice p' n c' ∧ outs = [.slc p' c' 83 3 n es.flatten]) := by
 have hp := h.sl.nn
 have hS := h.sl
 have hone : ∀ u ∈ es.flatten, u.oneCell' = true := by
  intro u hu
  obtain ⟨e, he, hue⟩ := List.mem_flatten.1 hu
  exact List.all_eq_true.1 (h.one e he) u hue
 refine fn_enter Tryz.func66 rfl Tryz.ntmps66 Tryz.results66 rfl ?_
 intro w0
 cases p with
 | none =>
  obtain rfl := hp rfl
  obtain rfl : es = [] := List.length_eq_zero_iff.1 h.len
  refine tri_nil 83 3 ?_
  refine tS ?_
  refine tR ?_
  refine sQ (qA rfl) rfl ?_
  refine sD ?_
  refine nS ?_
  refine tS ?_
  refine tS ?_
  refine tR ?_
  refine sQ (qM rfl) rfl ?_
  refine sQ (pure_slnil_t rfl rfl rfl) rfl ?_
  refine sD ?_
  refine nS ?_
  refine qT rfl ?_
  refine tS ?_
  refine tR ?_
  refine sQ (qA rfl) rfl ?_
  refine sD ?_
  refine nS ?_
  refine tT ?_
  refine rS ?_
  refine ret_own1 (rT rfl) SubH.refl ?_
  exact ⟨rfl, _, _, rfl, rfl⟩
 | some a =>
  refine tS ?_
  refine tR ?_
  refine sQ (qA rfl) rfl ?_
  refine sD ?_
  refine nS ?_
  refine tS ?_
  refine tS ?_
  refine tR ?_
  refine sQ (qM rfl) rfl ?_
  refine sQ (pure_slnil_f rfl rfl rfl) rfl ?_
  refine sD ?_
  refine nS ?_
  refine cF rfl ?_
  refine tK ?_
  refine nS ?_
  refine tS ?_
  refine tR ?_
  (refine seq_step (step_buildSlice rfl rfl rfl (by omega) (by unfold maxLen; omega) rfl) rfl ?_; rintro _ ⟨b18, rfl⟩)
  refine sQ (qM rfl) rfl ?_
  refine seq_appendSl rfl rfl rfl rfl rfl (fun _ _ => by repeat (first | exact Sw.here | apply Sw.there)) hS hone (Nat.zero_le _) (by unfold maxLen; omega) (by omega) rfl (fun pn cn => ?_)
  refine sQ (qA rfl) rfl ?_
  refine sD ?_
  refine nS ?_
  refine tT ?_
  refine ret_own1 (rT rfl) SubH.refl ?_
  exact ⟨rfl, _, _, by rw [Nat.zero_add], by rw [Nat.zero_add]; rfl⟩
theorem TyOk.no {r : Option Ty} {G G' : IM} {cu : List Value} {u : Ty} {b : Bool} (hu : RTy G' u cu) (hb : b = false) (h : r = none) : TyOk r G G' (.tuple ⟨[.agg ⟨cu⟩, .bool b]⟩) [] := by
 subst hb h
 exact ⟨rfl, cu, u, rfl, hu, by simp⟩
theorem TyOk.yes {r : Option Ty} {G G' : IM} {cu : List Value} {u : Ty} {b : Bool} (hu : RTy G' u cu) (hb : b = true) (h : r = some u) : TyOk r G G' (.tuple ⟨[.agg ⟨cu⟩, .bool b]⟩) [] := by
 subst hb h
 exact ⟨rfl, cu, u, rfl, hu, fun t ht => by cases ht; rfl⟩
section
variable {cx : Cx} {k : Int} {nm : ByteArray} {num : Int} {ty fr : Ty} {lb : Int} {ks : List Tm}
theorem castTy_kids (h : castTyL (inCx cx k nm ty) ks = none) : castTy cx (.mk k nm num ty fr lb ks) = none := by rw [castTy, h]
theorem castTy_14 {us : List Ty} (h : castTyL (inCx cx k nm ty) ks = some us) (hk : k = 14) {b : Bool} (hb : tSame (us.getD 0 ty0) fr = b) : castTy cx (.mk k nm num ty fr lb ks) = if b = true then some ty else none := by
 rw [castTy, h]; simp only [hk, if_true, hb]
theorem castTy_no {us : List Ty} (h : castTyL (inCx cx k nm ty) ks = some us) (hk : k ≠ 14) (hn : mNodeT cx k nm ty us = none) : castTy cx (.mk k nm num ty fr lb ks) = none := by
 rw [castTy, h]; simp only [hk, if_false, hn]
theorem castTy_go {us w : List Ty} {t : Ty} (h : castTyL (inCx cx k nm ty) ks = some us) (hk : k ≠ 14) (hn : mNodeT cx k nm ty us = some (w, t)) {b : Bool} (hb : sameTo w us = b) : castTy cx (.mk k nm num ty fr lb ks) = if b = true then some t else none := by
 rw [castTy, h]; simp only [hk, if_false, hn, hb]
theorem mNodeT_go {us w : List Ty} {t : Ty} (h : mWanted cx k nm ty us = some (w, t)) {b : Bool} (hb : tValid t = b) : mNodeT cx k nm ty us = if b = true then some (w, t) else none := by
 unfold mNodeT; rw [h]; simp only [hb]
theorem mNodeT_no {us : List Ty} (h : mWanted cx k nm ty us = none) : mNodeT cx k nm ty us = none := by
 unfold mNodeT; rw [h]
end
theorem castType_fn : ∀ (e : Tm) (d : Int) (cx : Cx) (G : IM) (pc : Option Addr) (nc cc : Nat) (cells : List Value), sShape 40 13 e d = true → (nc : Int) ≤ d → RCx G cx pc nc cc → RTm G e cells →
  Fn Tryz.prog 33 [.slice pc nc cc, .agg ⟨cells⟩] [] G (TyOk (castTy cx e) G) := by
 refine Tm.ind fun k nm num ty fr lb ks ih d cx G pc nc cc cells hv hnd hx hr => ?_
 have hr0 := hr
 have hone := hr.one
 obtain ⟨hv1, hv2, hv3, hv4⟩ := sShape_go2 hv
 have hvk := (sShapeL_iff 40 13 ks _).1 hv4
 have har := (tmNode_iff.1 hv3).1
 have hop := tm_ops har
 obtain ⟨hta, hts⟩ := node_ann hv3
 have hkr : 1 ≤ k ∧ k ≤ 14 := by
  apply Classical.byContradiction
  intro hc
  rw [tmOps_no hc] at har; omega
 have h14 : k = 14 → ks.length = 1 := by
  rintro rfl
  have : tmOps 14 = 1 := rfl
  omega
 obtain ⟨tk, tks⟩ := ty
 obtain ⟨fk, fks⟩ := fr
 obtain ⟨pt, ct, pf, cf, q, cq, es, rfl, hk, hnum, hlb, hty, hfr, hsl, hkl⟩ := hr.open9
 have hlen : ks.length ≤ 3 := by have := tmOps_le k; omega
 obtain ⟨hx1, esx, hx2, hx3⟩ := id hx
 have hcl := clone_bd G pc nc cc esx hx2 (by omega)
 refine fn_enter Tryz.func33 rfl Tryz.ntmps33 Tryz.results33 rfl ?_
 intro w0
 refine tS (tR ?_)
 refine sE (step_box_a rfl rfl) rfl (fun b3 => ?_)
 refine sE (step_alloc rfl) rfl (fun b4 => ?_)
 refine sQ (qA rfl) rfl (sD (nS (tS (tR (sQ (qM rfl) rfl (sQ (qA rfl) rfl ?_))))))
 refine sD (nS (tS ?_))
 (show Tri _ _ (.seq (.region 2 _ _) (.cond (.tmp 20) _ _)) _ _; refine tri_cut (fun (x : Option Addr × Nat × Nat × IM) => ⟨[(6, .slice x.1 x.2.1 x.2.2.1), (0, .slice pc nc cc), (3, .pointer (some ⟨b3, 0, none⟩)), (4, .pointer (some ⟨b4, 0, none⟩))], [.blk b4 [.int .i64 0, .slice none 0 0], .blk b3 [.int .i64 k, .string nm, .int .i64 num, .int .i64 tk, .slice pt tks.length ct, .int .i64 fk, .slice pf fks.length cf, .int .i64 lb, .slice q ks.length cq]], x.2.2.2⟩) (fun x => IMle G x.2.2.2 ∧ RCx x.2.2.2 (inCx cx k nm (.mk tk tks)) x.1 x.2.1 x.2.2.1 ∧ x.2.1 ≤ nc + 1) ?_ ?_)
 refine tS (tR (sQ (qF0 rfl) rfl (sL (lBs rfl rfl) rfl rfl ?_)))
 refine sB (qE rfl rfl) rfl rfl (fun h20 => ?_) (fun h20 => ?_)
 refine sD (nS (qT rfl ?_))
 refine tri_draw mixed rfl ?_
 refine any_pure (i := 0) (l' := [tt,ff,ff,ff,ff,ff,ff,ff,ff,ff]) rfl npI (qM rfl) rfl (by kernel_rfl) rfl rfl ?_
 refine aP 2 rfl (qF0 rfl) rfl ?_
 refine aL 3 rfl (lBs rfl rfl) rfl ?_
 refine aP 4 rfl (qF0 rfl) rfl ?_
 refine aL 5 rfl (lBa rfl rfl) rfl ?_
 refine aP 6 rfl (pBd rfl rfl) rfl ?_
 refine any_two (j := 1) (j' := 7) (by kernel_rfl) ?_ ?_
 (refine one_own rfl rfl hcl rfl rfl rfl (fun v32 G32 outs32 hle32 h32 => ?_); obtain ⟨hG, p1, c1, rfl, rfl⟩ := h32; replace hG := hG.symm; subst hG)
 replace hr := hr.mono hle32
 replace hr0 := hr0.mono hle32
 replace hty := hty.mono hle32
 replace hfr := hfr.mono hle32
 replace hsl := hsl.mono hle32
 replace hkl := hkl.mono hle32
 replace hx2 := hx2.mono hle32
 refine aO' 7 ?_
 (refine one_step0 rfl (step_buildSlice rfl rfl rfl (by omega) (by unfold maxLen; omega) rfl) rfl rfl ?_; rintro _ ⟨b34, rfl⟩)
 refine aO' 8 ?_
 (refine one_append rfl rfl rfl rfl rfl rfl (fun _ _ => by repeat (first | exact Sw.here | apply Sw.there)) (at_slc_all (by repeat first | exact mH | apply mT)) rfl (by simp [Value.oneCell']) (by unfold maxLen; omega) (by omega) rfl rfl (by repeat (first | exact HmOk.nil | apply HmOk.dep (by decide +kernel) | apply HmOk.blk (by decide +kernel) (by repeat (first | exact Pk.here | apply Pk.there)) (by repeat first | exact mH | apply mT))) (fun p5 c5 => ?_); refine any_freeze (cs := esx.flatten ++ [.string nm, .int .i64 tk, .slice pt tks.length ct]) (by repeat (first | exact Pk.here | apply Pk.there)) (fun Gf hleF hslF hnoF => ?_); have hxF := RCx.snoc (nm := nm) (t := .mk tk tks) hx1 hx2.len hx2.all hx2.one hx3 hleF ⟨_, _, rfl, hty.mono hleF⟩ hslF)
 refine aP 9 rfl (qA rfl) rfl ?_
 refine aD' ?_
 refine nrm_cut (p5, nc + 1, c5, Gf) (sub_mk (by repeat (first | exact SubE.nil | refine SubE.cons rfl ?_)) (by repeat (first | exact SubH.refl | exact SubH.nil | refine SubH.cons (by repeat (first | exact Pk.here | apply Pk.there)) ?_ | apply SubH.drop))) ⟨hleF, by (dsimp only; rw [inCx, if_pos (by omega)]; exact hxF), by (dsimp only; omega)⟩
 (refine one_step0 rfl (step_buildSlice rfl rfl rfl (by omega) (by unfold maxLen; omega) rfl) rfl rfl ?_; rintro _ ⟨b40, rfl⟩)
 refine aO' 1 ?_
 (refine one_own rfl rfl hcl rfl rfl rfl (fun v42 G42 outs42 hle42 h42 => ?_); obtain ⟨hG, p1, c1, rfl, rfl⟩ := h42; replace hG := hG.symm; subst hG)
 replace hr := hr.mono hle42
 replace hr0 := hr0.mono hle42
 replace hty := hty.mono hle42
 replace hfr := hfr.mono hle42
 replace hsl := hsl.mono hle42
 replace hkl := hkl.mono hle42
 replace hx2 := hx2.mono hle42
 refine aO' 8 ?_
 (refine one_append rfl rfl rfl rfl rfl rfl (fun _ _ => by repeat (first | exact Sw.here | apply Sw.there)) (at_slc_all (by repeat first | exact mH | apply mT)) rfl (by simp [Value.oneCell']) (by unfold maxLen; omega) (by omega) rfl rfl (by repeat (first | exact HmOk.nil | apply HmOk.dep (by decide +kernel) | apply HmOk.blk (by decide +kernel) (by repeat (first | exact Pk.here | apply Pk.there)) (by repeat first | exact mH | apply mT))) (fun p5 c5 => ?_); refine any_freeze (cs := esx.flatten ++ [.string nm, .int .i64 tk, .slice pt tks.length ct]) (by repeat (first | exact Pk.here | apply Pk.there)) (fun Gf hleF hslF hnoF => ?_); have hxF := RCx.snoc (nm := nm) (t := .mk tk tks) hx1 hx2.len hx2.all hx2.one hx3 hleF ⟨_, _, rfl, hty.mono hleF⟩ hslF)
 refine aP 9 rfl (qA rfl) rfl ?_
 refine aD' ?_
 refine nrm_cut (p5, nc + 1, c5, Gf) (sub_mk (by repeat (first | exact SubE.nil | refine SubE.cons rfl ?_)) (by repeat (first | exact SubH.refl | exact SubH.nil | refine SubH.cons (by repeat (first | exact Pk.here | apply Pk.there)) ?_ | apply SubH.drop))) ⟨hleF, by (dsimp only; rw [inCx, if_pos (by omega)]; exact hxF), by (dsimp only; omega)⟩
 refine sD (nS (cF rfl ?_))
 refine tK (nrm_cut (pc, nc, cc, G) (sub_mk (by repeat (first | exact SubE.nil | refine SubE.cons rfl ?_)) (by repeat (first | exact SubH.refl | exact SubH.nil | refine SubH.cons (by repeat (first | exact Pk.here | apply Pk.there)) ?_ | apply SubH.drop))) ⟨IMle.refl _, by (dsimp only; rw [inCx, if_neg (by omega)]; exact hx), by (dsimp only; omega)⟩)
 (rintro ⟨p6, n6, c6, Gx⟩ ⟨hleX, hxX, hn6⟩; simp only [] at hleX hxX hn6 ⊢; replace hsl := hsl.mono hleX; replace hkl := hkl.mono hleX; replace hx := hx.mono hleX; replace hr0 := hr0.mono hleX; replace hty := hty.mono hleX; replace hfr := hfr.mono hleX)
 refine tS (tR (sQ (qA rfl) rfl (sD (nS (tS (tS ?_))))))
 refine tR (sQ (qF0 rfl) rfl (sL (lBs rfl rfl) rfl rfl ?_))
 refine sQ (pLn rfl rfl) rfl (sQ (qM rfl) rfl (sD (nS (tri_block ?_))))
 (refine tri_nil 25 2 ?_; refine tri_loopN (fun (x : Nat × Option Addr × Nat × List Ty × List (List Value) × IM) => ⟨[(33, .int .i64 x.1), (32, .int .i64 ks.length), (31, .slice q ks.length cq), (7, .slice x.2.1 x.1 x.2.2.1), (6, .slice p6 n6 c6), (0, .slice pc nc cc), (3, .pointer (some ⟨b3, 0, none⟩)), (4, .pointer (some ⟨b4, 0, none⟩))], [.slc x.2.1 x.2.2.1 25 2 x.1 x.2.2.2.2.1.flatten, .blk b4 [.int .i64 0, .slice none 0 0], .blk b3 [.int .i64 k, .string nm, .int .i64 num, .int .i64 tk, .slice pt tks.length ct, .int .i64 fk, .slice pf fks.length cf, .int .i64 lb, .slice q ks.length cq]], x.2.2.2.2.2⟩) (fun x => x.1 ≤ ks.length ∧ IMle Gx x.2.2.2.2.2 ∧ x.2.2.2.1.length = x.1 ∧ RTyL x.2.2.2.2.2 x.2.2.2.1 x.2.2.2.2.1 ∧ (∀ u ∈ x.2.2.2.1, tAr u) ∧ castTyL (inCx cx k nm (.mk tk tks)) (ks.take x.1) = some x.2.2.2.1) (fun x => ks.length - x.1) (0, none, 0, [], [], Gx) ?_ ?_ ?_)
 (simp only [flat_snoc]; exact sMk)
 (exact ⟨by simp, IMle.refl _, rfl, by simp [RTyL], by simp, by simp [castTyL]⟩)
 (rintro ⟨i, pn, cn, us, es', Gi⟩ ⟨hi, hle, hlu, hst, hau, hct⟩; simp only [] at hi hle hlu hst hau hct ⊢; replace hsl := hsl.mono hle; replace hkl := hkl.mono hle; replace hx := hx.mono hle; replace hxX := hxX.mono hle; replace hr0 := hr0.mono hle; replace hty := hty.mono hle; replace hfr := hfr.mono hle)
 refine tS (tR (sB (pure_lss rfl rfl) rfl rfl (fun h75 => ?_) (fun h75 => ?_)))
 refine sD (nS (tS (qT rfl ?_)))
 refine tK (nS (tS (tri_block (tS (tR ?_)))))
 (obtain ⟨b, o, e, rfl, hl, hat, hre, hgb⟩ := hsl.kidTm hkl (i := i) (by omega) (by omega); have hon := hre.one; refine sP (pIN rfl rfl rfl (by omega)) rfl rfl ?_)
 refine sL (load_a rfl rfl (hat _) hl) rfl rfl ?_
 refine sE (step_alloc rfl) rfl (fun b88 => ?_)
 refine sS rfl rfl rfl hl hon rfl ?_ (hu := by exact upd_all hl.symm)
 refine sD (nS (tS (tR (sQ (qM rfl) rfl (sL (load_a rfl rfl (at_blk_all (by repeat first | exact mH | apply mT)) hl) rfl rfl ?_)))))
 (refine seq_imm rfl (ih ks[i] (List.getElem_mem (by omega)) (d + 1) _ Gi p6 n6 c6 _ (hvk i (by omega)) (by omega) hxX hre) rfl rfl (fun v G2 hle2 hh => ?_); obtain ⟨uc, u, rfl, hru, hu⟩ := hh; obtain ⟨p3, c3, e3, rfl, _⟩ := hru.open; rcases hcu : castTy (inCx cx k nm (Ty.mk tk tks)) ks[i] with _ | u2)
 refine sQ (qM rfl) rfl (sQ (pX rfl rfl) rfl (sQ (pX rfl rfl) rfl ?_))
 refine sE (step_alloc rfl) rfl (fun b100 => ?_)
 refine sS' ?_
 refine sQ (qA rfl) rfl (sD (nS (tS (tS (tR (sQ (qM rfl) rfl ?_))))))
 refine sQ (pNf rfl) rfl (sD (nS (qT rfl ?_)))
 refine tS (tR (sQ (pBd rfl rfl) rfl (sS' ?_)))
 refine sQ (qA rfl) rfl (sD (nS (tT (rS (rB (rS ?_))))))
 refine ret_loopN (rB (rS (rF2 (rC rfl (lBa rfl rfl)) (rT rfl) ?_)))
 (exact TyOk.no (u := ty0) (tyLeaf_r _ ⟨by omega, by omega⟩) rfl (castTy_kids (castTyL_none (by omega) hcu)))
 refine sQ (qM rfl) rfl (sQ (pX rfl rfl) rfl (sQ (pX rfl rfl) rfl ?_))
 refine sE (step_alloc rfl) rfl (fun b132 => ?_)
 refine sS' ?_
 refine sQ (qA rfl) rfl (sD (nS (tS (tS (tR (sQ (qM rfl) rfl ?_))))))
 refine sQ (pNt rfl) rfl (sD (nS (cF rfl ?_)))
 refine tK (nS (tR (sQ (qM rfl) rfl (sL (lBa rfl rfl) rfl rfl ?_))))
 (refine seq_step (step_buildSlice rfl rfl rfl (by omega) (by unfold maxLen; omega) rfl) rfl ?_; rintro _ ⟨b150, rfl⟩)
 refine seq_append rfl rfl rfl rfl rfl (fun _ _ => by repeat (first | exact Sw.here | apply Sw.there)) (at_slc_all (by repeat first | exact mH | apply mT)) rfl (by simp [Value.oneCell']) (by unfold maxLen; omega) (by omega) rfl (fun pn' cn' => ?_)
 refine sQ (qA rfl) rfl (sD (nrm_block (nS (tR (sP (pure_add rfl rfl (by omega) (by omega)) rfl rfl ?_)))))
 refine sQ (qM rfl) rfl (sD ?_)
 (obtain rfl := hu u2 hcu; refine nrm_loopN (i + 1, pn', cn', us ++ [u], es' ++ [[.int .i64 u.k, .slice p3 u.ks.length c3]], G2) ?_ ?_ ?_)
 (simp only [flat_snoc]; exact sMk)
 (dsimp only; exact ⟨by omega, hle.trans hle2, by simp [hlu], RTyL.snoc (hst.mono hle2) hru, forall_snoc hau (castTy_ar (hvk i (by omega)) hcu), castTyL_succ (by omega) hct hcu⟩)
 (show ks.length - (i + 1) < ks.length - i; omega)
 refine sD (nS (tS (cF rfl ?_)))
 refine tri_exit ?_
 refine ext_seq ?_
 refine ext_loopN ?_
 refine ext_block_eq ?_
 refine nS (tS (tS (tR (sQ (qF0 rfl) rfl (sL (lBs rfl rfl) rfl rfl ?_)))))
 refine sB (qE rfl rfl) rfl rfl (fun h178 => ?_) (fun h178 => ?_)
 refine sD (nS (qT rfl ?_))
 refine tS ?_
 (have hk14 : k = 14 := (by omega); have hl1 := h14 hk14; obtain rfl : i = ks.length := (by omega); refine tri_freeze (cs := es'.flatten) Pk.here (fun G3 hle3 hsl3 hno3 => ?_); have hst3 := hst.mono hle3; have hslU : SlE G3 pn ks.length cn 2 es' := SlE.of hsl3 (by rw [hst3.len, hlu]) hst3.all (fun e he => (hst3.each e he).2); obtain ⟨b0, o0, q0, d0, hp0, hat0, hre0, hg0⟩ := hslU.kidD hst3 (i := 0) (by omega) (by omega); cases hp0; have hfr0 := hfr.mono hle3; have hty0 := hty.mono hle3; refine tri_draw mixed rfl ?_)
 refine any_pure (i := 0) (l' := [tt,ff,ff,ff,ff,ff,ff,ff,ff,ff]) rfl npI (qF0 rfl) rfl (by kernel_rfl) rfl rfl ?_
 refine aL 1 rfl (lBa rfl rfl) rfl ?_
 refine aP 2 rfl (qM rfl) rfl ?_
 refine aP 3 rfl (pIN (j := 0) rfl rfl rfl (by omega)) rfl ?_
 refine aL 4 rfl (load_a rfl rfl (hat0 _) rfl) rfl ?_
 refine aP 5 rfl (qF0 rfl) rfl ?_
 refine aL 6 rfl (lBa rfl rfl) rfl ?_
 refine aO' 7 ?_
 refine one_valb rfl rfl ((typeSameX_fn _ _ _ _ _ hre0 hfr0)) rfl rfl rfl (fun h192 => ?_) (fun h192 => ?_)
 refine aO' 8 ?_
 refine oT' rfl ?_
 refine aP 9 rfl (qA rfl) rfl ?_
 refine aD' ?_
 refine nS (tT (rS (rF2 (rC rfl (lBa rfl rfl)) (rT rfl) ?_)))
 (exact TyOk.yes (hty0) rfl ((castTy_14 (by rw [List.take_length] at hct; exact hct) hk14 (by assumption)).trans rfl))
 refine aO' 8 ?_
 refine oT' rfl ?_
 refine aP 9 rfl (qA rfl) rfl ?_
 refine aD' ?_
 refine nS (tT (rS (rF2 (rC rfl (lBa rfl rfl)) (rT rfl) ?_)))
 (exact TyOk.no (hty0) rfl ((castTy_14 (by rw [List.take_length] at hct; exact hct) hk14 (by assumption)).trans rfl))
 refine sD (nS (cF rfl ?_))
 refine tK (nS (tS (tR (sQ (qM rfl) rfl (sL (lBa rfl rfl) rfl rfl ?_)))))
 refine sQ (qM rfl) rfl ?_
 focus (obtain rfl : i = ks.length := (by omega); have hk14 : k ≠ 14 := (by omega); refine triL_freeze (cs := es'.flatten) Pk.here (fun G3 hle3 hsl3 hno3 => ?_); have hst3 := hst.mono hle3; have hslU : SlE G3 pn ks.length cn 2 es' := SlE.of hsl3 (by rw [hst3.len, hlu]) hst3.all (fun e he => (hst3.each e he).2); refine seq_imm rfl (wanted_fn cx k nm num (.mk tk tks) (.mk fk fks) lb ks us G3 pc nc cc _ pn ks.length cn es' (hx.mono hle3) har hlu.symm hk14 hta (hr0.mono hle3) hslU hst3 hau) rfl rfl (fun v G4 hle4 hh => ?_); obtain ⟨pw, nw, cw, ew, w, wc, wt, rfl, hnw, hslw, hstw, hrt, hw⟩ := hh; obtain ⟨p3, c3, e3, rfl, _⟩ := hrt.open; replace hst3 := hst3.mono hle4; replace hslU := hslU.mono hle4; rcases hmw : mWanted cx k nm (Ty.mk tk tks) us with _ | ⟨w2, t2⟩; rotate_left; have hwe := hw _ hmw; simp only [Prod.mk.injEq] at hwe; obtain ⟨rfl, rfl⟩ := hwe; rw [List.take_length] at hct; have hwl := mWanted_len (by rw [hlu]; exact hop) hkr hk14 hmw; rotate_left)
 refine sQ (qM rfl) rfl (sQ (pX rfl rfl) rfl (sQ (pX rfl rfl) rfl (sQ (pX rfl rfl) rfl ?_)))
 refine sE (step_alloc rfl) rfl (fun b226 => ?_)
 refine sQ (qA rfl) rfl (sS' ?_)
 refine sQ (qA rfl) rfl (sD (nS (tS (tS (tR (sQ (qM rfl) rfl ?_))))))
 refine sQ (pNf rfl) rfl (sQ (qM rfl) rfl (sK rfl rfl (sK rfl rfl (sK rfl rfl (sQ (pPt rfl rfl) rfl (sD ?_))))))
 refine nS (qT rfl ?_)
 refine tS (tR (sQ (pBd rfl rfl) rfl (sS' ?_)))
 refine sQ (qA rfl) rfl (sD (nS (tT (rS (rF2 (rC rfl (lBa rfl rfl)) (rT rfl) ?_)))))
 (exact TyOk.no (u := ty0) (tyLeaf_r _ ⟨by omega, by omega⟩) rfl (castTy_no (by rw [List.take_length] at hct; exact hct) hk14 (mNodeT_no hmw)))
 refine sQ (qM rfl) rfl (sQ (pX rfl rfl) rfl (sQ (pX rfl rfl) rfl (sQ (pX rfl rfl) rfl ?_)))
 refine sE (step_alloc rfl) rfl (fun b260 => ?_)
 refine sQ (qA rfl) rfl (sS' ?_)
 refine sQ (qA rfl) rfl (sD (nS (tS (tS (tR (sQ (qM rfl) rfl ?_))))))
 refine sQ (pNt rfl) rfl (sQ (qM rfl) rfl (sL (lBa rfl rfl) rfl rfl ?_))
 refine seq_valb rfl ((typeValid_fn _ _ _ hrt)) rfl rfl (fun h273 => ?_) (fun h273 => ?_)
 refine sQ (pNt rfl) rfl (sQ (pPf rfl rfl) rfl (sD (nS (cF rfl ?_))))
 refine tK (nS (tS (tS (tR (sQ (qM rfl) rfl (sQ (pLn rfl rfl) rfl ?_))))))
 refine sQ (qM rfl) rfl (sD (nS (tri_block ?_)))
 (have hslw2 := hslw; refine tri_loopN (fun (i : Nat) => ⟨[(80, .int .i64 i), (79, .int .i64 nw), (78, .slice pw nw cw), (7, .slice pn ks.length cn), (13, .pointer (some ⟨b260, 0, none⟩)), (4, .pointer (some ⟨b4, 0, none⟩))], [.blk b260 [.int .i64 t2.k, .slice p3 t2.ks.length c3], .blk b4 [.int .i64 0, .slice none 0 0]], G4⟩) (fun i => i ≤ nw ∧ sameTo w2 us = sameTo (w2.drop i) (us.drop i)) (fun i => nw - i) 0 ?_ ?_ ?_)
 exact sMk
 (exact ⟨Nat.zero_le _, rfl⟩)
 (rintro j ⟨hj, hsm⟩)
 refine tS (tR (sB (pure_lss rfl rfl) rfl rfl (fun h296 => ?_) (fun h296 => ?_)))
 refine sD (nS (tS (qT rfl ?_)))
 refine tK (nS (tS (tri_block (tS (tR (sQ (qM rfl) rfl ?_))))))
 (obtain ⟨b, o, q5, d5, hp5, hat, hrw, hgb⟩ := hslw.kidTy hstw (i := j) (by omega) (by omega); cases hp5; obtain ⟨b0, o0, q0, d0, hp0, hat0, hre0, hg0⟩ := hslU.kidTy hst3 (i := j) (by omega) (by omega); cases hp0; refine sP (pIN rfl rfl rfl (by omega)) rfl rfl ?_)
 refine sL (load_a rfl rfl (hat _) rfl) rfl rfl ?_
 refine sE (step_alloc rfl) rfl (fun b310 => ?_)
 refine sQ (qA rfl) rfl (sS' ?_)
 refine sD (nS (tS (tri_draw mixed rfl ?_)))
 refine any_load (i := 0) (l' := [tt,ff,ff,ff,ff,ff,ff]) rfl npI (lBa rfl rfl) rfl (by kernel_rfl) rfl rfl ?_
 refine aP 1 rfl (qM rfl) rfl ?_
 refine aP 2 rfl (qM rfl) rfl ?_
 refine aP 3 rfl (pIN (j := j) rfl rfl rfl (by omega)) rfl ?_
 refine aL 4 rfl (load_a rfl rfl (hat0 _) rfl) rfl ?_
 refine aO' 5 ?_
 refine one_valb rfl rfl ((typeSameX_fn _ _ _ _ _ hrw hre0)) rfl rfl rfl (fun h323 => ?_) (fun h323 => ?_)
 refine aP 6 rfl (pNt rfl) rfl ?_
 refine aD' ?_
 refine nS (cF rfl ?_)
 refine tK (nrm_block (nS (tR (sP (pure_add rfl rfl (by omega) (by omega)) rfl rfl ?_))))
 refine sQ (qM rfl) rfl (sD (nrm_loopN (j + 1) ?_ ?_ ?_))
 exact sMk
 (show j + 1 ≤ nw ∧ sameTo w2 us = sameTo (List.drop (j + 1) w2) (List.drop (j + 1) us); exact ⟨by omega, hsm.trans (sameTo_t (by omega) (by omega) (by assumption))⟩)
 (show nw - (j + 1) < nw - j; omega)
 refine aP 6 rfl (pNf rfl) rfl ?_
 refine aD' ?_
 refine nS (qT rfl ?_)
 refine tS (tR (sQ (pBd rfl rfl) rfl (sS' ?_)))
 refine sQ (qA rfl) rfl (sD (nS (tT (rB (rS (ret_loopN ?_))))))
 refine rB (rS (rF2 (rC rfl (lBa rfl rfl)) (rT rfl) ?_))
 (exact TyOk.no (u := ty0) (tyLeaf_r _ ⟨by omega, by omega⟩) rfl (castTy_go hct hk14 (mNodeT_go hmw (b := true) (by assumption)) (b := false) (hsm.trans (sameTo_f (by omega) (by omega) (by assumption)))))
 refine sD (nS (tS (cF rfl ?_)))
 refine tri_exit ?_
 refine ext_seq ?_
 refine ext_loopN ?_
 refine ext_block_eq ?_
 refine nS (tS (tR (sL (lBa rfl rfl) rfl rfl ?_)))
 refine sS' ?_
 refine sQ (qA rfl) rfl (sD (nS (tT (rF2 (rC rfl (lBa rfl rfl)) (rT rfl) ?_))))
 (exact TyOk.yes hrt rfl (castTy_go hct hk14 (mNodeT_go hmw (b := true) (by assumption)) (b := true) (hsm.trans (sameTo_end (by omega)))))
 refine sQ (pNf rfl) rfl (sQ (pPf rfl rfl) rfl (sD (nS (qT rfl ?_))))
 refine tS (tR (sQ (pBd rfl rfl) rfl (sS' ?_)))
 refine sQ (qA rfl) rfl (sD (nS (tT (rS (rF2 (rC rfl (lBa rfl rfl)) (rT rfl) ?_)))))
 (exact TyOk.no (u := ty0) (tyLeaf_r _ ⟨by omega, by omega⟩) rfl (castTy_no hct hk14 (mNodeT_go hmw (b := false) (by assumption))))
/-- A term that is valid, or none. -/
def mChk (r : Tm) : Tm × Bool := if castValid r = true then (r, true) else (tm0, false)
def mReplaceAt (t : Tm) (path : List Int) (x : Tm) : Tm × Bool := if castValid t = true ∧ castValid x = true ∧ tAt t path ≠ none then mChk (mPut t path x) else (tm0, false)
theorem lookN_app (cy : Cx) (nm : ByteArray) : ∀ (cx : Cx) (n : Nat), n ≤ cx.length → ∀ t, lookN cx nm n = some t → lookN (cy ++ cx) nm (cy.length + n) = some t
 | cx, 0, _, t, h => by rw [lookN] at h; cases h
 | cx, n + 1, hn, t, h => by
  have hb : cx[n]? = some cx[n] := List.getElem?_eq_getElem (by omega)
  have hb2 : (cy ++ cx)[cy.length + n]? = some (cx[n].1, cx[n].2) := by
   rw [List.getElem?_append_right (by omega), show cy.length + n - cy.length = n by omega]; exact hb
  by_cases he : cx[n].1 = nm
  ·rw [lookN_eq (x := cx[n].1) (t := cx[n].2) hb he] at h
   rw [← Nat.add_assoc, lookN_eq hb2 he]; exact h
  ·rw [lookN_ne (x := cx[n].1) (t := cx[n].2) hb he] at h
   rw [← Nat.add_assoc, lookN_ne hb2 he]
   exact lookN_app cy nm cx n (by omega) t h
theorem mLook_app {cy cx : Cx} {nm : ByteArray} {t : Ty} (h : mLook cx nm = some t) : mLook (cy ++ cx) nm = some t := by
 unfold mLook at h ⊢
 rw [List.length_append]
 exact lookN_app cy nm cx _ (Nat.le_refl _) t h
theorem mWanted_app {cy cx : Cx} {k : Int} {nm : ByteArray} {ty : Ty} {h : List Ty} {r : List Ty × Ty} (hr : mWanted cx k nm ty h = some r) : mWanted (cy ++ cx) k nm ty h = some r := by
 unfold mWanted at hr ⊢
 split
 ·rename_i hk
  rw [if_pos hk] at hr
  split at hr
  ·rename_i t ht; rw [mLook_app ht]; exact hr
  ·cases hr
 ·rename_i hk
  rw [if_neg hk] at hr
  exact hr
theorem mNodeT_app {cy cx : Cx} {k : Int} {nm : ByteArray} {ty : Ty} {h : List Ty} {r : List Ty × Ty} (hr : mNodeT cx k nm ty h = some r) : mNodeT (cy ++ cx) k nm ty h = some r := by
 unfold mNodeT at hr ⊢
 split at hr
 ·rename_i w t hw; rw [mWanted_app hw]; exact hr
 ·cases hr
theorem inCx_app (cy cx : Cx) (k : Int) (nm : ByteArray) (ty : Ty) : inCx (cy ++ cx) k nm ty = cy ++ inCx cx k nm ty := by
 unfold inCx; split <;> simp
mutual
theorem castTy_app (cy : Cx) : ∀ (e : Tm) (cx : Cx) (t : Ty), castTy cx e = some t → castTy (cy ++ cx) e = some t
 | .mk k nm num ty fr lb ks, cx, t, h => by
  rw [castTy] at h ⊢
  split at h
  ·cases h
  ·rename_i hs hh
   rw [inCx_app, castTyL_app cy ks _ hs hh]
   dsimp only
   split at h
   ·rename_i hk; rw [if_pos hk]; exact h
   ·rename_i hk
    rw [if_neg hk]
    split at h
    ·cases h
    ·rename_i w u hw
     rw [mNodeT_app hw]; exact h
theorem castTyL_app (cy : Cx) : ∀ (ts : List Tm) (cx : Cx) (us : List Ty), castTyL cx ts = some us → castTyL (cy ++ cx) ts = some us
 | [], cx, us, h => by rw [castTyL] at h ⊢; exact h
 | t :: ts, cx, us, h => by
  rw [castTyL] at h ⊢
  split at h
  ·cases h
  ·rename_i u hu
   split at h
   ·cases h
   ·rename_i us' hus
    rw [castTy_app cy t cx u hu]
    dsimp only
    rw [castTyL_app cy ts cx us' hus]
    exact h
end
theorem castTyL_get {cx : Cx} : ∀ {ks : List Tm} {h : List Ty}, castTyL cx ks = some h → ∀ (j : Nat) (hj : j < ks.length), ∃ u, castTy cx ks[j] = some u ∧ ∀ x, castTy cx x = some u → castTyL cx (ks.set j x) = some h
 | [], h, _, j, hj => by simp at hj
 | t :: ts, h, he, j, hj => by
  rw [castTyL] at he
  split at he
  ·cases he
  ·rename_i u hu
   split at he
   ·cases he
   ·rename_i us hus
    cases he
    cases j with
    | zero => exact ⟨u, hu, fun x hx => by rw [List.set_cons_zero, castTyL, hx]; dsimp only; rw [hus]⟩
    | succ j =>
     obtain ⟨v, hv, hv2⟩ := castTyL_get hus j (by simpa using hj)
     exact ⟨v, hv, fun x hx => by rw [List.set_cons_succ, castTyL, hu]; dsimp only; rw [hv2 x hx]⟩
/-- Operands, cast where their types are not the wanted ones; labels are counted. -/
def mCasts : List Tm → List Ty → List Ty → Int → List Tm × Int
 | u :: us, a :: h, b :: w, l => if tSame a b = true then (u :: (mCasts us h w l).1, (mCasts us h w l).2) else (mCst u a b (l + 1) :: (mCasts us h w (l + 1)).1, (mCasts us h w (l + 1)).2)
 | us, _, _, l => (us, l)
/-- What becomes of a node. -/
def mElN (cx : Cx) (k : Int) (nm : ByteArray) (num : Int) (ty fr : Ty) (lb : Int) (us : List Tm) (h : List Ty) (l : Int) : Option (Tm × Ty × Int) :=
 match mNodeT cx k nm ty h with
 | none => none
 | some (w, t) => some (if k = 13 then (mCasts us h w l).1.getD 0 tm0 else .mk k nm num ty fr lb (mCasts us h w l).1, t, (mCasts us h w l).2)
mutual
/-- A term with casts, its type, the last label. -/
def mEl (cx : Cx) : Tm → Int → Option (Tm × Ty × Int)
 | .mk k nm num ty fr lb ks, l => match mElL (inCx cx k nm ty) ks l with
  | none => none
  | some (us, h, l') => mElN cx k nm num ty fr lb us h l'
def mElL (cx : Cx) : List Tm → Int → Option (List Tm × List Ty × Int)
 | [], l => some ([], [], l)
 | t :: ts, l => match mEl cx t l with
  | none => none
  | some (u, a, l') => match mElL cx ts l' with
   | none => none
   | some (us, h, l'') => some (u :: us, a :: h, l'')
end
def mInsert (e : Tm) : Option (Tm × Ty) := if termValid e = true then (match mEl [] e 0 with | some (u, t, _) => some (u, t) | none => none) else none
/- The type alone, as the reference looks for it. -/
def mTySN (cx : Cx) (k : Int) (nm : ByteArray) (ty : Ty) (h : List Ty) : Option Ty := match mWanted cx k nm ty h with
 | some (_, t) => if (k = 5 ∨ k = 10) ∧ tValid t = false then none else some t
 | none => none
mutual
def mTyS (cx : Cx) : Tm → Option Ty
 | .mk k nm num ty fr lb ks => match mTySL (inCx cx k nm ty) ks with
  | none => none
  | some h => mTySN cx k nm ty h
def mTySL (cx : Cx) : List Tm → Option (List Ty)
 | [] => some []
 | t :: ts => match mTyS cx t with
  | none => none
  | some a => match mTySL cx ts with
   | none => none
   | some h => some (a :: h)
end
theorem tScan_mk (k : Int) (ks : List Ty) (d : Int) : tScan (.mk k ks) d = (decide (d ≤ 4) && decide (tyOps k = ks.length) && tScanL ks (d + 1)) := by rw [tScan]
mutual
theorem tScan_up : ∀ (t : Ty) (d e : Int), e ≤ d → tScan t d = true → tScan t e = true
 | .mk k ks, d, e, h, hs => by
  rw [tScan_mk, Bool.and_eq_true, Bool.and_eq_true, decide_eq_true_eq, decide_eq_true_eq] at hs ⊢
  exact ⟨⟨by omega, hs.1.2⟩, tScanL_up ks (d + 1) (e + 1) (by omega) hs.2⟩
theorem tScanL_up : ∀ (ts : List Ty) (d e : Int), e ≤ d → tScanL ts d = true → tScanL ts e = true
 | [], d, e, h, hs => by rw [tScanL]
 | t :: ts, d, e, h, hs => by
  rw [tScanL, Bool.and_eq_true] at hs ⊢
  exact ⟨tScan_up t d e h hs.1, tScanL_up ts d e h hs.2⟩
end
def cxV (cx : Cx) : Prop := ∀ b ∈ cx, tValid b.2 = true
theorem castTy_inv {cx : Cx} {k : Int} {nm : ByteArray} {num : Int} {ty fr : Ty} {lb : Int} {ks : List Tm} {T : Ty} (h : castTy cx (.mk k nm num ty fr lb ks) = some T) :
  ∃ us, castTyL (inCx cx k nm ty) ks = some us ∧ (k = 14 → us.getD 0 ty0 = fr ∧ T = ty) ∧ (k ≠ 14 → tValid T = true ∧ ∃ w, mWanted cx k nm ty us = some (w, T) ∧ sameTo w us = true) := by
 rw [castTy] at h
 split at h
 ·cases h
 ·rename_i us hu
  refine ⟨us, hu, fun hk => ?_, fun hk => ?_⟩
  ·rw [if_pos hk] at h
   split at h
   ·rename_i hs; cases h; exact ⟨(tSame_iff _ _).1 hs, rfl⟩
   ·cases h
  ·rw [if_neg hk] at h
   split at h
   ·cases h
   ·rename_i w t hn
    split at h
    ·rename_i hs
     cases h
     obtain ⟨h1, h2⟩ := mNodeT_valid hn
     exact ⟨h1, w, h2, hs⟩
    ·cases h
theorem castTy_go' {cx : Cx} {k : Int} {nm : ByteArray} {num : Int} {ty fr : Ty} {lb : Int} {ks : List Tm} {T : Ty} {us w : List Ty} (hu : castTyL (inCx cx k nm ty) ks = some us) (hk : k ≠ 14) (hv : tValid T = true) (hw : mWanted cx k nm ty us = some (w, T)) (hs : sameTo w us = true) : castTy cx (.mk k nm num ty fr lb ks) = some T := by
 rw [castTy, hu]
 simp only [if_neg hk]
 unfold mNodeT
 rw [hw]
 simp only [hv, if_true, hs]
theorem castTyL_1 {cx : Cx} {a : Tm} {us : List Ty} (h : castTyL cx [a] = some us) : ∃ x, castTy cx a = some x ∧ us = [x] := by
 rw [castTyL] at h
 split at h
 ·cases h
 ·rename_i x hx
  rw [castTyL] at h
  simp only [Option.some.injEq] at h
  exact ⟨x, hx, h.symm⟩
theorem castTyL_2 {cx : Cx} {a b : Tm} {us : List Ty} (h : castTyL cx [a, b] = some us) : ∃ x y, castTy cx a = some x ∧ castTy cx b = some y ∧ us = [x, y] := by
 rw [castTyL] at h
 split at h
 ·cases h
 ·rename_i x hx
  split at h
  ·cases h
  ·rename_i vs hv
   obtain ⟨y, hy, rfl⟩ := castTyL_1 hv
   simp only [Option.some.injEq] at h
   exact ⟨x, y, hx, hy, h.symm⟩
theorem castTyL_3 {cx : Cx} {a b c : Tm} {us : List Ty} (h : castTyL cx [a, b, c] = some us) : ∃ x y z, castTy cx a = some x ∧ castTy cx b = some y ∧ castTy cx c = some z ∧ us = [x, y, z] := by
 rw [castTyL] at h
 split at h
 ·cases h
 ·rename_i x hx
  split at h
  ·cases h
  ·rename_i vs hv
   obtain ⟨y, z, hy, hz, rfl⟩ := castTyL_2 hv
   simp only [Option.some.injEq] at h
   exact ⟨x, y, z, hx, hy, hz, h.symm⟩
theorem castTyL_mk1 {cx : Cx} {a : Tm} {x : Ty} (h : castTy cx a = some x) : castTyL cx [a] = some [x] := by rw [castTyL, h]; rfl
theorem castTyL_mk2 {cx : Cx} {a b : Tm} {x y : Ty} (h : castTy cx a = some x) (h2 : castTy cx b = some y) : castTyL cx [a, b] = some [x, y] := by rw [castTyL, h, castTyL_mk1 h2]
mutual
theorem tCons_self : ∀ a : Ty, tCons a a = true
 | .mk k ks => by rw [tCons_mk, tConsL_self ks]; simp
theorem tConsL_self : ∀ xs : List Ty, tConsL xs xs = true
 | [] => rfl
 | a :: xs => by rw [tConsL, tCons_self a, tConsL_self xs]; rfl
end
theorem two_of {k : Int} {ks : List Ty} (hk : k = 4 ∨ k = 5) (h : tValid (.mk k ks) = true) : ∃ a b, ks = [a, b] ∧ tValid a = true ∧ tValid b = true := by
 unfold tValid at h ⊢
 rw [tScan_mk, Bool.and_eq_true, Bool.and_eq_true, decide_eq_true_eq, decide_eq_true_eq] at h
 have h2 : ks.length = 2 := by
  have : tyOps k = 2 := by rcases hk with rfl | rfl <;> rfl
  omega
 match ks, h2, h.2 with
 | [x, y], _, hL =>
  simp only [tScanL, Bool.and_eq_true] at hL
  exact ⟨x, y, rfl, tScan_up _ 2 1 (by omega) hL.1, tScan_up _ 2 1 (by omega) hL.2.1⟩
theorem leaf_of {k : Int} {ks : List Ty} (h : tValid (.mk k ks) = true) (hk : k ≠ 4) (hk5 : k ≠ 5) : (k = 1 ∨ k = 2 ∨ k = 3) ∧ ks = [] := by
 unfold tValid at h
 rw [tScan_mk, Bool.and_eq_true, Bool.and_eq_true, decide_eq_true_eq, decide_eq_true_eq] at h
 obtain ⟨h1, h2, h3⟩ := tyOps_spec k
 have hl := h.1.2
 have hk3 : k = 1 ∨ k = 2 ∨ k = 3 := by
  apply Classical.byContradiction
  intro hc
  rw [h3 (by omega) (by omega) (by omega) hk hk5] at hl; omega
 rw [h1 hk3] at hl
 exact ⟨hk3, List.length_eq_zero_iff.1 (by omega)⟩
theorem cv_valid {cx : Cx} {e : Tm} {T : Ty} (hc : cv e) (h : castTy cx e = some T) : tValid T = true := by
 obtain ⟨k, nm, num, ty, fr, lb, ks⟩ := e
 exact castTy_valid (fun hk => (hc.node.1.c14 hk).2.1) h
section inv
variable {cx : Cx} {nm : ByteArray} {num : Int} {ty fr : Ty} {lb : Int} {a b c : Tm} {T : Ty}
theorem sameTo1 {x y : Ty} (h : sameTo [x] [y] = true) : x = y := by
 simp only [sameTo, Bool.and_true] at h; exact (tSame_iff _ _).1 h
theorem sameTo2 {x y x' y' : Ty} (h : sameTo [x, y] [x', y'] = true) : x = x' ∧ y = y' := by
 simp only [sameTo, Bool.and_true, Bool.and_eq_true] at h; exact ⟨(tSame_iff _ _).1 h.1, (tSame_iff _ _).1 h.2⟩
theorem sameTo3 {x y z x' y' z' : Ty} (h : sameTo [x, y, z] [x', y', z'] = true) : x = x' ∧ y = y' ∧ z = z' := by
 simp only [sameTo, Bool.and_true, Bool.and_eq_true] at h; exact ⟨(tSame_iff _ _).1 h.1, (tSame_iff _ _).1 h.2.1, (tSame_iff _ _).1 h.2.2⟩
theorem sameTo_self : ∀ xs : List Ty, sameTo xs xs = true
 | [] => rfl
 | a :: xs => by rw [sameTo, tSame_self, sameTo_self xs]; rfl
theorem ty_app (h : castTy cx (.mk 6 nm num ty fr lb [a, b]) = some T) : ∃ A, castTy cx a = some (.mk 4 [A, T]) ∧ castTy cx b = some A := by
 obtain ⟨us, hu, _, hn⟩ := castTy_inv h
 rw [inCx, if_neg (by omega)] at hu
 obtain ⟨x, y, hx, hy, rfl⟩ := castTyL_2 hu
 obtain ⟨_, w, hw, hs⟩ := hn (by decide)
 unfold mWanted at hw
 simp only [show ¬((6 : Int) = 1) by decide, show ¬((6 : Int) = 2) by decide, show ¬((6 : Int) = 3 ∨ (6 : Int) = 4) by decide, show ¬((6 : Int) = 5) by decide, if_false, if_true, List.getD_cons_zero, List.getD_cons_succ] at hw
 split at hw
 ·rename_i p q hm
  split at hw
  ·cases hw
   obtain ⟨h1, h2⟩ := sameTo2 hs
   subst h1 h2
   exact ⟨_, hx, hy⟩
  ·cases hw
 ·cases hw
theorem ty_app_mk {A : Ty} (hv : tValid T = true) (ha : castTy cx a = some (.mk 4 [A, T])) (hb : castTy cx b = some A) : castTy cx (.mk 6 nm num ty fr lb [a, b]) = some T := by
 refine castTy_go' (us := [.mk 4 [A, T], A]) (w := [.mk 4 [A, T], A]) (castTyL_mk2 ha hb) (by decide) hv ?_ (sameTo_self _)
 unfold mWanted
 simp only [show ¬((6 : Int) = 1) by decide, show ¬((6 : Int) = 2) by decide, show ¬((6 : Int) = 3 ∨ (6 : Int) = 4) by decide, show ¬((6 : Int) = 5) by decide, if_false, if_true, List.getD_cons_zero, List.getD_cons_succ, mMatch_mk, tCons_self]
theorem ty_ar {k : Int} (hk : k = 7 ∨ k = 8) (h : castTy cx (.mk k nm num ty fr lb [a, b]) = some T) : castTy cx a = some tyInt ∧ castTy cx b = some tyInt ∧ T = if k = 8 then tyBool else tyInt := by
 obtain ⟨us, hu, _, hn⟩ := castTy_inv h
 rw [inCx, if_neg (by omega)] at hu
 obtain ⟨x, y, hx, hy, rfl⟩ := castTyL_2 hu
 obtain ⟨_, w, hw, hs⟩ := hn (by omega)
 unfold mWanted at hw
 rw [if_neg (by omega), if_neg (by omega), if_neg (by omega), if_neg (by omega), if_neg (by omega), if_pos hk] at hw
 split at hw
 ·cases hw
  obtain ⟨h1, h2⟩ := sameTo2 hs
  subst h1 h2
  exact ⟨hx, hy, rfl⟩
 ·cases hw
theorem ty_if (h : castTy cx (.mk 9 nm num ty fr lb [a, b, c]) = some T) : castTy cx a = some tyBool ∧ castTy cx b = some T ∧ castTy cx c = some T := by
 obtain ⟨us, hu, _, hn⟩ := castTy_inv h
 rw [inCx, if_neg (by omega)] at hu
 obtain ⟨x, y, z, hx, hy, hz, rfl⟩ := castTyL_3 hu
 obtain ⟨_, w, hw, hs⟩ := hn (by decide)
 unfold mWanted at hw
 rw [if_neg (by omega), if_neg (by omega), if_neg (by omega), if_neg (by omega), if_neg (by omega), if_neg (by omega), if_pos rfl] at hw
 split at hw
 ·cases hw
  obtain ⟨h1, h2, h3⟩ := sameTo3 hs
  simp only [List.getD_cons_zero, List.getD_cons_succ] at h2 h3 ⊢
  refine ⟨by rw [hx, h1], by rw [hy]; congr 1; exact h2.symm, by rw [hz]; congr 1; exact h3.symm⟩
 ·cases hw
theorem ty_pair (h : castTy cx (.mk 10 nm num ty fr lb [a, b]) = some T) : ∃ A B, castTy cx a = some A ∧ castTy cx b = some B ∧ T = .mk 5 [A, B] := by
 obtain ⟨us, hu, _, hn⟩ := castTy_inv h
 rw [inCx, if_neg (by omega)] at hu
 obtain ⟨x, y, hx, hy, rfl⟩ := castTyL_2 hu
 obtain ⟨_, w, hw, hs⟩ := hn (by decide)
 unfold mWanted at hw
 rw [if_neg (by omega), if_neg (by omega), if_neg (by omega), if_neg (by omega), if_neg (by omega), if_neg (by omega), if_neg (by omega), if_pos rfl] at hw
 cases hw
 exact ⟨x, y, hx, hy, rfl⟩
theorem ty_part {k : Int} (hk : k = 11 ∨ k = 12) (h : castTy cx (.mk k nm num ty fr lb [a]) = some T) : ∃ A B, castTy cx a = some (.mk 5 [A, B]) ∧ T = if k = 12 then B else A := by
 obtain ⟨us, hu, _, hn⟩ := castTy_inv h
 rw [inCx, if_neg (by omega)] at hu
 obtain ⟨x, hx, rfl⟩ := castTyL_1 hu
 obtain ⟨_, w, hw, hs⟩ := hn (by omega)
 unfold mWanted at hw
 rw [if_neg (by omega), if_neg (by omega), if_neg (by omega), if_neg (by omega), if_neg (by omega), if_neg (by omega), if_neg (by omega), if_neg (by omega), if_neg (by omega)] at hw
 split at hw
 ·rename_i p q hm
  cases hw
  have h1 := sameTo1 hs
  subst h1
  exact ⟨p, q, hx, rfl⟩
 ·cases hw
theorem ty_part_mk {k : Int} {A B : Ty} (hk : k = 11 ∨ k = 12) (hv : tValid (if k = 12 then B else A) = true) (h : castTy cx a = some (.mk 5 [A, B])) : castTy cx (.mk k nm num ty fr lb [a]) = some (if k = 12 then B else A) := by
 refine castTy_go' (us := [.mk 5 [A, B]]) (w := [.mk 5 [A, B]]) (by rw [inCx, if_neg (by omega)]; exact castTyL_mk1 h) (by omega) hv ?_ (sameTo_self _)
 unfold mWanted
 rw [if_neg (by omega), if_neg (by omega), if_neg (by omega), if_neg (by omega), if_neg (by omega), if_neg (by omega), if_neg (by omega), if_neg (by omega), if_neg (by omega)]
 simp only [List.getD_cons_zero, mMatch_mk, if_true, List.getD_cons_succ]
theorem ty_cast (h : castTy cx (.mk 14 nm num ty fr lb [a]) = some T) : castTy cx a = some fr ∧ T = ty := by
 obtain ⟨us, hu, hn, _⟩ := castTy_inv h
 obtain ⟨x, hx, rfl⟩ := castTyL_1 hu
 obtain ⟨h1, h2⟩ := hn rfl
 simp only [List.getD_cons_zero] at h1
 subst h1
 exact ⟨hx, h2⟩
theorem ty_cast_mk (h : castTy cx a = some fr) : castTy cx (.mk 14 nm num ty fr lb [a]) = some ty := by
 rw [castTy, show inCx cx 14 nm ty = cx from rfl, castTyL_mk1 h]
 simp only [if_true, List.getD_cons_zero, tSame_self]
theorem ty_lam (h : castTy cx (.mk 5 nm num ty fr lb [a]) = some T) : ∃ B, castTy (cx ++ [(nm, ty)]) a = some B ∧ T = .mk 4 [ty, B] := by
 obtain ⟨us, hu, _, hn⟩ := castTy_inv h
 rw [inCx, if_pos rfl] at hu
 obtain ⟨x, hx, rfl⟩ := castTyL_1 hu
 obtain ⟨_, w, hw, hs⟩ := hn (by decide)
 unfold mWanted at hw
 rw [if_neg (by omega), if_neg (by omega), if_neg (by omega), if_pos rfl] at hw
 cases hw
 exact ⟨x, hx, rfl⟩
theorem ty_var (h : castTy cx (.mk 1 nm num ty fr lb []) = some T) : mLook cx nm = some T := by
 obtain ⟨us, hu, _, hn⟩ := castTy_inv h
 obtain ⟨_, w, hw, hs⟩ := hn (by decide)
 unfold mWanted at hw
 rw [if_pos rfl] at hw
 split at hw
 ·rename_i t ht; cases hw; exact ht
 ·cases hw
theorem ty_num (h : castTy cx (.mk 2 nm num ty fr lb []) = some T) : T = tyInt := by
 obtain ⟨us, hu, _, hn⟩ := castTy_inv h
 obtain ⟨_, w, hw, hs⟩ := hn (by decide)
 cases hw; rfl
theorem ty_tru {k : Int} (hk : k = 3 ∨ k = 4) (h : castTy cx (.mk k nm num ty fr lb []) = some T) : T = tyBool := by
 obtain ⟨us, hu, _, hn⟩ := castTy_inv h
 obtain ⟨_, w, hw, hs⟩ := hn (by omega)
 rcases hk with rfl | rfl <;> (cases hw; rfl)
end inv
/- A type depends on what the names stand for, no more. -/
theorem mLook_snoc (cx : Cx) (x nm : ByteArray) (t : Ty) : mLook (cx ++ [(x, t)]) nm = if x = nm then some t else mLook cx nm := by
 unfold mLook
 rw [List.length_append, show ([(x, t)] : Cx).length = 1 from rfl]
 have hl : (cx ++ [(x, t)])[cx.length]? = some (x, t) := by rw [List.getElem?_append_right (Nat.le_refl _)]; simp
 by_cases h : x = nm
 ·rw [lookN_eq hl h, if_pos h]
 ·rw [lookN_ne hl h, if_neg h]
  have : ∀ n, n ≤ cx.length → lookN (cx ++ [(x, t)]) nm n = lookN cx nm n := by
   intro n
   induction n with
   | zero => intro _; rfl
   | succ n ih =>
    intro hn
    rw [lookN, lookN, List.getElem?_append_left (by omega), ih (by omega)]
  exact this _ (Nat.le_refl _)
theorem inCx_ext {cx cy : Cx} (h : ∀ x, mLook cx x = mLook cy x) (k : Int) (nm : ByteArray) (ty : Ty) : ∀ x, mLook (inCx cx k nm ty) x = mLook (inCx cy k nm ty) x := by
 intro x
 unfold inCx
 split
 ·rw [mLook_snoc, mLook_snoc, h]
 ·exact h x
theorem mNodeT_ext {cx cy : Cx} {k : Int} {nm : ByteArray} {ty : Ty} {h : List Ty} (he : mLook cx nm = mLook cy nm) : mNodeT cx k nm ty h = mNodeT cy k nm ty h := by
 unfold mNodeT mWanted
 rw [he]
mutual
theorem castTy_ext : ∀ (e : Tm) (cx cy : Cx), (∀ x, mLook cx x = mLook cy x) → castTy cx e = castTy cy e
 | .mk k nm num ty fr lb ks, cx, cy, h => by
  rw [castTy, castTy, castTyL_ext ks _ _ (inCx_ext h k nm ty)]
  split
  ·rfl
  ·rw [mNodeT_ext (h nm)]
theorem castTyL_ext : ∀ (ts : List Tm) (cx cy : Cx), (∀ x, mLook cx x = mLook cy x) → castTyL cx ts = castTyL cy ts
 | [], _, _, _ => by rw [castTyL, castTyL]
 | t :: ts, cx, cy, h => by rw [castTyL, castTyL, castTy_ext t cx cy h, castTyL_ext ts cx cy h]
end
/-- A name replaced by a closed term of its type. -/
theorem subst_wanted {cx cy : Cx} {k : Int} {nm : ByteArray} {ty : Ty} {h : List Ty} (hk : k ≠ 1) : mWanted cx k nm ty h = mWanted cy k nm ty h := by
 unfold mWanted
 rw [if_neg hk, if_neg hk]
theorem subst_node {cx cy : Cx} {k : Int} {nm : ByteArray} {ty : Ty} {h : List Ty} (hk : k ≠ 1) : mNodeT cx k nm ty h = mNodeT cy k nm ty h := by
 unfold mNodeT; rw [subst_wanted (cy := cy) hk]
mutual
theorem subst_ty {x : ByteArray} {A : Ty} {v : Tm} (hv : castTy [] v = some A) : ∀ (e : Tm) (cx cy : Cx) (T : Ty), cv e → (∀ y, y ≠ x → mLook cx y = mLook cy y) → mLook cx x = some A → castTy cx e = some T → castTy cy (mSubst x v e) = some T
 | .mk k nm num ty fr lb ks, cx, cy, T, hc, h, hx, ht => by
  have hkk := hc.node.2
  have hop := hc.node.1.ops
  rw [mSubst]
  by_cases h1 : k = 1 ∧ nm = x
  ·rw [if_pos h1]
   obtain ⟨rfl, rfl⟩ := h1
   have hks : ks = [] := List.length_eq_zero_iff.1 (by have : tmOps 1 = 0 := rfl; omega)
   subst hks
   have h2 := ty_var ht
   rw [hx] at h2
   cases h2
   have h3 := castTy_app cy v [] A hv
   rwa [List.append_nil] at h3
  ·rw [if_neg h1]
   by_cases h5 : k = 5 ∧ nm = x
   ·rw [if_pos h5]
    obtain ⟨rfl, rfl⟩ := h5
    rw [castTy] at ht ⊢
    rw [← castTyL_ext ks (inCx cx 5 nm ty) (inCx cy 5 nm ty) (fun y => by
     rw [inCx, inCx, if_pos rfl, if_pos rfl, mLook_snoc, mLook_snoc]
     by_cases hy : nm = y
     ·rw [if_pos hy, if_pos hy]
     ·rw [if_neg hy, if_neg hy]; exact h y (fun e => hy e.symm))]
    split at ht
    ·cases ht
    ·rename_i us hu
     rw [subst_node (cy := cx) (by decide)]
     exact ht
   ·rw [if_neg h5]
    rw [castTy] at ht ⊢
    have hin : ∀ us, castTyL (inCx cx k nm ty) ks = some us → castTyL (inCx cy k nm ty) (mSubstL x v ks) = some us := by
     intro us hu
     refine substL_ty hv ks _ _ us hkk ?_ ?_ hu
     ·intro y hy
      unfold inCx
      split
      ·rw [mLook_snoc, mLook_snoc, h y hy]
      ·exact h y hy
     ·unfold inCx
      split
      ·rename_i hk
       rw [mLook_snoc, if_neg (fun e => h5 ⟨hk, e⟩)]; exact hx
      ·exact hx
    split at ht
    ·cases ht
    ·rename_i us hu
     rw [hin us hu]
     simp only at ht ⊢
     by_cases hk1 : k = 1
     ·subst hk1
      have hn : nm ≠ x := fun e => h1 ⟨rfl, e⟩
      rw [mNodeT_ext (h nm hn)] at ht
      exact ht
     ·rw [subst_node (cy := cx) hk1]
      exact ht
theorem substL_ty {x : ByteArray} {A : Ty} {v : Tm} (hv : castTy [] v = some A) : ∀ (ts : List Tm) (cx cy : Cx) (us : List Ty), (∀ t ∈ ts, cv t) → (∀ y, y ≠ x → mLook cx y = mLook cy y) → mLook cx x = some A → castTyL cx ts = some us → castTyL cy (mSubstL x v ts) = some us
 | [], cx, cy, us, _, _, _, hu => by rw [castTyL] at hu; cases hu; rw [mSubstL, castTyL]
 | t :: ts, cx, cy, us, hc, h, hx, hu => by
  rw [castTyL] at hu
  split at hu
  ·cases hu
  ·rename_i T hT
   split at hu
   ·cases hu
   ·rename_i Ts hTs
    cases hu
    rw [mSubstL, castTyL, subst_ty hv t cx cy T (hc t List.mem_cons_self) h hx hT, substL_ty hv ts cx cy Ts (fun u hu => hc u (List.mem_cons_of_mem _ hu)) h hx hTs]
end
variable {P : Program} {G : IM}
/-- What is known of the memory that a call leaves may be forgotten. -/
theorem Fn.forget {f : FuncId} {args : List Value} {v0 : Value} {post : IM → Value → List Ent → Prop} (h : Fn P f args [] G post) (hv : ∀ G' v outs, post G' v outs → v = v0) : Fn P f args [] G (Val v0 G) := by
 refine ⟨fun w hw => (h.run w hw).mono ?_⟩
 rintro e w' ⟨u, G', outs, rfl, hres, hp⟩
 refine ⟨u, G, [], rfl, ⟨⟨fun b l hb => hres.own.inn b l (hres.le b l hb), by simp, by simp [Fp], by simp [Fp]⟩, hres.ext, IMle.refl _, fun _ _ h => .inl h, by simp [Fp], fun b l h h0 => absurd h (by rw [h0]; simp)⟩, rfl, hv _ _ _ hp, rfl⟩
/-- A term. -/
def TmP (t : Tm) : IM → Value → List Ent → Prop := Imm fun G' v => ∃ cells, v = .agg ⟨cells⟩ ∧ RTm G' t cells
theorem TmP.mk {G : IM} {t : Tm} {cells : List Value} (h : RTm G t cells) : TmP t G (.agg ⟨cells⟩) [] := ⟨rfl, cells, rfl, h⟩
def mGk (k : Int) : Ty := if k = 4 ∨ k = 5 then .mk k [tyAny, tyAny] else .mk k []
theorem rtm_nod {G : IM} {k : Int} {ks : List Tm} {p : Option Addr} {n c : Nat} {es : List (List Value)} (hk : I64 k) (hn : n = ks.length) (hs : SlE G p n c 9 es) (hr : RTmL G ks es) : RTm G (mNod k ks) [.int .i64 k, .string ⟨⟨[]⟩⟩, .int .i64 0, .int .i64 0, .slice none 0 0, .int .i64 0, .slice none 0 0, .int .i64 0, .slice p n c] := by
 subst hn
 simp only [mNod, RTm]
 exact ⟨[.int .i64 0, .slice none 0 0], [.int .i64 0, .slice none 0 0], p, c, es, rfl, hk, ⟨by decide, by decide⟩, ⟨by decide, by decide⟩, ty0_r G, ty0_r G, hs, hr⟩
theorem ground_fn (k : Int) (G : IM) (hk : I64 k) : Fn Tryz.prog 153 [.int .i64 k] [] G (Imm fun G' v => ∃ cells, v = .agg ⟨cells⟩ ∧ RTy G' (mGk k) cells) := by
 have hB := both_fn k tyAny tyAny G _ _ hk (tyAny_r G) (tyAny_r G)
 refine fn_enter Tryz.func153 rfl Tryz.ntmps153 Tryz.results153 rfl ?_
 intro w0
 refine tS (tR ?_)
 refine sE (step_alloc rfl) rfl (fun b3 => ?_)
 refine sD (nS (tS (tS (tR (sQ (qM rfl) rfl (sB (qE rfl rfl) rfl rfl (fun h10 => ?_) (fun h10 => ?_)))))))
 refine sQ (qM rfl) rfl (sK rfl rfl (sK rfl rfl (sQ (pPt rfl rfl) rfl (sD (nS (qT rfl ?_))))))
 refine tS (tR (sQ (qM rfl) rfl (seq_val rfl ((base_fn _ _)) rfl rfl ?_)))
 refine seq_val rfl ((base_fn _ _)) rfl rfl ?_
 (refine seq_imm rfl hB rfl rfl (fun v G1 hle1 hh => ?_); obtain ⟨cb, rfl, hrb⟩ := hh; obtain ⟨p1, c1, e1, rfl, _⟩ := hrb.open)
 refine sS' ?_
 refine sD (nS (tT (rS (rF1 (rC rfl (lBa rfl rfl)) ?_))))
 (exact ⟨rfl, _, rfl, by unfold mGk; rw [if_pos (by omega)]; exact hrb⟩)
 refine sQ (qM rfl) rfl (sQ (qM rfl) rfl (sB (qE rfl rfl) rfl rfl (fun h33 => ?_) (fun h33 => ?_)))
 refine sQ (pPf rfl rfl) rfl (sD (nS (qT rfl ?_)))
 refine tS (tR (sQ (qM rfl) rfl (seq_val rfl ((base_fn _ _)) rfl rfl ?_)))
 refine seq_val rfl ((base_fn _ _)) rfl rfl ?_
 (refine seq_imm rfl hB rfl rfl (fun v G1 hle1 hh => ?_); obtain ⟨cb, rfl, hrb⟩ := hh; obtain ⟨p1, c1, e1, rfl, _⟩ := hrb.open)
 refine sS' ?_
 refine sD (nS (tT (rS (rF1 (rC rfl (lBa rfl rfl)) ?_))))
 (exact ⟨rfl, _, rfl, by unfold mGk; rw [if_pos (by omega)]; exact hrb⟩)
 refine sQ (pPf rfl rfl) rfl (sD (nS (cF rfl ?_)))
 refine tK (nS (tS (tR (sQ (qM rfl) rfl (seq_val rfl ((base_fn _ _)) rfl rfl ?_)))))
 refine sS' ?_
 refine sD (nS (tT (rF1 (rC rfl (lBa rfl rfl)) ?_)))
 (exact ⟨rfl, _, rfl, by unfold mGk; rw [if_neg (by omega)]; exact tyLeaf_r _ hk⟩)
theorem isGround_fn (t : Ty) (G : IM) (cells : List Value) (hr : RTy G t cells) : Fn Tryz.prog 111 [.agg ⟨cells⟩] [] G (Val (.bool (isGrd t)) G) := by
 refine Fn.forget (post := Imm fun _ v => v = .bool (isGrd t)) ?_ (fun _ _ _ h => h.2)
 have hr0 := hr
 obtain ⟨tk, tks⟩ := t
 obtain ⟨p, c, es, rfl, hk, _⟩ := hr.open
 simp only [Ty.k, Ty.ks] at hk hr0 ⊢
 rw [show isGrd (.mk tk tks) = (decide (tk ≠ 1) && tSame (.mk tk tks) (mGk tk)) from rfl]
 refine fn_enter Tryz.func111 rfl Tryz.ntmps111 Tryz.results111 rfl ?_
 intro w0
 refine tS (tR ?_)
 refine sE (step_box_a rfl rfl) rfl (fun b3 => ?_)
 refine sQ (qA rfl) rfl (sD (nS (tS (tri_draw mixed rfl ?_))))
 refine any_pure (i := 0) (l' := [tt,ff,ff,ff,ff,ff,ff,ff,ff,ff,ff]) rfl npI (qF0 rfl) rfl (by kernel_rfl) rfl rfl ?_
 refine aL 1 rfl (lBs rfl rfl) rfl ?_
 refine any_bool (i := 2) (l' := [tt,tt,tt,ff,ff,ff,ff,ff,ff,ff,ff]) rfl npI (pure_neq rfl rfl) rfl (by kernel_rfl) rfl rfl (fun h11 => ?_) (fun h11 => ?_)
 refine aP 3 rfl (qM rfl) rfl ?_
 refine aL 4 rfl (lBa rfl rfl) rfl ?_
 refine aP 5 rfl (qF0 rfl) rfl ?_
 refine aL 6 rfl (lBs rfl rfl) rfl ?_
 refine aO' 7 ?_
 (refine one_imm rfl rfl (ground_fn tk G hk) rfl rfl rfl (fun v G1 hle1 hh => ?_); obtain ⟨cg, rfl, hrg⟩ := hh; have hT := typeSameX_fn (.mk tk tks) (mGk tk) G1 _ _ (hr0.mono hle1) hrg; obtain ⟨pg, cgg, eg, rfl, _⟩ := hrg.open)
 refine aO' 8 ?_
 refine one_val rfl rfl (hT) rfl rfl rfl ?_
 refine aP 9 rfl (pPt rfl rfl) rfl ?_
 refine aP 10 rfl (qA rfl) rfl ?_
 refine aD' ?_
 refine nS (tT (rF1 (rT rfl) ?_))
 (exact ⟨rfl, by rw [decide_eq_true (by omega), Bool.true_and]⟩)
 refine aP 3 rfl (qM rfl) rfl ?_
 refine aK' 4 rfl rfl rfl ?_
 refine aK' 5 rfl rfl rfl ?_
 refine aK' 6 rfl rfl rfl ?_
 refine aK' 7 rfl rfl rfl ?_
 refine aK' 8 rfl rfl rfl ?_
 refine aP 9 rfl (pPf rfl rfl) rfl ?_
 refine aP 10 rfl (qA rfl) rfl ?_
 refine aD' ?_
 refine nS (tT (rF1 (rT rfl) ?_))
 (exact ⟨rfl, by rw [decide_eq_false (by omega), Bool.false_and]⟩)
theorem isProxy_fn (t : Tm) (G : IM) (cells : List Value) (hr : RTm G t cells) : Fn Tryz.prog 69 [.agg ⟨cells⟩] [] G (Val (.bool (prx t)) G) := by
 obtain ⟨k, nm, num, ⟨tk, tks⟩, ⟨fk, fks⟩, lb, ks⟩ := t
 obtain ⟨pt, ct, pf, cf, p, c, es, rfl, hk, hnum, hlb, hty, hfr, hsl, hkl⟩ := hr.open9
 have hd : prx (.mk k nm num (.mk tk tks) (.mk fk fks) lb ks) = decide (k = 14 ∧ fk = tk ∧ (tk = 4 ∨ tk = 5)) := rfl
 rw [hd]
 refine fn_enter Tryz.func69 rfl Tryz.ntmps69 Tryz.results69 rfl ?_
 intro w0
 refine tS (tR ?_)
 refine sE (step_box_a rfl rfl) rfl (fun b3 => ?_)
 refine sQ (qA rfl) rfl (sD (nS (tS (tR (sQ (qF0 rfl) rfl (sL (lBs rfl rfl) rfl rfl ?_))))))
 refine sB (qE rfl rfl) rfl rfl (fun h11 => ?_) (fun h11 => ?_)
 refine sQ (qM rfl) rfl (sQ (qF0 rfl) rfl (sQ (qF rfl) rfl (sL (lBs rfl rfl) rfl rfl ?_)))
 refine sQ (qF0 rfl) rfl (sQ (qF rfl) rfl (sL (lBs rfl rfl) rfl rfl ?_))
 refine sB (qE rfl rfl) rfl rfl (fun h19 => ?_) (fun h19 => ?_)
 refine sQ (pPt rfl rfl) rfl (sQ (qM rfl) rfl (sQ (qF0 rfl) rfl (sQ (qF rfl) rfl (sL (lBs rfl rfl) rfl rfl ?_))))
 refine sB (qE rfl rfl) rfl rfl (fun h25 => ?_) (fun h25 => ?_)
 refine sQ (qM rfl) rfl (sK rfl rfl (sK rfl rfl (sK rfl rfl (sK rfl rfl (sQ (pPt rfl rfl) rfl (sQ (pPt rfl rfl) rfl ?_))))))
 refine sQ (qA rfl) rfl (sD (nS (tT (rF1 (rT rfl) ?_))))
 (exact ⟨rfl, by rw [decide_eq_true (by omega)], rfl⟩)
 refine sQ (qM rfl) rfl (sQ (qF0 rfl) rfl (sQ (qF rfl) rfl (sL (lBs rfl rfl) rfl rfl ?_)))
 refine sB (qE rfl rfl) rfl rfl (fun h43 => ?_) (fun h43 => ?_)
 refine sQ (pPf rfl rfl) rfl (sQ (pPt rfl rfl) rfl (sQ (qA rfl) rfl (sD (nS (tT (rF1 (rT rfl) ?_))))))
 (exact ⟨rfl, by rw [decide_eq_true (by omega)], rfl⟩)
 refine sQ (pPf rfl rfl) rfl (sQ (pPt rfl rfl) rfl (sQ (qA rfl) rfl (sD (nS (tT (rF1 (rT rfl) ?_))))))
 (exact ⟨rfl, by rw [decide_eq_false (by omega)], rfl⟩)
 refine sQ (pPt rfl rfl) rfl (sQ (qM rfl) rfl (sK rfl rfl (sK rfl rfl (sK rfl rfl (sK rfl rfl (sK rfl rfl ?_))))))
 refine sK rfl rfl (sK rfl rfl (sK rfl rfl (sK rfl rfl (sK rfl rfl (sQ (pPf rfl rfl) rfl (sQ (qA rfl) rfl ?_))))))
 refine sD (nS (tT (rF1 (rT rfl) ?_)))
 (exact ⟨rfl, by rw [decide_eq_false (by omega)], rfl⟩)
 refine sQ (qM rfl) rfl (sK rfl rfl (sK rfl rfl (sK rfl rfl (sK rfl rfl (sK rfl rfl (sK rfl rfl ?_))))))
 refine sK rfl rfl (sQ (pPf rfl rfl) rfl (sQ (qM rfl) rfl (sK rfl rfl (sK rfl rfl (sK rfl rfl (sK rfl rfl ?_))))))
 refine sK rfl rfl (sK rfl rfl (sK rfl rfl (sK rfl rfl (sK rfl rfl (sK rfl rfl (sQ (pPf rfl rfl) rfl ?_))))))
 refine sQ (qA rfl) rfl (sD (nS (tT (rF1 (rT rfl) ?_))))
 (exact ⟨rfl, by rw [decide_eq_false (by omega)], rfl⟩)
theorem isInjection_fn (t : Tm) (G : IM) (cells : List Value) (hr : RTm G t cells) : Fn Tryz.prog 70 [.agg ⟨cells⟩] [] G (Val (.bool (inj t)) G) := by
 obtain ⟨k, nm, num, ⟨tk, tks⟩, ⟨fk, fks⟩, lb, ks⟩ := t
 obtain ⟨pt, ct, pf, cf, p, c, es, rfl, hk, hnum, hlb, hty, hfr, hsl, hkl⟩ := hr.open9
 have hd : inj (.mk k nm num (.mk tk tks) (.mk fk fks) lb ks) = (decide (k = 14 ∧ tk = 1) && isGrd (.mk fk fks)) := rfl
 rw [hd]
 refine fn_enter Tryz.func70 rfl Tryz.ntmps70 Tryz.results70 rfl ?_
 intro w0
 refine tS (tR ?_)
 refine sE (step_box_a rfl rfl) rfl (fun b3 => ?_)
 refine sQ (qA rfl) rfl (sD (nS (tS (tR (sQ (qF0 rfl) rfl (sL (lBs rfl rfl) rfl rfl ?_))))))
 refine sB (qE rfl rfl) rfl rfl (fun h11 => ?_) (fun h11 => ?_)
 refine sQ (qM rfl) rfl (sQ (qF0 rfl) rfl (sQ (qF rfl) rfl (sL (lBs rfl rfl) rfl rfl ?_)))
 refine sB (qE rfl rfl) rfl rfl (fun h16 => ?_) (fun h16 => ?_)
 refine sQ (pPt rfl rfl) rfl (sQ (qM rfl) rfl (sQ (qF0 rfl) rfl (sL (lBa rfl rfl) rfl rfl ?_)))
 refine seq_val rfl ((isGround_fn (.mk fk fks) G _ hfr)) rfl rfl ?_
 refine sQ (pPt rfl rfl) rfl (sQ (qA rfl) rfl (sD (nS (tT (rF1 (rT rfl) ?_)))))
 (exact ⟨rfl, by rw [decide_eq_true (by omega), Bool.true_and], rfl⟩)
 refine sQ (pPt rfl rfl) rfl (sQ (qM rfl) rfl (sK rfl rfl (sK rfl rfl (sK rfl rfl (sQ (pPf rfl rfl) rfl (sQ (qA rfl) rfl ?_))))))
 refine sD (nS (tT (rF1 (rT rfl) ?_)))
 (exact ⟨rfl, by rw [decide_eq_false (by omega), Bool.false_and], rfl⟩)
 refine sQ (qM rfl) rfl (sK rfl rfl (sK rfl rfl (sK rfl rfl (sK rfl rfl (sQ (pPf rfl rfl) rfl (sQ (qM rfl) rfl ?_))))))
 refine sK rfl rfl (sK rfl rfl (sK rfl rfl (sQ (pPf rfl rfl) rfl (sQ (qA rfl) rfl (sD (nS ?_))))))
 refine tT (rF1 (rT rfl) ?_)
 (exact ⟨rfl, by rw [decide_eq_false (by omega), Bool.false_and], rfl⟩)
theorem isPlain_fn (t : Tm) (G : IM) (cells : List Value) (hr : RTm G t cells) : Fn Tryz.prog 73 [.agg ⟨cells⟩] [] G (Val (.bool (decide (t.k = 2 ∨ t.k = 3 ∨ t.k = 4 ∨ t.k = 5))) G) := by
 obtain ⟨k, nm, num, ⟨tk, tks⟩, ⟨fk, fks⟩, lb, ks⟩ := t
 obtain ⟨pt, ct, pf, cf, p, c, es, rfl, hk, hnum, hlb, hty, hfr, hsl, hkl⟩ := hr.open9
 rw [show (Tm.mk k nm num (.mk tk tks) (.mk fk fks) lb ks).k = k from rfl]
 refine fn_enter Tryz.func73 rfl Tryz.ntmps73 Tryz.results73 rfl ?_
 intro w0
 refine tS (tR ?_)
 refine sE (step_box_a rfl rfl) rfl (fun b3 => ?_)
 refine sQ (qA rfl) rfl (sD (nS (tS (tR (sQ (qF0 rfl) rfl (sL (lBs rfl rfl) rfl rfl ?_))))))
 refine sB (qE rfl rfl) rfl rfl (fun h11 => ?_) (fun h11 => ?_)
 refine sQ (qM rfl) rfl (sK rfl rfl (sK rfl rfl (sK rfl rfl (sQ (pPt rfl rfl) rfl (sQ (qM rfl) rfl (sK rfl rfl ?_))))))
 refine sK rfl rfl (sK rfl rfl (sQ (pPt rfl rfl) rfl (sQ (qM rfl) rfl (sK rfl rfl (sK rfl rfl (sK rfl rfl ?_))))))
 refine sQ (pPt rfl rfl) rfl (sQ (qA rfl) rfl (sD (nS (tT (rF1 (rT rfl) ?_)))))
 (exact ⟨rfl, by rw [decide_eq_true (by omega)], rfl⟩)
 refine sQ (qM rfl) rfl (sQ (qF0 rfl) rfl (sL (lBs rfl rfl) rfl rfl ?_))
 refine sB (qE rfl rfl) rfl rfl (fun h36 => ?_) (fun h36 => ?_)
 refine sQ (pPf rfl rfl) rfl (sQ (qM rfl) rfl (sK rfl rfl (sK rfl rfl (sK rfl rfl (sQ (pPt rfl rfl) rfl (sQ (qM rfl) rfl ?_))))))
 refine sK rfl rfl (sK rfl rfl (sK rfl rfl (sQ (pPt rfl rfl) rfl (sQ (qA rfl) rfl (sD (nS ?_))))))
 refine tT (rF1 (rT rfl) ?_)
 (exact ⟨rfl, by rw [decide_eq_true (by omega)], rfl⟩)
 refine sQ (pPf rfl rfl) rfl (sQ (qM rfl) rfl (sQ (qF0 rfl) rfl (sL (lBs rfl rfl) rfl rfl ?_)))
 refine sB (qE rfl rfl) rfl rfl (fun h58 => ?_) (fun h58 => ?_)
 refine sQ (pPf rfl rfl) rfl (sQ (qM rfl) rfl (sK rfl rfl (sK rfl rfl (sK rfl rfl (sQ (pPt rfl rfl) rfl (sQ (qA rfl) rfl ?_))))))
 refine sD (nS (tT (rF1 (rT rfl) ?_)))
 (exact ⟨rfl, by rw [decide_eq_true (by omega)], rfl⟩)
 refine sQ (pPf rfl rfl) rfl (sQ (qM rfl) rfl (sQ (qF0 rfl) rfl (sL (lBs rfl rfl) rfl rfl ?_)))
 refine sB (qE rfl rfl) rfl rfl (fun h75 => ?_) (fun h75 => ?_)
 refine sQ (pPf rfl rfl) rfl (sQ (qA rfl) rfl (sD (nS (tT (rF1 (rT rfl) ?_)))))
 (exact ⟨rfl, by rw [decide_eq_true (by omega)], rfl⟩)
 refine sQ (pPf rfl rfl) rfl (sQ (qA rfl) rfl (sD (nS (tT (rF1 (rT rfl) ?_)))))
 (exact ⟨rfl, by rw [decide_eq_false (by omega)], rfl⟩)
end Gw
end Go.Proofs.YthpdjmbpbdbodaaGreatDoor
