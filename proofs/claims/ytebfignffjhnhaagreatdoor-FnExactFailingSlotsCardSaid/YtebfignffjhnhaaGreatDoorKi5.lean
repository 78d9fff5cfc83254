/-
  The program's evaluator: the rules of casts. The program's evaluator: the rules of casts, selections and casts themselves. The program's evaluator: a step. The program's evaluator: step. The program's evaluator: StepCast, runs of steps, their results. The program's insertion of casts. ReplaceAt: the program's and the reference model's. Nodes at paths, in plain words: paths concatenate. Replacing a node, in plain words: what is put is found, and putting back undoes. A closed term's type is its type everywhere; a node replaced by one of its type leaves the type. Terms with casts: what a type says of a node. Types are kept by steps; a closed term with a type does not get stuck, and what is blamed is a label of its casts. A term with its casts put in is valid, and has the type that the term has. CastTypeOf. The program's InsertCasts, TypeOf. The configurations of a term: the program's. A number for each configuration: the program's.
-/
import Derived.Test.YtebfignffjhnhaaGreatDoorKi4
import Derived.Test.YtebfignffjhnhaaGreatDoorKi3
import Derived.Test.YtebfignffjhnhaaGreatDoorKi2
set_option linter.unusedVariables false
set_option linter.unusedSimpArgs false
set_option maxHeartbeats 0
set_option maxRecDepth 100000
set_option synthInstance.maxSize 4000
set_option synthInstance.maxHeartbeats 0
namespace Go.Proofs.YtebfignffjhnhaaGreatDoor
open Go Go.RowKit
namespace Gw
section
variable {P : Program} {Γ : K8} {K : Po} {ops : Array Oper} {env : L6} {hp : List A5} {G : IM}
theorem A0W {H : List (Nat × Nat)} {fuel j : Nat} {listed : List Bool} {hp' : List A5} {p : Option Addr} {c el sz n : Nat} {cs : List Value} (hk : Pk hp (.slc p c el sz n cs) hp')
  (h : ∀ G', C5 G G' → Sl G' p n c sz cs → (∀ b ∈ I0 p, G b = none ∧ G' b ≠ none) → S8 P Γ ops K H fuel listed j ⟨env, hp', G'⟩) : S8 P Γ ops K H fuel listed j ⟨env, hp, G⟩ :=
 ⟨fun a w hs => let ⟨G', h1, h2, h3, h4⟩ := hs.freeze hk; (h G' h2 h3 h4).run a w h1⟩
end
theorem C2.kids {G : IM} {t : Ty} {a : Value} {p : Option Addr} {n c : Nat} (h : C2 G t [a, .slice p n c]) : ∃ es, C8 G p t.ks.length c 2 es ∧ C7 G t.ks es := by
 obtain ⟨p', c', es, he, _, h1, h2⟩ := h.open
 simp only [List.cons.injEq, Value.slice.injEq, and_true] at he
 obtain ⟨_, rfl, _, rfl⟩ := he
 exact ⟨es, h1, h2⟩
def X5 (k : Int) (ty fr : Ty) (lb : Int) (ks : List Tm) : Stp :=
 if k = 6 then
  (if P6 (kd ks 0) = true ∧ (kd ks 0).ty.k = 4 then (K6 (A0f 6 [kd (kd ks 0).ks 0, K6 (kd ks 1) (kt (kd ks 0).ty.ks 0) (kt (kd ks 0).fr.ks 0) (-(kd ks 0).lb)]) (kt (kd ks 0).fr.ks 1) (kt (kd ks 0).ty.ks 1) (kd ks 0).lb, 1, 0) else P7)
 else if k = 11 ∨ k = 12 then
  (if P6 (kd ks 0) = true ∧ (kd ks 0).ty.k = 5 then (K6 (A0f k [kd (kd ks 0).ks 0]) (kt (kd ks 0).fr.ks (k - 11).toNat) (kt (kd ks 0).ty.ks (k - 11).toNat) (kd ks 0).lb, 1, 0) else P7)
 else if k = 14 then
  (if fr.k = ty.k then (kd ks 0, 1, 0)
   else if ty.k = 1 then (K6 (K6 (kd ks 0) fr (T5 fr) lb) (T5 fr) ty lb, 1, 0)
   else if V5 ty = false then (K6 (K6 (kd ks 0) fr (T5 ty) lb) (T5 ty) ty lb, 1, 0)
   else if inj (kd ks 0) = false then P7
   else if (kd ks 0).fr.k = ty.k then (kd (kd ks 0).ks 0, 1, 0)
   else (L0, 2, lb))
 else P7
theorem B38 (k : Int) (ty fr : Ty) (lb : Int) (ks : List Tm) : N9 k ty fr lb ks = match W5 k ks with | some u => (u, 1, 0) | none => X5 k ty fr lb ks := by
 unfold N9 W5 X5
 by_cases h6 : k = 6
 ·rw [if_pos h6, if_pos h6, if_pos h6]
  by_cases h : (kd ks 0).k = 5
  ·rw [if_pos h, if_pos h]
  ·rw [if_neg h, if_neg h]
 rw [if_neg h6, if_neg h6, if_neg h6]
 by_cases h7 : k = 7 ∨ k = 8
 ·rw [if_pos h7, if_pos h7]
  by_cases h : (kd ks 0).k = 2 ∧ (kd ks 1).k = 2
  ·rw [if_pos h, if_pos h]
  ·rw [if_neg h, if_neg h]; simp only; rw [if_neg (by omega), if_neg (by omega)]
 rw [if_neg h7, if_neg h7]
 by_cases h9 : k = 9
 ·rw [if_pos h9, if_pos h9]
  by_cases h : (kd ks 0).k = 3
  ·rw [if_pos h, if_pos h]
  ·rw [if_neg h, if_neg h]
   by_cases h' : (kd ks 0).k = 4
   ·rw [if_pos h', if_pos h']
   ·rw [if_neg h', if_neg h']; simp only; rw [if_neg (by omega), if_neg (by omega)]
 rw [if_neg h9, if_neg h9]
 by_cases h11 : k = 11 ∨ k = 12
 ·rw [if_pos h11, if_pos h11, if_pos h11]
  by_cases h : (kd ks 0).k = 10
  ·rw [if_pos h, if_pos h]
  ·rw [if_neg h, if_neg h]
 rw [if_neg h11, if_neg h11, if_neg h11]
def T7 (r : Stp) : IM → Value → List A5 → Prop := L5 fun G' v => ∃ u cells, v = .tuple ⟨[.agg ⟨cells⟩, .int .i64 r.2.1, .int .i64 r.2.2]⟩ ∧ B3 G' u cells ∧ (r.2.1 = 1 → u = r.1)
theorem T7.mk {G : IM} {r : Stp} {u : Tm} {cells : List Value} {c l : Int} (h : r = (u, c, l)) (hr : B3 G u cells) : T7 r G (.tuple ⟨[.agg ⟨cells⟩, .int .i64 c, .int .i64 l]⟩) [] := by
 subst h; exact ⟨rfl, u, cells, rfl, hr, fun _ => rfl⟩
theorem A1T {ks : List Tm} {i : Nat} (h : i < ks.length) : kd ks i = ks[i] := by unfold kd; rw [List.getD_eq_getElem?_getD, List.getElem?_eq_getElem h, Option.getD_some]
theorem A0K {ks : List Ty} {i : Nat} (h : i < ks.length) : kt ks i = ks[i] := by unfold kt; rw [List.getD_eq_getElem?_getD, List.getElem?_eq_getElem h, Option.getD_some]
theorem A9A {t : Ty} (h : V5 t = true) : t = T5 t := by
 unfold V5 at h
 rw [Bool.and_eq_true] at h
 exact (A2T _ _).1 h.2
theorem A9B {Q : Prop} (h : Q := by (exact T7.mk (by rw [if_pos hq, A1T (by omega), A0K (by omega), A0K (by omega), A0K (by omega), A0K (by omega)]) hrw)) : Q := h
theorem A3a {Q : Prop} (h : Q := by (exact T7.mk (by rw [if_neg (by omega)]; rfl) (O0 _))) : Q := h
theorem B39 (a b : Tm) (nm : ByteArray) (num : Int) (ty fr : Ty) (lb : Int) (G : IM) (cells : List Value) (hca : cv a) (hr : B3 G (.mk 6 nm num ty fr lb [a, b]) cells) : Fn Tryz.prog 230 [.agg ⟨cells⟩] [] G (T7 (X5 6 ty fr lb [a, b])) := by
 obtain ⟨ak, anm, anum, ⟨atk, atks⟩, ⟨afk, afks⟩, alb, aks⟩ := a
 obtain ⟨hN, hkk⟩ := hca.node
 have hops := hN.ops
 have hbl := hN.lbB
 have htyA := hN.tyA
 have hfrA := hN.frA
 rw [F8] at htyA hfrA
 have h14 : ak = 14 → aks.length = 1 := fun h => by rw [h] at hops; have : F0 14 = 1 := rfl; omega
 obtain ⟨tk, tks⟩ := ty
 obtain ⟨fk, fks⟩ := fr
 obtain ⟨pt, ct, pf, cf, p, c, es, rfl, hk, hnum, hlb, hty, hfr, hsl, hkl⟩ := hr.open9
 obtain ⟨bx, ox, e0, rfl, hl0, hat0, hre0, hgb0⟩ := hsl.kidTm hkl (i := 0) (by simp) (by simp)
 replace hre0 : B3 G (Tm.mk ak anm anum (.mk atk atks) (.mk afk afks) alb aks) e0 := hre0
 have hP : Fn Tryz.prog 106 [.agg ⟨e0⟩] [] G (E5 (.bool (decide (ak = 14 ∧ afk = atk ∧ (atk = 4 ∨ atk = 5)))) G) := A2u _ G _ hre0
 obtain ⟨apt, act, apf, acf, ap, ac, aes, rfl, hak, hanum, halb, haty, hafr, hasl, hakl⟩ := hre0.open9
 obtain ⟨tes, htS, htL⟩ := haty.kids
 obtain ⟨fes, hfS, hfL⟩ := hafr.kids
 simp only [Ty.ks] at htS htL hfS hfL
 obtain ⟨_, _, e1, hp1, hl1, hat1, hre1, hgb1⟩ := hsl.kidTm hkl (i := 1) (by simp) (by simp)
 cases hp1
 replace hre1 : B3 G b e1 := hre1
 have ho1 := hre1.one
 have hR : X5 6 (.mk tk tks) (.mk fk fks) lb [Tm.mk ak anm anum (.mk atk atks) (.mk afk afks) alb aks, b] = (if (ak = 14 ∧ afk = atk ∧ (atk = 4 ∨ atk = 5)) ∧ atk = 4 then (K6 (A0f 6 [kd aks 0, K6 b (kt atks 0) (kt afks 0) (-alb)]) (kt afks 1) (kt atks 1) alb, 1, 0) else P7) := by
  unfold X5
  rw [if_pos rfl, show kd [Tm.mk ak anm anum (.mk atk atks) (.mk afk afks) alb aks, b] 0 = Tm.mk ak anm anum (.mk atk atks) (.mk afk afks) alb aks from rfl, A1w]
  simp only [decide_eq_true_eq]
  rfl
 rw [hR]
 refine B8 Tryz.func230 rfl Tryz.ntmps230 Tryz.results230 rfl ?_
 intro w0
 refine A2 ?_
 refine sE (C6 rfl rfl) rfl (fun b3 => ?_)
 refine sE (A6 rfl) rfl (fun b4 => ?_)
 refine D0 ?_
 refine sP (B2 (j := 0) rfl rfl rfl (by simp)) rfl rfl ?_
 refine sL (A0 rfl rfl (hat0 _) rfl) rfl rfl ?_
 refine sE (A6 rfl) rfl (fun b15 => ?_)
 refine B6 ?_
 refine B7 ?_
 refine B6 ?_
 refine sP (A0l rfl rfl (by omega)) rfl rfl ?_
 refine A2 ?_
 focus (by_cases hpx : (ak = 14 ∧ afk = atk ∧ (atk = 4 ∨ atk = 5)); rw [decide_eq_true hpx] at hP; rotate_left; rw [decide_eq_false hpx] at hP; rotate_left; all_goals (refine H4 rfl hP rfl rfl ?_))
 refine B0 ?_
 refine sB (qE rfl rfl) rfl rfl (fun h34 => ?_) (fun h34 => ?_)
 refine A7 ?_
 (have hq : (ak = 14 ∧ afk = atk ∧ (atk = 4 ∨ atk = 5)) ∧ atk = 4 := ⟨hpx, by omega⟩; have hq1 := h14 hq.1.1; have hq2 := htyA.1 (by omega); have hq3 := hfrA.1 (by omega); obtain ⟨bq, oq, e3, rfl, hl3, hat3, hre3, hgb3⟩ := hasl.kidTm hakl (i := 0) (by omega) (by omega); have ho3 := hre3.one; obtain ⟨b5, o5, q5, d5, rfl, hat5, hre5, hgb5⟩ := htS.kidTy htL (i := 0) (by omega) (by omega); obtain ⟨_, _, q6, d6, hp6, hat6, hre6, hgb6⟩ := htS.kidTy htL (i := 1) (by omega) (by omega); cases hp6; obtain ⟨b7, o7, q7, d7, rfl, hat7, hre7, hgb7⟩ := hfS.kidTy hfL (i := 0) (by omega) (by omega); obtain ⟨_, _, q8, d8, hp8, hat8, hre8, hgb8⟩ := hfS.kidTy hfL (i := 1) (by omega) (by omega); cases hp8; obtain ⟨x1, x2, x3, x4, x5, x6, x7, x8, x9, rfl⟩ := T6 hl3; obtain ⟨y1, y2, y3, y4, y5, y6, y7, y8, y9, rfl⟩ := T6 hl1; refine E1 E3 rfl ?_)
 refine K2 (i := 0) (l' := [tt,ff,ff,ff,ff,ff,ff,ff,ff,ff,ff,ff]) rfl D5 (C0 rfl) rfl (by kernel_rfl) rfl rfl ?_
 refine aL 1 rfl (C9 rfl rfl) rfl ?_
 refine aP 2 rfl (B2 (j := 0) rfl rfl rfl (by omega)) rfl ?_
 refine aL 3 rfl (A0 rfl rfl (hat3 _) rfl) rfl ?_
 refine aP 4 rfl (C0 rfl) rfl ?_
 refine aL 5 rfl (C9 rfl rfl) rfl ?_
 refine aP 6 rfl (B2 (j := 1) rfl rfl rfl (by simp)) rfl ?_
 refine aL 7 rfl (A0 rfl rfl (hat1 _) rfl) rfl ?_
 refine P9 (j := 8) (j' := 9) (by kernel_rfl) ?_ ?_
 (refine E6 rfl (A6 rfl) rfl rfl ?_; rintro _ ⟨b51, rfl⟩)
 refine A3 9 ?_
 (refine E6 rfl (A6 rfl) rfl rfl ?_; rintro _ ⟨b53, rfl⟩)
 refine A3 10 ?_
 (refine oS rfl rfl rfl rfl rfl ho3 rfl rfl ?_ (hu := by exact D8 rfl.symm))
 refine A3 11 ?_
 (refine oS rfl rfl rfl rfl rfl ho1 rfl rfl ?_ (hu := by exact D8 rfl.symm))
 refine B9 ?_
 refine E1 E3 rfl ?_
 refine K9 (i := 0) (l' := [tt,ff,ff,ff,ff,ff,ff,ff,ff,ff,ff,ff,ff,ff,ff,ff,ff,ff,ff,ff,ff,ff,ff,ff,ff,ff,ff,ff,ff,ff,ff,ff,ff,ff]) rfl D5 (A0 rfl rfl (B1 (by repeat first | exact mH | apply mT)) rfl) rfl (by kernel_rfl) rfl rfl ?_
 refine aL 1 rfl (A0 rfl rfl (B1 (by repeat first | exact mH | apply mT)) rfl) rfl ?_
 refine aP 2 rfl (C0 rfl) rfl ?_
 refine aP 3 rfl (qF rfl) rfl ?_
 refine aL 4 rfl (C9 rfl rfl) rfl ?_
 refine aP 5 rfl (B2 (j := 0) rfl rfl rfl (by omega)) rfl ?_
 refine aL 6 rfl (A0 rfl rfl (hat5 _) rfl) rfl ?_
 refine aP 7 rfl (C0 rfl) rfl ?_
 refine aP 8 rfl (qF rfl) rfl ?_
 refine aL 9 rfl (C9 rfl rfl) rfl ?_
 refine aP 10 rfl (B2 (j := 0) rfl rfl rfl (by omega)) rfl ?_
 refine aL 11 rfl (A0 rfl rfl (hat7 _) rfl) rfl ?_
 refine aP 12 rfl (C0 rfl) rfl ?_
 refine aL 13 rfl (C9 rfl rfl) rfl ?_
 refine aP 14 rfl (A3V rfl (by omega) (by omega)) rfl ?_
 refine aP 18 rfl (C0 rfl) rfl ?_
 refine aP 19 rfl (qF rfl) rfl ?_
 refine aL 20 rfl (C9 rfl rfl) rfl ?_
 refine aP 21 rfl (B2 (j := 1) rfl rfl rfl (by omega)) rfl ?_
 refine aL 22 rfl (A0 rfl rfl (hat8 _) rfl) rfl ?_
 refine aP 23 rfl (C0 rfl) rfl ?_
 refine aP 24 rfl (qF rfl) rfl ?_
 refine aL 25 rfl (C9 rfl rfl) rfl ?_
 refine aP 26 rfl (B2 (j := 1) rfl rfl rfl (by omega)) rfl ?_
 refine aL 27 rfl (A0 rfl rfl (hat6 _) rfl) rfl ?_
 refine aP 28 rfl (C0 rfl) rfl ?_
 refine aL 29 rfl (C9 rfl rfl) rfl ?_
 refine A3 15 ?_
 (refine H2 rfl rfl (A09 b atks[0] afks[0] (-alb) G _ _ _ ⟨by omega, by omega⟩ hre1 hre5 hre7) rfl rfl rfl (fun u G1 hle1 hh => ?_); obtain ⟨uc, rfl, hru⟩ := hh; have hul := hru.len; have huo := hru.one; obtain ⟨z1, z2, z3, z4, z5, z6, z7, z8, z9, rfl⟩ := T6 hul; replace hre3 := hre3.mono hle1; replace hre6 := hre6.mono hle1; replace hre8 := hre8.mono hle1)
 refine A3 16 ?_
 (refine E6 rfl (E2 rfl rfl rfl (by omega) (by unfold maxLen; omega) rfl) rfl rfl ?_; rintro _ ⟨b92, rfl⟩)
 refine A3 17 ?_
 (refine A0W (cs := [x1, x2, x3, x4, x5, x6, x7, x8, x9, z1, z2, z3, z4, z5, z6, z7, z8, z9]) (by repeat (first | exact Pk.here | apply Pk.there)) (fun G2 hle2 hsl2 hno2 => ?_); have hrN := A0J (k := 6) (ks := [aks[0], K6 b atks[0] afks[0] (-alb)]) (es := [[x1, x2, x3, x4, x5, x6, x7, x8, x9], [z1, z2, z3, z4, z5, z6, z7, z8, z9]]) ⟨by decide, by decide⟩ rfl (C8.of hsl2 rfl (by simp) (by intro x hx; rcases List.mem_cons.1 hx with rfl | hx; exact ho3; obtain rfl := List.mem_singleton.1 hx; exact huo)) (by simp only [D7]; exact ⟨_, _, rfl, hre3.mono hle2, _, _, rfl, hru.mono hle2, rfl⟩); replace hre6 := hre6.mono hle2; replace hre8 := hre8.mono hle2; refine M5 rfl rfl (A29 _ _ _ _ _) rfl rfl rfl ?_)
 refine A3 30 ?_
 (refine H2 rfl rfl (A09 _ afks[1] atks[1] alb G2 _ _ _ ⟨by omega, by omega⟩ hrN hre8 hre6) rfl rfl rfl (fun u G3 hle3 hh => ?_); obtain ⟨wc, rfl, hrw⟩ := hh; have hwl := hrw.len; have hwo := hrw.one)
 refine A3 31 ?_
 (refine oS rfl rfl rfl rfl hwl hwo rfl rfl ?_ (hu := by exact D8 hwl.symm))
 refine aP 32 rfl (qA rfl) rfl ?_
 refine aP 33 rfl (qA rfl) rfl ?_
 refine B0 ?_
 refine D2 (rC rfl (A0 rfl rfl (B1 (by repeat first | exact mH | apply mT)) hwl)) (rT rfl) (rT rfl) ?_
 exact A9B
 (refine E6 rfl (A6 rfl) rfl rfl ?_; rintro _ ⟨b108, rfl⟩)
 refine A3 8 ?_
 (refine E6 rfl (A6 rfl) rfl rfl ?_; rintro _ ⟨b110, rfl⟩)
 refine A3 10 ?_
 (refine oS rfl rfl rfl rfl rfl ho3 rfl rfl ?_ (hu := by exact D8 rfl.symm))
 refine A3 11 ?_
 (refine oS rfl rfl rfl rfl rfl ho1 rfl rfl ?_ (hu := by exact D8 rfl.symm))
 refine B9 ?_
 refine E1 E3 rfl ?_
 refine K9 (i := 0) (l' := [tt,ff,ff,ff,ff,ff,ff,ff,ff,ff,ff,ff,ff,ff,ff,ff,ff,ff,ff,ff,ff,ff,ff,ff,ff,ff,ff,ff,ff,ff,ff,ff,ff,ff]) rfl D5 (A0 rfl rfl (B1 (by repeat first | exact mH | apply mT)) rfl) rfl (by kernel_rfl) rfl rfl ?_
 refine aL 1 rfl (A0 rfl rfl (B1 (by repeat first | exact mH | apply mT)) rfl) rfl ?_
 refine aP 2 rfl (C0 rfl) rfl ?_
 refine aP 3 rfl (qF rfl) rfl ?_
 refine aL 4 rfl (C9 rfl rfl) rfl ?_
 refine aP 5 rfl (B2 (j := 0) rfl rfl rfl (by omega)) rfl ?_
 refine aL 6 rfl (A0 rfl rfl (hat5 _) rfl) rfl ?_
 refine aP 7 rfl (C0 rfl) rfl ?_
 refine aP 8 rfl (qF rfl) rfl ?_
 refine aL 9 rfl (C9 rfl rfl) rfl ?_
 refine aP 10 rfl (B2 (j := 0) rfl rfl rfl (by omega)) rfl ?_
 refine aL 11 rfl (A0 rfl rfl (hat7 _) rfl) rfl ?_
 refine aP 12 rfl (C0 rfl) rfl ?_
 refine aL 13 rfl (C9 rfl rfl) rfl ?_
 refine aP 14 rfl (A3V rfl (by omega) (by omega)) rfl ?_
 refine aP 18 rfl (C0 rfl) rfl ?_
 refine aP 19 rfl (qF rfl) rfl ?_
 refine aL 20 rfl (C9 rfl rfl) rfl ?_
 refine aP 21 rfl (B2 (j := 1) rfl rfl rfl (by omega)) rfl ?_
 refine aL 22 rfl (A0 rfl rfl (hat8 _) rfl) rfl ?_
 refine aP 23 rfl (C0 rfl) rfl ?_
 refine aP 24 rfl (qF rfl) rfl ?_
 refine aL 25 rfl (C9 rfl rfl) rfl ?_
 refine aP 26 rfl (B2 (j := 1) rfl rfl rfl (by omega)) rfl ?_
 refine aL 27 rfl (A0 rfl rfl (hat6 _) rfl) rfl ?_
 refine aP 28 rfl (C0 rfl) rfl ?_
 refine aL 29 rfl (C9 rfl rfl) rfl ?_
 refine A3 15 ?_
 (refine H2 rfl rfl (A09 b atks[0] afks[0] (-alb) G _ _ _ ⟨by omega, by omega⟩ hre1 hre5 hre7) rfl rfl rfl (fun u G1 hle1 hh => ?_); obtain ⟨uc, rfl, hru⟩ := hh; have hul := hru.len; have huo := hru.one; obtain ⟨z1, z2, z3, z4, z5, z6, z7, z8, z9, rfl⟩ := T6 hul; replace hre3 := hre3.mono hle1; replace hre6 := hre6.mono hle1; replace hre8 := hre8.mono hle1)
 refine A3 16 ?_
 (refine E6 rfl (E2 rfl rfl rfl (by omega) (by unfold maxLen; omega) rfl) rfl rfl ?_; rintro _ ⟨b149, rfl⟩)
 refine A3 17 ?_
 (refine A0W (cs := [x1, x2, x3, x4, x5, x6, x7, x8, x9, z1, z2, z3, z4, z5, z6, z7, z8, z9]) (by repeat (first | exact Pk.here | apply Pk.there)) (fun G2 hle2 hsl2 hno2 => ?_); have hrN := A0J (k := 6) (ks := [aks[0], K6 b atks[0] afks[0] (-alb)]) (es := [[x1, x2, x3, x4, x5, x6, x7, x8, x9], [z1, z2, z3, z4, z5, z6, z7, z8, z9]]) ⟨by decide, by decide⟩ rfl (C8.of hsl2 rfl (by simp) (by intro x hx; rcases List.mem_cons.1 hx with rfl | hx; exact ho3; obtain rfl := List.mem_singleton.1 hx; exact huo)) (by simp only [D7]; exact ⟨_, _, rfl, hre3.mono hle2, _, _, rfl, hru.mono hle2, rfl⟩); replace hre6 := hre6.mono hle2; replace hre8 := hre8.mono hle2; refine M5 rfl rfl (A29 _ _ _ _ _) rfl rfl rfl ?_)
 refine A3 30 ?_
 (refine H2 rfl rfl (A09 _ afks[1] atks[1] alb G2 _ _ _ ⟨by omega, by omega⟩ hrN hre8 hre6) rfl rfl rfl (fun u G3 hle3 hh => ?_); obtain ⟨wc, rfl, hrw⟩ := hh; have hwl := hrw.len; have hwo := hrw.one)
 refine A3 31 ?_
 (refine oS rfl rfl rfl rfl hwl hwo rfl rfl ?_ (hu := by exact D8 hwl.symm))
 refine aP 32 rfl (qA rfl) rfl ?_
 refine aP 33 rfl (qA rfl) rfl ?_
 refine B0 ?_
 refine D2 (rC rfl (A0 rfl rfl (B1 (by repeat first | exact mH | apply mT)) hwl)) (rT rfl) (rT rfl) ?_
 exact A9B
 refine D9 ?_
 refine sP (J1 rfl rfl (by omega)) rfl rfl ?_
 refine B9 ?_
 refine sP (J1 rfl rfl (by omega)) rfl rfl ?_
 refine A0o ?_
 refine sP (A0m rfl rfl (by omega)) rfl rfl ?_
 refine H1 ?_
 refine D2 (rC rfl (A4 rfl rfl)) (rT rfl) (rT rfl) ?_
 exact A3a
 refine H1 ?_
 refine sP (J1 rfl rfl (by omega)) rfl rfl ?_
 refine B9 ?_
 refine sP (J1 rfl rfl (by omega)) rfl rfl ?_
 refine A0o ?_
 refine sP (A0m rfl rfl (by omega)) rfl rfl ?_
 refine H1 ?_
 refine D2 (rC rfl (A4 rfl rfl)) (rT rfl) (rT rfl) ?_
 exact A3a
theorem A9C {Q : Prop} (h : Q := by (exact T7.mk (by rw [if_pos hq, A1T (by omega), A0K (by omega), A0K (by omega)]) hrw)) : Q := h
theorem A9D (k : Int) (a : Tm) (nm : ByteArray) (num : Int) (ty fr : Ty) (lb : Int) (G : IM) (cells : List Value) (hk1 : k = 11 ∨ k = 12) (hca : cv a) (hr : B3 G (.mk k nm num ty fr lb [a]) cells) : Fn Tryz.prog 230 [.agg ⟨cells⟩] [] G (T7 (X5 k ty fr lb [a])) := by
 obtain ⟨ak, anm, anum, ⟨atk, atks⟩, ⟨afk, afks⟩, alb, aks⟩ := a
 obtain ⟨hN, hkk⟩ := hca.node
 have hops := hN.ops
 have hbl := hN.lbB
 have htyA := hN.tyA
 have hfrA := hN.frA
 rw [F8] at htyA hfrA
 have h14 : ak = 14 → aks.length = 1 := fun h => by rw [h] at hops; have : F0 14 = 1 := rfl; omega
 obtain ⟨tk, tks⟩ := ty
 obtain ⟨fk, fks⟩ := fr
 obtain ⟨pt, ct, pf, cf, p, c, es, rfl, hk, hnum, hlb, hty, hfr, hsl, hkl⟩ := hr.open9
 obtain ⟨bx, ox, e0, rfl, hl0, hat0, hre0, hgb0⟩ := hsl.kidTm hkl (i := 0) (by simp) (by simp)
 replace hre0 : B3 G (Tm.mk ak anm anum (.mk atk atks) (.mk afk afks) alb aks) e0 := hre0
 have hP : Fn Tryz.prog 106 [.agg ⟨e0⟩] [] G (E5 (.bool (decide (ak = 14 ∧ afk = atk ∧ (atk = 4 ∨ atk = 5)))) G) := A2u _ G _ hre0
 have hI := A3O _ G _ hre0
 have ho0 := hre0.one
 obtain ⟨apt, act, apf, acf, ap, ac, aes, rfl, hak, hanum, halb, haty, hafr, hasl, hakl⟩ := hre0.open9
 have hfk64 : H3 fk := by obtain ⟨_, _, _, _, h, _⟩ := hfr.open; exact h
 have htk64 : H3 tk := by obtain ⟨_, _, _, _, h, _⟩ := hty.open; exact h
 obtain ⟨tes, htS, htL⟩ := haty.kids
 obtain ⟨fes, hfS, hfL⟩ := hafr.kids
 simp only [Ty.ks] at htS htL hfS hfL
 obtain ⟨i, hi⟩ : ∃ i : Nat, (k - 11).toNat = i := ⟨_, rfl⟩
 have hR : X5 k (.mk tk tks) (.mk fk fks) lb [Tm.mk ak anm anum (.mk atk atks) (.mk afk afks) alb aks] = (if (ak = 14 ∧ afk = atk ∧ (atk = 4 ∨ atk = 5)) ∧ atk = 5 then (K6 (A0f k [kd aks 0]) (kt afks i) (kt atks i) alb, 1, 0) else P7) := by
  unfold X5
  rw [if_neg (by omega), if_pos hk1, hi, show kd [Tm.mk ak anm anum (.mk atk atks) (.mk afk afks) alb aks] 0 = Tm.mk ak anm anum (.mk atk atks) (.mk afk afks) alb aks from rfl, A1w]
  simp only [decide_eq_true_eq]
  rfl
 rw [hR]
 refine B8 Tryz.func230 rfl Tryz.ntmps230 Tryz.results230 rfl ?_
 intro w0
 refine A2 ?_
 refine sE (C6 rfl rfl) rfl (fun b3 => ?_)
 refine sE (A6 rfl) rfl (fun b4 => ?_)
 refine D0 ?_
 refine sP (B2 (j := 0) rfl rfl rfl (by simp)) rfl rfl ?_
 refine sL (A0 rfl rfl (hat0 _) rfl) rfl rfl ?_
 refine sE (A6 rfl) rfl (fun b15 => ?_)
 refine B6 ?_
 refine B7 ?_
 refine B6 ?_
 refine sP (J1 rfl rfl (by omega)) rfl rfl ?_
 refine U6 ?_
 refine sB (qE rfl rfl) rfl rfl (fun h44 => ?_) (fun h44 => ?_)
 refine A9 ?_
 focus (by_cases hpx : (ak = 14 ∧ afk = atk ∧ (atk = 4 ∨ atk = 5)); rw [decide_eq_true hpx] at hP; rotate_left; rw [decide_eq_false hpx] at hP; rotate_left; all_goals (refine H4 rfl hP rfl rfl ?_))
 refine B0 ?_
 refine sB (qE rfl rfl) rfl rfl (fun h58 => ?_) (fun h58 => ?_)
 refine D9 ?_
 refine sP (V9 rfl rfl (by omega) (by omega)) rfl rfl ?_
 refine B6 ?_
 (have hq : (ak = 14 ∧ afk = atk ∧ (atk = 4 ∨ atk = 5)) ∧ atk = 5 := ⟨hpx, by omega⟩; have hq1 := h14 hq.1.1; have hq2 := htyA.1 (by omega); have hq3 := hfrA.1 (by omega); rw [show (k - 11 : Int) = ((i : Nat) : Int) from (by omega)]; obtain ⟨bq, oq, e3, rfl, hl3, hat3, hre3, hgb3⟩ := hasl.kidTm hakl (i := 0) (by omega) (by omega); have ho3 := hre3.one; obtain ⟨b5, o5, q5, d5, rfl, hat5, hre5, hgb5⟩ := htS.kidTy htL (i := i) (by omega) (by omega); obtain ⟨b7, o7, q7, d7, rfl, hat7, hre7, hgb7⟩ := hfS.kidTy hfL (i := i) (by omega) (by omega); obtain ⟨x1, x2, x3, x4, x5, x6, x7, x8, x9, rfl⟩ := T6 hl3; refine E1 E3 rfl ?_)
 refine K2 (i := 0) (l' := [tt,ff,ff,ff,ff,ff,ff,ff,ff,ff,ff,ff,ff,ff,ff,ff,ff,ff,ff,ff,ff,ff,ff,ff,ff,ff]) rfl D5 (C0 rfl) rfl (by kernel_rfl) rfl rfl ?_
 refine aL 1 rfl (C9 rfl rfl) rfl ?_
 refine aP 2 rfl (C0 rfl) rfl ?_
 refine aL 3 rfl (C9 rfl rfl) rfl ?_
 refine aP 4 rfl (B2 (j := 0) rfl rfl rfl (by omega)) rfl ?_
 refine aL 5 rfl (A0 rfl rfl (hat3 _) rfl) rfl ?_
 refine aP 8 rfl (C0 rfl) rfl ?_
 refine aP 9 rfl (qF rfl) rfl ?_
 refine aL 10 rfl (C9 rfl rfl) rfl ?_
 refine aP 11 rfl (qM rfl) rfl ?_
 refine aP 12 rfl (B2 (j := i) rfl rfl rfl (by omega)) rfl ?_
 refine aL 13 rfl (A0 rfl rfl (hat7 _) rfl) rfl ?_
 refine aP 14 rfl (C0 rfl) rfl ?_
 refine aP 15 rfl (qF rfl) rfl ?_
 refine aL 16 rfl (C9 rfl rfl) rfl ?_
 refine aP 17 rfl (qM rfl) rfl ?_
 refine aP 18 rfl (B2 (j := i) rfl rfl rfl (by omega)) rfl ?_
 refine aL 19 rfl (A0 rfl rfl (hat5 _) rfl) rfl ?_
 refine aP 20 rfl (C0 rfl) rfl ?_
 refine aL 21 rfl (C9 rfl rfl) rfl ?_
 refine A3 6 ?_
 (refine E6 rfl (E2 rfl rfl rfl (by omega) (by unfold maxLen; omega) rfl) rfl rfl ?_; rintro _ ⟨b95, rfl⟩)
 refine A3 7 ?_
 (refine A0W (cs := [x1, x2, x3, x4, x5, x6, x7, x8, x9]) (by repeat (first | exact Pk.here | apply Pk.there)) (fun G2 hle2 hsl2 hno2 => ?_); have hrN := A0J (k := k) (ks := [aks[0]]) (es := [[x1, x2, x3, x4, x5, x6, x7, x8, x9]]) hk rfl (C8.of hsl2 rfl (by simp) (by intro x hx; obtain rfl := List.mem_singleton.1 hx; exact ho3)) (by simp only [D7]; exact ⟨_, _, rfl, hre3.mono hle2, rfl⟩); replace hre5 := hre5.mono hle2; replace hre7 := hre7.mono hle2; refine M5 rfl rfl (A29 _ _ _ _ _) rfl rfl rfl ?_)
 refine A3 22 ?_
 (refine H2 rfl rfl (A09 _ afks[i] atks[i] alb G2 _ _ _ ⟨by omega, by omega⟩ hrN hre7 hre5) rfl rfl rfl (fun u G3 hle3 hh => ?_); obtain ⟨wc, rfl, hrw⟩ := hh; have hwl := hrw.len; have hwo := hrw.one)
 refine A3 23 ?_
 (refine oS rfl rfl rfl rfl hwl hwo rfl rfl ?_ (hu := by exact D8 hwl.symm))
 refine aP 24 rfl (qA rfl) rfl ?_
 refine aP 25 rfl (qA rfl) rfl ?_
 refine B0 ?_
 refine D2 (rC rfl (A0 rfl rfl (B1 (by repeat first | exact mH | apply mT)) hwl)) (rT rfl) (rT rfl) ?_
 exact A9C
 refine D9 ?_
 refine sP (A0m rfl rfl (by omega)) rfl rfl ?_
 refine H1 ?_
 refine D2 (rC rfl (A4 rfl rfl)) (rT rfl) (rT rfl) ?_
 exact A3a
 refine H1 ?_
 refine sP (A0m rfl rfl (by omega)) rfl rfl ?_
 refine H1 ?_
 refine D2 (rC rfl (A4 rfl rfl)) (rT rfl) (rT rfl) ?_
 exact A3a
 refine B9 ?_
 refine sP (A0l rfl rfl (by omega)) rfl rfl ?_
 refine B9 ?_
 focus (by_cases hpx : (ak = 14 ∧ afk = atk ∧ (atk = 4 ∨ atk = 5)); rw [decide_eq_true hpx] at hP; rotate_left; rw [decide_eq_false hpx] at hP; rotate_left; all_goals (refine H4 rfl hP rfl rfl ?_))
 refine B0 ?_
 refine sB (qE rfl rfl) rfl rfl (fun h184 => ?_) (fun h184 => ?_)
 refine D9 ?_
 refine sP (V9 rfl rfl (by omega) (by omega)) rfl rfl ?_
 refine B6 ?_
 (have hq : (ak = 14 ∧ afk = atk ∧ (atk = 4 ∨ atk = 5)) ∧ atk = 5 := ⟨hpx, by omega⟩; have hq1 := h14 hq.1.1; have hq2 := htyA.1 (by omega); have hq3 := hfrA.1 (by omega); rw [show (k - 11 : Int) = ((i : Nat) : Int) from (by omega)]; obtain ⟨bq, oq, e3, rfl, hl3, hat3, hre3, hgb3⟩ := hasl.kidTm hakl (i := 0) (by omega) (by omega); have ho3 := hre3.one; obtain ⟨b5, o5, q5, d5, rfl, hat5, hre5, hgb5⟩ := htS.kidTy htL (i := i) (by omega) (by omega); obtain ⟨b7, o7, q7, d7, rfl, hat7, hre7, hgb7⟩ := hfS.kidTy hfL (i := i) (by omega) (by omega); obtain ⟨x1, x2, x3, x4, x5, x6, x7, x8, x9, rfl⟩ := T6 hl3; refine E1 E3 rfl ?_)
 refine K2 (i := 0) (l' := [tt,ff,ff,ff,ff,ff,ff,ff,ff,ff,ff,ff,ff,ff,ff,ff,ff,ff,ff,ff,ff,ff,ff,ff,ff,ff]) rfl D5 (C0 rfl) rfl (by kernel_rfl) rfl rfl ?_
 refine aL 1 rfl (C9 rfl rfl) rfl ?_
 refine aP 2 rfl (C0 rfl) rfl ?_
 refine aL 3 rfl (C9 rfl rfl) rfl ?_
 refine aP 4 rfl (B2 (j := 0) rfl rfl rfl (by omega)) rfl ?_
 refine aL 5 rfl (A0 rfl rfl (hat3 _) rfl) rfl ?_
 refine aP 8 rfl (C0 rfl) rfl ?_
 refine aP 9 rfl (qF rfl) rfl ?_
 refine aL 10 rfl (C9 rfl rfl) rfl ?_
 refine aP 11 rfl (qM rfl) rfl ?_
 refine aP 12 rfl (B2 (j := i) rfl rfl rfl (by omega)) rfl ?_
 refine aL 13 rfl (A0 rfl rfl (hat7 _) rfl) rfl ?_
 refine aP 14 rfl (C0 rfl) rfl ?_
 refine aP 15 rfl (qF rfl) rfl ?_
 refine aL 16 rfl (C9 rfl rfl) rfl ?_
 refine aP 17 rfl (qM rfl) rfl ?_
 refine aP 18 rfl (B2 (j := i) rfl rfl rfl (by omega)) rfl ?_
 refine aL 19 rfl (A0 rfl rfl (hat5 _) rfl) rfl ?_
 refine aP 20 rfl (C0 rfl) rfl ?_
 refine aL 21 rfl (C9 rfl rfl) rfl ?_
 refine A3 6 ?_
 (refine E6 rfl (E2 rfl rfl rfl (by omega) (by unfold maxLen; omega) rfl) rfl rfl ?_; rintro _ ⟨b221, rfl⟩)
 refine A3 7 ?_
 (refine A0W (cs := [x1, x2, x3, x4, x5, x6, x7, x8, x9]) (by repeat (first | exact Pk.here | apply Pk.there)) (fun G2 hle2 hsl2 hno2 => ?_); have hrN := A0J (k := k) (ks := [aks[0]]) (es := [[x1, x2, x3, x4, x5, x6, x7, x8, x9]]) hk rfl (C8.of hsl2 rfl (by simp) (by intro x hx; obtain rfl := List.mem_singleton.1 hx; exact ho3)) (by simp only [D7]; exact ⟨_, _, rfl, hre3.mono hle2, rfl⟩); replace hre5 := hre5.mono hle2; replace hre7 := hre7.mono hle2; refine M5 rfl rfl (A29 _ _ _ _ _) rfl rfl rfl ?_)
 refine A3 22 ?_
 (refine H2 rfl rfl (A09 _ afks[i] atks[i] alb G2 _ _ _ ⟨by omega, by omega⟩ hrN hre7 hre5) rfl rfl rfl (fun u G3 hle3 hh => ?_); obtain ⟨wc, rfl, hrw⟩ := hh; have hwl := hrw.len; have hwo := hrw.one)
 refine A3 23 ?_
 (refine oS rfl rfl rfl rfl hwl hwo rfl rfl ?_ (hu := by exact D8 hwl.symm))
 refine aP 24 rfl (qA rfl) rfl ?_
 refine aP 25 rfl (qA rfl) rfl ?_
 refine B0 ?_
 refine D2 (rC rfl (A0 rfl rfl (B1 (by repeat first | exact mH | apply mT)) hwl)) (rT rfl) (rT rfl) ?_
 exact A9C
 refine D9 ?_
 refine sP (A0m rfl rfl (by omega)) rfl rfl ?_
 refine H1 ?_
 refine D2 (rC rfl (A4 rfl rfl)) (rT rfl) (rT rfl) ?_
 exact A3a
 refine H1 ?_
 refine sP (A0m rfl rfl (by omega)) rfl rfl ?_
 refine H1 ?_
 refine D2 (rC rfl (A4 rfl rfl)) (rT rfl) (rT rfl) ?_
 exact A3a
theorem A4G {t : Tm} (h : inj t = true) : t.k = 14 := by
 unfold inj at h
 simp only [Bool.and_eq_true, decide_eq_true_eq] at h
 exact h.1.1
theorem B4a {t u : Ty} (h : V5 t = true) (h' : V5 u = true) : M2 t u = decide (t.k = u.k) := by
 have e1 := A9A h
 have e2 := A9A h'
 by_cases hk : t.k = u.k
 ·rw [decide_eq_true hk, A2T, e1, e2]
  unfold T5; rw [hk]
 ·rw [decide_eq_false hk]
  cases hs : M2 t u with
  | false => rfl
  | true => exact absurd (congrArg Ty.k ((A2T _ _).1 hs)) hk
theorem A9E {t : Tm} (h : inj t = true) : V5 t.fr = true := by
 unfold inj at h
 rw [Bool.and_eq_true] at h
 exact h.2
theorem B4b (a : Tm) (nm : ByteArray) (num : Int) (ty fr : Ty) (lb : Int) (G : IM) (cells : List Value) (hca : cv a) (hlb9 : -99 ≤ lb ∧ lb ≤ 99) (hr : B3 G (.mk 14 nm num ty fr lb [a]) cells) : Fn Tryz.prog 230 [.agg ⟨cells⟩] [] G (T7 (X5 14 ty fr lb [a])) := by
 have hji := @A9E a
 have hjk := @A4G a
 obtain ⟨ak, anm, anum, ⟨atk, atks⟩, ⟨afk, afks⟩, alb, aks⟩ := a
 obtain ⟨hN, hkk⟩ := hca.node
 have hops := hN.ops
 have hbl := hN.lbB
 have htyA := hN.tyA
 have hfrA := hN.frA
 rw [F8] at htyA hfrA
 have h14 : ak = 14 → aks.length = 1 := fun h => by rw [h] at hops; have : F0 14 = 1 := rfl; omega
 obtain ⟨tk, tks⟩ := ty
 obtain ⟨fk, fks⟩ := fr
 obtain ⟨pt, ct, pf, cf, p, c, es, rfl, hk, hnum, hlb, hty, hfr, hsl, hkl⟩ := hr.open9
 obtain ⟨bx, ox, e0, rfl, hl0, hat0, hre0, hgb0⟩ := hsl.kidTm hkl (i := 0) (by simp) (by simp)
 replace hre0 : B3 G (Tm.mk ak anm anum (.mk atk atks) (.mk afk afks) alb aks) e0 := hre0
 have hP : Fn Tryz.prog 106 [.agg ⟨e0⟩] [] G (E5 (.bool (decide (ak = 14 ∧ afk = atk ∧ (atk = 4 ∨ atk = 5)))) G) := A2u _ G _ hre0
 have hI := A3O _ G _ hre0
 have ho0 := hre0.one
 obtain ⟨apt, act, apf, acf, ap, ac, aes, rfl, hak, hanum, halb, haty, hafr, hasl, hakl⟩ := hre0.open9
 have hfk64 : H3 fk := by obtain ⟨_, _, _, _, h, _⟩ := hfr.open; exact h
 have htk64 : H3 tk := by obtain ⟨_, _, _, _, h, _⟩ := hty.open; exact h
 obtain ⟨tes, htS, htL⟩ := haty.kids
 obtain ⟨fes, hfS, hfL⟩ := hafr.kids
 simp only [Ty.ks] at htS htL hfS hfL
 obtain ⟨J, hJ⟩ : ∃ J, inj (Tm.mk ak anm anum (.mk atk atks) (.mk afk afks) alb aks) = J := ⟨_, rfl⟩
 obtain ⟨D, hD⟩ : ∃ D, V5 (.mk tk tks) = D := ⟨_, rfl⟩
 have hGr := A9s _ G _ hty
 rw [hD] at hGr
 rw [hJ] at hI hji hjk
 have hR : X5 14 (.mk tk tks) (.mk fk fks) lb [Tm.mk ak anm anum (.mk atk atks) (.mk afk afks) alb aks] = (if fk = tk then (Tm.mk ak anm anum (.mk atk atks) (.mk afk afks) alb aks, 1, 0)
   else if tk = 1 then (K6 (K6 (Tm.mk ak anm anum (.mk atk atks) (.mk afk afks) alb aks) (.mk fk fks) (mGk fk) lb) (mGk fk) (.mk tk tks) lb, 1, 0)
   else if D = false then (K6 (K6 (Tm.mk ak anm anum (.mk atk atks) (.mk afk afks) alb aks) (.mk fk fks) (mGk tk) lb) (mGk tk) (.mk tk tks) lb, 1, 0)
   else if J = false then P7
   else if afk = tk then (kd aks 0, 1, 0)
   else (L0, 2, lb)) := by
  rw [← hJ, ← hD]; rfl
 rw [hR]
 have hSm : J = true → D = true → M2 (.mk afk afks) (.mk tk tks) = decide (afk = tk) := fun h1 h2 => B4a (hji h1) (hD.trans h2)
 have hTS := A58 (.mk afk afks) (.mk tk tks) G _ _ hafr hty
 refine B8 Tryz.func230 rfl Tryz.ntmps230 Tryz.results230 rfl ?_
 intro w0
 refine A2 ?_
 refine sE (C6 rfl rfl) rfl (fun b3 => ?_)
 refine sE (A6 rfl) rfl (fun b4 => ?_)
 refine D0 ?_
 refine sP (B2 (j := 0) rfl rfl rfl (by simp)) rfl rfl ?_
 refine sL (A0 rfl rfl (hat0 _) rfl) rfl rfl ?_
 refine sE (A6 rfl) rfl (fun b15 => ?_)
 refine B6 ?_
 refine B7 ?_
 refine B6 ?_
 refine sP (J1 rfl rfl (by omega)) rfl rfl ?_
 refine U6 ?_
 refine sP (J1 rfl rfl (by omega)) rfl rfl ?_
 refine B9 ?_
 refine sP (J1 rfl rfl (by omega)) rfl rfl ?_
 refine A0o ?_
 refine sP (X0 rfl rfl (by omega)) rfl rfl ?_
 refine J8 ?_
 refine sB (qE rfl rfl) rfl rfl (fun h81 => ?_) (fun h81 => ?_)
 refine H1 ?_
 refine D2 (rC rfl (A4 rfl rfl)) (rT rfl) (rT rfl) ?_
 (exact T7.mk (by rw [if_pos (by omega)]) hre0)
 refine D9 ?_
 refine sB (qE rfl rfl) rfl rfl (fun h108 => ?_) (fun h108 => ?_)
 refine D9 ?_
 (refine D4 rfl (A6b fk G hfk64) rfl rfl (fun u G1 hle1 hh => ?_); obtain ⟨gc, rfl, hrg⟩ := hh; obtain ⟨pg, cg, eg, rfl, _⟩ := hrg.open; have hgk : tk = 1 := (by omega); replace hre0 := hre0.mono hle1; replace hfr := hfr.mono hle1; replace hty := hty.mono hle1)
 refine sE (A6 rfl) rfl (fun b119 => ?_)
 refine B6 ?_
 refine E1 E3 rfl ?_
 refine K9 (i := 0) (l' := [tt,ff,ff,ff,ff,ff,ff,ff,ff,ff,ff,ff,ff,ff,ff,ff]) rfl D5 (A0 rfl rfl (B1 (by repeat first | exact mH | apply mT)) rfl) rfl (by kernel_rfl) rfl rfl ?_
 refine aL 3 rfl (A0 rfl rfl (B1 (by repeat first | exact mH | apply mT)) rfl) rfl ?_
 refine aL 7 rfl (A0 rfl rfl (B1 (by repeat first | exact mH | apply mT)) rfl) rfl ?_
 refine aP 1 rfl (C0 rfl) rfl ?_
 refine aL 2 rfl (A4 rfl rfl) rfl ?_
 refine aP 4 rfl (C0 rfl) rfl ?_
 refine aL 5 rfl (C9 rfl rfl) rfl ?_
 refine aP 8 rfl (C0 rfl) rfl ?_
 refine aL 9 rfl (A4 rfl rfl) rfl ?_
 refine aP 10 rfl (C0 rfl) rfl ?_
 refine aL 11 rfl (C9 rfl rfl) rfl ?_
 refine A3 6 ?_
 (refine H2 rfl rfl (A09 _ (.mk fk fks) _ lb G1 _ _ _ ⟨by omega, by omega⟩ hre0 hfr hrg) rfl rfl rfl (fun u G3 hle3 hh => ?_); obtain ⟨wc, rfl, hrw⟩ := hh; have hwl := hrw.len; have hwo := hrw.one; replace hrg := hrg.mono hle3; replace hty := hty.mono hle3)
 refine A3 12 ?_
 (refine H2 rfl rfl (A09 _ _ (.mk tk tks) lb G3 _ _ _ ⟨by omega, by omega⟩ hrw hrg hty) rfl rfl rfl (fun u G4 hle4 hh => ?_); obtain ⟨xc, rfl, hrx⟩ := hh; have hxl := hrx.len; have hxo := hrx.one)
 refine A3 13 ?_
 (refine oS rfl rfl rfl rfl hxl hxo rfl rfl ?_ (hu := by exact D8 hxl.symm))
 refine aP 14 rfl (qA rfl) rfl ?_
 refine aP 15 rfl (qA rfl) rfl ?_
 refine B0 ?_
 refine D2 (rC rfl (A0 rfl rfl (B1 (by repeat first | exact mH | apply mT)) hxl)) (rT rfl) (rT rfl) ?_
 (exact T7.mk (by rw [if_neg (by omega), if_pos (by omega)]) hrx)
 refine D0 ?_
 focus (cases hDD : D; all_goals (rw [hDD] at hGr; refine H4 rfl hGr rfl rfl ?_))
 refine I9 ?_
 (refine D4 rfl (A6b tk G htk64) rfl rfl (fun u G1 hle1 hh => ?_); obtain ⟨gc, rfl, hrg⟩ := hh; obtain ⟨pg, cg, eg, rfl, _⟩ := hrg.open; replace hre0 := hre0.mono hle1; replace hfr := hfr.mono hle1; replace hty := hty.mono hle1)
 refine sE (A6 rfl) rfl (fun b171 => ?_)
 refine B6 ?_
 refine E1 E3 rfl ?_
 refine K9 (i := 0) (l' := [tt,ff,ff,ff,ff,ff,ff,ff,ff,ff,ff,ff,ff,ff,ff,ff]) rfl D5 (A0 rfl rfl (B1 (by repeat first | exact mH | apply mT)) rfl) rfl (by kernel_rfl) rfl rfl ?_
 refine aL 3 rfl (A0 rfl rfl (B1 (by repeat first | exact mH | apply mT)) rfl) rfl ?_
 refine aL 7 rfl (A0 rfl rfl (B1 (by repeat first | exact mH | apply mT)) rfl) rfl ?_
 refine aP 1 rfl (C0 rfl) rfl ?_
 refine aL 2 rfl (A4 rfl rfl) rfl ?_
 refine aP 4 rfl (C0 rfl) rfl ?_
 refine aL 5 rfl (C9 rfl rfl) rfl ?_
 refine aP 8 rfl (C0 rfl) rfl ?_
 refine aL 9 rfl (A4 rfl rfl) rfl ?_
 refine aP 10 rfl (C0 rfl) rfl ?_
 refine aL 11 rfl (C9 rfl rfl) rfl ?_
 refine A3 6 ?_
 (refine H2 rfl rfl (A09 _ (.mk fk fks) _ lb G1 _ _ _ ⟨by omega, by omega⟩ hre0 hfr hrg) rfl rfl rfl (fun u G3 hle3 hh => ?_); obtain ⟨wc, rfl, hrw⟩ := hh; have hwl := hrw.len; have hwo := hrw.one; replace hrg := hrg.mono hle3; replace hty := hty.mono hle3)
 refine A3 12 ?_
 (refine H2 rfl rfl (A09 _ _ (.mk tk tks) lb G3 _ _ _ ⟨by omega, by omega⟩ hrw hrg hty) rfl rfl rfl (fun u G4 hle4 hh => ?_); obtain ⟨xc, rfl, hrx⟩ := hh; have hxl := hrx.len; have hxo := hrx.one)
 refine A3 13 ?_
 (refine oS rfl rfl rfl rfl hxl hxo rfl rfl ?_ (hu := by exact D8 hxl.symm))
 refine aP 14 rfl (qA rfl) rfl ?_
 refine aP 15 rfl (qA rfl) rfl ?_
 refine B0 ?_
 refine D2 (rC rfl (A0 rfl rfl (B1 (by repeat first | exact mH | apply mT)) hxl)) (rT rfl) (rT rfl) ?_
 (exact T7.mk (by rw [if_neg (by omega), if_neg (by omega), if_pos rfl]) hrx)
 refine D0 ?_
 focus (cases hJJ : J; all_goals (rw [hJJ] at hI; refine H4 rfl hI rfl rfl ?_))
 refine J3 ?_
 refine D2 (rC rfl (A4 rfl rfl)) (rT rfl) (rT rfl) ?_
 (exact T7.mk (by rw [if_neg (by omega), if_neg (by omega), if_neg (by decide), if_pos rfl]; rfl) (O0 _))
 refine H0 ?_
 focus (rw [hSm hJJ hDD] at hTS; by_cases hfk : afk = tk; rw [decide_eq_true hfk] at hTS; rotate_left; rw [decide_eq_false hfk] at hTS; rotate_left; all_goals (refine H4 rfl hTS rfl rfl ?_))
 refine D0 ?_
 (have hq1 := h14 (hjk (by assumption)); obtain ⟨bq, oq, e3, rfl, hl3, hat3, hre3, hgb3⟩ := hasl.kidTm hakl (i := 0) (by omega) (by omega); have ho3 := hre3.one; refine sP (B2 (j := 0) rfl rfl rfl (by omega)) rfl rfl ?_)
 refine sL (A0 rfl rfl (hat3 _) hl3) rfl rfl ?_
 refine sS rfl rfl rfl hl3 ho3 rfl ?_ (hu := by exact D8 hl3.symm)
 refine A9 ?_
 refine D2 (rC rfl (A0 rfl rfl (B1 (by repeat first | exact mH | apply mT)) hl3)) (rT rfl) (rT rfl) ?_
 (exact T7.mk (by rw [if_neg (by omega), if_neg (by omega), if_neg (by decide), if_neg (by decide), if_pos hfk, A1T (by omega)]) hre3)
 refine D0 ?_
 refine E1 E3 rfl ?_
 refine K2 (i := 0) (l' := [tt,ff,ff,ff,ff,ff]) rfl D5 (Z3 rfl rfl) rfl (by kernel_rfl) rfl rfl ?_
 refine aP 1 rfl (C0 rfl) rfl ?_
 refine aL 2 rfl (C9 rfl rfl) rfl ?_
 refine A3 3 ?_
 refine H6 rfl ?_
 refine aP 4 rfl (qA rfl) rfl ?_
 refine aP 5 rfl (qA rfl) rfl ?_
 refine B9 ?_
 refine D2 (rC rfl (A4 rfl rfl)) (rT rfl) (rT rfl) ?_
 (exact T7.mk (by rw [if_neg (by omega), if_neg (by omega), if_neg (by decide), if_neg (by decide), if_neg hfk]) (O0 _))
theorem A9F (k : Int) (a b : Tm) (nm : ByteArray) (num : Int) (ty fr : Ty) (lb : Int) (G : IM) (cells : List Value) (hk1 : k = 7 ∨ k = 8) (hca : cv a) (hr : B3 G (.mk k nm num ty fr lb [a, b]) cells) : Fn Tryz.prog 230 [.agg ⟨cells⟩] [] G (T7 (X5 k ty fr lb [a, b])) := by
 have hR : X5 k ty fr lb [a, b] = P7 := by unfold X5; rw [if_neg (by omega), if_neg (by omega), if_neg (by omega)]
 rw [hR]
 obtain ⟨ak, anm, anum, ⟨atk, atks⟩, ⟨afk, afks⟩, alb, aks⟩ := a
 obtain ⟨hN, hkk⟩ := hca.node
 have hops := hN.ops
 have hbl := hN.lbB
 have htyA := hN.tyA
 have hfrA := hN.frA
 rw [F8] at htyA hfrA
 have h14 : ak = 14 → aks.length = 1 := fun h => by rw [h] at hops; have : F0 14 = 1 := rfl; omega
 obtain ⟨tk, tks⟩ := ty
 obtain ⟨fk, fks⟩ := fr
 obtain ⟨pt, ct, pf, cf, p, c, es, rfl, hk, hnum, hlb, hty, hfr, hsl, hkl⟩ := hr.open9
 obtain ⟨bx, ox, e0, rfl, hl0, hat0, hre0, hgb0⟩ := hsl.kidTm hkl (i := 0) (by simp) (by simp)
 replace hre0 : B3 G (Tm.mk ak anm anum (.mk atk atks) (.mk afk afks) alb aks) e0 := hre0
 have hP : Fn Tryz.prog 106 [.agg ⟨e0⟩] [] G (E5 (.bool (decide (ak = 14 ∧ afk = atk ∧ (atk = 4 ∨ atk = 5)))) G) := A2u _ G _ hre0
 have hI := A3O _ G _ hre0
 have ho0 := hre0.one
 obtain ⟨apt, act, apf, acf, ap, ac, aes, rfl, hak, hanum, halb, haty, hafr, hasl, hakl⟩ := hre0.open9
 have hfk64 : H3 fk := by obtain ⟨_, _, _, _, h, _⟩ := hfr.open; exact h
 have htk64 : H3 tk := by obtain ⟨_, _, _, _, h, _⟩ := hty.open; exact h
 obtain ⟨tes, htS, htL⟩ := haty.kids
 obtain ⟨fes, hfS, hfL⟩ := hafr.kids
 simp only [Ty.ks] at htS htL hfS hfL
 refine B8 Tryz.func230 rfl Tryz.ntmps230 Tryz.results230 rfl ?_
 intro w0
 refine A2 ?_
 refine sE (C6 rfl rfl) rfl (fun b3 => ?_)
 refine sE (A6 rfl) rfl (fun b4 => ?_)
 refine D0 ?_
 refine sP (B2 (j := 0) rfl rfl rfl (by simp)) rfl rfl ?_
 refine sL (A0 rfl rfl (hat0 _) rfl) rfl rfl ?_
 refine sE (A6 rfl) rfl (fun b15 => ?_)
 refine B6 ?_
 refine B7 ?_
 refine B6 ?_
 refine sP (J1 rfl rfl (by omega)) rfl rfl ?_
 refine U6 ?_
 refine sP (J1 rfl rfl (by omega)) rfl rfl ?_
 refine B9 ?_
 refine sP (J1 rfl rfl (by omega)) rfl rfl ?_
 refine A0o ?_
 refine sP (A0m rfl rfl (by omega)) rfl rfl ?_
 refine H1 ?_
 refine D2 (rC rfl (A4 rfl rfl)) (rT rfl) (rT rfl) ?_
 (exact T7.mk rfl (O0 _))
theorem B4c (a b c0 : Tm) (nm : ByteArray) (num : Int) (ty fr : Ty) (lb : Int) (G : IM) (cells : List Value) (hca : cv a) (hr : B3 G (.mk 9 nm num ty fr lb [a, b, c0]) cells) : Fn Tryz.prog 230 [.agg ⟨cells⟩] [] G (T7 (X5 9 ty fr lb [a, b, c0])) := by
 have hR : X5 9 ty fr lb [a, b, c0] = P7 := by unfold X5; rw [if_neg (by omega), if_neg (by omega), if_neg (by omega)]
 rw [hR]
 obtain ⟨ak, anm, anum, ⟨atk, atks⟩, ⟨afk, afks⟩, alb, aks⟩ := a
 obtain ⟨hN, hkk⟩ := hca.node
 have hops := hN.ops
 have hbl := hN.lbB
 have htyA := hN.tyA
 have hfrA := hN.frA
 rw [F8] at htyA hfrA
 have h14 : ak = 14 → aks.length = 1 := fun h => by rw [h] at hops; have : F0 14 = 1 := rfl; omega
 obtain ⟨tk, tks⟩ := ty
 obtain ⟨fk, fks⟩ := fr
 obtain ⟨pt, ct, pf, cf, p, c, es, rfl, hk, hnum, hlb, hty, hfr, hsl, hkl⟩ := hr.open9
 obtain ⟨bx, ox, e0, rfl, hl0, hat0, hre0, hgb0⟩ := hsl.kidTm hkl (i := 0) (by simp) (by simp)
 replace hre0 : B3 G (Tm.mk ak anm anum (.mk atk atks) (.mk afk afks) alb aks) e0 := hre0
 have hP : Fn Tryz.prog 106 [.agg ⟨e0⟩] [] G (E5 (.bool (decide (ak = 14 ∧ afk = atk ∧ (atk = 4 ∨ atk = 5)))) G) := A2u _ G _ hre0
 have hI := A3O _ G _ hre0
 have ho0 := hre0.one
 obtain ⟨apt, act, apf, acf, ap, ac, aes, rfl, hak, hanum, halb, haty, hafr, hasl, hakl⟩ := hre0.open9
 have hfk64 : H3 fk := by obtain ⟨_, _, _, _, h, _⟩ := hfr.open; exact h
 have htk64 : H3 tk := by obtain ⟨_, _, _, _, h, _⟩ := hty.open; exact h
 obtain ⟨tes, htS, htL⟩ := haty.kids
 obtain ⟨fes, hfS, hfL⟩ := hafr.kids
 simp only [Ty.ks] at htS htL hfS hfL
 refine B8 Tryz.func230 rfl Tryz.ntmps230 Tryz.results230 rfl ?_
 intro w0
 refine A2 ?_
 refine sE (C6 rfl rfl) rfl (fun b3 => ?_)
 refine sE (A6 rfl) rfl (fun b4 => ?_)
 refine D0 ?_
 refine sP (B2 (j := 0) rfl rfl rfl (by simp)) rfl rfl ?_
 refine sL (A0 rfl rfl (hat0 _) rfl) rfl rfl ?_
 refine sE (A6 rfl) rfl (fun b15 => ?_)
 refine B6 ?_
 refine B7 ?_
 refine B6 ?_
 refine sP (J1 rfl rfl (by omega)) rfl rfl ?_
 refine U6 ?_
 refine sP (J1 rfl rfl (by omega)) rfl rfl ?_
 refine B9 ?_
 refine sP (J1 rfl rfl (by omega)) rfl rfl ?_
 refine A0o ?_
 refine sP (A0m rfl rfl (by omega)) rfl rfl ?_
 refine H1 ?_
 refine D2 (rC rfl (A4 rfl rfl)) (rT rfl) (rT rfl) ?_
 (exact T7.mk rfl (O0 _))
theorem B4d (nm : ByteArray) (num : Int) (ty fr : Ty) (lb : Int) (G : IM) (cells : List Value) (hr : B3 G (.mk 1 nm num ty fr lb []) cells) : Fn Tryz.prog 229 [.agg ⟨cells⟩] [] G (S7 (W5 1 [])) := by
 rw [show W5 1 [] = none from rfl]
 obtain ⟨tk, tks⟩ := ty
 obtain ⟨fk, fks⟩ := fr
 obtain ⟨pt, ct, pf, cf, p, c, es, rfl, hk, hnum, hlb, hty, hfr, hsl, hkl⟩ := hr.open9
 have hL : ([] : List Tm).length = 0 := rfl
 refine B8 Tryz.func229 rfl Tryz.ntmps229 Tryz.results229 rfl ?_
 intro w0
 refine A2 ?_
 refine sE (C6 rfl rfl) rfl (fun b3 => ?_)
 refine sE (A6 rfl) rfl (fun b4 => ?_)
 refine A7 ?_
 refine sE (A6 rfl) rfl (fun b11 => ?_)
 refine D9 ?_
 refine sP (B1y rfl rfl (by omega)) rfl rfl ?_
 refine J8 ?_
 refine B7 ?_
 refine A2 ?_
 refine sP (J1 rfl rfl (by omega)) rfl rfl ?_
 refine A9 ?_
 refine sP (J1 rfl rfl (by omega)) rfl rfl ?_
 refine B0 ?_
 refine sP (J1 rfl rfl (by omega)) rfl rfl ?_
 refine A7 ?_
 refine sP (J1 rfl rfl (by omega)) rfl rfl ?_
 refine A9 ?_
 refine sP (J1 rfl rfl (by omega)) rfl rfl ?_
 refine B0 ?_
 refine sP (J1 rfl rfl (by omega)) rfl rfl ?_
 refine H1 ?_
 refine E9 (rC rfl (A4 rfl rfl)) (rT rfl) ?_
 (exact S7.no rfl (O0 _))
theorem B4e (a : Tm) (nm : ByteArray) (num : Int) (ty fr : Ty) (lb : Int) (G : IM) (cells : List Value) (hr : B3 G (.mk 14 nm num ty fr lb [a]) cells) : Fn Tryz.prog 229 [.agg ⟨cells⟩] [] G (S7 (W5 14 [a])) := by
 rw [show W5 14 [a] = none from rfl]
 obtain ⟨tk, tks⟩ := ty
 obtain ⟨fk, fks⟩ := fr
 obtain ⟨pt, ct, pf, cf, p, c, es, rfl, hk, hnum, hlb, hty, hfr, hsl, hkl⟩ := hr.open9
 obtain ⟨bx, ox, e0, rfl, hl0, hat0, hre0, hgb0⟩ := hsl.kidTm hkl (i := 0) (by simp) (by simp)
 have ho0 : e0.all (·.oneCell') = true := (show B3 G a e0 from hre0).one
 refine B8 Tryz.func229 rfl Tryz.ntmps229 Tryz.results229 rfl ?_
 intro w0
 refine A2 ?_
 refine sE (C6 rfl rfl) rfl (fun b3 => ?_)
 refine sE (A6 rfl) rfl (fun b4 => ?_)
 refine A7 ?_
 refine sE (A6 rfl) rfl (fun b11 => ?_)
 refine D9 ?_
 refine sB (A00 rfl rfl) rfl rfl (fun h21 => ?_) (fun h21 => ?_)
 refine A7 ?_
 refine sP (B2 (j := 0) rfl rfl rfl (by simp)) rfl rfl ?_
 refine sL (A0 rfl rfl (hat0 _) hl0) rfl rfl ?_
 refine sS rfl rfl rfl hl0 ho0 rfl ?_ (hu := by exact D8 hl0.symm)
 refine D9 ?_
 refine B7 ?_
 refine A2 ?_
 refine sP (J1 rfl rfl (by omega)) rfl rfl ?_
 refine A9 ?_
 refine sP (J1 rfl rfl (by omega)) rfl rfl ?_
 refine B0 ?_
 refine sP (J1 rfl rfl (by omega)) rfl rfl ?_
 refine A7 ?_
 refine sP (J1 rfl rfl (by omega)) rfl rfl ?_
 refine A9 ?_
 refine sP (J1 rfl rfl (by omega)) rfl rfl ?_
 refine B0 ?_
 refine sP (J1 rfl rfl (by omega)) rfl rfl ?_
 refine H1 ?_
 refine E9 (rC rfl (A4 rfl rfl)) (rT rfl) ?_
 (exact S7.no rfl (O0 _))
 refine J8 ?_
 refine B7 ?_
 refine A2 ?_
 refine sP (J1 rfl rfl (by omega)) rfl rfl ?_
 refine A9 ?_
 refine sP (J1 rfl rfl (by omega)) rfl rfl ?_
 refine B0 ?_
 refine sP (J1 rfl rfl (by omega)) rfl rfl ?_
 refine A7 ?_
 refine sP (J1 rfl rfl (by omega)) rfl rfl ?_
 refine A9 ?_
 refine sP (J1 rfl rfl (by omega)) rfl rfl ?_
 refine B0 ?_
 refine sP (J1 rfl rfl (by omega)) rfl rfl ?_
 refine H1 ?_
 refine E9 (rC rfl (A4 rfl rfl)) (rT rfl) ?_
 (exact S7.no rfl (O0 _))
theorem ks1 {ks : List Tm} (h : ks.length = 1) : ∃ a, ks = [a] := by
 match ks, h with
 | [a], _ => exact ⟨a, rfl⟩
theorem ks2 {ks : List Tm} (h : ks.length = 2) : ∃ a b, ks = [a, b] := by
 match ks, h with
 | [a, b], _ => exact ⟨a, b, rfl⟩
theorem ks3 {ks : List Tm} (h : ks.length = 3) : ∃ a b c, ks = [a, b, c] := by
 match ks, h with
 | [a, b, c], _ => exact ⟨a, b, c, rfl⟩
theorem B4f {k : Int} {nm : ByteArray} {num : Int} {ty fr : Ty} {lb : Int} {ks : List Tm} {G : IM} {cells : List Value} (hc : cv (.mk k nm num ty fr lb ks)) (hk : k = 1 ∨ k = 6 ∨ k = 7 ∨ k = 8 ∨ k = 9 ∨ k = 11 ∨ k = 12 ∨ k = 14) (hr : B3 G (.mk k nm num ty fr lb ks) cells) :
  Fn Tryz.prog 229 [.agg ⟨cells⟩] [] G (S7 (W5 k ks)) := by
 obtain ⟨hN, hkk⟩ := hc.node
 have hops := hN.ops
 rcases hk with rfl | rfl | rfl | rfl | rfl | rfl | rfl | rfl
 ·obtain rfl : ks = [] := List.length_eq_zero_iff.1 (by have : F0 1 = 0 := rfl; omega)
  exact B4d _ _ _ _ _ _ _ hr
 ·obtain ⟨a, b, rfl⟩ := ks2 (ks := ks) (by have : F0 6 = 2 := rfl; omega)
  exact B36 a b _ _ _ _ _ _ _ (hkk a (by simp)) hr
 ·obtain ⟨a, b, rfl⟩ := ks2 (ks := ks) (by have : F0 7 = 2 := rfl; omega)
  exact A9y 7 a b _ _ _ _ _ _ _ (.inl rfl) (hkk a (by simp)) (hkk b (by simp)) hr
 ·obtain ⟨a, b, rfl⟩ := ks2 (ks := ks) (by have : F0 8 = 2 := rfl; omega)
  exact A9y 8 a b _ _ _ _ _ _ _ (.inr rfl) (hkk a (by simp)) (hkk b (by simp)) hr
 ·obtain ⟨a, b, c, rfl⟩ := ks3 (ks := ks) (by have : F0 9 = 3 := rfl; omega)
  exact B37 a b c _ _ _ _ _ _ _ hr
 ·obtain ⟨a, rfl⟩ := ks1 (ks := ks) (by have : F0 11 = 1 := rfl; omega)
  exact A9z 11 a _ _ _ _ _ _ _ (.inl rfl) (hkk a (by simp)) hr
 ·obtain ⟨a, rfl⟩ := ks1 (ks := ks) (by have : F0 12 = 1 := rfl; omega)
  exact A9z 12 a _ _ _ _ _ _ _ (.inr rfl) (hkk a (by simp)) hr
 ·obtain ⟨a, rfl⟩ := ks1 (ks := ks) (by have : F0 14 = 1 := rfl; omega)
  exact B4e a _ _ _ _ _ _ _ hr
theorem B4g {k : Int} {nm : ByteArray} {num : Int} {ty fr : Ty} {lb : Int} {ks : List Tm} {G : IM} {cells : List Value} (hc : cv (.mk k nm num ty fr lb ks)) (hk : k = 6 ∨ k = 7 ∨ k = 8 ∨ k = 9 ∨ k = 11 ∨ k = 12 ∨ k = 14) (hr : B3 G (.mk k nm num ty fr lb ks) cells) :
  Fn Tryz.prog 230 [.agg ⟨cells⟩] [] G (T7 (X5 k ty fr lb ks)) := by
 obtain ⟨hN, hkk⟩ := hc.node
 have hops := hN.ops
 rcases hk with rfl | rfl | rfl | rfl | rfl | rfl | rfl
 ·obtain ⟨a, b, rfl⟩ := ks2 (ks := ks) (by have : F0 6 = 2 := rfl; omega)
  exact B39 a b _ _ _ _ _ _ _ (hkk a (by simp)) hr
 ·obtain ⟨a, b, rfl⟩ := ks2 (ks := ks) (by have : F0 7 = 2 := rfl; omega)
  exact A9F 7 a b _ _ _ _ _ _ _ (.inl rfl) (hkk a (by simp)) hr
 ·obtain ⟨a, b, rfl⟩ := ks2 (ks := ks) (by have : F0 8 = 2 := rfl; omega)
  exact A9F 8 a b _ _ _ _ _ _ _ (.inr rfl) (hkk a (by simp)) hr
 ·obtain ⟨a, b, c, rfl⟩ := ks3 (ks := ks) (by have : F0 9 = 3 := rfl; omega)
  exact B4c a b c _ _ _ _ _ _ _ (hkk a (by simp)) hr
 ·obtain ⟨a, rfl⟩ := ks1 (ks := ks) (by have : F0 11 = 1 := rfl; omega)
  exact A9D 11 a _ _ _ _ _ _ _ (.inl rfl) (hkk a (by simp)) hr
 ·obtain ⟨a, rfl⟩ := ks1 (ks := ks) (by have : F0 12 = 1 := rfl; omega)
  exact A9D 12 a _ _ _ _ _ _ _ (.inr rfl) (hkk a (by simp)) hr
 ·obtain ⟨a, rfl⟩ := ks1 (ks := ks) (by have : F0 14 = 1 := rfl; omega)
  exact B4b a _ _ _ _ _ _ _ (hkk a (by simp)) hN.lbB hr
theorem A4H (n : Nat) (t : Tm) (ts : List Tm) : Z7 (n + 1) (t :: ts) = if J4 t = true then (match Z7 n ts with | some (us, c, l) => some (t :: us, c, l) | none => none) else some ((J5 t).1 :: ts, (J5 t).2.1, (J5 t).2.2) := by
 rw [Z7]; rfl
theorem A6f : ∀ (n : Nat) (ks : List Tm), (∀ i, i < n → (h : i < ks.length) → J4 ks[i] = true) → Z7 n ks = none
 | n, [], _ => by cases n <;> rfl
 | 0, t :: ts, _ => rfl
 | n + 1, t :: ts, h => by
  rw [A4H, if_pos (show J4 t = true from h 0 (by omega) (by simp)), A6f n ts (fun i hi hl => h (i + 1) (by omega) (by simpa using hl))]
theorem A6g : ∀ (n : Nat) (ks : List Tm) (i : Nat) (hi : i < ks.length), i < n → (∀ j, j < i → (h : j < ks.length) → J4 ks[j] = true) → J4 ks[i] = false → Z7 n ks = some (ks.set i (J5 ks[i]).1, (J5 ks[i]).2.1, (J5 ks[i]).2.2)
 | n, [], i, hi, _, _, _ => by simp at hi
 | 0, t :: ts, i, _, hn, _, _ => by omega
 | n + 1, t :: ts, 0, _, _, _, hv => by
  rw [A4H, if_neg (by rw [show J4 t = false from hv]; decide)]; rfl
 | n + 1, t :: ts, i + 1, hi, hn, hj, hv => by
  rw [A4H, if_pos (show J4 t = true from hj 0 (by omega) (by simp)), A6g n ts i (by simpa using hi) (by omega) (fun j hji hl => hj (j + 1) (by omega) (by simpa using hl)) hv]
  rfl
theorem B4h {k : Int} {ty fr : Ty} {lb : Int} {ks : List Tm} (h : (N9 k ty fr lb ks).2.1 = 1) : (N9 k ty fr lb ks).2.2 = 0 := by
 revert h
 unfold N9 P7
 repeat' split
 all_goals first | (intro _; rfl) | (intro h; exfalso; revert h; simp)
theorem B4i {k : Int} {nm : ByteArray} {num : Int} {ty fr : Ty} {lb : Int} {ks : List Tm} (h : (J5 (.mk k nm num ty fr lb ks)).2.1 = 1) : (J5 (.mk k nm num ty fr lb ks)).2.2 = 0 := by
 rw [J5] at h ⊢
 cases hL : Z7 (if k = 9 then 1 else ks.length) ks with
 | none => rw [hL] at h; exact B4h h
 | some p =>
  obtain ⟨us, c, l⟩ := p
  rw [hL] at h
  simp only at h ⊢
  by_cases hc : c = 1
  ·rw [if_pos hc]
  ·rw [if_neg hc] at h; exact absurd h hc
theorem B4j {t : Tm} (h : (J5 t).2.1 = 1) : (J5 t).2.2 = 0 := by cases t; exact B4i h
theorem B4k {k : Int} {nm : ByteArray} {num : Int} {ty fr : Ty} {lb : Int} {ks : List Tm} {i : Nat} (hi : i < ks.length) (hn : i < (if k = 9 then 1 else ks.length)) (hj : ∀ j, j < i → (h : j < ks.length) → J4 ks[j] = true) (hv : J4 ks[i] = false) :
  (J5 (.mk k nm num ty fr lb ks)).2.1 = (J5 ks[i]).2.1 ∧ (J5 (.mk k nm num ty fr lb ks)).2.2 = (J5 ks[i]).2.2 ∧ ((J5 ks[i]).2.1 = 1 → (J5 (.mk k nm num ty fr lb ks)).1 = .mk k nm num ty fr lb (ks.set i (J5 ks[i]).1)) := by
 rw [J5, A6g _ ks i hi hn hj hv]
 simp only
 by_cases hc : (J5 ks[i]).2.1 = 1
 ·rw [if_pos hc]
  exact ⟨hc.symm, (B4j hc).symm, fun _ => rfl⟩
 ·rw [if_neg hc]
  exact ⟨rfl, rfl, fun h => absurd h hc⟩
theorem B4l {k : Int} {nm : ByteArray} {num : Int} {ty fr : Ty} {lb : Int} {ks : List Tm} (h : ∀ i, i < (if k = 9 then 1 else ks.length) → (hl : i < ks.length) → J4 ks[i] = true) : J5 (.mk k nm num ty fr lb ks) = match W5 k ks with | some u => (u, 1, 0) | none => X5 k ty fr lb ks := by
 rw [J5, A6f _ _ h]
 exact B38 k ty fr lb ks
theorem A3Q {k : Int} (h : 0 ≤ F0 k) : 1 ≤ k ∧ k ≤ 14 := by
 by_cases hk : 1 ≤ k ∧ k ≤ 14
 ·exact hk
 ·rw [A5n hk] at h; omega
theorem A9G {k : Int} {nm : ByteArray} {num : Int} {ty fr : Ty} {lb : Int} {ks : List Tm} (hc : cv (.mk k nm num ty fr lb ks)) (hv : J4 (.mk k nm num ty fr lb ks) = false) (h : ∀ i, i < (if k = 9 then 1 else ks.length) → (hl : i < ks.length) → J4 ks[i] = true) : k = 1 ∨ k = 6 ∨ k = 7 ∨ k = 8 ∨ k = 9 ∨ k = 11 ∨ k = 12 ∨ k = 14 := by
 obtain ⟨hN, _⟩ := hc.node
 have hr := A3Q (by rw [hN.ops]; omega : 0 ≤ F0 k)
 have h13 := hN.ne
 have h25 : ¬(k = 2 ∨ k = 3 ∨ k = 4 ∨ k = 5) := by
  intro hk
  rw [J4, if_neg (by omega)] at hv
  rw [decide_eq_true hk] at hv
  cases hv
 have h10 : k ≠ 10 := by
  rintro rfl
  rw [A3P (.inl rfl), List.all_eq_false] at hv
  obtain ⟨t, ht, hn⟩ := hv
  obtain ⟨i, hi, rfl⟩ := List.mem_iff_getElem.1 ht
  exact hn (h i (by rw [if_neg (by decide)]; exact hi) hi)
 omega
theorem B4m (t : Tm) (G : IM) (cells : List Value) (hr : B3 G t cells) : Fn Tryz.prog 227 [.agg ⟨cells⟩] [] G (E5 (.int .i64 ((if t.k = 9 then 1 else t.ks.length : Nat) : Int)) G) := by
 obtain ⟨k, nm, num, ⟨tk, tks⟩, ⟨fk, fks⟩, lb, ks⟩ := t
 obtain ⟨pt, ct, pf, cf, p, c, es, rfl, hk, hnum, hlb, hty, hfr, hsl, hkl⟩ := hr.open9
 rw [show (Tm.mk k nm num (.mk tk tks) (.mk fk fks) lb ks).k = k from rfl, show (Tm.mk k nm num (.mk tk tks) (.mk fk fks) lb ks).ks = ks from rfl]
 refine B8 Tryz.func227 rfl Tryz.ntmps227 Tryz.results227 rfl ?_
 intro w0
 refine A2 ?_
 refine sE (C6 rfl rfl) rfl (fun b3 => ?_)
 refine D0 ?_
 refine sB (qE rfl rfl) rfl rfl (fun h12 => ?_) (fun h12 => ?_)
 refine H0 ?_
 (exact ⟨rfl, by rw [if_pos (by omega)]; rfl, rfl⟩)
 refine H1 ?_
 (exact ⟨rfl, by rw [if_neg (by omega)], rfl⟩)
theorem B4n {k : Int} (h8 : k = 1 ∨ k = 6 ∨ k = 7 ∨ k = 8 ∨ k = 9 ∨ k = 11 ∨ k = 12 ∨ k = 14) (h : F0 k = 0) : k = 1 := by
 rcases h8 with rfl | rfl | rfl | rfl | rfl | rfl | rfl | rfl
 ·rfl
 all_goals exact absurd h (by decide)
theorem A9H {G : IM} {r r' : Stp} {u : Tm} {cells : List Value} {c l : Int} (h1 : r.2.1 = c) (h2 : r.2.2 = l) (hr : B3 G u cells) (h3 : c = 1 → u = r.1) : T7 r G (.tuple ⟨[.agg ⟨cells⟩, .int .i64 c, .int .i64 l]⟩) [] := by
 subst h1 h2; exact ⟨rfl, u, cells, rfl, hr, h3⟩
theorem A6h {Q : Prop} (h : Q := by (exact ⟨Nat.zero_le _, fun j hj => absurd hj (Nat.not_lt_zero j)⟩)) : Q := h
theorem A6i {Q : Prop} (h : Q := by (exact ⟨by omega, fun j hji hl2 => (by by_cases he : j = i; (subst he; assumption); exact hj j (by omega) hl2)⟩)) : Q := h
theorem B4o : ∀ (t : Tm) (G : IM) (cells : List Value), cv t → J4 t = false → B3 G t cells → Fn Tryz.prog 195 [.agg ⟨cells⟩] [] G (T7 (J5 t)) := by
 refine Tm.ind fun k nm num ty fr lb ks ih G cells hc hv hr => ?_
 have hr0 := hr
 have hN := hc.node.1
 have hkk := hc.node.2
 have hsm := A2l _ hc
 obtain ⟨_, _, _, _, hksm⟩ := A0h.1 hsm
 have hops := hN.ops
 have hle3 := A1N k
 have hkd := @A9G k nm num ty fr lb ks hc hv
 have hrd := @B4l k nm num ty fr lb ks
 have hkidS := fun (i : Nat) => @B4k k nm num ty fr lb ks i
 have hRA := fun h => @B4f k nm num ty fr lb ks G cells hc h hr
 have hCA := fun h (G1 : IM) (hle : C5 G G1) => @B4g k nm num ty fr lb ks G1 cells hc h (hr.mono hle)
 have hCt := B4m _ G _ hr
 rw [show (Tm.mk k nm num ty fr lb ks).k = k from rfl, show (Tm.mk k nm num ty fr lb ks).ks = ks from rfl] at hCt
 obtain ⟨C, hC⟩ : ∃ C : Nat, (if k = 9 then 1 else ks.length : Nat) = C := ⟨_, rfl⟩
 rw [hC] at hCt hkd hrd
 have hkidS' := fun (i : Nat) (hi : i < ks.length) (hn : i < C) => hkidS i hi (by rw [hC]; exact hn)
 have hC9 : C ≤ ks.length := by rw [← hC]; split; (have : F0 k = 3 := by (rename_i h9; rw [h9]; rfl)); omega; omega
 have hrul := hkd
 obtain ⟨tk, tks⟩ := ty
 obtain ⟨fk, fks⟩ := fr
 obtain ⟨pt, ct, pf, cf, p, c, es, rfl, hk, hnum, hlb, hty, hfr, hsl, hkl⟩ := hr.open9
 have hn := hsl.le
 have hnc := hsl.sl.2.1
 refine B8 Tryz.func195 rfl Tryz.ntmps195 Tryz.results195 rfl ?_
 intro w0
 refine A2 ?_
 refine sE (C6 rfl rfl) rfl (fun b3 => ?_)
 refine sE (A6 rfl) rfl (fun b4 => ?_)
 refine A7 ?_
 refine E1 E3 rfl ?_
 refine K2 (i := 0) (l' := [tt,ff,ff,ff,ff,ff,ff]) rfl D5 (C0 rfl) rfl (by kernel_rfl) rfl rfl ?_
 refine aL 1 rfl (C9 rfl rfl) rfl ?_
 refine aL 2 rfl (A4 rfl rfl) rfl ?_
 refine aP 6 rfl (qM rfl) rfl ?_
 refine A3 3 ?_
 refine M5 rfl rfl (hCt) rfl rfl rfl ?_
 refine aP 4 rfl (B3f (l := C) rfl rfl rfl (by omega)) rfl ?_
 refine aP 5 rfl (pLn rfl rfl) rfl ?_
 refine A2 ?_
 refine B7 ?_
 (refine I3 (fun (i : Nat) => ⟨[(19, .int .i64 (i : Int)), (18, .int .i64 (C : Int)), (17, .slice p C c), (1, .pointer (some ⟨b3, 0, none⟩)), (2, .pointer (some ⟨b4, 0, none⟩))], [.blk b4 [.int .i64 0, .string ⟨⟨[]⟩⟩, .int .i64 0, .int .i64 0, .slice none 0 0, .int .i64 0, .slice none 0 0, .int .i64 0, .slice none 0 0], .blk b3 [.int .i64 k, .string nm, .int .i64 num, .int .i64 tk, .slice pt tks.length ct, .int .i64 fk, .slice pf fks.length cf, .int .i64 lb, .slice p ks.length c]], G⟩) (fun i => i ≤ C ∧ ∀ j, j < i → (h : j < ks.length) → J4 ks[j] = true) (fun i => C - i) 0 ?_ ?_ ?_)
 exact D3
 exact A6h
 (rintro i ⟨hi, hj⟩)
 refine A2 ?_
 refine sB (I8 rfl rfl) rfl rfl (fun h29 => ?_) (fun h29 => ?_)
 refine A9 ?_
 refine B7 ?_
 refine B9 ?_
 (have hiC : i < C := (by omega); obtain ⟨bx, ox, e, rfl, hl, hat, hre, hgb⟩ := hsl.kidTm hkl (i := i) (by omega) (by omega); have heo := hre.one; have hVi := A9u ks[i] G e hre; refine sP (B2 (j := i) rfl rfl rfl hiC) rfl rfl ?_)
 refine sL (A0 rfl rfl (hat _) hl) rfl rfl ?_
 refine sE (A6 rfl) rfl (fun b43 => ?_)
 refine E0 ?_
 refine sS rfl rfl rfl hl heo rfl ?_ (hu := by exact D8 hl.symm)
 refine B0 ?_
 refine sL (A0 rfl rfl (B1 (by repeat first | exact mH | apply mT)) hl) rfl rfl ?_
 refine E8 rfl (hVi) rfl rfl (fun h52 => ?_) (fun h52 => ?_)
 refine D0 ?_
 refine sP (E7 rfl rfl (by omega) (by omega)) rfl rfl ?_
 refine A2 ?_
 refine I7 (i + 1) ?_ ?_ ?_
 exact D3
 exact A6i
 (show C - (i + 1) < C - i; omega)
 refine A9 ?_
 refine sL (A0 rfl rfl (B1 (by repeat first | exact mH | apply mT)) hl) rfl rfl ?_
 (have hvF : J4 ks[i] = false := (by assumption); obtain ⟨hs1, hs2, hs3⟩ := hkidS' i (by omega) hiC (fun j hji hl2 => hj j hji hl2) hvF; refine D4 rfl (ih ks[i] (List.getElem_mem (by omega)) G e (hkk _ (List.getElem_mem (by omega))) hvF hre) rfl rfl (fun v G1 hle1 hh => ?_); obtain ⟨u, uc, rfl, hru, hu1⟩ := hh; have hul := hru.len; have huo := hru.one; have hClo := B3J G1 _ ks.length c es (hsl.mono hle1) (by omega) (by omega))
 refine B6 ?_
 refine sE (A6 rfl) rfl (fun b81 => ?_)
 refine sS rfl rfl rfl hul huo rfl ?_ (hu := by exact D8 hul.symm)
 refine A9 ?_
 refine sE (A6 rfl) rfl (fun b90 => ?_)
 refine A9 ?_
 (refine W1 rfl hClo rfl rfl (fun v98 G98 outs98 hle98 h98 => ?_); obtain ⟨hG, p1, c1, rfl, rfl⟩ := h98; replace hG := hG.symm; subst hG; refine A3E (cs := es.flatten) (by repeat (first | exact Pk.here | apply Pk.there)) (by omega) (fun bc Cc hpe hnc1 hcm => ?_); subst hpe)
 replace hru := hru.mono hle98
 refine D9 ?_
 refine sL (A0 rfl rfl (B1 (by repeat first | exact mH | apply mT)) hul) rfl rfl ?_
 refine sP (B2 (j := i) rfl rfl rfl (by omega)) rfl rfl ?_
 refine S9 rfl rfl rfl hul huo rfl (by repeat first | exact Sw.here | apply Sw.there) (by exact A3F (by rw [hkl.len]; omega) (fun e he => (hsl.all e he)) hul) ?_
 refine J8 ?_
 (refine A1g (bs := [(bc, (es.set i uc).flatten ++ Cc)]) (Pk.perm (by repeat (first | exact Pk.here | apply Pk.there))) (fun hn2 hd2 hle2 => ?_))
 refine A7 ?_
 refine D2 (rC rfl (A4 rfl rfl)) (rT rfl) (rT rfl) ?_
 (have hks2 := D7.set (j := i) ((hkl.mono hle1).mono hle2) (hru.mono hle2); refine A9H (r' := P7) hs1 hs2 (B3.put (us := ks.set i u) (es := es.set i uc) hk hnum hlb ((hty.mono hle1).mono hle2) ((hfr.mono hle1).mono hle2) (by rw [List.length_set]) (C8.of (Sl.of_blk (A := []) (by rw [Z4 hks2.all, hks2.len, List.length_set]) (by omega) hcm (Wi.in hn2 List.mem_cons_self)) (by rw [hks2.len, List.length_set]) hks2.all (fun e he => by obtain ⟨q, hq⟩ := List.getElem?_of_mem he; exact (hks2.inv hq L0).2.one)) hks2) (fun h1 => by rw [hs3 h1, hu1 h1]))
 refine J6 ?_
 focus (have hall : ∀ i, i < C → (hl : i < ks.length) → J4 ks[i] = true := (fun j hjc hl2 => hj j (by omega) hl2); have hk8 := hkd hall; have hrd' := hrd hall; refine D4 rfl (hRA hk8) rfl rfl (fun v G1 hle1 hh => ?_); obtain ⟨u, uc, cc, rfl, hru, hy, hno⟩ := hh; have hul := hru.len; have huo := hru.one; rcases hm : W5 k ks with _ | x; rotate_left; obtain ⟨rfl, rfl⟩ := hy _ hm; rotate_left; obtain rfl := hno hm; rw [hm] at hrd')
 refine B9 ?_
 refine sE (A6 rfl) rfl (fun b149 => ?_)
 refine sS rfl rfl rfl hul huo rfl ?_ (hu := by exact D8 hul.symm)
 refine A7 ?_
 refine sP (J1 rfl rfl (by omega)) rfl rfl ?_
 refine H0 ?_
 refine sB (qE rfl rfl) rfl rfl (fun h169 => ?_) (fun h169 => ?_)
 refine J6 ?_
 refine D2 (rC rfl (A4 rfl rfl)) (rT rfl) (rT rfl) ?_
 (obtain rfl : k = 1 := B4n hk8 (by omega); rw [hrd']; exact T7.mk rfl (O0 _))
 refine D0 ?_
 (have hk7 : k = 6 ∨ k = 7 ∨ k = 8 ∨ k = 9 ∨ k = 11 ∨ k = 12 ∨ k = 14 := (by rcases hk8 with h1 | hh; (rw [h1] at hops; have : F0 1 = 0 := rfl; omega); exact hh); refine D4 rfl (hCA hk7 _ hle1) rfl rfl (fun v G2 hle2 hh => ?_); obtain ⟨w, wc, rfl, hrw, hw1⟩ := hh; have hwl := hrw.len; have hwo := hrw.one)
 refine B9 ?_
 refine sS rfl rfl rfl hwl hwo rfl ?_ (hu := by exact D8 hwl.symm)
 refine B0 ?_
 refine D2 (rC rfl (A0 rfl rfl (B1 (by repeat first | exact mH | apply mT)) hwl)) (rT rfl) (rT rfl) ?_
 (rw [hrd']; exact A9H (r' := P7) rfl rfl hrw hw1)
 refine B9 ?_
 refine sE (A6 rfl) rfl (fun b208 => ?_)
 refine sS rfl rfl rfl hul huo rfl ?_ (hu := by exact D8 hul.symm)
 refine A7 ?_
 refine sP (A0l rfl rfl (by omega)) rfl rfl ?_
 refine B0 ?_
 refine sL (A0 rfl rfl (B1 (by repeat first | exact mH | apply mT)) hul) rfl rfl ?_
 refine E0 ?_
 refine sS rfl rfl rfl hul huo rfl ?_ (hu := by exact D8 hul.symm)
 refine A7 ?_
 refine D2 (rC rfl (A0 rfl rfl (B1 (by repeat first | exact mH | apply mT)) hul)) (rT rfl) (rT rfl) ?_
 (rw [hrd', hm]; exact T7.mk rfl hru)
def L4 (r : Stp) : IM → Value → List A5 → Prop := L5 fun G' v => ∃ cells, v = .tuple ⟨[.agg ⟨cells⟩, .int .i64 r.2.1, .int .i64 r.2.2]⟩ ∧ B3 G' r.1 cells
theorem L4.mk {G : IM} {r : Stp} {u : Tm} {c l : Int} {cells : List Value} (h : r = (u, c, l)) (hr : B3 G u cells) : L4 r G (.tuple ⟨[.agg ⟨cells⟩, .int .i64 c, .int .i64 l]⟩) [] := by
 subst h; exact ⟨rfl, cells, rfl, hr⟩
theorem A4I {t : Tm} (h : O9 t = true) : t.small := A2l t (A2k h).1
theorem A4J {e : Tm} (h : O9 e = false) : J0 e = (L0, 3, 0) := by unfold J0; rw [if_pos h]; rfl
theorem A4K {e : Tm} (h : O9 e = true) (h2 : J4 e = true) : J0 e = (e, 0, 0) := by unfold J0; rw [if_neg (by rw [h]; decide), if_pos h2]
theorem A4L {e : Tm} (h : O9 e = true) (h2 : J4 e = false) (h3 : (J5 e).2.1 ≠ 1) : J0 e = (L0, (J5 e).2.1, (J5 e).2.2) := by
 unfold J0; rw [if_neg (by rw [h]; decide), if_neg (by rw [h2]; decide), if_pos h3]
theorem A4M {e : Tm} (h : O9 e = true) (h2 : J4 e = false) (h3 : (J5 e).2.1 = 1) (h4 : O9 (J5 e).1 = false) : J0 e = (L0, 4, 0) := by
 unfold J0; rw [if_neg (by rw [h]; decide), if_neg (by rw [h2]; decide), if_neg (by omega), if_pos h4]
theorem A4N {e : Tm} (h : O9 e = true) (h2 : J4 e = false) (h3 : (J5 e).2.1 = 1) (h4 : O9 (J5 e).1 = true) : J0 e = ((J5 e).1, 1, 0) := by
 unfold J0; rw [if_neg (by rw [h]; decide), if_neg (by rw [h2]; decide), if_neg (by omega), if_neg (by rw [h4]; decide)]
theorem B4p {e : Tm} (h : (J0 e).2.1 = 1) : O9 (J0 e).1 = true := by
 cases h1 : O9 e with
 | false => rw [A4J h1] at h; simp at h
 | true =>
  cases h2 : J4 e with
  | true => rw [A4K h1 h2] at h; simp at h
  | false =>
   by_cases h3 : (J5 e).2.1 = 1
   ·cases h4 : O9 (J5 e).1 with
    | false => rw [A4M h1 h2 h3 h4] at h; simp at h
    | true => rw [A4N h1 h2 h3 h4]; exact h4
   ·rw [A4L h1 h2 h3] at h; exact absurd h h3
theorem B4q (t : Tm) (G : IM) (cells : List Value) (hr : B3 G t cells) : Fn Tryz.prog 146 [.agg ⟨cells⟩] [] G (L4 (J0 t)) := by
 have hRl := hr.len
 have hRo := hr.one
 have hV := A8e t G cells hr
 have hI := A9u t G cells hr
 refine B8 Tryz.func146 rfl Tryz.ntmps146 Tryz.results146 rfl ?_
 intro w0
 refine A2 ?_
 refine sE (C6 rfl rfl) rfl (fun b3 => ?_)
 refine sE (A6 rfl) rfl (fun b4 => ?_)
 refine B0 ?_
 refine B7 ?_
 refine A2 ?_
 refine sL (A0 rfl rfl (B1 (by repeat first | exact mH | apply mT)) hRl) rfl rfl ?_
 refine E8 rfl (hV) rfl rfl (fun h14 => ?_) (fun h14 => ?_)
 refine A9 ?_
 refine sL (A0 rfl rfl (B1 (by repeat first | exact mH | apply mT)) hRl) rfl rfl ?_
 refine E8 rfl (hI) rfl rfl (fun h23 => ?_) (fun h23 => ?_)
 refine A7 ?_
 refine sL (A0 rfl rfl (B1 (by repeat first | exact mH | apply mT)) hRl) rfl rfl ?_
 (refine D4 rfl (A5S t G cells (A4I (by assumption)) hr) rfl rfl (fun v G1 hle1 hh => ?_); obtain ⟨cs1, F1, rfl, hs1, hn1⟩ := hh; have hul := hs1.R.len; have huo := hs1.R.one)
 refine sS rfl rfl rfl hul huo rfl ?_ (hu := by exact D8 hul.symm)
 refine A9 ?_
 refine D2 (rC rfl (A0 rfl rfl (B1 (by repeat first | exact mH | apply mT)) hul)) (rT rfl) (rT rfl) ?_
 (exact L4.mk (A4K (by assumption) (by assumption)) (hs1.R.mono (B5.le _ _)))
 refine D9 ?_
 refine sL (A0 rfl rfl (B1 (by repeat first | exact mH | apply mT)) hRl) rfl rfl ?_
 (refine D4 rfl (B4o t G cells (A2k (by assumption)).1 (by assumption) hr) rfl rfl (fun v G1 hle1 hh => ?_); obtain ⟨u, uc, rfl, hru, hu1⟩ := hh; have hul := hru.len; have huo := hru.one; have hVu := A8e u G1 uc hru)
 refine B6 ?_
 refine sE (A6 rfl) rfl (fun b57 => ?_)
 refine sS rfl rfl rfl hul huo rfl ?_ (hu := by exact D8 hul.symm)
 refine B0 ?_
 refine B7 ?_
 refine B9 ?_
 refine sB (M7 rfl rfl) rfl rfl (fun h68 => ?_) (fun h68 => ?_)
 refine Q0 ?_
 refine D2 (rC rfl (A4 rfl rfl)) (rT rfl) (rT rfl) ?_
 (exact L4.mk (A4L (by assumption) (by assumption) (by omega)) (O0 _))
 refine A7 ?_
 refine sL (A0 rfl rfl (B1 (by repeat first | exact mH | apply mT)) hul) rfl rfl ?_
 refine E8 rfl (hVu) rfl rfl (fun h95 => ?_) (fun h95 => ?_)
 refine I9 ?_
 refine sL (A0 rfl rfl (B1 (by repeat first | exact mH | apply mT)) hul) rfl rfl ?_
 (refine D4 rfl (A5S u G1 uc (A4I (by assumption)) hru) rfl rfl (fun v G2 hle2 hh => ?_); obtain ⟨cs2, F2, rfl, hs2, hn2⟩ := hh; have hwl := hs2.R.len; have hwo := hs2.R.one)
 refine sS rfl rfl rfl hwl hwo rfl ?_ (hu := by exact D8 hwl.symm)
 refine B0 ?_
 refine D2 (rC rfl (A0 rfl rfl (B1 (by repeat first | exact mH | apply mT)) hwl)) (rT rfl) (rT rfl) ?_
 (have h9 := hu1 (by omega); subst h9; exact L4.mk (A4N (by assumption) (by assumption) (by omega) (by assumption)) (hs2.R.mono (B5.le _ _)))
 refine J3 ?_
 refine D2 (rC rfl (A4 rfl rfl)) (rT rfl) (rT rfl) ?_
 (have h9 := hu1 (by omega); subst h9; exact L4.mk (A4M (by assumption) (by assumption) (by omega) (by assumption)) (O0 _))
 refine J3 ?_
 refine D2 (rC rfl (A4 rfl rfl)) (rT rfl) (rT rfl) ?_
 (exact L4.mk (A4J (by assumption)) (O0 _))
def N8 : Nat → Tm → Tm × Int × Int × Nat
 | 0, e => ((J0 e).1, (J0 e).2.1, (J0 e).2.2, 0)
 | n + 1, e => if (J0 e).2.1 = 1 then ((N8 n (J0 e).1).1, (N8 n (J0 e).1).2.1, (N8 n (J0 e).1).2.2.1, (N8 n (J0 e).1).2.2.2 + 1)
  else ((J0 e).1, (J0 e).2.1, (J0 e).2.2, 0)
theorem A6j (e : Tm) : N8 0 e = ((J0 e).1, (J0 e).2.1, (J0 e).2.2, 0) := by rw [N8]
theorem A6k {n : Nat} {e : Tm} (h : (J0 e).2.1 = 1) : N8 (n + 1) e = ((N8 n (J0 e).1).1, (N8 n (J0 e).1).2.1, (N8 n (J0 e).1).2.2.1, (N8 n (J0 e).1).2.2.2 + 1) := by rw [N8, if_pos h]
theorem A6l {n : Nat} {e : Tm} (h : (J0 e).2.1 ≠ 1) : N8 (n + 1) e = ((J0 e).1, (J0 e).2.1, (J0 e).2.2, 0) := by rw [N8, if_neg h]
theorem A9I : ∀ (n : Nat) (e : Tm), (N8 n e).2.1 = 1 → Q4 n e = (L0, 5, 0, (N8 n e).2.2.2)
 | 0, e, h => by rw [A6j] at h ⊢; rw [Q4, if_pos h]
 | n + 1, e, h => by
  by_cases h1 : (J0 e).2.1 = 1
  ·rw [A6k h1] at h ⊢
   rw [Q4, if_pos h1, A9I n _ h]
  ·rw [A6l h1] at h; exact absurd h h1
theorem A9J : ∀ (n : Nat) (e : Tm), (N8 n e).2.1 ≠ 1 → Q4 n e = N8 n e
 | 0, e, h => by rw [A6j] at h ⊢; rw [Q4, if_neg h]
 | n + 1, e, h => by
  by_cases h1 : (J0 e).2.1 = 1
  ·rw [A6k h1] at h ⊢
   rw [Q4, if_pos h1, A9J n _ h]
  ·rw [A6l h1]; rw [Q4, if_neg h1]
def EvP (r : Tm × Int × Int × Nat) : IM → Value → List A5 → Prop := L5 fun G' v => ∃ cells, v = .tuple ⟨[.agg ⟨cells⟩, .int .i64 r.2.1, .int .i64 r.2.2.1, .int .i64 (r.2.2.2 : Int)]⟩ ∧ B3 G' r.1 cells
def Z8 (i : Nat) (r : Tm × Int × Int × Nat) : Tm × Int × Int × Nat := (r.1, r.2.1, r.2.2.1, r.2.2.2 + i)
theorem B4r {m i : Nat} {e : Tm} (h : (J0 e).2.1 ≠ 1 ∨ m = 0) : Z8 i (N8 m e) = ((J0 e).1, (J0 e).2.1, (J0 e).2.2, i) := by
 cases m with
 | zero => simp [Z8, N8]
 | succ m =>
  rcases h with h | h
  ·simp only [Z8, N8]; rw [if_neg h]; simp
  ·cases h
theorem B4s {m i : Nat} {e : Tm} (h : (J0 e).2.1 = 1) (hm : 0 < m) : Z8 i (N8 m e) = Z8 (i + 1) (N8 (m - 1) (J0 e).1) := by
 obtain ⟨k, rfl⟩ : ∃ k, m = k + 1 := ⟨m - 1, by omega⟩
 simp only [Z8, N8]; rw [if_pos h]; simp only [Nat.add_sub_cancel, Nat.add_assoc, Nat.add_comm 1 i]
section fin
variable {P : Program} {Γ : K8} {env : L6} {hp : List A5} {G : IM}
theorem B4t {post : IM → Value → List A5 → Prop} {σ : Sy} (hk : post σ.G (.tuple ⟨[]⟩) []) : A0k P Γ [] post .normal σ := ⟨[], .nil, [], σ.hp, by simp, hk⟩
theorem A4O {r r2 r3 r4 : ResultVar} {post : IM → Value → List A5 → Prop} {v v2 v3 v4 : Value} (h : W0 P Γ ⟨env, hp, G⟩ r v) (h2 : W0 P Γ ⟨env, hp, G⟩ r2 v2) (h3 : W0 P Γ ⟨env, hp, G⟩ r3 v3) (h4 : W0 P Γ ⟨env, hp, G⟩ r4 v4) (hk : post G (.tuple ⟨[v, v2, v3, v4]⟩) []) :
  A0k P Γ [r, r2, r3, r4] post .ret ⟨env, hp, G⟩ := A30 (.cons h (.cons h2 (.cons h3 (.cons h4 .nil)))) hk
end fin
theorem EvP.mk {G : IM} {r : Tm × Int × Int × Nat} {u : Tm} {c l : Int} {i : Nat} {cells : List Value} (h : r = (u, c, l, i)) (hr : B3 G u cells) : EvP r G (.tuple ⟨[.agg ⟨cells⟩, .int .i64 c, .int .i64 l, .int .i64 (i : Int)]⟩) [] := by
 subst h; exact ⟨rfl, cells, rfl, hr⟩
theorem A6m {Q : Prop} (h : Q := by (exact EvP.mk (by rw [← hev]; exact hend (by omega)) hrw)) : Q := h
theorem B4u (e : Tm) (n : Nat) (hn : n ≤ 300) (fid : FuncId) [B4 Tryz.prog fid] (us cs : List Value) (hq : ∀ (G : IM) (u : Tm) (cells : List Value), B3 G u cells → Fn Tryz.prog fid (us ++ [.agg ⟨cells⟩] ++ cs) [] G (E5 (.tuple ⟨[]⟩) G))
  (G : IM) (cells : List Value) (hr : B3 G e cells) : Fn Tryz.prog 104 [.agg ⟨cells⟩, .int .i64 (n : Int), .func (.func fid) ⟨us⟩ ⟨cs⟩] [] G (EvP (N8 n e)) := by
 have hRl := hr.len
 have hRo := hr.one
 have hq0 := hq G e cells hr
 refine B8 Tryz.func104 rfl Tryz.ntmps104 Tryz.results104 rfl ?_
 intro w0
 refine A2 ?_
 refine sE (C6 rfl rfl) rfl (fun b3 => ?_)
 refine sE (A6 rfl) rfl (fun b4 => ?_)
 refine D0 ?_
 refine sL (A0 rfl rfl (B1 (by repeat first | exact mH | apply mT)) hRl) rfl rfl ?_
 (refine A7d rfl rfl hq0 rfl rfl ?_)
 refine A9 ?_
 refine B7 ?_
 (refine I3 (fun (x : Nat × Tm × List Value × IM) => ⟨[(10, .int .i64 (x.1 : Int)), (1, .int .i64 (n : Int)), (2, .func (.func fid) ⟨us⟩ ⟨cs⟩), (3, .pointer (some ⟨b3, 0, none⟩)), (6, .pointer (some ⟨b4, 0, none⟩))], [.blk b3 x.2.2.1, .blk b4 [.int .i64 0, .string ⟨⟨[]⟩⟩, .int .i64 0, .int .i64 0, .slice none 0 0, .int .i64 0, .slice none 0 0, .int .i64 0, .slice none 0 0]], x.2.2.2⟩) (fun x => x.1 ≤ n ∧ C5 G x.2.2.2 ∧ B3 x.2.2.2 x.2.1 x.2.2.1 ∧ Z8 x.1 (N8 (n - x.1) x.2.1) = N8 n e) (fun x => n - x.1) (0, e, cells, G) ?_ ?_ ?_)
 (simp only [H9]; exact D3)
 (exact ⟨Nat.zero_le _, C5.refl _, hr, rfl⟩)
 (rintro ⟨i, u, uc, Gi⟩ ⟨hi, hle, hru, hev⟩; simp only [] at hi hle hru hev ⊢; have hul := hru.len; have huo := hru.one)
 refine tS ?_
 refine B7 ?_
 refine A2 ?_
 refine sL (A0 rfl rfl (B1 (by repeat first | exact mH | apply mT)) hul) rfl rfl ?_
 (refine D4 rfl (B4q u Gi uc hru) rfl rfl (fun v G1 hle1 hh => ?_); obtain ⟨wc, hv, hrw⟩ := hh; have hwl := hrw.len; have hwo := hrw.one; have hend := @B4r (n - i) i u; have hgo := @B4s (n - i) i u; generalize J0 u = r at hv hrw hend hgo; obtain ⟨w, c, l⟩ := r; simp only at hv hrw hend hgo; subst hv)
 refine B6 ?_
 refine sE (A6 rfl) rfl (fun b37 => ?_)
 refine sS rfl rfl rfl hwl hwo rfl ?_ (hu := by exact D8 hwl.symm)
 refine D0 ?_
 refine sB (M7 rfl rfl) rfl rfl (fun h47 => ?_) (fun h47 => ?_)
 refine I9 ?_
 refine sL (A0 rfl rfl (B1 (by repeat first | exact mH | apply mT)) hwl) rfl rfl ?_
 refine B9 ?_
 refine sS rfl rfl rfl hwl hwo rfl ?_ (hu := by exact D8 hwl.symm)
 refine H0 ?_
 refine A4O (rC rfl (A0 rfl rfl (B1 (by repeat first | exact mH | apply mT)) hwl)) (rT rfl) (rT rfl) (rT rfl) ?_
 exact A6m
 refine B9 ?_
 refine sB (qE rfl rfl) rfl rfl (fun h79 => ?_) (fun h79 => ?_)
 refine A7 ?_
 refine sL (A0 rfl rfl (B1 (by repeat first | exact mH | apply mT)) hwl) rfl rfl ?_
 refine B9 ?_
 refine sS rfl rfl rfl hwl hwo rfl ?_ (hu := by exact D8 hwl.symm)
 refine H0 ?_
 refine A4O (rC rfl (A0 rfl rfl (B1 (by repeat first | exact mH | apply mT)) hwl)) (rT rfl) (rT rfl) (rT rfl) ?_
 exact A6m
 refine D0 ?_
 refine sL (A0 rfl rfl (B1 (by repeat first | exact mH | apply mT)) hwl) rfl rfl ?_
 refine S9 rfl rfl rfl hwl hwo rfl (by repeat first | exact Sw.here | apply Sw.there) (by exact D8 (hul.trans hwl.symm)) ?_
 refine B6 ?_
 refine sL (A0 rfl rfl (B1 (by repeat first | exact mH | apply mT)) hwl) rfl rfl ?_
 (refine A7d rfl rfl (hq G1 w wc hrw) rfl rfl ?_)
 refine B0 ?_
 refine sP (E7 rfl rfl (by omega) (by omega)) rfl rfl ?_
 refine A2 ?_
 refine I7 (i + 1, w, wc, G1) ?_ ?_ ?_
 (simp only [H9]; exact D3)
 (dsimp only; exact ⟨by omega, hle.trans hle1, hrw, by rw [← hev, hgo (by omega) (by omega), show n - (i + 1) = n - i - 1 by omega]⟩)
 (show n - (i + 1) < n - i; omega)
theorem A6n (fuel : Int) (G : IM) : Fn Tryz.prog 46 [.int .i64 fuel] [] G (E5 (.bool (O2 fuel 0 300)) G) := by
 refine B8 Tryz.func46 rfl Tryz.ntmps46 Tryz.results46 rfl ?_
 intro w0
 refine D0 ?_
 refine H4 rfl ((A03 _ _ _ _)) rfl rfl ?_
 refine B0 ?_
 (exact ⟨rfl, rfl, rfl⟩)
theorem A6o {e : Tm} {fuel : Int} (h : O2 fuel 0 300 = false) : S2 e fuel = (L0, 3, 0) := by
 unfold S2; rw [if_neg (A7k h)]; rfl
theorem A9K {e : Tm} {fuel : Int} (h : O2 fuel 0 300 = true) (h1 : (N8 fuel.toNat e).2.1 = 1) : S2 e fuel = (L0, 5, 0) := by
 unfold S2; rw [if_pos (A3o h), A9I _ _ h1]
theorem A9L {e : Tm} {fuel : Int} (h : O2 fuel 0 300 = true) (h1 : (N8 fuel.toNat e).2.1 ≠ 1) : S2 e fuel = ((N8 fuel.toNat e).1, (N8 fuel.toNat e).2.1, (N8 fuel.toNat e).2.2.1) := by
 unfold S2; rw [if_pos (A3o h), A9J _ _ h1]
theorem B4v (G : IM) (cells : List Value) (hl : cells.length = 9) (ho : cells.all (·.oneCell') = true) : Fn Tryz.prog 105 [.agg ⟨cells⟩] [] G (E5 (.tuple ⟨[]⟩) G) := by
 refine B8 Tryz.func105 rfl Tryz.ntmps105 Tryz.results105 rfl ?_
 intro w0
 refine tR ?_
 refine sE (C6 rfl rfl) rfl (fun b2 => ?_)
 refine sD ?_
 refine B4t ?_
 (exact ⟨rfl, rfl, rfl⟩)
theorem B4w (e : Tm) (fuel : Int) (G : IM) (cells : List Value) (hr : B3 G e cells) : Fn Tryz.prog 58 [.agg ⟨cells⟩, .int .i64 fuel] [] G (L4 (S2 e fuel)) := by
 have hRl := hr.len
 have hRo := hr.one
 have hno := @A6o e fuel
 have hmu := @A9K e fuel
 have hen := @A9L e fuel
 refine B8 Tryz.func58 rfl Tryz.ntmps58 Tryz.results58 rfl ?_
 intro w0
 refine A2 ?_
 refine sE (C6 rfl rfl) rfl (fun b3 => ?_)
 refine sE (A6 rfl) rfl (fun b4 => ?_)
 refine D0 ?_
 refine E8 rfl ((A6n fuel _)) rfl rfl (fun h13 => ?_) (fun h13 => ?_)
 refine D0 ?_
 refine sL (A0 rfl rfl (B1 (by repeat first | exact mH | apply mT)) hRl) rfl rfl ?_
 refine E0 ?_
 (have hf : O2 fuel 0 300 = true := (by assumption); have hf2 := A3o hf; have hE := B4u e fuel.toNat (by omega) 105 [] [] (fun G u cells hru => B4v G cells hru.len hru.one) G cells hr; rw [Int.toNat_of_nonneg hf2.1] at hE; refine D4 rfl hE rfl rfl (fun v G1 hle1 hh => ?_); obtain ⟨wc, hv, hrw⟩ := hh; have hwl := hrw.len; have hwo := hrw.one; have hmu := hmu hf; have hen := hen hf; generalize N8 fuel.toNat e = r at hv hrw hmu hen; obtain ⟨w, c, l, i⟩ := r; simp only at hv hrw hmu hen; subst hv)
 refine B0 ?_
 refine sE (A6 rfl) rfl (fun b30 => ?_)
 refine sS rfl rfl rfl hwl hwo rfl ?_ (hu := by exact D8 hwl.symm)
 refine D9 ?_
 refine sB (qE rfl rfl) rfl rfl (fun h41 => ?_) (fun h41 => ?_)
 refine J6 ?_
 refine D2 (rC rfl (A4 rfl rfl)) (rT rfl) (rT rfl) ?_
 (exact L4.mk (hmu (by omega)) (O0 _))
 refine A9 ?_
 refine sL (A0 rfl rfl (B1 (by repeat first | exact mH | apply mT)) hwl) rfl rfl ?_
 refine A2 ?_
 refine sS rfl rfl rfl hwl hwo rfl ?_ (hu := by exact D8 hwl.symm)
 refine B0 ?_
 refine D2 (rC rfl (A0 rfl rfl (B1 (by repeat first | exact mH | apply mT)) hwl)) (rT rfl) (rT rfl) ?_
 (exact L4.mk (hen (by omega)) hrw)
 refine J7 ?_
 refine D2 (rC rfl (A4 rfl rfl)) (rT rfl) (rT rfl) ?_
 (exact L4.mk (hno (by assumption)) (O0 _))
def ElP (bx : Nat) (cx : Cx) (e : Tm) (l : Int) : IM → Value → List A5 → Prop := fun G' v outs => ∃ u cu t ct l', v = .tuple ⟨[.agg ⟨cu⟩, .agg ⟨ct⟩, .bool (M6 cx e l).isSome]⟩ ∧ outs = [.blk bx [.int .i64 l']] ∧ B3 G' u cu ∧ C2 G' t ct ∧ l ≤ l' ∧ l' + 1 ≤ l + (D6 e : Int) ∧ ∀ r, M6 cx e l = some r → r = (u, t, l')
theorem ElP.no {G : IM} {bx : Nat} {cx : Cx} {e : Tm} {l l' : Int} {u : Tm} {t : Ty} {cu ct : List Value} (h : M6 cx e l = none) (hu : B3 G u cu) (ht : C2 G t ct) (h1 : l ≤ l') (h2 : l' + 1 ≤ l + (D6 e : Int)) : ElP bx cx e l G (.tuple ⟨[.agg ⟨cu⟩, .agg ⟨ct⟩, .bool false]⟩) [.blk bx [.int .i64 l']] :=
 ⟨u, cu, t, ct, l', by rw [h]; rfl, rfl, hu, ht, h1, h2, fun r hr => by rw [h] at hr; cases hr⟩
theorem ElP.yes {G : IM} {bx : Nat} {cx : Cx} {e : Tm} {l l' : Int} {u : Tm} {t : Ty} {cu ct : List Value} (h : M6 cx e l = some (u, t, l')) (hu : B3 G u cu) (ht : C2 G t ct) (h1 : l ≤ l') (h2 : l' + 1 ≤ l + (D6 e : Int)) : ElP bx cx e l G (.tuple ⟨[.agg ⟨cu⟩, .agg ⟨ct⟩, .bool true]⟩) [.blk bx [.int .i64 l']] :=
 ⟨u, cu, t, ct, l', by rw [h]; rfl, rfl, hu, ht, h1, h2, fun r hr => by rw [h] at hr; cases hr; rfl⟩
section
variable {cx : Cx} {k : Int} {nm : ByteArray} {num : Int} {ty fr : Ty} {lb : Int} {ks us : List Tm} {h : List Ty} {l l' : Int}
theorem B4x (hL : M3 (O7 cx k nm ty) ks l = none) : M6 cx (.mk k nm num ty fr lb ks) l = none := by rw [M6, hL]
theorem A9M (hL : M3 (O7 cx k nm ty) ks l = some (us, h, l')) (hn : Y6 cx k nm ty h = none) : M6 cx (.mk k nm num ty fr lb ks) l = none := by rw [M6, hL]; simp only [A1t, hn]
theorem B4y {w : List Ty} {t : Ty} (hL : M3 (O7 cx k nm ty) ks l = some (us, h, l')) (hn : Y6 cx k nm ty h = some (w, t)) (hk : k = 13) : M6 cx (.mk k nm num ty fr lb ks) l = some ((I6 us h w l').1.getD 0 L0, t, (I6 us h w l').2) := by
 rw [M6, hL]; simp only [A1t, hn, if_pos hk]
theorem A9N {w : List Ty} {t : Ty} (hL : M3 (O7 cx k nm ty) ks l = some (us, h, l')) (hn : Y6 cx k nm ty h = some (w, t)) (hk : k ≠ 13) : M6 cx (.mk k nm num ty fr lb ks) l = some (.mk k nm num ty fr lb (I6 us h w l').1, t, (I6 us h w l').2) := by
 rw [M6, hL]; simp only [A1t, hn, if_neg hk]
end
theorem A1U {t : Ty} (h : H5 t = true) : F8 t := (A4q h).1
theorem A9O {us : List Tm} (h : 0 < us.length) : us.getD 0 L0 = us[0] := by rw [List.getD_eq_getElem?_getD, List.getElem?_eq_getElem h, Option.getD_some]
theorem A9P {Q : Prop} (h : Q := by (exact ElP.no (A9M hml (A4B hmw (b := false) (by assumption))) (O0 _) (Q3 _ ⟨by omega, by omega⟩) (by omega) (by rw [hck]; omega))) : Q := h
theorem A9Q (bx : Nat) : ∀ (e : Tm) (d : Int) (cx : Cx) (l0 : Int) (G : IM) (pc : Option Addr) (nc cc : Nat) (cells : List Value), N2 12 14 e d = true → (nc : Int) ≤ d → Z1 cx → R4 G cx pc nc cc → B3 G e cells → 0 ≤ l0 → l0 + (D6 e : Int) ≤ 1000000000 →
  Fn Tryz.prog 61 [.pointer (some ⟨bx, 0, none⟩), .slice pc nc cc, .agg ⟨cells⟩] [.blk bx [.int .i64 l0]] G (ElP bx cx e l0) := by
 refine Tm.ind fun k nm num ty fr lb ks ih d cx l0 G pc nc cc cells hv hnd hcv hx hr hl0 hlc => ?_
 have hr0 := hr
 have hone := hr.one
 obtain ⟨hv1, hv2, hv3, hv4⟩ := A0U hv
 have hvk := (A05 12 14 ks _).1 hv4
 have har := (U0.1 hv3).1
 have hop := A2X har
 obtain ⟨hta, hts⟩ := A2Y hv3
 have hkr : 1 ≤ k ∧ k ≤ 14 := A3Q (by rw [har]; omega)
 have hcvX : Z1 (O7 cx k nm ty) := A3K hcv fun hk => (U0.1 hv3).2.2.2.2.2.1 (.inl hk)
 have hck : D6 (.mk k nm num ty fr lb ks) = F4 ks + 1 := Y8 ..
 rw [hck] at hlc
 obtain ⟨tk, tks⟩ := ty
 obtain ⟨fk, fks⟩ := fr
 obtain ⟨pt, ct, pf, cf, q, cq, es, rfl, hk, hnum, hlb, hty, hfr, hsl, hkl⟩ := hr.open9
 have hlen : ks.length ≤ 3 := by have := A1N k; omega
 obtain ⟨hx1, esx, hx2, hx3⟩ := id hx
 have hcl := B3M G pc nc cc esx hx2 (by omega)
 have hcnt0 := A4a ks
 refine B8 Tryz.func61 rfl Tryz.ntmps61 Tryz.results61 rfl ?_
 intro w0
 refine A2 ?_
 refine sE (C6 rfl rfl) rfl (fun b3 => ?_)
 refine sE (A6 rfl) rfl (fun b4 => ?_)
 refine sE (A6 rfl) rfl (fun b5 => ?_)
 refine I9 ?_
 (show K3 _ _ (.seq (.region 2 _ _) (.cond (.tmp 25) _ _)) _ _; refine A3C (fun (x : Option Addr × Nat × Nat × IM) => ⟨[(9, .slice x.1 x.2.1 x.2.2.1), (1, .slice pc nc cc), (0, .pointer (some ⟨bx, 0, none⟩)), (5, .pointer (some ⟨b3, 0, none⟩)), (6, .pointer (some ⟨b4, 0, none⟩)), (7, .pointer (some ⟨b5, 0, none⟩))], [.blk b5 [.int .i64 0, .slice none 0 0], .blk b4 [.int .i64 0, .string ⟨⟨[]⟩⟩, .int .i64 0, .int .i64 0, .slice none 0 0, .int .i64 0, .slice none 0 0, .int .i64 0, .slice none 0 0], .blk b3 [.int .i64 k, .string nm, .int .i64 num, .int .i64 tk, .slice pt tks.length ct, .int .i64 fk, .slice pf fks.length cf, .int .i64 lb, .slice q ks.length cq], .blk bx [.int .i64 l0]], x.2.2.2⟩) (fun x => C5 G x.2.2.2 ∧ R4 x.2.2.2 (O7 cx k nm (.mk tk tks)) x.1 x.2.1 x.2.2.1 ∧ x.2.1 ≤ nc + 1) ?_ ?_)
 ·refine B6 ?_
  refine sB (qE rfl rfl) rfl rfl (fun h21 => ?_) (fun h21 => ?_)
  ·refine B9 ?_
   refine E1 E3 rfl ?_
   refine K2 (i := 0) (l' := [tt,ff,ff,ff,ff,ff,ff,ff,ff,ff]) rfl D5 (qM rfl) rfl (by kernel_rfl) rfl rfl ?_
   refine aP 2 rfl (C0 rfl) rfl ?_
   refine aL 3 rfl (C9 rfl rfl) rfl ?_
   refine aP 4 rfl (C0 rfl) rfl ?_
   refine aL 5 rfl (A4 rfl rfl) rfl ?_
   refine aP 6 rfl (Z3 rfl rfl) rfl ?_
   refine P9 (j := 1) (j' := 7) (by kernel_rfl) ?_ ?_
   ·(refine A7f rfl rfl hcl rfl rfl rfl (fun v33 G33 outs33 hle33 h33 => ?_); obtain ⟨hG, p1, c1, rfl, rfl⟩ := h33; replace hG := hG.symm; subst hG)
    replace hr := hr.mono hle33
    replace hr0 := hr0.mono hle33
    replace hty := hty.mono hle33
    replace hfr := hfr.mono hle33
    replace hsl := hsl.mono hle33
    replace hkl := hkl.mono hle33
    replace hx2 := hx2.mono hle33
    refine A3 7 ?_
    (refine E6 rfl (E2 rfl rfl rfl (by omega) (by unfold maxLen; omega) rfl) rfl rfl ?_; rintro _ ⟨b35, rfl⟩)
    refine A3 8 ?_
    (refine T9 rfl rfl rfl rfl rfl rfl (fun _ _ => by repeat (first | exact Sw.here | apply Sw.there)) (M4 (by repeat first | exact mH | apply mT)) rfl (by simp [Value.oneCell']) (by unfold maxLen; omega) (by omega) rfl rfl (by repeat (first | exact D1.nil | apply D1.dep (by decide +kernel) | apply D1.blk (by decide +kernel) (by repeat (first | exact Pk.here | apply Pk.there)) (by repeat first | exact mH | apply mT))) (fun p5 c5 => ?_); refine A7c (cs := esx.flatten ++ [.string nm, .int .i64 tk, .slice pt tks.length ct]) (by repeat (first | exact Pk.here | apply Pk.there)) (fun Gf hleF hslF hnoF => ?_); have hxF := R4.snoc (nm := nm) (t := .mk tk tks) hx1 hx2.len hx2.all hx2.one hx3 hleF ⟨_, _, rfl, hty.mono hleF⟩ hslF)
    refine aP 9 rfl (qA rfl) rfl ?_
    refine aD' ?_
    refine A1r (p5, nc + 1, c5, Gf) (O5 (by repeat (first | exact I1.nil | refine I1.cons rfl ?_)) (by repeat (first | exact A8.refl | exact A8.nil | refine A8.cons (by repeat (first | exact Pk.here | apply Pk.there)) ?_ | apply A8.drop))) ⟨hleF, by (dsimp only; rw [O7, if_pos (by omega)]; exact hxF), by (dsimp only; omega)⟩
   ·(refine E6 rfl (E2 rfl rfl rfl (by omega) (by unfold maxLen; omega) rfl) rfl rfl ?_; rintro _ ⟨b41, rfl⟩)
    refine A3 1 ?_
    (refine A7f rfl rfl hcl rfl rfl rfl (fun v43 G43 outs43 hle43 h43 => ?_); obtain ⟨hG, p1, c1, rfl, rfl⟩ := h43; replace hG := hG.symm; subst hG)
    replace hr := hr.mono hle43
    replace hr0 := hr0.mono hle43
    replace hty := hty.mono hle43
    replace hfr := hfr.mono hle43
    replace hsl := hsl.mono hle43
    replace hkl := hkl.mono hle43
    replace hx2 := hx2.mono hle43
    refine A3 8 ?_
    (refine T9 rfl rfl rfl rfl rfl rfl (fun _ _ => by repeat (first | exact Sw.here | apply Sw.there)) (M4 (by repeat first | exact mH | apply mT)) rfl (by simp [Value.oneCell']) (by unfold maxLen; omega) (by omega) rfl rfl (by repeat (first | exact D1.nil | apply D1.dep (by decide +kernel) | apply D1.blk (by decide +kernel) (by repeat (first | exact Pk.here | apply Pk.there)) (by repeat first | exact mH | apply mT))) (fun p5 c5 => ?_); refine A7c (cs := esx.flatten ++ [.string nm, .int .i64 tk, .slice pt tks.length ct]) (by repeat (first | exact Pk.here | apply Pk.there)) (fun Gf hleF hslF hnoF => ?_); have hxF := R4.snoc (nm := nm) (t := .mk tk tks) hx1 hx2.len hx2.all hx2.one hx3 hleF ⟨_, _, rfl, hty.mono hleF⟩ hslF)
    refine aP 9 rfl (qA rfl) rfl ?_
    refine aD' ?_
    refine A1r (p5, nc + 1, c5, Gf) (O5 (by repeat (first | exact I1.nil | refine I1.cons rfl ?_)) (by repeat (first | exact A8.refl | exact A8.nil | refine A8.cons (by repeat (first | exact Pk.here | apply Pk.there)) ?_ | apply A8.drop))) ⟨hleF, by (dsimp only; rw [O7, if_pos (by omega)]; exact hxF), by (dsimp only; omega)⟩
  ·refine B6 ?_
   refine A1r (pc, nc, cc, G) (O5 (by repeat (first | exact I1.nil | refine I1.cons rfl ?_)) (by repeat (first | exact A8.refl | exact A8.nil | refine A8.cons (by repeat (first | exact Pk.here | apply Pk.there)) ?_ | apply A8.drop))) ⟨C5.refl _, by (dsimp only; rw [O7, if_neg (by omega)]; exact hx), by (dsimp only; omega)⟩
 ·(rintro ⟨p6, n6, c6, Gx⟩ ⟨hleX, hxX, hn6⟩; simp only [] at hleX hxX hn6 ⊢; replace hsl := hsl.mono hleX; replace hkl := hkl.mono hleX; replace hx := hx.mono hleX; replace hr0 := hr0.mono hleX; replace hty := hty.mono hleX; replace hfr := hfr.mono hleX)
  refine B9 ?_
  refine sE (A6 rfl) rfl (fun b58 => ?_)
  refine A0O ?_
  refine B7 ?_
  (refine R5 37 9 ?_; refine R5 34 2 ?_; refine I3 (fun (x : Nat × (Option Addr × Nat × List Tm × List (List Value)) × (Option Addr × Nat × List Ty × List (List Value)) × Int × IM) => ⟨[(40, .int .i64 x.1), (39, .int .i64 ks.length), (38, .slice q ks.length cq), (11, .slice x.2.2.1.1 x.1 x.2.2.1.2.1), (9, .slice p6 n6 c6), (1, .slice pc nc cc), (0, .pointer (some ⟨bx, 0, none⟩)), (5, .pointer (some ⟨b3, 0, none⟩)), (6, .pointer (some ⟨b4, 0, none⟩)), (7, .pointer (some ⟨b5, 0, none⟩)), (10, .pointer (some ⟨b58, 0, none⟩))], [.blk b58 [.int .i64 k, .string nm, .int .i64 num, .int .i64 tk, .slice pt tks.length ct, .int .i64 fk, .slice pf fks.length cf, .int .i64 lb, .slice x.2.1.1 x.1 x.2.1.2.1], .slc x.2.1.1 x.2.1.2.1 37 9 x.1 x.2.1.2.2.2.flatten, .slc x.2.2.1.1 x.2.2.1.2.1 34 2 x.1 x.2.2.1.2.2.2.flatten, .blk b5 [.int .i64 0, .slice none 0 0], .blk b4 [.int .i64 0, .string ⟨⟨[]⟩⟩, .int .i64 0, .int .i64 0, .slice none 0 0, .int .i64 0, .slice none 0 0, .int .i64 0, .slice none 0 0], .blk b3 [.int .i64 k, .string nm, .int .i64 num, .int .i64 tk, .slice pt tks.length ct, .int .i64 fk, .slice pf fks.length cf, .int .i64 lb, .slice q ks.length cq], .blk bx [.int .i64 x.2.2.2.1]], x.2.2.2.2⟩) (fun x => x.1 ≤ ks.length ∧ C5 Gx x.2.2.2.2 ∧ x.2.1.2.2.1.length = x.1 ∧ D7 x.2.2.2.2 x.2.1.2.2.1 x.2.1.2.2.2 ∧ x.2.2.1.2.2.1.length = x.1 ∧ C7 x.2.2.2.2 x.2.2.1.2.2.1 x.2.2.1.2.2.2 ∧ (∀ t ∈ x.2.2.1.2.2.1, F8 t) ∧ M3 (O7 cx k nm (.mk tk tks)) (ks.take x.1) l0 = some (x.2.1.2.2.1, x.2.2.1.2.2.1, x.2.2.2.1) ∧ l0 ≤ x.2.2.2.1 ∧ x.2.2.2.1 + x.1 ≤ l0 + (F4 (ks.take x.1) : Int)) (fun x => ks.length - x.1) (0, (none, 0, [], []), (none, 0, [], []), l0, Gx) ?_ ?_ ?_)
  ·(simp only [List.take_zero, A0A]; exact (O5 (by repeat (first | exact I1.nil | refine I1.cons rfl ?_)) (by repeat (first | exact A8.refl | exact A8.nil | refine A8.cons (by repeat (first | exact Pk.here | apply Pk.there)) ?_ | apply A8.drop))))
  ·(exact ⟨by simp, C5.refl _, rfl, by simp [D7], rfl, by simp [C7], by simp, by simp [M3], Int.le_refl _, by simp [F4]⟩)
  ·(rintro ⟨i, ⟨pn, cn, us, es'⟩, ⟨pm, cm, ts, ess⟩, l, Gi⟩ ⟨hi, hle, hlu, hst, hlt, hstt, hat, hml, hl1, hl2⟩; simp only [] at hi hle hlu hst hlt hstt hat hml hl1 hl2 ⊢; replace hty := hty.mono hle; replace hfr := hfr.mono hle; replace hsl := hsl.mono hle; replace hkl := hkl.mono hle; replace hr0 := hr0.mono hle; replace hx := hx.mono hle; replace hxX := hxX.mono hle)
   refine A2 ?_
   refine sB (I8 rfl rfl) rfl rfl (fun h89 => ?_) (fun h89 => ?_)
   ·refine A9 ?_
    refine B7 ?_
    refine A2 ?_
    (obtain ⟨b, o, e, rfl, hl, hate, hre, hgb⟩ := hsl.kidTm hkl (i := i) (by omega) (by omega); have hon := hre.one; have hsc := A0y (ks := ks) (i := i) (by omega); have hsk := A0x (ks := ks) (i := i) (by omega); refine sP (B2 rfl rfl rfl (by omega)) rfl rfl ?_)
    refine sL (A0 rfl rfl (hate _) hl) rfl rfl ?_
    refine sE (A6 rfl) rfl (fun b102 => ?_)
    refine sS rfl rfl rfl hl hon rfl ?_ (hu := by exact D8 hl.symm)
    refine A7 ?_
    refine sL (A0 rfl rfl (B1 (by repeat first | exact mH | apply mT)) hl) rfl rfl ?_
    (refine A1M rfl (ih ks[i] (List.getElem_mem (by omega)) (d + 1) _ l Gi p6 n6 c6 _ (hvk i (by omega)) (by omega) hcvX hxX hre (by omega) (by omega)) (Pk.perm (by repeat (first | exact Pk.here | apply Pk.there))) rfl rfl (fun v G3 outs hle3 hh => ?_); obtain ⟨u, uc, t, tc, l3, rfl, rfl, hru, hrt, hl3, hl4, hu⟩ := hh; obtain ⟨v1, v2, v3, v4, v5, v6, v7, v8, v9, rfl⟩ := T6 hru.len; obtain ⟨p3, c3, e3, rfl, _⟩ := hrt.open; have hlu9 := hru.len; have hou9 := hru.one; rcases hE : M6 (O7 cx k nm (Ty.mk tk tks)) ks[i] l with _ | ⟨u2, t2, l2⟩; rotate_left; have hue := hu _ hE; simp only [Prod.mk.injEq] at hue; obtain ⟨rfl, rfl, rfl⟩ := hue; rotate_left)
    ·refine B6 ?_
     refine sE (A6 rfl) rfl (fun b116 => ?_)
     refine sE (A6 rfl) rfl (fun b117 => ?_)
     refine sS rfl rfl rfl hlu9 hou9 rfl ?_ (hu := by exact D8 hlu9.symm)
     refine A5j ?_
     refine A2w (outs := [.blk bx [.int .i64 _]]) (rC rfl (A4 rfl rfl)) (rC rfl (A4 rfl rfl)) (rT rfl) (A8.cons (by repeat (first | exact Pk.here | apply Pk.there)) A8.nil) ?_
     (exact ElP.no (B4x (A56 (by omega) hml hE)) (O0 _) (Q3 _ ⟨by omega, by omega⟩) (by omega) (by rw [hck]; omega))
    ·refine B6 ?_
     refine sE (A6 rfl) rfl (fun b153 => ?_)
     refine sE (A6 rfl) rfl (fun b154 => ?_)
     refine sS rfl rfl rfl hlu9 hou9 rfl ?_ (hu := by exact D8 hlu9.symm)
     refine J7 ?_
     refine E1 E3 rfl ?_
     refine K2 (i := 0) (l' := [tt,ff,ff,ff,ff,ff,ff,ff,ff,ff,ff,ff]) rfl D5 (C0 rfl) rfl (by kernel_rfl) rfl rfl ?_
     refine aL 1 rfl (C9 rfl rfl) rfl ?_
     refine aL 2 rfl (A4 rfl rfl) rfl ?_
     refine aP 5 rfl (qM rfl) rfl ?_
     refine aL 6 rfl (A4 rfl rfl) rfl ?_
     refine P9 (j := 3) (j' := 7) (by kernel_rfl) ?_ ?_
     ·(refine E6 rfl (E2 rfl rfl rfl (by omega) (by unfold maxLen; omega) rfl) rfl rfl ?_; rintro _ ⟨b177, rfl⟩)
      refine P9 (j := 4) (j' := 7) (by kernel_rfl) ?_ ?_
      ·(refine T9 rfl rfl rfl rfl rfl rfl (fun _ _ => by repeat (first | exact Sw.here | apply Sw.there)) (M4 (by repeat first | exact mH | apply mT)) rfl (fun u hu => List.all_eq_true.1 hou9 u hu) (by unfold maxLen; omega) (by omega) rfl rfl (by repeat (first | exact D1.nil | apply D1.dep (by decide +kernel) | apply D1.im (by decide +kernel) (by assumption) (by repeat first | exact mH | apply mT) | apply D1.blk (by decide +kernel) (by repeat (first | exact Pk.here | apply Pk.there)) (by repeat first | exact mH | apply mT) | apply D1.slc (by decide +kernel) (by repeat (first | exact Pk.here | apply Pk.there)) (by repeat first | exact mH | apply mT))) (fun pn' cn' => ?_))
       refine aP 9 rfl (C0 rfl) rfl ?_
       refine A3 7 ?_
       (refine E6 rfl (E2 rfl rfl rfl (by omega) (by unfold maxLen; omega) rfl) rfl rfl ?_; rintro _ ⟨b182, rfl⟩)
       refine A3 8 ?_
       (refine T9 rfl rfl rfl rfl rfl rfl (fun _ _ => by repeat (first | exact Sw.here | apply Sw.there)) (M4 (by repeat first | exact mH | apply mT)) rfl (by simp [Value.oneCell']) (by unfold maxLen; omega) (by omega) rfl rfl (by repeat (first | exact D1.nil | apply D1.dep (by decide +kernel) | apply D1.im (by decide +kernel) (by assumption) (by repeat first | exact mH | apply mT) | apply D1.blk (by decide +kernel) (by repeat (first | exact Pk.here | apply Pk.there)) (by repeat first | exact mH | apply mT) | apply D1.slc (by decide +kernel) (by repeat (first | exact Pk.here | apply Pk.there)) (by repeat first | exact mH | apply mT))) (fun pm' cm' => ?_))
       refine A3 10 ?_
       refine oS rfl rfl rfl rfl rfl rfl rfl rfl ?_
       refine aP 11 rfl (qA rfl) rfl ?_
       refine B6 ?_
       refine sP (E7 rfl rfl (by omega) (by omega)) rfl rfl ?_
       refine A2 ?_
       refine I7 (i + 1, (pn', cn', us ++ [u2], es' ++ [[v1, v2, v3, v4, v5, v6, v7, v8, v9]]), (pm', cm', ts ++ [t2], ess ++ [[.int .i64 t2.k, .slice p3 t2.ks.length c3]]), l2, G3) ?_ ?_ ?_
       ·(simp only [H9]; exact D3)
       ·(dsimp only; exact ⟨by omega, hle.trans hle3, by simp [hlu], D7.snoc (hst.mono hle3) hru, by simp [hlt], C7.snoc (hstt.mono hle3) hrt, A4p hat (A1U ((A24 ks[i] (d + 1) _ l (hvk i (by omega)) hcvX).1 _ _ _ hE).2), A3L (by omega) hml hE, by omega, by omega⟩)
       ·(show ks.length - (i + 1) < ks.length - i; omega)
      ·(refine E6 rfl (E2 rfl rfl rfl (by omega) (by unfold maxLen; omega) rfl) rfl rfl ?_; rintro _ ⟨b199, rfl⟩)
       refine A3 4 ?_
       (refine T9 rfl rfl rfl rfl rfl rfl (fun _ _ => by repeat (first | exact Sw.here | apply Sw.there)) (M4 (by repeat first | exact mH | apply mT)) rfl (fun u hu => List.all_eq_true.1 hou9 u hu) (by unfold maxLen; omega) (by omega) rfl rfl (by repeat (first | exact D1.nil | apply D1.dep (by decide +kernel) | apply D1.im (by decide +kernel) (by assumption) (by repeat first | exact mH | apply mT) | apply D1.blk (by decide +kernel) (by repeat (first | exact Pk.here | apply Pk.there)) (by repeat first | exact mH | apply mT) | apply D1.slc (by decide +kernel) (by repeat (first | exact Pk.here | apply Pk.there)) (by repeat first | exact mH | apply mT))) (fun pn' cn' => ?_))
       refine aP 9 rfl (C0 rfl) rfl ?_
       refine A3 8 ?_
       (refine T9 rfl rfl rfl rfl rfl rfl (fun _ _ => by repeat (first | exact Sw.here | apply Sw.there)) (M4 (by repeat first | exact mH | apply mT)) rfl (by simp [Value.oneCell']) (by unfold maxLen; omega) (by omega) rfl rfl (by repeat (first | exact D1.nil | apply D1.dep (by decide +kernel) | apply D1.im (by decide +kernel) (by assumption) (by repeat first | exact mH | apply mT) | apply D1.blk (by decide +kernel) (by repeat (first | exact Pk.here | apply Pk.there)) (by repeat first | exact mH | apply mT) | apply D1.slc (by decide +kernel) (by repeat (first | exact Pk.here | apply Pk.there)) (by repeat first | exact mH | apply mT))) (fun pm' cm' => ?_))
       refine A3 10 ?_
       refine oS rfl rfl rfl rfl rfl rfl rfl rfl ?_
       refine aP 11 rfl (qA rfl) rfl ?_
       refine B6 ?_
       refine sP (E7 rfl rfl (by omega) (by omega)) rfl rfl ?_
       refine A2 ?_
       refine I7 (i + 1, (pn', cn', us ++ [u2], es' ++ [[v1, v2, v3, v4, v5, v6, v7, v8, v9]]), (pm', cm', ts ++ [t2], ess ++ [[.int .i64 t2.k, .slice p3 t2.ks.length c3]]), l2, G3) ?_ ?_ ?_
       ·(simp only [H9]; exact D3)
       ·(dsimp only; exact ⟨by omega, hle.trans hle3, by simp [hlu], D7.snoc (hst.mono hle3) hru, by simp [hlt], C7.snoc (hstt.mono hle3) hrt, A4p hat (A1U ((A24 ks[i] (d + 1) _ l (hvk i (by omega)) hcvX).1 _ _ _ hE).2), A3L (by omega) hml hE, by omega, by omega⟩)
       ·(show ks.length - (i + 1) < ks.length - i; omega)
     ·(refine E6 rfl (E2 rfl rfl rfl (by omega) (by unfold maxLen; omega) rfl) rfl rfl ?_; rintro _ ⟨b219, rfl⟩)
      refine A3 3 ?_
      (refine E6 rfl (E2 rfl rfl rfl (by omega) (by unfold maxLen; omega) rfl) rfl rfl ?_; rintro _ ⟨b221, rfl⟩)
      refine A3 4 ?_
      (refine T9 rfl rfl rfl rfl rfl rfl (fun _ _ => by repeat (first | exact Sw.here | apply Sw.there)) (M4 (by repeat first | exact mH | apply mT)) rfl (fun u hu => List.all_eq_true.1 hou9 u hu) (by unfold maxLen; omega) (by omega) rfl rfl (by repeat (first | exact D1.nil | apply D1.dep (by decide +kernel) | apply D1.im (by decide +kernel) (by assumption) (by repeat first | exact mH | apply mT) | apply D1.blk (by decide +kernel) (by repeat (first | exact Pk.here | apply Pk.there)) (by repeat first | exact mH | apply mT) | apply D1.slc (by decide +kernel) (by repeat (first | exact Pk.here | apply Pk.there)) (by repeat first | exact mH | apply mT))) (fun pn' cn' => ?_))
      refine aP 9 rfl (C0 rfl) rfl ?_
      refine A3 8 ?_
      (refine T9 rfl rfl rfl rfl rfl rfl (fun _ _ => by repeat (first | exact Sw.here | apply Sw.there)) (M4 (by repeat first | exact mH | apply mT)) rfl (by simp [Value.oneCell']) (by unfold maxLen; omega) (by omega) rfl rfl (by repeat (first | exact D1.nil | apply D1.dep (by decide +kernel) | apply D1.im (by decide +kernel) (by assumption) (by repeat first | exact mH | apply mT) | apply D1.blk (by decide +kernel) (by repeat (first | exact Pk.here | apply Pk.there)) (by repeat first | exact mH | apply mT) | apply D1.slc (by decide +kernel) (by repeat (first | exact Pk.here | apply Pk.there)) (by repeat first | exact mH | apply mT))) (fun pm' cm' => ?_))
      refine A3 10 ?_
      refine oS rfl rfl rfl rfl rfl rfl rfl rfl ?_
      refine aP 11 rfl (qA rfl) rfl ?_
      refine B6 ?_
      refine sP (E7 rfl rfl (by omega) (by omega)) rfl rfl ?_
      refine A2 ?_
      refine I7 (i + 1, (pn', cn', us ++ [u2], es' ++ [[v1, v2, v3, v4, v5, v6, v7, v8, v9]]), (pm', cm', ts ++ [t2], ess ++ [[.int .i64 t2.k, .slice p3 t2.ks.length c3]]), l2, G3) ?_ ?_ ?_
      ·(simp only [H9]; exact D3)
      ·(dsimp only; exact ⟨by omega, hle.trans hle3, by simp [hlu], D7.snoc (hst.mono hle3) hru, by simp [hlt], C7.snoc (hstt.mono hle3) hrt, A4p hat (A1U ((A24 ks[i] (d + 1) _ l (hvk i (by omega)) hcvX).1 _ _ _ hE).2), A3L (by omega) hml hE, by omega, by omega⟩)
      ·(show ks.length - (i + 1) < ks.length - i; omega)
   ·refine J7 ?_
    (obtain rfl : i = ks.length := (by omega); have hk14 : k ≠ 14 := hv2; rw [List.take_length] at hml hl2; refine A14 (cs := ess.flatten) (by repeat (first | exact Pk.here | apply Pk.there)) (fun G3 hle3 hsl3 hno3 => ?_); have hst3 := hstt.mono hle3; have hslU : C8 G3 pm ks.length cm 2 ess := C8.of hsl3 (by rw [hst3.len, hlt]) hst3.all (fun e he => (hst3.each e he).2); refine D4 rfl (B3K cx k nm num (.mk tk tks) (.mk fk fks) lb ks ts G3 pc nc cc _ pm ks.length cm ess (hx.mono hle3) har hlt.symm hk14 hta (hr0.mono hle3) hslU hst3 hat) rfl rfl (fun v G4 hle4 hh => ?_); obtain ⟨pw, nw, cw, ew, w, wc, wt, rfl, hnw, hslw, hstw, hrt, hw⟩ := hh; obtain ⟨p3, c3, e3, rfl, _⟩ := hrt.open; replace hst3 := hst3.mono hle4; replace hslU := hslU.mono hle4; have hle34 := hle3.trans hle4; replace hst := hst.mono hle34; replace hty := hty.mono hle34; replace hfr := hfr.mono hle34; rcases hmw : N7 cx k nm (Ty.mk tk tks) ts with _ | ⟨w2, t2⟩; rotate_left; have hwe := hw _ hmw; simp only [Prod.mk.injEq] at hwe; obtain ⟨rfl, rfl⟩ := hwe; have hwl := B3L (by rw [hlt]; exact hop) hkr hk14 hmw; have hcl2 := A07 us ts w2 l; rcases Nat.eq_zero_or_pos ks.length with h0 | h0; rotate_left; rotate_left)
    ·refine B6 ?_
     refine sE (A6 rfl) rfl (fun b260 => ?_)
     refine A5i ?_
     (refine H8 (cs := es'.flatten) (by repeat (first | exact Pk.here | apply Pk.there)) (fun G8 hle8 hsl8 hno8 => ?_); have hst8 := hst.mono hle8)
     refine A2 ?_
     refine A2w (outs := [.blk bx [.int .i64 _]]) (rC rfl (A4 rfl rfl)) (rC rfl (A4 rfl rfl)) (rT rfl) (A8.cons (by repeat (first | exact Pk.here | apply Pk.there)) A8.nil) ?_
     (exact ElP.no (A9M hml (B3N hmw)) (O0 _) (Q3 _ ⟨by omega, by omega⟩) (by omega) (by rw [hck]; omega))
    ·refine B6 ?_
     refine sE (A6 rfl) rfl (fun b297 => ?_)
     refine J8 ?_
     refine E8 rfl ((A3w _ _ _ hrt)) rfl rfl (fun h310 => ?_) (fun h310 => ?_)
     ·refine H1 ?_
      refine B7 ?_
      (have h0' : ks.length = 0 := h0; refine I3 (fun (_ : Nat) => ⟨[(86, .int .i64 0), (85, .int .i64 nw), (84, .slice pw nw cw), (11, .slice pm ks.length cm), (1, .slice pc nc cc), (0, .pointer (some ⟨bx, 0, none⟩)), (5, .pointer (some ⟨b3, 0, none⟩)), (6, .pointer (some ⟨b4, 0, none⟩)), (7, .pointer (some ⟨b5, 0, none⟩)), (10, .pointer (some ⟨b58, 0, none⟩)), (18, .pointer (some ⟨b297, 0, none⟩))], [.blk b297 [.int .i64 t2.k, .slice p3 t2.ks.length c3], .blk b58 [.int .i64 k, .string nm, .int .i64 num, .int .i64 tk, .slice pt tks.length ct, .int .i64 fk, .slice pf fks.length cf, .int .i64 lb, .slice pn ks.length cn], .slc pn cn 37 9 ks.length es'.flatten, .blk b5 [.int .i64 0, .slice none 0 0], .blk b4 [.int .i64 0, .string ⟨⟨[]⟩⟩, .int .i64 0, .int .i64 0, .slice none 0 0, .int .i64 0, .slice none 0 0, .int .i64 0, .slice none 0 0], .blk b3 [.int .i64 k, .string nm, .int .i64 num, .int .i64 tk, .slice pt tks.length ct, .int .i64 fk, .slice pf fks.length cf, .int .i64 lb, .slice q ks.length cq], .blk bx [.int .i64 l]], G4⟩) (fun _ => True) (fun i => i) 0 ?_ ?_ ?_)
      ·exact D3
      ·trivial
      ·(rintro (i0 : Nat) _)
       refine A2 ?_
       refine sP (S5 rfl rfl (by omega)) rfl rfl ?_
       refine J7 ?_
       refine sP (J1 rfl rfl (by omega)) rfl rfl ?_
       refine A7 ?_
       refine E1 E3 rfl ?_
       refine K9 (i := 0) (l' := [tt,ff,ff,ff,ff]) rfl D5 (A4 rfl rfl) rfl (by kernel_rfl) rfl rfl ?_
       refine aL 1 rfl (A4 rfl rfl) rfl ?_
       refine A3 2 ?_
       refine oS rfl rfl rfl rfl rfl rfl rfl rfl ?_
       refine A3 3 ?_
       refine oS rfl rfl rfl rfl rfl rfl rfl rfl ?_
       refine aP 4 rfl (qA rfl) rfl ?_
       refine A2 ?_
       (refine H8 (cs := es'.flatten) (by repeat (first | exact Pk.here | apply Pk.there)) (fun G8 hle8 hsl8 hno8 => ?_); have hst8 := hst.mono hle8)
       refine tT ?_
       refine A2w (outs := [.blk bx [.int .i64 _]]) (rC rfl (A4 rfl rfl)) (rC rfl (A4 rfl rfl)) (rT rfl) (A8.cons (by repeat (first | exact Pk.here | apply Pk.there)) A8.nil) ?_
       (obtain rfl : w2 = [] := List.length_eq_zero_iff.1 (by omega); have hne : k ≠ 13 := (fun h => by have := hop.2.2 (.inr (.inr (.inr h))); omega); have hel := A9N (num := num) (fr := .mk fk fks) (lb := lb) hml (A4B hmw (b := true) (by assumption)) hne; rw [A0A] at hel; exact ElP.yes hel (B3.put hk hnum hlb (hty.mono hle8) (hfr.mono hle8) (by rw [hlu]) (C8.of hsl8 (by rw [hst8.len, hlu]) hst8.all (fun e he => (hst8.each e he).2)) hst8) (hrt.mono hle8) (by omega) (by rw [hck]; omega))
     ·refine J7 ?_
      (refine H8 (cs := es'.flatten) (by repeat (first | exact Pk.here | apply Pk.there)) (fun G8 hle8 hsl8 hno8 => ?_); have hst8 := hst.mono hle8)
      refine A2 ?_
      refine A2w (outs := [.blk bx [.int .i64 _]]) (rC rfl (A4 rfl rfl)) (rC rfl (A4 rfl rfl)) (rT rfl) (A8.cons (by repeat (first | exact Pk.here | apply Pk.there)) A8.nil) ?_
      exact A9P
    ·(refine A3E (cs := es'.flatten) (by repeat (first | exact Pk.here | apply Pk.there)) h0 (fun bc C hpe hnc hcm => ?_); subst hpe; refine sQ (qM rfl) rfl ?_)
     refine B9 ?_
     refine sE (A6 rfl) rfl (fun b392 => ?_)
     refine J8 ?_
     refine E8 rfl ((A3w _ _ _ hrt)) rfl rfl (fun h405 => ?_) (fun h405 => ?_)
     ·refine H1 ?_
      refine B7 ?_
      (have h0' := h0; refine I3 (fun (x : Nat × List (List Value) × IM) => ⟨[(86, .int .i64 x.1), (85, .int .i64 nw), (84, .slice pw nw cw), (11, .slice pm ks.length cm), (1, .slice pc nc cc), (0, .pointer (some ⟨bx, 0, none⟩)), (5, .pointer (some ⟨b3, 0, none⟩)), (6, .pointer (some ⟨b4, 0, none⟩)), (7, .pointer (some ⟨b5, 0, none⟩)), (10, .pointer (some ⟨b58, 0, none⟩)), (18, .pointer (some ⟨b392, 0, none⟩))], [.blk b392 [.int .i64 t2.k, .slice p3 t2.ks.length c3], .blk b58 [.int .i64 k, .string nm, .int .i64 num, .int .i64 tk, .slice pt tks.length ct, .int .i64 fk, .slice pf fks.length cf, .int .i64 lb, .slice (some ⟨bc, 0, none⟩) ks.length cn], .blk bc (x.2.1.flatten ++ C), .blk b5 [.int .i64 0, .slice none 0 0], .blk b4 [.int .i64 0, .string ⟨⟨[]⟩⟩, .int .i64 0, .int .i64 0, .slice none 0 0, .int .i64 0, .slice none 0 0, .int .i64 0, .slice none 0 0], .blk b3 [.int .i64 k, .string nm, .int .i64 num, .int .i64 tk, .slice pt tks.length ct, .int .i64 fk, .slice pf fks.length cf, .int .i64 lb, .slice q ks.length cq], .blk bx [.int .i64 (I6 us ts (w2.take x.1) l).2]], x.2.2⟩) (fun x => x.1 ≤ nw ∧ C5 G4 x.2.2 ∧ D7 x.2.2 (I6 us ts (w2.take x.1) l).1 x.2.1) (fun x => nw - x.1) (0, es', G4) ?_ ?_ ?_)
      ·(simp only [List.take_zero, A0A]; exact (O5 (by repeat (first | exact I1.nil | refine I1.cons rfl ?_)) (by repeat (first | exact A8.refl | exact A8.nil | refine A8.cons (by repeat (first | exact Pk.here | apply Pk.there)) ?_ | apply A8.drop))))
      ·(exact ⟨Nat.zero_le _, C5.refl _, by simp only [List.take_zero, A0A]; exact hst⟩)
      ·(rintro ⟨j, es2, G6⟩ ⟨hj, hle6, hst2⟩; simp only [] at hj hle6 hst2 ⊢; replace hslw := hslw.mono hle6; replace hstw := hstw.mono hle6; replace hslU := hslU.mono hle6; replace hst3 := hst3.mono hle6; replace hty := hty.mono hle6; replace hfr := hfr.mono hle6; replace hrt := hrt.mono hle6; have hall2 := hst2.all; have hle2s := hst2.len; rw [A1u] at hle2s)
       refine A2 ?_
       refine sB (I8 rfl rfl) rfl rfl (fun h428 => ?_) (fun h428 => ?_)
       ·refine A9 ?_
        refine B7 ?_
        refine B9 ?_
        (have hjw : j < w2.length := (by omega); obtain ⟨b5w, o5w, q5, d5, hp5, hat, hrw, hgb⟩ := hslw.kidTy hstw (i := j) (by omega) (by omega); cases hp5; refine sP (B2 rfl rfl rfl (by omega)) rfl rfl ?_)
        refine sL (A0 rfl rfl (hat _) rfl) rfl rfl ?_
        refine sE (A6 rfl) rfl (fun b442 => ?_)
        refine B6 ?_
        (have hjw2 := hjw; obtain ⟨b0, o0, q0, d0, hp0, hat0, hre0, hg0⟩ := hslU.kidTy hst3 (i := j) (by omega) (by omega); cases hp0; obtain ⟨m1, m2, _⟩ := A3M us ts w2 l j hjw (by omega) (by omega); obtain ⟨m3, m4⟩ := A9i (us := us) (h := ts) (w := w2) (l := l) hjw (by omega) (by omega); obtain ⟨hE1, hE2⟩ := hst2.at2 (i := j) (by omega) (by omega); rw [m2] at hE2; have hE3 := hE2.len; have hE4 := hE2.one; have hcj := A07 us ts (w2.take j) l; refine E1 E3 rfl ?_)
        refine K2 (i := 0) (l' := [tt,ff,ff,ff,ff,ff,ff,ff,ff,ff,ff,ff,ff,ff,ff,ff,ff]) rfl D5 (C0 rfl) rfl (by kernel_rfl) rfl rfl ?_
        refine aL 1 rfl (C9 rfl rfl) rfl ?_
        refine aP 2 rfl (qM rfl) rfl ?_
        refine aP 3 rfl (qM rfl) rfl ?_
        refine aP 4 rfl (C0 rfl) rfl ?_
        refine aL 5 rfl (C9 rfl rfl) rfl ?_
        refine aP 6 rfl (qM rfl) rfl ?_
        refine aP 7 rfl (B2 (j := j) rfl rfl rfl (by omega)) rfl ?_
        refine aL 8 rfl (A0 rfl rfl (A4r (es := es2) (by repeat first | exact mH | apply mT) (by omega) hall2) hE3) rfl ?_
        refine aP 9 rfl (qM rfl) rfl ?_
        refine aP 10 rfl (qM rfl) rfl ?_
        refine aP 11 rfl (B2 (j := j) rfl rfl rfl (by omega)) rfl ?_
        refine aL 12 rfl (A0 rfl rfl (hat0 _) rfl) rfl ?_
        refine aL 13 rfl (A4 rfl rfl) rfl ?_
        refine A3 14 ?_
        (refine B27 (l' := [tt,tt,tt,tt,tt,tt,tt,tt,tt,tt,tt,tt,tt,tt,tt,ff,ff]) rfl rfl (B32 bx us[j] ts[j] w2[j] (I6 us ts (w2.take j) l).2 G6 _ _ _ (by omega) hE2 hre0 hrw) (Pk.perm (by repeat (first | exact Pk.here | apply Pk.there))) rfl rfl rfl (by repeat (first | exact D1.nil | apply D1.dep (by decide +kernel) | apply D1.im (by decide +kernel) (by assumption) (by repeat first | exact mH | apply mT) | apply D1.blk (by decide +kernel) (by repeat (first | exact Pk.here | apply Pk.there)) (by repeat first | exact mH | apply mT) | apply D1.slc (by decide +kernel) (by repeat (first | exact Pk.here | apply Pk.there)) (by repeat first | exact mH | apply mT))) (fun v G7 outs hle7 hh => ?_); obtain ⟨uc, rfl, rfl, hru⟩ := hh; rw [← m4]; have hlu9 := hru.len; have hou9 := hru.one)
        refine aP 15 rfl (B2 (j := j) rfl rfl rfl (by omega)) rfl ?_
        refine A3 16 ?_
        refine X8 rfl rfl rfl rfl hlu9 hou9 rfl rfl (by kernel_rfl) (by repeat first | exact Sw.here | apply Sw.there) (by exact A3F (by omega) hall2 hlu9) ?_
        refine B6 ?_
        refine sP (E7 rfl rfl (by omega) (by omega)) rfl rfl ?_
        refine A2 ?_
        refine I7 (j + 1, es2.set j uc, G7) ?_ ?_ ?_
        ·(simp only [List.take_zero, A0A]; exact (O5 (by repeat (first | exact I1.nil | refine I1.cons rfl ?_)) (by repeat (first | exact A8.refl | exact A8.nil | refine A8.cons (by repeat (first | exact Pk.here | apply Pk.there)) ?_ | apply A8.drop))))
        ·(dsimp only; exact ⟨by omega, hle6.trans hle7, by rw [m3]; exact D7.set (hst2.mono hle7) hru⟩)
        ·(show nw - (j + 1) < nw - j; omega)
       ·refine J7 ?_
        refine sB (qE rfl rfl) rfl rfl (fun h492 => ?_) (fun h492 => ?_)
        ·refine B6 ?_
         (have hq13 : k = 13 := (by omega); have hl13 := hop.2.2 (.inr (.inr (.inr hq13))); have hjw : j = w2.length := (by omega); rw [hjw, List.take_length] at hst2; have hm0 := A1u us ts w2 l; obtain ⟨hE1, hE2⟩ := hst2.at2 (i := 0) (by omega) (by omega); have hE3 := hE2.len; have hE4 := hE2.one; refine E1 E3 rfl ?_)
         refine K2 (i := 0) (l' := [tt,ff,ff,ff,ff,ff,ff,ff]) rfl D5 (C0 rfl) rfl (by kernel_rfl) rfl rfl ?_
         refine aL 1 rfl (C9 rfl rfl) rfl ?_
         refine aP 2 rfl (B2 (j := 0) rfl rfl rfl (by omega)) rfl ?_
         refine aL 3 rfl (A0 rfl rfl (A4r (es := es2) (by repeat first | exact mH | apply mT) (by omega) hall2) hE3) rfl ?_
         refine aL 4 rfl (A4 rfl rfl) rfl ?_
         refine A3 5 ?_
         refine oS rfl rfl rfl rfl hE3 hE4 rfl rfl ?_ (hu := by exact D8 hE3.symm)
         refine A3 6 ?_
         refine oS rfl rfl rfl rfl rfl rfl rfl rfl ?_
         refine aP 7 rfl (qA rfl) rfl ?_
         refine A2 ?_
         (refine A1g (bs := [(bc, es2.flatten ++ C)]) (Pk.perm (by repeat (first | exact Pk.here | apply Pk.there))) (fun hn9 hd9 hle9 => ?_))
         refine A2 ?_
         refine A2w (outs := [.blk bx [.int .i64 _]]) (rC rfl (A0 rfl rfl (B1 (by repeat first | exact mH | apply mT)) hE3)) (rC rfl (A4 rfl rfl)) (rT rfl) (A8.cons (by repeat (first | exact Pk.here | apply Pk.there)) A8.nil) ?_
         (have hel := B4y (num := num) (fr := .mk fk fks) (lb := lb) hml (A4B hmw (b := true) (by assumption)) hq13; rw [A9O (by omega)] at hel; rw [hjw, List.take_length]; exact ElP.yes hel (hE2.mono hle9) (hrt.mono hle9) (by omega) (by rw [hck]; omega))
        ·refine A7 ?_
         refine E1 E3 rfl ?_
         refine K9 (i := 0) (l' := [tt,ff,ff,ff,ff]) rfl D5 (A4 rfl rfl) rfl (by kernel_rfl) rfl rfl ?_
         refine aL 1 rfl (A4 rfl rfl) rfl ?_
         refine A3 2 ?_
         refine oS rfl rfl rfl rfl rfl rfl rfl rfl ?_
         refine A3 3 ?_
         refine oS rfl rfl rfl rfl rfl rfl rfl rfl ?_
         refine aP 4 rfl (qA rfl) rfl ?_
         refine A2 ?_
         (refine A1g (bs := [(bc, es2.flatten ++ C)]) (Pk.perm (by repeat (first | exact Pk.here | apply Pk.there))) (fun hn9 hd9 hle9 => ?_))
         refine tT ?_
         refine A2w (outs := [.blk bx [.int .i64 _]]) (rC rfl (A4 rfl rfl)) (rC rfl (A4 rfl rfl)) (rT rfl) (A8.cons (by repeat (first | exact Pk.here | apply Pk.there)) A8.nil) ?_
         (have hjw : j = w2.length := (by omega); rw [hjw, List.take_length] at hst2; have hst9 := hst2.mono hle9; have hel := A9N (num := num) (fr := .mk fk fks) (lb := lb) hml (A4B hmw (b := true) (by assumption)) (show k ≠ 13 by omega); rw [hjw, List.take_length]; have hm0 := A1u us ts w2 l; exact ElP.yes hel (B3.put hk hnum hlb (hty.mono hle9) (hfr.mono hle9) (by rw [hm0, hlu]) (C8.of (Sl.of_blk (A := []) (by rw [Z4 hst9.all, hst9.len, hm0, hlu]) (by omega) hcm (Wi.in hn9 List.mem_cons_self)) (by rw [hst9.len, hm0, hlu]) hst9.all (fun e he => (hst9.each e he).2)) hst9) (hrt.mono hle9) (by omega) (by rw [hck]; omega))
     ·refine J3 ?_
      refine A2w (outs := [.blk bx [.int .i64 _]]) (rC rfl (A4 rfl rfl)) (rC rfl (A4 rfl rfl)) (rT rfl) (A8.cons (by repeat (first | exact Pk.here | apply Pk.there)) A8.nil) ?_
      exact A9P
def B4z (r : Tm) : Tm × Bool := if O9 r = true then (r, true) else (L0, false)
def B6A (t : Tm) (path : List Int) (x : Tm) : Tm × Bool := if O9 t = true ∧ O9 x = true ∧ tAt t path ≠ none then B4z (A8Q t path x) else (L0, false)
mutual
theorem A6p (D N : Int) : ∀ (t : Tm) (d d' : Int), d' ≤ d → N2 D N t d = true → N2 D N t d' = true
 | .mk k nm num ty fr lb ks, d, d', hd, h => by
  obtain ⟨h1, h2, h3, h4⟩ := A0U h
  rw [A2e (by omega) h2 h3]
  exact A4P D N ks _ _ (by omega) h4
theorem A4P (D N : Int) : ∀ (ts : List Tm) (d d' : Int), d' ≤ d → N3 D N ts d = true → N3 D N ts d' = true
 | [], d, d', hd, h => by rw [N3]
 | t :: ts, d, d', hd, h => by
  rw [N3, Bool.and_eq_true] at h ⊢
  exact ⟨A6p D N t d d' hd h.1, A4P D N ts d d' hd h.2⟩
end
theorem B4A {cx : Cx} {k : Int} {nm : ByteArray} {num : Int} {ty fr : Ty} {lb : Int} {ks : List Tm} {T : Ty} {us w : List Ty} (hu : X4 (O7 cx k nm ty) ks = some us) (hk : k ≠ 14) (hv : H5 T = true) (hw : N7 cx k nm ty us = some (w, T)) (hs : A3A w us = true) : A0H cx (.mk k nm num ty fr lb ks) = some T := by
 rw [A0H, hu]
 simp only [if_neg hk]
 unfold Y6
 rw [hw]
 simp only [hv, if_true, hs]
theorem B4B {cx : Cx} {a : Tm} {us : List Ty} (h : X4 cx [a] = some us) : ∃ x, A0H cx a = some x ∧ us = [x] := by
 rw [X4] at h
 split at h
 ·cases h
 ·rename_i x hx
  rw [X4] at h
  simp only [Option.some.injEq] at h
  exact ⟨x, hx, h.symm⟩
theorem B4C {cx : Cx} {a : Tm} {x : Ty} (h : A0H cx a = some x) : X4 cx [a] = some [x] := by rw [X4, h]; rfl
mutual
theorem A2y : ∀ a : Ty, K0 a a = true
 | .mk k ks => by rw [A0c, A9R ks]; simp
theorem A9R : ∀ xs : List Ty, O8 xs xs = true
 | [] => rfl
 | a :: xs => by rw [O8, A2y a, A9R xs]; rfl
end
mutual
theorem A9S : ∀ a : Ty, T4 a a = a
 | .mk k ks => by
  rw [A2U, A9T ks]
  by_cases h : k = 1
  ·rw [if_pos h]
  ·rw [if_neg h, if_neg h]
theorem A9T : ∀ xs : List Ty, S6 xs xs = xs
 | [] => rfl
 | a :: xs => by rw [S6, A9S a, A9T xs]
end
theorem A9U {k : Int} {ks : List Ty} (hk : k = 4 ∨ k = 5) (h : H5 (.mk k ks) = true) : ∃ a b, ks = [a, b] ∧ H5 a = true ∧ H5 b = true := by
 unfold H5 at h ⊢
 rw [A4z, Bool.and_eq_true, Bool.and_eq_true, decide_eq_true_eq, decide_eq_true_eq] at h
 have h2 : ks.length = 2 := by
  have : A0v k = 2 := by rcases hk with rfl | rfl <;> rfl
  omega
 match ks, h2, h.2 with
 | [x, y], _, hL =>
  simp only [T2, Bool.and_eq_true] at hL
  exact ⟨x, y, rfl, A3J _ 2 1 (by omega) hL.1, A3J _ 2 1 (by omega) hL.2.1⟩
section inv
variable {cx : Cx} {nm : ByteArray} {num : Int} {ty fr : Ty} {lb : Int} {a b c : Tm} {T : Ty}
theorem A9V : ∀ xs : List Ty, A3A xs xs = true
 | [] => rfl
 | a :: xs => by rw [A3A, A5Q, A9V xs]; rfl
theorem B4D (h : A0H cx a = some fr) : A0H cx (.mk 14 nm num ty fr lb [a]) = some ty := by
 rw [A0H, show O7 cx 14 nm ty = cx from rfl, B4C h]
 simp only [if_true, List.getD_cons_zero, A5Q]
end inv
mutual
def A9W (L : Int → Prop) : Tm → Prop
 | .mk k nm num ty fr lb ks => (k = 14 → L lb) ∧ A9X L ks
def A9X (L : Int → Prop) : List Tm → Prop
 | [] => True
 | t :: ts => A9W L t ∧ A9X L ts
end
def B6B (L : Int → Prop) (T : Ty) (r : Stp) : Prop := (r.2.1 = 1 ∧ A0H [] r.1 = some T ∧ A9W L r.1) ∨ (r.2.1 = 2 ∧ L r.2.2)
mutual
theorem A9Y : ∀ a b : Ty, K0 a b = true → K0 b a = true
 | .mk k ks, .mk k' ks', h => by
  rw [A0c] at h ⊢
  simp only [Bool.or_eq_true, Bool.and_eq_true, decide_eq_true_eq] at h ⊢
  rcases h with (h | h) | h
  ·exact .inl (.inr h)
  ·exact .inl (.inl h)
  ·exact .inr ⟨h.1.symm, A9Z ks ks' h.2⟩
theorem A9Z : ∀ xs ys : List Ty, O8 xs ys = true → O8 ys xs = true
 | [], [], _ => rfl
 | [], b :: ys, h => by simp [O8] at h
 | a :: xs, [], h => by simp [O8] at h
 | a :: xs, b :: ys, h => by
  simp only [O8, Bool.and_eq_true] at h ⊢
  exact ⟨A9Y a b h.1, A9Z xs ys h.2⟩
end
mutual
theorem A90 : ∀ a b : Ty, K0 a b = true → K0 a (T4 a b) = true ∧ K0 b (T4 a b) = true
 | .mk k ks, .mk k' ks', h => by
  rw [A2U]
  by_cases h1 : k = 1
  ·rw [if_pos h1]
   exact ⟨h, A2y _⟩
  ·rw [if_neg h1]
   by_cases h2 : k' = 1
   ·rw [if_pos h2]
    exact ⟨A2y _, A9Y _ _ h⟩
   ·rw [if_neg h2]
    rw [A0c] at h
    simp only [Bool.or_eq_true, Bool.and_eq_true, decide_eq_true_eq] at h
    have h3 : k = k' ∧ O8 ks ks' = true := by
     rcases h with (h | h) | h
     ·exact absurd h h1
     ·exact absurd h h2
     ·exact h
    obtain ⟨m1, m2⟩ := A91 ks ks' h3.2
    rw [A0c, A0c, m1, m2]
    simp [h3.1]
theorem A91 : ∀ xs ys : List Ty, O8 xs ys = true → O8 xs (S6 xs ys) = true ∧ O8 ys (S6 xs ys) = true
 | [], [], _ => ⟨rfl, rfl⟩
 | [], b :: ys, h => by simp [O8] at h
 | a :: xs, [], h => by simp [O8] at h
 | a :: xs, b :: ys, h => by
  simp only [O8, Bool.and_eq_true] at h
  obtain ⟨m1, m2⟩ := A90 a b h.1
  obtain ⟨m3, m4⟩ := A91 xs ys h.2
  simp only [S6, O8, m1, m2, m3, m4]
  exact ⟨rfl, rfl⟩
end
theorem B4E {k : Int} {a b : Ty} (hk : k = 4 ∨ k = 5) (h : H5 (.mk k [a, b]) = true) : H5 a = true ∧ H5 b = true := by
 obtain ⟨x, y, he, h1, h2⟩ := A9U hk h
 cases he
 exact ⟨h1, h2⟩
theorem B4F {k : Int} (hk : k = 4 ∨ k = 5) : H5 (.mk k [R7, R7]) = true := by rcases hk with rfl | rfl <;> decide
theorem A92 {k : Int} {t a b : Ty} (hk : k = 4 ∨ k = 5) (ht : H5 t = true) (h : Q7 k t = some (a, b)) : H5 (.mk k [a, b]) = true ∧ K0 t (.mk k [a, b]) = true := by
 obtain ⟨tk, ks⟩ := t
 rw [A1v] at h
 by_cases he : tk = k
 ·subst he
  rw [if_pos rfl] at h
  obtain ⟨x, y, rfl, _, _⟩ := A9U hk ht
  cases h
  exact ⟨ht, A2y _⟩
 ·rw [if_neg he] at h
  by_cases h1 : tk = 1
  ·rw [if_pos h1] at h
   cases h
   refine ⟨B4F hk, ?_⟩
   rw [A0c, h1]; rfl
  ·rw [if_neg h1] at h; cases h
structure Wt (cx : Cx) (k : Int) (nm : ByteArray) (ty : Ty) (h w : List Ty) (t : Ty) : Prop where
 len : w = [] ∨ w.length = h.length
 ok : ∀ i, (hi : i < w.length) → (hh : i < h.length) → K0 h[i] w[i] = true ∧ H5 w[i] = true
 again : k ≠ 13 → N7 cx k nm ty (if w = [] then h else w) = some (w, t)
 asT : k = 13 → w = [t]
theorem A93 {cx : Cx} {k : Int} {nm : ByteArray} {ty : Ty} {h w : List Ty} {t : Ty} (hh : ∀ a ∈ h, H5 a = true) (hty : k = 13 → H5 ty = true) (hn : F0 k = (h.length : Int)) (h14 : k ≠ 14) (hw : N7 cx k nm ty h = some (w, t)) : Wt cx k nm ty h w t := by
 have hkr := A3Q (by rw [hn]; omega : 0 ≤ F0 k)
 have hkk : k = 1 ∨ k = 2 ∨ (k = 3 ∨ k = 4) ∨ k = 5 ∨ k = 6 ∨ (k = 7 ∨ k = 8) ∨ k = 9 ∨ k = 10 ∨ (k = 11 ∨ k = 12) ∨ k = 13 := by omega
 have nil : w = [] → k ≠ 13 → Wt cx k nm ty h w t := by
  rintro rfl h13
  exact ⟨.inl rfl, fun i hi => by simp at hi, fun _ => by rw [if_pos rfl]; exact hw, fun h => absurd h h13⟩
 rcases hkk with rfl | rfl | hk | rfl | rfl | hk | rfl | rfl | hk | rfl
 ·refine nil ?_ (by decide)
  rw [mW1] at hw; split at hw <;> cases hw; rfl
 ·refine nil ?_ (by decide)
  rw [mW2] at hw; cases hw; rfl
 ·refine nil ?_ (by omega)
  rw [A3N hk] at hw; cases hw; rfl
 ·refine nil ?_ (by decide)
  rw [mW5] at hw; cases hw; rfl
 ·match h, (show h.length = 2 by have : F0 6 = 2 := rfl; omega) with
  | [x, y], _ =>
  rw [mW6] at hw
  simp only [List.getD_cons_zero, List.getD_cons_succ] at hw
  split at hw
  ·rename_i a b hm
   split at hw
   ·rename_i hc
    cases hw
    obtain ⟨v1, v2⟩ := A92 (.inl rfl) (hh x (by simp)) hm
    obtain ⟨v3, v4⟩ := B4E (.inl rfl) v1
    refine ⟨.inr rfl, fun i hi hi2 => ?_, fun _ => ?_, fun h => absurd h (by decide)⟩
    ·match i, hi with
     | 0, _ => exact ⟨v2, v1⟩
     | 1, _ => exact ⟨hc, v3⟩
    ·rw [if_neg (by simp), mW6]
     simp only [List.getD_cons_zero, List.getD_cons_succ, A1v, if_true, A2y]
   ·cases hw
  ·cases hw
 ·match h, (show h.length = 2 by rcases hk with rfl | rfl <;> (first | (have : F0 7 = 2 := rfl; omega) | (have : F0 8 = 2 := rfl; omega))) with
  | [x, y], _ =>
  rw [U3 hk] at hw
  simp only [List.getD_cons_zero, List.getD_cons_succ] at hw
  split at hw
  ·rename_i hc
   cases hw
   refine ⟨.inr rfl, fun i hi hi2 => ?_, fun _ => ?_, fun h => by omega⟩
   ·match i, hi with
    | 0, _ => exact ⟨hc.1, (show H5 S1 = true by decide)⟩
    | 1, _ => exact ⟨hc.2, (show H5 S1 = true by decide)⟩
   ·rw [if_neg (by simp), U3 hk]
    simp only [List.getD_cons_zero, List.getD_cons_succ, A2y, and_self, if_true]
  ·cases hw
 ·match h, (show h.length = 3 by have : F0 9 = 3 := rfl; omega) with
  | [x, y, z], _ =>
  rw [mW9] at hw
  simp only [List.getD_cons_zero, List.getD_cons_succ] at hw
  split at hw
  ·rename_i hc
   cases hw
   obtain ⟨c1, c2⟩ := A90 y z hc.2
   have vm := A54 y z 1 hc.2 (hh y (by simp)) (hh z (by simp))
   refine ⟨.inr rfl, fun i hi hi2 => ?_, fun _ => ?_, fun h => absurd h (by decide)⟩
   ·match i, hi with
    | 0, _ => exact ⟨hc.1, (show H5 Y5 = true by decide)⟩
    | 1, _ => exact ⟨c1, vm⟩
    | 2, _ => exact ⟨c2, vm⟩
   ·rw [if_neg (by simp), mW9]
    simp only [List.getD_cons_zero, List.getD_cons_succ, A2y, and_self, if_true, A9S]
  ·cases hw
 ·refine nil ?_ (by decide)
  rw [A4A] at hw; cases hw; rfl
 ·match h, (show h.length = 1 by rcases hk with rfl | rfl <;> (first | (have : F0 11 = 1 := rfl; omega) | (have : F0 12 = 1 := rfl; omega))) with
  | [x], _ =>
  rw [A27 hk] at hw
  simp only [List.getD_cons_zero] at hw
  split at hw
  ·rename_i a b hm
   cases hw
   obtain ⟨v1, v2⟩ := A92 (.inr rfl) (hh x (by simp)) hm
   refine ⟨.inr rfl, fun i hi hi2 => ?_, fun _ => ?_, fun h => by omega⟩
   ·match i, hi with
    | 0, _ => exact ⟨v2, v1⟩
   ·rw [if_neg (by simp), A27 hk]
    simp only [List.getD_cons_zero, List.getD_cons_succ, A1v, if_true]
  ·cases hw
 ·match h, (show h.length = 1 by have : F0 13 = 1 := rfl; omega) with
  | [x], _ =>
  rw [A2r] at hw
  simp only [List.getD_cons_zero] at hw
  split at hw
  ·rename_i hc
   cases hw
   refine ⟨.inr rfl, fun i hi hi2 => ?_, fun h => absurd rfl h, fun _ => rfl⟩
   match i, hi with
   | 0, _ => exact ⟨hc, hty rfl⟩
  ·cases hw
theorem B4G {l : Int} (h1 : 1 ≤ l) (h2 : l ≤ 99) : A0Q l = true := by
 unfold A0Q
 rw [A20.2 ⟨h1, h2⟩]; rfl
theorem B4H {u : Tm} {a b : Ty} {l D : Int} (hu : N2 40 13 u (D + 1) = true) (hc : K0 a b = true) (ha : H5 a = true) (hb : H5 b = true) (h1 : 1 ≤ l) (h2 : l ≤ 99) (hD : D ≤ 40) : N2 40 13 (K6 u a b l) D = true := by
 unfold K6
 rw [A2e hD (by decide) (U0.2 ⟨rfl, by simp, fun _ => rfl, by simp, fun _ => rfl, fun _ => hb, by simp, fun _ => ⟨by simp [A1C, ha, hb, hc], B4G h1 h2⟩, by simp⟩)]
 simp [N3, hu]
theorem A6q {cx : Cx} : ∀ (us : List Tm) (h w : List Ty) (l D : Int), us.length = h.length → w.length = h.length → (∀ i, (hi : i < w.length) → (hh : i < h.length) → K0 h[i] w[i] = true ∧ H5 w[i] = true) → (∀ a ∈ h, H5 a = true) → X4 cx us = some h → N3 40 13 us (D + 1) = true → 0 ≤ l → (I6 us h w l).2 ≤ 99 → D ≤ 40 →
  X4 cx (I6 us h w l).1 = some w ∧ N3 40 13 (I6 us h w l).1 D = true ∧ (F4 (I6 us h w l).1 : Int) = F4 us + ((I6 us h w l).2 - l)
 | [], [], [], l, D, _, _, _, _, ht, _, _, _, _ => by simp [I6, X4, N3, F4]
 | [], a :: h, w, l, D, hl, _, _, _, _, _, _, _, _ => by simp at hl
 | u :: us, [], w, l, D, hl, _, _, _, _, _, _, _, _ => by simp at hl
 | [], [], b :: w, l, D, _, hl, _, _, _, _, _, _, _ => by simp at hl
 | u :: us, a :: h, [], l, D, _, hl, _, _, _, _, _, _, _ => by simp at hl
 | u :: us, a :: h, b :: w, l, D, h1, h2, hw, hv, ht, hs, hl, h99, hD => by
  rw [X4] at ht
  split at ht
  ·cases ht
  ·rename_i a' ha
   split at ht
   ·cases ht
   ·rename_i h' hh'
    simp only [Option.some.injEq, List.cons.injEq] at ht
    obtain ⟨rfl, rfl⟩ := ht
    rw [N3, Bool.and_eq_true] at hs
    obtain ⟨c1, c2⟩ := hw 0 (by simp) (by simp)
    have hw' : ∀ i, (hi : i < w.length) → (hh : i < h'.length) → K0 h'[i] w[i] = true ∧ H5 w[i] = true := fun i hi hh => hw (i + 1) (by simpa using hi) (by simpa using hh)
    have hv' : ∀ x ∈ h', H5 x = true := fun x hx => hv x (List.mem_cons_of_mem _ hx)
    simp only [I6] at h99 ⊢
    by_cases he : M2 a' b = true
    ·simp only [if_pos he] at h99 ⊢
     obtain ⟨i1, i2, i3⟩ := A6q us h' w l D (by simpa using h1) (by simpa using h2) hw' hv' hh' hs.2 hl h99 hD
     have hab := (A2T _ _).1 he
     subst hab
     refine ⟨by rw [X4, ha, i1], ?_, ?_⟩
     ·rw [N3, Bool.and_eq_true]; exact ⟨A6p 40 13 u (D + 1) D (by omega) hs.1, i2⟩
     ·simp only [F4]; omega
    ·simp only [if_neg he] at h99 ⊢
     obtain ⟨i1, i2, i3⟩ := A6q us h' w (l + 1) D (by simpa using h1) (by simpa using h2) hw' hv' hh' hs.2 (by omega) h99 hD
     have hlab := A07 us h' w (l + 1)
     refine ⟨by rw [X4, K6, B4D ha, i1], ?_, ?_⟩
     ·rw [N3, Bool.and_eq_true]
      exact ⟨B4H hs.1 c1 (hv a' List.mem_cons_self) c2 (by omega) (by omega) hD, i2⟩
     ·simp only [F4, A1R]; omega
def A94 (cx : Cx) (t : Tm) (D l : Int) (u : Tm) (a : Ty) (l' : Int) : Prop := N2 40 13 u D = true ∧ A0H cx u = some a ∧ H5 a = true ∧ l ≤ l' ∧ l' + 1 ≤ l + (D6 t : Int) ∧ (D6 u : Int) ≤ D6 t + (l' - l)
theorem A6r (ks : List Tm) (ih : ∀ t ∈ ks, ∀ (d D : Int) (cx : Cx) (l : Int) (u : Tm) (a : Ty) (l' : Int), N2 12 14 t d = true → Z1 cx → 0 ≤ l → M6 cx t l = some (u, a, l') → l' ≤ 99 → D + 2 * (13 - d) ≤ 41 → A94 cx t D l u a l') :
  ∀ (d D : Int) (cx : Cx) (l : Int) (us : List Tm) (h : List Ty) (l' : Int), N3 12 14 ks d = true → Z1 cx → 0 ≤ l → M3 cx ks l = some (us, h, l') → l' ≤ 99 → D + 2 * (13 - d) ≤ 41 →
   N3 40 13 us D = true ∧ X4 cx us = some h ∧ (∀ a ∈ h, H5 a = true) ∧ l ≤ l' ∧ l' + ks.length ≤ l + (F4 ks : Int) ∧ (F4 us : Int) ≤ F4 ks + (l' - l) ∧ h.length = ks.length ∧ us.length = ks.length := by
 induction ks with
 | nil =>
  intro d D cx l us h l' _ _ _ he _ _
  simp only [M3, Option.some.injEq, Prod.mk.injEq] at he
  obtain ⟨rfl, rfl, rfl⟩ := he
  simp [N3, X4, F4]
 | cons t ts ihl =>
  intro d D cx l us h l' hs hcx hl he h99 hD
  rw [N3, Bool.and_eq_true] at hs
  rw [M3] at he
  split at he
  ·cases he
  ·rename_i u a l1 h1
   split at he
   ·cases he
   ·rename_i us' h' l2 h2
    simp only [Option.some.injEq, Prod.mk.injEq] at he
    obtain ⟨rfl, rfl, rfl⟩ := he
    have hp := B13 t
    
    have hmono : l1 ≤ l2 := by
     have : ∀ (zs : List Tm) (l : Int) us h l', M3 cx zs l = some (us, h, l') → l ≤ l' := by
      intro zs
      induction zs with
      | nil => intro l us h l' he; simp only [M3, Option.some.injEq, Prod.mk.injEq] at he; omega
      | cons z zs ihz =>
       intro l us h l' he
       rw [M3] at he
       split at he
       ·cases he
       ·rename_i u a l1 hz
        split at he
        ·cases he
        ·rename_i us' h' l2 hzs
         simp only [Option.some.injEq, Prod.mk.injEq] at he
         have := ihz _ _ _ _ hzs
         have := el_mono cx z l _ _ _ hz
         omega
     exact this ts l1 us' h' l2 h2
    obtain ⟨a1, a2, a3, a4, a5, a6⟩ := ih t List.mem_cons_self d D cx l u a l1 hs.1 hcx hl h1 (by omega) hD
    obtain ⟨b1, b2, b3, b4, b5, b6, b7, b8⟩ := ihl (fun x hx => ih x (List.mem_cons_of_mem _ hx)) d D cx l1 us' h' l2 hs.2 hcx (by omega) h2 h99 hD
    refine ⟨by rw [N3, a1, b1]; rfl, by rw [X4, a2, b2], ?_, by omega, ?_, ?_, by simp [b7], by simp [b8]⟩
    ·intro x hx
     rcases List.mem_cons.1 hx with h | h
     ·rw [h]; exact a3
     ·exact b3 x h
    ·simp only [F4, List.length_cons]; omega
    ·simp only [F4]; omega
where
 el_mono (cx : Cx) : ∀ (z : Tm) (l : Int) (u : Tm) (a : Ty) (l' : Int), M6 cx z l = some (u, a, l') → l ≤ l' := by
  intro z
  revert cx
  refine Tm.ind (C := fun z => ∀ (cx : Cx) (l : Int) (u : Tm) (a : Ty) (l' : Int), M6 cx z l = some (u, a, l') → l ≤ l') ?_ z
  intro k nm num ty fr lb ks ih cx l u a l' he
  rw [M6] at he
  have hL : ∀ (zs : List Tm), (∀ t ∈ zs, t ∈ ks) → ∀ (cx : Cx) (l : Int) us h l', M3 cx zs l = some (us, h, l') → l ≤ l' := by
   intro zs
   induction zs with
   | nil => intro _ cx l us h l' he; simp only [M3, Option.some.injEq, Prod.mk.injEq] at he; omega
   | cons z zs ihz =>
    intro hin cx l us h l' he
    rw [M3] at he
    split at he
    ·cases he
    ·rename_i u a l1 hz
     split at he
     ·cases he
     ·rename_i us' h' l2 hzs
      simp only [Option.some.injEq, Prod.mk.injEq] at he
      have := ihz (fun t ht => hin t (List.mem_cons_of_mem _ ht)) _ _ _ _ _ hzs
      have := ih z (hin z List.mem_cons_self) _ l _ _ _ hz
      omega
  split at he
  ·cases he
  ·rename_i us h l1 hk
   have h1 := hL ks (fun _ h => h) _ _ _ _ _ hk
   unfold A1t at he
   split at he
   ·cases he
   ·rename_i w t hn
    simp only [Option.some.injEq, Prod.mk.injEq] at he
    have := A07 us h w l1
    omega
theorem B4I : ∀ (t : Tm) (d D : Int) (cx : Cx) (l : Int) (u : Tm) (a : Ty) (l' : Int), N2 12 14 t d = true → Z1 cx → 0 ≤ l → M6 cx t l = some (u, a, l') → l' ≤ 99 → D + 2 * (13 - d) ≤ 41 → A94 cx t D l u a l' := by
 refine Tm.ind fun k nm num ty fr lb ks ih d D cx l u a l' hs hcx hl he h99 hD => ?_
 obtain ⟨hd, h14, h3, h4⟩ := A0U hs
 obtain ⟨n1, n2, n3, n4, n5, n6, n7, n8, n9⟩ := U0.1 h3
 rw [M6] at he
 split at he
 ·cases he
 ·rename_i us h l1 hL
  unfold A1t at he
  split at he
  ·cases he
  ·rename_i w t hN
   simp only [Option.some.injEq, Prod.mk.injEq] at he
   obtain ⟨hu, rfl, rfl⟩ := he
   have hlab := A07 us h w l1
   obtain ⟨b1, b2, b3, b4, b5, b6, b7, b8⟩ := A6r ks ih (d + 1) (D + 2) (O7 cx k nm ty) l us h l1 h4 (A3K hcx fun hk => n6 (.inl hk)) hl hL (by omega) (by omega)
   obtain ⟨hv, hw⟩ := A9p hN
   have hwt := A93 b3 (fun hk => n6 (.inr (.inl hk))) (by rw [b7]; exact n1) h14 hw
   
   obtain ⟨c1, c2, c3⟩ : X4 (O7 cx k nm ty) (I6 us h w l1).1 = some (if w = [] then h else w) ∧ N3 40 13 (I6 us h w l1).1 (D + 1) = true ∧ (F4 (I6 us h w l1).1 : Int) = F4 us + ((I6 us h w l1).2 - l1) := by
    rcases hwt.len with hn | hn
    ·subst hn
     rw [A0A, if_pos rfl]
     refine ⟨b2, ?_, by simp⟩
     exact A4P 40 13 us (D + 2) (D + 1) (by omega) b1
    ·by_cases hn0 : w = []
     ·subst hn0
      rw [A0A, if_pos rfl]
      refine ⟨b2, ?_, by simp⟩
      exact A4P 40 13 us (D + 2) (D + 1) (by omega) b1
     ·rw [if_neg hn0]
      exact A6q us h w l1 (D + 1) (by omega) hn hwt.ok b3 b2 (by rw [show D + 1 + 1 = D + 2 by omega]; exact b1) (by omega) h99 (by omega)
   have hlm := A1u us h w l1
   have hck : D6 (.mk k nm num ty fr lb ks) = F4 ks + 1 := Y8 ..
   refine ⟨?_, ?_, hv, by omega, by rw [hck]; omega, ?_⟩
   ·rw [← hu]
    split
    ·rename_i hk
     have hl1 : ks.length = 1 := by rw [hk] at n1; have : F0 13 = 1 := rfl; omega
     have h0 : 0 < (I6 us h w l1).1.length := by omega
     rw [getD0' h0]
     have := (A05 40 13 _ _).1 c2 0 h0
     exact A6p 40 13 _ (D + 1) D (by omega) this
    ·rename_i hk
     rw [A2e (by omega) hk (by rw [hlm, b8]; exact h3)]
     exact c2
   ·rw [← hu]
    split
    ·rename_i hk
     have hl1 : ks.length = 1 := by rw [hk] at n1; have : F0 13 = 1 := rfl; omega
     have h0 : 0 < (I6 us h w l1).1.length := by omega
     rw [getD0' h0]
     rw [hwt.asT hk, if_neg (by simp)] at c1
     rw [O7, if_neg (by omega)] at c1
     rw [← hwt.asT hk] at c1
     obtain ⟨x, hx⟩ : ∃ x, (I6 us h w l1).1 = [x] := by
      match hm : (I6 us h w l1).1, (show (I6 us h w l1).1.length = 1 by omega) with
      | [x], _ => exact ⟨x, rfl⟩
     simp only [hx, List.getElem_cons_zero] at c1 ⊢
     obtain ⟨y, hy, he⟩ := B4B c1
     rw [hwt.asT hk] at he
     cases he; exact hy
    ·rename_i hk
     refine B4A c1 h14 hv (hwt.again hk) ?_
     by_cases hn0 : w = []
     ·rw [hn0]; rfl
     ·rw [if_neg hn0]; exact A9V w
   ·rw [← hu, hck]
    split
    ·rename_i hk
     have hl1 : ks.length = 1 := by rw [hk] at n1; have : F0 13 = 1 := rfl; omega
     have h0 : 0 < (I6 us h w l1).1.length := by omega
     rw [getD0' h0]
     have := A5t (List.getElem_mem h0)
     omega
    ·rw [Y8]; omega
where
 getD0' {us : List Tm} (h : 0 < us.length) : us.getD 0 L0 = us[0] := by rw [List.getD_eq_getElem?_getD, List.getElem?_eq_getElem h, Option.getD_some]
theorem A95 : ∀ (t : Tm) (d : Int) (cx : Cx) (l : Int) (u : Tm) (a : Ty) (l' : Int), N2 12 14 t d = true → M6 cx t l = some (u, a, l') → l' + 1 ≤ l + (D6 t : Int) := by
 refine Tm.ind fun k nm num ty fr lb ks ih d cx l u a l' hs he => ?_
 obtain ⟨hd, h14, h3, h4⟩ := A0U hs
 obtain ⟨n1, _⟩ := U0.1 h3
 have hL : ∀ (zs : List Tm), (∀ t ∈ zs, t ∈ ks) → N3 12 14 zs (d + 1) = true → ∀ (cx : Cx) (l : Int) us h l', M3 cx zs l = some (us, h, l') → l' + zs.length ≤ l + (F4 zs : Int) ∧ us.length = zs.length := by
  intro zs
  induction zs with
  | nil => intro _ _ cx l us h l' he; simp only [M3, Option.some.injEq, Prod.mk.injEq] at he; obtain ⟨rfl, _, rfl⟩ := he; simp [F4]
  | cons z zs ihz =>
   intro hin hsz cx l us h l' he
   rw [N3, Bool.and_eq_true] at hsz
   rw [M3] at he
   split at he
   ·cases he
   ·rename_i u a l1 hz
    split at he
    ·cases he
    ·rename_i us' h' l2 hzs
     simp only [Option.some.injEq, Prod.mk.injEq] at he
     obtain ⟨rfl, rfl, rfl⟩ := he
     have h5 := ihz (fun t ht => hin t (List.mem_cons_of_mem _ ht)) hsz.2 _ _ _ _ _ hzs
     have h6 := ih z (hin z List.mem_cons_self) (d + 1) _ l _ _ _ hsz.1 hz
     simp only [F4, List.length_cons]
     exact ⟨by omega, by omega⟩
 rw [M6] at he
 split at he
 ·cases he
 ·rename_i us h l1 hk
  obtain ⟨g1, g2⟩ := hL ks (fun _ h => h) h4 _ _ _ _ _ hk
  unfold A1t at he
  split at he
  ·cases he
  ·rename_i w t hn
   simp only [Option.some.injEq, Prod.mk.injEq] at he
   have := A07 us h w l1
   have hck : D6 (.mk k nm num ty fr lb ks) = F4 ks + 1 := Y8 ..
   rw [hck]; omega
theorem A6s {e u : Tm} {t : Ty} (h : V2 e = some (u, t)) : O9 u = true ∧ A0H [] u = some t ∧ H5 t = true := by
 unfold V2 at h
 split at h
 ·rename_i hv
  obtain ⟨h1, h2⟩ := (A1q e).1 hv
  split at h
  ·rename_i u' t' l' he
   cases h
   have hl : l' ≤ 99 := by
    have := A6r.el_mono [] e 0 _ _ _ he
    have h3 : ∀ (t : Tm) (cx : Cx) (l : Int) (u : Tm) (a : Ty) (l' : Int), M6 cx t l = some (u, a, l') → l' ≤ l + 4 * (D6 t : Int) → True := fun _ _ _ _ _ _ _ _ => trivial
    exact el_lab e 1 h1 (by omega) he
   obtain ⟨g1, g2, g3, g4, g5, g6⟩ := B4I e 1 1 [] 0 u t l' h1 A23 (by omega) he hl (by omega)
   exact ⟨(A5M u).2 ⟨g1, by omega⟩, g2, g3⟩
  ·cases h
 ·cases h
where
 el_lab (e : Tm) (d : Int) (h1 : N2 12 14 e d = true) (h2 : D6 e ≤ 30) {u : Tm} {t : Ty} {l' : Int} (he : M6 [] e 0 = some (u, t, l')) : l' ≤ 99 := by
  have := A95 e d [] 0 u t l' h1 he
  omega
def A0X (r : Option (Tm × Ty)) : IM → Value → List A5 → Prop := L5 fun G' v => ∃ cu ct, v = .tuple ⟨[.agg ⟨cu⟩, .agg ⟨ct⟩, .bool r.isSome]⟩ ∧ B3 G' (r.getD (L0, C1)).1 cu ∧ C2 G' (r.getD (L0, C1)).2 ct
theorem A0X.no {G : IM} {r : Option (Tm × Ty)} {cu ct : List Value} (h : r = none) (hu : B3 G L0 cu) (ht : C2 G C1 ct) : A0X r G (.tuple ⟨[.agg ⟨cu⟩, .agg ⟨ct⟩, .bool false]⟩) [] := by subst h; exact ⟨rfl, cu, ct, rfl, hu, ht⟩
theorem A0X.yes {G : IM} {r : Option (Tm × Ty)} {u : Tm} {t : Ty} {cu ct : List Value} (h : r = some (u, t)) (hu : B3 G u cu) (ht : C2 G t ct) : A0X r G (.tuple ⟨[.agg ⟨cu⟩, .agg ⟨ct⟩, .bool true]⟩) [] := by subst h; exact ⟨rfl, cu, ct, rfl, hu, ht⟩
theorem A96 {e : Tm} (h : Q1 e = false) : V2 e = none := by unfold V2; rw [if_neg (by rw [h]; decide)]
theorem A6t {e : Tm} (h : Q1 e = true) (h2 : M6 [] e 0 = none) : V2 e = none := by unfold V2; rw [if_pos h, h2]
theorem A6u {e u : Tm} {t : Ty} {l : Int} (h : Q1 e = true) (h2 : M6 [] e 0 = some (u, t, l)) : V2 e = some (u, t) := by unfold V2; rw [if_pos h, h2]
theorem B4J (e : Tm) (G : IM) (cells : List Value) (hr : B3 G e cells) : Fn Tryz.prog 25 [.agg ⟨cells⟩] [] G (A0X (V2 e)) := by
 have hRl := hr.len
 have hRo := hr.one
 have hV := A8f e G cells hr
 have hno := @A96 e
 have hnn := @A6t e
 have hso := @A6u e
 refine B8 Tryz.func25 rfl Tryz.ntmps25 Tryz.results25 rfl ?_
 intro w0
 refine A2 ?_
 refine sE (C6 rfl rfl) rfl (fun b3 => ?_)
 refine sE (A6 rfl) rfl (fun b4 => ?_)
 refine sE (A6 rfl) rfl (fun b5 => ?_)
 refine A7 ?_
 refine sL (A0 rfl rfl (B1 (by repeat first | exact mH | apply mT)) hRl) rfl rfl ?_
 refine E8 rfl (hV) rfl rfl (fun h13 => ?_) (fun h13 => ?_)
 refine D9 ?_
 refine sE (C6 rfl rfl) rfl (fun b23 => ?_)
 refine sL (A0 rfl rfl (B1 (by repeat first | exact mH | apply mT)) hRl) rfl rfl ?_
 focus (have htv : Q1 e = true := (by assumption); obtain ⟨hsh, hcn⟩ := (A1q e).1 htv; refine A1M rfl (A9Q _ e 1 [] 0 G none 0 0 _ hsh (by omega) A23 (R4.nil G) hr (by omega) (by omega)) (Pk.perm (by repeat (first | exact Pk.here | apply Pk.there))) rfl rfl (fun v G1 outs hle1 hh => ?_); obtain ⟨u, uc, t, tc, l3, rfl, rfl, hru, hrt, hl3, hl4, hu⟩ := hh; have hul := hru.len; have huo := hru.one; obtain ⟨p3, c3, e3, rfl, _⟩ := hrt.open; have hnn := hnn htv; have hso := @hso u t l3 htv; rcases hE : M6 [] e 0 with _ | ⟨u2, t2, l2⟩; rotate_left; have hue := hu _ hE; simp only [Prod.mk.injEq] at hue; obtain ⟨rfl, rfl, rfl⟩ := hue; have hso := hso hE; obtain ⟨hg1, hg2, hg3⟩ := A6s hso; rotate_left; simp only [Option.isSome]; rotate_left; simp only [Option.isSome])
 refine B6 ?_
 refine sE (A6 rfl) rfl (fun b30 => ?_)
 refine sE (A6 rfl) rfl (fun b31 => ?_)
 refine sS rfl rfl rfl hul huo rfl ?_ (hu := by exact D8 hul.symm)
 refine H1 ?_
 refine E1 E3 rfl ?_
 refine K9 (i := 0) (l' := [tt,ff,ff,ff,ff,ff,ff]) rfl D5 (A0 rfl rfl (B1 (by repeat first | exact mH | apply mT)) hul) rfl (by kernel_rfl) rfl rfl ?_
 refine aL 2 rfl (A4 rfl rfl) rfl ?_
 refine A3 1 ?_
 (refine H2 rfl rfl (A5S _ _ _ (A4I hg1) hru) rfl rfl rfl (fun v G2 hle2 hh => ?_); obtain ⟨cs2, F2, rfl, hs2, hn2⟩ := hh; have hwl := hs2.R.len; have hwo := hs2.R.one; have hr2 := hs2.R.mono (B5.le G2 G1); replace hrt := hrt.mono hle2)
 refine A3 3 ?_
 (refine H2 rfl rfl (A1p _ _ _ (A1U hg3).small hrt) rfl rfl rfl (fun v G3 hle3 hh => ?_); obtain ⟨cs3, F3, rfl, hs3, hn3⟩ := hh; obtain ⟨p4, c4, rfl, _⟩ := hs3.open; have hr3 := hs3.R.mono (B5.le G3 G2); replace hr2 := hr2.mono hle3)
 refine A3 4 ?_
 refine oS rfl rfl rfl rfl hwl hwo rfl rfl ?_ (hu := by exact D8 hwl.symm)
 refine A3 5 ?_
 refine oS rfl rfl rfl rfl rfl rfl rfl rfl ?_
 refine aP 6 rfl (qA rfl) rfl ?_
 refine B9 ?_
 refine D2 (rC rfl (A0 rfl rfl (B1 (by repeat first | exact mH | apply mT)) hwl)) (rC rfl (A4 rfl rfl)) (rT rfl) ?_
 (exact A0X.yes hso hr2 hr3)
 refine B6 ?_
 refine sE (A6 rfl) rfl (fun b69 => ?_)
 refine sE (A6 rfl) rfl (fun b70 => ?_)
 refine sS rfl rfl rfl hul huo rfl ?_ (hu := by exact D8 hul.symm)
 refine A0O ?_
 refine D2 (rC rfl (A4 rfl rfl)) (rC rfl (A4 rfl rfl)) (rT rfl) ?_
 (exact A0X.no (hnn hE) (O0 _) (Q3 _ ⟨by omega, by omega⟩))
 refine H1 ?_
 refine D2 (rC rfl (A4 rfl rfl)) (rC rfl (A4 rfl rfl)) (rT rfl) ?_
 (exact A0X.no (hno (by assumption)) (O0 _) (Q3 _ ⟨by omega, by omega⟩))
def P8 (e : Tm) : Option Ty := match V2 e with | some (_, t) => some t | none => none
theorem B4K (e : Tm) (G : IM) (cells : List Value) (htv : Q1 e = true) (hr : B3 G e cells) : Fn Tryz.prog 206 [.slice none 0 0, .agg ⟨cells⟩] [] G (W4 (P8 e) G) := by
 have hRl := hr.len
 have hRo := hr.one
 have hnn := @A6t e htv
 have hso := fun u t l => @A6u e u t l htv
 obtain ⟨hsh, hcn⟩ := (A1q e).1 htv
 refine B8 Tryz.func206 rfl Tryz.ntmps206 Tryz.results206 rfl ?_
 intro w0
 refine A2 ?_
 refine sE (C6 rfl rfl) rfl (fun b3 => ?_)
 refine sE (A6 rfl) rfl (fun b4 => ?_)
 refine A7 ?_
 refine sE (C6 rfl rfl) rfl (fun b11 => ?_)
 refine E0 ?_
 refine sL (A0 rfl rfl (B1 (by repeat first | exact mH | apply mT)) hRl) rfl rfl ?_
 focus (refine A1M rfl (A9Q _ e 1 [] 0 G none 0 0 _ hsh (by omega) A23 (R4.nil G) hr (by omega) (by omega)) (Pk.perm (by repeat (first | exact Pk.here | apply Pk.there))) rfl rfl (fun v G1 outs hle1 hh => ?_); obtain ⟨u, uc, t, tc, l3, rfl, rfl, hru, hrt, hl3, hl4, hu⟩ := hh; have hul := hru.len; have huo := hru.one; obtain ⟨p3, c3, e3, rfl, _⟩ := hrt.open; have hso := hso u t l3; rcases hE : M6 [] e 0 with _ | ⟨u2, t2, l2⟩; rotate_left; have hue := hu _ hE; simp only [Prod.mk.injEq] at hue; obtain ⟨rfl, rfl, rfl⟩ := hue; have hso := hso hE; rotate_left; simp only [Option.isSome]; rotate_left; simp only [Option.isSome])
 refine B6 ?_
 refine sE (A6 rfl) rfl (fun b19 => ?_)
 refine sE (A6 rfl) rfl (fun b20 => ?_)
 refine sS rfl rfl rfl hul huo rfl ?_ (hu := by exact D8 hul.symm)
 refine J6 ?_
 refine E9 (rC rfl (A4 rfl rfl)) (rT rfl) ?_
 (exact W4.yes hrt rfl (by unfold P8; rw [hso]))
 refine B6 ?_
 refine sE (A6 rfl) rfl (fun b41 => ?_)
 refine sE (A6 rfl) rfl (fun b42 => ?_)
 refine sS rfl rfl rfl hul huo rfl ?_ (hu := by exact D8 hul.symm)
 refine J6 ?_
 refine E9 (rC rfl (A4 rfl rfl)) (rT rfl) ?_
 (exact W4.no hrt rfl (by unfold P8; rw [hnn hE]))
theorem B4L (fid : FuncId) (us cs : List Value) (G : IM) : Fn Tryz.prog 247 [.slice none 0 0, .func (.func fid) ⟨us⟩ ⟨cs⟩] [] G (E5 (.int .i64 (-1)) G) := by
 refine B8 Tryz.func247 rfl Tryz.ntmps247 Tryz.results247 rfl ?_
 intro w0
 refine J6 ?_
 refine B7 ?_
 refine I3 (fun (_ : Nat) => ⟨[(8, .int .i64 0), (7, .int .i64 0)], [], G⟩) (fun _ => True) (fun i => i) 0 ?_ ?_ ?_
 ·exact D3
 ·trivial
 ·(rintro (i0 : Nat) _)
  refine A2 ?_
  refine sP (S5 rfl rfl (by omega)) rfl rfl ?_
  refine J3 ?_
  trivial
theorem B4M (fid : FuncId) (us cs : List Value) (G : IM) : Fn Tryz.prog 232 [.slice none 0 0, .func (.func fid) ⟨us⟩ ⟨cs⟩] [] G (E5 (.bool false) G) := by
 refine B8 Tryz.func232 rfl Tryz.ntmps232 Tryz.results232 rfl ?_
 intro w0
 refine D9 ?_
 refine H4 rfl (B4L fid us cs G) rfl rfl ?_
 refine sP (A65 rfl rfl (by omega)) rfl rfl ?_
 refine B0 ?_
 (exact ⟨rfl, rfl, rfl⟩)
theorem B4N (G : IM) : Fn Tryz.prog 205 [.slice none 0 0] [] G (E5 (.bool true) G) := by
 refine B8 Tryz.func205 rfl Tryz.ntmps205 Tryz.results205 rfl ?_
 intro w0
 refine D9 ?_
 refine sP (A64 rfl rfl (by omega)) rfl rfl ?_
 refine A2 ?_
 refine H4 rfl ((B4M _ _ _ _)) rfl rfl ?_
 refine A9 ?_
 (exact ⟨rfl, rfl, rfl⟩)
theorem A97 {e : Tm} (h : Q1 e = false) : P8 e = none := by unfold P8; rw [A96 h]
theorem B4O {e : Tm} {t : Ty} (h : P8 e = some t) : H5 t = true := by
 unfold P8 at h
 split at h
 ·rename_i u t' hi; cases h; exact (A6s hi).2.2
 ·cases h
theorem B4P (e : Tm) (G : IM) (cells : List Value) (hr : B3 G e cells) : Fn Tryz.prog 160 [.slice none 0 0, .agg ⟨cells⟩] [] G (W4 (P8 e) G) := by
 have hRl := hr.len
 have hRo := hr.one
 refine B8 Tryz.func160 rfl Tryz.ntmps160 Tryz.results160 rfl ?_
 intro w0
 refine A2 ?_
 refine sE (C6 rfl rfl) rfl (fun b3 => ?_)
 refine sE (A6 rfl) rfl (fun b4 => ?_)
 refine A9 ?_
 refine H4 rfl ((B4N _)) rfl rfl ?_
 refine A2 ?_
 refine sL (A0 rfl rfl (B1 (by repeat first | exact mH | apply mT)) hRl) rfl rfl ?_
 refine E8 rfl ((A8f e _ _ hr)) rfl rfl (fun h16 => ?_) (fun h16 => ?_)
 refine I9 ?_
 refine sL (A0 rfl rfl (B1 (by repeat first | exact mH | apply mT)) hRl) rfl rfl ?_
 focus (refine D4 rfl (B4K e G cells (by assumption) hr) rfl rfl (fun v G1 hle1 hh => ?_); obtain ⟨cu, u, rfl, hru, hu⟩ := hh; obtain ⟨p1, c1, e1, rfl, _⟩ := hru.open; rcases hct : P8 e with _ | u2; rotate_left; obtain rfl := hu u2 hct; have hgv := B4O hct; rotate_left; simp only [Option.isSome]; rotate_left; simp only [Option.isSome])
 refine B9 ?_
 refine sE (A6 rfl) rfl (fun b32 => ?_)
 refine Q0 ?_
 (refine D4 rfl (A1p _ G1 _ (A1U hgv).small hru) rfl rfl (fun v G2 hle2 hh => ?_); obtain ⟨cs2, F2, rfl, hs2, hn2⟩ := hh; obtain ⟨p2, c2, rfl, _⟩ := hs2.open; have hr2 := hs2.R.mono (B5.le G2 G1))
 refine B0 ?_
 refine E9 (rC rfl (A4 rfl rfl)) (rT rfl) ?_
 (exact W4.yes hr2 rfl (by first | exact hct | rfl))
 refine B9 ?_
 refine sE (A6 rfl) rfl (fun b61 => ?_)
 refine A0p ?_
 refine E9 (rC rfl (A4 rfl rfl)) (rT rfl) ?_
 (exact W4.no (u := C1) (Q3 _ ⟨by omega, by omega⟩) rfl (by first | exact hct | rfl))
 refine J7 ?_
 refine E9 (rC rfl (A4 rfl rfl)) (rT rfl) ?_
 (exact W4.no (u := C1) (Q3 _ ⟨by omega, by omega⟩) rfl (A97 (by assumption)))
theorem B4Q (e : Tm) (G : IM) (cells : List Value) (hr : B3 G e cells) : Fn Tryz.prog 118 [.agg ⟨cells⟩] [] G (W4 (P8 e) G) := by
 have hRl := hr.len
 have hRo := hr.one
 refine B8 Tryz.func118 rfl Tryz.ntmps118 Tryz.results118 rfl ?_
 intro w0
 refine A2 ?_
 refine sE (C6 rfl rfl) rfl (fun b3 => ?_)
 refine sE (A6 rfl) rfl (fun b4 => ?_)
 refine B0 ?_
 refine sL (A0 rfl rfl (B1 (by repeat first | exact mH | apply mT)) hRl) rfl rfl ?_
 (refine D4 rfl (B4P e G cells hr) rfl rfl (fun v G1 hle1 hh => ?_); obtain ⟨cu, u, rfl, hru, hu⟩ := hh; obtain ⟨p1, c1, e1, rfl, _⟩ := hru.open)
 refine A9 ?_
 refine E9 (rC rfl (A4 rfl rfl)) (rT rfl) ?_
 (exact ⟨rfl, _, u, rfl, hru, hu⟩)
def U4 (e : Tm) : Option (List Tm) := if (P8 e).isSome = true ∧ (I5 e).length ≤ 6 then some (Y9 e) else none
def CfP (r : Option (List Tm)) : IM → Value → List A5 → Prop := fun G' v outs => outs = [] ∧ ∃ p c es, v = .tuple ⟨[.slice p (r.getD []).length c, .bool r.isSome]⟩ ∧ C8 G' p (r.getD []).length c 9 es ∧ D7 G' (r.getD []) es
theorem B4R {r : Option (List Tm)} {G' : IM} (h : r = none) : CfP r G' (.tuple ⟨[.slice none 0 0, .bool false]⟩) [] := by
 subst h; exact ⟨rfl, none, 0, [], rfl, C8.nil G' 9, by simp [D7]⟩
theorem B4S {r : Option (List Tm)} {l : List Tm} {G' : IM} {p : Option Addr} {n c : Nat} {es : List (List Value)} (h : r = some l) (hn : n = l.length) (hs : Sl G' p n c 9 es.flatten) (hr : D7 G' l es) : CfP r G' (.tuple ⟨[.slice p n c, .bool true]⟩) [] := by
 subst h hn
 exact ⟨rfl, p, c, es, rfl, C8.of hs hr.len hr.all (fun e he => by obtain ⟨j, hj⟩ := List.getElem?_of_mem he; exact (hr.inv hj L0).2.one), hr⟩
theorem A98 {α : Type} (f : Nat → α) (i : Nat) : (List.range (i + 1)).map f = (List.range i).map f ++ [f i] := by rw [List.range_succ, List.map_append]; rfl
theorem A99 {Q : Prop} (h : Q := by (exact B4R (hno (fun hc => by first | exact Bool.noConfusion hc.1 | omega)))) : Q := h
theorem B0a (t : Tm) (G : IM) (cells : List Value) (hts : t.small) (hcnt : D6 t ≤ 4000000) (hr : B3 G t cells) :
  Fn Tryz.prog 73 [.agg ⟨cells⟩] [] G (CfP (U4 t)) := by
 have hlen9 := hr.len
 have hone9 := hr.one
 obtain ⟨L, hL⟩ : ∃ L, (I5 t).length = L := ⟨_, rfl⟩
 have hno : ¬ ((P8 t).isSome = true ∧ L ≤ 6) → U4 t = none := fun h => by unfold U4; rw [hL, if_neg h]
 have hyes : (P8 t).isSome = true ∧ L ≤ 6 → U4 t = some ((List.range (2 ^ L)).map (V1 t)) := fun h => by unfold U4; rw [hL, if_pos h]; unfold Y9; rw [hL]
 have hLb := A4w t
 generalize U4 t = R at *
 have hTy := fun G hr => A5X t G cells hts hcnt hr
 refine B8 Tryz.func73 rfl Tryz.ntmps73 Tryz.results73 rfl ?_
 intro w0
 refine A2 ?_
 refine sE (C6 rfl rfl) rfl (fun b3 => ?_)
 refine A9 ?_
 refine sL (A0 rfl rfl (B1 (by repeat first | exact mH | apply mT)) hlen9) rfl rfl ?_
 (refine D4 rfl (B4Q t G cells hr) rfl rfl (fun v1 G1 hle1 hh => ?_); obtain ⟨ct, u, rfl, hru, _⟩ := hh; obtain ⟨qt, dt, et2, rfl, _⟩ := hru.open; have hr1 := hr.mono hle1; generalize (P8 t).isSome = A1 at *; cases A1)
 refine B9 ?_
 refine sE (A6 rfl) rfl (fun b16 => ?_)
 refine A3m ?_
 refine E9 (rT rfl) (rT rfl) ?_
 exact A99
 refine B9 ?_
 refine sE (A6 rfl) rfl (fun b47 => ?_)
 refine D9 ?_
 refine sL (A0 rfl rfl (B1 (by repeat first | exact mH | apply mT)) hlen9) rfl rfl ?_
 (refine W1 rfl (hTy _ hr1) rfl rfl (fun v2 G2 outs hle2 hh => ?_); obtain ⟨p2, c2, es2, rfl, rfl, hr2⟩ := hh; rw [hL]; have hr3 := hr1.mono hle2)
 refine E0 ?_
 refine sB (A00 rfl rfl) rfl rfl (fun h60 => ?_) (fun h60 => ?_)
 refine J8 ?_
 refine E9 (rT rfl) (rT rfl) ?_
 exact A99
 refine J7 ?_
 refine sL (A0 rfl rfl (B1 (by repeat first | exact mH | apply mT)) hlen9) rfl rfl ?_
 (refine W1 rfl (hTy _ hr3) rfl rfl (fun v3 G3 outs hle3 hh => ?_); obtain ⟨p4, c4, es4, rfl, rfl, hr4⟩ := hh; rw [hL]; have hr5 := hr3.mono hle3)
 refine E0 ?_
 refine sP (A22 rfl rfl (by omega)) rfl rfl ?_
 refine B9 ?_
 refine B7 ?_
 (have hp64 : 2 ^ L ≤ 2 ^ 6 := Nat.pow_le_pow_right (by decide) (by omega); have hyy := hyes ⟨rfl, by omega⟩; generalize 2 ^ L = M at *; refine R5 37 9 ?_; refine I3 (fun (x : Nat × Option Addr × Nat × List (List Value) × IM) => ⟨[(25, .int .i64 x.1), (24, .int .i64 M), (6, .slice x.2.1 x.1 x.2.2.1), (1, .pointer (some ⟨b3, 0, none⟩))], [.slc x.2.1 x.2.2.1 37 9 x.1 x.2.2.2.1.flatten, .blk b3 cells], x.2.2.2.2⟩) (fun x => x.1 ≤ M ∧ C5 G3 x.2.2.2.2 ∧ D7 x.2.2.2.2 ((List.range x.1).map (V1 t)) x.2.2.2.1) (fun x => M - x.1) (0, none, 0, [], G3) ?_ ?_ ?_)
 (simp only [H9]; exact D3)
 exact A2v
 (rintro ⟨(i : Nat), pn, cn, es, Gi⟩ ⟨hi, hle, hst⟩; simp only [] at hi hle hst ⊢; have hr6 := hr5.mono hle)
 refine A2 ?_
 refine sB (I8 rfl rfl) rfl rfl (fun h103 => ?_) (fun h103 => ?_)
 refine A9 ?_
 refine B7 ?_
 refine D0 ?_
 refine sL (A0 rfl rfl (B1 (by repeat first | exact mH | apply mT)) hlen9) rfl rfl ?_
 refine E0 ?_
 (refine D4 rfl (B3B t i Gi cells hts hcnt (by omega) (by omega) hr6) rfl rfl (fun v7 G7 hle7 hh => ?_); obtain ⟨cu, rfl, hru7⟩ := hh; have hsn := D7.snoc (hst.mono hle7) hru7; have huo := hru7.one; obtain ⟨u1, u2, u3, u4, u5, u6, u7, u8, u9, rfl⟩ : ∃ u1 u2 u3 u4 u5 u6 u7 u8 u9, cu = [u1, u2, u3, u4, u5, u6, u7, u8, u9] := (by obtain ⟨_, _, _, _, _, _, _, _, _, rfl, _⟩ := hru7.open; exact ⟨_, _, _, _, _, _, _, _, _, rfl⟩))
 (refine J9 (E2 rfl rfl rfl (by omega) (by unfold maxLen; omega) rfl) rfl ?_; rintro _ ⟨b123, rfl⟩)
 (refine X1 rfl rfl rfl rfl rfl (fun _ _ => by repeat (first | exact Sw.here | apply Sw.there)) (M4 (by repeat first | exact mH | apply mT)) rfl (fun u hu => List.all_eq_true.1 huo u hu) (by unfold maxLen; omega) (by omega) rfl (fun p8 c8 => ?_))
 refine B0 ?_
 refine sP (E7 rfl rfl (by omega) (by omega)) rfl rfl ?_
 refine A2 ?_
 (refine I7 (i + 1, p8, c8, es ++ [[u1, u2, u3, u4, u5, u6, u7, u8, u9]], G7) (by simp only [List.flatten_append, List.flatten_cons, List.flatten_nil, List.append_nil]; exact (O5 (by repeat (first | exact I1.nil | refine I1.cons rfl ?_)) (by repeat (first | exact A8.refl | exact A8.nil | refine A8.cons (by repeat (first | exact Pk.here | apply Pk.there)) ?_ | apply A8.drop)))) ?_ ?_)
 (dsimp only; exact ⟨by omega, hle.trans hle7, by rw [A98]; exact hsn⟩)
 (show M - (i + 1) < M - i; omega)
 refine J3 ?_
 (refine H8 (cs := es.flatten) (by repeat (first | exact Pk.here | apply Pk.there)) (fun G9 hle9 hsl9 hno9 => ?_); obtain rfl : i = M := (by omega))
 refine tT ?_
 refine E9 (rT rfl) (rT rfl) ?_
 (exact B4S hyy (by simp) hsl9 (hst.mono hle9))
def MsP (r : Option (List Int)) (e : A5) (G : IM) : IM → Value → List A5 → Prop := fun G' v outs => outs = [e] ∧ ∃ p c, v = .tuple ⟨[.slice p (r.getD []).length c, .bool r.isSome]⟩ ∧ SP1 (B5 G' G) (r.getD []) p c
theorem MsP.mk {o : Option (List Tm)} {f : Tm → Int} {r : Option (List Int)} {e : A5} {G G' : IM} {p : Option Addr} {n c : Nat} (hr : r = o.map (List.map f)) (hn : n = (o.getD []).length) (hs : SP1 (B5 G' G) ((o.getD []).map f) p c) : MsP r e G G' (.tuple ⟨[.slice p n c, .bool o.isSome]⟩) [e] := by
 subst hr hn
 refine ⟨rfl, p, c, ?_, ?_⟩
 ·cases o <;> simp
 ·cases o with
  | none => simpa using hs
  | some l => simpa using hs
theorem B4T (t : Tm) (f : Tm → Int) (fid : FuncId) [B4 Tryz.prog fid] (us cs : List Value) (ent : A5) (G : IM) (cells : List Value) (hts : t.small) (hcnt : D6 t ≤ 4000000) (hr : B3 G t cells)
  (hq : ∀ (x : Tm) (G' : IM) (xc : List Value), C5 G G' → x ∈ (U4 t).getD [] → B3 G' x xc → Fn Tryz.prog fid (us ++ [.agg ⟨xc⟩] ++ cs) [ent] G' (fun _ v outs => outs = [ent] ∧ v = .int .i64 (f x))) :
  Fn Tryz.prog 47 [.agg ⟨cells⟩, .func (.func fid) ⟨us⟩ ⟨cs⟩] [ent] G (MsP ((U4 t).map (List.map f)) ent G) := by
 have hlen9 := hr.len
 have hone9 := hr.one
 have hC := B0a t G cells hts hcnt hr
 obtain ⟨R, hR⟩ : ∃ R, (U4 t).map (List.map f) = R := ⟨_, rfl⟩
 rw [hR]
 have hk64 : ((U4 t).getD []).length ≤ 64 := by
  unfold U4
  split
  ·rename_i h
   have : 2 ^ (I5 t).length ≤ 2 ^ 6 := Nat.pow_le_pow_right (by decide) h.2
   simp only [Option.getD_some, Y9, List.length_map, List.length_range]; omega
  ·simp
 generalize U4 t = C at *
 obtain ⟨l, hl⟩ : ∃ l, C.getD [] = l := ⟨_, rfl⟩
 refine B8 Tryz.func47 rfl Tryz.ntmps47 Tryz.results47 rfl ?_
 intro w0
 refine A2 ?_
 refine sE (C6 rfl rfl) rfl (fun b3 => ?_)
 refine A7 ?_
 refine sL (A0 rfl rfl (B1 (by repeat first | exact mH | apply mT)) (by assumption)) rfl rfl ?_
 (refine W1 rfl hC rfl rfl (fun v1 G1 outs hle1 hh => ?_); obtain ⟨rfl, p1, c1, e1, rfl, hs1, hr1⟩ := hh; rw [hl] at hs1 hr1 hk64 hq ⊢)
 refine A0b ?_
 refine B7 ?_
 (refine R5 3 1 ?_; refine I3 (fun (x : Nat × Option Addr × Nat × IM) => ⟨[(18, .int .i64 x.1), (17, .int .i64 l.length), (16, .slice p1 l.length c1), (8, .slice x.2.1 x.1 x.2.2.1), (7, .bool C.isSome), (1, .func (.func fid) ⟨us⟩ ⟨cs⟩)], [.slc x.2.1 x.2.2.1 3 1 x.1 (N6 ((l.take x.1).map f)), ent], x.2.2.2⟩) (fun x => x.1 ≤ l.length ∧ C5 G1 x.2.2.2) (fun x => l.length - x.1) (0, none, 0, G1) ?_ ?_ ?_)
 (simp only [H9]; exact D3)
 (exact ⟨Nat.zero_le _, C5.refl _⟩)
 (rintro ⟨(i : Nat), pn, cn, Gi⟩ ⟨hi, hle⟩; simp only [] at hi hle ⊢)
 refine A2 ?_
 refine sB (I8 rfl rfl) rfl rfl (fun h39 => ?_) (fun h39 => ?_)
 refine A9 ?_
 refine B7 ?_
 refine A2 ?_
 (obtain ⟨b, o, e, rfl, hel, hat, hre, hgb⟩ := (hs1.mono hle).kidTm (hr1.mono hle) (i := i) (by omega) (by omega); have heo := hre.one; refine sP (B2 rfl rfl rfl (by omega)) rfl rfl ?_)
 refine sL (A0 rfl rfl (hat _) hel) rfl rfl ?_
 refine sE (A6 rfl) rfl (fun b52 => ?_)
 refine sS rfl rfl rfl hel heo rfl ?_ (hu := by exact D8 hel.symm)
 refine B0 ?_
 refine sL (A0 rfl rfl (B1 (by repeat first | exact mH | apply mT)) hel) rfl rfl ?_
 (refine J9 (A3Z rfl rfl (hq l[i] Gi e (hle1.trans hle) (List.getElem_mem (by omega)) hre) (Pk.perm (by repeat (first | exact Pk.here | apply Pk.there))) rfl) rfl ?_; rintro _ ⟨v, G7, outs, rfl, hle7, rfl, rfl⟩)
 (refine J9 (E2 rfl rfl rfl (by omega) (by unfold maxLen; omega) rfl) rfl ?_; rintro _ ⟨b61, rfl⟩)
 (refine X1 rfl rfl rfl rfl rfl (fun _ _ => by repeat (first | exact Sw.here | apply Sw.there)) (M4 (by repeat first | exact mH | apply mT)) rfl (by simp [Value.oneCell']) (by unfold maxLen; omega) (by omega) rfl (fun p8 c8 => ?_))
 refine B0 ?_
 refine sP (E7 rfl rfl (by omega) (by omega)) rfl rfl ?_
 refine A2 ?_
 (refine I7 (i + 1, p8, c8, G7) (by rw [List.take_succ_eq_append_getElem (by omega), List.map_append, List.map_cons, List.map_nil, A38]; exact (O5 (by repeat (first | exact I1.nil | refine I1.cons rfl ?_)) (by repeat (first | exact A8.refl | exact A8.nil | refine A8.cons (by repeat (first | exact Pk.here | apply Pk.there)) ?_ | apply A8.drop)))) ?_ ?_)
 (dsimp only; exact ⟨by omega, hle.trans hle7⟩)
 (show l.length - (i + 1) < l.length - i; omega)
 refine Q0 ?_
 (obtain rfl : i = l.length := (by omega); rw [List.take_length]; refine H8 (cs := N6 (l.map f)) (by repeat (first | exact Pk.here | apply Pk.there)) (fun G9 hle9 hsl9 hno9 => ?_))
 refine tT ?_
 refine B1I (outs := [ent]) (rT rfl) (rT rfl) (A8.cons (by repeat (first | exact Pk.here | apply Pk.there)) A8.nil) ?_
 (exact MsP.mk hR.symm (by rw [hl]) (by rw [hl]; exact ⟨by rw [List.length_map]; exact hsl9.dif (fun b hb => (hno9 b hb).1) (hle1.trans hle), fun b hb => A2J (hle1.trans hle) (hno9 b hb)⟩))
end Gw
end Go.Proofs.YtebfignffjhnhaaGreatDoor
