/-
  The program's evaluator: the rules of casts.
-/
import Derived.Test.YtfpgncjeejickaaGreatKg4
import Derived.Test.YtfpgncjeejickaaGreatKg3
import Derived.Test.YtfpgncjeejickaaGreatKg2
import Derived.Lib.ItoaNum
import Derived.Test.YtfpgncjeejickaaGreatKg1
set_option linter.unusedVariables false
set_option linter.unusedSimpArgs false
set_option maxHeartbeats 0
set_option maxRecDepth 100000
set_option synthInstance.maxSize 4000
set_option synthInstance.maxHeartbeats 0
namespace Go.Proofs.YtfpgncjeejickaaGreat
open Go Go.RowKit
namespace Gw
section
variable {P : Program} {Γ : L9} {K : Po} {ops : Array Oper} {env : M4} {hp : List A5} {G : IM}
theorem A1d {H : List (Nat × Nat)} {fuel j : Nat} {listed : List Bool} {hp' : List A5} {p : Option Addr} {c el sz n : Nat} {cs : List Value} (hk : Pk hp (.slc p c el sz n cs) hp')
  (h : ∀ G', B9 G G' → Sl G' p n c sz cs → (∀ b ∈ J0 p, G b = none ∧ G' b ≠ none) → V3 P Γ ops K H fuel listed j ⟨env, hp', G'⟩) : V3 P Γ ops K H fuel listed j ⟨env, hp, G⟩ :=
 ⟨fun a w hs => let ⟨G', h1, h2, h3, h4⟩ := hs.freeze hk; (h G' h2 h3 h4).run a w h1⟩
end
theorem C1.kids {G : IM} {t : Ty} {a : Value} {p : Option Addr} {n c : Nat} (h : C1 G t [a, .slice p n c]) : ∃ es, D1 G p t.ks.length c 2 es ∧ C8 G t.ks es := by
 obtain ⟨p', c', es, he, _, h1, h2⟩ := h.open
 simp only [List.cons.injEq, Value.slice.injEq, and_true] at he
 obtain ⟨_, rfl, _, rfl⟩ := he
 exact ⟨es, h1, h2⟩
def Z0 (k : Int) (ty fr : Ty) (lb : Int) (ks : List Tm) : Stp :=
 if k = 6 then
  (if X6 (kd ks 0) = true ∧ (kd ks 0).ty.k = 4 then (L3 (A0r 6 [kd (kd ks 0).ks 0, L3 (kd ks 1) (kt (kd ks 0).ty.ks 0) (kt (kd ks 0).fr.ks 0) (-(kd ks 0).lb)]) (kt (kd ks 0).fr.ks 1) (kt (kd ks 0).ty.ks 1) (kd ks 0).lb, 1, 0) else R9)
 else if k = 11 ∨ k = 12 then
  (if X6 (kd ks 0) = true ∧ (kd ks 0).ty.k = 5 then (L3 (A0r k [kd (kd ks 0).ks 0]) (kt (kd ks 0).fr.ks (k - 11).toNat) (kt (kd ks 0).ty.ks (k - 11).toNat) (kd ks 0).lb, 1, 0) else R9)
 else if k = 14 then
  (if fr.k = ty.k then (kd ks 0, 1, 0)
   else if ty.k = 1 then (L3 (L3 (kd ks 0) fr (V7 fr) lb) (V7 fr) ty lb, 1, 0)
   else if W7 ty = false then (L3 (L3 (kd ks 0) fr (V7 ty) lb) (V7 ty) ty lb, 1, 0)
   else if inj (kd ks 0) = false then R9
   else if (kd ks 0).fr.k = ty.k then (kd (kd ks 0).ks 0, 1, 0)
   else (K1, 2, lb))
 else R9
theorem B3N (k : Int) (ty fr : Ty) (lb : Int) (ks : List Tm) : Q2 k ty fr lb ks = match X8 k ks with | some u => (u, 1, 0) | none => Z0 k ty fr lb ks := by
 unfold Q2 X8 Z0
 by_cases h6 : k = 6
 ·rw [if_pos h6, if_pos h6, if_pos h6]
  by_cases h : (kd ks 0).k = 5
  ·rw [if_pos h, if_pos h]
  ·rw [if_neg h, if_neg h]
 rw [if_neg h6, if_neg h6, if_neg h6]
 by_cases h7 : k = 7 ∨ k = 8
 ·rw [if_pos h7, if_pos h7]
  by_cases h : (kd ks 0).k = 2 ∧ (kd ks 1).k = 2
  ·rw [if_pos h, if_pos h]
  ·rw [if_neg h, if_neg h]; simp only; rw [if_neg (by omega), if_neg (by omega)]
 rw [if_neg h7, if_neg h7]
 by_cases h9 : k = 9
 ·rw [if_pos h9, if_pos h9]
  by_cases h : (kd ks 0).k = 3
  ·rw [if_pos h, if_pos h]
  ·rw [if_neg h, if_neg h]
   by_cases h' : (kd ks 0).k = 4
   ·rw [if_pos h', if_pos h']
   ·rw [if_neg h', if_neg h']; simp only; rw [if_neg (by omega), if_neg (by omega)]
 rw [if_neg h9, if_neg h9]
 by_cases h11 : k = 11 ∨ k = 12
 ·rw [if_pos h11, if_pos h11, if_pos h11]
  by_cases h : (kd ks 0).k = 10
  ·rw [if_pos h, if_pos h]
  ·rw [if_neg h, if_neg h]
 rw [if_neg h11, if_neg h11, if_neg h11]
def S5 (r : Stp) : IM → Value → List A5 → Prop := J4 fun G' v => ∃ u cells, v = .tuple ⟨[.agg ⟨cells⟩, .int .i64 r.2.1, .int .i64 r.2.2]⟩ ∧ A8 G' u cells ∧ (r.2.1 = 1 → u = r.1)
theorem S5.mk {G : IM} {r : Stp} {u : Tm} {cells : List Value} {c l : Int} (h : r = (u, c, l)) (hr : A8 G u cells) : S5 r G (.tuple ⟨[.agg ⟨cells⟩, .int .i64 c, .int .i64 l]⟩) [] := by
 subst h; exact ⟨rfl, u, cells, rfl, hr, fun _ => rfl⟩
theorem A0u {ks : List Tm} {i : Nat} (h : i < ks.length) : kd ks i = ks[i] := by unfold kd; rw [List.getD_eq_getElem?_getD, List.getElem?_eq_getElem h, Option.getD_some]
theorem P4 {ks : List Ty} {i : Nat} (h : i < ks.length) : kt ks i = ks[i] := by unfold kt; rw [List.getD_eq_getElem?_getD, List.getElem?_eq_getElem h, Option.getD_some]
theorem A9g {t : Ty} (h : W7 t = true) : t = V7 t := by
 unfold W7 at h
 rw [Bool.and_eq_true] at h
 exact (A1K _ _).1 h.2
theorem B3O (a b : Tm) (nm : ByteArray) (num : Int) (ty fr : Ty) (lb : Int) (G : IM) (cells : List Value) (hca : cv a) (hr : A8 G (.mk 6 nm num ty fr lb [a, b]) cells) : Fn Tryz.prog 192 [.agg ⟨cells⟩] [] G (S5 (Z0 6 ty fr lb [a, b])) := by
 obtain ⟨ak, anm, anum, ⟨atk, atks⟩, ⟨afk, afks⟩, alb, aks⟩ := a
 obtain ⟨hN, hkk⟩ := hca.node
 have hops := hN.ops
 have hbl := hN.lbB
 have htyA := hN.tyA
 have hfrA := hN.frA
 rw [F4] at htyA hfrA
 have h14 : ak = 14 → aks.length = 1 := fun h => by rw [h] at hops; have : E2 14 = 1 := rfl; omega
 obtain ⟨tk, tks⟩ := ty
 obtain ⟨fk, fks⟩ := fr
 obtain ⟨pt, ct, pf, cf, p, c, es, rfl, hk, hnum, hlb, hty, hfr, hsl, hkl⟩ := hr.open9
 obtain ⟨bx, ox, e0, rfl, hl0, hat0, hre0, hgb0⟩ := hsl.kidTm hkl (i := 0) (by simp) (by simp)
 replace hre0 : A8 G (Tm.mk ak anm anum (.mk atk atks) (.mk afk afks) alb aks) e0 := hre0
 have hP : Fn Tryz.prog 170 [.agg ⟨e0⟩] [] G (I5 (.bool (decide (ak = 14 ∧ afk = atk ∧ (atk = 4 ∨ atk = 5)))) G) := A3f _ G _ hre0
 obtain ⟨apt, act, apf, acf, ap, ac, aes, rfl, hak, hanum, halb, haty, hafr, hasl, hakl⟩ := hre0.open9
 obtain ⟨tes, htS, htL⟩ := haty.kids
 obtain ⟨fes, hfS, hfL⟩ := hafr.kids
 simp only [Ty.ks] at htS htL hfS hfL
 obtain ⟨_, _, e1, hp1, hl1, hat1, hre1, hgb1⟩ := hsl.kidTm hkl (i := 1) (by simp) (by simp)
 cases hp1
 replace hre1 : A8 G b e1 := hre1
 have ho1 := hre1.one
 have hR : Z0 6 (.mk tk tks) (.mk fk fks) lb [Tm.mk ak anm anum (.mk atk atks) (.mk afk afks) alb aks, b] = (if (ak = 14 ∧ afk = atk ∧ (atk = 4 ∨ atk = 5)) ∧ atk = 4 then (L3 (A0r 6 [kd aks 0, L3 b (kt atks 0) (kt afks 0) (-alb)]) (kt afks 1) (kt atks 1) alb, 1, 0) else R9) := by
  unfold Z0
  rw [if_pos rfl, show kd [Tm.mk ak anm anum (.mk atk atks) (.mk afk afks) alb aks, b] 0 = Tm.mk ak anm anum (.mk atk atks) (.mk afk afks) alb aks from rfl, A2I]
  simp only [decide_eq_true_eq]
  rfl
 rw [hR]
 refine C0 Tryz.func192 rfl Tryz.ntmps192 Tryz.results192 rfl ?_
 intro w0
 refine tS (tR ?_)
 refine sE (C5 rfl rfl) rfl (fun b3 => ?_)
 refine sE (A6 rfl) rfl (fun b4 => ?_)
 refine D6 ?_
 refine sP (B3 (j := 0) rfl rfl rfl (by simp)) rfl rfl ?_
 refine sL (A2 rfl rfl (hat0 _) rfl) rfl rfl ?_
 refine sE (A6 rfl) rfl (fun b15 => ?_)
 refine B6 ?_
 refine B8 ?_
 refine B6 ?_
 refine sP (Z5 rfl rfl (by omega)) rfl rfl ?_
 refine D7 ?_
 focus (by_cases hpx : (ak = 14 ∧ afk = atk ∧ (atk = 4 ∨ atk = 5)); rw [decide_eq_true hpx] at hP; rotate_left; rw [decide_eq_false hpx] at hP; rotate_left; all_goals (refine H3 rfl hP rfl rfl ?_))
 refine B0 ?_
 refine sB (qE rfl rfl) rfl rfl (fun h34 => ?_) (fun h34 => ?_)
 refine A7 ?_
 (have hq : (ak = 14 ∧ afk = atk ∧ (atk = 4 ∨ atk = 5)) ∧ atk = 4 := ⟨hpx, by omega⟩; have hq1 := h14 hq.1.1; have hq2 := htyA.1 (by omega); have hq3 := hfrA.1 (by omega); obtain ⟨bq, oq, e3, rfl, hl3, hat3, hre3, hgb3⟩ := hasl.kidTm hakl (i := 0) (by omega) (by omega); have ho3 := hre3.one; obtain ⟨b5, o5, q5, d5, rfl, hat5, hre5, hgb5⟩ := htS.kidTy htL (i := 0) (by omega) (by omega); obtain ⟨_, _, q6, d6, hp6, hat6, hre6, hgb6⟩ := htS.kidTy htL (i := 1) (by omega) (by omega); cases hp6; obtain ⟨b7, o7, q7, d7, rfl, hat7, hre7, hgb7⟩ := hfS.kidTy hfL (i := 0) (by omega) (by omega); obtain ⟨_, _, q8, d8, hp8, hat8, hre8, hgb8⟩ := hfS.kidTy hfL (i := 1) (by omega) (by omega); cases hp8; obtain ⟨x1, x2, x3, x4, x5, x6, x7, x8, x9, rfl⟩ := nine hl3; obtain ⟨y1, y2, y3, y4, y5, y6, y7, y8, y9, rfl⟩ := nine hl1; refine E0 E1 rfl ?_)
 refine I8 (i := 0) (l' := [tt,ff,ff,ff,ff,ff,ff,ff,ff,ff,ff,ff]) rfl D2 (B7 rfl) rfl (by kernel_rfl) rfl rfl ?_
 refine aL 1 rfl (C7 rfl rfl) rfl ?_
 refine aP 2 rfl (B3 (j := 0) rfl rfl rfl (by omega)) rfl ?_
 refine aL 3 rfl (A2 rfl rfl (hat3 _) rfl) rfl ?_
 refine aP 4 rfl (B7 rfl) rfl ?_
 refine aL 5 rfl (C7 rfl rfl) rfl ?_
 refine aP 6 rfl (B3 (j := 1) rfl rfl rfl (by simp)) rfl ?_
 refine aL 7 rfl (A2 rfl rfl (hat1 _) rfl) rfl ?_
 refine R2 (j := 8) (j' := 9) (by kernel_rfl) ?_ ?_
 (refine E6 rfl (A6 rfl) rfl rfl ?_; rintro _ ⟨b51, rfl⟩)
 refine A3 9 ?_
 (refine E6 rfl (A6 rfl) rfl rfl ?_; rintro _ ⟨b53, rfl⟩)
 refine A3 10 ?_
 (refine oS rfl rfl rfl rfl rfl ho3 rfl rfl ?_ (hu := by exact D5 rfl.symm))
 refine A3 11 ?_
 (refine oS rfl rfl rfl rfl rfl ho1 rfl rfl ?_ (hu := by exact D5 rfl.symm))
 refine E8 (nS (tS ?_))
 refine E0 E1 rfl ?_
 refine L7 (i := 0) (l' := [tt,ff,ff,ff,ff,ff,ff,ff,ff,ff,ff,ff,ff,ff,ff,ff,ff,ff,ff,ff,ff,ff,ff,ff,ff,ff,ff,ff,ff,ff,ff,ff,ff,ff]) rfl D2 (A2 rfl rfl (A9 (by repeat first | exact mH | apply mT)) rfl) rfl (by kernel_rfl) rfl rfl ?_
 refine aL 1 rfl (A2 rfl rfl (A9 (by repeat first | exact mH | apply mT)) rfl) rfl ?_
 refine aP 2 rfl (B7 rfl) rfl ?_
 refine aP 3 rfl (qF rfl) rfl ?_
 refine aL 4 rfl (C7 rfl rfl) rfl ?_
 refine aP 5 rfl (B3 (j := 0) rfl rfl rfl (by omega)) rfl ?_
 refine aL 6 rfl (A2 rfl rfl (hat5 _) rfl) rfl ?_
 refine aP 7 rfl (B7 rfl) rfl ?_
 refine aP 8 rfl (qF rfl) rfl ?_
 refine aL 9 rfl (C7 rfl rfl) rfl ?_
 refine aP 10 rfl (B3 (j := 0) rfl rfl rfl (by omega)) rfl ?_
 refine aL 11 rfl (A2 rfl rfl (hat7 _) rfl) rfl ?_
 refine aP 12 rfl (B7 rfl) rfl ?_
 refine aL 13 rfl (C7 rfl rfl) rfl ?_
 refine aP 14 rfl (A4f rfl (by omega) (by omega)) rfl ?_
 refine aP 18 rfl (B7 rfl) rfl ?_
 refine aP 19 rfl (qF rfl) rfl ?_
 refine aL 20 rfl (C7 rfl rfl) rfl ?_
 refine aP 21 rfl (B3 (j := 1) rfl rfl rfl (by omega)) rfl ?_
 refine aL 22 rfl (A2 rfl rfl (hat8 _) rfl) rfl ?_
 refine aP 23 rfl (B7 rfl) rfl ?_
 refine aP 24 rfl (qF rfl) rfl ?_
 refine aL 25 rfl (C7 rfl rfl) rfl ?_
 refine aP 26 rfl (B3 (j := 1) rfl rfl rfl (by omega)) rfl ?_
 refine aL 27 rfl (A2 rfl rfl (hat6 _) rfl) rfl ?_
 refine aP 28 rfl (B7 rfl) rfl ?_
 refine aL 29 rfl (C7 rfl rfl) rfl ?_
 refine A3 15 ?_
 (refine H1 rfl rfl (A1s b atks[0] afks[0] (-alb) G _ _ _ ⟨by omega, by omega⟩ hre1 hre5 hre7) rfl rfl rfl (fun u G1 hle1 hh => ?_); obtain ⟨uc, rfl, hru⟩ := hh; have hul := hru.len; have huo := hru.one; obtain ⟨z1, z2, z3, z4, z5, z6, z7, z8, z9, rfl⟩ := nine hul; replace hre3 := hre3.mono hle1; replace hre6 := hre6.mono hle1; replace hre8 := hre8.mono hle1)
 refine A3 16 ?_
 (refine E6 rfl (C9 rfl rfl rfl (by omega) (by unfold maxLen; omega) rfl) rfl rfl ?_; rintro _ ⟨b92, rfl⟩)
 refine A3 17 ?_
 (refine A1d (cs := [x1, x2, x3, x4, x5, x6, x7, x8, x9, z1, z2, z3, z4, z5, z6, z7, z8, z9]) (by repeat (first | exact Pk.here | apply Pk.there)) (fun G2 hle2 hsl2 hno2 => ?_); have hrN := A0T (k := 6) (ks := [aks[0], L3 b atks[0] afks[0] (-alb)]) (es := [[x1, x2, x3, x4, x5, x6, x7, x8, x9], [z1, z2, z3, z4, z5, z6, z7, z8, z9]]) ⟨by decide, by decide⟩ rfl (D1.of hsl2 rfl (by simp) (by intro x hx; rcases List.mem_cons.1 hx with rfl | hx; exact ho3; obtain rfl := List.mem_singleton.1 hx; exact huo)) (by simp only [C6]; exact ⟨_, _, rfl, hre3.mono hle2, _, _, rfl, hru.mono hle2, rfl⟩); replace hre6 := hre6.mono hle2; replace hre8 := hre8.mono hle2; refine O2 rfl rfl (A3h _ _ _ _ _) rfl rfl rfl ?_)
 refine A3 30 ?_
 (refine H1 rfl rfl (A1s _ afks[1] atks[1] alb G2 _ _ _ ⟨by omega, by omega⟩ hrN hre8 hre6) rfl rfl rfl (fun u G3 hle3 hh => ?_); obtain ⟨wc, rfl, hrw⟩ := hh; have hwl := hrw.len; have hwo := hrw.one)
 refine A3 31 ?_
 (refine oS rfl rfl rfl rfl hwl hwo rfl rfl ?_ (hu := by exact D5 hwl.symm))
 refine aP 32 rfl (qA rfl) rfl ?_
 refine aP 33 rfl (qA rfl) rfl ?_
 refine B0 ?_
 refine D9 (rC rfl (A2 rfl rfl (A9 (by repeat first | exact mH | apply mT)) hwl)) (rT rfl) (rT rfl) ?_
 (exact S5.mk (by rw [if_pos hq, A0u (by omega), P4 (by omega), P4 (by omega), P4 (by omega), P4 (by omega)]) hrw)
 (refine E6 rfl (A6 rfl) rfl rfl ?_; rintro _ ⟨b108, rfl⟩)
 refine A3 8 ?_
 (refine E6 rfl (A6 rfl) rfl rfl ?_; rintro _ ⟨b110, rfl⟩)
 refine A3 10 ?_
 (refine oS rfl rfl rfl rfl rfl ho3 rfl rfl ?_ (hu := by exact D5 rfl.symm))
 refine A3 11 ?_
 (refine oS rfl rfl rfl rfl rfl ho1 rfl rfl ?_ (hu := by exact D5 rfl.symm))
 refine E8 (nS (tS ?_))
 refine E0 E1 rfl ?_
 refine L7 (i := 0) (l' := [tt,ff,ff,ff,ff,ff,ff,ff,ff,ff,ff,ff,ff,ff,ff,ff,ff,ff,ff,ff,ff,ff,ff,ff,ff,ff,ff,ff,ff,ff,ff,ff,ff,ff]) rfl D2 (A2 rfl rfl (A9 (by repeat first | exact mH | apply mT)) rfl) rfl (by kernel_rfl) rfl rfl ?_
 refine aL 1 rfl (A2 rfl rfl (A9 (by repeat first | exact mH | apply mT)) rfl) rfl ?_
 refine aP 2 rfl (B7 rfl) rfl ?_
 refine aP 3 rfl (qF rfl) rfl ?_
 refine aL 4 rfl (C7 rfl rfl) rfl ?_
 refine aP 5 rfl (B3 (j := 0) rfl rfl rfl (by omega)) rfl ?_
 refine aL 6 rfl (A2 rfl rfl (hat5 _) rfl) rfl ?_
 refine aP 7 rfl (B7 rfl) rfl ?_
 refine aP 8 rfl (qF rfl) rfl ?_
 refine aL 9 rfl (C7 rfl rfl) rfl ?_
 refine aP 10 rfl (B3 (j := 0) rfl rfl rfl (by omega)) rfl ?_
 refine aL 11 rfl (A2 rfl rfl (hat7 _) rfl) rfl ?_
 refine aP 12 rfl (B7 rfl) rfl ?_
 refine aL 13 rfl (C7 rfl rfl) rfl ?_
 refine aP 14 rfl (A4f rfl (by omega) (by omega)) rfl ?_
 refine aP 18 rfl (B7 rfl) rfl ?_
 refine aP 19 rfl (qF rfl) rfl ?_
 refine aL 20 rfl (C7 rfl rfl) rfl ?_
 refine aP 21 rfl (B3 (j := 1) rfl rfl rfl (by omega)) rfl ?_
 refine aL 22 rfl (A2 rfl rfl (hat8 _) rfl) rfl ?_
 refine aP 23 rfl (B7 rfl) rfl ?_
 refine aP 24 rfl (qF rfl) rfl ?_
 refine aL 25 rfl (C7 rfl rfl) rfl ?_
 refine aP 26 rfl (B3 (j := 1) rfl rfl rfl (by omega)) rfl ?_
 refine aL 27 rfl (A2 rfl rfl (hat6 _) rfl) rfl ?_
 refine aP 28 rfl (B7 rfl) rfl ?_
 refine aL 29 rfl (C7 rfl rfl) rfl ?_
 refine A3 15 ?_
 (refine H1 rfl rfl (A1s b atks[0] afks[0] (-alb) G _ _ _ ⟨by omega, by omega⟩ hre1 hre5 hre7) rfl rfl rfl (fun u G1 hle1 hh => ?_); obtain ⟨uc, rfl, hru⟩ := hh; have hul := hru.len; have huo := hru.one; obtain ⟨z1, z2, z3, z4, z5, z6, z7, z8, z9, rfl⟩ := nine hul; replace hre3 := hre3.mono hle1; replace hre6 := hre6.mono hle1; replace hre8 := hre8.mono hle1)
 refine A3 16 ?_
 (refine E6 rfl (C9 rfl rfl rfl (by omega) (by unfold maxLen; omega) rfl) rfl rfl ?_; rintro _ ⟨b149, rfl⟩)
 refine A3 17 ?_
 (refine A1d (cs := [x1, x2, x3, x4, x5, x6, x7, x8, x9, z1, z2, z3, z4, z5, z6, z7, z8, z9]) (by repeat (first | exact Pk.here | apply Pk.there)) (fun G2 hle2 hsl2 hno2 => ?_); have hrN := A0T (k := 6) (ks := [aks[0], L3 b atks[0] afks[0] (-alb)]) (es := [[x1, x2, x3, x4, x5, x6, x7, x8, x9], [z1, z2, z3, z4, z5, z6, z7, z8, z9]]) ⟨by decide, by decide⟩ rfl (D1.of hsl2 rfl (by simp) (by intro x hx; rcases List.mem_cons.1 hx with rfl | hx; exact ho3; obtain rfl := List.mem_singleton.1 hx; exact huo)) (by simp only [C6]; exact ⟨_, _, rfl, hre3.mono hle2, _, _, rfl, hru.mono hle2, rfl⟩); replace hre6 := hre6.mono hle2; replace hre8 := hre8.mono hle2; refine O2 rfl rfl (A3h _ _ _ _ _) rfl rfl rfl ?_)
 refine A3 30 ?_
 (refine H1 rfl rfl (A1s _ afks[1] atks[1] alb G2 _ _ _ ⟨by omega, by omega⟩ hrN hre8 hre6) rfl rfl rfl (fun u G3 hle3 hh => ?_); obtain ⟨wc, rfl, hrw⟩ := hh; have hwl := hrw.len; have hwo := hrw.one)
 refine A3 31 ?_
 (refine oS rfl rfl rfl rfl hwl hwo rfl rfl ?_ (hu := by exact D5 hwl.symm))
 refine aP 32 rfl (qA rfl) rfl ?_
 refine aP 33 rfl (qA rfl) rfl ?_
 refine B0 ?_
 refine D9 (rC rfl (A2 rfl rfl (A9 (by repeat first | exact mH | apply mT)) hwl)) (rT rfl) (rT rfl) ?_
 (exact S5.mk (by rw [if_pos hq, A0u (by omega), P4 (by omega), P4 (by omega), P4 (by omega), P4 (by omega)]) hrw)
 refine E4 ?_
 refine sP (J3 rfl rfl (by omega)) rfl rfl ?_
 refine E3 ?_
 refine sP (J3 rfl rfl (by omega)) rfl rfl ?_
 refine A0m ?_
 refine sP (A0y rfl rfl (by omega)) rfl rfl ?_
 refine I6 ?_
 refine D9 (rC rfl (A4 rfl rfl)) (rT rfl) (rT rfl) ?_
 (exact S5.mk (by rw [if_neg (by omega)]; rfl) (M8 _))
 refine I6 ?_
 refine sP (J3 rfl rfl (by omega)) rfl rfl ?_
 refine E3 ?_
 refine sP (J3 rfl rfl (by omega)) rfl rfl ?_
 refine A0m ?_
 refine sP (A0y rfl rfl (by omega)) rfl rfl ?_
 refine I6 ?_
 refine D9 (rC rfl (A4 rfl rfl)) (rT rfl) (rT rfl) ?_
 (exact S5.mk (by rw [if_neg (by omega)]; rfl) (M8 _))
theorem A9h (k : Int) (a : Tm) (nm : ByteArray) (num : Int) (ty fr : Ty) (lb : Int) (G : IM) (cells : List Value) (hk1 : k = 11 ∨ k = 12) (hca : cv a) (hr : A8 G (.mk k nm num ty fr lb [a]) cells) : Fn Tryz.prog 192 [.agg ⟨cells⟩] [] G (S5 (Z0 k ty fr lb [a])) := by
 obtain ⟨ak, anm, anum, ⟨atk, atks⟩, ⟨afk, afks⟩, alb, aks⟩ := a
 obtain ⟨hN, hkk⟩ := hca.node
 have hops := hN.ops
 have hbl := hN.lbB
 have htyA := hN.tyA
 have hfrA := hN.frA
 rw [F4] at htyA hfrA
 have h14 : ak = 14 → aks.length = 1 := fun h => by rw [h] at hops; have : E2 14 = 1 := rfl; omega
 obtain ⟨tk, tks⟩ := ty
 obtain ⟨fk, fks⟩ := fr
 obtain ⟨pt, ct, pf, cf, p, c, es, rfl, hk, hnum, hlb, hty, hfr, hsl, hkl⟩ := hr.open9
 obtain ⟨bx, ox, e0, rfl, hl0, hat0, hre0, hgb0⟩ := hsl.kidTm hkl (i := 0) (by simp) (by simp)
 replace hre0 : A8 G (Tm.mk ak anm anum (.mk atk atks) (.mk afk afks) alb aks) e0 := hre0
 have hP : Fn Tryz.prog 170 [.agg ⟨e0⟩] [] G (I5 (.bool (decide (ak = 14 ∧ afk = atk ∧ (atk = 4 ∨ atk = 5)))) G) := A3f _ G _ hre0
 have hI := A3W _ G _ hre0
 have ho0 := hre0.one
 obtain ⟨apt, act, apf, acf, ap, ac, aes, rfl, hak, hanum, halb, haty, hafr, hasl, hakl⟩ := hre0.open9
 have hfk64 : F8 fk := by obtain ⟨_, _, _, _, h, _⟩ := hfr.open; exact h
 have htk64 : F8 tk := by obtain ⟨_, _, _, _, h, _⟩ := hty.open; exact h
 obtain ⟨tes, htS, htL⟩ := haty.kids
 obtain ⟨fes, hfS, hfL⟩ := hafr.kids
 simp only [Ty.ks] at htS htL hfS hfL
 obtain ⟨i, hi⟩ : ∃ i : Nat, (k - 11).toNat = i := ⟨_, rfl⟩
 have hR : Z0 k (.mk tk tks) (.mk fk fks) lb [Tm.mk ak anm anum (.mk atk atks) (.mk afk afks) alb aks] = (if (ak = 14 ∧ afk = atk ∧ (atk = 4 ∨ atk = 5)) ∧ atk = 5 then (L3 (A0r k [kd aks 0]) (kt afks i) (kt atks i) alb, 1, 0) else R9) := by
  unfold Z0
  rw [if_neg (by omega), if_pos hk1, hi, show kd [Tm.mk ak anm anum (.mk atk atks) (.mk afk afks) alb aks] 0 = Tm.mk ak anm anum (.mk atk atks) (.mk afk afks) alb aks from rfl, A2I]
  simp only [decide_eq_true_eq]
  rfl
 rw [hR]
 refine C0 Tryz.func192 rfl Tryz.ntmps192 Tryz.results192 rfl ?_
 intro w0
 refine tS (tR ?_)
 refine sE (C5 rfl rfl) rfl (fun b3 => ?_)
 refine sE (A6 rfl) rfl (fun b4 => ?_)
 refine D6 ?_
 refine sP (B3 (j := 0) rfl rfl rfl (by simp)) rfl rfl ?_
 refine sL (A2 rfl rfl (hat0 _) rfl) rfl rfl ?_
 refine sE (A6 rfl) rfl (fun b15 => ?_)
 refine B6 ?_
 refine B8 ?_
 refine B6 ?_
 refine sP (J3 rfl rfl (by omega)) rfl rfl ?_
 refine U4 ?_
 refine sB (qE rfl rfl) rfl rfl (fun h44 => ?_) (fun h44 => ?_)
 refine B4 ?_
 focus (by_cases hpx : (ak = 14 ∧ afk = atk ∧ (atk = 4 ∨ atk = 5)); rw [decide_eq_true hpx] at hP; rotate_left; rw [decide_eq_false hpx] at hP; rotate_left; all_goals (refine H3 rfl hP rfl rfl ?_))
 refine B0 ?_
 refine sB (qE rfl rfl) rfl rfl (fun h58 => ?_) (fun h58 => ?_)
 refine E4 ?_
 refine sP (P2 rfl rfl (by omega) (by omega)) rfl rfl ?_
 refine B6 ?_
 (have hq : (ak = 14 ∧ afk = atk ∧ (atk = 4 ∨ atk = 5)) ∧ atk = 5 := ⟨hpx, by omega⟩; have hq1 := h14 hq.1.1; have hq2 := htyA.1 (by omega); have hq3 := hfrA.1 (by omega); rw [show (k - 11 : Int) = ((i : Nat) : Int) from (by omega)]; obtain ⟨bq, oq, e3, rfl, hl3, hat3, hre3, hgb3⟩ := hasl.kidTm hakl (i := 0) (by omega) (by omega); have ho3 := hre3.one; obtain ⟨b5, o5, q5, d5, rfl, hat5, hre5, hgb5⟩ := htS.kidTy htL (i := i) (by omega) (by omega); obtain ⟨b7, o7, q7, d7, rfl, hat7, hre7, hgb7⟩ := hfS.kidTy hfL (i := i) (by omega) (by omega); obtain ⟨x1, x2, x3, x4, x5, x6, x7, x8, x9, rfl⟩ := nine hl3; refine E0 E1 rfl ?_)
 refine I8 (i := 0) (l' := [tt,ff,ff,ff,ff,ff,ff,ff,ff,ff,ff,ff,ff,ff,ff,ff,ff,ff,ff,ff,ff,ff,ff,ff,ff,ff]) rfl D2 (B7 rfl) rfl (by kernel_rfl) rfl rfl ?_
 refine aL 1 rfl (C7 rfl rfl) rfl ?_
 refine aP 2 rfl (B7 rfl) rfl ?_
 refine aL 3 rfl (C7 rfl rfl) rfl ?_
 refine aP 4 rfl (B3 (j := 0) rfl rfl rfl (by omega)) rfl ?_
 refine aL 5 rfl (A2 rfl rfl (hat3 _) rfl) rfl ?_
 refine aP 8 rfl (B7 rfl) rfl ?_
 refine aP 9 rfl (qF rfl) rfl ?_
 refine aL 10 rfl (C7 rfl rfl) rfl ?_
 refine aP 11 rfl (qM rfl) rfl ?_
 refine aP 12 rfl (B3 (j := i) rfl rfl rfl (by omega)) rfl ?_
 refine aL 13 rfl (A2 rfl rfl (hat7 _) rfl) rfl ?_
 refine aP 14 rfl (B7 rfl) rfl ?_
 refine aP 15 rfl (qF rfl) rfl ?_
 refine aL 16 rfl (C7 rfl rfl) rfl ?_
 refine aP 17 rfl (qM rfl) rfl ?_
 refine aP 18 rfl (B3 (j := i) rfl rfl rfl (by omega)) rfl ?_
 refine aL 19 rfl (A2 rfl rfl (hat5 _) rfl) rfl ?_
 refine aP 20 rfl (B7 rfl) rfl ?_
 refine aL 21 rfl (C7 rfl rfl) rfl ?_
 refine A3 6 ?_
 (refine E6 rfl (C9 rfl rfl rfl (by omega) (by unfold maxLen; omega) rfl) rfl rfl ?_; rintro _ ⟨b95, rfl⟩)
 refine A3 7 ?_
 (refine A1d (cs := [x1, x2, x3, x4, x5, x6, x7, x8, x9]) (by repeat (first | exact Pk.here | apply Pk.there)) (fun G2 hle2 hsl2 hno2 => ?_); have hrN := A0T (k := k) (ks := [aks[0]]) (es := [[x1, x2, x3, x4, x5, x6, x7, x8, x9]]) hk rfl (D1.of hsl2 rfl (by simp) (by intro x hx; obtain rfl := List.mem_singleton.1 hx; exact ho3)) (by simp only [C6]; exact ⟨_, _, rfl, hre3.mono hle2, rfl⟩); replace hre5 := hre5.mono hle2; replace hre7 := hre7.mono hle2; refine O2 rfl rfl (A3h _ _ _ _ _) rfl rfl rfl ?_)
 refine A3 22 ?_
 (refine H1 rfl rfl (A1s _ afks[i] atks[i] alb G2 _ _ _ ⟨by omega, by omega⟩ hrN hre7 hre5) rfl rfl rfl (fun u G3 hle3 hh => ?_); obtain ⟨wc, rfl, hrw⟩ := hh; have hwl := hrw.len; have hwo := hrw.one)
 refine A3 23 ?_
 (refine oS rfl rfl rfl rfl hwl hwo rfl rfl ?_ (hu := by exact D5 hwl.symm))
 refine aP 24 rfl (qA rfl) rfl ?_
 refine aP 25 rfl (qA rfl) rfl ?_
 refine B0 ?_
 refine D9 (rC rfl (A2 rfl rfl (A9 (by repeat first | exact mH | apply mT)) hwl)) (rT rfl) (rT rfl) ?_
 (exact S5.mk (by rw [if_pos hq, A0u (by omega), P4 (by omega), P4 (by omega)]) hrw)
 refine E4 ?_
 refine sP (A0y rfl rfl (by omega)) rfl rfl ?_
 refine I6 ?_
 refine D9 (rC rfl (A4 rfl rfl)) (rT rfl) (rT rfl) ?_
 (exact S5.mk (by rw [if_neg (by omega)]; rfl) (M8 _))
 refine I6 ?_
 refine sP (A0y rfl rfl (by omega)) rfl rfl ?_
 refine I6 ?_
 refine D9 (rC rfl (A4 rfl rfl)) (rT rfl) (rT rfl) ?_
 (exact S5.mk (by rw [if_neg (by omega)]; rfl) (M8 _))
 refine E3 ?_
 refine sP (Z5 rfl rfl (by omega)) rfl rfl ?_
 refine E3 ?_
 focus (by_cases hpx : (ak = 14 ∧ afk = atk ∧ (atk = 4 ∨ atk = 5)); rw [decide_eq_true hpx] at hP; rotate_left; rw [decide_eq_false hpx] at hP; rotate_left; all_goals (refine H3 rfl hP rfl rfl ?_))
 refine B0 ?_
 refine sB (qE rfl rfl) rfl rfl (fun h184 => ?_) (fun h184 => ?_)
 refine E4 ?_
 refine sP (P2 rfl rfl (by omega) (by omega)) rfl rfl ?_
 refine B6 ?_
 (have hq : (ak = 14 ∧ afk = atk ∧ (atk = 4 ∨ atk = 5)) ∧ atk = 5 := ⟨hpx, by omega⟩; have hq1 := h14 hq.1.1; have hq2 := htyA.1 (by omega); have hq3 := hfrA.1 (by omega); rw [show (k - 11 : Int) = ((i : Nat) : Int) from (by omega)]; obtain ⟨bq, oq, e3, rfl, hl3, hat3, hre3, hgb3⟩ := hasl.kidTm hakl (i := 0) (by omega) (by omega); have ho3 := hre3.one; obtain ⟨b5, o5, q5, d5, rfl, hat5, hre5, hgb5⟩ := htS.kidTy htL (i := i) (by omega) (by omega); obtain ⟨b7, o7, q7, d7, rfl, hat7, hre7, hgb7⟩ := hfS.kidTy hfL (i := i) (by omega) (by omega); obtain ⟨x1, x2, x3, x4, x5, x6, x7, x8, x9, rfl⟩ := nine hl3; refine E0 E1 rfl ?_)
 refine I8 (i := 0) (l' := [tt,ff,ff,ff,ff,ff,ff,ff,ff,ff,ff,ff,ff,ff,ff,ff,ff,ff,ff,ff,ff,ff,ff,ff,ff,ff]) rfl D2 (B7 rfl) rfl (by kernel_rfl) rfl rfl ?_
 refine aL 1 rfl (C7 rfl rfl) rfl ?_
 refine aP 2 rfl (B7 rfl) rfl ?_
 refine aL 3 rfl (C7 rfl rfl) rfl ?_
 refine aP 4 rfl (B3 (j := 0) rfl rfl rfl (by omega)) rfl ?_
 refine aL 5 rfl (A2 rfl rfl (hat3 _) rfl) rfl ?_
 refine aP 8 rfl (B7 rfl) rfl ?_
 refine aP 9 rfl (qF rfl) rfl ?_
 refine aL 10 rfl (C7 rfl rfl) rfl ?_
 refine aP 11 rfl (qM rfl) rfl ?_
 refine aP 12 rfl (B3 (j := i) rfl rfl rfl (by omega)) rfl ?_
 refine aL 13 rfl (A2 rfl rfl (hat7 _) rfl) rfl ?_
 refine aP 14 rfl (B7 rfl) rfl ?_
 refine aP 15 rfl (qF rfl) rfl ?_
 refine aL 16 rfl (C7 rfl rfl) rfl ?_
 refine aP 17 rfl (qM rfl) rfl ?_
 refine aP 18 rfl (B3 (j := i) rfl rfl rfl (by omega)) rfl ?_
 refine aL 19 rfl (A2 rfl rfl (hat5 _) rfl) rfl ?_
 refine aP 20 rfl (B7 rfl) rfl ?_
 refine aL 21 rfl (C7 rfl rfl) rfl ?_
 refine A3 6 ?_
 (refine E6 rfl (C9 rfl rfl rfl (by omega) (by unfold maxLen; omega) rfl) rfl rfl ?_; rintro _ ⟨b221, rfl⟩)
 refine A3 7 ?_
 (refine A1d (cs := [x1, x2, x3, x4, x5, x6, x7, x8, x9]) (by repeat (first | exact Pk.here | apply Pk.there)) (fun G2 hle2 hsl2 hno2 => ?_); have hrN := A0T (k := k) (ks := [aks[0]]) (es := [[x1, x2, x3, x4, x5, x6, x7, x8, x9]]) hk rfl (D1.of hsl2 rfl (by simp) (by intro x hx; obtain rfl := List.mem_singleton.1 hx; exact ho3)) (by simp only [C6]; exact ⟨_, _, rfl, hre3.mono hle2, rfl⟩); replace hre5 := hre5.mono hle2; replace hre7 := hre7.mono hle2; refine O2 rfl rfl (A3h _ _ _ _ _) rfl rfl rfl ?_)
 refine A3 22 ?_
 (refine H1 rfl rfl (A1s _ afks[i] atks[i] alb G2 _ _ _ ⟨by omega, by omega⟩ hrN hre7 hre5) rfl rfl rfl (fun u G3 hle3 hh => ?_); obtain ⟨wc, rfl, hrw⟩ := hh; have hwl := hrw.len; have hwo := hrw.one)
 refine A3 23 ?_
 (refine oS rfl rfl rfl rfl hwl hwo rfl rfl ?_ (hu := by exact D5 hwl.symm))
 refine aP 24 rfl (qA rfl) rfl ?_
 refine aP 25 rfl (qA rfl) rfl ?_
 refine B0 ?_
 refine D9 (rC rfl (A2 rfl rfl (A9 (by repeat first | exact mH | apply mT)) hwl)) (rT rfl) (rT rfl) ?_
 (exact S5.mk (by rw [if_pos hq, A0u (by omega), P4 (by omega), P4 (by omega)]) hrw)
 refine E4 ?_
 refine sP (A0y rfl rfl (by omega)) rfl rfl ?_
 refine I6 ?_
 refine D9 (rC rfl (A4 rfl rfl)) (rT rfl) (rT rfl) ?_
 (exact S5.mk (by rw [if_neg (by omega)]; rfl) (M8 _))
 refine I6 ?_
 refine sP (A0y rfl rfl (by omega)) rfl rfl ?_
 refine I6 ?_
 refine D9 (rC rfl (A4 rfl rfl)) (rT rfl) (rT rfl) ?_
 (exact S5.mk (by rw [if_neg (by omega)]; rfl) (M8 _))
theorem A6s {t : Tm} (h : inj t = true) : t.k = 14 := by
 unfold inj at h
 simp only [Bool.and_eq_true, decide_eq_true_eq] at h
 exact h.1.1
theorem B3P {t u : Ty} (h : W7 t = true) (h' : W7 u = true) : N0 t u = decide (t.k = u.k) := by
 have e1 := A9g h
 have e2 := A9g h'
 by_cases hk : t.k = u.k
 ·rw [decide_eq_true hk, A1K, e1, e2]
  unfold V7; rw [hk]
 ·rw [decide_eq_false hk]
  cases hs : N0 t u with
  | false => rfl
  | true => exact absurd (congrArg Ty.k ((A1K _ _).1 hs)) hk
theorem A9i {t : Tm} (h : inj t = true) : W7 t.fr = true := by
 unfold inj at h
 rw [Bool.and_eq_true] at h
 exact h.2
theorem B3Q (a : Tm) (nm : ByteArray) (num : Int) (ty fr : Ty) (lb : Int) (G : IM) (cells : List Value) (hca : cv a) (hlb9 : -99 ≤ lb ∧ lb ≤ 99) (hr : A8 G (.mk 14 nm num ty fr lb [a]) cells) : Fn Tryz.prog 192 [.agg ⟨cells⟩] [] G (S5 (Z0 14 ty fr lb [a])) := by
 have hji := @A9i a
 have hjk := @A6s a
 obtain ⟨ak, anm, anum, ⟨atk, atks⟩, ⟨afk, afks⟩, alb, aks⟩ := a
 obtain ⟨hN, hkk⟩ := hca.node
 have hops := hN.ops
 have hbl := hN.lbB
 have htyA := hN.tyA
 have hfrA := hN.frA
 rw [F4] at htyA hfrA
 have h14 : ak = 14 → aks.length = 1 := fun h => by rw [h] at hops; have : E2 14 = 1 := rfl; omega
 obtain ⟨tk, tks⟩ := ty
 obtain ⟨fk, fks⟩ := fr
 obtain ⟨pt, ct, pf, cf, p, c, es, rfl, hk, hnum, hlb, hty, hfr, hsl, hkl⟩ := hr.open9
 obtain ⟨bx, ox, e0, rfl, hl0, hat0, hre0, hgb0⟩ := hsl.kidTm hkl (i := 0) (by simp) (by simp)
 replace hre0 : A8 G (Tm.mk ak anm anum (.mk atk atks) (.mk afk afks) alb aks) e0 := hre0
 have hP : Fn Tryz.prog 170 [.agg ⟨e0⟩] [] G (I5 (.bool (decide (ak = 14 ∧ afk = atk ∧ (atk = 4 ∨ atk = 5)))) G) := A3f _ G _ hre0
 have hI := A3W _ G _ hre0
 have ho0 := hre0.one
 obtain ⟨apt, act, apf, acf, ap, ac, aes, rfl, hak, hanum, halb, haty, hafr, hasl, hakl⟩ := hre0.open9
 have hfk64 : F8 fk := by obtain ⟨_, _, _, _, h, _⟩ := hfr.open; exact h
 have htk64 : F8 tk := by obtain ⟨_, _, _, _, h, _⟩ := hty.open; exact h
 obtain ⟨tes, htS, htL⟩ := haty.kids
 obtain ⟨fes, hfS, hfL⟩ := hafr.kids
 simp only [Ty.ks] at htS htL hfS hfL
 obtain ⟨J, hJ⟩ : ∃ J, inj (Tm.mk ak anm anum (.mk atk atks) (.mk afk afks) alb aks) = J := ⟨_, rfl⟩
 obtain ⟨D, hD⟩ : ∃ D, W7 (.mk tk tks) = D := ⟨_, rfl⟩
 have hGr := A87 _ G _ hty
 rw [hD] at hGr
 rw [hJ] at hI hji hjk
 have hR : Z0 14 (.mk tk tks) (.mk fk fks) lb [Tm.mk ak anm anum (.mk atk atks) (.mk afk afks) alb aks] = (if fk = tk then (Tm.mk ak anm anum (.mk atk atks) (.mk afk afks) alb aks, 1, 0)
   else if tk = 1 then (L3 (L3 (Tm.mk ak anm anum (.mk atk atks) (.mk afk afks) alb aks) (.mk fk fks) (mGk fk) lb) (mGk fk) (.mk tk tks) lb, 1, 0)
   else if D = false then (L3 (L3 (Tm.mk ak anm anum (.mk atk atks) (.mk afk afks) alb aks) (.mk fk fks) (mGk tk) lb) (mGk tk) (.mk tk tks) lb, 1, 0)
   else if J = false then R9
   else if afk = tk then (kd aks 0, 1, 0)
   else (K1, 2, lb)) := by
  rw [← hJ, ← hD]; rfl
 rw [hR]
 have hSm : J = true → D = true → N0 (.mk afk afks) (.mk tk tks) = decide (afk = tk) := fun h1 h2 => B3P (hji h1) (hD.trans h2)
 have hTS := A6g (.mk afk afks) (.mk tk tks) G _ _ hafr hty
 refine C0 Tryz.func192 rfl Tryz.ntmps192 Tryz.results192 rfl ?_
 intro w0
 refine tS (tR ?_)
 refine sE (C5 rfl rfl) rfl (fun b3 => ?_)
 refine sE (A6 rfl) rfl (fun b4 => ?_)
 refine D6 ?_
 refine sP (B3 (j := 0) rfl rfl rfl (by simp)) rfl rfl ?_
 refine sL (A2 rfl rfl (hat0 _) rfl) rfl rfl ?_
 refine sE (A6 rfl) rfl (fun b15 => ?_)
 refine B6 ?_
 refine B8 ?_
 refine B6 ?_
 refine sP (J3 rfl rfl (by omega)) rfl rfl ?_
 refine U4 ?_
 refine sP (J3 rfl rfl (by omega)) rfl rfl ?_
 refine E3 ?_
 refine sP (J3 rfl rfl (by omega)) rfl rfl ?_
 refine A0m ?_
 refine sP (A1D rfl rfl (by omega)) rfl rfl ?_
 refine K8 ?_
 refine sB (qE rfl rfl) rfl rfl (fun h81 => ?_) (fun h81 => ?_)
 refine I6 ?_
 refine D9 (rC rfl (A4 rfl rfl)) (rT rfl) (rT rfl) ?_
 (exact S5.mk (by rw [if_pos (by omega)]) hre0)
 refine E4 ?_
 refine sB (qE rfl rfl) rfl rfl (fun h108 => ?_) (fun h108 => ?_)
 refine E4 ?_
 (refine D8 rfl (A6r fk G hfk64) rfl rfl (fun u G1 hle1 hh => ?_); obtain ⟨gc, rfl, hrg⟩ := hh; obtain ⟨pg, cg, eg, rfl, _⟩ := hrg.open; have hgk : tk = 1 := (by omega); replace hre0 := hre0.mono hle1; replace hfr := hfr.mono hle1; replace hty := hty.mono hle1)
 refine sE (A6 rfl) rfl (fun b119 => ?_)
 refine B6 ?_
 refine E0 E1 rfl ?_
 refine L7 (i := 0) (l' := [tt,ff,ff,ff,ff,ff,ff,ff,ff,ff,ff,ff,ff,ff,ff,ff]) rfl D2 (A2 rfl rfl (A9 (by repeat first | exact mH | apply mT)) rfl) rfl (by kernel_rfl) rfl rfl ?_
 refine aL 3 rfl (A2 rfl rfl (A9 (by repeat first | exact mH | apply mT)) rfl) rfl ?_
 refine aL 7 rfl (A2 rfl rfl (A9 (by repeat first | exact mH | apply mT)) rfl) rfl ?_
 refine aP 1 rfl (B7 rfl) rfl ?_
 refine aL 2 rfl (A4 rfl rfl) rfl ?_
 refine aP 4 rfl (B7 rfl) rfl ?_
 refine aL 5 rfl (C7 rfl rfl) rfl ?_
 refine aP 8 rfl (B7 rfl) rfl ?_
 refine aL 9 rfl (A4 rfl rfl) rfl ?_
 refine aP 10 rfl (B7 rfl) rfl ?_
 refine aL 11 rfl (C7 rfl rfl) rfl ?_
 refine A3 6 ?_
 (refine H1 rfl rfl (A1s _ (.mk fk fks) _ lb G1 _ _ _ ⟨by omega, by omega⟩ hre0 hfr hrg) rfl rfl rfl (fun u G3 hle3 hh => ?_); obtain ⟨wc, rfl, hrw⟩ := hh; have hwl := hrw.len; have hwo := hrw.one; replace hrg := hrg.mono hle3; replace hty := hty.mono hle3)
 refine A3 12 ?_
 (refine H1 rfl rfl (A1s _ _ (.mk tk tks) lb G3 _ _ _ ⟨by omega, by omega⟩ hrw hrg hty) rfl rfl rfl (fun u G4 hle4 hh => ?_); obtain ⟨xc, rfl, hrx⟩ := hh; have hxl := hrx.len; have hxo := hrx.one)
 refine A3 13 ?_
 (refine oS rfl rfl rfl rfl hxl hxo rfl rfl ?_ (hu := by exact D5 hxl.symm))
 refine aP 14 rfl (qA rfl) rfl ?_
 refine aP 15 rfl (qA rfl) rfl ?_
 refine B0 ?_
 refine D9 (rC rfl (A2 rfl rfl (A9 (by repeat first | exact mH | apply mT)) hxl)) (rT rfl) (rT rfl) ?_
 (exact S5.mk (by rw [if_neg (by omega), if_pos (by omega)]) hrx)
 refine D6 ?_
 focus (cases hDD : D; all_goals (rw [hDD] at hGr; refine H3 rfl hGr rfl rfl ?_))
 refine J5 ?_
 (refine D8 rfl (A6r tk G htk64) rfl rfl (fun u G1 hle1 hh => ?_); obtain ⟨gc, rfl, hrg⟩ := hh; obtain ⟨pg, cg, eg, rfl, _⟩ := hrg.open; replace hre0 := hre0.mono hle1; replace hfr := hfr.mono hle1; replace hty := hty.mono hle1)
 refine sE (A6 rfl) rfl (fun b171 => ?_)
 refine B6 ?_
 refine E0 E1 rfl ?_
 refine L7 (i := 0) (l' := [tt,ff,ff,ff,ff,ff,ff,ff,ff,ff,ff,ff,ff,ff,ff,ff]) rfl D2 (A2 rfl rfl (A9 (by repeat first | exact mH | apply mT)) rfl) rfl (by kernel_rfl) rfl rfl ?_
 refine aL 3 rfl (A2 rfl rfl (A9 (by repeat first | exact mH | apply mT)) rfl) rfl ?_
 refine aL 7 rfl (A2 rfl rfl (A9 (by repeat first | exact mH | apply mT)) rfl) rfl ?_
 refine aP 1 rfl (B7 rfl) rfl ?_
 refine aL 2 rfl (A4 rfl rfl) rfl ?_
 refine aP 4 rfl (B7 rfl) rfl ?_
 refine aL 5 rfl (C7 rfl rfl) rfl ?_
 refine aP 8 rfl (B7 rfl) rfl ?_
 refine aL 9 rfl (A4 rfl rfl) rfl ?_
 refine aP 10 rfl (B7 rfl) rfl ?_
 refine aL 11 rfl (C7 rfl rfl) rfl ?_
 refine A3 6 ?_
 (refine H1 rfl rfl (A1s _ (.mk fk fks) _ lb G1 _ _ _ ⟨by omega, by omega⟩ hre0 hfr hrg) rfl rfl rfl (fun u G3 hle3 hh => ?_); obtain ⟨wc, rfl, hrw⟩ := hh; have hwl := hrw.len; have hwo := hrw.one; replace hrg := hrg.mono hle3; replace hty := hty.mono hle3)
 refine A3 12 ?_
 (refine H1 rfl rfl (A1s _ _ (.mk tk tks) lb G3 _ _ _ ⟨by omega, by omega⟩ hrw hrg hty) rfl rfl rfl (fun u G4 hle4 hh => ?_); obtain ⟨xc, rfl, hrx⟩ := hh; have hxl := hrx.len; have hxo := hrx.one)
 refine A3 13 ?_
 (refine oS rfl rfl rfl rfl hxl hxo rfl rfl ?_ (hu := by exact D5 hxl.symm))
 refine aP 14 rfl (qA rfl) rfl ?_
 refine aP 15 rfl (qA rfl) rfl ?_
 refine B0 ?_
 refine D9 (rC rfl (A2 rfl rfl (A9 (by repeat first | exact mH | apply mT)) hxl)) (rT rfl) (rT rfl) ?_
 (exact S5.mk (by rw [if_neg (by omega), if_neg (by omega), if_pos rfl]) hrx)
 refine D6 ?_
 focus (cases hJJ : J; all_goals (rw [hJJ] at hI; refine H3 rfl hI rfl rfl ?_))
 refine J9 ?_
 refine D9 (rC rfl (A4 rfl rfl)) (rT rfl) (rT rfl) ?_
 (exact S5.mk (by rw [if_neg (by omega), if_neg (by omega), if_neg (by decide), if_pos rfl]; rfl) (M8 _))
 refine J2 ?_
 focus (rw [hSm hJJ hDD] at hTS; by_cases hfk : afk = tk; rw [decide_eq_true hfk] at hTS; rotate_left; rw [decide_eq_false hfk] at hTS; rotate_left; all_goals (refine H3 rfl hTS rfl rfl ?_))
 refine D6 ?_
 (have hq1 := h14 (hjk (by assumption)); obtain ⟨bq, oq, e3, rfl, hl3, hat3, hre3, hgb3⟩ := hasl.kidTm hakl (i := 0) (by omega) (by omega); have ho3 := hre3.one; refine sP (B3 (j := 0) rfl rfl rfl (by omega)) rfl rfl ?_)
 refine sL (A2 rfl rfl (hat3 _) hl3) rfl rfl ?_
 refine sS rfl rfl rfl hl3 ho3 rfl ?_ (hu := by exact D5 hl3.symm)
 refine B4 ?_
 refine D9 (rC rfl (A2 rfl rfl (A9 (by repeat first | exact mH | apply mT)) hl3)) (rT rfl) (rT rfl) ?_
 (exact S5.mk (by rw [if_neg (by omega), if_neg (by omega), if_neg (by decide), if_neg (by decide), if_pos hfk, A0u (by omega)]) hre3)
 refine D6 ?_
 refine E0 E1 rfl ?_
 refine I8 (i := 0) (l' := [tt,ff,ff,ff,ff,ff]) rfl D2 (W4 rfl rfl) rfl (by kernel_rfl) rfl rfl ?_
 refine aP 1 rfl (B7 rfl) rfl ?_
 refine aL 2 rfl (C7 rfl rfl) rfl ?_
 refine A3 3 ?_
 refine H8 rfl ?_
 refine aP 4 rfl (qA rfl) rfl ?_
 refine aP 5 rfl (qA rfl) rfl ?_
 refine E8 (nS (tT ?_))
 refine D9 (rC rfl (A4 rfl rfl)) (rT rfl) (rT rfl) ?_
 (exact S5.mk (by rw [if_neg (by omega), if_neg (by omega), if_neg (by decide), if_neg (by decide), if_neg hfk]) (M8 _))
theorem A9j (k : Int) (a b : Tm) (nm : ByteArray) (num : Int) (ty fr : Ty) (lb : Int) (G : IM) (cells : List Value) (hk1 : k = 7 ∨ k = 8) (hca : cv a) (hr : A8 G (.mk k nm num ty fr lb [a, b]) cells) : Fn Tryz.prog 192 [.agg ⟨cells⟩] [] G (S5 (Z0 k ty fr lb [a, b])) := by
 have hR : Z0 k ty fr lb [a, b] = R9 := by unfold Z0; rw [if_neg (by omega), if_neg (by omega), if_neg (by omega)]
 rw [hR]
 obtain ⟨ak, anm, anum, ⟨atk, atks⟩, ⟨afk, afks⟩, alb, aks⟩ := a
 obtain ⟨hN, hkk⟩ := hca.node
 have hops := hN.ops
 have hbl := hN.lbB
 have htyA := hN.tyA
 have hfrA := hN.frA
 rw [F4] at htyA hfrA
 have h14 : ak = 14 → aks.length = 1 := fun h => by rw [h] at hops; have : E2 14 = 1 := rfl; omega
 obtain ⟨tk, tks⟩ := ty
 obtain ⟨fk, fks⟩ := fr
 obtain ⟨pt, ct, pf, cf, p, c, es, rfl, hk, hnum, hlb, hty, hfr, hsl, hkl⟩ := hr.open9
 obtain ⟨bx, ox, e0, rfl, hl0, hat0, hre0, hgb0⟩ := hsl.kidTm hkl (i := 0) (by simp) (by simp)
 replace hre0 : A8 G (Tm.mk ak anm anum (.mk atk atks) (.mk afk afks) alb aks) e0 := hre0
 have hP : Fn Tryz.prog 170 [.agg ⟨e0⟩] [] G (I5 (.bool (decide (ak = 14 ∧ afk = atk ∧ (atk = 4 ∨ atk = 5)))) G) := A3f _ G _ hre0
 have hI := A3W _ G _ hre0
 have ho0 := hre0.one
 obtain ⟨apt, act, apf, acf, ap, ac, aes, rfl, hak, hanum, halb, haty, hafr, hasl, hakl⟩ := hre0.open9
 have hfk64 : F8 fk := by obtain ⟨_, _, _, _, h, _⟩ := hfr.open; exact h
 have htk64 : F8 tk := by obtain ⟨_, _, _, _, h, _⟩ := hty.open; exact h
 obtain ⟨tes, htS, htL⟩ := haty.kids
 obtain ⟨fes, hfS, hfL⟩ := hafr.kids
 simp only [Ty.ks] at htS htL hfS hfL
 refine C0 Tryz.func192 rfl Tryz.ntmps192 Tryz.results192 rfl ?_
 intro w0
 refine tS (tR ?_)
 refine sE (C5 rfl rfl) rfl (fun b3 => ?_)
 refine sE (A6 rfl) rfl (fun b4 => ?_)
 refine D6 ?_
 refine sP (B3 (j := 0) rfl rfl rfl (by simp)) rfl rfl ?_
 refine sL (A2 rfl rfl (hat0 _) rfl) rfl rfl ?_
 refine sE (A6 rfl) rfl (fun b15 => ?_)
 refine B6 ?_
 refine B8 ?_
 refine B6 ?_
 refine sP (J3 rfl rfl (by omega)) rfl rfl ?_
 refine U4 ?_
 refine sP (J3 rfl rfl (by omega)) rfl rfl ?_
 refine E3 ?_
 refine sP (J3 rfl rfl (by omega)) rfl rfl ?_
 refine A0m ?_
 refine sP (A0y rfl rfl (by omega)) rfl rfl ?_
 refine I6 ?_
 refine D9 (rC rfl (A4 rfl rfl)) (rT rfl) (rT rfl) ?_
 (exact S5.mk rfl (M8 _))
theorem B3R (a b c0 : Tm) (nm : ByteArray) (num : Int) (ty fr : Ty) (lb : Int) (G : IM) (cells : List Value) (hca : cv a) (hr : A8 G (.mk 9 nm num ty fr lb [a, b, c0]) cells) : Fn Tryz.prog 192 [.agg ⟨cells⟩] [] G (S5 (Z0 9 ty fr lb [a, b, c0])) := by
 have hR : Z0 9 ty fr lb [a, b, c0] = R9 := by unfold Z0; rw [if_neg (by omega), if_neg (by omega), if_neg (by omega)]
 rw [hR]
 obtain ⟨ak, anm, anum, ⟨atk, atks⟩, ⟨afk, afks⟩, alb, aks⟩ := a
 obtain ⟨hN, hkk⟩ := hca.node
 have hops := hN.ops
 have hbl := hN.lbB
 have htyA := hN.tyA
 have hfrA := hN.frA
 rw [F4] at htyA hfrA
 have h14 : ak = 14 → aks.length = 1 := fun h => by rw [h] at hops; have : E2 14 = 1 := rfl; omega
 obtain ⟨tk, tks⟩ := ty
 obtain ⟨fk, fks⟩ := fr
 obtain ⟨pt, ct, pf, cf, p, c, es, rfl, hk, hnum, hlb, hty, hfr, hsl, hkl⟩ := hr.open9
 obtain ⟨bx, ox, e0, rfl, hl0, hat0, hre0, hgb0⟩ := hsl.kidTm hkl (i := 0) (by simp) (by simp)
 replace hre0 : A8 G (Tm.mk ak anm anum (.mk atk atks) (.mk afk afks) alb aks) e0 := hre0
 have hP : Fn Tryz.prog 170 [.agg ⟨e0⟩] [] G (I5 (.bool (decide (ak = 14 ∧ afk = atk ∧ (atk = 4 ∨ atk = 5)))) G) := A3f _ G _ hre0
 have hI := A3W _ G _ hre0
 have ho0 := hre0.one
 obtain ⟨apt, act, apf, acf, ap, ac, aes, rfl, hak, hanum, halb, haty, hafr, hasl, hakl⟩ := hre0.open9
 have hfk64 : F8 fk := by obtain ⟨_, _, _, _, h, _⟩ := hfr.open; exact h
 have htk64 : F8 tk := by obtain ⟨_, _, _, _, h, _⟩ := hty.open; exact h
 obtain ⟨tes, htS, htL⟩ := haty.kids
 obtain ⟨fes, hfS, hfL⟩ := hafr.kids
 simp only [Ty.ks] at htS htL hfS hfL
 refine C0 Tryz.func192 rfl Tryz.ntmps192 Tryz.results192 rfl ?_
 intro w0
 refine tS (tR ?_)
 refine sE (C5 rfl rfl) rfl (fun b3 => ?_)
 refine sE (A6 rfl) rfl (fun b4 => ?_)
 refine D6 ?_
 refine sP (B3 (j := 0) rfl rfl rfl (by simp)) rfl rfl ?_
 refine sL (A2 rfl rfl (hat0 _) rfl) rfl rfl ?_
 refine sE (A6 rfl) rfl (fun b15 => ?_)
 refine B6 ?_
 refine B8 ?_
 refine B6 ?_
 refine sP (J3 rfl rfl (by omega)) rfl rfl ?_
 refine U4 ?_
 refine sP (J3 rfl rfl (by omega)) rfl rfl ?_
 refine E3 ?_
 refine sP (J3 rfl rfl (by omega)) rfl rfl ?_
 refine A0m ?_
 refine sP (A0y rfl rfl (by omega)) rfl rfl ?_
 refine I6 ?_
 refine D9 (rC rfl (A4 rfl rfl)) (rT rfl) (rT rfl) ?_
 (exact S5.mk rfl (M8 _))
theorem B3S (nm : ByteArray) (num : Int) (ty fr : Ty) (lb : Int) (G : IM) (cells : List Value) (hr : A8 G (.mk 1 nm num ty fr lb []) cells) : Fn Tryz.prog 177 [.agg ⟨cells⟩] [] G (S4 (X8 1 [])) := by
 rw [show X8 1 [] = none from rfl]
 obtain ⟨tk, tks⟩ := ty
 obtain ⟨fk, fks⟩ := fr
 obtain ⟨pt, ct, pf, cf, p, c, es, rfl, hk, hnum, hlb, hty, hfr, hsl, hkl⟩ := hr.open9
 have hL : ([] : List Tm).length = 0 := rfl
 refine C0 Tryz.func177 rfl Tryz.ntmps177 Tryz.results177 rfl ?_
 intro w0
 refine tS (tR ?_)
 refine sE (C5 rfl rfl) rfl (fun b3 => ?_)
 refine sE (A6 rfl) rfl (fun b4 => ?_)
 refine A7 ?_
 refine sE (A6 rfl) rfl (fun b11 => ?_)
 refine E4 ?_
 refine sP (A3x rfl rfl (by omega)) rfl rfl ?_
 refine K8 ?_
 refine B8 ?_
 refine tS (tR ?_)
 refine sP (J3 rfl rfl (by omega)) rfl rfl ?_
 refine B4 ?_
 refine sP (J3 rfl rfl (by omega)) rfl rfl ?_
 refine B0 ?_
 refine sP (J3 rfl rfl (by omega)) rfl rfl ?_
 refine A7 ?_
 refine sP (J3 rfl rfl (by omega)) rfl rfl ?_
 refine B4 ?_
 refine sP (J3 rfl rfl (by omega)) rfl rfl ?_
 refine B0 ?_
 refine sP (J3 rfl rfl (by omega)) rfl rfl ?_
 refine I6 ?_
 refine F0 (rC rfl (A4 rfl rfl)) (rT rfl) ?_
 (exact S4.no rfl (M8 _))
theorem B3T (a : Tm) (nm : ByteArray) (num : Int) (ty fr : Ty) (lb : Int) (G : IM) (cells : List Value) (hr : A8 G (.mk 14 nm num ty fr lb [a]) cells) : Fn Tryz.prog 177 [.agg ⟨cells⟩] [] G (S4 (X8 14 [a])) := by
 rw [show X8 14 [a] = none from rfl]
 obtain ⟨tk, tks⟩ := ty
 obtain ⟨fk, fks⟩ := fr
 obtain ⟨pt, ct, pf, cf, p, c, es, rfl, hk, hnum, hlb, hty, hfr, hsl, hkl⟩ := hr.open9
 obtain ⟨bx, ox, e0, rfl, hl0, hat0, hre0, hgb0⟩ := hsl.kidTm hkl (i := 0) (by simp) (by simp)
 have ho0 : e0.all (·.oneCell') = true := (show A8 G a e0 from hre0).one
 refine C0 Tryz.func177 rfl Tryz.ntmps177 Tryz.results177 rfl ?_
 intro w0
 refine tS (tR ?_)
 refine sE (C5 rfl rfl) rfl (fun b3 => ?_)
 refine sE (A6 rfl) rfl (fun b4 => ?_)
 refine A7 ?_
 refine sE (A6 rfl) rfl (fun b11 => ?_)
 refine E4 ?_
 refine sB (X2 rfl rfl) rfl rfl (fun h21 => ?_) (fun h21 => ?_)
 refine A7 ?_
 refine sP (B3 (j := 0) rfl rfl rfl (by simp)) rfl rfl ?_
 refine sL (A2 rfl rfl (hat0 _) hl0) rfl rfl ?_
 refine sS rfl rfl rfl hl0 ho0 rfl ?_ (hu := by exact D5 hl0.symm)
 refine E4 ?_
 refine B8 ?_
 refine tS (tR ?_)
 refine sP (J3 rfl rfl (by omega)) rfl rfl ?_
 refine B4 ?_
 refine sP (J3 rfl rfl (by omega)) rfl rfl ?_
 refine B0 ?_
 refine sP (J3 rfl rfl (by omega)) rfl rfl ?_
 refine A7 ?_
 refine sP (J3 rfl rfl (by omega)) rfl rfl ?_
 refine B4 ?_
 refine sP (J3 rfl rfl (by omega)) rfl rfl ?_
 refine B0 ?_
 refine sP (J3 rfl rfl (by omega)) rfl rfl ?_
 refine I6 ?_
 refine F0 (rC rfl (A4 rfl rfl)) (rT rfl) ?_
 (exact S4.no rfl (M8 _))
 refine K8 ?_
 refine B8 ?_
 refine tS (tR ?_)
 refine sP (J3 rfl rfl (by omega)) rfl rfl ?_
 refine B4 ?_
 refine sP (J3 rfl rfl (by omega)) rfl rfl ?_
 refine B0 ?_
 refine sP (J3 rfl rfl (by omega)) rfl rfl ?_
 refine A7 ?_
 refine sP (J3 rfl rfl (by omega)) rfl rfl ?_
 refine B4 ?_
 refine sP (J3 rfl rfl (by omega)) rfl rfl ?_
 refine B0 ?_
 refine sP (J3 rfl rfl (by omega)) rfl rfl ?_
 refine I6 ?_
 refine F0 (rC rfl (A4 rfl rfl)) (rT rfl) ?_
 (exact S4.no rfl (M8 _))
theorem ks1 {ks : List Tm} (h : ks.length = 1) : ∃ a, ks = [a] := by
 match ks, h with
 | [a], _ => exact ⟨a, rfl⟩
theorem ks2 {ks : List Tm} (h : ks.length = 2) : ∃ a b, ks = [a, b] := by
 match ks, h with
 | [a, b], _ => exact ⟨a, b, rfl⟩
theorem ks3 {ks : List Tm} (h : ks.length = 3) : ∃ a b c, ks = [a, b, c] := by
 match ks, h with
 | [a, b, c], _ => exact ⟨a, b, c, rfl⟩
theorem B3U {k : Int} {nm : ByteArray} {num : Int} {ty fr : Ty} {lb : Int} {ks : List Tm} {G : IM} {cells : List Value} (hc : cv (.mk k nm num ty fr lb ks)) (hk : k = 1 ∨ k = 6 ∨ k = 7 ∨ k = 8 ∨ k = 9 ∨ k = 11 ∨ k = 12 ∨ k = 14) (hr : A8 G (.mk k nm num ty fr lb ks) cells) :
  Fn Tryz.prog 177 [.agg ⟨cells⟩] [] G (S4 (X8 k ks)) := by
 obtain ⟨hN, hkk⟩ := hc.node
 have hops := hN.ops
 rcases hk with rfl | rfl | rfl | rfl | rfl | rfl | rfl | rfl
 ·obtain rfl : ks = [] := List.length_eq_zero_iff.1 (by have : E2 1 = 0 := rfl; omega)
  exact B3S _ _ _ _ _ _ _ hr
 ·obtain ⟨a, b, rfl⟩ := ks2 (ks := ks) (by have : E2 6 = 2 := rfl; omega)
  exact B3L a b _ _ _ _ _ _ _ (hkk a (by simp)) hr
 ·obtain ⟨a, b, rfl⟩ := ks2 (ks := ks) (by have : E2 7 = 2 := rfl; omega)
  exact A9e 7 a b _ _ _ _ _ _ _ (.inl rfl) (hkk a (by simp)) (hkk b (by simp)) hr
 ·obtain ⟨a, b, rfl⟩ := ks2 (ks := ks) (by have : E2 8 = 2 := rfl; omega)
  exact A9e 8 a b _ _ _ _ _ _ _ (.inr rfl) (hkk a (by simp)) (hkk b (by simp)) hr
 ·obtain ⟨a, b, c, rfl⟩ := ks3 (ks := ks) (by have : E2 9 = 3 := rfl; omega)
  exact B3M a b c _ _ _ _ _ _ _ hr
 ·obtain ⟨a, rfl⟩ := ks1 (ks := ks) (by have : E2 11 = 1 := rfl; omega)
  exact A9f 11 a _ _ _ _ _ _ _ (.inl rfl) (hkk a (by simp)) hr
 ·obtain ⟨a, rfl⟩ := ks1 (ks := ks) (by have : E2 12 = 1 := rfl; omega)
  exact A9f 12 a _ _ _ _ _ _ _ (.inr rfl) (hkk a (by simp)) hr
 ·obtain ⟨a, rfl⟩ := ks1 (ks := ks) (by have : E2 14 = 1 := rfl; omega)
  exact B3T a _ _ _ _ _ _ _ hr
theorem B3V {k : Int} {nm : ByteArray} {num : Int} {ty fr : Ty} {lb : Int} {ks : List Tm} {G : IM} {cells : List Value} (hc : cv (.mk k nm num ty fr lb ks)) (hk : k = 6 ∨ k = 7 ∨ k = 8 ∨ k = 9 ∨ k = 11 ∨ k = 12 ∨ k = 14) (hr : A8 G (.mk k nm num ty fr lb ks) cells) :
  Fn Tryz.prog 192 [.agg ⟨cells⟩] [] G (S5 (Z0 k ty fr lb ks)) := by
 obtain ⟨hN, hkk⟩ := hc.node
 have hops := hN.ops
 rcases hk with rfl | rfl | rfl | rfl | rfl | rfl | rfl
 ·obtain ⟨a, b, rfl⟩ := ks2 (ks := ks) (by have : E2 6 = 2 := rfl; omega)
  exact B3O a b _ _ _ _ _ _ _ (hkk a (by simp)) hr
 ·obtain ⟨a, b, rfl⟩ := ks2 (ks := ks) (by have : E2 7 = 2 := rfl; omega)
  exact A9j 7 a b _ _ _ _ _ _ _ (.inl rfl) (hkk a (by simp)) hr
 ·obtain ⟨a, b, rfl⟩ := ks2 (ks := ks) (by have : E2 8 = 2 := rfl; omega)
  exact A9j 8 a b _ _ _ _ _ _ _ (.inr rfl) (hkk a (by simp)) hr
 ·obtain ⟨a, b, c, rfl⟩ := ks3 (ks := ks) (by have : E2 9 = 3 := rfl; omega)
  exact B3R a b c _ _ _ _ _ _ _ (hkk a (by simp)) hr
 ·obtain ⟨a, rfl⟩ := ks1 (ks := ks) (by have : E2 11 = 1 := rfl; omega)
  exact A9h 11 a _ _ _ _ _ _ _ (.inl rfl) (hkk a (by simp)) hr
 ·obtain ⟨a, rfl⟩ := ks1 (ks := ks) (by have : E2 12 = 1 := rfl; omega)
  exact A9h 12 a _ _ _ _ _ _ _ (.inr rfl) (hkk a (by simp)) hr
 ·obtain ⟨a, rfl⟩ := ks1 (ks := ks) (by have : E2 14 = 1 := rfl; omega)
  exact B3Q a _ _ _ _ _ _ _ (hkk a (by simp)) hN.lbB hr
theorem A6t (n : Nat) (t : Tm) (ts : List Tm) : A0R (n + 1) (t :: ts) = if K6 t = true then (match A0R n ts with | some (us, c, l) => some (t :: us, c, l) | none => none) else some ((K2 t).1 :: ts, (K2 t).2.1, (K2 t).2.2) := by
 rw [A0R]; rfl
theorem A6u : ∀ (n : Nat) (ks : List Tm), (∀ i, i < n → (h : i < ks.length) → K6 ks[i] = true) → A0R n ks = none
 | n, [], _ => by cases n <;> rfl
 | 0, t :: ts, _ => rfl
 | n + 1, t :: ts, h => by
  rw [A6t, if_pos (show K6 t = true from h 0 (by omega) (by simp)), A6u n ts (fun i hi hl => h (i + 1) (by omega) (by simpa using hl))]
theorem A6v : ∀ (n : Nat) (ks : List Tm) (i : Nat) (hi : i < ks.length), i < n → (∀ j, j < i → (h : j < ks.length) → K6 ks[j] = true) → K6 ks[i] = false → A0R n ks = some (ks.set i (K2 ks[i]).1, (K2 ks[i]).2.1, (K2 ks[i]).2.2)
 | n, [], i, hi, _, _, _ => by simp at hi
 | 0, t :: ts, i, _, hn, _, _ => by omega
 | n + 1, t :: ts, 0, _, _, _, hv => by
  rw [A6t, if_neg (by rw [show K6 t = false from hv]; decide)]; rfl
 | n + 1, t :: ts, i + 1, hi, hn, hj, hv => by
  rw [A6t, if_pos (show K6 t = true from hj 0 (by omega) (by simp)), A6v n ts i (by simpa using hi) (by omega) (fun j hji hl => hj (j + 1) (by omega) (by simpa using hl)) hv]
  rfl
theorem B3W {k : Int} {ty fr : Ty} {lb : Int} {ks : List Tm} (h : (Q2 k ty fr lb ks).2.1 = 1) : (Q2 k ty fr lb ks).2.2 = 0 := by
 revert h
 unfold Q2 R9
 repeat' split
 all_goals first | (intro _; rfl) | (intro h; exfalso; revert h; simp)
theorem B3X {k : Int} {nm : ByteArray} {num : Int} {ty fr : Ty} {lb : Int} {ks : List Tm} (h : (K2 (.mk k nm num ty fr lb ks)).2.1 = 1) : (K2 (.mk k nm num ty fr lb ks)).2.2 = 0 := by
 rw [K2] at h ⊢
 cases hL : A0R (if k = 9 then 1 else ks.length) ks with
 | none => rw [hL] at h; exact B3W h
 | some p =>
  obtain ⟨us, c, l⟩ := p
  rw [hL] at h
  simp only at h ⊢
  by_cases hc : c = 1
  ·rw [if_pos hc]
  ·rw [if_neg hc] at h; exact absurd h hc
theorem B3Y {t : Tm} (h : (K2 t).2.1 = 1) : (K2 t).2.2 = 0 := by cases t; exact B3X h
theorem B3Z {k : Int} {nm : ByteArray} {num : Int} {ty fr : Ty} {lb : Int} {ks : List Tm} {i : Nat} (hi : i < ks.length) (hn : i < (if k = 9 then 1 else ks.length)) (hj : ∀ j, j < i → (h : j < ks.length) → K6 ks[j] = true) (hv : K6 ks[i] = false) :
  (K2 (.mk k nm num ty fr lb ks)).2.1 = (K2 ks[i]).2.1 ∧ (K2 (.mk k nm num ty fr lb ks)).2.2 = (K2 ks[i]).2.2 ∧ ((K2 ks[i]).2.1 = 1 → (K2 (.mk k nm num ty fr lb ks)).1 = .mk k nm num ty fr lb (ks.set i (K2 ks[i]).1)) := by
 rw [K2, A6v _ ks i hi hn hj hv]
 simp only
 by_cases hc : (K2 ks[i]).2.1 = 1
 ·rw [if_pos hc]
  exact ⟨hc.symm, (B3Y hc).symm, fun _ => rfl⟩
 ·rw [if_neg hc]
  exact ⟨rfl, rfl, fun h => absurd h hc⟩
theorem B30 {k : Int} {nm : ByteArray} {num : Int} {ty fr : Ty} {lb : Int} {ks : List Tm} (h : ∀ i, i < (if k = 9 then 1 else ks.length) → (hl : i < ks.length) → K6 ks[i] = true) : K2 (.mk k nm num ty fr lb ks) = match X8 k ks with | some u => (u, 1, 0) | none => Z0 k ty fr lb ks := by
 rw [K2, A6u _ _ h]
 exact B3N k ty fr lb ks
theorem A3X {k : Int} (h : 0 ≤ E2 k) : 1 ≤ k ∧ k ≤ 14 := by
 by_cases hk : 1 ≤ k ∧ k ≤ 14
 ·exact hk
 ·rw [A4u hk] at h; omega
theorem A9k {k : Int} {nm : ByteArray} {num : Int} {ty fr : Ty} {lb : Int} {ks : List Tm} (hc : cv (.mk k nm num ty fr lb ks)) (hv : K6 (.mk k nm num ty fr lb ks) = false) (h : ∀ i, i < (if k = 9 then 1 else ks.length) → (hl : i < ks.length) → K6 ks[i] = true) : k = 1 ∨ k = 6 ∨ k = 7 ∨ k = 8 ∨ k = 9 ∨ k = 11 ∨ k = 12 ∨ k = 14 := by
 obtain ⟨hN, _⟩ := hc.node
 have hr := A3X (by rw [hN.ops]; omega : 0 ≤ E2 k)
 have h13 := hN.ne
 have h25 : ¬(k = 2 ∨ k = 3 ∨ k = 4 ∨ k = 5) := by
  intro hk
  rw [K6, if_neg (by omega)] at hv
  rw [decide_eq_true hk] at hv
  cases hv
 have h10 : k ≠ 10 := by
  rintro rfl
  rw [A41 (.inl rfl), List.all_eq_false] at hv
  obtain ⟨t, ht, hn⟩ := hv
  obtain ⟨i, hi, rfl⟩ := List.mem_iff_getElem.1 ht
  exact hn (h i (by rw [if_neg (by decide)]; exact hi) hi)
 omega
theorem B31 (t : Tm) (G : IM) (cells : List Value) (hr : A8 G t cells) : Fn Tryz.prog 175 [.agg ⟨cells⟩] [] G (I5 (.int .i64 ((if t.k = 9 then 1 else t.ks.length : Nat) : Int)) G) := by
 obtain ⟨k, nm, num, ⟨tk, tks⟩, ⟨fk, fks⟩, lb, ks⟩ := t
 obtain ⟨pt, ct, pf, cf, p, c, es, rfl, hk, hnum, hlb, hty, hfr, hsl, hkl⟩ := hr.open9
 rw [show (Tm.mk k nm num (.mk tk tks) (.mk fk fks) lb ks).k = k from rfl, show (Tm.mk k nm num (.mk tk tks) (.mk fk fks) lb ks).ks = ks from rfl]
 refine C0 Tryz.func175 rfl Tryz.ntmps175 Tryz.results175 rfl ?_
 intro w0
 refine tS (tR ?_)
 refine sE (C5 rfl rfl) rfl (fun b3 => ?_)
 refine D6 ?_
 refine sB (qE rfl rfl) rfl rfl (fun h12 => ?_) (fun h12 => ?_)
 refine J2 ?_
 (exact ⟨rfl, by rw [if_pos (by omega)]; rfl, rfl⟩)
 refine I6 ?_
 (exact ⟨rfl, by rw [if_neg (by omega)], rfl⟩)
theorem B32 {k : Int} (h8 : k = 1 ∨ k = 6 ∨ k = 7 ∨ k = 8 ∨ k = 9 ∨ k = 11 ∨ k = 12 ∨ k = 14) (h : E2 k = 0) : k = 1 := by
 rcases h8 with rfl | rfl | rfl | rfl | rfl | rfl | rfl | rfl
 ·rfl
 all_goals exact absurd h (by decide)
theorem A9l {G : IM} {r r' : Stp} {u : Tm} {cells : List Value} {c l : Int} (h1 : r.2.1 = c) (h2 : r.2.2 = l) (hr : A8 G u cells) (h3 : c = 1 → u = r.1) : S5 r G (.tuple ⟨[.agg ⟨cells⟩, .int .i64 c, .int .i64 l]⟩) [] := by
 subst h1 h2; exact ⟨rfl, u, cells, rfl, hr, h3⟩
theorem B33 : ∀ (t : Tm) (G : IM) (cells : List Value), cv t → K6 t = false → A8 G t cells → Fn Tryz.prog 139 [.agg ⟨cells⟩] [] G (S5 (K2 t)) := by
 refine Tm.ind fun k nm num ty fr lb ks ih G cells hc hv hr => ?_
 have hr0 := hr
 have hN := hc.node.1
 have hkk := hc.node.2
 have hsm := A2z _ hc
 obtain ⟨_, _, _, _, hksm⟩ := A0t.1 hsm
 have hops := hN.ops
 have hle3 := A1o k
 have hkd := @A9k k nm num ty fr lb ks hc hv
 have hrd := @B30 k nm num ty fr lb ks
 have hkidS := fun (i : Nat) => @B3Z k nm num ty fr lb ks i
 have hRA := fun h => @B3U k nm num ty fr lb ks G cells hc h hr
 have hCA := fun h (G1 : IM) (hle : B9 G G1) => @B3V k nm num ty fr lb ks G1 cells hc h (hr.mono hle)
 have hCt := B31 _ G _ hr
 rw [show (Tm.mk k nm num ty fr lb ks).k = k from rfl, show (Tm.mk k nm num ty fr lb ks).ks = ks from rfl] at hCt
 obtain ⟨C, hC⟩ : ∃ C : Nat, (if k = 9 then 1 else ks.length : Nat) = C := ⟨_, rfl⟩
 rw [hC] at hCt hkd hrd
 have hkidS' := fun (i : Nat) (hi : i < ks.length) (hn : i < C) => hkidS i hi (by rw [hC]; exact hn)
 have hC9 : C ≤ ks.length := by rw [← hC]; split; (have : E2 k = 3 := by (rename_i h9; rw [h9]; rfl)); omega; omega
 have hrul := hkd
 obtain ⟨tk, tks⟩ := ty
 obtain ⟨fk, fks⟩ := fr
 obtain ⟨pt, ct, pf, cf, p, c, es, rfl, hk, hnum, hlb, hty, hfr, hsl, hkl⟩ := hr.open9
 have hn := hsl.le
 have hnc := hsl.sl.2.1
 refine C0 Tryz.func139 rfl Tryz.ntmps139 Tryz.results139 rfl ?_
 intro w0
 refine tS (tR ?_)
 refine sE (C5 rfl rfl) rfl (fun b3 => ?_)
 refine sE (A6 rfl) rfl (fun b4 => ?_)
 refine A7 ?_
 refine E0 E1 rfl ?_
 refine I8 (i := 0) (l' := [tt,ff,ff,ff,ff,ff,ff]) rfl D2 (B7 rfl) rfl (by kernel_rfl) rfl rfl ?_
 refine aL 1 rfl (C7 rfl rfl) rfl ?_
 refine aL 2 rfl (A4 rfl rfl) rfl ?_
 refine aP 6 rfl (qM rfl) rfl ?_
 refine A3 3 ?_
 refine O2 rfl rfl (hCt) rfl rfl rfl ?_
 refine aP 4 rfl (A70 (l := C) rfl rfl rfl (by omega)) rfl ?_
 refine aP 5 rfl (pLn rfl rfl) rfl ?_
 refine E8 (nS ?_)
 refine B8 ?_
 (refine I2 (fun (i : Nat) => ⟨[(19, .int .i64 (i : Int)), (18, .int .i64 (C : Int)), (17, .slice p C c), (1, .pointer (some ⟨b3, 0, none⟩)), (2, .pointer (some ⟨b4, 0, none⟩))], [.blk b4 [.int .i64 0, .string ⟨⟨[]⟩⟩, .int .i64 0, .int .i64 0, .slice none 0 0, .int .i64 0, .slice none 0 0, .int .i64 0, .slice none 0 0], .blk b3 [.int .i64 k, .string nm, .int .i64 num, .int .i64 tk, .slice pt tks.length ct, .int .i64 fk, .slice pf fks.length cf, .int .i64 lb, .slice p ks.length c]], G⟩) (fun i => i ≤ C ∧ ∀ j, j < i → (h : j < ks.length) → K6 ks[j] = true) (fun i => C - i) 0 ?_ ?_ ?_)
 exact D3
 (exact ⟨Nat.zero_le _, fun j hj => absurd hj (Nat.not_lt_zero j)⟩)
 (rintro i ⟨hi, hj⟩)
 refine tS (tR ?_)
 refine sB (I0 rfl rfl) rfl rfl (fun h29 => ?_) (fun h29 => ?_)
 refine B4 ?_
 refine B8 ?_
 refine E3 ?_
 (have hiC : i < C := (by omega); obtain ⟨bx, ox, e, rfl, hl, hat, hre, hgb⟩ := hsl.kidTm hkl (i := i) (by omega) (by omega); have heo := hre.one; have hVi := A9b ks[i] G e hre; refine sP (B3 (j := i) rfl rfl rfl hiC) rfl rfl ?_)
 refine sL (A2 rfl rfl (hat _) hl) rfl rfl ?_
 refine sE (A6 rfl) rfl (fun b43 => ?_)
 refine sQ (qA rfl) rfl ?_
 refine sS rfl rfl rfl hl heo rfl ?_ (hu := by exact D5 hl.symm)
 refine B0 ?_
 refine sL (A2 rfl rfl (A9 (by repeat first | exact mH | apply mT)) hl) rfl rfl ?_
 refine H4 rfl (hVi) rfl rfl (fun h52 => ?_) (fun h52 => ?_)
 refine D6 ?_
 refine sP (H2 rfl rfl (by omega) (by omega)) rfl rfl ?_
 refine D7 ?_
 refine H9 (i + 1) ?_ ?_ ?_
 exact D3
 (exact ⟨by omega, fun j hji hl2 => (by by_cases he : j = i; (subst he; assumption); exact hj j (by omega) hl2)⟩)
 (show C - (i + 1) < C - i; omega)
 refine B4 ?_
 refine sL (A2 rfl rfl (A9 (by repeat first | exact mH | apply mT)) hl) rfl rfl ?_
 (have hvF : K6 ks[i] = false := (by assumption); obtain ⟨hs1, hs2, hs3⟩ := hkidS' i (by omega) hiC (fun j hji hl2 => hj j hji hl2) hvF; refine D8 rfl (ih ks[i] (List.getElem_mem (by omega)) G e (hkk _ (List.getElem_mem (by omega))) hvF hre) rfl rfl (fun v G1 hle1 hh => ?_); obtain ⟨u, uc, rfl, hru, hu1⟩ := hh; have hul := hru.len; have huo := hru.one; have hClo := B26 G1 _ ks.length c es (hsl.mono hle1) (by omega) (by omega))
 refine B6 ?_
 refine sE (A6 rfl) rfl (fun b81 => ?_)
 refine sS rfl rfl rfl hul huo rfl ?_ (hu := by exact D5 hul.symm)
 refine B4 ?_
 refine sE (A6 rfl) rfl (fun b90 => ?_)
 refine B4 ?_
 (refine W0 rfl hClo rfl rfl (fun v98 G98 outs98 hle98 h98 => ?_); obtain ⟨hG, p1, c1, rfl, rfl⟩ := h98; replace hG := hG.symm; subst hG; refine A3N (cs := es.flatten) (by repeat (first | exact Pk.here | apply Pk.there)) (by omega) (fun bc Cc hpe hnc1 hcm => ?_); subst hpe)
 replace hru := hru.mono hle98
 refine E4 ?_
 refine sL (A2 rfl rfl (A9 (by repeat first | exact mH | apply mT)) hul) rfl rfl ?_
 refine sP (B3 (j := i) rfl rfl rfl (by omega)) rfl rfl ?_
 refine U8 rfl rfl rfl hul huo rfl (by repeat first | exact Sw.here | apply Sw.there) (by exact A3O (by rw [hkl.len]; omega) (fun e he => (hsl.all e he)) hul) ?_
 refine K8 ?_
 (refine A2q (bs := [(bc, (es.set i uc).flatten ++ Cc)]) (Pk.perm (by repeat (first | exact Pk.here | apply Pk.there))) (fun hn2 hd2 hle2 => ?_))
 refine A7 ?_
 refine D9 (rC rfl (A4 rfl rfl)) (rT rfl) (rT rfl) ?_
 (have hks2 := C6.set (j := i) ((hkl.mono hle1).mono hle2) (hru.mono hle2); refine A9l (r' := R9) hs1 hs2 (A8.put (us := ks.set i u) (es := es.set i uc) hk hnum hlb ((hty.mono hle1).mono hle2) ((hfr.mono hle1).mono hle2) (by rw [List.length_set]) (D1.of (Sl.of_blk (A := []) (by rw [A02 hks2.all, hks2.len, List.length_set]) (by omega) hcm (Wi.in hn2 List.mem_cons_self)) (by rw [hks2.len, List.length_set]) hks2.all (fun e he => by obtain ⟨q, hq⟩ := List.getElem?_of_mem he; exact (hks2.inv hq K1).2.one)) hks2) (fun h1 => by rw [hs3 h1, hu1 h1]))
 refine K3 ?_
 focus (have hall : ∀ i, i < C → (hl : i < ks.length) → K6 ks[i] = true := (fun j hjc hl2 => hj j (by omega) hl2); have hk8 := hkd hall; have hrd' := hrd hall; refine D8 rfl (hRA hk8) rfl rfl (fun v G1 hle1 hh => ?_); obtain ⟨u, uc, cc, rfl, hru, hy, hno⟩ := hh; have hul := hru.len; have huo := hru.one; rcases hm : X8 k ks with _ | x; rotate_left; obtain ⟨rfl, rfl⟩ := hy _ hm; rotate_left; obtain rfl := hno hm; rw [hm] at hrd')
 refine E3 ?_
 refine sE (A6 rfl) rfl (fun b149 => ?_)
 refine sS rfl rfl rfl hul huo rfl ?_ (hu := by exact D5 hul.symm)
 refine A7 ?_
 refine sP (J3 rfl rfl (by omega)) rfl rfl ?_
 refine J2 ?_
 refine sB (qE rfl rfl) rfl rfl (fun h169 => ?_) (fun h169 => ?_)
 refine K3 ?_
 refine D9 (rC rfl (A4 rfl rfl)) (rT rfl) (rT rfl) ?_
 (obtain rfl : k = 1 := B32 hk8 (by omega); rw [hrd']; exact S5.mk rfl (M8 _))
 refine D6 ?_
 (have hk7 : k = 6 ∨ k = 7 ∨ k = 8 ∨ k = 9 ∨ k = 11 ∨ k = 12 ∨ k = 14 := (by rcases hk8 with h1 | hh; (rw [h1] at hops; have : E2 1 = 0 := rfl; omega); exact hh); refine D8 rfl (hCA hk7 _ hle1) rfl rfl (fun v G2 hle2 hh => ?_); obtain ⟨w, wc, rfl, hrw, hw1⟩ := hh; have hwl := hrw.len; have hwo := hrw.one)
 refine E3 ?_
 refine sS rfl rfl rfl hwl hwo rfl ?_ (hu := by exact D5 hwl.symm)
 refine B0 ?_
 refine D9 (rC rfl (A2 rfl rfl (A9 (by repeat first | exact mH | apply mT)) hwl)) (rT rfl) (rT rfl) ?_
 (rw [hrd']; exact A9l (r' := R9) rfl rfl hrw hw1)
 refine E3 ?_
 refine sE (A6 rfl) rfl (fun b208 => ?_)
 refine sS rfl rfl rfl hul huo rfl ?_ (hu := by exact D5 hul.symm)
 refine A7 ?_
 refine sP (Z5 rfl rfl (by omega)) rfl rfl ?_
 refine B0 ?_
 refine sL (A2 rfl rfl (A9 (by repeat first | exact mH | apply mT)) hul) rfl rfl ?_
 refine sQ (qM rfl) rfl ?_
 refine sS rfl rfl rfl hul huo rfl ?_ (hu := by exact D5 hul.symm)
 refine A7 ?_
 refine D9 (rC rfl (A2 rfl rfl (A9 (by repeat first | exact mH | apply mT)) hul)) (rT rfl) (rT rfl) ?_
 (rw [hrd', hm]; exact S5.mk rfl hru)
def M1 (r : Stp) : IM → Value → List A5 → Prop := J4 fun G' v => ∃ cells, v = .tuple ⟨[.agg ⟨cells⟩, .int .i64 r.2.1, .int .i64 r.2.2]⟩ ∧ A8 G' r.1 cells
theorem M1.mk {G : IM} {r : Stp} {u : Tm} {c l : Int} {cells : List Value} (h : r = (u, c, l)) (hr : A8 G u cells) : M1 r G (.tuple ⟨[.agg ⟨cells⟩, .int .i64 c, .int .i64 l]⟩) [] := by
 subst h; exact ⟨rfl, cells, rfl, hr⟩
theorem A43 {t : Tm} (h : P0 t = true) : t.small := A2z t (A1O h).1
theorem A6w {e : Tm} (h : P0 e = false) : J6 e = (K1, 3, 0) := by unfold J6; rw [if_pos h]; rfl
theorem A6x {e : Tm} (h : P0 e = true) (h2 : K6 e = true) : J6 e = (e, 0, 0) := by unfold J6; rw [if_neg (by rw [h]; decide), if_pos h2]
theorem A6y {e : Tm} (h : P0 e = true) (h2 : K6 e = false) (h3 : (K2 e).2.1 ≠ 1) : J6 e = (K1, (K2 e).2.1, (K2 e).2.2) := by
 unfold J6; rw [if_neg (by rw [h]; decide), if_neg (by rw [h2]; decide), if_pos h3]
theorem A6z {e : Tm} (h : P0 e = true) (h2 : K6 e = false) (h3 : (K2 e).2.1 = 1) (h4 : P0 (K2 e).1 = false) : J6 e = (K1, 4, 0) := by
 unfold J6; rw [if_neg (by rw [h]; decide), if_neg (by rw [h2]; decide), if_neg (by omega), if_pos h4]
theorem A6A {e : Tm} (h : P0 e = true) (h2 : K6 e = false) (h3 : (K2 e).2.1 = 1) (h4 : P0 (K2 e).1 = true) : J6 e = ((K2 e).1, 1, 0) := by
 unfold J6; rw [if_neg (by rw [h]; decide), if_neg (by rw [h2]; decide), if_neg (by omega), if_neg (by rw [h4]; decide)]
theorem B34 {e : Tm} (h : (J6 e).2.1 = 1) : P0 (J6 e).1 = true := by
 cases h1 : P0 e with
 | false => rw [A6w h1] at h; simp at h
 | true =>
  cases h2 : K6 e with
  | true => rw [A6x h1 h2] at h; simp at h
  | false =>
   by_cases h3 : (K2 e).2.1 = 1
   ·cases h4 : P0 (K2 e).1 with
    | false => rw [A6z h1 h2 h3 h4] at h; simp at h
    | true => rw [A6A h1 h2 h3 h4]; exact h4
   ·rw [A6y h1 h2 h3] at h; exact absurd h h3
theorem B35 (t : Tm) (G : IM) (cells : List Value) (hr : A8 G t cells) : Fn Tryz.prog 95 [.agg ⟨cells⟩] [] G (M1 (J6 t)) := by
 have hRl := hr.len
 have hRo := hr.one
 have hV := A4D t G cells hr
 have hI := A9b t G cells hr
 refine C0 Tryz.func95 rfl Tryz.ntmps95 Tryz.results95 rfl ?_
 intro w0
 refine tS (tR ?_)
 refine sE (C5 rfl rfl) rfl (fun b3 => ?_)
 refine sE (A6 rfl) rfl (fun b4 => ?_)
 refine B0 ?_
 refine B8 ?_
 refine tS (tR ?_)
 refine sL (A2 rfl rfl (A9 (by repeat first | exact mH | apply mT)) hRl) rfl rfl ?_
 refine H4 rfl (hV) rfl rfl (fun h14 => ?_) (fun h14 => ?_)
 refine B4 ?_
 refine sL (A2 rfl rfl (A9 (by repeat first | exact mH | apply mT)) hRl) rfl rfl ?_
 refine H4 rfl (hI) rfl rfl (fun h23 => ?_) (fun h23 => ?_)
 refine A7 ?_
 refine sL (A2 rfl rfl (A9 (by repeat first | exact mH | apply mT)) hRl) rfl rfl ?_
 (refine D8 rfl (A51 t G cells (A43 (by assumption)) hr) rfl rfl (fun v G1 hle1 hh => ?_); obtain ⟨cs1, F1, rfl, hs1, hn1⟩ := hh; have hul := hs1.R.len; have huo := hs1.R.one)
 refine sS rfl rfl rfl hul huo rfl ?_ (hu := by exact D5 hul.symm)
 refine B4 ?_
 refine D9 (rC rfl (A2 rfl rfl (A9 (by repeat first | exact mH | apply mT)) hul)) (rT rfl) (rT rfl) ?_
 (exact M1.mk (A6x (by assumption) (by assumption)) (hs1.R.mono (C4.le _ _)))
 refine E4 ?_
 refine sL (A2 rfl rfl (A9 (by repeat first | exact mH | apply mT)) hRl) rfl rfl ?_
 (refine D8 rfl (B33 t G cells (A1O (by assumption)).1 (by assumption) hr) rfl rfl (fun v G1 hle1 hh => ?_); obtain ⟨u, uc, rfl, hru, hu1⟩ := hh; have hul := hru.len; have huo := hru.one; have hVu := A4D u G1 uc hru)
 refine B6 ?_
 refine sE (A6 rfl) rfl (fun b57 => ?_)
 refine sS rfl rfl rfl hul huo rfl ?_ (hu := by exact D5 hul.symm)
 refine B0 ?_
 refine B8 ?_
 refine E3 ?_
 refine sB (O9 rfl rfl) rfl rfl (fun h68 => ?_) (fun h68 => ?_)
 refine S6 ?_
 refine D9 (rC rfl (A4 rfl rfl)) (rT rfl) (rT rfl) ?_
 (exact M1.mk (A6y (by assumption) (by assumption) (by omega)) (M8 _))
 refine A7 ?_
 refine sL (A2 rfl rfl (A9 (by repeat first | exact mH | apply mT)) hul) rfl rfl ?_
 refine H4 rfl (hVu) rfl rfl (fun h95 => ?_) (fun h95 => ?_)
 refine J5 ?_
 refine sL (A2 rfl rfl (A9 (by repeat first | exact mH | apply mT)) hul) rfl rfl ?_
 (refine D8 rfl (A51 u G1 uc (A43 (by assumption)) hru) rfl rfl (fun v G2 hle2 hh => ?_); obtain ⟨cs2, F2, rfl, hs2, hn2⟩ := hh; have hwl := hs2.R.len; have hwo := hs2.R.one)
 refine sS rfl rfl rfl hwl hwo rfl ?_ (hu := by exact D5 hwl.symm)
 refine B0 ?_
 refine D9 (rC rfl (A2 rfl rfl (A9 (by repeat first | exact mH | apply mT)) hwl)) (rT rfl) (rT rfl) ?_
 (have h9 := hu1 (by omega); subst h9; exact M1.mk (A6A (by assumption) (by assumption) (by omega) (by assumption)) (hs2.R.mono (C4.le _ _)))
 refine J9 ?_
 refine D9 (rC rfl (A4 rfl rfl)) (rT rfl) (rT rfl) ?_
 (have h9 := hu1 (by omega); subst h9; exact M1.mk (A6z (by assumption) (by assumption) (by omega) (by assumption)) (M8 _))
 refine J9 ?_
 refine D9 (rC rfl (A4 rfl rfl)) (rT rfl) (rT rfl) ?_
 (exact M1.mk (A6w (by assumption)) (M8 _))
def R1 : Nat → Tm → Tm × Int × Int × Nat
 | 0, e => ((J6 e).1, (J6 e).2.1, (J6 e).2.2, 0)
 | n + 1, e => if (J6 e).2.1 = 1 then ((R1 n (J6 e).1).1, (R1 n (J6 e).1).2.1, (R1 n (J6 e).1).2.2.1, (R1 n (J6 e).1).2.2.2 + 1)
  else ((J6 e).1, (J6 e).2.1, (J6 e).2.2, 0)
theorem A9m (e : Tm) : R1 0 e = ((J6 e).1, (J6 e).2.1, (J6 e).2.2, 0) := by rw [R1]
theorem A9n {n : Nat} {e : Tm} (h : (J6 e).2.1 = 1) : R1 (n + 1) e = ((R1 n (J6 e).1).1, (R1 n (J6 e).1).2.1, (R1 n (J6 e).1).2.2.1, (R1 n (J6 e).1).2.2.2 + 1) := by rw [R1, if_pos h]
theorem A9o {n : Nat} {e : Tm} (h : (J6 e).2.1 ≠ 1) : R1 (n + 1) e = ((J6 e).1, (J6 e).2.1, (J6 e).2.2, 0) := by rw [R1, if_neg h]
theorem A9p : ∀ (n : Nat) (e : Tm), (R1 n e).2.1 = 1 → S9 n e = (K1, 5, 0, (R1 n e).2.2.2)
 | 0, e, h => by rw [A9m] at h ⊢; rw [S9, if_pos h]
 | n + 1, e, h => by
  by_cases h1 : (J6 e).2.1 = 1
  ·rw [A9n h1] at h ⊢
   rw [S9, if_pos h1, A9p n _ h]
  ·rw [A9o h1] at h; exact absurd h h1
theorem A9q : ∀ (n : Nat) (e : Tm), (R1 n e).2.1 ≠ 1 → S9 n e = R1 n e
 | 0, e, h => by rw [A9m] at h ⊢; rw [S9, if_neg h]
 | n + 1, e, h => by
  by_cases h1 : (J6 e).2.1 = 1
  ·rw [A9n h1] at h ⊢
   rw [S9, if_pos h1, A9q n _ h]
  ·rw [A9o h1]; rw [S9, if_neg h1]
theorem A9r : ∀ (n : Nat) (e : Tm), (R1 n e).2.2.2 ≤ n
 | 0, e => Nat.le_refl _
 | n + 1, e => by
  have := A9r n (J6 e).1
  simp only [R1]
  split
  ·simp only; omega
  ·simp only; omega
theorem A9s (n : Nat) (e : Tm) : (S9 n e).2.2.2 = (R1 n e).2.2.2 := by
 by_cases h : (R1 n e).2.1 = 1
 ·rw [A9p n e h]
 ·rw [A9q n e h]
def EvP (r : Tm × Int × Int × Nat) : IM → Value → List A5 → Prop := J4 fun G' v => ∃ cells, v = .tuple ⟨[.agg ⟨cells⟩, .int .i64 r.2.1, .int .i64 r.2.2.1, .int .i64 (r.2.2.2 : Int)]⟩ ∧ A8 G' r.1 cells
def A0h (i : Nat) (r : Tm × Int × Int × Nat) : Tm × Int × Int × Nat := (r.1, r.2.1, r.2.2.1, r.2.2.2 + i)
theorem B36 {m i : Nat} {e : Tm} (h : (J6 e).2.1 ≠ 1 ∨ m = 0) : A0h i (R1 m e) = ((J6 e).1, (J6 e).2.1, (J6 e).2.2, i) := by
 cases m with
 | zero => simp [A0h, R1]
 | succ m =>
  rcases h with h | h
  ·simp only [A0h, R1]; rw [if_neg h]; simp
  ·cases h
theorem B37 {m i : Nat} {e : Tm} (h : (J6 e).2.1 = 1) (hm : 0 < m) : A0h i (R1 m e) = A0h (i + 1) (R1 (m - 1) (J6 e).1) := by
 obtain ⟨k, rfl⟩ : ∃ k, m = k + 1 := ⟨m - 1, by omega⟩
 simp only [A0h, R1]; rw [if_pos h]; simp only [Nat.add_sub_cancel, Nat.add_assoc, Nat.add_comm 1 i]
section fin
variable {P : Program} {Γ : L9} {env : M4} {hp : List A5} {G : IM}
theorem B38 {post : IM → Value → List A5 → Prop} {σ : Sy} (hk : post σ.G (.tuple ⟨[]⟩) []) : A0x P Γ [] post .normal σ := ⟨[], .nil, [], σ.hp, by simp, hk⟩
theorem A44 {r r2 r3 r4 : ResultVar} {post : IM → Value → List A5 → Prop} {v v2 v3 v4 : Value} (h : X3 P Γ ⟨env, hp, G⟩ r v) (h2 : X3 P Γ ⟨env, hp, G⟩ r2 v2) (h3 : X3 P Γ ⟨env, hp, G⟩ r3 v3) (h4 : X3 P Γ ⟨env, hp, G⟩ r4 v4) (hk : post G (.tuple ⟨[v, v2, v3, v4]⟩) []) :
  A0x P Γ [r, r2, r3, r4] post .ret ⟨env, hp, G⟩ := A4l (.cons h (.cons h2 (.cons h3 (.cons h4 .nil)))) hk
end fin
theorem EvP.mk {G : IM} {r : Tm × Int × Int × Nat} {u : Tm} {c l : Int} {i : Nat} {cells : List Value} (h : r = (u, c, l, i)) (hr : A8 G u cells) : EvP r G (.tuple ⟨[.agg ⟨cells⟩, .int .i64 c, .int .i64 l, .int .i64 (i : Int)]⟩) [] := by
 subst h; exact ⟨rfl, cells, rfl, hr⟩
theorem B39 (e : Tm) (n : Nat) (hn : n ≤ 300) (fid : FuncId) [B5 Tryz.prog fid] (us cs : List Value) (hq : ∀ (G : IM) (u : Tm) (cells : List Value), A8 G u cells → Fn Tryz.prog fid (us ++ [.agg ⟨cells⟩] ++ cs) [] G (I5 (.tuple ⟨[]⟩) G))
  (G : IM) (cells : List Value) (hr : A8 G e cells) : Fn Tryz.prog 49 [.agg ⟨cells⟩, .int .i64 (n : Int), .func (.func fid) ⟨us⟩ ⟨cs⟩] [] G (EvP (R1 n e)) := by
 have hRl := hr.len
 have hRo := hr.one
 have hq0 := hq G e cells hr
 refine C0 Tryz.func49 rfl Tryz.ntmps49 Tryz.results49 rfl ?_
 intro w0
 refine tS (tR ?_)
 refine sE (C5 rfl rfl) rfl (fun b3 => ?_)
 refine sE (A6 rfl) rfl (fun b4 => ?_)
 refine D6 ?_
 refine sL (A2 rfl rfl (A9 (by repeat first | exact mH | apply mT)) hRl) rfl rfl ?_
 (refine A7v rfl rfl hq0 rfl rfl ?_)
 refine B4 ?_
 refine B8 ?_
 (refine I2 (fun (x : Nat × Tm × List Value × IM) => ⟨[(10, .int .i64 (x.1 : Int)), (1, .int .i64 (n : Int)), (2, .func (.func fid) ⟨us⟩ ⟨cs⟩), (3, .pointer (some ⟨b3, 0, none⟩)), (6, .pointer (some ⟨b4, 0, none⟩))], [.blk b3 x.2.2.1, .blk b4 [.int .i64 0, .string ⟨⟨[]⟩⟩, .int .i64 0, .int .i64 0, .slice none 0 0, .int .i64 0, .slice none 0 0, .int .i64 0, .slice none 0 0]], x.2.2.2⟩) (fun x => x.1 ≤ n ∧ B9 G x.2.2.2 ∧ A8 x.2.2.2 x.2.1 x.2.2.1 ∧ A0h x.1 (R1 (n - x.1) x.2.1) = R1 n e) (fun x => n - x.1) (0, e, cells, G) ?_ ?_ ?_)
 (simp only [H6]; exact D3)
 (exact ⟨Nat.zero_le _, B9.refl _, hr, rfl⟩)
 (rintro ⟨i, u, uc, Gi⟩ ⟨hi, hle, hru, hev⟩; simp only [] at hi hle hru hev ⊢; have hul := hru.len; have huo := hru.one)
 refine tS ?_
 refine B8 ?_
 refine tS (tR ?_)
 refine sL (A2 rfl rfl (A9 (by repeat first | exact mH | apply mT)) hul) rfl rfl ?_
 (refine D8 rfl (B35 u Gi uc hru) rfl rfl (fun v G1 hle1 hh => ?_); obtain ⟨wc, hv, hrw⟩ := hh; have hwl := hrw.len; have hwo := hrw.one; have hend := @B36 (n - i) i u; have hgo := @B37 (n - i) i u; generalize J6 u = r at hv hrw hend hgo; obtain ⟨w, c, l⟩ := r; simp only at hv hrw hend hgo; subst hv)
 refine B6 ?_
 refine sE (A6 rfl) rfl (fun b37 => ?_)
 refine sS rfl rfl rfl hwl hwo rfl ?_ (hu := by exact D5 hwl.symm)
 refine D6 ?_
 refine sB (O9 rfl rfl) rfl rfl (fun h47 => ?_) (fun h47 => ?_)
 refine J5 ?_
 refine sL (A2 rfl rfl (A9 (by repeat first | exact mH | apply mT)) hwl) rfl rfl ?_
 refine E3 ?_
 refine sS rfl rfl rfl hwl hwo rfl ?_ (hu := by exact D5 hwl.symm)
 refine J2 ?_
 refine A44 (rC rfl (A2 rfl rfl (A9 (by repeat first | exact mH | apply mT)) hwl)) (rT rfl) (rT rfl) (rT rfl) ?_
 (exact EvP.mk (by rw [← hev]; exact hend (by omega)) hrw)
 refine E3 ?_
 refine sB (qE rfl rfl) rfl rfl (fun h79 => ?_) (fun h79 => ?_)
 refine A7 ?_
 refine sL (A2 rfl rfl (A9 (by repeat first | exact mH | apply mT)) hwl) rfl rfl ?_
 refine E3 ?_
 refine sS rfl rfl rfl hwl hwo rfl ?_ (hu := by exact D5 hwl.symm)
 refine J2 ?_
 refine A44 (rC rfl (A2 rfl rfl (A9 (by repeat first | exact mH | apply mT)) hwl)) (rT rfl) (rT rfl) (rT rfl) ?_
 (exact EvP.mk (by rw [← hev]; exact hend (by omega)) hrw)
 refine D6 ?_
 refine sL (A2 rfl rfl (A9 (by repeat first | exact mH | apply mT)) hwl) rfl rfl ?_
 refine U8 rfl rfl rfl hwl hwo rfl (by repeat first | exact Sw.here | apply Sw.there) (by exact D5 (hul.trans hwl.symm)) ?_
 refine B6 ?_
 refine sL (A2 rfl rfl (A9 (by repeat first | exact mH | apply mT)) hwl) rfl rfl ?_
 (refine A7v rfl rfl (hq G1 w wc hrw) rfl rfl ?_)
 refine B0 ?_
 refine sP (H2 rfl rfl (by omega) (by omega)) rfl rfl ?_
 refine D7 ?_
 refine H9 (i + 1, w, wc, G1) ?_ ?_ ?_
 (simp only [H6]; exact D3)
 (dsimp only; exact ⟨by omega, hle.trans hle1, hrw, by rw [← hev, hgo (by omega) (by omega), show n - (i + 1) = n - i - 1 by omega]⟩)
 (show n - (i + 1) < n - i; omega)
theorem A9t (fuel : Int) (G : IM) : Fn Tryz.prog 37 [.int .i64 fuel] [] G (I5 (.bool (R8 fuel 0 300)) G) := by
 refine C0 Tryz.func37 rfl Tryz.ntmps37 Tryz.results37 rfl ?_
 intro w0
 refine D6 ?_
 refine H3 rfl ((A05 _ _ _ _)) rfl rfl ?_
 refine B0 ?_
 (exact ⟨rfl, rfl, rfl⟩)
mutual
def A3i (L : Int → Prop) : Tm → Prop
 | .mk k nm num ty fr lb ks => (k = 14 → L lb) ∧ A3j L ks
def A3j (L : Int → Prop) : List Tm → Prop
 | [] => True
 | t :: ts => A3i L t ∧ A3j L ts
end
theorem A6B {L : Int → Prop} {k : Int} {nm : ByteArray} {num : Int} {ty fr : Ty} {lb : Int} {ks : List Tm} : A3i L (.mk k nm num ty fr lb ks) ↔ (k = 14 → L lb) ∧ A3j L ks := by rw [A3i]
theorem A6C {L : Int → Prop} : ∀ {ts : List Tm}, A3j L ts ↔ ∀ t ∈ ts, A3i L t
 | [] => by simp [A3j]
 | t :: ts => by rw [A3j, A6C (ts := ts)]; simp
def B6S (L : Int → Prop) (T : Ty) (r : Stp) : Prop := (r.2.1 = 1 ∧ A0Q [] r.1 = some T ∧ A3i L r.1) ∨ (r.2.1 = 2 ∧ L r.2.2)
mutual
theorem A9u : ∀ a b : Ty, K0 a b = true → K0 b a = true
 | .mk k ks, .mk k' ks', h => by
  rw [S7] at h ⊢
  simp only [Bool.or_eq_true, Bool.and_eq_true, decide_eq_true_eq] at h ⊢
  rcases h with (h | h) | h
  ·exact .inl (.inr h)
  ·exact .inl (.inl h)
  ·exact .inr ⟨h.1.symm, A9v ks ks' h.2⟩
theorem A9v : ∀ xs ys : List Ty, M9 xs ys = true → M9 ys xs = true
 | [], [], _ => rfl
 | [], b :: ys, h => by simp [M9] at h
 | a :: xs, [], h => by simp [M9] at h
 | a :: xs, b :: ys, h => by
  simp only [M9, Bool.and_eq_true] at h ⊢
  exact ⟨A9u a b h.1, A9v xs ys h.2⟩
end
mutual
theorem A9w : ∀ a b : Ty, K0 a b = true → K0 a (U7 a b) = true ∧ K0 b (U7 a b) = true
 | .mk k ks, .mk k' ks', h => by
  rw [A09]
  by_cases h1 : k = 1
  ·rw [if_pos h1]
   exact ⟨h, A2F _⟩
  ·rw [if_neg h1]
   by_cases h2 : k' = 1
   ·rw [if_pos h2]
    exact ⟨A2F _, A9u _ _ h⟩
   ·rw [if_neg h2]
    rw [S7] at h
    simp only [Bool.or_eq_true, Bool.and_eq_true, decide_eq_true_eq] at h
    have h3 : k = k' ∧ M9 ks ks' = true := by
     rcases h with (h | h) | h
     ·exact absurd h h1
     ·exact absurd h h2
     ·exact h
    obtain ⟨m1, m2⟩ := A9x ks ks' h3.2
    rw [S7, S7, m1, m2]
    simp [h3.1]
theorem A9x : ∀ xs ys : List Ty, M9 xs ys = true → M9 xs (T6 xs ys) = true ∧ M9 ys (T6 xs ys) = true
 | [], [], _ => ⟨rfl, rfl⟩
 | [], b :: ys, h => by simp [M9] at h
 | a :: xs, [], h => by simp [M9] at h
 | a :: xs, b :: ys, h => by
  simp only [M9, Bool.and_eq_true] at h
  obtain ⟨m1, m2⟩ := A9w a b h.1
  obtain ⟨m3, m4⟩ := A9x xs ys h.2
  simp only [T6, M9, m1, m2, m3, m4]
  exact ⟨rfl, rfl⟩
end
theorem B4a {k : Int} {a b : Ty} (hk : k = 4 ∨ k = 5) (h : F9 (.mk k [a, b]) = true) : F9 a = true ∧ F9 b = true := by
 obtain ⟨x, y, he, h1, h2⟩ := A4Y hk h
 cases he
 exact ⟨h1, h2⟩
theorem B4b {k : Int} (hk : k = 4 ∨ k = 5) : F9 (.mk k [P8, P8]) = true := by rcases hk with rfl | rfl <;> decide
theorem A9y {k : Int} {t a b : Ty} (hk : k = 4 ∨ k = 5) (ht : F9 t = true) (h : R0 k t = some (a, b)) : F9 (.mk k [a, b]) = true ∧ K0 t (.mk k [a, b]) = true := by
 obtain ⟨tk, ks⟩ := t
 rw [A1P] at h
 by_cases he : tk = k
 ·subst he
  rw [if_pos rfl] at h
  obtain ⟨x, y, rfl, _, _⟩ := A4Y hk ht
  cases h
  exact ⟨ht, A2F _⟩
 ·rw [if_neg he] at h
  by_cases h1 : tk = 1
  ·rw [if_pos h1] at h
   cases h
   refine ⟨B4b hk, ?_⟩
   rw [S7, h1]; rfl
  ·rw [if_neg h1] at h; cases h
structure Wt (cx : Cx) (k : Int) (nm : ByteArray) (ty : Ty) (h w : List Ty) (t : Ty) : Prop where
 len : w = [] ∨ w.length = h.length
 ok : ∀ i, (hi : i < w.length) → (hh : i < h.length) → K0 h[i] w[i] = true ∧ F9 w[i] = true
 again : k ≠ 13 → L8 cx k nm ty (if w = [] then h else w) = some (w, t)
 asT : k = 13 → w = [t]
theorem A6D {cx : Cx} {k : Int} {nm : ByteArray} {ty : Ty} {h w : List Ty} {t : Ty} (hh : ∀ a ∈ h, F9 a = true) (hty : k = 13 → F9 ty = true) (hn : E2 k = (h.length : Int)) (h14 : k ≠ 14) (hw : L8 cx k nm ty h = some (w, t)) : Wt cx k nm ty h w t := by
 have hkr := A3X (by rw [hn]; omega : 0 ≤ E2 k)
 have hkk : k = 1 ∨ k = 2 ∨ (k = 3 ∨ k = 4) ∨ k = 5 ∨ k = 6 ∨ (k = 7 ∨ k = 8) ∨ k = 9 ∨ k = 10 ∨ (k = 11 ∨ k = 12) ∨ k = 13 := by omega
 have nil : w = [] → k ≠ 13 → Wt cx k nm ty h w t := by
  rintro rfl h13
  exact ⟨.inl rfl, fun i hi => by simp at hi, fun _ => by rw [if_pos rfl]; exact hw, fun h => absurd h h13⟩
 rcases hkk with rfl | rfl | hk | rfl | rfl | hk | rfl | rfl | hk | rfl
 ·refine nil ?_ (by decide)
  rw [mW1] at hw; split at hw <;> cases hw; rfl
 ·refine nil ?_ (by decide)
  rw [mW2] at hw; cases hw; rfl
 ·refine nil ?_ (by omega)
  rw [A3P hk] at hw; cases hw; rfl
 ·refine nil ?_ (by decide)
  rw [mW5] at hw; cases hw; rfl
 ·match h, (show h.length = 2 by have : E2 6 = 2 := rfl; omega) with
  | [x, y], _ =>
  rw [mW6] at hw
  simp only [List.getD_cons_zero, List.getD_cons_succ] at hw
  split at hw
  ·rename_i a b hm
   split at hw
   ·rename_i hc
    cases hw
    obtain ⟨v1, v2⟩ := A9y (.inl rfl) (hh x (by simp)) hm
    obtain ⟨v3, v4⟩ := B4a (.inl rfl) v1
    refine ⟨.inr rfl, fun i hi hi2 => ?_, fun _ => ?_, fun h => absurd h (by decide)⟩
    ·match i, hi with
     | 0, _ => exact ⟨v2, v1⟩
     | 1, _ => exact ⟨hc, v3⟩
    ·rw [if_neg (by simp), mW6]
     simp only [List.getD_cons_zero, List.getD_cons_succ, A1P, if_true, A2F]
   ·cases hw
  ·cases hw
 ·match h, (show h.length = 2 by rcases hk with rfl | rfl <;> (first | (have : E2 7 = 2 := rfl; omega) | (have : E2 8 = 2 := rfl; omega))) with
  | [x, y], _ =>
  rw [V8 hk] at hw
  simp only [List.getD_cons_zero, List.getD_cons_succ] at hw
  split at hw
  ·rename_i hc
   cases hw
   refine ⟨.inr rfl, fun i hi hi2 => ?_, fun _ => ?_, fun h => by omega⟩
   ·match i, hi with
    | 0, _ => exact ⟨hc.1, (show F9 S8 = true by decide)⟩
    | 1, _ => exact ⟨hc.2, (show F9 S8 = true by decide)⟩
   ·rw [if_neg (by simp), V8 hk]
    simp only [List.getD_cons_zero, List.getD_cons_succ, A2F, and_self, if_true]
  ·cases hw
 ·match h, (show h.length = 3 by have : E2 9 = 3 := rfl; omega) with
  | [x, y, z], _ =>
  rw [mW9] at hw
  simp only [List.getD_cons_zero, List.getD_cons_succ] at hw
  split at hw
  ·rename_i hc
   cases hw
   obtain ⟨c1, c2⟩ := A9w y z hc.2
   have vm := A6j y z 1 hc.2 (hh y (by simp)) (hh z (by simp))
   refine ⟨.inr rfl, fun i hi hi2 => ?_, fun _ => ?_, fun h => absurd h (by decide)⟩
   ·match i, hi with
    | 0, _ => exact ⟨hc.1, (show F9 W5 = true by decide)⟩
    | 1, _ => exact ⟨c1, vm⟩
    | 2, _ => exact ⟨c2, vm⟩
   ·rw [if_neg (by simp), mW9]
    simp only [List.getD_cons_zero, List.getD_cons_succ, A2F, and_self, if_true, A6m]
  ·cases hw
 ·refine nil ?_ (by decide)
  rw [A4W] at hw; cases hw; rfl
 ·match h, (show h.length = 1 by rcases hk with rfl | rfl <;> (first | (have : E2 11 = 1 := rfl; omega) | (have : E2 12 = 1 := rfl; omega))) with
  | [x], _ =>
  rw [A3b hk] at hw
  simp only [List.getD_cons_zero] at hw
  split at hw
  ·rename_i a b hm
   cases hw
   obtain ⟨v1, v2⟩ := A9y (.inr rfl) (hh x (by simp)) hm
   refine ⟨.inr rfl, fun i hi hi2 => ?_, fun _ => ?_, fun h => by omega⟩
   ·match i, hi with
    | 0, _ => exact ⟨v2, v1⟩
   ·rw [if_neg (by simp), A3b hk]
    simp only [List.getD_cons_zero, List.getD_cons_succ, A1P, if_true]
  ·cases hw
 ·match h, (show h.length = 1 by have : E2 13 = 1 := rfl; omega) with
  | [x], _ =>
  rw [A2C] at hw
  simp only [List.getD_cons_zero] at hw
  split at hw
  ·rename_i hc
   cases hw
   refine ⟨.inr rfl, fun i hi hi2 => ?_, fun h => absurd rfl h, fun _ => rfl⟩
   match i, hi with
   | 0, _ => exact ⟨hc, hty rfl⟩
  ·cases hw
theorem B4c {l : Int} (h1 : 1 ≤ l) (h2 : l ≤ 99) : A01 l = true := by
 unfold A01
 rw [A14.2 ⟨h1, h2⟩]; rfl
theorem B4d {u : Tm} {a b : Ty} {l D : Int} (hu : M5 40 13 u (D + 1) = true) (hc : K0 a b = true) (ha : F9 a = true) (hb : F9 b = true) (h1 : 1 ≤ l) (h2 : l ≤ 99) (hD : D ≤ 40) : M5 40 13 (L3 u a b l) D = true := by
 unfold L3
 rw [A08 hD (by decide) (U2.2 ⟨rfl, by simp, fun _ => rfl, by simp, fun _ => rfl, fun _ => hb, by simp, fun _ => ⟨by simp [A00, ha, hb, hc], B4c h1 h2⟩, by simp⟩)]
 simp [M3, hu]
theorem A6E {cx : Cx} : ∀ (us : List Tm) (h w : List Ty) (l D : Int), us.length = h.length → w.length = h.length → (∀ i, (hi : i < w.length) → (hh : i < h.length) → K0 h[i] w[i] = true ∧ F9 w[i] = true) → (∀ a ∈ h, F9 a = true) → Y5 cx us = some h → M3 40 13 us (D + 1) = true → 0 ≤ l → (E5 us h w l).2 ≤ 99 → D ≤ 40 →
  Y5 cx (E5 us h w l).1 = some w ∧ M3 40 13 (E5 us h w l).1 D = true ∧ (E7 (E5 us h w l).1 : Int) = E7 us + ((E5 us h w l).2 - l)
 | [], [], [], l, D, _, _, _, _, ht, _, _, _, _ => by simp [E5, Y5, M3, E7]
 | [], a :: h, w, l, D, hl, _, _, _, _, _, _, _, _ => by simp at hl
 | u :: us, [], w, l, D, hl, _, _, _, _, _, _, _, _ => by simp at hl
 | [], [], b :: w, l, D, _, hl, _, _, _, _, _, _, _ => by simp at hl
 | u :: us, a :: h, [], l, D, _, hl, _, _, _, _, _, _, _ => by simp at hl
 | u :: us, a :: h, b :: w, l, D, h1, h2, hw, hv, ht, hs, hl, h99, hD => by
  rw [Y5] at ht
  split at ht
  ·cases ht
  ·rename_i a' ha
   split at ht
   ·cases ht
   ·rename_i h' hh'
    simp only [Option.some.injEq, List.cons.injEq] at ht
    obtain ⟨rfl, rfl⟩ := ht
    rw [M3, Bool.and_eq_true] at hs
    obtain ⟨c1, c2⟩ := hw 0 (by simp) (by simp)
    have hw' : ∀ i, (hi : i < w.length) → (hh : i < h'.length) → K0 h'[i] w[i] = true ∧ F9 w[i] = true := fun i hi hh => hw (i + 1) (by simpa using hi) (by simpa using hh)
    have hv' : ∀ x ∈ h', F9 x = true := fun x hx => hv x (List.mem_cons_of_mem _ hx)
    simp only [E5] at h99 ⊢
    by_cases he : N0 a' b = true
    ·simp only [if_pos he] at h99 ⊢
     obtain ⟨i1, i2, i3⟩ := A6E us h' w l D (by simpa using h1) (by simpa using h2) hw' hv' hh' hs.2 hl h99 hD
     have hab := (A1K _ _).1 he
     subst hab
     refine ⟨by rw [Y5, ha, i1], ?_, ?_⟩
     ·rw [M3, Bool.and_eq_true]; exact ⟨A6i 40 13 u (D + 1) D (by omega) hs.1, i2⟩
     ·simp only [E7]; omega
    ·simp only [if_neg he] at h99 ⊢
     obtain ⟨i1, i2, i3⟩ := A6E us h' w (l + 1) D (by simpa using h1) (by simpa using h2) hw' hv' hh' hs.2 (by omega) h99 hD
     have hlab := A1p us h' w (l + 1)
     refine ⟨by rw [Y5, L3, B3j ha, i1], ?_, ?_⟩
     ·rw [M3, Bool.and_eq_true]
      exact ⟨B4d hs.1 c1 (hv a' List.mem_cons_self) c2 (by omega) (by omega) hD, i2⟩
     ·simp only [E7, A16]; omega
def A9z (cx : Cx) (t : Tm) (D l : Int) (u : Tm) (a : Ty) (l' : Int) : Prop := M5 40 13 u D = true ∧ A0Q cx u = some a ∧ F9 a = true ∧ l ≤ l' ∧ l' + 1 ≤ l + (D0 t : Int) ∧ (D0 u : Int) ≤ D0 t + (l' - l)
theorem A6F (ks : List Tm) (ih : ∀ t ∈ ks, ∀ (d D : Int) (cx : Cx) (l : Int) (u : Tm) (a : Ty) (l' : Int), M5 12 14 t d = true → W2 cx → 0 ≤ l → M0 cx t l = some (u, a, l') → l' ≤ 99 → D + 2 * (13 - d) ≤ 41 → A9z cx t D l u a l') :
  ∀ (d D : Int) (cx : Cx) (l : Int) (us : List Tm) (h : List Ty) (l' : Int), M3 12 14 ks d = true → W2 cx → 0 ≤ l → L0 cx ks l = some (us, h, l') → l' ≤ 99 → D + 2 * (13 - d) ≤ 41 →
   M3 40 13 us D = true ∧ Y5 cx us = some h ∧ (∀ a ∈ h, F9 a = true) ∧ l ≤ l' ∧ l' + ks.length ≤ l + (E7 ks : Int) ∧ (E7 us : Int) ≤ E7 ks + (l' - l) ∧ h.length = ks.length ∧ us.length = ks.length := by
 induction ks with
 | nil =>
  intro d D cx l us h l' _ _ _ he _ _
  simp only [L0, Option.some.injEq, Prod.mk.injEq] at he
  obtain ⟨rfl, rfl, rfl⟩ := he
  simp [M3, Y5, E7]
 | cons t ts ihl =>
  intro d D cx l us h l' hs hcx hl he h99 hD
  rw [M3, Bool.and_eq_true] at hs
  rw [L0] at he
  split at he
  ·cases he
  ·rename_i u a l1 h1
   split at he
   ·cases he
   ·rename_i us' h' l2 h2
    simp only [Option.some.injEq, Prod.mk.injEq] at he
    obtain ⟨rfl, rfl, rfl⟩ := he
    have hp := B1T t
    
    have hmono : l1 ≤ l2 := by
     have : ∀ (zs : List Tm) (l : Int) us h l', L0 cx zs l = some (us, h, l') → l ≤ l' := by
      intro zs
      induction zs with
      | nil => intro l us h l' he; simp only [L0, Option.some.injEq, Prod.mk.injEq] at he; omega
      | cons z zs ihz =>
       intro l us h l' he
       rw [L0] at he
       split at he
       ·cases he
       ·rename_i u a l1 hz
        split at he
        ·cases he
        ·rename_i us' h' l2 hzs
         simp only [Option.some.injEq, Prod.mk.injEq] at he
         have := ihz _ _ _ _ hzs
         have := el_mono cx z l _ _ _ hz
         omega
     exact this ts l1 us' h' l2 h2
    obtain ⟨a1, a2, a3, a4, a5, a6⟩ := ih t List.mem_cons_self d D cx l u a l1 hs.1 hcx hl h1 (by omega) hD
    obtain ⟨b1, b2, b3, b4, b5, b6, b7, b8⟩ := ihl (fun x hx => ih x (List.mem_cons_of_mem _ hx)) d D cx l1 us' h' l2 hs.2 hcx (by omega) h2 h99 hD
    refine ⟨by rw [M3, a1, b1]; rfl, by rw [Y5, a2, b2], ?_, by omega, ?_, ?_, by simp [b7], by simp [b8]⟩
    ·intro x hx
     rcases List.mem_cons.1 hx with h | h
     ·rw [h]; exact a3
     ·exact b3 x h
    ·simp only [E7, List.length_cons]; omega
    ·simp only [E7]; omega
where
 el_mono (cx : Cx) : ∀ (z : Tm) (l : Int) (u : Tm) (a : Ty) (l' : Int), M0 cx z l = some (u, a, l') → l ≤ l' := by
  intro z
  revert cx
  refine Tm.ind (C := fun z => ∀ (cx : Cx) (l : Int) (u : Tm) (a : Ty) (l' : Int), M0 cx z l = some (u, a, l') → l ≤ l') ?_ z
  intro k nm num ty fr lb ks ih cx l u a l' he
  rw [M0] at he
  have hL : ∀ (zs : List Tm), (∀ t ∈ zs, t ∈ ks) → ∀ (cx : Cx) (l : Int) us h l', L0 cx zs l = some (us, h, l') → l ≤ l' := by
   intro zs
   induction zs with
   | nil => intro _ cx l us h l' he; simp only [L0, Option.some.injEq, Prod.mk.injEq] at he; omega
   | cons z zs ihz =>
    intro hin cx l us h l' he
    rw [L0] at he
    split at he
    ·cases he
    ·rename_i u a l1 hz
     split at he
     ·cases he
     ·rename_i us' h' l2 hzs
      simp only [Option.some.injEq, Prod.mk.injEq] at he
      have := ihz (fun t ht => hin t (List.mem_cons_of_mem _ ht)) _ _ _ _ _ hzs
      have := ih z (hin z List.mem_cons_self) _ l _ _ _ hz
      omega
  split at he
  ·cases he
  ·rename_i us h l1 hk
   have h1 := hL ks (fun _ h => h) _ _ _ _ _ hk
   unfold Q5 at he
   split at he
   ·cases he
   ·rename_i w t hn
    simp only [Option.some.injEq, Prod.mk.injEq] at he
    have := A1p us h w l1
    omega
theorem B4e : ∀ (t : Tm) (d D : Int) (cx : Cx) (l : Int) (u : Tm) (a : Ty) (l' : Int), M5 12 14 t d = true → W2 cx → 0 ≤ l → M0 cx t l = some (u, a, l') → l' ≤ 99 → D + 2 * (13 - d) ≤ 41 → A9z cx t D l u a l' := by
 refine Tm.ind fun k nm num ty fr lb ks ih d D cx l u a l' hs hcx hl he h99 hD => ?_
 obtain ⟨hd, h14, h3, h4⟩ := A0A hs
 obtain ⟨n1, n2, n3, n4, n5, n6, n7, n8, n9⟩ := U2.1 h3
 rw [M0] at he
 split at he
 ·cases he
 ·rename_i us h l1 hL
  unfold Q5 at he
  split at he
  ·cases he
  ·rename_i w t hN
   simp only [Option.some.injEq, Prod.mk.injEq] at he
   obtain ⟨hu, rfl, rfl⟩ := he
   have hlab := A1p us h w l1
   obtain ⟨b1, b2, b3, b4, b5, b6, b7, b8⟩ := A6F ks ih (d + 1) (D + 2) (N2 cx k nm ty) l us h l1 h4 (A3c hcx fun hk => n6 (.inl hk)) hl hL (by omega) (by omega)
   obtain ⟨hv, hw⟩ := A6h hN
   have hwt := A6D b3 (fun hk => n6 (.inr (.inl hk))) (by rw [b7]; exact n1) h14 hw
   
   obtain ⟨c1, c2, c3⟩ : Y5 (N2 cx k nm ty) (E5 us h w l1).1 = some (if w = [] then h else w) ∧ M3 40 13 (E5 us h w l1).1 (D + 1) = true ∧ (E7 (E5 us h w l1).1 : Int) = E7 us + ((E5 us h w l1).2 - l1) := by
    rcases hwt.len with hn | hn
    ·subst hn
     rw [V1, if_pos rfl]
     refine ⟨b2, ?_, by simp⟩
     exact A4X 40 13 us (D + 2) (D + 1) (by omega) b1
    ·by_cases hn0 : w = []
     ·subst hn0
      rw [V1, if_pos rfl]
      refine ⟨b2, ?_, by simp⟩
      exact A4X 40 13 us (D + 2) (D + 1) (by omega) b1
     ·rw [if_neg hn0]
      exact A6E us h w l1 (D + 1) (by omega) hn hwt.ok b3 b2 (by rw [show D + 1 + 1 = D + 2 by omega]; exact b1) (by omega) h99 (by omega)
   have hlm := A1Q us h w l1
   have hck : D0 (.mk k nm num ty fr lb ks) = E7 ks + 1 := Y8 ..
   refine ⟨?_, ?_, hv, by omega, by rw [hck]; omega, ?_⟩
   ·rw [← hu]
    split
    ·rename_i hk
     have hl1 : ks.length = 1 := by rw [hk] at n1; have : E2 13 = 1 := rfl; omega
     have h0 : 0 < (E5 us h w l1).1.length := by omega
     rw [getD0' h0]
     have := (A07 40 13 _ _).1 c2 0 h0
     exact A6i 40 13 _ (D + 1) D (by omega) this
    ·rename_i hk
     rw [A08 (by omega) hk (by rw [hlm, b8]; exact h3)]
     exact c2
   ·rw [← hu]
    split
    ·rename_i hk
     have hl1 : ks.length = 1 := by rw [hk] at n1; have : E2 13 = 1 := rfl; omega
     have h0 : 0 < (E5 us h w l1).1.length := by omega
     rw [getD0' h0]
     rw [hwt.asT hk, if_neg (by simp)] at c1
     rw [N2, if_neg (by omega)] at c1
     rw [← hwt.asT hk] at c1
     obtain ⟨x, hx⟩ : ∃ x, (E5 us h w l1).1 = [x] := by
      match hm : (E5 us h w l1).1, (show (E5 us h w l1).1.length = 1 by omega) with
      | [x], _ => exact ⟨x, rfl⟩
     simp only [hx, List.getElem_cons_zero] at c1 ⊢
     obtain ⟨y, hy, he⟩ := B3g c1
     rw [hwt.asT hk] at he
     cases he; exact hy
    ·rename_i hk
     refine B3f c1 h14 hv (hwt.again hk) ?_
     by_cases hn0 : w = []
     ·rw [hn0]; rfl
     ·rw [if_neg hn0]; exact A8Y w
   ·rw [← hu, hck]
    split
    ·rename_i hk
     have hl1 : ks.length = 1 := by rw [hk] at n1; have : E2 13 = 1 := rfl; omega
     have h0 : 0 < (E5 us h w l1).1.length := by omega
     rw [getD0' h0]
     have := A5M (List.getElem_mem h0)
     omega
    ·rw [Y8]; omega
where
 getD0' {us : List Tm} (h : 0 < us.length) : us.getD 0 K1 = us[0] := by rw [List.getD_eq_getElem?_getD, List.getElem?_eq_getElem h, Option.getD_some]
theorem A9A : ∀ (t : Tm) (d : Int) (cx : Cx) (l : Int) (u : Tm) (a : Ty) (l' : Int), M5 12 14 t d = true → M0 cx t l = some (u, a, l') → l' + 1 ≤ l + (D0 t : Int) := by
 refine Tm.ind fun k nm num ty fr lb ks ih d cx l u a l' hs he => ?_
 obtain ⟨hd, h14, h3, h4⟩ := A0A hs
 obtain ⟨n1, _⟩ := U2.1 h3
 have hL : ∀ (zs : List Tm), (∀ t ∈ zs, t ∈ ks) → M3 12 14 zs (d + 1) = true → ∀ (cx : Cx) (l : Int) us h l', L0 cx zs l = some (us, h, l') → l' + zs.length ≤ l + (E7 zs : Int) ∧ us.length = zs.length := by
  intro zs
  induction zs with
  | nil => intro _ _ cx l us h l' he; simp only [L0, Option.some.injEq, Prod.mk.injEq] at he; obtain ⟨rfl, _, rfl⟩ := he; simp [E7]
  | cons z zs ihz =>
   intro hin hsz cx l us h l' he
   rw [M3, Bool.and_eq_true] at hsz
   rw [L0] at he
   split at he
   ·cases he
   ·rename_i u a l1 hz
    split at he
    ·cases he
    ·rename_i us' h' l2 hzs
     simp only [Option.some.injEq, Prod.mk.injEq] at he
     obtain ⟨rfl, rfl, rfl⟩ := he
     have h5 := ihz (fun t ht => hin t (List.mem_cons_of_mem _ ht)) hsz.2 _ _ _ _ _ hzs
     have h6 := ih z (hin z List.mem_cons_self) (d + 1) _ l _ _ _ hsz.1 hz
     simp only [E7, List.length_cons]
     exact ⟨by omega, by omega⟩
 rw [M0] at he
 split at he
 ·cases he
 ·rename_i us h l1 hk
  obtain ⟨g1, g2⟩ := hL ks (fun _ h => h) h4 _ _ _ _ _ hk
  unfold Q5 at he
  split at he
  ·cases he
  ·rename_i w t hn
   simp only [Option.some.injEq, Prod.mk.injEq] at he
   have := A1p us h w l1
   have hck : D0 (.mk k nm num ty fr lb ks) = E7 ks + 1 := Y8 ..
   rw [hck]; omega
theorem A45 {e u : Tm} {t : Ty} (h : S1 e = some (u, t)) : P0 u = true ∧ A0Q [] u = some t ∧ F9 t = true := by
 unfold S1 at h
 split at h
 ·rename_i hv
  obtain ⟨h1, h2⟩ := (Z8 e).1 hv
  split at h
  ·rename_i u' t' l' he
   cases h
   have hl : l' ≤ 99 := by
    have := A6F.el_mono [] e 0 _ _ _ he
    have h3 : ∀ (t : Tm) (cx : Cx) (l : Int) (u : Tm) (a : Ty) (l' : Int), M0 cx t l = some (u, a, l') → l' ≤ l + 4 * (D0 t : Int) → True := fun _ _ _ _ _ _ _ _ => trivial
    exact el_lab e 1 h1 (by omega) he
   obtain ⟨g1, g2, g3, g4, g5, g6⟩ := B4e e 1 1 [] 0 u t l' h1 A2D (by omega) he hl (by omega)
   exact ⟨(A53 u).2 ⟨g1, by omega⟩, g2, g3⟩
  ·cases h
 ·cases h
where
 el_lab (e : Tm) (d : Int) (h1 : M5 12 14 e d = true) (h2 : D0 e ≤ 30) {u : Tm} {t : Ty} {l' : Int} (he : M0 [] e 0 = some (u, t, l')) : l' ≤ 99 := by
  have := A9A e d [] 0 u t l' h1 he
  omega
def A1t (k : Int) : Bool := decide (k = 5 ∨ k = 13)
theorem A9B (t : Tm) (G : IM) (cells : List Value) (hr : A8 G t cells) : Fn Tryz.prog 112 [.agg ⟨cells⟩] [] G (I5 (.bool (A1t t.k)) G) := by
 obtain ⟨k, nm, num, ⟨tk, tks⟩, ⟨fk, fks⟩, lb, ks⟩ := t
 obtain ⟨pt, ct, pf, cf, p, c, es, rfl, hk, hnum, hlb, hty, hfr, hsl, hkl⟩ := hr.open9
 refine C0 Tryz.func112 rfl Tryz.ntmps112 Tryz.results112 rfl ?_
 intro w0
 refine tS (tR ?_)
 refine sE (C5 rfl rfl) rfl (fun b3 => ?_)
 refine B4 ?_
 refine sB (qE rfl rfl) rfl rfl (fun h11 => ?_) (fun h11 => ?_)
 refine J5 ?_
 exact ⟨rfl, by (show _ = Value.bool (decide (k = 5 ∨ k = 13)); first | rw [decide_eq_true (by omega)] | rw [decide_eq_false (by omega)]), rfl⟩
 refine E3 ?_
 refine sB (qE rfl rfl) rfl rfl (fun h26 => ?_) (fun h26 => ?_)
 refine A7 ?_
 exact ⟨rfl, by (show _ = Value.bool (decide (k = 5 ∨ k = 13)); first | rw [decide_eq_true (by omega)] | rw [decide_eq_false (by omega)]), rfl⟩
 refine A7 ?_
 exact ⟨rfl, by (show _ = Value.bool (decide (k = 5 ∨ k = 13)); first | rw [decide_eq_true (by omega)] | rw [decide_eq_false (by omega)]), rfl⟩
def A9C : ByteArray := ⟨⟨[112, 97, 105, 114]⟩⟩
def A9D : ByteArray := ⟨⟨[102, 117, 110, 99, 116, 105, 111, 110]⟩⟩
def txT : ByteArray := ⟨⟨[84]⟩⟩
def txF : ByteArray := ⟨⟨[70]⟩⟩
def A9E (n : Int) : ByteArray := ⟨(Lib.decDigits n.toNat).toArray⟩
def B4f (k num : Int) : ByteArray := if k = 2 then A9E num else if k = 3 then txT else txF
mutual
def A9F : Tm → ByteArray
 | .mk k nm num ty fr lb ks => if k = 10 ∨ (X6 (.mk k nm num ty fr lb []) = true ∧ ty.k = 5) then A9C else if k = 5 ∨ X6 (.mk k nm num ty fr lb []) = true then A9D else if k = 14 then B4g ks else B4f k num
def B4g : List Tm → ByteArray
 | [] => ⟨⟨[]⟩⟩
 | t :: _ => A9F t
end
section
variable {k : Int} {nm : ByteArray} {num : Int} {ty fr : Ty} {lb : Int} {ks : List Tm}
end
section fin
variable {P : Program} {Γ : L9} {env : M4} {hp : List A5} {G : IM}
theorem A2J {r r2 r3 : ResultVar} {post : IM → Value → List A5 → Prop} {v v2 v3 : Value} {outs : List A5} (h : X3 P Γ ⟨env, hp, G⟩ r v) (h2 : X3 P Γ ⟨env, hp, G⟩ r2 v2) (h3 : X3 P Γ ⟨env, hp, G⟩ r3 v3) (ho : A0 hp outs) (hk : post G (.tuple ⟨[v, v2, v3]⟩) outs) :
  A0x P Γ [r, r2, r3] post .ret ⟨env, hp, G⟩ := A5B (.cons h (.cons h2 (.cons h3 .nil))) ho.spec hk
end fin
def CsP (bx : Nat) (e : Tm) (a b : Ty) (l : Int) : IM → Value → List A5 → Prop := fun G' v outs => ∃ cells, v = .agg ⟨cells⟩ ∧ outs = [.blk bx [.int .i64 (if N0 a b = true then l else l + 1)]] ∧ A8 G' (if N0 a b = true then e else L3 e a b (l + 1)) cells
theorem CsP.yes {G : IM} {bx : Nat} {e : Tm} {a b : Ty} {l : Int} {cells : List Value} (h : N0 a b = true) (hr : A8 G e cells) : CsP bx e a b l G (.agg ⟨cells⟩) [.blk bx [.int .i64 l]] := ⟨cells, rfl, by rw [if_pos h], by rw [if_pos h]; exact hr⟩
theorem CsP.no {G : IM} {bx : Nat} {e : Tm} {a b : Ty} {l : Int} {cells : List Value} (h : N0 a b = false) (hr : A8 G (L3 e a b (l + 1)) cells) : CsP bx e a b l G (.agg ⟨cells⟩) [.blk bx [.int .i64 (l + 1)]] := ⟨cells, rfl, by rw [if_neg (by rw [h]; decide)], by rw [if_neg (by rw [h]; decide)]; exact hr⟩
theorem B4h (bx : Nat) (e : Tm) (a b : Ty) (l : Int) (G : IM) (ce ca cb : List Value) (hl : -1000000000000 ≤ l ∧ l ≤ 1000000000000) (hre : A8 G e ce) (hra : C1 G a ca) (hrb : C1 G b cb) :
  Fn Tryz.prog 93 [.pointer (some ⟨bx, 0, none⟩), .agg ⟨ce⟩, .agg ⟨ca⟩, .agg ⟨cb⟩] [.blk bx [.int .i64 l]] G (CsP bx e a b l) := by
 have hel := hre.len
 have heo := hre.one
 have hS := A6g a b G ca cb hra hrb
 obtain ⟨v1, v2, v3, v4, v5, v6, v7, v8, v9, rfl⟩ := nine hel
 obtain ⟨ak, aks⟩ := a
 obtain ⟨bk, bks⟩ := b
 obtain ⟨pa, cca, ea, rfl, hka, _⟩ := hra.open
 obtain ⟨pb, ccb, eb, rfl, hkb, _⟩ := hrb.open
 refine C0 Tryz.func93 rfl Tryz.ntmps93 Tryz.results93 rfl ?_
 intro w0
 refine tS (tR ?_)
 refine sE (C5 rfl rfl) rfl (fun b3 => ?_)
 refine sE (C5 rfl rfl) rfl (fun b4 => ?_)
 refine sE (C5 rfl rfl) rfl (fun b5 => ?_)
 refine sE (A6 rfl) rfl (fun b6 => ?_)
 refine B4 ?_
 refine H4 rfl (hS) rfl rfl (fun h14 => ?_) (fun h14 => ?_)
 refine B0 ?_
 refine sL (A2 rfl rfl (A9 (by repeat first | exact mH | apply mT)) hel) rfl rfl ?_
 refine sS rfl rfl rfl hel heo rfl ?_ (hu := by exact D5 hel.symm)
 refine sD (nS (tT (rS ?_)))
 refine H7 (outs := [.blk bx [.int .i64 _]]) (rC rfl (A4 rfl rfl)) (A0.cons (by repeat (first | exact Pk.here | apply Pk.there)) A0.nil) ?_
 (exact CsP.yes (by assumption) hre)
 refine D6 ?_
 refine sQ (Z4 rfl) rfl ?_
 refine D7 ?_
 refine sP (H2 rfl rfl (by omega) (by omega)) rfl rfl ?_
 refine sQ (Z4 rfl) rfl ?_
 refine B0 ?_
 refine E0 E1 rfl ?_
 refine L7 (i := 6) (l' := [ff,ff,ff,ff,ff,ff,tt,ff,ff,ff]) rfl D2 (A2 rfl rfl (A9 (by repeat first | exact mH | apply mT)) hel) rfl (by kernel_rfl) rfl rfl ?_
 refine aL 0 rfl (A4 rfl rfl) rfl ?_
 refine aL 1 rfl (A4 rfl rfl) rfl ?_
 refine aP 2 rfl (qM rfl) rfl ?_
 refine aP 3 rfl (Z4 rfl) rfl ?_
 refine aP 4 rfl (B7 rfl) rfl ?_
 refine aL 5 rfl (C7 rfl rfl) rfl ?_
 refine A3 7 ?_
 (refine E6 rfl (C9 rfl rfl rfl (by omega) (by unfold maxLen; omega) rfl) rfl rfl ?_; rintro _ ⟨b55, rfl⟩)
 refine aP 8 rfl (W4 rfl rfl) rfl ?_
 refine A3 9 ?_
 refine H8 rfl ?_
 refine E8 (nS ?_)
 (refine E9 (cs := [v1, v2, v3, v4, v5, v6, v7, v8, v9]) (by repeat (first | exact Pk.here | apply Pk.there)) (fun G2 hle2 hsl2 hno2 => ?_))
 refine tT ?_
 refine H7 (outs := [.blk bx [.int .i64 _]]) (rC rfl (A4 rfl rfl)) (A0.cons (by repeat (first | exact Pk.here | apply Pk.there)) A0.nil) ?_
 (exact CsP.no (by assumption) (A8.put (us := [e]) (es := [[v1, v2, v3, v4, v5, v6, v7, v8, v9]]) ⟨by decide, by decide⟩ ⟨by decide, by decide⟩ ⟨by omega, by omega⟩ (hrb.mono hle2) (hra.mono hle2) rfl (D1.of hsl2 rfl (by intro x hx; obtain rfl := List.mem_singleton.1 hx; rfl) (by intro x hx; obtain rfl := List.mem_singleton.1 hx; exact heo)) (by simp only [C6]; exact ⟨_, _, rfl, hre.mono hle2, rfl⟩)))
def ElP (bx : Nat) (cx : Cx) (e : Tm) (l : Int) : IM → Value → List A5 → Prop := fun G' v outs => ∃ u cu t ct l', v = .tuple ⟨[.agg ⟨cu⟩, .agg ⟨ct⟩, .bool (M0 cx e l).isSome]⟩ ∧ outs = [.blk bx [.int .i64 l']] ∧ A8 G' u cu ∧ C1 G' t ct ∧ l ≤ l' ∧ l' + 1 ≤ l + (D0 e : Int) ∧ ∀ r, M0 cx e l = some r → r = (u, t, l')
theorem ElP.no {G : IM} {bx : Nat} {cx : Cx} {e : Tm} {l l' : Int} {u : Tm} {t : Ty} {cu ct : List Value} (h : M0 cx e l = none) (hu : A8 G u cu) (ht : C1 G t ct) (h1 : l ≤ l') (h2 : l' + 1 ≤ l + (D0 e : Int)) : ElP bx cx e l G (.tuple ⟨[.agg ⟨cu⟩, .agg ⟨ct⟩, .bool false]⟩) [.blk bx [.int .i64 l']] :=
 ⟨u, cu, t, ct, l', by rw [h]; rfl, rfl, hu, ht, h1, h2, fun r hr => by rw [h] at hr; cases hr⟩
theorem ElP.yes {G : IM} {bx : Nat} {cx : Cx} {e : Tm} {l l' : Int} {u : Tm} {t : Ty} {cu ct : List Value} (h : M0 cx e l = some (u, t, l')) (hu : A8 G u cu) (ht : C1 G t ct) (h1 : l ≤ l') (h2 : l' + 1 ≤ l + (D0 e : Int)) : ElP bx cx e l G (.tuple ⟨[.agg ⟨cu⟩, .agg ⟨ct⟩, .bool true]⟩) [.blk bx [.int .i64 l']] :=
 ⟨u, cu, t, ct, l', by rw [h]; rfl, rfl, hu, ht, h1, h2, fun r hr => by rw [h] at hr; cases hr; rfl⟩
section
variable {cx : Cx} {k : Int} {nm : ByteArray} {num : Int} {ty fr : Ty} {lb : Int} {ks us : List Tm} {h : List Ty} {l l' : Int}
theorem B4i (hL : L0 (N2 cx k nm ty) ks l = none) : M0 cx (.mk k nm num ty fr lb ks) l = none := by rw [M0, hL]
theorem A6G (hL : L0 (N2 cx k nm ty) ks l = some (us, h, l')) (hn : Y4 cx k nm ty h = none) : M0 cx (.mk k nm num ty fr lb ks) l = none := by rw [M0, hL]; simp only [Q5, hn]
theorem B4j {w : List Ty} {t : Ty} (hL : L0 (N2 cx k nm ty) ks l = some (us, h, l')) (hn : Y4 cx k nm ty h = some (w, t)) (hk : k = 13) : M0 cx (.mk k nm num ty fr lb ks) l = some ((E5 us h w l').1.getD 0 K1, t, (E5 us h w l').2) := by
 rw [M0, hL]; simp only [Q5, hn, if_pos hk]
theorem A9G {w : List Ty} {t : Ty} (hL : L0 (N2 cx k nm ty) ks l = some (us, h, l')) (hn : Y4 cx k nm ty h = some (w, t)) (hk : k ≠ 13) : M0 cx (.mk k nm num ty fr lb ks) l = some (.mk k nm num ty fr lb (E5 us h w l').1, t, (E5 us h w l').2) := by
 rw [M0, hL]; simp only [Q5, hn, if_neg hk]
end
theorem A2b {t : Ty} (h : F9 t = true) : F4 t := (A26 h).1
theorem A9H {us : List Tm} (h : 0 < us.length) : us.getD 0 K1 = us[0] := by rw [List.getD_eq_getElem?_getD, List.getElem?_eq_getElem h, Option.getD_some]
theorem A9I (bx : Nat) : ∀ (e : Tm) (d : Int) (cx : Cx) (l0 : Int) (G : IM) (pc : Option Addr) (nc cc : Nat) (cells : List Value), M5 12 14 e d = true → (nc : Int) ≤ d → W2 cx → S0 G cx pc nc cc → A8 G e cells → 0 ≤ l0 → l0 + (D0 e : Int) ≤ 1000000000 →
  Fn Tryz.prog 46 [.pointer (some ⟨bx, 0, none⟩), .slice pc nc cc, .agg ⟨cells⟩] [.blk bx [.int .i64 l0]] G (ElP bx cx e l0) := by
 refine Tm.ind fun k nm num ty fr lb ks ih d cx l0 G pc nc cc cells hv hnd hcv hx hr hl0 hlc => ?_
 have hr0 := hr
 have hone := hr.one
 obtain ⟨hv1, hv2, hv3, hv4⟩ := A0A hv
 have hvk := (A07 12 14 ks _).1 hv4
 have har := (U2.1 hv3).1
 have hop := A25 har
 obtain ⟨hta, hts⟩ := A27 hv3
 have hkr : 1 ≤ k ∧ k ≤ 14 := A3X (by rw [har]; omega)
 have hcvX : W2 (N2 cx k nm ty) := A3c hcv fun hk => (U2.1 hv3).2.2.2.2.2.1 (.inl hk)
 have hck : D0 (.mk k nm num ty fr lb ks) = E7 ks + 1 := Y8 ..
 rw [hck] at hlc
 obtain ⟨tk, tks⟩ := ty
 obtain ⟨fk, fks⟩ := fr
 obtain ⟨pt, ct, pf, cf, q, cq, es, rfl, hk, hnum, hlb, hty, hfr, hsl, hkl⟩ := hr.open9
 have hlen : ks.length ≤ 3 := by have := A1o k; omega
 obtain ⟨hx1, esx, hx2, hx3⟩ := id hx
 have hcl := B29 G pc nc cc esx hx2 (by omega)
 have hcnt0 := A4z ks
 refine C0 Tryz.func46 rfl Tryz.ntmps46 Tryz.results46 rfl ?_
 intro w0
 refine tS (tR ?_)
 refine sE (C5 rfl rfl) rfl (fun b3 => ?_)
 refine sE (A6 rfl) rfl (fun b4 => ?_)
 refine sE (A6 rfl) rfl (fun b5 => ?_)
 refine J5 ?_
 (show J1 _ _ (.seq (.region 2 _ _) (.cond (.tmp 25) _ _)) _ _; refine A0g (fun (x : Option Addr × Nat × Nat × IM) => ⟨[(9, .slice x.1 x.2.1 x.2.2.1), (1, .slice pc nc cc), (0, .pointer (some ⟨bx, 0, none⟩)), (5, .pointer (some ⟨b3, 0, none⟩)), (6, .pointer (some ⟨b4, 0, none⟩)), (7, .pointer (some ⟨b5, 0, none⟩))], [.blk b5 [.int .i64 0, .slice none 0 0], .blk b4 [.int .i64 0, .string ⟨⟨[]⟩⟩, .int .i64 0, .int .i64 0, .slice none 0 0, .int .i64 0, .slice none 0 0, .int .i64 0, .slice none 0 0], .blk b3 [.int .i64 k, .string nm, .int .i64 num, .int .i64 tk, .slice pt tks.length ct, .int .i64 fk, .slice pf fks.length cf, .int .i64 lb, .slice q ks.length cq], .blk bx [.int .i64 l0]], x.2.2.2⟩) (fun x => B9 G x.2.2.2 ∧ S0 x.2.2.2 (N2 cx k nm (.mk tk tks)) x.1 x.2.1 x.2.2.1 ∧ x.2.1 ≤ nc + 1) ?_ ?_)
 ·refine B6 ?_
  refine sB (qE rfl rfl) rfl rfl (fun h21 => ?_) (fun h21 => ?_)
  ·refine sD (nS (qT rfl ?_))
   refine E0 E1 rfl ?_
   refine I8 (i := 0) (l' := [tt,ff,ff,ff,ff,ff,ff,ff,ff,ff]) rfl D2 (qM rfl) rfl (by kernel_rfl) rfl rfl ?_
   refine aP 2 rfl (B7 rfl) rfl ?_
   refine aL 3 rfl (C7 rfl rfl) rfl ?_
   refine aP 4 rfl (B7 rfl) rfl ?_
   refine aL 5 rfl (A4 rfl rfl) rfl ?_
   refine aP 6 rfl (W4 rfl rfl) rfl ?_
   refine R2 (j := 1) (j' := 7) (by kernel_rfl) ?_ ?_
   ·(refine A7B rfl rfl hcl rfl rfl rfl (fun v33 G33 outs33 hle33 h33 => ?_); obtain ⟨hG, p1, c1, rfl, rfl⟩ := h33; replace hG := hG.symm; subst hG)
    replace hr := hr.mono hle33
    replace hr0 := hr0.mono hle33
    replace hty := hty.mono hle33
    replace hfr := hfr.mono hle33
    replace hsl := hsl.mono hle33
    replace hkl := hkl.mono hle33
    replace hx2 := hx2.mono hle33
    refine A3 7 ?_
    (refine E6 rfl (C9 rfl rfl rfl (by omega) (by unfold maxLen; omega) rfl) rfl rfl ?_; rintro _ ⟨b35, rfl⟩)
    refine A3 8 ?_
    (refine R4 rfl rfl rfl rfl rfl rfl (fun _ _ => by repeat (first | exact Sw.here | apply Sw.there)) (M6 (by repeat first | exact mH | apply mT)) rfl (by simp [Value.oneCell']) (by unfold maxLen; omega) (by omega) rfl rfl (by repeat (first | exact B1.nil | apply B1.dep (by decide +kernel) | apply B1.blk (by decide +kernel) (by repeat (first | exact Pk.here | apply Pk.there)) (by repeat first | exact mH | apply mT))) (fun p5 c5 => ?_); refine A4n (cs := esx.flatten ++ [.string nm, .int .i64 tk, .slice pt tks.length ct]) (by repeat (first | exact Pk.here | apply Pk.there)) (fun Gf hleF hslF hnoF => ?_); have hxF := S0.snoc (nm := nm) (t := .mk tk tks) hx1 hx2.len hx2.all hx2.one hx3 hleF ⟨_, _, rfl, hty.mono hleF⟩ hslF)
    refine aP 9 rfl (qA rfl) rfl ?_
    refine E8 ?_
    refine Q0 (p5, nc + 1, c5, Gf) (J8 (by repeat (first | exact D4.nil | refine D4.cons rfl ?_)) (by repeat (first | exact A0.refl | exact A0.nil | refine A0.cons (by repeat (first | exact Pk.here | apply Pk.there)) ?_ | apply A0.drop))) ⟨hleF, by (dsimp only; rw [N2, if_pos (by omega)]; exact hxF), by (dsimp only; omega)⟩
   ·(refine E6 rfl (C9 rfl rfl rfl (by omega) (by unfold maxLen; omega) rfl) rfl rfl ?_; rintro _ ⟨b41, rfl⟩)
    refine A3 1 ?_
    (refine A7B rfl rfl hcl rfl rfl rfl (fun v43 G43 outs43 hle43 h43 => ?_); obtain ⟨hG, p1, c1, rfl, rfl⟩ := h43; replace hG := hG.symm; subst hG)
    replace hr := hr.mono hle43
    replace hr0 := hr0.mono hle43
    replace hty := hty.mono hle43
    replace hfr := hfr.mono hle43
    replace hsl := hsl.mono hle43
    replace hkl := hkl.mono hle43
    replace hx2 := hx2.mono hle43
    refine A3 8 ?_
    (refine R4 rfl rfl rfl rfl rfl rfl (fun _ _ => by repeat (first | exact Sw.here | apply Sw.there)) (M6 (by repeat first | exact mH | apply mT)) rfl (by simp [Value.oneCell']) (by unfold maxLen; omega) (by omega) rfl rfl (by repeat (first | exact B1.nil | apply B1.dep (by decide +kernel) | apply B1.blk (by decide +kernel) (by repeat (first | exact Pk.here | apply Pk.there)) (by repeat first | exact mH | apply mT))) (fun p5 c5 => ?_); refine A4n (cs := esx.flatten ++ [.string nm, .int .i64 tk, .slice pt tks.length ct]) (by repeat (first | exact Pk.here | apply Pk.there)) (fun Gf hleF hslF hnoF => ?_); have hxF := S0.snoc (nm := nm) (t := .mk tk tks) hx1 hx2.len hx2.all hx2.one hx3 hleF ⟨_, _, rfl, hty.mono hleF⟩ hslF)
    refine aP 9 rfl (qA rfl) rfl ?_
    refine E8 ?_
    refine Q0 (p5, nc + 1, c5, Gf) (J8 (by repeat (first | exact D4.nil | refine D4.cons rfl ?_)) (by repeat (first | exact A0.refl | exact A0.nil | refine A0.cons (by repeat (first | exact Pk.here | apply Pk.there)) ?_ | apply A0.drop))) ⟨hleF, by (dsimp only; rw [N2, if_pos (by omega)]; exact hxF), by (dsimp only; omega)⟩
  ·refine B6 ?_
   refine Q0 (pc, nc, cc, G) (J8 (by repeat (first | exact D4.nil | refine D4.cons rfl ?_)) (by repeat (first | exact A0.refl | exact A0.nil | refine A0.cons (by repeat (first | exact Pk.here | apply Pk.there)) ?_ | apply A0.drop))) ⟨B9.refl _, by (dsimp only; rw [N2, if_neg (by omega)]; exact hx), by (dsimp only; omega)⟩
 ·(rintro ⟨p6, n6, c6, Gx⟩ ⟨hleX, hxX, hn6⟩; simp only [] at hleX hxX hn6 ⊢; replace hsl := hsl.mono hleX; replace hkl := hkl.mono hleX; replace hx := hx.mono hleX; replace hr0 := hr0.mono hleX; replace hty := hty.mono hleX; replace hfr := hfr.mono hleX)
  refine E3 ?_
  refine sE (A6 rfl) rfl (fun b58 => ?_)
  refine A1j ?_
  refine B8 ?_
  (refine Q7 28 9 ?_; refine Q7 25 2 ?_; refine I2 (fun (x : Nat × (Option Addr × Nat × List Tm × List (List Value)) × (Option Addr × Nat × List Ty × List (List Value)) × Int × IM) => ⟨[(40, .int .i64 x.1), (39, .int .i64 ks.length), (38, .slice q ks.length cq), (11, .slice x.2.2.1.1 x.1 x.2.2.1.2.1), (9, .slice p6 n6 c6), (1, .slice pc nc cc), (0, .pointer (some ⟨bx, 0, none⟩)), (5, .pointer (some ⟨b3, 0, none⟩)), (6, .pointer (some ⟨b4, 0, none⟩)), (7, .pointer (some ⟨b5, 0, none⟩)), (10, .pointer (some ⟨b58, 0, none⟩))], [.blk b58 [.int .i64 k, .string nm, .int .i64 num, .int .i64 tk, .slice pt tks.length ct, .int .i64 fk, .slice pf fks.length cf, .int .i64 lb, .slice x.2.1.1 x.1 x.2.1.2.1], .slc x.2.1.1 x.2.1.2.1 28 9 x.1 x.2.1.2.2.2.flatten, .slc x.2.2.1.1 x.2.2.1.2.1 25 2 x.1 x.2.2.1.2.2.2.flatten, .blk b5 [.int .i64 0, .slice none 0 0], .blk b4 [.int .i64 0, .string ⟨⟨[]⟩⟩, .int .i64 0, .int .i64 0, .slice none 0 0, .int .i64 0, .slice none 0 0, .int .i64 0, .slice none 0 0], .blk b3 [.int .i64 k, .string nm, .int .i64 num, .int .i64 tk, .slice pt tks.length ct, .int .i64 fk, .slice pf fks.length cf, .int .i64 lb, .slice q ks.length cq], .blk bx [.int .i64 x.2.2.2.1]], x.2.2.2.2⟩) (fun x => x.1 ≤ ks.length ∧ B9 Gx x.2.2.2.2 ∧ x.2.1.2.2.1.length = x.1 ∧ C6 x.2.2.2.2 x.2.1.2.2.1 x.2.1.2.2.2 ∧ x.2.2.1.2.2.1.length = x.1 ∧ C8 x.2.2.2.2 x.2.2.1.2.2.1 x.2.2.1.2.2.2 ∧ (∀ t ∈ x.2.2.1.2.2.1, F4 t) ∧ L0 (N2 cx k nm (.mk tk tks)) (ks.take x.1) l0 = some (x.2.1.2.2.1, x.2.2.1.2.2.1, x.2.2.2.1) ∧ l0 ≤ x.2.2.2.1 ∧ x.2.2.2.1 + x.1 ≤ l0 + (E7 (ks.take x.1) : Int)) (fun x => ks.length - x.1) (0, (none, 0, [], []), (none, 0, [], []), l0, Gx) ?_ ?_ ?_)
  ·(simp only [List.take_zero, V1]; exact (J8 (by repeat (first | exact D4.nil | refine D4.cons rfl ?_)) (by repeat (first | exact A0.refl | exact A0.nil | refine A0.cons (by repeat (first | exact Pk.here | apply Pk.there)) ?_ | apply A0.drop))))
  ·(exact ⟨by simp, B9.refl _, rfl, by simp [C6], rfl, by simp [C8], by simp, by simp [L0], Int.le_refl _, by simp [E7]⟩)
  ·(rintro ⟨i, ⟨pn, cn, us, es'⟩, ⟨pm, cm, ts, ess⟩, l, Gi⟩ ⟨hi, hle, hlu, hst, hlt, hstt, hat, hml, hl1, hl2⟩; simp only [] at hi hle hlu hst hlt hstt hat hml hl1 hl2 ⊢; replace hty := hty.mono hle; replace hfr := hfr.mono hle; replace hsl := hsl.mono hle; replace hkl := hkl.mono hle; replace hr0 := hr0.mono hle; replace hx := hx.mono hle; replace hxX := hxX.mono hle)
   refine tS (tR ?_)
   refine sB (I0 rfl rfl) rfl rfl (fun h89 => ?_) (fun h89 => ?_)
   ·refine B4 ?_
    refine B8 ?_
    refine tS (tR ?_)
    (obtain ⟨b, o, e, rfl, hl, hate, hre, hgb⟩ := hsl.kidTm hkl (i := i) (by omega) (by omega); have hon := hre.one; have hsc := A0p (ks := ks) (i := i) (by omega); have hsk := Z6 (ks := ks) (i := i) (by omega); refine sP (B3 rfl rfl rfl (by omega)) rfl rfl ?_)
    refine sL (A2 rfl rfl (hate _) hl) rfl rfl ?_
    refine sE (A6 rfl) rfl (fun b102 => ?_)
    refine sS rfl rfl rfl hl hon rfl ?_ (hu := by exact D5 hl.symm)
    refine A7 ?_
    refine sL (A2 rfl rfl (A9 (by repeat first | exact mH | apply mT)) hl) rfl rfl ?_
    (refine I4 rfl (ih ks[i] (List.getElem_mem (by omega)) (d + 1) _ l Gi p6 n6 c6 _ (hvk i (by omega)) (by omega) hcvX hxX hre (by omega) (by omega)) (Pk.perm (by repeat (first | exact Pk.here | apply Pk.there))) rfl rfl (fun v G3 outs hle3 hh => ?_); obtain ⟨u, uc, t, tc, l3, rfl, rfl, hru, hrt, hl3, hl4, hu⟩ := hh; obtain ⟨v1, v2, v3, v4, v5, v6, v7, v8, v9, rfl⟩ := nine hru.len; obtain ⟨p3, c3, e3, rfl, _⟩ := hrt.open; have hlu9 := hru.len; have hou9 := hru.one; rcases hE : M0 (N2 cx k nm (Ty.mk tk tks)) ks[i] l with _ | ⟨u2, t2, l2⟩; rotate_left; have hue := hu _ hE; simp only [Prod.mk.injEq] at hue; obtain ⟨rfl, rfl, rfl⟩ := hue; rotate_left)
    ·refine B6 ?_
     refine sE (A6 rfl) rfl (fun b116 => ?_)
     refine sE (A6 rfl) rfl (fun b117 => ?_)
     refine sS rfl rfl rfl hlu9 hou9 rfl ?_ (hu := by exact D5 hlu9.symm)
     refine A7A ?_
     refine A2J (outs := [.blk bx [.int .i64 _]]) (rC rfl (A4 rfl rfl)) (rC rfl (A4 rfl rfl)) (rT rfl) (A0.cons (by repeat (first | exact Pk.here | apply Pk.there)) A0.nil) ?_
     (exact ElP.no (B4i (A6n (by omega) hml hE)) (M8 _) (M7 _ ⟨by omega, by omega⟩) (by omega) (by rw [hck]; omega))
    ·refine B6 ?_
     refine sE (A6 rfl) rfl (fun b153 => ?_)
     refine sE (A6 rfl) rfl (fun b154 => ?_)
     refine sS rfl rfl rfl hlu9 hou9 rfl ?_ (hu := by exact D5 hlu9.symm)
     refine K5 ?_
     refine E0 E1 rfl ?_
     refine I8 (i := 0) (l' := [tt,ff,ff,ff,ff,ff,ff,ff,ff,ff,ff,ff]) rfl D2 (B7 rfl) rfl (by kernel_rfl) rfl rfl ?_
     refine aL 1 rfl (C7 rfl rfl) rfl ?_
     refine aL 2 rfl (A4 rfl rfl) rfl ?_
     refine aP 5 rfl (qM rfl) rfl ?_
     refine aL 6 rfl (A4 rfl rfl) rfl ?_
     refine R2 (j := 3) (j' := 7) (by kernel_rfl) ?_ ?_
     ·(refine E6 rfl (C9 rfl rfl rfl (by omega) (by unfold maxLen; omega) rfl) rfl rfl ?_; rintro _ ⟨b177, rfl⟩)
      refine R2 (j := 4) (j' := 7) (by kernel_rfl) ?_ ?_
      ·(refine R4 rfl rfl rfl rfl rfl rfl (fun _ _ => by repeat (first | exact Sw.here | apply Sw.there)) (M6 (by repeat first | exact mH | apply mT)) rfl (fun u hu => List.all_eq_true.1 hou9 u hu) (by unfold maxLen; omega) (by omega) rfl rfl (by repeat (first | exact B1.nil | apply B1.dep (by decide +kernel) | apply B1.im (by decide +kernel) (by assumption) (by repeat first | exact mH | apply mT) | apply B1.blk (by decide +kernel) (by repeat (first | exact Pk.here | apply Pk.there)) (by repeat first | exact mH | apply mT) | apply B1.slc (by decide +kernel) (by repeat (first | exact Pk.here | apply Pk.there)) (by repeat first | exact mH | apply mT))) (fun pn' cn' => ?_))
       refine aP 9 rfl (B7 rfl) rfl ?_
       refine A3 7 ?_
       (refine E6 rfl (C9 rfl rfl rfl (by omega) (by unfold maxLen; omega) rfl) rfl rfl ?_; rintro _ ⟨b182, rfl⟩)
       refine A3 8 ?_
       (refine R4 rfl rfl rfl rfl rfl rfl (fun _ _ => by repeat (first | exact Sw.here | apply Sw.there)) (M6 (by repeat first | exact mH | apply mT)) rfl (by simp [Value.oneCell']) (by unfold maxLen; omega) (by omega) rfl rfl (by repeat (first | exact B1.nil | apply B1.dep (by decide +kernel) | apply B1.im (by decide +kernel) (by assumption) (by repeat first | exact mH | apply mT) | apply B1.blk (by decide +kernel) (by repeat (first | exact Pk.here | apply Pk.there)) (by repeat first | exact mH | apply mT) | apply B1.slc (by decide +kernel) (by repeat (first | exact Pk.here | apply Pk.there)) (by repeat first | exact mH | apply mT))) (fun pm' cm' => ?_))
       refine A3 10 ?_
       refine oS rfl rfl rfl rfl rfl rfl rfl rfl ?_
       refine aP 11 rfl (qA rfl) rfl ?_
       refine B6 ?_
       refine sP (H2 rfl rfl (by omega) (by omega)) rfl rfl ?_
       refine D7 ?_
       refine H9 (i + 1, (pn', cn', us ++ [u2], es' ++ [[v1, v2, v3, v4, v5, v6, v7, v8, v9]]), (pm', cm', ts ++ [t2], ess ++ [[.int .i64 t2.k, .slice p3 t2.ks.length c3]]), l2, G3) ?_ ?_ ?_
       ·(simp only [H6]; exact D3)
       ·(dsimp only; exact ⟨by omega, hle.trans hle3, by simp [hlu], C6.snoc (hst.mono hle3) hru, by simp [hlt], C8.snoc (hstt.mono hle3) hrt, A24 hat (A2b ((A2E ks[i] (d + 1) _ l (hvk i (by omega)) hcvX).1 _ _ _ hE).2), A3S (by omega) hml hE, by omega, by omega⟩)
       ·(show ks.length - (i + 1) < ks.length - i; omega)
      ·(refine E6 rfl (C9 rfl rfl rfl (by omega) (by unfold maxLen; omega) rfl) rfl rfl ?_; rintro _ ⟨b199, rfl⟩)
       refine A3 4 ?_
       (refine R4 rfl rfl rfl rfl rfl rfl (fun _ _ => by repeat (first | exact Sw.here | apply Sw.there)) (M6 (by repeat first | exact mH | apply mT)) rfl (fun u hu => List.all_eq_true.1 hou9 u hu) (by unfold maxLen; omega) (by omega) rfl rfl (by repeat (first | exact B1.nil | apply B1.dep (by decide +kernel) | apply B1.im (by decide +kernel) (by assumption) (by repeat first | exact mH | apply mT) | apply B1.blk (by decide +kernel) (by repeat (first | exact Pk.here | apply Pk.there)) (by repeat first | exact mH | apply mT) | apply B1.slc (by decide +kernel) (by repeat (first | exact Pk.here | apply Pk.there)) (by repeat first | exact mH | apply mT))) (fun pn' cn' => ?_))
       refine aP 9 rfl (B7 rfl) rfl ?_
       refine A3 8 ?_
       (refine R4 rfl rfl rfl rfl rfl rfl (fun _ _ => by repeat (first | exact Sw.here | apply Sw.there)) (M6 (by repeat first | exact mH | apply mT)) rfl (by simp [Value.oneCell']) (by unfold maxLen; omega) (by omega) rfl rfl (by repeat (first | exact B1.nil | apply B1.dep (by decide +kernel) | apply B1.im (by decide +kernel) (by assumption) (by repeat first | exact mH | apply mT) | apply B1.blk (by decide +kernel) (by repeat (first | exact Pk.here | apply Pk.there)) (by repeat first | exact mH | apply mT) | apply B1.slc (by decide +kernel) (by repeat (first | exact Pk.here | apply Pk.there)) (by repeat first | exact mH | apply mT))) (fun pm' cm' => ?_))
       refine A3 10 ?_
       refine oS rfl rfl rfl rfl rfl rfl rfl rfl ?_
       refine aP 11 rfl (qA rfl) rfl ?_
       refine B6 ?_
       refine sP (H2 rfl rfl (by omega) (by omega)) rfl rfl ?_
       refine D7 ?_
       refine H9 (i + 1, (pn', cn', us ++ [u2], es' ++ [[v1, v2, v3, v4, v5, v6, v7, v8, v9]]), (pm', cm', ts ++ [t2], ess ++ [[.int .i64 t2.k, .slice p3 t2.ks.length c3]]), l2, G3) ?_ ?_ ?_
       ·(simp only [H6]; exact D3)
       ·(dsimp only; exact ⟨by omega, hle.trans hle3, by simp [hlu], C6.snoc (hst.mono hle3) hru, by simp [hlt], C8.snoc (hstt.mono hle3) hrt, A24 hat (A2b ((A2E ks[i] (d + 1) _ l (hvk i (by omega)) hcvX).1 _ _ _ hE).2), A3S (by omega) hml hE, by omega, by omega⟩)
       ·(show ks.length - (i + 1) < ks.length - i; omega)
     ·(refine E6 rfl (C9 rfl rfl rfl (by omega) (by unfold maxLen; omega) rfl) rfl rfl ?_; rintro _ ⟨b219, rfl⟩)
      refine A3 3 ?_
      (refine E6 rfl (C9 rfl rfl rfl (by omega) (by unfold maxLen; omega) rfl) rfl rfl ?_; rintro _ ⟨b221, rfl⟩)
      refine A3 4 ?_
      (refine R4 rfl rfl rfl rfl rfl rfl (fun _ _ => by repeat (first | exact Sw.here | apply Sw.there)) (M6 (by repeat first | exact mH | apply mT)) rfl (fun u hu => List.all_eq_true.1 hou9 u hu) (by unfold maxLen; omega) (by omega) rfl rfl (by repeat (first | exact B1.nil | apply B1.dep (by decide +kernel) | apply B1.im (by decide +kernel) (by assumption) (by repeat first | exact mH | apply mT) | apply B1.blk (by decide +kernel) (by repeat (first | exact Pk.here | apply Pk.there)) (by repeat first | exact mH | apply mT) | apply B1.slc (by decide +kernel) (by repeat (first | exact Pk.here | apply Pk.there)) (by repeat first | exact mH | apply mT))) (fun pn' cn' => ?_))
      refine aP 9 rfl (B7 rfl) rfl ?_
      refine A3 8 ?_
      (refine R4 rfl rfl rfl rfl rfl rfl (fun _ _ => by repeat (first | exact Sw.here | apply Sw.there)) (M6 (by repeat first | exact mH | apply mT)) rfl (by simp [Value.oneCell']) (by unfold maxLen; omega) (by omega) rfl rfl (by repeat (first | exact B1.nil | apply B1.dep (by decide +kernel) | apply B1.im (by decide +kernel) (by assumption) (by repeat first | exact mH | apply mT) | apply B1.blk (by decide +kernel) (by repeat (first | exact Pk.here | apply Pk.there)) (by repeat first | exact mH | apply mT) | apply B1.slc (by decide +kernel) (by repeat (first | exact Pk.here | apply Pk.there)) (by repeat first | exact mH | apply mT))) (fun pm' cm' => ?_))
      refine A3 10 ?_
      refine oS rfl rfl rfl rfl rfl rfl rfl rfl ?_
      refine aP 11 rfl (qA rfl) rfl ?_
      refine B6 ?_
      refine sP (H2 rfl rfl (by omega) (by omega)) rfl rfl ?_
      refine D7 ?_
      refine H9 (i + 1, (pn', cn', us ++ [u2], es' ++ [[v1, v2, v3, v4, v5, v6, v7, v8, v9]]), (pm', cm', ts ++ [t2], ess ++ [[.int .i64 t2.k, .slice p3 t2.ks.length c3]]), l2, G3) ?_ ?_ ?_
      ·(simp only [H6]; exact D3)
      ·(dsimp only; exact ⟨by omega, hle.trans hle3, by simp [hlu], C6.snoc (hst.mono hle3) hru, by simp [hlt], C8.snoc (hstt.mono hle3) hrt, A24 hat (A2b ((A2E ks[i] (d + 1) _ l (hvk i (by omega)) hcvX).1 _ _ _ hE).2), A3S (by omega) hml hE, by omega, by omega⟩)
      ·(show ks.length - (i + 1) < ks.length - i; omega)
   ·refine K5 ?_
    (obtain rfl : i = ks.length := (by omega); have hk14 : k ≠ 14 := hv2; rw [List.take_length] at hml hl2; refine R6 (cs := ess.flatten) (by repeat (first | exact Pk.here | apply Pk.there)) (fun G3 hle3 hsl3 hno3 => ?_); have hst3 := hstt.mono hle3; have hslU : D1 G3 pm ks.length cm 2 ess := D1.of hsl3 (by rw [hst3.len, hlt]) hst3.all (fun e he => (hst3.each e he).2); refine D8 rfl (B27 cx k nm num (.mk tk tks) (.mk fk fks) lb ks ts G3 pc nc cc _ pm ks.length cm ess (hx.mono hle3) har hlt.symm hk14 hta (hr0.mono hle3) hslU hst3 hat) rfl rfl (fun v G4 hle4 hh => ?_); obtain ⟨pw, nw, cw, ew, w, wc, wt, rfl, hnw, hslw, hstw, hrt, hw⟩ := hh; obtain ⟨p3, c3, e3, rfl, _⟩ := hrt.open; replace hst3 := hst3.mono hle4; replace hslU := hslU.mono hle4; have hle34 := hle3.trans hle4; replace hst := hst.mono hle34; replace hty := hty.mono hle34; replace hfr := hfr.mono hle34; rcases hmw : L8 cx k nm (Ty.mk tk tks) ts with _ | ⟨w2, t2⟩; rotate_left; have hwe := hw _ hmw; simp only [Prod.mk.injEq] at hwe; obtain ⟨rfl, rfl⟩ := hwe; have hwl := B28 (by rw [hlt]; exact hop) hkr hk14 hmw; have hcl2 := A1p us ts w2 l; rcases Nat.eq_zero_or_pos ks.length with h0 | h0; rotate_left; rotate_left)
    ·refine B6 ?_
     refine sE (A6 rfl) rfl (fun b260 => ?_)
     refine A7z ?_
     (refine E9 (cs := es'.flatten) (by repeat (first | exact Pk.here | apply Pk.there)) (fun G8 hle8 hsl8 hno8 => ?_); have hst8 := hst.mono hle8)
     refine tT (rS ?_)
     refine A2J (outs := [.blk bx [.int .i64 _]]) (rC rfl (A4 rfl rfl)) (rC rfl (A4 rfl rfl)) (rT rfl) (A0.cons (by repeat (first | exact Pk.here | apply Pk.there)) A0.nil) ?_
     (exact ElP.no (A6G hml (B3a hmw)) (M8 _) (M7 _ ⟨by omega, by omega⟩) (by omega) (by rw [hck]; omega))
    ·refine B6 ?_
     refine sE (A6 rfl) rfl (fun b297 => ?_)
     refine K8 ?_
     refine H4 rfl ((A3G _ _ _ hrt)) rfl rfl (fun h310 => ?_) (fun h310 => ?_)
     ·refine I6 ?_
      refine B8 ?_
      (have h0' : ks.length = 0 := h0; refine I2 (fun (_ : Nat) => ⟨[(86, .int .i64 0), (85, .int .i64 nw), (84, .slice pw nw cw), (11, .slice pm ks.length cm), (1, .slice pc nc cc), (0, .pointer (some ⟨bx, 0, none⟩)), (5, .pointer (some ⟨b3, 0, none⟩)), (6, .pointer (some ⟨b4, 0, none⟩)), (7, .pointer (some ⟨b5, 0, none⟩)), (10, .pointer (some ⟨b58, 0, none⟩)), (18, .pointer (some ⟨b297, 0, none⟩))], [.blk b297 [.int .i64 t2.k, .slice p3 t2.ks.length c3], .blk b58 [.int .i64 k, .string nm, .int .i64 num, .int .i64 tk, .slice pt tks.length ct, .int .i64 fk, .slice pf fks.length cf, .int .i64 lb, .slice pn ks.length cn], .slc pn cn 28 9 ks.length es'.flatten, .blk b5 [.int .i64 0, .slice none 0 0], .blk b4 [.int .i64 0, .string ⟨⟨[]⟩⟩, .int .i64 0, .int .i64 0, .slice none 0 0, .int .i64 0, .slice none 0 0, .int .i64 0, .slice none 0 0], .blk b3 [.int .i64 k, .string nm, .int .i64 num, .int .i64 tk, .slice pt tks.length ct, .int .i64 fk, .slice pf fks.length cf, .int .i64 lb, .slice q ks.length cq], .blk bx [.int .i64 l]], G4⟩) (fun _ => True) (fun i => i) 0 ?_ ?_ ?_)
      ·exact D3
      ·trivial
      ·(rintro (i0 : Nat) _)
       refine tS (tR ?_)
       refine sP (A1i rfl rfl (by omega)) rfl rfl ?_
       refine K5 ?_
       refine sP (J3 rfl rfl (by omega)) rfl rfl ?_
       refine A7 ?_
       refine E0 E1 rfl ?_
       refine L7 (i := 0) (l' := [tt,ff,ff,ff,ff]) rfl D2 (A4 rfl rfl) rfl (by kernel_rfl) rfl rfl ?_
       refine aL 1 rfl (A4 rfl rfl) rfl ?_
       refine A3 2 ?_
       refine oS rfl rfl rfl rfl rfl rfl rfl rfl ?_
       refine A3 3 ?_
       refine oS rfl rfl rfl rfl rfl rfl rfl rfl ?_
       refine aP 4 rfl (qA rfl) rfl ?_
       refine E8 (nS ?_)
       (refine E9 (cs := es'.flatten) (by repeat (first | exact Pk.here | apply Pk.there)) (fun G8 hle8 hsl8 hno8 => ?_); have hst8 := hst.mono hle8)
       refine tT ?_
       refine A2J (outs := [.blk bx [.int .i64 _]]) (rC rfl (A4 rfl rfl)) (rC rfl (A4 rfl rfl)) (rT rfl) (A0.cons (by repeat (first | exact Pk.here | apply Pk.there)) A0.nil) ?_
       (obtain rfl : w2 = [] := List.length_eq_zero_iff.1 (by omega); have hne : k ≠ 13 := (fun h => by have := hop.2.2 (.inr (.inr (.inr h))); omega); have hel := A9G (num := num) (fr := .mk fk fks) (lb := lb) hml (A3Q hmw (b := true) (by assumption)) hne; rw [V1] at hel; exact ElP.yes hel (A8.put hk hnum hlb (hty.mono hle8) (hfr.mono hle8) (by rw [hlu]) (D1.of hsl8 (by rw [hst8.len, hlu]) hst8.all (fun e he => (hst8.each e he).2)) hst8) (hrt.mono hle8) (by omega) (by rw [hck]; omega))
     ·refine K5 ?_
      (refine E9 (cs := es'.flatten) (by repeat (first | exact Pk.here | apply Pk.there)) (fun G8 hle8 hsl8 hno8 => ?_); have hst8 := hst.mono hle8)
      refine tT (rS ?_)
      refine A2J (outs := [.blk bx [.int .i64 _]]) (rC rfl (A4 rfl rfl)) (rC rfl (A4 rfl rfl)) (rT rfl) (A0.cons (by repeat (first | exact Pk.here | apply Pk.there)) A0.nil) ?_
      (exact ElP.no (A6G hml (A3Q hmw (b := false) (by assumption))) (M8 _) (M7 _ ⟨by omega, by omega⟩) (by omega) (by rw [hck]; omega))
    ·(refine A3N (cs := es'.flatten) (by repeat (first | exact Pk.here | apply Pk.there)) h0 (fun bc C hpe hnc hcm => ?_); subst hpe; refine sQ (qM rfl) rfl ?_)
     refine E3 ?_
     refine sE (A6 rfl) rfl (fun b392 => ?_)
     refine K8 ?_
     refine H4 rfl ((A3G _ _ _ hrt)) rfl rfl (fun h405 => ?_) (fun h405 => ?_)
     ·refine I6 ?_
      refine B8 ?_
      (have h0' := h0; refine I2 (fun (x : Nat × List (List Value) × IM) => ⟨[(86, .int .i64 x.1), (85, .int .i64 nw), (84, .slice pw nw cw), (11, .slice pm ks.length cm), (1, .slice pc nc cc), (0, .pointer (some ⟨bx, 0, none⟩)), (5, .pointer (some ⟨b3, 0, none⟩)), (6, .pointer (some ⟨b4, 0, none⟩)), (7, .pointer (some ⟨b5, 0, none⟩)), (10, .pointer (some ⟨b58, 0, none⟩)), (18, .pointer (some ⟨b392, 0, none⟩))], [.blk b392 [.int .i64 t2.k, .slice p3 t2.ks.length c3], .blk b58 [.int .i64 k, .string nm, .int .i64 num, .int .i64 tk, .slice pt tks.length ct, .int .i64 fk, .slice pf fks.length cf, .int .i64 lb, .slice (some ⟨bc, 0, none⟩) ks.length cn], .blk bc (x.2.1.flatten ++ C), .blk b5 [.int .i64 0, .slice none 0 0], .blk b4 [.int .i64 0, .string ⟨⟨[]⟩⟩, .int .i64 0, .int .i64 0, .slice none 0 0, .int .i64 0, .slice none 0 0, .int .i64 0, .slice none 0 0], .blk b3 [.int .i64 k, .string nm, .int .i64 num, .int .i64 tk, .slice pt tks.length ct, .int .i64 fk, .slice pf fks.length cf, .int .i64 lb, .slice q ks.length cq], .blk bx [.int .i64 (E5 us ts (w2.take x.1) l).2]], x.2.2⟩) (fun x => x.1 ≤ nw ∧ B9 G4 x.2.2 ∧ C6 x.2.2 (E5 us ts (w2.take x.1) l).1 x.2.1) (fun x => nw - x.1) (0, es', G4) ?_ ?_ ?_)
      ·(simp only [List.take_zero, V1]; exact (J8 (by repeat (first | exact D4.nil | refine D4.cons rfl ?_)) (by repeat (first | exact A0.refl | exact A0.nil | refine A0.cons (by repeat (first | exact Pk.here | apply Pk.there)) ?_ | apply A0.drop))))
      ·(exact ⟨Nat.zero_le _, B9.refl _, by simp only [List.take_zero, V1]; exact hst⟩)
      ·(rintro ⟨j, es2, G6⟩ ⟨hj, hle6, hst2⟩; simp only [] at hj hle6 hst2 ⊢; replace hslw := hslw.mono hle6; replace hstw := hstw.mono hle6; replace hslU := hslU.mono hle6; replace hst3 := hst3.mono hle6; replace hty := hty.mono hle6; replace hfr := hfr.mono hle6; replace hrt := hrt.mono hle6; have hall2 := hst2.all; have hle2s := hst2.len; rw [A1Q] at hle2s)
       refine tS (tR ?_)
       refine sB (I0 rfl rfl) rfl rfl (fun h428 => ?_) (fun h428 => ?_)
       ·refine B4 ?_
        refine B8 ?_
        refine E3 ?_
        (have hjw : j < w2.length := (by omega); obtain ⟨b5w, o5w, q5, d5, hp5, hat, hrw, hgb⟩ := hslw.kidTy hstw (i := j) (by omega) (by omega); cases hp5; refine sP (B3 rfl rfl rfl (by omega)) rfl rfl ?_)
        refine sL (A2 rfl rfl (hat _) rfl) rfl rfl ?_
        refine sE (A6 rfl) rfl (fun b442 => ?_)
        refine B6 ?_
        (have hjw2 := hjw; obtain ⟨b0, o0, q0, d0, hp0, hat0, hre0, hg0⟩ := hslU.kidTy hst3 (i := j) (by omega) (by omega); cases hp0; obtain ⟨m1, m2, _⟩ := A3T us ts w2 l j hjw (by omega) (by omega); obtain ⟨m3, m4⟩ := A80 (us := us) (h := ts) (w := w2) (l := l) hjw (by omega) (by omega); obtain ⟨hE1, hE2⟩ := hst2.at2 (i := j) (by omega) (by omega); rw [m2] at hE2; have hE3 := hE2.len; have hE4 := hE2.one; have hcj := A1p us ts (w2.take j) l; refine E0 E1 rfl ?_)
        refine I8 (i := 0) (l' := [tt,ff,ff,ff,ff,ff,ff,ff,ff,ff,ff,ff,ff,ff,ff,ff,ff]) rfl D2 (B7 rfl) rfl (by kernel_rfl) rfl rfl ?_
        refine aL 1 rfl (C7 rfl rfl) rfl ?_
        refine aP 2 rfl (qM rfl) rfl ?_
        refine aP 3 rfl (qM rfl) rfl ?_
        refine aP 4 rfl (B7 rfl) rfl ?_
        refine aL 5 rfl (C7 rfl rfl) rfl ?_
        refine aP 6 rfl (qM rfl) rfl ?_
        refine aP 7 rfl (B3 (j := j) rfl rfl rfl (by omega)) rfl ?_
        refine aL 8 rfl (A2 rfl rfl (A4Q (es := es2) (by repeat first | exact mH | apply mT) (by omega) hall2) hE3) rfl ?_
        refine aP 9 rfl (qM rfl) rfl ?_
        refine aP 10 rfl (qM rfl) rfl ?_
        refine aP 11 rfl (B3 (j := j) rfl rfl rfl (by omega)) rfl ?_
        refine aL 12 rfl (A2 rfl rfl (hat0 _) rfl) rfl ?_
        refine aL 13 rfl (A4 rfl rfl) rfl ?_
        refine A3 14 ?_
        (refine Y6 (l' := [tt,tt,tt,tt,tt,tt,tt,tt,tt,tt,tt,tt,tt,tt,tt,ff,ff]) rfl rfl (B4h bx us[j] ts[j] w2[j] (E5 us ts (w2.take j) l).2 G6 _ _ _ (by omega) hE2 hre0 hrw) (Pk.perm (by repeat (first | exact Pk.here | apply Pk.there))) rfl rfl rfl (by repeat (first | exact B1.nil | apply B1.dep (by decide +kernel) | apply B1.im (by decide +kernel) (by assumption) (by repeat first | exact mH | apply mT) | apply B1.blk (by decide +kernel) (by repeat (first | exact Pk.here | apply Pk.there)) (by repeat first | exact mH | apply mT) | apply B1.slc (by decide +kernel) (by repeat (first | exact Pk.here | apply Pk.there)) (by repeat first | exact mH | apply mT))) (fun v G7 outs hle7 hh => ?_); obtain ⟨uc, rfl, rfl, hru⟩ := hh; rw [← m4]; have hlu9 := hru.len; have hou9 := hru.one)
        refine aP 15 rfl (B3 (j := j) rfl rfl rfl (by omega)) rfl ?_
        refine A3 16 ?_
        refine R7 rfl rfl rfl rfl hlu9 hou9 rfl rfl (by kernel_rfl) (by repeat first | exact Sw.here | apply Sw.there) (by exact A3O (by omega) hall2 hlu9) ?_
        refine B6 ?_
        refine sP (H2 rfl rfl (by omega) (by omega)) rfl rfl ?_
        refine D7 ?_
        refine H9 (j + 1, es2.set j uc, G7) ?_ ?_ ?_
        ·(simp only [List.take_zero, V1]; exact (J8 (by repeat (first | exact D4.nil | refine D4.cons rfl ?_)) (by repeat (first | exact A0.refl | exact A0.nil | refine A0.cons (by repeat (first | exact Pk.here | apply Pk.there)) ?_ | apply A0.drop))))
        ·(dsimp only; exact ⟨by omega, hle6.trans hle7, by rw [m3]; exact C6.set (hst2.mono hle7) hru⟩)
        ·(show nw - (j + 1) < nw - j; omega)
       ·refine K5 ?_
        refine sB (qE rfl rfl) rfl rfl (fun h492 => ?_) (fun h492 => ?_)
        ·refine B6 ?_
         (have hq13 : k = 13 := (by omega); have hl13 := hop.2.2 (.inr (.inr (.inr hq13))); have hjw : j = w2.length := (by omega); rw [hjw, List.take_length] at hst2; have hm0 := A1Q us ts w2 l; obtain ⟨hE1, hE2⟩ := hst2.at2 (i := 0) (by omega) (by omega); have hE3 := hE2.len; have hE4 := hE2.one; refine E0 E1 rfl ?_)
         refine I8 (i := 0) (l' := [tt,ff,ff,ff,ff,ff,ff,ff]) rfl D2 (B7 rfl) rfl (by kernel_rfl) rfl rfl ?_
         refine aL 1 rfl (C7 rfl rfl) rfl ?_
         refine aP 2 rfl (B3 (j := 0) rfl rfl rfl (by omega)) rfl ?_
         refine aL 3 rfl (A2 rfl rfl (A4Q (es := es2) (by repeat first | exact mH | apply mT) (by omega) hall2) hE3) rfl ?_
         refine aL 4 rfl (A4 rfl rfl) rfl ?_
         refine A3 5 ?_
         refine oS rfl rfl rfl rfl hE3 hE4 rfl rfl ?_ (hu := by exact D5 hE3.symm)
         refine A3 6 ?_
         refine oS rfl rfl rfl rfl rfl rfl rfl rfl ?_
         refine aP 7 rfl (qA rfl) rfl ?_
         refine E8 (nS ?_)
         (refine A2q (bs := [(bc, es2.flatten ++ C)]) (Pk.perm (by repeat (first | exact Pk.here | apply Pk.there))) (fun hn9 hd9 hle9 => ?_))
         refine tT (rS ?_)
         refine A2J (outs := [.blk bx [.int .i64 _]]) (rC rfl (A2 rfl rfl (A9 (by repeat first | exact mH | apply mT)) hE3)) (rC rfl (A4 rfl rfl)) (rT rfl) (A0.cons (by repeat (first | exact Pk.here | apply Pk.there)) A0.nil) ?_
         (have hel := B4j (num := num) (fr := .mk fk fks) (lb := lb) hml (A3Q hmw (b := true) (by assumption)) hq13; rw [A9H (by omega)] at hel; rw [hjw, List.take_length]; exact ElP.yes hel (hE2.mono hle9) (hrt.mono hle9) (by omega) (by rw [hck]; omega))
        ·refine A7 ?_
         refine E0 E1 rfl ?_
         refine L7 (i := 0) (l' := [tt,ff,ff,ff,ff]) rfl D2 (A4 rfl rfl) rfl (by kernel_rfl) rfl rfl ?_
         refine aL 1 rfl (A4 rfl rfl) rfl ?_
         refine A3 2 ?_
         refine oS rfl rfl rfl rfl rfl rfl rfl rfl ?_
         refine A3 3 ?_
         refine oS rfl rfl rfl rfl rfl rfl rfl rfl ?_
         refine aP 4 rfl (qA rfl) rfl ?_
         refine E8 (nS ?_)
         (refine A2q (bs := [(bc, es2.flatten ++ C)]) (Pk.perm (by repeat (first | exact Pk.here | apply Pk.there))) (fun hn9 hd9 hle9 => ?_))
         refine tT ?_
         refine A2J (outs := [.blk bx [.int .i64 _]]) (rC rfl (A4 rfl rfl)) (rC rfl (A4 rfl rfl)) (rT rfl) (A0.cons (by repeat (first | exact Pk.here | apply Pk.there)) A0.nil) ?_
         (have hjw : j = w2.length := (by omega); rw [hjw, List.take_length] at hst2; have hst9 := hst2.mono hle9; have hel := A9G (num := num) (fr := .mk fk fks) (lb := lb) hml (A3Q hmw (b := true) (by assumption)) (show k ≠ 13 by omega); rw [hjw, List.take_length]; have hm0 := A1Q us ts w2 l; exact ElP.yes hel (A8.put hk hnum hlb (hty.mono hle9) (hfr.mono hle9) (by rw [hm0, hlu]) (D1.of (Sl.of_blk (A := []) (by rw [A02 hst9.all, hst9.len, hm0, hlu]) (by omega) hcm (Wi.in hn9 List.mem_cons_self)) (by rw [hst9.len, hm0, hlu]) hst9.all (fun e he => (hst9.each e he).2)) hst9) (hrt.mono hle9) (by omega) (by rw [hck]; omega))
     ·refine J9 ?_
      refine A2J (outs := [.blk bx [.int .i64 _]]) (rC rfl (A4 rfl rfl)) (rC rfl (A4 rfl rfl)) (rT rfl) (A0.cons (by repeat (first | exact Pk.here | apply Pk.there)) A0.nil) ?_
      (exact ElP.no (A6G hml (A3Q hmw (b := false) (by assumption))) (M8 _) (M7 _ ⟨by omega, by omega⟩) (by omega) (by rw [hck]; omega))
def A1e (r : Option (Tm × Ty)) : IM → Value → List A5 → Prop := J4 fun G' v => ∃ cu ct, v = .tuple ⟨[.agg ⟨cu⟩, .agg ⟨ct⟩, .bool r.isSome]⟩ ∧ A8 G' (r.getD (K1, B2)).1 cu ∧ C1 G' (r.getD (K1, B2)).2 ct
theorem A1e.no {G : IM} {r : Option (Tm × Ty)} {cu ct : List Value} (h : r = none) (hu : A8 G K1 cu) (ht : C1 G B2 ct) : A1e r G (.tuple ⟨[.agg ⟨cu⟩, .agg ⟨ct⟩, .bool false]⟩) [] := by subst h; exact ⟨rfl, cu, ct, rfl, hu, ht⟩
theorem A1e.yes {G : IM} {r : Option (Tm × Ty)} {u : Tm} {t : Ty} {cu ct : List Value} (h : r = some (u, t)) (hu : A8 G u cu) (ht : C1 G t ct) : A1e r G (.tuple ⟨[.agg ⟨cu⟩, .agg ⟨ct⟩, .bool true]⟩) [] := by subst h; exact ⟨rfl, cu, ct, rfl, hu, ht⟩
theorem A9J {e : Tm} (h : N8 e = false) : S1 e = none := by unfold S1; rw [if_neg (by rw [h]; decide)]
theorem A6H {e : Tm} (h : N8 e = true) (h2 : M0 [] e 0 = none) : S1 e = none := by unfold S1; rw [if_pos h, h2]
theorem A6I {e u : Tm} {t : Ty} {l : Int} (h : N8 e = true) (h2 : M0 [] e 0 = some (u, t, l)) : S1 e = some (u, t) := by unfold S1; rw [if_pos h, h2]
theorem A6J (e : Tm) (G : IM) (cells : List Value) (hr : A8 G e cells) : Fn Tryz.prog 12 [.agg ⟨cells⟩] [] G (A1e (S1 e)) := by
 have hRl := hr.len
 have hRo := hr.one
 have hV := A4E e G cells hr
 have hno := @A9J e
 have hnn := @A6H e
 have hso := @A6I e
 refine C0 Tryz.func12 rfl Tryz.ntmps12 Tryz.results12 rfl ?_
 intro w0
 refine tS (tR ?_)
 refine sE (C5 rfl rfl) rfl (fun b3 => ?_)
 refine sE (A6 rfl) rfl (fun b4 => ?_)
 refine sE (A6 rfl) rfl (fun b5 => ?_)
 refine A7 ?_
 refine sL (A2 rfl rfl (A9 (by repeat first | exact mH | apply mT)) hRl) rfl rfl ?_
 refine H4 rfl (hV) rfl rfl (fun h13 => ?_) (fun h13 => ?_)
 refine E4 ?_
 refine sE (C5 rfl rfl) rfl (fun b23 => ?_)
 refine sL (A2 rfl rfl (A9 (by repeat first | exact mH | apply mT)) hRl) rfl rfl ?_
 focus (have htv : N8 e = true := (by assumption); obtain ⟨hsh, hcn⟩ := (Z8 e).1 htv; refine I4 rfl (A9I _ e 1 [] 0 G none 0 0 _ hsh (by omega) A2D (S0.nil G) hr (by omega) (by omega)) (Pk.perm (by repeat (first | exact Pk.here | apply Pk.there))) rfl rfl (fun v G1 outs hle1 hh => ?_); obtain ⟨u, uc, t, tc, l3, rfl, rfl, hru, hrt, hl3, hl4, hu⟩ := hh; have hul := hru.len; have huo := hru.one; obtain ⟨p3, c3, e3, rfl, _⟩ := hrt.open; have hnn := hnn htv; have hso := @hso u t l3 htv; rcases hE : M0 [] e 0 with _ | ⟨u2, t2, l2⟩; rotate_left; have hue := hu _ hE; simp only [Prod.mk.injEq] at hue; obtain ⟨rfl, rfl, rfl⟩ := hue; have hso := hso hE; obtain ⟨hg1, hg2, hg3⟩ := A45 hso; rotate_left; simp only [Option.isSome]; rotate_left; simp only [Option.isSome])
 refine B6 ?_
 refine sE (A6 rfl) rfl (fun b30 => ?_)
 refine sE (A6 rfl) rfl (fun b31 => ?_)
 refine sS rfl rfl rfl hul huo rfl ?_ (hu := by exact D5 hul.symm)
 refine I6 ?_
 refine E0 E1 rfl ?_
 refine L7 (i := 0) (l' := [tt,ff,ff,ff,ff,ff,ff]) rfl D2 (A2 rfl rfl (A9 (by repeat first | exact mH | apply mT)) hul) rfl (by kernel_rfl) rfl rfl ?_
 refine aL 2 rfl (A4 rfl rfl) rfl ?_
 refine A3 1 ?_
 (refine H1 rfl rfl (A51 _ _ _ (A43 hg1) hru) rfl rfl rfl (fun v G2 hle2 hh => ?_); obtain ⟨cs2, F2, rfl, hs2, hn2⟩ := hh; have hwl := hs2.R.len; have hwo := hs2.R.one; have hr2 := hs2.R.mono (C4.le G2 G1); replace hrt := hrt.mono hle2)
 refine A3 3 ?_
 (refine H1 rfl rfl (A1L _ _ _ (A2b hg3).small hrt) rfl rfl rfl (fun v G3 hle3 hh => ?_); obtain ⟨cs3, F3, rfl, hs3, hn3⟩ := hh; obtain ⟨p4, c4, rfl, _⟩ := hs3.open; have hr3 := hs3.R.mono (C4.le G3 G2); replace hr2 := hr2.mono hle3)
 refine A3 4 ?_
 refine oS rfl rfl rfl rfl hwl hwo rfl rfl ?_ (hu := by exact D5 hwl.symm)
 refine A3 5 ?_
 refine oS rfl rfl rfl rfl rfl rfl rfl rfl ?_
 refine aP 6 rfl (qA rfl) rfl ?_
 refine E8 (nS (tT ?_))
 refine D9 (rC rfl (A2 rfl rfl (A9 (by repeat first | exact mH | apply mT)) hwl)) (rC rfl (A4 rfl rfl)) (rT rfl) ?_
 (exact A1e.yes hso hr2 hr3)
 refine B6 ?_
 refine sE (A6 rfl) rfl (fun b69 => ?_)
 refine sE (A6 rfl) rfl (fun b70 => ?_)
 refine sS rfl rfl rfl hul huo rfl ?_ (hu := by exact D5 hul.symm)
 refine A1j ?_
 refine D9 (rC rfl (A4 rfl rfl)) (rC rfl (A4 rfl rfl)) (rT rfl) ?_
 (exact A1e.no (hnn hE) (M8 _) (M7 _ ⟨by omega, by omega⟩))
 refine I6 ?_
 refine D9 (rC rfl (A4 rfl rfl)) (rC rfl (A4 rfl rfl)) (rT rfl) ?_
 (exact A1e.no (hno (by assumption)) (M8 _) (M7 _ ⟨by omega, by omega⟩))
def O0 (e : Tm) : Option Ty := match S1 e with | some (_, t) => some t | none => none
theorem B4k (e : Tm) (G : IM) (cells : List Value) (htv : N8 e = true) (hr : A8 G e cells) : Fn Tryz.prog 237 [.slice none 0 0, .agg ⟨cells⟩] [] G (X7 (O0 e) G) := by
 have hRl := hr.len
 have hRo := hr.one
 have hnn := @A6H e htv
 have hso := fun u t l => @A6I e u t l htv
 obtain ⟨hsh, hcn⟩ := (Z8 e).1 htv
 refine C0 Tryz.func237 rfl Tryz.ntmps237 Tryz.results237 rfl ?_
 intro w0
 refine tS (tR ?_)
 refine sE (C5 rfl rfl) rfl (fun b3 => ?_)
 refine sE (A6 rfl) rfl (fun b4 => ?_)
 refine A7 ?_
 refine sE (C5 rfl rfl) rfl (fun b11 => ?_)
 refine sQ (qM rfl) rfl ?_
 refine sL (A2 rfl rfl (A9 (by repeat first | exact mH | apply mT)) hRl) rfl rfl ?_
 focus (refine I4 rfl (A9I _ e 1 [] 0 G none 0 0 _ hsh (by omega) A2D (S0.nil G) hr (by omega) (by omega)) (Pk.perm (by repeat (first | exact Pk.here | apply Pk.there))) rfl rfl (fun v G1 outs hle1 hh => ?_); obtain ⟨u, uc, t, tc, l3, rfl, rfl, hru, hrt, hl3, hl4, hu⟩ := hh; have hul := hru.len; have huo := hru.one; obtain ⟨p3, c3, e3, rfl, _⟩ := hrt.open; have hso := hso u t l3; rcases hE : M0 [] e 0 with _ | ⟨u2, t2, l2⟩; rotate_left; have hue := hu _ hE; simp only [Prod.mk.injEq] at hue; obtain ⟨rfl, rfl, rfl⟩ := hue; have hso := hso hE; rotate_left; simp only [Option.isSome]; rotate_left; simp only [Option.isSome])
 refine B6 ?_
 refine sE (A6 rfl) rfl (fun b19 => ?_)
 refine sE (A6 rfl) rfl (fun b20 => ?_)
 refine sS rfl rfl rfl hul huo rfl ?_ (hu := by exact D5 hul.symm)
 refine K3 ?_
 refine F0 (rC rfl (A4 rfl rfl)) (rT rfl) ?_
 (exact X7.yes hrt rfl (by unfold O0; rw [hso]))
 refine B6 ?_
 refine sE (A6 rfl) rfl (fun b41 => ?_)
 refine sE (A6 rfl) rfl (fun b42 => ?_)
 refine sS rfl rfl rfl hul huo rfl ?_ (hu := by exact D5 hul.symm)
 refine K3 ?_
 refine F0 (rC rfl (A4 rfl rfl)) (rT rfl) ?_
 (exact X7.no hrt rfl (by unfold O0; rw [hnn hE]))
theorem B4l (fid : FuncId) (us cs : List Value) (G : IM) : Fn Tryz.prog 250 [.slice none 0 0, .func (.func fid) ⟨us⟩ ⟨cs⟩] [] G (I5 (.int .i64 (-1)) G) := by
 refine C0 Tryz.func250 rfl Tryz.ntmps250 Tryz.results250 rfl ?_
 intro w0
 refine K3 ?_
 refine B8 ?_
 refine I2 (fun (_ : Nat) => ⟨[(8, .int .i64 0), (7, .int .i64 0)], [], G⟩) (fun _ => True) (fun i => i) 0 ?_ ?_ ?_
 ·exact D3
 ·trivial
 ·(rintro (i0 : Nat) _)
  refine tS (tR ?_)
  refine sP (A1i rfl rfl (by omega)) rfl rfl ?_
  refine J9 ?_
  trivial
theorem B4m (fid : FuncId) (us cs : List Value) (G : IM) : Fn Tryz.prog 246 [.slice none 0 0, .func (.func fid) ⟨us⟩ ⟨cs⟩] [] G (I5 (.bool false) G) := by
 refine C0 Tryz.func246 rfl Tryz.ntmps246 Tryz.results246 rfl ?_
 intro w0
 refine E4 ?_
 refine H3 rfl (B4l fid us cs G) rfl rfl ?_
 refine sP (A7o rfl rfl (by omega)) rfl rfl ?_
 refine B0 ?_
 (exact ⟨rfl, rfl, rfl⟩)
theorem B4n (G : IM) : Fn Tryz.prog 236 [.slice none 0 0] [] G (I5 (.bool true) G) := by
 refine C0 Tryz.func236 rfl Tryz.ntmps236 Tryz.results236 rfl ?_
 intro w0
 refine E4 ?_
 refine sP (A7n rfl rfl (by omega)) rfl rfl ?_
 refine D7 ?_
 refine H3 rfl ((B4m _ _ _ _)) rfl rfl ?_
 refine B4 ?_
 (exact ⟨rfl, rfl, rfl⟩)
theorem A9K {e : Tm} (h : N8 e = false) : O0 e = none := by unfold O0; rw [A9J h]
theorem B4o {e : Tm} {t : Ty} (h : O0 e = some t) : F9 t = true := by
 unfold O0 at h
 split at h
 ·rename_i u t' hi; cases h; exact (A45 hi).2.2
 ·cases h
theorem B4p (e : Tm) (G : IM) (cells : List Value) (hr : A8 G e cells) : Fn Tryz.prog 205 [.slice none 0 0, .agg ⟨cells⟩] [] G (X7 (O0 e) G) := by
 have hRl := hr.len
 have hRo := hr.one
 refine C0 Tryz.func205 rfl Tryz.ntmps205 Tryz.results205 rfl ?_
 intro w0
 refine tS (tR ?_)
 refine sE (C5 rfl rfl) rfl (fun b3 => ?_)
 refine sE (A6 rfl) rfl (fun b4 => ?_)
 refine B4 ?_
 refine H3 rfl ((B4n _)) rfl rfl ?_
 refine D7 ?_
 refine sL (A2 rfl rfl (A9 (by repeat first | exact mH | apply mT)) hRl) rfl rfl ?_
 refine H4 rfl ((A4E e _ _ hr)) rfl rfl (fun h16 => ?_) (fun h16 => ?_)
 refine J5 ?_
 refine sL (A2 rfl rfl (A9 (by repeat first | exact mH | apply mT)) hRl) rfl rfl ?_
 focus (refine D8 rfl (B4k e G cells (by assumption) hr) rfl rfl (fun v G1 hle1 hh => ?_); obtain ⟨cu, u, rfl, hru, hu⟩ := hh; obtain ⟨p1, c1, e1, rfl, _⟩ := hru.open; rcases hct : O0 e with _ | u2; rotate_left; obtain rfl := hu u2 hct; have hgv := B4o hct; rotate_left; simp only [Option.isSome]; rotate_left; simp only [Option.isSome])
 refine E3 ?_
 refine sE (A6 rfl) rfl (fun b32 => ?_)
 refine S6 ?_
 (refine D8 rfl (A1L _ G1 _ (A2b hgv).small hru) rfl rfl (fun v G2 hle2 hh => ?_); obtain ⟨cs2, F2, rfl, hs2, hn2⟩ := hh; obtain ⟨p2, c2, rfl, _⟩ := hs2.open; have hr2 := hs2.R.mono (C4.le G2 G1))
 refine B0 ?_
 refine F0 (rC rfl (A4 rfl rfl)) (rT rfl) ?_
 (exact X7.yes hr2 rfl (by first | exact hct | rfl))
 refine E3 ?_
 refine sE (A6 rfl) rfl (fun b61 => ?_)
 refine A0K ?_
 refine F0 (rC rfl (A4 rfl rfl)) (rT rfl) ?_
 (exact X7.no (u := B2) (M7 _ ⟨by omega, by omega⟩) rfl (by first | exact hct | rfl))
 refine K5 ?_
 refine F0 (rC rfl (A4 rfl rfl)) (rT rfl) ?_
 (exact X7.no (u := B2) (M7 _ ⟨by omega, by omega⟩) rfl (A9K (by assumption)))
theorem B4q (e : Tm) (G : IM) (cells : List Value) (hr : A8 G e cells) : Fn Tryz.prog 150 [.agg ⟨cells⟩] [] G (X7 (O0 e) G) := by
 have hRl := hr.len
 have hRo := hr.one
 refine C0 Tryz.func150 rfl Tryz.ntmps150 Tryz.results150 rfl ?_
 intro w0
 refine tS (tR ?_)
 refine sE (C5 rfl rfl) rfl (fun b3 => ?_)
 refine sE (A6 rfl) rfl (fun b4 => ?_)
 refine B0 ?_
 refine sL (A2 rfl rfl (A9 (by repeat first | exact mH | apply mT)) hRl) rfl rfl ?_
 (refine D8 rfl (B4p e G cells hr) rfl rfl (fun v G1 hle1 hh => ?_); obtain ⟨cu, u, rfl, hru, hu⟩ := hh; obtain ⟨p1, c1, e1, rfl, _⟩ := hru.open)
 refine B4 ?_
 refine F0 (rC rfl (A4 rfl rfl)) (rT rfl) ?_
 (exact ⟨rfl, _, u, rfl, hru, hu⟩)
def A3Y (e : Tm) (fuel : Int) : ByteArray × Int × Int := match S1 e with
 | none => (⟨⟨[]⟩⟩, 3, 0)
 | some (u, _) => if (A4T u fuel).2.1 = 0 then (A9F (A4T u fuel).1, 0, 0) else (⟨⟨[]⟩⟩, (A4T u fuel).2.1, (A4T u fuel).2.2)
def B6T (r : ByteArray × Int × Int) (G : IM) : IM → Value → List A5 → Prop := J4 fun _ v => v = .tuple ⟨[.string r.1, .int .i64 r.2.1, .int .i64 r.2.2]⟩
def B4r (r s : ByteArray × Int × Int) : Int := if r.2.1 = 2 then 2 else if r.2.1 ≠ 0 ∨ s.2.1 = 4 ∨ s.2.1 = 5 then 3 else if s.2.1 = 0 ∧ r.1 = s.1 then 1 else 4
def B6U (a b : Tm) (fuel : Int) : Int := if (O0 a).isSome = true ∧ A3d a b = true ∧ R8 fuel 0 300 = true then B4r (A3Y a fuel) (A3Y b fuel) else 0
def gxT : GX → ByteArray
 | .n n => A9E n
 | .b b => if b = true then txT else txF
 | .p => A9C
 | .f => A9D
theorem A9L {a : Tm} (h : (O0 a).isSome = true) : ∃ u t, S1 a = some (u, t) := by
 unfold O0 at h
 split at h
 ·exact ⟨_, _, by assumption⟩
 ·cases h
theorem B4s {a u : Tm} {t : Ty} (h : S1 a = some (u, t)) : O0 a = some t := by unfold O0; rw [h]
theorem B4t {a b : Tm} (h : (O0 a).isSome = true) (hp : A3d a b = true) : (O0 b).isSome = true := by
 obtain ⟨u, t, hu⟩ := A9L h
 obtain ⟨e, e', A, A', _, _, h3, _⟩ := B3C hu hp
 rw [B4s h3]; rfl
mutual
def H0 : Tm → List Ty
 | .mk k _ _ ty _ _ ks => (if k = 5 ∨ k = 13 then [ty] else []) ++ H5 ks
def H5 : List Tm → List Ty
 | [] => []
 | t :: ts => H0 t ++ H5 ts
end
theorem A6K : ∀ (a b : List Tm), H5 (a ++ b) = H5 a ++ H5 b
 | [], b => by simp [H5]
 | t :: a, b => by simp [H5, A6K a b]
theorem W9 {ks : List Tm} {i : Nat} (hi : i < ks.length) : H5 (ks.take (i + 1)) = H5 (ks.take i) ++ H0 ks[i] := by
 rw [List.take_succ_eq_append_getElem hi, A6K, H5, H5, List.append_nil]
mutual
theorem A46 : ∀ t : Tm, (H0 t).length ≤ D0 t
 | .mk k nm num ty fr lb ks => by
  have := A0U ks
  rw [H0, D0, List.length_append]
  split <;> simp <;> omega
theorem A0U : ∀ ts : List Tm, (H5 ts).length ≤ E7 ts
 | [] => by simp [H5]
 | t :: ts => by
  have := A46 t
  have := A0U ts
  rw [H5, E7, List.length_append]; omega
end
mutual
def T9 : Tm → List Ty → Tm
 | .mk k nm num ty fr lb ks, l => .mk k nm num (if k = 5 ∨ k = 13 then l.getD 0 B2 else ty) fr lb (O4 ks (if k = 5 ∨ k = 13 then l.drop 1 else l))
def O4 : List Tm → List Ty → List Tm
 | [], _ => []
 | t :: ts, l => T9 t l :: O4 ts (l.drop (H0 t).length)
end
theorem A2c : ∀ (ts : List Tm) (l : List Ty), (O4 ts l).length = ts.length
 | [], _ => rfl
 | t :: ts, l => by rw [O4, List.length_cons, A2c ts, List.length_cons]
theorem A9M : ∀ (a b : List Tm) (l : List Ty), O4 (a ++ b) l = O4 a l ++ O4 b (l.drop (H5 a).length)
 | [], b, l => by simp [O4, H5]
 | t :: a, b, l => by simp [O4, H5, A9M a b, List.drop_drop]
theorem A3Z {ks : List Tm} {i : Nat} (hi : i < ks.length) (l : List Ty) : O4 (ks.take (i + 1)) l = O4 (ks.take i) l ++ [T9 ks[i] (l.drop (H5 (ks.take i)).length)] := by
 rw [List.take_succ_eq_append_getElem hi, A9M, O4, O4]
def P1 (mask : Nat) : Nat → List Ty → List Ty
 | _, [] => []
 | i, t :: ts => (if (mask / 2 ^ i) % 2 = 1 then .mk 1 [] else t) :: P1 mask (i + 1) ts
theorem A2d (mask : Nat) : ∀ (l : List Ty) (i : Nat), (P1 mask i l).length = l.length
 | [], _ => rfl
 | t :: ts, i => by rw [P1, List.length_cons, A2d mask ts, List.length_cons]
theorem A9N (mask : Nat) : ∀ (a b : List Ty) (j : Nat), P1 mask j (a ++ b) = P1 mask j a ++ P1 mask (j + a.length) b
 | [], b, j => by simp [P1]
 | t :: a, b, j => by rw [List.cons_append, P1, A9N mask a b (j + 1), P1, List.cons_append, List.length_cons, show j + 1 + a.length = j + (a.length + 1) from by omega]
theorem A9O {α : Type} : ∀ (A : List α) (x y : α) (B : List α) (i : Nat), A.length = i → (A ++ x :: B).set i y = A ++ y :: B
 | [], x, y, B, i, h => by subst h; rfl
 | a :: A, x, y, B, i, h => by
  subst h
  rw [List.cons_append, List.length_cons, List.set_cons_succ, A9O A x y B _ rfl, List.cons_append]
theorem A9P (mask : Nat) (L : List Ty) (i : Nat) (hi : i < L.length) :
  P1 mask 0 (L.take (i + 1)) ++ L.drop (i + 1) = if (mask / 2 ^ i) % 2 = 1 then (P1 mask 0 (L.take i) ++ L.drop i).set i (.mk 1 []) else P1 mask 0 (L.take i) ++ L.drop i := by
 have hl : (P1 mask 0 (L.take i)).length = i := by rw [A2d, List.length_take]; omega
 rw [List.take_succ_eq_append_getElem hi, A9N, List.drop_eq_getElem_cons hi, List.length_take, show 0 + min i L.length = i from by omega, P1, P1]
 split
 ·rw [A9O _ _ _ _ _ hl]; simp
 ·simp
theorem A2K (mask : Nat) : ∀ (l : List Ty) (j : Nat) (u : Ty), u ∈ P1 mask j l → u = .mk 1 [] ∨ u ∈ l
 | [], j, u, h => by simp [P1] at h
 | t :: l, j, u, h => by
  rw [P1] at h
  rcases List.mem_cons.1 h with h | h
  ·split at h
   ·exact .inl h
   ·exact .inr (by rw [h]; simp)
  ·rcases A2K mask l (j + 1) u h with h | h
   ·exact .inl h
   ·exact .inr (List.mem_cons_of_mem _ h)
def P5 (e : Tm) (mask : Nat) : Tm := T9 e (P1 mask 0 (H0 e))
def A1S (e : Tm) : List Tm := (List.range (2 ^ (H0 e).length)).map (P5 e)
theorem A30 {ks : List Tm} {i : Nat} (hi : i < ks.length) : (H5 (ks.take i)).length + (H0 ks[i]).length ≤ (H5 ks).length := by
 have h : ks = ks.take (i + 1) ++ ks.drop (i + 1) := (List.take_append_drop _ _).symm
 conv => rhs; rw [h]
 rw [A6K, W9 hi]
 simp only [List.length_append]; omega
section cap
variable {P : Program} {Γ : L9} {env : M4} {hp : List A5} {G : IM} {K : Po} {ops : Array Oper} {rest : List Oper}
theorem St.slc_cap {a : Act} {w : World} {p : Option Addr} {c el sz n : Nat} {cs : List Value} {hp' : List A5} (hs : St Γ ⟨env, hp, G⟩ a w) (hk : Pk hp (.slc p c el sz n cs) hp') : n ≤ c := by
 have hown : T8 [.slc p c el sz n cs] G w := hs.res.own.of_mem hk.perm
 obtain ⟨hl, h⟩ := hown.ok _ List.mem_cons_self
 rcases h with ⟨hv, hn⟩ | ⟨g, cap, cur, hv, _, hg, hnc, hcm, hsz, ht⟩
 ·omega
 ·cases hv; exact hnc
theorem A47 {p : Option Addr} {c el sz n : Nat} {cs : List Value} {hp' : List A5} (hk : Pk hp (.slc p c el sz n cs) hp') (h : n ≤ c → I3 P Γ ops rest K ⟨env, hp, G⟩) : I3 P Γ ops rest K ⟨env, hp, G⟩ :=
 ⟨fun a w hs => (h (hs.slc_cap hk)).run a w hs⟩
end cap
theorem C6.append {G : IM} : ∀ {a b : List Tm} {es fs : List (List Value)}, C6 G a es → C6 G b fs → C6 G (a ++ b) (es ++ fs)
 | [], b, es, fs, h, h2 => by simp only [C6] at h; subst h; simpa using h2
 | t :: a, b, es, fs, h, h2 => by
  simp only [C6] at h
  obtain ⟨x, r, rfl, h3, h4⟩ := h
  simp only [List.cons_append, C6]
  exact ⟨x, r ++ fs, rfl, h3, C6.append h4 h2⟩
theorem C6.ones {G : IM} {ts : List Tm} {es : List (List Value)} (h : C6 G ts es) : ∀ u ∈ es.flatten, u.oneCell' = true := by
 intro u hu
 obtain ⟨e, he, hue⟩ := List.mem_flatten.1 hu
 obtain ⟨q, hq⟩ := List.getElem?_of_mem he
 exact List.all_eq_true.1 ((h.inv hq K1).2.one) u hue
theorem C6.one1 {G : IM} {t : Tm} {c : List Value} (h : A8 G t c) : C6 G [t] [c] := by
 simp only [C6]; exact ⟨c, [], rfl, h, rfl⟩
end Gw
end Go.Proofs.YtfpgncjeejickaaGreat
