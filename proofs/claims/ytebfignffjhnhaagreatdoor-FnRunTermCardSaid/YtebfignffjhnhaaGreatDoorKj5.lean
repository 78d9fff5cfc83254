/-
  The program's evaluator: the rules of casts, selections and casts themselves. The program's evaluator: a step. The program's evaluator: step. The program's evaluator: StepCast, runs of steps, their results. Types are kept by steps; a closed term with a type does not get stuck, and what is blamed is a label of its casts. A term with its casts put in is valid, and has the type that the term has. Terms that hold a type. Precision of terms, on both sides. Values of the stack machine: as trees, and as they lie in memory; what an instruction does, in plain words. The reference's decimal digits of a number. The program's RunTerm: texts of values. The program's insertion of casts: a cast. The program's insertion of casts. CastTypeOf. The program's InsertCasts, TypeOf.
-/
import Derived.Test.YtebfignffjhnhaaGreatDoorKj4
import Derived.Test.YtebfignffjhnhaaGreatDoorKj3
import Derived.Test.YtebfignffjhnhaaGreatDoorKj2
import Derived.Test.YtebfignffjhnhaaGreatDoorKj1
import Derived.Lib.ItoaNum
set_option linter.unusedVariables false
set_option linter.unusedSimpArgs false
set_option maxHeartbeats 0
set_option maxRecDepth 100000
set_option synthInstance.maxSize 4000
set_option synthInstance.maxHeartbeats 0
namespace Go.Proofs.YtebfignffjhnhaaGreatDoor
open Go Go.RowKit
namespace Gw
theorem A9y {Q : Prop} (h : Q := by (exact U5.mk (by rw [if_pos hq, A1T (by omega), A0G (by omega), A0G (by omega)]) hrw)) : Q := h
theorem A9z (k : Int) (a : Tm) (nm : ByteArray) (num : Int) (ty fr : Ty) (lb : Int) (G : IM) (cells : List Value) (hk1 : k = 11 ∨ k = 12) (hca : cv a) (hr : B0 G (.mk k nm num ty fr lb [a]) cells) : Fn Tryz.prog 230 [.agg ⟨cells⟩] [] G (U5 (X0 k ty fr lb [a])) := by
 obtain ⟨ak, anm, anum, ⟨atk, atks⟩, ⟨afk, afks⟩, alb, aks⟩ := a
 obtain ⟨hN, hkk⟩ := hca.node
 have hops := hN.ops
 have hbl := hN.lbB
 have htyA := hN.tyA
 have hfrA := hN.frA
 rw [E5] at htyA hfrA
 have h14 : ak = 14 → aks.length = 1 := fun h => by rw [h] at hops; have : D9 14 = 1 := rfl; omega
 obtain ⟨tk, tks⟩ := ty
 obtain ⟨fk, fks⟩ := fr
 obtain ⟨pt, ct, pf, cf, p, c, es, rfl, hk, hnum, hlb, hty, hfr, hsl, hkl⟩ := hr.open9
 obtain ⟨bx, ox, e0, rfl, hl0, hat0, hre0, hgb0⟩ := hsl.kidTm hkl (i := 0) (by simp) (by simp)
 replace hre0 : B0 G (Tm.mk ak anm anum (.mk atk atks) (.mk afk afks) alb aks) e0 := hre0
 have hP : Fn Tryz.prog 106 [.agg ⟨e0⟩] [] G (I3 (.bool (decide (ak = 14 ∧ afk = atk ∧ (atk = 4 ∨ atk = 5)))) G) := A2m _ G _ hre0
 have hI := A3Q _ G _ hre0
 have ho0 := hre0.one
 obtain ⟨apt, act, apf, acf, ap, ac, aes, rfl, hak, hanum, halb, haty, hafr, hasl, hakl⟩ := hre0.open9
 have hfk64 : E8 fk := by obtain ⟨_, _, _, _, h, _⟩ := hfr.open; exact h
 have htk64 : E8 tk := by obtain ⟨_, _, _, _, h, _⟩ := hty.open; exact h
 obtain ⟨tes, htS, htL⟩ := haty.kids
 obtain ⟨fes, hfS, hfL⟩ := hafr.kids
 simp only [Ty.ks] at htS htL hfS hfL
 obtain ⟨i, hi⟩ : ∃ i : Nat, (k - 11).toNat = i := ⟨_, rfl⟩
 have hR : X0 k (.mk tk tks) (.mk fk fks) lb [Tm.mk ak anm anum (.mk atk atks) (.mk afk afks) alb aks] = (if (ak = 14 ∧ afk = atk ∧ (atk = 4 ∨ atk = 5)) ∧ atk = 5 then (J7 (W1 k [kd aks 0]) (kt afks i) (kt atks i) alb, 1, 0) else P5) := by
  unfold X0
  rw [if_neg (by omega), if_pos hk1, hi, show kd [Tm.mk ak anm anum (.mk atk atks) (.mk afk afks) alb aks] 0 = Tm.mk ak anm anum (.mk atk atks) (.mk afk afks) alb aks from rfl, A0F]
  simp only [decide_eq_true_eq]
  rfl
 rw [hR]
 refine C3 Tryz.func230 rfl Tryz.ntmps230 Tryz.results230 rfl ?_
 intro w0
 refine A3 ?_
 refine sE (C8 rfl rfl) rfl (fun b3 => ?_)
 refine sE (A6 rfl) rfl (fun b4 => ?_)
 refine D4 ?_
 refine sP (B4 (j := 0) rfl rfl rfl (by simp)) rfl rfl ?_
 refine sL (A2 rfl rfl (hat0 _) rfl) rfl rfl ?_
 refine sE (A6 rfl) rfl (fun b15 => ?_)
 refine B1 ?_
 refine C1 ?_
 refine B1 ?_
 refine sP (H9 rfl rfl (by omega)) rfl rfl ?_
 refine U0 ?_
 refine sB (qE rfl rfl) rfl rfl (fun h44 => ?_) (fun h44 => ?_)
 refine B2 ?_
 focus (by_cases hpx : (ak = 14 ∧ afk = atk ∧ (atk = 4 ∨ atk = 5)); rw [decide_eq_true hpx] at hP; rotate_left; rw [decide_eq_false hpx] at hP; rotate_left; all_goals (refine H6 rfl hP rfl rfl ?_))
 refine A9 ?_
 refine sB (qE rfl rfl) rfl rfl (fun h58 => ?_) (fun h58 => ?_)
 refine E0 ?_
 refine sP (O5 rfl rfl (by omega) (by omega)) rfl rfl ?_
 refine B1 ?_
 (have hq : (ak = 14 ∧ afk = atk ∧ (atk = 4 ∨ atk = 5)) ∧ atk = 5 := ⟨hpx, by omega⟩; have hq1 := h14 hq.1.1; have hq2 := htyA.1 (by omega); have hq3 := hfrA.1 (by omega); rw [show (k - 11 : Int) = ((i : Nat) : Int) from (by omega)]; obtain ⟨bq, oq, e3, rfl, hl3, hat3, hre3, hgb3⟩ := hasl.kidTm hakl (i := 0) (by omega) (by omega); have ho3 := hre3.one; obtain ⟨b5, o5, q5, d5, rfl, hat5, hre5, hgb5⟩ := htS.kidTy htL (i := i) (by omega) (by omega); obtain ⟨b7, o7, q7, d7, rfl, hat7, hre7, hgb7⟩ := hfS.kidTy hfL (i := i) (by omega) (by omega); obtain ⟨x1, x2, x3, x4, x5, x6, x7, x8, x9, rfl⟩ := nine hl3; refine D7 D8 rfl ?_)
 refine I9 (i := 0) (l' := [tt,ff,ff,ff,ff,ff,ff,ff,ff,ff,ff,ff,ff,ff,ff,ff,ff,ff,ff,ff,ff,ff,ff,ff,ff,ff]) rfl D1 (B5 rfl) rfl (by kernel_rfl) rfl rfl ?_
 refine aL 1 rfl (C4 rfl rfl) rfl ?_
 refine aP 2 rfl (B5 rfl) rfl ?_
 refine aL 3 rfl (C4 rfl rfl) rfl ?_
 refine aP 4 rfl (B4 (j := 0) rfl rfl rfl (by omega)) rfl ?_
 refine aL 5 rfl (A2 rfl rfl (hat3 _) rfl) rfl ?_
 refine aP 8 rfl (B5 rfl) rfl ?_
 refine aP 9 rfl (qF rfl) rfl ?_
 refine aL 10 rfl (C4 rfl rfl) rfl ?_
 refine aP 11 rfl (qM rfl) rfl ?_
 refine aP 12 rfl (B4 (j := i) rfl rfl rfl (by omega)) rfl ?_
 refine aL 13 rfl (A2 rfl rfl (hat7 _) rfl) rfl ?_
 refine aP 14 rfl (B5 rfl) rfl ?_
 refine aP 15 rfl (qF rfl) rfl ?_
 refine aL 16 rfl (C4 rfl rfl) rfl ?_
 refine aP 17 rfl (qM rfl) rfl ?_
 refine aP 18 rfl (B4 (j := i) rfl rfl rfl (by omega)) rfl ?_
 refine aL 19 rfl (A2 rfl rfl (hat5 _) rfl) rfl ?_
 refine aP 20 rfl (B5 rfl) rfl ?_
 refine aL 21 rfl (C4 rfl rfl) rfl ?_
 refine A1 6 ?_
 (refine E3 rfl (C7 rfl rfl rfl (by omega) (by unfold maxLen; omega) rfl) rfl rfl ?_; rintro _ ⟨b95, rfl⟩)
 refine A1 7 ?_
 (refine A0Z (cs := [x1, x2, x3, x4, x5, x6, x7, x8, x9]) (by repeat (first | exact Pk.here | apply Pk.there)) (fun G2 hle2 hsl2 hno2 => ?_); have hrN := A0E (k := k) (ks := [aks[0]]) (es := [[x1, x2, x3, x4, x5, x6, x7, x8, x9]]) hk rfl (D5.of hsl2 rfl (by simp) (by intro x hx; obtain rfl := List.mem_singleton.1 hx; exact ho3)) (by simp only [D0]; exact ⟨_, _, rfl, hre3.mono hle2, rfl⟩); replace hre5 := hre5.mono hle2; replace hre7 := hre7.mono hle2; refine M8 rfl rfl (A2Z _ _ _ _ _) rfl rfl rfl ?_)
 refine A1 22 ?_
 (refine H0 rfl rfl (A1f _ afks[i] atks[i] alb G2 _ _ _ ⟨by omega, by omega⟩ hrN hre7 hre5) rfl rfl rfl (fun u G3 hle3 hh => ?_); obtain ⟨wc, rfl, hrw⟩ := hh; have hwl := hrw.len; have hwo := hrw.one)
 refine A1 23 ?_
 (refine oS rfl rfl rfl rfl hwl hwo rfl rfl ?_ (hu := by exact D6 hwl.symm))
 refine aP 24 rfl (qA rfl) rfl ?_
 refine aP 25 rfl (qA rfl) rfl ?_
 refine A9 ?_
 refine C9 (rC rfl (A2 rfl rfl (B3 (by repeat first | exact mH | apply mT)) hwl)) (rT rfl) (rT rfl) ?_
 exact A9y
 refine E0 ?_
 refine sP (W6 rfl rfl (by omega)) rfl rfl ?_
 refine I0 ?_
 refine C9 (rC rfl (A4 rfl rfl)) (rT rfl) (rT rfl) ?_
 exact A20
 refine I0 ?_
 refine sP (W6 rfl rfl (by omega)) rfl rfl ?_
 refine I0 ?_
 refine C9 (rC rfl (A4 rfl rfl)) (rT rfl) (rT rfl) ?_
 exact A20
 refine B6 ?_
 refine sP (T8 rfl rfl (by omega)) rfl rfl ?_
 refine B6 ?_
 focus (by_cases hpx : (ak = 14 ∧ afk = atk ∧ (atk = 4 ∨ atk = 5)); rw [decide_eq_true hpx] at hP; rotate_left; rw [decide_eq_false hpx] at hP; rotate_left; all_goals (refine H6 rfl hP rfl rfl ?_))
 refine A9 ?_
 refine sB (qE rfl rfl) rfl rfl (fun h184 => ?_) (fun h184 => ?_)
 refine E0 ?_
 refine sP (O5 rfl rfl (by omega) (by omega)) rfl rfl ?_
 refine B1 ?_
 (have hq : (ak = 14 ∧ afk = atk ∧ (atk = 4 ∨ atk = 5)) ∧ atk = 5 := ⟨hpx, by omega⟩; have hq1 := h14 hq.1.1; have hq2 := htyA.1 (by omega); have hq3 := hfrA.1 (by omega); rw [show (k - 11 : Int) = ((i : Nat) : Int) from (by omega)]; obtain ⟨bq, oq, e3, rfl, hl3, hat3, hre3, hgb3⟩ := hasl.kidTm hakl (i := 0) (by omega) (by omega); have ho3 := hre3.one; obtain ⟨b5, o5, q5, d5, rfl, hat5, hre5, hgb5⟩ := htS.kidTy htL (i := i) (by omega) (by omega); obtain ⟨b7, o7, q7, d7, rfl, hat7, hre7, hgb7⟩ := hfS.kidTy hfL (i := i) (by omega) (by omega); obtain ⟨x1, x2, x3, x4, x5, x6, x7, x8, x9, rfl⟩ := nine hl3; refine D7 D8 rfl ?_)
 refine I9 (i := 0) (l' := [tt,ff,ff,ff,ff,ff,ff,ff,ff,ff,ff,ff,ff,ff,ff,ff,ff,ff,ff,ff,ff,ff,ff,ff,ff,ff]) rfl D1 (B5 rfl) rfl (by kernel_rfl) rfl rfl ?_
 refine aL 1 rfl (C4 rfl rfl) rfl ?_
 refine aP 2 rfl (B5 rfl) rfl ?_
 refine aL 3 rfl (C4 rfl rfl) rfl ?_
 refine aP 4 rfl (B4 (j := 0) rfl rfl rfl (by omega)) rfl ?_
 refine aL 5 rfl (A2 rfl rfl (hat3 _) rfl) rfl ?_
 refine aP 8 rfl (B5 rfl) rfl ?_
 refine aP 9 rfl (qF rfl) rfl ?_
 refine aL 10 rfl (C4 rfl rfl) rfl ?_
 refine aP 11 rfl (qM rfl) rfl ?_
 refine aP 12 rfl (B4 (j := i) rfl rfl rfl (by omega)) rfl ?_
 refine aL 13 rfl (A2 rfl rfl (hat7 _) rfl) rfl ?_
 refine aP 14 rfl (B5 rfl) rfl ?_
 refine aP 15 rfl (qF rfl) rfl ?_
 refine aL 16 rfl (C4 rfl rfl) rfl ?_
 refine aP 17 rfl (qM rfl) rfl ?_
 refine aP 18 rfl (B4 (j := i) rfl rfl rfl (by omega)) rfl ?_
 refine aL 19 rfl (A2 rfl rfl (hat5 _) rfl) rfl ?_
 refine aP 20 rfl (B5 rfl) rfl ?_
 refine aL 21 rfl (C4 rfl rfl) rfl ?_
 refine A1 6 ?_
 (refine E3 rfl (C7 rfl rfl rfl (by omega) (by unfold maxLen; omega) rfl) rfl rfl ?_; rintro _ ⟨b221, rfl⟩)
 refine A1 7 ?_
 (refine A0Z (cs := [x1, x2, x3, x4, x5, x6, x7, x8, x9]) (by repeat (first | exact Pk.here | apply Pk.there)) (fun G2 hle2 hsl2 hno2 => ?_); have hrN := A0E (k := k) (ks := [aks[0]]) (es := [[x1, x2, x3, x4, x5, x6, x7, x8, x9]]) hk rfl (D5.of hsl2 rfl (by simp) (by intro x hx; obtain rfl := List.mem_singleton.1 hx; exact ho3)) (by simp only [D0]; exact ⟨_, _, rfl, hre3.mono hle2, rfl⟩); replace hre5 := hre5.mono hle2; replace hre7 := hre7.mono hle2; refine M8 rfl rfl (A2Z _ _ _ _ _) rfl rfl rfl ?_)
 refine A1 22 ?_
 (refine H0 rfl rfl (A1f _ afks[i] atks[i] alb G2 _ _ _ ⟨by omega, by omega⟩ hrN hre7 hre5) rfl rfl rfl (fun u G3 hle3 hh => ?_); obtain ⟨wc, rfl, hrw⟩ := hh; have hwl := hrw.len; have hwo := hrw.one)
 refine A1 23 ?_
 (refine oS rfl rfl rfl rfl hwl hwo rfl rfl ?_ (hu := by exact D6 hwl.symm))
 refine aP 24 rfl (qA rfl) rfl ?_
 refine aP 25 rfl (qA rfl) rfl ?_
 refine A9 ?_
 refine C9 (rC rfl (A2 rfl rfl (B3 (by repeat first | exact mH | apply mT)) hwl)) (rT rfl) (rT rfl) ?_
 exact A9y
 refine E0 ?_
 refine sP (W6 rfl rfl (by omega)) rfl rfl ?_
 refine I0 ?_
 refine C9 (rC rfl (A4 rfl rfl)) (rT rfl) (rT rfl) ?_
 exact A20
 refine I0 ?_
 refine sP (W6 rfl rfl (by omega)) rfl rfl ?_
 refine I0 ?_
 refine C9 (rC rfl (A4 rfl rfl)) (rT rfl) (rT rfl) ?_
 exact A20
theorem A3T {t : Tm} (h : inj t = true) : t.k = 14 := by
 unfold inj at h
 simp only [Bool.and_eq_true, decide_eq_true_eq] at h
 exact h.1.1
theorem B33 {t u : Ty} (h : S5 t = true) (h' : S5 u = true) : N1 t u = decide (t.k = u.k) := by
 have e1 := A9w h
 have e2 := A9w h'
 by_cases hk : t.k = u.k
 ·rw [decide_eq_true hk, A0j, e1, e2]
  unfold S2; rw [hk]
 ·rw [decide_eq_false hk]
  cases hs : N1 t u with
  | false => rfl
  | true => exact absurd (congrArg Ty.k ((A0j _ _).1 hs)) hk
theorem A6f {t : Tm} (h : inj t = true) : S5 t.fr = true := by
 unfold inj at h
 rw [Bool.and_eq_true] at h
 exact h.2
theorem B34 (a : Tm) (nm : ByteArray) (num : Int) (ty fr : Ty) (lb : Int) (G : IM) (cells : List Value) (hca : cv a) (hlb9 : -99 ≤ lb ∧ lb ≤ 99) (hr : B0 G (.mk 14 nm num ty fr lb [a]) cells) : Fn Tryz.prog 230 [.agg ⟨cells⟩] [] G (U5 (X0 14 ty fr lb [a])) := by
 have hji := @A6f a
 have hjk := @A3T a
 obtain ⟨ak, anm, anum, ⟨atk, atks⟩, ⟨afk, afks⟩, alb, aks⟩ := a
 obtain ⟨hN, hkk⟩ := hca.node
 have hops := hN.ops
 have hbl := hN.lbB
 have htyA := hN.tyA
 have hfrA := hN.frA
 rw [E5] at htyA hfrA
 have h14 : ak = 14 → aks.length = 1 := fun h => by rw [h] at hops; have : D9 14 = 1 := rfl; omega
 obtain ⟨tk, tks⟩ := ty
 obtain ⟨fk, fks⟩ := fr
 obtain ⟨pt, ct, pf, cf, p, c, es, rfl, hk, hnum, hlb, hty, hfr, hsl, hkl⟩ := hr.open9
 obtain ⟨bx, ox, e0, rfl, hl0, hat0, hre0, hgb0⟩ := hsl.kidTm hkl (i := 0) (by simp) (by simp)
 replace hre0 : B0 G (Tm.mk ak anm anum (.mk atk atks) (.mk afk afks) alb aks) e0 := hre0
 have hP : Fn Tryz.prog 106 [.agg ⟨e0⟩] [] G (I3 (.bool (decide (ak = 14 ∧ afk = atk ∧ (atk = 4 ∨ atk = 5)))) G) := A2m _ G _ hre0
 have hI := A3Q _ G _ hre0
 have ho0 := hre0.one
 obtain ⟨apt, act, apf, acf, ap, ac, aes, rfl, hak, hanum, halb, haty, hafr, hasl, hakl⟩ := hre0.open9
 have hfk64 : E8 fk := by obtain ⟨_, _, _, _, h, _⟩ := hfr.open; exact h
 have htk64 : E8 tk := by obtain ⟨_, _, _, _, h, _⟩ := hty.open; exact h
 obtain ⟨tes, htS, htL⟩ := haty.kids
 obtain ⟨fes, hfS, hfL⟩ := hafr.kids
 simp only [Ty.ks] at htS htL hfS hfL
 obtain ⟨J, hJ⟩ : ∃ J, inj (Tm.mk ak anm anum (.mk atk atks) (.mk afk afks) alb aks) = J := ⟨_, rfl⟩
 obtain ⟨D, hD⟩ : ∃ D, S5 (.mk tk tks) = D := ⟨_, rfl⟩
 have hGr := A9o _ G _ hty
 rw [hD] at hGr
 rw [hJ] at hI hji hjk
 have hR : X0 14 (.mk tk tks) (.mk fk fks) lb [Tm.mk ak anm anum (.mk atk atks) (.mk afk afks) alb aks] = (if fk = tk then (Tm.mk ak anm anum (.mk atk atks) (.mk afk afks) alb aks, 1, 0)
   else if tk = 1 then (J7 (J7 (Tm.mk ak anm anum (.mk atk atks) (.mk afk afks) alb aks) (.mk fk fks) (mGk fk) lb) (mGk fk) (.mk tk tks) lb, 1, 0)
   else if D = false then (J7 (J7 (Tm.mk ak anm anum (.mk atk atks) (.mk afk afks) alb aks) (.mk fk fks) (mGk tk) lb) (mGk tk) (.mk tk tks) lb, 1, 0)
   else if J = false then P5
   else if afk = tk then (kd aks 0, 1, 0)
   else (J5, 2, lb)) := by
  rw [← hJ, ← hD]; rfl
 rw [hR]
 have hSm : J = true → D = true → N1 (.mk afk afks) (.mk tk tks) = decide (afk = tk) := fun h1 h2 => B33 (hji h1) (hD.trans h2)
 have hTS := A52 (.mk afk afks) (.mk tk tks) G _ _ hafr hty
 refine C3 Tryz.func230 rfl Tryz.ntmps230 Tryz.results230 rfl ?_
 intro w0
 refine A3 ?_
 refine sE (C8 rfl rfl) rfl (fun b3 => ?_)
 refine sE (A6 rfl) rfl (fun b4 => ?_)
 refine D4 ?_
 refine sP (B4 (j := 0) rfl rfl rfl (by simp)) rfl rfl ?_
 refine sL (A2 rfl rfl (hat0 _) rfl) rfl rfl ?_
 refine sE (A6 rfl) rfl (fun b15 => ?_)
 refine B1 ?_
 refine C1 ?_
 refine B1 ?_
 refine sP (H9 rfl rfl (by omega)) rfl rfl ?_
 refine U0 ?_
 refine sP (H9 rfl rfl (by omega)) rfl rfl ?_
 refine B6 ?_
 refine sP (H9 rfl rfl (by omega)) rfl rfl ?_
 refine A0h ?_
 refine sP (A0N rfl rfl (by omega)) rfl rfl ?_
 refine N0 ?_
 refine sB (qE rfl rfl) rfl rfl (fun h81 => ?_) (fun h81 => ?_)
 refine I0 ?_
 refine C9 (rC rfl (A4 rfl rfl)) (rT rfl) (rT rfl) ?_
 (exact U5.mk (by rw [if_pos (by omega)]) hre0)
 refine E0 ?_
 refine sB (qE rfl rfl) rfl rfl (fun h108 => ?_) (fun h108 => ?_)
 refine E0 ?_
 (refine E7 rfl (A6b fk G hfk64) rfl rfl (fun u G1 hle1 hh => ?_); obtain ⟨gc, rfl, hrg⟩ := hh; obtain ⟨pg, cg, eg, rfl, _⟩ := hrg.open; have hgk : tk = 1 := (by omega); replace hre0 := hre0.mono hle1; replace hfr := hfr.mono hle1; replace hty := hty.mono hle1)
 refine sE (A6 rfl) rfl (fun b119 => ?_)
 refine B1 ?_
 refine D7 D8 rfl ?_
 refine K7 (i := 0) (l' := [tt,ff,ff,ff,ff,ff,ff,ff,ff,ff,ff,ff,ff,ff,ff,ff]) rfl D1 (A2 rfl rfl (B3 (by repeat first | exact mH | apply mT)) rfl) rfl (by kernel_rfl) rfl rfl ?_
 refine aL 3 rfl (A2 rfl rfl (B3 (by repeat first | exact mH | apply mT)) rfl) rfl ?_
 refine aL 7 rfl (A2 rfl rfl (B3 (by repeat first | exact mH | apply mT)) rfl) rfl ?_
 refine aP 1 rfl (B5 rfl) rfl ?_
 refine aL 2 rfl (A4 rfl rfl) rfl ?_
 refine aP 4 rfl (B5 rfl) rfl ?_
 refine aL 5 rfl (C4 rfl rfl) rfl ?_
 refine aP 8 rfl (B5 rfl) rfl ?_
 refine aL 9 rfl (A4 rfl rfl) rfl ?_
 refine aP 10 rfl (B5 rfl) rfl ?_
 refine aL 11 rfl (C4 rfl rfl) rfl ?_
 refine A1 6 ?_
 (refine H0 rfl rfl (A1f _ (.mk fk fks) _ lb G1 _ _ _ ⟨by omega, by omega⟩ hre0 hfr hrg) rfl rfl rfl (fun u G3 hle3 hh => ?_); obtain ⟨wc, rfl, hrw⟩ := hh; have hwl := hrw.len; have hwo := hrw.one; replace hrg := hrg.mono hle3; replace hty := hty.mono hle3)
 refine A1 12 ?_
 (refine H0 rfl rfl (A1f _ _ (.mk tk tks) lb G3 _ _ _ ⟨by omega, by omega⟩ hrw hrg hty) rfl rfl rfl (fun u G4 hle4 hh => ?_); obtain ⟨xc, rfl, hrx⟩ := hh; have hxl := hrx.len; have hxo := hrx.one)
 refine A1 13 ?_
 (refine oS rfl rfl rfl rfl hxl hxo rfl rfl ?_ (hu := by exact D6 hxl.symm))
 refine aP 14 rfl (qA rfl) rfl ?_
 refine aP 15 rfl (qA rfl) rfl ?_
 refine A9 ?_
 refine C9 (rC rfl (A2 rfl rfl (B3 (by repeat first | exact mH | apply mT)) hxl)) (rT rfl) (rT rfl) ?_
 (exact U5.mk (by rw [if_neg (by omega), if_pos (by omega)]) hrx)
 refine D4 ?_
 focus (cases hDD : D; all_goals (rw [hDD] at hGr; refine H6 rfl hGr rfl rfl ?_))
 refine J2 ?_
 (refine E7 rfl (A6b tk G htk64) rfl rfl (fun u G1 hle1 hh => ?_); obtain ⟨gc, rfl, hrg⟩ := hh; obtain ⟨pg, cg, eg, rfl, _⟩ := hrg.open; replace hre0 := hre0.mono hle1; replace hfr := hfr.mono hle1; replace hty := hty.mono hle1)
 refine sE (A6 rfl) rfl (fun b171 => ?_)
 refine B1 ?_
 refine D7 D8 rfl ?_
 refine K7 (i := 0) (l' := [tt,ff,ff,ff,ff,ff,ff,ff,ff,ff,ff,ff,ff,ff,ff,ff]) rfl D1 (A2 rfl rfl (B3 (by repeat first | exact mH | apply mT)) rfl) rfl (by kernel_rfl) rfl rfl ?_
 refine aL 3 rfl (A2 rfl rfl (B3 (by repeat first | exact mH | apply mT)) rfl) rfl ?_
 refine aL 7 rfl (A2 rfl rfl (B3 (by repeat first | exact mH | apply mT)) rfl) rfl ?_
 refine aP 1 rfl (B5 rfl) rfl ?_
 refine aL 2 rfl (A4 rfl rfl) rfl ?_
 refine aP 4 rfl (B5 rfl) rfl ?_
 refine aL 5 rfl (C4 rfl rfl) rfl ?_
 refine aP 8 rfl (B5 rfl) rfl ?_
 refine aL 9 rfl (A4 rfl rfl) rfl ?_
 refine aP 10 rfl (B5 rfl) rfl ?_
 refine aL 11 rfl (C4 rfl rfl) rfl ?_
 refine A1 6 ?_
 (refine H0 rfl rfl (A1f _ (.mk fk fks) _ lb G1 _ _ _ ⟨by omega, by omega⟩ hre0 hfr hrg) rfl rfl rfl (fun u G3 hle3 hh => ?_); obtain ⟨wc, rfl, hrw⟩ := hh; have hwl := hrw.len; have hwo := hrw.one; replace hrg := hrg.mono hle3; replace hty := hty.mono hle3)
 refine A1 12 ?_
 (refine H0 rfl rfl (A1f _ _ (.mk tk tks) lb G3 _ _ _ ⟨by omega, by omega⟩ hrw hrg hty) rfl rfl rfl (fun u G4 hle4 hh => ?_); obtain ⟨xc, rfl, hrx⟩ := hh; have hxl := hrx.len; have hxo := hrx.one)
 refine A1 13 ?_
 (refine oS rfl rfl rfl rfl hxl hxo rfl rfl ?_ (hu := by exact D6 hxl.symm))
 refine aP 14 rfl (qA rfl) rfl ?_
 refine aP 15 rfl (qA rfl) rfl ?_
 refine A9 ?_
 refine C9 (rC rfl (A2 rfl rfl (B3 (by repeat first | exact mH | apply mT)) hxl)) (rT rfl) (rT rfl) ?_
 (exact U5.mk (by rw [if_neg (by omega), if_neg (by omega), if_pos rfl]) hrx)
 refine D4 ?_
 focus (cases hJJ : J; all_goals (rw [hJJ] at hI; refine H6 rfl hI rfl rfl ?_))
 refine J9 ?_
 refine C9 (rC rfl (A4 rfl rfl)) (rT rfl) (rT rfl) ?_
 (exact U5.mk (by rw [if_neg (by omega), if_neg (by omega), if_neg (by decide), if_pos rfl]; rfl) (O6 _))
 refine J4 ?_
 focus (rw [hSm hJJ hDD] at hTS; by_cases hfk : afk = tk; rw [decide_eq_true hfk] at hTS; rotate_left; rw [decide_eq_false hfk] at hTS; rotate_left; all_goals (refine H6 rfl hTS rfl rfl ?_))
 refine D4 ?_
 (have hq1 := h14 (hjk (by assumption)); obtain ⟨bq, oq, e3, rfl, hl3, hat3, hre3, hgb3⟩ := hasl.kidTm hakl (i := 0) (by omega) (by omega); have ho3 := hre3.one; refine sP (B4 (j := 0) rfl rfl rfl (by omega)) rfl rfl ?_)
 refine sL (A2 rfl rfl (hat3 _) hl3) rfl rfl ?_
 refine sS rfl rfl rfl hl3 ho3 rfl ?_ (hu := by exact D6 hl3.symm)
 refine B2 ?_
 refine C9 (rC rfl (A2 rfl rfl (B3 (by repeat first | exact mH | apply mT)) hl3)) (rT rfl) (rT rfl) ?_
 (exact U5.mk (by rw [if_neg (by omega), if_neg (by omega), if_neg (by decide), if_neg (by decide), if_pos hfk, A1T (by omega)]) hre3)
 refine D4 ?_
 refine D7 D8 rfl ?_
 refine I9 (i := 0) (l' := [tt,ff,ff,ff,ff,ff]) rfl D1 (V6 rfl rfl) rfl (by kernel_rfl) rfl rfl ?_
 refine aP 1 rfl (B5 rfl) rfl ?_
 refine aL 2 rfl (C4 rfl rfl) rfl ?_
 refine A1 3 ?_
 refine H1 rfl ?_
 refine aP 4 rfl (qA rfl) rfl ?_
 refine aP 5 rfl (qA rfl) rfl ?_
 refine B6 ?_
 refine C9 (rC rfl (A4 rfl rfl)) (rT rfl) (rT rfl) ?_
 (exact U5.mk (by rw [if_neg (by omega), if_neg (by omega), if_neg (by decide), if_neg (by decide), if_neg hfk]) (O6 _))
theorem A9A (k : Int) (a b : Tm) (nm : ByteArray) (num : Int) (ty fr : Ty) (lb : Int) (G : IM) (cells : List Value) (hk1 : k = 7 ∨ k = 8) (hca : cv a) (hr : B0 G (.mk k nm num ty fr lb [a, b]) cells) : Fn Tryz.prog 230 [.agg ⟨cells⟩] [] G (U5 (X0 k ty fr lb [a, b])) := by
 have hR : X0 k ty fr lb [a, b] = P5 := by unfold X0; rw [if_neg (by omega), if_neg (by omega), if_neg (by omega)]
 rw [hR]
 obtain ⟨ak, anm, anum, ⟨atk, atks⟩, ⟨afk, afks⟩, alb, aks⟩ := a
 obtain ⟨hN, hkk⟩ := hca.node
 have hops := hN.ops
 have hbl := hN.lbB
 have htyA := hN.tyA
 have hfrA := hN.frA
 rw [E5] at htyA hfrA
 have h14 : ak = 14 → aks.length = 1 := fun h => by rw [h] at hops; have : D9 14 = 1 := rfl; omega
 obtain ⟨tk, tks⟩ := ty
 obtain ⟨fk, fks⟩ := fr
 obtain ⟨pt, ct, pf, cf, p, c, es, rfl, hk, hnum, hlb, hty, hfr, hsl, hkl⟩ := hr.open9
 obtain ⟨bx, ox, e0, rfl, hl0, hat0, hre0, hgb0⟩ := hsl.kidTm hkl (i := 0) (by simp) (by simp)
 replace hre0 : B0 G (Tm.mk ak anm anum (.mk atk atks) (.mk afk afks) alb aks) e0 := hre0
 have hP : Fn Tryz.prog 106 [.agg ⟨e0⟩] [] G (I3 (.bool (decide (ak = 14 ∧ afk = atk ∧ (atk = 4 ∨ atk = 5)))) G) := A2m _ G _ hre0
 have hI := A3Q _ G _ hre0
 have ho0 := hre0.one
 obtain ⟨apt, act, apf, acf, ap, ac, aes, rfl, hak, hanum, halb, haty, hafr, hasl, hakl⟩ := hre0.open9
 have hfk64 : E8 fk := by obtain ⟨_, _, _, _, h, _⟩ := hfr.open; exact h
 have htk64 : E8 tk := by obtain ⟨_, _, _, _, h, _⟩ := hty.open; exact h
 obtain ⟨tes, htS, htL⟩ := haty.kids
 obtain ⟨fes, hfS, hfL⟩ := hafr.kids
 simp only [Ty.ks] at htS htL hfS hfL
 refine C3 Tryz.func230 rfl Tryz.ntmps230 Tryz.results230 rfl ?_
 intro w0
 refine A3 ?_
 refine sE (C8 rfl rfl) rfl (fun b3 => ?_)
 refine sE (A6 rfl) rfl (fun b4 => ?_)
 refine D4 ?_
 refine sP (B4 (j := 0) rfl rfl rfl (by simp)) rfl rfl ?_
 refine sL (A2 rfl rfl (hat0 _) rfl) rfl rfl ?_
 refine sE (A6 rfl) rfl (fun b15 => ?_)
 refine B1 ?_
 refine C1 ?_
 refine B1 ?_
 refine sP (H9 rfl rfl (by omega)) rfl rfl ?_
 refine U0 ?_
 refine sP (H9 rfl rfl (by omega)) rfl rfl ?_
 refine B6 ?_
 refine sP (H9 rfl rfl (by omega)) rfl rfl ?_
 refine A0h ?_
 refine sP (W6 rfl rfl (by omega)) rfl rfl ?_
 refine I0 ?_
 refine C9 (rC rfl (A4 rfl rfl)) (rT rfl) (rT rfl) ?_
 (exact U5.mk rfl (O6 _))
theorem B35 (a b c0 : Tm) (nm : ByteArray) (num : Int) (ty fr : Ty) (lb : Int) (G : IM) (cells : List Value) (hca : cv a) (hr : B0 G (.mk 9 nm num ty fr lb [a, b, c0]) cells) : Fn Tryz.prog 230 [.agg ⟨cells⟩] [] G (U5 (X0 9 ty fr lb [a, b, c0])) := by
 have hR : X0 9 ty fr lb [a, b, c0] = P5 := by unfold X0; rw [if_neg (by omega), if_neg (by omega), if_neg (by omega)]
 rw [hR]
 obtain ⟨ak, anm, anum, ⟨atk, atks⟩, ⟨afk, afks⟩, alb, aks⟩ := a
 obtain ⟨hN, hkk⟩ := hca.node
 have hops := hN.ops
 have hbl := hN.lbB
 have htyA := hN.tyA
 have hfrA := hN.frA
 rw [E5] at htyA hfrA
 have h14 : ak = 14 → aks.length = 1 := fun h => by rw [h] at hops; have : D9 14 = 1 := rfl; omega
 obtain ⟨tk, tks⟩ := ty
 obtain ⟨fk, fks⟩ := fr
 obtain ⟨pt, ct, pf, cf, p, c, es, rfl, hk, hnum, hlb, hty, hfr, hsl, hkl⟩ := hr.open9
 obtain ⟨bx, ox, e0, rfl, hl0, hat0, hre0, hgb0⟩ := hsl.kidTm hkl (i := 0) (by simp) (by simp)
 replace hre0 : B0 G (Tm.mk ak anm anum (.mk atk atks) (.mk afk afks) alb aks) e0 := hre0
 have hP : Fn Tryz.prog 106 [.agg ⟨e0⟩] [] G (I3 (.bool (decide (ak = 14 ∧ afk = atk ∧ (atk = 4 ∨ atk = 5)))) G) := A2m _ G _ hre0
 have hI := A3Q _ G _ hre0
 have ho0 := hre0.one
 obtain ⟨apt, act, apf, acf, ap, ac, aes, rfl, hak, hanum, halb, haty, hafr, hasl, hakl⟩ := hre0.open9
 have hfk64 : E8 fk := by obtain ⟨_, _, _, _, h, _⟩ := hfr.open; exact h
 have htk64 : E8 tk := by obtain ⟨_, _, _, _, h, _⟩ := hty.open; exact h
 obtain ⟨tes, htS, htL⟩ := haty.kids
 obtain ⟨fes, hfS, hfL⟩ := hafr.kids
 simp only [Ty.ks] at htS htL hfS hfL
 refine C3 Tryz.func230 rfl Tryz.ntmps230 Tryz.results230 rfl ?_
 intro w0
 refine A3 ?_
 refine sE (C8 rfl rfl) rfl (fun b3 => ?_)
 refine sE (A6 rfl) rfl (fun b4 => ?_)
 refine D4 ?_
 refine sP (B4 (j := 0) rfl rfl rfl (by simp)) rfl rfl ?_
 refine sL (A2 rfl rfl (hat0 _) rfl) rfl rfl ?_
 refine sE (A6 rfl) rfl (fun b15 => ?_)
 refine B1 ?_
 refine C1 ?_
 refine B1 ?_
 refine sP (H9 rfl rfl (by omega)) rfl rfl ?_
 refine U0 ?_
 refine sP (H9 rfl rfl (by omega)) rfl rfl ?_
 refine B6 ?_
 refine sP (H9 rfl rfl (by omega)) rfl rfl ?_
 refine A0h ?_
 refine sP (W6 rfl rfl (by omega)) rfl rfl ?_
 refine I0 ?_
 refine C9 (rC rfl (A4 rfl rfl)) (rT rfl) (rT rfl) ?_
 (exact U5.mk rfl (O6 _))
theorem B36 (nm : ByteArray) (num : Int) (ty fr : Ty) (lb : Int) (G : IM) (cells : List Value) (hr : B0 G (.mk 1 nm num ty fr lb []) cells) : Fn Tryz.prog 229 [.agg ⟨cells⟩] [] G (T6 (W2 1 [])) := by
 rw [show W2 1 [] = none from rfl]
 obtain ⟨tk, tks⟩ := ty
 obtain ⟨fk, fks⟩ := fr
 obtain ⟨pt, ct, pf, cf, p, c, es, rfl, hk, hnum, hlb, hty, hfr, hsl, hkl⟩ := hr.open9
 have hL : ([] : List Tm).length = 0 := rfl
 refine C3 Tryz.func229 rfl Tryz.ntmps229 Tryz.results229 rfl ?_
 intro w0
 refine A3 ?_
 refine sE (C8 rfl rfl) rfl (fun b3 => ?_)
 refine sE (A6 rfl) rfl (fun b4 => ?_)
 refine A8 ?_
 refine sE (A6 rfl) rfl (fun b11 => ?_)
 refine E0 ?_
 refine sP (B1w rfl rfl (by omega)) rfl rfl ?_
 refine N0 ?_
 refine C1 ?_
 refine A3 ?_
 refine sP (H9 rfl rfl (by omega)) rfl rfl ?_
 refine B2 ?_
 refine sP (H9 rfl rfl (by omega)) rfl rfl ?_
 refine A9 ?_
 refine sP (H9 rfl rfl (by omega)) rfl rfl ?_
 refine A8 ?_
 refine sP (H9 rfl rfl (by omega)) rfl rfl ?_
 refine B2 ?_
 refine sP (H9 rfl rfl (by omega)) rfl rfl ?_
 refine A9 ?_
 refine sP (H9 rfl rfl (by omega)) rfl rfl ?_
 refine I0 ?_
 refine I1 (rC rfl (A4 rfl rfl)) (rT rfl) ?_
 (exact T6.no rfl (O6 _))
theorem B37 (a : Tm) (nm : ByteArray) (num : Int) (ty fr : Ty) (lb : Int) (G : IM) (cells : List Value) (hr : B0 G (.mk 14 nm num ty fr lb [a]) cells) : Fn Tryz.prog 229 [.agg ⟨cells⟩] [] G (T6 (W2 14 [a])) := by
 rw [show W2 14 [a] = none from rfl]
 obtain ⟨tk, tks⟩ := ty
 obtain ⟨fk, fks⟩ := fr
 obtain ⟨pt, ct, pf, cf, p, c, es, rfl, hk, hnum, hlb, hty, hfr, hsl, hkl⟩ := hr.open9
 obtain ⟨bx, ox, e0, rfl, hl0, hat0, hre0, hgb0⟩ := hsl.kidTm hkl (i := 0) (by simp) (by simp)
 have ho0 : e0.all (·.oneCell') = true := (show B0 G a e0 from hre0).one
 refine C3 Tryz.func229 rfl Tryz.ntmps229 Tryz.results229 rfl ?_
 intro w0
 refine A3 ?_
 refine sE (C8 rfl rfl) rfl (fun b3 => ?_)
 refine sE (A6 rfl) rfl (fun b4 => ?_)
 refine A8 ?_
 refine sE (A6 rfl) rfl (fun b11 => ?_)
 refine E0 ?_
 refine sB (X5 rfl rfl) rfl rfl (fun h21 => ?_) (fun h21 => ?_)
 refine A8 ?_
 refine sP (B4 (j := 0) rfl rfl rfl (by simp)) rfl rfl ?_
 refine sL (A2 rfl rfl (hat0 _) hl0) rfl rfl ?_
 refine sS rfl rfl rfl hl0 ho0 rfl ?_ (hu := by exact D6 hl0.symm)
 refine E0 ?_
 refine C1 ?_
 refine A3 ?_
 refine sP (H9 rfl rfl (by omega)) rfl rfl ?_
 refine B2 ?_
 refine sP (H9 rfl rfl (by omega)) rfl rfl ?_
 refine A9 ?_
 refine sP (H9 rfl rfl (by omega)) rfl rfl ?_
 refine A8 ?_
 refine sP (H9 rfl rfl (by omega)) rfl rfl ?_
 refine B2 ?_
 refine sP (H9 rfl rfl (by omega)) rfl rfl ?_
 refine A9 ?_
 refine sP (H9 rfl rfl (by omega)) rfl rfl ?_
 refine I0 ?_
 refine I1 (rC rfl (A4 rfl rfl)) (rT rfl) ?_
 (exact T6.no rfl (O6 _))
 refine N0 ?_
 refine C1 ?_
 refine A3 ?_
 refine sP (H9 rfl rfl (by omega)) rfl rfl ?_
 refine B2 ?_
 refine sP (H9 rfl rfl (by omega)) rfl rfl ?_
 refine A9 ?_
 refine sP (H9 rfl rfl (by omega)) rfl rfl ?_
 refine A8 ?_
 refine sP (H9 rfl rfl (by omega)) rfl rfl ?_
 refine B2 ?_
 refine sP (H9 rfl rfl (by omega)) rfl rfl ?_
 refine A9 ?_
 refine sP (H9 rfl rfl (by omega)) rfl rfl ?_
 refine I0 ?_
 refine I1 (rC rfl (A4 rfl rfl)) (rT rfl) ?_
 (exact T6.no rfl (O6 _))
theorem X1 {ks : List Tm} (h : ks.length = 1) : ∃ a, ks = [a] := by
 match ks, h with
 | [a], _ => exact ⟨a, rfl⟩
theorem ks2 {ks : List Tm} (h : ks.length = 2) : ∃ a b, ks = [a, b] := by
 match ks, h with
 | [a, b], _ => exact ⟨a, b, rfl⟩
theorem ks3 {ks : List Tm} (h : ks.length = 3) : ∃ a b c, ks = [a, b, c] := by
 match ks, h with
 | [a, b, c], _ => exact ⟨a, b, c, rfl⟩
theorem B38 {k : Int} {nm : ByteArray} {num : Int} {ty fr : Ty} {lb : Int} {ks : List Tm} {G : IM} {cells : List Value} (hc : cv (.mk k nm num ty fr lb ks)) (hk : k = 1 ∨ k = 6 ∨ k = 7 ∨ k = 8 ∨ k = 9 ∨ k = 11 ∨ k = 12 ∨ k = 14) (hr : B0 G (.mk k nm num ty fr lb ks) cells) :
  Fn Tryz.prog 229 [.agg ⟨cells⟩] [] G (T6 (W2 k ks)) := by
 obtain ⟨hN, hkk⟩ := hc.node
 have hops := hN.ops
 rcases hk with rfl | rfl | rfl | rfl | rfl | rfl | rfl | rfl
 ·obtain rfl : ks = [] := List.length_eq_zero_iff.1 (by have : D9 1 = 0 := rfl; omega)
  exact B36 _ _ _ _ _ _ _ hr
 ·obtain ⟨a, b, rfl⟩ := ks2 (ks := ks) (by have : D9 6 = 2 := rfl; omega)
  exact B3Z a b _ _ _ _ _ _ _ (hkk a (by simp)) hr
 ·obtain ⟨a, b, rfl⟩ := ks2 (ks := ks) (by have : D9 7 = 2 := rfl; omega)
  exact A9u 7 a b _ _ _ _ _ _ _ (.inl rfl) (hkk a (by simp)) (hkk b (by simp)) hr
 ·obtain ⟨a, b, rfl⟩ := ks2 (ks := ks) (by have : D9 8 = 2 := rfl; omega)
  exact A9u 8 a b _ _ _ _ _ _ _ (.inr rfl) (hkk a (by simp)) (hkk b (by simp)) hr
 ·obtain ⟨a, b, c, rfl⟩ := ks3 (ks := ks) (by have : D9 9 = 3 := rfl; omega)
  exact B30 a b c _ _ _ _ _ _ _ hr
 ·obtain ⟨a, rfl⟩ := X1 (ks := ks) (by have : D9 11 = 1 := rfl; omega)
  exact A9v 11 a _ _ _ _ _ _ _ (.inl rfl) (hkk a (by simp)) hr
 ·obtain ⟨a, rfl⟩ := X1 (ks := ks) (by have : D9 12 = 1 := rfl; omega)
  exact A9v 12 a _ _ _ _ _ _ _ (.inr rfl) (hkk a (by simp)) hr
 ·obtain ⟨a, rfl⟩ := X1 (ks := ks) (by have : D9 14 = 1 := rfl; omega)
  exact B37 a _ _ _ _ _ _ _ hr
theorem B39 {k : Int} {nm : ByteArray} {num : Int} {ty fr : Ty} {lb : Int} {ks : List Tm} {G : IM} {cells : List Value} (hc : cv (.mk k nm num ty fr lb ks)) (hk : k = 6 ∨ k = 7 ∨ k = 8 ∨ k = 9 ∨ k = 11 ∨ k = 12 ∨ k = 14) (hr : B0 G (.mk k nm num ty fr lb ks) cells) :
  Fn Tryz.prog 230 [.agg ⟨cells⟩] [] G (U5 (X0 k ty fr lb ks)) := by
 obtain ⟨hN, hkk⟩ := hc.node
 have hops := hN.ops
 rcases hk with rfl | rfl | rfl | rfl | rfl | rfl | rfl
 ·obtain ⟨a, b, rfl⟩ := ks2 (ks := ks) (by have : D9 6 = 2 := rfl; omega)
  exact B32 a b _ _ _ _ _ _ _ (hkk a (by simp)) hr
 ·obtain ⟨a, b, rfl⟩ := ks2 (ks := ks) (by have : D9 7 = 2 := rfl; omega)
  exact A9A 7 a b _ _ _ _ _ _ _ (.inl rfl) (hkk a (by simp)) hr
 ·obtain ⟨a, b, rfl⟩ := ks2 (ks := ks) (by have : D9 8 = 2 := rfl; omega)
  exact A9A 8 a b _ _ _ _ _ _ _ (.inr rfl) (hkk a (by simp)) hr
 ·obtain ⟨a, b, c, rfl⟩ := ks3 (ks := ks) (by have : D9 9 = 3 := rfl; omega)
  exact B35 a b c _ _ _ _ _ _ _ (hkk a (by simp)) hr
 ·obtain ⟨a, rfl⟩ := X1 (ks := ks) (by have : D9 11 = 1 := rfl; omega)
  exact A9z 11 a _ _ _ _ _ _ _ (.inl rfl) (hkk a (by simp)) hr
 ·obtain ⟨a, rfl⟩ := X1 (ks := ks) (by have : D9 12 = 1 := rfl; omega)
  exact A9z 12 a _ _ _ _ _ _ _ (.inr rfl) (hkk a (by simp)) hr
 ·obtain ⟨a, rfl⟩ := X1 (ks := ks) (by have : D9 14 = 1 := rfl; omega)
  exact B34 a _ _ _ _ _ _ _ (hkk a (by simp)) hN.lbB hr
theorem A4Q (n : Nat) (t : Tm) (ts : List Tm) : Y9 (n + 1) (t :: ts) = if F0 t = true then (match Y9 n ts with | some (us, c, l) => some (t :: us, c, l) | none => none) else some ((I6 t).1 :: ts, (I6 t).2.1, (I6 t).2.2) := by
 rw [Y9]; rfl
theorem A4R : ∀ (n : Nat) (ks : List Tm), (∀ i, i < n → (h : i < ks.length) → F0 ks[i] = true) → Y9 n ks = none
 | n, [], _ => by cases n <;> rfl
 | 0, t :: ts, _ => rfl
 | n + 1, t :: ts, h => by
  rw [A4Q, if_pos (show F0 t = true from h 0 (by omega) (by simp)), A4R n ts (fun i hi hl => h (i + 1) (by omega) (by simpa using hl))]
theorem A6g : ∀ (n : Nat) (ks : List Tm) (i : Nat) (hi : i < ks.length), i < n → (∀ j, j < i → (h : j < ks.length) → F0 ks[j] = true) → F0 ks[i] = false → Y9 n ks = some (ks.set i (I6 ks[i]).1, (I6 ks[i]).2.1, (I6 ks[i]).2.2)
 | n, [], i, hi, _, _, _ => by simp at hi
 | 0, t :: ts, i, _, hn, _, _ => by omega
 | n + 1, t :: ts, 0, _, _, _, hv => by
  rw [A4Q, if_neg (by rw [show F0 t = false from hv]; decide)]; rfl
 | n + 1, t :: ts, i + 1, hi, hn, hj, hv => by
  rw [A4Q, if_pos (show F0 t = true from hj 0 (by omega) (by simp)), A6g n ts i (by simpa using hi) (by omega) (fun j hji hl => hj (j + 1) (by omega) (by simpa using hl)) hv]
  rfl
theorem B4a {k : Int} {ty fr : Ty} {lb : Int} {ks : List Tm} (h : (O2 k ty fr lb ks).2.1 = 1) : (O2 k ty fr lb ks).2.2 = 0 := by
 revert h
 unfold O2 P5
 repeat' split
 all_goals first | (intro _; rfl) | (intro h; exfalso; revert h; simp)
theorem B4b {k : Int} {nm : ByteArray} {num : Int} {ty fr : Ty} {lb : Int} {ks : List Tm} (h : (I6 (.mk k nm num ty fr lb ks)).2.1 = 1) : (I6 (.mk k nm num ty fr lb ks)).2.2 = 0 := by
 rw [I6] at h ⊢
 cases hL : Y9 (if k = 9 then 1 else ks.length) ks with
 | none => rw [hL] at h; exact B4a h
 | some p =>
  obtain ⟨us, c, l⟩ := p
  rw [hL] at h
  simp only at h ⊢
  by_cases hc : c = 1
  ·rw [if_pos hc]
  ·rw [if_neg hc] at h; exact absurd h hc
theorem B4c {t : Tm} (h : (I6 t).2.1 = 1) : (I6 t).2.2 = 0 := by cases t; exact B4b h
theorem A9B {k : Int} {nm : ByteArray} {num : Int} {ty fr : Ty} {lb : Int} {ks : List Tm} {i : Nat} (hi : i < ks.length) (hn : i < (if k = 9 then 1 else ks.length)) (hj : ∀ j, j < i → (h : j < ks.length) → F0 ks[j] = true) (hv : F0 ks[i] = false) :
  (I6 (.mk k nm num ty fr lb ks)).2.1 = (I6 ks[i]).2.1 ∧ (I6 (.mk k nm num ty fr lb ks)).2.2 = (I6 ks[i]).2.2 ∧ ((I6 ks[i]).2.1 = 1 → (I6 (.mk k nm num ty fr lb ks)).1 = .mk k nm num ty fr lb (ks.set i (I6 ks[i]).1)) := by
 rw [I6, A6g _ ks i hi hn hj hv]
 simp only
 by_cases hc : (I6 ks[i]).2.1 = 1
 ·rw [if_pos hc]
  exact ⟨hc.symm, (B4c hc).symm, fun _ => rfl⟩
 ·rw [if_neg hc]
  exact ⟨rfl, rfl, fun h => absurd h hc⟩
theorem B4d {k : Int} {nm : ByteArray} {num : Int} {ty fr : Ty} {lb : Int} {ks : List Tm} (h : ∀ i, i < (if k = 9 then 1 else ks.length) → (hl : i < ks.length) → F0 ks[i] = true) : I6 (.mk k nm num ty fr lb ks) = match W2 k ks with | some u => (u, 1, 0) | none => X0 k ty fr lb ks := by
 rw [I6, A4R _ _ h]
 exact B31 k ty fr lb ks
theorem A3U {k : Int} (h : 0 ≤ D9 k) : 1 ≤ k ∧ k ≤ 14 := by
 by_cases hk : 1 ≤ k ∧ k ≤ 14
 ·exact hk
 ·rw [A5p hk] at h; omega
theorem A6h {k : Int} {nm : ByteArray} {num : Int} {ty fr : Ty} {lb : Int} {ks : List Tm} (hc : cv (.mk k nm num ty fr lb ks)) (hv : F0 (.mk k nm num ty fr lb ks) = false) (h : ∀ i, i < (if k = 9 then 1 else ks.length) → (hl : i < ks.length) → F0 ks[i] = true) : k = 1 ∨ k = 6 ∨ k = 7 ∨ k = 8 ∨ k = 9 ∨ k = 11 ∨ k = 12 ∨ k = 14 := by
 obtain ⟨hN, _⟩ := hc.node
 have hr := A3U (by rw [hN.ops]; omega : 0 ≤ D9 k)
 have h13 := hN.ne
 have h25 : ¬(k = 2 ∨ k = 3 ∨ k = 4 ∨ k = 5) := by
  intro hk
  rw [F0, if_neg (by omega)] at hv
  rw [decide_eq_true hk] at hv
  cases hv
 have h10 : k ≠ 10 := by
  rintro rfl
  rw [A2n (.inl rfl), List.all_eq_false] at hv
  obtain ⟨t, ht, hn⟩ := hv
  obtain ⟨i, hi, rfl⟩ := List.mem_iff_getElem.1 ht
  exact hn (h i (by rw [if_neg (by decide)]; exact hi) hi)
 omega
theorem B4e (t : Tm) (G : IM) (cells : List Value) (hr : B0 G t cells) : Fn Tryz.prog 227 [.agg ⟨cells⟩] [] G (I3 (.int .i64 ((if t.k = 9 then 1 else t.ks.length : Nat) : Int)) G) := by
 obtain ⟨k, nm, num, ⟨tk, tks⟩, ⟨fk, fks⟩, lb, ks⟩ := t
 obtain ⟨pt, ct, pf, cf, p, c, es, rfl, hk, hnum, hlb, hty, hfr, hsl, hkl⟩ := hr.open9
 rw [show (Tm.mk k nm num (.mk tk tks) (.mk fk fks) lb ks).k = k from rfl, show (Tm.mk k nm num (.mk tk tks) (.mk fk fks) lb ks).ks = ks from rfl]
 refine C3 Tryz.func227 rfl Tryz.ntmps227 Tryz.results227 rfl ?_
 intro w0
 refine A3 ?_
 refine sE (C8 rfl rfl) rfl (fun b3 => ?_)
 refine D4 ?_
 refine sB (qE rfl rfl) rfl rfl (fun h12 => ?_) (fun h12 => ?_)
 refine J4 ?_
 (exact ⟨rfl, by rw [if_pos (by omega)]; rfl, rfl⟩)
 refine I0 ?_
 (exact ⟨rfl, by rw [if_neg (by omega)], rfl⟩)
theorem B4f {k : Int} (h8 : k = 1 ∨ k = 6 ∨ k = 7 ∨ k = 8 ∨ k = 9 ∨ k = 11 ∨ k = 12 ∨ k = 14) (h : D9 k = 0) : k = 1 := by
 rcases h8 with rfl | rfl | rfl | rfl | rfl | rfl | rfl | rfl
 ·rfl
 all_goals exact absurd h (by decide)
theorem A9C {G : IM} {r r' : Stp} {u : Tm} {cells : List Value} {c l : Int} (h1 : r.2.1 = c) (h2 : r.2.2 = l) (hr : B0 G u cells) (h3 : c = 1 → u = r.1) : U5 r G (.tuple ⟨[.agg ⟨cells⟩, .int .i64 c, .int .i64 l]⟩) [] := by
 subst h1 h2; exact ⟨rfl, u, cells, rfl, hr, h3⟩
theorem A6i {Q : Prop} (h : Q := by (exact ⟨Nat.zero_le _, fun j hj => absurd hj (Nat.not_lt_zero j)⟩)) : Q := h
theorem A6j {Q : Prop} (h : Q := by (exact ⟨by omega, fun j hji hl2 => (by by_cases he : j = i; (subst he; assumption); exact hj j (by omega) hl2)⟩)) : Q := h
theorem B4g : ∀ (t : Tm) (G : IM) (cells : List Value), cv t → F0 t = false → B0 G t cells → Fn Tryz.prog 195 [.agg ⟨cells⟩] [] G (U5 (I6 t)) := by
 refine Tm.ind fun k nm num ty fr lb ks ih G cells hc hv hr => ?_
 have hr0 := hr
 have hN := hc.node.1
 have hkk := hc.node.2
 have hsm := A2h _ hc
 obtain ⟨_, _, _, _, hksm⟩ := A0a.1 hsm
 have hops := hN.ops
 have hle3 := A1a k
 have hkd := @A6h k nm num ty fr lb ks hc hv
 have hrd := @B4d k nm num ty fr lb ks
 have hkidS := fun (i : Nat) => @A9B k nm num ty fr lb ks i
 have hRA := fun h => @B38 k nm num ty fr lb ks G cells hc h hr
 have hCA := fun h (G1 : IM) (hle : C0 G G1) => @B39 k nm num ty fr lb ks G1 cells hc h (hr.mono hle)
 have hCt := B4e _ G _ hr
 rw [show (Tm.mk k nm num ty fr lb ks).k = k from rfl, show (Tm.mk k nm num ty fr lb ks).ks = ks from rfl] at hCt
 obtain ⟨C, hC⟩ : ∃ C : Nat, (if k = 9 then 1 else ks.length : Nat) = C := ⟨_, rfl⟩
 rw [hC] at hCt hkd hrd
 have hkidS' := fun (i : Nat) (hi : i < ks.length) (hn : i < C) => hkidS i hi (by rw [hC]; exact hn)
 have hC9 : C ≤ ks.length := by rw [← hC]; split; (have : D9 k = 3 := by (rename_i h9; rw [h9]; rfl)); omega; omega
 have hrul := hkd
 obtain ⟨tk, tks⟩ := ty
 obtain ⟨fk, fks⟩ := fr
 obtain ⟨pt, ct, pf, cf, p, c, es, rfl, hk, hnum, hlb, hty, hfr, hsl, hkl⟩ := hr.open9
 have hn := hsl.le
 have hnc := hsl.sl.2.1
 refine C3 Tryz.func195 rfl Tryz.ntmps195 Tryz.results195 rfl ?_
 intro w0
 refine A3 ?_
 refine sE (C8 rfl rfl) rfl (fun b3 => ?_)
 refine sE (A6 rfl) rfl (fun b4 => ?_)
 refine A8 ?_
 refine D7 D8 rfl ?_
 refine I9 (i := 0) (l' := [tt,ff,ff,ff,ff,ff,ff]) rfl D1 (B5 rfl) rfl (by kernel_rfl) rfl rfl ?_
 refine aL 1 rfl (C4 rfl rfl) rfl ?_
 refine aL 2 rfl (A4 rfl rfl) rfl ?_
 refine aP 6 rfl (qM rfl) rfl ?_
 refine A1 3 ?_
 refine M8 rfl rfl (hCt) rfl rfl rfl ?_
 refine aP 4 rfl (A7S (l := C) rfl rfl rfl (by omega)) rfl ?_
 refine aP 5 rfl (pLn rfl rfl) rfl ?_
 refine A3 ?_
 refine C1 ?_
 (refine J8 (fun (i : Nat) => ⟨[(19, .int .i64 (i : Int)), (18, .int .i64 (C : Int)), (17, .slice p C c), (1, .pointer (some ⟨b3, 0, none⟩)), (2, .pointer (some ⟨b4, 0, none⟩))], [.blk b4 [.int .i64 0, .string ⟨⟨[]⟩⟩, .int .i64 0, .int .i64 0, .slice none 0 0, .int .i64 0, .slice none 0 0, .int .i64 0, .slice none 0 0], .blk b3 [.int .i64 k, .string nm, .int .i64 num, .int .i64 tk, .slice pt tks.length ct, .int .i64 fk, .slice pf fks.length cf, .int .i64 lb, .slice p ks.length c]], G⟩) (fun i => i ≤ C ∧ ∀ j, j < i → (h : j < ks.length) → F0 ks[j] = true) (fun i => C - i) 0 ?_ ?_ ?_)
 exact E2
 exact A6i
 (rintro i ⟨hi, hj⟩)
 refine A3 ?_
 refine sB (J1 rfl rfl) rfl rfl (fun h29 => ?_) (fun h29 => ?_)
 refine B2 ?_
 refine C1 ?_
 refine B6 ?_
 (have hiC : i < C := (by omega); obtain ⟨bx, ox, e, rfl, hl, hat, hre, hgb⟩ := hsl.kidTm hkl (i := i) (by omega) (by omega); have heo := hre.one; have hVi := A9q ks[i] G e hre; refine sP (B4 (j := i) rfl rfl rfl hiC) rfl rfl ?_)
 refine sL (A2 rfl rfl (hat _) hl) rfl rfl ?_
 refine sE (A6 rfl) rfl (fun b43 => ?_)
 refine E6 ?_
 refine sS rfl rfl rfl hl heo rfl ?_ (hu := by exact D6 hl.symm)
 refine A9 ?_
 refine sL (A2 rfl rfl (B3 (by repeat first | exact mH | apply mT)) hl) rfl rfl ?_
 refine F8 rfl (hVi) rfl rfl (fun h52 => ?_) (fun h52 => ?_)
 refine D4 ?_
 refine sP (J0 rfl rfl (by omega) (by omega)) rfl rfl ?_
 refine A3 ?_
 refine J6 (i + 1) ?_ ?_ ?_
 exact E2
 exact A6j
 (show C - (i + 1) < C - i; omega)
 refine B2 ?_
 refine sL (A2 rfl rfl (B3 (by repeat first | exact mH | apply mT)) hl) rfl rfl ?_
 (have hvF : F0 ks[i] = false := (by assumption); obtain ⟨hs1, hs2, hs3⟩ := hkidS' i (by omega) hiC (fun j hji hl2 => hj j hji hl2) hvF; refine E7 rfl (ih ks[i] (List.getElem_mem (by omega)) G e (hkk _ (List.getElem_mem (by omega))) hvF hre) rfl rfl (fun v G1 hle1 hh => ?_); obtain ⟨u, uc, rfl, hru, hu1⟩ := hh; have hul := hru.len; have huo := hru.one; have hClo := B3n G1 _ ks.length c es (hsl.mono hle1) (by omega) (by omega))
 refine B1 ?_
 refine sE (A6 rfl) rfl (fun b81 => ?_)
 refine sS rfl rfl rfl hul huo rfl ?_ (hu := by exact D6 hul.symm)
 refine B2 ?_
 refine sE (A6 rfl) rfl (fun b90 => ?_)
 refine B2 ?_
 (refine A05 rfl hClo rfl rfl (fun v98 G98 outs98 hle98 h98 => ?_); obtain ⟨hG, p1, c1, rfl, rfl⟩ := h98; replace hG := hG.symm; subst hG; refine A3E (cs := es.flatten) (by repeat (first | exact Pk.here | apply Pk.there)) (by omega) (fun bc Cc hpe hnc1 hcm => ?_); subst hpe)
 replace hru := hru.mono hle98
 refine E0 ?_
 refine sL (A2 rfl rfl (B3 (by repeat first | exact mH | apply mT)) hul) rfl rfl ?_
 refine sP (B4 (j := i) rfl rfl rfl (by omega)) rfl rfl ?_
 refine Y2 rfl rfl rfl hul huo rfl (by repeat first | exact Sw.here | apply Sw.there) (by exact A3F (by rw [hkl.len]; omega) (fun e he => (hsl.all e he)) hul) ?_
 refine N0 ?_
 (refine A16 (bs := [(bc, (es.set i uc).flatten ++ Cc)]) (Pk.perm (by repeat (first | exact Pk.here | apply Pk.there))) (fun hn2 hd2 hle2 => ?_))
 refine A8 ?_
 refine C9 (rC rfl (A4 rfl rfl)) (rT rfl) (rT rfl) ?_
 (have hks2 := D0.set (j := i) ((hkl.mono hle1).mono hle2) (hru.mono hle2); refine A9C (r' := P5) hs1 hs2 (B0.put (us := ks.set i u) (es := es.set i uc) hk hnum hlb ((hty.mono hle1).mono hle2) ((hfr.mono hle1).mono hle2) (by rw [List.length_set]) (D5.of (Sl.of_blk (A := []) (by rw [A0A hks2.all, hks2.len, List.length_set]) (by omega) hcm (Wi.in hn2 List.mem_cons_self)) (by rw [hks2.len, List.length_set]) hks2.all (fun e he => by obtain ⟨q, hq⟩ := List.getElem?_of_mem he; exact (hks2.inv hq J5).2.one)) hks2) (fun h1 => by rw [hs3 h1, hu1 h1]))
 refine K5 ?_
 focus (have hall : ∀ i, i < C → (hl : i < ks.length) → F0 ks[i] = true := (fun j hjc hl2 => hj j (by omega) hl2); have hk8 := hkd hall; have hrd' := hrd hall; refine E7 rfl (hRA hk8) rfl rfl (fun v G1 hle1 hh => ?_); obtain ⟨u, uc, cc, rfl, hru, hy, hno⟩ := hh; have hul := hru.len; have huo := hru.one; rcases hm : W2 k ks with _ | x; rotate_left; obtain ⟨rfl, rfl⟩ := hy _ hm; rotate_left; obtain rfl := hno hm; rw [hm] at hrd')
 refine B6 ?_
 refine sE (A6 rfl) rfl (fun b149 => ?_)
 refine sS rfl rfl rfl hul huo rfl ?_ (hu := by exact D6 hul.symm)
 refine A8 ?_
 refine sP (H9 rfl rfl (by omega)) rfl rfl ?_
 refine J4 ?_
 refine sB (qE rfl rfl) rfl rfl (fun h169 => ?_) (fun h169 => ?_)
 refine K5 ?_
 refine C9 (rC rfl (A4 rfl rfl)) (rT rfl) (rT rfl) ?_
 (obtain rfl : k = 1 := B4f hk8 (by omega); rw [hrd']; exact U5.mk rfl (O6 _))
 refine D4 ?_
 (have hk7 : k = 6 ∨ k = 7 ∨ k = 8 ∨ k = 9 ∨ k = 11 ∨ k = 12 ∨ k = 14 := (by rcases hk8 with h1 | hh; (rw [h1] at hops; have : D9 1 = 0 := rfl; omega); exact hh); refine E7 rfl (hCA hk7 _ hle1) rfl rfl (fun v G2 hle2 hh => ?_); obtain ⟨w, wc, rfl, hrw, hw1⟩ := hh; have hwl := hrw.len; have hwo := hrw.one)
 refine B6 ?_
 refine sS rfl rfl rfl hwl hwo rfl ?_ (hu := by exact D6 hwl.symm)
 refine A9 ?_
 refine C9 (rC rfl (A2 rfl rfl (B3 (by repeat first | exact mH | apply mT)) hwl)) (rT rfl) (rT rfl) ?_
 (rw [hrd']; exact A9C (r' := P5) rfl rfl hrw hw1)
 refine B6 ?_
 refine sE (A6 rfl) rfl (fun b208 => ?_)
 refine sS rfl rfl rfl hul huo rfl ?_ (hu := by exact D6 hul.symm)
 refine A8 ?_
 refine sP (T8 rfl rfl (by omega)) rfl rfl ?_
 refine A9 ?_
 refine sL (A2 rfl rfl (B3 (by repeat first | exact mH | apply mT)) hul) rfl rfl ?_
 refine E6 ?_
 refine sS rfl rfl rfl hul huo rfl ?_ (hu := by exact D6 hul.symm)
 refine A8 ?_
 refine C9 (rC rfl (A2 rfl rfl (B3 (by repeat first | exact mH | apply mT)) hul)) (rT rfl) (rT rfl) ?_
 (rw [hrd', hm]; exact U5.mk rfl hru)
def L5 (r : Stp) : IM → Value → List A5 → Prop := L8 fun G' v => ∃ cells, v = .tuple ⟨[.agg ⟨cells⟩, .int .i64 r.2.1, .int .i64 r.2.2]⟩ ∧ B0 G' r.1 cells
theorem L5.mk {G : IM} {r : Stp} {u : Tm} {c l : Int} {cells : List Value} (h : r = (u, c, l)) (hr : B0 G u cells) : L5 r G (.tuple ⟨[.agg ⟨cells⟩, .int .i64 c, .int .i64 l]⟩) [] := by
 subst h; exact ⟨rfl, cells, rfl, hr⟩
theorem A4S {t : Tm} (h : M2 t = true) : t.small := A2h t (A0X h).1
theorem A4T {e : Tm} (h : M2 e = false) : H7 e = (J5, 3, 0) := by unfold H7; rw [if_pos h]; rfl
theorem A3V {e : Tm} (h : M2 e = true) (h2 : F0 e = true) : H7 e = (e, 0, 0) := by unfold H7; rw [if_neg (by rw [h]; decide), if_pos h2]
theorem A3W {e : Tm} (h : M2 e = true) (h2 : F0 e = false) (h3 : (I6 e).2.1 ≠ 1) : H7 e = (J5, (I6 e).2.1, (I6 e).2.2) := by
 unfold H7; rw [if_neg (by rw [h]; decide), if_neg (by rw [h2]; decide), if_pos h3]
theorem A3X {e : Tm} (h : M2 e = true) (h2 : F0 e = false) (h3 : (I6 e).2.1 = 1) (h4 : M2 (I6 e).1 = false) : H7 e = (J5, 4, 0) := by
 unfold H7; rw [if_neg (by rw [h]; decide), if_neg (by rw [h2]; decide), if_neg (by omega), if_pos h4]
theorem A3Y {e : Tm} (h : M2 e = true) (h2 : F0 e = false) (h3 : (I6 e).2.1 = 1) (h4 : M2 (I6 e).1 = true) : H7 e = ((I6 e).1, 1, 0) := by
 unfold H7; rw [if_neg (by rw [h]; decide), if_neg (by rw [h2]; decide), if_neg (by omega), if_neg (by rw [h4]; decide)]
theorem B4h {e : Tm} (h : (H7 e).2.1 = 1) : M2 (H7 e).1 = true := by
 cases h1 : M2 e with
 | false => rw [A4T h1] at h; simp at h
 | true =>
  cases h2 : F0 e with
  | true => rw [A3V h1 h2] at h; simp at h
  | false =>
   by_cases h3 : (I6 e).2.1 = 1
   ·cases h4 : M2 (I6 e).1 with
    | false => rw [A3X h1 h2 h3 h4] at h; simp at h
    | true => rw [A3Y h1 h2 h3 h4]; exact h4
   ·rw [A3W h1 h2 h3] at h; exact absurd h h3
theorem B4i (t : Tm) (G : IM) (cells : List Value) (hr : B0 G t cells) : Fn Tryz.prog 146 [.agg ⟨cells⟩] [] G (L5 (H7 t)) := by
 have hRl := hr.len
 have hRo := hr.one
 have hV := A5G t G cells hr
 have hI := A9q t G cells hr
 refine C3 Tryz.func146 rfl Tryz.ntmps146 Tryz.results146 rfl ?_
 intro w0
 refine A3 ?_
 refine sE (C8 rfl rfl) rfl (fun b3 => ?_)
 refine sE (A6 rfl) rfl (fun b4 => ?_)
 refine A9 ?_
 refine C1 ?_
 refine A3 ?_
 refine sL (A2 rfl rfl (B3 (by repeat first | exact mH | apply mT)) hRl) rfl rfl ?_
 refine F8 rfl (hV) rfl rfl (fun h14 => ?_) (fun h14 => ?_)
 refine B2 ?_
 refine sL (A2 rfl rfl (B3 (by repeat first | exact mH | apply mT)) hRl) rfl rfl ?_
 refine F8 rfl (hI) rfl rfl (fun h23 => ?_) (fun h23 => ?_)
 refine A8 ?_
 refine sL (A2 rfl rfl (B3 (by repeat first | exact mH | apply mT)) hRl) rfl rfl ?_
 (refine E7 rfl (A5O t G cells (A4S (by assumption)) hr) rfl rfl (fun v G1 hle1 hh => ?_); obtain ⟨cs1, F1, rfl, hs1, hn1⟩ := hh; have hul := hs1.R.len; have huo := hs1.R.one)
 refine sS rfl rfl rfl hul huo rfl ?_ (hu := by exact D6 hul.symm)
 refine B2 ?_
 refine C9 (rC rfl (A2 rfl rfl (B3 (by repeat first | exact mH | apply mT)) hul)) (rT rfl) (rT rfl) ?_
 (exact L5.mk (A3V (by assumption) (by assumption)) (hs1.R.mono (C5.le _ _)))
 refine E0 ?_
 refine sL (A2 rfl rfl (B3 (by repeat first | exact mH | apply mT)) hRl) rfl rfl ?_
 (refine E7 rfl (B4g t G cells (A0X (by assumption)).1 (by assumption) hr) rfl rfl (fun v G1 hle1 hh => ?_); obtain ⟨u, uc, rfl, hru, hu1⟩ := hh; have hul := hru.len; have huo := hru.one; have hVu := A5G u G1 uc hru)
 refine B1 ?_
 refine sE (A6 rfl) rfl (fun b57 => ?_)
 refine sS rfl rfl rfl hul huo rfl ?_ (hu := by exact D6 hul.symm)
 refine A9 ?_
 refine C1 ?_
 refine B6 ?_
 refine sB (N9 rfl rfl) rfl rfl (fun h68 => ?_) (fun h68 => ?_)
 refine T1 ?_
 refine C9 (rC rfl (A4 rfl rfl)) (rT rfl) (rT rfl) ?_
 (exact L5.mk (A3W (by assumption) (by assumption) (by omega)) (O6 _))
 refine A8 ?_
 refine sL (A2 rfl rfl (B3 (by repeat first | exact mH | apply mT)) hul) rfl rfl ?_
 refine F8 rfl (hVu) rfl rfl (fun h95 => ?_) (fun h95 => ?_)
 refine J2 ?_
 refine sL (A2 rfl rfl (B3 (by repeat first | exact mH | apply mT)) hul) rfl rfl ?_
 (refine E7 rfl (A5O u G1 uc (A4S (by assumption)) hru) rfl rfl (fun v G2 hle2 hh => ?_); obtain ⟨cs2, F2, rfl, hs2, hn2⟩ := hh; have hwl := hs2.R.len; have hwo := hs2.R.one)
 refine sS rfl rfl rfl hwl hwo rfl ?_ (hu := by exact D6 hwl.symm)
 refine A9 ?_
 refine C9 (rC rfl (A2 rfl rfl (B3 (by repeat first | exact mH | apply mT)) hwl)) (rT rfl) (rT rfl) ?_
 (have h9 := hu1 (by omega); subst h9; exact L5.mk (A3Y (by assumption) (by assumption) (by omega) (by assumption)) (hs2.R.mono (C5.le _ _)))
 refine J9 ?_
 refine C9 (rC rfl (A4 rfl rfl)) (rT rfl) (rT rfl) ?_
 (have h9 := hu1 (by omega); subst h9; exact L5.mk (A3X (by assumption) (by assumption) (by omega) (by assumption)) (O6 _))
 refine J9 ?_
 refine C9 (rC rfl (A4 rfl rfl)) (rT rfl) (rT rfl) ?_
 (exact L5.mk (A4T (by assumption)) (O6 _))
def O4 : Nat → Tm → Tm × Int × Int × Nat
 | 0, e => ((H7 e).1, (H7 e).2.1, (H7 e).2.2, 0)
 | n + 1, e => if (H7 e).2.1 = 1 then ((O4 n (H7 e).1).1, (O4 n (H7 e).1).2.1, (O4 n (H7 e).1).2.2.1, (O4 n (H7 e).1).2.2.2 + 1)
  else ((H7 e).1, (H7 e).2.1, (H7 e).2.2, 0)
theorem A6k (e : Tm) : O4 0 e = ((H7 e).1, (H7 e).2.1, (H7 e).2.2, 0) := by rw [O4]
theorem A6l {n : Nat} {e : Tm} (h : (H7 e).2.1 = 1) : O4 (n + 1) e = ((O4 n (H7 e).1).1, (O4 n (H7 e).1).2.1, (O4 n (H7 e).1).2.2.1, (O4 n (H7 e).1).2.2.2 + 1) := by rw [O4, if_pos h]
theorem A6m {n : Nat} {e : Tm} (h : (H7 e).2.1 ≠ 1) : O4 (n + 1) e = ((H7 e).1, (H7 e).2.1, (H7 e).2.2, 0) := by rw [O4, if_neg h]
theorem A9D : ∀ (n : Nat) (e : Tm), (O4 n e).2.1 = 1 → L9 n e = (J5, 5, 0, (O4 n e).2.2.2)
 | 0, e, h => by rw [A6k] at h ⊢; rw [L9, if_pos h]
 | n + 1, e, h => by
  by_cases h1 : (H7 e).2.1 = 1
  ·rw [A6l h1] at h ⊢
   rw [L9, if_pos h1, A9D n _ h]
  ·rw [A6m h1] at h; exact absurd h h1
theorem A9E : ∀ (n : Nat) (e : Tm), (O4 n e).2.1 ≠ 1 → L9 n e = O4 n e
 | 0, e, h => by rw [A6k] at h ⊢; rw [L9, if_neg h]
 | n + 1, e, h => by
  by_cases h1 : (H7 e).2.1 = 1
  ·rw [A6l h1] at h ⊢
   rw [L9, if_pos h1, A9E n _ h]
  ·rw [A6m h1]; rw [L9, if_neg h1]
def EvP (r : Tm × Int × Int × Nat) : IM → Value → List A5 → Prop := L8 fun G' v => ∃ cells, v = .tuple ⟨[.agg ⟨cells⟩, .int .i64 r.2.1, .int .i64 r.2.2.1, .int .i64 (r.2.2.2 : Int)]⟩ ∧ B0 G' r.1 cells
def Z0 (i : Nat) (r : Tm × Int × Int × Nat) : Tm × Int × Int × Nat := (r.1, r.2.1, r.2.2.1, r.2.2.2 + i)
theorem B4j {m i : Nat} {e : Tm} (h : (H7 e).2.1 ≠ 1 ∨ m = 0) : Z0 i (O4 m e) = ((H7 e).1, (H7 e).2.1, (H7 e).2.2, i) := by
 cases m with
 | zero => simp [Z0, O4]
 | succ m =>
  rcases h with h | h
  ·simp only [Z0, O4]; rw [if_neg h]; simp
  ·cases h
theorem B4k {m i : Nat} {e : Tm} (h : (H7 e).2.1 = 1) (hm : 0 < m) : Z0 i (O4 m e) = Z0 (i + 1) (O4 (m - 1) (H7 e).1) := by
 obtain ⟨k, rfl⟩ : ∃ k, m = k + 1 := ⟨m - 1, by omega⟩
 simp only [Z0, O4]; rw [if_pos h]; simp only [Nat.add_sub_cancel, Nat.add_assoc, Nat.add_comm 1 i]
section fin
variable {P : Program} {Γ : L6} {env : M0} {hp : List A5} {G : IM}
theorem B4l {post : IM → Value → List A5 → Prop} {σ : Sy} (hk : post σ.G (.tuple ⟨[]⟩) []) : A0q P Γ [] post .normal σ := ⟨[], .nil, [], σ.hp, by simp, hk⟩
theorem A4U {r r2 r3 r4 : ResultVar} {post : IM → Value → List A5 → Prop} {v v2 v3 v4 : Value} (h : X6 P Γ ⟨env, hp, G⟩ r v) (h2 : X6 P Γ ⟨env, hp, G⟩ r2 v2) (h3 : X6 P Γ ⟨env, hp, G⟩ r3 v3) (h4 : X6 P Γ ⟨env, hp, G⟩ r4 v4) (hk : post G (.tuple ⟨[v, v2, v3, v4]⟩) []) :
  A0q P Γ [r, r2, r3, r4] post .ret ⟨env, hp, G⟩ := A4e (.cons h (.cons h2 (.cons h3 (.cons h4 .nil)))) hk
end fin
theorem EvP.mk {G : IM} {r : Tm × Int × Int × Nat} {u : Tm} {c l : Int} {i : Nat} {cells : List Value} (h : r = (u, c, l, i)) (hr : B0 G u cells) : EvP r G (.tuple ⟨[.agg ⟨cells⟩, .int .i64 c, .int .i64 l, .int .i64 (i : Int)]⟩) [] := by
 subst h; exact ⟨rfl, cells, rfl, hr⟩
theorem A6n {Q : Prop} (h : Q := by (exact EvP.mk (by rw [← hev]; exact hend (by omega)) hrw)) : Q := h
theorem B4m (e : Tm) (n : Nat) (hn : n ≤ 300) (fid : FuncId) [B8 Tryz.prog fid] (us cs : List Value) (hq : ∀ (G : IM) (u : Tm) (cells : List Value), B0 G u cells → Fn Tryz.prog fid (us ++ [.agg ⟨cells⟩] ++ cs) [] G (I3 (.tuple ⟨[]⟩) G))
  (G : IM) (cells : List Value) (hr : B0 G e cells) : Fn Tryz.prog 104 [.agg ⟨cells⟩, .int .i64 (n : Int), .func (.func fid) ⟨us⟩ ⟨cs⟩] [] G (EvP (O4 n e)) := by
 have hRl := hr.len
 have hRo := hr.one
 have hq0 := hq G e cells hr
 refine C3 Tryz.func104 rfl Tryz.ntmps104 Tryz.results104 rfl ?_
 intro w0
 refine A3 ?_
 refine sE (C8 rfl rfl) rfl (fun b3 => ?_)
 refine sE (A6 rfl) rfl (fun b4 => ?_)
 refine D4 ?_
 refine sL (A2 rfl rfl (B3 (by repeat first | exact mH | apply mT)) hRl) rfl rfl ?_
 (refine A7l rfl rfl hq0 rfl rfl ?_)
 refine B2 ?_
 refine C1 ?_
 (refine J8 (fun (x : Nat × Tm × List Value × IM) => ⟨[(10, .int .i64 (x.1 : Int)), (1, .int .i64 (n : Int)), (2, .func (.func fid) ⟨us⟩ ⟨cs⟩), (3, .pointer (some ⟨b3, 0, none⟩)), (6, .pointer (some ⟨b4, 0, none⟩))], [.blk b3 x.2.2.1, .blk b4 [.int .i64 0, .string ⟨⟨[]⟩⟩, .int .i64 0, .int .i64 0, .slice none 0 0, .int .i64 0, .slice none 0 0, .int .i64 0, .slice none 0 0]], x.2.2.2⟩) (fun x => x.1 ≤ n ∧ C0 G x.2.2.2 ∧ B0 x.2.2.2 x.2.1 x.2.2.1 ∧ Z0 x.1 (O4 (n - x.1) x.2.1) = O4 n e) (fun x => n - x.1) (0, e, cells, G) ?_ ?_ ?_)
 (simp only [I5]; exact E2)
 (exact ⟨Nat.zero_le _, C0.refl _, hr, rfl⟩)
 (rintro ⟨i, u, uc, Gi⟩ ⟨hi, hle, hru, hev⟩; simp only [] at hi hle hru hev ⊢; have hul := hru.len; have huo := hru.one)
 refine tS ?_
 refine C1 ?_
 refine A3 ?_
 refine sL (A2 rfl rfl (B3 (by repeat first | exact mH | apply mT)) hul) rfl rfl ?_
 (refine E7 rfl (B4i u Gi uc hru) rfl rfl (fun v G1 hle1 hh => ?_); obtain ⟨wc, hv, hrw⟩ := hh; have hwl := hrw.len; have hwo := hrw.one; have hend := @B4j (n - i) i u; have hgo := @B4k (n - i) i u; generalize H7 u = r at hv hrw hend hgo; obtain ⟨w, c, l⟩ := r; simp only at hv hrw hend hgo; subst hv)
 refine B1 ?_
 refine sE (A6 rfl) rfl (fun b37 => ?_)
 refine sS rfl rfl rfl hwl hwo rfl ?_ (hu := by exact D6 hwl.symm)
 refine D4 ?_
 refine sB (N9 rfl rfl) rfl rfl (fun h47 => ?_) (fun h47 => ?_)
 refine J2 ?_
 refine sL (A2 rfl rfl (B3 (by repeat first | exact mH | apply mT)) hwl) rfl rfl ?_
 refine B6 ?_
 refine sS rfl rfl rfl hwl hwo rfl ?_ (hu := by exact D6 hwl.symm)
 refine J4 ?_
 refine A4U (rC rfl (A2 rfl rfl (B3 (by repeat first | exact mH | apply mT)) hwl)) (rT rfl) (rT rfl) (rT rfl) ?_
 exact A6n
 refine B6 ?_
 refine sB (qE rfl rfl) rfl rfl (fun h79 => ?_) (fun h79 => ?_)
 refine A8 ?_
 refine sL (A2 rfl rfl (B3 (by repeat first | exact mH | apply mT)) hwl) rfl rfl ?_
 refine B6 ?_
 refine sS rfl rfl rfl hwl hwo rfl ?_ (hu := by exact D6 hwl.symm)
 refine J4 ?_
 refine A4U (rC rfl (A2 rfl rfl (B3 (by repeat first | exact mH | apply mT)) hwl)) (rT rfl) (rT rfl) (rT rfl) ?_
 exact A6n
 refine D4 ?_
 refine sL (A2 rfl rfl (B3 (by repeat first | exact mH | apply mT)) hwl) rfl rfl ?_
 refine Y2 rfl rfl rfl hwl hwo rfl (by repeat first | exact Sw.here | apply Sw.there) (by exact D6 (hul.trans hwl.symm)) ?_
 refine B1 ?_
 refine sL (A2 rfl rfl (B3 (by repeat first | exact mH | apply mT)) hwl) rfl rfl ?_
 (refine A7l rfl rfl (hq G1 w wc hrw) rfl rfl ?_)
 refine A9 ?_
 refine sP (J0 rfl rfl (by omega) (by omega)) rfl rfl ?_
 refine A3 ?_
 refine J6 (i + 1, w, wc, G1) ?_ ?_ ?_
 (simp only [I5]; exact E2)
 (dsimp only; exact ⟨by omega, hle.trans hle1, hrw, by rw [← hev, hgo (by omega) (by omega), show n - (i + 1) = n - i - 1 by omega]⟩)
 (show n - (i + 1) < n - i; omega)
theorem B4n (fuel : Int) (G : IM) : Fn Tryz.prog 46 [.int .i64 fuel] [] G (I3 (.bool (P1 fuel 0 300)) G) := by
 refine C3 Tryz.func46 rfl Tryz.ntmps46 Tryz.results46 rfl ?_
 intro w0
 refine D4 ?_
 refine H6 rfl ((A08 _ _ _ _)) rfl rfl ?_
 refine A9 ?_
 (exact ⟨rfl, rfl, rfl⟩)
theorem A6o {e : Tm} {fuel : Int} (h : P1 fuel 0 300 = false) : R6 e fuel = (J5, 3, 0) := by
 unfold R6; rw [if_neg (A7v h)]; rfl
theorem A9F {e : Tm} {fuel : Int} (h : P1 fuel 0 300 = true) (h1 : (O4 fuel.toNat e).2.1 = 1) : R6 e fuel = (J5, 5, 0) := by
 unfold R6; rw [if_pos (A3o h), A9D _ _ h1]
theorem A9G {e : Tm} {fuel : Int} (h : P1 fuel 0 300 = true) (h1 : (O4 fuel.toNat e).2.1 ≠ 1) : R6 e fuel = ((O4 fuel.toNat e).1, (O4 fuel.toNat e).2.1, (O4 fuel.toNat e).2.2.1) := by
 unfold R6; rw [if_pos (A3o h), A9E _ _ h1]
theorem B4o (G : IM) (cells : List Value) (hl : cells.length = 9) (ho : cells.all (·.oneCell') = true) : Fn Tryz.prog 105 [.agg ⟨cells⟩] [] G (I3 (.tuple ⟨[]⟩) G) := by
 refine C3 Tryz.func105 rfl Tryz.ntmps105 Tryz.results105 rfl ?_
 intro w0
 refine tR ?_
 refine sE (C8 rfl rfl) rfl (fun b2 => ?_)
 refine sD ?_
 refine B4l ?_
 (exact ⟨rfl, rfl, rfl⟩)
theorem B4p (e : Tm) (fuel : Int) (G : IM) (cells : List Value) (hr : B0 G e cells) : Fn Tryz.prog 58 [.agg ⟨cells⟩, .int .i64 fuel] [] G (L5 (R6 e fuel)) := by
 have hRl := hr.len
 have hRo := hr.one
 have hno := @A6o e fuel
 have hmu := @A9F e fuel
 have hen := @A9G e fuel
 refine C3 Tryz.func58 rfl Tryz.ntmps58 Tryz.results58 rfl ?_
 intro w0
 refine A3 ?_
 refine sE (C8 rfl rfl) rfl (fun b3 => ?_)
 refine sE (A6 rfl) rfl (fun b4 => ?_)
 refine D4 ?_
 refine F8 rfl ((B4n fuel _)) rfl rfl (fun h13 => ?_) (fun h13 => ?_)
 refine D4 ?_
 refine sL (A2 rfl rfl (B3 (by repeat first | exact mH | apply mT)) hRl) rfl rfl ?_
 refine E6 ?_
 (have hf : P1 fuel 0 300 = true := (by assumption); have hf2 := A3o hf; have hE := B4m e fuel.toNat (by omega) 105 [] [] (fun G u cells hru => B4o G cells hru.len hru.one) G cells hr; rw [Int.toNat_of_nonneg hf2.1] at hE; refine E7 rfl hE rfl rfl (fun v G1 hle1 hh => ?_); obtain ⟨wc, hv, hrw⟩ := hh; have hwl := hrw.len; have hwo := hrw.one; have hmu := hmu hf; have hen := hen hf; generalize O4 fuel.toNat e = r at hv hrw hmu hen; obtain ⟨w, c, l, i⟩ := r; simp only at hv hrw hmu hen; subst hv)
 refine A9 ?_
 refine sE (A6 rfl) rfl (fun b30 => ?_)
 refine sS rfl rfl rfl hwl hwo rfl ?_ (hu := by exact D6 hwl.symm)
 refine E0 ?_
 refine sB (qE rfl rfl) rfl rfl (fun h41 => ?_) (fun h41 => ?_)
 refine K5 ?_
 refine C9 (rC rfl (A4 rfl rfl)) (rT rfl) (rT rfl) ?_
 (exact L5.mk (hmu (by omega)) (O6 _))
 refine B2 ?_
 refine sL (A2 rfl rfl (B3 (by repeat first | exact mH | apply mT)) hwl) rfl rfl ?_
 refine A3 ?_
 refine sS rfl rfl rfl hwl hwo rfl ?_ (hu := by exact D6 hwl.symm)
 refine A9 ?_
 refine C9 (rC rfl (A2 rfl rfl (B3 (by repeat first | exact mH | apply mT)) hwl)) (rT rfl) (rT rfl) ?_
 (exact L5.mk (hen (by omega)) hrw)
 refine J3 ?_
 refine C9 (rC rfl (A4 rfl rfl)) (rT rfl) (rT rfl) ?_
 (exact L5.mk (hno (by assumption)) (O6 _))
mutual
def V2 (L : Int → Prop) : Tm → Prop
 | .mk k nm num ty fr lb ks => (k = 14 → L lb) ∧ A00 L ks
def A00 (L : Int → Prop) : List Tm → Prop
 | [] => True
 | t :: ts => V2 L t ∧ A00 L ts
end
theorem A0m {L : Int → Prop} {k : Int} {nm : ByteArray} {num : Int} {ty fr : Ty} {lb : Int} {ks : List Tm} : V2 L (.mk k nm num ty fr lb ks) ↔ (k = 14 → L lb) ∧ A00 L ks := by rw [V2]
theorem A01 {L : Int → Prop} : ∀ {ts : List Tm}, A00 L ts ↔ ∀ t ∈ ts, V2 L t
 | [] => by simp [A00]
 | t :: ts => by rw [A00, A01 (ts := ts)]; simp
theorem A2p {L : Int → Prop} {e : Tm} {a b : Ty} {l : Int} (hl : L l) (h : V2 L e) : V2 L (J7 e a b l) := by
 rw [J7, A0m]; exact ⟨fun _ => hl, by simp [A00, h]⟩
theorem A6p {L : Int → Prop} {k : Int} {ks : List Tm} (hk : k ≠ 14) (h : ∀ t ∈ ks, V2 L t) : V2 L (W1 k ks) := by
 rw [W1, A0m]; exact ⟨fun e => absurd e hk, A01.2 h⟩
mutual
theorem A9H {L : Int → Prop} {x : ByteArray} {v : Tm} (hv : V2 L v) : ∀ t, V2 L t → V2 L (W0 x v t)
 | .mk k nm num ty fr lb ks, h => by
  rw [A0m] at h
  rw [W0]
  split
  ·exact hv
  ·split
   ·rw [A0m]; exact h
   ·rw [A0m]; exact ⟨h.1, A9I hv ks h.2⟩
theorem A9I {L : Int → Prop} {x : ByteArray} {v : Tm} (hv : V2 L v) : ∀ ts, A00 L ts → A00 L (T5 x v ts)
 | [], _ => by rw [T5]; trivial
 | t :: ts, h => by rw [T5, A00]; exact ⟨A9H hv t h.1, A9I hv ts h.2⟩
end
theorem A21 {f : Tm} {U : Ty} (hv : F0 f = true) (ht : H4 [] f = some U) (hc : cv f) :
  (U.k = 2 → f.k = 2) ∧ (U.k = 3 → f.k = 3 ∨ f.k = 4) ∧ (U.k = 4 → f.k = 5 ∨ (N2 f = true ∧ f.ty.k = 4)) ∧ (U.k = 5 → f.k = 10 ∨ (N2 f = true ∧ f.ty.k = 5)) ∧ (U.k = 1 → inj f = true) := by
 obtain ⟨k, nm, num, ty, fr, lb, ks⟩ := f
 obtain ⟨hN, _⟩ := hc.node
 have hop := hN.ops
 rw [A0F, A3R]
 show (U.k = 2 → k = 2) ∧ (U.k = 3 → k = 3 ∨ k = 4) ∧ (U.k = 4 → k = 5 ∨ (_ ∧ ty.k = 4)) ∧ (U.k = 5 → k = 10 ∨ (_ ∧ ty.k = 5)) ∧ (U.k = 1 → _)
 by_cases h10 : k = 10
 ·subst h10
  obtain ⟨a, b, rfl⟩ := ks2 (ks := ks) (by have : D9 10 = 2 := rfl; omega)
  obtain ⟨A, B, _, _, rfl⟩ := A9c ht
  refine ⟨fun h => ?_, fun h => ?_, fun h => ?_, fun h => .inl rfl, fun h => ?_⟩ <;> (exfalso; simp [Ty.k, Q1, T3] at h)
 by_cases h14 : k = 14
 ·subst h14
  obtain ⟨a, rfl⟩ := X1 (ks := ks) (by have : D9 14 = 1 := rfl; omega)
  obtain ⟨_, rfl⟩ := A3N ht
  by_cases hp : fr.k = U.k ∧ (U.k = 4 ∨ U.k = 5)
  ·refine ⟨fun h => by omega, fun h => by omega, fun h => .inr ⟨decide_eq_true ⟨rfl, hp⟩, h⟩, fun h => .inr ⟨decide_eq_true ⟨rfl, hp⟩, h⟩, fun h => by omega⟩
  ·by_cases hi : U.k = 1 ∧ S5 fr = true
   ·refine ⟨fun h => by omega, fun h => by omega, fun h => by omega, fun h => by omega, fun _ => ?_⟩
    rw [hi.2, decide_eq_true ⟨rfl, hi.1⟩]; rfl
   ·exfalso
    rw [F0, if_neg (by rintro (h | h | h); exact absurd h (by decide); exact hp h.2; exact hi h.2)] at hv
    exact absurd (of_decide_eq_true hv) (by decide)
 ·have hk : k = 2 ∨ k = 3 ∨ k = 4 ∨ k = 5 := by
   rw [F0, if_neg (by rintro (h | h | h); exact h10 h; exact h14 h.1; exact h14 h.1)] at hv
   exact of_decide_eq_true hv
  by_cases h5 : k = 5
  ·subst h5
   obtain ⟨a, rfl⟩ := X1 (ks := ks) (by have : D9 5 = 1 := rfl; omega)
   obtain ⟨B, _, rfl⟩ := A9e ht
   refine ⟨fun h => ?_, fun h => ?_, fun h => .inl rfl, fun h => ?_, fun h => ?_⟩ <;> (exfalso; simp [Ty.k, Q1, T3] at h)
  ·have hks : ks = [] := List.length_eq_zero_iff.1 (by
    rcases hk with h | h | h | h
    ·subst h; have : D9 2 = 0 := rfl; omega
    ·subst h; have : D9 3 = 0 := rfl; omega
    ·subst h; have : D9 4 = 0 := rfl; omega
    ·exact absurd h h5)
   subst hks
   by_cases h2 : k = 2
   ·subst h2
    obtain rfl := B3K ht
    refine ⟨fun _ => rfl, fun h => ?_, fun h => ?_, fun h => ?_, fun h => ?_⟩ <;> (exfalso; simp [Ty.k, Q1, T3] at h)
   ·have h34 : k = 3 ∨ k = 4 := by omega
    obtain rfl := B3L h34 ht
    refine ⟨fun h => ?_, fun _ => h34, fun h => ?_, fun h => ?_, fun h => ?_⟩ <;> (exfalso; simp [Ty.k, Q1, T3] at h)
theorem A9J {k : Int} {nm : ByteArray} {num : Int} {ty fr : Ty} {lb : Int} {ks : List Tm} (h : N2 (.mk k nm num ty fr lb ks) = true) : k = 14 ∧ fr.k = ty.k ∧ (ty.k = 4 ∨ ty.k = 5) := by
 rw [A0F] at h; exact of_decide_eq_true h
def A2q (L : Int → Prop) (T : Ty) (r : Stp) : Prop := (r.2.1 = 1 ∧ H4 [] r.1 = some T ∧ V2 L r.1) ∨ (r.2.1 = 2 ∧ L r.2.2)
theorem A9K {t : Ty} (h : S5 t = true) : t = S2 t := by
 unfold S5 at h
 rw [Bool.and_eq_true] at h
 exact (A0j _ _).1 h.2
theorem B4q {t u : Ty} (h : t.k = u.k) : S2 t = S2 u := by unfold S2; rw [h]
theorem B4r (L : Int → Prop) (hL : ∀ l, L l → L (-l)) {k : Int} {nm : ByteArray} {num : Int} {ty fr : Ty} {lb : Int} {ks : List Tm} {T : Ty} (hc : cv (.mk k nm num ty fr lb ks))
  (h8 : k = 1 ∨ k = 6 ∨ k = 7 ∨ k = 8 ∨ k = 9 ∨ k = 11 ∨ k = 12 ∨ k = 14) (hnv : F0 (.mk k nm num ty fr lb ks) = false)
  (hval : ∀ i, i < (if k = 9 then 1 else ks.length) → (hl : i < ks.length) → F0 ks[i] = true)
  (ht : H4 [] (.mk k nm num ty fr lb ks) = some T) (hlb : V2 L (.mk k nm num ty fr lb ks)) : A2q L T (O2 k ty fr lb ks) := by
 obtain ⟨hN, hkk⟩ := hc.node
 have hop := hN.ops
 rw [A0m, A01] at hlb
 obtain ⟨hl14, hlk⟩ := hlb
 have hTv := A9a hc ht
 unfold O2
 by_cases h6 : k = 6
 ·subst h6
  obtain ⟨f, v, rfl⟩ := ks2 (ks := ks) (by have : D9 6 = 2 := rfl; omega)
  obtain ⟨A, hf, hv⟩ := B3F ht
  have hcf := hkk f (by simp)
  have hcv := hkk v (by simp)
  have hlf := hlk f (by simp)
  have hlv := hlk v (by simp)
  have hvf : F0 f = true := hval 0 (by simp) (by simp)
  have hfv := A9a hcf hf
  rw [if_pos rfl]
  obtain ⟨_, _, hcan, _⟩ := A21 hvf hf hcf
  obtain ⟨fk, fnm, fnum, fty, ffr, flb, fks⟩ := f
  obtain ⟨hNf, hkf⟩ := hcf.node
  have hopf := hNf.ops
  rw [A0m, A01] at hlf
  show A2q L T (if fk = 5 then (W0 fnm v (kd fks 0), 1, 0) else if N2 (.mk fk fnm fnum fty ffr flb fks) = true ∧ fty.k = 4 then (J7 (W1 6 [kd fks 0, J7 v (kt fty.ks 0) (kt ffr.ks 0) (-flb)]) (kt ffr.ks 1) (kt fty.ks 1) flb, 1, 0) else P5)
  by_cases h5 : fk = 5
  ·subst h5
   rw [if_pos rfl]
   obtain ⟨b, rfl⟩ := X1 (ks := fks) (by have : D9 5 = 1 := rfl; omega)
   obtain ⟨B, hb, hT⟩ := A9e hf
   cases hT
   refine .inl ⟨rfl, ?_, A9H hlv _ (hlf.2 b (by simp))⟩
   exact A9i hv b _ [] _ (hkf b (by simp)) (fun y hy => by rw [A1G, if_neg (fun e => hy e.symm)]) (by rw [A1G, if_pos rfl]) hb
  ·rw [if_neg h5]
   have hcan' : N2 (.mk fk fnm fnum fty ffr flb fks) = true ∧ fty.k = 4 := (hcan rfl).resolve_left h5
   rw [if_pos hcan']
   obtain ⟨rfl, hfk, _⟩ := A9J hcan'.1
   obtain ⟨g, rfl⟩ := X1 (ks := fks) (by have : D9 14 = 1 := rfl; omega)
   obtain ⟨hg, rfl⟩ := A3N hf
   obtain ⟨_, hv1, hv2⟩ := hNf.c14 rfl
   obtain ⟨frk, frs⟩ := ffr
   obtain rfl : frk = 4 := hfk.trans hcan'.2
   obtain ⟨C, D, rfl, hC, hD⟩ := A4L (.inl rfl) hv2
   have hfl := hlf.1 rfl
   refine .inl ⟨rfl, ?_, A2p hfl (A6p (by decide) (by
    intro t htm
    simp only [List.mem_cons, List.not_mem_nil, or_false] at htm
    rcases htm with rfl | rfl
    ·exact hlf.2 _ (by simp [kd])
    ·exact A2p (hL _ hfl) hlv))⟩
   exact A1F (B3G (A := C) hD hg (A1F hv))
 rw [if_neg h6]
 by_cases h7 : k = 7 ∨ k = 8
 ·obtain ⟨a, b, rfl⟩ := ks2 (ks := ks) (by rcases h7 with h | h <;> subst h <;> (first | (have : D9 7 = 2 := rfl; omega) | (have : D9 8 = 2 := rfl; omega)))
  obtain ⟨ha, hb, hT⟩ := B3H h7 ht
  have hva : F0 a = true := hval 0 (by rw [if_neg (by omega)]; simp) (by simp)
  have hvb : F0 b = true := hval 1 (by rw [if_neg (by omega)]; simp) (by simp)
  have ha2 := (A21 hva ha (hkk a (by simp))).1 rfl
  have hb2 := (A21 hvb hb (hkk b (by simp))).1 rfl
  rw [if_pos h7, if_pos (show (kd [a, b] 0).k = 2 ∧ (kd [a, b] 1).k = 2 from ⟨ha2, hb2⟩)]
  by_cases hk7 : k = 7
  ·rw [if_pos hk7]
   rw [if_neg (by omega)] at hT
   subst hT
   exact .inl ⟨rfl, rfl, by rw [A1N, A0m]; exact ⟨fun e => absurd e (by decide), trivial⟩⟩
  ·rw [if_neg hk7]
   rw [if_pos (by omega)] at hT
   subst hT
   refine .inl ⟨rfl, ?_, ?_⟩
   ·unfold X8; split <;> rfl
   ·unfold X8; exact A6p (by split <;> decide) (by simp)
 rw [if_neg h7]
 by_cases h9 : k = 9
 ·subst h9
  obtain ⟨a, b, c, rfl⟩ := ks3 (ks := ks) (by have : D9 9 = 3 := rfl; omega)
  obtain ⟨ha, hb, hcc⟩ := B3I ht
  have hva : F0 a = true := hval 0 (by simp) (by simp)
  have ha2 := (A21 hva ha (hkk a (by simp))).2.1 rfl
  rw [if_pos rfl]
  show A2q L T (if a.k = 3 then (b, 1, 0) else if a.k = 4 then (c, 1, 0) else P5)
  by_cases h3 : a.k = 3
  ·rw [if_pos h3]; exact .inl ⟨rfl, hb, hlk b (by simp)⟩
  ·rw [if_neg h3, if_pos (by omega)]; exact .inl ⟨rfl, hcc, hlk c (by simp)⟩
 rw [if_neg h9]
 by_cases h11 : k = 11 ∨ k = 12
 ·obtain ⟨a, rfl⟩ := X1 (ks := ks) (by rcases h11 with h | h <;> subst h <;> (first | (have : D9 11 = 1 := rfl; omega) | (have : D9 12 = 1 := rfl; omega)))
  obtain ⟨A, B, ha, hT⟩ := B3J h11 ht
  have hva : F0 a = true := hval 0 (by rw [if_neg (by omega)]; simp) (by simp)
  have hca := hkk a (by simp)
  have hla := hlk a (by simp)
  have ha2 := (A21 hva ha hca).2.2.2.1 rfl
  rw [if_pos h11]
  obtain ⟨fk, fnm, fnum, fty, ffr, flb, fks⟩ := a
  obtain ⟨hNf, hkf⟩ := hca.node
  have hopf := hNf.ops
  rw [A0m, A01] at hla
  show A2q L T (if fk = 10 then (kd fks (k - 11).toNat, 1, 0) else if N2 (.mk fk fnm fnum fty ffr flb fks) = true ∧ fty.k = 5 then (J7 (W1 k [kd fks 0]) (kt ffr.ks (k - 11).toNat) (kt fty.ks (k - 11).toNat) flb, 1, 0) else P5)
  by_cases h10 : fk = 10
  ·subst h10
   rw [if_pos rfl]
   obtain ⟨x, y, rfl⟩ := ks2 (ks := fks) (by have : D9 10 = 2 := rfl; omega)
   obtain ⟨A', B', hx, hy, he⟩ := A9c ha
   cases he
   rcases h11 with rfl | rfl
   ·rw [if_neg (by decide)] at hT; subst hT; exact .inl ⟨rfl, hx, hla.2 x (by simp)⟩
   ·rw [if_pos rfl] at hT; subst hT; exact .inl ⟨rfl, hy, hla.2 y (by simp)⟩
  ·rw [if_neg h10]
   have hcan' : N2 (.mk fk fnm fnum fty ffr flb fks) = true ∧ fty.k = 5 := ha2.resolve_left h10
   rw [if_pos hcan']
   obtain ⟨rfl, hfk, _⟩ := A9J hcan'.1
   obtain ⟨g, rfl⟩ := X1 (ks := fks) (by have : D9 14 = 1 := rfl; omega)
   obtain ⟨hg, rfl⟩ := A3N ha
   obtain ⟨_, hv1, hv2⟩ := hNf.c14 rfl
   obtain ⟨frk, frs⟩ := ffr
   obtain rfl : frk = 5 := hfk.trans hcan'.2
   obtain ⟨C, D, rfl, hC, hD⟩ := A4L (.inr rfl) hv2
   have hfl := hla.1 rfl
   refine .inl ⟨rfl, ?_, A2p hfl (A6p (by omega) (by
    intro t htm
    simp only [List.mem_cons, List.not_mem_nil, or_false] at htm
    subst htm
    exact hla.2 _ (by simp [kd])))⟩
   have hg' : H4 [] (kd [g] 0) = some (.mk 5 [C, D]) := hg
   rcases h11 with rfl | rfl
   ·rw [if_neg (by decide)] at hT; subst hT
    exact A1F (A9d (k := 11) (.inl rfl) (by rw [if_neg (by decide)]; exact hC) hg')
   ·rw [if_pos rfl] at hT; subst hT
    exact A1F (A9d (k := 12) (.inr rfl) (by rw [if_pos rfl]; exact hD) hg')
 rw [if_neg h11]
 by_cases h14 : k = 14
 ·subst h14
  obtain ⟨a, rfl⟩ := X1 (ks := ks) (by have : D9 14 = 1 := rfl; omega)
  obtain ⟨ha, rfl⟩ := A3N ht
  have hva : F0 a = true := hval 0 (by simp) (by simp)
  have hca := hkk a (by simp)
  have hla := hlk a (by simp)
  have hlb := hl14 rfl
  obtain ⟨hcons, htv, hfv⟩ := hN.c14 rfl
  rw [if_pos rfl]
  have hnp : ¬(fr.k = T.k ∧ (T.k = 4 ∨ T.k = 5)) := by
   intro hh
   rw [A2n (.inr (.inl (by rw [A0F]; exact decide_eq_true ⟨rfl, hh⟩))), List.all_cons, hva] at hnv
   cases hnv
  by_cases h1 : fr.k = T.k
  ·rw [if_pos h1]
   refine .inl ⟨rfl, ?_, hla⟩
   show H4 [] a = some T
   rw [ha]
   obtain ⟨fk, fs⟩ := fr
   obtain ⟨tk, ts⟩ := T
   obtain rfl : fk = tk := h1
   obtain ⟨_, rfl⟩ := A89 hfv (fun e => hnp ⟨rfl, .inl e⟩) (fun e => hnp ⟨rfl, .inr e⟩)
   obtain ⟨_, rfl⟩ := A89 htv (fun e => hnp ⟨rfl, .inl e⟩) (fun e => hnp ⟨rfl, .inr e⟩)
   rfl
  ·rw [if_neg h1]
   by_cases h2 : T.k = 1
   ·rw [if_pos h2]
    exact .inl ⟨rfl, A1F (A1F ha), A2p hlb (A2p hlb hla)⟩
   ·rw [if_neg h2]
    by_cases h3 : S5 T = false
    ·rw [if_pos h3]
     exact .inl ⟨rfl, A1F (A1F ha), A2p hlb (A2p hlb hla)⟩
    ·rw [if_neg h3]
     have hfr1 : fr.k = 1 := by
      obtain ⟨fk, fs⟩ := fr
      obtain ⟨tk, ts⟩ := T
      rw [Y4] at hcons
      simp only [Bool.or_eq_true, Bool.and_eq_true, decide_eq_true_eq] at hcons
      rcases hcons with (h | h) | h
      ·exact h
      ·exact absurd h h2
      ·exact absurd h.1 h1
     have hi := (A21 hva ha hca).2.2.2.2 hfr1
     rw [if_neg (by rw [show kd [a] 0 = a from rfl, hi]; decide)]
     have hg : S5 T = true := by cases h : S5 T with | true => rfl | false => exact absurd h h3
     obtain ⟨fk, fnm, fnum, fty, ffr, flb, fks⟩ := a
     obtain ⟨hNf, _⟩ := hca.node
     have hopf := hNf.ops
     rw [A0m, A01] at hla
     have hgi := A6f hi
     obtain rfl : fk = 14 := A3T hi
     obtain ⟨g, rfl⟩ := X1 (ks := fks) (by have : D9 14 = 1 := rfl; omega)
     obtain ⟨hgt, _⟩ := A3N ha
     show A2q L T (if ffr.k = T.k then (kd [g] 0, 1, 0) else (J5, 2, lb))
     by_cases h4 : ffr.k = T.k
     ·rw [if_pos h4]
      refine .inl ⟨rfl, ?_, hla.2 g (by simp)⟩
      show H4 [] g = some T
      rw [hgt]
      congr 1
      exact (A9K hgi).trans ((B4q h4).trans (A9K hg).symm)
     ·rw [if_neg h4]
      exact .inr ⟨rfl, hlb⟩
 ·exfalso
  obtain rfl : k = 1 := by omega
  have hks : ks = [] := List.length_eq_zero_iff.1 (by have : D9 1 = 0 := rfl; omega)
  subst hks
  have := A9f ht
  simp [O8, U9] at this
theorem B4s {L : Int → Prop} {ks : List Tm} {i : Nat} {u : Tm} (h : ∀ t ∈ ks, V2 L t) (hu : V2 L u) : ∀ t ∈ ks.set i u, V2 L t := by
 intro t ht
 rcases List.mem_or_eq_of_mem_set ht with h1 | h1
 ·exact h t h1
 ·rw [h1]; exact hu
theorem B4t (L : Int → Prop) (hL : ∀ l, L l → L (-l)) : ∀ (e : Tm) (T : Ty), cv e → F0 e = false → H4 [] e = some T → V2 L e → A2q L T (I6 e) := by
 refine Tm.ind fun k nm num ty fr lb ks ih T hc hv ht hlb => ?_
 obtain ⟨hN, hkk⟩ := hc.node
 by_cases hall : ∀ i, i < (if k = 9 then 1 else ks.length) → (hl : i < ks.length) → F0 ks[i] = true
 ·have h8 := A6h hc hv hall
  have := B4r L hL hc h8 hv hall ht hlb
  rw [I6, A4R _ _ hall]
  exact this
 ·
  have hex : ∃ i, ∃ (hl : i < ks.length), i < (if k = 9 then 1 else ks.length) ∧ F0 ks[i] = false ∧ ∀ j, j < i → (h : j < ks.length) → F0 ks[j] = true := by
   have h0 : ∃ i, ∃ (hl : i < ks.length), i < (if k = 9 then 1 else ks.length) ∧ F0 ks[i] = false := by
    apply Classical.byContradiction
    intro hn
    exact hall fun i hi hl => by
     cases h : F0 ks[i] with
     | true => rfl
     | false => exact absurd ⟨i, hl, hi, h⟩ hn
   obtain ⟨i, h1⟩ := h0
   induction i using Nat.strongRecOn with
   | _ i ih2 =>
    obtain ⟨hl, hi, hvi⟩ := h1
    by_cases hj : ∃ j, j < i ∧ ∃ (h : j < ks.length), F0 ks[j] = false
    ·obtain ⟨j, hji, hjl, hjv⟩ := hj
     exact ih2 j hji ⟨hjl, by omega, hjv⟩
    ·refine ⟨i, hl, hi, hvi, fun j hji hjl => ?_⟩
     cases h : F0 ks[j] with
     | true => rfl
     | false => exact absurd ⟨j, hji, hjl, h⟩ hj
  obtain ⟨i, hl, hi, hvi, hbe⟩ := hex
  obtain ⟨s1, s2, s3⟩ := @A9B k nm num ty fr lb ks i hl hi hbe hvi
  have hk5 : k ≠ 5 := by
   rintro rfl
   rw [F0, if_neg (by omega)] at hv
   exact absurd hv (by decide)
  have hlb2 := (A0m.1 hlb).2
  rw [A01] at hlb2
  rw [H4] at ht
  split at ht
  ·cases ht
  ·rename_i us hu
   rw [K2, if_neg hk5] at hu
   obtain ⟨U, hU, hset⟩ := A81 hu i hl
   have hg := ih ks[i] (List.getElem_mem hl) U (hkk _ (List.getElem_mem hl)) hvi hU (hlb2 _ (List.getElem_mem hl))
   unfold A2q
   rw [s1, s2]
   rcases hg with ⟨g1, g2, g3⟩ | ⟨g1, g2⟩
   ·refine .inl ⟨g1, ?_, ?_⟩
    ·rw [s3 g1, H4, K2, if_neg hk5, hset _ g2]
     exact ht
    ·rw [s3 g1, A0m]
     exact ⟨(A0m.1 hlb).1, A01.2 (B4s hlb2 g3)⟩
   ·exact .inr ⟨g1, g2⟩
theorem A9L (L : Int → Prop) (hL : ∀ l, L l → L (-l)) (e : Tm) (T : Ty) (hc : M2 e = true) (ht : H4 [] e = some T) (hl : V2 L e) :
  (H7 e = (e, 0, 0) ∧ F0 e = true) ∨ (∃ l, H7 e = (J5, 2, l) ∧ L l) ∨ H7 e = (J5, 4, 0) ∨ (∃ u, H7 e = (u, 1, 0) ∧ M2 u = true ∧ H4 [] u = some T ∧ V2 L u) := by
 cases hv : F0 e with
 | true => exact .inl ⟨A3V hc hv, rfl⟩
 | false =>
  rcases B4t L hL e T (A0X hc).1 hv ht hl with ⟨g1, g2, g3⟩ | ⟨g1, g2⟩
  ·cases hcv : M2 (I6 e).1 with
   | false => exact .inr (.inr (.inl (A3X hc hv g1 hcv)))
   | true => exact .inr (.inr (.inr ⟨_, A3Y hc hv g1 hcv, hcv, g2, g3⟩))
  ·exact .inr (.inl ⟨(I6 e).2.2, by rw [A3W hc hv (by omega), g1], g2⟩)
theorem A9M (L : Int → Prop) (hL : ∀ l, L l → L (-l)) : ∀ (n : Nat) (e : Tm) (T : Ty), M2 e = true → H4 [] e = some T → V2 L e →
  ((L9 n e).2.1 = 0 ∧ (L9 n e).2.2.1 = 0 ∧ H4 [] (L9 n e).1 = some T ∧ F0 (L9 n e).1 = true ∧ M2 (L9 n e).1 = true) ∨ ((L9 n e).2.1 = 2 ∧ L (L9 n e).2.2.1) ∨ ((L9 n e).2.1 = 4 ∧ (L9 n e).2.2.1 = 0) ∨ ((L9 n e).2.1 = 5 ∧ (L9 n e).2.2.1 = 0)
 | 0, e, T, hc, ht, hl => by
  rcases A9L L hL e T hc ht hl with ⟨h, hv⟩ | ⟨l, h, hl⟩ | h | ⟨u, h, hu1, hu2, hu3⟩
  ·simp [L9, h, ht, hv, hc]
  ·simp [L9, h, hl]
  ·simp [L9, h]
  ·simp [L9, h]
 | n + 1, e, T, hc, ht, hl => by
  rcases A9L L hL e T hc ht hl with ⟨h, hv⟩ | ⟨l, h, hl⟩ | h | ⟨u, h, hu1, hu2, hu3⟩
  ·simp [L9, h, ht, hv, hc]
  ·simp [L9, h, hl]
  ·simp [L9, h]
  ·have ih := A9M L hL n u T hu1 hu2 hu3
   simpa only [L9, h, if_true] using ih
mutual
theorem A9N : ∀ a b : Ty, K1 a b = true → K1 b a = true
 | .mk k ks, .mk k' ks', h => by
  rw [Y4] at h ⊢
  simp only [Bool.or_eq_true, Bool.and_eq_true, decide_eq_true_eq] at h ⊢
  rcases h with (h | h) | h
  ·exact .inl (.inr h)
  ·exact .inl (.inl h)
  ·exact .inr ⟨h.1.symm, A9O ks ks' h.2⟩
theorem A9O : ∀ xs ys : List Ty, P4 xs ys = true → P4 ys xs = true
 | [], [], _ => rfl
 | [], b :: ys, h => by simp [P4] at h
 | a :: xs, [], h => by simp [P4] at h
 | a :: xs, b :: ys, h => by
  simp only [P4, Bool.and_eq_true] at h ⊢
  exact ⟨A9N a b h.1, A9O xs ys h.2⟩
end
mutual
theorem A9P : ∀ a b : Ty, K1 a b = true → K1 a (U4 a b) = true ∧ K1 b (U4 a b) = true
 | .mk k ks, .mk k' ks', h => by
  rw [A2J]
  by_cases h1 : k = 1
  ·rw [if_pos h1]
   exact ⟨h, A1R _⟩
  ·rw [if_neg h1]
   by_cases h2 : k' = 1
   ·rw [if_pos h2]
    exact ⟨A1R _, A9N _ _ h⟩
   ·rw [if_neg h2]
    rw [Y4] at h
    simp only [Bool.or_eq_true, Bool.and_eq_true, decide_eq_true_eq] at h
    have h3 : k = k' ∧ P4 ks ks' = true := by
     rcases h with (h | h) | h
     ·exact absurd h h1
     ·exact absurd h h2
     ·exact h
    obtain ⟨m1, m2⟩ := A9Q ks ks' h3.2
    rw [Y4, Y4, m1, m2]
    simp [h3.1]
theorem A9Q : ∀ xs ys : List Ty, P4 xs ys = true → P4 xs (T4 xs ys) = true ∧ P4 ys (T4 xs ys) = true
 | [], [], _ => ⟨rfl, rfl⟩
 | [], b :: ys, h => by simp [P4] at h
 | a :: xs, [], h => by simp [P4] at h
 | a :: xs, b :: ys, h => by
  simp only [P4, Bool.and_eq_true] at h
  obtain ⟨m1, m2⟩ := A9P a b h.1
  obtain ⟨m3, m4⟩ := A9Q xs ys h.2
  simp only [T4, P4, m1, m2, m3, m4]
  exact ⟨rfl, rfl⟩
end
theorem B4u {k : Int} {a b : Ty} (hk : k = 4 ∨ k = 5) (h : E9 (.mk k [a, b]) = true) : E9 a = true ∧ E9 b = true := by
 obtain ⟨x, y, he, h1, h2⟩ := A4L hk h
 cases he
 exact ⟨h1, h2⟩
theorem B4v {k : Int} (hk : k = 4 ∨ k = 5) : E9 (.mk k [P9, P9]) = true := by rcases hk with rfl | rfl <;> decide
theorem A9R {k : Int} {t a b : Ty} (hk : k = 4 ∨ k = 5) (ht : E9 t = true) (h : R0 k t = some (a, b)) : E9 (.mk k [a, b]) = true ∧ K1 t (.mk k [a, b]) = true := by
 obtain ⟨tk, ks⟩ := t
 rw [A0Y] at h
 by_cases he : tk = k
 ·subst he
  rw [if_pos rfl] at h
  obtain ⟨x, y, rfl, _, _⟩ := A4L hk ht
  cases h
  exact ⟨ht, A1R _⟩
 ·rw [if_neg he] at h
  by_cases h1 : tk = 1
  ·rw [if_pos h1] at h
   cases h
   refine ⟨B4v hk, ?_⟩
   rw [Y4, h1]; rfl
  ·rw [if_neg h1] at h; cases h
structure Wt (cx : Cx) (k : Int) (nm : ByteArray) (ty : Ty) (h w : List Ty) (t : Ty) : Prop where
 len : w = [] ∨ w.length = h.length
 ok : ∀ i, (hi : i < w.length) → (hh : i < h.length) → K1 h[i] w[i] = true ∧ E9 w[i] = true
 again : k ≠ 13 → K8 cx k nm ty (if w = [] then h else w) = some (w, t)
 asT : k = 13 → w = [t]
theorem A9S {cx : Cx} {k : Int} {nm : ByteArray} {ty : Ty} {h w : List Ty} {t : Ty} (hh : ∀ a ∈ h, E9 a = true) (hty : k = 13 → E9 ty = true) (hn : D9 k = (h.length : Int)) (h14 : k ≠ 14) (hw : K8 cx k nm ty h = some (w, t)) : Wt cx k nm ty h w t := by
 have hkr := A3U (by rw [hn]; omega : 0 ≤ D9 k)
 have hkk : k = 1 ∨ k = 2 ∨ (k = 3 ∨ k = 4) ∨ k = 5 ∨ k = 6 ∨ (k = 7 ∨ k = 8) ∨ k = 9 ∨ k = 10 ∨ (k = 11 ∨ k = 12) ∨ k = 13 := by omega
 have nil : w = [] → k ≠ 13 → Wt cx k nm ty h w t := by
  rintro rfl h13
  exact ⟨.inl rfl, fun i hi => by simp at hi, fun _ => by rw [if_pos rfl]; exact hw, fun h => absurd h h13⟩
 rcases hkk with rfl | rfl | hk | rfl | rfl | hk | rfl | rfl | hk | rfl
 ·refine nil ?_ (by decide)
  rw [mW1] at hw; split at hw <;> cases hw; rfl
 ·refine nil ?_ (by decide)
  rw [mW2] at hw; cases hw; rfl
 ·refine nil ?_ (by omega)
  rw [A3H hk] at hw; cases hw; rfl
 ·refine nil ?_ (by decide)
  rw [mW5] at hw; cases hw; rfl
 ·match h, (show h.length = 2 by have : D9 6 = 2 := rfl; omega) with
  | [x, y], _ =>
  rw [mW6] at hw
  simp only [List.getD_cons_zero, List.getD_cons_succ] at hw
  split at hw
  ·rename_i a b hm
   split at hw
   ·rename_i hc
    cases hw
    obtain ⟨v1, v2⟩ := A9R (.inl rfl) (hh x (by simp)) hm
    obtain ⟨v3, v4⟩ := B4u (.inl rfl) v1
    refine ⟨.inr rfl, fun i hi hi2 => ?_, fun _ => ?_, fun h => absurd h (by decide)⟩
    ·match i, hi with
     | 0, _ => exact ⟨v2, v1⟩
     | 1, _ => exact ⟨hc, v3⟩
    ·rw [if_neg (by simp), mW6]
     simp only [List.getD_cons_zero, List.getD_cons_succ, A0Y, if_true, A1R]
   ·cases hw
  ·cases hw
 ·match h, (show h.length = 2 by rcases hk with rfl | rfl <;> (first | (have : D9 7 = 2 := rfl; omega) | (have : D9 8 = 2 := rfl; omega))) with
  | [x, y], _ =>
  rw [V0 hk] at hw
  simp only [List.getD_cons_zero, List.getD_cons_succ] at hw
  split at hw
  ·rename_i hc
   cases hw
   refine ⟨.inr rfl, fun i hi hi2 => ?_, fun _ => ?_, fun h => by omega⟩
   ·match i, hi with
    | 0, _ => exact ⟨hc.1, (show E9 Q1 = true by decide)⟩
    | 1, _ => exact ⟨hc.2, (show E9 Q1 = true by decide)⟩
   ·rw [if_neg (by simp), V0 hk]
    simp only [List.getD_cons_zero, List.getD_cons_succ, A1R, and_self, if_true]
  ·cases hw
 ·match h, (show h.length = 3 by have : D9 9 = 3 := rfl; omega) with
  | [x, y, z], _ =>
  rw [mW9] at hw
  simp only [List.getD_cons_zero, List.getD_cons_succ] at hw
  split at hw
  ·rename_i hc
   cases hw
   obtain ⟨c1, c2⟩ := A9P y z hc.2
   have vm := A54 y z 1 hc.2 (hh y (by simp)) (hh z (by simp))
   refine ⟨.inr rfl, fun i hi hi2 => ?_, fun _ => ?_, fun h => absurd h (by decide)⟩
   ·match i, hi with
    | 0, _ => exact ⟨hc.1, (show E9 T3 = true by decide)⟩
    | 1, _ => exact ⟨c1, vm⟩
    | 2, _ => exact ⟨c2, vm⟩
   ·rw [if_neg (by simp), mW9]
    simp only [List.getD_cons_zero, List.getD_cons_succ, A1R, and_self, if_true, A87]
  ·cases hw
 ·refine nil ?_ (by decide)
  rw [A4G] at hw; cases hw; rfl
 ·match h, (show h.length = 1 by rcases hk with rfl | rfl <;> (first | (have : D9 11 = 1 := rfl; omega) | (have : D9 12 = 1 := rfl; omega))) with
  | [x], _ =>
  rw [A2W hk] at hw
  simp only [List.getD_cons_zero] at hw
  split at hw
  ·rename_i a b hm
   cases hw
   obtain ⟨v1, v2⟩ := A9R (.inr rfl) (hh x (by simp)) hm
   refine ⟨.inr rfl, fun i hi hi2 => ?_, fun _ => ?_, fun h => by omega⟩
   ·match i, hi with
    | 0, _ => exact ⟨v2, v1⟩
   ·rw [if_neg (by simp), A2W hk]
    simp only [List.getD_cons_zero, List.getD_cons_succ, A0Y, if_true]
  ·cases hw
 ·match h, (show h.length = 1 by have : D9 13 = 1 := rfl; omega) with
  | [x], _ =>
  rw [A2k] at hw
  simp only [List.getD_cons_zero] at hw
  split at hw
  ·rename_i hc
   cases hw
   refine ⟨.inr rfl, fun i hi hi2 => ?_, fun h => absurd rfl h, fun _ => rfl⟩
   match i, hi with
   | 0, _ => exact ⟨hc, hty rfl⟩
  ·cases hw
theorem B4w {l : Int} (h1 : 1 ≤ l) (h2 : l ≤ 99) : A0Q l = true := by
 unfold A0Q
 rw [A2S.2 ⟨h1, h2⟩]; rfl
theorem B4x {u : Tm} {a b : Ty} {l D : Int} (hu : N7 40 13 u (D + 1) = true) (hc : K1 a b = true) (ha : E9 a = true) (hb : E9 b = true) (h1 : 1 ≤ l) (h2 : l ≤ 99) (hD : D ≤ 40) : N7 40 13 (J7 u a b l) D = true := by
 unfold J7
 rw [A2b hD (by decide) (U3.2 ⟨rfl, by simp, fun _ => rfl, by simp, fun _ => rfl, fun _ => hb, by simp, fun _ => ⟨by simp [A1J, ha, hb, hc], B4w h1 h2⟩, by simp⟩)]
 simp [N8, hu]
theorem A6q {cx : Cx} : ∀ (us : List Tm) (h w : List Ty) (l D : Int), us.length = h.length → w.length = h.length → (∀ i, (hi : i < w.length) → (hh : i < h.length) → K1 h[i] w[i] = true ∧ E9 w[i] = true) → (∀ a ∈ h, E9 a = true) → M1 cx us = some h → N8 40 13 us (D + 1) = true → 0 ≤ l → (F4 us h w l).2 ≤ 99 → D ≤ 40 →
  M1 cx (F4 us h w l).1 = some w ∧ N8 40 13 (F4 us h w l).1 D = true ∧ (E4 (F4 us h w l).1 : Int) = E4 us + ((F4 us h w l).2 - l)
 | [], [], [], l, D, _, _, _, _, ht, _, _, _, _ => by simp [F4, M1, N8, E4]
 | [], a :: h, w, l, D, hl, _, _, _, _, _, _, _, _ => by simp at hl
 | u :: us, [], w, l, D, hl, _, _, _, _, _, _, _, _ => by simp at hl
 | [], [], b :: w, l, D, _, hl, _, _, _, _, _, _, _ => by simp at hl
 | u :: us, a :: h, [], l, D, _, hl, _, _, _, _, _, _, _ => by simp at hl
 | u :: us, a :: h, b :: w, l, D, h1, h2, hw, hv, ht, hs, hl, h99, hD => by
  rw [M1] at ht
  split at ht
  ·cases ht
  ·rename_i a' ha
   split at ht
   ·cases ht
   ·rename_i h' hh'
    simp only [Option.some.injEq, List.cons.injEq] at ht
    obtain ⟨rfl, rfl⟩ := ht
    rw [N8, Bool.and_eq_true] at hs
    obtain ⟨c1, c2⟩ := hw 0 (by simp) (by simp)
    have hw' : ∀ i, (hi : i < w.length) → (hh : i < h'.length) → K1 h'[i] w[i] = true ∧ E9 w[i] = true := fun i hi hh => hw (i + 1) (by simpa using hi) (by simpa using hh)
    have hv' : ∀ x ∈ h', E9 x = true := fun x hx => hv x (List.mem_cons_of_mem _ hx)
    simp only [F4] at h99 ⊢
    by_cases he : N1 a' b = true
    ·simp only [if_pos he] at h99 ⊢
     obtain ⟨i1, i2, i3⟩ := A6q us h' w l D (by simpa using h1) (by simpa using h2) hw' hv' hh' hs.2 hl h99 hD
     have hab := (A0j _ _).1 he
     subst hab
     refine ⟨by rw [M1, ha, i1], ?_, ?_⟩
     ·rw [N8, Bool.and_eq_true]; exact ⟨A53 40 13 u (D + 1) D (by omega) hs.1, i2⟩
     ·simp only [E4]; omega
    ·simp only [if_neg he] at h99 ⊢
     obtain ⟨i1, i2, i3⟩ := A6q us h' w (l + 1) D (by simpa using h1) (by simpa using h2) hw' hv' hh' hs.2 (by omega) h99 hD
     have hlab := A1d us h' w (l + 1)
     refine ⟨by rw [M1, J7, A1F ha, i1], ?_, ?_⟩
     ·rw [N8, Bool.and_eq_true]
      exact ⟨B4x hs.1 c1 (hv a' List.mem_cons_self) c2 (by omega) (by omega) hD, i2⟩
     ·simp only [E4, A1P]; omega
def A9T (cx : Cx) (t : Tm) (D l : Int) (u : Tm) (a : Ty) (l' : Int) : Prop := N7 40 13 u D = true ∧ H4 cx u = some a ∧ E9 a = true ∧ l ≤ l' ∧ l' + 1 ≤ l + (D3 t : Int) ∧ (D3 u : Int) ≤ D3 t + (l' - l)
theorem A6r (ks : List Tm) (ih : ∀ t ∈ ks, ∀ (d D : Int) (cx : Cx) (l : Int) (u : Tm) (a : Ty) (l' : Int), N7 12 14 t d = true → X9 cx → 0 ≤ l → M9 cx t l = some (u, a, l') → l' ≤ 99 → D + 2 * (13 - d) ≤ 41 → A9T cx t D l u a l') :
  ∀ (d D : Int) (cx : Cx) (l : Int) (us : List Tm) (h : List Ty) (l' : Int), N8 12 14 ks d = true → X9 cx → 0 ≤ l → M3 cx ks l = some (us, h, l') → l' ≤ 99 → D + 2 * (13 - d) ≤ 41 →
   N8 40 13 us D = true ∧ M1 cx us = some h ∧ (∀ a ∈ h, E9 a = true) ∧ l ≤ l' ∧ l' + ks.length ≤ l + (E4 ks : Int) ∧ (E4 us : Int) ≤ E4 ks + (l' - l) ∧ h.length = ks.length ∧ us.length = ks.length := by
 induction ks with
 | nil =>
  intro d D cx l us h l' _ _ _ he _ _
  simp only [M3, Option.some.injEq, Prod.mk.injEq] at he
  obtain ⟨rfl, rfl, rfl⟩ := he
  simp [N8, M1, E4]
 | cons t ts ihl =>
  intro d D cx l us h l' hs hcx hl he h99 hD
  rw [N8, Bool.and_eq_true] at hs
  rw [M3] at he
  split at he
  ·cases he
  ·rename_i u a l1 h1
   split at he
   ·cases he
   ·rename_i us' h' l2 h2
    simp only [Option.some.injEq, Prod.mk.injEq] at he
    obtain ⟨rfl, rfl, rfl⟩ := he
    have hp := B1X t
    
    have hmono : l1 ≤ l2 := by
     have : ∀ (zs : List Tm) (l : Int) us h l', M3 cx zs l = some (us, h, l') → l ≤ l' := by
      intro zs
      induction zs with
      | nil => intro l us h l' he; simp only [M3, Option.some.injEq, Prod.mk.injEq] at he; omega
      | cons z zs ihz =>
       intro l us h l' he
       rw [M3] at he
       split at he
       ·cases he
       ·rename_i u a l1 hz
        split at he
        ·cases he
        ·rename_i us' h' l2 hzs
         simp only [Option.some.injEq, Prod.mk.injEq] at he
         have := ihz _ _ _ _ hzs
         have := el_mono cx z l _ _ _ hz
         omega
     exact this ts l1 us' h' l2 h2
    obtain ⟨a1, a2, a3, a4, a5, a6⟩ := ih t List.mem_cons_self d D cx l u a l1 hs.1 hcx hl h1 (by omega) hD
    obtain ⟨b1, b2, b3, b4, b5, b6, b7, b8⟩ := ihl (fun x hx => ih x (List.mem_cons_of_mem _ hx)) d D cx l1 us' h' l2 hs.2 hcx (by omega) h2 h99 hD
    refine ⟨by rw [N8, a1, b1]; rfl, by rw [M1, a2, b2], ?_, by omega, ?_, ?_, by simp [b7], by simp [b8]⟩
    ·intro x hx
     rcases List.mem_cons.1 hx with h | h
     ·rw [h]; exact a3
     ·exact b3 x h
    ·simp only [E4, List.length_cons]; omega
    ·simp only [E4]; omega
where
 el_mono (cx : Cx) : ∀ (z : Tm) (l : Int) (u : Tm) (a : Ty) (l' : Int), M9 cx z l = some (u, a, l') → l ≤ l' := by
  intro z
  revert cx
  refine Tm.ind (C := fun z => ∀ (cx : Cx) (l : Int) (u : Tm) (a : Ty) (l' : Int), M9 cx z l = some (u, a, l') → l ≤ l') ?_ z
  intro k nm num ty fr lb ks ih cx l u a l' he
  rw [M9] at he
  have hL : ∀ (zs : List Tm), (∀ t ∈ zs, t ∈ ks) → ∀ (cx : Cx) (l : Int) us h l', M3 cx zs l = some (us, h, l') → l ≤ l' := by
   intro zs
   induction zs with
   | nil => intro _ cx l us h l' he; simp only [M3, Option.some.injEq, Prod.mk.injEq] at he; omega
   | cons z zs ihz =>
    intro hin cx l us h l' he
    rw [M3] at he
    split at he
    ·cases he
    ·rename_i u a l1 hz
     split at he
     ·cases he
     ·rename_i us' h' l2 hzs
      simp only [Option.some.injEq, Prod.mk.injEq] at he
      have := ihz (fun t ht => hin t (List.mem_cons_of_mem _ ht)) _ _ _ _ _ hzs
      have := ih z (hin z List.mem_cons_self) _ l _ _ _ hz
      omega
  split at he
  ·cases he
  ·rename_i us h l1 hk
   have h1 := hL ks (fun _ h => h) _ _ _ _ _ hk
   unfold A1b at he
   split at he
   ·cases he
   ·rename_i w t hn
    simp only [Option.some.injEq, Prod.mk.injEq] at he
    have := A1d us h w l1
    omega
theorem B4y : ∀ (t : Tm) (d D : Int) (cx : Cx) (l : Int) (u : Tm) (a : Ty) (l' : Int), N7 12 14 t d = true → X9 cx → 0 ≤ l → M9 cx t l = some (u, a, l') → l' ≤ 99 → D + 2 * (13 - d) ≤ 41 → A9T cx t D l u a l' := by
 refine Tm.ind fun k nm num ty fr lb ks ih d D cx l u a l' hs hcx hl he h99 hD => ?_
 obtain ⟨hd, h14, h3, h4⟩ := A0D hs
 obtain ⟨n1, n2, n3, n4, n5, n6, n7, n8, n9⟩ := U3.1 h3
 rw [M9] at he
 split at he
 ·cases he
 ·rename_i us h l1 hL
  unfold A1b at he
  split at he
  ·cases he
  ·rename_i w t hN
   simp only [Option.some.injEq, Prod.mk.injEq] at he
   obtain ⟨hu, rfl, rfl⟩ := he
   have hlab := A1d us h w l1
   obtain ⟨b1, b2, b3, b4, b5, b6, b7, b8⟩ := A6r ks ih (d + 1) (D + 2) (K2 cx k nm ty) l us h l1 h4 (A3L hcx fun hk => n6 (.inl hk)) hl hL (by omega) (by omega)
   obtain ⟨hv, hw⟩ := A4H hN
   have hwt := A9S b3 (fun hk => n6 (.inr (.inl hk))) (by rw [b7]; exact n1) h14 hw
   
   obtain ⟨c1, c2, c3⟩ : M1 (K2 cx k nm ty) (F4 us h w l1).1 = some (if w = [] then h else w) ∧ N8 40 13 (F4 us h w l1).1 (D + 1) = true ∧ (E4 (F4 us h w l1).1 : Int) = E4 us + ((F4 us h w l1).2 - l1) := by
    rcases hwt.len with hn | hn
    ·subst hn
     rw [A0v, if_pos rfl]
     refine ⟨b2, ?_, by simp⟩
     exact A4J 40 13 us (D + 2) (D + 1) (by omega) b1
    ·by_cases hn0 : w = []
     ·subst hn0
      rw [A0v, if_pos rfl]
      refine ⟨b2, ?_, by simp⟩
      exact A4J 40 13 us (D + 2) (D + 1) (by omega) b1
     ·rw [if_neg hn0]
      exact A6q us h w l1 (D + 1) (by omega) hn hwt.ok b3 b2 (by rw [show D + 1 + 1 = D + 2 by omega]; exact b1) (by omega) h99 (by omega)
   have hlm := A1H us h w l1
   have hck : D3 (.mk k nm num ty fr lb ks) = E4 ks + 1 := W9 ..
   refine ⟨?_, ?_, hv, by omega, by rw [hck]; omega, ?_⟩
   ·rw [← hu]
    split
    ·rename_i hk
     have hl1 : ks.length = 1 := by rw [hk] at n1; have : D9 13 = 1 := rfl; omega
     have h0 : 0 < (F4 us h w l1).1.length := by omega
     rw [getD0' h0]
     have := (A09 40 13 _ _).1 c2 0 h0
     exact A53 40 13 _ (D + 1) D (by omega) this
    ·rename_i hk
     rw [A2b (by omega) hk (by rw [hlm, b8]; exact h3)]
     exact c2
   ·rw [← hu]
    split
    ·rename_i hk
     have hl1 : ks.length = 1 := by rw [hk] at n1; have : D9 13 = 1 := rfl; omega
     have h0 : 0 < (F4 us h w l1).1.length := by omega
     rw [getD0' h0]
     rw [hwt.asT hk, if_neg (by simp)] at c1
     rw [K2, if_neg (by omega)] at c1
     rw [← hwt.asT hk] at c1
     obtain ⟨x, hx⟩ : ∃ x, (F4 us h w l1).1 = [x] := by
      match hm : (F4 us h w l1).1, (show (F4 us h w l1).1.length = 1 by omega) with
      | [x], _ => exact ⟨x, rfl⟩
     simp only [hx, List.getElem_cons_zero] at c1 ⊢
     obtain ⟨y, hy, he⟩ := A3M c1
     rw [hwt.asT hk] at he
     cases he; exact hy
    ·rename_i hk
     refine A56 c1 h14 hv (hwt.again hk) ?_
     by_cases hn0 : w = []
     ·rw [hn0]; rfl
     ·rw [if_neg hn0]; exact A4M w
   ·rw [← hu, hck]
    split
    ·rename_i hk
     have hl1 : ks.length = 1 := by rw [hk] at n1; have : D9 13 = 1 := rfl; omega
     have h0 : 0 < (F4 us h w l1).1.length := by omega
     rw [getD0' h0]
     have := A5u (List.getElem_mem h0)
     omega
    ·rw [W9]; omega
where
 getD0' {us : List Tm} (h : 0 < us.length) : us.getD 0 J5 = us[0] := by rw [List.getD_eq_getElem?_getD, List.getElem?_eq_getElem h, Option.getD_some]
theorem A9U : ∀ (t : Tm) (d : Int) (cx : Cx) (l : Int) (u : Tm) (a : Ty) (l' : Int), N7 12 14 t d = true → M9 cx t l = some (u, a, l') → l' + 1 ≤ l + (D3 t : Int) := by
 refine Tm.ind fun k nm num ty fr lb ks ih d cx l u a l' hs he => ?_
 obtain ⟨hd, h14, h3, h4⟩ := A0D hs
 obtain ⟨n1, _⟩ := U3.1 h3
 have hL : ∀ (zs : List Tm), (∀ t ∈ zs, t ∈ ks) → N8 12 14 zs (d + 1) = true → ∀ (cx : Cx) (l : Int) us h l', M3 cx zs l = some (us, h, l') → l' + zs.length ≤ l + (E4 zs : Int) ∧ us.length = zs.length := by
  intro zs
  induction zs with
  | nil => intro _ _ cx l us h l' he; simp only [M3, Option.some.injEq, Prod.mk.injEq] at he; obtain ⟨rfl, _, rfl⟩ := he; simp [E4]
  | cons z zs ihz =>
   intro hin hsz cx l us h l' he
   rw [N8, Bool.and_eq_true] at hsz
   rw [M3] at he
   split at he
   ·cases he
   ·rename_i u a l1 hz
    split at he
    ·cases he
    ·rename_i us' h' l2 hzs
     simp only [Option.some.injEq, Prod.mk.injEq] at he
     obtain ⟨rfl, rfl, rfl⟩ := he
     have h5 := ihz (fun t ht => hin t (List.mem_cons_of_mem _ ht)) hsz.2 _ _ _ _ _ hzs
     have h6 := ih z (hin z List.mem_cons_self) (d + 1) _ l _ _ _ hsz.1 hz
     simp only [E4, List.length_cons]
     exact ⟨by omega, by omega⟩
 rw [M9] at he
 split at he
 ·cases he
 ·rename_i us h l1 hk
  obtain ⟨g1, g2⟩ := hL ks (fun _ h => h) h4 _ _ _ _ _ hk
  unfold A1b at he
  split at he
  ·cases he
  ·rename_i w t hn
   simp only [Option.some.injEq, Prod.mk.injEq] at he
   have := A1d us h w l1
   have hck : D3 (.mk k nm num ty fr lb ks) = E4 ks + 1 := W9 ..
   rw [hck]; omega
theorem A4V {e u : Tm} {t : Ty} (h : R7 e = some (u, t)) : M2 u = true ∧ H4 [] u = some t ∧ E9 t = true := by
 unfold R7 at h
 split at h
 ·rename_i hv
  obtain ⟨h1, h2⟩ := (A1z e).1 hv
  split at h
  ·rename_i u' t' l' he
   cases h
   have hl : l' ≤ 99 := by
    have := A6r.el_mono [] e 0 _ _ _ he
    have h3 : ∀ (t : Tm) (cx : Cx) (l : Int) (u : Tm) (a : Ty) (l' : Int), M9 cx t l = some (u, a, l') → l' ≤ l + 4 * (D3 t : Int) → True := fun _ _ _ _ _ _ _ _ => trivial
    exact el_lab e 1 h1 (by omega) he
   obtain ⟨g1, g2, g3, g4, g5, g6⟩ := B4y e 1 1 [] 0 u t l' h1 A3K (by omega) he hl (by omega)
   exact ⟨(A5Q u).2 ⟨g1, by omega⟩, g2, g3⟩
  ·cases h
 ·cases h
where
 el_lab (e : Tm) (d : Int) (h1 : N7 12 14 e d = true) (h2 : D3 e ≤ 30) {u : Tm} {t : Ty} {l' : Int} (he : M9 [] e 0 = some (u, t, l')) : l' ≤ 99 := by
  have := A9U e d [] 0 u t l' h1 he
  omega
def B6P (k : Int) : Bool := decide (k = 5 ∨ k = 13)
inductive MV where
 | mk (k num : Int) (env parts : List MV)
def MV.k : MV → Int | .mk k _ _ _ => k
def MV.num : MV → Int | .mk _ n _ _ => n
def MV.env : MV → List MV | .mk _ _ e _ => e
def MV.parts : MV → List MV | .mk _ _ _ p => p
def mv0 : MV := .mk 0 0 [] []
mutual
def RMv (kc : Int → Int) (G : IM) : MV → List Value → Prop
 | .mk k num env parts, cells => ∃ p c es q d fs, cells = [.int .i64 (kc k), .int .i64 num, .slice p env.length c, .slice q parts.length d] ∧ E8 num ∧ E8 (kc k) ∧ D5 G p env.length c 4 es ∧ A22 kc G env es ∧ D5 G q parts.length d 4 fs ∧ A22 kc G parts fs
def A22 (kc : Int → Int) (G : IM) : List MV → List (List Value) → Prop
 | [], es => es = []
 | t :: ts, es => ∃ a r, es = a :: r ∧ RMv kc G t a ∧ A22 kc G ts r
end
section
variable {kc : Int → Int} {G : IM}
end

def RFr (kc : Int → Int) (G : IM) (f : Int × List MV) (cells : List Value) : Prop := ∃ p c es, cells = [.int .i64 f.1, .slice p f.2.length c] ∧ E8 f.1 ∧ D5 G p f.2.length c 4 es ∧ A22 kc G f.2 es
def A9V (kc : Int → Int) (G : IM) : List (Int × List MV) → List (List Value) → Prop
 | [], es => es = []
 | t :: ts, es => ∃ a r, es = a :: r ∧ RFr kc G t a ∧ A9V kc G ts r
section
variable {kc : Int → Int} {G : IM}
end

structure MSt where
 at' : Int
 st : List MV
 env : List MV
 fr : List (Int × List MV)
def RSs (kc : Int → Int) (G : IM) (s : MSt) (cells : List Value) : Prop := ∃ pe ce ps cs pf cf ee es ef, cells = [.int .i64 s.at', .slice pe s.env.length ce, .slice ps s.st.length cs, .slice pf s.fr.length cf] ∧ E8 s.at' ∧
 D5 G pe s.env.length ce 4 ee ∧ A22 kc G s.env ee ∧ D5 G ps s.st.length cs 4 es ∧ A22 kc G s.st es ∧ D5 G pf s.fr.length cf 2 ef ∧ A9V kc G s.fr ef
def A4W (k : Int) : Nat := if k = 6 ∨ k = 7 ∨ k = 8 ∨ k = 11 then 2 else if k = 9 ∨ k = 12 ∨ k = 13 then 1 else 0
def A6s (k : Int) : Int × Nat × Int := if k = 6 then (2, 1, 1) else if k = 7 ∨ k = 8 then (0, 2, 2) else if k = 9 then (1, 1, 3) else if k = 12 ∨ k = 13 then (3, 1, 4) else (0, 0, 0)
def A1U (s : MSt) (v : MV) : MSt := { s with st := s.st ++ [v] }
def mGo (k a : Int) (s : MSt) (v : List MV) : MSt ⊕ (Int × Int) :=
 if k = 1 then .inl (A1U s (.mk 0 a [] []))
 else if k = 2 then .inl (A1U s (.mk 1 a [] []))
 else if k = 3 then (if (s.env.length : Int) - 1 - a < 0 then .inr (3, 0) else .inl (A1U s (s.env.getD ((s.env.length : Int) - 1 - a).toNat mv0)))
 else if k = 4 then .inl { A1U s (.mk 2 s.at' s.env []) with at' := s.at' + a }
 else if k = 5 then (if s.fr.length = 0 then .inr (3, 0) else .inl { s with at' := (s.fr.getD (s.fr.length - 1) (0, [])).1, env := (s.fr.getD (s.fr.length - 1) (0, [])).2, fr := s.fr.take (s.fr.length - 1) })
 else if k = 6 then .inl { s with at' := (v.getD 0 mv0).num, env := (v.getD 0 mv0).env ++ [v.getD 1 mv0], fr := s.fr ++ [(s.at', s.env)] }
 else if k = 7 then .inl (A1U s (.mk 0 (((v.getD 0 mv0).num + (v.getD 1 mv0).num) % 1000) [] []))
 else if k = 8 then .inl (A1U s (.mk 1 (if (v.getD 0 mv0).num < (v.getD 1 mv0).num then 1 else 0) [] []))
 else if k = 9 then .inl (if (v.getD 0 mv0).num = 0 then { s with at' := s.at' + a } else s)
 else if k = 10 then .inl { s with at' := s.at' + a }
 else if k = 11 then .inl (A1U s (.mk 3 0 [] v))
 else .inl (A1U s ((v.getD 0 mv0).parts.getD (k - 12).toNat mv0))
def B4z (k : Int) (v : List MV) : Bool := (v.take (A6s k).2.1).all fun u => decide (u.k = (A6s k).1)
def B4A (k a : Int) (s : MSt) : MSt ⊕ (Int × Int) :=
 if s.st.length < A4W k then .inr (3, 0)
 else if B4z k (s.st.drop (s.st.length - A4W k)) = true then mGo k a { s with at' := s.at' + 1, st := s.st.take (s.st.length - A4W k) } (s.st.drop (s.st.length - A4W k))
 else .inr (2, (A6s k).2.2)
def B4B (v : MV) : ByteArray := if v.k = 0 then ⟨(Lib.decDigits v.num.toNat).toArray⟩ else if v.k = 1 then (if v.num = 0 then ⟨#[70]⟩ else ⟨#[84]⟩) else if v.k = 2 then ⟨⟨[102, 117, 110, 99, 116, 105, 111, 110]⟩⟩ else ⟨⟨[112, 97, 105, 114]⟩⟩
def B4C (s : MSt) : ByteArray × Int × Int := if s.st.length ≠ 1 ∨ 0 < s.fr.length then (⟨#[]⟩, 3, 0) else (B4B (s.st.getD 0 mv0), 0, 0)
def A9W (ops : List (Int × Int)) : Nat → MSt → ByteArray × Int × Int
 | t, s => if (ops.length : Int) ≤ s.at' then B4C s else match t with
  | 0 => (⟨#[]⟩, 5, 0)
  | t + 1 => match B4A (ops.getD s.at'.toNat (0, 0)).1 (ops.getD s.at'.toNat (0, 0)).2 s with
   | .inl s' => A9W ops t s'
   | .inr (c, e) => (⟨#[]⟩, c, e)
def B4D (k behind : Int) : Int := if k = 1 then 999 else if k = 2 then 1 else if k = 3 then 11 else if k = 4 ∨ k = 9 ∨ k = 10 then behind else 0
def B4E (n : Nat) (i : Nat) (x : Int × Int) : Bool := decide (1 ≤ x.1 ∧ x.1 ≤ 13 ∧ 0 ≤ x.2 ∧ x.2 ≤ B4D x.1 ((n : Int) - 1 - i))
def B4F (ops : List (Int × Int)) : Bool := decide (1 ≤ ops.length ∧ ops.length ≤ 120) && (List.range ops.length).all fun i => B4E ops.length i (ops.getD i (0, 0))
def B6Q (ops : List (Int × Int)) (ticks : Int) : ByteArray × Int × Int :=
 if B4F ops = true ∧ 0 ≤ ticks ∧ ticks ≤ 2000 then A9W ops ticks.toNat ⟨0, [], [], []⟩ else (⟨#[]⟩, 3, 0)
theorem A9X (k : Nat) : strOfNums [dgi k] = (⟨[UInt8.ofNat (48 + k % 10)].toArray⟩ : ByteArray) := by
 have : (dgi k).toNat = 48 + k % 10 := by unfold dgi; omega
 simp [strOfNums, this]
theorem B4G (a b : List UInt8) : (⟨a.toArray⟩ : ByteArray) ++ ⟨b.toArray⟩ = ⟨(a ++ b).toArray⟩ := by
 apply ByteArray.ext; simp
theorem B4H {k : Nat} {out : ByteArray} (h : 9 < k) : (⟨(Lib.decDigits (k / 10)).toArray⟩ : ByteArray) ++ (strOfNums [dgi k] ++ out) = ⟨(Lib.decDigits k).toArray⟩ ++ out := by
 have e : (⟨(Lib.decDigits k).toArray⟩ : ByteArray) = ⟨(Lib.decDigits (k / 10)).toArray⟩ ++ ⟨[UInt8.ofNat (48 + k % 10)].toArray⟩ := by
  rw [B4G (Lib.decDigits (k / 10))]
  congr 2
  rw [Lib.decDigits, dif_neg (by omega)]
 rw [e, A9X, ByteArray.append_assoc]
theorem B4I {k : Nat} {out : ByteArray} (h : ¬9 < k) : strOfNums [dgi k] ++ out = ⟨(Lib.decDigits k).toArray⟩ ++ out := by
 rw [A9X, Lib.decDigits, dif_pos (by omega), Nat.mod_eq_of_lt (by omega)]
theorem B4J {k : Nat} (h : ¬9 < k) : dgi k = 48 + (k : Int) := by unfold dgi; omega
theorem B4K (k : Nat) (hk : k < 10000) (G : IM) : Fn Tryz.prog 129 [.int .i64 (k : Int)] [] G (I3 (.string ⟨(Lib.decDigits k).toArray⟩) G) := by
 refine C3 Tryz.func129 rfl Tryz.ntmps129 Tryz.results129 rfl ?_
 intro w0
 refine E0 ?_
 refine sP (A2C rfl rfl (by omega)) rfl rfl ?_
 refine E0 ?_
 refine sP (A2C rfl rfl (by omega)) rfl rfl ?_
 refine J4 ?_
 refine C1 (J8 (fun (x : Nat × ByteArray) => ⟨[(0, .int .i64 (x.1 : Int)), (2, .string ⟨#[]⟩), (3, .string x.2)], [], G⟩) (fun x => x.1 < 10000 ∧ x.1 + x.2.size < 10020 ∧ (⟨(Lib.decDigits x.1).toArray⟩ : ByteArray) ++ x.2 = ⟨(Lib.decDigits k).toArray⟩) (fun x => x.1) (k, ⟨#[]⟩) ?_ ?_ ?_)
 (simp only [I5]; exact E2)
 (dsimp only; exact ⟨hk, by have : (⟨#[]⟩ : ByteArray).size = 0 := rfl; omega, ByteArray.append_empty⟩)
 (rintro ⟨j, out⟩ ⟨hj, hsz, hd⟩; simp only [] at hj hsz hd ⊢)
 refine B1 ?_
 refine sB (X5 rfl rfl) rfl rfl (fun h41 => ?_) (fun h41 => ?_)
 refine A9 ?_
 refine C1 ?_
 refine B6 ?_
 refine sP (A5s (n := 10) rfl rfl (by omega)) rfl rfl ?_
 refine sP (J0 rfl rfl (by omega) (by omega)) rfl rfl ?_
 refine sP (A7B rfl rfl rfl (by omega) (by omega)) rfl rfl ?_
 (refine I7 (C7 rfl rfl rfl (by omega) (by unfold maxLen; omega) rfl) rfl ?_; rintro _ ⟨b54, rfl⟩)
 refine sL (A7C (xs := [dgi j]) rfl rfl rfl rfl rfl (M6 (by repeat first | exact mH | apply mT))) rfl rfl ?_
 refine E6 ?_
 (have hs1 := strOfNums_size [dgi j]; have hs2 : [dgi j].length = 1 := rfl; refine sP (A2y rfl rfl (by omega)) rfl rfl ?_)
 refine A9 ?_
 refine sP (A5t (n := 10) rfl rfl (by omega) (by omega)) rfl rfl ?_
 refine B6 ?_
 refine J6 (j / 10, strOfNums [dgi j] ++ out) ?_ ?_ ?_
 (simp only [I5]; exact E2)
 (dsimp only; exact ⟨by omega, by (rw [ByteArray.size_append]; omega), by rw [← hd]; exact B4H (by omega)⟩)
 (show j / 10 < j; omega)
 refine J4 ?_
 refine sP (J0 rfl rfl (by omega) (by omega)) rfl rfl ?_
 refine sP (A7B rfl rfl rfl (by omega) (by omega)) rfl rfl ?_
 (refine I7 (C7 rfl rfl rfl (by omega) (by unfold maxLen; omega) rfl) rfl ?_; rintro _ ⟨b84, rfl⟩)
 (have hs9 := B4J (k := j) (by omega); refine sL (A7C (xs := [48 + (j : Int)]) rfl rfl rfl rfl rfl (M6 (by repeat first | exact mH | apply mT))) rfl rfl ?_; rw [← hs9])
 refine E6 ?_
 (have hs1 := strOfNums_size [dgi j]; have hs2 : [dgi j].length = 1 := rfl; refine sP (A2y rfl rfl (by omega)) rfl rfl ?_)
 refine A9 ?_
 exact ⟨rfl, by rw [B4I (by omega), hd], rfl⟩
def A6t : ByteArray := ⟨⟨[112, 97, 105, 114]⟩⟩
def A6u : ByteArray := ⟨⟨[102, 117, 110, 99, 116, 105, 111, 110]⟩⟩
def txT : ByteArray := ⟨⟨[84]⟩⟩
def txF : ByteArray := ⟨⟨[70]⟩⟩
def A4X (n : Int) : ByteArray := ⟨(Lib.decDigits n.toNat).toArray⟩
def A1g (k num : Int) : ByteArray := if k = 2 then A4X num else if k = 3 then txT else txF
mutual
def A0c : Tm → ByteArray
 | .mk k nm num ty fr lb ks => if k = 10 ∨ (N2 (.mk k nm num ty fr lb []) = true ∧ ty.k = 5) then A6t else if k = 5 ∨ N2 (.mk k nm num ty fr lb []) = true then A6u else if k = 14 then B4L ks else A1g k num
def B4L : List Tm → ByteArray
 | [] => ⟨⟨[]⟩⟩
 | t :: _ => A0c t
end
theorem B4M (k : Int) (nm : ByteArray) (num : Int) (ty fr : Ty) (lb : Int) (ks : List Tm) (G : IM) (cells : List Value) (hT : A07 G) (hk3 : k = 2 ∨ k = 3 ∨ k = 4) (hn : 0 ≤ num ∧ num ≤ 999) (hr : B0 G (.mk k nm num ty fr lb ks) cells) : Fn Tryz.prog 107 [.agg ⟨cells⟩] [] G (I3 (.string (A1g k num)) G) := by
 obtain ⟨tk, tks⟩ := ty
 obtain ⟨fk, fks⟩ := fr
 obtain ⟨pt, ct, pf, cf, p, c, es, rfl, hk, hnum, hlb, hty, hfr, hsl, hkl⟩ := hr.open9
 have hI := B19 num G hT hn.1 hn.2
 refine C3 Tryz.func107 rfl Tryz.ntmps107 Tryz.results107 rfl ?_
 intro w0
 refine A3 ?_
 refine sE (C8 rfl rfl) rfl (fun b3 => ?_)
 refine A9 ?_
 refine sQ (A2x rfl rfl) rfl ?_
 refine J2 ?_
 refine C1 ?_
 refine A3 ?_
 refine sP (H9 rfl rfl (by omega)) rfl rfl ?_
 refine A8 ?_
 refine sB (qE rfl rfl) rfl rfl (fun h30 => ?_) (fun h30 => ?_)
 refine D4 ?_
 refine H6 rfl (hI) rfl rfl ?_
 refine B2 ?_
 (exact ⟨rfl, by unfold A1g; rw [if_pos (by omega)]; rfl, rfl⟩)
 refine A8 ?_
 refine sB (qE rfl rfl) rfl rfl (fun h54 => ?_) (fun h54 => ?_)
 refine K5 ?_
 (exact ⟨rfl, by unfold A1g; rw [if_neg (by omega), if_pos (by omega)]; rfl, rfl⟩)
 refine A8 ?_
 refine sP (T8 rfl rfl (by omega)) rfl rfl ?_
 refine K5 ?_
 (exact ⟨rfl, by unfold A1g; rw [if_neg (by omega), if_neg (by omega)]; rfl, rfl⟩)
section
variable {k : Int} {nm : ByteArray} {num : Int} {ty fr : Ty} {lb : Int} {ks : List Tm}
theorem A6v (h : k = 10 ∨ (N2 (.mk k nm num ty fr lb ks) = true ∧ ty.k = 5)) : A0c (.mk k nm num ty fr lb ks) = A6t := by
 rw [A0c]
 exact if_pos h
theorem A6w (h : ¬(k = 10 ∨ (N2 (.mk k nm num ty fr lb ks) = true ∧ ty.k = 5))) (h2 : k = 5 ∨ N2 (.mk k nm num ty fr lb ks) = true) : A0c (.mk k nm num ty fr lb ks) = A6u := by
 rw [A0c]
 exact (if_neg h).trans (if_pos h2)
theorem A6x (h : N2 (.mk k nm num ty fr lb ks) = false) (hk : k = 14) (h0 : 0 < ks.length) : A0c (.mk k nm num ty fr lb ks) = A0c ks[0] := by
 rw [A0c, if_neg (by rintro (h1 | h1); omega; exact Bool.noConfusion (h1.1.symm.trans h)), if_neg (by rintro (h1 | h1); omega; exact Bool.noConfusion (h1.symm.trans h)), if_pos hk]
 cases ks with
 | nil => simp at h0
 | cons t ts => rfl
theorem A6y (h : N2 (.mk k nm num ty fr lb ks) = false) (hk : k ≠ 14) (h10 : k ≠ 10) (h5 : k ≠ 5) : A0c (.mk k nm num ty fr lb ks) = A1g k num := by
 rw [A0c, if_neg (by rintro (h1 | h1); omega; exact Bool.noConfusion (h1.1.symm.trans h)), if_neg (by rintro (h1 | h1); omega; exact Bool.noConfusion (h1.symm.trans h)), if_neg hk]
end
theorem A9Y {Q : Prop} (h : Q := by (exact ⟨rfl, congrArg Value.string (hvp (by first | exact .inl (by omega) | exact .inr ⟨by assumption, by assumption⟩)).symm, rfl⟩)) : Q := h
theorem A6z {Q : Prop} (h : Q := by (exact ⟨rfl, congrArg Value.string (hvf (by rintro (h | ⟨h1, h2⟩) <;> first | omega | exact Bool.noConfusion (h1.symm.trans (show bp = false by assumption)) | (simp only [Ty.k] at h2; omega)) (by first | exact .inl (by omega) | exact .inr (by assumption))).symm, rfl⟩)) : Q := h
theorem B4N : ∀ (t : Tm) (G : IM) (cells : List Value), A07 G → cv t → F0 t = true → B0 G t cells → Fn Tryz.prog 59 [.agg ⟨cells⟩] [] G (I3 (.string (A0c t)) G) := by
 refine Tm.ind fun k nm num ty fr lb ks ih G cells hT hc hv hr => ?_
 have hr0 := hr
 have hP := A2m _ G _ hr
 obtain ⟨hN, hkk⟩ := hc.node
 have hop := hN.ops
 have h14 : k = 14 → ks.length = 1 := fun h => by rw [h] at hop; have : D9 14 = 1 := rfl; omega
 have hL := fun h => B4M k nm num ty fr lb ks G cells hT h hN.num0 hr
 have hvp := @A6v k nm num ty fr lb ks
 have hvf := @A6w k nm num ty fr lb ks
 have hvc := @A6x k nm num ty fr lb ks
 have hvl := @A6y k nm num ty fr lb ks
 have hvn := @A3S k nm num ty fr lb ks
 have hvy := @A2n k nm num ty fr lb ks
 have hprx := A0F k nm num ty fr lb ks
 have hinj := A3R k nm num ty fr lb ks
 have hleaf : N2 (.mk k nm num ty fr lb ks) = false → k ≠ 14 → k ≠ 10 → k ≠ 5 → k = 2 ∨ k = 3 ∨ k = 4 := by
  intro h1 h2 h3 h4
  have := hvn h3 h1 (by rw [hinj, decide_eq_false (by omega)]; rfl)
  rw [this] at hv
  have := of_decide_eq_true hv
  omega
 have hkv : N2 (.mk k nm num ty fr lb ks) = false → k = 14 → ∀ t ∈ ks, F0 t = true := by
  intro h1 h2 t ht
  cases hi : inj (.mk k nm num ty fr lb ks) with
  | true => have := hvy (.inr (.inr hi)); rw [hv] at this; exact List.all_eq_true.1 this.symm t ht
  | false =>
   have := hvn (by omega) h1 hi
   rw [hv] at this
   have := of_decide_eq_true this.symm
   omega
 generalize hpx : N2 (.mk k nm num ty fr lb ks) = bp at *
 obtain ⟨tk, tks⟩ := ty
 obtain ⟨fk, fks⟩ := fr
 obtain ⟨pt, ct, pf, cf, p, c, es, rfl, hk, hnum, hlb, hty, hfr, hsl, hkl⟩ := hr.open9
 refine C3 Tryz.func59 rfl Tryz.ntmps59 Tryz.results59 rfl ?_
 intro w0
 refine A3 ?_
 refine sE (C8 rfl rfl) rfl (fun b3 => ?_)
 refine B1 ?_
 refine C1 ?_
 refine B1 ?_
 refine sB (qE rfl rfl) rfl rfl (fun h13 => ?_) (fun h13 => ?_)
 refine A0O ?_
 exact A9Y
 refine A3 ?_
 refine F8 rfl (hP) rfl rfl (fun h40 => ?_) (fun h40 => ?_)
 refine B1 ?_
 refine sB (qE rfl rfl) rfl rfl (fun h45 => ?_) (fun h45 => ?_)
 refine I0 ?_
 exact A9Y
 refine J2 ?_
 refine sB (qE rfl rfl) rfl rfl (fun h72 => ?_) (fun h72 => ?_)
 refine T1 ?_
 exact A6z
 refine A3 ?_
 refine F8 rfl (hP) rfl rfl (fun h93 => ?_) (fun h93 => ?_)
 refine J3 ?_
 exact A6z
 refine E0 ?_
 refine sB (qE rfl rfl) rfl rfl (fun h118 => ?_) (fun h118 => ?_)
 refine D4 ?_
 (have hl1 := h14 (by omega); obtain ⟨bx, ox, e, rfl, hl, hat, hre, hgb⟩ := hsl.kidTm hkl (i := 0) (by omega) (by omega); have hih := ih ks[0] (List.getElem_mem (by omega)) G e hT (hkk _ (List.getElem_mem (by omega))) (hkv (by assumption) (by omega) _ (List.getElem_mem (by omega))) hre; refine sP (B4 (j := 0) rfl rfl rfl (by omega)) rfl rfl ?_)
 refine sL (A2 rfl rfl (hat _) hl) rfl rfl ?_
 refine H6 rfl (hih) rfl rfl ?_
 refine B2 ?_
 (exfalso; have h1 : bp = true := (by assumption); have h2 : bp = false := (by assumption); rw [h1] at h2; cases h2)
 refine J2 ?_
 refine H6 rfl ((hL (hleaf (by assumption) (by omega) (by omega) (by omega)))) rfl rfl ?_
 refine A9 ?_
 (exfalso; have h1 : bp = true := (by assumption); have h2 : bp = false := (by assumption); rw [h1] at h2; cases h2)
 refine I0 ?_
 refine sB (qE rfl rfl) rfl rfl (fun h170 => ?_) (fun h170 => ?_)
 refine T1 ?_
 exact A6z
 refine A3 ?_
 refine F8 rfl (hP) rfl rfl (fun h191 => ?_) (fun h191 => ?_)
 refine J3 ?_
 (exfalso; have h1 : bp = true := (by assumption); have h2 : bp = false := (by assumption); rw [h1] at h2; cases h2)
 refine E0 ?_
 refine sB (qE rfl rfl) rfl rfl (fun h216 => ?_) (fun h216 => ?_)
 refine D4 ?_
 (have hl1 := h14 (by omega); obtain ⟨bx, ox, e, rfl, hl, hat, hre, hgb⟩ := hsl.kidTm hkl (i := 0) (by omega) (by omega); have hih := ih ks[0] (List.getElem_mem (by omega)) G e hT (hkk _ (List.getElem_mem (by omega))) (hkv (by assumption) (by omega) _ (List.getElem_mem (by omega))) hre; refine sP (B4 (j := 0) rfl rfl rfl (by omega)) rfl rfl ?_)
 refine sL (A2 rfl rfl (hat _) hl) rfl rfl ?_
 refine H6 rfl (hih) rfl rfl ?_
 refine B2 ?_
 (exact ⟨rfl, congrArg Value.string (hvc (by assumption) (by omega) (by omega)).symm, rfl⟩)
 refine J2 ?_
 refine H6 rfl ((hL (hleaf (by assumption) (by omega) (by omega) (by omega)))) rfl rfl ?_
 refine A9 ?_
 (exact ⟨rfl, congrArg Value.string (hvl (by assumption) (by omega) (by omega) (by omega)).symm, rfl⟩)
section fin
variable {P : Program} {Γ : L6} {env : M0} {hp : List A5} {G : IM}
theorem A2r {r r2 r3 : ResultVar} {post : IM → Value → List A5 → Prop} {v v2 v3 : Value} {outs : List A5} (h : X6 P Γ ⟨env, hp, G⟩ r v) (h2 : X6 P Γ ⟨env, hp, G⟩ r2 v2) (h3 : X6 P Γ ⟨env, hp, G⟩ r3 v3) (ho : A0 hp outs) (hk : post G (.tuple ⟨[v, v2, v3]⟩) outs) :
  A0q P Γ [r, r2, r3] post .ret ⟨env, hp, G⟩ := A7g (.cons h (.cons h2 (.cons h3 .nil))) ho.spec hk
end fin
def CsP (bx : Nat) (e : Tm) (a b : Ty) (l : Int) : IM → Value → List A5 → Prop := fun G' v outs => ∃ cells, v = .agg ⟨cells⟩ ∧ outs = [.blk bx [.int .i64 (if N1 a b = true then l else l + 1)]] ∧ B0 G' (if N1 a b = true then e else J7 e a b (l + 1)) cells
theorem CsP.yes {G : IM} {bx : Nat} {e : Tm} {a b : Ty} {l : Int} {cells : List Value} (h : N1 a b = true) (hr : B0 G e cells) : CsP bx e a b l G (.agg ⟨cells⟩) [.blk bx [.int .i64 l]] := ⟨cells, rfl, by rw [if_pos h], by rw [if_pos h]; exact hr⟩
theorem CsP.no {G : IM} {bx : Nat} {e : Tm} {a b : Ty} {l : Int} {cells : List Value} (h : N1 a b = false) (hr : B0 G (J7 e a b (l + 1)) cells) : CsP bx e a b l G (.agg ⟨cells⟩) [.blk bx [.int .i64 (l + 1)]] := ⟨cells, rfl, by rw [if_neg (by rw [h]; decide)], by rw [if_neg (by rw [h]; decide)]; exact hr⟩
theorem B4O (bx : Nat) (e : Tm) (a b : Ty) (l : Int) (G : IM) (ce ca cb : List Value) (hl : -1000000000000 ≤ l ∧ l ≤ 1000000000000) (hre : B0 G e ce) (hra : B9 G a ca) (hrb : B9 G b cb) :
  Fn Tryz.prog 111 [.pointer (some ⟨bx, 0, none⟩), .agg ⟨ce⟩, .agg ⟨ca⟩, .agg ⟨cb⟩] [.blk bx [.int .i64 l]] G (CsP bx e a b l) := by
 have hel := hre.len
 have heo := hre.one
 have hS := A52 a b G ca cb hra hrb
 obtain ⟨v1, v2, v3, v4, v5, v6, v7, v8, v9, rfl⟩ := nine hel
 obtain ⟨ak, aks⟩ := a
 obtain ⟨bk, bks⟩ := b
 obtain ⟨pa, cca, ea, rfl, hka, _⟩ := hra.open
 obtain ⟨pb, ccb, eb, rfl, hkb, _⟩ := hrb.open
 refine C3 Tryz.func111 rfl Tryz.ntmps111 Tryz.results111 rfl ?_
 intro w0
 refine A3 ?_
 refine sE (C8 rfl rfl) rfl (fun b3 => ?_)
 refine sE (C8 rfl rfl) rfl (fun b4 => ?_)
 refine sE (C8 rfl rfl) rfl (fun b5 => ?_)
 refine sE (A6 rfl) rfl (fun b6 => ?_)
 refine B2 ?_
 refine F8 rfl (hS) rfl rfl (fun h14 => ?_) (fun h14 => ?_)
 refine A9 ?_
 refine sL (A2 rfl rfl (B3 (by repeat first | exact mH | apply mT)) hel) rfl rfl ?_
 refine sS rfl rfl rfl hel heo rfl ?_ (hu := by exact D6 hel.symm)
 refine B1 ?_
 refine H2 (outs := [.blk bx [.int .i64 _]]) (rC rfl (A4 rfl rfl)) (A0.cons (by repeat (first | exact Pk.here | apply Pk.there)) A0.nil) ?_
 (exact CsP.yes (by assumption) hre)
 refine D4 ?_
 refine sQ (X4 rfl) rfl ?_
 refine A3 ?_
 refine sP (J0 rfl rfl (by omega) (by omega)) rfl rfl ?_
 refine sQ (X4 rfl) rfl ?_
 refine A9 ?_
 refine D7 D8 rfl ?_
 refine K7 (i := 6) (l' := [ff,ff,ff,ff,ff,ff,tt,ff,ff,ff]) rfl D1 (A2 rfl rfl (B3 (by repeat first | exact mH | apply mT)) hel) rfl (by kernel_rfl) rfl rfl ?_
 refine aL 0 rfl (A4 rfl rfl) rfl ?_
 refine aL 1 rfl (A4 rfl rfl) rfl ?_
 refine aP 2 rfl (qM rfl) rfl ?_
 refine aP 3 rfl (X4 rfl) rfl ?_
 refine aP 4 rfl (B5 rfl) rfl ?_
 refine aL 5 rfl (C4 rfl rfl) rfl ?_
 refine A1 7 ?_
 (refine E3 rfl (C7 rfl rfl rfl (by omega) (by unfold maxLen; omega) rfl) rfl rfl ?_; rintro _ ⟨b55, rfl⟩)
 refine aP 8 rfl (V6 rfl rfl) rfl ?_
 refine A1 9 ?_
 refine H1 rfl ?_
 refine A3 ?_
 (refine F9 (cs := [v1, v2, v3, v4, v5, v6, v7, v8, v9]) (by repeat (first | exact Pk.here | apply Pk.there)) (fun G2 hle2 hsl2 hno2 => ?_))
 refine tT ?_
 refine H2 (outs := [.blk bx [.int .i64 _]]) (rC rfl (A4 rfl rfl)) (A0.cons (by repeat (first | exact Pk.here | apply Pk.there)) A0.nil) ?_
 (exact CsP.no (by assumption) (B0.put (us := [e]) (es := [[v1, v2, v3, v4, v5, v6, v7, v8, v9]]) ⟨by decide, by decide⟩ ⟨by decide, by decide⟩ ⟨by omega, by omega⟩ (hrb.mono hle2) (hra.mono hle2) rfl (D5.of hsl2 rfl (by intro x hx; obtain rfl := List.mem_singleton.1 hx; rfl) (by intro x hx; obtain rfl := List.mem_singleton.1 hx; exact heo)) (by simp only [D0]; exact ⟨_, _, rfl, hre.mono hle2, rfl⟩)))
def ElP (bx : Nat) (cx : Cx) (e : Tm) (l : Int) : IM → Value → List A5 → Prop := fun G' v outs => ∃ u cu t ct l', v = .tuple ⟨[.agg ⟨cu⟩, .agg ⟨ct⟩, .bool (M9 cx e l).isSome]⟩ ∧ outs = [.blk bx [.int .i64 l']] ∧ B0 G' u cu ∧ B9 G' t ct ∧ l ≤ l' ∧ l' + 1 ≤ l + (D3 e : Int) ∧ ∀ r, M9 cx e l = some r → r = (u, t, l')
theorem ElP.no {G : IM} {bx : Nat} {cx : Cx} {e : Tm} {l l' : Int} {u : Tm} {t : Ty} {cu ct : List Value} (h : M9 cx e l = none) (hu : B0 G u cu) (ht : B9 G t ct) (h1 : l ≤ l') (h2 : l' + 1 ≤ l + (D3 e : Int)) : ElP bx cx e l G (.tuple ⟨[.agg ⟨cu⟩, .agg ⟨ct⟩, .bool false]⟩) [.blk bx [.int .i64 l']] :=
 ⟨u, cu, t, ct, l', by rw [h]; rfl, rfl, hu, ht, h1, h2, fun r hr => by rw [h] at hr; cases hr⟩
theorem ElP.yes {G : IM} {bx : Nat} {cx : Cx} {e : Tm} {l l' : Int} {u : Tm} {t : Ty} {cu ct : List Value} (h : M9 cx e l = some (u, t, l')) (hu : B0 G u cu) (ht : B9 G t ct) (h1 : l ≤ l') (h2 : l' + 1 ≤ l + (D3 e : Int)) : ElP bx cx e l G (.tuple ⟨[.agg ⟨cu⟩, .agg ⟨ct⟩, .bool true]⟩) [.blk bx [.int .i64 l']] :=
 ⟨u, cu, t, ct, l', by rw [h]; rfl, rfl, hu, ht, h1, h2, fun r hr => by rw [h] at hr; cases hr; rfl⟩
section
variable {cx : Cx} {k : Int} {nm : ByteArray} {num : Int} {ty fr : Ty} {lb : Int} {ks us : List Tm} {h : List Ty} {l l' : Int}
theorem B4P (hL : M3 (K2 cx k nm ty) ks l = none) : M9 cx (.mk k nm num ty fr lb ks) l = none := by rw [M9, hL]
theorem A9Z (hL : M3 (K2 cx k nm ty) ks l = some (us, h, l')) (hn : S4 cx k nm ty h = none) : M9 cx (.mk k nm num ty fr lb ks) l = none := by rw [M9, hL]; simp only [A1b, hn]
theorem B4Q {w : List Ty} {t : Ty} (hL : M3 (K2 cx k nm ty) ks l = some (us, h, l')) (hn : S4 cx k nm ty h = some (w, t)) (hk : k = 13) : M9 cx (.mk k nm num ty fr lb ks) l = some ((F4 us h w l').1.getD 0 J5, t, (F4 us h w l').2) := by
 rw [M9, hL]; simp only [A1b, hn, if_pos hk]
theorem A90 {w : List Ty} {t : Ty} (hL : M3 (K2 cx k nm ty) ks l = some (us, h, l')) (hn : S4 cx k nm ty h = some (w, t)) (hk : k ≠ 13) : M9 cx (.mk k nm num ty fr lb ks) l = some (.mk k nm num ty fr lb (F4 us h w l').1, t, (F4 us h w l').2) := by
 rw [M9, hL]; simp only [A1b, hn, if_neg hk]
end
theorem A2s {t : Ty} (h : E9 t = true) : E5 t := (A3D h).1
theorem A91 {us : List Tm} (h : 0 < us.length) : us.getD 0 J5 = us[0] := by rw [List.getD_eq_getElem?_getD, List.getElem?_eq_getElem h, Option.getD_some]
theorem A92 {Q : Prop} (h : Q := by (exact ElP.no (A9Z hml (A4I hmw (b := false) (by assumption))) (O6 _) (O0 _ ⟨by omega, by omega⟩) (by omega) (by rw [hck]; omega))) : Q := h
theorem B4R (bx : Nat) : ∀ (e : Tm) (d : Int) (cx : Cx) (l0 : Int) (G : IM) (pc : Option Addr) (nc cc : Nat) (cells : List Value), N7 12 14 e d = true → (nc : Int) ≤ d → X9 cx → S3 G cx pc nc cc → B0 G e cells → 0 ≤ l0 → l0 + (D3 e : Int) ≤ 1000000000 →
  Fn Tryz.prog 61 [.pointer (some ⟨bx, 0, none⟩), .slice pc nc cc, .agg ⟨cells⟩] [.blk bx [.int .i64 l0]] G (ElP bx cx e l0) := by
 refine Tm.ind fun k nm num ty fr lb ks ih d cx l0 G pc nc cc cells hv hnd hcv hx hr hl0 hlc => ?_
 have hr0 := hr
 have hone := hr.one
 obtain ⟨hv1, hv2, hv3, hv4⟩ := A0D hv
 have hvk := (A09 12 14 ks _).1 hv4
 have har := (U3.1 hv3).1
 have hop := A2Q har
 obtain ⟨hta, hts⟩ := A2R hv3
 have hkr : 1 ≤ k ∧ k ≤ 14 := A3U (by rw [har]; omega)
 have hcvX : X9 (K2 cx k nm ty) := A3L hcv fun hk => (U3.1 hv3).2.2.2.2.2.1 (.inl hk)
 have hck : D3 (.mk k nm num ty fr lb ks) = E4 ks + 1 := W9 ..
 rw [hck] at hlc
 obtain ⟨tk, tks⟩ := ty
 obtain ⟨fk, fks⟩ := fr
 obtain ⟨pt, ct, pf, cf, q, cq, es, rfl, hk, hnum, hlb, hty, hfr, hsl, hkl⟩ := hr.open9
 have hlen : ks.length ≤ 3 := by have := A1a k; omega
 obtain ⟨hx1, esx, hx2, hx3⟩ := id hx
 have hcl := B3r G pc nc cc esx hx2 (by omega)
 have hcnt0 := A5v ks
 refine C3 Tryz.func61 rfl Tryz.ntmps61 Tryz.results61 rfl ?_
 intro w0
 refine A3 ?_
 refine sE (C8 rfl rfl) rfl (fun b3 => ?_)
 refine sE (A6 rfl) rfl (fun b4 => ?_)
 refine sE (A6 rfl) rfl (fun b5 => ?_)
 refine J2 ?_
 (show I4 _ _ (.seq (.region 2 _ _) (.cond (.tmp 25) _ _)) _ _; refine Y7 (fun (x : Option Addr × Nat × Nat × IM) => ⟨[(9, .slice x.1 x.2.1 x.2.2.1), (1, .slice pc nc cc), (0, .pointer (some ⟨bx, 0, none⟩)), (5, .pointer (some ⟨b3, 0, none⟩)), (6, .pointer (some ⟨b4, 0, none⟩)), (7, .pointer (some ⟨b5, 0, none⟩))], [.blk b5 [.int .i64 0, .slice none 0 0], .blk b4 [.int .i64 0, .string ⟨⟨[]⟩⟩, .int .i64 0, .int .i64 0, .slice none 0 0, .int .i64 0, .slice none 0 0, .int .i64 0, .slice none 0 0], .blk b3 [.int .i64 k, .string nm, .int .i64 num, .int .i64 tk, .slice pt tks.length ct, .int .i64 fk, .slice pf fks.length cf, .int .i64 lb, .slice q ks.length cq], .blk bx [.int .i64 l0]], x.2.2.2⟩) (fun x => C0 G x.2.2.2 ∧ S3 x.2.2.2 (K2 cx k nm (.mk tk tks)) x.1 x.2.1 x.2.2.1 ∧ x.2.1 ≤ nc + 1) ?_ ?_)
 ·refine B1 ?_
  refine sB (qE rfl rfl) rfl rfl (fun h21 => ?_) (fun h21 => ?_)
  ·refine B6 ?_
   refine D7 D8 rfl ?_
   refine I9 (i := 0) (l' := [tt,ff,ff,ff,ff,ff,ff,ff,ff,ff]) rfl D1 (qM rfl) rfl (by kernel_rfl) rfl rfl ?_
   refine aP 2 rfl (B5 rfl) rfl ?_
   refine aL 3 rfl (C4 rfl rfl) rfl ?_
   refine aP 4 rfl (B5 rfl) rfl ?_
   refine aL 5 rfl (A4 rfl rfl) rfl ?_
   refine aP 6 rfl (V6 rfl rfl) rfl ?_
   refine Q2 (j := 1) (j' := 7) (by kernel_rfl) ?_ ?_
   ·(refine A7r rfl rfl hcl rfl rfl rfl (fun v33 G33 outs33 hle33 h33 => ?_); obtain ⟨hG, p1, c1, rfl, rfl⟩ := h33; replace hG := hG.symm; subst hG)
    replace hr := hr.mono hle33
    replace hr0 := hr0.mono hle33
    replace hty := hty.mono hle33
    replace hfr := hfr.mono hle33
    replace hsl := hsl.mono hle33
    replace hkl := hkl.mono hle33
    replace hx2 := hx2.mono hle33
    refine A1 7 ?_
    (refine E3 rfl (C7 rfl rfl rfl (by omega) (by unfold maxLen; omega) rfl) rfl rfl ?_; rintro _ ⟨b35, rfl⟩)
    refine A1 8 ?_
    (refine Q6 rfl rfl rfl rfl rfl rfl (fun _ _ => by repeat (first | exact Sw.here | apply Sw.there)) (M6 (by repeat first | exact mH | apply mT)) rfl (by simp [Value.oneCell']) (by unfold maxLen; omega) (by omega) rfl rfl (by repeat (first | exact A7.nil | apply A7.dep (by decide +kernel) | apply A7.blk (by decide +kernel) (by repeat (first | exact Pk.here | apply Pk.there)) (by repeat first | exact mH | apply mT))) (fun p5 c5 => ?_); refine A4g (cs := esx.flatten ++ [.string nm, .int .i64 tk, .slice pt tks.length ct]) (by repeat (first | exact Pk.here | apply Pk.there)) (fun Gf hleF hslF hnoF => ?_); have hxF := S3.snoc (nm := nm) (t := .mk tk tks) hx1 hx2.len hx2.all hx2.one hx3 hleF ⟨_, _, rfl, hty.mono hleF⟩ hslF)
    refine aP 9 rfl (qA rfl) rfl ?_
    refine aD' ?_
    refine P0 (p5, nc + 1, c5, Gf) (L3 (by repeat (first | exact E1.nil | refine E1.cons rfl ?_)) (by repeat (first | exact A0.refl | exact A0.nil | refine A0.cons (by repeat (first | exact Pk.here | apply Pk.there)) ?_ | apply A0.drop))) ⟨hleF, by (dsimp only; rw [K2, if_pos (by omega)]; exact hxF), by (dsimp only; omega)⟩
   ·(refine E3 rfl (C7 rfl rfl rfl (by omega) (by unfold maxLen; omega) rfl) rfl rfl ?_; rintro _ ⟨b41, rfl⟩)
    refine A1 1 ?_
    (refine A7r rfl rfl hcl rfl rfl rfl (fun v43 G43 outs43 hle43 h43 => ?_); obtain ⟨hG, p1, c1, rfl, rfl⟩ := h43; replace hG := hG.symm; subst hG)
    replace hr := hr.mono hle43
    replace hr0 := hr0.mono hle43
    replace hty := hty.mono hle43
    replace hfr := hfr.mono hle43
    replace hsl := hsl.mono hle43
    replace hkl := hkl.mono hle43
    replace hx2 := hx2.mono hle43
    refine A1 8 ?_
    (refine Q6 rfl rfl rfl rfl rfl rfl (fun _ _ => by repeat (first | exact Sw.here | apply Sw.there)) (M6 (by repeat first | exact mH | apply mT)) rfl (by simp [Value.oneCell']) (by unfold maxLen; omega) (by omega) rfl rfl (by repeat (first | exact A7.nil | apply A7.dep (by decide +kernel) | apply A7.blk (by decide +kernel) (by repeat (first | exact Pk.here | apply Pk.there)) (by repeat first | exact mH | apply mT))) (fun p5 c5 => ?_); refine A4g (cs := esx.flatten ++ [.string nm, .int .i64 tk, .slice pt tks.length ct]) (by repeat (first | exact Pk.here | apply Pk.there)) (fun Gf hleF hslF hnoF => ?_); have hxF := S3.snoc (nm := nm) (t := .mk tk tks) hx1 hx2.len hx2.all hx2.one hx3 hleF ⟨_, _, rfl, hty.mono hleF⟩ hslF)
    refine aP 9 rfl (qA rfl) rfl ?_
    refine aD' ?_
    refine P0 (p5, nc + 1, c5, Gf) (L3 (by repeat (first | exact E1.nil | refine E1.cons rfl ?_)) (by repeat (first | exact A0.refl | exact A0.nil | refine A0.cons (by repeat (first | exact Pk.here | apply Pk.there)) ?_ | apply A0.drop))) ⟨hleF, by (dsimp only; rw [K2, if_pos (by omega)]; exact hxF), by (dsimp only; omega)⟩
  ·refine B1 ?_
   refine P0 (pc, nc, cc, G) (L3 (by repeat (first | exact E1.nil | refine E1.cons rfl ?_)) (by repeat (first | exact A0.refl | exact A0.nil | refine A0.cons (by repeat (first | exact Pk.here | apply Pk.there)) ?_ | apply A0.drop))) ⟨C0.refl _, by (dsimp only; rw [K2, if_neg (by omega)]; exact hx), by (dsimp only; omega)⟩
 ·(rintro ⟨p6, n6, c6, Gx⟩ ⟨hleX, hxX, hn6⟩; simp only [] at hleX hxX hn6 ⊢; replace hsl := hsl.mono hleX; replace hkl := hkl.mono hleX; replace hx := hx.mono hleX; replace hr0 := hr0.mono hleX; replace hty := hty.mono hleX; replace hfr := hfr.mono hleX)
  refine B6 ?_
  refine sE (A6 rfl) rfl (fun b58 => ?_)
  refine A0O ?_
  refine C1 ?_
  (refine S0 37 9 ?_; refine S0 34 2 ?_; refine J8 (fun (x : Nat × (Option Addr × Nat × List Tm × List (List Value)) × (Option Addr × Nat × List Ty × List (List Value)) × Int × IM) => ⟨[(40, .int .i64 x.1), (39, .int .i64 ks.length), (38, .slice q ks.length cq), (11, .slice x.2.2.1.1 x.1 x.2.2.1.2.1), (9, .slice p6 n6 c6), (1, .slice pc nc cc), (0, .pointer (some ⟨bx, 0, none⟩)), (5, .pointer (some ⟨b3, 0, none⟩)), (6, .pointer (some ⟨b4, 0, none⟩)), (7, .pointer (some ⟨b5, 0, none⟩)), (10, .pointer (some ⟨b58, 0, none⟩))], [.blk b58 [.int .i64 k, .string nm, .int .i64 num, .int .i64 tk, .slice pt tks.length ct, .int .i64 fk, .slice pf fks.length cf, .int .i64 lb, .slice x.2.1.1 x.1 x.2.1.2.1], .slc x.2.1.1 x.2.1.2.1 37 9 x.1 x.2.1.2.2.2.flatten, .slc x.2.2.1.1 x.2.2.1.2.1 34 2 x.1 x.2.2.1.2.2.2.flatten, .blk b5 [.int .i64 0, .slice none 0 0], .blk b4 [.int .i64 0, .string ⟨⟨[]⟩⟩, .int .i64 0, .int .i64 0, .slice none 0 0, .int .i64 0, .slice none 0 0, .int .i64 0, .slice none 0 0], .blk b3 [.int .i64 k, .string nm, .int .i64 num, .int .i64 tk, .slice pt tks.length ct, .int .i64 fk, .slice pf fks.length cf, .int .i64 lb, .slice q ks.length cq], .blk bx [.int .i64 x.2.2.2.1]], x.2.2.2.2⟩) (fun x => x.1 ≤ ks.length ∧ C0 Gx x.2.2.2.2 ∧ x.2.1.2.2.1.length = x.1 ∧ D0 x.2.2.2.2 x.2.1.2.2.1 x.2.1.2.2.2 ∧ x.2.2.1.2.2.1.length = x.1 ∧ D2 x.2.2.2.2 x.2.2.1.2.2.1 x.2.2.1.2.2.2 ∧ (∀ t ∈ x.2.2.1.2.2.1, E5 t) ∧ M3 (K2 cx k nm (.mk tk tks)) (ks.take x.1) l0 = some (x.2.1.2.2.1, x.2.2.1.2.2.1, x.2.2.2.1) ∧ l0 ≤ x.2.2.2.1 ∧ x.2.2.2.1 + x.1 ≤ l0 + (E4 (ks.take x.1) : Int)) (fun x => ks.length - x.1) (0, (none, 0, [], []), (none, 0, [], []), l0, Gx) ?_ ?_ ?_)
  ·(simp only [List.take_zero, A0v]; exact (L3 (by repeat (first | exact E1.nil | refine E1.cons rfl ?_)) (by repeat (first | exact A0.refl | exact A0.nil | refine A0.cons (by repeat (first | exact Pk.here | apply Pk.there)) ?_ | apply A0.drop))))
  ·(exact ⟨by simp, C0.refl _, rfl, by simp [D0], rfl, by simp [D2], by simp, by simp [M3], Int.le_refl _, by simp [E4]⟩)
  ·(rintro ⟨i, ⟨pn, cn, us, es'⟩, ⟨pm, cm, ts, ess⟩, l, Gi⟩ ⟨hi, hle, hlu, hst, hlt, hstt, hat, hml, hl1, hl2⟩; simp only [] at hi hle hlu hst hlt hstt hat hml hl1 hl2 ⊢; replace hty := hty.mono hle; replace hfr := hfr.mono hle; replace hsl := hsl.mono hle; replace hkl := hkl.mono hle; replace hr0 := hr0.mono hle; replace hx := hx.mono hle; replace hxX := hxX.mono hle)
   refine A3 ?_
   refine sB (J1 rfl rfl) rfl rfl (fun h89 => ?_) (fun h89 => ?_)
   ·refine B2 ?_
    refine C1 ?_
    refine A3 ?_
    (obtain ⟨b, o, e, rfl, hl, hate, hre, hgb⟩ := hsl.kidTm hkl (i := i) (by omega) (by omega); have hon := hre.one; have hsc := A0S (ks := ks) (i := i) (by omega); have hsk := A0R (ks := ks) (i := i) (by omega); refine sP (B4 rfl rfl rfl (by omega)) rfl rfl ?_)
    refine sL (A2 rfl rfl (hate _) hl) rfl rfl ?_
    refine sE (A6 rfl) rfl (fun b102 => ?_)
    refine sS rfl rfl rfl hl hon rfl ?_ (hu := by exact D6 hl.symm)
    refine A8 ?_
    refine sL (A2 rfl rfl (B3 (by repeat first | exact mH | apply mT)) hl) rfl rfl ?_
    (refine I8 rfl (ih ks[i] (List.getElem_mem (by omega)) (d + 1) _ l Gi p6 n6 c6 _ (hvk i (by omega)) (by omega) hcvX hxX hre (by omega) (by omega)) (Pk.perm (by repeat (first | exact Pk.here | apply Pk.there))) rfl rfl (fun v G3 outs hle3 hh => ?_); obtain ⟨u, uc, t, tc, l3, rfl, rfl, hru, hrt, hl3, hl4, hu⟩ := hh; obtain ⟨v1, v2, v3, v4, v5, v6, v7, v8, v9, rfl⟩ := nine hru.len; obtain ⟨p3, c3, e3, rfl, _⟩ := hrt.open; have hlu9 := hru.len; have hou9 := hru.one; rcases hE : M9 (K2 cx k nm (Ty.mk tk tks)) ks[i] l with _ | ⟨u2, t2, l2⟩; rotate_left; have hue := hu _ hE; simp only [Prod.mk.injEq] at hue; obtain ⟨rfl, rfl, rfl⟩ := hue; rotate_left)
    ·refine B1 ?_
     refine sE (A6 rfl) rfl (fun b116 => ?_)
     refine sE (A6 rfl) rfl (fun b117 => ?_)
     refine sS rfl rfl rfl hlu9 hou9 rfl ?_ (hu := by exact D6 hlu9.symm)
     refine A7q ?_
     refine A2r (outs := [.blk bx [.int .i64 _]]) (rC rfl (A4 rfl rfl)) (rC rfl (A4 rfl rfl)) (rT rfl) (A0.cons (by repeat (first | exact Pk.here | apply Pk.there)) A0.nil) ?_
     (exact ElP.no (B4P (A59 (by omega) hml hE)) (O6 _) (O0 _ ⟨by omega, by omega⟩) (by omega) (by rw [hck]; omega))
    ·refine B1 ?_
     refine sE (A6 rfl) rfl (fun b153 => ?_)
     refine sE (A6 rfl) rfl (fun b154 => ?_)
     refine sS rfl rfl rfl hlu9 hou9 rfl ?_ (hu := by exact D6 hlu9.symm)
     refine J3 ?_
     refine D7 D8 rfl ?_
     refine I9 (i := 0) (l' := [tt,ff,ff,ff,ff,ff,ff,ff,ff,ff,ff,ff]) rfl D1 (B5 rfl) rfl (by kernel_rfl) rfl rfl ?_
     refine aL 1 rfl (C4 rfl rfl) rfl ?_
     refine aL 2 rfl (A4 rfl rfl) rfl ?_
     refine aP 5 rfl (qM rfl) rfl ?_
     refine aL 6 rfl (A4 rfl rfl) rfl ?_
     refine Q2 (j := 3) (j' := 7) (by kernel_rfl) ?_ ?_
     ·(refine E3 rfl (C7 rfl rfl rfl (by omega) (by unfold maxLen; omega) rfl) rfl rfl ?_; rintro _ ⟨b177, rfl⟩)
      refine Q2 (j := 4) (j' := 7) (by kernel_rfl) ?_ ?_
      ·(refine Q6 rfl rfl rfl rfl rfl rfl (fun _ _ => by repeat (first | exact Sw.here | apply Sw.there)) (M6 (by repeat first | exact mH | apply mT)) rfl (fun u hu => List.all_eq_true.1 hou9 u hu) (by unfold maxLen; omega) (by omega) rfl rfl (by repeat (first | exact A7.nil | apply A7.dep (by decide +kernel) | apply A7.im (by decide +kernel) (by assumption) (by repeat first | exact mH | apply mT) | apply A7.blk (by decide +kernel) (by repeat (first | exact Pk.here | apply Pk.there)) (by repeat first | exact mH | apply mT) | apply A7.slc (by decide +kernel) (by repeat (first | exact Pk.here | apply Pk.there)) (by repeat first | exact mH | apply mT))) (fun pn' cn' => ?_))
       refine aP 9 rfl (B5 rfl) rfl ?_
       refine A1 7 ?_
       (refine E3 rfl (C7 rfl rfl rfl (by omega) (by unfold maxLen; omega) rfl) rfl rfl ?_; rintro _ ⟨b182, rfl⟩)
       refine A1 8 ?_
       (refine Q6 rfl rfl rfl rfl rfl rfl (fun _ _ => by repeat (first | exact Sw.here | apply Sw.there)) (M6 (by repeat first | exact mH | apply mT)) rfl (by simp [Value.oneCell']) (by unfold maxLen; omega) (by omega) rfl rfl (by repeat (first | exact A7.nil | apply A7.dep (by decide +kernel) | apply A7.im (by decide +kernel) (by assumption) (by repeat first | exact mH | apply mT) | apply A7.blk (by decide +kernel) (by repeat (first | exact Pk.here | apply Pk.there)) (by repeat first | exact mH | apply mT) | apply A7.slc (by decide +kernel) (by repeat (first | exact Pk.here | apply Pk.there)) (by repeat first | exact mH | apply mT))) (fun pm' cm' => ?_))
       refine A1 10 ?_
       refine oS rfl rfl rfl rfl rfl rfl rfl rfl ?_
       refine aP 11 rfl (qA rfl) rfl ?_
       refine B1 ?_
       refine sP (J0 rfl rfl (by omega) (by omega)) rfl rfl ?_
       refine A3 ?_
       refine J6 (i + 1, (pn', cn', us ++ [u2], es' ++ [[v1, v2, v3, v4, v5, v6, v7, v8, v9]]), (pm', cm', ts ++ [t2], ess ++ [[.int .i64 t2.k, .slice p3 t2.ks.length c3]]), l2, G3) ?_ ?_ ?_
       ·(simp only [I5]; exact E2)
       ·(dsimp only; exact ⟨by omega, hle.trans hle3, by simp [hlu], D0.snoc (hst.mono hle3) hru, by simp [hlt], D2.snoc (hstt.mono hle3) hrt, A2P hat (A2s ((A2X ks[i] (d + 1) _ l (hvk i (by omega)) hcvX).1 _ _ _ hE).2), A3O (by omega) hml hE, by omega, by omega⟩)
       ·(show ks.length - (i + 1) < ks.length - i; omega)
      ·(refine E3 rfl (C7 rfl rfl rfl (by omega) (by unfold maxLen; omega) rfl) rfl rfl ?_; rintro _ ⟨b199, rfl⟩)
       refine A1 4 ?_
       (refine Q6 rfl rfl rfl rfl rfl rfl (fun _ _ => by repeat (first | exact Sw.here | apply Sw.there)) (M6 (by repeat first | exact mH | apply mT)) rfl (fun u hu => List.all_eq_true.1 hou9 u hu) (by unfold maxLen; omega) (by omega) rfl rfl (by repeat (first | exact A7.nil | apply A7.dep (by decide +kernel) | apply A7.im (by decide +kernel) (by assumption) (by repeat first | exact mH | apply mT) | apply A7.blk (by decide +kernel) (by repeat (first | exact Pk.here | apply Pk.there)) (by repeat first | exact mH | apply mT) | apply A7.slc (by decide +kernel) (by repeat (first | exact Pk.here | apply Pk.there)) (by repeat first | exact mH | apply mT))) (fun pn' cn' => ?_))
       refine aP 9 rfl (B5 rfl) rfl ?_
       refine A1 8 ?_
       (refine Q6 rfl rfl rfl rfl rfl rfl (fun _ _ => by repeat (first | exact Sw.here | apply Sw.there)) (M6 (by repeat first | exact mH | apply mT)) rfl (by simp [Value.oneCell']) (by unfold maxLen; omega) (by omega) rfl rfl (by repeat (first | exact A7.nil | apply A7.dep (by decide +kernel) | apply A7.im (by decide +kernel) (by assumption) (by repeat first | exact mH | apply mT) | apply A7.blk (by decide +kernel) (by repeat (first | exact Pk.here | apply Pk.there)) (by repeat first | exact mH | apply mT) | apply A7.slc (by decide +kernel) (by repeat (first | exact Pk.here | apply Pk.there)) (by repeat first | exact mH | apply mT))) (fun pm' cm' => ?_))
       refine A1 10 ?_
       refine oS rfl rfl rfl rfl rfl rfl rfl rfl ?_
       refine aP 11 rfl (qA rfl) rfl ?_
       refine B1 ?_
       refine sP (J0 rfl rfl (by omega) (by omega)) rfl rfl ?_
       refine A3 ?_
       refine J6 (i + 1, (pn', cn', us ++ [u2], es' ++ [[v1, v2, v3, v4, v5, v6, v7, v8, v9]]), (pm', cm', ts ++ [t2], ess ++ [[.int .i64 t2.k, .slice p3 t2.ks.length c3]]), l2, G3) ?_ ?_ ?_
       ·(simp only [I5]; exact E2)
       ·(dsimp only; exact ⟨by omega, hle.trans hle3, by simp [hlu], D0.snoc (hst.mono hle3) hru, by simp [hlt], D2.snoc (hstt.mono hle3) hrt, A2P hat (A2s ((A2X ks[i] (d + 1) _ l (hvk i (by omega)) hcvX).1 _ _ _ hE).2), A3O (by omega) hml hE, by omega, by omega⟩)
       ·(show ks.length - (i + 1) < ks.length - i; omega)
     ·(refine E3 rfl (C7 rfl rfl rfl (by omega) (by unfold maxLen; omega) rfl) rfl rfl ?_; rintro _ ⟨b219, rfl⟩)
      refine A1 3 ?_
      (refine E3 rfl (C7 rfl rfl rfl (by omega) (by unfold maxLen; omega) rfl) rfl rfl ?_; rintro _ ⟨b221, rfl⟩)
      refine A1 4 ?_
      (refine Q6 rfl rfl rfl rfl rfl rfl (fun _ _ => by repeat (first | exact Sw.here | apply Sw.there)) (M6 (by repeat first | exact mH | apply mT)) rfl (fun u hu => List.all_eq_true.1 hou9 u hu) (by unfold maxLen; omega) (by omega) rfl rfl (by repeat (first | exact A7.nil | apply A7.dep (by decide +kernel) | apply A7.im (by decide +kernel) (by assumption) (by repeat first | exact mH | apply mT) | apply A7.blk (by decide +kernel) (by repeat (first | exact Pk.here | apply Pk.there)) (by repeat first | exact mH | apply mT) | apply A7.slc (by decide +kernel) (by repeat (first | exact Pk.here | apply Pk.there)) (by repeat first | exact mH | apply mT))) (fun pn' cn' => ?_))
      refine aP 9 rfl (B5 rfl) rfl ?_
      refine A1 8 ?_
      (refine Q6 rfl rfl rfl rfl rfl rfl (fun _ _ => by repeat (first | exact Sw.here | apply Sw.there)) (M6 (by repeat first | exact mH | apply mT)) rfl (by simp [Value.oneCell']) (by unfold maxLen; omega) (by omega) rfl rfl (by repeat (first | exact A7.nil | apply A7.dep (by decide +kernel) | apply A7.im (by decide +kernel) (by assumption) (by repeat first | exact mH | apply mT) | apply A7.blk (by decide +kernel) (by repeat (first | exact Pk.here | apply Pk.there)) (by repeat first | exact mH | apply mT) | apply A7.slc (by decide +kernel) (by repeat (first | exact Pk.here | apply Pk.there)) (by repeat first | exact mH | apply mT))) (fun pm' cm' => ?_))
      refine A1 10 ?_
      refine oS rfl rfl rfl rfl rfl rfl rfl rfl ?_
      refine aP 11 rfl (qA rfl) rfl ?_
      refine B1 ?_
      refine sP (J0 rfl rfl (by omega) (by omega)) rfl rfl ?_
      refine A3 ?_
      refine J6 (i + 1, (pn', cn', us ++ [u2], es' ++ [[v1, v2, v3, v4, v5, v6, v7, v8, v9]]), (pm', cm', ts ++ [t2], ess ++ [[.int .i64 t2.k, .slice p3 t2.ks.length c3]]), l2, G3) ?_ ?_ ?_
      ·(simp only [I5]; exact E2)
      ·(dsimp only; exact ⟨by omega, hle.trans hle3, by simp [hlu], D0.snoc (hst.mono hle3) hru, by simp [hlt], D2.snoc (hstt.mono hle3) hrt, A2P hat (A2s ((A2X ks[i] (d + 1) _ l (hvk i (by omega)) hcvX).1 _ _ _ hE).2), A3O (by omega) hml hE, by omega, by omega⟩)
      ·(show ks.length - (i + 1) < ks.length - i; omega)
   ·refine J3 ?_
    (obtain rfl : i = ks.length := (by omega); have hk14 : k ≠ 14 := hv2; rw [List.take_length] at hml hl2; refine S9 (cs := ess.flatten) (by repeat (first | exact Pk.here | apply Pk.there)) (fun G3 hle3 hsl3 hno3 => ?_); have hst3 := hstt.mono hle3; have hslU : D5 G3 pm ks.length cm 2 ess := D5.of hsl3 (by rw [hst3.len, hlt]) hst3.all (fun e he => (hst3.each e he).2); refine E7 rfl (B3o cx k nm num (.mk tk tks) (.mk fk fks) lb ks ts G3 pc nc cc _ pm ks.length cm ess (hx.mono hle3) har hlt.symm hk14 hta (hr0.mono hle3) hslU hst3 hat) rfl rfl (fun v G4 hle4 hh => ?_); obtain ⟨pw, nw, cw, ew, w, wc, wt, rfl, hnw, hslw, hstw, hrt, hw⟩ := hh; obtain ⟨p3, c3, e3, rfl, _⟩ := hrt.open; replace hst3 := hst3.mono hle4; replace hslU := hslU.mono hle4; have hle34 := hle3.trans hle4; replace hst := hst.mono hle34; replace hty := hty.mono hle34; replace hfr := hfr.mono hle34; rcases hmw : K8 cx k nm (Ty.mk tk tks) ts with _ | ⟨w2, t2⟩; rotate_left; have hwe := hw _ hmw; simp only [Prod.mk.injEq] at hwe; obtain ⟨rfl, rfl⟩ := hwe; have hwl := B3q (by rw [hlt]; exact hop) hkr hk14 hmw; have hcl2 := A1d us ts w2 l; rcases Nat.eq_zero_or_pos ks.length with h0 | h0; rotate_left; rotate_left)
    ·refine B1 ?_
     refine sE (A6 rfl) rfl (fun b260 => ?_)
     refine A7p ?_
     (refine F9 (cs := es'.flatten) (by repeat (first | exact Pk.here | apply Pk.there)) (fun G8 hle8 hsl8 hno8 => ?_); have hst8 := hst.mono hle8)
     refine A3 ?_
     refine A2r (outs := [.blk bx [.int .i64 _]]) (rC rfl (A4 rfl rfl)) (rC rfl (A4 rfl rfl)) (rT rfl) (A0.cons (by repeat (first | exact Pk.here | apply Pk.there)) A0.nil) ?_
     (exact ElP.no (A9Z hml (B3s hmw)) (O6 _) (O0 _ ⟨by omega, by omega⟩) (by omega) (by rw [hck]; omega))
    ·refine B1 ?_
     refine sE (A6 rfl) rfl (fun b297 => ?_)
     refine N0 ?_
     refine F8 rfl ((A3s _ _ _ hrt)) rfl rfl (fun h310 => ?_) (fun h310 => ?_)
     ·refine I0 ?_
      refine C1 ?_
      (have h0' : ks.length = 0 := h0; refine J8 (fun (_ : Nat) => ⟨[(86, .int .i64 0), (85, .int .i64 nw), (84, .slice pw nw cw), (11, .slice pm ks.length cm), (1, .slice pc nc cc), (0, .pointer (some ⟨bx, 0, none⟩)), (5, .pointer (some ⟨b3, 0, none⟩)), (6, .pointer (some ⟨b4, 0, none⟩)), (7, .pointer (some ⟨b5, 0, none⟩)), (10, .pointer (some ⟨b58, 0, none⟩)), (18, .pointer (some ⟨b297, 0, none⟩))], [.blk b297 [.int .i64 t2.k, .slice p3 t2.ks.length c3], .blk b58 [.int .i64 k, .string nm, .int .i64 num, .int .i64 tk, .slice pt tks.length ct, .int .i64 fk, .slice pf fks.length cf, .int .i64 lb, .slice pn ks.length cn], .slc pn cn 37 9 ks.length es'.flatten, .blk b5 [.int .i64 0, .slice none 0 0], .blk b4 [.int .i64 0, .string ⟨⟨[]⟩⟩, .int .i64 0, .int .i64 0, .slice none 0 0, .int .i64 0, .slice none 0 0, .int .i64 0, .slice none 0 0], .blk b3 [.int .i64 k, .string nm, .int .i64 num, .int .i64 tk, .slice pt tks.length ct, .int .i64 fk, .slice pf fks.length cf, .int .i64 lb, .slice q ks.length cq], .blk bx [.int .i64 l]], G4⟩) (fun _ => True) (fun i => i) 0 ?_ ?_ ?_)
      ·exact E2
      ·trivial
      ·(rintro (i0 : Nat) _)
       refine A3 ?_
       refine sP (A2C rfl rfl (by omega)) rfl rfl ?_
       refine J3 ?_
       refine sP (H9 rfl rfl (by omega)) rfl rfl ?_
       refine A8 ?_
       refine D7 D8 rfl ?_
       refine K7 (i := 0) (l' := [tt,ff,ff,ff,ff]) rfl D1 (A4 rfl rfl) rfl (by kernel_rfl) rfl rfl ?_
       refine aL 1 rfl (A4 rfl rfl) rfl ?_
       refine A1 2 ?_
       refine oS rfl rfl rfl rfl rfl rfl rfl rfl ?_
       refine A1 3 ?_
       refine oS rfl rfl rfl rfl rfl rfl rfl rfl ?_
       refine aP 4 rfl (qA rfl) rfl ?_
       refine A3 ?_
       (refine F9 (cs := es'.flatten) (by repeat (first | exact Pk.here | apply Pk.there)) (fun G8 hle8 hsl8 hno8 => ?_); have hst8 := hst.mono hle8)
       refine tT ?_
       refine A2r (outs := [.blk bx [.int .i64 _]]) (rC rfl (A4 rfl rfl)) (rC rfl (A4 rfl rfl)) (rT rfl) (A0.cons (by repeat (first | exact Pk.here | apply Pk.there)) A0.nil) ?_
       (obtain rfl : w2 = [] := List.length_eq_zero_iff.1 (by omega); have hne : k ≠ 13 := (fun h => by have := hop.2.2 (.inr (.inr (.inr h))); omega); have hel := A90 (num := num) (fr := .mk fk fks) (lb := lb) hml (A4I hmw (b := true) (by assumption)) hne; rw [A0v] at hel; exact ElP.yes hel (B0.put hk hnum hlb (hty.mono hle8) (hfr.mono hle8) (by rw [hlu]) (D5.of hsl8 (by rw [hst8.len, hlu]) hst8.all (fun e he => (hst8.each e he).2)) hst8) (hrt.mono hle8) (by omega) (by rw [hck]; omega))
     ·refine J3 ?_
      (refine F9 (cs := es'.flatten) (by repeat (first | exact Pk.here | apply Pk.there)) (fun G8 hle8 hsl8 hno8 => ?_); have hst8 := hst.mono hle8)
      refine A3 ?_
      refine A2r (outs := [.blk bx [.int .i64 _]]) (rC rfl (A4 rfl rfl)) (rC rfl (A4 rfl rfl)) (rT rfl) (A0.cons (by repeat (first | exact Pk.here | apply Pk.there)) A0.nil) ?_
      exact A92
    ·(refine A3E (cs := es'.flatten) (by repeat (first | exact Pk.here | apply Pk.there)) h0 (fun bc C hpe hnc hcm => ?_); subst hpe; refine sQ (qM rfl) rfl ?_)
     refine B6 ?_
     refine sE (A6 rfl) rfl (fun b392 => ?_)
     refine N0 ?_
     refine F8 rfl ((A3s _ _ _ hrt)) rfl rfl (fun h405 => ?_) (fun h405 => ?_)
     ·refine I0 ?_
      refine C1 ?_
      (have h0' := h0; refine J8 (fun (x : Nat × List (List Value) × IM) => ⟨[(86, .int .i64 x.1), (85, .int .i64 nw), (84, .slice pw nw cw), (11, .slice pm ks.length cm), (1, .slice pc nc cc), (0, .pointer (some ⟨bx, 0, none⟩)), (5, .pointer (some ⟨b3, 0, none⟩)), (6, .pointer (some ⟨b4, 0, none⟩)), (7, .pointer (some ⟨b5, 0, none⟩)), (10, .pointer (some ⟨b58, 0, none⟩)), (18, .pointer (some ⟨b392, 0, none⟩))], [.blk b392 [.int .i64 t2.k, .slice p3 t2.ks.length c3], .blk b58 [.int .i64 k, .string nm, .int .i64 num, .int .i64 tk, .slice pt tks.length ct, .int .i64 fk, .slice pf fks.length cf, .int .i64 lb, .slice (some ⟨bc, 0, none⟩) ks.length cn], .blk bc (x.2.1.flatten ++ C), .blk b5 [.int .i64 0, .slice none 0 0], .blk b4 [.int .i64 0, .string ⟨⟨[]⟩⟩, .int .i64 0, .int .i64 0, .slice none 0 0, .int .i64 0, .slice none 0 0, .int .i64 0, .slice none 0 0], .blk b3 [.int .i64 k, .string nm, .int .i64 num, .int .i64 tk, .slice pt tks.length ct, .int .i64 fk, .slice pf fks.length cf, .int .i64 lb, .slice q ks.length cq], .blk bx [.int .i64 (F4 us ts (w2.take x.1) l).2]], x.2.2⟩) (fun x => x.1 ≤ nw ∧ C0 G4 x.2.2 ∧ D0 x.2.2 (F4 us ts (w2.take x.1) l).1 x.2.1) (fun x => nw - x.1) (0, es', G4) ?_ ?_ ?_)
      ·(simp only [List.take_zero, A0v]; exact (L3 (by repeat (first | exact E1.nil | refine E1.cons rfl ?_)) (by repeat (first | exact A0.refl | exact A0.nil | refine A0.cons (by repeat (first | exact Pk.here | apply Pk.there)) ?_ | apply A0.drop))))
      ·(exact ⟨Nat.zero_le _, C0.refl _, by simp only [List.take_zero, A0v]; exact hst⟩)
      ·(rintro ⟨j, es2, G6⟩ ⟨hj, hle6, hst2⟩; simp only [] at hj hle6 hst2 ⊢; replace hslw := hslw.mono hle6; replace hstw := hstw.mono hle6; replace hslU := hslU.mono hle6; replace hst3 := hst3.mono hle6; replace hty := hty.mono hle6; replace hfr := hfr.mono hle6; replace hrt := hrt.mono hle6; have hall2 := hst2.all; have hle2s := hst2.len; rw [A1H] at hle2s)
       refine A3 ?_
       refine sB (J1 rfl rfl) rfl rfl (fun h428 => ?_) (fun h428 => ?_)
       ·refine B2 ?_
        refine C1 ?_
        refine B6 ?_
        (have hjw : j < w2.length := (by omega); obtain ⟨b5w, o5w, q5, d5, hp5, hat, hrw, hgb⟩ := hslw.kidTy hstw (i := j) (by omega) (by omega); cases hp5; refine sP (B4 rfl rfl rfl (by omega)) rfl rfl ?_)
        refine sL (A2 rfl rfl (hat _) rfl) rfl rfl ?_
        refine sE (A6 rfl) rfl (fun b442 => ?_)
        refine B1 ?_
        (have hjw2 := hjw; obtain ⟨b0, o0, q0, d0, hp0, hat0, hre0, hg0⟩ := hslU.kidTy hst3 (i := j) (by omega) (by omega); cases hp0; obtain ⟨m1, m2, _⟩ := A3P us ts w2 l j hjw (by omega) (by omega); obtain ⟨m3, m4⟩ := A9k (us := us) (h := ts) (w := w2) (l := l) hjw (by omega) (by omega); obtain ⟨hE1, hE2⟩ := hst2.at2 (i := j) (by omega) (by omega); rw [m2] at hE2; have hE3 := hE2.len; have hE4 := hE2.one; have hcj := A1d us ts (w2.take j) l; refine D7 D8 rfl ?_)
        refine I9 (i := 0) (l' := [tt,ff,ff,ff,ff,ff,ff,ff,ff,ff,ff,ff,ff,ff,ff,ff,ff]) rfl D1 (B5 rfl) rfl (by kernel_rfl) rfl rfl ?_
        refine aL 1 rfl (C4 rfl rfl) rfl ?_
        refine aP 2 rfl (qM rfl) rfl ?_
        refine aP 3 rfl (qM rfl) rfl ?_
        refine aP 4 rfl (B5 rfl) rfl ?_
        refine aL 5 rfl (C4 rfl rfl) rfl ?_
        refine aP 6 rfl (qM rfl) rfl ?_
        refine aP 7 rfl (B4 (j := j) rfl rfl rfl (by omega)) rfl ?_
        refine aL 8 rfl (A2 rfl rfl (A4C (es := es2) (by repeat first | exact mH | apply mT) (by omega) hall2) hE3) rfl ?_
        refine aP 9 rfl (qM rfl) rfl ?_
        refine aP 10 rfl (qM rfl) rfl ?_
        refine aP 11 rfl (B4 (j := j) rfl rfl rfl (by omega)) rfl ?_
        refine aL 12 rfl (A2 rfl rfl (hat0 _) rfl) rfl ?_
        refine aL 13 rfl (A4 rfl rfl) rfl ?_
        refine A1 14 ?_
        (refine V9 (l' := [tt,tt,tt,tt,tt,tt,tt,tt,tt,tt,tt,tt,tt,tt,tt,ff,ff]) rfl rfl (B4O bx us[j] ts[j] w2[j] (F4 us ts (w2.take j) l).2 G6 _ _ _ (by omega) hE2 hre0 hrw) (Pk.perm (by repeat (first | exact Pk.here | apply Pk.there))) rfl rfl rfl (by repeat (first | exact A7.nil | apply A7.dep (by decide +kernel) | apply A7.im (by decide +kernel) (by assumption) (by repeat first | exact mH | apply mT) | apply A7.blk (by decide +kernel) (by repeat (first | exact Pk.here | apply Pk.there)) (by repeat first | exact mH | apply mT) | apply A7.slc (by decide +kernel) (by repeat (first | exact Pk.here | apply Pk.there)) (by repeat first | exact mH | apply mT))) (fun v G7 outs hle7 hh => ?_); obtain ⟨uc, rfl, rfl, hru⟩ := hh; rw [← m4]; have hlu9 := hru.len; have hou9 := hru.one)
        refine aP 15 rfl (B4 (j := j) rfl rfl rfl (by omega)) rfl ?_
        refine A1 16 ?_
        refine Q8 rfl rfl rfl rfl hlu9 hou9 rfl rfl (by kernel_rfl) (by repeat first | exact Sw.here | apply Sw.there) (by exact A3F (by omega) hall2 hlu9) ?_
        refine B1 ?_
        refine sP (J0 rfl rfl (by omega) (by omega)) rfl rfl ?_
        refine A3 ?_
        refine J6 (j + 1, es2.set j uc, G7) ?_ ?_ ?_
        ·(simp only [List.take_zero, A0v]; exact (L3 (by repeat (first | exact E1.nil | refine E1.cons rfl ?_)) (by repeat (first | exact A0.refl | exact A0.nil | refine A0.cons (by repeat (first | exact Pk.here | apply Pk.there)) ?_ | apply A0.drop))))
        ·(dsimp only; exact ⟨by omega, hle6.trans hle7, by rw [m3]; exact D0.set (hst2.mono hle7) hru⟩)
        ·(show nw - (j + 1) < nw - j; omega)
       ·refine J3 ?_
        refine sB (qE rfl rfl) rfl rfl (fun h492 => ?_) (fun h492 => ?_)
        ·refine B1 ?_
         (have hq13 : k = 13 := (by omega); have hl13 := hop.2.2 (.inr (.inr (.inr hq13))); have hjw : j = w2.length := (by omega); rw [hjw, List.take_length] at hst2; have hm0 := A1H us ts w2 l; obtain ⟨hE1, hE2⟩ := hst2.at2 (i := 0) (by omega) (by omega); have hE3 := hE2.len; have hE4 := hE2.one; refine D7 D8 rfl ?_)
         refine I9 (i := 0) (l' := [tt,ff,ff,ff,ff,ff,ff,ff]) rfl D1 (B5 rfl) rfl (by kernel_rfl) rfl rfl ?_
         refine aL 1 rfl (C4 rfl rfl) rfl ?_
         refine aP 2 rfl (B4 (j := 0) rfl rfl rfl (by omega)) rfl ?_
         refine aL 3 rfl (A2 rfl rfl (A4C (es := es2) (by repeat first | exact mH | apply mT) (by omega) hall2) hE3) rfl ?_
         refine aL 4 rfl (A4 rfl rfl) rfl ?_
         refine A1 5 ?_
         refine oS rfl rfl rfl rfl hE3 hE4 rfl rfl ?_ (hu := by exact D6 hE3.symm)
         refine A1 6 ?_
         refine oS rfl rfl rfl rfl rfl rfl rfl rfl ?_
         refine aP 7 rfl (qA rfl) rfl ?_
         refine A3 ?_
         (refine A16 (bs := [(bc, es2.flatten ++ C)]) (Pk.perm (by repeat (first | exact Pk.here | apply Pk.there))) (fun hn9 hd9 hle9 => ?_))
         refine A3 ?_
         refine A2r (outs := [.blk bx [.int .i64 _]]) (rC rfl (A2 rfl rfl (B3 (by repeat first | exact mH | apply mT)) hE3)) (rC rfl (A4 rfl rfl)) (rT rfl) (A0.cons (by repeat (first | exact Pk.here | apply Pk.there)) A0.nil) ?_
         (have hel := B4Q (num := num) (fr := .mk fk fks) (lb := lb) hml (A4I hmw (b := true) (by assumption)) hq13; rw [A91 (by omega)] at hel; rw [hjw, List.take_length]; exact ElP.yes hel (hE2.mono hle9) (hrt.mono hle9) (by omega) (by rw [hck]; omega))
        ·refine A8 ?_
         refine D7 D8 rfl ?_
         refine K7 (i := 0) (l' := [tt,ff,ff,ff,ff]) rfl D1 (A4 rfl rfl) rfl (by kernel_rfl) rfl rfl ?_
         refine aL 1 rfl (A4 rfl rfl) rfl ?_
         refine A1 2 ?_
         refine oS rfl rfl rfl rfl rfl rfl rfl rfl ?_
         refine A1 3 ?_
         refine oS rfl rfl rfl rfl rfl rfl rfl rfl ?_
         refine aP 4 rfl (qA rfl) rfl ?_
         refine A3 ?_
         (refine A16 (bs := [(bc, es2.flatten ++ C)]) (Pk.perm (by repeat (first | exact Pk.here | apply Pk.there))) (fun hn9 hd9 hle9 => ?_))
         refine tT ?_
         refine A2r (outs := [.blk bx [.int .i64 _]]) (rC rfl (A4 rfl rfl)) (rC rfl (A4 rfl rfl)) (rT rfl) (A0.cons (by repeat (first | exact Pk.here | apply Pk.there)) A0.nil) ?_
         (have hjw : j = w2.length := (by omega); rw [hjw, List.take_length] at hst2; have hst9 := hst2.mono hle9; have hel := A90 (num := num) (fr := .mk fk fks) (lb := lb) hml (A4I hmw (b := true) (by assumption)) (show k ≠ 13 by omega); rw [hjw, List.take_length]; have hm0 := A1H us ts w2 l; exact ElP.yes hel (B0.put hk hnum hlb (hty.mono hle9) (hfr.mono hle9) (by rw [hm0, hlu]) (D5.of (Sl.of_blk (A := []) (by rw [A0A hst9.all, hst9.len, hm0, hlu]) (by omega) hcm (Wi.in hn9 List.mem_cons_self)) (by rw [hst9.len, hm0, hlu]) hst9.all (fun e he => (hst9.each e he).2)) hst9) (hrt.mono hle9) (by omega) (by rw [hck]; omega))
     ·refine J9 ?_
      refine A2r (outs := [.blk bx [.int .i64 _]]) (rC rfl (A4 rfl rfl)) (rC rfl (A4 rfl rfl)) (rT rfl) (A0.cons (by repeat (first | exact Pk.here | apply Pk.there)) A0.nil) ?_
      exact A92
def A02 (r : Option (Tm × Ty)) : IM → Value → List A5 → Prop := L8 fun G' v => ∃ cu ct, v = .tuple ⟨[.agg ⟨cu⟩, .agg ⟨ct⟩, .bool r.isSome]⟩ ∧ B0 G' (r.getD (J5, B7)).1 cu ∧ B9 G' (r.getD (J5, B7)).2 ct
theorem A02.no {G : IM} {r : Option (Tm × Ty)} {cu ct : List Value} (h : r = none) (hu : B0 G J5 cu) (ht : B9 G B7 ct) : A02 r G (.tuple ⟨[.agg ⟨cu⟩, .agg ⟨ct⟩, .bool false]⟩) [] := by subst h; exact ⟨rfl, cu, ct, rfl, hu, ht⟩
theorem A02.yes {G : IM} {r : Option (Tm × Ty)} {u : Tm} {t : Ty} {cu ct : List Value} (h : r = some (u, t)) (hu : B0 G u cu) (ht : B9 G t ct) : A02 r G (.tuple ⟨[.agg ⟨cu⟩, .agg ⟨ct⟩, .bool true]⟩) [] := by subst h; exact ⟨rfl, cu, ct, rfl, hu, ht⟩
theorem A93 {e : Tm} (h : S1 e = false) : R7 e = none := by unfold R7; rw [if_neg (by rw [h]; decide)]
theorem A94 {e : Tm} (h : S1 e = true) (h2 : M9 [] e 0 = none) : R7 e = none := by unfold R7; rw [if_pos h, h2]
theorem A95 {e u : Tm} {t : Ty} {l : Int} (h : S1 e = true) (h2 : M9 [] e 0 = some (u, t, l)) : R7 e = some (u, t) := by unfold R7; rw [if_pos h, h2]
theorem A96 (e : Tm) (G : IM) (cells : List Value) (hr : B0 G e cells) : Fn Tryz.prog 25 [.agg ⟨cells⟩] [] G (A02 (R7 e)) := by
 have hRl := hr.len
 have hRo := hr.one
 have hV := B2r e G cells hr
 have hno := @A93 e
 have hnn := @A94 e
 have hso := @A95 e
 refine C3 Tryz.func25 rfl Tryz.ntmps25 Tryz.results25 rfl ?_
 intro w0
 refine A3 ?_
 refine sE (C8 rfl rfl) rfl (fun b3 => ?_)
 refine sE (A6 rfl) rfl (fun b4 => ?_)
 refine sE (A6 rfl) rfl (fun b5 => ?_)
 refine A8 ?_
 refine sL (A2 rfl rfl (B3 (by repeat first | exact mH | apply mT)) hRl) rfl rfl ?_
 refine F8 rfl (hV) rfl rfl (fun h13 => ?_) (fun h13 => ?_)
 refine E0 ?_
 refine sE (C8 rfl rfl) rfl (fun b23 => ?_)
 refine sL (A2 rfl rfl (B3 (by repeat first | exact mH | apply mT)) hRl) rfl rfl ?_
 focus (have htv : S1 e = true := (by assumption); obtain ⟨hsh, hcn⟩ := (A1z e).1 htv; refine I8 rfl (B4R _ e 1 [] 0 G none 0 0 _ hsh (by omega) A3K (S3.nil G) hr (by omega) (by omega)) (Pk.perm (by repeat (first | exact Pk.here | apply Pk.there))) rfl rfl (fun v G1 outs hle1 hh => ?_); obtain ⟨u, uc, t, tc, l3, rfl, rfl, hru, hrt, hl3, hl4, hu⟩ := hh; have hul := hru.len; have huo := hru.one; obtain ⟨p3, c3, e3, rfl, _⟩ := hrt.open; have hnn := hnn htv; have hso := @hso u t l3 htv; rcases hE : M9 [] e 0 with _ | ⟨u2, t2, l2⟩; rotate_left; have hue := hu _ hE; simp only [Prod.mk.injEq] at hue; obtain ⟨rfl, rfl, rfl⟩ := hue; have hso := hso hE; obtain ⟨hg1, hg2, hg3⟩ := A4V hso; rotate_left; simp only [Option.isSome]; rotate_left; simp only [Option.isSome])
 refine B1 ?_
 refine sE (A6 rfl) rfl (fun b30 => ?_)
 refine sE (A6 rfl) rfl (fun b31 => ?_)
 refine sS rfl rfl rfl hul huo rfl ?_ (hu := by exact D6 hul.symm)
 refine I0 ?_
 refine D7 D8 rfl ?_
 refine K7 (i := 0) (l' := [tt,ff,ff,ff,ff,ff,ff]) rfl D1 (A2 rfl rfl (B3 (by repeat first | exact mH | apply mT)) hul) rfl (by kernel_rfl) rfl rfl ?_
 refine aL 2 rfl (A4 rfl rfl) rfl ?_
 refine A1 1 ?_
 (refine H0 rfl rfl (A5O _ _ _ (A4S hg1) hru) rfl rfl rfl (fun v G2 hle2 hh => ?_); obtain ⟨cs2, F2, rfl, hs2, hn2⟩ := hh; have hwl := hs2.R.len; have hwo := hs2.R.one; have hr2 := hs2.R.mono (C5.le G2 G1); replace hrt := hrt.mono hle2)
 refine A1 3 ?_
 (refine H0 rfl rfl (A2K _ _ _ (A2s hg3).small hrt) rfl rfl rfl (fun v G3 hle3 hh => ?_); obtain ⟨cs3, F3, rfl, hs3, hn3⟩ := hh; obtain ⟨p4, c4, rfl, _⟩ := hs3.open; have hr3 := hs3.R.mono (C5.le G3 G2); replace hr2 := hr2.mono hle3)
 refine A1 4 ?_
 refine oS rfl rfl rfl rfl hwl hwo rfl rfl ?_ (hu := by exact D6 hwl.symm)
 refine A1 5 ?_
 refine oS rfl rfl rfl rfl rfl rfl rfl rfl ?_
 refine aP 6 rfl (qA rfl) rfl ?_
 refine B6 ?_
 refine C9 (rC rfl (A2 rfl rfl (B3 (by repeat first | exact mH | apply mT)) hwl)) (rC rfl (A4 rfl rfl)) (rT rfl) ?_
 (exact A02.yes hso hr2 hr3)
 refine B1 ?_
 refine sE (A6 rfl) rfl (fun b69 => ?_)
 refine sE (A6 rfl) rfl (fun b70 => ?_)
 refine sS rfl rfl rfl hul huo rfl ?_ (hu := by exact D6 hul.symm)
 refine A0O ?_
 refine C9 (rC rfl (A4 rfl rfl)) (rC rfl (A4 rfl rfl)) (rT rfl) ?_
 (exact A02.no (hnn hE) (O6 _) (O0 _ ⟨by omega, by omega⟩))
 refine I0 ?_
 refine C9 (rC rfl (A4 rfl rfl)) (rC rfl (A4 rfl rfl)) (rT rfl) ?_
 (exact A02.no (hno (by assumption)) (O6 _) (O0 _ ⟨by omega, by omega⟩))
def A0d (e : Tm) : Option Ty := match R7 e with | some (_, t) => some t | none => none
theorem B4S {e : Tm} (h : S1 e = false) : A0d e = none := by unfold A0d; rw [A93 h]
end Gw
end Go.Proofs.YtebfignffjhnhaaGreatDoor
