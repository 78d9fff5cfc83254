/-
  The program's evaluator: the rules of casts, selections and casts themselves.
-/
import Derived.Test.YtipblncpnffmbaaGreatDoorKa4
import Derived.Test.YtipblncpnffmbaaGreatDoorKa3
import Derived.Test.YtipblncpnffmbaaGreatDoorKa2
import Derived.Test.YtipblncpnffmbaaGreatDoorKa1
import Derived.Lib.ItoaNum
set_option linter.unusedVariables false
set_option linter.unusedSimpArgs false
set_option maxHeartbeats 0
set_option maxRecDepth 100000
set_option synthInstance.maxSize 4000
set_option synthInstance.maxHeartbeats 0
namespace Go.Proofs.YtipblncpnffmbaaGreatDoor
open Go Go.RowKit
namespace Gw
theorem A8E (k : Int) (a : Tm) (nm : ByteArray) (num : Int) (ty fr : Ty) (lb : Int) (G : IM) (cells : List Value) (hk1 : k = 11 ∨ k = 12) (hca : cv a) (hr : A9 G (.mk k nm num ty fr lb [a]) cells) : Fn Tryz.prog 132 [.agg ⟨cells⟩] [] G (R0 (X9 k ty fr lb [a])) := by
 obtain ⟨ak, anm, anum, ⟨atk, atks⟩, ⟨afk, afks⟩, alb, aks⟩ := a
 obtain ⟨hN, hkk⟩ := hca.node
 have hops := hN.ops
 have hbl := hN.lbB
 have htyA := hN.tyA
 have hfrA := hN.frA
 rw [D8] at htyA hfrA
 have h14 : ak = 14 → aks.length = 1 := fun h => by rw [h] at hops; have : D1 14 = 1 := rfl; omega
 obtain ⟨tk, tks⟩ := ty
 obtain ⟨fk, fks⟩ := fr
 obtain ⟨pt, ct, pf, cf, p, c, es, rfl, hk, hnum, hlb, hty, hfr, hsl, hkl⟩ := hr.open9
 obtain ⟨bx, ox, e0, rfl, hl0, hat0, hre0, hgb0⟩ := hsl.kidTm hkl (i := 0) (by simp) (by simp)
 replace hre0 : A9 G (Tm.mk ak anm anum (.mk atk atks) (.mk afk afks) alb aks) e0 := hre0
 have hP : Fn Tryz.prog 45 [.agg ⟨e0⟩] [] G (H9 (.bool (decide (ak = 14 ∧ afk = atk ∧ (atk = 4 ∨ atk = 5)))) G) := A2b _ G _ hre0
 have hI := A3g _ G _ hre0
 have ho0 := hre0.one
 obtain ⟨apt, act, apf, acf, ap, ac, aes, rfl, hak, hanum, halb, haty, hafr, hasl, hakl⟩ := hre0.open9
 have hfk64 : D9 fk := by obtain ⟨_, _, _, _, h, _⟩ := hfr.open; exact h
 have htk64 : D9 tk := by obtain ⟨_, _, _, _, h, _⟩ := hty.open; exact h
 obtain ⟨tes, htS, htL⟩ := haty.kids
 obtain ⟨fes, hfS, hfL⟩ := hafr.kids
 simp only [Ty.ks] at htS htL hfS hfL
 obtain ⟨i, hi⟩ : ∃ i : Nat, (k - 11).toNat = i := ⟨_, rfl⟩
 have hR : X9 k (.mk tk tks) (.mk fk fks) lb [Tm.mk ak anm anum (.mk atk atks) (.mk afk afks) alb aks] = (if (ak = 14 ∧ afk = atk ∧ (atk = 4 ∨ atk = 5)) ∧ atk = 5 then (O7 (A1a k [kd aks 0]) (kt afks i) (kt atks i) alb, 1, 0) else V2) := by
  unfold X9
  rw [if_neg (by omega), if_pos hk1, hi, show kd [Tm.mk ak anm anum (.mk atk atks) (.mk afk afks) alb aks] 0 = Tm.mk ak anm anum (.mk atk atks) (.mk afk afks) alb aks from rfl, A2F]
  simp only [decide_eq_true_eq]
  rfl
 rw [hR]
 refine B7 Tryz.func132 rfl Tryz.ntmps132 Tryz.results132 rfl ?_
 intro w0
 refine tS (tR ?_)
 refine sE (C2 rfl rfl) rfl (fun b3 => ?_)
 refine sE (A6 rfl) rfl (fun b4 => ?_)
 refine D7 ?_
 refine sP (B4 (j := 0) rfl rfl rfl (by simp)) rfl rfl ?_
 refine sL (A5 rfl rfl (hat0 _) rfl) rfl rfl ?_
 refine sE (A6 rfl) rfl (fun b15 => ?_)
 refine F9 ?_
 refine sD (nS (tS ?_))
 refine B6 ?_
 refine tS (tR (sQ (B8 rfl) rfl (sL (C7 rfl rfl) rfl rfl ?_)))
 refine sP (I3 rfl rfl (by omega)) rfl rfl ?_
 refine V7 ?_
 refine sB (qE rfl rfl) rfl rfl (fun h44 => ?_) (fun h44 => ?_)
 refine D0 ?_
 focus (by_cases hpx : (ak = 14 ∧ afk = atk ∧ (atk = 4 ∨ atk = 5)); rw [decide_eq_true hpx] at hP; rotate_left; rw [decide_eq_false hpx] at hP; rotate_left; all_goals (refine H2 rfl hP rfl rfl ?_))
 refine R2 ?_
 refine sB (qE rfl rfl) rfl rfl (fun h58 => ?_) (fun h58 => ?_)
 refine D2 ?_
 refine sP (O4 rfl rfl (by omega) (by omega)) rfl rfl ?_
 refine sQ (qA rfl) rfl (sD (nS (tS ?_)))
 (have hq : (ak = 14 ∧ afk = atk ∧ (atk = 4 ∨ atk = 5)) ∧ atk = 5 := ⟨hpx, by omega⟩; have hq1 := h14 hq.1.1; have hq2 := htyA.1 (by omega); have hq3 := hfrA.1 (by omega); rw [show (k - 11 : Int) = ((i : Nat) : Int) from (by omega)]; obtain ⟨bq, oq, e3, rfl, hl3, hat3, hre3, hgb3⟩ := hasl.kidTm hakl (i := 0) (by omega) (by omega); have ho3 := hre3.one; obtain ⟨b5, o5, q5, d5, rfl, hat5, hre5, hgb5⟩ := htS.kidTy htL (i := i) (by omega) (by omega); obtain ⟨b7, o7, q7, d7, rfl, hat7, hre7, hgb7⟩ := hfS.kidTy hfL (i := i) (by omega) (by omega); obtain ⟨x1, x2, x3, x4, x5, x6, x7, x8, x9, rfl⟩ := nine hl3; refine E4 E7 rfl ?_)
 refine K2 (i := 0) (l' := [tt,ff,ff,ff,ff,ff,ff,ff,ff,ff,ff,ff,ff,ff,ff,ff,ff,ff,ff,ff,ff,ff,ff,ff,ff,ff]) rfl D6 (B8 rfl) rfl (by kernel_rfl) rfl rfl ?_
 refine aL 1 rfl (C7 rfl rfl) rfl ?_
 refine aP 2 rfl (B8 rfl) rfl ?_
 refine aL 3 rfl (C7 rfl rfl) rfl ?_
 refine aP 4 rfl (B4 (j := 0) rfl rfl rfl (by omega)) rfl ?_
 refine aL 5 rfl (A5 rfl rfl (hat3 _) rfl) rfl ?_
 refine aP 8 rfl (B8 rfl) rfl ?_
 refine aP 9 rfl (qF rfl) rfl ?_
 refine aL 10 rfl (C7 rfl rfl) rfl ?_
 refine aP 11 rfl (qM rfl) rfl ?_
 refine aP 12 rfl (B4 (j := i) rfl rfl rfl (by omega)) rfl ?_
 refine aL 13 rfl (A5 rfl rfl (hat7 _) rfl) rfl ?_
 refine aP 14 rfl (B8 rfl) rfl ?_
 refine aP 15 rfl (qF rfl) rfl ?_
 refine aL 16 rfl (C7 rfl rfl) rfl ?_
 refine aP 17 rfl (qM rfl) rfl ?_
 refine aP 18 rfl (B4 (j := i) rfl rfl rfl (by omega)) rfl ?_
 refine aL 19 rfl (A5 rfl rfl (hat5 _) rfl) rfl ?_
 refine aP 20 rfl (B8 rfl) rfl ?_
 refine aL 21 rfl (C7 rfl rfl) rfl ?_
 refine A3 6 ?_
 (refine E1 rfl (C3 rfl rfl rfl (by omega) (by unfold maxLen; omega) rfl) rfl rfl ?_; rintro _ ⟨b95, rfl⟩)
 refine A3 7 ?_
 (refine A4m (cs := [x1, x2, x3, x4, x5, x6, x7, x8, x9]) (by repeat (first | exact Pk.here | apply Pk.there)) (fun G2 hle2 hsl2 hno2 => ?_); have hrN := A3e (k := k) (ks := [aks[0]]) (es := [[x1, x2, x3, x4, x5, x6, x7, x8, x9]]) hk rfl (B9.of hsl2 rfl (by simp) (by intro x hx; obtain rfl := List.mem_singleton.1 hx; exact ho3)) (by simp only [C8]; exact ⟨_, _, rfl, hre3.mono hle2, rfl⟩); replace hre5 := hre5.mono hle2; replace hre7 := hre7.mono hle2; refine P5 rfl rfl (A2G _ _ _ _ _) rfl rfl rfl ?_)
 refine A3 22 ?_
 (refine K4 rfl rfl (A1g _ afks[i] atks[i] alb G2 _ _ _ ⟨by omega, by omega⟩ hrN hre7 hre5) rfl rfl rfl (fun u G3 hle3 hh => ?_); obtain ⟨wc, rfl, hrw⟩ := hh; have hwl := hrw.len; have hwo := hrw.one)
 refine A3 23 ?_
 (refine oS rfl rfl rfl rfl hwl hwo rfl rfl ?_ (hu := by exact D5 hwl.symm))
 refine aP 24 rfl (qA rfl) rfl ?_
 refine aP 25 rfl (qA rfl) rfl ?_
 refine C4 (nS (tT (rB (rS ?_))))
 refine E6 (rC rfl (A5 rfl rfl (B5 (by repeat first | exact mH | apply mT)) hwl)) (rT rfl) (rT rfl) ?_
 (exact R0.mk (by rw [if_pos hq, A3q (by omega), A0J (by omega), A0J (by omega)]) hrw)
 refine D2 ?_
 refine sP (A0x rfl rfl (by omega)) rfl rfl ?_
 refine I4 ?_
 refine E6 (rC rfl (A2 rfl rfl)) (rT rfl) (rT rfl) ?_
 (exact R0.mk (by rw [if_neg (by omega)]; rfl) (O3 _))
 refine I4 ?_
 refine sP (A0x rfl rfl (by omega)) rfl rfl ?_
 refine I4 ?_
 refine E6 (rC rfl (A2 rfl rfl)) (rT rfl) (rT rfl) ?_
 (exact R0.mk (by rw [if_neg (by omega)]; rfl) (O3 _))
 refine J0 ?_
 refine sP (V6 rfl rfl (by omega)) rfl rfl ?_
 refine J0 ?_
 focus (by_cases hpx : (ak = 14 ∧ afk = atk ∧ (atk = 4 ∨ atk = 5)); rw [decide_eq_true hpx] at hP; rotate_left; rw [decide_eq_false hpx] at hP; rotate_left; all_goals (refine H2 rfl hP rfl rfl ?_))
 refine R2 ?_
 refine sB (qE rfl rfl) rfl rfl (fun h184 => ?_) (fun h184 => ?_)
 refine D2 ?_
 refine sP (O4 rfl rfl (by omega) (by omega)) rfl rfl ?_
 refine sQ (qA rfl) rfl (sD (nS (tS ?_)))
 (have hq : (ak = 14 ∧ afk = atk ∧ (atk = 4 ∨ atk = 5)) ∧ atk = 5 := ⟨hpx, by omega⟩; have hq1 := h14 hq.1.1; have hq2 := htyA.1 (by omega); have hq3 := hfrA.1 (by omega); rw [show (k - 11 : Int) = ((i : Nat) : Int) from (by omega)]; obtain ⟨bq, oq, e3, rfl, hl3, hat3, hre3, hgb3⟩ := hasl.kidTm hakl (i := 0) (by omega) (by omega); have ho3 := hre3.one; obtain ⟨b5, o5, q5, d5, rfl, hat5, hre5, hgb5⟩ := htS.kidTy htL (i := i) (by omega) (by omega); obtain ⟨b7, o7, q7, d7, rfl, hat7, hre7, hgb7⟩ := hfS.kidTy hfL (i := i) (by omega) (by omega); obtain ⟨x1, x2, x3, x4, x5, x6, x7, x8, x9, rfl⟩ := nine hl3; refine E4 E7 rfl ?_)
 refine K2 (i := 0) (l' := [tt,ff,ff,ff,ff,ff,ff,ff,ff,ff,ff,ff,ff,ff,ff,ff,ff,ff,ff,ff,ff,ff,ff,ff,ff,ff]) rfl D6 (B8 rfl) rfl (by kernel_rfl) rfl rfl ?_
 refine aL 1 rfl (C7 rfl rfl) rfl ?_
 refine aP 2 rfl (B8 rfl) rfl ?_
 refine aL 3 rfl (C7 rfl rfl) rfl ?_
 refine aP 4 rfl (B4 (j := 0) rfl rfl rfl (by omega)) rfl ?_
 refine aL 5 rfl (A5 rfl rfl (hat3 _) rfl) rfl ?_
 refine aP 8 rfl (B8 rfl) rfl ?_
 refine aP 9 rfl (qF rfl) rfl ?_
 refine aL 10 rfl (C7 rfl rfl) rfl ?_
 refine aP 11 rfl (qM rfl) rfl ?_
 refine aP 12 rfl (B4 (j := i) rfl rfl rfl (by omega)) rfl ?_
 refine aL 13 rfl (A5 rfl rfl (hat7 _) rfl) rfl ?_
 refine aP 14 rfl (B8 rfl) rfl ?_
 refine aP 15 rfl (qF rfl) rfl ?_
 refine aL 16 rfl (C7 rfl rfl) rfl ?_
 refine aP 17 rfl (qM rfl) rfl ?_
 refine aP 18 rfl (B4 (j := i) rfl rfl rfl (by omega)) rfl ?_
 refine aL 19 rfl (A5 rfl rfl (hat5 _) rfl) rfl ?_
 refine aP 20 rfl (B8 rfl) rfl ?_
 refine aL 21 rfl (C7 rfl rfl) rfl ?_
 refine A3 6 ?_
 (refine E1 rfl (C3 rfl rfl rfl (by omega) (by unfold maxLen; omega) rfl) rfl rfl ?_; rintro _ ⟨b221, rfl⟩)
 refine A3 7 ?_
 (refine A4m (cs := [x1, x2, x3, x4, x5, x6, x7, x8, x9]) (by repeat (first | exact Pk.here | apply Pk.there)) (fun G2 hle2 hsl2 hno2 => ?_); have hrN := A3e (k := k) (ks := [aks[0]]) (es := [[x1, x2, x3, x4, x5, x6, x7, x8, x9]]) hk rfl (B9.of hsl2 rfl (by simp) (by intro x hx; obtain rfl := List.mem_singleton.1 hx; exact ho3)) (by simp only [C8]; exact ⟨_, _, rfl, hre3.mono hle2, rfl⟩); replace hre5 := hre5.mono hle2; replace hre7 := hre7.mono hle2; refine P5 rfl rfl (A2G _ _ _ _ _) rfl rfl rfl ?_)
 refine A3 22 ?_
 (refine K4 rfl rfl (A1g _ afks[i] atks[i] alb G2 _ _ _ ⟨by omega, by omega⟩ hrN hre7 hre5) rfl rfl rfl (fun u G3 hle3 hh => ?_); obtain ⟨wc, rfl, hrw⟩ := hh; have hwl := hrw.len; have hwo := hrw.one)
 refine A3 23 ?_
 (refine oS rfl rfl rfl rfl hwl hwo rfl rfl ?_ (hu := by exact D5 hwl.symm))
 refine aP 24 rfl (qA rfl) rfl ?_
 refine aP 25 rfl (qA rfl) rfl ?_
 refine C4 (nS (tT (rB (rS ?_))))
 refine E6 (rC rfl (A5 rfl rfl (B5 (by repeat first | exact mH | apply mT)) hwl)) (rT rfl) (rT rfl) ?_
 (exact R0.mk (by rw [if_pos hq, A3q (by omega), A0J (by omega), A0J (by omega)]) hrw)
 refine D2 ?_
 refine sP (A0x rfl rfl (by omega)) rfl rfl ?_
 refine I4 ?_
 refine E6 (rC rfl (A2 rfl rfl)) (rT rfl) (rT rfl) ?_
 (exact R0.mk (by rw [if_neg (by omega)]; rfl) (O3 _))
 refine I4 ?_
 refine sP (A0x rfl rfl (by omega)) rfl rfl ?_
 refine I4 ?_
 refine E6 (rC rfl (A2 rfl rfl)) (rT rfl) (rT rfl) ?_
 (exact R0.mk (by rw [if_neg (by omega)]; rfl) (O3 _))
theorem B3u {t : Tm} (h : inj t = true) : t.k = 14 := by
 unfold inj at h
 simp only [Bool.and_eq_true, decide_eq_true_eq] at h
 exact h.1.1
theorem B3v {t u : Ty} (h : W0 t = true) (h' : W0 u = true) : P1 t u = decide (t.k = u.k) := by
 have e1 := A8D h
 have e2 := A8D h'
 by_cases hk : t.k = u.k
 ·rw [decide_eq_true hk, A08, e1, e2]
  unfold A0F; rw [hk]
 ·rw [decide_eq_false hk]
  cases hs : P1 t u with
  | false => rfl
  | true => exact absurd (congrArg Ty.k ((A08 _ _).1 hs)) hk
theorem B3w {t : Tm} (h : inj t = true) : W0 t.fr = true := by
 unfold inj at h
 rw [Bool.and_eq_true] at h
 exact h.2
theorem B3x (a : Tm) (nm : ByteArray) (num : Int) (ty fr : Ty) (lb : Int) (G : IM) (cells : List Value) (hca : cv a) (hlb9 : -99 ≤ lb ∧ lb ≤ 99) (hr : A9 G (.mk 14 nm num ty fr lb [a]) cells) : Fn Tryz.prog 132 [.agg ⟨cells⟩] [] G (R0 (X9 14 ty fr lb [a])) := by
 have hji := @B3w a
 have hjk := @B3u a
 obtain ⟨ak, anm, anum, ⟨atk, atks⟩, ⟨afk, afks⟩, alb, aks⟩ := a
 obtain ⟨hN, hkk⟩ := hca.node
 have hops := hN.ops
 have hbl := hN.lbB
 have htyA := hN.tyA
 have hfrA := hN.frA
 rw [D8] at htyA hfrA
 have h14 : ak = 14 → aks.length = 1 := fun h => by rw [h] at hops; have : D1 14 = 1 := rfl; omega
 obtain ⟨tk, tks⟩ := ty
 obtain ⟨fk, fks⟩ := fr
 obtain ⟨pt, ct, pf, cf, p, c, es, rfl, hk, hnum, hlb, hty, hfr, hsl, hkl⟩ := hr.open9
 obtain ⟨bx, ox, e0, rfl, hl0, hat0, hre0, hgb0⟩ := hsl.kidTm hkl (i := 0) (by simp) (by simp)
 replace hre0 : A9 G (Tm.mk ak anm anum (.mk atk atks) (.mk afk afks) alb aks) e0 := hre0
 have hP : Fn Tryz.prog 45 [.agg ⟨e0⟩] [] G (H9 (.bool (decide (ak = 14 ∧ afk = atk ∧ (atk = 4 ∨ atk = 5)))) G) := A2b _ G _ hre0
 have hI := A3g _ G _ hre0
 have ho0 := hre0.one
 obtain ⟨apt, act, apf, acf, ap, ac, aes, rfl, hak, hanum, halb, haty, hafr, hasl, hakl⟩ := hre0.open9
 have hfk64 : D9 fk := by obtain ⟨_, _, _, _, h, _⟩ := hfr.open; exact h
 have htk64 : D9 tk := by obtain ⟨_, _, _, _, h, _⟩ := hty.open; exact h
 obtain ⟨tes, htS, htL⟩ := haty.kids
 obtain ⟨fes, hfS, hfL⟩ := hafr.kids
 simp only [Ty.ks] at htS htL hfS hfL
 obtain ⟨J, hJ⟩ : ∃ J, inj (Tm.mk ak anm anum (.mk atk atks) (.mk afk afks) alb aks) = J := ⟨_, rfl⟩
 obtain ⟨D, hD⟩ : ∃ D, W0 (.mk tk tks) = D := ⟨_, rfl⟩
 have hGr := A7X _ G _ hty
 rw [hD] at hGr
 rw [hJ] at hI hji hjk
 have hR : X9 14 (.mk tk tks) (.mk fk fks) lb [Tm.mk ak anm anum (.mk atk atks) (.mk afk afks) alb aks] = (if fk = tk then (Tm.mk ak anm anum (.mk atk atks) (.mk afk afks) alb aks, 1, 0)
   else if tk = 1 then (O7 (O7 (Tm.mk ak anm anum (.mk atk atks) (.mk afk afks) alb aks) (.mk fk fks) (mGk fk) lb) (mGk fk) (.mk tk tks) lb, 1, 0)
   else if D = false then (O7 (O7 (Tm.mk ak anm anum (.mk atk atks) (.mk afk afks) alb aks) (.mk fk fks) (mGk tk) lb) (mGk tk) (.mk tk tks) lb, 1, 0)
   else if J = false then V2
   else if afk = tk then (kd aks 0, 1, 0)
   else (J4, 2, lb)) := by
  rw [← hJ, ← hD]; rfl
 rw [hR]
 have hSm : J = true → D = true → P1 (.mk afk afks) (.mk tk tks) = decide (afk = tk) := fun h1 h2 => B3v (hji h1) (hD.trans h2)
 have hTS := A5m (.mk afk afks) (.mk tk tks) G _ _ hafr hty
 refine B7 Tryz.func132 rfl Tryz.ntmps132 Tryz.results132 rfl ?_
 intro w0
 refine tS (tR ?_)
 refine sE (C2 rfl rfl) rfl (fun b3 => ?_)
 refine sE (A6 rfl) rfl (fun b4 => ?_)
 refine D7 ?_
 refine sP (B4 (j := 0) rfl rfl rfl (by simp)) rfl rfl ?_
 refine sL (A5 rfl rfl (hat0 _) rfl) rfl rfl ?_
 refine sE (A6 rfl) rfl (fun b15 => ?_)
 refine F9 ?_
 refine sD (nS (tS ?_))
 refine B6 ?_
 refine tS (tR (sQ (B8 rfl) rfl (sL (C7 rfl rfl) rfl rfl ?_)))
 refine sP (I3 rfl rfl (by omega)) rfl rfl ?_
 refine V7 ?_
 refine sP (I3 rfl rfl (by omega)) rfl rfl ?_
 refine J0 ?_
 refine sP (I3 rfl rfl (by omega)) rfl rfl ?_
 refine A0a ?_
 refine sP (A4J rfl rfl (by omega)) rfl rfl ?_
 refine N8 ?_
 refine sB (qE rfl rfl) rfl rfl (fun h81 => ?_) (fun h81 => ?_)
 refine I4 ?_
 refine E6 (rC rfl (A2 rfl rfl)) (rT rfl) (rT rfl) ?_
 (exact R0.mk (by rw [if_pos (by omega)]) hre0)
 refine D2 ?_
 refine sB (qE rfl rfl) rfl rfl (fun h108 => ?_) (fun h108 => ?_)
 refine D2 ?_
 (refine F4 rfl (A3f fk G hfk64) rfl rfl (fun u G1 hle1 hh => ?_); obtain ⟨gc, rfl, hrg⟩ := hh; obtain ⟨pg, cg, eg, rfl, _⟩ := hrg.open; have hgk : tk = 1 := (by omega); replace hre0 := hre0.mono hle1; replace hfr := hfr.mono hle1; replace hty := hty.mono hle1)
 refine sE (A6 rfl) rfl (fun b119 => ?_)
 refine F9 ?_
 refine sD (nS (tS ?_))
 refine E4 E7 rfl ?_
 refine P8 (i := 0) (l' := [tt,ff,ff,ff,ff,ff,ff,ff,ff,ff,ff,ff,ff,ff,ff,ff]) rfl D6 (A5 rfl rfl (B5 (by repeat first | exact mH | apply mT)) rfl) rfl (by kernel_rfl) rfl rfl ?_
 refine aL 3 rfl (A5 rfl rfl (B5 (by repeat first | exact mH | apply mT)) rfl) rfl ?_
 refine aL 7 rfl (A5 rfl rfl (B5 (by repeat first | exact mH | apply mT)) rfl) rfl ?_
 refine aP 1 rfl (B8 rfl) rfl ?_
 refine aL 2 rfl (A2 rfl rfl) rfl ?_
 refine aP 4 rfl (B8 rfl) rfl ?_
 refine aL 5 rfl (C7 rfl rfl) rfl ?_
 refine aP 8 rfl (B8 rfl) rfl ?_
 refine aL 9 rfl (A2 rfl rfl) rfl ?_
 refine aP 10 rfl (B8 rfl) rfl ?_
 refine aL 11 rfl (C7 rfl rfl) rfl ?_
 refine A3 6 ?_
 (refine K4 rfl rfl (A1g _ (.mk fk fks) _ lb G1 _ _ _ ⟨by omega, by omega⟩ hre0 hfr hrg) rfl rfl rfl (fun u G3 hle3 hh => ?_); obtain ⟨wc, rfl, hrw⟩ := hh; have hwl := hrw.len; have hwo := hrw.one; replace hrg := hrg.mono hle3; replace hty := hty.mono hle3)
 refine A3 12 ?_
 (refine K4 rfl rfl (A1g _ _ (.mk tk tks) lb G3 _ _ _ ⟨by omega, by omega⟩ hrw hrg hty) rfl rfl rfl (fun u G4 hle4 hh => ?_); obtain ⟨xc, rfl, hrx⟩ := hh; have hxl := hrx.len; have hxo := hrx.one)
 refine A3 13 ?_
 (refine oS rfl rfl rfl rfl hxl hxo rfl rfl ?_ (hu := by exact D5 hxl.symm))
 refine aP 14 rfl (qA rfl) rfl ?_
 refine aP 15 rfl (qA rfl) rfl ?_
 refine C4 (nS (tT (rB (rS ?_))))
 refine E6 (rC rfl (A5 rfl rfl (B5 (by repeat first | exact mH | apply mT)) hxl)) (rT rfl) (rT rfl) ?_
 (exact R0.mk (by rw [if_neg (by omega), if_pos (by omega)]) hrx)
 refine D7 ?_
 focus (cases hDD : D; all_goals (rw [hDD] at hGr; refine H2 rfl hGr rfl rfl ?_))
 refine L6 ?_
 (refine F4 rfl (A3f tk G htk64) rfl rfl (fun u G1 hle1 hh => ?_); obtain ⟨gc, rfl, hrg⟩ := hh; obtain ⟨pg, cg, eg, rfl, _⟩ := hrg.open; replace hre0 := hre0.mono hle1; replace hfr := hfr.mono hle1; replace hty := hty.mono hle1)
 refine sE (A6 rfl) rfl (fun b171 => ?_)
 refine F9 ?_
 refine sD (nS (tS ?_))
 refine E4 E7 rfl ?_
 refine P8 (i := 0) (l' := [tt,ff,ff,ff,ff,ff,ff,ff,ff,ff,ff,ff,ff,ff,ff,ff]) rfl D6 (A5 rfl rfl (B5 (by repeat first | exact mH | apply mT)) rfl) rfl (by kernel_rfl) rfl rfl ?_
 refine aL 3 rfl (A5 rfl rfl (B5 (by repeat first | exact mH | apply mT)) rfl) rfl ?_
 refine aL 7 rfl (A5 rfl rfl (B5 (by repeat first | exact mH | apply mT)) rfl) rfl ?_
 refine aP 1 rfl (B8 rfl) rfl ?_
 refine aL 2 rfl (A2 rfl rfl) rfl ?_
 refine aP 4 rfl (B8 rfl) rfl ?_
 refine aL 5 rfl (C7 rfl rfl) rfl ?_
 refine aP 8 rfl (B8 rfl) rfl ?_
 refine aL 9 rfl (A2 rfl rfl) rfl ?_
 refine aP 10 rfl (B8 rfl) rfl ?_
 refine aL 11 rfl (C7 rfl rfl) rfl ?_
 refine A3 6 ?_
 (refine K4 rfl rfl (A1g _ (.mk fk fks) _ lb G1 _ _ _ ⟨by omega, by omega⟩ hre0 hfr hrg) rfl rfl rfl (fun u G3 hle3 hh => ?_); obtain ⟨wc, rfl, hrw⟩ := hh; have hwl := hrw.len; have hwo := hrw.one; replace hrg := hrg.mono hle3; replace hty := hty.mono hle3)
 refine A3 12 ?_
 (refine K4 rfl rfl (A1g _ _ (.mk tk tks) lb G3 _ _ _ ⟨by omega, by omega⟩ hrw hrg hty) rfl rfl rfl (fun u G4 hle4 hh => ?_); obtain ⟨xc, rfl, hrx⟩ := hh; have hxl := hrx.len; have hxo := hrx.one)
 refine A3 13 ?_
 (refine oS rfl rfl rfl rfl hxl hxo rfl rfl ?_ (hu := by exact D5 hxl.symm))
 refine aP 14 rfl (qA rfl) rfl ?_
 refine aP 15 rfl (qA rfl) rfl ?_
 refine C4 (nS (tT (rB (rS ?_))))
 refine E6 (rC rfl (A5 rfl rfl (B5 (by repeat first | exact mH | apply mT)) hxl)) (rT rfl) (rT rfl) ?_
 (exact R0.mk (by rw [if_neg (by omega), if_neg (by omega), if_pos rfl]) hrx)
 refine D7 ?_
 focus (cases hJJ : J; all_goals (rw [hJJ] at hI; refine H2 rfl hI rfl rfl ?_))
 refine K8 ?_
 refine E6 (rC rfl (A2 rfl rfl)) (rT rfl) (rT rfl) ?_
 (exact R0.mk (by rw [if_neg (by omega), if_neg (by omega), if_neg (by decide), if_pos rfl]; rfl) (O3 _))
 refine K6 ?_
 focus (rw [hSm hJJ hDD] at hTS; by_cases hfk : afk = tk; rw [decide_eq_true hfk] at hTS; rotate_left; rw [decide_eq_false hfk] at hTS; rotate_left; all_goals (refine H2 rfl hTS rfl rfl ?_))
 refine D7 ?_
 (have hq1 := h14 (hjk (by assumption)); obtain ⟨bq, oq, e3, rfl, hl3, hat3, hre3, hgb3⟩ := hasl.kidTm hakl (i := 0) (by omega) (by omega); have ho3 := hre3.one; refine sP (B4 (j := 0) rfl rfl rfl (by omega)) rfl rfl ?_)
 refine sL (A5 rfl rfl (hat3 _) hl3) rfl rfl ?_
 refine sS rfl rfl rfl hl3 ho3 rfl ?_ (hu := by exact D5 hl3.symm)
 refine D0 ?_
 refine E6 (rC rfl (A5 rfl rfl (B5 (by repeat first | exact mH | apply mT)) hl3)) (rT rfl) (rT rfl) ?_
 (exact R0.mk (by rw [if_neg (by omega), if_neg (by omega), if_neg (by decide), if_neg (by decide), if_pos hfk, A3q (by omega)]) hre3)
 refine D7 ?_
 refine E4 E7 rfl ?_
 refine K2 (i := 0) (l' := [tt,ff,ff,ff,ff,ff]) rfl D6 (S0 rfl rfl) rfl (by kernel_rfl) rfl rfl ?_
 refine aP 1 rfl (B8 rfl) rfl ?_
 refine aL 2 rfl (C7 rfl rfl) rfl ?_
 refine A3 3 ?_
 refine H6 rfl ?_
 refine aP 4 rfl (qA rfl) rfl ?_
 refine aP 5 rfl (qA rfl) rfl ?_
 refine C4 (nS (tT ?_))
 refine E6 (rC rfl (A2 rfl rfl)) (rT rfl) (rT rfl) ?_
 (exact R0.mk (by rw [if_neg (by omega), if_neg (by omega), if_neg (by decide), if_neg (by decide), if_neg hfk]) (O3 _))
theorem A8F (k : Int) (a b : Tm) (nm : ByteArray) (num : Int) (ty fr : Ty) (lb : Int) (G : IM) (cells : List Value) (hk1 : k = 7 ∨ k = 8) (hca : cv a) (hr : A9 G (.mk k nm num ty fr lb [a, b]) cells) : Fn Tryz.prog 132 [.agg ⟨cells⟩] [] G (R0 (X9 k ty fr lb [a, b])) := by
 have hR : X9 k ty fr lb [a, b] = V2 := by unfold X9; rw [if_neg (by omega), if_neg (by omega), if_neg (by omega)]
 rw [hR]
 obtain ⟨ak, anm, anum, ⟨atk, atks⟩, ⟨afk, afks⟩, alb, aks⟩ := a
 obtain ⟨hN, hkk⟩ := hca.node
 have hops := hN.ops
 have hbl := hN.lbB
 have htyA := hN.tyA
 have hfrA := hN.frA
 rw [D8] at htyA hfrA
 have h14 : ak = 14 → aks.length = 1 := fun h => by rw [h] at hops; have : D1 14 = 1 := rfl; omega
 obtain ⟨tk, tks⟩ := ty
 obtain ⟨fk, fks⟩ := fr
 obtain ⟨pt, ct, pf, cf, p, c, es, rfl, hk, hnum, hlb, hty, hfr, hsl, hkl⟩ := hr.open9
 obtain ⟨bx, ox, e0, rfl, hl0, hat0, hre0, hgb0⟩ := hsl.kidTm hkl (i := 0) (by simp) (by simp)
 replace hre0 : A9 G (Tm.mk ak anm anum (.mk atk atks) (.mk afk afks) alb aks) e0 := hre0
 have hP : Fn Tryz.prog 45 [.agg ⟨e0⟩] [] G (H9 (.bool (decide (ak = 14 ∧ afk = atk ∧ (atk = 4 ∨ atk = 5)))) G) := A2b _ G _ hre0
 have hI := A3g _ G _ hre0
 have ho0 := hre0.one
 obtain ⟨apt, act, apf, acf, ap, ac, aes, rfl, hak, hanum, halb, haty, hafr, hasl, hakl⟩ := hre0.open9
 have hfk64 : D9 fk := by obtain ⟨_, _, _, _, h, _⟩ := hfr.open; exact h
 have htk64 : D9 tk := by obtain ⟨_, _, _, _, h, _⟩ := hty.open; exact h
 obtain ⟨tes, htS, htL⟩ := haty.kids
 obtain ⟨fes, hfS, hfL⟩ := hafr.kids
 simp only [Ty.ks] at htS htL hfS hfL
 refine B7 Tryz.func132 rfl Tryz.ntmps132 Tryz.results132 rfl ?_
 intro w0
 refine tS (tR ?_)
 refine sE (C2 rfl rfl) rfl (fun b3 => ?_)
 refine sE (A6 rfl) rfl (fun b4 => ?_)
 refine D7 ?_
 refine sP (B4 (j := 0) rfl rfl rfl (by simp)) rfl rfl ?_
 refine sL (A5 rfl rfl (hat0 _) rfl) rfl rfl ?_
 refine sE (A6 rfl) rfl (fun b15 => ?_)
 refine F9 ?_
 refine sD (nS (tS ?_))
 refine B6 ?_
 refine tS (tR (sQ (B8 rfl) rfl (sL (C7 rfl rfl) rfl rfl ?_)))
 refine sP (I3 rfl rfl (by omega)) rfl rfl ?_
 refine V7 ?_
 refine sP (I3 rfl rfl (by omega)) rfl rfl ?_
 refine J0 ?_
 refine sP (I3 rfl rfl (by omega)) rfl rfl ?_
 refine A0a ?_
 refine sP (A0x rfl rfl (by omega)) rfl rfl ?_
 refine I4 ?_
 refine E6 (rC rfl (A2 rfl rfl)) (rT rfl) (rT rfl) ?_
 (exact R0.mk rfl (O3 _))
theorem B3y (a b c0 : Tm) (nm : ByteArray) (num : Int) (ty fr : Ty) (lb : Int) (G : IM) (cells : List Value) (hca : cv a) (hr : A9 G (.mk 9 nm num ty fr lb [a, b, c0]) cells) : Fn Tryz.prog 132 [.agg ⟨cells⟩] [] G (R0 (X9 9 ty fr lb [a, b, c0])) := by
 have hR : X9 9 ty fr lb [a, b, c0] = V2 := by unfold X9; rw [if_neg (by omega), if_neg (by omega), if_neg (by omega)]
 rw [hR]
 obtain ⟨ak, anm, anum, ⟨atk, atks⟩, ⟨afk, afks⟩, alb, aks⟩ := a
 obtain ⟨hN, hkk⟩ := hca.node
 have hops := hN.ops
 have hbl := hN.lbB
 have htyA := hN.tyA
 have hfrA := hN.frA
 rw [D8] at htyA hfrA
 have h14 : ak = 14 → aks.length = 1 := fun h => by rw [h] at hops; have : D1 14 = 1 := rfl; omega
 obtain ⟨tk, tks⟩ := ty
 obtain ⟨fk, fks⟩ := fr
 obtain ⟨pt, ct, pf, cf, p, c, es, rfl, hk, hnum, hlb, hty, hfr, hsl, hkl⟩ := hr.open9
 obtain ⟨bx, ox, e0, rfl, hl0, hat0, hre0, hgb0⟩ := hsl.kidTm hkl (i := 0) (by simp) (by simp)
 replace hre0 : A9 G (Tm.mk ak anm anum (.mk atk atks) (.mk afk afks) alb aks) e0 := hre0
 have hP : Fn Tryz.prog 45 [.agg ⟨e0⟩] [] G (H9 (.bool (decide (ak = 14 ∧ afk = atk ∧ (atk = 4 ∨ atk = 5)))) G) := A2b _ G _ hre0
 have hI := A3g _ G _ hre0
 have ho0 := hre0.one
 obtain ⟨apt, act, apf, acf, ap, ac, aes, rfl, hak, hanum, halb, haty, hafr, hasl, hakl⟩ := hre0.open9
 have hfk64 : D9 fk := by obtain ⟨_, _, _, _, h, _⟩ := hfr.open; exact h
 have htk64 : D9 tk := by obtain ⟨_, _, _, _, h, _⟩ := hty.open; exact h
 obtain ⟨tes, htS, htL⟩ := haty.kids
 obtain ⟨fes, hfS, hfL⟩ := hafr.kids
 simp only [Ty.ks] at htS htL hfS hfL
 refine B7 Tryz.func132 rfl Tryz.ntmps132 Tryz.results132 rfl ?_
 intro w0
 refine tS (tR ?_)
 refine sE (C2 rfl rfl) rfl (fun b3 => ?_)
 refine sE (A6 rfl) rfl (fun b4 => ?_)
 refine D7 ?_
 refine sP (B4 (j := 0) rfl rfl rfl (by simp)) rfl rfl ?_
 refine sL (A5 rfl rfl (hat0 _) rfl) rfl rfl ?_
 refine sE (A6 rfl) rfl (fun b15 => ?_)
 refine F9 ?_
 refine sD (nS (tS ?_))
 refine B6 ?_
 refine tS (tR (sQ (B8 rfl) rfl (sL (C7 rfl rfl) rfl rfl ?_)))
 refine sP (I3 rfl rfl (by omega)) rfl rfl ?_
 refine V7 ?_
 refine sP (I3 rfl rfl (by omega)) rfl rfl ?_
 refine J0 ?_
 refine sP (I3 rfl rfl (by omega)) rfl rfl ?_
 refine A0a ?_
 refine sP (A0x rfl rfl (by omega)) rfl rfl ?_
 refine I4 ?_
 refine E6 (rC rfl (A2 rfl rfl)) (rT rfl) (rT rfl) ?_
 (exact R0.mk rfl (O3 _))
theorem B3z (nm : ByteArray) (num : Int) (ty fr : Ty) (lb : Int) (G : IM) (cells : List Value) (hr : A9 G (.mk 1 nm num ty fr lb []) cells) : Fn Tryz.prog 131 [.agg ⟨cells⟩] [] G (Q9 (X3 1 [])) := by
 rw [show X3 1 [] = none from rfl]
 obtain ⟨tk, tks⟩ := ty
 obtain ⟨fk, fks⟩ := fr
 obtain ⟨pt, ct, pf, cf, p, c, es, rfl, hk, hnum, hlb, hty, hfr, hsl, hkl⟩ := hr.open9
 have hL : ([] : List Tm).length = 0 := rfl
 refine B7 Tryz.func131 rfl Tryz.ntmps131 Tryz.results131 rfl ?_
 intro w0
 refine tS (tR ?_)
 refine sE (C2 rfl rfl) rfl (fun b3 => ?_)
 refine sE (A6 rfl) rfl (fun b4 => ?_)
 refine I0 ?_
 refine sE (A6 rfl) rfl (fun b11 => ?_)
 refine D2 ?_
 refine sP (B0n rfl rfl (by omega)) rfl rfl ?_
 refine N8 ?_
 refine B6 ?_
 refine tS (tR ?_)
 refine sP (I3 rfl rfl (by omega)) rfl rfl ?_
 refine sQ (qA rfl) rfl (sD (nS (cF rfl (tS (tS (tR ?_))))))
 refine sP (I3 rfl rfl (by omega)) rfl rfl ?_
 refine sQ (qA rfl) rfl (sD (nS (cF rfl (tR ?_))))
 refine sP (I3 rfl rfl (by omega)) rfl rfl ?_
 refine sQ (qA rfl) rfl (sD (nS (cF rfl (tS (tR ?_)))))
 refine sP (I3 rfl rfl (by omega)) rfl rfl ?_
 refine sQ (qA rfl) rfl (sD (nS (cF rfl (tS (tS (tR ?_))))))
 refine sP (I3 rfl rfl (by omega)) rfl rfl ?_
 refine sQ (qA rfl) rfl (sD (nS (cF rfl (tR ?_))))
 refine sP (I3 rfl rfl (by omega)) rfl rfl ?_
 refine I4 ?_
 refine E9 (rC rfl (A2 rfl rfl)) (rT rfl) ?_
 (exact Q9.no rfl (O3 _))
theorem B3A (a : Tm) (nm : ByteArray) (num : Int) (ty fr : Ty) (lb : Int) (G : IM) (cells : List Value) (hr : A9 G (.mk 14 nm num ty fr lb [a]) cells) : Fn Tryz.prog 131 [.agg ⟨cells⟩] [] G (Q9 (X3 14 [a])) := by
 rw [show X3 14 [a] = none from rfl]
 obtain ⟨tk, tks⟩ := ty
 obtain ⟨fk, fks⟩ := fr
 obtain ⟨pt, ct, pf, cf, p, c, es, rfl, hk, hnum, hlb, hty, hfr, hsl, hkl⟩ := hr.open9
 obtain ⟨bx, ox, e0, rfl, hl0, hat0, hre0, hgb0⟩ := hsl.kidTm hkl (i := 0) (by simp) (by simp)
 have ho0 : e0.all (·.oneCell') = true := (show A9 G a e0 from hre0).one
 refine B7 Tryz.func131 rfl Tryz.ntmps131 Tryz.results131 rfl ?_
 intro w0
 refine tS (tR ?_)
 refine sE (C2 rfl rfl) rfl (fun b3 => ?_)
 refine sE (A6 rfl) rfl (fun b4 => ?_)
 refine I0 ?_
 refine sE (A6 rfl) rfl (fun b11 => ?_)
 refine D2 ?_
 refine sB (A0v rfl rfl) rfl rfl (fun h21 => ?_) (fun h21 => ?_)
 refine I0 ?_
 refine sP (B4 (j := 0) rfl rfl rfl (by simp)) rfl rfl ?_
 refine sL (A5 rfl rfl (hat0 _) hl0) rfl rfl ?_
 refine sS rfl rfl rfl hl0 ho0 rfl ?_ (hu := by exact D5 hl0.symm)
 refine D2 ?_
 refine B6 ?_
 refine tS (tR ?_)
 refine sP (I3 rfl rfl (by omega)) rfl rfl ?_
 refine sQ (qA rfl) rfl (sD (nS (cF rfl (tS (tS (tR ?_))))))
 refine sP (I3 rfl rfl (by omega)) rfl rfl ?_
 refine sQ (qA rfl) rfl (sD (nS (cF rfl (tR ?_))))
 refine sP (I3 rfl rfl (by omega)) rfl rfl ?_
 refine sQ (qA rfl) rfl (sD (nS (cF rfl (tS (tR ?_)))))
 refine sP (I3 rfl rfl (by omega)) rfl rfl ?_
 refine sQ (qA rfl) rfl (sD (nS (cF rfl (tS (tS (tR ?_))))))
 refine sP (I3 rfl rfl (by omega)) rfl rfl ?_
 refine sQ (qA rfl) rfl (sD (nS (cF rfl (tR ?_))))
 refine sP (I3 rfl rfl (by omega)) rfl rfl ?_
 refine I4 ?_
 refine E9 (rC rfl (A2 rfl rfl)) (rT rfl) ?_
 (exact Q9.no rfl (O3 _))
 refine N8 ?_
 refine B6 ?_
 refine tS (tR ?_)
 refine sP (I3 rfl rfl (by omega)) rfl rfl ?_
 refine sQ (qA rfl) rfl (sD (nS (cF rfl (tS (tS (tR ?_))))))
 refine sP (I3 rfl rfl (by omega)) rfl rfl ?_
 refine sQ (qA rfl) rfl (sD (nS (cF rfl (tR ?_))))
 refine sP (I3 rfl rfl (by omega)) rfl rfl ?_
 refine sQ (qA rfl) rfl (sD (nS (cF rfl (tS (tR ?_)))))
 refine sP (I3 rfl rfl (by omega)) rfl rfl ?_
 refine sQ (qA rfl) rfl (sD (nS (cF rfl (tS (tS (tR ?_))))))
 refine sP (I3 rfl rfl (by omega)) rfl rfl ?_
 refine sQ (qA rfl) rfl (sD (nS (cF rfl (tR ?_))))
 refine sP (I3 rfl rfl (by omega)) rfl rfl ?_
 refine I4 ?_
 refine E9 (rC rfl (A2 rfl rfl)) (rT rfl) ?_
 (exact Q9.no rfl (O3 _))
theorem ks1 {ks : List Tm} (h : ks.length = 1) : ∃ a, ks = [a] := by
 match ks, h with
 | [a], _ => exact ⟨a, rfl⟩
theorem ks2 {ks : List Tm} (h : ks.length = 2) : ∃ a b, ks = [a, b] := by
 match ks, h with
 | [a, b], _ => exact ⟨a, b, rfl⟩
theorem ks3 {ks : List Tm} (h : ks.length = 3) : ∃ a b c, ks = [a, b, c] := by
 match ks, h with
 | [a, b, c], _ => exact ⟨a, b, c, rfl⟩
theorem B3B {k : Int} {nm : ByteArray} {num : Int} {ty fr : Ty} {lb : Int} {ks : List Tm} {G : IM} {cells : List Value} (hc : cv (.mk k nm num ty fr lb ks)) (hk : k = 1 ∨ k = 6 ∨ k = 7 ∨ k = 8 ∨ k = 9 ∨ k = 11 ∨ k = 12 ∨ k = 14) (hr : A9 G (.mk k nm num ty fr lb ks) cells) :
  Fn Tryz.prog 131 [.agg ⟨cells⟩] [] G (Q9 (X3 k ks)) := by
 obtain ⟨hN, hkk⟩ := hc.node
 have hops := hN.ops
 rcases hk with rfl | rfl | rfl | rfl | rfl | rfl | rfl | rfl
 ·obtain rfl : ks = [] := List.length_eq_zero_iff.1 (by have : D1 1 = 0 := rfl; omega)
  exact B3z _ _ _ _ _ _ _ hr
 ·obtain ⟨a, b, rfl⟩ := ks2 (ks := ks) (by have : D1 6 = 2 := rfl; omega)
  exact B3q a b _ _ _ _ _ _ _ (hkk a (by simp)) hr
 ·obtain ⟨a, b, rfl⟩ := ks2 (ks := ks) (by have : D1 7 = 2 := rfl; omega)
  exact A8B 7 a b _ _ _ _ _ _ _ (.inl rfl) (hkk a (by simp)) (hkk b (by simp)) hr
 ·obtain ⟨a, b, rfl⟩ := ks2 (ks := ks) (by have : D1 8 = 2 := rfl; omega)
  exact A8B 8 a b _ _ _ _ _ _ _ (.inr rfl) (hkk a (by simp)) (hkk b (by simp)) hr
 ·obtain ⟨a, b, c, rfl⟩ := ks3 (ks := ks) (by have : D1 9 = 3 := rfl; omega)
  exact B3r a b c _ _ _ _ _ _ _ hr
 ·obtain ⟨a, rfl⟩ := ks1 (ks := ks) (by have : D1 11 = 1 := rfl; omega)
  exact A8C 11 a _ _ _ _ _ _ _ (.inl rfl) (hkk a (by simp)) hr
 ·obtain ⟨a, rfl⟩ := ks1 (ks := ks) (by have : D1 12 = 1 := rfl; omega)
  exact A8C 12 a _ _ _ _ _ _ _ (.inr rfl) (hkk a (by simp)) hr
 ·obtain ⟨a, rfl⟩ := ks1 (ks := ks) (by have : D1 14 = 1 := rfl; omega)
  exact B3A a _ _ _ _ _ _ _ hr
theorem B3C {k : Int} {nm : ByteArray} {num : Int} {ty fr : Ty} {lb : Int} {ks : List Tm} {G : IM} {cells : List Value} (hc : cv (.mk k nm num ty fr lb ks)) (hk : k = 6 ∨ k = 7 ∨ k = 8 ∨ k = 9 ∨ k = 11 ∨ k = 12 ∨ k = 14) (hr : A9 G (.mk k nm num ty fr lb ks) cells) :
  Fn Tryz.prog 132 [.agg ⟨cells⟩] [] G (R0 (X9 k ty fr lb ks)) := by
 obtain ⟨hN, hkk⟩ := hc.node
 have hops := hN.ops
 rcases hk with rfl | rfl | rfl | rfl | rfl | rfl | rfl
 ·obtain ⟨a, b, rfl⟩ := ks2 (ks := ks) (by have : D1 6 = 2 := rfl; omega)
  exact B3t a b _ _ _ _ _ _ _ (hkk a (by simp)) hr
 ·obtain ⟨a, b, rfl⟩ := ks2 (ks := ks) (by have : D1 7 = 2 := rfl; omega)
  exact A8F 7 a b _ _ _ _ _ _ _ (.inl rfl) (hkk a (by simp)) hr
 ·obtain ⟨a, b, rfl⟩ := ks2 (ks := ks) (by have : D1 8 = 2 := rfl; omega)
  exact A8F 8 a b _ _ _ _ _ _ _ (.inr rfl) (hkk a (by simp)) hr
 ·obtain ⟨a, b, c, rfl⟩ := ks3 (ks := ks) (by have : D1 9 = 3 := rfl; omega)
  exact B3y a b c _ _ _ _ _ _ _ (hkk a (by simp)) hr
 ·obtain ⟨a, rfl⟩ := ks1 (ks := ks) (by have : D1 11 = 1 := rfl; omega)
  exact A8E 11 a _ _ _ _ _ _ _ (.inl rfl) (hkk a (by simp)) hr
 ·obtain ⟨a, rfl⟩ := ks1 (ks := ks) (by have : D1 12 = 1 := rfl; omega)
  exact A8E 12 a _ _ _ _ _ _ _ (.inr rfl) (hkk a (by simp)) hr
 ·obtain ⟨a, rfl⟩ := ks1 (ks := ks) (by have : D1 14 = 1 := rfl; omega)
  exact B3x a _ _ _ _ _ _ _ (hkk a (by simp)) hN.lbB hr
theorem A4n (n : Nat) (t : Tm) (ts : List Tm) : W3 (n + 1) (t :: ts) = if H7 t = true then (match W3 n ts with | some (us, c, l) => some (t :: us, c, l) | none => none) else some ((I7 t).1 :: ts, (I7 t).2.1, (I7 t).2.2) := by
 rw [W3]; rfl
theorem A8G : ∀ (n : Nat) (ks : List Tm), (∀ i, i < n → (h : i < ks.length) → H7 ks[i] = true) → W3 n ks = none
 | n, [], _ => by cases n <;> rfl
 | 0, t :: ts, _ => rfl
 | n + 1, t :: ts, h => by
  rw [A4n, if_pos (show H7 t = true from h 0 (by omega) (by simp)), A8G n ts (fun i hi hl => h (i + 1) (by omega) (by simpa using hl))]
theorem A8H : ∀ (n : Nat) (ks : List Tm) (i : Nat) (hi : i < ks.length), i < n → (∀ j, j < i → (h : j < ks.length) → H7 ks[j] = true) → H7 ks[i] = false → W3 n ks = some (ks.set i (I7 ks[i]).1, (I7 ks[i]).2.1, (I7 ks[i]).2.2)
 | n, [], i, hi, _, _, _ => by simp at hi
 | 0, t :: ts, i, _, hn, _, _ => by omega
 | n + 1, t :: ts, 0, _, _, _, hv => by
  rw [A4n, if_neg (by rw [show H7 t = false from hv]; decide)]; rfl
 | n + 1, t :: ts, i + 1, hi, hn, hj, hv => by
  rw [A4n, if_pos (show H7 t = true from hj 0 (by omega) (by simp)), A8H n ts i (by simpa using hi) (by omega) (fun j hji hl => hj (j + 1) (by omega) (by simpa using hl)) hv]
  rfl
theorem B3D {k : Int} {ty fr : Ty} {lb : Int} {ks : List Tm} (h : (A0m k ty fr lb ks).2.1 = 1) : (A0m k ty fr lb ks).2.2 = 0 := by
 revert h
 unfold A0m V2
 repeat' split
 all_goals first | (intro _; rfl) | (intro h; exfalso; revert h; simp)
theorem B3E {k : Int} {nm : ByteArray} {num : Int} {ty fr : Ty} {lb : Int} {ks : List Tm} (h : (I7 (.mk k nm num ty fr lb ks)).2.1 = 1) : (I7 (.mk k nm num ty fr lb ks)).2.2 = 0 := by
 rw [I7] at h ⊢
 cases hL : W3 (if k = 9 then 1 else ks.length) ks with
 | none => rw [hL] at h; exact B3D h
 | some p =>
  obtain ⟨us, c, l⟩ := p
  rw [hL] at h
  simp only at h ⊢
  by_cases hc : c = 1
  ·rw [if_pos hc]
  ·rw [if_neg hc] at h; exact absurd h hc
theorem B3F {t : Tm} (h : (I7 t).2.1 = 1) : (I7 t).2.2 = 0 := by cases t; exact B3E h
theorem B3G {k : Int} {nm : ByteArray} {num : Int} {ty fr : Ty} {lb : Int} {ks : List Tm} {i : Nat} (hi : i < ks.length) (hn : i < (if k = 9 then 1 else ks.length)) (hj : ∀ j, j < i → (h : j < ks.length) → H7 ks[j] = true) (hv : H7 ks[i] = false) :
  (I7 (.mk k nm num ty fr lb ks)).2.1 = (I7 ks[i]).2.1 ∧ (I7 (.mk k nm num ty fr lb ks)).2.2 = (I7 ks[i]).2.2 ∧ ((I7 ks[i]).2.1 = 1 → (I7 (.mk k nm num ty fr lb ks)).1 = .mk k nm num ty fr lb (ks.set i (I7 ks[i]).1)) := by
 rw [I7, A8H _ ks i hi hn hj hv]
 simp only
 by_cases hc : (I7 ks[i]).2.1 = 1
 ·rw [if_pos hc]
  exact ⟨hc.symm, (B3F hc).symm, fun _ => rfl⟩
 ·rw [if_neg hc]
  exact ⟨rfl, rfl, fun h => absurd h hc⟩
theorem B3H {k : Int} {nm : ByteArray} {num : Int} {ty fr : Ty} {lb : Int} {ks : List Tm} (h : ∀ i, i < (if k = 9 then 1 else ks.length) → (hl : i < ks.length) → H7 ks[i] = true) : I7 (.mk k nm num ty fr lb ks) = match X3 k ks with | some u => (u, 1, 0) | none => X9 k ty fr lb ks := by
 rw [I7, A8G _ _ h]
 exact B3s k ty fr lb ks
theorem A4o {k : Int} (h : 0 ≤ D1 k) : 1 ≤ k ∧ k ≤ 14 := by
 by_cases hk : 1 ≤ k ∧ k ≤ 14
 ·exact hk
 ·rw [A3P hk] at h; omega
theorem B3I {k : Int} {nm : ByteArray} {num : Int} {ty fr : Ty} {lb : Int} {ks : List Tm} (hc : cv (.mk k nm num ty fr lb ks)) (hv : H7 (.mk k nm num ty fr lb ks) = false) (h : ∀ i, i < (if k = 9 then 1 else ks.length) → (hl : i < ks.length) → H7 ks[i] = true) : k = 1 ∨ k = 6 ∨ k = 7 ∨ k = 8 ∨ k = 9 ∨ k = 11 ∨ k = 12 ∨ k = 14 := by
 obtain ⟨hN, _⟩ := hc.node
 have hr := A4o (by rw [hN.ops]; omega : 0 ≤ D1 k)
 have h13 := hN.ne
 have h25 : ¬(k = 2 ∨ k = 3 ∨ k = 4 ∨ k = 5) := by
  intro hk
  rw [H7, if_neg (by omega)] at hv
  rw [decide_eq_true hk] at hv
  cases hv
 have h10 : k ≠ 10 := by
  rintro rfl
  rw [A5E (.inl rfl), List.all_eq_false] at hv
  obtain ⟨t, ht, hn⟩ := hv
  obtain ⟨i, hi, rfl⟩ := List.mem_iff_getElem.1 ht
  exact hn (h i (by rw [if_neg (by decide)]; exact hi) hi)
 omega
theorem B3J (t : Tm) (G : IM) (cells : List Value) (hr : A9 G t cells) : Fn Tryz.prog 129 [.agg ⟨cells⟩] [] G (H9 (.int .i64 ((if t.k = 9 then 1 else t.ks.length : Nat) : Int)) G) := by
 obtain ⟨k, nm, num, ⟨tk, tks⟩, ⟨fk, fks⟩, lb, ks⟩ := t
 obtain ⟨pt, ct, pf, cf, p, c, es, rfl, hk, hnum, hlb, hty, hfr, hsl, hkl⟩ := hr.open9
 rw [show (Tm.mk k nm num (.mk tk tks) (.mk fk fks) lb ks).k = k from rfl, show (Tm.mk k nm num (.mk tk tks) (.mk fk fks) lb ks).ks = ks from rfl]
 refine B7 Tryz.func129 rfl Tryz.ntmps129 Tryz.results129 rfl ?_
 intro w0
 refine tS (tR ?_)
 refine sE (C2 rfl rfl) rfl (fun b3 => ?_)
 refine D7 ?_
 refine sB (qE rfl rfl) rfl rfl (fun h12 => ?_) (fun h12 => ?_)
 refine K6 ?_
 (exact ⟨rfl, by rw [if_pos (by omega)]; rfl, rfl⟩)
 refine I4 ?_
 (exact ⟨rfl, by rw [if_neg (by omega)], rfl⟩)
theorem B3K {k : Int} (h8 : k = 1 ∨ k = 6 ∨ k = 7 ∨ k = 8 ∨ k = 9 ∨ k = 11 ∨ k = 12 ∨ k = 14) (h : D1 k = 0) : k = 1 := by
 rcases h8 with rfl | rfl | rfl | rfl | rfl | rfl | rfl | rfl
 ·rfl
 all_goals exact absurd h (by decide)
theorem A8I {G : IM} {r r' : Stp} {u : Tm} {cells : List Value} {c l : Int} (h1 : r.2.1 = c) (h2 : r.2.2 = l) (hr : A9 G u cells) (h3 : c = 1 → u = r.1) : R0 r G (.tuple ⟨[.agg ⟨cells⟩, .int .i64 c, .int .i64 l]⟩) [] := by
 subst h1 h2; exact ⟨rfl, u, cells, rfl, hr, h3⟩
theorem B3L : ∀ (t : Tm) (G : IM) (cells : List Value), cv t → H7 t = false → A9 G t cells → Fn Tryz.prog 111 [.agg ⟨cells⟩] [] G (R0 (I7 t)) := by
 refine Tm.ind fun k nm num ty fr lb ks ih G cells hc hv hr => ?_
 have hr0 := hr
 have hN := hc.node.1
 have hkk := hc.node.2
 have hsm := A38 _ hc
 obtain ⟨_, _, _, _, hksm⟩ := A3b.1 hsm
 have hops := hN.ops
 have hle3 := A29 k
 have hkd := @B3I k nm num ty fr lb ks hc hv
 have hrd := @B3H k nm num ty fr lb ks
 have hkidS := fun (i : Nat) => @B3G k nm num ty fr lb ks i
 have hRA := fun h => @B3B k nm num ty fr lb ks G cells hc h hr
 have hCA := fun h (G1 : IM) (hle : B1 G G1) => @B3C k nm num ty fr lb ks G1 cells hc h (hr.mono hle)
 have hCt := B3J _ G _ hr
 rw [show (Tm.mk k nm num ty fr lb ks).k = k from rfl, show (Tm.mk k nm num ty fr lb ks).ks = ks from rfl] at hCt
 obtain ⟨C, hC⟩ : ∃ C : Nat, (if k = 9 then 1 else ks.length : Nat) = C := ⟨_, rfl⟩
 rw [hC] at hCt hkd hrd
 have hkidS' := fun (i : Nat) (hi : i < ks.length) (hn : i < C) => hkidS i hi (by rw [hC]; exact hn)
 have hC9 : C ≤ ks.length := by rw [← hC]; split; (have : D1 k = 3 := by (rename_i h9; rw [h9]; rfl)); omega; omega
 have hrul := hkd
 obtain ⟨tk, tks⟩ := ty
 obtain ⟨fk, fks⟩ := fr
 obtain ⟨pt, ct, pf, cf, p, c, es, rfl, hk, hnum, hlb, hty, hfr, hsl, hkl⟩ := hr.open9
 have hn := hsl.le
 have hnc := hsl.sl.2.1
 refine B7 Tryz.func111 rfl Tryz.ntmps111 Tryz.results111 rfl ?_
 intro w0
 refine tS (tR ?_)
 refine sE (C2 rfl rfl) rfl (fun b3 => ?_)
 refine sE (A6 rfl) rfl (fun b4 => ?_)
 refine sQ (qA rfl) rfl (sQ (qA rfl) rfl (sD (nS (tS (tS ?_)))))
 refine E4 E7 rfl ?_
 refine K2 (i := 0) (l' := [tt,ff,ff,ff,ff,ff,ff]) rfl D6 (B8 rfl) rfl (by kernel_rfl) rfl rfl ?_
 refine aL 1 rfl (C7 rfl rfl) rfl ?_
 refine aL 2 rfl (A2 rfl rfl) rfl ?_
 refine aP 6 rfl (qM rfl) rfl ?_
 refine A3 3 ?_
 refine P5 rfl rfl (hCt) rfl rfl rfl ?_
 refine aP 4 rfl (A42 (l := C) rfl rfl rfl (by omega)) rfl ?_
 refine aP 5 rfl (pLn rfl rfl) rfl ?_
 refine C4 (nS ?_)
 refine B6 ?_
 (refine J3 (fun (i : Nat) => ⟨[(19, .int .i64 (i : Int)), (18, .int .i64 (C : Int)), (17, .slice p C c), (1, .pointer (some ⟨b3, 0, none⟩)), (2, .pointer (some ⟨b4, 0, none⟩))], [.blk b4 [.int .i64 0, .string ⟨⟨[]⟩⟩, .int .i64 0, .int .i64 0, .slice none 0 0, .int .i64 0, .slice none 0 0, .int .i64 0, .slice none 0 0], .blk b3 [.int .i64 k, .string nm, .int .i64 num, .int .i64 tk, .slice pt tks.length ct, .int .i64 fk, .slice pf fks.length cf, .int .i64 lb, .slice p ks.length c]], G⟩) (fun i => i ≤ C ∧ ∀ j, j < i → (h : j < ks.length) → H7 ks[j] = true) (fun i => C - i) 0 ?_ ?_ ?_)
 exact C5
 (exact ⟨Nat.zero_le _, fun j hj => absurd hj (Nat.not_lt_zero j)⟩)
 (rintro i ⟨hi, hj⟩)
 refine tS (tR ?_)
 refine sB (J6 rfl rfl) rfl rfl (fun h29 => ?_) (fun h29 => ?_)
 refine sD (nS (tS (qT rfl (tK (nS (tS ?_))))))
 refine B6 ?_
 refine tS (tR (sQ (qM rfl) rfl ?_))
 (have hiC : i < C := (by omega); obtain ⟨bx, ox, e, rfl, hl, hat, hre, hgb⟩ := hsl.kidTm hkl (i := i) (by omega) (by omega); have heo := hre.one; have hVi := A8y ks[i] G e hre; refine sP (B4 (j := i) rfl rfl rfl hiC) rfl rfl ?_)
 refine sL (A5 rfl rfl (hat _) hl) rfl rfl ?_
 refine sE (A6 rfl) rfl (fun b43 => ?_)
 refine sQ (qA rfl) rfl ?_
 refine sS rfl rfl rfl hl heo rfl ?_ (hu := by exact D5 hl.symm)
 refine sD (nS (tS (tS (tR ?_))))
 refine sL (A5 rfl rfl (B5 (by repeat first | exact mH | apply mT)) hl) rfl rfl ?_
 refine H3 rfl (hVi) rfl rfl (fun h52 => ?_) (fun h52 => ?_)
 refine D7 ?_
 refine sP (I2 rfl rfl (by omega) (by omega)) rfl rfl ?_
 refine sQ (qM rfl) rfl (sD ?_)
 refine I9 (i + 1) ?_ ?_ ?_
 exact C5
 (exact ⟨by omega, fun j hji hl2 => (by by_cases he : j = i; (subst he; assumption); exact hj j (by omega) hl2)⟩)
 (show C - (i + 1) < C - i; omega)
 refine sD (nS (cF rfl (tK (nS (tS (tR ?_))))))
 refine sL (A5 rfl rfl (B5 (by repeat first | exact mH | apply mT)) hl) rfl rfl ?_
 (have hvF : H7 ks[i] = false := (by assumption); obtain ⟨hs1, hs2, hs3⟩ := hkidS' i (by omega) hiC (fun j hji hl2 => hj j hji hl2) hvF; refine F4 rfl (ih ks[i] (List.getElem_mem (by omega)) G e (hkk _ (List.getElem_mem (by omega))) hvF hre) rfl rfl (fun v G1 hle1 hh => ?_); obtain ⟨u, uc, rfl, hru, hu1⟩ := hh; have hul := hru.len; have huo := hru.one; have hClo := B2I G1 _ ks.length c es (hsl.mono hle1) (by omega) (by omega))
 refine J5 ?_
 refine sE (A6 rfl) rfl (fun b81 => ?_)
 refine sS rfl rfl rfl hul huo rfl ?_ (hu := by exact D5 hul.symm)
 refine D0 ?_
 refine sE (A6 rfl) rfl (fun b90 => ?_)
 refine D0 ?_
 (refine T9 rfl hClo rfl rfl (fun v98 G98 outs98 hle98 h98 => ?_); obtain ⟨hG, p1, c1, rfl, rfl⟩ := h98; replace hG := hG.symm; subst hG; refine A1E (cs := es.flatten) (by repeat (first | exact Pk.here | apply Pk.there)) (by omega) (fun bc Cc hpe hnc1 hcm => ?_); subst hpe)
 replace hru := hru.mono hle98
 refine D2 ?_
 refine sL (A5 rfl rfl (B5 (by repeat first | exact mH | apply mT)) hul) rfl rfl ?_
 refine sP (B4 (j := i) rfl rfl rfl (by omega)) rfl rfl ?_
 refine S6 rfl rfl rfl hul huo rfl (by repeat first | exact Sw.here | apply Sw.there) (by exact A1F (by rw [hkl.len]; omega) (fun e he => (hsl.all e he)) hul) ?_
 refine N8 ?_
 (refine A2X (bs := [(bc, (es.set i uc).flatten ++ Cc)]) (Pk.perm (by repeat (first | exact Pk.here | apply Pk.there))) (fun hn2 hd2 hle2 => ?_))
 refine tT (rB (rS (A2N (rB (rS ?_)))))
 refine E6 (rC rfl (A2 rfl rfl)) (rT rfl) (rT rfl) ?_
 (have hks2 := C8.set (j := i) ((hkl.mono hle1).mono hle2) (hru.mono hle2); refine A8I (r' := V2) hs1 hs2 (A9.put (us := ks.set i u) (es := es.set i uc) hk hnum hlb ((hty.mono hle1).mono hle2) ((hfr.mono hle1).mono hle2) (by rw [List.length_set]) (B9.of (Sl.of_blk (A := []) (by rw [X6 hks2.all, hks2.len, List.length_set]) (by omega) hcm (Wi.in hn2 List.mem_cons_self)) (by rw [hks2.len, List.length_set]) hks2.all (fun e he => by obtain ⟨q, hq⟩ := List.getElem?_of_mem he; exact (hks2.inv hq J4).2.one)) hks2) (fun h1 => by rw [hs3 h1, hu1 h1]))
 refine L7 ?_
 focus (have hall : ∀ i, i < C → (hl : i < ks.length) → H7 ks[i] = true := (fun j hjc hl2 => hj j (by omega) hl2); have hk8 := hkd hall; have hrd' := hrd hall; refine F4 rfl (hRA hk8) rfl rfl (fun v G1 hle1 hh => ?_); obtain ⟨u, uc, cc, rfl, hru, hy, hno⟩ := hh; have hul := hru.len; have huo := hru.one; rcases hm : X3 k ks with _ | x; rotate_left; obtain ⟨rfl, rfl⟩ := hy _ hm; rotate_left; obtain rfl := hno hm; rw [hm] at hrd')
 refine J0 ?_
 refine sE (A6 rfl) rfl (fun b149 => ?_)
 refine sS rfl rfl rfl hul huo rfl ?_ (hu := by exact D5 hul.symm)
 refine sQ (qA rfl) rfl (sD (nS (tS (tR (sQ (qM rfl) rfl ?_)))))
 refine sP (I3 rfl rfl (by omega)) rfl rfl ?_
 refine K6 ?_
 refine sB (qE rfl rfl) rfl rfl (fun h169 => ?_) (fun h169 => ?_)
 refine L7 ?_
 refine E6 (rC rfl (A2 rfl rfl)) (rT rfl) (rT rfl) ?_
 (obtain rfl : k = 1 := B3K hk8 (by omega); rw [hrd']; exact R0.mk rfl (O3 _))
 refine D7 ?_
 (have hk7 : k = 6 ∨ k = 7 ∨ k = 8 ∨ k = 9 ∨ k = 11 ∨ k = 12 ∨ k = 14 := (by rcases hk8 with h1 | hh; (rw [h1] at hops; have : D1 1 = 0 := rfl; omega); exact hh); refine F4 rfl (hCA hk7 _ hle1) rfl rfl (fun v G2 hle2 hh => ?_); obtain ⟨w, wc, rfl, hrw, hw1⟩ := hh; have hwl := hrw.len; have hwo := hrw.one)
 refine J0 ?_
 refine sS rfl rfl rfl hwl hwo rfl ?_ (hu := by exact D5 hwl.symm)
 refine sQ (qA rfl) rfl (sQ (qA rfl) rfl (sD (nS (tT ?_))))
 refine E6 (rC rfl (A5 rfl rfl (B5 (by repeat first | exact mH | apply mT)) hwl)) (rT rfl) (rT rfl) ?_
 (rw [hrd']; exact A8I (r' := V2) rfl rfl hrw hw1)
 refine J0 ?_
 refine sE (A6 rfl) rfl (fun b208 => ?_)
 refine sS rfl rfl rfl hul huo rfl ?_ (hu := by exact D5 hul.symm)
 refine sQ (qA rfl) rfl (sD (nS (tS (tR (sQ (qM rfl) rfl ?_)))))
 refine sP (V6 rfl rfl (by omega)) rfl rfl ?_
 refine sD (nS (qT rfl (tS (tR ?_))))
 refine sL (A5 rfl rfl (B5 (by repeat first | exact mH | apply mT)) hul) rfl rfl ?_
 refine sQ (qM rfl) rfl ?_
 refine sS rfl rfl rfl hul huo rfl ?_ (hu := by exact D5 hul.symm)
 refine sQ (qA rfl) rfl (sQ (qA rfl) rfl (sD (nS (tT (rS ?_)))))
 refine E6 (rC rfl (A5 rfl rfl (B5 (by repeat first | exact mH | apply mT)) hul)) (rT rfl) (rT rfl) ?_
 (rw [hrd', hm]; exact R0.mk rfl hru)
def A0K (r : Stp) : IM → Value → List A4 → Prop := L5 fun G' v => ∃ cells, v = .tuple ⟨[.agg ⟨cells⟩, .int .i64 r.2.1, .int .i64 r.2.2]⟩ ∧ A9 G' r.1 cells
theorem A0K.mk {G : IM} {r : Stp} {u : Tm} {c l : Int} {cells : List Value} (h : r = (u, c, l)) (hr : A9 G u cells) : A0K r G (.tuple ⟨[.agg ⟨cells⟩, .int .i64 c, .int .i64 l]⟩) [] := by
 subst h; exact ⟨rfl, cells, rfl, hr⟩
theorem A5G {t : Tm} (h : P9 t = true) : t.small := A38 t (A5k h).1
theorem A8J {e : Tm} (h : P9 e = false) : E3 e = (J4, 3, 0) := by unfold E3; rw [if_pos h]; rfl
theorem A8K {e : Tm} (h : P9 e = true) (h2 : H7 e = true) : E3 e = (e, 0, 0) := by unfold E3; rw [if_neg (by rw [h]; decide), if_pos h2]
theorem A8L {e : Tm} (h : P9 e = true) (h2 : H7 e = false) (h3 : (I7 e).2.1 ≠ 1) : E3 e = (J4, (I7 e).2.1, (I7 e).2.2) := by
 unfold E3; rw [if_neg (by rw [h]; decide), if_neg (by rw [h2]; decide), if_pos h3]
theorem A8M {e : Tm} (h : P9 e = true) (h2 : H7 e = false) (h3 : (I7 e).2.1 = 1) (h4 : P9 (I7 e).1 = false) : E3 e = (J4, 4, 0) := by
 unfold E3; rw [if_neg (by rw [h]; decide), if_neg (by rw [h2]; decide), if_neg (by omega), if_pos h4]
theorem A8N {e : Tm} (h : P9 e = true) (h2 : H7 e = false) (h3 : (I7 e).2.1 = 1) (h4 : P9 (I7 e).1 = true) : E3 e = ((I7 e).1, 1, 0) := by
 unfold E3; rw [if_neg (by rw [h]; decide), if_neg (by rw [h2]; decide), if_neg (by omega), if_neg (by rw [h4]; decide)]
theorem B3M (t : Tm) (G : IM) (cells : List Value) (hr : A9 G t cells) : Fn Tryz.prog 78 [.agg ⟨cells⟩] [] G (A0K (E3 t)) := by
 have hRl := hr.len
 have hRo := hr.one
 have hV := A7j t G cells hr
 have hI := A8y t G cells hr
 refine B7 Tryz.func78 rfl Tryz.ntmps78 Tryz.results78 rfl ?_
 intro w0
 refine tS (tR ?_)
 refine sE (C2 rfl rfl) rfl (fun b3 => ?_)
 refine sE (A6 rfl) rfl (fun b4 => ?_)
 refine sQ (qA rfl) rfl (sQ (qA rfl) rfl (sD (nS (tS ?_))))
 refine B6 ?_
 refine tS (tR ?_)
 refine sL (A5 rfl rfl (B5 (by repeat first | exact mH | apply mT)) hRl) rfl rfl ?_
 refine H3 rfl (hV) rfl rfl (fun h14 => ?_) (fun h14 => ?_)
 refine D0 ?_
 refine sL (A5 rfl rfl (B5 (by repeat first | exact mH | apply mT)) hRl) rfl rfl ?_
 refine H3 rfl (hI) rfl rfl (fun h23 => ?_) (fun h23 => ?_)
 refine sQ (qA rfl) rfl (sD (nS (qT rfl (tS (tR ?_)))))
 refine sL (A5 rfl rfl (B5 (by repeat first | exact mH | apply mT)) hRl) rfl rfl ?_
 (refine F4 rfl (A22 t G cells (A5G (by assumption)) hr) rfl rfl (fun v G1 hle1 hh => ?_); obtain ⟨cs1, F1, rfl, hs1, hn1⟩ := hh; have hul := hs1.R.len; have huo := hs1.R.one)
 refine sS rfl rfl rfl hul huo rfl ?_ (hu := by exact D5 hul.symm)
 refine D0 ?_
 refine E6 (rC rfl (A5 rfl rfl (B5 (by repeat first | exact mH | apply mT)) hul)) (rT rfl) (rT rfl) ?_
 (exact A0K.mk (A8K (by assumption) (by assumption)) (hs1.R.mono (C1.le _ _)))
 refine D2 ?_
 refine sL (A5 rfl rfl (B5 (by repeat first | exact mH | apply mT)) hRl) rfl rfl ?_
 (refine F4 rfl (B3L t G cells (A5k (by assumption)).1 (by assumption) hr) rfl rfl (fun v G1 hle1 hh => ?_); obtain ⟨u, uc, rfl, hru, hu1⟩ := hh; have hul := hru.len; have huo := hru.one; have hVu := A7j u G1 uc hru)
 refine J5 ?_
 refine sE (A6 rfl) rfl (fun b57 => ?_)
 refine sS rfl rfl rfl hul huo rfl ?_ (hu := by exact D5 hul.symm)
 refine sQ (qA rfl) rfl (sQ (qA rfl) rfl (sD (nS (tS ?_))))
 refine B6 ?_
 refine tS (tR (sQ (qM rfl) rfl ?_))
 refine sB (R9 rfl rfl) rfl rfl (fun h68 => ?_) (fun h68 => ?_)
 refine T2 ?_
 refine E6 (rC rfl (A2 rfl rfl)) (rT rfl) (rT rfl) ?_
 (exact A0K.mk (A8L (by assumption) (by assumption) (by omega)) (O3 _))
 refine sQ (qA rfl) rfl (sD (nS (cF rfl (tS (tR ?_)))))
 refine sL (A5 rfl rfl (B5 (by repeat first | exact mH | apply mT)) hul) rfl rfl ?_
 refine H3 rfl (hVu) rfl rfl (fun h95 => ?_) (fun h95 => ?_)
 refine L6 ?_
 refine sL (A5 rfl rfl (B5 (by repeat first | exact mH | apply mT)) hul) rfl rfl ?_
 (refine F4 rfl (A22 u G1 uc (A5G (by assumption)) hru) rfl rfl (fun v G2 hle2 hh => ?_); obtain ⟨cs2, F2, rfl, hs2, hn2⟩ := hh; have hwl := hs2.R.len; have hwo := hs2.R.one)
 refine sS rfl rfl rfl hwl hwo rfl ?_ (hu := by exact D5 hwl.symm)
 refine sQ (qA rfl) rfl (sQ (qA rfl) rfl (sD (nS (tT ?_))))
 refine E6 (rC rfl (A5 rfl rfl (B5 (by repeat first | exact mH | apply mT)) hwl)) (rT rfl) (rT rfl) ?_
 (have h9 := hu1 (by omega); subst h9; exact A0K.mk (A8N (by assumption) (by assumption) (by omega) (by assumption)) (hs2.R.mono (C1.le _ _)))
 refine K8 ?_
 refine E6 (rC rfl (A2 rfl rfl)) (rT rfl) (rT rfl) ?_
 (have h9 := hu1 (by omega); subst h9; exact A0K.mk (A8M (by assumption) (by assumption) (by omega) (by assumption)) (O3 _))
 refine K8 ?_
 refine E6 (rC rfl (A2 rfl rfl)) (rT rfl) (rT rfl) ?_
 (exact A0K.mk (A8J (by assumption)) (O3 _))
def N9 : Nat → Tm → Tm × Int × Int × Nat
 | 0, e => ((E3 e).1, (E3 e).2.1, (E3 e).2.2, 0)
 | n + 1, e => if (E3 e).2.1 = 1 then ((N9 n (E3 e).1).1, (N9 n (E3 e).1).2.1, (N9 n (E3 e).1).2.2.1, (N9 n (E3 e).1).2.2.2 + 1)
  else ((E3 e).1, (E3 e).2.1, (E3 e).2.2, 0)
theorem A5H (e : Tm) : N9 0 e = ((E3 e).1, (E3 e).2.1, (E3 e).2.2, 0) := by rw [N9]
theorem A5I {n : Nat} {e : Tm} (h : (E3 e).2.1 = 1) : N9 (n + 1) e = ((N9 n (E3 e).1).1, (N9 n (E3 e).1).2.1, (N9 n (E3 e).1).2.2.1, (N9 n (E3 e).1).2.2.2 + 1) := by rw [N9, if_pos h]
theorem A5J {n : Nat} {e : Tm} (h : (E3 e).2.1 ≠ 1) : N9 (n + 1) e = ((E3 e).1, (E3 e).2.1, (E3 e).2.2, 0) := by rw [N9, if_neg h]
theorem A8O : ∀ (n : Nat) (e : Tm), (N9 n e).2.1 = 1 → J2 n e = (J4, 5, 0, (N9 n e).2.2.2)
 | 0, e, h => by rw [A5H] at h ⊢; rw [J2, if_pos h]
 | n + 1, e, h => by
  by_cases h1 : (E3 e).2.1 = 1
  ·rw [A5I h1] at h ⊢
   rw [J2, if_pos h1, A8O n _ h]
  ·rw [A5J h1] at h; exact absurd h h1
theorem A8P : ∀ (n : Nat) (e : Tm), (N9 n e).2.1 ≠ 1 → J2 n e = N9 n e
 | 0, e, h => by rw [A5H] at h ⊢; rw [J2, if_neg h]
 | n + 1, e, h => by
  by_cases h1 : (E3 e).2.1 = 1
  ·rw [A5I h1] at h ⊢
   rw [J2, if_pos h1, A8P n _ h]
  ·rw [A5J h1]; rw [J2, if_neg h1]
def EvP (r : Tm × Int × Int × Nat) : IM → Value → List A4 → Prop := L5 fun G' v => ∃ cells, v = .tuple ⟨[.agg ⟨cells⟩, .int .i64 r.2.1, .int .i64 r.2.2.1, .int .i64 (r.2.2.2 : Int)]⟩ ∧ A9 G' r.1 cells
def A2g (i : Nat) (r : Tm × Int × Int × Nat) : Tm × Int × Int × Nat := (r.1, r.2.1, r.2.2.1, r.2.2.2 + i)
theorem B3N {m i : Nat} {e : Tm} (h : (E3 e).2.1 ≠ 1 ∨ m = 0) : A2g i (N9 m e) = ((E3 e).1, (E3 e).2.1, (E3 e).2.2, i) := by
 cases m with
 | zero => simp [A2g, N9]
 | succ m =>
  rcases h with h | h
  ·simp only [A2g, N9]; rw [if_neg h]; simp
  ·cases h
theorem B3O {m i : Nat} {e : Tm} (h : (E3 e).2.1 = 1) (hm : 0 < m) : A2g i (N9 m e) = A2g (i + 1) (N9 (m - 1) (E3 e).1) := by
 obtain ⟨k, rfl⟩ : ∃ k, m = k + 1 := ⟨m - 1, by omega⟩
 simp only [A2g, N9]; rw [if_pos h]; simp only [Nat.add_sub_cancel, Nat.add_assoc, Nat.add_comm 1 i]
section fin
variable {P : Program} {Γ : K1} {env : K7} {hp : List A4} {G : IM}
theorem B3P {post : IM → Value → List A4 → Prop} {σ : Sy} (hk : post σ.G (.tuple ⟨[]⟩) []) : A0r P Γ [] post .normal σ := ⟨[], .nil, [], σ.hp, by simp, hk⟩
theorem A8Q {r r2 r3 r4 : ResultVar} {post : IM → Value → List A4 → Prop} {v v2 v3 v4 : Value} (h : Y4 P Γ ⟨env, hp, G⟩ r v) (h2 : Y4 P Γ ⟨env, hp, G⟩ r2 v2) (h3 : Y4 P Γ ⟨env, hp, G⟩ r3 v3) (h4 : Y4 P Γ ⟨env, hp, G⟩ r4 v4) (hk : post G (.tuple ⟨[v, v2, v3, v4]⟩) []) :
  A0r P Γ [r, r2, r3, r4] post .ret ⟨env, hp, G⟩ := A3F (.cons h (.cons h2 (.cons h3 (.cons h4 .nil)))) hk
end fin
theorem EvP.mk {G : IM} {r : Tm × Int × Int × Nat} {u : Tm} {c l : Int} {i : Nat} {cells : List Value} (h : r = (u, c, l, i)) (hr : A9 G u cells) : EvP r G (.tuple ⟨[.agg ⟨cells⟩, .int .i64 c, .int .i64 l, .int .i64 (i : Int)]⟩) [] := by
 subst h; exact ⟨rfl, cells, rfl, hr⟩
theorem B3Q (e : Tm) (n : Nat) (hn : n ≤ 300) (fid : FuncId) [B2 Tryz.prog fid] (us cs : List Value) (hq : ∀ (G : IM) (u : Tm) (cells : List Value), A9 G u cells → Fn Tryz.prog fid (us ++ [.agg ⟨cells⟩] ++ cs) [] G (H9 (.tuple ⟨[]⟩) G))
  (G : IM) (cells : List Value) (hr : A9 G e cells) : Fn Tryz.prog 43 [.agg ⟨cells⟩, .int .i64 (n : Int), .func (.func fid) ⟨us⟩ ⟨cs⟩] [] G (EvP (N9 n e)) := by
 have hRl := hr.len
 have hRo := hr.one
 have hq0 := hq G e cells hr
 refine B7 Tryz.func43 rfl Tryz.ntmps43 Tryz.results43 rfl ?_
 intro w0
 refine tS (tR ?_)
 refine sE (C2 rfl rfl) rfl (fun b3 => ?_)
 refine sE (A6 rfl) rfl (fun b4 => ?_)
 refine D7 ?_
 refine sL (A5 rfl rfl (B5 (by repeat first | exact mH | apply mT)) hRl) rfl rfl ?_
 (refine A6A rfl rfl hq0 rfl rfl ?_)
 refine sD (nS (tS (tR (sQ (qA rfl) rfl (sD (nS ?_))))))
 refine B6 ?_
 (refine J3 (fun (x : Nat × Tm × List Value × IM) => ⟨[(10, .int .i64 (x.1 : Int)), (1, .int .i64 (n : Int)), (2, .func (.func fid) ⟨us⟩ ⟨cs⟩), (3, .pointer (some ⟨b3, 0, none⟩)), (6, .pointer (some ⟨b4, 0, none⟩))], [.blk b3 x.2.2.1, .blk b4 [.int .i64 0, .string ⟨⟨[]⟩⟩, .int .i64 0, .int .i64 0, .slice none 0 0, .int .i64 0, .slice none 0 0, .int .i64 0, .slice none 0 0]], x.2.2.2⟩) (fun x => x.1 ≤ n ∧ B1 G x.2.2.2 ∧ A9 x.2.2.2 x.2.1 x.2.2.1 ∧ A2g x.1 (N9 (n - x.1) x.2.1) = N9 n e) (fun x => n - x.1) (0, e, cells, G) ?_ ?_ ?_)
 (simp only [E2]; exact C5)
 (exact ⟨Nat.zero_le _, B1.refl _, hr, rfl⟩)
 (rintro ⟨i, u, uc, Gi⟩ ⟨hi, hle, hru, hev⟩; simp only [] at hi hle hru hev ⊢; have hul := hru.len; have huo := hru.one)
 refine tS ?_
 refine B6 ?_
 refine tS (tR ?_)
 refine sL (A5 rfl rfl (B5 (by repeat first | exact mH | apply mT)) hul) rfl rfl ?_
 (refine F4 rfl (B3M u Gi uc hru) rfl rfl (fun v G1 hle1 hh => ?_); obtain ⟨wc, hv, hrw⟩ := hh; have hwl := hrw.len; have hwo := hrw.one; have hend := @B3N (n - i) i u; have hgo := @B3O (n - i) i u; generalize E3 u = r at hv hrw hend hgo; obtain ⟨w, c, l⟩ := r; simp only at hv hrw hend hgo; subst hv)
 refine J5 ?_
 refine sE (A6 rfl) rfl (fun b37 => ?_)
 refine sS rfl rfl rfl hwl hwo rfl ?_ (hu := by exact D5 hwl.symm)
 refine D7 ?_
 refine sB (R9 rfl rfl) rfl rfl (fun h47 => ?_) (fun h47 => ?_)
 refine L6 ?_
 refine sL (A5 rfl rfl (B5 (by repeat first | exact mH | apply mT)) hwl) rfl rfl ?_
 refine sQ (qM rfl) rfl (sQ (qM rfl) rfl (sQ (qM rfl) rfl ?_))
 refine sS rfl rfl rfl hwl hwo rfl ?_ (hu := by exact D5 hwl.symm)
 refine K6 ?_
 refine A8Q (rC rfl (A5 rfl rfl (B5 (by repeat first | exact mH | apply mT)) hwl)) (rT rfl) (rT rfl) (rT rfl) ?_
 (exact EvP.mk (by rw [← hev]; exact hend (by omega)) hrw)
 refine sQ (qM rfl) rfl (sQ (qM rfl) rfl (sQ (qM rfl) rfl ?_))
 refine sB (qE rfl rfl) rfl rfl (fun h79 => ?_) (fun h79 => ?_)
 refine sQ (S5 rfl rfl) rfl (sD (nS (qT rfl (tS (tR ?_)))))
 refine sL (A5 rfl rfl (B5 (by repeat first | exact mH | apply mT)) hwl) rfl rfl ?_
 refine sQ (qM rfl) rfl (sQ (qM rfl) rfl (sQ (qM rfl) rfl ?_))
 refine sS rfl rfl rfl hwl hwo rfl ?_ (hu := by exact D5 hwl.symm)
 refine K6 ?_
 refine A8Q (rC rfl (A5 rfl rfl (B5 (by repeat first | exact mH | apply mT)) hwl)) (rT rfl) (rT rfl) (rT rfl) ?_
 (exact EvP.mk (by rw [← hev]; exact hend (by omega)) hrw)
 refine D7 ?_
 refine sL (A5 rfl rfl (B5 (by repeat first | exact mH | apply mT)) hwl) rfl rfl ?_
 refine S6 rfl rfl rfl hwl hwo rfl (by repeat first | exact Sw.here | apply Sw.there) (by exact D5 (hul.trans hwl.symm)) ?_
 refine sD (nS (tR (sQ (qM rfl) rfl ?_)))
 refine sL (A5 rfl rfl (B5 (by repeat first | exact mH | apply mT)) hwl) rfl rfl ?_
 (refine A6A rfl rfl (hq G1 w wc hrw) rfl rfl ?_)
 refine sD (M9 (nS (tR (sQ (qM rfl) rfl ?_))))
 refine sP (I2 rfl rfl (by omega) (by omega)) rfl rfl ?_
 refine sQ (qA rfl) rfl (sD ?_)
 refine I9 (i + 1, w, wc, G1) ?_ ?_ ?_
 (simp only [E2]; exact C5)
 (dsimp only; exact ⟨by omega, hle.trans hle1, hrw, by rw [← hev, hgo (by omega) (by omega), show n - (i + 1) = n - i - 1 by omega]⟩)
 (show n - (i + 1) < n - i; omega)
theorem B3R (fuel : Int) (G : IM) : Fn Tryz.prog 42 [.int .i64 fuel] [] G (H9 (.bool (S7 fuel 0 300)) G) := by
 refine B7 Tryz.func42 rfl Tryz.ntmps42 Tryz.results42 rfl ?_
 intro w0
 refine D7 ?_
 refine H2 rfl ((A07 _ _ _ _)) rfl rfl ?_
 refine sQ (qA rfl) rfl (sD (nS (tT (F0 (rT rfl) ?_))))
 (exact ⟨rfl, rfl, rfl⟩)
theorem A8R {e : Tm} {fuel : Int} (h : S7 fuel 0 300 = false) : Q6 e fuel = (J4, 3, 0) := by
 unfold Q6; rw [if_neg (A6H h)]; rfl
theorem A8S {e : Tm} {fuel : Int} (h : S7 fuel 0 300 = true) (h1 : (N9 fuel.toNat e).2.1 = 1) : Q6 e fuel = (J4, 5, 0) := by
 unfold Q6; rw [if_pos (A3M h), A8O _ _ h1]
theorem A8T {e : Tm} {fuel : Int} (h : S7 fuel 0 300 = true) (h1 : (N9 fuel.toNat e).2.1 ≠ 1) : Q6 e fuel = ((N9 fuel.toNat e).1, (N9 fuel.toNat e).2.1, (N9 fuel.toNat e).2.2.1) := by
 unfold Q6; rw [if_pos (A3M h), A8P _ _ h1]
theorem B3S (G : IM) (cells : List Value) (hl : cells.length = 9) (ho : cells.all (·.oneCell') = true) : Fn Tryz.prog 44 [.agg ⟨cells⟩] [] G (H9 (.tuple ⟨[]⟩) G) := by
 refine B7 Tryz.func44 rfl Tryz.ntmps44 Tryz.results44 rfl ?_
 intro w0
 refine tR ?_
 refine sE (C2 rfl rfl) rfl (fun b2 => ?_)
 refine sD ?_
 refine B3P ?_
 (exact ⟨rfl, rfl, rfl⟩)
theorem B3T (e : Tm) (fuel : Int) (G : IM) (cells : List Value) (hr : A9 G e cells) : Fn Tryz.prog 19 [.agg ⟨cells⟩, .int .i64 fuel] [] G (A0K (Q6 e fuel)) := by
 have hRl := hr.len
 have hRo := hr.one
 have hno := @A8R e fuel
 have hmu := @A8S e fuel
 have hen := @A8T e fuel
 refine B7 Tryz.func19 rfl Tryz.ntmps19 Tryz.results19 rfl ?_
 intro w0
 refine tS (tR ?_)
 refine sE (C2 rfl rfl) rfl (fun b3 => ?_)
 refine sE (A6 rfl) rfl (fun b4 => ?_)
 refine D7 ?_
 refine H3 rfl ((B3R fuel _)) rfl rfl (fun h13 => ?_) (fun h13 => ?_)
 refine sQ (pNt rfl) rfl (sD (nS (cF rfl (tK (nS (tS (tR ?_)))))))
 refine sL (A5 rfl rfl (B5 (by repeat first | exact mH | apply mT)) hRl) rfl rfl ?_
 refine sQ (qM rfl) rfl ?_
 (have hf : S7 fuel 0 300 = true := (by assumption); have hf2 := A3M hf; have hE := B3Q e fuel.toNat (by omega) 44 [] [] (fun G u cells hru => B3S G cells hru.len hru.one) G cells hr; rw [Int.toNat_of_nonneg hf2.1] at hE; refine F4 rfl hE rfl rfl (fun v G1 hle1 hh => ?_); obtain ⟨wc, hv, hrw⟩ := hh; have hwl := hrw.len; have hwo := hrw.one; have hmu := hmu hf; have hen := hen hf; generalize N9 fuel.toNat e = r at hv hrw hmu hen; obtain ⟨w, c, l, i⟩ := r; simp only at hv hrw hmu hen; subst hv)
 refine R2 ?_
 refine sE (A6 rfl) rfl (fun b30 => ?_)
 refine sS rfl rfl rfl hwl hwo rfl ?_ (hu := by exact D5 hwl.symm)
 refine D2 ?_
 refine sB (qE rfl rfl) rfl rfl (fun h41 => ?_) (fun h41 => ?_)
 refine L7 ?_
 refine E6 (rC rfl (A2 rfl rfl)) (rT rfl) (rT rfl) ?_
 (exact A0K.mk (hmu (by omega)) (O3 _))
 refine sD (nS (cF rfl (tK (nS (tS (tR ?_))))))
 refine sL (A5 rfl rfl (B5 (by repeat first | exact mH | apply mT)) hwl) rfl rfl ?_
 refine sQ (qM rfl) rfl (sQ (qM rfl) rfl ?_)
 refine sS rfl rfl rfl hwl hwo rfl ?_ (hu := by exact D5 hwl.symm)
 refine sQ (qA rfl) rfl (sQ (qA rfl) rfl (sD (nS (tT ?_))))
 refine E6 (rC rfl (A5 rfl rfl (B5 (by repeat first | exact mH | apply mT)) hwl)) (rT rfl) (rT rfl) ?_
 (exact A0K.mk (hen (by omega)) hrw)
 refine M1 ?_
 refine E6 (rC rfl (A2 rfl rfl)) (rT rfl) (rT rfl) ?_
 (exact A0K.mk (hno (by assumption)) (O3 _))
mutual
def A8U (L : Int → Prop) : Tm → Prop
 | .mk k nm num ty fr lb ks => (k = 14 → L lb) ∧ A8V L ks
def A8V (L : Int → Prop) : List Tm → Prop
 | [] => True
 | t :: ts => A8U L t ∧ A8V L ts
end
def B5Q (L : Int → Prop) (T : Ty) (r : Stp) : Prop := (r.2.1 = 1 ∧ A0E [] r.1 = some T ∧ A8U L r.1) ∨ (r.2.1 = 2 ∧ L r.2.2)
mutual
theorem A8W : ∀ a b : Ty, J7 a b = true → J7 b a = true
 | .mk k ks, .mk k' ks', h => by
  rw [S2] at h ⊢
  simp only [Bool.or_eq_true, Bool.and_eq_true, decide_eq_true_eq] at h ⊢
  rcases h with (h | h) | h
  ·exact .inl (.inr h)
  ·exact .inl (.inl h)
  ·exact .inr ⟨h.1.symm, A8X ks ks' h.2⟩
theorem A8X : ∀ xs ys : List Ty, N0 xs ys = true → N0 ys xs = true
 | [], [], _ => rfl
 | [], b :: ys, h => by simp [N0] at h
 | a :: xs, [], h => by simp [N0] at h
 | a :: xs, b :: ys, h => by
  simp only [N0, Bool.and_eq_true] at h ⊢
  exact ⟨A8W a b h.1, A8X xs ys h.2⟩
end
mutual
theorem A8Y : ∀ a b : Ty, J7 a b = true → J7 a (T5 a b) = true ∧ J7 b (T5 a b) = true
 | .mk k ks, .mk k' ks', h => by
  rw [A0W]
  by_cases h1 : k = 1
  ·rw [if_pos h1]
   exact ⟨h, A2e _⟩
  ·rw [if_neg h1]
   by_cases h2 : k' = 1
   ·rw [if_pos h2]
    exact ⟨A2e _, A8W _ _ h⟩
   ·rw [if_neg h2]
    rw [S2] at h
    simp only [Bool.or_eq_true, Bool.and_eq_true, decide_eq_true_eq] at h
    have h3 : k = k' ∧ N0 ks ks' = true := by
     rcases h with (h | h) | h
     ·exact absurd h h1
     ·exact absurd h h2
     ·exact h
    obtain ⟨m1, m2⟩ := A8Z ks ks' h3.2
    rw [S2, S2, m1, m2]
    simp [h3.1]
theorem A8Z : ∀ xs ys : List Ty, N0 xs ys = true → N0 xs (R7 xs ys) = true ∧ N0 ys (R7 xs ys) = true
 | [], [], _ => ⟨rfl, rfl⟩
 | [], b :: ys, h => by simp [N0] at h
 | a :: xs, [], h => by simp [N0] at h
 | a :: xs, b :: ys, h => by
  simp only [N0, Bool.and_eq_true] at h
  obtain ⟨m1, m2⟩ := A8Y a b h.1
  obtain ⟨m3, m4⟩ := A8Z xs ys h.2
  simp only [R7, N0, m1, m2, m3, m4]
  exact ⟨rfl, rfl⟩
end
theorem B3U {k : Int} {a b : Ty} (hk : k = 4 ∨ k = 5) (h : C9 (.mk k [a, b]) = true) : C9 a = true ∧ C9 b = true := by
 obtain ⟨x, y, he, h1, h2⟩ := A4h hk h
 cases he
 exact ⟨h1, h2⟩
theorem B3V {k : Int} (hk : k = 4 ∨ k = 5) : C9 (.mk k [P0, P0]) = true := by rcases hk with rfl | rfl <;> decide
theorem A80 {k : Int} {t a b : Ty} (hk : k = 4 ∨ k = 5) (ht : C9 t = true) (h : R3 k t = some (a, b)) : C9 (.mk k [a, b]) = true ∧ J7 t (.mk k [a, b]) = true := by
 obtain ⟨tk, ks⟩ := t
 rw [A1u] at h
 by_cases he : tk = k
 ·subst he
  rw [if_pos rfl] at h
  obtain ⟨x, y, rfl, _, _⟩ := A4h hk ht
  cases h
  exact ⟨ht, A2e _⟩
 ·rw [if_neg he] at h
  by_cases h1 : tk = 1
  ·rw [if_pos h1] at h
   cases h
   refine ⟨B3V hk, ?_⟩
   rw [S2, h1]; rfl
  ·rw [if_neg h1] at h; cases h
structure Wt (cx : Cx) (k : Int) (nm : ByteArray) (ty : Ty) (h w : List Ty) (t : Ty) : Prop where
 len : w = [] ∨ w.length = h.length
 ok : ∀ i, (hi : i < w.length) → (hh : i < h.length) → J7 h[i] w[i] = true ∧ C9 w[i] = true
 again : k ≠ 13 → M5 cx k nm ty (if w = [] then h else w) = some (w, t)
 asT : k = 13 → w = [t]
theorem B3W {cx : Cx} {k : Int} {nm : ByteArray} {ty : Ty} {h w : List Ty} {t : Ty} (hh : ∀ a ∈ h, C9 a = true) (hty : k = 13 → C9 ty = true) (hn : D1 k = (h.length : Int)) (h14 : k ≠ 14) (hw : M5 cx k nm ty h = some (w, t)) : Wt cx k nm ty h w t := by
 have hkr := A4o (by rw [hn]; omega : 0 ≤ D1 k)
 have hkk : k = 1 ∨ k = 2 ∨ (k = 3 ∨ k = 4) ∨ k = 5 ∨ k = 6 ∨ (k = 7 ∨ k = 8) ∨ k = 9 ∨ k = 10 ∨ (k = 11 ∨ k = 12) ∨ k = 13 := by omega
 have nil : w = [] → k ≠ 13 → Wt cx k nm ty h w t := by
  rintro rfl h13
  exact ⟨.inl rfl, fun i hi => by simp at hi, fun _ => by rw [if_pos rfl]; exact hw, fun h => absurd h h13⟩
 rcases hkk with rfl | rfl | hk | rfl | rfl | hk | rfl | rfl | hk | rfl
 ·refine nil ?_ (by decide)
  rw [mW1] at hw; split at hw <;> cases hw; rfl
 ·refine nil ?_ (by decide)
  rw [mW2] at hw; cases hw; rfl
 ·refine nil ?_ (by omega)
  rw [A4d hk] at hw; cases hw; rfl
 ·refine nil ?_ (by decide)
  rw [mW5] at hw; cases hw; rfl
 ·match h, (show h.length = 2 by have : D1 6 = 2 := rfl; omega) with
  | [x, y], _ =>
  rw [mW6] at hw
  simp only [List.getD_cons_zero, List.getD_cons_succ] at hw
  split at hw
  ·rename_i a b hm
   split at hw
   ·rename_i hc
    cases hw
    obtain ⟨v1, v2⟩ := A80 (.inl rfl) (hh x (by simp)) hm
    obtain ⟨v3, v4⟩ := B3U (.inl rfl) v1
    refine ⟨.inr rfl, fun i hi hi2 => ?_, fun _ => ?_, fun h => absurd h (by decide)⟩
    ·match i, hi with
     | 0, _ => exact ⟨v2, v1⟩
     | 1, _ => exact ⟨hc, v3⟩
    ·rw [if_neg (by simp), mW6]
     simp only [List.getD_cons_zero, List.getD_cons_succ, A1u, if_true, A2e]
   ·cases hw
  ·cases hw
 ·match h, (show h.length = 2 by rcases hk with rfl | rfl <;> (first | (have : D1 7 = 2 := rfl; omega) | (have : D1 8 = 2 := rfl; omega))) with
  | [x, y], _ =>
  rw [V3 hk] at hw
  simp only [List.getD_cons_zero, List.getD_cons_succ] at hw
  split at hw
  ·rename_i hc
   cases hw
   refine ⟨.inr rfl, fun i hi hi2 => ?_, fun _ => ?_, fun h => by omega⟩
   ·match i, hi with
    | 0, _ => exact ⟨hc.1, (show C9 S3 = true by decide)⟩
    | 1, _ => exact ⟨hc.2, (show C9 S3 = true by decide)⟩
   ·rw [if_neg (by simp), V3 hk]
    simp only [List.getD_cons_zero, List.getD_cons_succ, A2e, and_self, if_true]
  ·cases hw
 ·match h, (show h.length = 3 by have : D1 9 = 3 := rfl; omega) with
  | [x, y, z], _ =>
  rw [mW9] at hw
  simp only [List.getD_cons_zero, List.getD_cons_succ] at hw
  split at hw
  ·rename_i hc
   cases hw
   obtain ⟨c1, c2⟩ := A8Y y z hc.2
   have vm := A5z y z 1 hc.2 (hh y (by simp)) (hh z (by simp))
   refine ⟨.inr rfl, fun i hi hi2 => ?_, fun _ => ?_, fun h => absurd h (by decide)⟩
   ·match i, hi with
    | 0, _ => exact ⟨hc.1, (show C9 W9 = true by decide)⟩
    | 1, _ => exact ⟨c1, vm⟩
    | 2, _ => exact ⟨c2, vm⟩
   ·rw [if_neg (by simp), mW9]
    simp only [List.getD_cons_zero, List.getD_cons_succ, A2e, and_self, if_true, A8m]
  ·cases hw
 ·refine nil ?_ (by decide)
  rw [A5x] at hw; cases hw; rfl
 ·match h, (show h.length = 1 by rcases hk with rfl | rfl <;> (first | (have : D1 11 = 1 := rfl; omega) | (have : D1 12 = 1 := rfl; omega))) with
  | [x], _ =>
  rw [A3j hk] at hw
  simp only [List.getD_cons_zero] at hw
  split at hw
  ·rename_i a b hm
   cases hw
   obtain ⟨v1, v2⟩ := A80 (.inr rfl) (hh x (by simp)) hm
   refine ⟨.inr rfl, fun i hi hi2 => ?_, fun _ => ?_, fun h => by omega⟩
   ·match i, hi with
    | 0, _ => exact ⟨v2, v1⟩
   ·rw [if_neg (by simp), A3j hk]
    simp only [List.getD_cons_zero, List.getD_cons_succ, A1u, if_true]
  ·cases hw
 ·match h, (show h.length = 1 by have : D1 13 = 1 := rfl; omega) with
  | [x], _ =>
  rw [A2C] at hw
  simp only [List.getD_cons_zero] at hw
  split at hw
  ·rename_i hc
   cases hw
   refine ⟨.inr rfl, fun i hi hi2 => ?_, fun h => absurd rfl h, fun _ => rfl⟩
   match i, hi with
   | 0, _ => exact ⟨hc, hty rfl⟩
  ·cases hw
theorem B3X {l : Int} (h1 : 1 ≤ l) (h2 : l ≤ 99) : A1p l = true := by
 unfold A1p
 rw [A2v.2 ⟨h1, h2⟩]; rfl
theorem B3Y {u : Tm} {a b : Ty} {l D : Int} (hu : N7 40 13 u (D + 1) = true) (hc : J7 a b = true) (ha : C9 a = true) (hb : C9 b = true) (h1 : 1 ≤ l) (h2 : l ≤ 99) (hD : D ≤ 40) : N7 40 13 (O7 u a b l) D = true := by
 unfold O7
 rw [A17 hD (by decide) (W8.2 ⟨rfl, by simp, fun _ => rfl, by simp, fun _ => rfl, fun _ => hb, by simp, fun _ => ⟨by simp [A03, ha, hb, hc], B3X h1 h2⟩, by simp⟩)]
 simp [M4, hu]
theorem A5K {cx : Cx} : ∀ (us : List Tm) (h w : List Ty) (l D : Int), us.length = h.length → w.length = h.length → (∀ i, (hi : i < w.length) → (hh : i < h.length) → J7 h[i] w[i] = true ∧ C9 w[i] = true) → (∀ a ∈ h, C9 a = true) → X7 cx us = some h → M4 40 13 us (D + 1) = true → 0 ≤ l → (F8 us h w l).2 ≤ 99 → D ≤ 40 →
  X7 cx (F8 us h w l).1 = some w ∧ M4 40 13 (F8 us h w l).1 D = true ∧ (H1 (F8 us h w l).1 : Int) = H1 us + ((F8 us h w l).2 - l)
 | [], [], [], l, D, _, _, _, _, ht, _, _, _, _ => by simp [F8, X7, M4, H1]
 | [], a :: h, w, l, D, hl, _, _, _, _, _, _, _, _ => by simp at hl
 | u :: us, [], w, l, D, hl, _, _, _, _, _, _, _, _ => by simp at hl
 | [], [], b :: w, l, D, _, hl, _, _, _, _, _, _, _ => by simp at hl
 | u :: us, a :: h, [], l, D, _, hl, _, _, _, _, _, _, _ => by simp at hl
 | u :: us, a :: h, b :: w, l, D, h1, h2, hw, hv, ht, hs, hl, h99, hD => by
  rw [X7] at ht
  split at ht
  ·cases ht
  ·rename_i a' ha
   split at ht
   ·cases ht
   ·rename_i h' hh'
    simp only [Option.some.injEq, List.cons.injEq] at ht
    obtain ⟨rfl, rfl⟩ := ht
    rw [M4, Bool.and_eq_true] at hs
    obtain ⟨c1, c2⟩ := hw 0 (by simp) (by simp)
    have hw' : ∀ i, (hi : i < w.length) → (hh : i < h'.length) → J7 h'[i] w[i] = true ∧ C9 w[i] = true := fun i hi hh => hw (i + 1) (by simpa using hi) (by simpa using hh)
    have hv' : ∀ x ∈ h', C9 x = true := fun x hx => hv x (List.mem_cons_of_mem _ hx)
    simp only [F8] at h99 ⊢
    by_cases he : P1 a' b = true
    ·simp only [if_pos he] at h99 ⊢
     obtain ⟨i1, i2, i3⟩ := A5K us h' w l D (by simpa using h1) (by simpa using h2) hw' hv' hh' hs.2 hl h99 hD
     have hab := (A08 _ _).1 he
     subst hab
     refine ⟨by rw [X7, ha, i1], ?_, ?_⟩
     ·rw [M4, Bool.and_eq_true]; exact ⟨A5y 40 13 u (D + 1) D (by omega) hs.1, i2⟩
     ·simp only [H1]; omega
    ·simp only [if_neg he] at h99 ⊢
     obtain ⟨i1, i2, i3⟩ := A5K us h' w (l + 1) D (by simpa using h1) (by simpa using h2) hw' hv' hh' hs.2 (by omega) h99 hD
     have hlab := A1L us h' w (l + 1)
     refine ⟨by rw [X7, O7, B2W ha, i1], ?_, ?_⟩
     ·rw [M4, Bool.and_eq_true]
      exact ⟨B3Y hs.1 c1 (hv a' List.mem_cons_self) c2 (by omega) (by omega) hD, i2⟩
     ·simp only [H1, B13]; omega
def A81 (cx : Cx) (t : Tm) (D l : Int) (u : Tm) (a : Ty) (l' : Int) : Prop := N7 40 13 u D = true ∧ A0E cx u = some a ∧ C9 a = true ∧ l ≤ l' ∧ l' + 1 ≤ l + (E0 t : Int) ∧ (E0 u : Int) ≤ E0 t + (l' - l)
theorem A82 (ks : List Tm) (ih : ∀ t ∈ ks, ∀ (d D : Int) (cx : Cx) (l : Int) (u : Tm) (a : Ty) (l' : Int), N7 12 14 t d = true → cxV cx → 0 ≤ l → N1 cx t l = some (u, a, l') → l' ≤ 99 → D + 2 * (13 - d) ≤ 41 → A81 cx t D l u a l') :
  ∀ (d D : Int) (cx : Cx) (l : Int) (us : List Tm) (h : List Ty) (l' : Int), M4 12 14 ks d = true → cxV cx → 0 ≤ l → M0 cx ks l = some (us, h, l') → l' ≤ 99 → D + 2 * (13 - d) ≤ 41 →
   M4 40 13 us D = true ∧ X7 cx us = some h ∧ (∀ a ∈ h, C9 a = true) ∧ l ≤ l' ∧ l' + ks.length ≤ l + (H1 ks : Int) ∧ (H1 us : Int) ≤ H1 ks + (l' - l) ∧ h.length = ks.length ∧ us.length = ks.length := by
 induction ks with
 | nil =>
  intro d D cx l us h l' _ _ _ he _ _
  simp only [M0, Option.some.injEq, Prod.mk.injEq] at he
  obtain ⟨rfl, rfl, rfl⟩ := he
  simp [M4, X7, H1]
 | cons t ts ihl =>
  intro d D cx l us h l' hs hcx hl he h99 hD
  rw [M4, Bool.and_eq_true] at hs
  rw [M0] at he
  split at he
  ·cases he
  ·rename_i u a l1 h1
   split at he
   ·cases he
   ·rename_i us' h' l2 h2
    simp only [Option.some.injEq, Prod.mk.injEq] at he
    obtain ⟨rfl, rfl, rfl⟩ := he
    have hp := B0N t
    
    have hmono : l1 ≤ l2 := by
     have : ∀ (zs : List Tm) (l : Int) us h l', M0 cx zs l = some (us, h, l') → l ≤ l' := by
      intro zs
      induction zs with
      | nil => intro l us h l' he; simp only [M0, Option.some.injEq, Prod.mk.injEq] at he; omega
      | cons z zs ihz =>
       intro l us h l' he
       rw [M0] at he
       split at he
       ·cases he
       ·rename_i u a l1 hz
        split at he
        ·cases he
        ·rename_i us' h' l2 hzs
         simp only [Option.some.injEq, Prod.mk.injEq] at he
         have := ihz _ _ _ _ hzs
         have := el_mono cx z l _ _ _ hz
         omega
     exact this ts l1 us' h' l2 h2
    obtain ⟨a1, a2, a3, a4, a5, a6⟩ := ih t List.mem_cons_self d D cx l u a l1 hs.1 hcx hl h1 (by omega) hD
    obtain ⟨b1, b2, b3, b4, b5, b6, b7, b8⟩ := ihl (fun x hx => ih x (List.mem_cons_of_mem _ hx)) d D cx l1 us' h' l2 hs.2 hcx (by omega) h2 h99 hD
    refine ⟨by rw [M4, a1, b1]; rfl, by rw [X7, a2, b2], ?_, by omega, ?_, ?_, by simp [b7], by simp [b8]⟩
    ·intro x hx
     rcases List.mem_cons.1 hx with h | h
     ·rw [h]; exact a3
     ·exact b3 x h
    ·simp only [H1, List.length_cons]; omega
    ·simp only [H1]; omega
where
 el_mono (cx : Cx) : ∀ (z : Tm) (l : Int) (u : Tm) (a : Ty) (l' : Int), N1 cx z l = some (u, a, l') → l ≤ l' := by
  intro z
  revert cx
  refine Tm.ind (C := fun z => ∀ (cx : Cx) (l : Int) (u : Tm) (a : Ty) (l' : Int), N1 cx z l = some (u, a, l') → l ≤ l') ?_ z
  intro k nm num ty fr lb ks ih cx l u a l' he
  rw [N1] at he
  have hL : ∀ (zs : List Tm), (∀ t ∈ zs, t ∈ ks) → ∀ (cx : Cx) (l : Int) us h l', M0 cx zs l = some (us, h, l') → l ≤ l' := by
   intro zs
   induction zs with
   | nil => intro _ cx l us h l' he; simp only [M0, Option.some.injEq, Prod.mk.injEq] at he; omega
   | cons z zs ihz =>
    intro hin cx l us h l' he
    rw [M0] at he
    split at he
    ·cases he
    ·rename_i u a l1 hz
     split at he
     ·cases he
     ·rename_i us' h' l2 hzs
      simp only [Option.some.injEq, Prod.mk.injEq] at he
      have := ihz (fun t ht => hin t (List.mem_cons_of_mem _ ht)) _ _ _ _ _ hzs
      have := ih z (hin z List.mem_cons_self) _ l _ _ _ hz
      omega
  split at he
  ·cases he
  ·rename_i us h l1 hk
   have h1 := hL ks (fun _ h => h) _ _ _ _ _ hk
   unfold Q0 at he
   split at he
   ·cases he
   ·rename_i w t hn
    simp only [Option.some.injEq, Prod.mk.injEq] at he
    have := A1L us h w l1
    omega
theorem B3Z : ∀ (t : Tm) (d D : Int) (cx : Cx) (l : Int) (u : Tm) (a : Ty) (l' : Int), N7 12 14 t d = true → cxV cx → 0 ≤ l → N1 cx t l = some (u, a, l') → l' ≤ 99 → D + 2 * (13 - d) ≤ 41 → A81 cx t D l u a l' := by
 refine Tm.ind fun k nm num ty fr lb ks ih d D cx l u a l' hs hcx hl he h99 hD => ?_
 obtain ⟨hd, h14, h3, h4⟩ := A0X hs
 obtain ⟨n1, n2, n3, n4, n5, n6, n7, n8, n9⟩ := W8.1 h3
 rw [N1] at he
 split at he
 ·cases he
 ·rename_i us h l1 hL
  unfold Q0 at he
  split at he
  ·cases he
  ·rename_i w t hN
   simp only [Option.some.injEq, Prod.mk.injEq] at he
   obtain ⟨hu, rfl, rfl⟩ := he
   have hlab := A1L us h w l1
   obtain ⟨b1, b2, b3, b4, b5, b6, b7, b8⟩ := A82 ks ih (d + 1) (D + 2) (O6 cx k nm ty) l us h l1 h4 (A4f hcx fun hk => n6 (.inl hk)) hl hL (by omega) (by omega)
   obtain ⟨hv, hw⟩ := A8h hN
   have hwt := B3W b3 (fun hk => n6 (.inr (.inl hk))) (by rw [b7]; exact n1) h14 hw
   
   obtain ⟨c1, c2, c3⟩ : X7 (O6 cx k nm ty) (F8 us h w l1).1 = some (if w = [] then h else w) ∧ M4 40 13 (F8 us h w l1).1 (D + 1) = true ∧ (H1 (F8 us h w l1).1 : Int) = H1 us + ((F8 us h w l1).2 - l1) := by
    rcases hwt.len with hn | hn
    ·subst hn
     rw [X2, if_pos rfl]
     refine ⟨b2, ?_, by simp⟩
     exact A4e 40 13 us (D + 2) (D + 1) (by omega) b1
    ·by_cases hn0 : w = []
     ·subst hn0
      rw [X2, if_pos rfl]
      refine ⟨b2, ?_, by simp⟩
      exact A4e 40 13 us (D + 2) (D + 1) (by omega) b1
     ·rw [if_neg hn0]
      exact A5K us h w l1 (D + 1) (by omega) hn hwt.ok b3 b2 (by rw [show D + 1 + 1 = D + 2 by omega]; exact b1) (by omega) h99 (by omega)
   have hlm := A2D us h w l1
   have hck : E0 (.mk k nm num ty fr lb ks) = H1 ks + 1 := A1s ..
   refine ⟨?_, ?_, hv, by omega, by rw [hck]; omega, ?_⟩
   ·rw [← hu]
    split
    ·rename_i hk
     have hl1 : ks.length = 1 := by rw [hk] at n1; have : D1 13 = 1 := rfl; omega
     have h0 : 0 < (F8 us h w l1).1.length := by omega
     rw [getD0' h0]
     have := (A1D 40 13 _ _).1 c2 0 h0
     exact A5y 40 13 _ (D + 1) D (by omega) this
    ·rename_i hk
     rw [A17 (by omega) hk (by rw [hlm, b8]; exact h3)]
     exact c2
   ·rw [← hu]
    split
    ·rename_i hk
     have hl1 : ks.length = 1 := by rw [hk] at n1; have : D1 13 = 1 := rfl; omega
     have h0 : 0 < (F8 us h w l1).1.length := by omega
     rw [getD0' h0]
     rw [hwt.asT hk, if_neg (by simp)] at c1
     rw [O6, if_neg (by omega)] at c1
     rw [← hwt.asT hk] at c1
     obtain ⟨x, hx⟩ : ∃ x, (F8 us h w l1).1 = [x] := by
      match hm : (F8 us h w l1).1, (show (F8 us h w l1).1.length = 1 by omega) with
      | [x], _ => exact ⟨x, rfl⟩
     simp only [hx, List.getElem_cons_zero] at c1 ⊢
     obtain ⟨y, hy, he⟩ := B2T c1
     rw [hwt.asT hk] at he
     cases he; exact hy
    ·rename_i hk
     refine B2S c1 h14 hv (hwt.again hk) ?_
     by_cases hn0 : w = []
     ·rw [hn0]; rfl
     ·rw [if_neg hn0]; exact A8o w
   ·rw [← hu, hck]
    split
    ·rename_i hk
     have hl1 : ks.length = 1 := by rw [hk] at n1; have : D1 13 = 1 := rfl; omega
     have h0 : 0 < (F8 us h w l1).1.length := by omega
     rw [getD0' h0]
     have := A6S (List.getElem_mem h0)
     omega
    ·rw [A1s]; omega
where
 getD0' {us : List Tm} (h : 0 < us.length) : us.getD 0 J4 = us[0] := by rw [List.getD_eq_getElem?_getD, List.getElem?_eq_getElem h, Option.getD_some]
theorem B30 : ∀ (t : Tm) (d : Int) (cx : Cx) (l : Int) (u : Tm) (a : Ty) (l' : Int), N7 12 14 t d = true → N1 cx t l = some (u, a, l') → l' + 1 ≤ l + (E0 t : Int) := by
 refine Tm.ind fun k nm num ty fr lb ks ih d cx l u a l' hs he => ?_
 obtain ⟨hd, h14, h3, h4⟩ := A0X hs
 obtain ⟨n1, _⟩ := W8.1 h3
 have hL : ∀ (zs : List Tm), (∀ t ∈ zs, t ∈ ks) → M4 12 14 zs (d + 1) = true → ∀ (cx : Cx) (l : Int) us h l', M0 cx zs l = some (us, h, l') → l' + zs.length ≤ l + (H1 zs : Int) ∧ us.length = zs.length := by
  intro zs
  induction zs with
  | nil => intro _ _ cx l us h l' he; simp only [M0, Option.some.injEq, Prod.mk.injEq] at he; obtain ⟨rfl, _, rfl⟩ := he; simp [H1]
  | cons z zs ihz =>
   intro hin hsz cx l us h l' he
   rw [M4, Bool.and_eq_true] at hsz
   rw [M0] at he
   split at he
   ·cases he
   ·rename_i u a l1 hz
    split at he
    ·cases he
    ·rename_i us' h' l2 hzs
     simp only [Option.some.injEq, Prod.mk.injEq] at he
     obtain ⟨rfl, rfl, rfl⟩ := he
     have h5 := ihz (fun t ht => hin t (List.mem_cons_of_mem _ ht)) hsz.2 _ _ _ _ _ hzs
     have h6 := ih z (hin z List.mem_cons_self) (d + 1) _ l _ _ _ hsz.1 hz
     simp only [H1, List.length_cons]
     exact ⟨by omega, by omega⟩
 rw [N1] at he
 split at he
 ·cases he
 ·rename_i us h l1 hk
  obtain ⟨g1, g2⟩ := hL ks (fun _ h => h) h4 _ _ _ _ _ hk
  unfold Q0 at he
  split at he
  ·cases he
  ·rename_i w t hn
   simp only [Option.some.injEq, Prod.mk.injEq] at he
   have := A1L us h w l1
   have hck : E0 (.mk k nm num ty fr lb ks) = H1 ks + 1 := A1s ..
   rw [hck]; omega
theorem A5L {e u : Tm} {t : Ty} (h : V4 e = some (u, t)) : P9 u = true ∧ A0E [] u = some t ∧ C9 t = true := by
 unfold V4 at h
 split at h
 ·rename_i hv
  obtain ⟨h1, h2⟩ := (Y9 e).1 hv
  split at h
  ·rename_i u' t' l' he
   cases h
   have hl : l' ≤ 99 := by
    have := A82.el_mono [] e 0 _ _ _ he
    have h3 : ∀ (t : Tm) (cx : Cx) (l : Int) (u : Tm) (a : Ty) (l' : Int), N1 cx t l = some (u, a, l') → l' ≤ l + 4 * (E0 t : Int) → True := fun _ _ _ _ _ _ _ _ => trivial
    exact el_lab e 1 h1 (by omega) he
   obtain ⟨g1, g2, g3, g4, g5, g6⟩ := B3Z e 1 1 [] 0 u t l' h1 A3m (by omega) he hl (by omega)
   exact ⟨(A7t u).2 ⟨g1, by omega⟩, g2, g3⟩
  ·cases h
 ·cases h
where
 el_lab (e : Tm) (d : Int) (h1 : N7 12 14 e d = true) (h2 : E0 e ≤ 30) {u : Tm} {t : Ty} {l' : Int} (he : N1 [] e 0 = some (u, t, l')) : l' ≤ 99 := by
  have := B30 e d [] 0 u t l' h1 he
  omega
def A5M : ByteArray := ⟨⟨[112, 97, 105, 114]⟩⟩
def A5N : ByteArray := ⟨⟨[102, 117, 110, 99, 116, 105, 111, 110]⟩⟩
def txT : ByteArray := ⟨⟨[84]⟩⟩
def txF : ByteArray := ⟨⟨[70]⟩⟩
def A83 (n : Int) : ByteArray := ⟨(Lib.decDigits n.toNat).toArray⟩
def A2H (k num : Int) : ByteArray := if k = 2 then A83 num else if k = 3 then txT else txF
mutual
def Z6 : Tm → ByteArray
 | .mk k nm num ty fr lb ks => if k = 10 ∨ (W1 (.mk k nm num ty fr lb []) = true ∧ ty.k = 5) then A5M else if k = 5 ∨ W1 (.mk k nm num ty fr lb []) = true then A5N else if k = 14 then B31 ks else A2H k num
def B31 : List Tm → ByteArray
 | [] => ⟨⟨[]⟩⟩
 | t :: _ => Z6 t
end
section
variable {k : Int} {nm : ByteArray} {num : Int} {ty fr : Ty} {lb : Int} {ks : List Tm}
theorem B32 (h : k = 10 ∨ (W1 (.mk k nm num ty fr lb ks) = true ∧ ty.k = 5)) : Z6 (.mk k nm num ty fr lb ks) = A5M := by
 rw [Z6]
 exact if_pos h
theorem B33 (h : ¬(k = 10 ∨ (W1 (.mk k nm num ty fr lb ks) = true ∧ ty.k = 5))) (h2 : k = 5 ∨ W1 (.mk k nm num ty fr lb ks) = true) : Z6 (.mk k nm num ty fr lb ks) = A5N := by
 rw [Z6]
 exact (if_neg h).trans (if_pos h2)
theorem A84 (h : W1 (.mk k nm num ty fr lb ks) = false) (hk : k = 14) (h0 : 0 < ks.length) : Z6 (.mk k nm num ty fr lb ks) = Z6 ks[0] := by
 rw [Z6, if_neg (by rintro (h1 | h1); omega; exact Bool.noConfusion (h1.1.symm.trans h)), if_neg (by rintro (h1 | h1); omega; exact Bool.noConfusion (h1.symm.trans h)), if_pos hk]
 cases ks with
 | nil => simp at h0
 | cons t ts => rfl
theorem B34 (h : W1 (.mk k nm num ty fr lb ks) = false) (hk : k ≠ 14) (h10 : k ≠ 10) (h5 : k ≠ 5) : Z6 (.mk k nm num ty fr lb ks) = A2H k num := by
 rw [Z6, if_neg (by rintro (h1 | h1); omega; exact Bool.noConfusion (h1.1.symm.trans h)), if_neg (by rintro (h1 | h1); omega; exact Bool.noConfusion (h1.symm.trans h)), if_neg hk]
end
section fin
variable {P : Program} {Γ : K1} {env : K7} {hp : List A4} {G : IM}
theorem A2h {r r2 r3 : ResultVar} {post : IM → Value → List A4 → Prop} {v v2 v3 : Value} {outs : List A4} (h : Y4 P Γ ⟨env, hp, G⟩ r v) (h2 : Y4 P Γ ⟨env, hp, G⟩ r2 v2) (h3 : Y4 P Γ ⟨env, hp, G⟩ r3 v3) (ho : A0 hp outs) (hk : post G (.tuple ⟨[v, v2, v3]⟩) outs) :
  A0r P Γ [r, r2, r3] post .ret ⟨env, hp, G⟩ := A6t (.cons h (.cons h2 (.cons h3 .nil))) ho.spec hk
end fin
def CsP (bx : Nat) (e : Tm) (a b : Ty) (l : Int) : IM → Value → List A4 → Prop := fun G' v outs => ∃ cells, v = .agg ⟨cells⟩ ∧ outs = [.blk bx [.int .i64 (if P1 a b = true then l else l + 1)]] ∧ A9 G' (if P1 a b = true then e else O7 e a b (l + 1)) cells
theorem CsP.yes {G : IM} {bx : Nat} {e : Tm} {a b : Ty} {l : Int} {cells : List Value} (h : P1 a b = true) (hr : A9 G e cells) : CsP bx e a b l G (.agg ⟨cells⟩) [.blk bx [.int .i64 l]] := ⟨cells, rfl, by rw [if_pos h], by rw [if_pos h]; exact hr⟩
theorem CsP.no {G : IM} {bx : Nat} {e : Tm} {a b : Ty} {l : Int} {cells : List Value} (h : P1 a b = false) (hr : A9 G (O7 e a b (l + 1)) cells) : CsP bx e a b l G (.agg ⟨cells⟩) [.blk bx [.int .i64 (l + 1)]] := ⟨cells, rfl, by rw [if_neg (by rw [h]; decide)], by rw [if_neg (by rw [h]; decide)]; exact hr⟩
theorem B35 (bx : Nat) (e : Tm) (a b : Ty) (l : Int) (G : IM) (ce ca cb : List Value) (hl : -1000000000000 ≤ l ∧ l ≤ 1000000000000) (hre : A9 G e ce) (hra : B3 G a ca) (hrb : B3 G b cb) :
  Fn Tryz.prog 76 [.pointer (some ⟨bx, 0, none⟩), .agg ⟨ce⟩, .agg ⟨ca⟩, .agg ⟨cb⟩] [.blk bx [.int .i64 l]] G (CsP bx e a b l) := by
 have hel := hre.len
 have heo := hre.one
 have hS := A5m a b G ca cb hra hrb
 obtain ⟨v1, v2, v3, v4, v5, v6, v7, v8, v9, rfl⟩ := nine hel
 obtain ⟨ak, aks⟩ := a
 obtain ⟨bk, bks⟩ := b
 obtain ⟨pa, cca, ea, rfl, hka, _⟩ := hra.open
 obtain ⟨pb, ccb, eb, rfl, hkb, _⟩ := hrb.open
 refine B7 Tryz.func76 rfl Tryz.ntmps76 Tryz.results76 rfl ?_
 intro w0
 refine tS (tR ?_)
 refine sE (C2 rfl rfl) rfl (fun b3 => ?_)
 refine sE (C2 rfl rfl) rfl (fun b4 => ?_)
 refine sE (C2 rfl rfl) rfl (fun b5 => ?_)
 refine sE (A6 rfl) rfl (fun b6 => ?_)
 refine D0 ?_
 refine H3 rfl (hS) rfl rfl (fun h14 => ?_) (fun h14 => ?_)
 refine sD (nS (qT rfl (tS (tR ?_))))
 refine sL (A5 rfl rfl (B5 (by repeat first | exact mH | apply mT)) hel) rfl rfl ?_
 refine sS rfl rfl rfl hel heo rfl ?_ (hu := by exact D5 hel.symm)
 refine sD (nS (tT (rS ?_)))
 refine H0 (outs := [.blk bx [.int .i64 _]]) (rC rfl (A2 rfl rfl)) (A0.cons (by repeat (first | exact Pk.here | apply Pk.there)) A0.nil) ?_
 (exact CsP.yes (by assumption) hre)
 refine sD (nS (cF rfl (tK (nS (tS (tR (sQ (qM rfl) rfl ?_)))))))
 refine sQ (Y3 rfl) rfl ?_
 refine sQ (B8 rfl) rfl (sL (C7 rfl rfl) rfl rfl ?_)
 refine sP (I2 rfl rfl (by omega) (by omega)) rfl rfl ?_
 refine sQ (Y3 rfl) rfl ?_
 refine sQ (B8 rfl) rfl (F9 ?_)
 refine sD (nS (tS ?_))
 refine E4 E7 rfl ?_
 refine P8 (i := 6) (l' := [ff,ff,ff,ff,ff,ff,tt,ff,ff,ff]) rfl D6 (A5 rfl rfl (B5 (by repeat first | exact mH | apply mT)) hel) rfl (by kernel_rfl) rfl rfl ?_
 refine aL 0 rfl (A2 rfl rfl) rfl ?_
 refine aL 1 rfl (A2 rfl rfl) rfl ?_
 refine aP 2 rfl (qM rfl) rfl ?_
 refine aP 3 rfl (Y3 rfl) rfl ?_
 refine aP 4 rfl (B8 rfl) rfl ?_
 refine aL 5 rfl (C7 rfl rfl) rfl ?_
 refine A3 7 ?_
 (refine E1 rfl (C3 rfl rfl rfl (by omega) (by unfold maxLen; omega) rfl) rfl rfl ?_; rintro _ ⟨b55, rfl⟩)
 refine aP 8 rfl (S0 rfl rfl) rfl ?_
 refine A3 9 ?_
 refine H6 rfl ?_
 refine C4 (nS ?_)
 (refine H8 (cs := [v1, v2, v3, v4, v5, v6, v7, v8, v9]) (by repeat (first | exact Pk.here | apply Pk.there)) (fun G2 hle2 hsl2 hno2 => ?_))
 refine tT ?_
 refine H0 (outs := [.blk bx [.int .i64 _]]) (rC rfl (A2 rfl rfl)) (A0.cons (by repeat (first | exact Pk.here | apply Pk.there)) A0.nil) ?_
 (exact CsP.no (by assumption) (A9.put (us := [e]) (es := [[v1, v2, v3, v4, v5, v6, v7, v8, v9]]) ⟨by decide, by decide⟩ ⟨by decide, by decide⟩ ⟨by omega, by omega⟩ (hrb.mono hle2) (hra.mono hle2) rfl (B9.of hsl2 rfl (by intro x hx; obtain rfl := List.mem_singleton.1 hx; rfl) (by intro x hx; obtain rfl := List.mem_singleton.1 hx; exact heo)) (by simp only [C8]; exact ⟨_, _, rfl, hre.mono hle2, rfl⟩)))
def ElP (bx : Nat) (cx : Cx) (e : Tm) (l : Int) : IM → Value → List A4 → Prop := fun G' v outs => ∃ u cu t ct l', v = .tuple ⟨[.agg ⟨cu⟩, .agg ⟨ct⟩, .bool (N1 cx e l).isSome]⟩ ∧ outs = [.blk bx [.int .i64 l']] ∧ A9 G' u cu ∧ B3 G' t ct ∧ l ≤ l' ∧ l' + 1 ≤ l + (E0 e : Int) ∧ ∀ r, N1 cx e l = some r → r = (u, t, l')
theorem ElP.no {G : IM} {bx : Nat} {cx : Cx} {e : Tm} {l l' : Int} {u : Tm} {t : Ty} {cu ct : List Value} (h : N1 cx e l = none) (hu : A9 G u cu) (ht : B3 G t ct) (h1 : l ≤ l') (h2 : l' + 1 ≤ l + (E0 e : Int)) : ElP bx cx e l G (.tuple ⟨[.agg ⟨cu⟩, .agg ⟨ct⟩, .bool false]⟩) [.blk bx [.int .i64 l']] :=
 ⟨u, cu, t, ct, l', by rw [h]; rfl, rfl, hu, ht, h1, h2, fun r hr => by rw [h] at hr; cases hr⟩
theorem ElP.yes {G : IM} {bx : Nat} {cx : Cx} {e : Tm} {l l' : Int} {u : Tm} {t : Ty} {cu ct : List Value} (h : N1 cx e l = some (u, t, l')) (hu : A9 G u cu) (ht : B3 G t ct) (h1 : l ≤ l') (h2 : l' + 1 ≤ l + (E0 e : Int)) : ElP bx cx e l G (.tuple ⟨[.agg ⟨cu⟩, .agg ⟨ct⟩, .bool true]⟩) [.blk bx [.int .i64 l']] :=
 ⟨u, cu, t, ct, l', by rw [h]; rfl, rfl, hu, ht, h1, h2, fun r hr => by rw [h] at hr; cases hr; rfl⟩
section
variable {cx : Cx} {k : Int} {nm : ByteArray} {num : Int} {ty fr : Ty} {lb : Int} {ks us : List Tm} {h : List Ty} {l l' : Int}
theorem B36 (hL : M0 (O6 cx k nm ty) ks l = none) : N1 cx (.mk k nm num ty fr lb ks) l = none := by rw [N1, hL]
theorem A5O (hL : M0 (O6 cx k nm ty) ks l = some (us, h, l')) (hn : Y8 cx k nm ty h = none) : N1 cx (.mk k nm num ty fr lb ks) l = none := by rw [N1, hL]; simp only [Q0, hn]
theorem B37 {w : List Ty} {t : Ty} (hL : M0 (O6 cx k nm ty) ks l = some (us, h, l')) (hn : Y8 cx k nm ty h = some (w, t)) (hk : k = 13) : N1 cx (.mk k nm num ty fr lb ks) l = some ((F8 us h w l').1.getD 0 J4, t, (F8 us h w l').2) := by
 rw [N1, hL]; simp only [Q0, hn, if_pos hk]
theorem A85 {w : List Ty} {t : Ty} (hL : M0 (O6 cx k nm ty) ks l = some (us, h, l')) (hn : Y8 cx k nm ty h = some (w, t)) (hk : k ≠ 13) : N1 cx (.mk k nm num ty fr lb ks) l = some (.mk k nm num ty fr lb (F8 us h w l').1, t, (F8 us h w l').2) := by
 rw [N1, hL]; simp only [Q0, hn, if_neg hk]
end
theorem A3r {t : Ty} (h : C9 t = true) : D8 t := (A0d h).1
theorem B38 {us : List Tm} (h : 0 < us.length) : us.getD 0 J4 = us[0] := by rw [List.getD_eq_getElem?_getD, List.getElem?_eq_getElem h, Option.getD_some]
theorem A86 (bx : Nat) : ∀ (e : Tm) (d : Int) (cx : Cx) (l0 : Int) (G : IM) (pc : Option Addr) (nc cc : Nat) (cells : List Value), N7 12 14 e d = true → (nc : Int) ≤ d → cxV cx → S4 G cx pc nc cc → A9 G e cells → 0 ≤ l0 → l0 + (E0 e : Int) ≤ 1000000000 →
  Fn Tryz.prog 40 [.pointer (some ⟨bx, 0, none⟩), .slice pc nc cc, .agg ⟨cells⟩] [.blk bx [.int .i64 l0]] G (ElP bx cx e l0) := by
 refine Tm.ind fun k nm num ty fr lb ks ih d cx l0 G pc nc cc cells hv hnd hcv hx hr hl0 hlc => ?_
 have hr0 := hr
 have hone := hr.one
 obtain ⟨hv1, hv2, hv3, hv4⟩ := A0X hv
 have hvk := (A1D 12 14 ks _).1 hv4
 have har := (W8.1 hv3).1
 have hop := A35 har
 obtain ⟨hta, hts⟩ := A36 hv3
 have hkr : 1 ≤ k ∧ k ≤ 14 := A4o (by rw [har]; omega)
 have hcvX : cxV (O6 cx k nm ty) := A4f hcv fun hk => (W8.1 hv3).2.2.2.2.2.1 (.inl hk)
 have hck : E0 (.mk k nm num ty fr lb ks) = H1 ks + 1 := A1s ..
 rw [hck] at hlc
 obtain ⟨tk, tks⟩ := ty
 obtain ⟨fk, fks⟩ := fr
 obtain ⟨pt, ct, pf, cf, q, cq, es, rfl, hk, hnum, hlb, hty, hfr, hsl, hkl⟩ := hr.open9
 have hlen : ks.length ≤ 3 := by have := A29 k; omega
 obtain ⟨hx1, esx, hx2, hx3⟩ := id hx
 have hcl := B2L G pc nc cc esx hx2 (by omega)
 have hcnt0 := A3U ks
 refine B7 Tryz.func40 rfl Tryz.ntmps40 Tryz.results40 rfl ?_
 intro w0
 refine tS (tR ?_)
 refine sE (C2 rfl rfl) rfl (fun b3 => ?_)
 refine sE (A6 rfl) rfl (fun b4 => ?_)
 refine sE (A6 rfl) rfl (fun b5 => ?_)
 refine L6 ?_
 (show J1 _ _ (.seq (.region 2 _ _) (.cond (.tmp 25) _ _)) _ _; refine A2r (fun (x : Option Addr × Nat × Nat × IM) => ⟨[(9, .slice x.1 x.2.1 x.2.2.1), (1, .slice pc nc cc), (0, .pointer (some ⟨bx, 0, none⟩)), (5, .pointer (some ⟨b3, 0, none⟩)), (6, .pointer (some ⟨b4, 0, none⟩)), (7, .pointer (some ⟨b5, 0, none⟩))], [.blk b5 [.int .i64 0, .slice none 0 0], .blk b4 [.int .i64 0, .string ⟨⟨[]⟩⟩, .int .i64 0, .int .i64 0, .slice none 0 0, .int .i64 0, .slice none 0 0, .int .i64 0, .slice none 0 0], .blk b3 [.int .i64 k, .string nm, .int .i64 num, .int .i64 tk, .slice pt tks.length ct, .int .i64 fk, .slice pf fks.length cf, .int .i64 lb, .slice q ks.length cq], .blk bx [.int .i64 l0]], x.2.2.2⟩) (fun x => B1 G x.2.2.2 ∧ S4 x.2.2.2 (O6 cx k nm (.mk tk tks)) x.1 x.2.1 x.2.2.1 ∧ x.2.1 ≤ nc + 1) ?_ ?_)
 ·refine tS (tR (sQ (B8 rfl) rfl (sL (C7 rfl rfl) rfl rfl ?_)))
  refine sB (qE rfl rfl) rfl rfl (fun h21 => ?_) (fun h21 => ?_)
  ·refine sD (nS (qT rfl ?_))
   refine E4 E7 rfl ?_
   refine K2 (i := 0) (l' := [tt,ff,ff,ff,ff,ff,ff,ff,ff,ff]) rfl D6 (qM rfl) rfl (by kernel_rfl) rfl rfl ?_
   refine aP 2 rfl (B8 rfl) rfl ?_
   refine aL 3 rfl (C7 rfl rfl) rfl ?_
   refine aP 4 rfl (B8 rfl) rfl ?_
   refine aL 5 rfl (A2 rfl rfl) rfl ?_
   refine aP 6 rfl (S0 rfl rfl) rfl ?_
   refine T6 (j := 1) (j' := 7) (by kernel_rfl) ?_ ?_
   ·(refine A3L rfl rfl hcl rfl rfl rfl (fun v33 G33 outs33 hle33 h33 => ?_); obtain ⟨hG, p1, c1, rfl, rfl⟩ := h33; replace hG := hG.symm; subst hG)
    replace hr := hr.mono hle33
    replace hr0 := hr0.mono hle33
    replace hty := hty.mono hle33
    replace hfr := hfr.mono hle33
    replace hsl := hsl.mono hle33
    replace hkl := hkl.mono hle33
    replace hx2 := hx2.mono hle33
    refine A3 7 ?_
    (refine E1 rfl (C3 rfl rfl rfl (by omega) (by unfold maxLen; omega) rfl) rfl rfl ?_; rintro _ ⟨b35, rfl⟩)
    refine A3 8 ?_
    (refine T3 rfl rfl rfl rfl rfl rfl (fun _ _ => by repeat (first | exact Sw.here | apply Sw.there)) (N2 (by repeat first | exact mH | apply mT)) rfl (by simp [Value.oneCell']) (by unfold maxLen; omega) (by omega) rfl rfl (by repeat (first | exact A8.nil | apply A8.dep (by decide +kernel) | apply A8.blk (by decide +kernel) (by repeat (first | exact Pk.here | apply Pk.there)) (by repeat first | exact mH | apply mT))) (fun p5 c5 => ?_); refine A3I (cs := esx.flatten ++ [.string nm, .int .i64 tk, .slice pt tks.length ct]) (by repeat (first | exact Pk.here | apply Pk.there)) (fun Gf hleF hslF hnoF => ?_); have hxF := S4.snoc (nm := nm) (t := .mk tk tks) hx1 hx2.len hx2.all hx2.one hx3 hleF ⟨_, _, rfl, hty.mono hleF⟩ hslF)
    refine aP 9 rfl (qA rfl) rfl ?_
    refine C4 ?_
    refine V0 (p5, nc + 1, c5, Gf) (N3 (by repeat (first | exact D4.nil | refine D4.cons rfl ?_)) (by repeat (first | exact A0.refl | exact A0.nil | refine A0.cons (by repeat (first | exact Pk.here | apply Pk.there)) ?_ | apply A0.drop))) ⟨hleF, by (dsimp only; rw [O6, if_pos (by omega)]; exact hxF), by (dsimp only; omega)⟩
   ·(refine E1 rfl (C3 rfl rfl rfl (by omega) (by unfold maxLen; omega) rfl) rfl rfl ?_; rintro _ ⟨b41, rfl⟩)
    refine A3 1 ?_
    (refine A3L rfl rfl hcl rfl rfl rfl (fun v43 G43 outs43 hle43 h43 => ?_); obtain ⟨hG, p1, c1, rfl, rfl⟩ := h43; replace hG := hG.symm; subst hG)
    replace hr := hr.mono hle43
    replace hr0 := hr0.mono hle43
    replace hty := hty.mono hle43
    replace hfr := hfr.mono hle43
    replace hsl := hsl.mono hle43
    replace hkl := hkl.mono hle43
    replace hx2 := hx2.mono hle43
    refine A3 8 ?_
    (refine T3 rfl rfl rfl rfl rfl rfl (fun _ _ => by repeat (first | exact Sw.here | apply Sw.there)) (N2 (by repeat first | exact mH | apply mT)) rfl (by simp [Value.oneCell']) (by unfold maxLen; omega) (by omega) rfl rfl (by repeat (first | exact A8.nil | apply A8.dep (by decide +kernel) | apply A8.blk (by decide +kernel) (by repeat (first | exact Pk.here | apply Pk.there)) (by repeat first | exact mH | apply mT))) (fun p5 c5 => ?_); refine A3I (cs := esx.flatten ++ [.string nm, .int .i64 tk, .slice pt tks.length ct]) (by repeat (first | exact Pk.here | apply Pk.there)) (fun Gf hleF hslF hnoF => ?_); have hxF := S4.snoc (nm := nm) (t := .mk tk tks) hx1 hx2.len hx2.all hx2.one hx3 hleF ⟨_, _, rfl, hty.mono hleF⟩ hslF)
    refine aP 9 rfl (qA rfl) rfl ?_
    refine C4 ?_
    refine V0 (p5, nc + 1, c5, Gf) (N3 (by repeat (first | exact D4.nil | refine D4.cons rfl ?_)) (by repeat (first | exact A0.refl | exact A0.nil | refine A0.cons (by repeat (first | exact Pk.here | apply Pk.there)) ?_ | apply A0.drop))) ⟨hleF, by (dsimp only; rw [O6, if_pos (by omega)]; exact hxF), by (dsimp only; omega)⟩
  ·refine sD (nS (cF rfl (tK ?_)))
   refine V0 (pc, nc, cc, G) (N3 (by repeat (first | exact D4.nil | refine D4.cons rfl ?_)) (by repeat (first | exact A0.refl | exact A0.nil | refine A0.cons (by repeat (first | exact Pk.here | apply Pk.there)) ?_ | apply A0.drop))) ⟨B1.refl _, by (dsimp only; rw [O6, if_neg (by omega)]; exact hx), by (dsimp only; omega)⟩
 ·(rintro ⟨p6, n6, c6, Gx⟩ ⟨hleX, hxX, hn6⟩; simp only [] at hleX hxX hn6 ⊢; replace hsl := hsl.mono hleX; replace hkl := hkl.mono hleX; replace hx := hx.mono hleX; replace hr0 := hr0.mono hleX; replace hty := hty.mono hleX; replace hfr := hfr.mono hleX)
  refine tS (tR (sL (A2 rfl rfl) rfl rfl ?_))
  refine sE (A6 rfl) rfl (fun b58 => ?_)
  refine A1A ?_
  refine B6 ?_
  (refine T7 28 9 ?_; refine T7 25 2 ?_; refine J3 (fun (x : Nat × (Option Addr × Nat × List Tm × List (List Value)) × (Option Addr × Nat × List Ty × List (List Value)) × Int × IM) => ⟨[(40, .int .i64 x.1), (39, .int .i64 ks.length), (38, .slice q ks.length cq), (11, .slice x.2.2.1.1 x.1 x.2.2.1.2.1), (9, .slice p6 n6 c6), (1, .slice pc nc cc), (0, .pointer (some ⟨bx, 0, none⟩)), (5, .pointer (some ⟨b3, 0, none⟩)), (6, .pointer (some ⟨b4, 0, none⟩)), (7, .pointer (some ⟨b5, 0, none⟩)), (10, .pointer (some ⟨b58, 0, none⟩))], [.blk b58 [.int .i64 k, .string nm, .int .i64 num, .int .i64 tk, .slice pt tks.length ct, .int .i64 fk, .slice pf fks.length cf, .int .i64 lb, .slice x.2.1.1 x.1 x.2.1.2.1], .slc x.2.1.1 x.2.1.2.1 28 9 x.1 x.2.1.2.2.2.flatten, .slc x.2.2.1.1 x.2.2.1.2.1 25 2 x.1 x.2.2.1.2.2.2.flatten, .blk b5 [.int .i64 0, .slice none 0 0], .blk b4 [.int .i64 0, .string ⟨⟨[]⟩⟩, .int .i64 0, .int .i64 0, .slice none 0 0, .int .i64 0, .slice none 0 0, .int .i64 0, .slice none 0 0], .blk b3 [.int .i64 k, .string nm, .int .i64 num, .int .i64 tk, .slice pt tks.length ct, .int .i64 fk, .slice pf fks.length cf, .int .i64 lb, .slice q ks.length cq], .blk bx [.int .i64 x.2.2.2.1]], x.2.2.2.2⟩) (fun x => x.1 ≤ ks.length ∧ B1 Gx x.2.2.2.2 ∧ x.2.1.2.2.1.length = x.1 ∧ C8 x.2.2.2.2 x.2.1.2.2.1 x.2.1.2.2.2 ∧ x.2.2.1.2.2.1.length = x.1 ∧ B0 x.2.2.2.2 x.2.2.1.2.2.1 x.2.2.1.2.2.2 ∧ (∀ t ∈ x.2.2.1.2.2.1, D8 t) ∧ M0 (O6 cx k nm (.mk tk tks)) (ks.take x.1) l0 = some (x.2.1.2.2.1, x.2.2.1.2.2.1, x.2.2.2.1) ∧ l0 ≤ x.2.2.2.1 ∧ x.2.2.2.1 + x.1 ≤ l0 + (H1 (ks.take x.1) : Int)) (fun x => ks.length - x.1) (0, (none, 0, [], []), (none, 0, [], []), l0, Gx) ?_ ?_ ?_)
  ·(simp only [List.take_zero, X2]; exact (N3 (by repeat (first | exact D4.nil | refine D4.cons rfl ?_)) (by repeat (first | exact A0.refl | exact A0.nil | refine A0.cons (by repeat (first | exact Pk.here | apply Pk.there)) ?_ | apply A0.drop))))
  ·(exact ⟨by simp, B1.refl _, rfl, by simp [C8], rfl, by simp [B0], by simp, by simp [M0], Int.le_refl _, by simp [H1]⟩)
  ·(rintro ⟨i, ⟨pn, cn, us, es'⟩, ⟨pm, cm, ts, ess⟩, l, Gi⟩ ⟨hi, hle, hlu, hst, hlt, hstt, hat, hml, hl1, hl2⟩; simp only [] at hi hle hlu hst hlt hstt hat hml hl1 hl2 ⊢; replace hty := hty.mono hle; replace hfr := hfr.mono hle; replace hsl := hsl.mono hle; replace hkl := hkl.mono hle; replace hr0 := hr0.mono hle; replace hx := hx.mono hle; replace hxX := hxX.mono hle)
   refine tS (tR ?_)
   refine sB (J6 rfl rfl) rfl rfl (fun h89 => ?_) (fun h89 => ?_)
   ·refine sD (nS (tS (qT rfl (tK (nS (tS ?_))))))
    refine B6 ?_
    refine tS (tR ?_)
    (obtain ⟨b, o, e, rfl, hl, hate, hre, hgb⟩ := hsl.kidTm hkl (i := i) (by omega) (by omega); have hon := hre.one; have hsc := A0A (ks := ks) (i := i) (by omega); have hsk := A0z (ks := ks) (i := i) (by omega); refine sP (B4 rfl rfl rfl (by omega)) rfl rfl ?_)
    refine sL (A5 rfl rfl (hate _) hl) rfl rfl ?_
    refine sE (A6 rfl) rfl (fun b102 => ?_)
    refine sS rfl rfl rfl hl hon rfl ?_ (hu := by exact D5 hl.symm)
    refine sD (nS (tS (tR (sQ (qM rfl) rfl (sQ (qM rfl) rfl ?_)))))
    refine sL (A5 rfl rfl (B5 (by repeat first | exact mH | apply mT)) hl) rfl rfl ?_
    (refine L3 rfl (ih ks[i] (List.getElem_mem (by omega)) (d + 1) _ l Gi p6 n6 c6 _ (hvk i (by omega)) (by omega) hcvX hxX hre (by omega) (by omega)) (Pk.perm (by repeat (first | exact Pk.here | apply Pk.there))) rfl rfl (fun v G3 outs hle3 hh => ?_); obtain ⟨u, uc, t, tc, l3, rfl, rfl, hru, hrt, hl3, hl4, hu⟩ := hh; obtain ⟨v1, v2, v3, v4, v5, v6, v7, v8, v9, rfl⟩ := nine hru.len; obtain ⟨p3, c3, e3, rfl, _⟩ := hrt.open; have hlu9 := hru.len; have hou9 := hru.one; rcases hE : N1 (O6 cx k nm (Ty.mk tk tks)) ks[i] l with _ | ⟨u2, t2, l2⟩; rotate_left; have hue := hu _ hE; simp only [Prod.mk.injEq] at hue; obtain ⟨rfl, rfl, rfl⟩ := hue; rotate_left)
    ·refine J5 ?_
     refine sE (A6 rfl) rfl (fun b116 => ?_)
     refine sE (A6 rfl) rfl (fun b117 => ?_)
     refine sS rfl rfl rfl hlu9 hou9 rfl ?_ (hu := by exact D5 hlu9.symm)
     refine A6F ?_
     refine A2h (outs := [.blk bx [.int .i64 _]]) (rC rfl (A2 rfl rfl)) (rC rfl (A2 rfl rfl)) (rT rfl) (A0.cons (by repeat (first | exact Pk.here | apply Pk.there)) A0.nil) ?_
     (exact ElP.no (B36 (A8p (by omega) hml hE)) (O3 _) (L4 _ ⟨by omega, by omega⟩) (by omega) (by rw [hck]; omega))
    ·refine J5 ?_
     refine sE (A6 rfl) rfl (fun b153 => ?_)
     refine sE (A6 rfl) rfl (fun b154 => ?_)
     refine sS rfl rfl rfl hlu9 hou9 rfl ?_ (hu := by exact D5 hlu9.symm)
     refine M1 ?_
     refine E4 E7 rfl ?_
     refine K2 (i := 0) (l' := [tt,ff,ff,ff,ff,ff,ff,ff,ff,ff,ff,ff]) rfl D6 (B8 rfl) rfl (by kernel_rfl) rfl rfl ?_
     refine aL 1 rfl (C7 rfl rfl) rfl ?_
     refine aL 2 rfl (A2 rfl rfl) rfl ?_
     refine aP 5 rfl (qM rfl) rfl ?_
     refine aL 6 rfl (A2 rfl rfl) rfl ?_
     refine T6 (j := 3) (j' := 7) (by kernel_rfl) ?_ ?_
     ·(refine E1 rfl (C3 rfl rfl rfl (by omega) (by unfold maxLen; omega) rfl) rfl rfl ?_; rintro _ ⟨b177, rfl⟩)
      refine T6 (j := 4) (j' := 7) (by kernel_rfl) ?_ ?_
      ·(refine T3 rfl rfl rfl rfl rfl rfl (fun _ _ => by repeat (first | exact Sw.here | apply Sw.there)) (N2 (by repeat first | exact mH | apply mT)) rfl (fun u hu => List.all_eq_true.1 hou9 u hu) (by unfold maxLen; omega) (by omega) rfl rfl (by repeat (first | exact A8.nil | apply A8.dep (by decide +kernel) | apply A8.im (by decide +kernel) (by assumption) (by repeat first | exact mH | apply mT) | apply A8.blk (by decide +kernel) (by repeat (first | exact Pk.here | apply Pk.there)) (by repeat first | exact mH | apply mT) | apply A8.slc (by decide +kernel) (by repeat (first | exact Pk.here | apply Pk.there)) (by repeat first | exact mH | apply mT))) (fun pn' cn' => ?_))
       refine aP 9 rfl (B8 rfl) rfl ?_
       refine A3 7 ?_
       (refine E1 rfl (C3 rfl rfl rfl (by omega) (by unfold maxLen; omega) rfl) rfl rfl ?_; rintro _ ⟨b182, rfl⟩)
       refine A3 8 ?_
       (refine T3 rfl rfl rfl rfl rfl rfl (fun _ _ => by repeat (first | exact Sw.here | apply Sw.there)) (N2 (by repeat first | exact mH | apply mT)) rfl (by simp [Value.oneCell']) (by unfold maxLen; omega) (by omega) rfl rfl (by repeat (first | exact A8.nil | apply A8.dep (by decide +kernel) | apply A8.im (by decide +kernel) (by assumption) (by repeat first | exact mH | apply mT) | apply A8.blk (by decide +kernel) (by repeat (first | exact Pk.here | apply Pk.there)) (by repeat first | exact mH | apply mT) | apply A8.slc (by decide +kernel) (by repeat (first | exact Pk.here | apply Pk.there)) (by repeat first | exact mH | apply mT))) (fun pm' cm' => ?_))
       refine A3 10 ?_
       refine oS rfl rfl rfl rfl rfl rfl rfl rfl ?_
       refine aP 11 rfl (qA rfl) rfl ?_
       refine C4 (M9 (nS (tR ?_)))
       refine sP (I2 rfl rfl (by omega) (by omega)) rfl rfl ?_
       refine sQ (qM rfl) rfl (sD ?_)
       refine I9 (i + 1, (pn', cn', us ++ [u2], es' ++ [[v1, v2, v3, v4, v5, v6, v7, v8, v9]]), (pm', cm', ts ++ [t2], ess ++ [[.int .i64 t2.k, .slice p3 t2.ks.length c3]]), l2, G3) ?_ ?_ ?_
       ·(simp only [E2]; exact C5)
       ·(dsimp only; exact ⟨by omega, hle.trans hle3, by simp [hlu], C8.snoc (hst.mono hle3) hru, by simp [hlt], B0.snoc (hstt.mono hle3) hrt, A2u hat (A3r ((A4g ks[i] (d + 1) _ l (hvk i (by omega)) hcvX).1 _ _ _ hE).2), A4i (by omega) hml hE, by omega, by omega⟩)
       ·(show ks.length - (i + 1) < ks.length - i; omega)
      ·(refine E1 rfl (C3 rfl rfl rfl (by omega) (by unfold maxLen; omega) rfl) rfl rfl ?_; rintro _ ⟨b199, rfl⟩)
       refine A3 4 ?_
       (refine T3 rfl rfl rfl rfl rfl rfl (fun _ _ => by repeat (first | exact Sw.here | apply Sw.there)) (N2 (by repeat first | exact mH | apply mT)) rfl (fun u hu => List.all_eq_true.1 hou9 u hu) (by unfold maxLen; omega) (by omega) rfl rfl (by repeat (first | exact A8.nil | apply A8.dep (by decide +kernel) | apply A8.im (by decide +kernel) (by assumption) (by repeat first | exact mH | apply mT) | apply A8.blk (by decide +kernel) (by repeat (first | exact Pk.here | apply Pk.there)) (by repeat first | exact mH | apply mT) | apply A8.slc (by decide +kernel) (by repeat (first | exact Pk.here | apply Pk.there)) (by repeat first | exact mH | apply mT))) (fun pn' cn' => ?_))
       refine aP 9 rfl (B8 rfl) rfl ?_
       refine A3 8 ?_
       (refine T3 rfl rfl rfl rfl rfl rfl (fun _ _ => by repeat (first | exact Sw.here | apply Sw.there)) (N2 (by repeat first | exact mH | apply mT)) rfl (by simp [Value.oneCell']) (by unfold maxLen; omega) (by omega) rfl rfl (by repeat (first | exact A8.nil | apply A8.dep (by decide +kernel) | apply A8.im (by decide +kernel) (by assumption) (by repeat first | exact mH | apply mT) | apply A8.blk (by decide +kernel) (by repeat (first | exact Pk.here | apply Pk.there)) (by repeat first | exact mH | apply mT) | apply A8.slc (by decide +kernel) (by repeat (first | exact Pk.here | apply Pk.there)) (by repeat first | exact mH | apply mT))) (fun pm' cm' => ?_))
       refine A3 10 ?_
       refine oS rfl rfl rfl rfl rfl rfl rfl rfl ?_
       refine aP 11 rfl (qA rfl) rfl ?_
       refine C4 (M9 (nS (tR ?_)))
       refine sP (I2 rfl rfl (by omega) (by omega)) rfl rfl ?_
       refine sQ (qM rfl) rfl (sD ?_)
       refine I9 (i + 1, (pn', cn', us ++ [u2], es' ++ [[v1, v2, v3, v4, v5, v6, v7, v8, v9]]), (pm', cm', ts ++ [t2], ess ++ [[.int .i64 t2.k, .slice p3 t2.ks.length c3]]), l2, G3) ?_ ?_ ?_
       ·(simp only [E2]; exact C5)
       ·(dsimp only; exact ⟨by omega, hle.trans hle3, by simp [hlu], C8.snoc (hst.mono hle3) hru, by simp [hlt], B0.snoc (hstt.mono hle3) hrt, A2u hat (A3r ((A4g ks[i] (d + 1) _ l (hvk i (by omega)) hcvX).1 _ _ _ hE).2), A4i (by omega) hml hE, by omega, by omega⟩)
       ·(show ks.length - (i + 1) < ks.length - i; omega)
     ·(refine E1 rfl (C3 rfl rfl rfl (by omega) (by unfold maxLen; omega) rfl) rfl rfl ?_; rintro _ ⟨b219, rfl⟩)
      refine A3 3 ?_
      (refine E1 rfl (C3 rfl rfl rfl (by omega) (by unfold maxLen; omega) rfl) rfl rfl ?_; rintro _ ⟨b221, rfl⟩)
      refine A3 4 ?_
      (refine T3 rfl rfl rfl rfl rfl rfl (fun _ _ => by repeat (first | exact Sw.here | apply Sw.there)) (N2 (by repeat first | exact mH | apply mT)) rfl (fun u hu => List.all_eq_true.1 hou9 u hu) (by unfold maxLen; omega) (by omega) rfl rfl (by repeat (first | exact A8.nil | apply A8.dep (by decide +kernel) | apply A8.im (by decide +kernel) (by assumption) (by repeat first | exact mH | apply mT) | apply A8.blk (by decide +kernel) (by repeat (first | exact Pk.here | apply Pk.there)) (by repeat first | exact mH | apply mT) | apply A8.slc (by decide +kernel) (by repeat (first | exact Pk.here | apply Pk.there)) (by repeat first | exact mH | apply mT))) (fun pn' cn' => ?_))
      refine aP 9 rfl (B8 rfl) rfl ?_
      refine A3 8 ?_
      (refine T3 rfl rfl rfl rfl rfl rfl (fun _ _ => by repeat (first | exact Sw.here | apply Sw.there)) (N2 (by repeat first | exact mH | apply mT)) rfl (by simp [Value.oneCell']) (by unfold maxLen; omega) (by omega) rfl rfl (by repeat (first | exact A8.nil | apply A8.dep (by decide +kernel) | apply A8.im (by decide +kernel) (by assumption) (by repeat first | exact mH | apply mT) | apply A8.blk (by decide +kernel) (by repeat (first | exact Pk.here | apply Pk.there)) (by repeat first | exact mH | apply mT) | apply A8.slc (by decide +kernel) (by repeat (first | exact Pk.here | apply Pk.there)) (by repeat first | exact mH | apply mT))) (fun pm' cm' => ?_))
      refine A3 10 ?_
      refine oS rfl rfl rfl rfl rfl rfl rfl rfl ?_
      refine aP 11 rfl (qA rfl) rfl ?_
      refine C4 (M9 (nS (tR ?_)))
      refine sP (I2 rfl rfl (by omega) (by omega)) rfl rfl ?_
      refine sQ (qM rfl) rfl (sD ?_)
      refine I9 (i + 1, (pn', cn', us ++ [u2], es' ++ [[v1, v2, v3, v4, v5, v6, v7, v8, v9]]), (pm', cm', ts ++ [t2], ess ++ [[.int .i64 t2.k, .slice p3 t2.ks.length c3]]), l2, G3) ?_ ?_ ?_
      ·(simp only [E2]; exact C5)
      ·(dsimp only; exact ⟨by omega, hle.trans hle3, by simp [hlu], C8.snoc (hst.mono hle3) hru, by simp [hlt], B0.snoc (hstt.mono hle3) hrt, A2u hat (A3r ((A4g ks[i] (d + 1) _ l (hvk i (by omega)) hcvX).1 _ _ _ hE).2), A4i (by omega) hml hE, by omega, by omega⟩)
      ·(show ks.length - (i + 1) < ks.length - i; omega)
   ·refine M1 ?_
    (obtain rfl : i = ks.length := (by omega); have hk14 : k ≠ 14 := hv2; rw [List.take_length] at hml hl2; refine T8 (cs := ess.flatten) (by repeat (first | exact Pk.here | apply Pk.there)) (fun G3 hle3 hsl3 hno3 => ?_); have hst3 := hstt.mono hle3; have hslU : B9 G3 pm ks.length cm 2 ess := B9.of hsl3 (by rw [hst3.len, hlt]) hst3.all (fun e he => (hst3.each e he).2); refine F4 rfl (B2J cx k nm num (.mk tk tks) (.mk fk fks) lb ks ts G3 pc nc cc _ pm ks.length cm ess (hx.mono hle3) har hlt.symm hk14 hta (hr0.mono hle3) hslU hst3 hat) rfl rfl (fun v G4 hle4 hh => ?_); obtain ⟨pw, nw, cw, ew, w, wc, wt, rfl, hnw, hslw, hstw, hrt, hw⟩ := hh; obtain ⟨p3, c3, e3, rfl, _⟩ := hrt.open; replace hst3 := hst3.mono hle4; replace hslU := hslU.mono hle4; have hle34 := hle3.trans hle4; replace hst := hst.mono hle34; replace hty := hty.mono hle34; replace hfr := hfr.mono hle34; rcases hmw : M5 cx k nm (Ty.mk tk tks) ts with _ | ⟨w2, t2⟩; rotate_left; have hwe := hw _ hmw; simp only [Prod.mk.injEq] at hwe; obtain ⟨rfl, rfl⟩ := hwe; have hwl := B2K (by rw [hlt]; exact hop) hkr hk14 hmw; have hcl2 := A1L us ts w2 l; rcases Nat.eq_zero_or_pos ks.length with h0 | h0; rotate_left; rotate_left)
    ·refine J5 ?_
     refine sE (A6 rfl) rfl (fun b260 => ?_)
     refine B0x ?_
     (refine H8 (cs := es'.flatten) (by repeat (first | exact Pk.here | apply Pk.there)) (fun G8 hle8 hsl8 hno8 => ?_); have hst8 := hst.mono hle8)
     refine tT (rS ?_)
     refine A2h (outs := [.blk bx [.int .i64 _]]) (rC rfl (A2 rfl rfl)) (rC rfl (A2 rfl rfl)) (rT rfl) (A0.cons (by repeat (first | exact Pk.here | apply Pk.there)) A0.nil) ?_
     (exact ElP.no (A5O hml (B2M hmw)) (O3 _) (L4 _ ⟨by omega, by omega⟩) (by omega) (by rw [hck]; omega))
    ·refine J5 ?_
     refine sE (A6 rfl) rfl (fun b297 => ?_)
     refine N8 ?_
     refine H3 rfl ((A15 _ _ _ hrt)) rfl rfl (fun h310 => ?_) (fun h310 => ?_)
     ·refine I4 ?_
      refine B6 ?_
      (have h0' : ks.length = 0 := h0; refine J3 (fun (_ : Nat) => ⟨[(86, .int .i64 0), (85, .int .i64 nw), (84, .slice pw nw cw), (11, .slice pm ks.length cm), (1, .slice pc nc cc), (0, .pointer (some ⟨bx, 0, none⟩)), (5, .pointer (some ⟨b3, 0, none⟩)), (6, .pointer (some ⟨b4, 0, none⟩)), (7, .pointer (some ⟨b5, 0, none⟩)), (10, .pointer (some ⟨b58, 0, none⟩)), (18, .pointer (some ⟨b297, 0, none⟩))], [.blk b297 [.int .i64 t2.k, .slice p3 t2.ks.length c3], .blk b58 [.int .i64 k, .string nm, .int .i64 num, .int .i64 tk, .slice pt tks.length ct, .int .i64 fk, .slice pf fks.length cf, .int .i64 lb, .slice pn ks.length cn], .slc pn cn 28 9 ks.length es'.flatten, .blk b5 [.int .i64 0, .slice none 0 0], .blk b4 [.int .i64 0, .string ⟨⟨[]⟩⟩, .int .i64 0, .int .i64 0, .slice none 0 0, .int .i64 0, .slice none 0 0, .int .i64 0, .slice none 0 0], .blk b3 [.int .i64 k, .string nm, .int .i64 num, .int .i64 tk, .slice pt tks.length ct, .int .i64 fk, .slice pf fks.length cf, .int .i64 lb, .slice q ks.length cq], .blk bx [.int .i64 l]], G4⟩) (fun _ => True) (fun i => i) 0 ?_ ?_ ?_)
      ·exact C5
      ·trivial
      ·(rintro (i0 : Nat) _)
       refine tS (tR ?_)
       refine sP (A4K rfl rfl (by omega)) rfl rfl ?_
       refine M1 ?_
       refine sP (I3 rfl rfl (by omega)) rfl rfl ?_
       refine sD (nS (cF rfl (tK (nS (tS ?_)))))
       refine E4 E7 rfl ?_
       refine P8 (i := 0) (l' := [tt,ff,ff,ff,ff]) rfl D6 (A2 rfl rfl) rfl (by kernel_rfl) rfl rfl ?_
       refine aL 1 rfl (A2 rfl rfl) rfl ?_
       refine A3 2 ?_
       refine oS rfl rfl rfl rfl rfl rfl rfl rfl ?_
       refine A3 3 ?_
       refine oS rfl rfl rfl rfl rfl rfl rfl rfl ?_
       refine aP 4 rfl (qA rfl) rfl ?_
       refine C4 (nS ?_)
       (refine H8 (cs := es'.flatten) (by repeat (first | exact Pk.here | apply Pk.there)) (fun G8 hle8 hsl8 hno8 => ?_); have hst8 := hst.mono hle8)
       refine tT ?_
       refine A2h (outs := [.blk bx [.int .i64 _]]) (rC rfl (A2 rfl rfl)) (rC rfl (A2 rfl rfl)) (rT rfl) (A0.cons (by repeat (first | exact Pk.here | apply Pk.there)) A0.nil) ?_
       (obtain rfl : w2 = [] := List.length_eq_zero_iff.1 (by omega); have hne : k ≠ 13 := (fun h => by have := hop.2.2 (.inr (.inr (.inr h))); omega); have hel := A85 (num := num) (fr := .mk fk fks) (lb := lb) hml (A3k hmw (b := true) (by assumption)) hne; rw [X2] at hel; exact ElP.yes hel (A9.put hk hnum hlb (hty.mono hle8) (hfr.mono hle8) (by rw [hlu]) (B9.of hsl8 (by rw [hst8.len, hlu]) hst8.all (fun e he => (hst8.each e he).2)) hst8) (hrt.mono hle8) (by omega) (by rw [hck]; omega))
     ·refine M1 ?_
      (refine H8 (cs := es'.flatten) (by repeat (first | exact Pk.here | apply Pk.there)) (fun G8 hle8 hsl8 hno8 => ?_); have hst8 := hst.mono hle8)
      refine tT (rS ?_)
      refine A2h (outs := [.blk bx [.int .i64 _]]) (rC rfl (A2 rfl rfl)) (rC rfl (A2 rfl rfl)) (rT rfl) (A0.cons (by repeat (first | exact Pk.here | apply Pk.there)) A0.nil) ?_
      (exact ElP.no (A5O hml (A3k hmw (b := false) (by assumption))) (O3 _) (L4 _ ⟨by omega, by omega⟩) (by omega) (by rw [hck]; omega))
    ·(refine A1E (cs := es'.flatten) (by repeat (first | exact Pk.here | apply Pk.there)) h0 (fun bc C hpe hnc hcm => ?_); subst hpe; refine sQ (qM rfl) rfl ?_)
     refine J0 ?_
     refine sE (A6 rfl) rfl (fun b392 => ?_)
     refine N8 ?_
     refine H3 rfl ((A15 _ _ _ hrt)) rfl rfl (fun h405 => ?_) (fun h405 => ?_)
     ·refine I4 ?_
      refine B6 ?_
      (have h0' := h0; refine J3 (fun (x : Nat × List (List Value) × IM) => ⟨[(86, .int .i64 x.1), (85, .int .i64 nw), (84, .slice pw nw cw), (11, .slice pm ks.length cm), (1, .slice pc nc cc), (0, .pointer (some ⟨bx, 0, none⟩)), (5, .pointer (some ⟨b3, 0, none⟩)), (6, .pointer (some ⟨b4, 0, none⟩)), (7, .pointer (some ⟨b5, 0, none⟩)), (10, .pointer (some ⟨b58, 0, none⟩)), (18, .pointer (some ⟨b392, 0, none⟩))], [.blk b392 [.int .i64 t2.k, .slice p3 t2.ks.length c3], .blk b58 [.int .i64 k, .string nm, .int .i64 num, .int .i64 tk, .slice pt tks.length ct, .int .i64 fk, .slice pf fks.length cf, .int .i64 lb, .slice (some ⟨bc, 0, none⟩) ks.length cn], .blk bc (x.2.1.flatten ++ C), .blk b5 [.int .i64 0, .slice none 0 0], .blk b4 [.int .i64 0, .string ⟨⟨[]⟩⟩, .int .i64 0, .int .i64 0, .slice none 0 0, .int .i64 0, .slice none 0 0, .int .i64 0, .slice none 0 0], .blk b3 [.int .i64 k, .string nm, .int .i64 num, .int .i64 tk, .slice pt tks.length ct, .int .i64 fk, .slice pf fks.length cf, .int .i64 lb, .slice q ks.length cq], .blk bx [.int .i64 (F8 us ts (w2.take x.1) l).2]], x.2.2⟩) (fun x => x.1 ≤ nw ∧ B1 G4 x.2.2 ∧ C8 x.2.2 (F8 us ts (w2.take x.1) l).1 x.2.1) (fun x => nw - x.1) (0, es', G4) ?_ ?_ ?_)
      ·(simp only [List.take_zero, X2]; exact (N3 (by repeat (first | exact D4.nil | refine D4.cons rfl ?_)) (by repeat (first | exact A0.refl | exact A0.nil | refine A0.cons (by repeat (first | exact Pk.here | apply Pk.there)) ?_ | apply A0.drop))))
      ·(exact ⟨Nat.zero_le _, B1.refl _, by simp only [List.take_zero, X2]; exact hst⟩)
      ·(rintro ⟨j, es2, G6⟩ ⟨hj, hle6, hst2⟩; simp only [] at hj hle6 hst2 ⊢; replace hslw := hslw.mono hle6; replace hstw := hstw.mono hle6; replace hslU := hslU.mono hle6; replace hst3 := hst3.mono hle6; replace hty := hty.mono hle6; replace hfr := hfr.mono hle6; replace hrt := hrt.mono hle6; have hall2 := hst2.all; have hle2s := hst2.len; rw [A2D] at hle2s)
       refine tS (tR ?_)
       refine sB (J6 rfl rfl) rfl rfl (fun h428 => ?_) (fun h428 => ?_)
       ·refine sD (nS (tS (qT rfl (tK (nS (tS ?_))))))
        refine B6 ?_
        refine tS (tR (sQ (qM rfl) rfl ?_))
        (have hjw : j < w2.length := (by omega); obtain ⟨b5w, o5w, q5, d5, hp5, hat, hrw, hgb⟩ := hslw.kidTy hstw (i := j) (by omega) (by omega); cases hp5; refine sP (B4 rfl rfl rfl (by omega)) rfl rfl ?_)
        refine sL (A5 rfl rfl (hat _) rfl) rfl rfl ?_
        refine sE (A6 rfl) rfl (fun b442 => ?_)
        refine sQ (qA rfl) rfl (F9 ?_)
        refine sD (nS ?_)
        (have hjw2 := hjw; obtain ⟨b0, o0, q0, d0, hp0, hat0, hre0, hg0⟩ := hslU.kidTy hst3 (i := j) (by omega) (by omega); cases hp0; obtain ⟨m1, m2, _⟩ := A4j us ts w2 l j hjw (by omega) (by omega); obtain ⟨m3, m4⟩ := B2Y (us := us) (h := ts) (w := w2) (l := l) hjw (by omega) (by omega); obtain ⟨hE1, hE2⟩ := hst2.at2 (i := j) (by omega) (by omega); rw [m2] at hE2; have hE3 := hE2.len; have hE4 := hE2.one; have hcj := A1L us ts (w2.take j) l; refine E4 E7 rfl ?_)
        refine K2 (i := 0) (l' := [tt,ff,ff,ff,ff,ff,ff,ff,ff,ff,ff,ff,ff,ff,ff,ff,ff]) rfl D6 (B8 rfl) rfl (by kernel_rfl) rfl rfl ?_
        refine aL 1 rfl (C7 rfl rfl) rfl ?_
        refine aP 2 rfl (qM rfl) rfl ?_
        refine aP 3 rfl (qM rfl) rfl ?_
        refine aP 4 rfl (B8 rfl) rfl ?_
        refine aL 5 rfl (C7 rfl rfl) rfl ?_
        refine aP 6 rfl (qM rfl) rfl ?_
        refine aP 7 rfl (B4 (j := j) rfl rfl rfl (by omega)) rfl ?_
        refine aL 8 rfl (A5 rfl rfl (A7I (es := es2) (by repeat first | exact mH | apply mT) (by omega) hall2) hE3) rfl ?_
        refine aP 9 rfl (qM rfl) rfl ?_
        refine aP 10 rfl (qM rfl) rfl ?_
        refine aP 11 rfl (B4 (j := j) rfl rfl rfl (by omega)) rfl ?_
        refine aL 12 rfl (A5 rfl rfl (hat0 _) rfl) rfl ?_
        refine aL 13 rfl (A2 rfl rfl) rfl ?_
        refine A3 14 ?_
        (refine A0c (l' := [tt,tt,tt,tt,tt,tt,tt,tt,tt,tt,tt,tt,tt,tt,tt,ff,ff]) rfl rfl (B35 bx us[j] ts[j] w2[j] (F8 us ts (w2.take j) l).2 G6 _ _ _ (by omega) hE2 hre0 hrw) (Pk.perm (by repeat (first | exact Pk.here | apply Pk.there))) rfl rfl rfl (by repeat (first | exact A8.nil | apply A8.dep (by decide +kernel) | apply A8.im (by decide +kernel) (by assumption) (by repeat first | exact mH | apply mT) | apply A8.blk (by decide +kernel) (by repeat (first | exact Pk.here | apply Pk.there)) (by repeat first | exact mH | apply mT) | apply A8.slc (by decide +kernel) (by repeat (first | exact Pk.here | apply Pk.there)) (by repeat first | exact mH | apply mT))) (fun v G7 outs hle7 hh => ?_); obtain ⟨uc, rfl, rfl, hru⟩ := hh; rw [← m4]; have hlu9 := hru.len; have hou9 := hru.one)
        refine aP 15 rfl (B4 (j := j) rfl rfl rfl (by omega)) rfl ?_
        refine A3 16 ?_
        refine U1 rfl rfl rfl rfl hlu9 hou9 rfl rfl (by kernel_rfl) (by repeat first | exact Sw.here | apply Sw.there) (by exact A1F (by omega) hall2 hlu9) ?_
        refine C4 (M9 (nS (tR ?_)))
        refine sP (I2 rfl rfl (by omega) (by omega)) rfl rfl ?_
        refine sQ (qM rfl) rfl (sD ?_)
        refine I9 (j + 1, es2.set j uc, G7) ?_ ?_ ?_
        ·(simp only [List.take_zero, X2]; exact (N3 (by repeat (first | exact D4.nil | refine D4.cons rfl ?_)) (by repeat (first | exact A0.refl | exact A0.nil | refine A0.cons (by repeat (first | exact Pk.here | apply Pk.there)) ?_ | apply A0.drop))))
        ·(dsimp only; exact ⟨by omega, hle6.trans hle7, by rw [m3]; exact C8.set (hst2.mono hle7) hru⟩)
        ·(show nw - (j + 1) < nw - j; omega)
       ·refine M1 ?_
        refine sB (qE rfl rfl) rfl rfl (fun h492 => ?_) (fun h492 => ?_)
        ·refine sD (nS (qT rfl (tS ?_)))
         (have hq13 : k = 13 := (by omega); have hl13 := hop.2.2 (.inr (.inr (.inr hq13))); have hjw : j = w2.length := (by omega); rw [hjw, List.take_length] at hst2; have hm0 := A2D us ts w2 l; obtain ⟨hE1, hE2⟩ := hst2.at2 (i := 0) (by omega) (by omega); have hE3 := hE2.len; have hE4 := hE2.one; refine E4 E7 rfl ?_)
         refine K2 (i := 0) (l' := [tt,ff,ff,ff,ff,ff,ff,ff]) rfl D6 (B8 rfl) rfl (by kernel_rfl) rfl rfl ?_
         refine aL 1 rfl (C7 rfl rfl) rfl ?_
         refine aP 2 rfl (B4 (j := 0) rfl rfl rfl (by omega)) rfl ?_
         refine aL 3 rfl (A5 rfl rfl (A7I (es := es2) (by repeat first | exact mH | apply mT) (by omega) hall2) hE3) rfl ?_
         refine aL 4 rfl (A2 rfl rfl) rfl ?_
         refine A3 5 ?_
         refine oS rfl rfl rfl rfl hE3 hE4 rfl rfl ?_ (hu := by exact D5 hE3.symm)
         refine A3 6 ?_
         refine oS rfl rfl rfl rfl rfl rfl rfl rfl ?_
         refine aP 7 rfl (qA rfl) rfl ?_
         refine C4 (nS ?_)
         (refine A2X (bs := [(bc, es2.flatten ++ C)]) (Pk.perm (by repeat (first | exact Pk.here | apply Pk.there))) (fun hn9 hd9 hle9 => ?_))
         refine tT (rS ?_)
         refine A2h (outs := [.blk bx [.int .i64 _]]) (rC rfl (A5 rfl rfl (B5 (by repeat first | exact mH | apply mT)) hE3)) (rC rfl (A2 rfl rfl)) (rT rfl) (A0.cons (by repeat (first | exact Pk.here | apply Pk.there)) A0.nil) ?_
         (have hel := B37 (num := num) (fr := .mk fk fks) (lb := lb) hml (A3k hmw (b := true) (by assumption)) hq13; rw [B38 (by omega)] at hel; rw [hjw, List.take_length]; exact ElP.yes hel (hE2.mono hle9) (hrt.mono hle9) (by omega) (by rw [hck]; omega))
        ·refine sD (nS (cF rfl (tK (nS (tS ?_)))))
         refine E4 E7 rfl ?_
         refine P8 (i := 0) (l' := [tt,ff,ff,ff,ff]) rfl D6 (A2 rfl rfl) rfl (by kernel_rfl) rfl rfl ?_
         refine aL 1 rfl (A2 rfl rfl) rfl ?_
         refine A3 2 ?_
         refine oS rfl rfl rfl rfl rfl rfl rfl rfl ?_
         refine A3 3 ?_
         refine oS rfl rfl rfl rfl rfl rfl rfl rfl ?_
         refine aP 4 rfl (qA rfl) rfl ?_
         refine C4 (nS ?_)
         (refine A2X (bs := [(bc, es2.flatten ++ C)]) (Pk.perm (by repeat (first | exact Pk.here | apply Pk.there))) (fun hn9 hd9 hle9 => ?_))
         refine tT ?_
         refine A2h (outs := [.blk bx [.int .i64 _]]) (rC rfl (A2 rfl rfl)) (rC rfl (A2 rfl rfl)) (rT rfl) (A0.cons (by repeat (first | exact Pk.here | apply Pk.there)) A0.nil) ?_
         (have hjw : j = w2.length := (by omega); rw [hjw, List.take_length] at hst2; have hst9 := hst2.mono hle9; have hel := A85 (num := num) (fr := .mk fk fks) (lb := lb) hml (A3k hmw (b := true) (by assumption)) (show k ≠ 13 by omega); rw [hjw, List.take_length]; have hm0 := A2D us ts w2 l; exact ElP.yes hel (A9.put hk hnum hlb (hty.mono hle9) (hfr.mono hle9) (by rw [hm0, hlu]) (B9.of (Sl.of_blk (A := []) (by rw [X6 hst9.all, hst9.len, hm0, hlu]) (by omega) hcm (Wi.in hn9 List.mem_cons_self)) (by rw [hst9.len, hm0, hlu]) hst9.all (fun e he => (hst9.each e he).2)) hst9) (hrt.mono hle9) (by omega) (by rw [hck]; omega))
     ·refine K8 ?_
      refine A2h (outs := [.blk bx [.int .i64 _]]) (rC rfl (A2 rfl rfl)) (rC rfl (A2 rfl rfl)) (rT rfl) (A0.cons (by repeat (first | exact Pk.here | apply Pk.there)) A0.nil) ?_
      (exact ElP.no (A5O hml (A3k hmw (b := false) (by assumption))) (O3 _) (L4 _ ⟨by omega, by omega⟩) (by omega) (by rw [hck]; omega))
def A1N (r : Option (Tm × Ty)) : IM → Value → List A4 → Prop := L5 fun G' v => ∃ cu ct, v = .tuple ⟨[.agg ⟨cu⟩, .agg ⟨ct⟩, .bool r.isSome]⟩ ∧ A9 G' (r.getD (J4, A7)).1 cu ∧ B3 G' (r.getD (J4, A7)).2 ct
theorem A1N.no {G : IM} {r : Option (Tm × Ty)} {cu ct : List Value} (h : r = none) (hu : A9 G J4 cu) (ht : B3 G A7 ct) : A1N r G (.tuple ⟨[.agg ⟨cu⟩, .agg ⟨ct⟩, .bool false]⟩) [] := by subst h; exact ⟨rfl, cu, ct, rfl, hu, ht⟩
theorem A1N.yes {G : IM} {r : Option (Tm × Ty)} {u : Tm} {t : Ty} {cu ct : List Value} (h : r = some (u, t)) (hu : A9 G u cu) (ht : B3 G t ct) : A1N r G (.tuple ⟨[.agg ⟨cu⟩, .agg ⟨ct⟩, .bool true]⟩) [] := by subst h; exact ⟨rfl, cu, ct, rfl, hu, ht⟩
theorem A87 {e : Tm} (h : M3 e = false) : V4 e = none := by unfold V4; rw [if_neg (by rw [h]; decide)]
theorem A5P {e : Tm} (h : M3 e = true) (h2 : N1 [] e 0 = none) : V4 e = none := by unfold V4; rw [if_pos h, h2]
theorem A5Q {e u : Tm} {t : Ty} {l : Int} (h : M3 e = true) (h2 : N1 [] e 0 = some (u, t, l)) : V4 e = some (u, t) := by unfold V4; rw [if_pos h, h2]
theorem B39 (e : Tm) (G : IM) (cells : List Value) (hr : A9 G e cells) : Fn Tryz.prog 18 [.agg ⟨cells⟩] [] G (A1N (V4 e)) := by
 have hRl := hr.len
 have hRo := hr.one
 have hV := A7k e G cells hr
 have hno := @A87 e
 have hnn := @A5P e
 have hso := @A5Q e
 refine B7 Tryz.func18 rfl Tryz.ntmps18 Tryz.results18 rfl ?_
 intro w0
 refine tS (tR ?_)
 refine sE (C2 rfl rfl) rfl (fun b3 => ?_)
 refine sE (A6 rfl) rfl (fun b4 => ?_)
 refine sE (A6 rfl) rfl (fun b5 => ?_)
 refine sQ (qA rfl) rfl (sD (nS (tS (tS (tR ?_)))))
 refine sL (A5 rfl rfl (B5 (by repeat first | exact mH | apply mT)) hRl) rfl rfl ?_
 refine H3 rfl (hV) rfl rfl (fun h13 => ?_) (fun h13 => ?_)
 refine D2 ?_
 refine sE (C2 rfl rfl) rfl (fun b23 => ?_)
 refine sL (A5 rfl rfl (B5 (by repeat first | exact mH | apply mT)) hRl) rfl rfl ?_
 focus (have htv : M3 e = true := (by assumption); obtain ⟨hsh, hcn⟩ := (Y9 e).1 htv; refine L3 rfl (A86 _ e 1 [] 0 G none 0 0 _ hsh (by omega) A3m (S4.nil G) hr (by omega) (by omega)) (Pk.perm (by repeat (first | exact Pk.here | apply Pk.there))) rfl rfl (fun v G1 outs hle1 hh => ?_); obtain ⟨u, uc, t, tc, l3, rfl, rfl, hru, hrt, hl3, hl4, hu⟩ := hh; have hul := hru.len; have huo := hru.one; obtain ⟨p3, c3, e3, rfl, _⟩ := hrt.open; have hnn := hnn htv; have hso := @hso u t l3 htv; rcases hE : N1 [] e 0 with _ | ⟨u2, t2, l2⟩; rotate_left; have hue := hu _ hE; simp only [Prod.mk.injEq] at hue; obtain ⟨rfl, rfl, rfl⟩ := hue; have hso := hso hE; obtain ⟨hg1, hg2, hg3⟩ := A5L hso; rotate_left; simp only [Option.isSome]; rotate_left; simp only [Option.isSome])
 refine J5 ?_
 refine sE (A6 rfl) rfl (fun b30 => ?_)
 refine sE (A6 rfl) rfl (fun b31 => ?_)
 refine sS rfl rfl rfl hul huo rfl ?_ (hu := by exact D5 hul.symm)
 refine I4 ?_
 refine E4 E7 rfl ?_
 refine P8 (i := 0) (l' := [tt,ff,ff,ff,ff,ff,ff]) rfl D6 (A5 rfl rfl (B5 (by repeat first | exact mH | apply mT)) hul) rfl (by kernel_rfl) rfl rfl ?_
 refine aL 2 rfl (A2 rfl rfl) rfl ?_
 refine A3 1 ?_
 (refine K4 rfl rfl (A22 _ _ _ (A5G hg1) hru) rfl rfl rfl (fun v G2 hle2 hh => ?_); obtain ⟨cs2, F2, rfl, hs2, hn2⟩ := hh; have hwl := hs2.R.len; have hwo := hs2.R.one; have hr2 := hs2.R.mono (C1.le G2 G1); replace hrt := hrt.mono hle2)
 refine A3 3 ?_
 (refine K4 rfl rfl (A06 _ _ _ (A3r hg3).small hrt) rfl rfl rfl (fun v G3 hle3 hh => ?_); obtain ⟨cs3, F3, rfl, hs3, hn3⟩ := hh; obtain ⟨p4, c4, rfl, _⟩ := hs3.open; have hr3 := hs3.R.mono (C1.le G3 G2); replace hr2 := hr2.mono hle3)
 refine A3 4 ?_
 refine oS rfl rfl rfl rfl hwl hwo rfl rfl ?_ (hu := by exact D5 hwl.symm)
 refine A3 5 ?_
 refine oS rfl rfl rfl rfl rfl rfl rfl rfl ?_
 refine aP 6 rfl (qA rfl) rfl ?_
 refine C4 (nS (tT ?_))
 refine E6 (rC rfl (A5 rfl rfl (B5 (by repeat first | exact mH | apply mT)) hwl)) (rC rfl (A2 rfl rfl)) (rT rfl) ?_
 (exact A1N.yes hso hr2 hr3)
 refine J5 ?_
 refine sE (A6 rfl) rfl (fun b69 => ?_)
 refine sE (A6 rfl) rfl (fun b70 => ?_)
 refine sS rfl rfl rfl hul huo rfl ?_ (hu := by exact D5 hul.symm)
 refine A1A ?_
 refine E6 (rC rfl (A2 rfl rfl)) (rC rfl (A2 rfl rfl)) (rT rfl) ?_
 (exact A1N.no (hnn hE) (O3 _) (L4 _ ⟨by omega, by omega⟩))
 refine I4 ?_
 refine E6 (rC rfl (A2 rfl rfl)) (rC rfl (A2 rfl rfl)) (rT rfl) ?_
 (exact A1N.no (hno (by assumption)) (O3 _) (L4 _ ⟨by omega, by omega⟩))
def P3 (e : Tm) : Option Ty := match V4 e with | some (_, t) => some t | none => none
theorem A88 (e : Tm) (G : IM) (cells : List Value) (htv : M3 e = true) (hr : A9 G e cells) : Fn Tryz.prog 32 [.slice none 0 0, .agg ⟨cells⟩] [] G (X1 (P3 e) G) := by
 have hRl := hr.len
 have hRo := hr.one
 have hnn := @A5P e htv
 have hso := fun u t l => @A5Q e u t l htv
 obtain ⟨hsh, hcn⟩ := (Y9 e).1 htv
 refine B7 Tryz.func32 rfl Tryz.ntmps32 Tryz.results32 rfl ?_
 intro w0
 refine tS (tR ?_)
 refine sE (C2 rfl rfl) rfl (fun b3 => ?_)
 refine sE (A6 rfl) rfl (fun b4 => ?_)
 refine I0 ?_
 refine sE (C2 rfl rfl) rfl (fun b11 => ?_)
 refine sQ (qM rfl) rfl ?_
 refine sL (A5 rfl rfl (B5 (by repeat first | exact mH | apply mT)) hRl) rfl rfl ?_
 focus (refine L3 rfl (A86 _ e 1 [] 0 G none 0 0 _ hsh (by omega) A3m (S4.nil G) hr (by omega) (by omega)) (Pk.perm (by repeat (first | exact Pk.here | apply Pk.there))) rfl rfl (fun v G1 outs hle1 hh => ?_); obtain ⟨u, uc, t, tc, l3, rfl, rfl, hru, hrt, hl3, hl4, hu⟩ := hh; have hul := hru.len; have huo := hru.one; obtain ⟨p3, c3, e3, rfl, _⟩ := hrt.open; have hso := hso u t l3; rcases hE : N1 [] e 0 with _ | ⟨u2, t2, l2⟩; rotate_left; have hue := hu _ hE; simp only [Prod.mk.injEq] at hue; obtain ⟨rfl, rfl, rfl⟩ := hue; have hso := hso hE; rotate_left; simp only [Option.isSome]; rotate_left; simp only [Option.isSome])
 refine J5 ?_
 refine sE (A6 rfl) rfl (fun b19 => ?_)
 refine sE (A6 rfl) rfl (fun b20 => ?_)
 refine sS rfl rfl rfl hul huo rfl ?_ (hu := by exact D5 hul.symm)
 refine L7 ?_
 refine E9 (rC rfl (A2 rfl rfl)) (rT rfl) ?_
 (exact X1.yes hrt rfl (by unfold P3; rw [hso]))
 refine J5 ?_
 refine sE (A6 rfl) rfl (fun b41 => ?_)
 refine sE (A6 rfl) rfl (fun b42 => ?_)
 refine sS rfl rfl rfl hul huo rfl ?_ (hu := by exact D5 hul.symm)
 refine L7 ?_
 refine E9 (rC rfl (A2 rfl rfl)) (rT rfl) ?_
 (exact X1.no hrt rfl (by unfold P3; rw [hnn hE]))
theorem B4a (fid : FuncId) (us cs : List Value) (G : IM) : Fn Tryz.prog 114 [.slice none 0 0, .func (.func fid) ⟨us⟩ ⟨cs⟩] [] G (H9 (.int .i64 (-1)) G) := by
 refine B7 Tryz.func114 rfl Tryz.ntmps114 Tryz.results114 rfl ?_
 intro w0
 refine L7 ?_
 refine B6 ?_
 refine J3 (fun (_ : Nat) => ⟨[(8, .int .i64 0), (7, .int .i64 0)], [], G⟩) (fun _ => True) (fun i => i) 0 ?_ ?_ ?_
 ·exact C5
 ·trivial
 ·(rintro (i0 : Nat) _)
  refine tS (tR ?_)
  refine sP (A4K rfl rfl (by omega)) rfl rfl ?_
  refine K8 ?_
  trivial
theorem B4b (fid : FuncId) (us cs : List Value) (G : IM) : Fn Tryz.prog 89 [.slice none 0 0, .func (.func fid) ⟨us⟩ ⟨cs⟩] [] G (H9 (.bool false) G) := by
 refine B7 Tryz.func89 rfl Tryz.ntmps89 Tryz.results89 rfl ?_
 intro w0
 refine D2 ?_
 refine H2 rfl (B4a fid us cs G) rfl rfl ?_
 refine sP (B0o rfl rfl (by omega)) rfl rfl ?_
 refine sQ (qA rfl) rfl (sD (nS (tT (F0 (rT rfl) ?_))))
 (exact ⟨rfl, rfl, rfl⟩)
theorem B4c (G : IM) : Fn Tryz.prog 58 [.slice none 0 0] [] G (H9 (.bool true) G) := by
 refine B7 Tryz.func58 rfl Tryz.ntmps58 Tryz.results58 rfl ?_
 intro w0
 refine D2 ?_
 refine sP (A6u rfl rfl (by omega)) rfl rfl ?_
 refine sQ (qM rfl) rfl (sQ (qM rfl) rfl ?_)
 refine H2 rfl ((B4b _ _ _ _)) rfl rfl ?_
 refine D0 ?_
 (exact ⟨rfl, rfl, rfl⟩)
theorem A89 {e : Tm} (h : M3 e = false) : P3 e = none := by unfold P3; rw [A87 h]
theorem B4d {e : Tm} {t : Ty} (h : P3 e = some t) : C9 t = true := by
 unfold P3 at h
 split at h
 ·rename_i u t' hi; cases h; exact (A5L hi).2.2
 ·cases h
theorem B4e (e : Tm) (G : IM) (cells : List Value) (hr : A9 G e cells) : Fn Tryz.prog 25 [.slice none 0 0, .agg ⟨cells⟩] [] G (X1 (P3 e) G) := by
 have hRl := hr.len
 have hRo := hr.one
 refine B7 Tryz.func25 rfl Tryz.ntmps25 Tryz.results25 rfl ?_
 intro w0
 refine tS (tR ?_)
 refine sE (C2 rfl rfl) rfl (fun b3 => ?_)
 refine sE (A6 rfl) rfl (fun b4 => ?_)
 refine D0 ?_
 refine H2 rfl ((B4c _)) rfl rfl ?_
 refine sQ (pNt rfl) rfl (sQ (qM rfl) rfl ?_)
 refine sL (A5 rfl rfl (B5 (by repeat first | exact mH | apply mT)) hRl) rfl rfl ?_
 refine H3 rfl ((A7k e _ _ hr)) rfl rfl (fun h16 => ?_) (fun h16 => ?_)
 refine L6 ?_
 refine sL (A5 rfl rfl (B5 (by repeat first | exact mH | apply mT)) hRl) rfl rfl ?_
 focus (refine F4 rfl (A88 e G cells (by assumption) hr) rfl rfl (fun v G1 hle1 hh => ?_); obtain ⟨cu, u, rfl, hru, hu⟩ := hh; obtain ⟨p1, c1, e1, rfl, _⟩ := hru.open; rcases hct : P3 e with _ | u2; rotate_left; obtain rfl := hu u2 hct; have hgv := B4d hct; rotate_left; simp only [Option.isSome]; rotate_left; simp only [Option.isSome])
 refine J0 ?_
 refine sE (A6 rfl) rfl (fun b32 => ?_)
 refine T2 ?_
 (refine F4 rfl (A06 _ G1 _ (A3r hgv).small hru) rfl rfl (fun v G2 hle2 hh => ?_); obtain ⟨cs2, F2, rfl, hs2, hn2⟩ := hh; obtain ⟨p2, c2, rfl, _⟩ := hs2.open; have hr2 := hs2.R.mono (C1.le G2 G1))
 refine F9 ?_
 refine sQ (qA rfl) rfl (sD (nS (tT ?_)))
 refine E9 (rC rfl (A2 rfl rfl)) (rT rfl) ?_
 (exact X1.yes hr2 rfl (by first | exact hct | rfl))
 refine J0 ?_
 refine sE (A6 rfl) rfl (fun b61 => ?_)
 refine A0h ?_
 refine E9 (rC rfl (A2 rfl rfl)) (rT rfl) ?_
 (exact X1.no (u := A7) (L4 _ ⟨by omega, by omega⟩) rfl (by first | exact hct | rfl))
 refine M1 ?_
 refine E9 (rC rfl (A2 rfl rfl)) (rT rfl) ?_
 (exact X1.no (u := A7) (L4 _ ⟨by omega, by omega⟩) rfl (A89 (by assumption)))
theorem B4f (e : Tm) (G : IM) (cells : List Value) (hr : A9 G e cells) : Fn Tryz.prog 10 [.agg ⟨cells⟩] [] G (X1 (P3 e) G) := by
 have hRl := hr.len
 have hRo := hr.one
 refine B7 Tryz.func10 rfl Tryz.ntmps10 Tryz.results10 rfl ?_
 intro w0
 refine tS (tR ?_)
 refine sE (C2 rfl rfl) rfl (fun b3 => ?_)
 refine sE (A6 rfl) rfl (fun b4 => ?_)
 refine sQ (qA rfl) rfl (sD (nS (tS (tR ?_))))
 refine sL (A5 rfl rfl (B5 (by repeat first | exact mH | apply mT)) hRl) rfl rfl ?_
 (refine F4 rfl (B4e e G cells hr) rfl rfl (fun v G1 hle1 hh => ?_); obtain ⟨cu, u, rfl, hru, hu⟩ := hh; obtain ⟨p1, c1, e1, rfl, _⟩ := hru.open)
 refine D0 ?_
 refine E9 (rC rfl (A2 rfl rfl)) (rT rfl) ?_
 (exact ⟨rfl, _, u, rfl, hru, hu⟩)
def Q1 (e : Tm) (fuel : Int) : ByteArray × Int × Int := match V4 e with
 | none => (⟨⟨[]⟩⟩, 3, 0)
 | some (u, _) => if (Q6 u fuel).2.1 = 0 then (Z6 (Q6 u fuel).1, 0, 0) else (⟨⟨[]⟩⟩, (Q6 u fuel).2.1, (Q6 u fuel).2.2)
def B4g (r : ByteArray × Int × Int) (G : IM) : IM → Value → List A4 → Prop := L5 fun _ v => v = .tuple ⟨[.string r.1, .int .i64 r.2.1, .int .i64 r.2.2]⟩
theorem A5R {e : Tm} {fuel : Int} (h : V4 e = none) : Q1 e fuel = (⟨⟨[]⟩⟩, 3, 0) := by unfold Q1; rw [h]
theorem A3s {e u : Tm} {t : Ty} {fuel : Int} (h : V4 e = some (u, t)) (h0 : (Q6 u fuel).2.1 = 0) : Q1 e fuel = (Z6 (Q6 u fuel).1, 0, 0) := by unfold Q1; rw [h]; simp only [h0, if_true]
theorem A3t {e u : Tm} {t : Ty} {fuel : Int} (h : V4 e = some (u, t)) (h0 : (Q6 u fuel).2.1 ≠ 0) : Q1 e fuel = (⟨⟨[]⟩⟩, (Q6 u fuel).2.1, (Q6 u fuel).2.2) := by unfold Q1; rw [h]; simp only [if_neg h0]
theorem A9a : ∀ (n : Nat) (e : Tm), (N9 n e).2.1 = 0 → P9 (N9 n e).1 = true ∧ H7 (N9 n e).1 = true ∧ (N9 n e).2.2.1 = 0
 | 0, e, h => by rw [A5H] at h ⊢; exact stepv e h
 | n + 1, e, h => by
  by_cases h1 : (E3 e).2.1 = 1
  ·rw [A5I h1] at h ⊢; exact A9a n _ h
  ·rw [A5J h1] at h ⊢; exact stepv e h
where
 stepv (e : Tm) (h : (E3 e).2.1 = 0) : P9 (E3 e).1 = true ∧ H7 (E3 e).1 = true ∧ (E3 e).2.2 = 0 := by
  cases h1 : P9 e with
  | false => rw [A8J h1] at h; simp at h
  | true =>
   cases h2 : H7 e with
   | true => rw [A8K h1 h2]; exact ⟨h1, h2, rfl⟩
   | false =>
    by_cases h3 : (I7 e).2.1 = 1
    ·cases h4 : P9 (I7 e).1 with
     | false => rw [A8M h1 h2 h3 h4] at h; simp at h
     | true => rw [A8N h1 h2 h3 h4] at h; simp at h
    ·rw [A8L h1 h2 h3] at h
     exact absurd h (stp_ne0 e)
 stp_ne0 : ∀ (e : Tm), (I7 e).2.1 ≠ 0 := by
  refine Tm.ind fun k nm num ty fr lb ks ih => ?_
  rw [I7]
  cases hL : W3 (if k = 9 then 1 else ks.length) ks with
  | none => exact red_ne0 k ty fr lb ks
  | some p =>
   obtain ⟨us, c, l⟩ := p
   have := stpL_ne0 ks ih _ us c l hL
   simp only
   by_cases hc : c = 1
   ·rw [if_pos hc]; simp
   ·rw [if_neg hc]; exact this
 red_ne0 (k : Int) (ty fr : Ty) (lb : Int) (ks : List Tm) : (A0m k ty fr lb ks).2.1 ≠ 0 := by
  unfold A0m V2
  repeat' split
  all_goals simp
 stpL_ne0 (ks : List Tm) (ih : ∀ t ∈ ks, (I7 t).2.1 ≠ 0) : ∀ (n : Nat) us c l, W3 n ks = some (us, c, l) → c ≠ 0 := by
  induction ks with
  | nil => intro n us c l h; cases n <;> simp [W3] at h
  | cons t ts iht =>
   intro n us c l h
   cases n with
   | zero => simp [W3] at h
   | succ n =>
    rw [A4n] at h
    by_cases hv : H7 t = true
    ·rw [if_pos hv] at h
     split at h
     ·rename_i us' c' l' h'
      simp only [Option.some.injEq, Prod.mk.injEq] at h
      obtain ⟨_, rfl, _⟩ := h
      exact iht (fun u hu => ih u (List.mem_cons_of_mem _ hu)) n _ _ _ h'
     ·cases h
    ·rw [if_neg hv] at h
     simp only [Option.some.injEq, Prod.mk.injEq] at h
     obtain ⟨_, rfl, _⟩ := h
     exact ih t List.mem_cons_self
theorem B4h {e : Tm} {fuel : Int} (h : (Q6 e fuel).2.1 = 0) : P9 (Q6 e fuel).1 = true ∧ H7 (Q6 e fuel).1 = true ∧ (Q6 e fuel).2.2 = 0 := by
 cases hf : S7 fuel 0 300 with
 | false => rw [A8R hf] at h; simp at h
 | true =>
  by_cases h1 : (N9 fuel.toNat e).2.1 = 1
  ·rw [A8S hf h1] at h; simp at h
  ·rw [A8T hf h1] at h ⊢; exact A9a _ _ h
def B4i (r s : ByteArray × Int × Int) : Int := if r.2.1 = 2 then 2 else if r.2.1 ≠ 0 ∨ s.2.1 = 4 ∨ s.2.1 = 5 then 3 else if s.2.1 = 0 ∧ r.1 = s.1 then 1 else 4
def B5R (a b : Tm) (fuel : Int) : Int := if (P3 a).isSome = true ∧ A0t a b = true ∧ S7 fuel 0 300 = true then B4i (Q1 a fuel) (Q1 b fuel) else 0
def gxT : GX → ByteArray
 | .n n => A83 n
 | .b b => if b = true then txT else txF
 | .p => A5M
 | .f => A5N
theorem A9b {v : GE} (h : GV v) : Z6 v.tm = gxT v.tx := by
 induction h with
 | num => rfl
 | @tru b => cases b <;> rfl
 | lam => rfl
 | pair _ _ _ _ => rfl
 | pf _ _ => rfl
 | pp _ _ => rfl
 | @inj A l e hv hg i =>
  rw [GE.tm, A84 (h0 := by simp)]
  ·exact i
  ·rw [A2F]
   refine decide_eq_false ?_
   rintro ⟨_, _, h | h⟩ <;> simp [GT.ty, Ty.k] at h
  ·rfl
theorem A9c {fuel : Int} (hf : S7 fuel 0 300 = true) (u : Tm) : Q6 u fuel = ((J2 fuel.toNat u).1, (J2 fuel.toNat u).2.1, (J2 fuel.toNat u).2.2.1) := by
 unfold Q6
 rw [if_pos (A2v.1 hf)]
theorem B4j {a b : Tm} {fuel : Int} (hp : A0t a b = true) (hf : S7 fuel 0 300 = true) (h0 : (Q1 a fuel).2.1 = 0) :
  ((Q1 b fuel).2.1 = 0 ∧ (Q1 b fuel).1 = (Q1 a fuel).1) ∨ (Q1 b fuel).2.1 = 4 ∨ (Q1 b fuel).2.1 = 5 := by
 cases hu : V4 a with
 | none => rw [A5R hu] at h0; cases h0
 | some p =>
  obtain ⟨u, t⟩ := p
  obtain ⟨e, e', A, A', rfl, rfl, h3, hP⟩ := B3h hu hp
  have hv := (A5L h3).1
  by_cases he : (Q6 e.tm fuel).2.1 = 0
  ·have hE := A9c hf e.tm
   have hE' := A9c hf e'.tm
   rw [A3s hu he, hE]
   rw [hE] at he
   obtain ⟨w, h1, h2, h4⟩ := B2H hP he fuel.toNat hv
   rcases h4 with ⟨g, w', g1, g2, g3⟩ | g | g
   ·refine .inl ?_
    rw [A3s h3 (by rw [hE']; exact g), hE']
    refine ⟨rfl, ?_⟩
    show Z6 (J2 fuel.toNat e'.tm).1 = Z6 (J2 fuel.toNat e.tm).1
    rw [g1, h1, A9b g2, A9b h2, g3]
   ·exact .inr (.inl (by rw [A3t h3 (by rw [hE']; show (J2 fuel.toNat e'.tm).2.1 ≠ 0; omega), hE']; exact g))
   ·exact .inr (.inr (by rw [A3t h3 (by rw [hE']; show (J2 fuel.toNat e'.tm).2.1 ≠ 0; omega), hE']; exact g))
  ·rw [A3t hu he] at h0; exact absurd h0 he
mutual
theorem A9d : ∀ (a b c : Ty), A0n a b = true → A0n b c = true → A0n a c = true
 | .mk k ks, .mk k' ks', .mk k2 ks2, h1, h2 => by
  rw [A0s] at h1 h2 ⊢
  simp only [Bool.or_eq_true, Bool.and_eq_true, decide_eq_true_eq] at h1 h2 ⊢
  rcases h2 with h2 | ⟨rfl, h2⟩
  ·exact .inl h2
  ·rcases h1 with h1 | ⟨rfl, h1⟩
   ·exact .inl h1
   ·exact .inr ⟨rfl, A9e ks ks' ks2 h1 h2⟩
theorem A9e : ∀ (xs ys zs : List Ty), Q7 xs ys = true → Q7 ys zs = true → Q7 xs zs = true
 | [], [], [], _, _ => rfl
 | [], [], _ :: _, _, h => by simp [Q7] at h
 | [], _ :: _, _, h, _ => by simp [Q7] at h
 | _ :: _, [], _, h, _ => by simp [Q7] at h
 | _ :: _, _ :: _, [], _, h => by simp [Q7] at h
 | a :: xs, b :: ys, c :: zs, h1, h2 => by
  rw [Q7, Bool.and_eq_true] at h1 h2 ⊢
  exact ⟨A9d a b c h1.1 h2.1, A9e xs ys zs h1.2 h2.2⟩
end
mutual
theorem A9f : ∀ (a b c : Tm), A1d a b = true → A1d b c = true → A1d a c = true
 | .mk k nm num ty fr lb ks, .mk k' nm' num' ty' fr' lb' ks', .mk k2 nm2 num2 ty2 fr2 lb2 ks2, h1, h2 => by
  obtain ⟨rfl, rfl, rfl, t1, g1⟩ := A3n.1 h1
  obtain ⟨rfl, rfl, rfl, t2, g2⟩ := A3n.1 h2
  exact A3n.2 ⟨rfl, rfl, rfl, fun h => A9d _ _ _ (t1 h) (t2 h), A9g ks ks' ks2 g1 g2⟩
theorem A9g : ∀ (xs ys zs : List Tm), Z5 xs ys = true → Z5 ys zs = true → Z5 xs zs = true
 | [], [], [], _, _ => rfl
 | [], [], _ :: _, _, h => by simp [Z5] at h
 | [], _ :: _, _, h, _ => by simp [Z5] at h
 | _ :: _, [], _, h, _ => by simp [Z5] at h
 | _ :: _, _ :: _, [], _, h => by simp [Z5] at h
 | a :: xs, b :: ys, c :: zs, h1, h2 => by
  rw [Z5, Bool.and_eq_true] at h1 h2 ⊢
  exact ⟨A9f a b c h1.1 h2.1, A9g xs ys zs h1.2 h2.2⟩
end
theorem B4k {a b c : Tm} (h1 : A0t a b = true) (h2 : A0t b c = true) : A0t a c = true := by
 unfold A0t at *
 rw [Bool.and_eq_true, Bool.and_eq_true] at *
 exact ⟨h1.1, h2.2.1, A9f a b c h1.2.2 h2.2.2⟩
def B5S (e : Tm) : Option (List Tm) := if (P3 e).isSome = true ∧ (C6 e).length ≤ 6 then some (B1W e) else none
def CfP (r : Option (List Tm)) : IM → Value → List A4 → Prop := fun G' v outs => outs = [] ∧ ∃ p c es, v = .tuple ⟨[.slice p (r.getD []).length c, .bool r.isSome]⟩ ∧ B9 G' p (r.getD []).length c 9 es ∧ C8 G' (r.getD []) es
def pAt (t : Tm) (label : Int) (l : List Int) : Bool := match tAt t l with
 | some x => decide (x.k = 14 ∧ x.lb = label)
 | none => false
def A5S (t : Tm) (label : Int) : List Int × Bool := match (B0O t).find? (pAt t label) with
 | some l => (l, true)
 | none => ([], false)
def SP1 (G : IM) (l : List Int) (p : Option Addr) (c : Nat) : Prop := Sl G p l.length c 1 (A3S l) ∧ ∀ b ∈ I5 p, G b ≠ none
def CpP (t : Tm) (label : Int) (G : IM) : IM → Value → List A4 → Prop := L5 fun G' v => ∃ p c, v = .tuple ⟨[.slice p (A5S t label).1.length c, .bool (A5S t label).2]⟩ ∧ SP1 (C1 G' G) (A5S t label).1 p c
def MsP (r : Option (List Int)) (e : A4) (G : IM) : IM → Value → List A4 → Prop := fun G' v outs => outs = [e] ∧ ∃ p c, v = .tuple ⟨[.slice p (r.getD []).length c, .bool r.isSome]⟩ ∧ SP1 (C1 G' G) (r.getD []) p c
def IsP (l : List Int) (b : Bool) (G : IM) : IM → Value → List A4 → Prop := L5 fun G' v => ∃ p c, v = .tuple ⟨[.slice p l.length c, .bool b]⟩ ∧ SP1 (C1 G' G) l p c
theorem A9.nine {G : IM} {t : Tm} {cells : List Value} (h : A9 G t cells) : ∃ v1 v2 v3 v4 v5 v6 v7 v8 v9, cells = [v1, v2, v3, v4, v5, v6, v7, v8, v9] := by
 obtain ⟨_, _, _, _, _, _, _, _, _, rfl, _⟩ := h.open
 exact ⟨_, _, _, _, _, _, _, _, _, rfl⟩
theorem A3u {G : IM} {e : Tm} {ce : List Value} {k : Int} {nm : ByteArray} {tk : Int} {tks : List Ty} {q p : Option Addr} {d c : Nat} (hk : D9 k) (ht : B3 G (.mk tk tks) [.int .i64 tk, .slice q tks.length d]) (h1 : A9 G e ce) (hs : Sl G p 1 c 9 ce) :
  A9 G (.mk k nm 0 (.mk tk tks) A7 0 [e]) [.int .i64 k, .string nm, .int .i64 0, .int .i64 tk, .slice q tks.length d, .int .i64 0, .slice none 0 0, .int .i64 0, .slice p 1 c] := by
 obtain ⟨a1, a2⟩ := B1T h1 hs
 exact A9.of9 (ks := [e]) hk ⟨by omega, by omega⟩ ⟨by omega, by omega⟩ ht (L4 _ ⟨by omega, by omega⟩) a1 a2
theorem A3v {G : IM} {e f : Tm} {ce cf : List Value} {k : Int} {nm : ByteArray} {p : Option Addr} {c : Nat} (hk : D9 k) (h1 : A9 G e ce) (h2 : A9 G f cf) (hs : Sl G p 2 c 9 (ce ++ cf)) :
  A9 G (.mk k nm 0 A7 A7 0 [e, f]) [.int .i64 k, .string nm, .int .i64 0, .int .i64 0, .slice none 0 0, .int .i64 0, .slice none 0 0, .int .i64 0, .slice p 2 c] := by
 have hL : C8 G [e, f] [ce, cf] := by simp only [C8]; exact ⟨ce, [cf], rfl, h1, cf, [], rfl, h2, rfl⟩
 exact A9.of9 (ks := [e, f]) hk ⟨by omega, by omega⟩ ⟨by omega, by omega⟩ (L4 _ ⟨by omega, by omega⟩) (L4 _ ⟨by omega, by omega⟩)
  (B9.of (by simpa using hs) rfl hL.all (fun x hx => by obtain ⟨q, hq⟩ := List.getElem?_of_mem hx; exact (hL.inv hq J4).2.one)) hL
theorem B4l {G : IM} {e f g : Tm} {ce cf cg : List Value} {k : Int} {nm : ByteArray} {p : Option Addr} {c : Nat} (hk : D9 k) (h1 : A9 G e ce) (h2 : A9 G f cf) (h3 : A9 G g cg) (hs : Sl G p 3 c 9 (ce ++ (cf ++ cg))) :
  A9 G (.mk k nm 0 A7 A7 0 [e, f, g]) [.int .i64 k, .string nm, .int .i64 0, .int .i64 0, .slice none 0 0, .int .i64 0, .slice none 0 0, .int .i64 0, .slice p 3 c] := by
 have hL : C8 G [e, f, g] [ce, cf, cg] := by simp only [C8]; exact ⟨ce, [cf, cg], rfl, h1, cf, [cg], rfl, h2, cg, [], rfl, h3, rfl⟩
 exact A9.of9 (ks := [e, f, g]) hk ⟨by omega, by omega⟩ ⟨by omega, by omega⟩ (L4 _ ⟨by omega, by omega⟩) (L4 _ ⟨by omega, by omega⟩)
  (B9.of (by simpa using hs) rfl hL.all (fun x hx => by obtain ⟨q, hq⟩ := List.getElem?_of_mem hx; exact (hL.inv hq J4).2.one)) hL
def mB : Nat → Nat
 | 0 => 200
 | n + 1 => 3 * mB n + 200
theorem A1h (n : Nat) : 200 ≤ mB n := by cases n <;> simp only [mB] <;> omega
def A1i (n : Nat) (depth : Int) (t : Ty) : Prop := P7 4 t ∧ (n : Int) - 1000 ≤ depth ∧ depth ≤ 1000 ∧ ((depth ≤ 1 ∧ P7 n t) ∨ (2 ≤ depth ∧ depth + 3 ≤ n))
theorem A1i.sub {n : Nat} {depth : Int} {t t' : Ty} (h : A1i (n + 1) depth t) (hd : 1 < depth) (h4 : P7 4 t') : A1i n (depth - 1) t' := by
 obtain ⟨h1, h2, h3, h5⟩ := h
 refine ⟨h4, by omega, by omega, ?_⟩
 rcases h5 with ⟨h5, _⟩ | ⟨h5, h6⟩
 ·omega
 ·by_cases h7 : 3 ≤ depth
  ·exact .inr ⟨by omega, by omega⟩
  ·exact .inl ⟨by omega, h4.le (by omega)⟩
theorem A1i.kid {n : Nat} {depth : Int} {k : Int} {ks : List Ty} {t' : Ty} (h : A1i (n + 1) depth (.mk k ks)) (ht : t' ∈ ks) : A1i n (depth - 1) t' := by
 have h4 : P7 4 t' := (A5a h.1 ht).up
 by_cases hd : 1 < depth
 ·exact h.sub hd h4
 ·obtain ⟨h1, h2, h3, h5⟩ := h
  refine ⟨h4, by omega, by omega, .inl ⟨by omega, ?_⟩⟩
  rcases h5 with ⟨_, h5⟩ | ⟨h5, _⟩
  ·exact A5a h5 ht
  ·omega
theorem A1i.pos {n : Nat} {depth : Int} {k : Int} {ks : List Ty} (h : A1i n depth (.mk k ks)) (hd : 1 < depth ∨ k = 4 ∨ k = 5) : ∃ m, n = m + 1 := by
 cases n with
 | succ m => exact ⟨m, rfl⟩
 | zero =>
  obtain ⟨h1, h2, h3, h5⟩ := h
  rcases h5 with ⟨h5, h6⟩ | ⟨h5, h6⟩
  ·have := h6.2
   omega
  ·omega
theorem O9 : A7.small := by simp [A7, Ty.small, Ty.smallL]
theorem N6 {k : Int} {nm : ByteArray} {num : Int} (h : nm.size ≤ 1) : (Tm.mk k nm num A7 A7 0 []).small := by
 simp only [Tm.small, Tm.smallL]; exact ⟨by omega, O9, O9, by simp, trivial⟩
theorem J9 {k : Int} {nm : ByteArray} {num : Int} {ty : Ty} {a : Tm} (h : nm.size ≤ 1) (ht : ty.small) (ha : a.small) : (Tm.mk k nm num ty A7 0 [a]).small := by
 simp only [Tm.small, Tm.smallL]; exact ⟨by omega, ht, O9, by simp, ha, trivial⟩
theorem R8 {k : Int} {nm : ByteArray} {num : Int} {a b : Tm} (h : nm.size ≤ 1) (ha : a.small) (hb : b.small) : (Tm.mk k nm num A7 A7 0 [a, b]).small := by
 simp only [Tm.small, Tm.smallL]; exact ⟨by omega, O9, O9, by simp, ha, hb, trivial⟩
theorem A0o {k : Int} {nm : ByteArray} {num : Int} {a b c : Tm} (h : nm.size ≤ 1) (ha : a.small) (hb : b.small) (hc : c.small) : (Tm.mk k nm num A7 A7 0 [a, b, c]).small := by
 simp only [Tm.small, Tm.smallL]; exact ⟨by omega, O9, O9, by simp, ha, hb, hc, trivial⟩
theorem A0p : (Ty.mk 1 []).small := by simp [Ty.small, Ty.smallL]
def A9h (br : Nat) (pb : Option Addr) (nb cb : Nat) (bs : List UInt8) (n : Nat) : Prop := ∀ (depth : Int) (t : Ty) (p : Nat) (G : IM) (pc : Option Addr) (nc cc : Nat) (cells : List Value), A1i n depth t → (n : Int) - 1000 ≤ depth → depth ≤ 1000 → nc + n ≤ 40 → V9 G pc nc cc → B3 G t cells → Sl G pb nb cb 1 (O0 bs) → p + mB n < 1099511627776 →
 Fn Tryz.prog 54 [.pointer (some ⟨br, 0, none⟩), .slice pc nc cc, .agg ⟨cells⟩, .int .i64 depth] [rd br pb nb cb p] G
  (A05 br pb nb cb p (mB n) (fun G' v => ∃ e cells, v = .agg ⟨cells⟩ ∧ A9 G' e cells ∧ e.small ∧ E0 e ≤ mB n))
theorem A9i (br : Nat) (pb : Option Addr) (nb cb : Nat) (bs : List UInt8) (hnb : nb ≤ 2000) (m : Nat) (hM : A9h br pb nb cb bs m) (depth : Int) (a t : Ty) (p : Nat) (G : IM) (pc : Option Addr) (nc cc : Nat) (ca cells : List Value)
  (hfu : A1i m depth t) (hd0 : (m : Int) - 1000 ≤ depth) (hd1 : depth ≤ 1000) (hnc : nc + 1 + m ≤ 40) (hx : V9 G pc nc cc) (hra : B3 G a ca) (haa : D8 a ∧ H4 a ≤ 30) (hrt : B3 G t cells) (hb : Sl G pb nb cb 1 (O0 bs)) (hp : p + 1 + mB m < 1099511627776) :
  Fn Tryz.prog 86 [.pointer (some ⟨br, 0, none⟩), .slice pc nc cc, .agg ⟨ca⟩, .agg ⟨cells⟩, .int .i64 depth] [rd br pb nb cb p] G
   (A05 br pb nb cb p (1 + mB m) (fun G' v => ∃ e cells, v = .agg ⟨cells⟩ ∧ A9 G' e cells ∧ e.small ∧ E0 e ≤ 1 + mB m)) := by
 obtain ⟨ak, aks⟩ := a
 obtain ⟨tk, tks⟩ := t
 obtain ⟨pa, cca, ea, rfl, _⟩ := hra.open
 obtain ⟨pt, cct, et, rfl, _⟩ := hrt.open
 simp only [Ty.k, Ty.ks] at hra hrt ⊢
 refine B7 Tryz.func86 rfl Tryz.ntmps86 Tryz.results86 rfl ?_
 intro w0
 refine tS (tR ?_)
 refine sE (C2 rfl rfl) rfl (fun b3 => ?_)
 refine sE (C2 rfl rfl) rfl (fun b4 => ?_)
 refine sE (A6 rfl) rfl (fun b5 => ?_)
 refine sD (nS (tS (tR (sQ (qM rfl) rfl ?_))))
 (refine I8 (C3 rfl rfl rfl (by omega) (by unfold maxLen; omega) rfl) rfl ?_; rintro _ ⟨b11, rfl⟩)
 (refine T8 (by repeat (first | exact Pk.here | apply Pk.there)) (fun G4 hle4 hsl4 _ => ?_); refine L3 rfl (A7C G4 br pb nb cb p bs _ _ _ _ (hb.mono hle4) hnb (by omega) hsl4 (by decide)) (Pk.perm (by repeat (first | exact Pk.here | apply Pk.there))) rfl rfl (fun v G5 outs hle5 hh => ?_); obtain ⟨rfl, rfl, hv⟩ := hh; obtain ⟨nm, rfl, hnm⟩ : ∃ nm : ByteArray, v = .string nm ∧ nm.size ≤ 1 := (by simp only [List.mem_cons, List.not_mem_nil, or_false] at hv; rcases hv with rfl | rfl | rfl | rfl <;> exact ⟨_, rfl, by decide⟩); replace hra := hra.mono hle4; replace hx := hx.mono hle4; replace hb := hb.mono hle4; replace hrt := hrt.mono hle4;)
 refine sQ (qA rfl) rfl (sD (nS (tS ?_)))
 refine E4 E7 rfl ?_
 refine K2 (i := 0) (l' := [tt,ff,ff,ff,ff,ff,ff,ff,ff,ff,ff,ff,ff,ff]) rfl D6 (qM rfl) rfl (by kernel_rfl) rfl rfl ?_
 refine aL 1 rfl (A2 rfl rfl) rfl ?_
 refine aP 3 rfl (qM rfl) rfl ?_
 refine aP 4 rfl (qM rfl) rfl ?_
 refine aP 5 rfl (qM rfl) rfl ?_
 refine aL 6 rfl (A2 rfl rfl) rfl ?_
 refine aL 8 rfl (A2 rfl rfl) rfl ?_
 refine aP 9 rfl (qM rfl) rfl ?_
 refine A3 2 ?_
 (refine K4 rfl rfl (U6 _ _ _ haa.1.small hra) rfl rfl rfl (fun v G6 hle6 hh => ?_); obtain ⟨cs1, F1, rfl, hs1, hn1⟩ := hh; obtain ⟨p1, c1, rfl, _⟩ := hs1.open; have hr1 := hs1.R.mono (C1.le G6 _); replace hra := hra.mono hle6; replace hx := hx.mono hle6; replace hb := hb.mono hle6; replace hrt := hrt.mono hle6;)
 refine A3 7 ?_
 (refine K4 rfl rfl (B1N _ pc nc cc nm (.mk ak aks) _ hx (by omega) hra haa.1 haa.2 hnm) rfl rfl rfl (fun v G7 hle7 hh => ?_); obtain ⟨pm, cm, rfl, hxm⟩ := hh; replace hr1 := hr1.mono hle7; replace hx := hx.mono hle7; replace hb := hb.mono hle7; replace hrt := hrt.mono hle7; have hcall := hM depth (.mk tk tks) (p + 1) _ pm (nc + 1) cm _ hfu hd0 hd1 (by omega) hxm hrt hb (by omega))
 refine A3 10 ?_
 (refine A0c (l' := [tt,tt,tt,tt,tt,tt,tt,tt,tt,tt,tt,ff,ff,ff]) rfl rfl hcall (Pk.perm (by repeat (first | exact Pk.here | apply Pk.there))) rfl rfl rfl (by repeat (first | exact A8.nil | apply A8.dep (by decide +kernel) | apply A8.blk (by decide +kernel) (by repeat (first | exact Pk.here | apply Pk.there)) (by repeat first | exact mH | apply mT))) (fun v G8 outs hle8 hh => ?_); obtain ⟨p8, hp81, hp82, rfl, e8, c8, rfl, hr8, hs8, hc8⟩ := hh; obtain ⟨a1, a2, a3, a4, a5, a6, a7, a8, a9, rfl⟩ := hr8.nine; replace hr1 := hr1.mono hle8)
 refine A3 11 ?_
 (refine E1 rfl (C3 rfl rfl rfl (by omega) (by unfold maxLen; omega) rfl) rfl rfl ?_; rintro _ ⟨b33, rfl⟩)
 refine aP 12 rfl (S0 rfl rfl) rfl ?_
 refine A3 13 ?_
 refine U1 rfl rfl rfl rfl rfl rfl rfl rfl (by decide +kernel) (by repeat first | exact Sw.here | apply Sw.there) (by rfl) ?_
 refine C4 (nS ?_)
 (refine H8 (cs := [a1, a2, a3, a4, a5, a6, a7, a8, a9]) (by repeat (first | exact Pk.here | apply Pk.there)) (fun G9 hle9 hsl9 hno9 => ?_); have hN := A3u (k := 5) (nm := nm) ⟨by omega, by omega⟩ (hr1.mono hle9) (hr8.mono hle9) hsl9)
 refine tT ?_
 refine H0 (outs := [rd br pb nb cb p8]) (rC rfl (A2 rfl rfl)) (by repeat (first | exact A0.nil | refine A0.cons Pk.here ?_ | refine A0.cons (Pk.there Pk.here) ?_ | refine A0.cons (Pk.there (Pk.there Pk.here)) ?_ | apply A0.drop)) ?_
 (exact ⟨p8, by omega, by omega, rfl, _, _, rfl, hN, J9 hnm haa.1.small hs8, by simp only [E0, H1]; omega⟩)
end Gw
end Go.Proofs.YtipblncpnffmbaaGreatDoor
