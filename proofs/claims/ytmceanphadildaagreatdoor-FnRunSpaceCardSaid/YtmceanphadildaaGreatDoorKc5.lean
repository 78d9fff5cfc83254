/-
  The program's evaluator: the rules of casts, selections and casts themselves.
-/
import Derived.Test.YtmceanphadildaaGreatDoorKc4
import Derived.Test.YtmceanphadildaaGreatDoorKc2
import Derived.Test.YtmceanphadildaaGreatDoorKc3
set_option linter.unusedVariables false
set_option linter.unusedSimpArgs false
set_option linter.ambiguousOpen false
set_option maxHeartbeats 0
set_option maxRecDepth 100000
set_option synthInstance.maxSize 4000
set_option synthInstance.maxHeartbeats 0
namespace Go.Proofs.YtmceanphadildaaGreatDoor
open Go Go.RowKit Tryz Go.Proofs.Tryz
namespace Gw
variable {p : Prop}
theorem y25 (h : p := by
  refine A2 8 ?_
  refine E9 rfl ?_
  refine B5 ?_
  (have hr1' := hr1; refine A2F zB0 (fun G5 hle5 hsl5 hno5 => ?_); have hRT : C6 G5 (.mk k [.mk ak aks, .mk bk bks]) _ := E7.ty (ts := [.mk ak aks, .mk bk bks]) (es := [[.int .i64 ak, .slice p1 aks.length c1], [.int .i64 bk, .slice p2 bks.length c2]]) ⟨_, _, rfl, hr1.mono hle5, _, _, rfl, hr2.mono hle5, rfl⟩ rfl hsl5 hki; have hV := A2l _ G5 _ hRT; refine zdd D9 rfl ?_)
  refine xx2 0 1 ?_
  refine A2 2 ?_
  refine M9 rfl rfl (hV) rfl rfl rfl ?_
  refine A2 3 ?_
  refine E9 rfl ?_
  refine xx1 4 ?_
  refine B5 ?_
  refine zf5 ?_
  (exact ⟨rfl, _, rfl, hRT⟩)
) : p := h
theorem y26 (h : p := by
  refine A2 7 ?_
  (refine A0c (cs := [x1, x2, x3, x4, x5, x6, x7, x8, x9]) zB0 (fun G2 hle2 hsl2 hno2 => ?_); have hrN := A31 (k := k) (ks := [aks[0]]) (es := [[x1, x2, x3, x4, x5, x6, x7, x8, x9]]) hk rfl (D7.of hsl2 rfl zP0 (by intro x hx; obtain rfl := List.mem_singleton.1 hx; exact ho3)) (by simp only [H4]; exact ⟨_, _, rfl, hre3.mono hle2, rfl⟩); replace hre5 := hre5.mono hle2; replace hre7 := hre7.mono hle2; refine M9 rfl rfl (A32 _ _ _ _ _) rfl rfl rfl ?_)
  refine A2 22 ?_
  (refine E6 rfl rfl (A1T _ afks[i] atks[i] alb G2 _ _ _ ⟨by omega, by omega⟩ hrN hre7 hre5) rfl rfl rfl (fun u G3 hle3 hh => ?_); obtain ⟨wc, rfl, hrw⟩ := hh; have hwl := hrw.len; have hwo := hrw.one)
  refine A2 23 ?_
  (refine oS rfl rfl rfl rfl hwl hwo rfl rfl ?_ (hu := by exact E0 hwl.symm))
  refine xx2 24 25 ?_
  refine B1 ?_
  refine E5 (rC rfl (A3 rfl rfl (B9 zG0) hwl)) (rT rfl) (rT rfl) ?_
  (exact S2.mk (by rw [if_pos hq, A4S zO0, A1o zO0, A1o zO0]) hrw)
) : p := h
theorem y27 (h : p := by
  refine C2 ?_
  refine A5 ?_
  refine zf11 ?_
  refine B8 ?_
  refine zf11 ?_
  refine B1 ?_
  refine zf11 ?_
  refine A7 ?_
  refine zf11 ?_
  refine B8 ?_
  refine zf11 ?_
  refine B1 ?_
  refine zf11 ?_
  refine K1 ?_
  refine zf5 ?_
  (exact S1.no rfl (Q3 _))
) : p := h
theorem y28 (h : p := by
  refine A5 ?_
  refine zf2 (fun b3 => ?_)
  refine zf1 (fun b4 => ?_)
  refine D4 ?_
  refine zf18 ?_
  refine sL (A3 rfl rfl (hat0 _) rfl) rfl rfl ?_
  refine zf1 (fun b15 => ?_)
  refine B6 ?_
  refine C2 ?_
  refine B6 ?_
  refine zf11 ?_
  refine A0H ?_
  refine zf11 ?_
  refine B5 ?_
  refine zf11 ?_
  refine A2G ?_
  refine sP (A2c rfl rfl zO0) rfl rfl ?_
  refine K1 ?_
  refine zf15 ?_
  (exact S2.mk rfl (Q3 _))
) : p := h
theorem y29 (h : p := by
  refine sP (A2c rfl rfl zO0) rfl rfl ?_
  refine K1 ?_
  refine zf15 ?_
  (exact S2.mk (by rw [if_neg zO0]; rfl) (Q3 _))
) : p := h
theorem y30 (h : p := by
  refine sL (A3 rfl rfl (B9 zG0) hwl) rfl rfl ?_
  refine B5 ?_
  refine sS rfl rfl rfl hwl hwo rfl ?_ (hu := by exact E0 hwl.symm)
  refine J3 ?_
  refine A1a (rC rfl (A3 rfl rfl (B9 zG0) hwl)) (rT rfl) (rT rfl) (rT rfl) ?_
  (exact EvP.mk (by rw [← hev]; exact hend zO0) hrw)
) : p := h
theorem y31 (h : p := by
  refine A2 13 ?_
  refine E9 rfl ?_
  refine xx1 14 ?_
  refine B1 ?_
  refine zf5 ?_
  (have hk8 : k = 8 := zO0; exact Q1.mk (by rw [A6g (.inr hk8) zO0]; simp_all [Q7, V4]) (N2 _ ⟨by omega, by omega⟩) (S8 zO0 zO0))
) : p := h
theorem y32 (h : p := by
  refine A2 13 ?_
  refine E9 rfl ?_
  refine xx1 14 ?_
  refine B1 ?_
  refine zf5 ?_
  (have hk7 : k = 7 := zO0; exact Q1.mk (by rw [A6g (.inl hk7) zO0]; simp_all [Q7]) (N2 _ ⟨by omega, by omega⟩) (S8 zO0 zO0))
) : p := h
theorem B1y (k : Int) (a : Tm) (nm : ByteArray) (num : Int) (ty fr : Ty) (lb : Int) (G : IM) (cells : List Value) (hk1 : k = 11 ∨ k = 12) (hca : cv a) (hr : B7 G (.mk k nm num ty fr lb [a]) cells) : Fn prog 206 [.agg ⟨cells⟩] [] G (S2 (A0o k ty fr lb [a])) := by
 obtain ⟨ak, anm, anum, ⟨atk, atks⟩, ⟨afk, afks⟩, alb, aks⟩ := a
 obtain ⟨hN, hkk⟩ := hca.node
 have hops := hN.ops
 have hbl := hN.lbB
 have htyA := hN.tyA
 have hfrA := hN.frA
 rw [H8] at htyA hfrA
 have h14 : ak = 14 → aks.length = 1 := fun h => by rw [h] at hops; have : E4 14 = 1 := rfl; omega
 obtain ⟨tk, tks⟩ := ty
 obtain ⟨fk, fks⟩ := fr
 obtain ⟨pt, ct, pf, cf, p, c, es, rfl, hk, hnum, hlb, hty, hfr, hsl, hkl⟩ := hr.open9
 obtain ⟨bx, ox, e0, rfl, hl0, hat0, hre0, hgb0⟩ := hsl.kidTm hkl (i := 0) zP0 zP0
 replace hre0 : B7 G (Tm.mk ak anm anum (.mk atk atks) (.mk afk afks) alb aks) e0 := hre0
 have hP : Fn prog 97 [.agg ⟨e0⟩] [] G (I1 (.bool (decide (ak = 14 ∧ afk = atk ∧ (atk = 4 ∨ atk = 5)))) G) := A3l _ G _ hre0
 have hI := A4R _ G _ hre0
 have ho0 := hre0.one
 obtain ⟨apt, act, apf, acf, ap, ac, aes, rfl, hak, hanum, halb, haty, hafr, hasl, hakl⟩ := hre0.open9
 have hfk64 : F8 fk := by obtain ⟨_, _, _, _, h, _⟩ := hfr.open; exact h
 have htk64 : F8 tk := by obtain ⟨_, _, _, _, h, _⟩ := hty.open; exact h
 obtain ⟨tes, htS, htL⟩ := haty.kids
 obtain ⟨fes, hfS, hfL⟩ := hafr.kids
 simp only [Ty.ks] at htS htL hfS hfL
 obtain ⟨i, hi⟩ : ∃ i : Nat, (k - 11).toNat = i := ⟨_, rfl⟩
 have hR : A0o k (.mk tk tks) (.mk fk fks) lb [Tm.mk ak anm anum (.mk atk atks) (.mk afk afks) alb aks] = (if (ak = 14 ∧ afk = atk ∧ (atk = 4 ∨ atk = 5)) ∧ atk = 5 then (O1 (A0a k [kd aks 0]) (kt afks i) (kt atks i) alb, 1, 0) else V6) := by
  unfold A0o
  rw [if_neg zO0, if_pos hk1, hi, show kd [Tm.mk ak anm anum (.mk atk atks) (.mk afk afks) alb aks] 0 = Tm.mk ak anm anum (.mk atk atks) (.mk afk afks) alb aks from rfl, A08]
  simp only [decide_eq_true_eq]
  rfl
 rw [hR]
 refine C4 func206 rfl ntmps206 results206 rfl ?_
 intro w0
 refine A5 ?_
 refine zf2 (fun b3 => ?_)
 refine zf1 (fun b4 => ?_)
 refine D4 ?_
 refine zf18 ?_
 refine sL (A3 rfl rfl (hat0 _) rfl) rfl rfl ?_
 refine zf1 (fun b15 => ?_)
 refine B6 ?_
 refine C2 ?_
 refine B6 ?_
 refine zf11 ?_
 refine A0H ?_
 refine zf0 (fun h44 => ?_) (fun h44 => ?_)
 refine B8 ?_
 focus (by_cases hpx : (ak = 14 ∧ afk = atk ∧ (atk = 4 ∨ atk = 5)); rw [decide_eq_true hpx] at hP; rotate_left; rw [decide_eq_false hpx] at hP; rotate_left; all_goals (refine F0 rfl hP rfl rfl ?_))
 refine B1 ?_
 refine zf0 (fun h58 => ?_) (fun h58 => ?_)
 refine E1 ?_
 refine zf14 ?_
 refine B6 ?_
 (have hq : (ak = 14 ∧ afk = atk ∧ (atk = 4 ∨ atk = 5)) ∧ atk = 5 := ⟨hpx, by omega⟩; have hq1 := h14 hq.1.1; have hq2 := htyA.1 zO0; have hq3 := hfrA.1 zO0; rw [show (k - 11 : Int) = ((i : Nat) : Int) from zO0]; obtain ⟨bq, oq, e3, rfl, hl3, hat3, hre3, hgb3⟩ := hasl.kidTm hakl (i := 0) zO0 zO0; have ho3 := hre3.one; obtain ⟨b5, o5, q5, d5, rfl, hat5, hre5, hgb5⟩ := htS.kidTy htL (i := i) zO0 zO0; obtain ⟨b7, o7, q7, d7, rfl, hat7, hre7, hgb7⟩ := hfS.kidTy hfL (i := i) zO0 zO0; obtain ⟨x1, x2, x3, x4, x5, x6, x7, x8, x9, rfl⟩ := nine hl3; refine zdd D9 rfl ?_)
 refine xx10 0 1 2 3 4 5 8 9 10 11 ?_
 refine aP 12 rfl (B2 (j := i) rfl rfl rfl zO0) rfl ?_
 refine aL 13 rfl (A3 rfl rfl (hat7 _) rfl) rfl ?_
 refine xx4 14 15 16 17 ?_
 refine aP 18 rfl (B2 (j := i) rfl rfl rfl zO0) rfl ?_
 refine aL 19 rfl (A3 rfl rfl (hat5 _) rfl) rfl ?_
 refine xx2 20 21 ?_
 refine A2 6 ?_
 refine zf3 (fun b95 => ?_)
 exact y26
 refine E1 ?_
 exact y29
 refine K1 ?_
 exact y29
 refine B5 ?_
 refine zf12 ?_
 refine B5 ?_
 focus (by_cases hpx : (ak = 14 ∧ afk = atk ∧ (atk = 4 ∨ atk = 5)); rw [decide_eq_true hpx] at hP; rotate_left; rw [decide_eq_false hpx] at hP; rotate_left; all_goals (refine F0 rfl hP rfl rfl ?_))
 refine B1 ?_
 refine zf0 (fun h184 => ?_) (fun h184 => ?_)
 refine E1 ?_
 refine zf14 ?_
 refine B6 ?_
 (have hq : (ak = 14 ∧ afk = atk ∧ (atk = 4 ∨ atk = 5)) ∧ atk = 5 := ⟨hpx, by omega⟩; have hq1 := h14 hq.1.1; have hq2 := htyA.1 zO0; have hq3 := hfrA.1 zO0; rw [show (k - 11 : Int) = ((i : Nat) : Int) from zO0]; obtain ⟨bq, oq, e3, rfl, hl3, hat3, hre3, hgb3⟩ := hasl.kidTm hakl (i := 0) zO0 zO0; have ho3 := hre3.one; obtain ⟨b5, o5, q5, d5, rfl, hat5, hre5, hgb5⟩ := htS.kidTy htL (i := i) zO0 zO0; obtain ⟨b7, o7, q7, d7, rfl, hat7, hre7, hgb7⟩ := hfS.kidTy hfL (i := i) zO0 zO0; obtain ⟨x1, x2, x3, x4, x5, x6, x7, x8, x9, rfl⟩ := nine hl3; refine zdd D9 rfl ?_)
 refine xx10 0 1 2 3 4 5 8 9 10 11 ?_
 refine aP 12 rfl (B2 (j := i) rfl rfl rfl zO0) rfl ?_
 refine aL 13 rfl (A3 rfl rfl (hat7 _) rfl) rfl ?_
 refine xx4 14 15 16 17 ?_
 refine aP 18 rfl (B2 (j := i) rfl rfl rfl zO0) rfl ?_
 refine aL 19 rfl (A3 rfl rfl (hat5 _) rfl) rfl ?_
 refine xx2 20 21 ?_
 refine A2 6 ?_
 refine zf3 (fun b221 => ?_)
 exact y26
 refine E1 ?_
 exact y29
 refine K1 ?_
 exact y29
theorem B1z {t : Tm} (h : inj t = true) : t.k = 14 := by
 unfold inj at h
 simp only [Bool.and_eq_true, decide_eq_true_eq] at h
 exact h.1.1
variable {t : Ty}
theorem B69 {u : Ty} (h : U7 t = true) (h' : U7 u = true) : N1 t u = decide (t.k = u.k) := by
 have e1 := B0Y h
 have e2 := B0Y h'
 by_cases hk : t.k = u.k
 ·rw [decide_eq_true hk, A0M, e1, e2]
  unfold A0n; rw [hk]
 ·rw [decide_eq_false hk]
  cases hs : N1 t u with
  | false => rfl
  | true => exact absurd (congrArg Ty.k ((A0M _ _).1 hs)) hk
theorem B1A {t : Tm} (h : inj t = true) : U7 t.fr = true := by
 unfold inj at h
 rw [Bool.and_eq_true] at h
 exact h.2
theorem B7a (a : Tm) (nm : ByteArray) (num : Int) (ty fr : Ty) (lb : Int) (G : IM) (cells : List Value) (hca : cv a) (hlb9 : -99 ≤ lb ∧ lb ≤ 99) (hr : B7 G (.mk 14 nm num ty fr lb [a]) cells) : Fn prog 206 [.agg ⟨cells⟩] [] G (S2 (A0o 14 ty fr lb [a])) := by
 have hji := @B1A a
 have hjk := @B1z a
 obtain ⟨ak, anm, anum, ⟨atk, atks⟩, ⟨afk, afks⟩, alb, aks⟩ := a
 obtain ⟨hN, hkk⟩ := hca.node
 have hops := hN.ops
 have hbl := hN.lbB
 have htyA := hN.tyA
 have hfrA := hN.frA
 rw [H8] at htyA hfrA
 have h14 : ak = 14 → aks.length = 1 := fun h => by rw [h] at hops; have : E4 14 = 1 := rfl; omega
 obtain ⟨tk, tks⟩ := ty
 obtain ⟨fk, fks⟩ := fr
 obtain ⟨pt, ct, pf, cf, p, c, es, rfl, hk, hnum, hlb, hty, hfr, hsl, hkl⟩ := hr.open9
 obtain ⟨bx, ox, e0, rfl, hl0, hat0, hre0, hgb0⟩ := hsl.kidTm hkl (i := 0) zP0 zP0
 replace hre0 : B7 G (Tm.mk ak anm anum (.mk atk atks) (.mk afk afks) alb aks) e0 := hre0
 have hP : Fn prog 97 [.agg ⟨e0⟩] [] G (I1 (.bool (decide (ak = 14 ∧ afk = atk ∧ (atk = 4 ∨ atk = 5)))) G) := A3l _ G _ hre0
 have hI := A4R _ G _ hre0
 have ho0 := hre0.one
 obtain ⟨apt, act, apf, acf, ap, ac, aes, rfl, hak, hanum, halb, haty, hafr, hasl, hakl⟩ := hre0.open9
 have hfk64 : F8 fk := by obtain ⟨_, _, _, _, h, _⟩ := hfr.open; exact h
 have htk64 : F8 tk := by obtain ⟨_, _, _, _, h, _⟩ := hty.open; exact h
 obtain ⟨tes, htS, htL⟩ := haty.kids
 obtain ⟨fes, hfS, hfL⟩ := hafr.kids
 simp only [Ty.ks] at htS htL hfS hfL
 obtain ⟨J, hJ⟩ : ∃ J, inj (Tm.mk ak anm anum (.mk atk atks) (.mk afk afks) alb aks) = J := ⟨_, rfl⟩
 obtain ⟨D, hD⟩ : ∃ D, U7 (.mk tk tks) = D := ⟨_, rfl⟩
 have hGr := B0R _ G _ hty
 rw [hD] at hGr
 rw [hJ] at hI hji hjk
 have hR : A0o 14 (.mk tk tks) (.mk fk fks) lb [Tm.mk ak anm anum (.mk atk atks) (.mk afk afks) alb aks] = (if fk = tk then (Tm.mk ak anm anum (.mk atk atks) (.mk afk afks) alb aks, 1, 0)
   else if tk = 1 then (O1 (O1 (Tm.mk ak anm anum (.mk atk atks) (.mk afk afks) alb aks) (.mk fk fks) (mGk fk) lb) (mGk fk) (.mk tk tks) lb, 1, 0)
   else if D = false then (O1 (O1 (Tm.mk ak anm anum (.mk atk atks) (.mk afk afks) alb aks) (.mk fk fks) (mGk tk) lb) (mGk tk) (.mk tk tks) lb, 1, 0)
   else if J = false then V6
   else if afk = tk then (kd aks 0, 1, 0)
   else (L7, 2, lb)) := by
  rw [← hJ, ← hD]; rfl
 rw [hR]
 have hSm : J = true → D = true → N1 (.mk afk afks) (.mk tk tks) = decide (afk = tk) := fun h1 h2 => B69 (hji h1) (hD.trans h2)
 have hTS := A7I (.mk afk afks) (.mk tk tks) G _ _ hafr hty
 refine C4 func206 rfl ntmps206 results206 rfl ?_
 intro w0
 refine A5 ?_
 refine zf2 (fun b3 => ?_)
 refine zf1 (fun b4 => ?_)
 refine D4 ?_
 refine zf18 ?_
 refine sL (A3 rfl rfl (hat0 _) rfl) rfl rfl ?_
 refine zf1 (fun b15 => ?_)
 refine B6 ?_
 refine C2 ?_
 refine B6 ?_
 refine zf11 ?_
 refine A0H ?_
 refine zf11 ?_
 refine B5 ?_
 refine zf11 ?_
 refine A2G ?_
 refine sP (A2D rfl rfl zO0) rfl rfl ?_
 refine P3 ?_
 refine zf0 (fun h81 => ?_) (fun h81 => ?_)
 refine K1 ?_
 refine zf15 ?_
 (exact S2.mk (by rw [if_pos zO0]) hre0)
 refine E1 ?_
 refine zf0 (fun h108 => ?_) (fun h108 => ?_)
 refine E1 ?_
 (refine H6 rfl (A4Q fk G hfk64) rfl rfl (fun u G1 hle1 hh => ?_); obtain ⟨gc, rfl, hrg⟩ := hh; obtain ⟨pg, cg, eg, rfl, _⟩ := hrg.open; have hgk : tk = 1 := zO0; replace hre0 := hre0.mono hle1; replace hfr := hfr.mono hle1; replace hty := hty.mono hle1)
 refine zf1 (fun b119 => ?_)
 refine B6 ?_
 refine zf6 ?_
 refine aL 0 rfl (A3 rfl rfl (B9 zG0) rfl) rfl ?_
 refine aL 3 rfl (A3 rfl rfl (B9 zG0) rfl) rfl ?_
 refine aL 7 rfl (A3 rfl rfl (B9 zG0) rfl) rfl ?_
 refine xx8 1 2 4 5 8 9 10 11 ?_
 refine A2 6 ?_
 (refine E6 rfl rfl (A1T _ (.mk fk fks) _ lb G1 _ _ _ ⟨by omega, by omega⟩ hre0 hfr hrg) rfl rfl rfl (fun u G3 hle3 hh => ?_); obtain ⟨wc, rfl, hrw⟩ := hh; have hwl := hrw.len; have hwo := hrw.one; replace hrg := hrg.mono hle3; replace hty := hty.mono hle3)
 refine A2 12 ?_
 (refine E6 rfl rfl (A1T _ _ (.mk tk tks) lb G3 _ _ _ ⟨by omega, by omega⟩ hrw hrg hty) rfl rfl rfl (fun u G4 hle4 hh => ?_); obtain ⟨xc, rfl, hrx⟩ := hh; have hxl := hrx.len; have hxo := hrx.one)
 refine A2 13 ?_
 (refine oS rfl rfl rfl rfl hxl hxo rfl rfl ?_ (hu := by exact E0 hxl.symm))
 refine xx2 14 15 ?_
 refine B1 ?_
 refine E5 (rC rfl (A3 rfl rfl (B9 zG0) hxl)) (rT rfl) (rT rfl) ?_
 (exact S2.mk (by rw [if_neg zO0, if_pos zO0]) hrx)
 refine D4 ?_
 focus (cases hDD : D; all_goals (rw [hDD] at hGr; refine F0 rfl hGr rfl rfl ?_))
 refine I9 ?_
 (refine H6 rfl (A4Q tk G htk64) rfl rfl (fun u G1 hle1 hh => ?_); obtain ⟨gc, rfl, hrg⟩ := hh; obtain ⟨pg, cg, eg, rfl, _⟩ := hrg.open; replace hre0 := hre0.mono hle1; replace hfr := hfr.mono hle1; replace hty := hty.mono hle1)
 refine zf1 (fun b171 => ?_)
 refine B6 ?_
 refine zf6 ?_
 refine aL 0 rfl (A3 rfl rfl (B9 zG0) rfl) rfl ?_
 refine aL 3 rfl (A3 rfl rfl (B9 zG0) rfl) rfl ?_
 refine aL 7 rfl (A3 rfl rfl (B9 zG0) rfl) rfl ?_
 refine xx8 1 2 4 5 8 9 10 11 ?_
 refine A2 6 ?_
 (refine E6 rfl rfl (A1T _ (.mk fk fks) _ lb G1 _ _ _ ⟨by omega, by omega⟩ hre0 hfr hrg) rfl rfl rfl (fun u G3 hle3 hh => ?_); obtain ⟨wc, rfl, hrw⟩ := hh; have hwl := hrw.len; have hwo := hrw.one; replace hrg := hrg.mono hle3; replace hty := hty.mono hle3)
 refine A2 12 ?_
 (refine E6 rfl rfl (A1T _ _ (.mk tk tks) lb G3 _ _ _ ⟨by omega, by omega⟩ hrw hrg hty) rfl rfl rfl (fun u G4 hle4 hh => ?_); obtain ⟨xc, rfl, hrx⟩ := hh; have hxl := hrx.len; have hxo := hrx.one)
 refine A2 13 ?_
 (refine oS rfl rfl rfl rfl hxl hxo rfl rfl ?_ (hu := by exact E0 hxl.symm))
 refine xx2 14 15 ?_
 refine B1 ?_
 refine E5 (rC rfl (A3 rfl rfl (B9 zG0) hxl)) (rT rfl) (rT rfl) ?_
 (exact S2.mk (by rw [if_neg zO0, if_neg zO0, if_pos rfl]) hrx)
 refine D4 ?_
 focus (cases hJJ : J; all_goals (rw [hJJ] at hI; refine F0 rfl hI rfl rfl ?_))
 refine L9 ?_
 refine zf15 ?_
 (exact S2.mk (by rw [if_neg zO0, if_neg zO0, if_neg zN0, if_pos rfl]; rfl) (Q3 _))
 refine J3 ?_
 focus (rw [hSm hJJ hDD] at hTS; by_cases hfk : afk = tk; rw [decide_eq_true hfk] at hTS; rotate_left; rw [decide_eq_false hfk] at hTS; rotate_left; all_goals (refine F0 rfl hTS rfl rfl ?_))
 refine D4 ?_
 (have hq1 := h14 (hjk zL0); obtain ⟨bq, oq, e3, rfl, hl3, hat3, hre3, hgb3⟩ := hasl.kidTm hakl (i := 0) zO0 zO0; have ho3 := hre3.one; refine sP (B2 (j := 0) rfl rfl rfl zO0) rfl rfl ?_)
 refine sL (A3 rfl rfl (hat3 _) hl3) rfl rfl ?_
 refine sS rfl rfl rfl hl3 ho3 rfl ?_ (hu := by exact E0 hl3.symm)
 refine B8 ?_
 refine E5 (rC rfl (A3 rfl rfl (B9 zG0) hl3)) (rT rfl) (rT rfl) ?_
 (exact S2.mk (by rw [if_neg zO0, if_neg zO0, if_neg zN0, if_neg zN0, if_pos hfk, A4S zO0]) hre3)
 refine D4 ?_
 refine zf6 ?_
 refine xx3 0 1 2 ?_
 refine A2 3 ?_
 refine E9 rfl ?_
 refine xx2 4 5 ?_
 refine B5 ?_
 refine zf15 ?_
 (exact S2.mk (by rw [if_neg zO0, if_neg zO0, if_neg zN0, if_neg zN0, if_neg hfk]) (Q3 _))
theorem B1B (k : Int) (a b : Tm) (nm : ByteArray) (num : Int) (ty fr : Ty) (lb : Int) (G : IM) (cells : List Value) (hk1 : k = 7 ∨ k = 8) (hca : cv a) (hr : B7 G (.mk k nm num ty fr lb [a, b]) cells) : Fn prog 206 [.agg ⟨cells⟩] [] G (S2 (A0o k ty fr lb [a, b])) := by
 have hR : A0o k ty fr lb [a, b] = V6 := by unfold A0o; rw [if_neg zO0, if_neg zO0, if_neg zO0]
 rw [hR]
 obtain ⟨ak, anm, anum, ⟨atk, atks⟩, ⟨afk, afks⟩, alb, aks⟩ := a
 obtain ⟨hN, hkk⟩ := hca.node
 have hops := hN.ops
 have hbl := hN.lbB
 have htyA := hN.tyA
 have hfrA := hN.frA
 rw [H8] at htyA hfrA
 have h14 : ak = 14 → aks.length = 1 := fun h => by rw [h] at hops; have : E4 14 = 1 := rfl; omega
 obtain ⟨tk, tks⟩ := ty
 obtain ⟨fk, fks⟩ := fr
 obtain ⟨pt, ct, pf, cf, p, c, es, rfl, hk, hnum, hlb, hty, hfr, hsl, hkl⟩ := hr.open9
 obtain ⟨bx, ox, e0, rfl, hl0, hat0, hre0, hgb0⟩ := hsl.kidTm hkl (i := 0) zP0 zP0
 replace hre0 : B7 G (Tm.mk ak anm anum (.mk atk atks) (.mk afk afks) alb aks) e0 := hre0
 have hP : Fn prog 97 [.agg ⟨e0⟩] [] G (I1 (.bool (decide (ak = 14 ∧ afk = atk ∧ (atk = 4 ∨ atk = 5)))) G) := A3l _ G _ hre0
 have hI := A4R _ G _ hre0
 have ho0 := hre0.one
 obtain ⟨apt, act, apf, acf, ap, ac, aes, rfl, hak, hanum, halb, haty, hafr, hasl, hakl⟩ := hre0.open9
 have hfk64 : F8 fk := by obtain ⟨_, _, _, _, h, _⟩ := hfr.open; exact h
 have htk64 : F8 tk := by obtain ⟨_, _, _, _, h, _⟩ := hty.open; exact h
 obtain ⟨tes, htS, htL⟩ := haty.kids
 obtain ⟨fes, hfS, hfL⟩ := hafr.kids
 simp only [Ty.ks] at htS htL hfS hfL
 refine C4 func206 rfl ntmps206 results206 rfl ?_
 intro w0
 exact y28
theorem B7b (a b c0 : Tm) (nm : ByteArray) (num : Int) (ty fr : Ty) (lb : Int) (G : IM) (cells : List Value) (hca : cv a) (hr : B7 G (.mk 9 nm num ty fr lb [a, b, c0]) cells) : Fn prog 206 [.agg ⟨cells⟩] [] G (S2 (A0o 9 ty fr lb [a, b, c0])) := by
 have hR : A0o 9 ty fr lb [a, b, c0] = V6 := by unfold A0o; rw [if_neg zO0, if_neg zO0, if_neg zO0]
 rw [hR]
 obtain ⟨ak, anm, anum, ⟨atk, atks⟩, ⟨afk, afks⟩, alb, aks⟩ := a
 obtain ⟨hN, hkk⟩ := hca.node
 have hops := hN.ops
 have hbl := hN.lbB
 have htyA := hN.tyA
 have hfrA := hN.frA
 rw [H8] at htyA hfrA
 have h14 : ak = 14 → aks.length = 1 := fun h => by rw [h] at hops; have : E4 14 = 1 := rfl; omega
 obtain ⟨tk, tks⟩ := ty
 obtain ⟨fk, fks⟩ := fr
 obtain ⟨pt, ct, pf, cf, p, c, es, rfl, hk, hnum, hlb, hty, hfr, hsl, hkl⟩ := hr.open9
 obtain ⟨bx, ox, e0, rfl, hl0, hat0, hre0, hgb0⟩ := hsl.kidTm hkl (i := 0) zP0 zP0
 replace hre0 : B7 G (Tm.mk ak anm anum (.mk atk atks) (.mk afk afks) alb aks) e0 := hre0
 have hP : Fn prog 97 [.agg ⟨e0⟩] [] G (I1 (.bool (decide (ak = 14 ∧ afk = atk ∧ (atk = 4 ∨ atk = 5)))) G) := A3l _ G _ hre0
 have hI := A4R _ G _ hre0
 have ho0 := hre0.one
 obtain ⟨apt, act, apf, acf, ap, ac, aes, rfl, hak, hanum, halb, haty, hafr, hasl, hakl⟩ := hre0.open9
 have hfk64 : F8 fk := by obtain ⟨_, _, _, _, h, _⟩ := hfr.open; exact h
 have htk64 : F8 tk := by obtain ⟨_, _, _, _, h, _⟩ := hty.open; exact h
 obtain ⟨tes, htS, htL⟩ := haty.kids
 obtain ⟨fes, hfS, hfL⟩ := hafr.kids
 simp only [Ty.ks] at htS htL hfS hfL
 refine C4 func206 rfl ntmps206 results206 rfl ?_
 intro w0
 exact y28
theorem B7c (nm : ByteArray) (num : Int) (ty fr : Ty) (lb : Int) (G : IM) (cells : List Value) (hr : B7 G (.mk 1 nm num ty fr lb []) cells) : Fn prog 76 [.agg ⟨cells⟩] [] G (S1 (A0b 1 [])) := by
 rw [show A0b 1 [] = none from rfl]
 obtain ⟨tk, tks⟩ := ty
 obtain ⟨fk, fks⟩ := fr
 obtain ⟨pt, ct, pf, cf, p, c, es, rfl, hk, hnum, hlb, hty, hfr, hsl, hkl⟩ := hr.open9
 have hL : ([] : List Tm).length = 0 := rfl
 refine C4 func76 rfl ntmps76 results76 rfl ?_
 intro w0
 refine A5 ?_
 refine zf2 (fun b3 => ?_)
 refine zf1 (fun b4 => ?_)
 refine A7 ?_
 refine zf1 (fun b11 => ?_)
 refine E1 ?_
 refine sP (B4u rfl rfl zO0) rfl rfl ?_
 refine P3 ?_
 exact y27
theorem B7d (a : Tm) (nm : ByteArray) (num : Int) (ty fr : Ty) (lb : Int) (G : IM) (cells : List Value) (hr : B7 G (.mk 14 nm num ty fr lb [a]) cells) : Fn prog 76 [.agg ⟨cells⟩] [] G (S1 (A0b 14 [a])) := by
 rw [show A0b 14 [a] = none from rfl]
 obtain ⟨tk, tks⟩ := ty
 obtain ⟨fk, fks⟩ := fr
 obtain ⟨pt, ct, pf, cf, p, c, es, rfl, hk, hnum, hlb, hty, hfr, hsl, hkl⟩ := hr.open9
 obtain ⟨bx, ox, e0, rfl, hl0, hat0, hre0, hgb0⟩ := hsl.kidTm hkl (i := 0) zP0 zP0
 have ho0 : e0.all (·.oneCell') = true := (show B7 G a e0 from hre0).one
 refine C4 func76 rfl ntmps76 results76 rfl ?_
 intro w0
 refine A5 ?_
 refine zf2 (fun b3 => ?_)
 refine zf1 (fun b4 => ?_)
 refine A7 ?_
 refine zf1 (fun b11 => ?_)
 refine E1 ?_
 refine zf17 (fun h21 => ?_) (fun h21 => ?_)
 refine A7 ?_
 refine zf18 ?_
 refine sL (A3 rfl rfl (hat0 _) hl0) rfl rfl ?_
 refine sS rfl rfl rfl hl0 ho0 rfl ?_ (hu := by exact E0 hl0.symm)
 refine E1 ?_
 exact y27
 refine P3 ?_
 exact y27
theorem ks1 {ks : List Tm} (h : ks.length = 1) : ∃ a, ks = [a] := by
 match ks, h with
 | [a], _ => exact ⟨a, rfl⟩
theorem ks2 {ks : List Tm} (h : ks.length = 2) : ∃ a b, ks = [a, b] := by
 match ks, h with
 | [a, b], _ => exact ⟨a, b, rfl⟩
theorem ks3 {ks : List Tm} (h : ks.length = 3) : ∃ a b c, ks = [a, b, c] := by
 match ks, h with
 | [a, b, c], _ => exact ⟨a, b, c, rfl⟩
theorem B7e {k : Int} {nm : ByteArray} {num : Int} {ty fr : Ty} {lb : Int} {ks : List Tm} {G : IM} {cells : List Value} (hc : cv (.mk k nm num ty fr lb ks)) (hk : k = 1 ∨ k = 6 ∨ k = 7 ∨ k = 8 ∨ k = 9 ∨ k = 11 ∨ k = 12 ∨ k = 14) (hr : B7 G (.mk k nm num ty fr lb ks) cells) :
  Fn prog 76 [.agg ⟨cells⟩] [] G (S1 (A0b k ks)) := by
 obtain ⟨hN, hkk⟩ := hc.node
 have hops := hN.ops
 rcases hk with rfl | rfl | rfl | rfl | rfl | rfl | rfl | rfl
 ·obtain rfl : ks = [] := List.length_eq_zero_iff.1 (by have : E4 1 = 0 := rfl; omega)
  exact B7c _ _ _ _ _ _ _ hr
 ·obtain ⟨a, b, rfl⟩ := ks2 (ks := ks) (by have : E4 6 = 2 := rfl; omega)
  exact B6I a b _ _ _ _ _ _ _ (hkk a zP0) hr
 ·obtain ⟨a, b, rfl⟩ := ks2 (ks := ks) (by have : E4 7 = 2 := rfl; omega)
  exact B0W 7 a b _ _ _ _ _ _ _ (.inl rfl) (hkk a zP0) (hkk b zP0) hr
 ·obtain ⟨a, b, rfl⟩ := ks2 (ks := ks) (by have : E4 8 = 2 := rfl; omega)
  exact B0W 8 a b _ _ _ _ _ _ _ (.inr rfl) (hkk a zP0) (hkk b zP0) hr
 ·obtain ⟨a, b, c, rfl⟩ := ks3 (ks := ks) (by have : E4 9 = 3 := rfl; omega)
  exact B6J a b c _ _ _ _ _ _ _ hr
 ·obtain ⟨a, rfl⟩ := ks1 (ks := ks) (by have : E4 11 = 1 := rfl; omega)
  exact B0X 11 a _ _ _ _ _ _ _ (.inl rfl) (hkk a zP0) hr
 ·obtain ⟨a, rfl⟩ := ks1 (ks := ks) (by have : E4 12 = 1 := rfl; omega)
  exact B0X 12 a _ _ _ _ _ _ _ (.inr rfl) (hkk a zP0) hr
 ·obtain ⟨a, rfl⟩ := ks1 (ks := ks) (by have : E4 14 = 1 := rfl; omega)
  exact B7d a _ _ _ _ _ _ _ hr
theorem B7f {k : Int} {nm : ByteArray} {num : Int} {ty fr : Ty} {lb : Int} {ks : List Tm} {G : IM} {cells : List Value} (hc : cv (.mk k nm num ty fr lb ks)) (hk : k = 6 ∨ k = 7 ∨ k = 8 ∨ k = 9 ∨ k = 11 ∨ k = 12 ∨ k = 14) (hr : B7 G (.mk k nm num ty fr lb ks) cells) :
  Fn prog 206 [.agg ⟨cells⟩] [] G (S2 (A0o k ty fr lb ks)) := by
 obtain ⟨hN, hkk⟩ := hc.node
 have hops := hN.ops
 rcases hk with rfl | rfl | rfl | rfl | rfl | rfl | rfl
 ·obtain ⟨a, b, rfl⟩ := ks2 (ks := ks) (by have : E4 6 = 2 := rfl; omega)
  exact B6L a b _ _ _ _ _ _ _ (hkk a zP0) hr
 ·obtain ⟨a, b, rfl⟩ := ks2 (ks := ks) (by have : E4 7 = 2 := rfl; omega)
  exact B1B 7 a b _ _ _ _ _ _ _ (.inl rfl) (hkk a zP0) hr
 ·obtain ⟨a, b, rfl⟩ := ks2 (ks := ks) (by have : E4 8 = 2 := rfl; omega)
  exact B1B 8 a b _ _ _ _ _ _ _ (.inr rfl) (hkk a zP0) hr
 ·obtain ⟨a, b, c, rfl⟩ := ks3 (ks := ks) (by have : E4 9 = 3 := rfl; omega)
  exact B7b a b c _ _ _ _ _ _ _ (hkk a zP0) hr
 ·obtain ⟨a, rfl⟩ := ks1 (ks := ks) (by have : E4 11 = 1 := rfl; omega)
  exact B1y 11 a _ _ _ _ _ _ _ (.inl rfl) (hkk a zP0) hr
 ·obtain ⟨a, rfl⟩ := ks1 (ks := ks) (by have : E4 12 = 1 := rfl; omega)
  exact B1y 12 a _ _ _ _ _ _ _ (.inr rfl) (hkk a zP0) hr
 ·obtain ⟨a, rfl⟩ := ks1 (ks := ks) (by have : E4 14 = 1 := rfl; omega)
  exact B7a a _ _ _ _ _ _ _ (hkk a zP0) hN.lbB hr
theorem A6e (n : Nat) (t : Tm) (ts : List Tm) : X5 (n + 1) (t :: ts) = if H5 t = true then (match X5 n ts with | some (us, c, l) => some (t :: us, c, l) | none => none) else some ((I8 t).1 :: ts, (I8 t).2.1, (I8 t).2.2) := by
 rw [X5]; rfl
theorem A7X : ∀ (n : Nat) (ks : List Tm), (∀ i, i < n → (h : i < ks.length) → H5 ks[i] = true) → X5 n ks = none
 | n, [], _ => by cases n <;> rfl
 | 0, t :: ts, _ => rfl
 | n + 1, t :: ts, h => by
  rw [A6e, if_pos (show H5 t = true from h 0 zO0 zP0), A7X n ts (fun i hi hl => h (i + 1) zO0 (by simpa using hl))]
theorem B1C : ∀ (n : Nat) (ks : List Tm) (i : Nat) (hi : i < ks.length), i < n → (∀ j, j < i → (h : j < ks.length) → H5 ks[j] = true) → H5 ks[i] = false → X5 n ks = some (ks.set i (I8 ks[i]).1, (I8 ks[i]).2.1, (I8 ks[i]).2.2)
 | n, [], i, hi, _, _, _ => by simp at hi
 | 0, t :: ts, i, _, hn, _, _ => by omega
 | n + 1, t :: ts, 0, _, _, _, hv => by
  rw [A6e, if_neg (by rw [show H5 t = false from hv]; decide)]; rfl
 | n + 1, t :: ts, i + 1, hi, hn, hj, hv => by
  rw [A6e, if_pos (show H5 t = true from hj 0 zO0 zP0), B1C n ts i (by simpa using hi) zO0 (fun j hji hl => hj (j + 1) zO0 (by simpa using hl)) hv]
  rfl
theorem B7g {k : Int} {ty fr : Ty} {lb : Int} {ks : List Tm} (h : (W4 k ty fr lb ks).2.1 = 1) : (W4 k ty fr lb ks).2.2 = 0 := by
 revert h
 unfold W4 V6
 repeat' split
 all_goals first | (intro _; rfl) | (intro h; exfalso; revert h; simp)
theorem B7h {k : Int} {nm : ByteArray} {num : Int} {ty fr : Ty} {lb : Int} {ks : List Tm} (h : (I8 (.mk k nm num ty fr lb ks)).2.1 = 1) : (I8 (.mk k nm num ty fr lb ks)).2.2 = 0 := by
 rw [I8] at h ⊢
 cases hL : X5 (if k = 9 then 1 else ks.length) ks with
 | none => rw [hL] at h; exact B7g h
 | some p =>
  obtain ⟨us, c, l⟩ := p
  rw [hL] at h
  simp only at h ⊢
  by_cases hc : c = 1
  ·rw [if_pos hc]
  ·rw [if_neg hc] at h; exact absurd h hc
theorem B7i {t : Tm} (h : (I8 t).2.1 = 1) : (I8 t).2.2 = 0 := by cases t; exact B7h h
theorem B1D {k : Int} {nm : ByteArray} {num : Int} {ty fr : Ty} {lb : Int} {ks : List Tm} {i : Nat} (hi : i < ks.length) (hn : i < (if k = 9 then 1 else ks.length)) (hj : ∀ j, j < i → (h : j < ks.length) → H5 ks[j] = true) (hv : H5 ks[i] = false) :
  (I8 (.mk k nm num ty fr lb ks)).2.1 = (I8 ks[i]).2.1 ∧ (I8 (.mk k nm num ty fr lb ks)).2.2 = (I8 ks[i]).2.2 ∧ ((I8 ks[i]).2.1 = 1 → (I8 (.mk k nm num ty fr lb ks)).1 = .mk k nm num ty fr lb (ks.set i (I8 ks[i]).1)) := by
 rw [I8, B1C _ ks i hi hn hj hv]
 simp only
 by_cases hc : (I8 ks[i]).2.1 = 1
 ·rw [if_pos hc]
  exact ⟨hc.symm, (B7i hc).symm, fun _ => rfl⟩
 ·rw [if_neg hc]
  exact ⟨rfl, rfl, fun h => absurd h hc⟩
theorem B7j {k : Int} {nm : ByteArray} {num : Int} {ty fr : Ty} {lb : Int} {ks : List Tm} (h : ∀ i, i < (if k = 9 then 1 else ks.length) → (hl : i < ks.length) → H5 ks[i] = true) : I8 (.mk k nm num ty fr lb ks) = match A0b k ks with | some u => (u, 1, 0) | none => A0o k ty fr lb ks := by
 rw [I8, A7X _ _ h]
 exact B6K k ty fr lb ks
theorem A42 {k : Int} (h : 0 ≤ E4 k) : 1 ≤ k ∧ k ≤ 14 := by
 by_cases hk : 1 ≤ k ∧ k ≤ 14
 ·exact hk
 ·rw [A5z hk] at h; omega
theorem B1E {k : Int} {nm : ByteArray} {num : Int} {ty fr : Ty} {lb : Int} {ks : List Tm} (hc : cv (.mk k nm num ty fr lb ks)) (hv : H5 (.mk k nm num ty fr lb ks) = false) (h : ∀ i, i < (if k = 9 then 1 else ks.length) → (hl : i < ks.length) → H5 ks[i] = true) : k = 1 ∨ k = 6 ∨ k = 7 ∨ k = 8 ∨ k = 9 ∨ k = 11 ∨ k = 12 ∨ k = 14 := by
 obtain ⟨hN, _⟩ := hc.node
 have hr := A42 (by rw [hN.ops]; omega : 0 ≤ E4 k)
 have h13 := hN.ne
 have h25 : ¬(k = 2 ∨ k = 3 ∨ k = 4 ∨ k = 5) := by
  intro hk
  rw [H5, if_neg zO0] at hv
  rw [decide_eq_true hk] at hv
  cases hv
 have h10 : k ≠ 10 := by
  rintro rfl
  rw [A53 (.inl rfl), List.all_eq_false] at hv
  obtain ⟨t, ht, hn⟩ := hv
  obtain ⟨i, hi, rfl⟩ := List.mem_iff_getElem.1 ht
  exact hn (h i (by rw [if_neg zN0]; exact hi) hi)
 omega
theorem B7k (t : Tm) (G : IM) (cells : List Value) (hr : B7 G t cells) : Fn prog 204 [.agg ⟨cells⟩] [] G (I1 (.int .i64 ((if t.k = 9 then 1 else t.ks.length : Nat) : Int)) G) := by
 obtain ⟨k, nm, num, ⟨tk, tks⟩, ⟨fk, fks⟩, lb, ks⟩ := t
 obtain ⟨pt, ct, pf, cf, p, c, es, rfl, hk, hnum, hlb, hty, hfr, hsl, hkl⟩ := hr.open9
 rw [show (Tm.mk k nm num (.mk tk tks) (.mk fk fks) lb ks).k = k from rfl, show (Tm.mk k nm num (.mk tk tks) (.mk fk fks) lb ks).ks = ks from rfl]
 refine C4 func204 rfl ntmps204 results204 rfl ?_
 intro w0
 refine A5 ?_
 refine zf2 (fun b3 => ?_)
 refine D4 ?_
 refine zf0 (fun h12 => ?_) (fun h12 => ?_)
 refine J3 ?_
 (exact ⟨rfl, by rw [if_pos zO0]; rfl, rfl⟩)
 refine K1 ?_
 (exact ⟨rfl, by rw [if_neg zO0], rfl⟩)
theorem B7l {k : Int} (h8 : k = 1 ∨ k = 6 ∨ k = 7 ∨ k = 8 ∨ k = 9 ∨ k = 11 ∨ k = 12 ∨ k = 14) (h : E4 k = 0) : k = 1 := by
 rcases h8 with rfl | rfl | rfl | rfl | rfl | rfl | rfl | rfl
 ·rfl
 all_goals exact absurd h zN0
variable {c l : Int} {cells : List Value} {u : Tm} {G : IM}
theorem B1F {r r' : Stp} (h1 : r.2.1 = c) (h2 : r.2.2 = l) (hr : B7 G u cells) (h3 : c = 1 → u = r.1) : S2 r G (.tuple ⟨[.agg ⟨cells⟩, .int .i64 c, .int .i64 l]⟩) [] := by
 subst h1 h2; exact ⟨rfl, u, cells, rfl, hr, h3⟩
theorem B7m : ∀ (t : Tm) (G : IM) (cells : List Value), cv t → H5 t = false → B7 G t cells → Fn prog 189 [.agg ⟨cells⟩] [] G (S2 (I8 t)) := by
 refine Tm.ind fun k nm num ty fr lb ks ih G cells hc hv hr => ?_
 have hr0 := hr
 have hN := hc.node.1
 have hkk := hc.node.2
 have hsm := A51 _ hc
 obtain ⟨_, _, _, _, hksm⟩ := A4P.1 hsm
 have hops := hN.ops
 have hle3 := A1G k
 have hkd := @B1E k nm num ty fr lb ks hc hv
 have hrd := @B7j k nm num ty fr lb ks
 have hkidS := fun (i : Nat) => @B1D k nm num ty fr lb ks i
 have hRA := fun h => @B7e k nm num ty fr lb ks G cells hc h hr
 have hCA := fun h (G1 : IM) (hle : C3 G G1) => @B7f k nm num ty fr lb ks G1 cells hc h (hr.mono hle)
 have hCt := B7k _ G _ hr
 rw [show (Tm.mk k nm num ty fr lb ks).k = k from rfl, show (Tm.mk k nm num ty fr lb ks).ks = ks from rfl] at hCt
 obtain ⟨C, hC⟩ : ∃ C : Nat, (if k = 9 then 1 else ks.length : Nat) = C := ⟨_, rfl⟩
 rw [hC] at hCt hkd hrd
 have hkidS' := fun (i : Nat) (hi : i < ks.length) (hn : i < C) => hkidS i hi (by rw [hC]; exact hn)
 have hC9 : C ≤ ks.length := by rw [← hC]; split; (have : E4 k = 3 := by (rename_i h9; rw [h9]; rfl)); omega; omega
 have hrul := hkd
 obtain ⟨tk, tks⟩ := ty
 obtain ⟨fk, fks⟩ := fr
 obtain ⟨pt, ct, pf, cf, p, c, es, rfl, hk, hnum, hlb, hty, hfr, hsl, hkl⟩ := hr.open9
 have hn := hsl.le
 have hnc := hsl.sl.2.1
 refine C4 func189 rfl ntmps189 results189 rfl ?_
 intro w0
 refine A5 ?_
 refine zf2 (fun b3 => ?_)
 refine zf1 (fun b4 => ?_)
 refine A7 ?_
 refine zf6 ?_
 refine xx4 0 1 2 6 ?_
 refine A2 3 ?_
 refine M9 rfl rfl (hCt) rfl rfl rfl ?_
 refine aP 4 rfl (A7k (l := C) rfl rfl rfl zO0) rfl ?_
 refine xx1 5 ?_
 refine A5 ?_
 refine C2 ?_
 (refine K2 (fun (i : Nat) => ⟨[(19, .int .i64 (i : Int)), (18, .int .i64 (C : Int)), (17, .slice p C c), (1, .pointer (some ⟨b3, 0, none⟩)), (2, .pointer (some ⟨b4, 0, none⟩))], [.blk b4 zq9, .blk b3 [.int .i64 k, .string nm, .int .i64 num, .int .i64 tk, .slice pt tks.length ct, .int .i64 fk, .slice pf fks.length cf, .int .i64 lb, .slice p ks.length c]], G⟩) (fun i => i ≤ C ∧ ∀ j, j < i → (h : j < ks.length) → H5 ks[j] = true) (fun i => C - i) 0 ?_ ?_ ?_)
 exact E3
 (exact ⟨Nat.zero_le _, fun j hj => absurd hj (Nat.not_lt_zero j)⟩)
 (rintro i ⟨hi, hj⟩)
 refine A5 ?_
 refine zf8 (fun h29 => ?_) (fun h29 => ?_)
 refine B8 ?_
 refine C2 ?_
 refine B5 ?_
 (have hiC : i < C := zO0; obtain ⟨bx, ox, e, rfl, hl, hat, hre, hgb⟩ := hsl.kidTm hkl (i := i) zO0 zO0; have heo := hre.one; have hVi := B0V ks[i] G e hre; refine sP (B2 (j := i) rfl rfl rfl hiC) rfl rfl ?_)
 refine sL (A3 rfl rfl (hat _) hl) rfl rfl ?_
 refine zf1 (fun b43 => ?_)
 refine I0 ?_
 refine sS rfl rfl rfl hl heo rfl ?_ (hu := by exact E0 hl.symm)
 refine B1 ?_
 refine sL (A3 rfl rfl (B9 zG0) hl) rfl rfl ?_
 refine L4 rfl (hVi) rfl rfl (fun h52 => ?_) (fun h52 => ?_)
 refine D4 ?_
 refine zf4 ?_
 refine A5 ?_
 refine J7 (i + 1) ?_ ?_ ?_
 exact E3
 (exact ⟨by omega, fun j hji hl2 => (by by_cases he : j = i; (subst he; assumption); exact hj j zO0 hl2)⟩)
 (show C - (i + 1) < C - i; omega)
 refine B8 ?_
 refine sL (A3 rfl rfl (B9 zG0) hl) rfl rfl ?_
 (have hvF : H5 ks[i] = false := zL0; obtain ⟨hs1, hs2, hs3⟩ := hkidS' i zO0 hiC (fun j hji hl2 => hj j hji hl2) hvF; refine H6 rfl (ih ks[i] (List.getElem_mem zO0) G e (hkk _ (List.getElem_mem zO0)) hvF hre) rfl rfl (fun v G1 hle1 hh => ?_); obtain ⟨u, uc, rfl, hru, hu1⟩ := hh; have hul := hru.len; have huo := hru.one; have hClo := B6N G1 _ ks.length c es (hsl.mono hle1) zO0 zO0)
 refine B6 ?_
 refine zf1 (fun b81 => ?_)
 refine sS rfl rfl rfl hul huo rfl ?_ (hu := by exact E0 hul.symm)
 refine B8 ?_
 refine zf1 (fun b90 => ?_)
 refine B8 ?_
 (refine A2e rfl hClo rfl rfl (fun v98 G98 outs98 hle98 h98 => ?_); obtain ⟨hG, p1, c1, rfl, rfl⟩ := h98; replace hG := hG.symm; subst hG; refine A3j (cs := es.flatten) zB0 zO0 (fun bc Cc hpe hnc1 hcm => ?_); subst hpe)
 replace hru := hru.mono hle98
 refine E1 ?_
 refine sL (A3 rfl rfl (B9 zG0) hul) rfl rfl ?_
 refine sP (B2 (j := i) rfl rfl rfl zO0) rfl rfl ?_
 refine Y2 rfl rfl rfl hul huo rfl zC0 (by exact A3k (by rw [hkl.len]; omega) (fun e he => (hsl.all e he)) hul) ?_
 refine P3 ?_
 (refine A2i (bs := [(bc, (es.set i uc).flatten ++ Cc)]) (Pk.perm zB0) (fun hn2 hd2 hle2 => ?_))
 refine A7 ?_
 refine zf15 ?_
 (have hks2 := H4.set (j := i) ((hkl.mono hle1).mono hle2) (hru.mono hle2); refine B1F (r' := V6) hs1 hs2 (B7.put (us := ks.set i u) (es := es.set i uc) hk hnum hlb ((hty.mono hle1).mono hle2) ((hfr.mono hle1).mono hle2) (by rw [List.length_set]) (D7.of (Sl.of_blk (A := []) (by rw [A0S hks2.all, hks2.len, List.length_set]) zO0 hcm (Wi.in hn2 List.mem_cons_self)) (by rw [hks2.len, List.length_set]) hks2.all (fun e he => by obtain ⟨q, hq⟩ := List.getElem?_of_mem he; exact (hks2.inv hq L7).2.one)) hks2) (fun h1 => by rw [hs3 h1, hu1 h1]))
 refine K7 ?_
 focus (have hall : ∀ i, i < C → (hl : i < ks.length) → H5 ks[i] = true := (fun j hjc hl2 => hj j zO0 hl2); have hk8 := hkd hall; have hrd' := hrd hall; refine H6 rfl (hRA hk8) rfl rfl (fun v G1 hle1 hh => ?_); obtain ⟨u, uc, cc, rfl, hru, hy, hno⟩ := hh; have hul := hru.len; have huo := hru.one; rcases hm : A0b k ks with _ | x; rotate_left; obtain ⟨rfl, rfl⟩ := hy _ hm; rotate_left; obtain rfl := hno hm; rw [hm] at hrd')
 refine B5 ?_
 refine zf1 (fun b149 => ?_)
 refine sS rfl rfl rfl hul huo rfl ?_ (hu := by exact E0 hul.symm)
 refine A7 ?_
 refine zf11 ?_
 refine J3 ?_
 refine zf0 (fun h169 => ?_) (fun h169 => ?_)
 refine K7 ?_
 refine zf15 ?_
 (obtain rfl : k = 1 := B7l hk8 zO0; rw [hrd']; exact S2.mk rfl (Q3 _))
 refine D4 ?_
 (have hk7 : k = 6 ∨ k = 7 ∨ k = 8 ∨ k = 9 ∨ k = 11 ∨ k = 12 ∨ k = 14 := (by rcases hk8 with h1 | hh; (rw [h1] at hops; have : E4 1 = 0 := rfl; omega); exact hh); refine H6 rfl (hCA hk7 _ hle1) rfl rfl (fun v G2 hle2 hh => ?_); obtain ⟨w, wc, rfl, hrw, hw1⟩ := hh; have hwl := hrw.len; have hwo := hrw.one)
 refine B5 ?_
 refine sS rfl rfl rfl hwl hwo rfl ?_ (hu := by exact E0 hwl.symm)
 refine B1 ?_
 refine E5 (rC rfl (A3 rfl rfl (B9 zG0) hwl)) (rT rfl) (rT rfl) ?_
 (rw [hrd']; exact B1F (r' := V6) rfl rfl hrw hw1)
 refine B5 ?_
 refine zf1 (fun b208 => ?_)
 refine sS rfl rfl rfl hul huo rfl ?_ (hu := by exact E0 hul.symm)
 refine A7 ?_
 refine zf12 ?_
 refine B1 ?_
 refine sL (A3 rfl rfl (B9 zG0) hul) rfl rfl ?_
 refine I0 ?_
 refine sS rfl rfl rfl hul huo rfl ?_ (hu := by exact E0 hul.symm)
 refine A7 ?_
 refine E5 (rC rfl (A3 rfl rfl (B9 zG0) hul)) (rT rfl) (rT rfl) ?_
 (rw [hrd', hm]; exact S2.mk rfl hru)
def A0p (r : Stp) : IM → Value → List A9 → Prop := M3 fun G' v => ∃ cells, v = .tuple ⟨[.agg ⟨cells⟩, .int .i64 r.2.1, .int .i64 r.2.2]⟩ ∧ B7 G' r.1 cells
theorem A0p.mk {r : Stp} (h : r = (u, c, l)) (hr : B7 G u cells) : A0p r G (.tuple ⟨[.agg ⟨cells⟩, .int .i64 c, .int .i64 l]⟩) [] := by
 subst h; exact ⟨rfl, cells, rfl, hr⟩
theorem A7Y {t : Tm} (h : P7 t = true) : t.small := A51 t (A1S h).1
variable {e : Tm}
theorem B1G (h : P7 e = false) : I2 e = (L7, 3, 0) := by unfold I2; rw [if_pos h]; rfl
theorem A7Z (h : P7 e = true) (h2 : H5 e = true) : I2 e = (e, 0, 0) := by unfold I2; rw [if_neg (by rw [h]; decide), if_pos h2]
theorem A70 (h : P7 e = true) (h2 : H5 e = false) (h3 : (I8 e).2.1 ≠ 1) : I2 e = (L7, (I8 e).2.1, (I8 e).2.2) := by
 unfold I2; rw [if_neg (by rw [h]; decide), if_neg (by rw [h2]; decide), if_pos h3]
theorem A71 (h : P7 e = true) (h2 : H5 e = false) (h3 : (I8 e).2.1 = 1) (h4 : P7 (I8 e).1 = false) : I2 e = (L7, 4, 0) := by
 unfold I2; rw [if_neg (by rw [h]; decide), if_neg (by rw [h2]; decide), if_neg zO0, if_pos h4]
theorem A72 (h : P7 e = true) (h2 : H5 e = false) (h3 : (I8 e).2.1 = 1) (h4 : P7 (I8 e).1 = true) : I2 e = ((I8 e).1, 1, 0) := by
 unfold I2; rw [if_neg (by rw [h]; decide), if_neg (by rw [h2]; decide), if_neg zO0, if_neg (by rw [h4]; decide)]
theorem B7n (t : Tm) (G : IM) (cells : List Value) (hr : B7 G t cells) : Fn prog 148 [.agg ⟨cells⟩] [] G (A0p (I2 t)) := by
 have hRl := hr.len
 have hRo := hr.one
 have hV := A7q t G cells hr
 have hI := B0V t G cells hr
 refine C4 func148 rfl ntmps148 results148 rfl ?_
 intro w0
 refine A5 ?_
 refine zf2 (fun b3 => ?_)
 refine zf1 (fun b4 => ?_)
 refine B1 ?_
 refine C2 ?_
 refine A5 ?_
 refine sL (A3 rfl rfl (B9 zG0) hRl) rfl rfl ?_
 refine L4 rfl (hV) rfl rfl (fun h14 => ?_) (fun h14 => ?_)
 refine B8 ?_
 refine sL (A3 rfl rfl (B9 zG0) hRl) rfl rfl ?_
 refine L4 rfl (hI) rfl rfl (fun h23 => ?_) (fun h23 => ?_)
 refine A7 ?_
 refine sL (A3 rfl rfl (B9 zG0) hRl) rfl rfl ?_
 (refine H6 rfl (A7w t G cells (A7Y zL0) hr) rfl rfl (fun v G1 hle1 hh => ?_); obtain ⟨cs1, F1, rfl, hs1, hn1⟩ := hh; have hul := hs1.R.len; have huo := hs1.R.one)
 refine sS rfl rfl rfl hul huo rfl ?_ (hu := by exact E0 hul.symm)
 refine B8 ?_
 refine E5 (rC rfl (A3 rfl rfl (B9 zG0) hul)) (rT rfl) (rT rfl) ?_
 (exact A0p.mk (A7Z zL0 zL0) (hs1.R.mono (E8.le _ _)))
 refine E1 ?_
 refine sL (A3 rfl rfl (B9 zG0) hRl) rfl rfl ?_
 (refine H6 rfl (B7m t G cells (A1S zL0).1 zL0 hr) rfl rfl (fun v G1 hle1 hh => ?_); obtain ⟨u, uc, rfl, hru, hu1⟩ := hh; have hul := hru.len; have huo := hru.one; have hVu := A7q u G1 uc hru)
 refine B6 ?_
 refine zf1 (fun b57 => ?_)
 refine sS rfl rfl rfl hul huo rfl ?_ (hu := by exact E0 hul.symm)
 refine B1 ?_
 refine C2 ?_
 refine B5 ?_
 refine zf16 (fun h68 => ?_) (fun h68 => ?_)
 refine W8 ?_
 refine zf15 ?_
 (exact A0p.mk (A70 zL0 zL0 zO0) (Q3 _))
 refine A7 ?_
 refine sL (A3 rfl rfl (B9 zG0) hul) rfl rfl ?_
 refine L4 rfl (hVu) rfl rfl (fun h95 => ?_) (fun h95 => ?_)
 refine I9 ?_
 refine sL (A3 rfl rfl (B9 zG0) hul) rfl rfl ?_
 (refine H6 rfl (A7w u G1 uc (A7Y zL0) hru) rfl rfl (fun v G2 hle2 hh => ?_); obtain ⟨cs2, F2, rfl, hs2, hn2⟩ := hh; have hwl := hs2.R.len; have hwo := hs2.R.one)
 refine sS rfl rfl rfl hwl hwo rfl ?_ (hu := by exact E0 hwl.symm)
 refine B1 ?_
 refine E5 (rC rfl (A3 rfl rfl (B9 zG0) hwl)) (rT rfl) (rT rfl) ?_
 (have h9 := hu1 zO0; subst h9; exact A0p.mk (A72 zL0 zL0 zO0 zL0) (hs2.R.mono (E8.le _ _)))
 refine L9 ?_
 refine zf15 ?_
 (have h9 := hu1 zO0; subst h9; exact A0p.mk (A71 zL0 zL0 zO0 zL0) (Q3 _))
 refine L9 ?_
 refine zf15 ?_
 (exact A0p.mk (B1G zL0) (Q3 _))
def P9 : Nat → Tm → Tm × Int × Int × Nat
 | 0, e => ((I2 e).1, (I2 e).2.1, (I2 e).2.2, 0)
 | n + 1, e => if (I2 e).2.1 = 1 then ((P9 n (I2 e).1).1, (P9 n (I2 e).1).2.1, (P9 n (I2 e).1).2.2.1, (P9 n (I2 e).1).2.2.2 + 1)
  else ((I2 e).1, (I2 e).2.1, (I2 e).2.2, 0)
theorem A73 (e : Tm) : P9 0 e = ((I2 e).1, (I2 e).2.1, (I2 e).2.2, 0) := by rw [P9]
theorem A74 {n : Nat} (h : (I2 e).2.1 = 1) : P9 (n + 1) e = ((P9 n (I2 e).1).1, (P9 n (I2 e).1).2.1, (P9 n (I2 e).1).2.2.1, (P9 n (I2 e).1).2.2.2 + 1) := by rw [P9, if_pos h]
theorem A75 {n : Nat} (h : (I2 e).2.1 ≠ 1) : P9 (n + 1) e = ((I2 e).1, (I2 e).2.1, (I2 e).2.2, 0) := by rw [P9, if_neg h]
theorem B1H : ∀ (n : Nat) (e : Tm), (P9 n e).2.1 = 1 → M1 n e = (L7, 5, 0, (P9 n e).2.2.2)
 | 0, e, h => by rw [A73] at h ⊢; rw [M1, if_pos h]
 | n + 1, e, h => by
  by_cases h1 : (I2 e).2.1 = 1
  ·rw [A74 h1] at h ⊢
   rw [M1, if_pos h1, B1H n _ h]
  ·rw [A75 h1] at h; exact absurd h h1
theorem B1I : ∀ (n : Nat) (e : Tm), (P9 n e).2.1 ≠ 1 → M1 n e = P9 n e
 | 0, e, h => by rw [A73] at h ⊢; rw [M1, if_neg h]
 | n + 1, e, h => by
  by_cases h1 : (I2 e).2.1 = 1
  ·rw [A74 h1] at h ⊢
   rw [M1, if_pos h1, B1I n _ h]
  ·rw [A75 h1]; rw [M1, if_neg h1]
def EvP (r : Tm × Int × Int × Nat) : IM → Value → List A9 → Prop := M3 fun G' v => ∃ cells, v = .tuple ⟨[.agg ⟨cells⟩, .int .i64 r.2.1, .int .i64 r.2.2.1, .int .i64 (r.2.2.2 : Int)]⟩ ∧ B7 G' r.1 cells
def A3o (i : Nat) (r : Tm × Int × Int × Nat) : Tm × Int × Int × Nat := (r.1, r.2.1, r.2.2.1, r.2.2.2 + i)
theorem B7o {m i : Nat} {e : Tm} (h : (I2 e).2.1 ≠ 1 ∨ m = 0) : A3o i (P9 m e) = ((I2 e).1, (I2 e).2.1, (I2 e).2.2, i) := by
 cases m with
 | zero => simp [A3o, P9]
 | succ m =>
  rcases h with h | h
  ·simp only [A3o, P9]; rw [if_neg h]; simp
  ·cases h
theorem B7p {m i : Nat} {e : Tm} (h : (I2 e).2.1 = 1) (hm : 0 < m) : A3o i (P9 m e) = A3o (i + 1) (P9 (m - 1) (I2 e).1) := by
 obtain ⟨k, rfl⟩ : ∃ k, m = k + 1 := ⟨m - 1, by omega⟩
 simp only [A3o, P9]; rw [if_pos h]; simp only [Nat.add_sub_cancel, Nat.add_assoc, Nat.add_comm 1 i]
section fin
variable {P : Program} {Γ : M5} {env : M8} {hp : List A9} {G : IM}
variable {post : IM → Value → List A9 → Prop}
theorem B7q {σ : Sy} (hk : post σ.G (.tuple ⟨[]⟩) []) : A03 P Γ [] post .normal σ := ⟨[], .nil, [], σ.hp, by simp, hk⟩
theorem A1a {r r2 r3 r4 : ResultVar} {v v2 v3 v4 : Value} (h : A0u P Γ ⟨env, hp, G⟩ r v) (h2 : A0u P Γ ⟨env, hp, G⟩ r2 v2) (h3 : A0u P Γ ⟨env, hp, G⟩ r3 v3) (h4 : A0u P Γ ⟨env, hp, G⟩ r4 v4) (hk : post G (.tuple ⟨[v, v2, v3, v4]⟩) []) :
  A03 P Γ [r, r2, r3, r4] post .ret ⟨env, hp, G⟩ := A5q (.cons h (.cons h2 (.cons h3 (.cons h4 .nil)))) hk
end fin
variable {i : Nat}
theorem EvP.mk {r : Tm × Int × Int × Nat} (h : r = (u, c, l, i)) (hr : B7 G u cells) : EvP r G (.tuple ⟨[.agg ⟨cells⟩, .int .i64 c, .int .i64 l, .int .i64 (i : Int)]⟩) [] := by
 subst h; exact ⟨rfl, cells, rfl, hr⟩
theorem B7r (e : Tm) (n : Nat) (hn : n ≤ 300) (fid : FuncId) [C1 prog fid] (us cs : List Value) (hq : ∀ (G : IM) (u : Tm) (cells : List Value), B7 G u cells → Fn prog fid (us ++ [.agg ⟨cells⟩] ++ cs) [] G (I1 (.tuple ⟨[]⟩) G))
  (G : IM) (cells : List Value) (hr : B7 G e cells) : Fn prog 95 [.agg ⟨cells⟩, .int .i64 (n : Int), .func (.func fid) ⟨us⟩ ⟨cs⟩] [] G (EvP (P9 n e)) := by
 have hRl := hr.len
 have hRo := hr.one
 have hq0 := hq G e cells hr
 refine C4 func95 rfl ntmps95 results95 rfl ?_
 intro w0
 refine A5 ?_
 refine zf2 (fun b3 => ?_)
 refine zf1 (fun b4 => ?_)
 refine D4 ?_
 refine sL (A3 rfl rfl (B9 zG0) hRl) rfl rfl ?_
 (refine A9b rfl rfl hq0 rfl rfl ?_)
 refine B8 ?_
 refine C2 ?_
 (refine K2 (fun (x : Nat × Tm × List Value × IM) => ⟨[(10, .int .i64 (x.1 : Int)), (1, .int .i64 (n : Int)), (2, .func (.func fid) ⟨us⟩ ⟨cs⟩), (3, .pointer (some ⟨b3, 0, none⟩)), (6, .pointer (some ⟨b4, 0, none⟩))], [.blk b3 x.2.2.1, .blk b4 zq9], x.2.2.2⟩) (fun x => x.1 ≤ n ∧ C3 G x.2.2.2 ∧ B7 x.2.2.2 x.2.1 x.2.2.1 ∧ A3o x.1 (P9 (n - x.1) x.2.1) = P9 n e) (fun x => n - x.1) (0, e, cells, G) ?_ ?_ ?_)
 (simp only [J5]; exact E3)
 (exact ⟨Nat.zero_le _, C3.refl _, hr, rfl⟩)
 (rintro ⟨i, u, uc, Gi⟩ ⟨hi, hle, hru, hev⟩; simp only [] at hi hle hru hev ⊢; have hul := hru.len; have huo := hru.one)
 refine tS ?_
 refine C2 ?_
 refine A5 ?_
 refine sL (A3 rfl rfl (B9 zG0) hul) rfl rfl ?_
 (refine H6 rfl (B7n u Gi uc hru) rfl rfl (fun v G1 hle1 hh => ?_); obtain ⟨wc, hv, hrw⟩ := hh; have hwl := hrw.len; have hwo := hrw.one; have hend := @B7o (n - i) i u; have hgo := @B7p (n - i) i u; generalize I2 u = r at hv hrw hend hgo; obtain ⟨w, c, l⟩ := r; simp only at hv hrw hend hgo; subst hv)
 refine B6 ?_
 refine zf1 (fun b37 => ?_)
 refine sS rfl rfl rfl hwl hwo rfl ?_ (hu := by exact E0 hwl.symm)
 refine D4 ?_
 refine zf16 (fun h47 => ?_) (fun h47 => ?_)
 refine I9 ?_
 exact y30
 refine B5 ?_
 refine zf0 (fun h79 => ?_) (fun h79 => ?_)
 refine A7 ?_
 exact y30
 refine D4 ?_
 refine sL (A3 rfl rfl (B9 zG0) hwl) rfl rfl ?_
 refine Y2 rfl rfl rfl hwl hwo rfl zC0 (by exact E0 (hul.trans hwl.symm)) ?_
 refine B6 ?_
 refine sL (A3 rfl rfl (B9 zG0) hwl) rfl rfl ?_
 (refine A9b rfl rfl (hq G1 w wc hrw) rfl rfl ?_)
 refine B1 ?_
 refine zf4 ?_
 refine A5 ?_
 refine J7 (i + 1, w, wc, G1) ?_ ?_ ?_
 (simp only [J5]; exact E3)
 (dsimp only; exact ⟨by omega, hle.trans hle1, hrw, by rw [← hev, hgo zO0 zO0, show n - (i + 1) = n - i - 1 by omega]⟩)
 (show n - (i + 1) < n - i; omega)
theorem B1J (fuel : Int) (G : IM) : Fn prog 31 [.int .i64 fuel] [] G (I1 (.bool (Q5 fuel 0 300)) G) := by
 refine C4 func31 rfl ntmps31 results31 rfl ?_
 intro w0
 refine D4 ?_
 refine F0 rfl ((A3S _ _ _ _)) rfl rfl ?_
 refine B1 ?_
 (exact ⟨rfl, rfl, rfl⟩)
theorem B1K {e : Tm} {fuel : Int} (h : Q5 fuel 0 300 = false) : P1 e fuel = (L7, 3, 0) := by
 unfold P1; rw [if_neg (A67 h)]; rfl
theorem B1L {e : Tm} {fuel : Int} (h : Q5 fuel 0 300 = true) (h1 : (P9 fuel.toNat e).2.1 = 1) : P1 e fuel = (L7, 5, 0) := by
 unfold P1; rw [if_pos (A2J h), B1H _ _ h1]
theorem B1M {e : Tm} {fuel : Int} (h : Q5 fuel 0 300 = true) (h1 : (P9 fuel.toNat e).2.1 ≠ 1) : P1 e fuel = ((P9 fuel.toNat e).1, (P9 fuel.toNat e).2.1, (P9 fuel.toNat e).2.2.1) := by
 unfold P1; rw [if_pos (A2J h), B1I _ _ h1]
theorem B7s (G : IM) (cells : List Value) (hl : cells.length = 9) (ho : cells.all (·.oneCell') = true) : Fn prog 96 [.agg ⟨cells⟩] [] G (I1 (.tuple ⟨[]⟩) G) := by
 refine C4 func96 rfl ntmps96 results96 rfl ?_
 intro w0
 refine tR ?_
 refine zf2 (fun b2 => ?_)
 refine sD ?_
 refine B7q ?_
 (exact ⟨rfl, rfl, rfl⟩)
theorem B7t (e : Tm) (fuel : Int) (G : IM) (cells : List Value) (hr : B7 G e cells) : Fn prog 48 [.agg ⟨cells⟩, .int .i64 fuel] [] G (A0p (P1 e fuel)) := by
 have hRl := hr.len
 have hRo := hr.one
 have hno := @B1K e fuel
 have hmu := @B1L e fuel
 have hen := @B1M e fuel
 refine C4 func48 rfl ntmps48 results48 rfl ?_
 intro w0
 refine A5 ?_
 refine zf2 (fun b3 => ?_)
 refine zf1 (fun b4 => ?_)
 refine D4 ?_
 refine L4 rfl ((B1J fuel _)) rfl rfl (fun h13 => ?_) (fun h13 => ?_)
 refine D4 ?_
 refine sL (A3 rfl rfl (B9 zG0) hRl) rfl rfl ?_
 refine I0 ?_
 (have hf : Q5 fuel 0 300 = true := zL0; have hf2 := A2J hf; have hE := B7r e fuel.toNat zO0 96 [] [] (fun G u cells hru => B7s G cells hru.len hru.one) G cells hr; rw [Int.toNat_of_nonneg hf2.1] at hE; refine H6 rfl hE rfl rfl (fun v G1 hle1 hh => ?_); obtain ⟨wc, hv, hrw⟩ := hh; have hwl := hrw.len; have hwo := hrw.one; have hmu := hmu hf; have hen := hen hf; generalize P9 fuel.toNat e = r at hv hrw hmu hen; obtain ⟨w, c, l, i⟩ := r; simp only at hv hrw hmu hen; subst hv)
 refine B1 ?_
 refine zf1 (fun b30 => ?_)
 refine sS rfl rfl rfl hwl hwo rfl ?_ (hu := by exact E0 hwl.symm)
 refine E1 ?_
 refine zf0 (fun h41 => ?_) (fun h41 => ?_)
 refine K7 ?_
 refine zf15 ?_
 (exact A0p.mk (hmu zO0) (Q3 _))
 refine B8 ?_
 refine sL (A3 rfl rfl (B9 zG0) hwl) rfl rfl ?_
 refine A5 ?_
 refine sS rfl rfl rfl hwl hwo rfl ?_ (hu := by exact E0 hwl.symm)
 refine B1 ?_
 refine E5 (rC rfl (A3 rfl rfl (B9 zG0) hwl)) (rT rfl) (rT rfl) ?_
 (exact A0p.mk (hen zO0) hrw)
 refine K5 ?_
 refine zf15 ?_
 (exact A0p.mk (hno zL0) (Q3 _))
mutual
def X3 (L : Int → Prop) : Tm → Prop
 | .mk k nm num ty fr lb ks => (k = 14 → L lb) ∧ A1W L ks
def A1W (L : Int → Prop) : List Tm → Prop
 | [] => True
 | t :: ts => X3 L t ∧ A1W L ts
end
theorem A0Z {L : Int → Prop} {k : Int} {nm : ByteArray} {num : Int} {ty fr : Ty} {lb : Int} {ks : List Tm} : X3 L (.mk k nm num ty fr lb ks) ↔ (k = 14 → L lb) ∧ A1W L ks := by rw [X3]
theorem A2v {L : Int → Prop} : ∀ {ts : List Tm}, A1W L ts ↔ ∀ t ∈ ts, X3 L t
 | [] => by simp [A1W]
 | t :: ts => by rw [A1W, A2v (ts := ts)]; simp
variable {a b : Ty}
theorem A3p {L : Int → Prop} (hl : L l) (h : X3 L e) : X3 L (O1 e a b l) := by
 rw [O1, A0Z]; exact ⟨fun _ => hl, by simp [A1W, h]⟩
theorem A76 {L : Int → Prop} {k : Int} {ks : List Tm} (hk : k ≠ 14) (h : ∀ t ∈ ks, X3 L t) : X3 L (A0a k ks) := by
 rw [A0a, A0Z]; exact ⟨fun e => absurd e hk, A2v.2 h⟩
mutual
theorem B1N {L : Int → Prop} {x : ByteArray} {v : Tm} (hv : X3 L v) : ∀ t, X3 L t → X3 L (V5 x v t)
 | .mk k nm num ty fr lb ks, h => by
  rw [A0Z] at h
  rw [V5]
  split
  ·exact hv
  ·split
   ·rw [A0Z]; exact h
   ·rw [A0Z]; exact ⟨h.1, B1O hv ks h.2⟩
theorem B1O {L : Int → Prop} {x : ByteArray} {v : Tm} (hv : X3 L v) : ∀ ts, A1W L ts → A1W L (U8 x v ts)
 | [], _ => by rw [U8]; trivial
 | t :: ts, h => by rw [U8, A1W]; exact ⟨B1N hv t h.1, B1O hv ts h.2⟩
end
theorem A39 {f : Tm} {U : Ty} (hv : H5 f = true) (ht : I7 [] f = some U) (hc : cv f) :
  (U.k = 2 → f.k = 2) ∧ (U.k = 3 → f.k = 3 ∨ f.k = 4) ∧ (U.k = 4 → f.k = 5 ∨ (T8 f = true ∧ f.ty.k = 4)) ∧ (U.k = 5 → f.k = 10 ∨ (T8 f = true ∧ f.ty.k = 5)) ∧ (U.k = 1 → inj f = true) := by
 obtain ⟨k, nm, num, ty, fr, lb, ks⟩ := f
 obtain ⟨hN, _⟩ := hc.node
 have hop := hN.ops
 rw [A08, A52]
 show (U.k = 2 → k = 2) ∧ (U.k = 3 → k = 3 ∨ k = 4) ∧ (U.k = 4 → k = 5 ∨ (_ ∧ ty.k = 4)) ∧ (U.k = 5 → k = 10 ∨ (_ ∧ ty.k = 5)) ∧ (U.k = 1 → _)
 by_cases h10 : k = 10
 ·subst h10
  obtain ⟨a, b, rfl⟩ := ks2 (ks := ks) (by have : E4 10 = 2 := rfl; omega)
  obtain ⟨A, B, _, _, rfl⟩ := A7U ht
  refine ⟨fun h => ?_, fun h => ?_, fun h => ?_, fun h => .inl rfl, fun h => ?_⟩ <;> (exfalso; simp [Ty.k, Q7, V4] at h)
 by_cases h14 : k = 14
 ·subst h14
  obtain ⟨a, rfl⟩ := ks1 (ks := ks) (by have : E4 14 = 1 := rfl; omega)
  obtain ⟨_, rfl⟩ := A38 ht
  by_cases hp : fr.k = U.k ∧ (U.k = 4 ∨ U.k = 5)
  ·refine ⟨fun h => by omega, fun h => by omega, fun h => .inr ⟨decide_eq_true ⟨rfl, hp⟩, h⟩, fun h => .inr ⟨decide_eq_true ⟨rfl, hp⟩, h⟩, fun h => by omega⟩
  ·by_cases hi : U.k = 1 ∧ U7 fr = true
   ·refine ⟨fun h => by omega, fun h => by omega, fun h => by omega, fun h => by omega, fun _ => ?_⟩
    rw [hi.2, decide_eq_true ⟨rfl, hi.1⟩]; rfl
   ·exfalso
    rw [H5, if_neg (by rintro (h | h | h); exact absurd h zN0; exact hp h.2; exact hi h.2)] at hv
    exact absurd (of_decide_eq_true hv) zN0
 ·have hk : k = 2 ∨ k = 3 ∨ k = 4 ∨ k = 5 := by
   rw [H5, if_neg (by rintro (h | h | h); exact h10 h; exact h14 h.1; exact h14 h.1)] at hv
   exact of_decide_eq_true hv
  by_cases h5 : k = 5
  ·subst h5
   obtain ⟨a, rfl⟩ := ks1 (ks := ks) (by have : E4 5 = 1 := rfl; omega)
   obtain ⟨B, _, rfl⟩ := A7V ht
   refine ⟨fun h => ?_, fun h => ?_, fun h => .inl rfl, fun h => ?_, fun h => ?_⟩ <;> (exfalso; simp [Ty.k, Q7, V4] at h)
  ·have hks : ks = [] := List.length_eq_zero_iff.1 (by
    rcases hk with h | h | h | h
    ·subst h; have : E4 2 = 0 := rfl; omega
    ·subst h; have : E4 3 = 0 := rfl; omega
    ·subst h; have : E4 4 = 0 := rfl; omega
    ·exact absurd h h5)
   subst hks
   by_cases h2 : k = 2
   ·subst h2
    obtain rfl := B1s ht
    refine ⟨fun _ => rfl, fun h => ?_, fun h => ?_, fun h => ?_, fun h => ?_⟩ <;> (exfalso; simp [Ty.k, Q7, V4] at h)
   ·have h34 : k = 3 ∨ k = 4 := by omega
    obtain rfl := B1t h34 ht
    refine ⟨fun h => ?_, fun _ => h34, fun h => ?_, fun h => ?_, fun h => ?_⟩ <;> (exfalso; simp [Ty.k, Q7, V4] at h)
theorem B1P {k : Int} {nm : ByteArray} {num : Int} {ty fr : Ty} {lb : Int} {ks : List Tm} (h : T8 (.mk k nm num ty fr lb ks) = true) : k = 14 ∧ fr.k = ty.k ∧ (ty.k = 4 ∨ ty.k = 5) := by
 rw [A08] at h; exact of_decide_eq_true h
theorem B7u {n : Int} (h : A0C n = true) : n ≠ 0 := by
 simp only [A0C, Bool.or_eq_true, A2U] at h; omega
def A3q (L : Int → Prop) (T : Ty) (r : Stp) : Prop := (r.2.1 = 1 ∧ I7 [] r.1 = some T ∧ X3 L r.1) ∨ (r.2.1 = 2 ∧ L r.2.2)
theorem B1Q (h : U7 t = true) : t = A0n t := by
 unfold U7 at h
 rw [Bool.and_eq_true] at h
 exact (A0M _ _).1 h.2
theorem B7v {u : Ty} (h : t.k = u.k) : A0n t = A0n u := by unfold A0n; rw [h]
theorem B7w (L : Int → Prop) (hL : ∀ l, L l → L (-l)) {k : Int} {nm : ByteArray} {num : Int} {ty fr : Ty} {lb : Int} {ks : List Tm} {T : Ty} (hc : cv (.mk k nm num ty fr lb ks))
  (h8 : k = 1 ∨ k = 6 ∨ k = 7 ∨ k = 8 ∨ k = 9 ∨ k = 11 ∨ k = 12 ∨ k = 14) (hnv : H5 (.mk k nm num ty fr lb ks) = false)
  (hval : ∀ i, i < (if k = 9 then 1 else ks.length) → (hl : i < ks.length) → H5 ks[i] = true)
  (ht : I7 [] (.mk k nm num ty fr lb ks) = some T) (hlb : X3 L (.mk k nm num ty fr lb ks)) : A3q L T (W4 k ty fr lb ks) := by
 obtain ⟨hN, hkk⟩ := hc.node
 have hop := hN.ops
 rw [A0Z, A2v] at hlb
 obtain ⟨hl14, hlk⟩ := hlb
 have hTv := B1l hc ht
 unfold W4
 by_cases h6 : k = 6
 ·subst h6
  obtain ⟨f, v, rfl⟩ := ks2 (ks := ks) (by have : E4 6 = 2 := rfl; omega)
  obtain ⟨A, hf, hv⟩ := B1n ht
  have hcf := hkk f zP0
  have hcv := hkk v zP0
  have hlf := hlk f zP0
  have hlv := hlk v zP0
  have hvf : H5 f = true := hval 0 zP0 zP0
  have hfv := B1l hcf hf
  rw [if_pos rfl]
  obtain ⟨_, _, hcan, _⟩ := A39 hvf hf hcf
  obtain ⟨fk, fnm, fnum, fty, ffr, flb, fks⟩ := f
  obtain ⟨hNf, hkf⟩ := hcf.node
  have hopf := hNf.ops
  rw [A0Z, A2v] at hlf
  show A3q L T (if fk = 5 then (V5 fnm v (kd fks 0), 1, 0) else if T8 (.mk fk fnm fnum fty ffr flb fks) = true ∧ fty.k = 4 then (O1 (A0a 6 [kd fks 0, O1 v (kt fty.ks 0) (kt ffr.ks 0) (-flb)]) (kt ffr.ks 1) (kt fty.ks 1) flb, 1, 0) else V6)
  by_cases h5 : fk = 5
  ·subst h5
   rw [if_pos rfl]
   obtain ⟨b, rfl⟩ := ks1 (ks := fks) (by have : E4 5 = 1 := rfl; omega)
   obtain ⟨B, hb, hT⟩ := A7V hf
   cases hT
   refine .inl ⟨rfl, ?_, B1N hlv _ (hlf.2 b zP0)⟩
   exact B1w hv b _ [] _ (hkf b zP0) (fun y hy => by rw [A1V, if_neg (fun e => hy e.symm)]) (by rw [A1V, if_pos rfl]) hb
  ·rw [if_neg h5]
   have hcan' : T8 (.mk fk fnm fnum fty ffr flb fks) = true ∧ fty.k = 4 := (hcan rfl).resolve_left h5
   rw [if_pos hcan']
   obtain ⟨rfl, hfk, _⟩ := B1P hcan'.1
   obtain ⟨g, rfl⟩ := ks1 (ks := fks) (by have : E4 14 = 1 := rfl; omega)
   obtain ⟨hg, rfl⟩ := A38 hf
   obtain ⟨_, hv1, hv2⟩ := hNf.c14 rfl
   obtain ⟨frk, frs⟩ := ffr
   obtain rfl : frk = 4 := hfk.trans hcan'.2
   obtain ⟨C, D, rfl, hC, hD⟩ := A37 (.inl rfl) hv2
   have hfl := hlf.1 rfl
   refine .inl ⟨rfl, ?_, A3p hfl (A76 zN0 (by
    intro t htm
    simp only [List.mem_cons, List.not_mem_nil, or_false] at htm
    rcases htm with rfl | rfl
    ·exact hlf.2 _ (by simp [kd])
    ·exact A3p (hL _ hfl) hlv))⟩
   exact A2u (B65 (A := C) hD hg (A2u hv))
 rw [if_neg h6]
 by_cases h7 : k = 7 ∨ k = 8
 ·obtain ⟨a, b, rfl⟩ := ks2 (ks := ks) (by rcases h7 with h | h <;> subst h <;> (first | (have : E4 7 = 2 := rfl; omega) | (have : E4 8 = 2 := rfl; omega)))
  obtain ⟨ha, hb, hT⟩ := B1o h7 ht
  have hva : H5 a = true := hval 0 (by rw [if_neg zO0]; simp) zP0
  have hvb : H5 b = true := hval 1 (by rw [if_neg zO0]; simp) zP0
  have ha2 := (A39 hva ha (hkk a zP0)).1 rfl
  have hb2 := (A39 hvb hb (hkk b zP0)).1 rfl
  rw [if_pos h7, if_pos (show (kd [a, b] 0).k = 2 ∧ (kd [a, b] 1).k = 2 from ⟨ha2, hb2⟩)]
  by_cases hk7 : k = 7
  ·rw [if_pos hk7]
   rw [if_neg zO0] at hT
   subst hT
   exact .inl ⟨rfl, rfl, by rw [A2q, A0Z]; exact ⟨fun e => absurd e zN0, trivial⟩⟩
  ·rw [if_neg hk7]
   rw [if_pos zO0] at hT
   subst hT
   refine .inl ⟨rfl, ?_, ?_⟩
   ·unfold U3; split <;> rfl
   ·unfold U3; exact A76 (by split <;> decide) zP0
 rw [if_neg h7]
 by_cases h9 : k = 9
 ·subst h9
  obtain ⟨a, b, c, rfl⟩ := ks3 (ks := ks) (by have : E4 9 = 3 := rfl; omega)
  obtain ⟨ha, hb, hcc⟩ := B1p ht
  have hva : H5 a = true := hval 0 zP0 zP0
  have ha2 := (A39 hva ha (hkk a zP0)).2.1 rfl
  rw [if_pos rfl]
  show A3q L T (if a.k = 3 then (b, 1, 0) else if a.k = 4 then (c, 1, 0) else V6)
  by_cases h3 : a.k = 3
  ·rw [if_pos h3]; exact .inl ⟨rfl, hb, hlk b zP0⟩
  ·rw [if_neg h3, if_pos zO0]; exact .inl ⟨rfl, hcc, hlk c zP0⟩
 rw [if_neg h9]
 by_cases h11 : k = 11 ∨ k = 12
 ·obtain ⟨a, rfl⟩ := ks1 (ks := ks) (by rcases h11 with h | h <;> subst h <;> (first | (have : E4 11 = 1 := rfl; omega) | (have : E4 12 = 1 := rfl; omega)))
  obtain ⟨A, B, ha, hT⟩ := B1q h11 ht
  have hva : H5 a = true := hval 0 (by rw [if_neg zO0]; simp) zP0
  have hca := hkk a zP0
  have hla := hlk a zP0
  have ha2 := (A39 hva ha hca).2.2.2.1 rfl
  rw [if_pos h11]
  obtain ⟨fk, fnm, fnum, fty, ffr, flb, fks⟩ := a
  obtain ⟨hNf, hkf⟩ := hca.node
  have hopf := hNf.ops
  rw [A0Z, A2v] at hla
  show A3q L T (if fk = 10 then (kd fks (k - 11).toNat, 1, 0) else if T8 (.mk fk fnm fnum fty ffr flb fks) = true ∧ fty.k = 5 then (O1 (A0a k [kd fks 0]) (kt ffr.ks (k - 11).toNat) (kt fty.ks (k - 11).toNat) flb, 1, 0) else V6)
  by_cases h10 : fk = 10
  ·subst h10
   rw [if_pos rfl]
   obtain ⟨x, y, rfl⟩ := ks2 (ks := fks) (by have : E4 10 = 2 := rfl; omega)
   obtain ⟨A', B', hx, hy, he⟩ := A7U ha
   cases he
   rcases h11 with rfl | rfl
   ·rw [if_neg zN0] at hT; subst hT; exact .inl ⟨rfl, hx, hla.2 x zP0⟩
   ·rw [if_pos rfl] at hT; subst hT; exact .inl ⟨rfl, hy, hla.2 y zP0⟩
  ·rw [if_neg h10]
   have hcan' : T8 (.mk fk fnm fnum fty ffr flb fks) = true ∧ fty.k = 5 := ha2.resolve_left h10
   rw [if_pos hcan']
   obtain ⟨rfl, hfk, _⟩ := B1P hcan'.1
   obtain ⟨g, rfl⟩ := ks1 (ks := fks) (by have : E4 14 = 1 := rfl; omega)
   obtain ⟨hg, rfl⟩ := A38 ha
   obtain ⟨_, hv1, hv2⟩ := hNf.c14 rfl
   obtain ⟨frk, frs⟩ := ffr
   obtain rfl : frk = 5 := hfk.trans hcan'.2
   obtain ⟨C, D, rfl, hC, hD⟩ := A37 (.inr rfl) hv2
   have hfl := hla.1 rfl
   refine .inl ⟨rfl, ?_, A3p hfl (A76 zO0 (by
    intro t htm
    simp only [List.mem_cons, List.not_mem_nil, or_false] at htm
    subst htm
    exact hla.2 _ (by simp [kd])))⟩
   have hg' : I7 [] (kd [g] 0) = some (.mk 5 [C, D]) := hg
   rcases h11 with rfl | rfl
   ·rw [if_neg zN0] at hT; subst hT
    exact A2u (B1r (k := 11) (.inl rfl) (by rw [if_neg zN0]; exact hC) hg')
   ·rw [if_pos rfl] at hT; subst hT
    exact A2u (B1r (k := 12) (.inr rfl) (by rw [if_pos rfl]; exact hD) hg')
 rw [if_neg h11]
 by_cases h14 : k = 14
 ·subst h14
  obtain ⟨a, rfl⟩ := ks1 (ks := ks) (by have : E4 14 = 1 := rfl; omega)
  obtain ⟨ha, rfl⟩ := A38 ht
  have hva : H5 a = true := hval 0 zP0 zP0
  have hca := hkk a zP0
  have hla := hlk a zP0
  have hlb := hl14 rfl
  obtain ⟨hcons, htv, hfv⟩ := hN.c14 rfl
  rw [if_pos rfl]
  have hnp : ¬(fr.k = T.k ∧ (T.k = 4 ∨ T.k = 5)) := by
   intro hh
   rw [A53 (.inr (.inl (by rw [A08]; exact decide_eq_true ⟨rfl, hh⟩))), List.all_cons, hva] at hnv
   cases hnv
  by_cases h1 : fr.k = T.k
  ·rw [if_pos h1]
   refine .inl ⟨rfl, ?_, hla⟩
   show I7 [] a = some T
   rw [ha]
   obtain ⟨fk, fs⟩ := fr
   obtain ⟨tk, ts⟩ := T
   obtain rfl : fk = tk := h1
   obtain ⟨_, rfl⟩ := A7T hfv (fun e => hnp ⟨rfl, .inl e⟩) (fun e => hnp ⟨rfl, .inr e⟩)
   obtain ⟨_, rfl⟩ := A7T htv (fun e => hnp ⟨rfl, .inl e⟩) (fun e => hnp ⟨rfl, .inr e⟩)
   rfl
  ·rw [if_neg h1]
   by_cases h2 : T.k = 1
   ·rw [if_pos h2]
    exact .inl ⟨rfl, A2u (A2u ha), A3p hlb (A3p hlb hla)⟩
   ·rw [if_neg h2]
    by_cases h3 : U7 T = false
    ·rw [if_pos h3]
     exact .inl ⟨rfl, A2u (A2u ha), A3p hlb (A3p hlb hla)⟩
    ·rw [if_neg h3]
     have hfr1 : fr.k = 1 := by
      obtain ⟨fk, fs⟩ := fr
      obtain ⟨tk, ts⟩ := T
      rw [T6] at hcons
      simp only [Bool.or_eq_true, Bool.and_eq_true, decide_eq_true_eq] at hcons
      rcases hcons with (h | h) | h
      ·exact h
      ·exact absurd h h2
      ·exact absurd h.1 h1
     have hi := (A39 hva ha hca).2.2.2.2 hfr1
     rw [if_neg (by rw [show kd [a] 0 = a from rfl, hi]; decide)]
     have hg : U7 T = true := by cases h : U7 T with | true => rfl | false => exact absurd h h3
     obtain ⟨fk, fnm, fnum, fty, ffr, flb, fks⟩ := a
     obtain ⟨hNf, _⟩ := hca.node
     have hopf := hNf.ops
     rw [A0Z, A2v] at hla
     have hgi := B1A hi
     obtain rfl : fk = 14 := B1z hi
     obtain ⟨g, rfl⟩ := ks1 (ks := fks) (by have : E4 14 = 1 := rfl; omega)
     obtain ⟨hgt, _⟩ := A38 ha
     show A3q L T (if ffr.k = T.k then (kd [g] 0, 1, 0) else (L7, 2, lb))
     by_cases h4 : ffr.k = T.k
     ·rw [if_pos h4]
      refine .inl ⟨rfl, ?_, hla.2 g zP0⟩
      show I7 [] g = some T
      rw [hgt]
      congr 1
      exact (B1Q hgi).trans ((B7v h4).trans (B1Q hg).symm)
     ·rw [if_neg h4]
      exact .inr ⟨rfl, hlb⟩
 ·exfalso
  obtain rfl : k = 1 := by omega
  have hks : ks = [] := List.length_eq_zero_iff.1 (by have : E4 1 = 0 := rfl; omega)
  subst hks
  have := A6d ht
  simp [Q0, X1] at this
theorem B7x {L : Int → Prop} {ks : List Tm} (h : ∀ t ∈ ks, X3 L t) (hu : X3 L u) : ∀ t ∈ ks.set i u, X3 L t := by
 intro t ht
 rcases List.mem_or_eq_of_mem_set ht with h1 | h1
 ·exact h t h1
 ·rw [h1]; exact hu
theorem B7y (L : Int → Prop) (hL : ∀ l, L l → L (-l)) : ∀ (e : Tm) (T : Ty), cv e → H5 e = false → I7 [] e = some T → X3 L e → A3q L T (I8 e) := by
 refine Tm.ind fun k nm num ty fr lb ks ih T hc hv ht hlb => ?_
 obtain ⟨hN, hkk⟩ := hc.node
 by_cases hall : ∀ i, i < (if k = 9 then 1 else ks.length) → (hl : i < ks.length) → H5 ks[i] = true
 ·have h8 := B1E hc hv hall
  have := B7w L hL hc h8 hv hall ht hlb
  rw [I8, A7X _ _ hall]
  exact this
 ·
  have hex : ∃ i, ∃ (hl : i < ks.length), i < (if k = 9 then 1 else ks.length) ∧ H5 ks[i] = false ∧ ∀ j, j < i → (h : j < ks.length) → H5 ks[j] = true := by
   have h0 : ∃ i, ∃ (hl : i < ks.length), i < (if k = 9 then 1 else ks.length) ∧ H5 ks[i] = false := by
    apply Classical.byContradiction
    intro hn
    exact hall fun i hi hl => by
     cases h : H5 ks[i] with
     | true => rfl
     | false => exact absurd ⟨i, hl, hi, h⟩ hn
   obtain ⟨i, h1⟩ := h0
   induction i using Nat.strongRecOn with
   | _ i ih2 =>
    obtain ⟨hl, hi, hvi⟩ := h1
    by_cases hj : ∃ j, j < i ∧ ∃ (h : j < ks.length), H5 ks[j] = false
    ·obtain ⟨j, hji, hjl, hjv⟩ := hj
     exact ih2 j hji ⟨hjl, by omega, hjv⟩
    ·refine ⟨i, hl, hi, hvi, fun j hji hjl => ?_⟩
     cases h : H5 ks[j] with
     | true => rfl
     | false => exact absurd ⟨j, hji, hjl, h⟩ hj
  obtain ⟨i, hl, hi, hvi, hbe⟩ := hex
  obtain ⟨s1, s2, s3⟩ := @B1D k nm num ty fr lb ks i hl hi hbe hvi
  have hk5 : k ≠ 5 := by
   rintro rfl
   rw [H5, if_neg zO0] at hv
   exact absurd hv zN0
  have hlb2 := (A0Z.1 hlb).2
  rw [A2v] at hlb2
  rw [I7] at ht
  split at ht
  ·cases ht
  ·rename_i us hu
   rw [L5, if_neg hk5] at hu
   obtain ⟨U, hU, hset⟩ := B1d hu i hl
   have hg := ih ks[i] (List.getElem_mem hl) U (hkk _ (List.getElem_mem hl)) hvi hU (hlb2 _ (List.getElem_mem hl))
   unfold A3q
   rw [s1, s2]
   rcases hg with ⟨g1, g2, g3⟩ | ⟨g1, g2⟩
   ·refine .inl ⟨g1, ?_, ?_⟩
    ·rw [s3 g1, I7, L5, if_neg hk5, hset _ g2]
     exact ht
    ·rw [s3 g1, A0Z]
     exact ⟨(A0Z.1 hlb).1, A2v.2 (B7x hlb2 g3)⟩
   ·exact .inr ⟨g1, g2⟩
mutual
theorem B1R : ∀ e : Tm, cv e → X3 (fun l => l ≠ 0) e
 | .mk k nm num ty fr lb ks, h => by
  obtain ⟨hN, hk⟩ := h.node
  obtain ⟨d, hd⟩ := h
  obtain ⟨_, _, h3, _⟩ := A07 hd
  obtain ⟨_, _, _, _, _, _, _, n8, _⟩ := W0.1 h3
  rw [A0Z]
  exact ⟨fun hk14 => B7u (n8 hk14).2, A2v.2 fun t ht => (B1S ks hk) t ht⟩
theorem B1S : ∀ ts : List Tm, (∀ t ∈ ts, cv t) → ∀ t ∈ ts, X3 (fun l => l ≠ 0) t
 | [], _ => by simp
 | t :: ts, h => fun u hu => by
  rcases List.mem_cons.1 hu with h1 | hu
  ·rw [h1]; exact B1R t (h t List.mem_cons_self)
  ·exact B1S ts (fun x hx => h x (List.mem_cons_of_mem _ hx)) u hu
end
theorem B1T (L : Int → Prop) (hL : ∀ l, L l → L (-l)) (e : Tm) (T : Ty) (hc : P7 e = true) (ht : I7 [] e = some T) (hl : X3 L e) :
  (I2 e = (e, 0, 0) ∧ H5 e = true) ∨ (∃ l, I2 e = (L7, 2, l) ∧ L l) ∨ I2 e = (L7, 4, 0) ∨ (∃ u, I2 e = (u, 1, 0) ∧ P7 u = true ∧ I7 [] u = some T ∧ X3 L u) := by
 cases hv : H5 e with
 | true => exact .inl ⟨A7Z hc hv, rfl⟩
 | false =>
  rcases B7y L hL e T (A1S hc).1 hv ht hl with ⟨g1, g2, g3⟩ | ⟨g1, g2⟩
  ·cases hcv : P7 (I8 e).1 with
   | false => exact .inr (.inr (.inl (A71 hc hv g1 hcv)))
   | true => exact .inr (.inr (.inr ⟨_, A72 hc hv g1 hcv, hcv, g2, g3⟩))
  ·exact .inr (.inl ⟨(I8 e).2.2, by rw [A70 hc hv zO0, g1], g2⟩)
theorem B1U (L : Int → Prop) (hL : ∀ l, L l → L (-l)) : ∀ (n : Nat) (e : Tm) (T : Ty), P7 e = true → I7 [] e = some T → X3 L e →
  ((M1 n e).2.1 = 0 ∧ (M1 n e).2.2.1 = 0 ∧ I7 [] (M1 n e).1 = some T ∧ H5 (M1 n e).1 = true ∧ P7 (M1 n e).1 = true) ∨ ((M1 n e).2.1 = 2 ∧ L (M1 n e).2.2.1) ∨ ((M1 n e).2.1 = 4 ∧ (M1 n e).2.2.1 = 0) ∨ ((M1 n e).2.1 = 5 ∧ (M1 n e).2.2.1 = 0)
 | 0, e, T, hc, ht, hl => by
  rcases B1T L hL e T hc ht hl with ⟨h, hv⟩ | ⟨l, h, hl⟩ | h | ⟨u, h, hu1, hu2, hu3⟩
  ·simp [M1, h, ht, hv, hc]
  ·simp [M1, h, hl]
  ·simp [M1, h]
  ·simp [M1, h]
 | n + 1, e, T, hc, ht, hl => by
  rcases B1T L hL e T hc ht hl with ⟨h, hv⟩ | ⟨l, h, hl⟩ | h | ⟨u, h, hu1, hu2, hu3⟩
  ·simp [M1, h, ht, hv, hc]
  ·simp [M1, h, hl]
  ·simp [M1, h]
  ·have ih := B1U L hL n u T hu1 hu2 hu3
   simpa only [M1, h, if_true] using ih
theorem A43 {cx : Cx} : ∀ {ks : List Tm} {i : Nat} (hi : i < ks.length) {l l' l2 : Int} {us : List Tm} {h : List Ty} {u : Tm} {a : Ty}, O2 cx (ks.take i) l = some (us, h, l') → P5 cx ks[i] l' = some (u, a, l2) → O2 cx (ks.take (i + 1)) l = some (us ++ [u], h ++ [a], l2)
 | [], i, hi, _, _, _, _, _, _, _, _, _ => by simp at hi
 | t :: ts, 0, _, l, l', l2, us, h, u, a, h1, h2 => by
  simp only [List.take_zero, O2, Option.some.injEq, Prod.mk.injEq] at h1
  obtain ⟨rfl, rfl, rfl⟩ := h1
  simp only [List.getElem_cons_zero] at h2
  simp [O2, h2]
 | t :: ts, i + 1, hi, l, l', l2, us, h, u, a, h1, h2 => by
  simp only [List.take_succ_cons, O2] at h1 ⊢
  split at h1
  ·cases h1
  ·rename_i u1 a1 l1 he
   split at h1
   ·cases h1
   ·rename_i us1 h1' l1' hL
    simp only [Option.some.injEq, Prod.mk.injEq] at h1
    obtain ⟨rfl, rfl, rfl⟩ := h1
    simp only [List.getElem_cons_succ] at h2
    have := A43 (ks := ts) (i := i) (by simpa using hi) hL h2
    simp only [this, List.cons_append]
theorem A77 {cx : Cx} : ∀ {ks : List Tm} {i : Nat} (hi : i < ks.length) {l l' : Int} {us : List Tm} {h : List Ty}, O2 cx (ks.take i) l = some (us, h, l') → P5 cx ks[i] l' = none → O2 cx ks l = none
 | [], i, hi, _, _, _, _, _, _ => by simp at hi
 | t :: ts, 0, _, l, l', us, h, h1, h2 => by
  simp only [List.take_zero, O2, Option.some.injEq, Prod.mk.injEq] at h1
  obtain ⟨rfl, rfl, rfl⟩ := h1
  simp only [List.getElem_cons_zero] at h2
  simp [O2, h2]
 | t :: ts, i + 1, hi, l, l', us, h, h1, h2 => by
  simp only [List.take_succ_cons, O2] at h1 ⊢
  split at h1
  ·cases h1
  ·rename_i u1 a1 l1 he
   split at h1
   ·cases h1
   ·rename_i us1 h1' l1' hL
    simp only [Option.some.injEq, Prod.mk.injEq] at h1
    obtain ⟨rfl, rfl, rfl⟩ := h1
    simp only [List.getElem_cons_succ] at h2
    have := A77 (ks := ts) (i := i) (by simpa using hi) hL h2
    simp only [this]
theorem A1b (us : List Tm) (h : List Ty) (l : Int) : J4 us h [] l = (us, l) := by
 cases us with
 | nil => rfl
 | cons u us => cases h <;> rfl
theorem A44 : ∀ (us : List Tm) (h w : List Ty) (l : Int) (j : Nat) (hj : j < w.length) (hu : w.length ≤ us.length) (hh : w.length ≤ h.length),
  (J4 us h (w.take j) l).1.length = us.length ∧ (∀ (hq : j < (J4 us h (w.take j) l).1.length), (J4 us h (w.take j) l).1[j] = us[j]'zO0) ∧
  J4 us h (w.take (j + 1)) l = if N1 (h[j]'zO0) w[j] = true then J4 us h (w.take j) l else ((J4 us h (w.take j) l).1.set j (O1 (us[j]'zO0) (h[j]'zO0) w[j] ((J4 us h (w.take j) l).2 + 1)), (J4 us h (w.take j) l).2 + 1)
 | us, h, [], l, j, hj, _, _ => by simp at hj
 | [], h, b :: w, l, j, _, hu, _ => by simp at hu
 | u :: us, [], b :: w, l, j, _, _, hh => by simp at hh
 | u :: us, a :: h, b :: w, l, 0, _, _, _ => by
  refine ⟨by simp [J4], by simp [J4], ?_⟩
  simp only [List.take_succ_cons, List.take_zero, J4, A1b, List.getElem_cons_zero, List.set_cons_zero]
 | u :: us, a :: h, b :: w, l, j + 1, hj, hu, hh => by
  simp only [List.take_succ_cons, List.getElem_cons_succ]
  by_cases hs : N1 a b = true
  ·have ih := A44 us h w l j (by simpa using hj) (by simpa using hu) (by simpa using hh)
   simp only [J4, if_pos hs]
   obtain ⟨i1, i2, i3⟩ := ih
   refine ⟨by simp [i1], fun hq => by simp [i2], ?_⟩
   rw [i3]
   split <;> simp
  ·have ih := A44 us h w (l + 1) j (by simpa using hj) (by simpa using hu) (by simpa using hh)
   simp only [J4, if_neg hs]
   obtain ⟨i1, i2, i3⟩ := ih
   refine ⟨by simp [i1], fun hq => by simp [i2], ?_⟩
   rw [i3]
   split <;> simp
theorem A2w : ∀ (us : List Tm) (h w : List Ty) (l : Int), (J4 us h w l).1.length = us.length
 | [], h, w, l => by simp [J4]
 | u :: us, [], w, l => by simp [J4]
 | u :: us, a :: h, [], l => by simp [J4]
 | u :: us, a :: h, b :: w, l => by
  simp only [J4]
  split
  ·simp [A2w us h w l]
  ·simp [A2w us h w (l + 1)]
theorem B1V {us : List Tm} {h w : List Ty} {j : Nat} (hj : j < w.length) (hu : w.length ≤ us.length) (hh : w.length ≤ h.length) :
  (J4 us h (w.take (j + 1)) l).1 = (J4 us h (w.take j) l).1.set j (if N1 (h[j]'zO0) w[j] = true then us[j]'zO0 else O1 (us[j]'zO0) (h[j]'zO0) w[j] ((J4 us h (w.take j) l).2 + 1)) ∧
  (J4 us h (w.take (j + 1)) l).2 = (if N1 (h[j]'zO0) w[j] = true then (J4 us h (w.take j) l).2 else (J4 us h (w.take j) l).2 + 1) := by
 obtain ⟨h1, h2, h3⟩ := A44 us h w l j hj hu hh
 by_cases hs : N1 (h[j]'zO0) w[j] = true
 ·rw [h3, if_pos hs, if_pos hs, if_pos hs]
  refine ⟨?_, rfl⟩
  rw [← h2 zO0, List.set_getElem_self]
 ·rw [h3, if_neg hs, if_neg hs, if_neg hs]
  exact ⟨rfl, rfl⟩
theorem A1X : ∀ (us : List Tm) (h w : List Ty) (l : Int), l ≤ (J4 us h w l).2 ∧ (J4 us h w l).2 ≤ l + us.length
 | [], h, w, l => by simp [J4]
 | u :: us, [], w, l => by simp [J4]; omega
 | u :: us, a :: h, [], l => by simp [J4]; omega
 | u :: us, a :: h, b :: w, l => by
  simp only [J4]
  split
  ·have := A1X us h w l; simp only [List.length_cons]; omega
  ·have := A1X us h w (l + 1); simp only [List.length_cons]; omega
mutual
theorem B1W : ∀ a b : Ty, K8 a b = true → K8 b a = true
 | .mk k ks, .mk k' ks', h => by
  rw [T6] at h ⊢
  simp only [Bool.or_eq_true, Bool.and_eq_true, decide_eq_true_eq] at h ⊢
  rcases h with (h | h) | h
  ·exact .inl (.inr h)
  ·exact .inl (.inl h)
  ·exact .inr ⟨h.1.symm, B1X ks ks' h.2⟩
theorem B1X : ∀ xs ys : List Ty, O0 xs ys = true → O0 ys xs = true
 | [], [], _ => rfl
 | [], b :: ys, h => by simp [O0] at h
 | a :: xs, [], h => by simp [O0] at h
 | a :: xs, b :: ys, h => by
  simp only [O0, Bool.and_eq_true] at h ⊢
  exact ⟨B1W a b h.1, B1X xs ys h.2⟩
end
mutual
theorem B1Y : ∀ a b : Ty, K8 a b = true → K8 a (X2 a b) = true ∧ K8 b (X2 a b) = true
 | .mk k ks, .mk k' ks', h => by
  rw [A3U]
  by_cases h1 : k = 1
  ·rw [if_pos h1]
   exact ⟨h, A2W _⟩
  ·rw [if_neg h1]
   by_cases h2 : k' = 1
   ·rw [if_pos h2]
    exact ⟨A2W _, B1W _ _ h⟩
   ·rw [if_neg h2]
    rw [T6] at h
    simp only [Bool.or_eq_true, Bool.and_eq_true, decide_eq_true_eq] at h
    have h3 : k = k' ∧ O0 ks ks' = true := by
     rcases h with (h | h) | h
     ·exact absurd h h1
     ·exact absurd h h2
     ·exact h
    obtain ⟨m1, m2⟩ := B1Z ks ks' h3.2
    rw [T6, T6, m1, m2]
    simp [h3.1]
theorem B1Z : ∀ xs ys : List Ty, O0 xs ys = true → O0 xs (W2 xs ys) = true ∧ O0 ys (W2 xs ys) = true
 | [], [], _ => ⟨rfl, rfl⟩
 | [], b :: ys, h => by simp [O0] at h
 | a :: xs, [], h => by simp [O0] at h
 | a :: xs, b :: ys, h => by
  simp only [O0, Bool.and_eq_true] at h
  obtain ⟨m1, m2⟩ := B1Y a b h.1
  obtain ⟨m3, m4⟩ := B1Z xs ys h.2
  simp only [W2, O0, m1, m2, m3, m4]
  exact ⟨rfl, rfl⟩
end
theorem B7z {k : Int} (hk : k = 4 ∨ k = 5) (h : H7 (.mk k [a, b]) = true) : H7 a = true ∧ H7 b = true := by
 obtain ⟨x, y, he, h1, h2⟩ := A37 hk h
 cases he
 exact ⟨h1, h2⟩
theorem B7A {k : Int} (hk : k = 4 ∨ k = 5) : H7 (.mk k [R1, R1]) = true := by rcases hk with rfl | rfl <;> decide
theorem B10 {k : Int} (hk : k = 4 ∨ k = 5) (ht : H7 t = true) (h : S7 k t = some (a, b)) : H7 (.mk k [a, b]) = true ∧ K8 t (.mk k [a, b]) = true := by
 obtain ⟨tk, ks⟩ := t
 rw [A1I] at h
 by_cases he : tk = k
 ·subst he
  rw [if_pos rfl] at h
  obtain ⟨x, y, rfl, _, _⟩ := A37 hk ht
  cases h
  exact ⟨ht, A2W _⟩
 ·rw [if_neg he] at h
  by_cases h1 : tk = 1
  ·rw [if_pos h1] at h
   cases h
   refine ⟨B7A hk, ?_⟩
   rw [T6, h1]; rfl
  ·rw [if_neg h1] at h; cases h
structure Wt (cx : Cx) (k : Int) (nm : ByteArray) (ty : Ty) (h w : List Ty) (t : Ty) : Prop where
 len : w = [] ∨ w.length = h.length
 ok : ∀ i, (hi : i < w.length) → (hh : i < h.length) → K8 h[i] w[i] = true ∧ H7 w[i] = true
 again : k ≠ 13 → M0 cx k nm ty (if w = [] then h else w) = some (w, t)
 asT : k = 13 → w = [t]
theorem B11 {cx : Cx} {k : Int} {nm : ByteArray} {ty : Ty} {h w : List Ty} (hh : ∀ a ∈ h, H7 a = true) (hty : k = 13 → H7 ty = true) (hn : E4 k = (h.length : Int)) (h14 : k ≠ 14) (hw : M0 cx k nm ty h = some (w, t)) : Wt cx k nm ty h w t := by
 have hkr := A42 (by rw [hn]; omega : 0 ≤ E4 k)
 have hkk : k = 1 ∨ k = 2 ∨ (k = 3 ∨ k = 4) ∨ k = 5 ∨ k = 6 ∨ (k = 7 ∨ k = 8) ∨ k = 9 ∨ k = 10 ∨ (k = 11 ∨ k = 12) ∨ k = 13 := by omega
 have nil : w = [] → k ≠ 13 → Wt cx k nm ty h w t := by
  rintro rfl h13
  exact ⟨.inl rfl, fun i hi => by simp at hi, fun _ => by rw [if_pos rfl]; exact hw, fun h => absurd h h13⟩
 rcases hkk with rfl | rfl | hk | rfl | rfl | hk | rfl | rfl | hk | rfl
 ·refine nil ?_ zN0
  rw [mW1] at hw; split at hw <;> cases hw; rfl
 ·refine nil ?_ zN0
  rw [mW2] at hw; cases hw; rfl
 ·refine nil ?_ zO0
  rw [A4V hk] at hw; cases hw; rfl
 ·refine nil ?_ zN0
  rw [mW5] at hw; cases hw; rfl
 ·match h, (show h.length = 2 by have : E4 6 = 2 := rfl; omega) with
  | [x, y], _ =>
  rw [mW6] at hw
  simp only [List.getD_cons_zero, List.getD_cons_succ] at hw
  split at hw
  ·rename_i a b hm
   split at hw
   ·rename_i hc
    cases hw
    obtain ⟨v1, v2⟩ := B10 (.inl rfl) (hh x zP0) hm
    obtain ⟨v3, v4⟩ := B7z (.inl rfl) v1
    refine ⟨.inr rfl, fun i hi hi2 => ?_, fun _ => ?_, fun h => absurd h zN0⟩
    ·match i, hi with
     | 0, _ => exact ⟨v2, v1⟩
     | 1, _ => exact ⟨hc, v3⟩
    ·rw [if_neg zP0, mW6]
     simp only [List.getD_cons_zero, List.getD_cons_succ, A1I, if_true, A2W]
   ·cases hw
  ·cases hw
 ·match h, (show h.length = 2 by rcases hk with rfl | rfl <;> (first | (have : E4 7 = 2 := rfl; omega) | (have : E4 8 = 2 := rfl; omega))) with
  | [x, y], _ =>
  rw [X6 hk] at hw
  simp only [List.getD_cons_zero, List.getD_cons_succ] at hw
  split at hw
  ·rename_i hc
   cases hw
   refine ⟨.inr rfl, fun i hi hi2 => ?_, fun _ => ?_, fun h => by omega⟩
   ·match i, hi with
    | 0, _ => exact ⟨hc.1, (show H7 Q7 = true by decide)⟩
    | 1, _ => exact ⟨hc.2, (show H7 Q7 = true by decide)⟩
   ·rw [if_neg zP0, X6 hk]
    simp only [List.getD_cons_zero, List.getD_cons_succ, A2W, and_self, if_true]
  ·cases hw
 ·match h, (show h.length = 3 by have : E4 9 = 3 := rfl; omega) with
  | [x, y, z], _ =>
  rw [mW9] at hw
  simp only [List.getD_cons_zero, List.getD_cons_succ] at hw
  split at hw
  ·rename_i hc
   cases hw
   obtain ⟨c1, c2⟩ := B1Y y z hc.2
   have vm := A7P y z 1 hc.2 (hh y zP0) (hh z zP0)
   refine ⟨.inr rfl, fun i hi hi2 => ?_, fun _ => ?_, fun h => absurd h zN0⟩
   ·match i, hi with
    | 0, _ => exact ⟨hc.1, (show H7 V4 = true by decide)⟩
    | 1, _ => exact ⟨c1, vm⟩
    | 2, _ => exact ⟨c2, vm⟩
   ·rw [if_neg zP0, mW9]
    simp only [List.getD_cons_zero, List.getD_cons_succ, A2W, and_self, if_true, B1j]
  ·cases hw
 ·refine nil ?_ zN0
  rw [A58] at hw; cases hw; rfl
 ·match h, (show h.length = 1 by rcases hk with rfl | rfl <;> (first | (have : E4 11 = 1 := rfl; omega) | (have : E4 12 = 1 := rfl; omega))) with
  | [x], _ =>
  rw [A35 hk] at hw
  simp only [List.getD_cons_zero] at hw
  split at hw
  ·rename_i a b hm
   cases hw
   obtain ⟨v1, v2⟩ := B10 (.inr rfl) (hh x zP0) hm
   refine ⟨.inr rfl, fun i hi hi2 => ?_, fun _ => ?_, fun h => by omega⟩
   ·match i, hi with
    | 0, _ => exact ⟨v2, v1⟩
   ·rw [if_neg zP0, A35 hk]
    simp only [List.getD_cons_zero, List.getD_cons_succ, A1I, if_true]
  ·cases hw
 ·match h, (show h.length = 1 by have : E4 13 = 1 := rfl; omega) with
  | [x], _ =>
  rw [A3n] at hw
  simp only [List.getD_cons_zero] at hw
  split at hw
  ·rename_i hc
   cases hw
   refine ⟨.inr rfl, fun i hi hi2 => ?_, fun h => absurd rfl h, fun _ => rfl⟩
   match i, hi with
   | 0, _ => exact ⟨hc, hty rfl⟩
  ·cases hw
theorem B7B (h1 : 1 ≤ l) (h2 : l ≤ 99) : A0C l = true := by
 unfold A0C
 rw [A2U.2 ⟨h1, h2⟩]; rfl
theorem B7C {D : Int} (hu : O9 40 13 u (D + 1) = true) (hc : K8 a b = true) (ha : H7 a = true) (hb : H7 b = true) (h1 : 1 ≤ l) (h2 : l ≤ 99) (hD : D ≤ 40) : O9 40 13 (O1 u a b l) D = true := by
 unfold O1
 rw [A2P hD zN0 (W0.2 ⟨rfl, by simp, fun _ => rfl, by simp, fun _ => rfl, fun _ => hb, by simp, fun _ => ⟨by simp [A0R, ha, hb, hc], B7B h1 h2⟩, by simp⟩)]
 simp [P0, hu]
theorem A78 {cx : Cx} : ∀ (us : List Tm) (h w : List Ty) (l D : Int), us.length = h.length → w.length = h.length → (∀ i, (hi : i < w.length) → (hh : i < h.length) → K8 h[i] w[i] = true ∧ H7 w[i] = true) → (∀ a ∈ h, H7 a = true) → N0 cx us = some h → P0 40 13 us (D + 1) = true → 0 ≤ l → (J4 us h w l).2 ≤ 99 → D ≤ 40 →
  N0 cx (J4 us h w l).1 = some w ∧ P0 40 13 (J4 us h w l).1 D = true ∧ (I3 (J4 us h w l).1 : Int) = I3 us + ((J4 us h w l).2 - l)
 | [], [], [], l, D, _, _, _, _, ht, _, _, _, _ => by simp [J4, N0, P0, I3]
 | [], a :: h, w, l, D, hl, _, _, _, _, _, _, _, _ => by simp at hl
 | u :: us, [], w, l, D, hl, _, _, _, _, _, _, _, _ => by simp at hl
 | [], [], b :: w, l, D, _, hl, _, _, _, _, _, _, _ => by simp at hl
 | u :: us, a :: h, [], l, D, _, hl, _, _, _, _, _, _, _ => by simp at hl
 | u :: us, a :: h, b :: w, l, D, h1, h2, hw, hv, ht, hs, hl, h99, hD => by
  rw [N0] at ht
  split at ht
  ·cases ht
  ·rename_i a' ha
   split at ht
   ·cases ht
   ·rename_i h' hh'
    simp only [Option.some.injEq, List.cons.injEq] at ht
    obtain ⟨rfl, rfl⟩ := ht
    rw [P0, Bool.and_eq_true] at hs
    obtain ⟨c1, c2⟩ := hw 0 zP0 zP0
    have hw' : ∀ i, (hi : i < w.length) → (hh : i < h'.length) → K8 h'[i] w[i] = true ∧ H7 w[i] = true := fun i hi hh => hw (i + 1) (by simpa using hi) (by simpa using hh)
    have hv' : ∀ x ∈ h', H7 x = true := fun x hx => hv x (List.mem_cons_of_mem _ hx)
    simp only [J4] at h99 ⊢
    by_cases he : N1 a' b = true
    ·simp only [if_pos he] at h99 ⊢
     obtain ⟨i1, i2, i3⟩ := A78 us h' w l D (by simpa using h1) (by simpa using h2) hw' hv' hh' hs.2 hl h99 hD
     have hab := (A0M _ _).1 he
     subst hab
     refine ⟨by rw [N0, ha, i1], ?_, ?_⟩
     ·rw [P0, Bool.and_eq_true]; exact ⟨A7O 40 13 u (D + 1) D zO0 hs.1, i2⟩
     ·simp only [I3]; omega
    ·simp only [if_neg he] at h99 ⊢
     obtain ⟨i1, i2, i3⟩ := A78 us h' w (l + 1) D (by simpa using h1) (by simpa using h2) hw' hv' hh' hs.2 zO0 h99 hD
     have hlab := A1X us h' w (l + 1)
     refine ⟨by rw [N0, O1, A2u ha, i1], ?_, ?_⟩
     ·rw [P0, Bool.and_eq_true]
      exact ⟨B7C hs.1 c1 (hv a' List.mem_cons_self) c2 zO0 zO0 hD, i2⟩
     ·simp only [I3, B6u]; omega
def B12 (cx : Cx) (t : Tm) (D l : Int) (u : Tm) (a : Ty) (l' : Int) : Prop := O9 40 13 u D = true ∧ I7 cx u = some a ∧ H7 a = true ∧ l ≤ l' ∧ l' + 1 ≤ l + (H9 t : Int) ∧ (H9 u : Int) ≤ H9 t + (l' - l)
theorem A79 (ks : List Tm) (ih : ∀ t ∈ ks, ∀ (d D : Int) (cx : Cx) (l : Int) (u : Tm) (a : Ty) (l' : Int), O9 12 14 t d = true → cxV cx → 0 ≤ l → P5 cx t l = some (u, a, l') → l' ≤ 99 → D + 2 * (13 - d) ≤ 41 → B12 cx t D l u a l') :
  ∀ (d D : Int) (cx : Cx) (l : Int) (us : List Tm) (h : List Ty) (l' : Int), P0 12 14 ks d = true → cxV cx → 0 ≤ l → O2 cx ks l = some (us, h, l') → l' ≤ 99 → D + 2 * (13 - d) ≤ 41 →
   P0 40 13 us D = true ∧ N0 cx us = some h ∧ (∀ a ∈ h, H7 a = true) ∧ l ≤ l' ∧ l' + ks.length ≤ l + (I3 ks : Int) ∧ (I3 us : Int) ≤ I3 ks + (l' - l) ∧ h.length = ks.length ∧ us.length = ks.length := by
 induction ks with
 | nil =>
  intro d D cx l us h l' _ _ _ he _ _
  simp only [O2, Option.some.injEq, Prod.mk.injEq] at he
  obtain ⟨rfl, rfl, rfl⟩ := he
  simp [P0, N0, I3]
 | cons t ts ihl =>
  intro d D cx l us h l' hs hcx hl he h99 hD
  rw [P0, Bool.and_eq_true] at hs
  rw [O2] at he
  split at he
  ·cases he
  ·rename_i u a l1 h1
   split at he
   ·cases he
   ·rename_i us' h' l2 h2
    simp only [Option.some.injEq, Prod.mk.injEq] at he
    obtain ⟨rfl, rfl, rfl⟩ := he
    have hp := B4W t
    
    have hmono : l1 ≤ l2 := by
     have : ∀ (zs : List Tm) (l : Int) us h l', O2 cx zs l = some (us, h, l') → l ≤ l' := by
      intro zs
      induction zs with
      | nil => intro l us h l' he; simp only [O2, Option.some.injEq, Prod.mk.injEq] at he; omega
      | cons z zs ihz =>
       intro l us h l' he
       rw [O2] at he
       split at he
       ·cases he
       ·rename_i u a l1 hz
        split at he
        ·cases he
        ·rename_i us' h' l2 hzs
         simp only [Option.some.injEq, Prod.mk.injEq] at he
         have := ihz _ _ _ _ hzs
         have := el_mono cx z l _ _ _ hz
         omega
     exact this ts l1 us' h' l2 h2
    obtain ⟨a1, a2, a3, a4, a5, a6⟩ := ih t List.mem_cons_self d D cx l u a l1 hs.1 hcx hl h1 zO0 hD
    obtain ⟨b1, b2, b3, b4, b5, b6, b7, b8⟩ := ihl (fun x hx => ih x (List.mem_cons_of_mem _ hx)) d D cx l1 us' h' l2 hs.2 hcx zO0 h2 h99 hD
    refine ⟨by rw [P0, a1, b1]; rfl, by rw [N0, a2, b2], ?_, by omega, ?_, ?_, by simp [b7], by simp [b8]⟩
    ·intro x hx
     rcases List.mem_cons.1 hx with h | h
     ·rw [h]; exact a3
     ·exact b3 x h
    ·simp only [I3, List.length_cons]; omega
    ·simp only [I3]; omega
where
 el_mono (cx : Cx) : ∀ (z : Tm) (l : Int) (u : Tm) (a : Ty) (l' : Int), P5 cx z l = some (u, a, l') → l ≤ l' := by
  intro z
  revert cx
  refine Tm.ind (C := fun z => ∀ (cx : Cx) (l : Int) (u : Tm) (a : Ty) (l' : Int), P5 cx z l = some (u, a, l') → l ≤ l') ?_ z
  intro k nm num ty fr lb ks ih cx l u a l' he
  rw [P5] at he
  have hL : ∀ (zs : List Tm), (∀ t ∈ zs, t ∈ ks) → ∀ (cx : Cx) (l : Int) us h l', O2 cx zs l = some (us, h, l') → l ≤ l' := by
   intro zs
   induction zs with
   | nil => intro _ cx l us h l' he; simp only [O2, Option.some.injEq, Prod.mk.injEq] at he; omega
   | cons z zs ihz =>
    intro hin cx l us h l' he
    rw [O2] at he
    split at he
    ·cases he
    ·rename_i u a l1 hz
     split at he
     ·cases he
     ·rename_i us' h' l2 hzs
      simp only [Option.some.injEq, Prod.mk.injEq] at he
      have := ihz (fun t ht => hin t (List.mem_cons_of_mem _ ht)) _ _ _ _ _ hzs
      have := ih z (hin z List.mem_cons_self) _ l _ _ _ hz
      omega
  split at he
  ·cases he
  ·rename_i us h l1 hk
   have h1 := hL ks (fun _ h => h) _ _ _ _ _ hk
   unfold A2t at he
   split at he
   ·cases he
   ·rename_i w t hn
    simp only [Option.some.injEq, Prod.mk.injEq] at he
    have := A1X us h w l1
    omega
theorem B7D : ∀ (t : Tm) (d D : Int) (cx : Cx) (l : Int) (u : Tm) (a : Ty) (l' : Int), O9 12 14 t d = true → cxV cx → 0 ≤ l → P5 cx t l = some (u, a, l') → l' ≤ 99 → D + 2 * (13 - d) ≤ 41 → B12 cx t D l u a l' := by
 refine Tm.ind fun k nm num ty fr lb ks ih d D cx l u a l' hs hcx hl he h99 hD => ?_
 obtain ⟨hd, h14, h3, h4⟩ := A07 hs
 obtain ⟨n1, n2, n3, n4, n5, n6, n7, n8, n9⟩ := W0.1 h3
 rw [P5] at he
 split at he
 ·cases he
 ·rename_i us h l1 hL
  unfold A2t at he
  split at he
  ·cases he
  ·rename_i w t hN
   simp only [Option.some.injEq, Prod.mk.injEq] at he
   obtain ⟨hu, rfl, rfl⟩ := he
   have hlab := A1X us h w l1
   obtain ⟨b1, b2, b3, b4, b5, b6, b7, b8⟩ := A79 ks ih (d + 1) (D + 2) (L5 cx k nm ty) l us h l1 h4 (A40 hcx fun hk => n6 (.inl hk)) hl hL zO0 zO0
   obtain ⟨hv, hw⟩ := A59 hN
   have hwt := B11 b3 (fun hk => n6 (.inr (.inl hk))) (by rw [b7]; exact n1) h14 hw
   
   obtain ⟨c1, c2, c3⟩ : N0 (L5 cx k nm ty) (J4 us h w l1).1 = some (if w = [] then h else w) ∧ P0 40 13 (J4 us h w l1).1 (D + 1) = true ∧ (I3 (J4 us h w l1).1 : Int) = I3 us + ((J4 us h w l1).2 - l1) := by
    rcases hwt.len with hn | hn
    ·subst hn
     rw [A1b, if_pos rfl]
     refine ⟨b2, ?_, by simp⟩
     exact A6a 40 13 us (D + 2) (D + 1) zO0 b1
    ·by_cases hn0 : w = []
     ·subst hn0
      rw [A1b, if_pos rfl]
      refine ⟨b2, ?_, by simp⟩
      exact A6a 40 13 us (D + 2) (D + 1) zO0 b1
     ·rw [if_neg hn0]
      exact A78 us h w l1 (D + 1) zO0 hn hwt.ok b3 b2 (by rw [show D + 1 + 1 = D + 2 by omega]; exact b1) zO0 h99 zO0
   have hlm := A2w us h w l1
   have hck : H9 (.mk k nm num ty fr lb ks) = I3 ks + 1 := A2r ..
   refine ⟨?_, ?_, hv, by omega, by rw [hck]; omega, ?_⟩
   ·rw [← hu]
    split
    ·rename_i hk
     have hl1 : ks.length = 1 := by rw [hk] at n1; have : E4 13 = 1 := rfl; omega
     have h0 : 0 < (J4 us h w l1).1.length := by omega
     rw [getD0' h0]
     have := (A1Q 40 13 _ _).1 c2 0 h0
     exact A7O 40 13 _ (D + 1) D zO0 this
    ·rename_i hk
     rw [A2P zO0 hk (by rw [hlm, b8]; exact h3)]
     exact c2
   ·rw [← hu]
    split
    ·rename_i hk
     have hl1 : ks.length = 1 := by rw [hk] at n1; have : E4 13 = 1 := rfl; omega
     have h0 : 0 < (J4 us h w l1).1.length := by omega
     rw [getD0' h0]
     rw [hwt.asT hk, if_neg zP0] at c1
     rw [L5, if_neg zO0] at c1
     rw [← hwt.asT hk] at c1
     obtain ⟨x, hx⟩ : ∃ x, (J4 us h w l1).1 = [x] := by
      match hm : (J4 us h w l1).1, (show (J4 us h w l1).1.length = 1 by omega) with
      | [x], _ => exact ⟨x, rfl⟩
     simp only [hx, List.getElem_cons_zero] at c1 ⊢
     obtain ⟨y, hy, he⟩ := A41 c1
     rw [hwt.asT hk] at he
     cases he; exact hy
    ·rename_i hk
     refine A7R c1 h14 hv (hwt.again hk) ?_
     by_cases hn0 : w = []
     ·rw [hn0]; rfl
     ·rw [if_neg hn0]; exact A6c w
   ·rw [← hu, hck]
    split
    ·rename_i hk
     have hl1 : ks.length = 1 := by rw [hk] at n1; have : E4 13 = 1 := rfl; omega
     have h0 : 0 < (J4 us h w l1).1.length := by omega
     rw [getD0' h0]
     have := A9t (List.getElem_mem h0)
     omega
    ·rw [A2r]; omega
where
 getD0' {us : List Tm} (h : 0 < us.length) : us.getD 0 L7 = us[0] := by rw [List.getD_eq_getElem?_getD, List.getElem?_eq_getElem h, Option.getD_some]
theorem B13 : ∀ (t : Tm) (d : Int) (cx : Cx) (l : Int) (u : Tm) (a : Ty) (l' : Int), O9 12 14 t d = true → P5 cx t l = some (u, a, l') → l' + 1 ≤ l + (H9 t : Int) := by
 refine Tm.ind fun k nm num ty fr lb ks ih d cx l u a l' hs he => ?_
 obtain ⟨hd, h14, h3, h4⟩ := A07 hs
 obtain ⟨n1, _⟩ := W0.1 h3
 have hL : ∀ (zs : List Tm), (∀ t ∈ zs, t ∈ ks) → P0 12 14 zs (d + 1) = true → ∀ (cx : Cx) (l : Int) us h l', O2 cx zs l = some (us, h, l') → l' + zs.length ≤ l + (I3 zs : Int) ∧ us.length = zs.length := by
  intro zs
  induction zs with
  | nil => intro _ _ cx l us h l' he; simp only [O2, Option.some.injEq, Prod.mk.injEq] at he; obtain ⟨rfl, _, rfl⟩ := he; simp [I3]
  | cons z zs ihz =>
   intro hin hsz cx l us h l' he
   rw [P0, Bool.and_eq_true] at hsz
   rw [O2] at he
   split at he
   ·cases he
   ·rename_i u a l1 hz
    split at he
    ·cases he
    ·rename_i us' h' l2 hzs
     simp only [Option.some.injEq, Prod.mk.injEq] at he
     obtain ⟨rfl, rfl, rfl⟩ := he
     have h5 := ihz (fun t ht => hin t (List.mem_cons_of_mem _ ht)) hsz.2 _ _ _ _ _ hzs
     have h6 := ih z (hin z List.mem_cons_self) (d + 1) _ l _ _ _ hsz.1 hz
     simp only [I3, List.length_cons]
     exact ⟨by omega, by omega⟩
 rw [P5] at he
 split at he
 ·cases he
 ·rename_i us h l1 hk
  obtain ⟨g1, g2⟩ := hL ks (fun _ h => h) h4 _ _ _ _ _ hk
  unfold A2t at he
  split at he
  ·cases he
  ·rename_i w t hn
   simp only [Option.some.injEq, Prod.mk.injEq] at he
   have := A1X us h w l1
   have hck : H9 (.mk k nm num ty fr lb ks) = I3 ks + 1 := A2r ..
   rw [hck]; omega
theorem A45 (h : S4 e = some (u, t)) : P7 u = true ∧ I7 [] u = some t ∧ H7 t = true := by
 unfold S4 at h
 split at h
 ·rename_i hv
  obtain ⟨h1, h2⟩ := (A2R e).1 hv
  split at h
  ·rename_i u' t' l' he
   cases h
   have hl : l' ≤ 99 := by
    have := A79.el_mono [] e 0 _ _ _ he
    have h3 : ∀ (t : Tm) (cx : Cx) (l : Int) (u : Tm) (a : Ty) (l' : Int), P5 cx t l = some (u, a, l') → l' ≤ l + 4 * (H9 t : Int) → True := fun _ _ _ _ _ _ _ _ => trivial
    exact el_lab e 1 h1 zO0 he
   obtain ⟨g1, g2, g3, g4, g5, g6⟩ := B7D e 1 1 [] 0 u t l' h1 A4Z zO0 he hl zO0
   exact ⟨(A5T u).2 ⟨g1, by omega⟩, g2, g3⟩
  ·cases h
 ·cases h
where
 el_lab (e : Tm) (d : Int) (h1 : O9 12 14 e d = true) (h2 : H9 e ≤ 30) {u : Tm} {t : Ty} {l' : Int} (he : P5 [] e 0 = some (u, t, l')) : l' ≤ 99 := by
  have := B13 e d [] 0 u t l' h1 he
  omega
def Q1 (o : Option Ty) (G : IM) : IM → Value → List A9 → Prop := M3 fun G' v => ∃ t cells, v = .tuple ⟨[.agg ⟨cells⟩, .bool o.isSome]⟩ ∧ C6 G' t cells ∧ H8 t ∧ ∀ u, o = some u → u = t
variable {o : Option Ty} {G' : IM}
theorem Q1.yes (h : o = some t) (hr : C6 G' t cells) (ha : H8 t) : Q1 o G G' (.tuple ⟨[.agg ⟨cells⟩, .bool true]⟩) [] := by
 subst h; exact ⟨rfl, t, cells, rfl, hr, ha, fun u h => (by cases h; rfl)⟩
theorem Q1.no (h : o = none) (hr : C6 G' t cells) (ha : H8 t) : Q1 o G G' (.tuple ⟨[.agg ⟨cells⟩, .bool false]⟩) [] := by
 subst h; exact ⟨rfl, t, cells, rfl, hr, ha, fun u h => (by cases h)⟩
theorem Q1.mk {b : Bool} (h : o = if b = true then some t else none) (hr : C6 G' t cells) (ha : H8 t) : Q1 o G G' (.tuple ⟨[.agg ⟨cells⟩, .bool b]⟩) [] := by
 cases b
 ·exact Q1.no h hr ha
 ·exact Q1.yes h hr ha
theorem B7E (h : H7 t = true) : H8 t := (A4O h).1
theorem A3r (k : Int) (a b : Ty) (G : IM) (ca cb : List Value) (hk : k = 4 ∨ k = 5) (ha : H8 a) (hb : H8 b) (hra : C6 G a ca) (hrb : C6 G b cb) :
  Fn prog 149 [.int .i64 k, .agg ⟨ca⟩, .agg ⟨cb⟩] [] G (M3 fun G' v => ∃ cells, v = .tuple ⟨[.agg ⟨cells⟩, .bool (H7 (.mk k [a, b]))]⟩ ∧ C6 G' (.mk k [a, b]) cells) := by
 obtain ⟨ak, aks⟩ := a
 obtain ⟨bk, bks⟩ := b
 obtain ⟨pa, cca, ea, rfl, _⟩ := hra.open
 obtain ⟨pb, ccb, eb, rfl, _⟩ := hrb.open
 have hki : F8 k := ⟨by omega, by omega⟩
 refine C4 func149 rfl ntmps149 results149 rfl ?_
 intro w0
 refine A5 ?_
 refine zf2 (fun b3 => ?_)
 refine zf2 (fun b4 => ?_)
 refine zf1 (fun b5 => ?_)
 refine B6 ?_
 refine zf6 ?_
 refine xx3 0 1 3 ?_
 refine N5 (j := 2) (j' := 7) zM0 ?_ ?_
 (refine E6 rfl rfl (W3 _ G _ ha.small hra) rfl rfl rfl (fun v G1 hle1 hh => ?_); obtain ⟨cs1, F1, rfl, hs1, hn1⟩ := hh; obtain ⟨p1, c1, rfl, _⟩ := hs1.open; have hC2 := W3 _ G1 _ hb.small (hrb.mono hle1))
 refine N5 (j := 4) (j' := 7) zM0 ?_ ?_
 (refine E6 rfl rfl hC2 rfl rfl rfl (fun v G2 hle2 hh => ?_); obtain ⟨cs2, F2, rfl, hs2, hn2⟩ := hh; obtain ⟨p2, c2, rfl, _⟩ := hs2.open; have hr1 := hs1.R.mono ((E8.le G1 G).trans hle2); have hr2 := hs2.R.mono (E8.le G2 G1))
 refine N5 (j := 5) (j' := 7) zM0 ?_ ?_
 refine zf3 (fun b19 => ?_)
 refine xx1 6 ?_
 refine A2 7 ?_
 refine zf10 (fun b22 => ?_)
 exact y25
 refine zf10 (fun b41 => ?_)
 refine A2 5 ?_
 refine zf3 (fun b43 => ?_)
 refine xx1 6 ?_
 exact y25
 refine zf10 (fun b63 => ?_)
 refine A2 4 ?_
 (refine E6 rfl rfl hC2 rfl rfl rfl (fun v G2 hle2 hh => ?_); obtain ⟨cs2, F2, rfl, hs2, hn2⟩ := hh; obtain ⟨p2, c2, rfl, _⟩ := hs2.open; have hr1 := hs1.R.mono ((E8.le G1 G).trans hle2); have hr2 := hs2.R.mono (E8.le G2 G1))
 refine A2 5 ?_
 refine zf3 (fun b67 => ?_)
 refine xx1 6 ?_
 exact y25
 refine zf10 (fun b87 => ?_)
 refine A2 2 ?_
 (refine E6 rfl rfl (W3 _ G _ ha.small hra) rfl rfl rfl (fun v G1 hle1 hh => ?_); obtain ⟨cs1, F1, rfl, hs1, hn1⟩ := hh; obtain ⟨p1, c1, rfl, _⟩ := hs1.open; have hC2 := W3 _ G1 _ hb.small (hrb.mono hle1))
 refine A2 4 ?_
 (refine E6 rfl rfl hC2 rfl rfl rfl (fun v G2 hle2 hh => ?_); obtain ⟨cs2, F2, rfl, hs2, hn2⟩ := hh; obtain ⟨p2, c2, rfl, _⟩ := hs2.open; have hr1 := hs1.R.mono ((E8.le G1 G).trans hle2); have hr2 := hs2.R.mono (E8.le G2 G1))
 refine A2 5 ?_
 refine zf3 (fun b93 => ?_)
 refine xx1 6 ?_
 exact y25
theorem A4a (k : Int) (t : Ty) (G : IM) (cells : List Value) (hk : k = 4 ∨ k = 5) (ha : H8 t) (hr : C6 G t cells) :
  Fn prog 175 [.int .i64 k, .agg ⟨cells⟩] [] G (B0O k t G) := by
 obtain ⟨tk, ks⟩ := t
 have ha2 := ha
 rw [H8] at ha2
 have hkid := ha.kid
 obtain ⟨p, c, es, rfl, htk, hsl, hkl⟩ := hr.open
 simp only [Ty.k, Ty.ks] at htk hsl hkl ⊢
 refine C4 func175 rfl ntmps175 results175 rfl ?_
 intro w0
 refine A5 ?_
 refine zf2 (fun b3 => ?_)
 refine zf1 (fun b4 => ?_)
 refine zf1 (fun b5 => ?_)
 refine D4 ?_
 refine zf0 (fun h14 => ?_) (fun h14 => ?_)
 refine B1 ?_
 refine F0 rfl ((A2n _)) rfl rfl ?_
 refine F0 rfl ((A2n _)) rfl rfl ?_
 refine B8 ?_
 refine zf20 ?_
 (refine ⟨rfl, _, _, _, _, ?_, A06 _, A06 _, A4H, A4H, ?_⟩ <;> rw [A1I, if_neg zO0, if_pos zO0] <;> first | rfl | (intro p hp; cases hp; rfl))
 refine J3 ?_
 refine zf16 (fun h42 => ?_) (fun h42 => ?_)
 refine K5 ?_
 refine zf20 ?_
 (refine ⟨rfl, C5, _, C5, _, ?_, N2 _ ⟨by omega, by omega⟩, N2 _ ⟨by omega, by omega⟩, S8 zO0 zO0, S8 zO0 zO0, ?_⟩ <;> rw [A1I, if_neg zO0, if_neg zO0] <;> first | rfl | (intro p hp; cases hp))
 refine A7 ?_
 (have hlen : ks.length = 2 := ha2.1 zO0; obtain ⟨b, o, q0, d0, hp0, hat0, hre0, hg0⟩ := hsl.kidTy hkl (i := 0) zO0 zO0; obtain ⟨b', o', q1, d1, hp1, hat1, hre1, hg1⟩ := hsl.kidTy hkl (i := 1) zO0 zO0; subst hp0; cases hp1; have hC1 := W3 _ G _ (hkid _ (List.getElem_mem zO0)).small hre0; refine zdd D9 rfl ?_)
 refine xx8 0 1 2 3 5 6 7 8 ?_
 refine A2 4 ?_
 (refine E6 rfl rfl hC1 rfl rfl rfl (fun v G1 hle1 hh => ?_); obtain ⟨cs1, F1, rfl, hs1, hn1⟩ := hh; obtain ⟨p1, c1, rfl, _⟩ := hs1.open; have hC2 := W3 _ G1 _ (hkid _ (List.getElem_mem zO0)).small (hre1.mono hle1))
 refine A2 9 ?_
 (refine E6 rfl rfl hC2 rfl rfl rfl (fun v G2 hle2 hh => ?_); obtain ⟨cs2, F2, rfl, hs2, hn2⟩ := hh; obtain ⟨p2, c2, rfl, _⟩ := hs2.open; have hr1 := hs1.R.mono ((E8.le G1 G).trans hle2); have hr2 := hs2.R.mono (E8.le G2 G1))
 refine A2 10 ?_
 refine E9 rfl ?_
 refine A2 11 ?_
 refine R8 rfl rfl rfl rfl rfl rfl rfl rfl zK0 zC0 (by rfl) ?_
 refine xx1 12 ?_
 refine B5 ?_
 refine zf20 ?_
 (refine ⟨rfl, _, _, _, _, ?_, hr1, hr2, hkid _ (List.getElem_mem zO0), hkid _ (List.getElem_mem zO0), ?_⟩ <;> rw [A1I, if_pos zO0] <;> first | rfl | (intro p hp; cases hp; simp [hlen]))
theorem B7F (G : IM) (cx : Cx) (hv : cxV cx) (p : Option Addr) (n c : Nat) (nm : ByteArray) (hx : S9 G cx p n c) :
  Fn prog 171 [.slice p n c, .string nm] [] G (Q1 (Q0 cx nm) G) := by
 have hn := hx.le
 refine C4 func171 rfl ntmps171 results171 rfl ?_
 intro w0
 refine A5 ?_
 refine zf1 (fun b3 => ?_)
 refine D4 ?_
 refine zf14 ?_
 refine B5 ?_
 refine C2 ?_
 (refine K2 (fun (i : Nat) => ⟨[(6, .int .i64 ((i : Int) - 1)), (0, .slice p n c), (1, .string nm), (4, .pointer (some ⟨b3, 0, none⟩))], [.blk b3 [.int .i64 0, .slice none 0 0]], G⟩) (fun i => i ≤ n ∧ Q0 cx nm = X1 cx nm i) (fun i => i) n ?_ ?_ ?_)
 exact E3
 (exact ⟨Nat.le_refl _, by unfold Q0; rw [hx.1]⟩)
 (rintro i ⟨hi, hlk⟩)
 refine B6 ?_
 refine sB (A1g rfl rfl) rfl rfl (fun h25 => ?_) (fun h25 => ?_)
 refine A7 ?_
 (show J9 _ _ (.block 1 _) _ _; obtain ⟨j, rfl⟩ : ∃ j, i = j + 1 := ⟨i - 1, by omega⟩; rw [show ((j + 1 : Nat) : Int) - 1 = (j : Int) from by omega]; obtain ⟨b, o, nm1, t1, q1, d1, hcx, rfl, hat, hr1, hgb⟩ := hx.get (i := j) zO0; have ha1 := B7E (hv _ (List.mem_of_getElem? hcx)); refine C2 ?_)
 refine B6 ?_
 refine sP (B2 rfl rfl rfl zO0) rfl rfl ?_
 refine I0 ?_
 refine sL (A0t rfl rfl ((hat _).sub (j := 0) rfl)) rfl rfl ?_
 refine I0 ?_
 refine sB (A1h rfl rfl) rfl rfl (fun h41 => ?_) (fun h41 => ?_)
 refine B8 ?_
 refine sP (B2 rfl rfl rfl zO0) rfl rfl ?_
 refine I0 ?_
 refine sL (A3 rfl rfl (hat _).drop rfl) rfl rfl ?_
 (refine H6 rfl (W3 _ G _ ha1.small hr1) rfl rfl (fun v G1 hle1 hh => ?_); obtain ⟨cs1, F1, rfl, hs1', hn1⟩ := hh; obtain ⟨p1, c1, rfl, _⟩ := hs1'.open; have hrr := hs1'.R.mono (E8.le G1 G))
 refine I9 ?_
 refine zf5 ?_
 (exact Q1.yes (by rw [hlk]; exact A4K hcx zL0) hrr ha1)
 refine D4 ?_
 refine zf14 ?_
 refine A5 ?_
 refine J7 j ?_ ?_ ?_
 exact E3
 (exact ⟨by omega, by rw [hlk]; exact A4L hcx zL0⟩)
 (show _ < _ + 1; omega)
 refine L9 ?_
 refine zf5 ?_
 (obtain rfl : i = 0 := zO0; exact Q1.no (by rw [hlk]; rfl) (N2 _ ⟨by omega, by omega⟩) (S8 zO0 zO0))
theorem A6f : ∀ (xs ys : List Ty), xs.length = ys.length → (W2 xs ys).length = xs.length
 | [], [], _ => rfl
 | a :: xs, b :: ys, h => by simp only [W2, List.length_cons]; rw [A6f xs ys (by simpa using h)]
 | [], b :: ys, h => by simp at h
 | a :: xs, [], h => by simp at h
theorem A8a : ∀ (xs ys : List Ty) (i : Nat) (h : i < xs.length) (h' : i < ys.length) (hl : i < (W2 xs ys).length), (W2 xs ys)[i] = X2 xs[i] ys[i]
 | [], _, i, h, _, _ => by simp at h
 | a :: xs, [], i, _, h', _ => by simp at h'
 | a :: xs, b :: ys, 0, _, _, _ => by simp [W2]
 | a :: xs, b :: ys, i + 1, h, h', hl => by
  simp only [W2, List.getElem_cons_succ]
  exact A8a xs ys i (by simpa using h) (by simpa using h') _
theorem B7G {xs ys : List Ty} (hl : xs.length = ys.length) (h : i < xs.length) : (W2 xs ys).take (i + 1) = (W2 xs ys).take i ++ [X2 xs[i] (ys[i]'zO0)] := by
 rw [List.take_succ_eq_append_getElem (by rw [A6f _ _ hl]; exact h), A8a _ _ i h zO0]
theorem B7H : ∀ (a b : Ty) (G : IM) (ca cb : List Value), K8 a b = true → H8 a → H8 b → C6 G a ca → C6 G b cb → Fn prog 194 [.agg ⟨ca⟩, .agg ⟨cb⟩] [] G (M3 fun G' v => ∃ cells, v = .agg ⟨cells⟩ ∧ C6 G' (X2 a b) cells) := by
 refine Ty.ind fun ak aks ih b G ca cb hc ha hb hra hrb => ?_
 obtain ⟨bk, bks⟩ := b
 have hka := ha.kid
 have hkb := hb.kid
 have hca := W3 _ G _ ha.small hra
 have hcb := W3 _ G _ hb.small hrb
 have hcc : ak ≠ 1 → bk ≠ 1 → aks.length = bks.length ∧ ∀ i, (h : i < aks.length) → (h' : i < bks.length) → K8 aks[i] bks[i] = true := by
  intro h1 h2
  rw [T6, decide_eq_false h1, decide_eq_false h2] at hc
  simp only [Bool.false_or, Bool.and_eq_true, decide_eq_true_eq] at hc
  exact (A2K _ _).1 hc.2
 rw [A3U]
 obtain ⟨pa, cca, ea, rfl, hak, hsla, hkla⟩ := hra.open
 obtain ⟨pb, ccb, eb, rfl, hbk, hslb, hklb⟩ := hrb.open
 simp only [Ty.k, Ty.ks] at hak hsla hkla hbk hslb hklb ⊢
 have hna := hsla.le
 have hnb := hslb.le
 have hl2 := ha.two
 refine C4 func194 rfl ntmps194 results194 rfl ?_
 intro w0
 refine A5 ?_
 refine zf2 (fun b3 => ?_)
 refine zf2 (fun b4 => ?_)
 refine zf1 (fun b5 => ?_)
 refine B8 ?_
 refine zf0 (fun h13 => ?_) (fun h13 => ?_)
 refine A7 ?_
 (refine H6 rfl (by first | exact hcb | exact hca) rfl rfl (fun v G1 hle1 hh => ?_); obtain ⟨cs1, F1, rfl, hs1, hn1⟩ := hh; obtain ⟨p1, c1, rfl, _⟩ := hs1.open; have hr1 := hs1.R.mono (E8.le G1 G))
 refine B1 ?_
 refine zf9 ?_
 (rw [if_pos zO0]; exact ⟨rfl, _, rfl, hr1⟩)
 refine I9 ?_
 refine zf0 (fun h38 => ?_) (fun h38 => ?_)
 refine A7 ?_
 (refine H6 rfl (by first | exact hcb | exact hca) rfl rfl (fun v G1 hle1 hh => ?_); obtain ⟨cs1, F1, rfl, hs1, hn1⟩ := hh; obtain ⟨p1, c1, rfl, _⟩ := hs1.open; have hr1 := hs1.R.mono (E8.le G1 G))
 refine B1 ?_
 refine zf9 ?_
 (rw [if_neg zO0, if_pos zO0]; exact ⟨rfl, _, rfl, hr1⟩)
 refine I9 ?_
 refine zf1 (fun b63 => ?_)
 refine E1 ?_
 refine C2 ?_
 (obtain ⟨hlab, hcab⟩ := hcc zO0 zO0; refine V1 25 2 ?_; refine K2 (fun (x : Nat × Option Addr × Nat × List Ty × List (List Value) × IM) => ⟨[(6, .int .i64 x.1), (5, .pointer (some ⟨b63, 0, none⟩)), (4, .pointer (some ⟨b5, 0, none⟩)), (2, .pointer (some ⟨b3, 0, none⟩)), (3, .pointer (some ⟨b4, 0, none⟩))], [.blk b63 [.int .i64 ak, .slice x.2.1 x.1 x.2.2.1], .slc x.2.1 x.2.2.1 25 2 x.1 x.2.2.2.2.1.flatten, .blk b5 [.int .i64 0, .slice none 0 0], .blk b4 [.int .i64 bk, .slice pb bks.length ccb], .blk b3 [.int .i64 ak, .slice pa aks.length cca]], x.2.2.2.2.2⟩) (fun x => x.1 ≤ aks.length ∧ C3 G x.2.2.2.2.2 ∧ x.2.2.2.1.length = x.1 ∧ E7 x.2.2.2.2.2 x.2.2.2.1 x.2.2.2.2.1 ∧ x.2.2.2.1 = (W2 aks bks).take x.1) (fun x => aks.length - x.1) (0, none, 0, [], [], G) ?_ ?_ ?_)
 (simp only [J5]; exact E3)
 (exact ⟨by simp, C3.refl _, rfl, by simp [E7], rfl⟩)
 (rintro ⟨i, pn, cn, us, es', Gi⟩ ⟨hi, hle, hlu, hst, hus⟩; simp only [] at hi hle hlu hst hus ⊢; replace hsla := hsla.mono hle; replace hkla := hkla.mono hle; replace hslb := hslb.mono hle; replace hklb := hklb.mono hle)
 refine B8 ?_
 refine zf8 (fun h85 => ?_) (fun h85 => ?_)
 refine A7 ?_
 refine C2 ?_
 (obtain ⟨b, o, q0, d0, hp0, hat0, hre0, hg0⟩ := hsla.kidTy hkla (i := i) zO0 zO0; obtain ⟨b', o', q1, d1, hp1, hat1, hre1, hg1⟩ := hslb.kidTy hklb (i := i) zO0 zO0; subst hp0; subst hp1; have hih := ih aks[i] (List.getElem_mem zO0) bks[i] Gi _ _ (hcab i zO0 zO0) (hka _ (List.getElem_mem zO0)) (hkb _ (List.getElem_mem zO0)) hre0 hre1; refine zdd D9 rfl ?_)
 refine xx5 0 1 2 3 4 ?_
 refine aP 5 rfl (B2 rfl rfl rfl zO0) rfl ?_
 refine xx4 6 7 8 9 ?_
 refine aP 10 rfl (B2 rfl rfl rfl zO0) rfl ?_
 refine xx1 11 ?_
 refine A2 12 ?_
 (refine E6 rfl rfl hih rfl rfl rfl (fun v G1 hle1 hh => ?_); obtain ⟨cells', rfl, hru⟩ := hh; generalize hu : X2 aks[i] bks[i] = u at hru; obtain ⟨p3, c3, es3, rfl, _⟩ := hru.open)
 refine A2 13 ?_
 refine zf3 (fun b109 => ?_)
 refine A2 14 ?_
 refine R4 rfl rfl rfl rfl rfl rfl (fun _ _ => by repeat (first | exact Sw.here | apply Sw.there)) (O4 zG0) rfl zI0 zJ0 zO0 rfl rfl zK (fun pn' cn' => ?_)
 refine xx1 15 ?_
 refine A2 16 ?_
 refine R8 rfl rfl rfl rfl rfl rfl rfl rfl zK0 zC0 (by rfl) ?_
 refine B1 ?_
 refine zf4 ?_
 refine A5 ?_
 refine J7 (i + 1, pn', cn', us ++ [u], es' ++ [[.int .i64 u.k, .slice p3 u.ks.length c3]], G1) ?_ ?_ ?_
 (simp only [J5]; exact E3)
 (dsimp only; exact ⟨by omega, hle.trans hle1, by simp [hlu], E7.snoc (hst.mono hle1) hru, by rw [B7G hlab zO0, ← hus, hu]⟩)
 (show aks.length - (i + 1) < aks.length - i; omega)
 refine K5 ?_
 (refine H1 zB0 (fun G2 hle2 hsl2 hno2 => ?_); obtain rfl : i = aks.length := zO0)
 refine tT ?_
 refine zf9 ?_
 (rw [List.take_of_length_le (by rw [A6f _ _ hlab]; omega)] at hus; rw [if_neg zO0, if_neg zO0, ← hus]; exact ⟨rfl, _, rfl, (hst.mono hle2).ty hlu hsl2 hak⟩)
theorem gD {ts : List Ty} (h : i < ts.length) : ts.getD i C5 = ts[i] := by rw [List.getD_eq_getElem?_getD, List.getElem?_eq_getElem h, Option.getD_some]
section
variable {cx : Cx} {k : Int} {nm : ByteArray} {ty : Ty} {ts : List Ty}
theorem B14 (h : 1 < ts.length) : Z4 cx 6 nm ty ts = match S7 4 ts[0] with | some (a, b) => if K8 ts[1] a = true then some b else none | none => none := by
 unfold Z4 M0
 rw [gD (i := 0) zO0, gD (i := 1) h]
 simp only [show ¬((6 : Int) = 1) by decide, show ¬((6 : Int) = 2) by decide, show ¬((6 : Int) = 3 ∨ (6 : Int) = 4) by decide, show ¬((6 : Int) = 5) by decide, if_false, if_true]
 cases S7 4 ts[0] with
 | none => rfl
 | some p =>
  obtain ⟨a, b⟩ := p
  by_cases hc : K8 ts[1] a = true
  ·simp [hc]
  ·simp [hc]
theorem A6g (hk : k = 7 ∨ k = 8) (h : 1 < ts.length) : Z4 cx k nm ty ts = if K8 ts[0] Q7 = true ∧ K8 ts[1] Q7 = true then some (if k = 8 then V4 else Q7) else none := by
 unfold Z4 M0
 rw [gD (i := 0) zO0, gD (i := 1) h, if_neg zO0, if_neg zO0, if_neg zO0, if_neg zO0, if_neg zO0, if_pos hk]
 by_cases hc : K8 ts[0] Q7 = true ∧ K8 ts[1] Q7 = true
 ·rw [if_pos hc, if_pos hc]; simp only; rw [if_neg zO0]
 ·rw [if_neg hc, if_neg hc]
theorem B15 (h : 2 < ts.length) : Z4 cx 9 nm ty ts = if K8 ts[0] V4 = true ∧ K8 ts[1] ts[2] = true then some (X2 ts[1] ts[2]) else none := by
 unfold Z4 M0
 rw [gD (i := 0) zO0, gD (i := 1) zO0, gD (i := 2) h, if_neg zO0, if_neg zO0, if_neg zO0, if_neg zO0, if_neg zO0, if_neg zO0, if_pos rfl]
 by_cases hc : K8 ts[0] V4 = true ∧ K8 ts[1] ts[2] = true
 ·rw [if_pos hc, if_pos hc]; simp
 ·rw [if_neg hc, if_neg hc]
theorem B7I (h : 1 < ts.length) : Z4 cx 10 nm ty ts = if H7 (.mk 5 [ts[0], ts[1]]) = true then some (.mk 5 [ts[0], ts[1]]) else none := by
 unfold Z4 M0
 rw [gD (i := 0) zO0, gD (i := 1) h, if_neg zO0, if_neg zO0, if_neg zO0, if_neg zO0, if_neg zO0, if_neg zO0, if_neg zO0, if_pos rfl]
 cases hv : H7 (.mk 5 [ts[0], ts[1]]) <;> simp [hv]
theorem B7J (h : 0 < ts.length) : Z4 cx 13 nm ty ts = if K8 ts[0] ty = true then some ty else none := by
 unfold Z4 M0
 rw [gD (i := 0) h, if_neg zO0, if_neg zO0, if_neg zO0, if_neg zO0, if_neg zO0, if_neg zO0, if_neg zO0, if_neg zO0, if_pos rfl]
 by_cases hc : K8 ts[0] ty = true
 ·rw [if_pos hc, if_pos hc]; simp
 ·rw [if_neg hc, if_neg hc]
theorem A6h (hk : k = 11 ∨ k = 12) (h : 0 < ts.length) : Z4 cx k nm ty ts = match S7 5 ts[0] with | some (a, b) => some (if k = 12 then b else a) | none => none := by
 unfold Z4 M0
 rw [gD (i := 0) h, if_neg zO0, if_neg zO0, if_neg zO0, if_neg zO0, if_neg zO0, if_neg zO0, if_neg zO0, if_neg zO0, if_neg zO0]
 cases S7 5 ts[0] with
 | none => rfl
 | some p =>
  obtain ⟨a, b⟩ := p
  simp only
  rw [if_neg zO0]
end
theorem B7K : ∀ (a b : Ty), K8 a b = true → H8 a → H8 b → H8 (X2 a b) := by
 refine Ty.ind fun k ks ih b hc ha hb => ?_
 obtain ⟨k', ks'⟩ := b
 rw [A3U]
 split
 ·exact hb
 ·split
  ·exact ha
  ·rw [T6] at hc
   simp only [Bool.or_eq_true, Bool.and_eq_true, decide_eq_true_eq] at hc
   obtain ⟨hk, hl⟩ : k = k' ∧ O0 ks ks' = true := by
    rcases hc with (h | h) | h
    ·contradiction
    ·contradiction
    ·exact h
   obtain ⟨hll, hcc⟩ := (A2K _ _).1 hl
   have hlen := A6f ks ks' hll
   refine B0G ha hlen fun u hu => ?_
   obtain ⟨i, hi, rfl⟩ := List.mem_iff_getElem.1 hu
   rw [A8a ks ks' i zO0 zO0]
   exact ih _ (List.getElem_mem _) _ (hcc i zO0 zO0) (ha.kid _ (List.getElem_mem _)) (hb.kid _ (List.getElem_mem _))
theorem B7L (cx : Cx) (k : Int) (nm : ByteArray) (num : Int) (ty fr : Ty) (lb : Int) (ks : List Tm) (ts : List Ty) (G : IM) (cells : List Value) (p : Option Addr) (c : Nat) (es : List (List Value))
  (hops : E4 k = ts.length) (hk6 : 6 ≤ k ∧ k ≤ 13) (hty : H8 ty) (hr : B7 G (.mk k nm num ty fr lb ks) cells) (hsl : D7 G p ts.length c 2 es) (hkl : E7 G ts es) (har : ∀ t ∈ ts, H8 t) :
  Fn prog 174 [.agg ⟨cells⟩, .slice p ts.length c] [] G (Q1 (Z4 cx k nm ty ts) G) := by
 have hone := hr.one
 have hop := A3Y hops
 have ha0 := fun h : 0 < ts.length => har _ (List.getElem_mem h)
 have ha1 := fun h : 1 < ts.length => har _ (List.getElem_mem h)
 have ha2 := fun h : 2 < ts.length => har _ (List.getElem_mem h)
 obtain ⟨tk, tks⟩ := ty
 obtain ⟨fk, fks⟩ := fr
 obtain ⟨pt, ct, pf, cf, pk, ck, ek, rfl, hk, hnum, hlb, hrty, hrfr, _, _⟩ := hr.open9
 refine C4 func174 rfl ntmps174 results174 rfl ?_
 intro w0
 refine A5 ?_
 refine zf2 (fun b3 => ?_)
 refine zf1 (fun b4 => ?_)
 refine I9 ?_
 refine C2 (tS (tR (sB (qE rfl rfl) rfl rfl (fun h18 => ?_) (fun h18 => ?_))))
 refine B8 ?_
 (have hl2 : ts.length = 2 := hop.1 zO0; obtain ⟨b0, o0, q0, d0, hp0, hat0, hre0, hg0⟩ := hsl.kidTy hkl (i := 0) zO0 zO0; obtain ⟨b1, o1, q1, d1, hp1, hat1, hre1, hg1⟩ := hsl.kidTy hkl (i := 1) zO0 zO0; cases hp0; cases hp1; refine sP (B2 (j := 0) rfl rfl rfl zO0) rfl rfl ?_)
 refine sL (A3 rfl rfl (hat0 _) rfl) rfl rfl ?_
 focus (refine H6 rfl (A4a 4 ts[0] G _ (.inl rfl) (ha0 zO0) hre0) rfl rfl (fun v G1 hle1 hh => ?_); obtain ⟨ma, mca, mb, mcb, rfl, hma, hmb, hma2, hmb2, hpp⟩ := hh; obtain ⟨p1, c1, e1, rfl, _⟩ := hma.open; obtain ⟨p2, c2, e2, rfl, _⟩ := hmb.open; replace hsl := hsl.mono hle1; replace hkl := hkl.mono hle1; rcases hm : S7 4 ts[0] with _ | pr; rotate_left; obtain rfl := hpp _ hm; rotate_left; all_goals simp only [Option.isSome])
 refine B6 ?_
 refine zf1 (fun b33 => ?_)
 refine zf1 (fun b34 => ?_)
 refine A7 ?_
 (have hl2 : ts.length = 2 := hop.1 zO0; obtain ⟨b0, o0, q0, d0, hp0, hat0, hre0, hg0⟩ := hsl.kidTy hkl (i := 0) zO0 zO0; obtain ⟨b1, o1, q1, d1, hp1, hat1, hre1, hg1⟩ := hsl.kidTy hkl (i := 1) zO0 zO0; cases hp0; cases hp1; refine zdd D9 rfl ?_)
 refine xx9 0 1 2 3 4 5 6 7 8 ?_
 refine A2 9 ?_
 refine E9 rfl ?_
 refine xx1 10 ?_
 refine B1 ?_
 refine zf5 ?_
 (obtain rfl : k = 6 := zO0; exact Q1.no (by rw [B14 zO0, hm]) hmb hmb2)
 refine B6 ?_
 refine zf1 (fun b65 => ?_)
 refine zf1 (fun b66 => ?_)
 refine A7 ?_
 (have hl2 : ts.length = 2 := hop.1 zO0; obtain ⟨b0, o0, q0, d0, hp0, hat0, hre0, hg0⟩ := hsl.kidTy hkl (i := 0) zO0 zO0; obtain ⟨b1, o1, q1, d1, hp1, hat1, hre1, hg1⟩ := hsl.kidTy hkl (i := 1) zO0 zO0; cases hp0; cases hp1; refine zdd D9 rfl ?_)
 refine xx7 0 1 2 3 4 5 6 ?_
 refine A2 7 ?_
 refine M9 rfl rfl ((A2p ts[1] ma _ _ _ (ha1 zO0) hma2 hre1 hma)) rfl rfl rfl ?_
 refine xx1 8 ?_
 refine A2 9 ?_
 refine E9 rfl ?_
 refine xx1 10 ?_
 refine B1 ?_
 refine zf5 ?_
 (obtain rfl : k = 6 := zO0; exact Q1.mk (by rw [B14 zO0, hm]) hmb hmb2)
 refine A7 ?_
 refine zf0 (fun h100 => ?_) (fun h100 => ?_)
 refine B1 ?_
 (have hl2 : ts.length = 2 := hop.1 zO0; obtain ⟨b0, o0, q0, d0, hp0, hat0, hre0, hg0⟩ := hsl.kidTy hkl (i := 0) zO0 zO0; obtain ⟨b1, o1, q1, d1, hp1, hat1, hre1, hg1⟩ := hsl.kidTy hkl (i := 1) zO0 zO0; cases hp0; cases hp1; refine zdd D9 rfl ?_)
 refine xx3 1 2 3 ?_
 refine A2 0 ?_
 refine M9 rfl rfl ((A0X _)) rfl rfl rfl ?_
 refine A2 4 ?_
 refine M9 rfl rfl ((A0X _)) rfl rfl rfl ?_
 refine A2 5 ?_
 refine V2 rfl rfl ((A2p ts[0] (.mk 2 []) _ _ _ (ha0 zO0) (S8 zN0 zN0) hre0 (N2 _ ⟨by omega, by omega⟩))) rfl rfl rfl (fun h115 => ?_) (fun h115 => ?_)
 refine xx4 6 7 8 9 ?_
 refine A2 10 ?_
 refine M9 rfl rfl ((A0X _)) rfl rfl rfl ?_
 refine A2 11 ?_
 refine M9 rfl rfl ((A2p ts[1] (.mk 2 []) _ _ _ (ha1 zO0) (S8 zN0 zN0) hre1 (N2 _ ⟨by omega, by omega⟩))) rfl rfl rfl ?_
 refine xx1 12 ?_
 exact y32
 refine xx7 6 7 8 9 10 11 12 ?_
 exact y32
 refine A7 ?_
 refine zf0 (fun h158 => ?_) (fun h158 => ?_)
 refine B1 ?_
 (have hl2 : ts.length = 2 := hop.1 zO0; obtain ⟨b0, o0, q0, d0, hp0, hat0, hre0, hg0⟩ := hsl.kidTy hkl (i := 0) zO0 zO0; obtain ⟨b1, o1, q1, d1, hp1, hat1, hre1, hg1⟩ := hsl.kidTy hkl (i := 1) zO0 zO0; cases hp0; cases hp1; refine zdd D9 rfl ?_)
 refine xx3 1 2 3 ?_
 refine A2 0 ?_
 refine M9 rfl rfl ((A3W _)) rfl rfl rfl ?_
 refine A2 4 ?_
 refine M9 rfl rfl ((A0X _)) rfl rfl rfl ?_
 refine A2 5 ?_
 refine V2 rfl rfl ((A2p ts[0] (.mk 2 []) _ _ _ (ha0 zO0) (S8 zN0 zN0) hre0 (N2 _ ⟨by omega, by omega⟩))) rfl rfl rfl (fun h173 => ?_) (fun h173 => ?_)
 refine xx4 6 7 8 9 ?_
 refine A2 10 ?_
 refine M9 rfl rfl ((A0X _)) rfl rfl rfl ?_
 refine A2 11 ?_
 refine M9 rfl rfl ((A2p ts[1] (.mk 2 []) _ _ _ (ha1 zO0) (S8 zN0 zN0) hre1 (N2 _ ⟨by omega, by omega⟩))) rfl rfl rfl ?_
 refine xx1 12 ?_
 exact y31
 refine xx7 6 7 8 9 10 11 12 ?_
 exact y31
 refine A7 ?_
 refine zf0 (fun h216 => ?_) (fun h216 => ?_)
 refine A7 ?_
 (have hl3 : ts.length = 3 := hop.2.1 zO0; obtain ⟨b0, o0, q0, d0, hp0, hat0, hre0, hg0⟩ := hsl.kidTy hkl (i := 0) zO0 zO0; obtain ⟨b1, o1, q1, d1, hp1, hat1, hre1, hg1⟩ := hsl.kidTy hkl (i := 1) zO0 zO0; obtain ⟨b2, o2, q2, d2, hp2, hat2, hre2, hg2⟩ := hsl.kidTy hkl (i := 2) zO0 zO0; cases hp0; cases hp1; cases hp2; refine zdd D9 rfl ?_)
 refine xx6 0 1 2 3 4 5 ?_
 refine A2 6 ?_
 refine V2 rfl rfl ((A2p ts[1] ts[2] _ _ _ (ha1 zO0) (ha2 zO0) hre1 hre2)) rfl rfl rfl (fun h231 => ?_) (fun h231 => ?_)
 refine xx1 7 ?_
 refine A7 ?_
 (have hl3 : ts.length = 3 := hop.2.1 zO0; obtain ⟨b0, o0, q0, d0, hp0, hat0, hre0, hg0⟩ := hsl.kidTy hkl (i := 0) zO0 zO0; obtain ⟨b1, o1, q1, d1, hp1, hat1, hre1, hg1⟩ := hsl.kidTy hkl (i := 1) zO0 zO0; obtain ⟨b2, o2, q2, d2, hp2, hat2, hre2, hg2⟩ := hsl.kidTy hkl (i := 2) zO0 zO0; cases hp0; cases hp1; cases hp2; refine zdd D9 rfl ?_)
 refine xx9 0 1 2 3 4 5 7 8 9 ?_
 refine A2 6 ?_
 (refine E6 rfl rfl (B7H ts[1] ts[2] G _ _ zL0 (ha1 zO0) (ha2 zO0) hre1 hre2) rfl rfl rfl (fun v G1 hle1 hh => ?_); obtain ⟨mc, rfl, hmr⟩ := hh; obtain ⟨mt, hmt⟩ : ∃ mt, X2 ts[1] ts[2] = mt := ⟨_, rfl⟩; rw [hmt] at hmr; have hma : H8 mt := (hmt ▸ B7K ts[1] ts[2] zL0 (ha1 zO0) (ha2 zO0)); obtain ⟨p1, c1, e1, rfl, _⟩ := hmr.open; have hre0q := hre0.mono hle1)
 refine A2 10 ?_
 refine M9 rfl rfl ((A3W _)) rfl rfl rfl ?_
 refine A2 11 ?_
 refine M9 rfl rfl ((A2p ts[0] (.mk 3 []) _ _ _ (ha0 zO0) (S8 zN0 zN0) hre0q (N2 _ ⟨by omega, by omega⟩))) rfl rfl rfl ?_
 refine A2 12 ?_
 refine E9 rfl ?_
 refine xx1 13 ?_
 refine B1 ?_
 refine zf5 ?_
 (obtain rfl : k = 9 := zO0; exact Q1.mk (by rw [B15 zO0, hmt]; simp_all [V4]) hmr hma)
 refine xx1 7 ?_
 refine K5 ?_
 refine zf5 ?_
 (obtain rfl : k = 9 := zO0; exact Q1.no (by rw [B15 zO0]; simp_all) (N2 _ ⟨by omega, by omega⟩) (S8 zO0 zO0))
 refine A7 ?_
 refine zf0 (fun h288 => ?_) (fun h288 => ?_)
 refine B1 ?_
 (have hl2 : ts.length = 2 := hop.1 zO0; obtain ⟨b0, o0, q0, d0, hp0, hat0, hre0, hg0⟩ := hsl.kidTy hkl (i := 0) zO0 zO0; obtain ⟨b1, o1, q1, d1, hp1, hat1, hre1, hg1⟩ := hsl.kidTy hkl (i := 1) zO0 zO0; cases hp0; cases hp1; refine zdd D9 rfl ?_)
 refine xx6 0 1 2 3 4 5 ?_
 refine A2 6 ?_
 (refine E6 rfl rfl (A3r 5 ts[0] ts[1] G _ _ (.inr rfl) (ha0 zO0) (ha1 zO0) hre0 hre1) rfl rfl rfl (fun v G1 hle1 hh => ?_); obtain ⟨mc, rfl, hmr⟩ := hh; have hma := A5X (.inr rfl) (ha0 zO0) (ha1 zO0); obtain ⟨p1, c1, e1, rfl, _⟩ := hmr.open)
 refine xx2 7 8 ?_
 refine A2 9 ?_
 refine E9 rfl ?_
 refine xx1 10 ?_
 refine B1 ?_
 refine zf5 ?_
 (obtain rfl : k = 10 := zO0; exact Q1.mk (by rw [B7I zO0]) hmr hma)
 refine A7 ?_
 refine zf0 (fun h321 => ?_) (fun h321 => ?_)
 refine B8 ?_
 (have hl1 : ts.length = 1 := hop.2.2 zO0; obtain ⟨b0, o0, q0, d0, hp0, hat0, hre0, hg0⟩ := hsl.kidTy hkl (i := 0) zO0 zO0; cases hp0; refine sP (B2 (j := 0) rfl rfl rfl zO0) rfl rfl ?_)
 refine sL (A3 rfl rfl (hat0 _) rfl) rfl rfl ?_
 focus (refine H6 rfl (A4a 5 ts[0] G _ (.inr rfl) (ha0 zO0) hre0) rfl rfl (fun v G1 hle1 hh => ?_); obtain ⟨ma, mca, mb, mcb, rfl, hma, hmb, hma2, hmb2, hpp⟩ := hh; obtain ⟨p1, c1, e1, rfl, _⟩ := hma.open; obtain ⟨p2, c2, e2, rfl, _⟩ := hmb.open; rcases hm : S7 5 ts[0] with _ | pr; rotate_left; obtain rfl := hpp _ hm; rotate_left; all_goals simp only [Option.isSome])
 refine B6 ?_
 refine zf1 (fun b336 => ?_)
 refine zf1 (fun b337 => ?_)
 refine L9 ?_
 refine zf5 ?_
 (have hk11 : k = 11 := zO0; exact Q1.no (by rw [A6h (.inl hk11) zO0, hm]) hma hma2)
 refine B6 ?_
 refine zf1 (fun b360 => ?_)
 refine zf1 (fun b361 => ?_)
 refine L9 ?_
 refine zf5 ?_
 (have hk11 : k = 11 := zO0; exact Q1.yes (by rw [A6h (.inl hk11) zO0, hm]; simp only; rw [if_neg zO0]) hma hma2)
 refine A7 ?_
 refine zf0 (fun h386 => ?_) (fun h386 => ?_)
 refine B8 ?_
 (have hl1 : ts.length = 1 := hop.2.2 zO0; obtain ⟨b0, o0, q0, d0, hp0, hat0, hre0, hg0⟩ := hsl.kidTy hkl (i := 0) zO0 zO0; cases hp0; refine sP (B2 (j := 0) rfl rfl rfl zO0) rfl rfl ?_)
 refine sL (A3 rfl rfl (hat0 _) rfl) rfl rfl ?_
 focus (refine H6 rfl (A4a 5 ts[0] G _ (.inr rfl) (ha0 zO0) hre0) rfl rfl (fun v G1 hle1 hh => ?_); obtain ⟨ma, mca, mb, mcb, rfl, hma, hmb, hma2, hmb2, hpp⟩ := hh; obtain ⟨p1, c1, e1, rfl, _⟩ := hma.open; obtain ⟨p2, c2, e2, rfl, _⟩ := hmb.open; rcases hm : S7 5 ts[0] with _ | pr; rotate_left; obtain rfl := hpp _ hm; rotate_left; all_goals simp only [Option.isSome])
 refine B6 ?_
 refine zf1 (fun b401 => ?_)
 refine zf1 (fun b402 => ?_)
 refine L9 ?_
 refine zf5 ?_
 (have hk12 : k = 12 := zO0; exact Q1.no (by rw [A6h (.inr hk12) zO0, hm]) hmb hmb2)
 refine B6 ?_
 refine zf1 (fun b425 => ?_)
 refine zf1 (fun b426 => ?_)
 refine L9 ?_
 refine zf5 ?_
 (have hk12 : k = 12 := zO0; exact Q1.yes (by rw [A6h (.inr hk12) zO0, hm]; simp only; rw [if_pos zO0]) hmb hmb2)
 refine A7 ?_
 refine zf12 ?_
 refine B1 ?_
 (have hl1 : ts.length = 1 := hop.2.2 zO0; obtain ⟨b0, o0, q0, d0, hp0, hat0, hre0, hg0⟩ := hsl.kidTy hkl (i := 0) zO0 zO0; cases hp0; refine zdd D9 rfl ?_)
 refine xx7 0 1 3 4 5 6 7 ?_
 refine A2 2 ?_
 (refine E6 rfl rfl (W3 (.mk tk tks) G _ hty.small hrty) rfl rfl rfl (fun v G1 hle1 hh => ?_); obtain ⟨cs1, F1, rfl, hs1, hn1⟩ := hh; obtain ⟨p1, c1, rfl, _⟩ := hs1.open; have hmr := hs1.R.mono (E8.le G1 G); have hre0q := hre0.mono hle1; have hrtyq := hrty.mono hle1)
 refine A2 8 ?_
 refine M9 rfl rfl ((A2p ts[0] (.mk tk tks) _ _ _ (ha0 zO0) hty hre0q hrtyq)) rfl rfl rfl ?_
 refine A2 9 ?_
 refine E9 rfl ?_
 refine xx1 10 ?_
 refine B1 ?_
 refine zf5 ?_
 (obtain rfl : k = 13 := zO0; exact Q1.mk (by rw [B7J zO0]) hmr hty)
section fin
variable {P : Program} {Γ : M5} {env : M8} {hp : List A9} {G : IM}
variable {post : IM → Value → List A9 → Prop}
theorem A3s {r r2 r3 : ResultVar} {v v2 v3 : Value} {outs : List A9} (h : A0u P Γ ⟨env, hp, G⟩ r v) (h2 : A0u P Γ ⟨env, hp, G⟩ r2 v2) (h3 : A0u P Γ ⟨env, hp, G⟩ r3 v3) (ho : A1 hp outs) (hk : post G (.tuple ⟨[v, v2, v3]⟩) outs) :
  A03 P Γ [r, r2, r3] post .ret ⟨env, hp, G⟩ := A86 (.cons h (.cons h2 (.cons h3 .nil))) ho.spec hk
end fin
def CsP (bx : Nat) (e : Tm) (a b : Ty) (l : Int) : IM → Value → List A9 → Prop := fun G' v outs => ∃ cells, v = .agg ⟨cells⟩ ∧ outs = [.blk bx [.int .i64 (if N1 a b = true then l else l + 1)]] ∧ B7 G' (if N1 a b = true then e else O1 e a b (l + 1)) cells
theorem CsP.yes {bx : Nat} (h : N1 a b = true) (hr : B7 G e cells) : CsP bx e a b l G (.agg ⟨cells⟩) [.blk bx [.int .i64 l]] := ⟨cells, rfl, by rw [if_pos h], by rw [if_pos h]; exact hr⟩
theorem CsP.no {bx : Nat} (h : N1 a b = false) (hr : B7 G (O1 e a b (l + 1)) cells) : CsP bx e a b l G (.agg ⟨cells⟩) [.blk bx [.int .i64 (l + 1)]] := ⟨cells, rfl, by rw [if_neg (by rw [h]; decide)], by rw [if_neg (by rw [h]; decide)]; exact hr⟩
theorem B7M (bx : Nat) (e : Tm) (a b : Ty) (l : Int) (G : IM) (ce ca cb : List Value) (hl : -1000000000000 ≤ l ∧ l ≤ 1000000000000) (hre : B7 G e ce) (hra : C6 G a ca) (hrb : C6 G b cb) :
  Fn prog 140 [.pointer (some ⟨bx, 0, none⟩), .agg ⟨ce⟩, .agg ⟨ca⟩, .agg ⟨cb⟩] [.blk bx [.int .i64 l]] G (CsP bx e a b l) := by
 have hel := hre.len
 have heo := hre.one
 have hS := A7I a b G ca cb hra hrb
 obtain ⟨v1, v2, v3, v4, v5, v6, v7, v8, v9, rfl⟩ := nine hel
 obtain ⟨ak, aks⟩ := a
 obtain ⟨bk, bks⟩ := b
 obtain ⟨pa, cca, ea, rfl, hka, _⟩ := hra.open
 obtain ⟨pb, ccb, eb, rfl, hkb, _⟩ := hrb.open
 refine C4 func140 rfl ntmps140 results140 rfl ?_
 intro w0
 refine A5 ?_
 refine zf2 (fun b3 => ?_)
 refine zf2 (fun b4 => ?_)
 refine zf2 (fun b5 => ?_)
 refine zf1 (fun b6 => ?_)
 refine B8 ?_
 refine L4 rfl (hS) rfl rfl (fun h14 => ?_) (fun h14 => ?_)
 refine B1 ?_
 refine sL (A3 rfl rfl (B9 zG0) hel) rfl rfl ?_
 refine sS rfl rfl rfl hel heo rfl ?_ (hu := by exact E0 hel.symm)
 refine B6 ?_
 refine I6 (outs := [.blk bx [.int .i64 _]]) (rC rfl (A4 rfl rfl)) (A1.cons zB0 A1.nil) ?_
 (exact CsP.yes zL0 hre)
 refine D4 ?_
 refine sQ (A0s rfl) rfl ?_
 refine A5 ?_
 refine zf4 ?_
 refine sQ (A0s rfl) rfl ?_
 refine B1 ?_
 refine zf6 ?_
 refine aL 6 rfl (A3 rfl rfl (B9 zG0) hel) rfl ?_
 refine xx6 0 1 2 3 4 5 ?_
 refine A2 7 ?_
 refine zf3 (fun b55 => ?_)
 refine xx1 8 ?_
 refine A2 9 ?_
 refine E9 rfl ?_
 refine A5 ?_
 (refine H1 (cs := [v1, v2, v3, v4, v5, v6, v7, v8, v9]) zB0 (fun G2 hle2 hsl2 hno2 => ?_))
 refine tT ?_
 refine I6 (outs := [.blk bx [.int .i64 _]]) (rC rfl (A4 rfl rfl)) (A1.cons zB0 A1.nil) ?_
 (exact CsP.no zL0 (B7.put (us := [e]) (es := [[v1, v2, v3, v4, v5, v6, v7, v8, v9]]) ⟨by decide, by decide⟩ ⟨by decide, by decide⟩ ⟨by omega, by omega⟩ (hrb.mono hle2) (hra.mono hle2) rfl (D7.of hsl2 rfl (by intro x hx; obtain rfl := List.mem_singleton.1 hx; rfl) (by intro x hx; obtain rfl := List.mem_singleton.1 hx; exact heo)) (by simp only [H4]; exact ⟨_, _, rfl, hre.mono hle2, rfl⟩)))
end Gw
end Go.Proofs.YtmceanphadildaaGreatDoor
