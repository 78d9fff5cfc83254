/-
  The reference's evaluator: a step, runs of steps, RunTerm. The reference's StepCast, EvalCast, RunTerm. CompareRuns, on both sides. Runs of terms of which one is more precise. Drawn terms that often have a type: one lambda, given the terms below. Drawn terms that often have a type. The types that a term's text holds, and terms with other types: the plain words. Own slices and their capacity; data of terms one after the other. The types that a term's text holds: the program's list. Terms with other types: the program's. Shifts and masks of small numbers; writing into an own slice. Terms some of whose types become the unknown type: the program's. The types that a term's text holds: the reference's list. TermTypes and CountSlots of the reference.
-/
import Derived.Test.YthpdjmbpbdbodaaGreatDoorKg7
import Derived.Test.YthpdjmbpbdbodaaGreatDoorKg6
import Derived.Test.YthpdjmbpbdbodaaGreatDoorKg4
import Derived.Test.YthpdjmbpbdbodaaGreatDoorKg5
import Derived.Test.YthpdjmbpbdbodaaGreatDoorKg3
import Derived.Test.YthpdjmbpbdbodaaGreatDoorKg1
import Derived.Test.YthpdjmbpbdbodaaGreatDoorKg2
set_option linter.unusedVariables false
set_option linter.unusedSimpArgs false
set_option maxHeartbeats 0
set_option maxRecDepth 100000
set_option synthInstance.maxSize 4000
set_option synthInstance.maxHeartbeats 0
namespace Go.Proofs.YthpdjmbpbdbodaaGreatDoor
open Go Go.RowKit
namespace Gw
theorem A6y {k : Int} {ty fr ty' fr' : Ty} {lb lb' : Int} {ks : List Tm} (h : k ≠ 14) : N8 k ty fr lb ks = N8 k ty' fr' lb' ks := by
 unfold N8
 rw [if_neg h, if_neg h]
theorem B42 (k : Int) (nm : ByteArray) (num : Int) (ty fr : Ty) (lb : Int) (ks : List Tm) (G : IM) (cells : List Value) (h7 : k = 1 ∨ k = 6 ∨ k = 7 ∨ k = 8 ∨ k = 11 ∨ k = 12 ∨ k = 14) (hc : cv (.mk k nm num ty fr lb ks)) (hr : A9 G (.mk k nm num ty fr lb ks) cells) : Fn Tryz.prog 146 [.agg ⟨cells⟩] [] G (K4 (N8 k ty fr lb ks)) := by
 have hr0 := hr
 obtain ⟨hN, hkk⟩ := hc.node
 have hops := hN.ops
 have hL2 : k = 6 ∨ k = 7 ∨ k = 8 → ∃ a b, ks = [a, b] := fun h => ks2 (by
  rcases h with rfl | rfl | rfl
  ·have : D7 6 = 2 := rfl; omega
  ·have : D7 7 = 2 := rfl; omega
  ·have : D7 8 = 2 := rfl; omega)
 have hL1 : k = 11 ∨ k = 12 ∨ k = 14 → ∃ a, ks = [a] := fun h => ks1 (by
  rcases h with rfl | rfl | rfl
  ·have : D7 11 = 1 := rfl; omega
  ·have : D7 12 = 1 := rfl; omega
  ·have : D7 14 = 1 := rfl; omega)
 have hC : k = 14 → Fn Tryz.prog 176 [.agg ⟨cells⟩] [] G (K4 (N8 k ty fr lb ks)) := by
  rintro rfl
  obtain ⟨a, rfl⟩ := hL1 (by omega)
  exact B4M a nm num ty fr lb G cells hc hr
 have hA : k = 6 → ∀ a b, ks = [a, b] → N8 k ty fr lb ks = N8 6 B2 B2 0 [a, b] := by rintro rfl a b rfl; exact A6y (by decide)
 have hB : k = 7 ∨ k = 8 → ∀ a b, ks = [a, b] → N8 k ty fr lb ks = N8 k B2 B2 0 [a, b] := by rintro h a b rfl; exact A6y (by omega)
 have hD : k = 11 ∨ k = 12 → ∀ a, ks = [a] → N8 k ty fr lb ks = N8 k B2 B2 0 [a] := by rintro h a rfl; exact A6y (by omega)
 have hO : k = 1 → N8 k ty fr lb ks = Q7 := by rintro rfl; rfl
 generalize N8 k ty fr lb ks = R at hC hA hB hD hO ⊢
 obtain ⟨tk, tks⟩ := ty
 obtain ⟨fk, fks⟩ := fr
 obtain ⟨pt, ct, pf, cf, p, c, es, rfl, hk, hnum, hlb, hty, hfr, hsl, hkl⟩ := hr.open9
 refine B7 Tryz.func146 rfl Tryz.ntmps146 Tryz.results146 rfl ?_
 intro w0
 refine tS (tR ?_)
 refine sE (C2 rfl rfl) rfl (fun b3 => ?_)
 refine sE (A7 rfl) rfl (fun b4 => ?_)
 refine J3 ?_
 refine B8 (tS (tR (sB (qE rfl rfl) rfl rfl (fun h19 => ?_) (fun h19 => ?_))))
 refine sQ (qA rfl) rfl (sD (nS (qT rfl (tS ?_))))
 (have hq : k = 6 := (by assumption); obtain ⟨x, y, hxy⟩ := hL2 (by omega); have hAq := hA hq x y hxy; subst hxy; obtain ⟨bx, ox, e0, rfl, hl0, hat0, hre0, hgb0⟩ := hsl.kidTm hkl (i := 0) (by simp) (by simp); obtain ⟨_, _, e1, hp1, hl1, hat1, hre1, hgb1⟩ := hsl.kidTm hkl (i := 1) (by simp) (by simp); cases hp1; have hF := B4L x y G e0 e1 (hkk x (by simp)) (A2s y (hkk y (by simp))) hre0 hre1; rw [← hAq] at hF; refine D4 D5 rfl ?_)
 refine I3 (i := 0) (l' := [tt,ff,ff,ff,ff,ff,ff,ff,ff,ff,ff,ff,ff,ff,ff]) rfl C8 (B0 rfl) rfl (by kernel_rfl) rfl rfl ?_
 refine aL 1 rfl (B5 rfl rfl) rfl ?_
 refine aP 2 rfl (B3 (j := 0) rfl rfl rfl (by simp)) rfl ?_
 refine aL 3 rfl (A3 rfl rfl (hat0 _) hl0) rfl ?_
 refine aP 4 rfl (B0 rfl) rfl ?_
 refine aL 5 rfl (B5 rfl rfl) rfl ?_
 refine aP 6 rfl (B3 (j := 1) rfl rfl rfl (by simp)) rfl ?_
 refine aL 7 rfl (A3 rfl rfl (hat1 _) hl1) rfl ?_
 refine A4 8 ?_
 (refine H1 rfl rfl hF rfl rfl rfl (fun v G1 hle1 hh => ?_); obtain ⟨wc, rfl, hrw⟩ := hh; have hwl := hrw.len; have hwo := hrw.one)
 refine aP 9 rfl (pX rfl rfl) rfl ?_
 refine aP 10 rfl (pX rfl rfl) rfl ?_
 refine aP 11 rfl (pX rfl rfl) rfl ?_
 refine A4 12 ?_
 (refine oS rfl rfl rfl rfl hwl hwo rfl rfl ?_ (hu := by exact D1 hwl.symm))
 refine aP 13 rfl (qA rfl) rfl ?_
 refine aP 14 rfl (qA rfl) rfl ?_
 refine C1 (nS (tT (rB (rS ?_))))
 refine C6 (rC rfl (A3 rfl rfl (B1 (by repeat first | exact mH | apply mT)) hwl)) (rT rfl) (rT rfl) ?_
 (exact ⟨rfl, _, rfl, hrw⟩)
 refine sQ (qA rfl) rfl (sD (nS (cF rfl (tS (tS (tR ?_))))))
 refine sB (qE rfl rfl) rfl rfl (fun h57 => ?_) (fun h57 => ?_)
 refine D2 ?_
 (have hq : k = 7 ∨ k = 8 := (by omega); obtain ⟨x, y, hxy⟩ := hL2 (by omega); have hBq := hB hq x y hxy; subst hxy; obtain ⟨bx, ox, e0, rfl, hl0, hat0, hre0, hgb0⟩ := hsl.kidTm hkl (i := 0) (by simp) (by simp); obtain ⟨_, _, e1, hp1, hl1, hat1, hre1, hgb1⟩ := hsl.kidTm hkl (i := 1) (by simp) (by simp); cases hp1; have hF := A9G k x y G e0 e1 hq (by have := (hkk x (by simp)); cases x; exact this.node.1.num0) (by have := (hkk y (by simp)); cases y; exact this.node.1.num0) hre0 hre1; rw [← hBq] at hF; refine D4 D5 rfl ?_)
 refine I3 (i := 0) (l' := [tt,ff,ff,ff,ff,ff,ff,ff,ff,ff,ff,ff,ff,ff,ff,ff,ff]) rfl C8 (B0 rfl) rfl (by kernel_rfl) rfl rfl ?_
 refine aL 1 rfl (B5 rfl rfl) rfl ?_
 refine aP 2 rfl (B0 rfl) rfl ?_
 refine aL 3 rfl (B5 rfl rfl) rfl ?_
 refine aP 4 rfl (B3 (j := 0) rfl rfl rfl (by simp)) rfl ?_
 refine aL 5 rfl (A3 rfl rfl (hat0 _) hl0) rfl ?_
 refine aP 6 rfl (B0 rfl) rfl ?_
 refine aL 7 rfl (B5 rfl rfl) rfl ?_
 refine aP 8 rfl (B3 (j := 1) rfl rfl rfl (by simp)) rfl ?_
 refine aL 9 rfl (A3 rfl rfl (hat1 _) hl1) rfl ?_
 refine A4 10 ?_
 (refine H1 rfl rfl hF rfl rfl rfl (fun v G1 hle1 hh => ?_); obtain ⟨wc, rfl, hrw⟩ := hh; have hwl := hrw.len; have hwo := hrw.one)
 refine aP 11 rfl (pX rfl rfl) rfl ?_
 refine aP 12 rfl (pX rfl rfl) rfl ?_
 refine aP 13 rfl (pX rfl rfl) rfl ?_
 refine A4 14 ?_
 (refine oS rfl rfl rfl rfl hwl hwo rfl rfl ?_ (hu := by exact D1 hwl.symm))
 refine aP 15 rfl (qA rfl) rfl ?_
 refine aP 16 rfl (qA rfl) rfl ?_
 refine C1 (nS (tT (rB (rS ?_))))
 refine C6 (rC rfl (A3 rfl rfl (B1 (by repeat first | exact mH | apply mT)) hwl)) (rT rfl) (rT rfl) ?_
 (exact ⟨rfl, _, rfl, hrw⟩)
 refine sQ (qA rfl) rfl (sD (nS (cF rfl (tR ?_))))
 refine sB (qE rfl rfl) rfl rfl (fun h98 => ?_) (fun h98 => ?_)
 refine sQ (qA rfl) rfl (sD (nS (qT rfl (tS ?_))))
 (have hq : k = 7 ∨ k = 8 := (by omega); obtain ⟨x, y, hxy⟩ := hL2 (by omega); have hBq := hB hq x y hxy; subst hxy; obtain ⟨bx, ox, e0, rfl, hl0, hat0, hre0, hgb0⟩ := hsl.kidTm hkl (i := 0) (by simp) (by simp); obtain ⟨_, _, e1, hp1, hl1, hat1, hre1, hgb1⟩ := hsl.kidTm hkl (i := 1) (by simp) (by simp); cases hp1; have hF := A9G k x y G e0 e1 hq (by have := (hkk x (by simp)); cases x; exact this.node.1.num0) (by have := (hkk y (by simp)); cases y; exact this.node.1.num0) hre0 hre1; rw [← hBq] at hF; refine D4 D5 rfl ?_)
 refine I3 (i := 0) (l' := [tt,ff,ff,ff,ff,ff,ff,ff,ff,ff,ff,ff,ff,ff,ff,ff,ff]) rfl C8 (B0 rfl) rfl (by kernel_rfl) rfl rfl ?_
 refine aL 1 rfl (B5 rfl rfl) rfl ?_
 refine aP 2 rfl (B0 rfl) rfl ?_
 refine aL 3 rfl (B5 rfl rfl) rfl ?_
 refine aP 4 rfl (B3 (j := 0) rfl rfl rfl (by simp)) rfl ?_
 refine aL 5 rfl (A3 rfl rfl (hat0 _) hl0) rfl ?_
 refine aP 6 rfl (B0 rfl) rfl ?_
 refine aL 7 rfl (B5 rfl rfl) rfl ?_
 refine aP 8 rfl (B3 (j := 1) rfl rfl rfl (by simp)) rfl ?_
 refine aL 9 rfl (A3 rfl rfl (hat1 _) hl1) rfl ?_
 refine A4 10 ?_
 (refine H1 rfl rfl hF rfl rfl rfl (fun v G1 hle1 hh => ?_); obtain ⟨wc, rfl, hrw⟩ := hh; have hwl := hrw.len; have hwo := hrw.one)
 refine aP 11 rfl (pX rfl rfl) rfl ?_
 refine aP 12 rfl (pX rfl rfl) rfl ?_
 refine aP 13 rfl (pX rfl rfl) rfl ?_
 refine A4 14 ?_
 (refine oS rfl rfl rfl rfl hwl hwo rfl rfl ?_ (hu := by exact D1 hwl.symm))
 refine aP 15 rfl (qA rfl) rfl ?_
 refine aP 16 rfl (qA rfl) rfl ?_
 refine C1 (nS (tT (rB (rS ?_))))
 refine C6 (rC rfl (A3 rfl rfl (B1 (by repeat first | exact mH | apply mT)) hwl)) (rT rfl) (rT rfl) ?_
 (exact ⟨rfl, _, rfl, hrw⟩)
 refine sQ (qA rfl) rfl (sD (nS (cF rfl (tS (tS (tR ?_))))))
 refine sB (qE rfl rfl) rfl rfl (fun h138 => ?_) (fun h138 => ?_)
 refine D2 ?_
 (have hq : k = 11 ∨ k = 12 := (by omega); obtain ⟨x, hxy⟩ := hL1 (by omega); have hDq := hD hq x hxy; subst hxy; obtain ⟨bx, ox, e0, rfl, hl0, hat0, hre0, hgb0⟩ := hsl.kidTm hkl (i := 0) (by simp) (by simp); have hF := A9H k x G e0 hq (hkk x (by simp)) hre0; rw [← hDq] at hF; refine D4 D5 rfl ?_)
 refine I3 (i := 0) (l' := [tt,ff,ff,ff,ff,ff,ff,ff,ff,ff,ff,ff,ff]) rfl C8 (B0 rfl) rfl (by kernel_rfl) rfl rfl ?_
 refine aL 1 rfl (B5 rfl rfl) rfl ?_
 refine aP 2 rfl (B0 rfl) rfl ?_
 refine aL 3 rfl (B5 rfl rfl) rfl ?_
 refine aP 4 rfl (B3 (j := 0) rfl rfl rfl (by simp)) rfl ?_
 refine aL 5 rfl (A3 rfl rfl (hat0 _) hl0) rfl ?_
 refine A4 6 ?_
 (refine H1 rfl rfl hF rfl rfl rfl (fun v G1 hle1 hh => ?_); obtain ⟨wc, rfl, hrw⟩ := hh; have hwl := hrw.len; have hwo := hrw.one)
 refine aP 7 rfl (pX rfl rfl) rfl ?_
 refine aP 8 rfl (pX rfl rfl) rfl ?_
 refine aP 9 rfl (pX rfl rfl) rfl ?_
 refine A4 10 ?_
 (refine oS rfl rfl rfl rfl hwl hwo rfl rfl ?_ (hu := by exact D1 hwl.symm))
 refine aP 11 rfl (qA rfl) rfl ?_
 refine aP 12 rfl (qA rfl) rfl ?_
 refine C1 (nS (tT (rB (rS ?_))))
 refine C6 (rC rfl (A3 rfl rfl (B1 (by repeat first | exact mH | apply mT)) hwl)) (rT rfl) (rT rfl) ?_
 (exact ⟨rfl, _, rfl, hrw⟩)
 refine sQ (qA rfl) rfl (sD (nS (cF rfl (tR ?_))))
 refine sB (qE rfl rfl) rfl rfl (fun h175 => ?_) (fun h175 => ?_)
 refine sQ (qA rfl) rfl (sD (nS (qT rfl (tS ?_))))
 (have hq : k = 11 ∨ k = 12 := (by omega); obtain ⟨x, hxy⟩ := hL1 (by omega); have hDq := hD hq x hxy; subst hxy; obtain ⟨bx, ox, e0, rfl, hl0, hat0, hre0, hgb0⟩ := hsl.kidTm hkl (i := 0) (by simp) (by simp); have hF := A9H k x G e0 hq (hkk x (by simp)) hre0; rw [← hDq] at hF; refine D4 D5 rfl ?_)
 refine I3 (i := 0) (l' := [tt,ff,ff,ff,ff,ff,ff,ff,ff,ff,ff,ff,ff]) rfl C8 (B0 rfl) rfl (by kernel_rfl) rfl rfl ?_
 refine aL 1 rfl (B5 rfl rfl) rfl ?_
 refine aP 2 rfl (B0 rfl) rfl ?_
 refine aL 3 rfl (B5 rfl rfl) rfl ?_
 refine aP 4 rfl (B3 (j := 0) rfl rfl rfl (by simp)) rfl ?_
 refine aL 5 rfl (A3 rfl rfl (hat0 _) hl0) rfl ?_
 refine A4 6 ?_
 (refine H1 rfl rfl hF rfl rfl rfl (fun v G1 hle1 hh => ?_); obtain ⟨wc, rfl, hrw⟩ := hh; have hwl := hrw.len; have hwo := hrw.one)
 refine aP 7 rfl (pX rfl rfl) rfl ?_
 refine aP 8 rfl (pX rfl rfl) rfl ?_
 refine aP 9 rfl (pX rfl rfl) rfl ?_
 refine A4 10 ?_
 (refine oS rfl rfl rfl rfl hwl hwo rfl rfl ?_ (hu := by exact D1 hwl.symm))
 refine aP 11 rfl (qA rfl) rfl ?_
 refine aP 12 rfl (qA rfl) rfl ?_
 refine C1 (nS (tT (rB (rS ?_))))
 refine C6 (rC rfl (A3 rfl rfl (B1 (by repeat first | exact mH | apply mT)) hwl)) (rT rfl) (rT rfl) ?_
 (exact ⟨rfl, _, rfl, hrw⟩)
 refine sQ (qA rfl) rfl (sD (nS (cF rfl (tS (tR ?_)))))
 refine sB (qE rfl rfl) rfl rfl (fun h210 => ?_) (fun h210 => ?_)
 refine C4 ?_
 (refine E4 rfl (hC (by omega)) rfl rfl (fun v G1 hle1 hh => ?_); obtain ⟨wc, rfl, hrw⟩ := hh; have hwl := hrw.len; have hwo := hrw.one)
 refine J7 ?_
 refine sS rfl rfl rfl hwl hwo rfl ?_ (hu := by exact D1 hwl.symm)
 refine C4 ?_
 refine C6 (rC rfl (A3 rfl rfl (B1 (by repeat first | exact mH | apply mT)) hwl)) (rT rfl) (rT rfl) ?_
 (exact ⟨rfl, _, rfl, hrw⟩)
 refine K0 ?_
 refine C6 (rC rfl (A5 rfl rfl)) (rT rfl) (rT rfl) ?_
 (rw [hO (by omega)]; exact K4.mk rfl (L9 _))
theorem B43 {k : Int} {nm : ByteArray} {num : Int} {ty fr : Ty} {lb : Int} {ks : List Tm} {i : Nat} (hi : i < ks.length) (hn : i < (if k = 9 then 1 else ks.length)) (hj : ∀ j, j < i → (h : j < ks.length) → E7 ks[j] = true) (hv : E7 ks[i] = false) :
  F8 (.mk k nm num ty fr lb ks) = if (F8 ks[i]).2.1 = 1 then (.mk k nm num ty fr lb (ks.set i (F8 ks[i]).1), 1, 0) else (I2, (F8 ks[i]).2.1, (F8 ks[i]).2.2) := by
 rw [F8, A6c _ ks i hi hn hj hv]
theorem B44 {k : Int} {nm : ByteArray} {num : Int} {ty fr : Ty} {lb : Int} {ks : List Tm} (h : ∀ i, i < (if k = 9 then 1 else ks.length) → (hl : i < ks.length) → E7 ks[i] = true) : F8 (.mk k nm num ty fr lb ks) = N8 k ty fr lb ks := by
 rw [F8, A6b _ _ h]
theorem B45 {ty fr : Ty} {lb : Int} {a b c : Tm} : N8 9 ty fr lb [a, b, c] = (if a.k = 3 then (b, 1, 0) else if a.k = 4 then (c, 1, 0) else Q7) := rfl
theorem B46 : ∀ (t : Tm) (G : IM) (cells : List Value), cv t → E7 t = false → A9 G t cells → Fn Tryz.prog 102 [.agg ⟨cells⟩] [] G (K4 (F8 t)) := by
 refine Tm.ind fun k nm num ty fr lb ks ih G cells hc hv hr => ?_
 have hr0 := hr
 have hRl := hr.len
 have hN := hc.node.1
 have hkk := hc.node.2
 have hops := hN.ops
 have hle3 := A1f k
 have hkd := @A8Y k nm num ty fr lb ks hc hv
 have hkX := fun (i : Nat) => @B43 k nm num ty fr lb ks i
 have hrX := @B44 k nm num ty fr lb ks
 have hRd := fun h7 => B42 k nm num ty fr lb ks G cells h7 hc hr
 obtain ⟨C, hC⟩ : ∃ C : Nat, (if k = 9 then 1 else ks.length : Nat) = C := ⟨_, rfl⟩
 rw [hC] at hkd hrX
 have hkX' := fun (i : Nat) (hi : i < ks.length) (hn : i < C) => hkX i hi (by rw [hC]; exact hn)
 have h93 : k = 9 → ks.length = 3 := fun h => by rw [h] at hops; have : D7 9 = 3 := rfl; omega
 have hC1 : k = 9 → C = 1 := fun h => by rw [← hC, if_pos h]
 have hC2 : k ≠ 9 → C = ks.length := fun h => by rw [← hC, if_neg h]
 have hC9 : C ≤ ks.length := by by_cases h9 : k = 9; have := h93 h9; have := hC1 h9; omega; have := hC2 h9; omega
 generalize F8 (.mk k nm num ty fr lb ks) = R at hkX hkX' hrX ⊢
 obtain ⟨tk, tks⟩ := ty
 obtain ⟨fk, fks⟩ := fr
 obtain ⟨pt, ct, pf, cf, p, c, es, rfl, hk, hnum, hlb, hty, hfr, hsl, hkl⟩ := hr.open9
 have hn := hsl.le
 have hnc := hsl.sl.2.1
 have hes1 : ∀ u ∈ es.flatten, u.oneCell' = true := by
  intro u hu
  obtain ⟨e, he, hue⟩ := List.mem_flatten.1 hu
  exact List.all_eq_true.1 (hsl.one e he) u hue
 refine B7 Tryz.func102 rfl Tryz.ntmps102 Tryz.results102 rfl ?_
 intro w0
 refine tS (tR ?_)
 refine sE (C2 rfl rfl) rfl (fun b3 => ?_)
 refine sE (A7 rfl) rfl (fun b4 => ?_)
 refine T7 ?_
 refine sB (qE rfl rfl) rfl rfl (fun h22 => ?_) (fun h22 => ?_)
 refine sD (nS ?_)
 (show I7 _ _ (.cond (.tmp 16) _ _) _ _; refine A0d (fun (_ : Unit) => ⟨[(5, .int .i64 (C : Int)), (1, .pointer (some ⟨b3, 0, none⟩)), (2, .pointer (some ⟨b4, 0, none⟩))], [.blk b4 [.int .i64 0, .string ⟨⟨[]⟩⟩, .int .i64 0, .int .i64 0, .slice none 0 0, .int .i64 0, .slice none 0 0, .int .i64 0, .slice none 0 0], .blk b3 [.int .i64 k, .string nm, .int .i64 num, .int .i64 tk, .slice pt tks.length ct, .int .i64 fk, .slice pf fks.length cf, .int .i64 lb, .slice p ks.length c]], G⟩) (fun _ => True) (qT rfl ?_) ?_)
 refine tR (sQ (qA rfl) rfl (sD ?_))
 (have hCC := hC1 (by omega); subst hCC; refine P4 () (M0 (by repeat (first | exact E1.nil | refine E1.cons rfl ?_)) (by repeat (first | exact A0.refl | exact A0.nil | refine A0.cons (by repeat (first | exact Pk.here | apply Pk.there)) ?_ | apply A0.drop))) trivial)
 (rintro (_ : Unit) _)
 refine tS (tS (tR (sQ (qA rfl) rfl (sD (nS ?_)))))
 refine B8 ?_
 (refine J8 (fun (i : Nat) => ⟨[(6, .int .i64 (i : Int)), (5, .int .i64 (C : Int)), (1, .pointer (some ⟨b3, 0, none⟩)), (2, .pointer (some ⟨b4, 0, none⟩))], [.blk b4 [.int .i64 0, .string ⟨⟨[]⟩⟩, .int .i64 0, .int .i64 0, .slice none 0 0, .int .i64 0, .slice none 0 0, .int .i64 0, .slice none 0 0], .blk b3 [.int .i64 k, .string nm, .int .i64 num, .int .i64 tk, .slice pt tks.length ct, .int .i64 fk, .slice pf fks.length cf, .int .i64 lb, .slice p ks.length c]], G⟩) (fun i => i ≤ C ∧ ∀ j, j < i → (h : j < ks.length) → E7 ks[j] = true) (fun i => C - i) 0 ?_ ?_ ?_)
 exact D8
 (exact ⟨Nat.zero_le _, fun j hj => absurd hj (Nat.not_lt_zero j)⟩)
 (rintro i ⟨hi, hj⟩)
 refine tS (tS (tR (sQ (qM rfl) rfl (sQ (qM rfl) rfl ?_))))
 refine sB (J4 rfl rfl) rfl rfl (fun h47 => ?_) (fun h47 => ?_)
 refine sD (nS (qT rfl (tK (nS (tS ?_)))))
 refine B8 ?_
 refine H6 ?_
 (have hiC : i < C := (by omega); obtain ⟨bx, ox, e, rfl, hl, hat, hre, hgb⟩ := hsl.kidTm hkl (i := i) (by omega) (by omega); have heo := hre.one; have hVi := A6v ks[i] G e (hkk _ (List.getElem_mem (by omega))) hre; refine sP (B3 (j := i) rfl rfl rfl (by omega)) rfl rfl ?_)
 refine sL (A3 rfl rfl (hat _) hl) rfl rfl ?_
 refine E2 rfl (hVi) rfl rfl (fun h63 => ?_) (fun h63 => ?_)
 refine D9 ?_
 refine sP (J2 rfl rfl (by omega) (by omega)) rfl rfl ?_
 refine sQ (qA rfl) rfl (sD ?_)
 refine J9 (i + 1) ?_ ?_ ?_
 exact D8
 (exact ⟨by omega, fun j hji hl2 => (by by_cases he : j = i; (subst he; assumption); exact hj j (by omega) hl2)⟩)
 (show C - (i + 1) < C - i; omega)
 refine I5 ?_
 refine sP (B3 (j := i) rfl rfl rfl (by omega)) rfl rfl ?_
 refine sL (A3 rfl rfl (hat _) hl) rfl rfl ?_
 (have hvF : E7 ks[i] = false := (by assumption); have hst := hkX' i (by omega) hiC (fun j hji hl2 => hj j hji hl2) hvF; refine E4 rfl (ih ks[i] (List.getElem_mem (by omega)) G e (hkk _ (List.getElem_mem (by omega))) hvF hre) rfl rfl (fun v G1 hle1 hh => ?_); obtain ⟨uc, hvv, hru⟩ := hh; have hul := hru.len; have huo := hru.one; generalize F8 ks[i] = r at hvv hru hst; obtain ⟨u, cc, ll⟩ := r; simp only at hvv hru hst; subst hvv)
 refine H3 ?_
 refine sE (A7 rfl) rfl (fun b97 => ?_)
 refine sS rfl rfl rfl hul huo rfl ?_ (hu := by exact D1 hul.symm)
 refine D2 ?_
 refine sB (M3 rfl rfl) rfl rfl (fun h107 => ?_) (fun h107 => ?_)
 refine A0k ?_
 refine C6 (rC rfl (A5 rfl rfl)) (rT rfl) (rT rfl) ?_
 (rw [hst, if_neg (by omega)]; exact K4.mk rfl (L9 _))
 refine D2 ?_
 refine sE (A7 rfl) rfl (fun b138 => ?_)
 refine F9 ?_
 refine sD (nS (tS (tR ?_)))
 (refine J1 (C7 rfl rfl rfl (by omega) (by unfold maxLen; omega) rfl) rfl ?_; rintro _ ⟨b144, rfl⟩)
 refine sQ (B0 rfl) rfl (sL (B5 rfl rfl) rfl rfl ?_)
 (refine A5M rfl rfl rfl rfl rfl (fun _ _ => by repeat (first | exact Sw.here | apply Sw.there)) (hsl.mono hle1).sl hes1 (Nat.zero_le _) (by unfold maxLen; omega) (by omega) rfl (fun p4 c4 => ?_); simp only [Nat.zero_add, List.nil_append]; refine A3y (cs := es.flatten) (by repeat (first | exact Pk.here | apply Pk.there)) (by omega) (fun bc Cc hpe hnc1 hcm => ?_); subst hpe)
 refine D9 ?_
 refine sL (A3 rfl rfl (B1 (by repeat first | exact mH | apply mT)) hul) rfl rfl ?_
 refine sP (B3 (j := i) rfl rfl rfl (by omega)) rfl rfl ?_
 refine W7 rfl rfl rfl hul huo rfl (by repeat first | exact Sw.here | apply Sw.there) (by exact A3z (by rw [hkl.len]; omega) (fun e he => (hsl.all e he)) hul) ?_
 refine I5 ?_
 (refine A2e (bs := [(bc, (es.set i uc).flatten ++ Cc)]) (Pk.perm (by repeat (first | exact Pk.here | apply Pk.there))) (fun hn2 hd2 hle2 => ?_))
 refine tT (rB (rS (A3a (rB (rS ?_)))))
 refine C6 (rC rfl (A5 rfl rfl)) (rT rfl) (rT rfl) ?_
 (have hks2 := D6.set (j := i) ((hkl.mono hle1).mono hle2) (hru.mono hle2); rw [hst, if_pos (by omega)]; exact K4.mk rfl (A9.put (us := ks.set i u) (es := es.set i uc) hk hnum hlb ((hty.mono hle1).mono hle2) ((hfr.mono hle1).mono hle2) (by rw [List.length_set]) (D3.of (Sl.of_blk (A := []) (by rw [A0J hks2.all, hks2.len, List.length_set]) (by omega) hcm (Wi.in hn2 List.mem_cons_self)) (by rw [hks2.len, List.length_set]) hks2.all (fun e he => by obtain ⟨q, hq⟩ := List.getElem?_of_mem he; exact (hks2.inv hq I2).2.one)) hks2))
 refine I9 ?_
 refine sP (A3e rfl rfl (by omega)) rfl rfl ?_
 refine I5 ?_
 (have hall : ∀ i, i < C → (hl : i < ks.length) → E7 ks[i] = true := (fun j hjc hl2 => hj j (by omega) hl2); have hrd' := hrX hall; have h9 : k = 9 := (by omega); subst h9; obtain ⟨xa, xb, xc, hxs⟩ := ks3 (h93 rfl); subst hxs; rw [B45] at hrd'; obtain ⟨bx, ox, e0, rfl, hl0, hat0, hre0, hgb0⟩ := hsl.kidTm hkl (i := 0) (by simp) (by simp); obtain ⟨_, _, e1, hp1, hl1, hat1, hre1, hgb1⟩ := hsl.kidTm hkl (i := 1) (by simp) (by simp); cases hp1; obtain ⟨_, _, e2, hp2, hl2, hat2, hre2, hgb2⟩ := hsl.kidTm hkl (i := 2) (by simp) (by simp); cases hp2; replace hre0 : A9 G xa e0 := hre0; replace hre1 : A9 G xb e1 := hre1; replace hre2 : A9 G xc e2 := hre2; have ho1 := hre1.one; have ho2 := hre2.one; obtain ⟨ak, anm, anum, ⟨atk, atks⟩, ⟨afk, afks⟩, alb, aks⟩ := xa; obtain ⟨apt, act, apf, acf, ap, ac, aes, rfl, hak, hanum, halb, haty, hafr, hasl, hakl⟩ := hre0.open9; replace hrd' : R = (if ak = 3 then (xb, 1, 0) else if ak = 4 then (xc, 1, 0) else Q7) := hrd'; refine sP (B3 (j := 0) rfl rfl rfl (by simp)) rfl rfl ?_)
 refine sQ (qF rfl) rfl ?_
 refine sL (A0w rfl rfl ((hat0 _).sub (j := 0) rfl)) rfl rfl ?_
 refine sD (nS ?_)
 refine B8 (tS (tR (sB (qE rfl rfl) rfl rfl (fun h211 => ?_) (fun h211 => ?_))))
 refine D2 ?_
 refine sP (B3 (j := 1) rfl rfl rfl (by simp)) rfl rfl ?_
 refine sL (A3 rfl rfl (hat1 _) hl1) rfl rfl ?_
 refine sS rfl rfl rfl hl1 ho1 rfl ?_ (hu := by exact D1 hl1.symm)
 refine C4 ?_
 refine C6 (rC rfl (A3 rfl rfl (B1 (by repeat first | exact mH | apply mT)) hl1)) (rT rfl) (rT rfl) ?_
 (rw [hrd', if_pos (by omega)]; exact K4.mk rfl hre1)
 refine sQ (qA rfl) rfl (sD (nS (cF rfl (tS (tR ?_)))))
 refine sB (qE rfl rfl) rfl rfl (fun h238 => ?_) (fun h238 => ?_)
 refine D2 ?_
 refine sP (B3 (j := 2) rfl rfl rfl (by simp)) rfl rfl ?_
 refine sL (A3 rfl rfl (hat2 _) hl2) rfl rfl ?_
 refine sS rfl rfl rfl hl2 ho2 rfl ?_ (hu := by exact D1 hl2.symm)
 refine C4 ?_
 refine C6 (rC rfl (A3 rfl rfl (B1 (by repeat first | exact mH | apply mT)) hl2)) (rT rfl) (rT rfl) ?_
 (rw [hrd', if_neg (by omega), if_pos (by omega)]; exact K4.mk rfl hre2)
 refine K0 ?_
 refine C6 (rC rfl (A5 rfl rfl)) (rT rfl) (rT rfl) ?_
 (rw [hrd', if_neg (by omega), if_neg (by omega)]; exact K4.mk rfl (L9 _))
 refine sD (nS ?_)
 (show I7 _ _ (.cond (.tmp 16) _ _) _ _; refine A0d (fun (_ : Unit) => ⟨[(5, .int .i64 (C : Int)), (1, .pointer (some ⟨b3, 0, none⟩)), (2, .pointer (some ⟨b4, 0, none⟩))], [.blk b4 [.int .i64 0, .string ⟨⟨[]⟩⟩, .int .i64 0, .int .i64 0, .slice none 0 0, .int .i64 0, .slice none 0 0, .int .i64 0, .slice none 0 0], .blk b3 [.int .i64 k, .string nm, .int .i64 num, .int .i64 tk, .slice pt tks.length ct, .int .i64 fk, .slice pf fks.length cf, .int .i64 lb, .slice p ks.length c]], G⟩) (fun _ => True) (cF rfl ?_) ?_)
 refine tK ?_
 (have hCC := hC2 (by omega); subst hCC; refine P4 () (M0 (by repeat (first | exact E1.nil | refine E1.cons rfl ?_)) (by repeat (first | exact A0.refl | exact A0.nil | refine A0.cons (by repeat (first | exact Pk.here | apply Pk.there)) ?_ | apply A0.drop))) trivial)
 (rintro (_ : Unit) _)
 refine tS (tS (tR (sQ (qA rfl) rfl (sD (nS ?_)))))
 refine B8 ?_
 (refine J8 (fun (i : Nat) => ⟨[(6, .int .i64 (i : Int)), (5, .int .i64 (C : Int)), (1, .pointer (some ⟨b3, 0, none⟩)), (2, .pointer (some ⟨b4, 0, none⟩))], [.blk b4 [.int .i64 0, .string ⟨⟨[]⟩⟩, .int .i64 0, .int .i64 0, .slice none 0 0, .int .i64 0, .slice none 0 0, .int .i64 0, .slice none 0 0], .blk b3 [.int .i64 k, .string nm, .int .i64 num, .int .i64 tk, .slice pt tks.length ct, .int .i64 fk, .slice pf fks.length cf, .int .i64 lb, .slice p ks.length c]], G⟩) (fun i => i ≤ C ∧ ∀ j, j < i → (h : j < ks.length) → E7 ks[j] = true) (fun i => C - i) 0 ?_ ?_ ?_)
 exact D8
 (exact ⟨Nat.zero_le _, fun j hj => absurd hj (Nat.not_lt_zero j)⟩)
 (rintro i ⟨hi, hj⟩)
 refine tS (tS (tR (sQ (qM rfl) rfl (sQ (qM rfl) rfl ?_))))
 refine sB (J4 rfl rfl) rfl rfl (fun h299 => ?_) (fun h299 => ?_)
 refine sD (nS (qT rfl (tK (nS (tS ?_)))))
 refine B8 ?_
 refine H6 ?_
 (have hiC : i < C := (by omega); obtain ⟨bx, ox, e, rfl, hl, hat, hre, hgb⟩ := hsl.kidTm hkl (i := i) (by omega) (by omega); have heo := hre.one; have hVi := A6v ks[i] G e (hkk _ (List.getElem_mem (by omega))) hre; refine sP (B3 (j := i) rfl rfl rfl (by omega)) rfl rfl ?_)
 refine sL (A3 rfl rfl (hat _) hl) rfl rfl ?_
 refine E2 rfl (hVi) rfl rfl (fun h315 => ?_) (fun h315 => ?_)
 refine D9 ?_
 refine sP (J2 rfl rfl (by omega) (by omega)) rfl rfl ?_
 refine sQ (qA rfl) rfl (sD ?_)
 refine J9 (i + 1) ?_ ?_ ?_
 exact D8
 (exact ⟨by omega, fun j hji hl2 => (by by_cases he : j = i; (subst he; assumption); exact hj j (by omega) hl2)⟩)
 (show C - (i + 1) < C - i; omega)
 refine I5 ?_
 refine sP (B3 (j := i) rfl rfl rfl (by omega)) rfl rfl ?_
 refine sL (A3 rfl rfl (hat _) hl) rfl rfl ?_
 (have hvF : E7 ks[i] = false := (by assumption); have hst := hkX' i (by omega) hiC (fun j hji hl2 => hj j hji hl2) hvF; refine E4 rfl (ih ks[i] (List.getElem_mem (by omega)) G e (hkk _ (List.getElem_mem (by omega))) hvF hre) rfl rfl (fun v G1 hle1 hh => ?_); obtain ⟨uc, hvv, hru⟩ := hh; have hul := hru.len; have huo := hru.one; generalize F8 ks[i] = r at hvv hru hst; obtain ⟨u, cc, ll⟩ := r; simp only at hvv hru hst; subst hvv)
 refine H3 ?_
 refine sE (A7 rfl) rfl (fun b349 => ?_)
 refine sS rfl rfl rfl hul huo rfl ?_ (hu := by exact D1 hul.symm)
 refine D2 ?_
 refine sB (M3 rfl rfl) rfl rfl (fun h359 => ?_) (fun h359 => ?_)
 refine A0k ?_
 refine C6 (rC rfl (A5 rfl rfl)) (rT rfl) (rT rfl) ?_
 (rw [hst, if_neg (by omega)]; exact K4.mk rfl (L9 _))
 refine D2 ?_
 refine sE (A7 rfl) rfl (fun b390 => ?_)
 refine F9 ?_
 refine sD (nS (tS (tR ?_)))
 (refine J1 (C7 rfl rfl rfl (by omega) (by unfold maxLen; omega) rfl) rfl ?_; rintro _ ⟨b396, rfl⟩)
 refine sQ (B0 rfl) rfl (sL (B5 rfl rfl) rfl rfl ?_)
 (refine A5M rfl rfl rfl rfl rfl (fun _ _ => by repeat (first | exact Sw.here | apply Sw.there)) (hsl.mono hle1).sl hes1 (Nat.zero_le _) (by unfold maxLen; omega) (by omega) rfl (fun p4 c4 => ?_); simp only [Nat.zero_add, List.nil_append]; refine A3y (cs := es.flatten) (by repeat (first | exact Pk.here | apply Pk.there)) (by omega) (fun bc Cc hpe hnc1 hcm => ?_); subst hpe)
 refine D9 ?_
 refine sL (A3 rfl rfl (B1 (by repeat first | exact mH | apply mT)) hul) rfl rfl ?_
 refine sP (B3 (j := i) rfl rfl rfl (by omega)) rfl rfl ?_
 refine W7 rfl rfl rfl hul huo rfl (by repeat first | exact Sw.here | apply Sw.there) (by exact A3z (by rw [hkl.len]; omega) (fun e he => (hsl.all e he)) hul) ?_
 refine I5 ?_
 (refine A2e (bs := [(bc, (es.set i uc).flatten ++ Cc)]) (Pk.perm (by repeat (first | exact Pk.here | apply Pk.there))) (fun hn2 hd2 hle2 => ?_))
 refine tT (rB (rS (A3a (rB (rS ?_)))))
 refine C6 (rC rfl (A5 rfl rfl)) (rT rfl) (rT rfl) ?_
 (have hks2 := D6.set (j := i) ((hkl.mono hle1).mono hle2) (hru.mono hle2); rw [hst, if_pos (by omega)]; exact K4.mk rfl (A9.put (us := ks.set i u) (es := es.set i uc) hk hnum hlb ((hty.mono hle1).mono hle2) ((hfr.mono hle1).mono hle2) (by rw [List.length_set]) (D3.of (Sl.of_blk (A := []) (by rw [A0J hks2.all, hks2.len, List.length_set]) (by omega) hcm (Wi.in hn2 List.mem_cons_self)) (by rw [hks2.len, List.length_set]) hks2.all (fun e he => by obtain ⟨q, hq⟩ := List.getElem?_of_mem he; exact (hks2.inv hq I2).2.one)) hks2))
 refine I9 ?_
 refine sP (A0j rfl rfl (by omega)) rfl rfl ?_
 refine sD (nS (qT rfl (tS (tR (sL (A5 rfl rfl) rfl rfl ?_)))))
 (have hall : ∀ i, i < C → (hl : i < ks.length) → E7 ks[i] = true := (fun j hjc hl2 => hj j (by omega) hl2); have hk8 := hkd hall; have hrd' := hrX hall; refine E4 rfl (hRd (by omega)) rfl rfl (fun v G1 hle1 hh => ?_); obtain ⟨uc, rfl, hru⟩ := hh; have hul := hru.len; have huo := hru.one)
 refine J7 ?_
 refine sS rfl rfl rfl hul huo rfl ?_ (hu := by exact D1 hul.symm)
 refine sQ (qA rfl) rfl (sQ (qA rfl) rfl (sD (nS (tT (rS ?_)))))
 refine C6 (rC rfl (A3 rfl rfl (B1 (by repeat first | exact mH | apply mT)) hul)) (rT rfl) (rT rfl) ?_
 (rw [hrd']; exact ⟨rfl, _, rfl, hru⟩)
theorem B47 {t : Tm} (h : O5 t = true) : (F8 t).1.small ∧ D0 (F8 t).1 ≤ 40300 := by
 obtain ⟨h1, h2⟩ := A2r h
 have := B2v t (A2s t h1) h2
 exact ⟨this.1, by omega⟩
theorem B48 (t : Tm) (G : IM) (cells : List Value) (hcnt : D0 t ≤ 4294967296) (hr : A9 G t cells) : Fn Tryz.prog 64 [.agg ⟨cells⟩] [] G (K4 (E9 t)) := by
 have hRl := hr.len
 have hRo := hr.one
 have hV := A70 t G cells hcnt hr
 have e1 := @A4I t
 have e2 := @A4J t
 have e3 := @A4K t
 have e4 := @A4L t
 have e5 := @A4M t
 have hsc := @B47 t
 refine B7 Tryz.func64 rfl Tryz.ntmps64 Tryz.results64 rfl ?_
 intro w0
 refine tS (tR ?_)
 refine sE (C2 rfl rfl) rfl (fun b3 => ?_)
 refine sE (A7 rfl) rfl (fun b4 => ?_)
 refine C4 ?_
 refine sL (A3 rfl rfl (B1 (by repeat first | exact mH | apply mT)) hRl) rfl rfl ?_
 refine E2 rfl (hV) rfl rfl (fun h13 => ?_) (fun h13 => ?_)
 refine D9 ?_
 refine sL (A3 rfl rfl (B1 (by repeat first | exact mH | apply mT)) hRl) rfl rfl ?_
 refine E2 rfl ((A6v t G cells (A2r (by assumption)).1 hr)) rfl rfl (fun h24 => ?_) (fun h24 => ?_)
 refine sD (nS (qT rfl (tS (tR ?_))))
 refine sL (A3 rfl rfl (B1 (by repeat first | exact mH | apply mT)) hRl) rfl rfl ?_
 (refine E4 rfl (A2M t G cells (A4H (by assumption)) hr) rfl rfl (fun v G1 hle1 hh => ?_); obtain ⟨cs1, F1, rfl, hs1, hn1⟩ := hh; have hul := hs1.R.len; have huo := hs1.R.one)
 refine sS rfl rfl rfl hul huo rfl ?_ (hu := by exact D1 hul.symm)
 refine sQ (qA rfl) rfl (sQ (qA rfl) rfl (sD (nS (tT (rS ?_)))))
 refine C6 (rC rfl (A3 rfl rfl (B1 (by repeat first | exact mH | apply mT)) hul)) (rT rfl) (rT rfl) ?_
 (exact K4.mk (e2 (by assumption) (by assumption)) (hs1.R.mono (C5.le _ _)))
 refine sD (nS (cF rfl (tK (nS (tS (tR ?_))))))
 refine sL (A3 rfl rfl (B1 (by repeat first | exact mH | apply mT)) hRl) rfl rfl ?_
 (have hcv : O5 t = true := (by assumption); have hnv : E7 t = false := (by assumption); obtain ⟨hsc1, hsc2⟩ := hsc hcv; replace e3 := e3 hcv hnv; replace e4 := e4 hcv hnv; replace e5 := e5 hcv hnv; refine E4 rfl (B46 t G cells (A2r hcv).1 hnv hr) rfl rfl (fun v G1 hle1 hh => ?_); obtain ⟨uc, hvv, hru⟩ := hh; have hul := hru.len; have huo := hru.one; generalize F8 t = r at hvv hru hsc1 hsc2 e3 e4 e5; obtain ⟨u, cc, ll⟩ := r; simp only at hvv hru hsc1 hsc2 e3 e4 e5; subst hvv; have hVu := A70 u G1 uc (by omega) hru)
 refine H3 ?_
 refine sE (A7 rfl) rfl (fun b54 => ?_)
 refine sS rfl rfl rfl hul huo rfl ?_ (hu := by exact D1 hul.symm)
 refine D2 ?_
 refine sB (M3 rfl rfl) rfl rfl (fun h64 => ?_) (fun h64 => ?_)
 refine H4 ?_
 refine C6 (rC rfl (A5 rfl rfl)) (rT rfl) (rT rfl) ?_
 (exact K4.mk (e3 (by omega)) (L9 _))
 refine sD (nS (cF rfl (tK (nS (tS (tS (tR ?_)))))))
 refine sL (A3 rfl rfl (B1 (by repeat first | exact mH | apply mT)) hul) rfl rfl ?_
 refine E2 rfl (hVu) rfl rfl (fun h91 => ?_) (fun h91 => ?_)
 refine sQ (V8 rfl) rfl (sD (nS (cF rfl (tK (nS (tS (tR ?_)))))))
 refine sL (A3 rfl rfl (B1 (by repeat first | exact mH | apply mT)) hul) rfl rfl ?_
 (refine E4 rfl (A2M u G1 uc hsc1 hru) rfl rfl (fun v G2 hle2 hh => ?_); obtain ⟨cs2, F2, rfl, hs2, hn2⟩ := hh; have hwl := hs2.R.len; have hwo := hs2.R.one)
 refine sS rfl rfl rfl hwl hwo rfl ?_ (hu := by exact D1 hwl.symm)
 refine sQ (qA rfl) rfl (sQ (qA rfl) rfl (sD (nS (tT ?_))))
 refine C6 (rC rfl (A3 rfl rfl (B1 (by repeat first | exact mH | apply mT)) hwl)) (rT rfl) (rT rfl) ?_
 (exact K4.mk (e5 (by omega) (by assumption)) (hs2.R.mono (C5.le _ _)))
 refine I6 ?_
 refine C6 (rC rfl (A5 rfl rfl)) (rT rfl) (rT rfl) ?_
 (exact K4.mk (e4 (by omega) (by assumption)) (L9 _))
 refine I6 ?_
 refine C6 (rC rfl (A5 rfl rfl)) (rT rfl) (rT rfl) ?_
 (exact K4.mk (e1 (by assumption)) (L9 _))
theorem B49 {m i : Nat} {e : Tm} (h : (E9 e).2.1 ≠ 1) : A0g i (K1 m e) = ((E9 e).1, (E9 e).2.1, (E9 e).2.2, i) := by
 cases m with
 | zero => rw [K1, if_neg h]; simp [A0g]
 | succ m => rw [K1, if_neg h]; simp [A0g]
theorem B5a {m i : Nat} {e : Tm} (h : (E9 e).2.1 = 1) (hm : m = 0) : A0g i (K1 m e) = (I2, 5, 0, i) := by
 subst hm; rw [K1, if_pos h]; simp [A0g]
theorem B5b {m i : Nat} {e : Tm} (h : (E9 e).2.1 = 1) (hm : 0 < m) : A0g i (K1 m e) = A0g (i + 1) (K1 (m - 1) (E9 e).1) := by
 obtain ⟨k, rfl⟩ : ∃ k, m = k + 1 := ⟨m - 1, by omega⟩
 rw [K1, if_pos h]; simp only [A0g, Nat.add_sub_cancel, Nat.add_assoc, Nat.add_comm 1 i]
theorem B5c (e : Tm) (n : Nat) (hn : n ≤ 300) (G : IM) (cells : List Value) (hcnt : D0 e ≤ 4294967296) (hr : A9 G e cells) : Fn Tryz.prog 31 [.agg ⟨cells⟩, .int .i64 (n : Int)] [] G (EvP (K1 n e)) := by
 have hRl := hr.len
 have hRo := hr.one
 refine B7 Tryz.func31 rfl Tryz.ntmps31 Tryz.results31 rfl ?_
 intro w0
 refine tS (tR ?_)
 refine sE (C2 rfl rfl) rfl (fun b3 => ?_)
 refine sE (A7 rfl) rfl (fun b4 => ?_)
 refine I5 ?_
 refine B8 ?_
 (refine J8 (fun (x : Nat × Tm × List Value × IM) => ⟨[(8, .int .i64 (x.1 : Int)), (1, .int .i64 (n : Int)), (2, .pointer (some ⟨b3, 0, none⟩)), (4, .pointer (some ⟨b4, 0, none⟩))], [.blk b3 x.2.2.1, .blk b4 [.int .i64 0, .string ⟨⟨[]⟩⟩, .int .i64 0, .int .i64 0, .slice none 0 0, .int .i64 0, .slice none 0 0, .int .i64 0, .slice none 0 0]], x.2.2.2⟩) (fun x => x.1 ≤ n ∧ B9 G x.2.2.2 ∧ A9 x.2.2.2 x.2.1 x.2.2.1 ∧ D0 x.2.1 ≤ 4294967296 ∧ A0g x.1 (K1 (n - x.1) x.2.1) = K1 n e) (fun x => n - x.1) (0, e, cells, G) ?_ ?_ ?_)
 (simp only [J5]; exact D8)
 (exact ⟨Nat.zero_le _, B9.refl _, hr, hcnt, rfl⟩)
 (rintro ⟨i, u, uc, Gi⟩ ⟨hi, hle, hru, hcu, hev⟩; simp only [] at hi hle hru hcu hev ⊢; have hul := hru.len; have huo := hru.one)
 refine tS ?_
 refine B8 ?_
 refine tS (tR ?_)
 refine sL (A3 rfl rfl (B1 (by repeat first | exact mH | apply mT)) hul) rfl rfl ?_
 (refine E4 rfl (B48 u Gi uc hcu hru) rfl rfl (fun v G1 hle1 hh => ?_); obtain ⟨wc, hv, hrw⟩ := hh; have hwl := hrw.len; have hwo := hrw.one; have hend := @B49 (n - i) i u; have hmu := @B5a (n - i) i u; have hgo := @B5b (n - i) i u; have hval := @B3D u; generalize E9 u = r at hv hrw hend hmu hgo hval; obtain ⟨w, c, l⟩ := r; simp only at hv hrw hend hmu hgo hval; subst hv)
 refine H3 ?_
 refine sE (A7 rfl) rfl (fun b30 => ?_)
 refine sS rfl rfl rfl hwl hwo rfl ?_ (hu := by exact D1 hwl.symm)
 refine D2 ?_
 refine sB (M3 rfl rfl) rfl rfl (fun h40 => ?_) (fun h40 => ?_)
 refine sD (nS (qT rfl (tS (tR ?_))))
 refine sL (A3 rfl rfl (B1 (by repeat first | exact mH | apply mT)) hwl) rfl rfl ?_
 refine sQ (qM rfl) rfl (sQ (qM rfl) rfl (sQ (qM rfl) rfl ?_))
 refine sS rfl rfl rfl hwl hwo rfl ?_ (hu := by exact D1 hwl.symm)
 refine J3 ?_
 refine A4N (rC rfl (A3 rfl rfl (B1 (by repeat first | exact mH | apply mT)) hwl)) (rT rfl) (rT rfl) (rT rfl) ?_
 (exact EvP.mk (by rw [← hev]; exact hend (by omega)) hrw)
 refine I5 ?_
 refine sB (qE rfl rfl) rfl rfl (fun h74 => ?_) (fun h74 => ?_)
 refine Z0 ?_
 refine A4N (rC rfl (A5 rfl rfl)) (rT rfl) (rT rfl) (rT rfl) ?_
 (exact EvP.mk (by rw [← hev]; exact hmu (by omega) (by omega)) (L9 _))
 refine sD (nS (cF rfl (tK (nS (tR ?_)))))
 refine sL (A3 rfl rfl (B1 (by repeat first | exact mH | apply mT)) hwl) rfl rfl ?_
 refine W7 rfl rfl rfl hwl hwo rfl (by repeat first | exact Sw.here | apply Sw.there) (by exact D1 (hul.trans hwl.symm)) ?_
 refine sD (N3 (nS (tR (sQ (qM rfl) rfl ?_))))
 refine sP (J2 rfl rfl (by omega) (by omega)) rfl rfl ?_
 refine sQ (qA rfl) rfl (sD ?_)
 refine J9 (i + 1, w, wc, G1) ?_ ?_ ?_
 (simp only [J5]; exact D8)
 (dsimp only; exact ⟨by omega, hle.trans hle1, hrw, by have := A7g (hval (by omega)); omega, by rw [← hev, hgo (by omega) (by omega), show n - (i + 1) = n - i - 1 by omega]⟩)
 (show n - (i + 1) < n - i; omega)
theorem B5d {e : Tm} {fuel : Int} (h : O3 fuel 0 300 = true) : S6 e fuel = ((K1 fuel.toNat e).1, (K1 fuel.toNat e).2.1, (K1 fuel.toNat e).2.2.1) := by
 unfold S6; rw [if_pos (A3l h)]
theorem A9K {fuel : Int} (h : fuel < 0 ∨ 300 < fuel) : O3 fuel 0 300 = false := by unfold O3; rw [decide_eq_false (by omega)]
theorem B5e {fuel : Int} (h : 0 ≤ fuel) (h2 : fuel ≤ 300) : O3 fuel 0 300 = true := by unfold O3; rw [decide_eq_true ⟨h, h2⟩]
theorem B5f (e : Tm) (fuel : Int) (G : IM) (cells : List Value) (hcnt : D0 e ≤ 4294967296) (hr : A9 G e cells) : Fn Tryz.prog 10 [.agg ⟨cells⟩, .int .i64 fuel] [] G (K4 (S6 e fuel)) := by
 have hRl := hr.len
 have hRo := hr.one
 have hno := @A6g e fuel
 have hin := @B5d e fuel
 refine B7 Tryz.func10 rfl Tryz.ntmps10 Tryz.results10 rfl ?_
 intro w0
 refine tS (tR ?_)
 refine sE (C2 rfl rfl) rfl (fun b3 => ?_)
 refine sE (A7 rfl) rfl (fun b4 => ?_)
 refine D2 ?_
 refine sB (J4 rfl rfl) rfl rfl (fun h13 => ?_) (fun h13 => ?_)
 refine T7 ?_
 refine C6 (rC rfl (A5 rfl rfl)) (rT rfl) (rT rfl) ?_
 (exact K4.mk (hno (A9K (by omega))) (L9 _))
 refine sQ (qM rfl) rfl (sQ (qM rfl) rfl ?_)
 refine sB (Y7 rfl rfl) rfl rfl (fun h35 => ?_) (fun h35 => ?_)
 refine I6 ?_
 refine C6 (rC rfl (A5 rfl rfl)) (rT rfl) (rT rfl) ?_
 (exact K4.mk (hno (A9K (by omega))) (L9 _))
 refine D2 ?_
 refine sL (A3 rfl rfl (B1 (by repeat first | exact mH | apply mT)) hRl) rfl rfl ?_
 refine sQ (qM rfl) rfl ?_
 (have hE := B5c e fuel.toNat (by omega) G cells hcnt hr; rw [Int.toNat_of_nonneg (by omega)] at hE; have hin := hin (B5e (by omega) (by omega)); refine E4 rfl hE rfl rfl (fun v G1 hle1 hh => ?_); obtain ⟨wc, hv, hrw⟩ := hh; have hwl := hrw.len; have hwo := hrw.one; generalize K1 fuel.toNat e = r at hv hrw hin; obtain ⟨w, c, l, i⟩ := r; simp only at hv hrw hin; subst hv)
 refine O7 ?_
 refine sE (A7 rfl) rfl (fun b68 => ?_)
 refine sS rfl rfl rfl hwl hwo rfl ?_ (hu := by exact D1 hwl.symm)
 refine C4 ?_
 refine sL (A3 rfl rfl (B1 (by repeat first | exact mH | apply mT)) hwl) rfl rfl ?_
 refine sQ (qM rfl) rfl (sQ (qM rfl) rfl ?_)
 refine sS rfl rfl rfl hwl hwo rfl ?_ (hu := by exact D1 hwl.symm)
 refine sQ (qA rfl) rfl (sQ (qA rfl) rfl (sD (nS (tT ?_))))
 refine C6 (rC rfl (A3 rfl rfl (B1 (by repeat first | exact mH | apply mT)) hwl)) (rT rfl) (rT rfl) ?_
 (exact K4.mk hin hrw)
theorem B5g : ∀ (t : Tm) (G : IM) (cells : List Value), cv t → E7 t = true → A9 G t cells → Fn Tryz.prog 45 [.agg ⟨cells⟩] [] G (H2 (.string (Z5 t)) G) := by
 refine Tm.ind fun k nm num ty fr lb ks ih G cells hc hv hr => ?_
 have hr0 := hr
 have hP := A4U _ G _ hr
 obtain ⟨hN, hkk⟩ := hc.node
 have hI := A6u (.mk k nm num ty fr lb ks) G _ hN.frA hr
 have hop := hN.ops
 have hnum0 := hN.num0
 have h14 : k = 14 → ks.length = 1 := fun h => by rw [h] at hop; have : D7 14 = 1 := rfl; omega
 have hvp := @A9k k nm num ty fr lb ks
 have hvf := @A9l k nm num ty fr lb ks
 have hvc := @A6m k nm num ty fr lb ks
 have hvl := @A9m k nm num ty fr lb ks
 have hvn := @A4D k nm num ty fr lb ks
 have hvy := @A9E k nm num ty fr lb ks
 have hprx := A1j k nm num ty fr lb ks
 have hinj := A4C k nm num ty fr lb ks
 have h5 : k ≠ 10 → Q6 (.mk k nm num ty fr lb ks) = false → inj (.mk k nm num ty fr lb ks) = false → k = 2 ∨ k = 3 ∨ k = 4 ∨ k = 5 := fun h1 h2 h3 => by
  have := hvn h1 h2 h3; rw [hv] at this; exact of_decide_eq_true this.symm
 have hdis : Q6 (.mk k nm num ty fr lb ks) = true → inj (.mk k nm num ty fr lb ks) = false := fun h => by
  rw [hprx] at h; have := of_decide_eq_true h; rw [hinj, decide_eq_false (by omega)]; rfl
 have hik : inj (.mk k nm num ty fr lb ks) = true → k = 14 := fun h => A4F h
 have hpk : Q6 (.mk k nm num ty fr lb ks) = true → k = 14 ∧ ty.k = fr.k := fun h => by rw [hprx] at h; have := of_decide_eq_true h; exact ⟨this.1, this.2.1.symm⟩
 have hkv := fun (h : inj (.mk k nm num ty fr lb ks) = true) => (hvy (.inr h) (h14 (hik h))).symm.trans hv
 obtain ⟨j, hj⟩ : ∃ j : Nat, num = j := ⟨num.toNat, by omega⟩
 have hdec := B36 j (by omega) G
 generalize hpx : Q6 (.mk k nm num ty fr lb ks) = bp at *
 generalize hij : inj (.mk k nm num ty fr lb ks) = bi at *
 subst hj
 obtain ⟨tk, tks⟩ := ty
 obtain ⟨fk, fks⟩ := fr
 obtain ⟨pt, ct, pf, cf, p, c, es, rfl, hk, hnum, hlb, hty, hfr, hsl, hkl⟩ := hr.open9
 refine B7 Tryz.func45 rfl Tryz.ntmps45 Tryz.results45 rfl ?_
 intro w0
 refine tS (tR ?_)
 refine sE (C2 rfl rfl) rfl (fun b3 => ?_)
 refine sQ (qA rfl) rfl (sD (nS (tS ?_)))
 refine B8 ?_
 refine tS (tR (sQ (B0 rfl) rfl (sL (B5 rfl rfl) rfl rfl ?_)))
 refine sB (qE rfl rfl) rfl rfl (fun h13 => ?_) (fun h13 => ?_)
 refine D2 ?_
 refine H8 rfl (hdec) rfl rfl ?_
 refine sQ (qA rfl) rfl (sD (nS (tT (rB (rS (E5 (rT rfl) ?_))))))
 (have hbp : bp = false := (by cases hb : bp with | false => rfl | true => (have := (hpk hb).1; omega)); refine ⟨rfl, congrArg Value.string ?_, rfl⟩; rw [hvl hbp (by omega) (by omega) (by omega)]; unfold A1L; first | (rw [if_pos (by omega)]; rfl) | (rw [if_neg (by omega), if_pos (by omega)]; rfl) | (rw [if_neg (by omega), if_neg (by omega)]; rfl))
 refine D2 ?_
 refine sB (qE rfl rfl) rfl rfl (fun h39 => ?_) (fun h39 => ?_)
 refine I9 ?_
 (have hbp : bp = false := (by cases hb : bp with | false => rfl | true => (have := (hpk hb).1; omega)); refine ⟨rfl, congrArg Value.string ?_, rfl⟩; rw [hvl hbp (by omega) (by omega) (by omega)]; unfold A1L; first | (rw [if_pos (by omega)]; rfl) | (rw [if_neg (by omega), if_pos (by omega)]; rfl) | (rw [if_neg (by omega), if_neg (by omega)]; rfl))
 refine D2 ?_
 refine sB (qE rfl rfl) rfl rfl (fun h62 => ?_) (fun h62 => ?_)
 refine I9 ?_
 (have hbp : bp = false := (by cases hb : bp with | false => rfl | true => (have := (hpk hb).1; omega)); refine ⟨rfl, congrArg Value.string ?_, rfl⟩; rw [hvl hbp (by omega) (by omega) (by omega)]; unfold A1L; first | (rw [if_pos (by omega)]; rfl) | (rw [if_neg (by omega), if_pos (by omega)]; rfl) | (rw [if_neg (by omega), if_neg (by omega)]; rfl))
 refine D2 ?_
 refine sB (qE rfl rfl) rfl rfl (fun h85 => ?_) (fun h85 => ?_)
 refine A0W ?_
 (refine ⟨rfl, congrArg Value.string ?_, rfl⟩; rw [hvp (by first | exact .inl (by omega) | exact .inr ⟨by assumption, by have := (hpk (by assumption)).2; simp only [Ty.k] at this ⊢; omega⟩)]; rfl)
 refine sQ (qM rfl) rfl (sL (A5 rfl rfl) rfl rfl ?_)
 refine E2 rfl (hP) rfl rfl (fun h112 => ?_) (fun h112 => ?_)
 refine H3 ?_
 refine sB (qE rfl rfl) rfl rfl (fun h117 => ?_) (fun h117 => ?_)
 refine H4 ?_
 (refine ⟨rfl, congrArg Value.string ?_, rfl⟩; rw [hvp (by first | exact .inl (by omega) | exact .inr ⟨by assumption, by have := (hpk (by assumption)).2; simp only [Ty.k] at this ⊢; omega⟩)]; rfl)
 refine D9 ?_
 refine E2 rfl (hI) rfl rfl (fun h143 => ?_) (fun h143 => ?_)
 refine D2 ?_
 (have hl1 := h14 (hik (by assumption)); obtain ⟨bx, ox, e, rfl, hl, hat, hre, hgb⟩ := hsl.kidTm hkl (i := 0) (by omega) (by omega); have hih := ih ks[0] (List.getElem_mem (by omega)) G e (hkk _ (List.getElem_mem (by omega))) (hkv (by assumption)) hre; refine sP (B3 (j := 0) rfl rfl rfl (by omega)) rfl rfl ?_)
 refine sL (A3 rfl rfl (hat _) hl) rfl rfl ?_
 refine H8 rfl (hih) rfl rfl ?_
 refine sQ (qA rfl) rfl (sD (nS (tT (rB (rS (E5 (rT rfl) ?_))))))
 (have hbp : bp = false := (by cases hb : bp with | false => rfl | true => (have := hdis hb; have h9 : bi = true := (by assumption); rw [h9] at this; cases this)); refine ⟨rfl, congrArg Value.string ?_, rfl⟩; rw [hvc hbp (hik (by assumption)) (by omega)])
 refine I6 ?_
 (refine ⟨rfl, congrArg Value.string ?_, rfl⟩; rw [hvf (by rintro (h | ⟨h1, h2⟩) <;> first | omega | exact Bool.noConfusion (h1.symm.trans (show bp = false by assumption)) | (have := (hpk h1).2; simp only [Ty.k] at this h2; omega)) (by cases hb : bp with | true => exact .inr rfl | false => exact .inl (by have := h5 (by omega) hb (by assumption); omega))]; rfl)
 refine I6 ?_
 refine E2 rfl (hI) rfl rfl (fun h192 => ?_) (fun h192 => ?_)
 refine D2 ?_
 (have hl1 := h14 (hik (by assumption)); obtain ⟨bx, ox, e, rfl, hl, hat, hre, hgb⟩ := hsl.kidTm hkl (i := 0) (by omega) (by omega); have hih := ih ks[0] (List.getElem_mem (by omega)) G e (hkk _ (List.getElem_mem (by omega))) (hkv (by assumption)) hre; refine sP (B3 (j := 0) rfl rfl rfl (by omega)) rfl rfl ?_)
 refine sL (A3 rfl rfl (hat _) hl) rfl rfl ?_
 refine H8 rfl (hih) rfl rfl ?_
 refine sQ (qA rfl) rfl (sD (nS (tT (rB (rS (E5 (rT rfl) ?_))))))
 (have hbp : bp = false := (by cases hb : bp with | false => rfl | true => (have := hdis hb; have h9 : bi = true := (by assumption); rw [h9] at this; cases this)); refine ⟨rfl, congrArg Value.string ?_, rfl⟩; rw [hvc hbp (hik (by assumption)) (by omega)])
 refine I6 ?_
 (refine ⟨rfl, congrArg Value.string ?_, rfl⟩; rw [hvf (by rintro (h | ⟨h1, h2⟩) <;> first | omega | exact Bool.noConfusion (h1.symm.trans (show bp = false by assumption)) | (have := (hpk h1).2; simp only [Ty.k] at this h2; omega)) (by cases hb : bp with | true => exact .inr rfl | false => exact .inl (by have := h5 (by omega) hb (by assumption); omega))]; rfl)
theorem A9L (e : Tm) (fuel : Int) (G : IM) (cells : List Value) (hcnt : D0 e ≤ 4294967296) (hr : A9 G e cells) : Fn Tryz.prog 18 [.agg ⟨cells⟩, .int .i64 fuel] [] G (A9s (T6 e fuel) G) := by
 have hRl := hr.len
 have hRo := hr.one
 have hno := @A6q e fuel
 have hyv := fun u t => @A4Q e u t fuel
 have hyn := fun u t => @A3M e u t fuel
 refine B7 Tryz.func18 rfl Tryz.ntmps18 Tryz.results18 rfl ?_
 intro w0
 refine tS (tR ?_)
 refine sE (C2 rfl rfl) rfl (fun b3 => ?_)
 refine C4 ?_
 refine sL (A3 rfl rfl (B1 (by repeat first | exact mH | apply mT)) hRl) rfl rfl ?_
 focus (refine E4 rfl (B41 e G cells hcnt hr) rfl rfl (fun v G1 hle1 hh => ?_); obtain ⟨cu, ct, rfl, hru, hrt⟩ := hh; rcases hI : U3 e with _ | ⟨u, t⟩; rotate_left; rw [hI] at hru hrt; simp only [Option.getD_some] at hru hrt; have hgI := A4O hI; rotate_left; rw [hI] at hru hrt; simp only [Option.getD_none] at hru hrt; simp only [Option.isSome]; rotate_left; simp only [Option.isSome]; rotate_left; all_goals (have hul := hru.len; have huo := hru.one; obtain ⟨p3, c3, e3, rfl, _⟩ := hrt.open))
 refine H3 ?_
 refine sE (A7 rfl) rfl (fun b17 => ?_)
 refine sE (A7 rfl) rfl (fun b18 => ?_)
 refine sS rfl rfl rfl hul huo rfl ?_ (hu := by exact D1 hul.symm)
 refine W1 ?_
 refine C6 (rT rfl) (rT rfl) (rT rfl) ?_
 (exact ⟨rfl, by rw [hno (by first | exact hI | rfl | assumption)]⟩)
 refine H3 ?_
 refine sE (A7 rfl) rfl (fun b47 => ?_)
 refine sE (A7 rfl) rfl (fun b48 => ?_)
 refine sS rfl rfl rfl hul huo rfl ?_ (hu := by exact D1 hul.symm)
 refine K0 ?_
 refine sL (A3 rfl rfl (B1 (by repeat first | exact mH | apply mT)) hul) rfl rfl ?_
 refine sQ (qM rfl) rfl ?_
 (have hyv := hyv u t hI; have hyn := hyn u t hI; have hev := @A9u u fuel; refine E4 rfl (B5f u fuel G1 cu (by have := A7g hgI.1; omega) hru) rfl rfl (fun v G2 hle2 hh => ?_); obtain ⟨wc, hvv, hrw⟩ := hh; have hwl := hrw.len; have hwo := hrw.one; generalize S6 u fuel = r at hvv hrw hyv hyn hev; obtain ⟨w, c, l⟩ := r; simp only at hvv hrw hyv hyn hev; subst hvv)
 refine H3 ?_
 refine sE (A7 rfl) rfl (fun b73 => ?_)
 refine sS rfl rfl rfl hwl hwo rfl ?_ (hu := by exact D1 hwl.symm)
 refine D2 ?_
 refine sB (M3 rfl rfl) rfl rfl (fun h83 => ?_) (fun h83 => ?_)
 refine I6 ?_
 refine C6 (rT rfl) (rT rfl) (rT rfl) ?_
 (exact ⟨rfl, by rw [hyn (by omega)]⟩)
 refine sD (nS (cF rfl (tK (nS (tS (tR ?_))))))
 refine sL (A3 rfl rfl (B1 (by repeat first | exact mH | apply mT)) hwl) rfl rfl ?_
 (obtain ⟨he1, he2, he3⟩ := hev (by omega); refine H8 rfl (B5g w G2 wc (A2r he1).1 he2 hrw) rfl rfl ?_)
 refine C4 ?_
 refine C6 (rT rfl) (rT rfl) (rT rfl) ?_
 (obtain rfl : c = 0 := (by omega); subst he3; exact ⟨rfl, by rw [hyv rfl]⟩)
def A6z (r s : ByteArray × Int × Int) : Int := if r.2.1 = 2 then 2 else if r.2.1 ≠ 0 ∨ s.2.1 = 4 ∨ s.2.1 = 5 then 3 else if s.2.1 = 0 ∧ r.1 = s.1 then 1 else 4
def A0Q (a b : Tm) (fuel : Int) : Int := if (S8 a).isSome = true ∧ W5 a b = true ∧ O3 fuel 0 300 = true then A6z (T6 a fuel) (T6 b fuel) else 0
theorem A6A {a b : Tm} {fuel : Int} (h : ¬ ((S8 a).isSome = true ∧ W5 a b = true ∧ O3 fuel 0 300 = true)) : A0Q a b fuel = 0 := by unfold A0Q; rw [if_neg h]
theorem A9M {a b : Tm} {fuel : Int} {s s' : ByteArray} {c c' l l' : Int} (h : (S8 a).isSome = true ∧ W5 a b = true ∧ O3 fuel 0 300 = true) (h1 : T6 a fuel = (s, c, l)) (h2 : T6 b fuel = (s', c', l')) :
  A0Q a b fuel = if c = 2 then 2 else if c ≠ 0 ∨ c' = 4 ∨ c' = 5 then 3 else if c' = 0 ∧ s = s' then 1 else 4 := by unfold A0Q; rw [if_pos h, h1, h2]; rfl
theorem B5h (a b : Tm) (fuel : Int) (G : IM) (ca cb : List Value) (hT : A01 G) (ha : A9 G a ca) (hb : A9 G b cb) : Fn Tryz.prog 21 [.agg ⟨ca⟩, .agg ⟨cb⟩, .int .i64 fuel] [] G (M4 fun _ v => v = .int .i64 (A0Q a b fuel)) := by
 have hal := ha.len
 have hbl := hb.len
 have hao := ha.one
 have hbo := hb.one
 have hno := @A6A a b fuel
 have hyes := @A9M a b fuel
 obtain ⟨R, hR⟩ : ∃ R, A0Q a b fuel = R := ⟨_, rfl⟩
 rw [hR] at hno
 simp only [hR] at hyes
 rw [hR]
 refine B7 Tryz.func21 rfl Tryz.ntmps21 Tryz.results21 rfl ?_
 intro w0
 refine tS (tR ?_)
 refine sE (C2 rfl rfl) rfl (fun b3 => ?_)
 refine sE (C2 rfl rfl) rfl (fun b4 => ?_)
 refine sQ (qA rfl) rfl (sD (nS (tS (tS (tR ?_)))))
 refine sL (A3 rfl rfl (B1 (by repeat first | exact mH | apply mT)) hal) rfl rfl ?_
 (refine E4 rfl (B4k a G ca ha) rfl rfl (fun v1 G1 hle1 hh => ?_); obtain ⟨ct, u, rfl, hru, _⟩ := hh; obtain ⟨qt, dt, et2, rfl, _⟩ := hru.open; have ha1 := ha.mono hle1; have hb1 := hb.mono hle1; have hP := B3S a b G1 ca cb ha1 hb1; generalize (S8 a).isSome = A1 at *; generalize W5 a b = A2 at *; cases A1)
 refine J7 ?_
 refine sE (A7 rfl) rfl (fun b16 => ?_)
 refine X5 ?_
 (rw [hno (fun hc => by first | exact Bool.noConfusion hc.1 | exact Bool.noConfusion (hc.2.1.symm.trans (show A2 = false by assumption)) | exact Bool.noConfusion (hc.2.2.symm.trans (show O3 fuel 0 300 = false by assumption)))]; exact ⟨rfl, rfl⟩)
 refine J7 ?_
 refine sE (A7 rfl) rfl (fun b51 => ?_)
 refine D9 ?_
 refine sL (A3 rfl rfl (B1 (by repeat first | exact mH | apply mT)) hal) rfl rfl ?_
 refine sL (A3 rfl rfl (B1 (by repeat first | exact mH | apply mT)) hbl) rfl rfl ?_
 refine E2 rfl (hP) rfl rfl (fun h63 => ?_) (fun h63 => ?_)
 refine H3 ?_
 refine E2 rfl (A82 fuel _) rfl rfl (fun h68 => ?_) (fun h68 => ?_)
 refine D9 ?_
 refine sL (A3 rfl rfl (B1 (by repeat first | exact mH | apply mT)) hal) rfl rfl ?_
 refine sQ (qM rfl) rfl ?_
 (refine E4 rfl (A9v a fuel G1 ca (hT.mono hle1) ha1) rfl rfl (fun v2 G2 hle2 hh => ?_); obtain ⟨s, c, l, hRa⟩ : ∃ s c l, T6 a fuel = (s, c, l) := ⟨_, _, _, rfl⟩; rw [hRa] at hh; replace hh : v2 = .tuple ⟨[.string s, .int .i64 c, .int .i64 l]⟩ := hh; subst hh; have hb2 := hb1.mono hle2)
 refine J3 ?_
 refine sL (A3 rfl rfl (B1 (by repeat first | exact mH | apply mT)) hbl) rfl rfl ?_
 refine sQ (qM rfl) rfl ?_
 (refine E4 rfl (A9v b fuel G2 cb ((hT.mono hle1).mono hle2) hb2) rfl rfl (fun v3 G3 hle3 hh => ?_); obtain ⟨s', c', l', hRb⟩ : ∃ s c l, T6 b fuel = (s, c, l) := ⟨_, _, _, rfl⟩; rw [hRb] at hh; replace hh : v3 = .tuple ⟨[.string s', .int .i64 c', .int .i64 l']⟩ := hh; subst hh; have hy := fun h => hyes h hRa hRb)
 refine I5 ?_
 refine B8 ?_
 refine tS (tR (sQ (qM rfl) rfl ?_))
 refine sB (qE rfl rfl) rfl rfl (fun h109 => ?_) (fun h109 => ?_)
 refine I9 ?_
 (rw [hy ⟨rfl, by assumption, by assumption⟩]; first | (rw [if_pos (by omega)]; exact ⟨rfl, rfl⟩) | (rw [if_neg (by omega), if_pos (by omega)]; exact ⟨rfl, rfl⟩) | (rw [if_neg (by omega), if_neg (by omega), if_pos ⟨by omega, by assumption⟩]; exact ⟨rfl, rfl⟩) | (rw [if_neg (by omega), if_neg (by omega), if_neg (fun hc => by first | omega | exact absurd hc.2 (by assumption))]; exact ⟨rfl, rfl⟩))
 refine C4 ?_
 refine sB (M3 rfl rfl) rfl rfl (fun h131 => ?_) (fun h131 => ?_)
 refine W1 ?_
 (rw [hy ⟨rfl, by assumption, by assumption⟩]; first | (rw [if_pos (by omega)]; exact ⟨rfl, rfl⟩) | (rw [if_neg (by omega), if_pos (by omega)]; exact ⟨rfl, rfl⟩) | (rw [if_neg (by omega), if_neg (by omega), if_pos ⟨by omega, by assumption⟩]; exact ⟨rfl, rfl⟩) | (rw [if_neg (by omega), if_neg (by omega), if_neg (fun hc => by first | omega | exact absurd hc.2 (by assumption))]; exact ⟨rfl, rfl⟩))
 refine sQ (qM rfl) rfl (sQ (qM rfl) rfl ?_)
 refine sB (qE rfl rfl) rfl rfl (fun h156 => ?_) (fun h156 => ?_)
 refine T2 ?_
 (rw [hy ⟨rfl, by assumption, by assumption⟩]; first | (rw [if_pos (by omega)]; exact ⟨rfl, rfl⟩) | (rw [if_neg (by omega), if_pos (by omega)]; exact ⟨rfl, rfl⟩) | (rw [if_neg (by omega), if_neg (by omega), if_pos ⟨by omega, by assumption⟩]; exact ⟨rfl, rfl⟩) | (rw [if_neg (by omega), if_neg (by omega), if_neg (fun hc => by first | omega | exact absurd hc.2 (by assumption))]; exact ⟨rfl, rfl⟩))
 refine sQ (N2 rfl rfl) rfl (sQ (qM rfl) rfl (sQ (qM rfl) rfl ?_))
 refine sB (qE rfl rfl) rfl rfl (fun h179 => ?_) (fun h179 => ?_)
 refine I6 ?_
 (rw [hy ⟨rfl, by assumption, by assumption⟩]; first | (rw [if_pos (by omega)]; exact ⟨rfl, rfl⟩) | (rw [if_neg (by omega), if_pos (by omega)]; exact ⟨rfl, rfl⟩) | (rw [if_neg (by omega), if_neg (by omega), if_pos ⟨by omega, by assumption⟩]; exact ⟨rfl, rfl⟩) | (rw [if_neg (by omega), if_neg (by omega), if_neg (fun hc => by first | omega | exact absurd hc.2 (by assumption))]; exact ⟨rfl, rfl⟩))
 refine D2 ?_
 refine sB (qE rfl rfl) rfl rfl (fun h203 => ?_) (fun h203 => ?_)
 refine sQ (qM rfl) rfl (sQ (qM rfl) rfl (sQ (qM rfl) rfl ?_))
 refine sB (A0x rfl rfl) rfl rfl (fun h207 => ?_) (fun h207 => ?_)
 refine I6 ?_
 (rw [hy ⟨rfl, by assumption, by assumption⟩]; first | (rw [if_pos (by omega)]; exact ⟨rfl, rfl⟩) | (rw [if_neg (by omega), if_pos (by omega)]; exact ⟨rfl, rfl⟩) | (rw [if_neg (by omega), if_neg (by omega), if_pos ⟨by omega, by assumption⟩]; exact ⟨rfl, rfl⟩) | (rw [if_neg (by omega), if_neg (by omega), if_neg (fun hc => by first | omega | exact absurd hc.2 (by assumption))]; exact ⟨rfl, rfl⟩))
 refine H4 ?_
 (rw [hy ⟨rfl, by assumption, by assumption⟩]; first | (rw [if_pos (by omega)]; exact ⟨rfl, rfl⟩) | (rw [if_neg (by omega), if_pos (by omega)]; exact ⟨rfl, rfl⟩) | (rw [if_neg (by omega), if_neg (by omega), if_pos ⟨by omega, by assumption⟩]; exact ⟨rfl, rfl⟩) | (rw [if_neg (by omega), if_neg (by omega), if_neg (fun hc => by first | omega | exact absurd hc.2 (by assumption))]; exact ⟨rfl, rfl⟩))
 refine Z0 ?_
 (rw [hy ⟨rfl, by assumption, by assumption⟩]; first | (rw [if_pos (by omega)]; exact ⟨rfl, rfl⟩) | (rw [if_neg (by omega), if_pos (by omega)]; exact ⟨rfl, rfl⟩) | (rw [if_neg (by omega), if_neg (by omega), if_pos ⟨by omega, by assumption⟩]; exact ⟨rfl, rfl⟩) | (rw [if_neg (by omega), if_neg (by omega), if_neg (fun hc => by first | omega | exact absurd hc.2 (by assumption))]; exact ⟨rfl, rfl⟩))
 refine I9 ?_
 (rw [hno (fun hc => by first | exact Bool.noConfusion hc.1 | exact Bool.noConfusion (hc.2.1.symm.trans (show A2 = false by assumption)) | exact Bool.noConfusion (hc.2.2.symm.trans (show O3 fuel 0 300 = false by assumption)))]; exact ⟨rfl, rfl⟩)
 refine T2 ?_
 (rw [hno (fun hc => by first | exact Bool.noConfusion hc.1 | exact Bool.noConfusion (hc.2.1.symm.trans (show A2 = false by assumption)) | exact Bool.noConfusion (hc.2.2.symm.trans (show O3 fuel 0 300 = false by assumption)))]; exact ⟨rfl, rfl⟩)
theorem B5i (a b : Tm) (fuel : Int) (G : IM) (ca cb : List Value) (hc1 : D0 a ≤ 4294967296) (hc2 : D0 b ≤ 4294967296) (ha : A9 G a ca) (hb : A9 G b cb) : Fn Tryz.prog 22 [.agg ⟨ca⟩, .agg ⟨cb⟩, .int .i64 fuel] [] G (M4 fun _ v => v = .int .i64 (A0Q a b fuel)) := by
 have hal := ha.len
 have hbl := hb.len
 have hao := ha.one
 have hbo := hb.one
 have hno := @A6A a b fuel
 have hyes := @A9M a b fuel
 have hw : O3 fuel 0 300 = true ↔ 0 ≤ fuel ∧ fuel ≤ 300 := A2q
 obtain ⟨R, hR⟩ : ∃ R, A0Q a b fuel = R := ⟨_, rfl⟩
 rw [hR] at hno
 simp only [hR] at hyes
 rw [hR]
 refine B7 Tryz.func22 rfl Tryz.ntmps22 Tryz.results22 rfl ?_
 intro w0
 refine tS (tR ?_)
 refine sE (C2 rfl rfl) rfl (fun b3 => ?_)
 refine sE (C2 rfl rfl) rfl (fun b4 => ?_)
 refine sQ (qA rfl) rfl (sD (nS (tS (tR ?_))))
 refine sL (A3 rfl rfl (B1 (by repeat first | exact mH | apply mT)) hal) rfl rfl ?_
 (refine E4 rfl (A6x a G ca hc1 ha) rfl rfl (fun v1 G1 hle1 hh => ?_); obtain ⟨mc, mt, rfl, hmr, hmu⟩ := hh; obtain ⟨qt, dt, et2, rfl, _⟩ := hmr.open; have ha1 := ha.mono hle1; have hb1 := hb.mono hle1; have hP := B3U a b G1 ca cb hc1 hc2 ha1 hb1; generalize (S8 a).isSome = A1 at *; generalize W5 a b = A2 at *; cases A1)
 refine J7 ?_
 refine sE (A7 rfl) rfl (fun b15 => ?_)
 refine F9 ?_
 refine sQ (qA rfl) rfl (sD (nS (tS (tS (tR ?_)))))
 refine sL (A3 rfl rfl (B1 (by repeat first | exact mH | apply mT)) hal) rfl rfl ?_
 refine sL (A3 rfl rfl (B1 (by repeat first | exact mH | apply mT)) hbl) rfl rfl ?_
 refine E2 rfl (hP) rfl rfl (fun h25 => ?_) (fun h25 => ?_)
 refine A1x ?_
 (rw [hno (fun hc => by first | (have := hw.1 hc.2.2; omega) | exact Bool.noConfusion hc.1 | exact Bool.noConfusion (hc.2.1.symm.trans (show A2 = false by assumption)))]; exact ⟨rfl, rfl⟩)
 refine A1x ?_
 (rw [hno (fun hc => by first | (have := hw.1 hc.2.2; omega) | exact Bool.noConfusion hc.1 | exact Bool.noConfusion (hc.2.1.symm.trans (show A2 = false by assumption)))]; exact ⟨rfl, rfl⟩)
 refine J7 ?_
 refine sE (A7 rfl) rfl (fun b79 => ?_)
 refine F9 ?_
 refine sQ (qA rfl) rfl (sD (nS (tS (tS (tR ?_)))))
 refine sL (A3 rfl rfl (B1 (by repeat first | exact mH | apply mT)) hal) rfl rfl ?_
 refine sL (A3 rfl rfl (B1 (by repeat first | exact mH | apply mT)) hbl) rfl rfl ?_
 refine E2 rfl (hP) rfl rfl (fun h89 => ?_) (fun h89 => ?_)
 refine C4 ?_
 refine sB (J4 rfl rfl) rfl rfl (fun h97 => ?_) (fun h97 => ?_)
 refine K0 ?_
 (rw [hno (fun hc => by first | (have := hw.1 hc.2.2; omega) | exact Bool.noConfusion hc.1 | exact Bool.noConfusion (hc.2.1.symm.trans (show A2 = false by assumption)))]; exact ⟨rfl, rfl⟩)
 refine sQ (N2 rfl rfl) rfl (sQ (qM rfl) rfl (sQ (qM rfl) rfl ?_))
 refine sB (Y7 rfl rfl) rfl rfl (fun h118 => ?_) (fun h118 => ?_)
 refine N5 ?_
 (rw [hno (fun hc => by first | (have := hw.1 hc.2.2; omega) | exact Bool.noConfusion hc.1 | exact Bool.noConfusion (hc.2.1.symm.trans (show A2 = false by assumption)))]; exact ⟨rfl, rfl⟩)
 refine D2 ?_
 refine sL (A3 rfl rfl (B1 (by repeat first | exact mH | apply mT)) hal) rfl rfl ?_
 refine sQ (qM rfl) rfl ?_
 (refine E4 rfl (A9L a fuel G1 ca hc1 ha1) rfl rfl (fun v2 G2 hle2 hh => ?_); obtain ⟨s, c, l, hRa⟩ : ∃ s c l, T6 a fuel = (s, c, l) := ⟨_, _, _, rfl⟩; rw [hRa] at hh; replace hh : v2 = .tuple ⟨[.string s, .int .i64 c, .int .i64 l]⟩ := hh; subst hh; have hb2 := hb1.mono hle2)
 refine J3 ?_
 refine sL (A3 rfl rfl (B1 (by repeat first | exact mH | apply mT)) hbl) rfl rfl ?_
 refine sQ (qM rfl) rfl ?_
 (refine E4 rfl (A9L b fuel G2 cb hc2 hb2) rfl rfl (fun v3 G3 hle3 hh => ?_); obtain ⟨s', c', l', hRb⟩ : ∃ s c l, T6 b fuel = (s, c, l) := ⟨_, _, _, rfl⟩; rw [hRb] at hh; replace hh : v3 = .tuple ⟨[.string s', .int .i64 c', .int .i64 l']⟩ := hh; subst hh; have hy := fun h => hyes h hRa hRb)
 refine I5 ?_
 refine B8 ?_
 refine tS (tR (sQ (qM rfl) rfl ?_))
 refine sB (qE rfl rfl) rfl rfl (fun h171 => ?_) (fun h171 => ?_)
 refine I9 ?_
 (rw [hy ⟨rfl, by assumption, hw.2 ⟨by omega, by omega⟩⟩]; first | (rw [if_pos (by omega)]; exact ⟨rfl, rfl⟩) | (rw [if_neg (by omega), if_pos (by omega)]; exact ⟨rfl, rfl⟩) | (rw [if_neg (by omega), if_neg (by omega), if_pos ⟨by omega, by assumption⟩]; exact ⟨rfl, rfl⟩) | (rw [if_neg (by omega), if_neg (by omega), if_neg (fun hc => by first | omega | exact absurd hc.2 (by assumption))]; exact ⟨rfl, rfl⟩))
 refine C4 ?_
 refine sB (M3 rfl rfl) rfl rfl (fun h193 => ?_) (fun h193 => ?_)
 refine W1 ?_
 (rw [hy ⟨rfl, by assumption, hw.2 ⟨by omega, by omega⟩⟩]; first | (rw [if_pos (by omega)]; exact ⟨rfl, rfl⟩) | (rw [if_neg (by omega), if_pos (by omega)]; exact ⟨rfl, rfl⟩) | (rw [if_neg (by omega), if_neg (by omega), if_pos ⟨by omega, by assumption⟩]; exact ⟨rfl, rfl⟩) | (rw [if_neg (by omega), if_neg (by omega), if_neg (fun hc => by first | omega | exact absurd hc.2 (by assumption))]; exact ⟨rfl, rfl⟩))
 refine sQ (qM rfl) rfl (sQ (qM rfl) rfl ?_)
 refine sB (qE rfl rfl) rfl rfl (fun h218 => ?_) (fun h218 => ?_)
 refine T2 ?_
 (rw [hy ⟨rfl, by assumption, hw.2 ⟨by omega, by omega⟩⟩]; first | (rw [if_pos (by omega)]; exact ⟨rfl, rfl⟩) | (rw [if_neg (by omega), if_pos (by omega)]; exact ⟨rfl, rfl⟩) | (rw [if_neg (by omega), if_neg (by omega), if_pos ⟨by omega, by assumption⟩]; exact ⟨rfl, rfl⟩) | (rw [if_neg (by omega), if_neg (by omega), if_neg (fun hc => by first | omega | exact absurd hc.2 (by assumption))]; exact ⟨rfl, rfl⟩))
 refine sQ (N2 rfl rfl) rfl (sQ (qM rfl) rfl (sQ (qM rfl) rfl ?_))
 refine sB (qE rfl rfl) rfl rfl (fun h241 => ?_) (fun h241 => ?_)
 refine I6 ?_
 (rw [hy ⟨rfl, by assumption, hw.2 ⟨by omega, by omega⟩⟩]; first | (rw [if_pos (by omega)]; exact ⟨rfl, rfl⟩) | (rw [if_neg (by omega), if_pos (by omega)]; exact ⟨rfl, rfl⟩) | (rw [if_neg (by omega), if_neg (by omega), if_pos ⟨by omega, by assumption⟩]; exact ⟨rfl, rfl⟩) | (rw [if_neg (by omega), if_neg (by omega), if_neg (fun hc => by first | omega | exact absurd hc.2 (by assumption))]; exact ⟨rfl, rfl⟩))
 refine D2 ?_
 refine sB (qE rfl rfl) rfl rfl (fun h265 => ?_) (fun h265 => ?_)
 refine sQ (qM rfl) rfl (sQ (qM rfl) rfl (sQ (qM rfl) rfl ?_))
 refine sB (A0x rfl rfl) rfl rfl (fun h269 => ?_) (fun h269 => ?_)
 refine I6 ?_
 (rw [hy ⟨rfl, by assumption, hw.2 ⟨by omega, by omega⟩⟩]; first | (rw [if_pos (by omega)]; exact ⟨rfl, rfl⟩) | (rw [if_neg (by omega), if_pos (by omega)]; exact ⟨rfl, rfl⟩) | (rw [if_neg (by omega), if_neg (by omega), if_pos ⟨by omega, by assumption⟩]; exact ⟨rfl, rfl⟩) | (rw [if_neg (by omega), if_neg (by omega), if_neg (fun hc => by first | omega | exact absurd hc.2 (by assumption))]; exact ⟨rfl, rfl⟩))
 refine H4 ?_
 (rw [hy ⟨rfl, by assumption, hw.2 ⟨by omega, by omega⟩⟩]; first | (rw [if_pos (by omega)]; exact ⟨rfl, rfl⟩) | (rw [if_neg (by omega), if_pos (by omega)]; exact ⟨rfl, rfl⟩) | (rw [if_neg (by omega), if_neg (by omega), if_pos ⟨by omega, by assumption⟩]; exact ⟨rfl, rfl⟩) | (rw [if_neg (by omega), if_neg (by omega), if_neg (fun hc => by first | omega | exact absurd hc.2 (by assumption))]; exact ⟨rfl, rfl⟩))
 refine Z0 ?_
 (rw [hy ⟨rfl, by assumption, hw.2 ⟨by omega, by omega⟩⟩]; first | (rw [if_pos (by omega)]; exact ⟨rfl, rfl⟩) | (rw [if_neg (by omega), if_pos (by omega)]; exact ⟨rfl, rfl⟩) | (rw [if_neg (by omega), if_neg (by omega), if_pos ⟨by omega, by assumption⟩]; exact ⟨rfl, rfl⟩) | (rw [if_neg (by omega), if_neg (by omega), if_neg (fun hc => by first | omega | exact absurd hc.2 (by assumption))]; exact ⟨rfl, rfl⟩))
 refine A1x ?_
 (rw [hno (fun hc => by first | (have := hw.1 hc.2.2; omega) | exact Bool.noConfusion hc.1 | exact Bool.noConfusion (hc.2.1.symm.trans (show A2 = false by assumption)))]; exact ⟨rfl, rfl⟩)
def gxT : GX → ByteArray
 | .n n => A9j n
 | .b b => if b = true then txT else txF
 | .p => A6k
 | .f => A6l
theorem A9N {v : GE} (h : GV v) : Z5 v.tm = gxT v.tx := by
 induction h with
 | num => rfl
 | @tru b => cases b <;> rfl
 | lam => rfl
 | pair _ _ _ _ => rfl
 | pf _ _ => rfl
 | pp _ _ => rfl
 | @inj A l e hv hg i =>
  rw [GE.tm, A6m (h0 := by simp)]
  ·exact i
  ·rw [A1j]
   refine decide_eq_false ?_
   rintro ⟨_, _, h | h⟩ <;> simp [GT.ty, Ty.k] at h
  ·rfl
theorem A9O {fuel : Int} (hf : O3 fuel 0 300 = true) (u : Tm) : S6 u fuel = ((K1 fuel.toNat u).1, (K1 fuel.toNat u).2.1, (K1 fuel.toNat u).2.2.1) := by
 unfold S6
 rw [if_pos (A2q.1 hf)]
theorem B5j {a b : Tm} {fuel : Int} (hp : W5 a b = true) (hf : O3 fuel 0 300 = true) (h0 : (T6 a fuel).2.1 = 0) :
  ((T6 b fuel).2.1 = 0 ∧ (T6 b fuel).1 = (T6 a fuel).1) ∨ (T6 b fuel).2.1 = 4 ∨ (T6 b fuel).2.1 = 5 := by
 cases hu : U3 a with
 | none => rw [A6q hu] at h0; cases h0
 | some p =>
  obtain ⟨u, t⟩ := p
  obtain ⟨e, e', A, A', rfl, rfl, h3, hP⟩ := B3b hu hp
  have hv := (A4O h3).1
  by_cases he : (S6 e.tm fuel).2.1 = 0
  ·have hE := A9O hf e.tm
   have hE' := A9O hf e'.tm
   rw [A4Q hu he, hE]
   rw [hE] at he
   obtain ⟨w, h1, h2, h4⟩ := B2o hP he fuel.toNat hv
   rcases h4 with ⟨g, w', g1, g2, g3⟩ | g | g
   ·refine .inl ?_
    rw [A4Q h3 (by rw [hE']; exact g), hE']
    refine ⟨rfl, ?_⟩
    show Z5 (K1 fuel.toNat e'.tm).1 = Z5 (K1 fuel.toNat e.tm).1
    rw [g1, h1, A9N g2, A9N h2, g3]
   ·exact .inr (.inl (by rw [A3M h3 (by rw [hE']; show (K1 fuel.toNat e'.tm).2.1 ≠ 0; omega), hE']; exact g))
   ·exact .inr (.inr (by rw [A3M h3 (by rw [hE']; show (K1 fuel.toNat e'.tm).2.1 ≠ 0; omega), hE']; exact g))
  ·rw [A3M hu he] at h0; exact absurd h0 he
theorem B5k {a b : Tm} {fuel : Int} (h : (S8 a).isSome = true ∧ W5 a b = true ∧ O3 fuel 0 300 = true) : A0Q a b fuel = A6z (T6 a fuel) (T6 b fuel) := by unfold A0Q; rw [if_pos h]
theorem B5l (a b : Tm) (fuel : Int) : A0Q a b fuel ≠ 4 := by
 by_cases h : (S8 a).isSome = true ∧ W5 a b = true ∧ O3 fuel 0 300 = true
 ·have hd := B5j h.2.1 h.2.2
  rw [B5k h]
  generalize T6 a fuel = r at hd ⊢
  generalize T6 b fuel = q at hd ⊢
  unfold A6z
  by_cases h1 : r.2.1 = 2
  ·rw [if_pos h1]; decide
  ·rw [if_neg h1]
   by_cases h2 : r.2.1 ≠ 0 ∨ q.2.1 = 4 ∨ q.2.1 = 5
   ·rw [if_pos h2]; decide
   ·rw [if_neg h2]
    rcases hd (by omega) with ⟨g1, g2⟩ | g | g
    ·rw [if_pos ⟨g1, g2.symm⟩]; decide
    ·omega
    ·omega
 ·rw [A6A h]; decide
theorem A9.nine {G : IM} {t : Tm} {cells : List Value} (h : A9 G t cells) : ∃ v1 v2 v3 v4 v5 v6 v7 v8 v9, cells = [v1, v2, v3, v4, v5, v6, v7, v8, v9] := by
 obtain ⟨_, _, _, _, _, _, _, _, _, rfl, _⟩ := h.open
 exact ⟨_, _, _, _, _, _, _, _, _, rfl⟩
theorem A3O {G : IM} {e : Tm} {ce : List Value} {k : Int} {nm : ByteArray} {tk : Int} {tks : List Ty} {q p : Option Addr} {d c : Nat} (hk : F0 k) (ht : B6 G (.mk tk tks) [.int .i64 tk, .slice q tks.length d]) (h1 : A9 G e ce) (hs : Sl G p 1 c 9 ce) :
  A9 G (.mk k nm 0 (.mk tk tks) B2 0 [e]) [.int .i64 k, .string nm, .int .i64 0, .int .i64 tk, .slice q tks.length d, .int .i64 0, .slice none 0 0, .int .i64 0, .slice p 1 c] := by
 obtain ⟨a1, a2⟩ := A2o h1 hs
 exact A9.of9 (ks := [e]) hk ⟨by omega, by omega⟩ ⟨by omega, by omega⟩ ht (M2 _ ⟨by omega, by omega⟩) a1 a2
theorem A3P {G : IM} {e f : Tm} {ce cf : List Value} {k : Int} {nm : ByteArray} {p : Option Addr} {c : Nat} (hk : F0 k) (h1 : A9 G e ce) (h2 : A9 G f cf) (hs : Sl G p 2 c 9 (ce ++ cf)) :
  A9 G (.mk k nm 0 B2 B2 0 [e, f]) [.int .i64 k, .string nm, .int .i64 0, .int .i64 0, .slice none 0 0, .int .i64 0, .slice none 0 0, .int .i64 0, .slice p 2 c] := by
 have hL : D6 G [e, f] [ce, cf] := by simp only [D6]; exact ⟨ce, [cf], rfl, h1, cf, [], rfl, h2, rfl⟩
 exact A9.of9 (ks := [e, f]) hk ⟨by omega, by omega⟩ ⟨by omega, by omega⟩ (M2 _ ⟨by omega, by omega⟩) (M2 _ ⟨by omega, by omega⟩)
  (D3.of (by simpa using hs) rfl hL.all (fun x hx => by obtain ⟨q, hq⟩ := List.getElem?_of_mem hx; exact (hL.inv hq I2).2.one)) hL
theorem B5m {G : IM} {e f g : Tm} {ce cf cg : List Value} {k : Int} {nm : ByteArray} {p : Option Addr} {c : Nat} (hk : F0 k) (h1 : A9 G e ce) (h2 : A9 G f cf) (h3 : A9 G g cg) (hs : Sl G p 3 c 9 (ce ++ (cf ++ cg))) :
  A9 G (.mk k nm 0 B2 B2 0 [e, f, g]) [.int .i64 k, .string nm, .int .i64 0, .int .i64 0, .slice none 0 0, .int .i64 0, .slice none 0 0, .int .i64 0, .slice p 3 c] := by
 have hL : D6 G [e, f, g] [ce, cf, cg] := by simp only [D6]; exact ⟨ce, [cf, cg], rfl, h1, cf, [cg], rfl, h2, cg, [], rfl, h3, rfl⟩
 exact A9.of9 (ks := [e, f, g]) hk ⟨by omega, by omega⟩ ⟨by omega, by omega⟩ (M2 _ ⟨by omega, by omega⟩) (M2 _ ⟨by omega, by omega⟩)
  (D3.of (by simpa using hs) rfl hL.all (fun x hx => by obtain ⟨q, hq⟩ := List.getElem?_of_mem hx; exact (hL.inv hq I2).2.one)) hL
def mB : Nat → Nat
 | 0 => 200
 | n + 1 => 3 * mB n + 200
theorem A1l (n : Nat) : 200 ≤ mB n := by cases n <;> simp only [mB] <;> omega
def A1m (n : Nat) (depth : Int) (t : Ty) : Prop := Q0 4 t ∧ (n : Int) - 1000 ≤ depth ∧ depth ≤ 1000 ∧ ((depth ≤ 1 ∧ Q0 n t) ∨ (2 ≤ depth ∧ depth + 3 ≤ n))
theorem A1m.sub {n : Nat} {depth : Int} {t t' : Ty} (h : A1m (n + 1) depth t) (hd : 1 < depth) (h4 : Q0 4 t') : A1m n (depth - 1) t' := by
 obtain ⟨h1, h2, h3, h5⟩ := h
 refine ⟨h4, by omega, by omega, ?_⟩
 rcases h5 with ⟨h5, _⟩ | ⟨h5, h6⟩
 ·omega
 ·by_cases h7 : 3 ≤ depth
  ·exact .inr ⟨by omega, by omega⟩
  ·exact .inl ⟨by omega, h4.le (by omega)⟩
theorem A1m.kid {n : Nat} {depth : Int} {k : Int} {ks : List Ty} {t' : Ty} (h : A1m (n + 1) depth (.mk k ks)) (ht : t' ∈ ks) : A1m n (depth - 1) t' := by
 have h4 : Q0 4 t' := (A5B h.1 ht).up
 by_cases hd : 1 < depth
 ·exact h.sub hd h4
 ·obtain ⟨h1, h2, h3, h5⟩ := h
  refine ⟨h4, by omega, by omega, .inl ⟨by omega, ?_⟩⟩
  rcases h5 with ⟨_, h5⟩ | ⟨h5, _⟩
  ·exact A5B h5 ht
  ·omega
theorem A1m.pos {n : Nat} {depth : Int} {k : Int} {ks : List Ty} (h : A1m n depth (.mk k ks)) (hd : 1 < depth ∨ k = 4 ∨ k = 5) : ∃ m, n = m + 1 := by
 cases n with
 | succ m => exact ⟨m, rfl⟩
 | zero =>
  obtain ⟨h1, h2, h3, h5⟩ := h
  rcases h5 with ⟨h5, h6⟩ | ⟨h5, h6⟩
  ·have := h6.2
   omega
  ·omega
def A9P (br : Nat) (pb : Option Addr) (nb cb : Nat) (bs : List UInt8) (n : Nat) : Prop := ∀ (depth : Int) (t : Ty) (p : Nat) (G : IM) (pc : Option Addr) (nc cc : Nat) (cells : List Value), A1m n depth t → (n : Int) - 1000 ≤ depth → depth ≤ 1000 → nc + n ≤ 40 → W3 G pc nc cc → B6 G t cells → Sl G pb nb cb 1 (O4 bs) → p + mB n < 1099511627776 →
 Fn Tryz.prog 78 [.pointer (some ⟨br, 0, none⟩), .slice pc nc cc, .agg ⟨cells⟩, .int .i64 depth] [rd br pb nb cb p] G
  (A0m br pb nb cb p (mB n) (fun G' v => ∃ e cells, v = .agg ⟨cells⟩ ∧ A9 G' e cells ∧ D0 e ≤ mB n))
theorem A9Q (br : Nat) (pb : Option Addr) (nb cb : Nat) (bs : List UInt8) (hnb : nb ≤ 2000) (m : Nat) (hM : A9P br pb nb cb bs m) (depth : Int) (a t : Ty) (p : Nat) (G : IM) (pc : Option Addr) (nc cc : Nat) (ca cells : List Value)
  (hfu : A1m m depth t) (hd0 : (m : Int) - 1000 ≤ depth) (hd1 : depth ≤ 1000) (hnc : nc + 1 + m ≤ 40) (hx : W3 G pc nc cc) (hra : B6 G a ca) (haa : E6 a ∧ K6 a ≤ 30) (hrt : B6 G t cells) (hb : Sl G pb nb cb 1 (O4 bs)) (hp : p + 1 + mB m < 1099511627776) :
  Fn Tryz.prog 120 [.pointer (some ⟨br, 0, none⟩), .slice pc nc cc, .agg ⟨ca⟩, .agg ⟨cells⟩, .int .i64 depth] [rd br pb nb cb p] G
   (A0m br pb nb cb p (1 + mB m) (fun G' v => ∃ e cells, v = .agg ⟨cells⟩ ∧ A9 G' e cells ∧ D0 e ≤ 1 + mB m)) := by
 obtain ⟨ak, aks⟩ := a
 obtain ⟨tk, tks⟩ := t
 obtain ⟨pa, cca, ea, rfl, _⟩ := hra.open
 obtain ⟨pt, cct, et, rfl, _⟩ := hrt.open
 simp only [Ty.k, Ty.ks] at hra hrt ⊢
 refine B7 Tryz.func120 rfl Tryz.ntmps120 Tryz.results120 rfl ?_
 intro w0
 refine tS (tR ?_)
 refine sE (C2 rfl rfl) rfl (fun b3 => ?_)
 refine sE (C2 rfl rfl) rfl (fun b4 => ?_)
 refine sE (A7 rfl) rfl (fun b5 => ?_)
 refine sD (nS (tS (tR (sQ (qM rfl) rfl ?_))))
 (refine J1 (C7 rfl rfl rfl (by omega) (by unfold maxLen; omega) rfl) rfl ?_; rintro _ ⟨b11, rfl⟩)
 (refine U6 (by repeat (first | exact Pk.here | apply Pk.there)) (fun G4 hle4 hsl4 _ => ?_); refine J0 rfl (A5N G4 br pb nb cb p bs _ _ _ _ (hb.mono hle4) hnb (by omega) hsl4 (by decide)) (Pk.perm (by repeat (first | exact Pk.here | apply Pk.there))) rfl rfl (fun v G5 outs hle5 hh => ?_); obtain ⟨rfl, rfl, hv⟩ := hh; obtain ⟨nm, rfl⟩ : ∃ nm, v = .string nm := (by simp only [List.mem_cons, List.not_mem_nil, or_false] at hv; rcases hv with rfl | rfl | rfl | rfl <;> exact ⟨_, rfl⟩); replace hra := hra.mono hle4; replace hx := hx.mono hle4; replace hb := hb.mono hle4; replace hrt := hrt.mono hle4;)
 refine sQ (qA rfl) rfl (sD (nS (tS ?_)))
 refine D4 D5 rfl ?_
 refine I3 (i := 0) (l' := [tt,ff,ff,ff,ff,ff,ff,ff,ff,ff,ff,ff,ff,ff]) rfl C8 (qM rfl) rfl (by kernel_rfl) rfl rfl ?_
 refine aL 1 rfl (A5 rfl rfl) rfl ?_
 refine aP 3 rfl (qM rfl) rfl ?_
 refine aP 4 rfl (qM rfl) rfl ?_
 refine aP 5 rfl (qM rfl) rfl ?_
 refine aL 6 rfl (A5 rfl rfl) rfl ?_
 refine aL 8 rfl (A5 rfl rfl) rfl ?_
 refine aP 9 rfl (qM rfl) rfl ?_
 refine A4 2 ?_
 (refine H1 rfl rfl (P3 _ _ _ haa.1.small hra) rfl rfl rfl (fun v G6 hle6 hh => ?_); obtain ⟨cs1, F1, rfl, hs1, hn1⟩ := hh; obtain ⟨p1, c1, rfl, _⟩ := hs1.open; have hr1 := hs1.R.mono (C5.le G6 _); replace hra := hra.mono hle6; replace hx := hx.mono hle6; replace hb := hb.mono hle6; replace hrt := hrt.mono hle6;)
 refine A4 7 ?_
 (refine H1 rfl rfl (B14 _ pc nc cc nm (.mk ak aks) _ hx (by omega) hra haa.1 haa.2) rfl rfl rfl (fun v G7 hle7 hh => ?_); obtain ⟨pm, cm, rfl, hxm⟩ := hh; replace hr1 := hr1.mono hle7; replace hx := hx.mono hle7; replace hb := hb.mono hle7; replace hrt := hrt.mono hle7; have hcall := hM depth (.mk tk tks) (p + 1) _ pm (nc + 1) cm _ hfu hd0 hd1 (by omega) hxm hrt hb (by omega))
 refine A4 10 ?_
 (refine X0 (l' := [tt,tt,tt,tt,tt,tt,tt,tt,tt,tt,tt,ff,ff,ff]) rfl rfl hcall (Pk.perm (by repeat (first | exact Pk.here | apply Pk.there))) rfl rfl rfl (by repeat (first | exact A8.nil | apply A8.dep (by decide +kernel) | apply A8.blk (by decide +kernel) (by repeat (first | exact Pk.here | apply Pk.there)) (by repeat first | exact mH | apply mT))) (fun v G8 outs hle8 hh => ?_); obtain ⟨p8, hp81, hp82, rfl, e8, c8, rfl, hr8, hc8⟩ := hh; obtain ⟨a1, a2, a3, a4, a5, a6, a7, a8, a9, rfl⟩ := hr8.nine; replace hr1 := hr1.mono hle8)
 refine A4 11 ?_
 (refine E0 rfl (C7 rfl rfl rfl (by omega) (by unfold maxLen; omega) rfl) rfl rfl ?_; rintro _ ⟨b33, rfl⟩)
 refine aP 12 rfl (Q3 rfl rfl) rfl ?_
 refine A4 13 ?_
 refine Q9 rfl rfl rfl rfl rfl rfl rfl rfl (by kernel_rfl) (by repeat first | exact Sw.here | apply Sw.there) (by rfl) ?_
 refine C1 (nS ?_)
 (refine H0 (cs := [a1, a2, a3, a4, a5, a6, a7, a8, a9]) (by repeat (first | exact Pk.here | apply Pk.there)) (fun G9 hle9 hsl9 hno9 => ?_); have hN := A3O (k := 5) (nm := nm) ⟨by omega, by omega⟩ (hr1.mono hle9) (hr8.mono hle9) hsl9)
 refine tT ?_
 refine H5 (outs := [rd br pb nb cb p8]) (rC rfl (A5 rfl rfl)) (by repeat (first | exact A0.nil | refine A0.cons Pk.here ?_ | refine A0.cons (Pk.there Pk.here) ?_ | refine A0.cons (Pk.there (Pk.there Pk.here)) ?_ | apply A0.drop)) ?_
 (exact ⟨p8, by omega, by omega, rfl, _, _, rfl, hN, by simp only [D0, E3]; omega⟩)
structure A3Q {ι : Type} (S : ι → Sy) (φ : ι → Prop) (K : Po) (e : Exit) (σ : Sy) : Prop where
 run : match e with
  | .normal => ∃ i, φ i ∧ Sub σ (S i)
  | e => K e σ
section cut
variable {P : Program} {Γ : M1} {K : Po} {σ : Sy} {ι : Type}
theorem A9R {c y : Code} (S : ι → Sy) (φ : ι → Prop) (h : I7 P Γ c (A3Q S φ K) σ) (k : ∀ i, φ i → I7 P Γ y K (S i)) : I7 P Γ c (A0S P Γ y K) σ := by
 refine A4Y h ?_
 rintro e σ ⟨hk⟩
 cases e with
 | normal => obtain ⟨i, hi, hs⟩ := hk; exact ⟨A6E hs (k i hi)⟩
 | _ => exact ⟨hk⟩
theorem A3R {S : ι → Sy} {φ : ι → Prop} {σ : Sy} (i : ι) (hs : Sub σ (S i)) (h : φ i) : A3Q S φ K .normal σ := ⟨⟨i, h, hs⟩⟩
theorem A0R {S : ι → Sy} {φ : ι → Prop} {σ : Sy} (h : K .ret σ) : A3Q S φ K .ret σ := ⟨h⟩
theorem B5n {S : ι → Sy} {φ : ι → Prop} (h : Y4 K) : Y4 (A3Q S φ K) := fun c σ hk => h c σ hk.run
instance npC6 {S : ι → Sy} {φ : ι → Prop} [h : NpC K] : NpC (A3Q S φ K) := ⟨B5n h.h⟩
end cut
theorem A13 (G : IM) (nm : ByteArray) (num : Int) {k : Int} (hk : F0 k) (hn : F0 num) : A9 G (.mk k nm num B2 B2 0 []) [.int .i64 k, .string nm, .int .i64 num, .int .i64 0, .slice none 0 0, .int .i64 0, .slice none 0 0, .int .i64 0, .slice none 0 0] := A1G hk hn
theorem B6.kidsM {G : IM} {k : Int} {ks : List Ty} {q : Option Addr} {c : Nat} (h : B6 G (.mk k ks) [.int .i64 k, .slice q ks.length c]) : ∃ es, D3 G q ks.length c 2 es ∧ C9 G ks es := by
 obtain ⟨q', c', es, he, _, h1, h2⟩ := h.open
 cases he
 exact ⟨es, h1, h2⟩
theorem B5o (br : Nat) (pb : Option Addr) (nb cb : Nat) (bs : List UInt8) (hnb : nb ≤ 2000) : ∀ n, A9P br pb nb cb bs n := by
 refine fun n => Nat.strongRecOn n fun n ih depth t p G pc nc cc cells hfu hd0 hd1 hnc hx hrt hb hp => ?_
 have hge := A1l n
 have har := hfu.1.ar
 have hszt := A4i hfu.1
 have hnn := A00 t
 have hncl := hx.le
 obtain ⟨k, ks⟩ := t
 obtain ⟨q, c, es, rfl, hk, _, _⟩ := hrt.open
 simp only [Ty.k, Ty.ks] at hk hrt ⊢
 have hsz30 : K6 (.mk k ks) ≤ 30 := hszt
 have hops : k = 4 ∨ k = 5 → ks.length = 2 := by have h2 := har; rw [E6] at h2; exact h2.1
 refine B7 Tryz.func78 rfl Tryz.ntmps78 Tryz.results78 rfl ?_
 intro w0
 refine tS (tR ?_)
 refine sE (C2 rfl rfl) rfl (fun b3 => ?_)
 refine sE (A7 rfl) rfl (fun b4 => ?_)
 refine C4 ?_
 refine sP (P1 rfl rfl (by omega) (by omega)) rfl rfl ?_
 refine sQ (qA rfl) rfl (sD (nS ?_))
 refine B8 ?_
 (refine J8 (fun (x : Nat × Nat × IM) => ⟨(9, .int .i64 ((x.1 : Int) - 1)) :: [(0, .pointer (some ⟨br, 0, none⟩)), (1, .slice pc nc cc), (3, .int .i64 depth), (6, .pointer (some ⟨b3, 0, none⟩)), (8, .pointer (some ⟨b4, 0, none⟩))], [rd br pb nb cb x.2.1, .blk b4 [.int .i64 0, .string ⟨⟨[]⟩⟩, .int .i64 0, .int .i64 0, .slice none 0 0, .int .i64 0, .slice none 0 0, .int .i64 0, .slice none 0 0], .blk b3 [.int .i64 k, .slice q ks.length c]], x.2.2⟩) (fun x => x.1 ≤ nc ∧ B9 G x.2.2 ∧ p ≤ x.2.1 ∧ x.2.1 + x.1 ≤ p + nc) (fun x => x.1) (nc, p, G) ?_ ?_ ?_)
 (simp only [J5]; exact D8)
 (exact ⟨Nat.le_refl _, B9.refl _, Nat.le_refl _, Nat.le_refl _⟩)
 (rintro ⟨(i : Nat), (p1 : Nat), G1⟩ ⟨hi, hleL, hpL, hpL2⟩; simp only [] at hi hleL hpL hpL2 ⊢; replace hx := hx.mono hleL; replace hb := hb.mono hleL; replace hrt := hrt.mono hleL;)
 refine tS (tS (tR (sQ (qM rfl) rfl ?_)))
 refine sB (A0I rfl rfl) rfl rfl (fun h25 => ?_) (fun h25 => ?_)
 refine sD (nS (qT rfl (tK (nS (tS ?_)))))
 (show I7 _ _ (.block 1 ..) _ _; obtain ⟨j, rfl⟩ : ∃ j, i = j + 1 := ⟨i - 1, by omega⟩; rw [show ((j + 1 : Nat) : Int) - 1 = (j : Int) from by omega]; obtain ⟨b, o, nm1, t1, qq1, dd1, rfl, hat, hr1, ha1, hs1, hgb⟩ := hx.get (i := j) (by omega); refine B8 ?_)
 refine O7 ?_
 refine sP (B3 (j := j) rfl rfl rfl (by omega)) rfl rfl ?_
 refine sQ (qF rfl) rfl ?_
 refine sL (A0w rfl rfl ((hat _).sub (j := 0) rfl)) rfl rfl ?_
 (refine E4 rfl (B13 _ _ nc cc nm1 hx) rfl rfl (fun v G2 hle2 hh => ?_); obtain ⟨ts, tcs, xs, rfl, hrs, has, hss⟩ := hh; obtain ⟨ps, cs, ess, rfl, _⟩ := hrs.open; obtain ⟨b, o, nm1, t1, qq1, dd1, hpp, hat, hr1, ha1, hs1, hgb⟩ := (hx.mono hle2).get (i := j) (by omega); cases hpp; replace hx := hx.mono hle2; replace hb := hb.mono hle2; replace hrt := hrt.mono hle2;)
 refine J7 ?_
 refine sE (A7 rfl) rfl (fun b45 => ?_)
 refine C4 ?_
 (have hinloop := hrs; refine J0 rfl (X8 _ br pb nb cb (p1) bs 3 hb hnb (by omega)) (Pk.perm (by repeat (first | exact Pk.here | apply Pk.there))) rfl rfl (fun v Gp outs hle53 hh => ?_); obtain ⟨rfl, rfl, j53, rfl, hj53, hk53⟩ := hh; have hinl := hj53)
 replace hrs := hrs.mono hle53
 replace hr1 := hr1.mono hle53
 replace hb := hb.mono hle53
 replace hrt := hrt.mono hle53
 replace hinloop := hinloop.mono hle53
 refine sB (qE rfl rfl) rfl rfl (fun h54 => ?_) (fun h54 => ?_)
 refine sQ (qM rfl) rfl (sL (A5 rfl rfl) rfl rfl ?_)
 refine E2 rfl ((A1E ts _ _ hrs)) rfl rfl (fun h57 => ?_) (fun h57 => ?_)
 refine H3 ?_
 refine E2 rfl ((A1H ts (.mk k ks) _ _ _ has har hrs hrt)) rfl rfl (fun h62 => ?_) (fun h62 => ?_)
 refine D2 ?_
 refine sP (B3 (j := j) rfl rfl rfl (by omega)) rfl rfl ?_
 refine sQ (qF rfl) rfl ?_
 refine sL (A0w rfl rfl ((hat _).sub (j := 0) rfl)) rfl rfl ?_
 refine I5 ?_
 refine H5 (outs := [rd br pb nb cb (p1 + 1)]) (rC rfl (A5 rfl rfl)) (by repeat (first | exact A0.nil | refine A0.cons Pk.here ?_ | refine A0.cons (Pk.there Pk.here) ?_ | refine A0.cons (Pk.there (Pk.there Pk.here)) ?_ | apply A0.drop)) ?_
 (exact ⟨(p1 + 1), by omega, by omega, rfl, _, _, rfl, A13 _ _ _ ⟨by omega, by omega⟩ (by first | exact ⟨by omega, by omega⟩ | exact hkn), by simp only [D0, E3]; omega⟩)
 refine D9 ?_
 refine sP (P1 rfl rfl (by omega) (by omega)) rfl rfl ?_
 refine sQ (qA rfl) rfl (sD ?_)
 (have hinloop := hrs; refine J9 (j, p1 + 1, Gp) ?_ ?_ ?_)
 (simp only [J5]; exact D8)
 (dsimp only; exact ⟨by omega, hleL.trans hle2, by omega, by omega⟩)
 (show _ < _ + 1; omega)
 refine I6 ?_
 refine sP (P1 rfl rfl (by omega) (by omega)) rfl rfl ?_
 refine sQ (qA rfl) rfl (sD ?_)
 (have hinloop := hrs; refine J9 (j, p1 + 1, Gp) ?_ ?_ ?_)
 (simp only [J5]; exact D8)
 (dsimp only; exact ⟨by omega, hleL.trans hle2, by omega, by omega⟩)
 (show _ < _ + 1; omega)
 refine T7 ?_
 refine sP (P1 rfl rfl (by omega) (by omega)) rfl rfl ?_
 refine sQ (qA rfl) rfl (sD ?_)
 (have hinloop := hrs; refine J9 (j, p1 + 1, Gp) ?_ ?_ ?_)
 (simp only [J5]; exact D8)
 (dsimp only; exact ⟨by omega, hleL.trans hle2, by omega, by omega⟩)
 (show _ < _ + 1; omega)
 refine I5 ?_
 (show I7 _ _ (.region 7 ..) _ _; refine A0d (fun (x : Bool) => ⟨(49, .bool x) :: [(0, .pointer (some ⟨br, 0, none⟩)), (1, .slice pc nc cc), (3, .int .i64 depth), (6, .pointer (some ⟨b3, 0, none⟩)), (8, .pointer (some ⟨b4, 0, none⟩))], [rd br pb nb cb p1, .blk b4 [.int .i64 0, .string ⟨⟨[]⟩⟩, .int .i64 0, .int .i64 0, .slice none 0 0, .int .i64 0, .slice none 0 0, .int .i64 0, .slice none 0 0], .blk b3 [.int .i64 k, .slice q ks.length c]], G1⟩) (fun x => x = true → 1 < depth) ?_ ?_)
 refine tR (sQ (qM rfl) rfl ?_)
 refine sB (Y7 rfl rfl) rfl rfl (fun h160 => ?_) (fun h160 => ?_)
 refine sD ?_
 refine P4 true (M0 (by repeat (first | exact E1.nil | refine E1.cons rfl ?_)) (by repeat (first | exact A0.refl | exact A0.nil | refine A0.cons (by repeat (first | exact Pk.here | apply Pk.there)) ?_ | apply A0.drop))) (fun _ => by omega)
 refine sD ?_
 refine P4 false (M0 (by repeat (first | exact E1.nil | refine E1.cons rfl ?_)) (by repeat (first | exact A0.refl | exact A0.nil | refine A0.cons (by repeat (first | exact Pk.here | apply Pk.there)) ?_ | apply A0.drop))) (fun h => absurd h (by decide))
 (rintro (x49 : Bool) hx49)
 (show I7 _ _ (.cond (.tmp 49) _ _) _ _; refine A9R (fun (x : Nat × IM) => ⟨[(0, .pointer (some ⟨br, 0, none⟩)), (1, .slice pc nc cc), (3, .int .i64 depth), (6, .pointer (some ⟨b3, 0, none⟩)), (8, .pointer (some ⟨b4, 0, none⟩))], [rd br pb nb cb x.1, .blk b4 [.int .i64 0, .string ⟨⟨[]⟩⟩, .int .i64 0, .int .i64 0, .slice none 0 0, .int .i64 0, .slice none 0 0, .int .i64 0, .slice none 0 0], .blk b3 [.int .i64 k, .slice q ks.length c]], x.2⟩) (fun x => B9 G1 x.2 ∧ p1 ≤ x.1 ∧ x.1 ≤ p1 + 1) (A29 rfl (fun hxt => ?_) (fun hxf => ?_)) ?_)
 refine tS (tR (sQ (qM rfl) rfl ?_))
 (have hx49b := hx49 hxt; refine J0 rfl (X8 _ br pb nb cb (p1) bs 9 hb hnb (by omega)) (Pk.perm (by repeat (first | exact Pk.here | apply Pk.there))) rfl rfl (fun v Gp outs hle170 hh => ?_); obtain ⟨rfl, rfl, j170, rfl, hj170, hk170⟩ := hh; have hpk9 := hj170)
 replace hb := hb.mono hle170
 replace hrt := hrt.mono hle170
 refine sD (nS ?_)
 refine B8 (tS (tR (sB (qE rfl rfl) rfl rfl (fun h176 => ?_) (fun h176 => ?_))))
 refine sQ (qA rfl) rfl (sD (nS (qT rfl (tS ?_))))
 (obtain ⟨m, rfl⟩ := hfu.pos (.inl (by omega)); have hmB : mB (m + 1) = 3 * mB m + 200 := rfl; have hgm := A1l m; refine D4 D5 rfl ?_)
 refine K9 (i := 0) (l' := [tt,ff,ff,ff,ff,ff,ff,ff,ff,ff,ff,ff,ff]) rfl C8 (A5 rfl rfl) rfl (by kernel_rfl) rfl rfl ?_
 refine aP 2 rfl (qM rfl) rfl ?_
 refine aP 3 rfl (qM rfl) rfl ?_
 refine aP 4 rfl (qM rfl) rfl ?_
 refine aL 5 rfl (A5 rfl rfl) rfl ?_
 refine aP 7 rfl (qM rfl) rfl ?_
 refine aP 8 rfl (P1 rfl rfl (by omega) (by omega)) rfl ?_
 refine A4 1 ?_
 (refine H1 rfl rfl (P3 _ _ _ har.small hrt) rfl rfl rfl (fun v G6 hle6 hh => ?_); obtain ⟨cs1, F1, rfl, hs1, hn1⟩ := hh; obtain ⟨pz, cz, rfl, _⟩ := hs1.open; have hrz := hs1.R.mono (C5.le G6 _); replace hx := hx.mono hle6; replace hb := hb.mono hle6; replace hrt := hrt.mono hle6;)
 refine A4 6 ?_
 (have hcall := A4p br pb nb cb bs hnb (.mk k ks) (p1 + 1) _ _ har hrt hb (by omega); refine X0 (l' := [tt,tt,tt,tt,tt,tt,tt,tt,tt,ff,ff,ff,ff]) rfl rfl hcall (Pk.perm (by repeat (first | exact Pk.here | apply Pk.there))) rfl rfl rfl (by repeat (first | exact A8.nil | apply A8.dep (by decide +kernel) | apply A8.im (by decide +kernel) hg0 (by repeat first | exact mH | apply mT) | apply A8.im (by decide +kernel) hg1 (by repeat first | exact mH | apply mT) | apply A8.blk (by decide +kernel) (by repeat (first | exact Pk.here | apply Pk.there)) (by repeat first | exact mH | apply mT))) (fun v Gn outs hleA hh => ?_); obtain ⟨pA, hpA1, hpA2, rfl, uA, cuA, rfl, hruA, huaA, husA, huhA⟩ := hh; obtain ⟨quA, duA, euA, rfl, _⟩ := hruA.open; replace hrz := hrz.mono hleA; replace hx := hx.mono hleA; replace hb := hb.mono hleA; replace hrt := hrt.mono hleA;)
 refine A4 9 ?_
 (have hcall := ih m (by omega) (depth - 1) uA pA _ pc nc cc _ (hfu.sub (by omega) (huhA 4 hfu.1)) (by omega) (by omega) (by omega) hx hruA hb (by omega); refine X0 (l' := [tt,tt,tt,tt,tt,tt,tt,tt,tt,tt,ff,ff,ff]) rfl rfl hcall (Pk.perm (by repeat (first | exact Pk.here | apply Pk.there))) rfl rfl rfl (by repeat (first | exact A8.nil | apply A8.dep (by decide +kernel) | apply A8.im (by decide +kernel) hg0 (by repeat first | exact mH | apply mT) | apply A8.im (by decide +kernel) hg1 (by repeat first | exact mH | apply mT) | apply A8.blk (by decide +kernel) (by repeat (first | exact Pk.here | apply Pk.there)) (by repeat first | exact mH | apply mT))) (fun v Gn outs hlea hh => ?_); obtain ⟨pa, hpa1, hpa2, rfl, ea, ca, rfl, hra, hca⟩ := hh; obtain ⟨a1, a2, a3, a4, a5, a6, a7, a8, a9, rfl⟩ := hra.nine; replace hrz := hrz.mono hlea; replace hx := hx.mono hlea; replace hb := hb.mono hlea; replace hrt := hrt.mono hlea;)
 refine A4 10 ?_
 (refine E0 rfl (C7 rfl rfl rfl (by omega) (by unfold maxLen; omega) rfl) rfl rfl ?_; rintro _ ⟨b197, rfl⟩)
 refine aP 11 rfl (Q3 rfl rfl) rfl ?_
 refine A4 12 ?_
 refine Q9 rfl rfl rfl rfl rfl rfl rfl rfl (by kernel_rfl) (by repeat first | exact Sw.here | apply Sw.there) (by rfl) ?_
 refine C1 (nS ?_)
 (refine H0 (cs := [a1, a2, a3, a4, a5, a6, a7, a8, a9]) (by repeat (first | exact Pk.here | apply Pk.there)) (fun G9 hle9 hsl9 hno9 => ?_); have hN := A3O (k := 13) (nm := ⟨⟨[]⟩⟩) ⟨by omega, by omega⟩ (hrz.mono hle9) (hra.mono hle9) hsl9)
 refine tT (rB ?_)
 refine A0R ?_
 refine H5 (outs := [rd br pb nb cb pa]) (rC rfl (A5 rfl rfl)) (by repeat (first | exact A0.nil | refine A0.cons Pk.here ?_ | refine A0.cons (Pk.there Pk.here) ?_ | refine A0.cons (Pk.there (Pk.there Pk.here)) ?_ | apply A0.drop)) ?_
 (exact ⟨pa, by omega, by omega, rfl, _, _, rfl, hN, by simp only [D0, E3]; omega⟩)
 refine sQ (qA rfl) rfl (sD (nS (cF rfl (tS (tR ?_)))))
 refine sB (qE rfl rfl) rfl rfl (fun h215 => ?_) (fun h215 => ?_)
 refine sQ (qA rfl) rfl (sD (nS (qT rfl (tS ?_))))
 (obtain ⟨m, rfl⟩ := hfu.pos (.inl (by omega)); have hmB : mB (m + 1) = 3 * mB m + 200 := rfl; have hgm := A1l m; refine D4 D5 rfl ?_)
 refine I3 (i := 0) (l' := [tt,ff,ff,ff,ff,ff,ff,ff,ff,ff,ff,ff,ff,ff,ff,ff,ff,ff,ff,ff,ff]) rfl C8 (qM rfl) rfl (by kernel_rfl) rfl rfl ?_
 refine aP 1 rfl (qM rfl) rfl ?_
 refine aP 3 rfl (qM rfl) rfl ?_
 refine aP 4 rfl (P1 rfl rfl (by omega) (by omega)) rfl ?_
 refine aP 6 rfl (qM rfl) rfl ?_
 refine aP 7 rfl (qM rfl) rfl ?_
 refine aL 8 rfl (A5 rfl rfl) rfl ?_
 refine aP 9 rfl (qM rfl) rfl ?_
 refine aP 10 rfl (P1 rfl rfl (by omega) (by omega)) rfl ?_
 refine aP 12 rfl (qM rfl) rfl ?_
 refine aP 13 rfl (qM rfl) rfl ?_
 refine aL 14 rfl (A5 rfl rfl) rfl ?_
 refine aP 15 rfl (qM rfl) rfl ?_
 refine aP 16 rfl (P1 rfl rfl (by omega) (by omega)) rfl ?_
 refine A4 2 ?_
 refine N4 rfl rfl ((A2P _)) rfl rfl rfl ?_
 refine A4 5 ?_
 (have hcall := ih m (by omega) (depth - 1) (.mk 3 []) (p1 + 1) _ pc nc cc _ (hfu.sub (by omega) (A2L 4 (by decide) (by decide))) (by omega) (by omega) (by omega) hx (M2 _ ⟨by omega, by omega⟩) hb (by omega); refine X0 (l' := [tt,tt,tt,tt,tt,tt,tt,tt,tt,tt,tt,ff,tt,tt,tt,tt,tt,ff,ff,ff,ff]) rfl rfl hcall (Pk.perm (by repeat (first | exact Pk.here | apply Pk.there))) rfl rfl rfl (by repeat (first | exact A8.nil | apply A8.dep (by decide +kernel) | apply A8.im (by decide +kernel) hg0 (by repeat first | exact mH | apply mT) | apply A8.im (by decide +kernel) hg1 (by repeat first | exact mH | apply mT) | apply A8.blk (by decide +kernel) (by repeat (first | exact Pk.here | apply Pk.there)) (by repeat first | exact mH | apply mT))) (fun v Gn outs hlef hh => ?_); obtain ⟨pf, hpf1, hpf2, rfl, ef, cf, rfl, hrf, hcf⟩ := hh; obtain ⟨f1, f2, f3, f4, f5, f6, f7, f8, f9, rfl⟩ := hrf.nine; replace hx := hx.mono hlef; replace hb := hb.mono hlef; replace hrt := hrt.mono hlef;)
 refine A4 11 ?_
 (have hcall := ih m (by omega) (depth - 1) (.mk k ks) pf _ pc nc cc _ (hfu.sub (by omega) hfu.1) (by omega) (by omega) (by omega) hx hrt hb (by omega); refine X0 (l' := [tt,tt,tt,tt,tt,tt,tt,tt,tt,tt,tt,tt,tt,tt,tt,tt,tt,ff,ff,ff,ff]) rfl rfl hcall (Pk.perm (by repeat (first | exact Pk.here | apply Pk.there))) rfl rfl rfl (by repeat (first | exact A8.nil | apply A8.dep (by decide +kernel) | apply A8.im (by decide +kernel) hg0 (by repeat first | exact mH | apply mT) | apply A8.im (by decide +kernel) hg1 (by repeat first | exact mH | apply mT) | apply A8.blk (by decide +kernel) (by repeat (first | exact Pk.here | apply Pk.there)) (by repeat first | exact mH | apply mT))) (fun v Gn outs hleg hh => ?_); obtain ⟨pg, hpg1, hpg2, rfl, eg, cg, rfl, hrg, hcg⟩ := hh; obtain ⟨g1, g2, g3, g4, g5, g6, g7, g8, g9, rfl⟩ := hrg.nine; replace hrf := hrf.mono hleg; replace hx := hx.mono hleg; replace hb := hb.mono hleg; replace hrt := hrt.mono hleg;)
 refine A4 17 ?_
 (have hcall := ih m (by omega) (depth - 1) (.mk k ks) pg _ pc nc cc _ (hfu.sub (by omega) hfu.1) (by omega) (by omega) (by omega) hx hrt hb (by omega); refine X0 (l' := [tt,tt,tt,tt,tt,tt,tt,tt,tt,tt,tt,tt,tt,tt,tt,tt,tt,tt,ff,ff,ff]) rfl rfl hcall (Pk.perm (by repeat (first | exact Pk.here | apply Pk.there))) rfl rfl rfl (by repeat (first | exact A8.nil | apply A8.dep (by decide +kernel) | apply A8.im (by decide +kernel) hg0 (by repeat first | exact mH | apply mT) | apply A8.im (by decide +kernel) hg1 (by repeat first | exact mH | apply mT) | apply A8.blk (by decide +kernel) (by repeat (first | exact Pk.here | apply Pk.there)) (by repeat first | exact mH | apply mT))) (fun v Gn outs hlei hh => ?_); obtain ⟨pi, hpi1, hpi2, rfl, ei, ci, rfl, hri, hci⟩ := hh; obtain ⟨i1, i2, i3, i4, i5, i6, i7, i8, i9, rfl⟩ := hri.nine; replace hrf := hrf.mono hlei; replace hrg := hrg.mono hlei; replace hx := hx.mono hlei; replace hb := hb.mono hlei; replace hrt := hrt.mono hlei;)
 refine A4 18 ?_
 (refine E0 rfl (C7 rfl rfl rfl (by omega) (by unfold maxLen; omega) rfl) rfl rfl ?_; rintro _ ⟨b245, rfl⟩)
 refine A4 19 ?_
 refine N4 rfl rfl ((A0v _ _ _ _ _)) rfl rfl rfl ?_
 refine A4 20 ?_
 refine Q9 rfl rfl rfl rfl rfl rfl rfl rfl (by kernel_rfl) (by repeat first | exact Sw.here | apply Sw.there) (by rfl) ?_
 refine C1 (nS ?_)
 (refine H0 (cs := [f1, f2, f3, f4, f5, f6, f7, f8, f9] ++ ([g1, g2, g3, g4, g5, g6, g7, g8, g9] ++ [i1, i2, i3, i4, i5, i6, i7, i8, i9])) (by repeat (first | exact Pk.here | apply Pk.there)) (fun G9 hle9 hsl9 hno9 => ?_); have hN := B5m (k := 9) (nm := ⟨⟨[]⟩⟩) ⟨by omega, by omega⟩ (hrf.mono hle9) (hrg.mono hle9) (hri.mono hle9) hsl9)
 refine tT (rB ?_)
 refine A0R ?_
 refine H5 (outs := [rd br pb nb cb pi]) (rC rfl (A5 rfl rfl)) (by repeat (first | exact A0.nil | refine A0.cons Pk.here ?_ | refine A0.cons (Pk.there Pk.here) ?_ | refine A0.cons (Pk.there (Pk.there Pk.here)) ?_ | apply A0.drop)) ?_
 (exact ⟨pi, by omega, by omega, rfl, _, _, rfl, hN, by simp only [D0, E3]; omega⟩)
 refine sQ (qA rfl) rfl (sD (nS (cF rfl (tS (tR ?_)))))
 refine sB (qE rfl rfl) rfl rfl (fun h264 => ?_) (fun h264 => ?_)
 refine C4 ?_
 (have hcall := A3v br pb nb cb bs hnb 0 (p1 + 1) _ (by omega) hb (by have : dB (0 + 1) ≤ 6 := (by decide); omega); refine J0 rfl hcall (Pk.perm (by repeat (first | exact Pk.here | apply Pk.there))) rfl rfl (fun v Gn outs hleD hh => ?_); obtain ⟨pD, hpD1, hpD2, rfl, uD, cuD, rfl, hruD, husD, huhD⟩ := hh; have huaD := huhD.ar; obtain ⟨quD, duD, euD, rfl, _⟩ := hruD.open; have hdBD : dB (0 + 1) ≤ 6 := (by decide); replace hx := hx.mono hleD; replace hb := hb.mono hleD; replace hrt := hrt.mono hleD;)
 refine sE (A7 rfl) rfl (fun b273 => ?_)
 refine F9 ?_
 refine sD (nS (tS ?_))
 (obtain ⟨m, rfl⟩ := hfu.pos (.inl (by omega)); have hmB : mB (m + 1) = 3 * mB m + 200 := rfl; have hgm := A1l m; refine D4 D5 rfl ?_)
 refine I3 (i := 0) (l' := [tt,ff,ff,ff,ff,ff,ff,ff,ff,ff,ff,ff,ff,ff,ff,ff,ff,ff]) rfl C8 (qM rfl) rfl (by kernel_rfl) rfl rfl ?_
 refine aP 1 rfl (qM rfl) rfl ?_
 refine aL 2 rfl (A5 rfl rfl) rfl ?_
 refine aL 3 rfl (A5 rfl rfl) rfl ?_
 refine aP 4 rfl (qM rfl) rfl ?_
 refine aP 5 rfl (P1 rfl rfl (by omega) (by omega)) rfl ?_
 refine aP 7 rfl (qM rfl) rfl ?_
 refine aP 8 rfl (qM rfl) rfl ?_
 refine aP 9 rfl (qM rfl) rfl ?_
 refine aL 10 rfl (A5 rfl rfl) rfl ?_
 refine aP 12 rfl (qM rfl) rfl ?_
 refine aP 13 rfl (P1 rfl rfl (by omega) (by omega)) rfl ?_
 refine A4 6 ?_
 (have hcall := A9Q br pb nb cb bs hnb m (ih m (by omega)) (depth - 1) uD (.mk k ks) (pD) _ pc nc cc _ _ (hfu.sub (by omega) hfu.1) (by omega) (by omega) (by omega) hx hruD ⟨huaD, by omega⟩ hrt hb (by omega); refine X0 (l' := [tt,tt,tt,tt,tt,tt,tt,tt,tt,tt,tt,ff,tt,tt,ff,ff,ff,ff]) rfl rfl hcall (Pk.perm (by repeat (first | exact Pk.here | apply Pk.there))) rfl rfl rfl (by repeat (first | exact A8.nil | apply A8.dep (by decide +kernel) | apply A8.im (by decide +kernel) hg0 (by repeat first | exact mH | apply mT) | apply A8.im (by decide +kernel) hg1 (by repeat first | exact mH | apply mT) | apply A8.blk (by decide +kernel) (by repeat (first | exact Pk.here | apply Pk.there)) (by repeat first | exact mH | apply mT))) (fun v Gn outs hlel hh => ?_); obtain ⟨pl, hpl1, hpl2, rfl, el, cl, rfl, hrl, hcl⟩ := hh; obtain ⟨l1, l2, l3, l4, l5, l6, l7, l8, l9, rfl⟩ := hrl.nine; replace hruD := hruD.mono hlel; replace hx := hx.mono hlel; replace hb := hb.mono hlel; replace hrt := hrt.mono hlel;)
 refine A4 11 ?_
 (have hcall := A4p br pb nb cb bs hnb uD (pl) _ _ huaD hruD hb (by omega); refine X0 (l' := [tt,tt,tt,tt,tt,tt,tt,tt,tt,tt,tt,tt,tt,tt,ff,ff,ff,ff]) rfl rfl hcall (Pk.perm (by repeat (first | exact Pk.here | apply Pk.there))) rfl rfl rfl (by repeat (first | exact A8.nil | apply A8.dep (by decide +kernel) | apply A8.im (by decide +kernel) hg0 (by repeat first | exact mH | apply mT) | apply A8.im (by decide +kernel) hg1 (by repeat first | exact mH | apply mT) | apply A8.blk (by decide +kernel) (by repeat (first | exact Pk.here | apply Pk.there)) (by repeat first | exact mH | apply mT))) (fun v Gn outs hleE hh => ?_); obtain ⟨pE, hpE1, hpE2, rfl, uE, cuE, rfl, hruE, huaE, husE, huhE⟩ := hh; obtain ⟨quE, duE, euE, rfl, _⟩ := hruE.open; replace hrl := hrl.mono hleE; replace hx := hx.mono hleE; replace hb := hb.mono hleE; replace hrt := hrt.mono hleE;)
 refine A4 14 ?_
 (have hcall := ih m (by omega) (depth - 1) uE pE _ pc nc cc _ (hfu.sub (by omega) (huhE 4 (huhD.le (by omega)))) (by omega) (by omega) (by omega) hx hruE hb (by omega); refine X0 (l' := [tt,tt,tt,tt,tt,tt,tt,tt,tt,tt,tt,tt,tt,tt,tt,ff,ff,ff]) rfl rfl hcall (Pk.perm (by repeat (first | exact Pk.here | apply Pk.there))) rfl rfl rfl (by repeat (first | exact A8.nil | apply A8.dep (by decide +kernel) | apply A8.im (by decide +kernel) hg0 (by repeat first | exact mH | apply mT) | apply A8.im (by decide +kernel) hg1 (by repeat first | exact mH | apply mT) | apply A8.blk (by decide +kernel) (by repeat (first | exact Pk.here | apply Pk.there)) (by repeat first | exact mH | apply mT))) (fun v Gn outs hled hh => ?_); obtain ⟨pd, hpd1, hpd2, rfl, ed, cd, rfl, hrd, hcd⟩ := hh; obtain ⟨d1, d2, d3, d4, d5, d6, d7, d8, d9, rfl⟩ := hrd.nine; replace hrl := hrl.mono hled; replace hx := hx.mono hled; replace hb := hb.mono hled; replace hrt := hrt.mono hled;)
 refine A4 15 ?_
 (refine E0 rfl (C7 rfl rfl rfl (by omega) (by unfold maxLen; omega) rfl) rfl rfl ?_; rintro _ ⟨b298, rfl⟩)
 refine A4 16 ?_
 refine N4 rfl rfl ((A0v _ _ _ _ _)) rfl rfl rfl ?_
 refine A4 17 ?_
 refine Q9 rfl rfl rfl rfl rfl rfl rfl rfl (by kernel_rfl) (by repeat first | exact Sw.here | apply Sw.there) (by rfl) ?_
 refine C1 (nS ?_)
 (refine H0 (cs := [l1, l2, l3, l4, l5, l6, l7, l8, l9] ++ [d1, d2, d3, d4, d5, d6, d7, d8, d9]) (by repeat (first | exact Pk.here | apply Pk.there)) (fun G9 hle9 hsl9 hno9 => ?_); have hN := A3P (k := 6) (nm := ⟨⟨[]⟩⟩) ⟨by omega, by omega⟩ (hrl.mono hle9) (hrd.mono hle9) hsl9)
 refine tT (rB ?_)
 refine A0R ?_
 refine H5 (outs := [rd br pb nb cb pd]) (rC rfl (A5 rfl rfl)) (by repeat (first | exact A0.nil | refine A0.cons Pk.here ?_ | refine A0.cons (Pk.there Pk.here) ?_ | refine A0.cons (Pk.there (Pk.there Pk.here)) ?_ | apply A0.drop)) ?_
 (exact ⟨pd, by omega, by omega, rfl, _, _, rfl, hN, by simp only [D0, E3]; omega⟩)
 refine sQ (qA rfl) rfl (sD (nS (cF rfl (tS (tR ?_)))))
 refine sB (qE rfl rfl) rfl rfl (fun h317 => ?_) (fun h317 => ?_)
 refine I5 ?_
 refine sP (P1 rfl rfl (by omega) (by omega)) rfl rfl ?_
 (have hpkq := hpk9; obtain ⟨m, rfl⟩ := hfu.pos (.inl (by omega)); have hmB : mB (m + 1) = 3 * mB m + 200 := rfl; have hgm := A1l m; have hcall := ih m (by omega) (depth - 1) (.mk k ks) (p1 + 1) _ pc nc cc _ (hfu.sub (by omega) hfu.1) (by omega) (by omega) (by omega) hx hrt hb (by omega); refine J0 rfl hcall (Pk.perm (by repeat (first | exact Pk.here | apply Pk.there))) rfl rfl (fun v Gn outs hleh hh => ?_); obtain ⟨ph, hph1, hph2, rfl, eh, ch, rfl, hrh, hch⟩ := hh; obtain ⟨h1, h2, h3, h4, h5, h6, h7, h8, h9, rfl⟩ := hrh.nine; replace hx := hx.mono hleh; replace hb := hb.mono hleh; replace hrt := hrt.mono hleh;)
 refine H8 rfl ((A2m _ _)) rfl rfl ?_
 (refine J1 (C7 rfl rfl rfl (by omega) (by unfold maxLen; omega) rfl) rfl ?_; rintro _ ⟨b331, rfl⟩)
 refine H8 rfl ((A0v _ _ _ _ _)) rfl rfl ?_
 (refine J1 (C7 rfl rfl rfl (by omega) (by unfold maxLen; omega) rfl) rfl ?_; rintro _ ⟨b333, rfl⟩)
 refine H8 rfl ((A0v _ _ _ _ _)) rfl rfl ?_
 refine F9 ?_
 refine sD (nS ?_)
 (refine H0 (cs := [h1, h2, h3, h4, h5, h6, h7, h8, h9] ++ [.int .i64 2, .string ⟨⟨[]⟩⟩, .int .i64 1, .int .i64 0, .slice none 0 0, .int .i64 0, .slice none 0 0, .int .i64 0, .slice none 0 0]) (by repeat (first | exact Pk.here | apply Pk.there)) (fun G8 hle8 hsl8 hno8 => ?_); have hNi := A3P (k := 10) (nm := ⟨⟨[]⟩⟩) ⟨by omega, by omega⟩ (hrh.mono hle8) (A13 G8 ⟨⟨[]⟩⟩ 1 (k := 2) ⟨by omega, by omega⟩ ⟨by omega, by omega⟩) hsl8; refine H0 (by repeat (first | exact Pk.here | apply Pk.there)) (fun G9 hle9 hsl9 hno9 => ?_); have hN := A3O (k := 11) (nm := ⟨⟨[]⟩⟩) ⟨by omega, by omega⟩ (M2 G9 (k := 0) ⟨by omega, by omega⟩) (hNi.mono hle9) hsl9)
 refine tT (rB ?_)
 refine A0R ?_
 refine H5 (outs := [rd br pb nb cb ph]) (rC rfl (A5 rfl rfl)) (by repeat (first | exact A0.nil | refine A0.cons Pk.here ?_ | refine A0.cons (Pk.there Pk.here) ?_ | refine A0.cons (Pk.there (Pk.there Pk.here)) ?_ | apply A0.drop)) ?_
 (exact ⟨ph, by omega, by omega, rfl, _, _, rfl, hN, by simp only [D0, E3]; omega⟩)
 refine sQ (qA rfl) rfl (sD (nS (cF rfl (tK (N3 ?_)))))
 refine A3R (p1 + 1, Gp) (M0 (by repeat (first | exact E1.nil | refine E1.cons rfl ?_)) (by repeat (first | exact A0.refl | exact A0.nil | refine A0.cons (by repeat (first | exact Pk.here | apply Pk.there)) ?_ | apply A0.drop))) ⟨B9.refl _, by dsimp only; omega, by dsimp only; omega⟩
 refine tK ?_
 refine A3R (p1, G1) (M0 (by repeat (first | exact E1.nil | refine E1.cons rfl ?_)) (by repeat (first | exact A0.refl | exact A0.nil | refine A0.cons (by repeat (first | exact Pk.here | apply Pk.there)) ?_ | apply A0.drop))) ⟨B9.refl _, by dsimp only; omega, by dsimp only; omega⟩
 (rintro ⟨(p2 : Nat), G2⟩ ⟨hle2c, hp2a, hp2b⟩; simp only [] at hle2c hp2a hp2b ⊢; have hcut1 := hp2a; replace hx := hx.mono hle2c; replace hb := hb.mono hle2c; replace hrt := hrt.mono hle2c;)
 refine C4 ?_
 (show I7 _ _ (.block 3 ..) _ _; refine A9R (fun (x : Nat × IM) => ⟨[(0, .pointer (some ⟨br, 0, none⟩)), (1, .slice pc nc cc), (3, .int .i64 depth), (6, .pointer (some ⟨b3, 0, none⟩)), (8, .pointer (some ⟨b4, 0, none⟩))], [rd br pb nb cb x.1, .blk b4 [.int .i64 0, .string ⟨⟨[]⟩⟩, .int .i64 0, .int .i64 0, .slice none 0 0, .int .i64 0, .slice none 0 0, .int .i64 0, .slice none 0 0], .blk b3 [.int .i64 k, .slice q ks.length c]], x.2⟩) (fun x => B9 G2 x.2 ∧ p2 ≤ x.1 ∧ x.1 ≤ p2 + 2) ?_ ?_)
 refine B8 (tS (tR (sB (qE rfl rfl) rfl rfl (fun h365 => ?_) (fun h365 => ?_))))
 refine D2 ?_
 refine sB (Y7 rfl rfl) rfl rfl (fun h374 => ?_) (fun h374 => ?_)
 refine sQ (qM rfl) rfl (sQ (qM rfl) rfl ?_)
 (have hkk3 : k = 3 := (by omega); refine J0 rfl (X8 _ br pb nb cb (p2) bs 2 hb hnb (by omega)) (Pk.perm (by repeat (first | exact Pk.here | apply Pk.there))) rfl rfl (fun v Gp outs hle377 hh => ?_); obtain ⟨rfl, rfl, j377, rfl, hj377, hk377⟩ := hh; have hpk22 := hj377)
 replace hb := hb.mono hle377
 replace hrt := hrt.mono hle377
 refine sB (qE rfl rfl) rfl rfl (fun h378 => ?_) (fun h378 => ?_)
 refine D2 ?_
 refine H8 rfl ((A0u _)) rfl rfl ?_
 refine sQ (qM rfl) rfl ?_
 refine sP (P1 rfl rfl (by omega) (by omega)) rfl rfl ?_
 (have hkk3q := hkk3; obtain ⟨m, rfl⟩ := hfu.pos (.inl (by omega)); have hmB : mB (m + 1) = 3 * mB m + 200 := rfl; have hgm := A1l m; have hcall := ih m (by omega) (depth - 1) (.mk 2 []) (p2 + 1) _ pc nc cc _ (hfu.sub (by omega) (A2L 4 (by decide) (by decide))) (by omega) (by omega) (by omega) hx (M2 _ ⟨by omega, by omega⟩) hb (by omega); refine J0 rfl hcall (Pk.perm (by repeat (first | exact Pk.here | apply Pk.there))) rfl rfl (fun v Gn outs hlen hh => ?_); obtain ⟨pn, hpn1, hpn2, rfl, en, cn, rfl, hrn, hcn⟩ := hh; obtain ⟨n1, n2, n3, n4, n5, n6, n7, n8, n9, rfl⟩ := hrn.nine; replace hx := hx.mono hlen; replace hb := hb.mono hlen; replace hrt := hrt.mono hlen;)
 refine sQ (qM rfl) rfl (sQ (qM rfl) rfl ?_)
 refine H8 rfl ((A0u _)) rfl rfl ?_
 refine sQ (qM rfl) rfl ?_
 refine sP (P1 rfl rfl (by omega) (by omega)) rfl rfl ?_
 (have hcall := ih m (by omega) (depth - 1) (.mk 2 []) pn _ pc nc cc _ (hfu.sub (by omega) (A2L 4 (by decide) (by decide))) (by omega) (by omega) (by omega) hx (M2 _ ⟨by omega, by omega⟩) hb (by omega); refine J0 rfl hcall (Pk.perm (by repeat (first | exact Pk.here | apply Pk.there))) rfl rfl (fun v Gn outs hleo hh => ?_); obtain ⟨po, hpo1, hpo2, rfl, eo, co, rfl, hro, hco⟩ := hh; obtain ⟨o1, o2, o3, o4, o5, o6, o7, o8, o9, rfl⟩ := hro.nine; replace hrn := hrn.mono hleo; replace hx := hx.mono hleo; replace hb := hb.mono hleo; replace hrt := hrt.mono hleo;)
 (refine J1 (C7 rfl rfl rfl (by omega) (by unfold maxLen; omega) rfl) rfl ?_; rintro _ ⟨b397, rfl⟩)
 refine H8 rfl ((A0v _ _ _ _ _)) rfl rfl ?_
 refine F9 ?_
 refine sD (nS ?_)
 (refine H0 (cs := [n1, n2, n3, n4, n5, n6, n7, n8, n9] ++ [o1, o2, o3, o4, o5, o6, o7, o8, o9]) (by repeat (first | exact Pk.here | apply Pk.there)) (fun G9 hle9 hsl9 hno9 => ?_); have hN := A3P (k := 8) (nm := ⟨⟨[]⟩⟩) ⟨by omega, by omega⟩ (hrn.mono hle9) (hro.mono hle9) hsl9)
 refine tT (rS (rB ?_))
 refine A0R ?_
 refine H5 (outs := [rd br pb nb cb po]) (rC rfl (A5 rfl rfl)) (by repeat (first | exact A0.nil | refine A0.cons Pk.here ?_ | refine A0.cons (Pk.there Pk.here) ?_ | refine A0.cons (Pk.there (Pk.there Pk.here)) ?_ | apply A0.drop)) ?_
 (exact ⟨po, by omega, by omega, rfl, _, _, rfl, hN, by simp only [D0, E3]; omega⟩)
 refine I6 ?_
 refine A0R ?_
 refine H5 (outs := [rd br pb nb cb (p2 + 1)]) (rC rfl (A5 rfl rfl)) (by repeat (first | exact A0.nil | refine A0.cons Pk.here ?_ | refine A0.cons (Pk.there Pk.here) ?_ | refine A0.cons (Pk.there (Pk.there Pk.here)) ?_ | apply A0.drop)) ?_
 (exact ⟨(p2 + 1), by omega, by omega, rfl, _, _, rfl, A13 _ _ _ ⟨by omega, by omega⟩ (by first | exact ⟨by omega, by omega⟩ | exact hkn), by simp only [D0, E3]; omega⟩)
 refine T2 ?_
 refine A0R ?_
 refine H5 (outs := [rd br pb nb cb p2]) (rC rfl (A5 rfl rfl)) (by repeat (first | exact A0.nil | refine A0.cons Pk.here ?_ | refine A0.cons (Pk.there Pk.here) ?_ | refine A0.cons (Pk.there (Pk.there Pk.here)) ?_ | apply A0.drop)) ?_
 (exact ⟨p2, by omega, by omega, rfl, _, _, rfl, A13 _ _ _ ⟨by omega, by omega⟩ (by first | exact ⟨by omega, by omega⟩ | exact hkn), by simp only [D0, E3]; omega⟩)
 refine sQ (qA rfl) rfl (sD (nS (cF rfl (tS (tR ?_)))))
 refine sB (qE rfl rfl) rfl rfl (fun h453 => ?_) (fun h453 => ?_)
 refine sQ (qA rfl) rfl (sD (nS (qT rfl (tS ?_))))
 (have hk45 : k = 4 ∨ k = 5 := (by omega); have hl2 := hops hk45; obtain ⟨m, rfl⟩ := hfu.pos (.inr hk45); have hmB : mB (m + 1) = 3 * mB m + 200 := rfl; have hgm := A1l m; obtain ⟨es9, hsl, hkl⟩ := hrt.kidsM; obtain ⟨b0, o0, q0, d0, hp0, hat0, hre0, hg0⟩ := hsl.kidTy hkl (i := 0) (by omega) (by omega); obtain ⟨b1, o1, q1, d1, hp1, hat1, hre1, hg1⟩ := hsl.kidTy hkl (i := 1) (by omega) (by omega); cases hp0; cases hp1; have hmem0 := List.getElem_mem (l := ks) (n := 0) (by omega); have hmem1 := List.getElem_mem (l := ks) (n := 1) (by omega); refine D4 D5 rfl ?_)
 refine I3 (i := 0) (l' := [tt,ff,ff,ff,ff,ff,ff,ff,ff,ff,ff,ff,ff,ff]) rfl C8 (qM rfl) rfl (by kernel_rfl) rfl rfl ?_
 refine aP 1 rfl (qM rfl) rfl ?_
 refine aP 2 rfl (B0 rfl) rfl ?_
 refine aL 3 rfl (B5 rfl rfl) rfl ?_
 refine aP 4 rfl (B3 (j := 0) rfl rfl rfl (by omega)) rfl ?_
 refine aL 5 rfl (A3 rfl rfl (hat0 _) rfl) rfl ?_
 refine aP 6 rfl (B0 rfl) rfl ?_
 refine aL 7 rfl (B5 rfl rfl) rfl ?_
 refine aP 8 rfl (B3 (j := 1) rfl rfl rfl (by omega)) rfl ?_
 refine aL 9 rfl (A3 rfl rfl (hat1 _) rfl) rfl ?_
 refine aP 10 rfl (qM rfl) rfl ?_
 refine aP 11 rfl (P1 rfl rfl (by omega) (by omega)) rfl ?_
 refine A4 12 ?_
 (have hcall := A9Q br pb nb cb bs hnb m (ih m (by omega)) (depth - 1) ks[0] ks[1] (p2) _ pc nc cc _ _ (hfu.kid hmem1) (by omega) (by omega) (by omega) hx hre0 ⟨har.kid _ hmem0, by have := B12 (k := k) hmem0; omega⟩ hre1 hb (by omega); refine X0 (l' := [tt,tt,tt,tt,tt,tt,tt,tt,tt,tt,tt,tt,tt,ff]) rfl rfl hcall (Pk.perm (by repeat (first | exact Pk.here | apply Pk.there))) rfl rfl rfl (by repeat (first | exact A8.nil | apply A8.dep (by decide +kernel) | apply A8.im (by decide +kernel) hg0 (by repeat first | exact mH | apply mT) | apply A8.im (by decide +kernel) hg1 (by repeat first | exact mH | apply mT) | apply A8.blk (by decide +kernel) (by repeat (first | exact Pk.here | apply Pk.there)) (by repeat first | exact mH | apply mT))) (fun v Gn outs hlek hh => ?_); obtain ⟨pk, hpk1, hpk2, rfl, ek, ck, rfl, hrk, hck⟩ := hh; obtain ⟨k1, k2, k3, k4, k5, k6, k7, k8, k9, rfl⟩ := hrk.nine; replace hx := hx.mono hlek; replace hb := hb.mono hlek; replace hrt := hrt.mono hlek;)
 refine A4 13 ?_
 refine Q9 rfl rfl rfl rfl rfl hrk.one rfl rfl (by kernel_rfl) (by repeat first | exact Sw.here | apply Sw.there) (by rfl) ?_
 refine C1 (nS (tT (rB ?_)))
 refine A0R ?_
 refine H5 (outs := [rd br pb nb cb pk]) (rC rfl (A5 rfl rfl)) (by repeat (first | exact A0.nil | refine A0.cons Pk.here ?_ | refine A0.cons (Pk.there Pk.here) ?_ | refine A0.cons (Pk.there (Pk.there Pk.here)) ?_ | apply A0.drop)) ?_
 (exact ⟨pk, by omega, by omega, rfl, _, _, rfl, hrk, by omega⟩)
 refine sQ (qA rfl) rfl (sD (nS (cF rfl (tS (tR ?_)))))
 refine sB (qE rfl rfl) rfl rfl (fun h489 => ?_) (fun h489 => ?_)
 refine sQ (qA rfl) rfl (sD (nS (qT rfl (tS ?_))))
 (have hk45 : k = 4 ∨ k = 5 := (by omega); have hl2 := hops hk45; obtain ⟨m, rfl⟩ := hfu.pos (.inr hk45); have hmB : mB (m + 1) = 3 * mB m + 200 := rfl; have hgm := A1l m; obtain ⟨es9, hsl, hkl⟩ := hrt.kidsM; obtain ⟨b0, o0, q0, d0, hp0, hat0, hre0, hg0⟩ := hsl.kidTy hkl (i := 0) (by omega) (by omega); obtain ⟨b1, o1, q1, d1, hp1, hat1, hre1, hg1⟩ := hsl.kidTy hkl (i := 1) (by omega) (by omega); cases hp0; cases hp1; have hmem0 := List.getElem_mem (l := ks) (n := 0) (by omega); have hmem1 := List.getElem_mem (l := ks) (n := 1) (by omega); refine D4 D5 rfl ?_)
 refine I3 (i := 0) (l' := [tt,ff,ff,ff,ff,ff,ff,ff,ff,ff,ff,ff,ff,ff,ff,ff,ff,ff,ff,ff,ff]) rfl C8 (qM rfl) rfl (by kernel_rfl) rfl rfl ?_
 refine aP 1 rfl (qM rfl) rfl ?_
 refine aP 2 rfl (B0 rfl) rfl ?_
 refine aL 3 rfl (B5 rfl rfl) rfl ?_
 refine aP 4 rfl (B3 (j := 0) rfl rfl rfl (by omega)) rfl ?_
 refine aL 5 rfl (A3 rfl rfl (hat0 _) rfl) rfl ?_
 refine aP 6 rfl (qM rfl) rfl ?_
 refine aP 7 rfl (P1 rfl rfl (by omega) (by omega)) rfl ?_
 refine aP 9 rfl (qM rfl) rfl ?_
 refine aP 10 rfl (qM rfl) rfl ?_
 refine aP 11 rfl (B0 rfl) rfl ?_
 refine aL 12 rfl (B5 rfl rfl) rfl ?_
 refine aP 13 rfl (B3 (j := 1) rfl rfl rfl (by omega)) rfl ?_
 refine aL 14 rfl (A3 rfl rfl (hat1 _) rfl) rfl ?_
 refine aP 15 rfl (qM rfl) rfl ?_
 refine aP 16 rfl (P1 rfl rfl (by omega) (by omega)) rfl ?_
 refine A4 8 ?_
 (have hcall := ih m (by omega) (depth - 1) ks[0] p2 _ pc nc cc _ (hfu.kid hmem0) (by omega) (by omega) (by omega) hx hre0 hb (by omega); refine X0 (l' := [tt,tt,tt,tt,tt,tt,tt,tt,tt,tt,tt,tt,tt,tt,tt,tt,tt,ff,ff,ff,ff]) rfl rfl hcall (Pk.perm (by repeat (first | exact Pk.here | apply Pk.there))) rfl rfl rfl (by repeat (first | exact A8.nil | apply A8.dep (by decide +kernel) | apply A8.im (by decide +kernel) hg0 (by repeat first | exact mH | apply mT) | apply A8.im (by decide +kernel) hg1 (by repeat first | exact mH | apply mT) | apply A8.blk (by decide +kernel) (by repeat (first | exact Pk.here | apply Pk.there)) (by repeat first | exact mH | apply mT))) (fun v Gn outs hles hh => ?_); obtain ⟨ps, hps1, hps2, rfl, es, cs, rfl, hrs, hcs⟩ := hh; obtain ⟨s1, s2, s3, s4, s5, s6, s7, s8, s9, rfl⟩ := hrs.nine; replace hre1 := hre1.mono hles; replace hx := hx.mono hles; replace hb := hb.mono hles; replace hrt := hrt.mono hles;)
 refine A4 17 ?_
 (have hcall := ih m (by omega) (depth - 1) ks[1] ps _ pc nc cc _ (hfu.kid hmem1) (by omega) (by omega) (by omega) hx hre1 hb (by omega); refine X0 (l' := [tt,tt,tt,tt,tt,tt,tt,tt,tt,tt,tt,tt,tt,tt,tt,tt,tt,tt,ff,ff,ff]) rfl rfl hcall (Pk.perm (by repeat (first | exact Pk.here | apply Pk.there))) rfl rfl rfl (by repeat (first | exact A8.nil | apply A8.dep (by decide +kernel) | apply A8.im (by decide +kernel) hg0 (by repeat first | exact mH | apply mT) | apply A8.im (by decide +kernel) hg1 (by repeat first | exact mH | apply mT) | apply A8.blk (by decide +kernel) (by repeat (first | exact Pk.here | apply Pk.there)) (by repeat first | exact mH | apply mT))) (fun v Gn outs hlew hh => ?_); obtain ⟨pw, hpw1, hpw2, rfl, ew, cw, rfl, hrw, hcw⟩ := hh; obtain ⟨w1, w2, w3, w4, w5, w6, w7, w8, w9, rfl⟩ := hrw.nine; replace hrs := hrs.mono hlew; replace hx := hx.mono hlew; replace hb := hb.mono hlew; replace hrt := hrt.mono hlew;)
 refine A4 18 ?_
 (refine E0 rfl (C7 rfl rfl rfl (by omega) (by unfold maxLen; omega) rfl) rfl rfl ?_; rintro _ ⟨b517, rfl⟩)
 refine A4 19 ?_
 refine N4 rfl rfl ((A0v _ _ _ _ _)) rfl rfl rfl ?_
 refine A4 20 ?_
 refine Q9 rfl rfl rfl rfl rfl rfl rfl rfl (by kernel_rfl) (by repeat first | exact Sw.here | apply Sw.there) (by rfl) ?_
 refine C1 (nS ?_)
 (refine H0 (cs := [s1, s2, s3, s4, s5, s6, s7, s8, s9] ++ [w1, w2, w3, w4, w5, w6, w7, w8, w9]) (by repeat (first | exact Pk.here | apply Pk.there)) (fun G9 hle9 hsl9 hno9 => ?_); have hN := A3P (k := 10) (nm := ⟨⟨[]⟩⟩) ⟨by omega, by omega⟩ (hrs.mono hle9) (hrw.mono hle9) hsl9)
 refine tT (rB ?_)
 refine A0R ?_
 refine H5 (outs := [rd br pb nb cb pw]) (rC rfl (A5 rfl rfl)) (by repeat (first | exact A0.nil | refine A0.cons Pk.here ?_ | refine A0.cons (Pk.there Pk.here) ?_ | refine A0.cons (Pk.there (Pk.there Pk.here)) ?_ | apply A0.drop)) ?_
 (exact ⟨pw, by omega, by omega, rfl, _, _, rfl, hN, by simp only [D0, E3]; omega⟩)
 refine sQ (qA rfl) rfl (sD (nS (cF rfl (tS (tR ?_)))))
 refine sB (qE rfl rfl) rfl rfl (fun h536 => ?_) (fun h536 => ?_)
 refine D2 ?_
 refine sB (Y7 rfl rfl) rfl rfl (fun h545 => ?_) (fun h545 => ?_)
 refine sQ (qM rfl) rfl (sQ (qM rfl) rfl ?_)
 (have hkk1 : k = 1 := (by omega); refine J0 rfl (X8 _ br pb nb cb (p2) bs 3 hb hnb (by omega)) (Pk.perm (by repeat (first | exact Pk.here | apply Pk.there))) rfl rfl (fun v Gp outs hle548 hh => ?_); obtain ⟨rfl, rfl, j548, rfl, hj548, hk548⟩ := hh; have hpk23 := hj548)
 replace hb := hb.mono hle548
 replace hrt := hrt.mono hle548
 refine sB (qE rfl rfl) rfl rfl (fun h549 => ?_) (fun h549 => ?_)
 refine D9 ?_
 (have hcall := A3v br pb nb cb bs hnb 1 (p2 + 1) _ (by omega) hb (by have : dB (1 + 1) ≤ 6 := (by decide); omega); refine J0 rfl hcall (Pk.perm (by repeat (first | exact Pk.here | apply Pk.there))) rfl rfl (fun v Gn outs hleF hh => ?_); obtain ⟨pF, hpF1, hpF2, rfl, uF, cuF, rfl, hruF, husF, huhF⟩ := hh; have huaF := huhF.ar; obtain ⟨quF, duF, euF, rfl, _⟩ := hruF.open; have hdBF : dB (1 + 1) ≤ 6 := (by decide); replace hx := hx.mono hleF; replace hb := hb.mono hleF; replace hrt := hrt.mono hleF;)
 refine sQ (qM rfl) rfl ?_
 refine sP (P1 rfl rfl (by omega) (by omega)) rfl rfl ?_
 (obtain ⟨m, rfl⟩ := hfu.pos (.inl (by omega)); have hmB : mB (m + 1) = 3 * mB m + 200 := rfl; have hgm := A1l m; have hcall := ih m (by omega) (depth - 1) uF pF _ pc nc cc _ (hfu.sub (by omega) (huhF.le (by omega))) (by omega) (by omega) (by omega) hx hruF hb (by omega); refine J0 rfl hcall (Pk.perm (by repeat (first | exact Pk.here | apply Pk.there))) rfl rfl (fun v Gn outs hlex hh => ?_); obtain ⟨px, hpx1, hpx2, rfl, ex, cx, rfl, hrx, hcx⟩ := hh; obtain ⟨x1, x2, x3, x4, x5, x6, x7, x8, x9, rfl⟩ := hrx.nine; replace hx := hx.mono hlex; replace hb := hb.mono hlex; replace hrt := hrt.mono hlex;)
 refine sS rfl rfl rfl rfl hrx.one rfl ?_
 refine sD (nS (tT (rS (rB ?_))))
 refine A0R ?_
 refine H5 (outs := [rd br pb nb cb px]) (rC rfl (A5 rfl rfl)) (by repeat (first | exact A0.nil | refine A0.cons Pk.here ?_ | refine A0.cons (Pk.there Pk.here) ?_ | refine A0.cons (Pk.there (Pk.there Pk.here)) ?_ | apply A0.drop)) ?_
 (exact ⟨px, by omega, by omega, rfl, _, _, rfl, hrx, by omega⟩)
 refine D9 ?_
 (refine J0 rfl (X8 _ br pb nb cb (p2 + 1) bs 3 hb hnb (by omega)) (Pk.perm (by repeat (first | exact Pk.here | apply Pk.there))) rfl rfl (fun v Gp outs hle581 hh => ?_); obtain ⟨rfl, rfl, j581, rfl, hj581, hk581⟩ := hh; have hpk21 := hj581)
 replace hb := hb.mono hle581
 replace hrt := hrt.mono hle581
 refine sB (qE rfl rfl) rfl rfl (fun h582 => ?_) (fun h582 => ?_)
 refine sD (nS (qT rfl (tS (tR ?_))))
 refine H8 rfl ((A1F _)) rfl rfl ?_
 refine sQ (Q3 rfl rfl) rfl ?_
 (refine J1 (C7 rfl rfl rfl (by omega) (by unfold maxLen; omega) rfl) rfl ?_; rintro _ ⟨b590, rfl⟩)
 refine sQ (Q3 rfl rfl) rfl (F9 ?_)
 refine sD (nS ?_)
 (refine H0 (cs := [.int .i64 4, .string ⟨⟨[]⟩⟩, .int .i64 0, .int .i64 0, .slice none 0 0, .int .i64 0, .slice none 0 0, .int .i64 0, .slice none 0 0]) (by repeat (first | exact Pk.here | apply Pk.there)) (fun G9 hle9 hsl9 hno9 => ?_); have hN := A3O (k := 13) (nm := ⟨⟨[]⟩⟩) ⟨by omega, by omega⟩ (A0C _) (A13 G9 ⟨⟨[]⟩⟩ 0 (k := 4) ⟨by omega, by omega⟩ ⟨by omega, by omega⟩) hsl9)
 refine tT (rB ?_)
 refine A0R ?_
 refine H5 (outs := [rd br pb nb cb (p2 + 1 + 1)]) (rC rfl (A5 rfl rfl)) (by repeat (first | exact A0.nil | refine A0.cons Pk.here ?_ | refine A0.cons (Pk.there Pk.here) ?_ | refine A0.cons (Pk.there (Pk.there Pk.here)) ?_ | apply A0.drop)) ?_
 (exact ⟨(p2 + 1 + 1), by omega, by omega, rfl, _, _, rfl, hN, by simp only [D0, E3]; omega⟩)
 refine sD (nS (cF rfl (tK (N3 ?_))))
 refine A3R (p2 + 1 + 1, Gp) (M0 (by repeat (first | exact E1.nil | refine E1.cons rfl ?_)) (by repeat (first | exact A0.refl | exact A0.nil | refine A0.cons (by repeat (first | exact Pk.here | apply Pk.there)) ?_ | apply A0.drop))) ⟨B9.refl _, by dsimp only; omega, by dsimp only; omega⟩
 refine I9 ?_
 (have hkk1 : k = 1 := (by omega); refine J0 rfl (X8 _ br pb nb cb (p2) bs 3 hb hnb (by omega)) (Pk.perm (by repeat (first | exact Pk.here | apply Pk.there))) rfl rfl (fun v Gp outs hle620 hh => ?_); obtain ⟨rfl, rfl, j620, rfl, hj620, hk620⟩ := hh; have hpk23 := hj620)
 replace hb := hb.mono hle620
 replace hrt := hrt.mono hle620
 refine sB (qE rfl rfl) rfl rfl (fun h621 => ?_) (fun h621 => ?_)
 refine sD (nS (qT rfl (tS (tR ?_))))
 refine H8 rfl ((A1F _)) rfl rfl ?_
 refine sQ (Q3 rfl rfl) rfl ?_
 (refine J1 (C7 rfl rfl rfl (by omega) (by unfold maxLen; omega) rfl) rfl ?_; rintro _ ⟨b629, rfl⟩)
 refine sQ (Q3 rfl rfl) rfl (F9 ?_)
 refine sD (nS ?_)
 (refine H0 (cs := [.int .i64 4, .string ⟨⟨[]⟩⟩, .int .i64 0, .int .i64 0, .slice none 0 0, .int .i64 0, .slice none 0 0, .int .i64 0, .slice none 0 0]) (by repeat (first | exact Pk.here | apply Pk.there)) (fun G9 hle9 hsl9 hno9 => ?_); have hN := A3O (k := 13) (nm := ⟨⟨[]⟩⟩) ⟨by omega, by omega⟩ (A0C _) (A13 G9 ⟨⟨[]⟩⟩ 0 (k := 4) ⟨by omega, by omega⟩ ⟨by omega, by omega⟩) hsl9)
 refine tT (rB ?_)
 refine A0R ?_
 refine H5 (outs := [rd br pb nb cb (p2 + 1)]) (rC rfl (A5 rfl rfl)) (by repeat (first | exact A0.nil | refine A0.cons Pk.here ?_ | refine A0.cons (Pk.there Pk.here) ?_ | refine A0.cons (Pk.there (Pk.there Pk.here)) ?_ | apply A0.drop)) ?_
 (exact ⟨(p2 + 1), by omega, by omega, rfl, _, _, rfl, hN, by simp only [D0, E3]; omega⟩)
 refine sD (nS (cF rfl (tK (N3 ?_))))
 refine A3R (p2 + 1, Gp) (M0 (by repeat (first | exact E1.nil | refine E1.cons rfl ?_)) (by repeat (first | exact A0.refl | exact A0.nil | refine A0.cons (by repeat (first | exact Pk.here | apply Pk.there)) ?_ | apply A0.drop))) ⟨B9.refl _, by dsimp only; omega, by dsimp only; omega⟩
 refine sQ (qA rfl) rfl (sD (nS (cF rfl (tK (N3 ?_)))))
 refine A3R (p2, G2) (M0 (by repeat (first | exact E1.nil | refine E1.cons rfl ?_)) (by repeat (first | exact A0.refl | exact A0.nil | refine A0.cons (by repeat (first | exact Pk.here | apply Pk.there)) ?_ | apply A0.drop))) ⟨B9.refl _, by dsimp only; omega, by dsimp only; omega⟩
 (have hq := hcut1; rintro ⟨(p5 : Nat), G5⟩ ⟨hle5c, hp5a, hp5b⟩; simp only [] at hle5c hp5a hp5b ⊢; have hcut2 := hp5a; replace hx := hx.mono hle5c; replace hb := hb.mono hle5c; replace hrt := hrt.mono hle5c;)
 refine tS (tS (tR (sQ (qM rfl) rfl ?_)))
 refine sB (Y7 rfl rfl) rfl rfl (fun h658 => ?_) (fun h658 => ?_)
 refine sQ (qM rfl) rfl (sQ (qM rfl) rfl ?_)
 (refine J0 rfl (X8 _ br pb nb cb (p5) bs 2 hb hnb (by omega)) (Pk.perm (by repeat (first | exact Pk.here | apply Pk.there))) rfl rfl (fun v Gp outs hle661 hh => ?_); obtain ⟨rfl, rfl, j661, rfl, hj661, hk661⟩ := hh; have hpk5 := hj661)
 replace hb := hb.mono hle661
 replace hrt := hrt.mono hle661
 refine sB (qE rfl rfl) rfl rfl (fun h662 => ?_) (fun h662 => ?_)
 refine D9 ?_
 refine H8 rfl ((A0u _)) rfl rfl ?_
 (have hz2 : K6 (.mk 2 []) = 0 := rfl; have hcall := A4p br pb nb cb bs hnb (.mk 2 []) (p5 + 1) _ _ (T4 (by decide) (by decide)) (M2 _ ⟨by omega, by omega⟩) hb (by omega); refine J0 rfl hcall (Pk.perm (by repeat (first | exact Pk.here | apply Pk.there))) rfl rfl (fun v Gn outs hleG hh => ?_); obtain ⟨pG, hpG1, hpG2, rfl, uG, cuG, rfl, hruG, huaG, husG, huhG⟩ := hh; obtain ⟨quG, duG, euG, rfl, _⟩ := hruG.open; replace hx := hx.mono hleG; replace hb := hb.mono hleG; replace hrt := hrt.mono hleG;)
 refine sQ (qM rfl) rfl ?_
 refine sP (P1 rfl rfl (by omega) (by omega)) rfl rfl ?_
 (obtain ⟨m, rfl⟩ := hfu.pos (.inl (by omega)); have hmB : mB (m + 1) = 3 * mB m + 200 := rfl; have hgm := A1l m; have hcall := ih m (by omega) (depth - 1) uG pG _ pc nc cc _ (hfu.sub (by omega) (huhG 4 (A2L 4 (by decide) (by decide)))) (by omega) (by omega) (by omega) hx hruG hb (by omega); refine J0 rfl hcall (Pk.perm (by repeat (first | exact Pk.here | apply Pk.there))) rfl rfl (fun v Gn outs hley hh => ?_); obtain ⟨py, hpy1, hpy2, rfl, ey, cy, rfl, hry, hcy⟩ := hh; obtain ⟨y1, y2, y3, y4, y5, y6, y7, y8, y9, rfl⟩ := hry.nine; replace hx := hx.mono hley; replace hb := hb.mono hley; replace hrt := hrt.mono hley;)
 refine sQ (qM rfl) rfl (sQ (qM rfl) rfl ?_)
 refine H8 rfl ((A0u _)) rfl rfl ?_
 refine sQ (qM rfl) rfl ?_
 refine sP (P1 rfl rfl (by omega) (by omega)) rfl rfl ?_
 (have hcall := ih m (by omega) (depth - 1) (.mk 2 []) py _ pc nc cc _ (hfu.sub (by omega) (A2L 4 (by decide) (by decide))) (by omega) (by omega) (by omega) hx (M2 _ ⟨by omega, by omega⟩) hb (by omega); refine J0 rfl hcall (Pk.perm (by repeat (first | exact Pk.here | apply Pk.there))) rfl rfl (fun v Gn outs hlec hh => ?_); obtain ⟨pc, hpc1, hpc2, rfl, ec, cc, rfl, hrc, hcc⟩ := hh; obtain ⟨c1, c2, c3, c4, c5, c6, c7, c8, c9, rfl⟩ := hrc.nine; replace hry := hry.mono hlec; replace hx := hx.mono hlec; replace hb := hb.mono hlec; replace hrt := hrt.mono hlec;)
 (refine J1 (C7 rfl rfl rfl (by omega) (by unfold maxLen; omega) rfl) rfl ?_; rintro _ ⟨b683, rfl⟩)
 refine H8 rfl ((A0v _ _ _ _ _)) rfl rfl ?_
 refine F9 ?_
 refine sD (nS ?_)
 (refine H0 (cs := [y1, y2, y3, y4, y5, y6, y7, y8, y9] ++ [c1, c2, c3, c4, c5, c6, c7, c8, c9]) (by repeat (first | exact Pk.here | apply Pk.there)) (fun G9 hle9 hsl9 hno9 => ?_); have hN := A3P (k := 7) (nm := ⟨⟨[]⟩⟩) ⟨by omega, by omega⟩ (hry.mono hle9) (hrc.mono hle9) hsl9)
 refine tT (rS ?_)
 refine H5 (outs := [rd br pb nb cb pc]) (rC rfl (A5 rfl rfl)) (by repeat (first | exact A0.nil | refine A0.cons Pk.here ?_ | refine A0.cons (Pk.there Pk.here) ?_ | refine A0.cons (Pk.there (Pk.there Pk.here)) ?_ | apply A0.drop)) ?_
 (exact ⟨pc, by omega, by omega, rfl, _, _, rfl, hN, by simp only [D0, E3]; omega⟩)
 refine D9 ?_
 (refine J1 (C7 rfl rfl rfl (by omega) (by unfold maxLen; omega) rfl) rfl ?_; rintro _ ⟨b702, rfl⟩)
 (refine U6 (by repeat (first | exact Pk.here | apply Pk.there)) (fun G4 hle4 hsl4 _ => ?_); refine J0 rfl (A0e G4 br pb nb cb (p5 + 1) bs _ _ _ _ (hb.mono hle4) hnb (by omega) hsl4 (by decide)) (Pk.perm (by repeat (first | exact Pk.here | apply Pk.there))) rfl rfl (fun v G7 outs hle7 hh => ?_); obtain ⟨rfl, rfl, hv⟩ := hh; obtain ⟨kn, rfl, hkn⟩ : ∃ k, v = .int .i64 k ∧ F0 k := (by simp only [List.mem_cons, List.not_mem_nil, or_false] at hv; rcases hv with rfl | rfl | rfl | rfl | rfl <;> exact ⟨_, rfl, by unfold F0; omega⟩))
 refine H8 rfl ((A2m _ _)) rfl rfl ?_
 refine F9 ?_
 refine sD (nS (tT ?_))
 refine H5 (outs := [rd br pb nb cb (p5 + 1 + 1)]) (rC rfl (A5 rfl rfl)) (by repeat (first | exact A0.nil | refine A0.cons Pk.here ?_ | refine A0.cons (Pk.there Pk.here) ?_ | refine A0.cons (Pk.there (Pk.there Pk.here)) ?_ | apply A0.drop)) ?_
 (exact ⟨(p5 + 1 + 1), by omega, by omega, rfl, _, _, rfl, A13 _ _ _ ⟨by omega, by omega⟩ (by first | exact ⟨by omega, by omega⟩ | exact hkn), by simp only [D0, E3]; omega⟩)
 refine I9 ?_
 (refine J1 (C7 rfl rfl rfl (by omega) (by unfold maxLen; omega) rfl) rfl ?_; rintro _ ⟨b724, rfl⟩)
 (refine U6 (by repeat (first | exact Pk.here | apply Pk.there)) (fun G4 hle4 hsl4 _ => ?_); refine J0 rfl (A0e G4 br pb nb cb p5 bs _ _ _ _ (hb.mono hle4) hnb (by omega) hsl4 (by decide)) (Pk.perm (by repeat (first | exact Pk.here | apply Pk.there))) rfl rfl (fun v G7 outs hle7 hh => ?_); obtain ⟨rfl, rfl, hv⟩ := hh; obtain ⟨kn, rfl, hkn⟩ : ∃ k, v = .int .i64 k ∧ F0 k := (by simp only [List.mem_cons, List.not_mem_nil, or_false] at hv; rcases hv with rfl | rfl | rfl | rfl | rfl <;> exact ⟨_, rfl, by unfold F0; omega⟩))
 refine H8 rfl ((A2m _ _)) rfl rfl ?_
 refine F9 ?_
 refine sD (nS (tT ?_))
 refine H5 (outs := [rd br pb nb cb (p5 + 1)]) (rC rfl (A5 rfl rfl)) (by repeat (first | exact A0.nil | refine A0.cons Pk.here ?_ | refine A0.cons (Pk.there Pk.here) ?_ | refine A0.cons (Pk.there (Pk.there Pk.here)) ?_ | apply A0.drop)) ?_
 (exact ⟨(p5 + 1), by omega, by omega, rfl, _, _, rfl, A13 _ _ _ ⟨by omega, by omega⟩ (by first | exact ⟨by omega, by omega⟩ | exact hkn), by simp only [D0, E3]; omega⟩)
mutual
def P0 : Tm → List Ty
 | .mk k _ _ ty _ _ ks => (if k = 5 ∨ k = 13 then [ty] else []) ++ K7 ks
def K7 : List Tm → List Ty
 | [] => []
 | t :: ts => P0 t ++ K7 ts
end
theorem A6B : ∀ (a b : List Tm), K7 (a ++ b) = K7 a ++ K7 b
 | [], b => by simp [K7]
 | t :: a, b => by simp [K7, A6B a b]
theorem A1n {ks : List Tm} {i : Nat} (hi : i < ks.length) : K7 (ks.take (i + 1)) = K7 (ks.take i) ++ P0 ks[i] := by
 rw [List.take_succ_eq_append_getElem hi, A6B, K7, K7, List.append_nil]
mutual
theorem A9S : ∀ t : Tm, (P0 t).length ≤ D0 t
 | .mk k nm num ty fr lb ks => by
  have := A14 ks
  rw [P0, D0, List.length_append]
  split <;> simp <;> omega
theorem A14 : ∀ ts : List Tm, (K7 ts).length ≤ E3 ts
 | [] => by simp [K7]
 | t :: ts => by
  have := A9S t
  have := A14 ts
  rw [K7, E3, List.length_append]; omega
end
mutual
def A0F : Tm → List Ty → Tm
 | .mk k nm num ty fr lb ks, l => .mk k nm num (if k = 5 ∨ k = 13 then l.getD 0 B2 else ty) fr lb (U4 ks (if k = 5 ∨ k = 13 then l.drop 1 else l))
def U4 : List Tm → List Ty → List Tm
 | [], _ => []
 | t :: ts, l => A0F t l :: U4 ts (l.drop (P0 t).length)
end
theorem A3S : ∀ (ts : List Tm) (l : List Ty), (U4 ts l).length = ts.length
 | [], _ => rfl
 | t :: ts, l => by rw [U4, List.length_cons, A3S ts, List.length_cons]
theorem A9T : ∀ (a b : List Tm) (l : List Ty), U4 (a ++ b) l = U4 a l ++ U4 b (l.drop (K7 a).length)
 | [], b, l => by simp [U4, K7]
 | t :: a, b, l => by simp [U4, K7, A9T a b, List.drop_drop]
theorem A6C {ks : List Tm} {i : Nat} (hi : i < ks.length) (l : List Ty) : U4 (ks.take (i + 1)) l = U4 (ks.take i) l ++ [A0F ks[i] (l.drop (K7 (ks.take i)).length)] := by
 rw [List.take_succ_eq_append_getElem hi, A9T, U4, U4]
def A9U (mask : Nat) : Nat → List Ty → List Ty
 | _, [] => []
 | i, t :: ts => (if (mask / 2 ^ i) % 2 = 1 then .mk 1 [] else t) :: A9U mask (i + 1) ts
def B5p (e : Tm) (mask : Nat) : Tm := A0F e (A9U mask 0 (P0 e))
def B51 (e : Tm) : List Tm := (List.range (2 ^ (P0 e).length)).map (B5p e)
theorem A6D {ks : List Tm} {i : Nat} (hi : i < ks.length) : (K7 (ks.take i)).length + (P0 ks[i]).length ≤ (K7 ks).length := by
 have h : ks = ks.take (i + 1) ++ ks.drop (i + 1) := (List.take_append_drop _ _).symm
 conv => rhs; rw [h]
 rw [A6B, A1n hi]
 simp only [List.length_append]; omega
section cap
variable {P : Program} {Γ : M1} {env : M7} {hp : List A6} {G : IM} {K : Po} {ops : Array Oper} {rest : List Oper}
end cap
theorem C9.append {G : IM} : ∀ {a b : List Ty} {es fs : List (List Value)}, C9 G a es → C9 G b fs → C9 G (a ++ b) (es ++ fs)
 | [], b, es, fs, h, h2 => by simp only [C9] at h; subst h; simpa using h2
 | t :: a, b, es, fs, h, h2 => by
  simp only [C9] at h
  obtain ⟨x, r, rfl, h3, h4⟩ := h
  simp only [List.cons_append, C9]
  exact ⟨x, r ++ fs, rfl, h3, C9.append h4 h2⟩
theorem C9.one1 {G : IM} {t : Ty} {c : List Value} (h : B6 G t c) : C9 G [t] [c] := by
 simp only [C9]; exact ⟨c, [], rfl, h, rfl⟩
def A0q (ts : List Ty) : IM → Value → List A6 → Prop := fun G' v outs => ∃ p c es, v = .slice p ts.length c ∧ outs = [.slc p c 25 2 ts.length es.flatten] ∧ C9 G' ts es
theorem A0q.mk {ts : List Ty} {n : Nat} {G' : IM} {p : Option Addr} {c : Nat} {es : List (List Value)} (hn : ts.length = n) (hr : C9 G' ts es) : A0q ts G' (.slice p n c) [.slc p c 25 2 n es.flatten] := by
 subst hn
 exact ⟨p, c, es, rfl, rfl, hr⟩
def RtP (u : Tm) (l : List Ty) : IM → Value → List A6 → Prop := fun G' v outs => outs = [] ∧ ∃ cu p c el, v = .tuple ⟨[.agg ⟨cu⟩, .slice p l.length c]⟩ ∧ A9 G' u cu ∧ D3 G' p l.length c 2 el ∧ C9 G' l el
section bits
variable {P : Program} {Γ : M1} {env : M7} {hp : List A6} {G : IM} {ty : TypeId}
end bits
theorem B5q {cs vs cs' C : List Value} {o : Nat} (h : S1 cs o vs = some cs') : cs' ++ C = (cs ++ C).take o ++ vs ++ (cs ++ C).drop (o + vs.length) := by
 obtain ⟨h1, h2⟩ := A2H h
 rw [h1, List.take_append_of_le_length (by omega), List.drop_append_of_le_length (by omega)]
 simp
section wr
variable {P : Program} {Γ : M1} {env : M7} {hp : List A6} {G : IM} {ty : TypeId} {K : Po} {ops : Array Oper} {rest : List Oper}
theorem B5r {d : Option Nat} {x y : Operand} {t : TypeId} {i : L3} [hI : I0 P t i] {b o c el sz n : Nat} {v : Value} {vs cs cs' : List Value} {hp' : List A6}
  (hx : evo env x = some (.pointer (some ⟨b, o, none⟩))) (hy : evo env y = some v) (hv : v.cells = ⟨vs⟩) (hsz : vs.length = i.size) (h1 : vs.all (·.oneCell') = true)
  (hu : S1 cs o vs = some cs') (hm : Sw hp (.slc (some ⟨b, 0, none⟩) c el sz n cs) (.slc (some ⟨b, 0, none⟩) c el sz n cs') hp') (hd : dok Γ.n d = true) :
  W0 P Γ ⟨env, hp, G⟩ d (.store t x y) ty [b] (fun σ' => σ' = ⟨dpu d undef env, hp', G⟩) := by
 refine ⟨fun a w hs pos af gd Q next hn => ?_⟩
 obtain ⟨rest, p1, p2⟩ := hm.perm
 have hown : S9 [.slc (some ⟨b, 0, none⟩) c el sz n cs] G w := hs.res.own.of_mem p1
 obtain ⟨hl, h⟩ := hown.ok _ List.mem_cons_self
 rcases h with ⟨hv', _⟩ | ⟨g, cap, cur, hv', hbg, hg, hnc, hcm, hcs, ht⟩
 ·cases hv'
 cases hv'
 obtain ⟨u1, u2⟩ := A2H hu
 have hcur : cur.toList = cs ++ cur.toList.drop (n * sz) := by
  conv => lhs; rw [← List.take_append_drop (n * sz) cur.toList, ht]
 have hlen : cs.length ≤ cur.size := by
  rw [hl, hcs]; exact Nat.mul_le_mul_right _ hnc
 have hst := run_storeCells_at P b o el vs 0 cur w hg (by omega) (by simpa using h1)
 obtain ⟨cur', hcur'⟩ : ∃ l : List Value, l = cs' ++ cur.toList.drop (n * sz) := ⟨_, rfl⟩
 have hcc : cur.toList.take (o + 0) ++ vs ++ cur.toList.drop (o + 0 + vs.length) = cur' := by
  rw [hcur', Nat.add_zero, B5q hu, ← hcur]
 rw [hcc] at hst
 have hl' : cs'.length = cs.length := by rw [u1]; simp; omega
 have hsz' : cur'.length = cur.size := by
  have := congrArg List.length hcur
  rw [hcur', List.length_append, hl']
  simpa using this.symm
 obtain ⟨inf, g1, g2, _⟩ := hI.info
 have hrun : (execOp a.eval ⟨d, .store t x y, ty, pos, af, gd⟩).run P w = .ok .skip (w.setRow b cur'.toArray) := by
  simp [execOp, Instr.storeAt, Instr.sureAddr, (hs.evo hx : a.eval x = _), (hs.evo hy : a.eval y = _), storeVar, sizeOf, typeInfo, g1, g2, hv, hsz, hst]
 simp only [Oper.wp, hrun, Oper.upon]
 have hr' : Q8 [.slc (some ⟨b, 0, none⟩) c el sz n cs] G w [.slc (some ⟨b, 0, none⟩) c el sz n cs'] G (w.setRow b cur'.toArray) := by
  refine ⟨⟨?_, ?_, by simp [Fp, A6.fp, J6], ?_⟩, ⟨rfl, rfl, rfl, by simp [World.setRow], fun k _ hk => setRow_other w b k _ (by rintro rfl; simp [Fp, A6.fp, J6] at hk)⟩, B9.refl _, fun _ _ h => .inl h, ?_, fun b l h h0 => absurd h (by rw [h0]; simp)⟩
  ·intro k l hg'
   obtain ⟨e', f', h'⟩ := hown.inn k l hg'
   refine ⟨e', f', ?_⟩
   rw [setRow_other w b k _ ?_]
   ·exact h'
   ·rintro rfl
    have := hown.disj k (by simp [Fp, A6.fp, J6])
    rw [this] at hg'; cases hg'
  ·intro x hx
   simp at hx; subst hx
   refine ⟨by rw [hl', hl], .inr ⟨b, _, cur'.toArray, rfl, hbg, setRow_heap w b cur cur'.toArray el (0, 0) hg, hnc, hcm, by rw [List.size_toArray, hsz', hcs], ?_⟩⟩
   rw [hcur', List.take_left' (by rw [hl', hl])]
  ·intro k hk
   exact hown.disj k (by simpa [Fp, A6.fp, J6] using hk)
  ·intro k hk
   exact .inr (by simpa [Fp, A6.fp, J6] using hk)
 exact hn _ _ _ (hs.step p1 hr' p2 hd) (by simpa [Fp, A6.fp, J6] using hr'.ext) rfl
variable {pos : String} {af : Array Edge} {gd : Option (Nat × Bool)}
theorem B5s {c el sz n : Nat} {cs vs : List Value} {x y : Operand} {t : TypeId} {i : L3} [hI : I0 P t i] {bb o : Nat} {v : Value} {cs' : List Value} {hp' : List A6}
  (hx : evo env x = some (.pointer (some ⟨bb, o, none⟩))) (hy : evo env y = some v) (hv : v.cells = ⟨vs⟩) (hsz : vs.length = i.size) (h1 : vs.all (·.oneCell') = true)
  (hw : L6 ops env gd = some true) (hsw : Sw hp (.slc (some ⟨bb, 0, none⟩) c el sz n cs) (.slc (some ⟨bb, 0, none⟩) c el sz n cs') hp') (hu : S1 cs o vs = some cs')
  (k : H9 P Γ ops rest K ⟨env, hp', G⟩) : H9 P Γ ops (⟨none, .store t x y, ty, pos, af, gd⟩ :: rest) K ⟨env, hp, G⟩ :=
 J1 (B5r hx hy hv hsz h1 hu hsw rfl) hw (by rintro _ rfl; exact k)
theorem St.slc_ptT {p : Option Addr} {c el sz n : Nat} {cs : List Value} {a : Act} {w : World} (hs : St Γ ⟨env, hp, G⟩ a w) (hm : A6.slc p c el sz n cs ∈ hp) :
  (p = none ∧ n = 0 ∧ c = 0) ∨ ∃ g, p = some ⟨g, 0, none⟩ ∧ n ≤ c := by
 obtain ⟨_, h⟩ := hs.res.own.ok _ hm
 rcases h with ⟨hv, hn⟩ | ⟨g, cap, cur, hv, _, _, hnc, _⟩
 ·cases hv; exact .inl ⟨rfl, hn, rfl⟩
 ·cases hv; exact .inr ⟨g, rfl, hnc⟩
end wr
theorem B5t {es : List (List Value)} {i sz : Nat} {vs : List Value} (hi : i < es.length) (ha : ∀ e ∈ es, e.length = sz) (hv : vs.length = sz) : S1 es.flatten (0 + i * sz) vs = some (es.set i vs).flatten := by
 have h1 : es.flatten = (es.take i).flatten ++ (es[i] ++ (es.drop (i + 1)).flatten) := by
  conv => lhs; rw [← List.take_append_drop i es, List.drop_eq_getElem_cons hi]
  rw [List.flatten_append, List.flatten_cons]
 have h2 : (es.set i vs).flatten = (es.take i).flatten ++ (vs ++ (es.drop (i + 1)).flatten) := by rw [List.set_eq_take_append_cons_drop, if_pos hi, List.flatten_append, List.flatten_cons]
 have hA : ((es.take i).flatten).length = 0 + i * sz := by rw [A0J (fun e he => ha e (List.mem_of_mem_take he)), List.length_take, Nat.min_eq_left (by omega)]; omega
 rw [h1, h2]
 exact A5g hA (by rw [ha _ (List.getElem_mem hi), hv])
theorem C9.set {G : IM} : ∀ {l : List Ty} {es : List (List Value)} (i : Nat) {u : Ty} {c : List Value}, C9 G l es → B6 G u c → C9 G (l.set i u) (es.set i c)
 | [], es, i, u, c, h, _ => by simp only [C9] at h; subst h; simp [C9]
 | t :: l, es, 0, u, c, h, h2 => by
  simp only [C9] at h
  obtain ⟨a, r, rfl, _, h3⟩ := h
  simp only [List.set_cons_zero, C9]
  exact ⟨c, r, rfl, h2, h3⟩
 | t :: l, es, i + 1, u, c, h, h2 => by
  simp only [C9] at h
  obtain ⟨a, r, rfl, h4, h3⟩ := h
  simp only [List.set_cons_succ, C9]
  exact ⟨a, _, rfl, h4, C9.set i h3 h2⟩
theorem A0q.openA {a b : List Ty} {G' : IM} {v : Value} {outs : List A6} {m : Nat} (h : A0q (a ++ b) G' v outs) (hm : a.length = m) :
  ∃ p c es, v = .slice p (m + b.length) c ∧ outs = [.slc p c 25 2 (m + b.length) es.flatten] ∧ C9 G' (a ++ b) es := by
 subst hm
 rw [← List.length_append]
 exact h
theorem B5u : ∀ (t : Tm) (l : List Ty) (G : IM) (cells : List Value) (p : Option Addr) (c : Nat) (es : List (List Value)), t.small → l.length + D0 t ≤ 4000000 → A9 G t cells → C9 G l es →
  Fn Tryz.prog 124 [.slice p l.length c, .agg ⟨cells⟩] [.slc p c 25 2 l.length es.flatten] G (A0q (l ++ P0 t)) := by
 refine Tm.ind fun k nm num ty fr lb ks ih l G cells p c es0 hts hcnt hr hl0 => ?_
 have hone := hr.one
 simp only [Tm.small] at hts
 obtain ⟨_, hty', _, hsm, hks⟩ := hts
 have hcy : k = 5 ∨ k = 13 → P0 (.mk k nm num ty fr lb ks) = [ty] ++ K7 ks := fun h => by rw [P0, if_pos h]
 have hcn : ¬ (k = 5 ∨ k = 13) → P0 (.mk k nm num ty fr lb ks) = K7 ks := fun h => by rw [P0, if_neg h, List.nil_append]
 rw [D0] at hcnt
 obtain ⟨tk, tks⟩ := ty
 obtain ⟨fk, fks⟩ := fr
 obtain ⟨pt, ct, pf, cf, q, cq, ek, rfl, hk, hnum, hlb, hty, hfr, hsl, hkl⟩ := hr.open9
 have hn := hsl.le
 refine B7 Tryz.func124 rfl Tryz.ntmps124 Tryz.results124 rfl ?_
 intro w0
 refine tS (tR ?_)
 refine sE (C2 rfl rfl) rfl (fun b3 => ?_)
 refine D2 ?_
 refine sB (qE rfl rfl) rfl rfl (fun h12 => ?_) (fun h12 => ?_)
 refine N5 ?_
 (refine E4 rfl (P3 (.mk tk tks) G _ hty' hty) rfl rfl (fun v G1 hle1 hh => ?_); obtain ⟨cs1, F1, rfl, hs1, hn1⟩ := hh; have hr1 := hs1.R.mono (C5.le _ _); obtain ⟨p1, c1, rfl, _⟩ := hs1.open)
 (refine J1 (C7 rfl rfl rfl (by omega) (by unfold maxLen; omega) rfl) rfl ?_; rintro _ ⟨b26, rfl⟩)
 (refine A08 rfl rfl rfl rfl rfl (fun _ _ => by repeat (first | exact Sw.here | apply Sw.there)) (N9 (by repeat first | exact mH | apply mT)) rfl (by simp [Value.oneCell']) (by unfold maxLen; omega) (by omega) rfl (fun pn0 cn0 => ?_))
 refine D9 ?_
 refine B8 ?_
 (have h14 := hcy (by omega); have hinit := C9.append (hl0.mono hle1) (C9.one1 hr1); refine J8 (fun (x : Nat × Nat × Option Addr × Nat × List (List Value) × IM) => ⟨[(5, .int .i64 x.1), (3, .pointer (some ⟨b3, 0, none⟩)), (0, .slice x.2.2.1 x.2.1 x.2.2.2.1)], [.slc x.2.2.1 x.2.2.2.1 25 2 x.2.1 x.2.2.2.2.1.flatten, .blk b3 [.int .i64 k, .string nm, .int .i64 num, .int .i64 tk, .slice pt tks.length ct, .int .i64 fk, .slice pf fks.length cf, .int .i64 lb, .slice q ks.length cq]], x.2.2.2.2.2⟩) (fun x => x.1 ≤ ks.length ∧ B9 G x.2.2.2.2.2 ∧ C9 x.2.2.2.2.2 ((l ++ [Ty.mk tk tks]) ++ K7 (ks.take x.1)) x.2.2.2.2.1 ∧ ((l ++ [Ty.mk tk tks]) ++ K7 (ks.take x.1)).length = x.2.1) (fun x => ks.length - x.1) (0, l.length + 1, pn0, cn0, es0 ++ [[.int .i64 tk, .slice p1 tks.length c1]], G1) (by simp only [List.flatten_append, List.flatten_cons, List.flatten_nil, List.append_nil]; exact (M0 (by repeat (first | exact E1.nil | refine E1.cons rfl ?_)) (by repeat (first | exact A0.refl | exact A0.nil | refine A0.cons (by repeat (first | exact Pk.here | apply Pk.there)) ?_ | apply A0.drop)))) ?_ ?_)
 (exact ⟨Nat.zero_le _, hle1, (by show C9 G1 ((l ++ [Ty.mk tk tks]) ++ K7 (ks.take 0)) _; rw [List.take_zero, K7, List.append_nil]; exact hinit), by simp [K7]⟩)
 (rintro ⟨(i : Nat), (m : Nat), pn, cn, es, Gi⟩ ⟨hi, hle, hst, hlen⟩; simp only [] at hi hle hst hlen ⊢; replace hsl := hsl.mono hle; replace hkl := hkl.mono hle; have hb1 := A14 (ks.take i); have hb2 := A14 ks; have hlen0 := hlen; simp only [List.length_append, List.length_singleton, List.length_nil] at hlen)
 refine C4 ?_
 refine sB (J4 rfl rfl) rfl rfl (fun h48 => ?_) (fun h48 => ?_)
 refine sD (nS (qT rfl (tK (nS (tS ?_)))))
 refine B8 ?_
 refine O7 ?_
 (obtain ⟨b, o, e, rfl, hl, hat, hre, hgb⟩ := hsl.kidTm hkl (i := i) (by omega) (by omega); have hone9 := hre.one; have hsc := A1A (ks := ks) (i := i) (by omega); have hsk := A1z (ks := ks) (i := i) (by omega); refine sP (B3 rfl rfl rfl (by omega)) rfl rfl ?_)
 refine sL (A3 rfl rfl (hat _) hl) rfl rfl ?_
 (have hih := ih ks[i] (List.getElem_mem (by omega)) _ Gi e pn cn es (Tm.smallL_mem hks _ (List.getElem_mem (by omega))) (by simp only [List.length_append, List.length_singleton]; omega) hre hst; rw [hlen0] at hih; refine J0 rfl hih (Pk.perm (by repeat (first | exact Pk.here | apply Pk.there))) rfl rfl (fun v3 G3 outs hle3 hh => ?_); obtain ⟨p3, c3, e3, rfl, rfl, hr3⟩ := A0q.openA hh hlen0)
 refine H6 ?_
 refine sP (J2 rfl rfl (by omega) (by omega)) rfl rfl ?_
 refine sQ (qA rfl) rfl (sD ?_)
 (refine J9 (i + 1, m + (P0 ks[i]).length, p3, c3, e3, G3) ?_ ?_ ?_)
 (simp only [J5]; exact D8)
 (dsimp only; exact ⟨by omega, hle.trans hle3, by rw [A1n (by omega), ← List.append_assoc]; exact hr3, by rw [A1n (by omega), ← List.append_assoc, List.length_append, hlen0]⟩)
 (show ks.length - (i + 1) < ks.length - i; omega)
 refine I6 ?_
 (obtain rfl : i = ks.length := (by omega))
 refine tT ?_
 refine H5 (outs := [.slc pn cn 25 2 m es.flatten]) (rT rfl) (A0.cons (by repeat (first | exact Pk.here | apply Pk.there)) A0.nil) ?_
 (rw [h14]; rw [List.take_length] at hst hlen; first | exact A0q.mk (by simp only [List.length_append, List.length_singleton, List.length_nil]; omega) hst | (rw [← List.append_assoc]; exact A0q.mk (by simp only [List.length_append, List.length_singleton, List.length_nil]; omega) hst))
 refine J7 ?_
 refine sB (qE rfl rfl) rfl rfl (fun h98 => ?_) (fun h98 => ?_)
 refine D2 ?_
 (refine E4 rfl (P3 (.mk tk tks) G _ hty' hty) rfl rfl (fun v G1 hle1 hh => ?_); obtain ⟨cs1, F1, rfl, hs1, hn1⟩ := hh; have hr1 := hs1.R.mono (C5.le _ _); obtain ⟨p1, c1, rfl, _⟩ := hs1.open)
 (refine J1 (C7 rfl rfl rfl (by omega) (by unfold maxLen; omega) rfl) rfl ?_; rintro _ ⟨b108, rfl⟩)
 (refine A08 rfl rfl rfl rfl rfl (fun _ _ => by repeat (first | exact Sw.here | apply Sw.there)) (N9 (by repeat first | exact mH | apply mT)) rfl (by simp [Value.oneCell']) (by unfold maxLen; omega) (by omega) rfl (fun pn0 cn0 => ?_))
 refine D9 ?_
 refine B8 ?_
 (have h14 := hcy (by omega); have hinit := C9.append (hl0.mono hle1) (C9.one1 hr1); refine J8 (fun (x : Nat × Nat × Option Addr × Nat × List (List Value) × IM) => ⟨[(5, .int .i64 x.1), (3, .pointer (some ⟨b3, 0, none⟩)), (0, .slice x.2.2.1 x.2.1 x.2.2.2.1)], [.slc x.2.2.1 x.2.2.2.1 25 2 x.2.1 x.2.2.2.2.1.flatten, .blk b3 [.int .i64 k, .string nm, .int .i64 num, .int .i64 tk, .slice pt tks.length ct, .int .i64 fk, .slice pf fks.length cf, .int .i64 lb, .slice q ks.length cq]], x.2.2.2.2.2⟩) (fun x => x.1 ≤ ks.length ∧ B9 G x.2.2.2.2.2 ∧ C9 x.2.2.2.2.2 ((l ++ [Ty.mk tk tks]) ++ K7 (ks.take x.1)) x.2.2.2.2.1 ∧ ((l ++ [Ty.mk tk tks]) ++ K7 (ks.take x.1)).length = x.2.1) (fun x => ks.length - x.1) (0, l.length + 1, pn0, cn0, es0 ++ [[.int .i64 tk, .slice p1 tks.length c1]], G1) (by simp only [List.flatten_append, List.flatten_cons, List.flatten_nil, List.append_nil]; exact (M0 (by repeat (first | exact E1.nil | refine E1.cons rfl ?_)) (by repeat (first | exact A0.refl | exact A0.nil | refine A0.cons (by repeat (first | exact Pk.here | apply Pk.there)) ?_ | apply A0.drop)))) ?_ ?_)
 (exact ⟨Nat.zero_le _, hle1, (by show C9 G1 ((l ++ [Ty.mk tk tks]) ++ K7 (ks.take 0)) _; rw [List.take_zero, K7, List.append_nil]; exact hinit), by simp [K7]⟩)
 (rintro ⟨(i : Nat), (m : Nat), pn, cn, es, Gi⟩ ⟨hi, hle, hst, hlen⟩; simp only [] at hi hle hst hlen ⊢; replace hsl := hsl.mono hle; replace hkl := hkl.mono hle; have hb1 := A14 (ks.take i); have hb2 := A14 ks; have hlen0 := hlen; simp only [List.length_append, List.length_singleton, List.length_nil] at hlen)
 refine C4 ?_
 refine sB (J4 rfl rfl) rfl rfl (fun h130 => ?_) (fun h130 => ?_)
 refine sD (nS (qT rfl (tK (nS (tS ?_)))))
 refine B8 ?_
 refine O7 ?_
 (obtain ⟨b, o, e, rfl, hl, hat, hre, hgb⟩ := hsl.kidTm hkl (i := i) (by omega) (by omega); have hone9 := hre.one; have hsc := A1A (ks := ks) (i := i) (by omega); have hsk := A1z (ks := ks) (i := i) (by omega); refine sP (B3 rfl rfl rfl (by omega)) rfl rfl ?_)
 refine sL (A3 rfl rfl (hat _) hl) rfl rfl ?_
 (have hih := ih ks[i] (List.getElem_mem (by omega)) _ Gi e pn cn es (Tm.smallL_mem hks _ (List.getElem_mem (by omega))) (by simp only [List.length_append, List.length_singleton]; omega) hre hst; rw [hlen0] at hih; refine J0 rfl hih (Pk.perm (by repeat (first | exact Pk.here | apply Pk.there))) rfl rfl (fun v3 G3 outs hle3 hh => ?_); obtain ⟨p3, c3, e3, rfl, rfl, hr3⟩ := A0q.openA hh hlen0)
 refine H6 ?_
 refine sP (J2 rfl rfl (by omega) (by omega)) rfl rfl ?_
 refine sQ (qA rfl) rfl (sD ?_)
 (refine J9 (i + 1, m + (P0 ks[i]).length, p3, c3, e3, G3) ?_ ?_ ?_)
 (simp only [J5]; exact D8)
 (dsimp only; exact ⟨by omega, hle.trans hle3, by rw [A1n (by omega), ← List.append_assoc]; exact hr3, by rw [A1n (by omega), ← List.append_assoc, List.length_append, hlen0]⟩)
 (show ks.length - (i + 1) < ks.length - i; omega)
 refine I6 ?_
 (obtain rfl : i = ks.length := (by omega))
 refine tT ?_
 refine H5 (outs := [.slc pn cn 25 2 m es.flatten]) (rT rfl) (A0.cons (by repeat (first | exact Pk.here | apply Pk.there)) A0.nil) ?_
 (rw [h14]; rw [List.take_length] at hst hlen; first | exact A0q.mk (by simp only [List.length_append, List.length_singleton, List.length_nil]; omega) hst | (rw [← List.append_assoc]; exact A0q.mk (by simp only [List.length_append, List.length_singleton, List.length_nil]; omega) hst))
 refine N5 ?_
 refine B8 ?_
 (have h14 := hcn (by omega); refine J8 (fun (x : Nat × Nat × Option Addr × Nat × List (List Value) × IM) => ⟨[(5, .int .i64 x.1), (3, .pointer (some ⟨b3, 0, none⟩)), (0, .slice x.2.2.1 x.2.1 x.2.2.2.1)], [.slc x.2.2.1 x.2.2.2.1 25 2 x.2.1 x.2.2.2.2.1.flatten, .blk b3 [.int .i64 k, .string nm, .int .i64 num, .int .i64 tk, .slice pt tks.length ct, .int .i64 fk, .slice pf fks.length cf, .int .i64 lb, .slice q ks.length cq]], x.2.2.2.2.2⟩) (fun x => x.1 ≤ ks.length ∧ B9 G x.2.2.2.2.2 ∧ C9 x.2.2.2.2.2 (l ++ K7 (ks.take x.1)) x.2.2.2.2.1 ∧ (l ++ K7 (ks.take x.1)).length = x.2.1) (fun x => ks.length - x.1) (0, l.length, p, c, es0, G) ?_ ?_ ?_)
 (simp only [J5]; exact D8)
 (exact ⟨Nat.zero_le _, B9.refl _, by simpa [K7] using hl0, by simp [K7]⟩)
 (rintro ⟨(i : Nat), (m : Nat), pn, cn, es, Gi⟩ ⟨hi, hle, hst, hlen⟩; simp only [] at hi hle hst hlen ⊢; replace hsl := hsl.mono hle; replace hkl := hkl.mono hle; have hb1 := A14 (ks.take i); have hb2 := A14 ks; have hlen0 := hlen; simp only [List.length_append, List.length_singleton, List.length_nil] at hlen)
 refine C4 ?_
 refine sB (J4 rfl rfl) rfl rfl (fun h201 => ?_) (fun h201 => ?_)
 refine sD (nS (qT rfl (tK (nS (tS ?_)))))
 refine B8 ?_
 refine O7 ?_
 (obtain ⟨b, o, e, rfl, hl, hat, hre, hgb⟩ := hsl.kidTm hkl (i := i) (by omega) (by omega); have hone9 := hre.one; have hsc := A1A (ks := ks) (i := i) (by omega); have hsk := A1z (ks := ks) (i := i) (by omega); refine sP (B3 rfl rfl rfl (by omega)) rfl rfl ?_)
 refine sL (A3 rfl rfl (hat _) hl) rfl rfl ?_
 (have hih := ih ks[i] (List.getElem_mem (by omega)) _ Gi e pn cn es (Tm.smallL_mem hks _ (List.getElem_mem (by omega))) (by simp only [List.length_append, List.length_singleton]; omega) hre hst; rw [hlen0] at hih; refine J0 rfl hih (Pk.perm (by repeat (first | exact Pk.here | apply Pk.there))) rfl rfl (fun v3 G3 outs hle3 hh => ?_); obtain ⟨p3, c3, e3, rfl, rfl, hr3⟩ := A0q.openA hh hlen0)
 refine H6 ?_
 refine sP (J2 rfl rfl (by omega) (by omega)) rfl rfl ?_
 refine sQ (qA rfl) rfl (sD ?_)
 (refine J9 (i + 1, m + (P0 ks[i]).length, p3, c3, e3, G3) ?_ ?_ ?_)
 (simp only [J5]; exact D8)
 (dsimp only; exact ⟨by omega, hle.trans hle3, by rw [A1n (by omega), ← List.append_assoc]; exact hr3, by rw [A1n (by omega), ← List.append_assoc, List.length_append, hlen0]⟩)
 (show ks.length - (i + 1) < ks.length - i; omega)
 refine I6 ?_
 (obtain rfl : i = ks.length := (by omega))
 refine tT ?_
 refine H5 (outs := [.slc pn cn 25 2 m es.flatten]) (rT rfl) (A0.cons (by repeat (first | exact Pk.here | apply Pk.there)) A0.nil) ?_
 (rw [h14]; rw [List.take_length] at hst hlen; first | exact A0q.mk (by simp only [List.length_append, List.length_singleton, List.length_nil]; omega) hst | (rw [← List.append_assoc]; exact A0q.mk (by simp only [List.length_append, List.length_singleton, List.length_nil]; omega) hst))
def A0r (t : Tm) : List Ty := if R0 t = true then P0 t else []
theorem A9V (t : Tm) (G : IM) (cells : List Value) (hts : t.small) (hcnt : D0 t ≤ 4000000) (hr : A9 G t cells) : Fn Tryz.prog 81 [.agg ⟨cells⟩] [] G (A0q (A0r t)) := by
 have hl := hr.len
 have hone := hr.one
 have hv := A2N t G cells (by omega) hr
 have hno : R0 t = false → A0r t = [] := fun h => by unfold A0r; rw [h]; rfl
 have hyes : R0 t = true → A0r t = P0 t := fun h => by unfold A0r; rw [h]; rfl
 refine B7 Tryz.func81 rfl Tryz.ntmps81 Tryz.results81 rfl ?_
 intro w0
 refine tS (tR ?_)
 refine sE (C2 rfl rfl) rfl (fun b3 => ?_)
 refine sQ (qA rfl) rfl (sD (nS (tS (tS (tR ?_)))))
 refine sL (A3 rfl rfl (B1 (by repeat first | exact mH | apply mT)) (by assumption)) rfl rfl ?_
 refine E2 rfl (hv) rfl rfl (fun h11 => ?_) (fun h11 => ?_)
 refine sQ (V8 rfl) rfl (sD (nS (cF rfl (tK (nS (tS (tR ?_)))))))
 (refine J1 (C7 rfl rfl rfl (by omega) (by unfold maxLen; omega) rfl) rfl ?_; rintro _ ⟨b20, rfl⟩)
 refine sL (A3 rfl rfl (B1 (by repeat first | exact mH | apply mT)) (by assumption)) rfl rfl ?_
 (refine J0 rfl (B5u t [] G cells _ 0 [] hts (by simp; omega) hr (by simp [C9])) (Pk.perm (by repeat (first | exact Pk.here | apply Pk.there))) rfl rfl (fun v3 G3 outs hle3 hh => ?_); obtain ⟨p3, c3, e3, rfl, rfl, hr3⟩ := hh)
 refine sQ (qA rfl) rfl (sD (nS (tT ?_)))
 refine H5 (outs := [.slc p3 c3 25 2 ([] ++ P0 t).length e3.flatten]) (rT rfl) (A0.cons (by repeat (first | exact Pk.here | apply Pk.there)) A0.nil) ?_
 (rw [hyes (by assumption)]; exact ⟨p3, c3, e3, rfl, rfl, hr3⟩)
 refine sQ (Z7 rfl) rfl (sD (nS (qT rfl (tS (tR ?_)))))
 (refine J1 (C7 rfl rfl rfl (by omega) (by unfold maxLen; omega) rfl) rfl ?_; rintro _ ⟨b35, rfl⟩)
 refine sQ (qA rfl) rfl (sD (nS (tT (rS ?_))))
 refine H5 (rT rfl) (A0.cons Pk.here A0.nil) ?_
 (rw [hno (by assumption)]; exact ⟨_, _, [], rfl, rfl, by simp [C9]⟩)
end Gw
end Go.Proofs.YthpdjmbpbdbodaaGreatDoor
