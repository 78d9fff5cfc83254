/-
  The reference's evaluator: a step, runs of steps, RunTerm. The reference's StepCast, EvalCast, RunTerm. CompareRuns, on both sides. Runs of terms of which one is more precise. All paths of a term, in plain words: they are different, each has a node, none goes on to where no operand is. The first cast with a label. The casts of a term, in plain words: the first one with a label is the node at the first path to such a cast. What is blamed is unsafe: plain. The types that a term's text holds, and terms with other types: the plain words. Own slices and their capacity; data of terms one after the other. The types that a term's text holds: the program's list. Terms with other types: the program's. Shifts and masks of small numbers; writing into an own slice. Terms some of whose types become the unknown type: the program's. The configurations of a term: the program's. A number for each configuration: the program's. ConfigRuns of the program. Drawn terms that often have a type: one lambda, given the terms below. Drawn terms that often have a type. The types that a term's text holds: the reference's list.
-/
import Derived.Test.YtebfignffjhnhaaGreatDoorKk7
import Derived.Test.YtebfignffjhnhaaGreatDoorKk6
import Derived.Test.YtebfignffjhnhaaGreatDoorKk5
import Derived.Test.YtebfignffjhnhaaGreatDoorKk4
import Derived.Test.YtebfignffjhnhaaGreatDoorKk3
import Derived.Test.YtebfignffjhnhaaGreatDoorKk1
import Derived.Test.YtebfignffjhnhaaGreatDoorKk2
set_option linter.unusedVariables false
set_option linter.unusedSimpArgs false
set_option maxHeartbeats 0
set_option maxRecDepth 100000
set_option synthInstance.maxSize 4000
set_option synthInstance.maxHeartbeats 0
namespace Go.Proofs.YtebfignffjhnhaaGreatDoor
open Go Go.RowKit
namespace Gw
theorem A7U {k : Int} {ty fr ty' fr' : Ty} {lb lb' : Int} {ks : List Tm} (h : k ≠ 14) : M7 k ty fr lb ks = M7 k ty' fr' lb' ks := by
 unfold M7
 rw [if_neg h, if_neg h]
theorem B7U (k : Int) (nm : ByteArray) (num : Int) (ty fr : Ty) (lb : Int) (ks : List Tm) (G : IM) (cells : List Value) (h7 : k = 1 ∨ k = 6 ∨ k = 7 ∨ k = 8 ∨ k = 11 ∨ k = 12 ∨ k = 14) (hc : cv (.mk k nm num ty fr lb ks)) (hr : B1 G (.mk k nm num ty fr lb ks) cells) : Fn Tryz.prog 234 [.agg ⟨cells⟩] [] G (M2 (M7 k ty fr lb ks)) := by
 have hr0 := hr
 obtain ⟨hN, hkk⟩ := hc.node
 have hops := hN.ops
 have hL2 : k = 6 ∨ k = 7 ∨ k = 8 → ∃ a b, ks = [a, b] := fun h => ks2 (by
  rcases h with rfl | rfl | rfl
  ·have : D9 6 = 2 := rfl; omega
  ·have : D9 7 = 2 := rfl; omega
  ·have : D9 8 = 2 := rfl; omega)
 have hL1 : k = 11 ∨ k = 12 ∨ k = 14 → ∃ a, ks = [a] := fun h => Z6 (by
  rcases h with rfl | rfl | rfl
  ·have : D9 11 = 1 := rfl; omega
  ·have : D9 12 = 1 := rfl; omega
  ·have : D9 14 = 1 := rfl; omega)
 have hC : k = 14 → Fn Tryz.prog 251 [.agg ⟨cells⟩] [] G (M2 (M7 k ty fr lb ks)) := by
  rintro rfl
  obtain ⟨a, rfl⟩ := hL1 (by omega)
  exact B7F a nm num ty fr lb G cells hc hr
 have hA : k = 6 → ∀ a b, ks = [a, b] → M7 k ty fr lb ks = M7 6 B3 B3 0 [a, b] := by rintro rfl a b rfl; exact A7U (by decide)
 have hB : k = 7 ∨ k = 8 → ∀ a b, ks = [a, b] → M7 k ty fr lb ks = M7 k B3 B3 0 [a, b] := by rintro h a b rfl; exact A7U (by omega)
 have hD : k = 11 ∨ k = 12 → ∀ a, ks = [a] → M7 k ty fr lb ks = M7 k B3 B3 0 [a] := by rintro h a rfl; exact A7U (by omega)
 have hO : k = 1 → M7 k ty fr lb ks = Q7 := by rintro rfl; rfl
 generalize M7 k ty fr lb ks = R at hC hA hB hD hO ⊢
 obtain ⟨tk, tks⟩ := ty
 obtain ⟨fk, fks⟩ := fr
 obtain ⟨pt, ct, pf, cf, p, c, es, rfl, hk, hnum, hlb, hty, hfr, hsl, hkl⟩ := hr.open9
 refine C6 Tryz.func234 rfl Tryz.ntmps234 Tryz.results234 rfl ?_
 intro w0
 refine A4 ?_
 refine sE (C9 rfl rfl) rfl (fun b3 => ?_)
 refine sE (A9 rfl) rfl (fun b4 => ?_)
 refine J8 ?_
 refine C5 (tS (tR (sB (qE rfl rfl) rfl rfl (fun h19 => ?_) (fun h19 => ?_))))
 refine B0 ?_
 (have hq : k = 6 := (by assumption); obtain ⟨x, y, hxy⟩ := hL2 (by omega); have hAq := hA hq x y hxy; subst hxy; obtain ⟨bx, ox, e0, rfl, hl0, hat0, hre0, hgb0⟩ := hsl.kidTm hkl (i := 0) (by simp) (by simp); obtain ⟨_, _, e1, hp1, hl1, hat1, hre1, hgb1⟩ := hsl.kidTm hkl (i := 1) (by simp) (by simp); cases hp1; have hF := B7E x y G e0 e1 (hkk x (by simp)) (A2p y (hkk y (by simp))) hre0 hre1; rw [← hAq] at hF; refine D7 D8 rfl ?_)
 refine I6 (i := 0) (l' := [tt,ff,ff,ff,ff,ff,ff,ff,ff,ff,ff,ff,ff,ff,ff]) rfl D2 (B8 rfl) rfl (by kernel_rfl) rfl rfl ?_
 refine aL 1 rfl (C7 rfl rfl) rfl ?_
 refine aP 2 rfl (B5 (j := 0) rfl rfl rfl (by simp)) rfl ?_
 refine aL 3 rfl (A3 rfl rfl (hat0 _) hl0) rfl ?_
 refine aP 4 rfl (B8 rfl) rfl ?_
 refine aL 5 rfl (C7 rfl rfl) rfl ?_
 refine aP 6 rfl (B5 (j := 1) rfl rfl rfl (by simp)) rfl ?_
 refine aL 7 rfl (A3 rfl rfl (hat1 _) hl1) rfl ?_
 refine A2 8 ?_
 (refine H3 rfl rfl hF rfl rfl rfl (fun v G1 hle1 hh => ?_); obtain ⟨wc, rfl, hrw⟩ := hh; have hwl := hrw.len; have hwo := hrw.one)
 refine aP 9 rfl (pX rfl rfl) rfl ?_
 refine aP 10 rfl (pX rfl rfl) rfl ?_
 refine aP 11 rfl (pX rfl rfl) rfl ?_
 refine A2 12 ?_
 (refine oS rfl rfl rfl rfl hwl hwo rfl rfl ?_ (hu := by exact E0 hwl.symm))
 refine aP 13 rfl (qA rfl) rfl ?_
 refine aP 14 rfl (qA rfl) rfl ?_
 refine B0 ?_
 refine D3 (rC rfl (A3 rfl rfl (B6 (by repeat first | exact mH | apply mT)) hwl)) (rT rfl) (rT rfl) ?_
 (exact ⟨rfl, _, rfl, hrw⟩)
 refine B7 ?_
 refine sB (qE rfl rfl) rfl rfl (fun h57 => ?_) (fun h57 => ?_)
 refine D4 ?_
 (have hq : k = 7 ∨ k = 8 := (by omega); obtain ⟨x, y, hxy⟩ := hL2 (by omega); have hBq := hB hq x y hxy; subst hxy; obtain ⟨bx, ox, e0, rfl, hl0, hat0, hre0, hgb0⟩ := hsl.kidTm hkl (i := 0) (by simp) (by simp); obtain ⟨_, _, e1, hp1, hl1, hat1, hre1, hgb1⟩ := hsl.kidTm hkl (i := 1) (by simp) (by simp); cases hp1; have hF := B1T k x y G e0 e1 hq (by have := (hkk x (by simp)); cases x; exact this.node.1.num0) (by have := (hkk y (by simp)); cases y; exact this.node.1.num0) hre0 hre1; rw [← hBq] at hF; refine D7 D8 rfl ?_)
 refine I6 (i := 0) (l' := [tt,ff,ff,ff,ff,ff,ff,ff,ff,ff,ff,ff,ff,ff,ff,ff,ff]) rfl D2 (B8 rfl) rfl (by kernel_rfl) rfl rfl ?_
 refine aL 1 rfl (C7 rfl rfl) rfl ?_
 refine aP 2 rfl (B8 rfl) rfl ?_
 refine aL 3 rfl (C7 rfl rfl) rfl ?_
 refine aP 4 rfl (B5 (j := 0) rfl rfl rfl (by simp)) rfl ?_
 refine aL 5 rfl (A3 rfl rfl (hat0 _) hl0) rfl ?_
 refine aP 6 rfl (B8 rfl) rfl ?_
 refine aL 7 rfl (C7 rfl rfl) rfl ?_
 refine aP 8 rfl (B5 (j := 1) rfl rfl rfl (by simp)) rfl ?_
 refine aL 9 rfl (A3 rfl rfl (hat1 _) hl1) rfl ?_
 refine A2 10 ?_
 (refine H3 rfl rfl hF rfl rfl rfl (fun v G1 hle1 hh => ?_); obtain ⟨wc, rfl, hrw⟩ := hh; have hwl := hrw.len; have hwo := hrw.one)
 refine aP 11 rfl (pX rfl rfl) rfl ?_
 refine aP 12 rfl (pX rfl rfl) rfl ?_
 refine aP 13 rfl (pX rfl rfl) rfl ?_
 refine A2 14 ?_
 (refine oS rfl rfl rfl rfl hwl hwo rfl rfl ?_ (hu := by exact E0 hwl.symm))
 refine aP 15 rfl (qA rfl) rfl ?_
 refine aP 16 rfl (qA rfl) rfl ?_
 refine B0 ?_
 refine D3 (rC rfl (A3 rfl rfl (B6 (by repeat first | exact mH | apply mT)) hwl)) (rT rfl) (rT rfl) ?_
 (exact ⟨rfl, _, rfl, hrw⟩)
 refine B0 ?_
 refine sB (qE rfl rfl) rfl rfl (fun h98 => ?_) (fun h98 => ?_)
 refine B0 ?_
 (have hq : k = 7 ∨ k = 8 := (by omega); obtain ⟨x, y, hxy⟩ := hL2 (by omega); have hBq := hB hq x y hxy; subst hxy; obtain ⟨bx, ox, e0, rfl, hl0, hat0, hre0, hgb0⟩ := hsl.kidTm hkl (i := 0) (by simp) (by simp); obtain ⟨_, _, e1, hp1, hl1, hat1, hre1, hgb1⟩ := hsl.kidTm hkl (i := 1) (by simp) (by simp); cases hp1; have hF := B1T k x y G e0 e1 hq (by have := (hkk x (by simp)); cases x; exact this.node.1.num0) (by have := (hkk y (by simp)); cases y; exact this.node.1.num0) hre0 hre1; rw [← hBq] at hF; refine D7 D8 rfl ?_)
 refine I6 (i := 0) (l' := [tt,ff,ff,ff,ff,ff,ff,ff,ff,ff,ff,ff,ff,ff,ff,ff,ff]) rfl D2 (B8 rfl) rfl (by kernel_rfl) rfl rfl ?_
 refine aL 1 rfl (C7 rfl rfl) rfl ?_
 refine aP 2 rfl (B8 rfl) rfl ?_
 refine aL 3 rfl (C7 rfl rfl) rfl ?_
 refine aP 4 rfl (B5 (j := 0) rfl rfl rfl (by simp)) rfl ?_
 refine aL 5 rfl (A3 rfl rfl (hat0 _) hl0) rfl ?_
 refine aP 6 rfl (B8 rfl) rfl ?_
 refine aL 7 rfl (C7 rfl rfl) rfl ?_
 refine aP 8 rfl (B5 (j := 1) rfl rfl rfl (by simp)) rfl ?_
 refine aL 9 rfl (A3 rfl rfl (hat1 _) hl1) rfl ?_
 refine A2 10 ?_
 (refine H3 rfl rfl hF rfl rfl rfl (fun v G1 hle1 hh => ?_); obtain ⟨wc, rfl, hrw⟩ := hh; have hwl := hrw.len; have hwo := hrw.one)
 refine aP 11 rfl (pX rfl rfl) rfl ?_
 refine aP 12 rfl (pX rfl rfl) rfl ?_
 refine aP 13 rfl (pX rfl rfl) rfl ?_
 refine A2 14 ?_
 (refine oS rfl rfl rfl rfl hwl hwo rfl rfl ?_ (hu := by exact E0 hwl.symm))
 refine aP 15 rfl (qA rfl) rfl ?_
 refine aP 16 rfl (qA rfl) rfl ?_
 refine B0 ?_
 refine D3 (rC rfl (A3 rfl rfl (B6 (by repeat first | exact mH | apply mT)) hwl)) (rT rfl) (rT rfl) ?_
 (exact ⟨rfl, _, rfl, hrw⟩)
 refine B7 ?_
 refine sB (qE rfl rfl) rfl rfl (fun h138 => ?_) (fun h138 => ?_)
 refine D4 ?_
 (have hq : k = 11 ∨ k = 12 := (by omega); obtain ⟨x, hxy⟩ := hL1 (by omega); have hDq := hD hq x hxy; subst hxy; obtain ⟨bx, ox, e0, rfl, hl0, hat0, hre0, hgb0⟩ := hsl.kidTm hkl (i := 0) (by simp) (by simp); have hF := B1U k x G e0 hq (hkk x (by simp)) hre0; rw [← hDq] at hF; refine D7 D8 rfl ?_)
 refine I6 (i := 0) (l' := [tt,ff,ff,ff,ff,ff,ff,ff,ff,ff,ff,ff,ff]) rfl D2 (B8 rfl) rfl (by kernel_rfl) rfl rfl ?_
 refine aL 1 rfl (C7 rfl rfl) rfl ?_
 refine aP 2 rfl (B8 rfl) rfl ?_
 refine aL 3 rfl (C7 rfl rfl) rfl ?_
 refine aP 4 rfl (B5 (j := 0) rfl rfl rfl (by simp)) rfl ?_
 refine aL 5 rfl (A3 rfl rfl (hat0 _) hl0) rfl ?_
 refine A2 6 ?_
 (refine H3 rfl rfl hF rfl rfl rfl (fun v G1 hle1 hh => ?_); obtain ⟨wc, rfl, hrw⟩ := hh; have hwl := hrw.len; have hwo := hrw.one)
 refine aP 7 rfl (pX rfl rfl) rfl ?_
 refine aP 8 rfl (pX rfl rfl) rfl ?_
 refine aP 9 rfl (pX rfl rfl) rfl ?_
 refine A2 10 ?_
 (refine oS rfl rfl rfl rfl hwl hwo rfl rfl ?_ (hu := by exact E0 hwl.symm))
 refine aP 11 rfl (qA rfl) rfl ?_
 refine aP 12 rfl (qA rfl) rfl ?_
 refine B0 ?_
 refine D3 (rC rfl (A3 rfl rfl (B6 (by repeat first | exact mH | apply mT)) hwl)) (rT rfl) (rT rfl) ?_
 (exact ⟨rfl, _, rfl, hrw⟩)
 refine B0 ?_
 refine sB (qE rfl rfl) rfl rfl (fun h175 => ?_) (fun h175 => ?_)
 refine B0 ?_
 (have hq : k = 11 ∨ k = 12 := (by omega); obtain ⟨x, hxy⟩ := hL1 (by omega); have hDq := hD hq x hxy; subst hxy; obtain ⟨bx, ox, e0, rfl, hl0, hat0, hre0, hgb0⟩ := hsl.kidTm hkl (i := 0) (by simp) (by simp); have hF := B1U k x G e0 hq (hkk x (by simp)) hre0; rw [← hDq] at hF; refine D7 D8 rfl ?_)
 refine I6 (i := 0) (l' := [tt,ff,ff,ff,ff,ff,ff,ff,ff,ff,ff,ff,ff]) rfl D2 (B8 rfl) rfl (by kernel_rfl) rfl rfl ?_
 refine aL 1 rfl (C7 rfl rfl) rfl ?_
 refine aP 2 rfl (B8 rfl) rfl ?_
 refine aL 3 rfl (C7 rfl rfl) rfl ?_
 refine aP 4 rfl (B5 (j := 0) rfl rfl rfl (by simp)) rfl ?_
 refine aL 5 rfl (A3 rfl rfl (hat0 _) hl0) rfl ?_
 refine A2 6 ?_
 (refine H3 rfl rfl hF rfl rfl rfl (fun v G1 hle1 hh => ?_); obtain ⟨wc, rfl, hrw⟩ := hh; have hwl := hrw.len; have hwo := hrw.one)
 refine aP 7 rfl (pX rfl rfl) rfl ?_
 refine aP 8 rfl (pX rfl rfl) rfl ?_
 refine aP 9 rfl (pX rfl rfl) rfl ?_
 refine A2 10 ?_
 (refine oS rfl rfl rfl rfl hwl hwo rfl rfl ?_ (hu := by exact E0 hwl.symm))
 refine aP 11 rfl (qA rfl) rfl ?_
 refine aP 12 rfl (qA rfl) rfl ?_
 refine B0 ?_
 refine D3 (rC rfl (A3 rfl rfl (B6 (by repeat first | exact mH | apply mT)) hwl)) (rT rfl) (rT rfl) ?_
 (exact ⟨rfl, _, rfl, hrw⟩)
 refine A8 ?_
 refine sB (qE rfl rfl) rfl rfl (fun h210 => ?_) (fun h210 => ?_)
 refine B7 ?_
 (refine E6 rfl (hC (by omega)) rfl rfl (fun v G1 hle1 hh => ?_); obtain ⟨wc, rfl, hrw⟩ := hh; have hwl := hrw.len; have hwo := hrw.one)
 refine B9 ?_
 refine sS rfl rfl rfl hwl hwo rfl ?_ (hu := by exact E0 hwl.symm)
 refine B7 ?_
 refine D3 (rC rfl (A3 rfl rfl (B6 (by repeat first | exact mH | apply mT)) hwl)) (rT rfl) (rT rfl) ?_
 (exact ⟨rfl, _, rfl, hrw⟩)
 refine K0 ?_
 refine D3 (rC rfl (A5 rfl rfl)) (rT rfl) (rT rfl) ?_
 (rw [hO (by omega)]; exact M2.mk rfl (Q2 _))
theorem B7V {k : Int} {nm : ByteArray} {num : Int} {ty fr : Ty} {lb : Int} {ks : List Tm} {i : Nat} (hi : i < ks.length) (hn : i < (if k = 9 then 1 else ks.length)) (hj : ∀ j, j < i → (h : j < ks.length) → E4 ks[j] = true) (hv : E4 ks[i] = false) :
  F0 (.mk k nm num ty fr lb ks) = if (F0 ks[i]).2.1 = 1 then (.mk k nm num ty fr lb (ks.set i (F0 ks[i]).1), 1, 0) else (J7, (F0 ks[i]).2.1, (F0 ks[i]).2.2) := by
 rw [F0, A7o _ ks i hi hn hj hv]
theorem B7W {k : Int} {nm : ByteArray} {num : Int} {ty fr : Ty} {lb : Int} {ks : List Tm} (h : ∀ i, i < (if k = 9 then 1 else ks.length) → (hl : i < ks.length) → E4 ks[i] = true) : F0 (.mk k nm num ty fr lb ks) = M7 k ty fr lb ks := by
 rw [F0, A5Q _ _ h]
theorem B7X {ty fr : Ty} {lb : Int} {a b c : Tm} : M7 9 ty fr lb [a, b, c] = (if a.k = 3 then (b, 1, 0) else if a.k = 4 then (c, 1, 0) else Q7) := rfl
theorem B7Y : ∀ (t : Tm) (G : IM) (cells : List Value), cv t → E4 t = false → B1 G t cells → Fn Tryz.prog 211 [.agg ⟨cells⟩] [] G (M2 (F0 t)) := by
 refine Tm.ind fun k nm num ty fr lb ks ih G cells hc hv hr => ?_
 have hr0 := hr
 have hRl := hr.len
 have hN := hc.node.1
 have hkk := hc.node.2
 have hops := hN.ops
 have hle3 := A1B k
 have hkd := @A7p k nm num ty fr lb ks hc hv
 have hkX := fun (i : Nat) => @B7V k nm num ty fr lb ks i
 have hrX := @B7W k nm num ty fr lb ks
 have hRd := fun h7 => B7U k nm num ty fr lb ks G cells h7 hc hr
 obtain ⟨C, hC⟩ : ∃ C : Nat, (if k = 9 then 1 else ks.length : Nat) = C := ⟨_, rfl⟩
 rw [hC] at hkd hrX
 have hkX' := fun (i : Nat) (hi : i < ks.length) (hn : i < C) => hkX i hi (by rw [hC]; exact hn)
 have h93 : k = 9 → ks.length = 3 := fun h => by rw [h] at hops; have : D9 9 = 3 := rfl; omega
 have hC1 : k = 9 → C = 1 := fun h => by rw [← hC, if_pos h]
 have hC2 : k ≠ 9 → C = ks.length := fun h => by rw [← hC, if_neg h]
 have hC9 : C ≤ ks.length := by by_cases h9 : k = 9; have := h93 h9; have := hC1 h9; omega; have := hC2 h9; omega
 generalize F0 (.mk k nm num ty fr lb ks) = R at hkX hkX' hrX ⊢
 obtain ⟨tk, tks⟩ := ty
 obtain ⟨fk, fks⟩ := fr
 obtain ⟨pt, ct, pf, cf, p, c, es, rfl, hk, hnum, hlb, hty, hfr, hsl, hkl⟩ := hr.open9
 have hn := hsl.le
 have hnc := hsl.sl.2.1
 have hes1 : ∀ u ∈ es.flatten, u.oneCell' = true := by
  intro u hu
  obtain ⟨e, he, hue⟩ := List.mem_flatten.1 hu
  exact List.all_eq_true.1 (hsl.one e he) u hue
 refine C6 Tryz.func211 rfl Tryz.ntmps211 Tryz.results211 rfl ?_
 intro w0
 refine A4 ?_
 refine sE (C9 rfl rfl) rfl (fun b3 => ?_)
 refine sE (A9 rfl) rfl (fun b4 => ?_)
 refine S4 ?_
 refine sB (qE rfl rfl) rfl rfl (fun h22 => ?_) (fun h22 => ?_)
 refine A4 ?_
 (show J3 _ _ (.cond (.tmp 16) _ _) _ _; refine A0l (fun (_ : Unit) => ⟨[(5, .int .i64 (C : Int)), (1, .pointer (some ⟨b3, 0, none⟩)), (2, .pointer (some ⟨b4, 0, none⟩))], [.blk b4 [.int .i64 0, .string ⟨⟨[]⟩⟩, .int .i64 0, .int .i64 0, .slice none 0 0, .int .i64 0, .slice none 0 0, .int .i64 0, .slice none 0 0], .blk b3 [.int .i64 k, .string nm, .int .i64 num, .int .i64 tk, .slice pt tks.length ct, .int .i64 fk, .slice pf fks.length cf, .int .i64 lb, .slice p ks.length c]], G⟩) (fun _ => True) (qT rfl ?_) ?_)
 refine B9 ?_
 (have hCC := hC1 (by omega); subst hCC; refine Q6 () (M4 (by repeat (first | exact E7.nil | refine E7.cons rfl ?_)) (by repeat (first | exact A1.refl | exact A1.nil | refine A1.cons (by repeat (first | exact Pk.here | apply Pk.there)) ?_ | apply A1.drop))) trivial)
 (rintro (_ : Unit) _)
 refine A8 ?_
 refine C5 ?_
 (refine K2 (fun (i : Nat) => ⟨[(6, .int .i64 (i : Int)), (5, .int .i64 (C : Int)), (1, .pointer (some ⟨b3, 0, none⟩)), (2, .pointer (some ⟨b4, 0, none⟩))], [.blk b4 [.int .i64 0, .string ⟨⟨[]⟩⟩, .int .i64 0, .int .i64 0, .slice none 0 0, .int .i64 0, .slice none 0 0, .int .i64 0, .slice none 0 0], .blk b3 [.int .i64 k, .string nm, .int .i64 num, .int .i64 tk, .slice pt tks.length ct, .int .i64 fk, .slice pf fks.length cf, .int .i64 lb, .slice p ks.length c]], G⟩) (fun i => i ≤ C ∧ ∀ j, j < i → (h : j < ks.length) → E4 ks[j] = true) (fun i => C - i) 0 ?_ ?_ ?_)
 exact D6
 exact A7q
 (rintro i ⟨hi, hj⟩)
 refine B0 ?_
 refine sB (J4 rfl rfl) rfl rfl (fun h47 => ?_) (fun h47 => ?_)
 refine A8 ?_
 refine C5 ?_
 refine A8 ?_
 (have hiC : i < C := (by omega); obtain ⟨bx, ox, e, rfl, hl, hat, hre, hgb⟩ := hsl.kidTm hkl (i := i) (by omega) (by omega); have heo := hre.one; have hVi := A7O ks[i] G e (hkk _ (List.getElem_mem (by omega))) hre; refine sP (B5 (j := i) rfl rfl rfl (by omega)) rfl rfl ?_)
 refine sL (A3 rfl rfl (hat _) hl) rfl rfl ?_
 refine H1 rfl (hVi) rfl rfl (fun h63 => ?_) (fun h63 => ?_)
 refine E1 ?_
 refine sP (H9 rfl rfl (by omega) (by omega)) rfl rfl ?_
 refine A4 ?_
 refine I5 (i + 1) ?_ ?_ ?_
 exact D6
 exact A7r
 (show C - (i + 1) < C - i; omega)
 refine J2 ?_
 refine sP (B5 (j := i) rfl rfl rfl (by omega)) rfl rfl ?_
 refine sL (A3 rfl rfl (hat _) hl) rfl rfl ?_
 (have hvF : E4 ks[i] = false := (by assumption); have hst := hkX' i (by omega) hiC (fun j hji hl2 => hj j hji hl2) hvF; refine E6 rfl (ih ks[i] (List.getElem_mem (by omega)) G e (hkk _ (List.getElem_mem (by omega))) hvF hre) rfl rfl (fun v G1 hle1 hh => ?_); obtain ⟨uc, hvv, hru⟩ := hh; have hul := hru.len; have huo := hru.one; generalize F0 ks[i] = r at hvv hru hst; obtain ⟨u, cc, ll⟩ := r; simp only at hvv hru hst; subst hvv)
 refine B4 ?_
 refine sE (A9 rfl) rfl (fun b97 => ?_)
 refine sS rfl rfl rfl hul huo rfl ?_ (hu := by exact E0 hul.symm)
 refine D4 ?_
 refine sB (N2 rfl rfl) rfl rfl (fun h107 => ?_) (fun h107 => ?_)
 refine A0D ?_
 refine D3 (rC rfl (A5 rfl rfl)) (rT rfl) (rT rfl) ?_
 (rw [hst, if_neg (by omega)]; exact M2.mk rfl (Q2 _))
 refine D4 ?_
 refine sE (A9 rfl) rfl (fun b138 => ?_)
 refine B0 ?_
 (refine I3 (D0 rfl rfl rfl (by omega) (by unfold maxLen; omega) rfl) rfl ?_; rintro _ ⟨b144, rfl⟩)
 refine A4 ?_
 (refine A5t rfl rfl rfl rfl rfl (fun _ _ => by repeat (first | exact Sw.here | apply Sw.there)) (hsl.mono hle1).sl hes1 (Nat.zero_le _) (by unfold maxLen; omega) (by omega) rfl (fun p4 c4 => ?_); simp only [Nat.zero_add, List.nil_append]; refine A4y (cs := es.flatten) (by repeat (first | exact Pk.here | apply Pk.there)) (by omega) (fun bc Cc hpe hnc1 hcm => ?_); subst hpe)
 refine E1 ?_
 refine sL (A3 rfl rfl (B6 (by repeat first | exact mH | apply mT)) hul) rfl rfl ?_
 refine sP (B5 (j := i) rfl rfl rfl (by omega)) rfl rfl ?_
 refine X5 rfl rfl rfl hul huo rfl (by repeat first | exact Sw.here | apply Sw.there) (by exact A4z (by rw [hkl.len]; omega) (fun e he => (hsl.all e he)) hul) ?_
 refine J2 ?_
 (refine A2R (bs := [(bc, (es.set i uc).flatten ++ Cc)]) (Pk.perm (by repeat (first | exact Pk.here | apply Pk.there))) (fun hn2 hd2 hle2 => ?_))
 refine A8 ?_
 refine D3 (rC rfl (A5 rfl rfl)) (rT rfl) (rT rfl) ?_
 (have hks2 := E5.set (j := i) ((hkl.mono hle1).mono hle2) (hru.mono hle2); rw [hst, if_pos (by omega)]; exact M2.mk rfl (B1.put (us := ks.set i u) (es := es.set i uc) hk hnum hlb ((hty.mono hle1).mono hle2) ((hfr.mono hle1).mono hle2) (by rw [List.length_set]) (E3.of (Sl.of_blk (A := []) (by rw [A00 hks2.all, hks2.len, List.length_set]) (by omega) hcm (Wi.in hn2 List.mem_cons_self)) (by rw [hks2.len, List.length_set]) hks2.all (fun e he => by obtain ⟨q, hq⟩ := List.getElem?_of_mem he; exact (hks2.inv hq J7).2.one)) hks2))
 refine K4 ?_
 refine sP (A1V rfl rfl (by omega)) rfl rfl ?_
 refine J2 ?_
 (have hall : ∀ i, i < C → (hl : i < ks.length) → E4 ks[i] = true := (fun j hjc hl2 => hj j (by omega) hl2); have hrd' := hrX hall; have h9 : k = 9 := (by omega); subst h9; obtain ⟨xa, xb, xc, hxs⟩ := ks3 (h93 rfl); subst hxs; rw [B7X] at hrd'; obtain ⟨bx, ox, e0, rfl, hl0, hat0, hre0, hgb0⟩ := hsl.kidTm hkl (i := 0) (by simp) (by simp); obtain ⟨_, _, e1, hp1, hl1, hat1, hre1, hgb1⟩ := hsl.kidTm hkl (i := 1) (by simp) (by simp); cases hp1; obtain ⟨_, _, e2, hp2, hl2, hat2, hre2, hgb2⟩ := hsl.kidTm hkl (i := 2) (by simp) (by simp); cases hp2; replace hre0 : B1 G xa e0 := hre0; replace hre1 : B1 G xb e1 := hre1; replace hre2 : B1 G xc e2 := hre2; have ho1 := hre1.one; have ho2 := hre2.one; obtain ⟨ak, anm, anum, ⟨atk, atks⟩, ⟨afk, afks⟩, alb, aks⟩ := xa; obtain ⟨apt, act, apf, acf, ap, ac, aes, rfl, hak, hanum, halb, haty, hafr, hasl, hakl⟩ := hre0.open9; replace hrd' : R = (if ak = 3 then (xb, 1, 0) else if ak = 4 then (xc, 1, 0) else Q7) := hrd'; refine sP (B5 (j := 0) rfl rfl rfl (by simp)) rfl rfl ?_)
 refine F8 ?_
 refine sL (W4 rfl rfl ((hat0 _).sub (j := 0) rfl)) rfl rfl ?_
 refine A4 ?_
 refine C5 (tS (tR (sB (qE rfl rfl) rfl rfl (fun h211 => ?_) (fun h211 => ?_))))
 refine D4 ?_
 refine sP (B5 (j := 1) rfl rfl rfl (by simp)) rfl rfl ?_
 refine sL (A3 rfl rfl (hat1 _) hl1) rfl rfl ?_
 refine sS rfl rfl rfl hl1 ho1 rfl ?_ (hu := by exact E0 hl1.symm)
 refine B7 ?_
 refine D3 (rC rfl (A3 rfl rfl (B6 (by repeat first | exact mH | apply mT)) hl1)) (rT rfl) (rT rfl) ?_
 (rw [hrd', if_pos (by omega)]; exact M2.mk rfl hre1)
 refine A8 ?_
 refine sB (qE rfl rfl) rfl rfl (fun h238 => ?_) (fun h238 => ?_)
 refine D4 ?_
 refine sP (B5 (j := 2) rfl rfl rfl (by simp)) rfl rfl ?_
 refine sL (A3 rfl rfl (hat2 _) hl2) rfl rfl ?_
 refine sS rfl rfl rfl hl2 ho2 rfl ?_ (hu := by exact E0 hl2.symm)
 refine B7 ?_
 refine D3 (rC rfl (A3 rfl rfl (B6 (by repeat first | exact mH | apply mT)) hl2)) (rT rfl) (rT rfl) ?_
 (rw [hrd', if_neg (by omega), if_pos (by omega)]; exact M2.mk rfl hre2)
 refine K0 ?_
 refine D3 (rC rfl (A5 rfl rfl)) (rT rfl) (rT rfl) ?_
 (rw [hrd', if_neg (by omega), if_neg (by omega)]; exact M2.mk rfl (Q2 _))
 refine A4 ?_
 (show J3 _ _ (.cond (.tmp 16) _ _) _ _; refine A0l (fun (_ : Unit) => ⟨[(5, .int .i64 (C : Int)), (1, .pointer (some ⟨b3, 0, none⟩)), (2, .pointer (some ⟨b4, 0, none⟩))], [.blk b4 [.int .i64 0, .string ⟨⟨[]⟩⟩, .int .i64 0, .int .i64 0, .slice none 0 0, .int .i64 0, .slice none 0 0, .int .i64 0, .slice none 0 0], .blk b3 [.int .i64 k, .string nm, .int .i64 num, .int .i64 tk, .slice pt tks.length ct, .int .i64 fk, .slice pf fks.length cf, .int .i64 lb, .slice p ks.length c]], G⟩) (fun _ => True) (cF rfl ?_) ?_)
 refine tK ?_
 (have hCC := hC2 (by omega); subst hCC; refine Q6 () (M4 (by repeat (first | exact E7.nil | refine E7.cons rfl ?_)) (by repeat (first | exact A1.refl | exact A1.nil | refine A1.cons (by repeat (first | exact Pk.here | apply Pk.there)) ?_ | apply A1.drop))) trivial)
 (rintro (_ : Unit) _)
 refine A8 ?_
 refine C5 ?_
 (refine K2 (fun (i : Nat) => ⟨[(6, .int .i64 (i : Int)), (5, .int .i64 (C : Int)), (1, .pointer (some ⟨b3, 0, none⟩)), (2, .pointer (some ⟨b4, 0, none⟩))], [.blk b4 [.int .i64 0, .string ⟨⟨[]⟩⟩, .int .i64 0, .int .i64 0, .slice none 0 0, .int .i64 0, .slice none 0 0, .int .i64 0, .slice none 0 0], .blk b3 [.int .i64 k, .string nm, .int .i64 num, .int .i64 tk, .slice pt tks.length ct, .int .i64 fk, .slice pf fks.length cf, .int .i64 lb, .slice p ks.length c]], G⟩) (fun i => i ≤ C ∧ ∀ j, j < i → (h : j < ks.length) → E4 ks[j] = true) (fun i => C - i) 0 ?_ ?_ ?_)
 exact D6
 exact A7q
 (rintro i ⟨hi, hj⟩)
 refine B0 ?_
 refine sB (J4 rfl rfl) rfl rfl (fun h299 => ?_) (fun h299 => ?_)
 refine A8 ?_
 refine C5 ?_
 refine A8 ?_
 (have hiC : i < C := (by omega); obtain ⟨bx, ox, e, rfl, hl, hat, hre, hgb⟩ := hsl.kidTm hkl (i := i) (by omega) (by omega); have heo := hre.one; have hVi := A7O ks[i] G e (hkk _ (List.getElem_mem (by omega))) hre; refine sP (B5 (j := i) rfl rfl rfl (by omega)) rfl rfl ?_)
 refine sL (A3 rfl rfl (hat _) hl) rfl rfl ?_
 refine H1 rfl (hVi) rfl rfl (fun h315 => ?_) (fun h315 => ?_)
 refine E1 ?_
 refine sP (H9 rfl rfl (by omega) (by omega)) rfl rfl ?_
 refine A4 ?_
 refine I5 (i + 1) ?_ ?_ ?_
 exact D6
 exact A7r
 (show C - (i + 1) < C - i; omega)
 refine J2 ?_
 refine sP (B5 (j := i) rfl rfl rfl (by omega)) rfl rfl ?_
 refine sL (A3 rfl rfl (hat _) hl) rfl rfl ?_
 (have hvF : E4 ks[i] = false := (by assumption); have hst := hkX' i (by omega) hiC (fun j hji hl2 => hj j hji hl2) hvF; refine E6 rfl (ih ks[i] (List.getElem_mem (by omega)) G e (hkk _ (List.getElem_mem (by omega))) hvF hre) rfl rfl (fun v G1 hle1 hh => ?_); obtain ⟨uc, hvv, hru⟩ := hh; have hul := hru.len; have huo := hru.one; generalize F0 ks[i] = r at hvv hru hst; obtain ⟨u, cc, ll⟩ := r; simp only at hvv hru hst; subst hvv)
 refine B4 ?_
 refine sE (A9 rfl) rfl (fun b349 => ?_)
 refine sS rfl rfl rfl hul huo rfl ?_ (hu := by exact E0 hul.symm)
 refine D4 ?_
 refine sB (N2 rfl rfl) rfl rfl (fun h359 => ?_) (fun h359 => ?_)
 refine A0D ?_
 refine D3 (rC rfl (A5 rfl rfl)) (rT rfl) (rT rfl) ?_
 (rw [hst, if_neg (by omega)]; exact M2.mk rfl (Q2 _))
 refine D4 ?_
 refine sE (A9 rfl) rfl (fun b390 => ?_)
 refine B0 ?_
 (refine I3 (D0 rfl rfl rfl (by omega) (by unfold maxLen; omega) rfl) rfl ?_; rintro _ ⟨b396, rfl⟩)
 refine A4 ?_
 (refine A5t rfl rfl rfl rfl rfl (fun _ _ => by repeat (first | exact Sw.here | apply Sw.there)) (hsl.mono hle1).sl hes1 (Nat.zero_le _) (by unfold maxLen; omega) (by omega) rfl (fun p4 c4 => ?_); simp only [Nat.zero_add, List.nil_append]; refine A4y (cs := es.flatten) (by repeat (first | exact Pk.here | apply Pk.there)) (by omega) (fun bc Cc hpe hnc1 hcm => ?_); subst hpe)
 refine E1 ?_
 refine sL (A3 rfl rfl (B6 (by repeat first | exact mH | apply mT)) hul) rfl rfl ?_
 refine sP (B5 (j := i) rfl rfl rfl (by omega)) rfl rfl ?_
 refine X5 rfl rfl rfl hul huo rfl (by repeat first | exact Sw.here | apply Sw.there) (by exact A4z (by rw [hkl.len]; omega) (fun e he => (hsl.all e he)) hul) ?_
 refine J2 ?_
 (refine A2R (bs := [(bc, (es.set i uc).flatten ++ Cc)]) (Pk.perm (by repeat (first | exact Pk.here | apply Pk.there))) (fun hn2 hd2 hle2 => ?_))
 refine A8 ?_
 refine D3 (rC rfl (A5 rfl rfl)) (rT rfl) (rT rfl) ?_
 (have hks2 := E5.set (j := i) ((hkl.mono hle1).mono hle2) (hru.mono hle2); rw [hst, if_pos (by omega)]; exact M2.mk rfl (B1.put (us := ks.set i u) (es := es.set i uc) hk hnum hlb ((hty.mono hle1).mono hle2) ((hfr.mono hle1).mono hle2) (by rw [List.length_set]) (E3.of (Sl.of_blk (A := []) (by rw [A00 hks2.all, hks2.len, List.length_set]) (by omega) hcm (Wi.in hn2 List.mem_cons_self)) (by rw [hks2.len, List.length_set]) hks2.all (fun e he => by obtain ⟨q, hq⟩ := List.getElem?_of_mem he; exact (hks2.inv hq J7).2.one)) hks2))
 refine K4 ?_
 refine sP (A0A rfl rfl (by omega)) rfl rfl ?_
 refine A8 ?_
 (have hall : ∀ i, i < C → (hl : i < ks.length) → E4 ks[i] = true := (fun j hjc hl2 => hj j (by omega) hl2); have hk8 := hkd hall; have hrd' := hrX hall; refine E6 rfl (hRd (by omega)) rfl rfl (fun v G1 hle1 hh => ?_); obtain ⟨uc, rfl, hru⟩ := hh; have hul := hru.len; have huo := hru.one)
 refine B9 ?_
 refine sS rfl rfl rfl hul huo rfl ?_ (hu := by exact E0 hul.symm)
 refine A8 ?_
 refine D3 (rC rfl (A3 rfl rfl (B6 (by repeat first | exact mH | apply mT)) hul)) (rT rfl) (rT rfl) ?_
 (rw [hrd']; exact ⟨rfl, _, rfl, hru⟩)
theorem B7Z {t : Tm} (h : M5 t = true) : (F0 t).1.small ∧ D1 (F0 t).1 ≤ 40300 := by
 obtain ⟨h1, h2⟩ := A03 h
 have := B5l t (A2p t h1) h2
 exact ⟨this.1, by omega⟩
theorem B70 (t : Tm) (G : IM) (cells : List Value) (hcnt : D1 t ≤ 4294967296) (hr : B1 G t cells) : Fn Tryz.prog 170 [.agg ⟨cells⟩] [] G (M2 (H4 t)) := by
 have hRl := hr.len
 have hRo := hr.one
 have hV := A6R t G cells hcnt hr
 have e1 := @A5S t
 have e2 := @A4R t
 have e3 := @A4S t
 have e4 := @A4T t
 have e5 := @A4U t
 have hsc := @B7Z t
 refine C6 Tryz.func170 rfl Tryz.ntmps170 Tryz.results170 rfl ?_
 intro w0
 refine A4 ?_
 refine sE (C9 rfl rfl) rfl (fun b3 => ?_)
 refine sE (A9 rfl) rfl (fun b4 => ?_)
 refine B7 ?_
 refine sL (A3 rfl rfl (B6 (by repeat first | exact mH | apply mT)) hRl) rfl rfl ?_
 refine H1 rfl (hV) rfl rfl (fun h13 => ?_) (fun h13 => ?_)
 refine E1 ?_
 refine sL (A3 rfl rfl (B6 (by repeat first | exact mH | apply mT)) hRl) rfl rfl ?_
 refine H1 rfl ((A7O t G cells (A03 (by assumption)).1 hr)) rfl rfl (fun h24 => ?_) (fun h24 => ?_)
 refine B0 ?_
 refine sL (A3 rfl rfl (B6 (by repeat first | exact mH | apply mT)) hRl) rfl rfl ?_
 (refine E6 rfl (A3D t G cells (A5R (by assumption)) hr) rfl rfl (fun v G1 hle1 hh => ?_); obtain ⟨cs1, F1, rfl, hs1, hn1⟩ := hh; have hul := hs1.R.len; have huo := hs1.R.one)
 refine sS rfl rfl rfl hul huo rfl ?_ (hu := by exact E0 hul.symm)
 refine A8 ?_
 refine D3 (rC rfl (A3 rfl rfl (B6 (by repeat first | exact mH | apply mT)) hul)) (rT rfl) (rT rfl) ?_
 (exact M2.mk (e2 (by assumption) (by assumption)) (hs1.R.mono (C2.le _ _)))
 refine B7 ?_
 refine sL (A3 rfl rfl (B6 (by repeat first | exact mH | apply mT)) hRl) rfl rfl ?_
 (have hcv : M5 t = true := (by assumption); have hnv : E4 t = false := (by assumption); obtain ⟨hsc1, hsc2⟩ := hsc hcv; replace e3 := e3 hcv hnv; replace e4 := e4 hcv hnv; replace e5 := e5 hcv hnv; refine E6 rfl (B7Y t G cells (A03 hcv).1 hnv hr) rfl rfl (fun v G1 hle1 hh => ?_); obtain ⟨uc, hvv, hru⟩ := hh; have hul := hru.len; have huo := hru.one; generalize F0 t = r at hvv hru hsc1 hsc2 e3 e4 e5; obtain ⟨u, cc, ll⟩ := r; simp only at hvv hru hsc1 hsc2 e3 e4 e5; subst hvv; have hVu := A6R u G1 uc (by omega) hru)
 refine B4 ?_
 refine sE (A9 rfl) rfl (fun b54 => ?_)
 refine sS rfl rfl rfl hul huo rfl ?_ (hu := by exact E0 hul.symm)
 refine D4 ?_
 refine sB (N2 rfl rfl) rfl rfl (fun h64 => ?_) (fun h64 => ?_)
 refine I7 ?_
 refine D3 (rC rfl (A5 rfl rfl)) (rT rfl) (rT rfl) ?_
 (exact M2.mk (e3 (by omega)) (Q2 _))
 refine D4 ?_
 refine sL (A3 rfl rfl (B6 (by repeat first | exact mH | apply mT)) hul) rfl rfl ?_
 refine H1 rfl (hVu) rfl rfl (fun h91 => ?_) (fun h91 => ?_)
 refine D4 ?_
 refine sL (A3 rfl rfl (B6 (by repeat first | exact mH | apply mT)) hul) rfl rfl ?_
 (refine E6 rfl (A3D u G1 uc hsc1 hru) rfl rfl (fun v G2 hle2 hh => ?_); obtain ⟨cs2, F2, rfl, hs2, hn2⟩ := hh; have hwl := hs2.R.len; have hwo := hs2.R.one)
 refine sS rfl rfl rfl hwl hwo rfl ?_ (hu := by exact E0 hwl.symm)
 refine B0 ?_
 refine D3 (rC rfl (A3 rfl rfl (B6 (by repeat first | exact mH | apply mT)) hwl)) (rT rfl) (rT rfl) ?_
 (exact M2.mk (e5 (by omega) (by assumption)) (hs2.R.mono (C2.le _ _)))
 refine J5 ?_
 refine D3 (rC rfl (A5 rfl rfl)) (rT rfl) (rT rfl) ?_
 (exact M2.mk (e4 (by omega) (by assumption)) (Q2 _))
 refine J5 ?_
 refine D3 (rC rfl (A5 rfl rfl)) (rT rfl) (rT rfl) ?_
 (exact M2.mk (e1 (by assumption)) (Q2 _))
theorem B71 {m i : Nat} {e : Tm} (h : (H4 e).2.1 ≠ 1) : A0n i (K3 m e) = ((H4 e).1, (H4 e).2.1, (H4 e).2.2, i) := by
 cases m with
 | zero => rw [K3, if_neg h]; simp [A0n]
 | succ m => rw [K3, if_neg h]; simp [A0n]
theorem B72 {m i : Nat} {e : Tm} (h : (H4 e).2.1 = 1) (hm : m = 0) : A0n i (K3 m e) = (J7, 5, 0, i) := by
 subst hm; rw [K3, if_pos h]; simp [A0n]
theorem B73 {m i : Nat} {e : Tm} (h : (H4 e).2.1 = 1) (hm : 0 < m) : A0n i (K3 m e) = A0n (i + 1) (K3 (m - 1) (H4 e).1) := by
 obtain ⟨k, rfl⟩ : ∃ k, m = k + 1 := ⟨m - 1, by omega⟩
 rw [K3, if_pos h]; simp only [A0n, Nat.add_sub_cancel, Nat.add_assoc, Nat.add_comm 1 i]
theorem B74 (e : Tm) (n : Nat) (hn : n ≤ 300) (G : IM) (cells : List Value) (hcnt : D1 e ≤ 4294967296) (hr : B1 G e cells) : Fn Tryz.prog 128 [.agg ⟨cells⟩, .int .i64 (n : Int)] [] G (EvP (K3 n e)) := by
 have hRl := hr.len
 have hRo := hr.one
 refine C6 Tryz.func128 rfl Tryz.ntmps128 Tryz.results128 rfl ?_
 intro w0
 refine A4 ?_
 refine sE (C9 rfl rfl) rfl (fun b3 => ?_)
 refine sE (A9 rfl) rfl (fun b4 => ?_)
 refine J2 ?_
 refine C5 ?_
 (refine K2 (fun (x : Nat × Tm × List Value × IM) => ⟨[(8, .int .i64 (x.1 : Int)), (1, .int .i64 (n : Int)), (2, .pointer (some ⟨b3, 0, none⟩)), (4, .pointer (some ⟨b4, 0, none⟩))], [.blk b3 x.2.2.1, .blk b4 [.int .i64 0, .string ⟨⟨[]⟩⟩, .int .i64 0, .int .i64 0, .slice none 0 0, .int .i64 0, .slice none 0 0, .int .i64 0, .slice none 0 0]], x.2.2.2⟩) (fun x => x.1 ≤ n ∧ C4 G x.2.2.2 ∧ B1 x.2.2.2 x.2.1 x.2.2.1 ∧ D1 x.2.1 ≤ 4294967296 ∧ A0n x.1 (K3 (n - x.1) x.2.1) = K3 n e) (fun x => n - x.1) (0, e, cells, G) ?_ ?_ ?_)
 (simp only [I1]; exact D6)
 (exact ⟨Nat.zero_le _, C4.refl _, hr, hcnt, rfl⟩)
 (rintro ⟨i, u, uc, Gi⟩ ⟨hi, hle, hru, hcu, hev⟩; simp only [] at hi hle hru hcu hev ⊢; have hul := hru.len; have huo := hru.one)
 refine tS ?_
 refine C5 ?_
 refine A4 ?_
 refine sL (A3 rfl rfl (B6 (by repeat first | exact mH | apply mT)) hul) rfl rfl ?_
 (refine E6 rfl (B70 u Gi uc hcu hru) rfl rfl (fun v G1 hle1 hh => ?_); obtain ⟨wc, hv, hrw⟩ := hh; have hwl := hrw.len; have hwo := hrw.one; have hend := @B71 (n - i) i u; have hmu := @B72 (n - i) i u; have hgo := @B73 (n - i) i u; have hval := @B6C u; generalize H4 u = r at hv hrw hend hmu hgo hval; obtain ⟨w, c, l⟩ := r; simp only at hv hrw hend hmu hgo hval; subst hv)
 refine B4 ?_
 refine sE (A9 rfl) rfl (fun b30 => ?_)
 refine sS rfl rfl rfl hwl hwo rfl ?_ (hu := by exact E0 hwl.symm)
 refine D4 ?_
 refine sB (N2 rfl rfl) rfl rfl (fun h40 => ?_) (fun h40 => ?_)
 refine B0 ?_
 refine sL (A3 rfl rfl (B6 (by repeat first | exact mH | apply mT)) hwl) rfl rfl ?_
 refine B9 ?_
 refine sS rfl rfl rfl hwl hwo rfl ?_ (hu := by exact E0 hwl.symm)
 refine J8 ?_
 refine A5T (rC rfl (A3 rfl rfl (B6 (by repeat first | exact mH | apply mT)) hwl)) (rT rfl) (rT rfl) (rT rfl) ?_
 exact A7v
 refine J2 ?_
 refine sB (qE rfl rfl) rfl rfl (fun h74 => ?_) (fun h74 => ?_)
 refine A0C ?_
 refine A5T (rC rfl (A5 rfl rfl)) (rT rfl) (rT rfl) (rT rfl) ?_
 (exact EvP.mk (by rw [← hev]; exact hmu (by omega) (by omega)) (Q2 _))
 refine A8 ?_
 refine sL (A3 rfl rfl (B6 (by repeat first | exact mH | apply mT)) hwl) rfl rfl ?_
 refine X5 rfl rfl rfl hwl hwo rfl (by repeat first | exact Sw.here | apply Sw.there) (by exact E0 (hul.trans hwl.symm)) ?_
 refine B0 ?_
 refine sP (H9 rfl rfl (by omega) (by omega)) rfl rfl ?_
 refine A4 ?_
 refine I5 (i + 1, w, wc, G1) ?_ ?_ ?_
 (simp only [I1]; exact D6)
 (dsimp only; exact ⟨by omega, hle.trans hle1, hrw, by have := A4j (hval (by omega)); omega, by rw [← hev, hgo (by omega) (by omega), show n - (i + 1) = n - i - 1 by omega]⟩)
 (show n - (i + 1) < n - i; omega)
theorem B75 {e : Tm} {fuel : Int} (h : R7 fuel 0 300 = true) : S9 e fuel = ((K3 fuel.toNat e).1, (K3 fuel.toNat e).2.1, (K3 fuel.toNat e).2.2.1) := by
 unfold S9; rw [if_pos (A3w h)]
theorem B10 {fuel : Int} (h : fuel < 0 ∨ 300 < fuel) : R7 fuel 0 300 = false := by unfold R7; rw [decide_eq_false (by omega)]
theorem B76 {fuel : Int} (h : 0 ≤ fuel) (h2 : fuel ≤ 300) : R7 fuel 0 300 = true := by unfold R7; rw [decide_eq_true ⟨h, h2⟩]
theorem B77 (e : Tm) (fuel : Int) (G : IM) (cells : List Value) (hcnt : D1 e ≤ 4294967296) (hr : B1 G e cells) : Fn Tryz.prog 86 [.agg ⟨cells⟩, .int .i64 fuel] [] G (M2 (S9 e fuel)) := by
 have hRl := hr.len
 have hRo := hr.one
 have hno := @A7w e fuel
 have hin := @B75 e fuel
 refine C6 Tryz.func86 rfl Tryz.ntmps86 Tryz.results86 rfl ?_
 intro w0
 refine A4 ?_
 refine sE (C9 rfl rfl) rfl (fun b3 => ?_)
 refine sE (A9 rfl) rfl (fun b4 => ?_)
 refine D4 ?_
 refine sB (J4 rfl rfl) rfl rfl (fun h13 => ?_) (fun h13 => ?_)
 refine S4 ?_
 refine D3 (rC rfl (A5 rfl rfl)) (rT rfl) (rT rfl) ?_
 (exact M2.mk (hno (B10 (by omega))) (Q2 _))
 refine A4 ?_
 refine sB (A0g rfl rfl) rfl rfl (fun h35 => ?_) (fun h35 => ?_)
 refine J5 ?_
 refine D3 (rC rfl (A5 rfl rfl)) (rT rfl) (rT rfl) ?_
 (exact M2.mk (hno (B10 (by omega))) (Q2 _))
 refine D4 ?_
 refine sL (A3 rfl rfl (B6 (by repeat first | exact mH | apply mT)) hRl) rfl rfl ?_
 refine F8 ?_
 (have hE := B74 e fuel.toNat (by omega) G cells hcnt hr; rw [Int.toNat_of_nonneg (by omega)] at hE; have hin := hin (B76 (by omega) (by omega)); refine E6 rfl hE rfl rfl (fun v G1 hle1 hh => ?_); obtain ⟨wc, hv, hrw⟩ := hh; have hwl := hrw.len; have hwo := hrw.one; generalize K3 fuel.toNat e = r at hv hrw hin; obtain ⟨w, c, l, i⟩ := r; simp only at hv hrw hin; subst hv)
 refine B0 ?_
 refine sE (A9 rfl) rfl (fun b68 => ?_)
 refine sS rfl rfl rfl hwl hwo rfl ?_ (hu := by exact E0 hwl.symm)
 refine B7 ?_
 refine sL (A3 rfl rfl (B6 (by repeat first | exact mH | apply mT)) hwl) rfl rfl ?_
 refine A4 ?_
 refine sS rfl rfl rfl hwl hwo rfl ?_ (hu := by exact E0 hwl.symm)
 refine B0 ?_
 refine D3 (rC rfl (A3 rfl rfl (B6 (by repeat first | exact mH | apply mT)) hwl)) (rT rfl) (rT rfl) ?_
 (exact M2.mk hin hrw)
theorem B78 : ∀ (t : Tm) (G : IM) (cells : List Value), cv t → E4 t = true → B1 G t cells → Fn Tryz.prog 87 [.agg ⟨cells⟩] [] G (J0 (.string (A0K t)) G) := by
 refine Tm.ind fun k nm num ty fr lb ks ih G cells hc hv hr => ?_
 have hr0 := hr
 have hP := A50 _ G _ hr
 obtain ⟨hN, hkk⟩ := hc.node
 have hI := A7M (.mk k nm num ty fr lb ks) G _ hN.frA hr
 have hop := hN.ops
 have hnum0 := hN.num0
 have h14 : k = 14 → ks.length = 1 := fun h => by rw [h] at hop; have : D9 14 = 1 := rfl; omega
 have hvp := @B1o k nm num ty fr lb ks
 have hvf := @B1p k nm num ty fr lb ks
 have hvc := @B1q k nm num ty fr lb ks
 have hvl := @B1r k nm num ty fr lb ks
 have hvn := @A5N k nm num ty fr lb ks
 have hvy := @B1R k nm num ty fr lb ks
 have hprx := A05 k nm num ty fr lb ks
 have hinj := A4O k nm num ty fr lb ks
 have h5 : k ≠ 10 → P6 (.mk k nm num ty fr lb ks) = false → inj (.mk k nm num ty fr lb ks) = false → k = 2 ∨ k = 3 ∨ k = 4 ∨ k = 5 := fun h1 h2 h3 => by
  have := hvn h1 h2 h3; rw [hv] at this; exact of_decide_eq_true this.symm
 have hdis : P6 (.mk k nm num ty fr lb ks) = true → inj (.mk k nm num ty fr lb ks) = false := fun h => by
  rw [hprx] at h; have := of_decide_eq_true h; rw [hinj, decide_eq_false (by omega)]; rfl
 have hik : inj (.mk k nm num ty fr lb ks) = true → k = 14 := fun h => A4P h
 have hpk : P6 (.mk k nm num ty fr lb ks) = true → k = 14 ∧ ty.k = fr.k := fun h => by rw [hprx] at h; have := of_decide_eq_true h; exact ⟨this.1, this.2.1.symm⟩
 have hkv := fun (h : inj (.mk k nm num ty fr lb ks) = true) => (hvy (.inr h) (h14 (hik h))).symm.trans hv
 obtain ⟨j, hj⟩ : ∃ j : Nat, num = j := ⟨num.toNat, by omega⟩
 have hdec := B65 j (by omega) G
 generalize hpx : P6 (.mk k nm num ty fr lb ks) = bp at *
 generalize hij : inj (.mk k nm num ty fr lb ks) = bi at *
 subst hj
 obtain ⟨tk, tks⟩ := ty
 obtain ⟨fk, fks⟩ := fr
 obtain ⟨pt, ct, pf, cf, p, c, es, rfl, hk, hnum, hlb, hty, hfr, hsl, hkl⟩ := hr.open9
 refine C6 Tryz.func87 rfl Tryz.ntmps87 Tryz.results87 rfl ?_
 intro w0
 refine A4 ?_
 refine sE (C9 rfl rfl) rfl (fun b3 => ?_)
 refine B4 ?_
 refine C5 ?_
 refine B4 ?_
 refine sB (qE rfl rfl) rfl rfl (fun h13 => ?_) (fun h13 => ?_)
 refine D4 ?_
 refine H6 rfl (hdec) rfl rfl ?_
 refine B7 ?_
 (have hbp : bp = false := (by cases hb : bp with | false => rfl | true => (have := (hpk hb).1; omega)); refine ⟨rfl, congrArg Value.string ?_, rfl⟩; rw [hvl hbp (by omega) (by omega) (by omega)]; unfold A2g; first | (rw [if_pos (by omega)]; rfl) | (rw [if_neg (by omega), if_pos (by omega)]; rfl) | (rw [if_neg (by omega), if_neg (by omega)]; rfl))
 refine D4 ?_
 refine sB (qE rfl rfl) rfl rfl (fun h39 => ?_) (fun h39 => ?_)
 refine K4 ?_
 (have hbp : bp = false := (by cases hb : bp with | false => rfl | true => (have := (hpk hb).1; omega)); refine ⟨rfl, congrArg Value.string ?_, rfl⟩; rw [hvl hbp (by omega) (by omega) (by omega)]; unfold A2g; first | (rw [if_pos (by omega)]; rfl) | (rw [if_neg (by omega), if_pos (by omega)]; rfl) | (rw [if_neg (by omega), if_neg (by omega)]; rfl))
 refine D4 ?_
 refine sB (qE rfl rfl) rfl rfl (fun h62 => ?_) (fun h62 => ?_)
 refine K4 ?_
 (have hbp : bp = false := (by cases hb : bp with | false => rfl | true => (have := (hpk hb).1; omega)); refine ⟨rfl, congrArg Value.string ?_, rfl⟩; rw [hvl hbp (by omega) (by omega) (by omega)]; unfold A2g; first | (rw [if_pos (by omega)]; rfl) | (rw [if_neg (by omega), if_pos (by omega)]; rfl) | (rw [if_neg (by omega), if_neg (by omega)]; rfl))
 refine D4 ?_
 refine sB (qE rfl rfl) rfl rfl (fun h85 => ?_) (fun h85 => ?_)
 refine A1e ?_
 (refine ⟨rfl, congrArg Value.string ?_, rfl⟩; rw [hvp (by first | exact .inl (by omega) | exact .inr ⟨by assumption, by have := (hpk (by assumption)).2; simp only [Ty.k] at this ⊢; omega⟩)]; rfl)
 refine A4 ?_
 refine H1 rfl (hP) rfl rfl (fun h112 => ?_) (fun h112 => ?_)
 refine B4 ?_
 refine sB (qE rfl rfl) rfl rfl (fun h117 => ?_) (fun h117 => ?_)
 refine I7 ?_
 (refine ⟨rfl, congrArg Value.string ?_, rfl⟩; rw [hvp (by first | exact .inl (by omega) | exact .inr ⟨by assumption, by have := (hpk (by assumption)).2; simp only [Ty.k] at this ⊢; omega⟩)]; rfl)
 refine E1 ?_
 refine H1 rfl (hI) rfl rfl (fun h143 => ?_) (fun h143 => ?_)
 refine D4 ?_
 (have hl1 := h14 (hik (by assumption)); obtain ⟨bx, ox, e, rfl, hl, hat, hre, hgb⟩ := hsl.kidTm hkl (i := 0) (by omega) (by omega); have hih := ih ks[0] (List.getElem_mem (by omega)) G e (hkk _ (List.getElem_mem (by omega))) (hkv (by assumption)) hre; refine sP (B5 (j := 0) rfl rfl rfl (by omega)) rfl rfl ?_)
 refine sL (A3 rfl rfl (hat _) hl) rfl rfl ?_
 refine H6 rfl (hih) rfl rfl ?_
 refine B7 ?_
 (have hbp : bp = false := (by cases hb : bp with | false => rfl | true => (have := hdis hb; have h9 : bi = true := (by assumption); rw [h9] at this; cases this)); refine ⟨rfl, congrArg Value.string ?_, rfl⟩; rw [hvc hbp (hik (by assumption)) (by omega)])
 refine J5 ?_
 (refine ⟨rfl, congrArg Value.string ?_, rfl⟩; rw [hvf (by rintro (h | ⟨h1, h2⟩) <;> first | omega | exact Bool.noConfusion (h1.symm.trans (show bp = false by assumption)) | (have := (hpk h1).2; simp only [Ty.k] at this h2; omega)) (by cases hb : bp with | true => exact .inr rfl | false => exact .inl (by have := h5 (by omega) hb (by assumption); omega))]; rfl)
 refine J5 ?_
 refine H1 rfl (hI) rfl rfl (fun h192 => ?_) (fun h192 => ?_)
 refine D4 ?_
 (have hl1 := h14 (hik (by assumption)); obtain ⟨bx, ox, e, rfl, hl, hat, hre, hgb⟩ := hsl.kidTm hkl (i := 0) (by omega) (by omega); have hih := ih ks[0] (List.getElem_mem (by omega)) G e (hkk _ (List.getElem_mem (by omega))) (hkv (by assumption)) hre; refine sP (B5 (j := 0) rfl rfl rfl (by omega)) rfl rfl ?_)
 refine sL (A3 rfl rfl (hat _) hl) rfl rfl ?_
 refine H6 rfl (hih) rfl rfl ?_
 refine B7 ?_
 (have hbp : bp = false := (by cases hb : bp with | false => rfl | true => (have := hdis hb; have h9 : bi = true := (by assumption); rw [h9] at this; cases this)); refine ⟨rfl, congrArg Value.string ?_, rfl⟩; rw [hvc hbp (hik (by assumption)) (by omega)])
 refine J5 ?_
 (refine ⟨rfl, congrArg Value.string ?_, rfl⟩; rw [hvf (by rintro (h | ⟨h1, h2⟩) <;> first | omega | exact Bool.noConfusion (h1.symm.trans (show bp = false by assumption)) | (have := (hpk h1).2; simp only [Ty.k] at this h2; omega)) (by cases hb : bp with | true => exact .inr rfl | false => exact .inl (by have := h5 (by omega) hb (by assumption); omega))]; rfl)
theorem B79 (e : Tm) (fuel : Int) (G : IM) (cells : List Value) (hcnt : D1 e ≤ 4294967296) (hr : B1 G e cells) : Fn Tryz.prog 37 [.agg ⟨cells⟩, .int .i64 fuel] [] G (B1A (O9 e fuel) G) := by
 have hRl := hr.len
 have hRo := hr.one
 have hno := @A5V e fuel
 have hyv := fun u t => @A5W e u t fuel
 have hyn := fun u t => @A5X e u t fuel
 refine C6 Tryz.func37 rfl Tryz.ntmps37 Tryz.results37 rfl ?_
 intro w0
 refine A4 ?_
 refine sE (C9 rfl rfl) rfl (fun b3 => ?_)
 refine B7 ?_
 refine sL (A3 rfl rfl (B6 (by repeat first | exact mH | apply mT)) hRl) rfl rfl ?_
 focus (refine E6 rfl (B1Z e G cells hcnt hr) rfl rfl (fun v G1 hle1 hh => ?_); obtain ⟨cu, ct, rfl, hru, hrt⟩ := hh; rcases hI : O8 e with _ | ⟨u, t⟩; rotate_left; rw [hI] at hru hrt; simp only [Option.getD_some] at hru hrt; have hgI := A2z hI; rotate_left; rw [hI] at hru hrt; simp only [Option.getD_none] at hru hrt; simp only [Option.isSome]; rotate_left; simp only [Option.isSome]; rotate_left; all_goals (have hul := hru.len; have huo := hru.one; obtain ⟨p3, c3, e3, rfl, _⟩ := hrt.open))
 refine B4 ?_
 refine sE (A9 rfl) rfl (fun b17 => ?_)
 refine sE (A9 rfl) rfl (fun b18 => ?_)
 refine sS rfl rfl rfl hul huo rfl ?_ (hu := by exact E0 hul.symm)
 refine A0E ?_
 refine D3 (rT rfl) (rT rfl) (rT rfl) ?_
 (exact ⟨rfl, by rw [hno (by first | exact hI | rfl | assumption)]⟩)
 refine B4 ?_
 refine sE (A9 rfl) rfl (fun b47 => ?_)
 refine sE (A9 rfl) rfl (fun b48 => ?_)
 refine sS rfl rfl rfl hul huo rfl ?_ (hu := by exact E0 hul.symm)
 refine K0 ?_
 refine sL (A3 rfl rfl (B6 (by repeat first | exact mH | apply mT)) hul) rfl rfl ?_
 refine F8 ?_
 (have hyv := hyv u t hI; have hyn := hyn u t hI; have hev := @B1C u fuel; refine E6 rfl (B77 u fuel G1 cu (by have := A4j hgI.1; omega) hru) rfl rfl (fun v G2 hle2 hh => ?_); obtain ⟨wc, hvv, hrw⟩ := hh; have hwl := hrw.len; have hwo := hrw.one; generalize S9 u fuel = r at hvv hrw hyv hyn hev; obtain ⟨w, c, l⟩ := r; simp only at hvv hrw hyv hyn hev; subst hvv)
 refine B4 ?_
 refine sE (A9 rfl) rfl (fun b73 => ?_)
 refine sS rfl rfl rfl hwl hwo rfl ?_ (hu := by exact E0 hwl.symm)
 refine D4 ?_
 refine sB (N2 rfl rfl) rfl rfl (fun h83 => ?_) (fun h83 => ?_)
 refine J5 ?_
 refine D3 (rT rfl) (rT rfl) (rT rfl) ?_
 (exact ⟨rfl, by rw [hyn (by omega)]⟩)
 refine B7 ?_
 refine sL (A3 rfl rfl (B6 (by repeat first | exact mH | apply mT)) hwl) rfl rfl ?_
 (obtain ⟨he1, he2, he3⟩ := hev (by omega); refine H6 rfl (B78 w G2 wc (A03 he1).1 he2 hrw) rfl rfl ?_)
 refine B7 ?_
 refine D3 (rT rfl) (rT rfl) (rT rfl) ?_
 exact B1D
def B8a (r s : ByteArray × Int × Int) : Int := if r.2.1 = 2 then 2 else if r.2.1 ≠ 0 ∨ s.2.1 = 4 ∨ s.2.1 = 5 then 3 else if s.2.1 = 0 ∧ r.1 = s.1 then 1 else 4
def B9v (a b : Tm) (fuel : Int) : Int := if (A0d a).isSome = true ∧ A5I a b = true ∧ R7 fuel 0 300 = true then B8a (O9 a fuel) (O9 b fuel) else 0
def gxT : GX → ByteArray
 | .n n => B1n n
 | .b b => if b = true then txT else txF
 | .p => A7C
 | .f => A7D
theorem B8b {a u : Tm} {t : Ty} (h : O8 a = some (u, t)) : A0d a = some t := by unfold A0d; rw [h]
theorem A7V {k : Int} {nm : ByteArray} {num : Int} {ty fr : Ty} {lb : Int} {ks : List Tm} {j : Nat} {is : List Int} (h : j < ks.length) : S6 (.mk k nm num ty fr lb ks) ((j : Int) :: is) = S6 ks[j] is := by
 rw [S6, dif_pos ⟨by omega, by omega⟩]
 rfl
def U1 (t : Tm) (label : Int) (l : List Int) : Bool := match S6 t l with
 | some x => decide (x.k = 14 ∧ x.lb = label)
 | none => false
def A0e (t : Tm) (label : Int) : List Int × Bool := match (O1 t).find? (U1 t label) with
 | some l => (l, true)
 | none => ([], false)
theorem B8c {t : Tm} {label : Int} {i : Nat} (hi : i < (O1 t).length) (hno : ∀ j, j < i → ∀ h : j < (O1 t).length, U1 t label (O1 t)[j] = false) (hy : U1 t label (O1 t)[i] = true) : A0e t label = ((O1 t)[i], true) := by
 have : (O1 t).find? (U1 t label) = some (O1 t)[i] := by
  rw [List.find?_eq_some_iff_getElem]
  exact ⟨hy, i, hi, rfl, fun j hj => by rw [hno j hj (by omega)]; rfl⟩
 unfold A0e; rw [this]
theorem B11 {t : Tm} {label : Int} (hno : ∀ j, j < (O1 t).length → ∀ h : j < (O1 t).length, U1 t label (O1 t)[j] = false) : A0e t label = ([], false) := by
 have : (O1 t).find? (U1 t label) = none := by
  rw [List.find?_eq_none]
  intro x hx
  obtain ⟨j, hj, rfl⟩ := List.getElem_of_mem hx
  rw [hno j hj hj]; simp
 unfold A0e; rw [this]
theorem B12 {t : Tm} {label : Int} {i : Nat} (hno : ∀ j, j < i → ∀ h : j < (O1 t).length, U1 t label (O1 t)[j] = false) (hi : i < (O1 t).length) (hn : U1 t label (O1 t)[i] = false) : ∀ j, j < i + 1 → ∀ h : j < (O1 t).length, U1 t label (O1 t)[j] = false := by
 intro j hj h
 rcases Nat.lt_or_ge j i with hlt | hge
 ·exact hno j hlt h
 ·obtain rfl : j = i := by omega
  exact hn
theorem B8d {t : Tm} {label : Int} {l : List Int} {x : Tm} (h : S6 t l = some x) (h1 : x.k = 14) (h2 : x.lb = label) : U1 t label l = true := by
 unfold U1; rw [h]; exact decide_eq_true ⟨h1, h2⟩
theorem B8e {t : Tm} {label : Int} {l : List Int} {x : Tm} (h : S6 t l = some x) (h1 : ¬ (x.k = 14 ∧ x.lb = label)) : U1 t label l = false := by
 unfold U1; rw [h]; exact decide_eq_false h1
theorem B8f {t : Tm} {label : Int} {l : List Int} (h : S6 t l = none) : U1 t label l = false := by
 unfold U1; rw [h]
def SP1 (G : IM) (l : List Int) (p : Option Addr) (c : Nat) : Prop := Sl G p l.length c 1 (S5 l) ∧ ∀ b ∈ I2 p, G b ≠ none
theorem R8.get1 {G : IM} : ∀ {ls : List (List Int)} {es : List Value} {F : List Nat}, R8 G ls es F → ∀ {i : Nat} (hi : i < ls.length), ∃ p c, es[i]? = some (.slice p ls[i].length c) ∧ SP1 G ls[i] p c
 | [], es, F, h, i, hi => by simp at hi
 | l :: ls, es, F, ⟨p, c, r, Fr, h1, h2, h3, h4, h5, h6⟩, i, hi => by
  subst h1
  cases i with
  | zero => exact ⟨p, c, rfl, h3, h4⟩
  | succ i => simpa using h6.get1 (i := i) (by simpa using hi)
def CpP (t : Tm) (label : Int) (G : IM) : IM → Value → List A6 → Prop := K8 fun G' v => ∃ p c, v = .tuple ⟨[.slice p (A0e t label).1.length c, .bool (A0e t label).2]⟩ ∧ SP1 (C2 G' G) (A0e t label).1 p c
theorem CpP.mk {t : Tm} {label : Int} {G G' : IM} {l : List Int} {b : Bool} {p : Option Addr} {c : Nat} (h : A0e t label = (l, b)) (hs : SP1 (C2 G' G) l p c) : CpP t label G G' (.tuple ⟨[.slice p l.length c, .bool b]⟩) [] := by
 refine ⟨rfl, p, c, ?_, ?_⟩
 ·rw [h]
 ·rw [h]; exact hs
theorem SP1.nil (G : IM) : SP1 G [] none 0 := ⟨Sl.nil G 1, by simp [I2]⟩
theorem A7W {Q : Prop} (h : Q := by exact CpP.mk (B8c (by omega) hno (B8d hx (by assumption) (by assumption))) hs3) : Q := h
theorem A3Z {Q : Prop} (h : Q := by exact ⟨by omega, B12 hno (by omega) (B8e hx (by omega))⟩) : Q := h
theorem A7X {Q : Prop} (h : Q := by exact ⟨by omega, B12 hno (by omega) (B8f hx)⟩) : Q := h
theorem B8g (t : Tm) (label : Int) (G : IM) (cells : List Value) (hr : B1 G t cells) :
  Fn Tryz.prog 54 [.agg ⟨cells⟩, .int .i64 label] [] G (CpP t label G) := by
 have hl := hr.len
 have hI := B4v t G cells hr
 refine C6 Tryz.func54 rfl Tryz.ntmps54 Tryz.results54 rfl ?_
 intro w0
 refine A4 ?_
 refine sE (C9 rfl rfl) rfl (fun b3 => ?_)
 refine B7 ?_
 refine sL (A3 rfl rfl (B6 (by repeat first | exact mH | apply mT)) (by assumption)) rfl rfl ?_
 (refine E6 rfl hI rfl rfl (fun v1 G1 hle1 hh => ?_); obtain ⟨p1, c1, rfl, es1, F1, hp1, hb1, hq1, hd1⟩ := hh; have hn1 := hp1.le; have hr1 := hr.mono hle1; have hp1' := hp1.mono (C2.le G1 G))
 refine B4 ?_
 refine C5 (K2 (fun (i : Nat) => ⟨[(13, .int .i64 i), (12, .int .i64 (O1 t).length), (11, .slice p1 (O1 t).length c1), (2, .pointer (some ⟨b3, 0, none⟩)), (1, .int .i64 label)], [.blk b3 cells], G1⟩) (fun i => i ≤ (O1 t).length ∧ ∀ j, j < i → ∀ h : j < (O1 t).length, U1 t label (O1 t)[j] = false) (fun i => (O1 t).length - i) 0 ?_ ?_ ?_)
 exact D6
 exact ⟨Nat.zero_le _, fun j hj => absurd hj (by omega)⟩
 (rintro i ⟨hi, hno⟩)
 refine A4 ?_
 refine sB (J4 rfl rfl) rfl rfl (fun h24 => ?_) (fun h24 => ?_)
 refine B7 ?_
 refine C5 ?_
 refine A4 ?_
 (obtain ⟨b, o, v, rfl, hv, hatc, hgb⟩ := hp1'.kid (i := i) (by omega); obtain ⟨p3, c3, hv3, hs3⟩ := hq1.get1 (i := i) (by omega); rw [hv3] at hv; obtain rfl := Option.some.inj hv; refine sP (B5 rfl rfl rfl (by omega)) rfl rfl ?_)
 refine sL (W4 rfl rfl (hatc _)) rfl rfl ?_
 refine B0 ?_
 refine sL (A3 rfl rfl (B6 (by repeat first | exact mH | apply mT)) (by assumption)) rfl rfl ?_
 refine F8 ?_
 (refine A0Y rfl (A9K t (O1 t)[i] G1 cells p3 c3 hr1 (hs3.1.mono (C2.le _ _))) rfl rfl (fun v44 G44 outs44 hle44 h44 => ?_); obtain ⟨hG, rfl, hh⟩ := h44; replace hG := hG.symm; subst hG; rcases hh with ⟨x, cx, hx, hrx, rfl⟩ | ⟨hx, rfl⟩ <;> (first | obtain ⟨pt, ct, et, pf, cf, ef, pk, ck, ek, rfl, hxk, hxn, hxl, _⟩ := hrx.open | skip))
 refine B9 ?_
 refine sE (A9 rfl) rfl (fun b48 => ?_)
 refine D4 ?_
 refine sB (qE rfl rfl) rfl rfl (fun h57 => ?_) (fun h57 => ?_)
 refine B4 ?_
 refine sB (qE rfl rfl) rfl rfl (fun h62 => ?_) (fun h62 => ?_)
 refine S4 ?_
 refine H5 (rT rfl) (rT rfl) ?_
 exact A7W
 refine D4 ?_
 refine sP (H9 rfl rfl (by omega) (by omega)) rfl rfl ?_
 refine A4 ?_
 (refine I5 (i + 1) ?_ ?_ ?_)
 exact D6
 exact A3Z
 omega
 refine K4 ?_
 refine sP (H9 rfl rfl (by omega) (by omega)) rfl rfl ?_
 refine A4 ?_
 (refine I5 (i + 1) ?_ ?_ ?_)
 exact D6
 exact A3Z
 omega
 refine B9 ?_
 refine sE (A9 rfl) rfl (fun b120 => ?_)
 refine D4 ?_
 refine sP (I9 rfl rfl (by omega)) rfl rfl ?_
 refine K4 ?_
 refine sP (H9 rfl rfl (by omega) (by omega)) rfl rfl ?_
 refine A4 ?_
 (refine I5 (i + 1) ?_ ?_ ?_)
 exact D6
 exact A7X
 omega
 refine K0 ?_
 refine H5 (rT rfl) (rT rfl) ?_
 (obtain rfl : i = (O1 t).length := (by omega); exact CpP.mk (l := []) (B11 hno) (SP1.nil _))
theorem B8h (t : Tm) (label : Int) (G : IM) (cells : List Value) (hcnt : D1 t ≤ 4294967296) (hr : B1 G t cells) :
  Fn Tryz.prog 56 [.agg ⟨cells⟩, .int .i64 label] [] G (CpP t label G) := by
 have hl := hr.len
 have hI := B4x t G cells hcnt hr
 refine C6 Tryz.func56 rfl Tryz.ntmps56 Tryz.results56 rfl ?_
 intro w0
 refine A4 ?_
 refine sE (C9 rfl rfl) rfl (fun b3 => ?_)
 refine A8 ?_
 refine sL (A3 rfl rfl (B6 (by repeat first | exact mH | apply mT)) (by assumption)) rfl rfl ?_
 (refine E6 rfl hI rfl rfl (fun v1 G1 hle1 hh => ?_); obtain ⟨p1, c1, rfl, es1, F1, hp1, hb1, hq1, hd1⟩ := hh; have hn1 := hp1.le; have hr1 := hr.mono hle1; have hp1' := hp1.mono (C2.le G1 G))
 refine E1 ?_
 refine C5 (K2 (fun (i : Nat) => ⟨[(7, .int .i64 i), (6, .slice p1 (O1 t).length c1), (2, .pointer (some ⟨b3, 0, none⟩)), (1, .int .i64 label)], [.blk b3 cells], G1⟩) (fun i => i ≤ (O1 t).length ∧ ∀ j, j < i → ∀ h : j < (O1 t).length, U1 t label (O1 t)[j] = false) (fun i => (O1 t).length - i) 0 ?_ ?_ ?_)
 exact D6
 exact ⟨Nat.zero_le _, fun j hj => absurd hj (by omega)⟩
 (rintro i ⟨hi, hno⟩)
 refine A8 ?_
 refine sB (J4 rfl rfl) rfl rfl (fun h32 => ?_) (fun h32 => ?_)
 refine A8 ?_
 refine C5 ?_
 refine tS ?_
 (obtain ⟨b, o, v, rfl, hv, hatc, hgb⟩ := hp1'.kid (i := i) (by omega); obtain ⟨p3, c3, hv3, hs3⟩ := hq1.get1 (i := i) (by omega); rw [hv3] at hv; obtain rfl := Option.some.inj hv; refine D7 D8 rfl ?_)
 refine L3 (i := 0) (l' := [tt,ff,ff,ff,ff,ff,ff,ff,ff,ff,ff,ff]) rfl D2 (A3 rfl rfl (B6 (by repeat first | exact mH | apply mT)) (by assumption)) rfl (by kernel_rfl) rfl rfl ?_
 refine aP 1 rfl (qM rfl) rfl ?_
 refine aP 2 rfl (qM rfl) rfl ?_
 refine aP 3 rfl (B5 rfl rfl rfl (by omega)) rfl ?_
 refine aL 4 rfl (W4 rfl rfl (hatc _)) rfl ?_
 refine Q3 (j := 5) (j' := 9) (by kernel_rfl) ?_ ?_
 (refine A3v rfl rfl (A9M t (O1 t)[i] G1 cells p3 c3 hr1 (hs3.1.mono (C2.le _ _))) rfl rfl rfl (fun v48 G48 outs48 hle48 h48 => ?_); obtain ⟨hG, rfl, hh⟩ := h48; replace hG := hG.symm; subst hG; rcases hh with ⟨x, cx, hx, hrx, rfl⟩ | ⟨hx, rfl⟩ <;> (first | obtain ⟨pt, ct, et, pf, cf, ef, pk, ck, ek, rfl, hxk, hxn, hxl, _⟩ := hrx.open | skip))
 refine aP 6 rfl (qM rfl) rfl ?_
 refine aP 7 rfl (pX rfl rfl) rfl ?_
 refine aP 8 rfl (pX rfl rfl) rfl ?_
 refine A2 9 ?_
 (refine E2 rfl (A9 rfl) rfl rfl ?_; rintro _ ⟨b53, rfl⟩)
 refine A2 10 ?_
 refine Q8 rfl rfl rfl rfl rfl rfl rfl rfl (by kernel_rfl) (by repeat first | exact Sw.here | apply Sw.there) (by rfl) ?_
 refine aP 11 rfl (qA rfl) rfl ?_
 refine A8 ?_
 refine sB (qE rfl rfl) rfl rfl (fun h63 => ?_) (fun h63 => ?_)
 refine B4 ?_
 refine sB (qE rfl rfl) rfl rfl (fun h68 => ?_) (fun h68 => ?_)
 refine D4 ?_
 refine sP (B5 rfl rfl rfl (by omega)) rfl rfl ?_
 refine sL (W4 rfl rfl (hatc _)) rfl rfl ?_
 refine J2 ?_
 refine H5 (rT rfl) (rT rfl) ?_
 exact A7W
 refine E1 ?_
 refine sP (H9 rfl rfl (by omega) (by omega)) rfl rfl ?_
 refine A4 ?_
 (refine I5 (i + 1) ?_ ?_ ?_)
 exact D6
 exact A3Z
 omega
 refine J5 ?_
 refine sP (H9 rfl rfl (by omega) (by omega)) rfl rfl ?_
 refine A4 ?_
 (refine I5 (i + 1) ?_ ?_ ?_)
 exact D6
 exact A3Z
 omega
 refine aP 6 rfl (qM rfl) rfl ?_
 refine aP 7 rfl (pX rfl rfl) rfl ?_
 refine aP 8 rfl (pX rfl rfl) rfl ?_
 refine A2 9 ?_
 (refine E2 rfl (A9 rfl) rfl rfl ?_; rintro _ ⟨b132, rfl⟩)
 refine A2 10 ?_
 refine Q8 rfl rfl rfl rfl rfl rfl rfl rfl (by kernel_rfl) (by repeat first | exact Sw.here | apply Sw.there) (by rfl) ?_
 refine aP 11 rfl (qA rfl) rfl ?_
 refine A8 ?_
 refine sP (I9 rfl rfl (by omega)) rfl rfl ?_
 refine J5 ?_
 refine sP (H9 rfl rfl (by omega) (by omega)) rfl rfl ?_
 refine A4 ?_
 (refine I5 (i + 1) ?_ ?_ ?_)
 exact D6
 exact A7X
 omega
 (refine E2 rfl (A9 rfl) rfl rfl ?_; rintro _ ⟨b164, rfl⟩)
 refine A2 5 ?_
 (refine A3v rfl rfl (A9M t (O1 t)[i] G1 cells p3 c3 hr1 (hs3.1.mono (C2.le _ _))) rfl rfl rfl (fun v166 G166 outs166 hle166 h166 => ?_); obtain ⟨hG, rfl, hh⟩ := h166; replace hG := hG.symm; subst hG; rcases hh with ⟨x, cx, hx, hrx, rfl⟩ | ⟨hx, rfl⟩ <;> (first | obtain ⟨pt, ct, et, pf, cf, ef, pk, ck, ek, rfl, hxk, hxn, hxl, _⟩ := hrx.open | skip))
 refine aP 6 rfl (qM rfl) rfl ?_
 refine aP 7 rfl (pX rfl rfl) rfl ?_
 refine aP 8 rfl (pX rfl rfl) rfl ?_
 refine A2 10 ?_
 refine Q8 rfl rfl rfl rfl rfl rfl rfl rfl (by kernel_rfl) (by repeat first | exact Sw.here | apply Sw.there) (by rfl) ?_
 refine aP 11 rfl (qA rfl) rfl ?_
 refine A8 ?_
 refine sB (qE rfl rfl) rfl rfl (fun h179 => ?_) (fun h179 => ?_)
 refine B4 ?_
 refine sB (qE rfl rfl) rfl rfl (fun h184 => ?_) (fun h184 => ?_)
 refine D4 ?_
 refine sP (B5 rfl rfl rfl (by omega)) rfl rfl ?_
 refine sL (W4 rfl rfl (hatc _)) rfl rfl ?_
 refine J2 ?_
 refine H5 (rT rfl) (rT rfl) ?_
 exact A7W
 refine E1 ?_
 refine sP (H9 rfl rfl (by omega) (by omega)) rfl rfl ?_
 refine A4 ?_
 (refine I5 (i + 1) ?_ ?_ ?_)
 exact D6
 exact A3Z
 omega
 refine J5 ?_
 refine sP (H9 rfl rfl (by omega) (by omega)) rfl rfl ?_
 refine A4 ?_
 (refine I5 (i + 1) ?_ ?_ ?_)
 exact D6
 exact A3Z
 omega
 refine aP 6 rfl (qM rfl) rfl ?_
 refine aP 7 rfl (pX rfl rfl) rfl ?_
 refine aP 8 rfl (pX rfl rfl) rfl ?_
 refine A2 10 ?_
 refine Q8 rfl rfl rfl rfl rfl rfl rfl rfl (by kernel_rfl) (by repeat first | exact Sw.here | apply Sw.there) (by rfl) ?_
 refine aP 11 rfl (qA rfl) rfl ?_
 refine A8 ?_
 refine sP (I9 rfl rfl (by omega)) rfl rfl ?_
 refine J5 ?_
 refine sP (H9 rfl rfl (by omega) (by omega)) rfl rfl ?_
 refine A4 ?_
 (refine I5 (i + 1) ?_ ?_ ?_)
 exact D6
 exact A7X
 omega
 refine J2 ?_
 (refine I3 (D0 rfl rfl rfl (by omega) (by unfold maxLen; omega) rfl) rfl ?_; rintro _ ⟨b288, rfl⟩)
 refine B4 ?_
 (refine H2 (by repeat (first | exact Pk.here | apply Pk.there)) (fun G3 hle3 hsl3 hno3 => ?_))
 refine tT ?_
 refine H5 (rT rfl) (rT rfl) ?_
 (obtain rfl : i = (O1 t).length := (by omega); exact CpP.mk (l := []) (B11 hno) ⟨hsl3.dif (fun b hb => (hno3 b hb).1) hle1, fun b hb => A5e hle1 (hno3 b hb)⟩)
mutual
def O3 : Tm → List Tm
 | .mk k nm num ty fr lb ks => (if k = 14 then [.mk k nm num ty fr lb ks] else []) ++ L8 ks
def L8 : List Tm → List Tm
 | [] => []
 | t :: ts => O3 t ++ L8 ts
end
mutual
theorem B13 : ∀ (t : Tm) (a b : List Int), V9 t (a ++ b) = (V9 t b).map (a ++ ·)
 | .mk k nm num ty fr lb ks, a, b => by rw [V9, V9, List.map_cons, B14 ks 0 a b]
theorem B14 : ∀ (ts : List Tm) (i : Nat) (a b : List Int), W0 ts i (a ++ b) = (W0 ts i b).map (a ++ ·)
 | [], i, a, b => by rw [W0, W0, List.map_nil]
 | t :: ts, i, a, b => by rw [W0, W0, List.map_append, List.append_assoc, B13 t a, B14 ts _ a b]
end
def A08 (label : Int) (x : Tm) : Bool := decide (x.lb = label)
def B15 (t : Tm) (label : Int) : Prop := ((O3 t).find? (A08 label) = none → (V9 t []).find? (U1 t label) = none) ∧ (∀ x, (O3 t).find? (A08 label) = some x → ∃ l, (V9 t []).find? (U1 t label) = some l ∧ S6 t l = some x)
theorem B8i {k : Int} {nm : ByteArray} {num : Int} {ty fr : Ty} {lb : Int} {ks : List Tm} {label : Int} {j : Nat} {s : List Int} (h : j < ks.length) : U1 (.mk k nm num ty fr lb ks) label ((j : Int) :: s) = U1 ks[j] label s := by
 unfold U1; rw [A7V h]
mutual
theorem B16 : ∀ (t : Tm) (label : Int), B15 t label
 | .mk k nm num ty fr lb ks, label => by
  have hL := B17 ks label 0 (U1 (.mk k nm num ty fr lb ks) label) (fun j hj s => by rw [Nat.zero_add]; exact B8i hj)
  have h0 : U1 (.mk k nm num ty fr lb ks) label [] = decide (k = 14 ∧ lb = label) := by unfold U1; rw [A4u]; rfl
  unfold B15
  rw [O3, V9, List.find?_append, List.find?_cons, h0]
  by_cases hk : k = 14
  ·rw [if_pos hk]
   by_cases hl : lb = label
   ·have e1 : [Tm.mk k nm num ty fr lb ks].find? (A08 label) = some (.mk k nm num ty fr lb ks) := by
     rw [List.find?_cons, show A08 label (.mk k nm num ty fr lb ks) = true from decide_eq_true hl]
    rw [e1, decide_eq_true ⟨hk, hl⟩]
    exact ⟨fun h => by simp at h, fun x hx => ⟨[], rfl, by simp at hx; rw [A4u, hx]⟩⟩
   ·have e1 : [Tm.mk k nm num ty fr lb ks].find? (A08 label) = none := by
     rw [List.find?_cons, show A08 label (.mk k nm num ty fr lb ks) = false from decide_eq_false hl, List.find?_nil]
    rw [e1, decide_eq_false (fun h => hl h.2), Option.none_or]
    refine ⟨hL.1, fun x hx => ?_⟩
    obtain ⟨j, s, hj, h1, h2⟩ := hL.2 x hx
    rw [Nat.zero_add] at h1
    exact ⟨_, h1, by rw [A7V hj]; exact h2⟩
  ·rw [if_neg hk, decide_eq_false (fun h => hk h.1), List.find?_nil, Option.none_or]
   refine ⟨hL.1, fun x hx => ?_⟩
   obtain ⟨j, s, hj, h1, h2⟩ := hL.2 x hx
   rw [Nat.zero_add] at h1
   exact ⟨_, h1, by rw [A7V hj]; exact h2⟩
theorem B17 : ∀ (ts : List Tm) (label : Int) (i : Nat) (P : List Int → Bool), (∀ j (hj : j < ts.length) s, P (((i + j : Nat) : Int) :: s) = U1 ts[j] label s) →
  ((L8 ts).find? (A08 label) = none → (W0 ts i []).find? P = none) ∧ (∀ x, (L8 ts).find? (A08 label) = some x → ∃ j s, ∃ hj : j < ts.length, (W0 ts i []).find? P = some (((i + j : Nat) : Int) :: s) ∧ S6 ts[j] s = some x)
 | [], label, i, P, hP => by
  rw [L8, W0]
  exact ⟨fun _ => rfl, fun x hx => by simp at hx⟩
 | t :: ts, label, i, P, hP => by
  obtain ⟨a1, a2⟩ := B16 t label
  obtain ⟨b1, b2⟩ := B17 ts label (i + 1) P (fun j hj s => by
   have := hP (j + 1) (by simpa using hj) s
   rw [show i + 1 + j = i + (j + 1) by omega]
   simpa using this)
  have hf : (P ∘ fun s => [(i : Int)] ++ s) = U1 t label := by
   funext s
   have := hP 0 (by simp) s
   simpa using this
  have hm : (V9 t ([] ++ [(i : Int)])).find? P = ((V9 t []).find? (U1 t label)).map (fun s => [(i : Int)] ++ s) := by
   have := B13 t [(i : Int)] []
   rw [List.append_nil] at this
   rw [List.nil_append, this, List.find?_map, hf]
  rw [L8, W0, List.find?_append, List.find?_append, hm]
  cases hc : (O3 t).find? (A08 label) with
  | none =>
   rw [a1 hc, Option.map_none, Option.none_or, Option.none_or]
   refine ⟨b1, fun x hx => ?_⟩
   obtain ⟨j, s, hj, h1, h2⟩ := b2 x hx
   exact ⟨j + 1, s, by simpa using hj, by rw [h1, show i + 1 + j = i + (j + 1) by omega], by simpa using h2⟩
  | some y =>
   obtain ⟨l, h1, h2⟩ := a2 y hc
   rw [h1]
   refine ⟨fun h => by simp at h, fun x hx => ?_⟩
   simp at hx
   subst hx
   exact ⟨0, l, by simp, by simp, by simpa using h2⟩
end
def B18 (label : Int) : List Tm → List Ty
 | [] => []
 | c :: cs => (if c.lb = label then [c.fr, c.ty] else []) ++ B18 label cs
def B9w (t : Tm) (label : Int) : List Ty := if M5 t = true then B18 label (O3 t) else []
mutual
def P8 : GT → GT → Bool
 | _, .any => true
 | .fn a b, .fn c d => L9 c a && P8 b d
 | .pr a b, .pr c d => P8 a c && P8 b d
 | .int, .int => true
 | .bool, .bool => true
 | _, _ => false
termination_by a b => SizeOf.sizeOf a + SizeOf.sizeOf b
def L9 : GT → GT → Bool
 | .any, _ => true
 | .fn a b, .any => P8 .any a && L9 b .any
 | .pr a b, .any => L9 a .any && L9 b .any
 | .int, .any => true
 | .bool, .any => true
 | .fn a b, .fn c d => P8 c a && L9 b d
 | .pr a b, .pr c d => L9 a c && L9 b d
 | .int, .int => true
 | .bool, .bool => true
 | _, _ => false
termination_by a b => SizeOf.sizeOf a + SizeOf.sizeOf b
end
theorem A2B (a : GT) : P8 a .any = true := by rw [P8.eq_def]
theorem A1K (a : GT) : L9 .any a = true := by rw [L9.eq_def]
theorem A7Y {b : GT} (h : b ≠ .any) : P8 .any b = false := by rw [P8.eq_def]; cases b <;> first | exact absurd rfl h | rfl
theorem B19 (a b c d : GT) : P8 (.fn a b) (.fn c d) = (L9 c a && P8 b d) := by rw [P8.eq_def]
theorem B2a (a b c d : GT) : P8 (.pr a b) (.pr c d) = (P8 a c && P8 b d) := by rw [P8.eq_def]
theorem A7Z (a b c d : GT) : L9 (.fn a b) (.fn c d) = (P8 c a && L9 b d) := by rw [L9.eq_def]
theorem A70 (a b c d : GT) : L9 (.pr a b) (.pr c d) = (L9 a c && L9 b d) := by rw [L9.eq_def]
theorem B8j (a : GT) : P8 a a.gr = true := by
 cases a with
 | any => exact A2B _
 | int => rw [GT.gr, P8.eq_def]
 | bool => rw [GT.gr, P8.eq_def]
 | fn a b => rw [GT.gr, B19, A1K, A2B]; rfl
 | pr a b => rw [GT.gr, B2a, A2B, A2B]; rfl
theorem B2b (a : GT) : L9 a a.gr = L9 a .any := by
 cases a with
 | any => rfl
 | int => rw [GT.gr, L9.eq_def, L9.eq_def]
 | bool => rw [GT.gr, L9.eq_def, L9.eq_def]
 | fn a b => rw [GT.gr, A7Z]; conv => rhs; rw [L9.eq_def]
 | pr a b => rw [GT.gr, A70]; conv => rhs; rw [L9.eq_def]
theorem B8k (a : GT) : L9 a.gr .any = true := by
 cases a with
 | any => exact A1K _
 | int => rw [GT.gr, L9.eq_def]
 | bool => rw [GT.gr, L9.eq_def]
 | fn a b => rw [GT.gr, L9.eq_def]; simp only [A2B, A1K]; rfl
 | pr a b => rw [GT.gr, L9.eq_def]; simp only [A1K]; rfl
theorem B8l (b : GT) : L9 b.gr b = true := by
 cases b with
 | any => exact A1K _
 | int => rw [GT.gr, L9.eq_def]
 | bool => rw [GT.gr, L9.eq_def]
 | fn a b => rw [GT.gr, A7Z, A2B, A1K]; rfl
 | pr a b => rw [GT.gr, A70, A1K, A1K]; rfl
def GQ (Q : GT → GT → Int → Prop) : GE → Prop
 | .var _ => True
 | .num _ => True
 | .tru _ => True
 | .lam _ _ e => GQ Q e
 | .app f a => GQ Q f ∧ GQ Q a
 | .ar _ a b => GQ Q a ∧ GQ Q b
 | .ite c a b => GQ Q c ∧ GQ Q a ∧ GQ Q b
 | .pair a b => GQ Q a ∧ GQ Q b
 | .part _ e => GQ Q e
 | .cast A B l e => Q A B l ∧ GQ Q e
theorem GQ.sub {Q : GT → GT → Int → Prop} {x : ByteArray} {v : GE} (hv : GQ Q v) : ∀ e : GE, GQ Q e → GQ Q (e.sub x v) := by
 intro e
 induction e with
 | var y => intro h; rw [GE.sub]; split; exact hv; exact h
 | num n => intro h; exact h
 | tru b => intro h; exact h
 | lam y A e i => intro h; rw [GE.sub]; split; exact h; exact i h
 | app f a i j => intro h; exact ⟨i h.1, j h.2⟩
 | ar s a b i j => intro h; exact ⟨i h.1, j h.2⟩
 | ite c a b i j k => intro h; exact ⟨i h.1, j h.2.1, k h.2.2⟩
 | pair a b i j => intro h; exact ⟨i h.1, j h.2⟩
 | part s e i => intro h; exact i h
 | cast A B l e i => intro h; exact ⟨h.1, i h.2⟩
structure Clo (Q : GT → GT → Int → Prop) : Prop where
 fn : ∀ {a b c d l}, Q (.fn a b) (.fn c d) l → Q c a (-l) ∧ Q b d l
 pr : ∀ {a b c d l}, Q (.pr a b) (.pr c d) l → Q a c l ∧ Q b d l
 up : ∀ {A l}, A ≠ .any → Q A .any l → Q A.gr .any l ∧ Q A A.gr l
 down : ∀ {B l}, B ≠ .any → Q .any B l → Q B.gr B l ∧ Q .any B.gr l
theorem GQ.step {Q : GT → GT → Int → Prop} (hC : Clo Q) {e r : GE} (h : GS e r) : GQ Q e → GQ Q r := by
 induction h with
 | app1 _ i => exact fun h => ⟨i h.1, h.2⟩
 | app2 _ _ i => exact fun h => ⟨h.1, i h.2⟩
 | ar1 _ i => exact fun h => ⟨i h.1, h.2⟩
 | ar2 _ _ i => exact fun h => ⟨h.1, i h.2⟩
 | ite1 _ i => exact fun h => ⟨i h.1, h.2⟩
 | pair1 _ i => exact fun h => ⟨i h.1, h.2⟩
 | pair2 _ _ i => exact fun h => ⟨h.1, i h.2⟩
 | part1 _ i => exact fun h => i h
 | cast1 _ i => exact fun h => ⟨h.1, i h.2⟩
 | beta _ => exact fun h => GQ.sub h.2 _ h.1
 | appx _ _ => exact fun h => ⟨(hC.fn h.1.1).2, h.1.2, (hC.fn h.1.1).1, h.2⟩
 | @ar s m n => intro _; unfold A5i; split <;> trivial
 | @ite b x y => intro h; cases b; exact h.2.2; exact h.2.1
 | @part s a b _ => intro h; cases s; exact h.1; exact h.2
 | @partx s a b c d l e _ => intro h; cases s; exact ⟨(hC.pr h.1).1, h.2⟩; exact ⟨(hC.pr h.1).2, h.2⟩
 | cid _ _ => exact fun h => h.2
 | up _ hA _ => exact fun h => ⟨(hC.up hA h.1).1, (hC.up hA h.1).2, h.2⟩
 | down _ hB _ => exact fun h => ⟨(hC.down hB h.1).1, (hC.down hB h.1).2, h.2⟩
 | hit _ _ => exact fun h => h.2.2
theorem A2C {k : Int} {ty fr : Ty} {lb : Int} {ks : List Tm} (h : (M7 k ty fr lb ks).2.1 = 2) : k = 14 ∧ (M7 k ty fr lb ks).2.2 = lb ∧ fr.k ≠ ty.k ∧ ty.k ≠ 1 := by
 unfold M7 at h ⊢
 by_cases h6 : k = 6
 ·rw [if_pos h6] at h; (repeat' split at h) <;> cases h
 rw [if_neg h6] at h ⊢
 by_cases h7 : k = 7 ∨ k = 8
 ·rw [if_pos h7] at h; split at h <;> cases h
 rw [if_neg h7] at h ⊢
 by_cases h9 : k = 9
 ·rw [if_pos h9] at h; (repeat' split at h) <;> cases h
 rw [if_neg h9] at h ⊢
 by_cases h11 : k = 11 ∨ k = 12
 ·rw [if_pos h11] at h; (repeat' split at h) <;> cases h
 rw [if_neg h11] at h ⊢
 by_cases h14 : k = 14
 ·rw [if_pos h14] at h ⊢
  by_cases e1 : fr.k = ty.k
  ·rw [if_pos e1] at h; cases h
  rw [if_neg e1] at h ⊢
  by_cases e2 : ty.k = 1
  ·rw [if_pos e2] at h; cases h
  rw [if_neg e2] at h ⊢
  by_cases e3 : R9 ty = false
  ·rw [if_pos e3] at h; cases h
  rw [if_neg e3] at h ⊢
  by_cases e4 : inj (kd ks 0) = false
  ·rw [if_pos e4] at h; cases h
  rw [if_neg e4] at h ⊢
  by_cases e5 : (kd ks 0).fr.k = ty.k
  ·rw [if_pos e5] at h; cases h
  rw [if_neg e5] at h ⊢
  exact ⟨h14, rfl, e1, e2⟩
 ·rw [if_neg h14] at h; cases h
theorem B2c : ∀ (n : Nat) (ks us : List Tm) (c l : Int), T9 n ks = some (us, c, l) → ∃ t ∈ ks, (F0 t).2.1 = c ∧ (F0 t).2.2 = l
 | n, [], us, c, l, h => by rw [T9] at h; cases h
 | 0, t :: ts, us, c, l, h => by rw [T9] at h; cases h
 | n + 1, t :: ts, us, c, l, h => by
  rw [T9] at h
  split at h
  ·split at h
   ·rename_i us' c' l' h'
    obtain ⟨t', h1, h2, h3⟩ := B2c n ts us' c' l' h'
    cases h
    exact ⟨t', List.mem_cons_of_mem _ h1, h2, h3⟩
   ·cases h
  ·cases h
   exact ⟨t, List.mem_cons_self, rfl, rfl⟩
theorem A2D {k : Int} {nm : ByteArray} {num : Int} {ty fr : Ty} {lb : Int} {ks : List Tm} (h : (F0 (.mk k nm num ty fr lb ks)).2.1 = 2) :
  (∃ t ∈ ks, (F0 t).2.1 = 2 ∧ (F0 t).2.2 = (F0 (.mk k nm num ty fr lb ks)).2.2) ∨ ((M7 k ty fr lb ks).2.1 = 2 ∧ (M7 k ty fr lb ks).2.2 = (F0 (.mk k nm num ty fr lb ks)).2.2) := by
 rw [F0] at h ⊢
 split at h
 ·rename_i ks' c l hs
  obtain ⟨t, h1, h2, h3⟩ := B2c _ _ _ _ _ hs
  by_cases hc : c = 1
  ·rw [if_pos hc] at h; cases h
  ·rw [if_neg hc] at h ⊢
   exact .inl ⟨t, h1, h2.trans h, h3⟩
 ·exact .inr ⟨h, rfl⟩
theorem B8m {Q : GT → GT → Int → Prop} : ∀ (e : GE), cv e.tm → GQ Q e → (F0 e.tm).2.1 = 2 → ∃ B, B ≠ .any ∧ Q .any B (F0 e.tm).2.2 := by
 have leaf : ∀ {k : Int} {nm : ByteArray} {num : Int} {ty fr : Ty} {lb : Int}, k ≠ 14 → (F0 (.mk k nm num ty fr lb [])).2.1 ≠ 2 := by
  intro k nm num ty fr lb hk h
  rcases A2D h with ⟨t, ht, _⟩ | ⟨h2, _⟩
  ·cases ht
  ·exact hk (A2C h2).1
 intro e
 induction e with
 | var x => intro _ _ h; exact absurd h (leaf (by decide))
 | num n => intro _ _ h; exact absurd h (leaf (by decide))
 | tru b => intro _ _ h; exact absurd h (leaf (by cases b <;> decide))
 | lam x A e i =>
  intro hc hq h
  rw [GE.tm] at hc h ⊢
  rcases A2D h with ⟨t, ht, h1, h2⟩ | ⟨h2, _⟩
  ·obtain rfl := List.mem_singleton.1 ht
   rw [← h2]; exact i (hc.node.2 _ ht) hq h1
  ·exact absurd (A2C h2).1 (by decide)
 | app f a i j =>
  intro hc hq h
  rw [GE.tm] at hc h ⊢
  rcases A2D h with ⟨t, ht, h1, h2⟩ | ⟨h2, _⟩
  ·have hm := hc.node.2 t ht
   rw [← h2]
   simp only [List.mem_cons, List.not_mem_nil, or_false] at ht
   rcases ht with rfl | rfl
   ·exact i hm hq.1 h1
   ·exact j hm hq.2 h1
  ·exact absurd (A2C h2).1 (by decide)
 | ar s a b i j =>
  intro hc hq h
  rw [GE.tm] at hc h ⊢
  rcases A2D h with ⟨t, ht, h1, h2⟩ | ⟨h2, _⟩
  ·have hm := hc.node.2 t ht
   rw [← h2]
   simp only [List.mem_cons, List.not_mem_nil, or_false] at ht
   rcases ht with rfl | rfl
   ·exact i hm hq.1 h1
   ·exact j hm hq.2 h1
  ·exact absurd (A2C h2).1 (by cases s <;> decide)
 | ite c a b i j k =>
  intro hc hq h
  rw [GE.tm] at hc h ⊢
  rcases A2D h with ⟨t, ht, h1, h2⟩ | ⟨h2, _⟩
  ·have hm := hc.node.2 t ht
   rw [← h2]
   simp only [List.mem_cons, List.not_mem_nil, or_false] at ht
   rcases ht with rfl | rfl | rfl
   ·exact i hm hq.1 h1
   ·exact j hm hq.2.1 h1
   ·exact k hm hq.2.2 h1
  ·exact absurd (A2C h2).1 (by decide)
 | pair a b i j =>
  intro hc hq h
  rw [GE.tm] at hc h ⊢
  rcases A2D h with ⟨t, ht, h1, h2⟩ | ⟨h2, _⟩
  ·have hm := hc.node.2 t ht
   rw [← h2]
   simp only [List.mem_cons, List.not_mem_nil, or_false] at ht
   rcases ht with rfl | rfl
   ·exact i hm hq.1 h1
   ·exact j hm hq.2 h1
  ·exact absurd (A2C h2).1 (by decide)
 | part s e i =>
  intro hc hq h
  rw [GE.tm] at hc h ⊢
  rcases A2D h with ⟨t, ht, h1, h2⟩ | ⟨h2, _⟩
  ·obtain rfl := List.mem_singleton.1 ht
   rw [← h2]; exact i (hc.node.2 _ ht) hq h1
  ·exact absurd (A2C h2).1 (by cases s <;> decide)
 | cast A B l e i =>
  intro hc hq h
  rw [GE.tm] at hc h ⊢
  rcases A2D h with ⟨t, ht, h1, h2⟩ | ⟨h2, hl⟩
  ·obtain rfl := List.mem_singleton.1 ht
   rw [← h2]; exact i (hc.node.2 _ ht) hq.2 h1
  ·obtain ⟨_, e1, e2, e3⟩ := A2C h2
   have hB : B ≠ .any := fun hb => e3 (A0c.2 hb)
   rw [← hl, e1]
   have hco := (A0S A B).1 (hc.node.1.c14 rfl).1
   have : A = .any := by
    cases hco with
    | l => rfl
    | r => exact absurd rfl hB
    | int => exact absurd rfl e2
    | bool => exact absurd rfl e2
    | fn _ _ => exact absurd rfl e2
    | pr _ _ => exact absurd rfl e2
   subst this
   exact ⟨B, hB, hq.1⟩
theorem B8n {e : Tm} (h : (H4 e).2.1 = 2) : M5 e = true ∧ (F0 e).2.1 = 2 ∧ (H4 e).2.2 = (F0 e).2.2 := by
 unfold H4 at h ⊢
 by_cases h1 : M5 e = false
 ·rw [if_pos h1] at h; cases h
 rw [if_neg h1] at h ⊢
 have hv : M5 e = true := by cases hv : M5 e with | true => rfl | false => exact absurd hv h1
 by_cases h2 : E4 e = true
 ·rw [if_pos h2] at h; cases h
 rw [if_neg h2] at h ⊢
 by_cases h3 : (F0 e).2.1 ≠ 1
 ·rw [if_pos h3] at h ⊢; exact ⟨hv, h, rfl⟩
 rw [if_neg h3] at h
 split at h <;> cases h
theorem B8o {Q : GT → GT → Int → Prop} (hC : Clo Q) : ∀ (n : Nat) {e e' : GE} {A A' : GT}, GP Q0 e e' A A' → GQ Q e → (K3 n e.tm).2.1 = 2 → ∃ B, B ≠ .any ∧ Q .any B (K3 n e.tm).2.2.1 := by
 have fin : ∀ {e : GE}, GQ Q e → (H4 e.tm).2.1 = 2 → ∃ B, B ≠ .any ∧ Q .any B (H4 e.tm).2.2 := by
  intro e hq h
  obtain ⟨h1, h2, h3⟩ := B8n h
  rw [h3]
  exact B8m e (A03 h1).1 hq h2
 intro n
 induction n with
 | zero =>
  intro e e' A A' hp hq h
  rw [K3] at h ⊢
  by_cases h1 : (H4 e.tm).2.1 = 1
  ·rw [if_pos h1] at h; cases h
  ·rw [if_neg h1] at h ⊢; exact fin hq h
 | succ n ih =>
  intro e e' A A' hp hq h
  by_cases h1 : (H4 e.tm).2.1 = 1
  ·obtain ⟨_, hv, hs, he⟩ := B5d h1
   rcases B5c hp rfl with hv' | ⟨r, s⟩ | b
   ·rw [(X7 _).2 hv'] at hv; cases hv
   ·rw [B5e h1] at h ⊢
    have hr : (H4 e.tm).1 = r.tm := by rw [he, B47 s]
    rw [hr] at h ⊢
    obtain ⟨r', _, hp'⟩ := sim hp rfl s
    exact ih hp' (GQ.step hC s hq) h
   ·rw [b.2] at hs; cases hs
  ·rw [K3, if_neg h1] at h ⊢; exact fin hq h
def QL (m : Int) : GT → GT → Int → Prop := fun A B l => (l = m → P8 A B = true) ∧ (l = -m → L9 A B = true)
theorem B8p (m : Int) : Clo (QL m) := by
 refine ⟨?_, ?_, ?_, ?_⟩
 ·intro a b c d l ⟨h1, h2⟩
  rw [B19, Bool.and_eq_true] at h1
  rw [A7Z, Bool.and_eq_true] at h2
  exact ⟨⟨fun h => (h2 (by omega)).1, fun h => (h1 (by omega)).1⟩, fun h => (h1 h).2, fun h => (h2 h).2⟩
 ·intro a b c d l ⟨h1, h2⟩
  rw [B2a, Bool.and_eq_true] at h1
  rw [A70, Bool.and_eq_true] at h2
  exact ⟨⟨fun h => (h1 h).1, fun h => (h2 h).1⟩, fun h => (h1 h).2, fun h => (h2 h).2⟩
 ·intro A l _ ⟨_, h2⟩
  exact ⟨⟨fun _ => A2B _, fun _ => B8k _⟩, fun _ => B8j _, fun h => by rw [B2b]; exact h2 h⟩
 ·intro B l hB ⟨h1, _⟩
  refine ⟨⟨fun h => ?_, fun _ => B8l _⟩, fun h => ?_, fun _ => A1K _⟩
  ·have := h1 h; rw [A7Y hB] at this; cases this
  ·have := h1 h; rw [A7Y hB] at this; cases this
theorem B2d {Q : GT → GT → Int → Prop} : ∀ (e : GE), (∀ (A B : GT) (l : Int) (w : GE), (GE.cast A B l w).tm ∈ O3 e.tm → Q A B l) → GQ Q e := by
 intro e
 induction e with
 | var x => intro _; trivial
 | num n => intro _; trivial
 | tru b => intro _; trivial
 | lam x A e i => intro h; refine i fun A B l w hm => h A B l w ?_; rw [GE.tm, O3, L8, L8]; simpa using hm
 | app f a i j =>
  intro h
  refine ⟨i fun A B l w hm => h A B l w ?_, j fun A B l w hm => h A B l w ?_⟩ <;> (rw [GE.tm, O3, L8, L8, L8]; simp [hm])
 | ar s f a i j =>
  intro h
  refine ⟨i fun A B l w hm => h A B l w ?_, j fun A B l w hm => h A B l w ?_⟩ <;> (rw [GE.tm, O3, L8, L8, L8]; simp [hm])
 | ite c f a i j k =>
  intro h
  refine ⟨i fun A B l w hm => h A B l w ?_, j fun A B l w hm => h A B l w ?_, k fun A B l w hm => h A B l w ?_⟩ <;> (rw [GE.tm, O3, L8, L8, L8, L8]; simp [hm])
 | pair f a i j =>
  intro h
  refine ⟨i fun A B l w hm => h A B l w ?_, j fun A B l w hm => h A B l w ?_⟩ <;> (rw [GE.tm, O3, L8, L8, L8]; simp [hm])
 | part s e i => intro h; refine i fun A B l w hm => h A B l w ?_; rw [GE.tm, O3, L8, L8]; simp [hm]
 | cast A B l e i =>
  intro h
  refine ⟨h A B l e (by rw [GE.tm, O3]; simp), i fun A' B' l' w hm => h A' B' l' w ?_⟩
  rw [GE.tm, O3, L8, L8]; simp [hm]
mutual
def P3 : Tm → List Ty
 | .mk k _ _ ty _ _ ks => (if k = 5 ∨ k = 13 then [ty] else []) ++ L7 ks
def L7 : List Tm → List Ty
 | [] => []
 | t :: ts => P3 t ++ L7 ts
end
theorem A71 : ∀ (a b : List Tm), L7 (a ++ b) = L7 a ++ L7 b
 | [], b => by simp [L7]
 | t :: a, b => by simp [L7, A71 a b]
theorem A30 {ks : List Tm} {i : Nat} (hi : i < ks.length) : L7 (ks.take (i + 1)) = L7 (ks.take i) ++ P3 ks[i] := by
 rw [List.take_succ_eq_append_getElem hi, A71, L7, L7, List.append_nil]
mutual
theorem B2e : ∀ t : Tm, (P3 t).length ≤ D1 t
 | .mk k nm num ty fr lb ks => by
  have := A2E ks
  rw [P3, D1, List.length_append]
  split <;> simp <;> omega
theorem A2E : ∀ ts : List Tm, (L7 ts).length ≤ E8 ts
 | [] => by simp [L7]
 | t :: ts => by
  have := B2e t
  have := A2E ts
  rw [L7, E8, List.length_append]; omega
end
mutual
def A0U : Tm → List Ty → Tm
 | .mk k nm num ty fr lb ks, l => .mk k nm num (if k = 5 ∨ k = 13 then l.getD 0 B3 else ty) fr lb (X0 ks (if k = 5 ∨ k = 13 then l.drop 1 else l))
def X0 : List Tm → List Ty → List Tm
 | [], _ => []
 | t :: ts, l => A0U t l :: X0 ts (l.drop (P3 t).length)
end
theorem A4W : ∀ (ts : List Tm) (l : List Ty), (X0 ts l).length = ts.length
 | [], _ => rfl
 | t :: ts, l => by rw [X0, List.length_cons, A4W ts, List.length_cons]
theorem B2f : ∀ (a b : List Tm) (l : List Ty), X0 (a ++ b) l = X0 a l ++ X0 b (l.drop (L7 a).length)
 | [], b, l => by simp [X0, L7]
 | t :: a, b, l => by simp [X0, L7, B2f a b, List.drop_drop]
theorem A72 {ks : List Tm} {i : Nat} (hi : i < ks.length) (l : List Ty) : X0 (ks.take (i + 1)) l = X0 (ks.take i) l ++ [A0U ks[i] (l.drop (L7 (ks.take i)).length)] := by
 rw [List.take_succ_eq_append_getElem hi, B2f, X0, X0]
def B2g (mask : Nat) : Nat → List Ty → List Ty
 | _, [] => []
 | i, t :: ts => (if (mask / 2 ^ i) % 2 = 1 then .mk 1 [] else t) :: B2g mask (i + 1) ts
def B8q (e : Tm) (mask : Nat) : Tm := A0U e (B2g mask 0 (P3 e))
def B8r (e : Tm) : List Tm := (List.range (2 ^ (P3 e).length)).map (B8q e)
theorem A73 {ks : List Tm} {i : Nat} (hi : i < ks.length) : (L7 (ks.take i)).length + (P3 ks[i]).length ≤ (L7 ks).length := by
 have h : ks = ks.take (i + 1) ++ ks.drop (i + 1) := (List.take_append_drop _ _).symm
 conv => rhs; rw [h]
 rw [A71, A30 hi]
 simp only [List.length_append]; omega
section cap
variable {P : Program} {Γ : M0} {env : M6} {hp : List A6} {G : IM} {K : Po} {ops : Array Oper} {rest : List Oper}
end cap
theorem D5.append {G : IM} : ∀ {a b : List Ty} {es fs : List (List Value)}, D5 G a es → D5 G b fs → D5 G (a ++ b) (es ++ fs)
 | [], b, es, fs, h, h2 => by simp only [D5] at h; subst h; simpa using h2
 | t :: a, b, es, fs, h, h2 => by
  simp only [D5] at h
  obtain ⟨x, r, rfl, h3, h4⟩ := h
  simp only [List.cons_append, D5]
  exact ⟨x, r ++ fs, rfl, h3, D5.append h4 h2⟩
theorem D5.one1 {G : IM} {t : Ty} {c : List Value} (h : C3 G t c) : D5 G [t] [c] := by
 simp only [D5]; exact ⟨c, [], rfl, h, rfl⟩
def A0y (ts : List Ty) : IM → Value → List A6 → Prop := fun G' v outs => ∃ p c es, v = .slice p ts.length c ∧ outs = [.slc p c 34 2 ts.length es.flatten] ∧ D5 G' ts es
theorem A0y.mk {ts : List Ty} {n : Nat} {G' : IM} {p : Option Addr} {c : Nat} {es : List (List Value)} (hn : ts.length = n) (hr : D5 G' ts es) : A0y ts G' (.slice p n c) [.slc p c 34 2 n es.flatten] := by
 subst hn
 exact ⟨p, c, es, rfl, rfl, hr⟩
def RtP (u : Tm) (l : List Ty) : IM → Value → List A6 → Prop := fun G' v outs => outs = [] ∧ ∃ cu p c el, v = .tuple ⟨[.agg ⟨cu⟩, .slice p l.length c]⟩ ∧ B1 G' u cu ∧ E3 G' p l.length c 2 el ∧ D5 G' l el
section bits
variable {P : Program} {Γ : M0} {env : M6} {hp : List A6} {G : IM} {ty : TypeId}
end bits
theorem B8s {cs vs cs' C : List Value} {o : Nat} (h : T3 cs o vs = some cs') : cs' ++ C = (cs ++ C).take o ++ vs ++ (cs ++ C).drop (o + vs.length) := by
 obtain ⟨h1, h2⟩ := A3p h
 rw [h1, List.take_append_of_le_length (by omega), List.drop_append_of_le_length (by omega)]
 simp
section wr
variable {P : Program} {Γ : M0} {env : M6} {hp : List A6} {G : IM} {ty : TypeId} {K : Po} {ops : Array Oper} {rest : List Oper}
theorem B8t {d : Option Nat} {x y : Operand} {t : TypeId} {i : L4} [hI : I0 P t i] {b o c el sz n : Nat} {v : Value} {vs cs cs' : List Value} {hp' : List A6}
  (hx : evo env x = some (.pointer (some ⟨b, o, none⟩))) (hy : evo env y = some v) (hv : v.cells = ⟨vs⟩) (hsz : vs.length = i.size) (h1 : vs.all (·.oneCell') = true)
  (hu : T3 cs o vs = some cs') (hm : Sw hp (.slc (some ⟨b, 0, none⟩) c el sz n cs) (.slc (some ⟨b, 0, none⟩) c el sz n cs') hp') (hd : dok Γ.n d = true) :
  X9 P Γ ⟨env, hp, G⟩ d (.store t x y) ty [b] (fun σ' => σ' = ⟨dpu d undef env, hp', G⟩) := by
 refine ⟨fun a w hs pos af gd Q next hn => ?_⟩
 obtain ⟨rest, p1, p2⟩ := hm.perm
 have hown : U5 [.slc (some ⟨b, 0, none⟩) c el sz n cs] G w := hs.res.own.of_mem p1
 obtain ⟨hl, h⟩ := hown.ok _ List.mem_cons_self
 rcases h with ⟨hv', _⟩ | ⟨g, cap, cur, hv', hbg, hg, hnc, hcm, hcs, ht⟩
 ·cases hv'
 cases hv'
 obtain ⟨u1, u2⟩ := A3p hu
 have hcur : cur.toList = cs ++ cur.toList.drop (n * sz) := by
  conv => lhs; rw [← List.take_append_drop (n * sz) cur.toList, ht]
 have hlen : cs.length ≤ cur.size := by
  rw [hl, hcs]; exact Nat.mul_le_mul_right _ hnc
 have hst := run_storeCells_at P b o el vs 0 cur w hg (by omega) (by simpa using h1)
 obtain ⟨cur', hcur'⟩ : ∃ l : List Value, l = cs' ++ cur.toList.drop (n * sz) := ⟨_, rfl⟩
 have hcc : cur.toList.take (o + 0) ++ vs ++ cur.toList.drop (o + 0 + vs.length) = cur' := by
  rw [hcur', Nat.add_zero, B8s hu, ← hcur]
 rw [hcc] at hst
 have hl' : cs'.length = cs.length := by rw [u1]; simp; omega
 have hsz' : cur'.length = cur.size := by
  have := congrArg List.length hcur
  rw [hcur', List.length_append, hl']
  simpa using this.symm
 obtain ⟨inf, g1, g2, _⟩ := hI.info
 have hrun : (execOp a.eval ⟨d, .store t x y, ty, pos, af, gd⟩).run P w = .ok .skip (w.setRow b cur'.toArray) := by
  simp [execOp, Instr.storeAt, Instr.sureAddr, (hs.evo hx : a.eval x = _), (hs.evo hy : a.eval y = _), storeVar, sizeOf, typeInfo, g1, g2, hv, hsz, hst]
 simp only [Oper.wp, hrun, Oper.upon]
 have hr' : S3 [.slc (some ⟨b, 0, none⟩) c el sz n cs] G w [.slc (some ⟨b, 0, none⟩) c el sz n cs'] G (w.setRow b cur'.toArray) := by
  refine ⟨⟨?_, ?_, by simp [Fp, A6.fp, I2], ?_⟩, ⟨rfl, rfl, rfl, by simp [World.setRow], fun k _ hk => setRow_other w b k _ (by rintro rfl; simp [Fp, A6.fp, I2] at hk)⟩, C4.refl _, fun _ _ h => .inl h, ?_, fun b l h h0 => absurd h (by rw [h0]; simp)⟩
  ·intro k l hg'
   obtain ⟨e', f', h'⟩ := hown.inn k l hg'
   refine ⟨e', f', ?_⟩
   rw [setRow_other w b k _ ?_]
   ·exact h'
   ·rintro rfl
    have := hown.disj k (by simp [Fp, A6.fp, I2])
    rw [this] at hg'; cases hg'
  ·intro x hx
   simp at hx; subst hx
   refine ⟨by rw [hl', hl], .inr ⟨b, _, cur'.toArray, rfl, hbg, setRow_heap w b cur cur'.toArray el (0, 0) hg, hnc, hcm, by rw [List.size_toArray, hsz', hcs], ?_⟩⟩
   rw [hcur', List.take_left' (by rw [hl', hl])]
  ·intro k hk
   exact hown.disj k (by simpa [Fp, A6.fp, I2] using hk)
  ·intro k hk
   exact .inr (by simpa [Fp, A6.fp, I2] using hk)
 exact hn _ _ _ (hs.step p1 hr' p2 hd) (by simpa [Fp, A6.fp, I2] using hr'.ext) rfl
variable {pos : String} {af : Array Edge} {gd : Option (Nat × Bool)}
theorem B8u {c el sz n : Nat} {cs vs : List Value} {x y : Operand} {t : TypeId} {i : L4} [hI : I0 P t i] {bb o : Nat} {v : Value} {cs' : List Value} {hp' : List A6}
  (hx : evo env x = some (.pointer (some ⟨bb, o, none⟩))) (hy : evo env y = some v) (hv : v.cells = ⟨vs⟩) (hsz : vs.length = i.size) (h1 : vs.all (·.oneCell') = true)
  (hw : M3 ops env gd = some true) (hsw : Sw hp (.slc (some ⟨bb, 0, none⟩) c el sz n cs) (.slc (some ⟨bb, 0, none⟩) c el sz n cs') hp') (hu : T3 cs o vs = some cs')
  (k : I8 P Γ ops rest K ⟨env, hp', G⟩) : I8 P Γ ops (⟨none, .store t x y, ty, pos, af, gd⟩ :: rest) K ⟨env, hp, G⟩ :=
 I3 (B8t hx hy hv hsz h1 hu hsw rfl) hw (by rintro _ rfl; exact k)
theorem St.slc_ptT {p : Option Addr} {c el sz n : Nat} {cs : List Value} {a : Act} {w : World} (hs : St Γ ⟨env, hp, G⟩ a w) (hm : A6.slc p c el sz n cs ∈ hp) :
  (p = none ∧ n = 0 ∧ c = 0) ∨ ∃ g, p = some ⟨g, 0, none⟩ ∧ n ≤ c := by
 obtain ⟨_, h⟩ := hs.res.own.ok _ hm
 rcases h with ⟨hv, hn⟩ | ⟨g, cap, cur, hv, _, _, hnc, _⟩
 ·cases hv; exact .inl ⟨rfl, hn, rfl⟩
 ·cases hv; exact .inr ⟨g, rfl, hnc⟩
end wr
theorem B8v {es : List (List Value)} {i sz : Nat} {vs : List Value} (hi : i < es.length) (ha : ∀ e ∈ es, e.length = sz) (hv : vs.length = sz) : T3 es.flatten (0 + i * sz) vs = some (es.set i vs).flatten := by
 have h1 : es.flatten = (es.take i).flatten ++ (es[i] ++ (es.drop (i + 1)).flatten) := by
  conv => lhs; rw [← List.take_append_drop i es, List.drop_eq_getElem_cons hi]
  rw [List.flatten_append, List.flatten_cons]
 have h2 : (es.set i vs).flatten = (es.take i).flatten ++ (vs ++ (es.drop (i + 1)).flatten) := by rw [List.set_eq_take_append_cons_drop, if_pos hi, List.flatten_append, List.flatten_cons]
 have hA : ((es.take i).flatten).length = 0 + i * sz := by rw [A00 (fun e he => ha e (List.mem_of_mem_take he)), List.length_take, Nat.min_eq_left (by omega)]; omega
 rw [h1, h2]
 exact A6r hA (by rw [ha _ (List.getElem_mem hi), hv])
theorem D5.set {G : IM} : ∀ {l : List Ty} {es : List (List Value)} (i : Nat) {u : Ty} {c : List Value}, D5 G l es → C3 G u c → D5 G (l.set i u) (es.set i c)
 | [], es, i, u, c, h, _ => by simp only [D5] at h; subst h; simp [D5]
 | t :: l, es, 0, u, c, h, h2 => by
  simp only [D5] at h
  obtain ⟨a, r, rfl, _, h3⟩ := h
  simp only [List.set_cons_zero, D5]
  exact ⟨c, r, rfl, h2, h3⟩
 | t :: l, es, i + 1, u, c, h, h2 => by
  simp only [D5] at h
  obtain ⟨a, r, rfl, h4, h3⟩ := h
  simp only [List.set_cons_succ, D5]
  exact ⟨a, _, rfl, h4, D5.set i h3 h2⟩
def B8w (e : Tm) : Option (List Tm) := if (A0d e).isSome = true ∧ (P3 e).length ≤ 6 then some (B8r e) else none
def CfP (r : Option (List Tm)) : IM → Value → List A6 → Prop := fun G' v outs => outs = [] ∧ ∃ p c es, v = .tuple ⟨[.slice p (r.getD []).length c, .bool r.isSome]⟩ ∧ E3 G' p (r.getD []).length c 9 es ∧ E5 G' (r.getD []) es
def MsP (r : Option (List Int)) (e : A6) (G : IM) : IM → Value → List A6 → Prop := fun G' v outs => outs = [e] ∧ ∃ p c, v = .tuple ⟨[.slice p (r.getD []).length c, .bool r.isSome]⟩ ∧ SP1 (C2 G' G) (r.getD []) p c
def B9x (e : Tm) (fuel : Int) : Option (List Int) := if R7 fuel 0 300 = true then (B8w e).map (List.map fun x => (O9 x fuel).2.1) else none
def IsP (l : List Int) (b : Bool) (G : IM) : IM → Value → List A6 → Prop := K8 fun G' v => ∃ p c, v = .tuple ⟨[.slice p l.length c, .bool b]⟩ ∧ SP1 (C2 G' G) l p c
theorem B1.nine {G : IM} {t : Tm} {cells : List Value} (h : B1 G t cells) : ∃ v1 v2 v3 v4 v5 v6 v7 v8 v9, cells = [v1, v2, v3, v4, v5, v6, v7, v8, v9] := by
 obtain ⟨_, _, _, _, _, _, _, _, _, rfl, _⟩ := h.open
 exact ⟨_, _, _, _, _, _, _, _, _, rfl⟩
theorem A4X {G : IM} {e : Tm} {ce : List Value} {k : Int} {nm : ByteArray} {tk : Int} {tks : List Ty} {q p : Option Addr} {d c : Nat} (hk : H0 k) (ht : C3 G (.mk tk tks) [.int .i64 tk, .slice q tks.length d]) (h1 : B1 G e ce) (hs : Sl G p 1 c 9 ce) :
  B1 G (.mk k nm 0 (.mk tk tks) B3 0 [e]) [.int .i64 k, .string nm, .int .i64 0, .int .i64 tk, .slice q tks.length d, .int .i64 0, .slice none 0 0, .int .i64 0, .slice p 1 c] := by
 obtain ⟨a1, a2⟩ := A23 h1 hs
 exact B1.of9 (ks := [e]) hk ⟨by omega, by omega⟩ ⟨by omega, by omega⟩ ht (P1 _ ⟨by omega, by omega⟩) a1 a2
theorem A4Y {G : IM} {e f : Tm} {ce cf : List Value} {k : Int} {nm : ByteArray} {p : Option Addr} {c : Nat} (hk : H0 k) (h1 : B1 G e ce) (h2 : B1 G f cf) (hs : Sl G p 2 c 9 (ce ++ cf)) :
  B1 G (.mk k nm 0 B3 B3 0 [e, f]) [.int .i64 k, .string nm, .int .i64 0, .int .i64 0, .slice none 0 0, .int .i64 0, .slice none 0 0, .int .i64 0, .slice p 2 c] := by
 have hL : E5 G [e, f] [ce, cf] := by simp only [E5]; exact ⟨ce, [cf], rfl, h1, cf, [], rfl, h2, rfl⟩
 exact B1.of9 (ks := [e, f]) hk ⟨by omega, by omega⟩ ⟨by omega, by omega⟩ (P1 _ ⟨by omega, by omega⟩) (P1 _ ⟨by omega, by omega⟩)
  (E3.of (by simpa using hs) rfl hL.all (fun x hx => by obtain ⟨q, hq⟩ := List.getElem?_of_mem hx; exact (hL.inv hq J7).2.one)) hL
theorem B8x {G : IM} {e f g : Tm} {ce cf cg : List Value} {k : Int} {nm : ByteArray} {p : Option Addr} {c : Nat} (hk : H0 k) (h1 : B1 G e ce) (h2 : B1 G f cf) (h3 : B1 G g cg) (hs : Sl G p 3 c 9 (ce ++ (cf ++ cg))) :
  B1 G (.mk k nm 0 B3 B3 0 [e, f, g]) [.int .i64 k, .string nm, .int .i64 0, .int .i64 0, .slice none 0 0, .int .i64 0, .slice none 0 0, .int .i64 0, .slice p 3 c] := by
 have hL : E5 G [e, f, g] [ce, cf, cg] := by simp only [E5]; exact ⟨ce, [cf, cg], rfl, h1, cf, [cg], rfl, h2, cg, [], rfl, h3, rfl⟩
 exact B1.of9 (ks := [e, f, g]) hk ⟨by omega, by omega⟩ ⟨by omega, by omega⟩ (P1 _ ⟨by omega, by omega⟩) (P1 _ ⟨by omega, by omega⟩)
  (E3.of (by simpa using hs) rfl hL.all (fun x hx => by obtain ⟨q, hq⟩ := List.getElem?_of_mem hx; exact (hL.inv hq J7).2.one)) hL
def mB : Nat → Nat
 | 0 => 200
 | n + 1 => 3 * mB n + 200
theorem A1L (n : Nat) : 200 ≤ mB n := by cases n <;> simp only [mB] <;> omega
def A1M (n : Nat) (depth : Int) (t : Ty) : Prop := R5 4 t ∧ (n : Int) - 1000 ≤ depth ∧ depth ≤ 1000 ∧ ((depth ≤ 1 ∧ R5 n t) ∨ (2 ≤ depth ∧ depth + 3 ≤ n))
theorem A1M.sub {n : Nat} {depth : Int} {t t' : Ty} (h : A1M (n + 1) depth t) (hd : 1 < depth) (h4 : R5 4 t') : A1M n (depth - 1) t' := by
 obtain ⟨h1, h2, h3, h5⟩ := h
 refine ⟨h4, by omega, by omega, ?_⟩
 rcases h5 with ⟨h5, _⟩ | ⟨h5, h6⟩
 ·omega
 ·by_cases h7 : 3 ≤ depth
  ·exact .inr ⟨by omega, by omega⟩
  ·exact .inl ⟨by omega, h4.le (by omega)⟩
theorem A1M.kid {n : Nat} {depth : Int} {k : Int} {ks : List Ty} {t' : Ty} (h : A1M (n + 1) depth (.mk k ks)) (ht : t' ∈ ks) : A1M n (depth - 1) t' := by
 have h4 : R5 4 t' := (A6J h.1 ht).up
 by_cases hd : 1 < depth
 ·exact h.sub hd h4
 ·obtain ⟨h1, h2, h3, h5⟩ := h
  refine ⟨h4, by omega, by omega, .inl ⟨by omega, ?_⟩⟩
  rcases h5 with ⟨_, h5⟩ | ⟨h5, _⟩
  ·exact A6J h5 ht
  ·omega
theorem A1M.pos {n : Nat} {depth : Int} {k : Int} {ks : List Ty} (h : A1M n depth (.mk k ks)) (hd : 1 < depth ∨ k = 4 ∨ k = 5) : ∃ m, n = m + 1 := by
 cases n with
 | succ m => exact ⟨m, rfl⟩
 | zero =>
  obtain ⟨h1, h2, h3, h5⟩ := h
  rcases h5 with ⟨h5, h6⟩ | ⟨h5, h6⟩
  ·have := h6.2
   omega
  ·omega
theorem R1 : B3.small := by simp [B3, Ty.small, Ty.smallL]
theorem O4 {k : Int} {nm : ByteArray} {num : Int} (h : nm.size ≤ 1) : (Tm.mk k nm num B3 B3 0 []).small := by
 simp only [Tm.small, Tm.smallL]; exact ⟨by omega, R1, R1, by simp, trivial⟩
theorem L5 {k : Int} {nm : ByteArray} {num : Int} {ty : Ty} {a : Tm} (h : nm.size ≤ 1) (ht : ty.small) (ha : a.small) : (Tm.mk k nm num ty B3 0 [a]).small := by
 simp only [Tm.small, Tm.smallL]; exact ⟨by omega, ht, R1, by simp, ha, trivial⟩
theorem U2 {k : Int} {nm : ByteArray} {num : Int} {a b : Tm} (h : nm.size ≤ 1) (ha : a.small) (hb : b.small) : (Tm.mk k nm num B3 B3 0 [a, b]).small := by
 simp only [Tm.small, Tm.smallL]; exact ⟨by omega, R1, R1, by simp, ha, hb, trivial⟩
theorem A0L {k : Int} {nm : ByteArray} {num : Int} {a b c : Tm} (h : nm.size ≤ 1) (ha : a.small) (hb : b.small) (hc : c.small) : (Tm.mk k nm num B3 B3 0 [a, b, c]).small := by
 simp only [Tm.small, Tm.smallL]; exact ⟨by omega, R1, R1, by simp, ha, hb, hc, trivial⟩
theorem A0M : (Ty.mk 1 []).small := by simp [Ty.small, Ty.smallL]
def B2h (br : Nat) (pb : Option Addr) (nb cb : Nat) (bs : List UInt8) (n : Nat) : Prop := ∀ (depth : Int) (t : Ty) (p : Nat) (G : IM) (pc : Option Addr) (nc cc : Nat) (cells : List Value), A1M n depth t → (n : Int) - 1000 ≤ depth → depth ≤ 1000 → nc + n ≤ 40 → Z3 G pc nc cc → C3 G t cells → Sl G pb nb cb 1 (O2 bs) → p + mB n < 1099511627776 →
 Fn Tryz.prog 124 [.pointer (some ⟨br, 0, none⟩), .slice pc nc cc, .agg ⟨cells⟩, .int .i64 depth] [rd br pb nb cb p] G
  (A0t br pb nb cb p (mB n) (fun G' v => ∃ e cells, v = .agg ⟨cells⟩ ∧ B1 G' e cells ∧ e.small ∧ D1 e ≤ mB n))
theorem B2i (br : Nat) (pb : Option Addr) (nb cb : Nat) (bs : List UInt8) (hnb : nb ≤ 2000) (m : Nat) (hM : B2h br pb nb cb bs m) (depth : Int) (a t : Ty) (p : Nat) (G : IM) (pc : Option Addr) (nc cc : Nat) (ca cells : List Value)
  (hfu : A1M m depth t) (hd0 : (m : Int) - 1000 ≤ depth) (hd1 : depth ≤ 1000) (hnc : nc + 1 + m ≤ 40) (hx : Z3 G pc nc cc) (hra : C3 G a ca) (haa : F9 a ∧ K7 a ≤ 30) (hrt : C3 G t cells) (hb : Sl G pb nb cb 1 (O2 bs)) (hp : p + 1 + mB m < 1099511627776) :
  Fn Tryz.prog 166 [.pointer (some ⟨br, 0, none⟩), .slice pc nc cc, .agg ⟨ca⟩, .agg ⟨cells⟩, .int .i64 depth] [rd br pb nb cb p] G
   (A0t br pb nb cb p (1 + mB m) (fun G' v => ∃ e cells, v = .agg ⟨cells⟩ ∧ B1 G' e cells ∧ e.small ∧ D1 e ≤ 1 + mB m)) := by
 obtain ⟨ak, aks⟩ := a
 obtain ⟨tk, tks⟩ := t
 obtain ⟨pa, cca, ea, rfl, _⟩ := hra.open
 obtain ⟨pt, cct, et, rfl, _⟩ := hrt.open
 simp only [Ty.k, Ty.ks] at hra hrt ⊢
 refine C6 Tryz.func166 rfl Tryz.ntmps166 Tryz.results166 rfl ?_
 intro w0
 refine A4 ?_
 refine sE (C9 rfl rfl) rfl (fun b3 => ?_)
 refine sE (C9 rfl rfl) rfl (fun b4 => ?_)
 refine sE (A9 rfl) rfl (fun b5 => ?_)
 refine B0 ?_
 (refine I3 (D0 rfl rfl rfl (by omega) (by unfold maxLen; omega) rfl) rfl ?_; rintro _ ⟨b11, rfl⟩)
 (refine U6 (by repeat (first | exact Pk.here | apply Pk.there)) (fun G4 hle4 hsl4 _ => ?_); refine J9 rfl (A6V G4 br pb nb cb p bs _ _ _ _ (hb.mono hle4) hnb (by omega) hsl4 (by decide)) (Pk.perm (by repeat (first | exact Pk.here | apply Pk.there))) rfl rfl (fun v G5 outs hle5 hh => ?_); obtain ⟨rfl, rfl, hv⟩ := hh; obtain ⟨nm, rfl, hnm⟩ : ∃ nm : ByteArray, v = .string nm ∧ nm.size ≤ 1 := (by simp only [List.mem_cons, List.not_mem_nil, or_false] at hv; rcases hv with rfl | rfl | rfl | rfl <;> exact ⟨_, rfl, by decide⟩); replace hra := hra.mono hle4; replace hx := hx.mono hle4; replace hb := hb.mono hle4; replace hrt := hrt.mono hle4;)
 refine B4 ?_
 refine D7 D8 rfl ?_
 refine I6 (i := 0) (l' := [tt,ff,ff,ff,ff,ff,ff,ff,ff,ff,ff,ff,ff,ff]) rfl D2 (qM rfl) rfl (by kernel_rfl) rfl rfl ?_
 refine aL 1 rfl (A5 rfl rfl) rfl ?_
 refine aP 3 rfl (qM rfl) rfl ?_
 refine aP 4 rfl (qM rfl) rfl ?_
 refine aP 5 rfl (qM rfl) rfl ?_
 refine aL 6 rfl (A5 rfl rfl) rfl ?_
 refine aL 8 rfl (A5 rfl rfl) rfl ?_
 refine aP 9 rfl (qM rfl) rfl ?_
 refine A2 2 ?_
 (refine H3 rfl rfl (Q5 _ _ _ haa.1.small hra) rfl rfl rfl (fun v G6 hle6 hh => ?_); obtain ⟨cs1, F1, rfl, hs1, hn1⟩ := hh; obtain ⟨p1, c1, rfl, _⟩ := hs1.open; have hr1 := hs1.R.mono (C2.le G6 _); replace hra := hra.mono hle6; replace hx := hx.mono hle6; replace hb := hb.mono hle6; replace hrt := hrt.mono hle6;)
 refine A2 7 ?_
 (refine H3 rfl rfl (B4V _ pc nc cc nm (.mk ak aks) _ hx (by omega) hra haa.1 haa.2 hnm) rfl rfl rfl (fun v G7 hle7 hh => ?_); obtain ⟨pm, cm, rfl, hxm⟩ := hh; replace hr1 := hr1.mono hle7; replace hx := hx.mono hle7; replace hb := hb.mono hle7; replace hrt := hrt.mono hle7; have hcall := hM depth (.mk tk tks) (p + 1) _ pm (nc + 1) cm _ hfu hd0 hd1 (by omega) hxm hrt hb (by omega))
 refine A2 10 ?_
 (refine X2 (l' := [tt,tt,tt,tt,tt,tt,tt,tt,tt,tt,tt,ff,ff,ff]) rfl rfl hcall (Pk.perm (by repeat (first | exact Pk.here | apply Pk.there))) rfl rfl rfl (by repeat (first | exact A7.nil | apply A7.dep (by decide +kernel) | apply A7.blk (by decide +kernel) (by repeat (first | exact Pk.here | apply Pk.there)) (by repeat first | exact mH | apply mT))) (fun v G8 outs hle8 hh => ?_); obtain ⟨p8, hp81, hp82, rfl, e8, c8, rfl, hr8, hs8, hc8⟩ := hh; obtain ⟨a1, a2, a3, a4, a5, a6, a7, a8, a9, rfl⟩ := hr8.nine; replace hr1 := hr1.mono hle8)
 refine A2 11 ?_
 (refine E2 rfl (D0 rfl rfl rfl (by omega) (by unfold maxLen; omega) rfl) rfl rfl ?_; rintro _ ⟨b33, rfl⟩)
 refine aP 12 rfl (Y0 rfl rfl) rfl ?_
 refine A2 13 ?_
 refine Q8 rfl rfl rfl rfl rfl rfl rfl rfl (by decide +kernel) (by repeat first | exact Sw.here | apply Sw.there) (by rfl) ?_
 refine A4 ?_
 (refine H2 (cs := [a1, a2, a3, a4, a5, a6, a7, a8, a9]) (by repeat (first | exact Pk.here | apply Pk.there)) (fun G9 hle9 hsl9 hno9 => ?_); have hN := A4X (k := 5) (nm := nm) ⟨by omega, by omega⟩ (hr1.mono hle9) (hr8.mono hle9) hsl9)
 refine tT ?_
 refine H7 (outs := [rd br pb nb cb p8]) (rC rfl (A5 rfl rfl)) (by repeat (first | exact A1.nil | refine A1.cons Pk.here ?_ | refine A1.cons (Pk.there Pk.here) ?_ | refine A1.cons (Pk.there (Pk.there Pk.here)) ?_ | apply A1.drop)) ?_
 (exact ⟨p8, by omega, by omega, rfl, _, _, rfl, hN, L5 hnm haa.1.small hs8, by simp only [D1, E8]; omega⟩)
structure A4Z {ι : Type} (S : ι → Sy) (φ : ι → Prop) (K : Po) (e : Exit) (σ : Sy) : Prop where
 run : match e with
  | .normal => ∃ i, φ i ∧ Sub σ (S i)
  | e => K e σ
section cut
variable {P : Program} {Γ : M0} {K : Po} {σ : Sy} {ι : Type}
theorem B2j {c y : Code} (S : ι → Sy) (φ : ι → Prop) (h : J3 P Γ c (A4Z S φ K) σ) (k : ∀ i, φ i → J3 P Γ y K (S i)) : J3 P Γ c (A1a P Γ y K) σ := by
 refine A59 h ?_
 rintro e σ ⟨hk⟩
 cases e with
 | normal => obtain ⟨i, hi, hs⟩ := hk; exact ⟨A8b hs (k i hi)⟩
 | _ => exact ⟨hk⟩
theorem A40 {S : ι → Sy} {φ : ι → Prop} {σ : Sy} (i : ι) (hs : Sub σ (S i)) (h : φ i) : A4Z S φ K .normal σ := ⟨⟨i, h, hs⟩⟩
theorem A09 {S : ι → Sy} {φ : ι → Prop} {σ : Sy} (h : K .ret σ) : A4Z S φ K .ret σ := ⟨h⟩
theorem B8y {S : ι → Sy} {φ : ι → Prop} (h : Z7 K) : Z7 (A4Z S φ K) := fun c σ hk => h c σ hk.run
instance npC6 {S : ι → Sy} {φ : ι → Prop} [h : NpC K] : NpC (A4Z S φ K) := ⟨B8y h.h⟩
end cut
theorem A2F (G : IM) (nm : ByteArray) (num : Int) {k : Int} (hk : H0 k) (hn : H0 num) : B1 G (.mk k nm num B3 B3 0 []) [.int .i64 k, .string nm, .int .i64 num, .int .i64 0, .slice none 0 0, .int .i64 0, .slice none 0 0, .int .i64 0, .slice none 0 0] := A19 hk hn
theorem C3.kidsM {G : IM} {k : Int} {ks : List Ty} {q : Option Addr} {c : Nat} (h : C3 G (.mk k ks) [.int .i64 k, .slice q ks.length c]) : ∃ es, E3 G q ks.length c 2 es ∧ D5 G ks es := by
 obtain ⟨q', c', es, he, _, h1, h2⟩ := h.open
 cases he
 exact ⟨es, h1, h2⟩
theorem A74 {Q : Prop} (h : Q := by (dsimp only; exact ⟨by omega, hleL.trans hle2, by omega, by omega⟩)) : Q := h
theorem B8z (br : Nat) (pb : Option Addr) (nb cb : Nat) (bs : List UInt8) (hnb : nb ≤ 2000) : ∀ n, B2h br pb nb cb bs n := by
 refine fun n => Nat.strongRecOn n fun n ih depth t p G pc nc cc cells hfu hd0 hd1 hnc hx hrt hb hp => ?_
 have hge := A1L n
 have har := hfu.1.ar
 have hszt := A5n hfu.1
 have hnn := A1j t
 have hncl := hx.le
 obtain ⟨k, ks⟩ := t
 obtain ⟨q, c, es, rfl, hk, _, _⟩ := hrt.open
 simp only [Ty.k, Ty.ks] at hk hrt ⊢
 have hsz30 : K7 (.mk k ks) ≤ 30 := hszt
 have hops : k = 4 ∨ k = 5 → ks.length = 2 := by have h2 := har; rw [F9] at h2; exact h2.1
 refine C6 Tryz.func124 rfl Tryz.ntmps124 Tryz.results124 rfl ?_
 intro w0
 refine A4 ?_
 refine sE (C9 rfl rfl) rfl (fun b3 => ?_)
 refine sE (A9 rfl) rfl (fun b4 => ?_)
 refine B7 ?_
 refine sP (P4 rfl rfl (by omega) (by omega)) rfl rfl ?_
 refine B9 ?_
 refine C5 ?_
 (refine K2 (fun (x : Nat × Nat × IM) => ⟨(9, .int .i64 ((x.1 : Int) - 1)) :: [(0, .pointer (some ⟨br, 0, none⟩)), (1, .slice pc nc cc), (3, .int .i64 depth), (6, .pointer (some ⟨b3, 0, none⟩)), (8, .pointer (some ⟨b4, 0, none⟩))], [rd br pb nb cb x.2.1, .blk b4 [.int .i64 0, .string ⟨⟨[]⟩⟩, .int .i64 0, .int .i64 0, .slice none 0 0, .int .i64 0, .slice none 0 0, .int .i64 0, .slice none 0 0], .blk b3 [.int .i64 k, .slice q ks.length c]], x.2.2⟩) (fun x => x.1 ≤ nc ∧ C4 G x.2.2 ∧ p ≤ x.2.1 ∧ x.2.1 + x.1 ≤ p + nc) (fun x => x.1) (nc, p, G) ?_ ?_ ?_)
 (simp only [I1]; exact D6)
 (exact ⟨Nat.le_refl _, C4.refl _, Nat.le_refl _, Nat.le_refl _⟩)
 (rintro ⟨(i : Nat), (p1 : Nat), G1⟩ ⟨hi, hleL, hpL, hpL2⟩; simp only [] at hi hleL hpL hpL2 ⊢; replace hx := hx.mono hleL; replace hb := hb.mono hleL; replace hrt := hrt.mono hleL;)
 refine B4 ?_
 refine sB (A0X rfl rfl) rfl rfl (fun h25 => ?_) (fun h25 => ?_)
 refine A8 ?_
 (show J3 _ _ (.block 1 ..) _ _; obtain ⟨j, rfl⟩ : ∃ j, i = j + 1 := ⟨i - 1, by omega⟩; rw [show ((j + 1 : Nat) : Int) - 1 = (j : Int) from by omega]; obtain ⟨b, o, nm1, t1, qq1, dd1, rfl, hat, hr1, ha1, hs1, hgb, hns1⟩ := hx.get (i := j) (by omega); refine C5 ?_)
 refine B0 ?_
 refine sP (B5 (j := j) rfl rfl rfl (by omega)) rfl rfl ?_
 refine F8 ?_
 refine sL (W4 rfl rfl ((hat _).sub (j := 0) rfl)) rfl rfl ?_
 (refine E6 rfl (B4T _ _ nc cc nm1 hx) rfl rfl (fun v G2 hle2 hh => ?_); obtain ⟨ts, tcs, xs, rfl, hrs, has, hss⟩ := hh; obtain ⟨ps, cs, ess, rfl, _⟩ := hrs.open; obtain ⟨b, o, nm1, t1, qq1, dd1, hpp, hat, hr1, ha1, hs1, hgb, hns1⟩ := (hx.mono hle2).get (i := j) (by omega); cases hpp; replace hx := hx.mono hle2; replace hb := hb.mono hle2; replace hrt := hrt.mono hle2;)
 refine B9 ?_
 refine sE (A9 rfl) rfl (fun b45 => ?_)
 refine B7 ?_
 (have hinloop := hrs; refine J9 rfl (Z1 _ br pb nb cb (p1) bs 3 hb hnb (by omega)) (Pk.perm (by repeat (first | exact Pk.here | apply Pk.there))) rfl rfl (fun v Gp outs hle53 hh => ?_); obtain ⟨rfl, rfl, j53, rfl, hj53, hk53⟩ := hh; have hinl := hj53)
 replace hrs := hrs.mono hle53
 replace hr1 := hr1.mono hle53
 replace hb := hb.mono hle53
 replace hrt := hrt.mono hle53
 replace hinloop := hinloop.mono hle53
 refine sB (qE rfl rfl) rfl rfl (fun h54 => ?_) (fun h54 => ?_)
 refine A4 ?_
 refine H1 rfl ((A13 ts _ _ hrs)) rfl rfl (fun h57 => ?_) (fun h57 => ?_)
 refine B4 ?_
 refine H1 rfl ((A2a ts (.mk k ks) _ _ _ has har hrs hrt)) rfl rfl (fun h62 => ?_) (fun h62 => ?_)
 refine D4 ?_
 refine sP (B5 (j := j) rfl rfl rfl (by omega)) rfl rfl ?_
 refine F8 ?_
 refine sL (W4 rfl rfl ((hat _).sub (j := 0) rfl)) rfl rfl ?_
 refine J2 ?_
 refine H7 (outs := [rd br pb nb cb (p1 + 1)]) (rC rfl (A5 rfl rfl)) (by repeat (first | exact A1.nil | refine A1.cons Pk.here ?_ | refine A1.cons (Pk.there Pk.here) ?_ | refine A1.cons (Pk.there (Pk.there Pk.here)) ?_ | apply A1.drop)) ?_
 (exact ⟨(p1 + 1), by omega, by omega, rfl, _, _, rfl, A2F _ _ _ ⟨by omega, by omega⟩ (by first | exact ⟨by omega, by omega⟩ | exact hkn), by first | exact O4 (by first | assumption | decide) | exact A0L (by decide) (by assumption) (by assumption) (by assumption) | exact U2 (by decide) (by assumption) (by assumption) | exact L5 (by decide) R1 (by assumption) | exact L5 (by decide) har.small (by assumption) | exact L5 (by decide) R1 (U2 (by decide) (by assumption) (O4 (by decide))) | exact L5 (by decide) A0M (O4 (by decide)) | assumption, by simp only [D1, E8]; omega⟩)
 refine E1 ?_
 refine sP (P4 rfl rfl (by omega) (by omega)) rfl rfl ?_
 refine A4 ?_
 (have hinloop := hrs; refine I5 (j, p1 + 1, Gp) ?_ ?_ ?_)
 (simp only [I1]; exact D6)
 exact A74
 (show _ < _ + 1; omega)
 refine J5 ?_
 refine sP (P4 rfl rfl (by omega) (by omega)) rfl rfl ?_
 refine A4 ?_
 (have hinloop := hrs; refine I5 (j, p1 + 1, Gp) ?_ ?_ ?_)
 (simp only [I1]; exact D6)
 exact A74
 (show _ < _ + 1; omega)
 refine S4 ?_
 refine sP (P4 rfl rfl (by omega) (by omega)) rfl rfl ?_
 refine A4 ?_
 (have hinloop := hrs; refine I5 (j, p1 + 1, Gp) ?_ ?_ ?_)
 (simp only [I1]; exact D6)
 exact A74
 (show _ < _ + 1; omega)
 refine J2 ?_
 (show J3 _ _ (.region 7 ..) _ _; refine A0l (fun (x : Bool) => ⟨(49, .bool x) :: [(0, .pointer (some ⟨br, 0, none⟩)), (1, .slice pc nc cc), (3, .int .i64 depth), (6, .pointer (some ⟨b3, 0, none⟩)), (8, .pointer (some ⟨b4, 0, none⟩))], [rd br pb nb cb p1, .blk b4 [.int .i64 0, .string ⟨⟨[]⟩⟩, .int .i64 0, .int .i64 0, .slice none 0 0, .int .i64 0, .slice none 0 0, .int .i64 0, .slice none 0 0], .blk b3 [.int .i64 k, .slice q ks.length c]], G1⟩) (fun x => x = true → 1 < depth) ?_ ?_)
 refine A4 ?_
 refine sB (A0g rfl rfl) rfl rfl (fun h160 => ?_) (fun h160 => ?_)
 refine sD ?_
 refine Q6 true (M4 (by repeat (first | exact E7.nil | refine E7.cons rfl ?_)) (by repeat (first | exact A1.refl | exact A1.nil | refine A1.cons (by repeat (first | exact Pk.here | apply Pk.there)) ?_ | apply A1.drop))) (fun _ => by omega)
 refine sD ?_
 refine Q6 false (M4 (by repeat (first | exact E7.nil | refine E7.cons rfl ?_)) (by repeat (first | exact A1.refl | exact A1.nil | refine A1.cons (by repeat (first | exact Pk.here | apply Pk.there)) ?_ | apply A1.drop))) (fun h => absurd h (by decide))
 (rintro (x49 : Bool) hx49)
 (show J3 _ _ (.cond (.tmp 49) _ _) _ _; refine B2j (fun (x : Nat × IM) => ⟨[(0, .pointer (some ⟨br, 0, none⟩)), (1, .slice pc nc cc), (3, .int .i64 depth), (6, .pointer (some ⟨b3, 0, none⟩)), (8, .pointer (some ⟨b4, 0, none⟩))], [rd br pb nb cb x.1, .blk b4 [.int .i64 0, .string ⟨⟨[]⟩⟩, .int .i64 0, .int .i64 0, .slice none 0 0, .int .i64 0, .slice none 0 0, .int .i64 0, .slice none 0 0], .blk b3 [.int .i64 k, .slice q ks.length c]], x.2⟩) (fun x => C4 G1 x.2 ∧ p1 ≤ x.1 ∧ x.1 ≤ p1 + 1) (A35 rfl (fun hxt => ?_) (fun hxf => ?_)) ?_)
 refine B9 ?_
 (have hx49b := hx49 hxt; refine J9 rfl (Z1 _ br pb nb cb (p1) bs 9 hb hnb (by omega)) (Pk.perm (by repeat (first | exact Pk.here | apply Pk.there))) rfl rfl (fun v Gp outs hle170 hh => ?_); obtain ⟨rfl, rfl, j170, rfl, hj170, hk170⟩ := hh; have hpk9 := hj170)
 replace hb := hb.mono hle170
 replace hrt := hrt.mono hle170
 refine A4 ?_
 refine C5 (tS (tR (sB (qE rfl rfl) rfl rfl (fun h176 => ?_) (fun h176 => ?_))))
 refine B0 ?_
 (obtain ⟨m, rfl⟩ := hfu.pos (.inl (by omega)); have hmB : mB (m + 1) = 3 * mB m + 200 := rfl; have hgm := A1L m; refine D7 D8 rfl ?_)
 refine L3 (i := 0) (l' := [tt,ff,ff,ff,ff,ff,ff,ff,ff,ff,ff,ff,ff]) rfl D2 (A5 rfl rfl) rfl (by kernel_rfl) rfl rfl ?_
 refine aP 2 rfl (qM rfl) rfl ?_
 refine aP 3 rfl (qM rfl) rfl ?_
 refine aP 4 rfl (qM rfl) rfl ?_
 refine aL 5 rfl (A5 rfl rfl) rfl ?_
 refine aP 7 rfl (qM rfl) rfl ?_
 refine aP 8 rfl (P4 rfl rfl (by omega) (by omega)) rfl ?_
 refine A2 1 ?_
 (refine H3 rfl rfl (Q5 _ _ _ har.small hrt) rfl rfl rfl (fun v G6 hle6 hh => ?_); obtain ⟨cs1, F1, rfl, hs1, hn1⟩ := hh; obtain ⟨pz, cz, rfl, _⟩ := hs1.open; have hrz := hs1.R.mono (C2.le G6 _); replace hx := hx.mono hle6; replace hb := hb.mono hle6; replace hrt := hrt.mono hle6;)
 refine A2 6 ?_
 (have hcall := A5x br pb nb cb bs hnb (.mk k ks) (p1 + 1) _ _ har hrt hb (by omega); refine X2 (l' := [tt,tt,tt,tt,tt,tt,tt,tt,tt,ff,ff,ff,ff]) rfl rfl hcall (Pk.perm (by repeat (first | exact Pk.here | apply Pk.there))) rfl rfl rfl (by repeat (first | exact A7.nil | apply A7.dep (by decide +kernel) | apply A7.im (by decide +kernel) hg0 (by repeat first | exact mH | apply mT) | apply A7.im (by decide +kernel) hg1 (by repeat first | exact mH | apply mT) | apply A7.blk (by decide +kernel) (by repeat (first | exact Pk.here | apply Pk.there)) (by repeat first | exact mH | apply mT))) (fun v Gn outs hleA hh => ?_); obtain ⟨pA, hpA1, hpA2, rfl, uA, cuA, rfl, hruA, huaA, husA, huhA⟩ := hh; obtain ⟨quA, duA, euA, rfl, _⟩ := hruA.open; replace hrz := hrz.mono hleA; replace hx := hx.mono hleA; replace hb := hb.mono hleA; replace hrt := hrt.mono hleA;)
 refine A2 9 ?_
 (have hcall := ih m (by omega) (depth - 1) uA pA _ pc nc cc _ (hfu.sub (by omega) (huhA 4 hfu.1)) (by omega) (by omega) (by omega) hx hruA hb (by omega); refine X2 (l' := [tt,tt,tt,tt,tt,tt,tt,tt,tt,tt,ff,ff,ff]) rfl rfl hcall (Pk.perm (by repeat (first | exact Pk.here | apply Pk.there))) rfl rfl rfl (by repeat (first | exact A7.nil | apply A7.dep (by decide +kernel) | apply A7.im (by decide +kernel) hg0 (by repeat first | exact mH | apply mT) | apply A7.im (by decide +kernel) hg1 (by repeat first | exact mH | apply mT) | apply A7.blk (by decide +kernel) (by repeat (first | exact Pk.here | apply Pk.there)) (by repeat first | exact mH | apply mT))) (fun v Gn outs hlea hh => ?_); obtain ⟨pa, hpa1, hpa2, rfl, ea, ca, rfl, hra, hsma, hca⟩ := hh; obtain ⟨a1, a2, a3, a4, a5, a6, a7, a8, a9, rfl⟩ := hra.nine; replace hrz := hrz.mono hlea; replace hx := hx.mono hlea; replace hb := hb.mono hlea; replace hrt := hrt.mono hlea;)
 refine A2 10 ?_
 (refine E2 rfl (D0 rfl rfl rfl (by omega) (by unfold maxLen; omega) rfl) rfl rfl ?_; rintro _ ⟨b197, rfl⟩)
 refine aP 11 rfl (Y0 rfl rfl) rfl ?_
 refine A2 12 ?_
 refine Q8 rfl rfl rfl rfl rfl rfl rfl rfl (by decide +kernel) (by repeat first | exact Sw.here | apply Sw.there) (by rfl) ?_
 refine A4 ?_
 (refine H2 (cs := [a1, a2, a3, a4, a5, a6, a7, a8, a9]) (by repeat (first | exact Pk.here | apply Pk.there)) (fun G9 hle9 hsl9 hno9 => ?_); have hN := A4X (k := 13) (nm := ⟨⟨[]⟩⟩) ⟨by omega, by omega⟩ (hrz.mono hle9) (hra.mono hle9) hsl9)
 refine A4 ?_
 refine A09 ?_
 refine H7 (outs := [rd br pb nb cb pa]) (rC rfl (A5 rfl rfl)) (by repeat (first | exact A1.nil | refine A1.cons Pk.here ?_ | refine A1.cons (Pk.there Pk.here) ?_ | refine A1.cons (Pk.there (Pk.there Pk.here)) ?_ | apply A1.drop)) ?_
 (exact ⟨pa, by omega, by omega, rfl, _, _, rfl, hN, by first | exact O4 (by first | assumption | decide) | exact A0L (by decide) (by assumption) (by assumption) (by assumption) | exact U2 (by decide) (by assumption) (by assumption) | exact L5 (by decide) R1 (by assumption) | exact L5 (by decide) har.small (by assumption) | exact L5 (by decide) R1 (U2 (by decide) (by assumption) (O4 (by decide))) | exact L5 (by decide) A0M (O4 (by decide)) | assumption, by simp only [D1, E8]; omega⟩)
 refine A8 ?_
 refine sB (qE rfl rfl) rfl rfl (fun h215 => ?_) (fun h215 => ?_)
 refine B0 ?_
 (obtain ⟨m, rfl⟩ := hfu.pos (.inl (by omega)); have hmB : mB (m + 1) = 3 * mB m + 200 := rfl; have hgm := A1L m; refine D7 D8 rfl ?_)
 refine I6 (i := 0) (l' := [tt,ff,ff,ff,ff,ff,ff,ff,ff,ff,ff,ff,ff,ff,ff,ff,ff,ff,ff,ff,ff]) rfl D2 (qM rfl) rfl (by kernel_rfl) rfl rfl ?_
 refine aP 1 rfl (qM rfl) rfl ?_
 refine aP 3 rfl (qM rfl) rfl ?_
 refine aP 4 rfl (P4 rfl rfl (by omega) (by omega)) rfl ?_
 refine aP 6 rfl (qM rfl) rfl ?_
 refine aP 7 rfl (qM rfl) rfl ?_
 refine aL 8 rfl (A5 rfl rfl) rfl ?_
 refine aP 9 rfl (qM rfl) rfl ?_
 refine aP 10 rfl (P4 rfl rfl (by omega) (by omega)) rfl ?_
 refine aP 12 rfl (qM rfl) rfl ?_
 refine aP 13 rfl (qM rfl) rfl ?_
 refine aL 14 rfl (A5 rfl rfl) rfl ?_
 refine aP 15 rfl (qM rfl) rfl ?_
 refine aP 16 rfl (P4 rfl rfl (by omega) (by omega)) rfl ?_
 refine A2 2 ?_
 refine N6 rfl rfl ((A3E _)) rfl rfl rfl ?_
 refine A2 5 ?_
 (have hcall := ih m (by omega) (depth - 1) (.mk 3 []) (p1 + 1) _ pc nc cc _ (hfu.sub (by omega) (A3z 4 (by decide) (by decide))) (by omega) (by omega) (by omega) hx (P1 _ ⟨by omega, by omega⟩) hb (by omega); refine X2 (l' := [tt,tt,tt,tt,tt,tt,tt,tt,tt,tt,tt,ff,tt,tt,tt,tt,tt,ff,ff,ff,ff]) rfl rfl hcall (Pk.perm (by repeat (first | exact Pk.here | apply Pk.there))) rfl rfl rfl (by repeat (first | exact A7.nil | apply A7.dep (by decide +kernel) | apply A7.im (by decide +kernel) hg0 (by repeat first | exact mH | apply mT) | apply A7.im (by decide +kernel) hg1 (by repeat first | exact mH | apply mT) | apply A7.blk (by decide +kernel) (by repeat (first | exact Pk.here | apply Pk.there)) (by repeat first | exact mH | apply mT))) (fun v Gn outs hlef hh => ?_); obtain ⟨pf, hpf1, hpf2, rfl, ef, cf, rfl, hrf, hsmf, hcf⟩ := hh; obtain ⟨f1, f2, f3, f4, f5, f6, f7, f8, f9, rfl⟩ := hrf.nine; replace hx := hx.mono hlef; replace hb := hb.mono hlef; replace hrt := hrt.mono hlef;)
 refine A2 11 ?_
 (have hcall := ih m (by omega) (depth - 1) (.mk k ks) pf _ pc nc cc _ (hfu.sub (by omega) hfu.1) (by omega) (by omega) (by omega) hx hrt hb (by omega); refine X2 (l' := [tt,tt,tt,tt,tt,tt,tt,tt,tt,tt,tt,tt,tt,tt,tt,tt,tt,ff,ff,ff,ff]) rfl rfl hcall (Pk.perm (by repeat (first | exact Pk.here | apply Pk.there))) rfl rfl rfl (by repeat (first | exact A7.nil | apply A7.dep (by decide +kernel) | apply A7.im (by decide +kernel) hg0 (by repeat first | exact mH | apply mT) | apply A7.im (by decide +kernel) hg1 (by repeat first | exact mH | apply mT) | apply A7.blk (by decide +kernel) (by repeat (first | exact Pk.here | apply Pk.there)) (by repeat first | exact mH | apply mT))) (fun v Gn outs hleg hh => ?_); obtain ⟨pg, hpg1, hpg2, rfl, eg, cg, rfl, hrg, hsmg, hcg⟩ := hh; obtain ⟨g1, g2, g3, g4, g5, g6, g7, g8, g9, rfl⟩ := hrg.nine; replace hrf := hrf.mono hleg; replace hx := hx.mono hleg; replace hb := hb.mono hleg; replace hrt := hrt.mono hleg;)
 refine A2 17 ?_
 (have hcall := ih m (by omega) (depth - 1) (.mk k ks) pg _ pc nc cc _ (hfu.sub (by omega) hfu.1) (by omega) (by omega) (by omega) hx hrt hb (by omega); refine X2 (l' := [tt,tt,tt,tt,tt,tt,tt,tt,tt,tt,tt,tt,tt,tt,tt,tt,tt,tt,ff,ff,ff]) rfl rfl hcall (Pk.perm (by repeat (first | exact Pk.here | apply Pk.there))) rfl rfl rfl (by repeat (first | exact A7.nil | apply A7.dep (by decide +kernel) | apply A7.im (by decide +kernel) hg0 (by repeat first | exact mH | apply mT) | apply A7.im (by decide +kernel) hg1 (by repeat first | exact mH | apply mT) | apply A7.blk (by decide +kernel) (by repeat (first | exact Pk.here | apply Pk.there)) (by repeat first | exact mH | apply mT))) (fun v Gn outs hlei hh => ?_); obtain ⟨pi, hpi1, hpi2, rfl, ei, ci, rfl, hri, hsmi, hci⟩ := hh; obtain ⟨i1, i2, i3, i4, i5, i6, i7, i8, i9, rfl⟩ := hri.nine; replace hrf := hrf.mono hlei; replace hrg := hrg.mono hlei; replace hx := hx.mono hlei; replace hb := hb.mono hlei; replace hrt := hrt.mono hlei;)
 refine A2 18 ?_
 (refine E2 rfl (D0 rfl rfl rfl (by omega) (by unfold maxLen; omega) rfl) rfl rfl ?_; rintro _ ⟨b245, rfl⟩)
 refine A2 19 ?_
 refine N6 rfl rfl ((A0I _ _ _ _ _)) rfl rfl rfl ?_
 refine A2 20 ?_
 refine Q8 rfl rfl rfl rfl rfl rfl rfl rfl (by decide +kernel) (by repeat first | exact Sw.here | apply Sw.there) (by rfl) ?_
 refine A4 ?_
 (refine H2 (cs := [f1, f2, f3, f4, f5, f6, f7, f8, f9] ++ ([g1, g2, g3, g4, g5, g6, g7, g8, g9] ++ [i1, i2, i3, i4, i5, i6, i7, i8, i9])) (by repeat (first | exact Pk.here | apply Pk.there)) (fun G9 hle9 hsl9 hno9 => ?_); have hN := B8x (k := 9) (nm := ⟨⟨[]⟩⟩) ⟨by omega, by omega⟩ (hrf.mono hle9) (hrg.mono hle9) (hri.mono hle9) hsl9)
 refine A4 ?_
 refine A09 ?_
 refine H7 (outs := [rd br pb nb cb pi]) (rC rfl (A5 rfl rfl)) (by repeat (first | exact A1.nil | refine A1.cons Pk.here ?_ | refine A1.cons (Pk.there Pk.here) ?_ | refine A1.cons (Pk.there (Pk.there Pk.here)) ?_ | apply A1.drop)) ?_
 (exact ⟨pi, by omega, by omega, rfl, _, _, rfl, hN, by first | exact O4 (by first | assumption | decide) | exact A0L (by decide) (by assumption) (by assumption) (by assumption) | exact U2 (by decide) (by assumption) (by assumption) | exact L5 (by decide) R1 (by assumption) | exact L5 (by decide) har.small (by assumption) | exact L5 (by decide) R1 (U2 (by decide) (by assumption) (O4 (by decide))) | exact L5 (by decide) A0M (O4 (by decide)) | assumption, by simp only [D1, E8]; omega⟩)
 refine A8 ?_
 refine sB (qE rfl rfl) rfl rfl (fun h264 => ?_) (fun h264 => ?_)
 refine B7 ?_
 (have hcall := A4v br pb nb cb bs hnb 0 (p1 + 1) _ (by omega) hb (by have : dB (0 + 1) ≤ 6 := (by decide); omega); refine J9 rfl hcall (Pk.perm (by repeat (first | exact Pk.here | apply Pk.there))) rfl rfl (fun v Gn outs hleD hh => ?_); obtain ⟨pD, hpD1, hpD2, rfl, uD, cuD, rfl, hruD, husD, huhD⟩ := hh; have huaD := huhD.ar; obtain ⟨quD, duD, euD, rfl, _⟩ := hruD.open; have hdBD : dB (0 + 1) ≤ 6 := (by decide); replace hx := hx.mono hleD; replace hb := hb.mono hleD; replace hrt := hrt.mono hleD;)
 refine sE (A9 rfl) rfl (fun b273 => ?_)
 refine B4 ?_
 (obtain ⟨m, rfl⟩ := hfu.pos (.inl (by omega)); have hmB : mB (m + 1) = 3 * mB m + 200 := rfl; have hgm := A1L m; refine D7 D8 rfl ?_)
 refine I6 (i := 0) (l' := [tt,ff,ff,ff,ff,ff,ff,ff,ff,ff,ff,ff,ff,ff,ff,ff,ff,ff]) rfl D2 (qM rfl) rfl (by kernel_rfl) rfl rfl ?_
 refine aP 1 rfl (qM rfl) rfl ?_
 refine aL 2 rfl (A5 rfl rfl) rfl ?_
 refine aL 3 rfl (A5 rfl rfl) rfl ?_
 refine aP 4 rfl (qM rfl) rfl ?_
 refine aP 5 rfl (P4 rfl rfl (by omega) (by omega)) rfl ?_
 refine aP 7 rfl (qM rfl) rfl ?_
 refine aP 8 rfl (qM rfl) rfl ?_
 refine aP 9 rfl (qM rfl) rfl ?_
 refine aL 10 rfl (A5 rfl rfl) rfl ?_
 refine aP 12 rfl (qM rfl) rfl ?_
 refine aP 13 rfl (P4 rfl rfl (by omega) (by omega)) rfl ?_
 refine A2 6 ?_
 (have hcall := B2i br pb nb cb bs hnb m (ih m (by omega)) (depth - 1) uD (.mk k ks) (pD) _ pc nc cc _ _ (hfu.sub (by omega) hfu.1) (by omega) (by omega) (by omega) hx hruD ⟨huaD, by omega⟩ hrt hb (by omega); refine X2 (l' := [tt,tt,tt,tt,tt,tt,tt,tt,tt,tt,tt,ff,tt,tt,ff,ff,ff,ff]) rfl rfl hcall (Pk.perm (by repeat (first | exact Pk.here | apply Pk.there))) rfl rfl rfl (by repeat (first | exact A7.nil | apply A7.dep (by decide +kernel) | apply A7.im (by decide +kernel) hg0 (by repeat first | exact mH | apply mT) | apply A7.im (by decide +kernel) hg1 (by repeat first | exact mH | apply mT) | apply A7.blk (by decide +kernel) (by repeat (first | exact Pk.here | apply Pk.there)) (by repeat first | exact mH | apply mT))) (fun v Gn outs hlel hh => ?_); obtain ⟨pl, hpl1, hpl2, rfl, el, cl, rfl, hrl, hsml, hcl⟩ := hh; obtain ⟨l1, l2, l3, l4, l5, l6, l7, l8, l9, rfl⟩ := hrl.nine; replace hruD := hruD.mono hlel; replace hx := hx.mono hlel; replace hb := hb.mono hlel; replace hrt := hrt.mono hlel;)
 refine A2 11 ?_
 (have hcall := A5x br pb nb cb bs hnb uD (pl) _ _ huaD hruD hb (by omega); refine X2 (l' := [tt,tt,tt,tt,tt,tt,tt,tt,tt,tt,tt,tt,tt,tt,ff,ff,ff,ff]) rfl rfl hcall (Pk.perm (by repeat (first | exact Pk.here | apply Pk.there))) rfl rfl rfl (by repeat (first | exact A7.nil | apply A7.dep (by decide +kernel) | apply A7.im (by decide +kernel) hg0 (by repeat first | exact mH | apply mT) | apply A7.im (by decide +kernel) hg1 (by repeat first | exact mH | apply mT) | apply A7.blk (by decide +kernel) (by repeat (first | exact Pk.here | apply Pk.there)) (by repeat first | exact mH | apply mT))) (fun v Gn outs hleE hh => ?_); obtain ⟨pE, hpE1, hpE2, rfl, uE, cuE, rfl, hruE, huaE, husE, huhE⟩ := hh; obtain ⟨quE, duE, euE, rfl, _⟩ := hruE.open; replace hrl := hrl.mono hleE; replace hx := hx.mono hleE; replace hb := hb.mono hleE; replace hrt := hrt.mono hleE;)
 refine A2 14 ?_
 (have hcall := ih m (by omega) (depth - 1) uE pE _ pc nc cc _ (hfu.sub (by omega) (huhE 4 (huhD.le (by omega)))) (by omega) (by omega) (by omega) hx hruE hb (by omega); refine X2 (l' := [tt,tt,tt,tt,tt,tt,tt,tt,tt,tt,tt,tt,tt,tt,tt,ff,ff,ff]) rfl rfl hcall (Pk.perm (by repeat (first | exact Pk.here | apply Pk.there))) rfl rfl rfl (by repeat (first | exact A7.nil | apply A7.dep (by decide +kernel) | apply A7.im (by decide +kernel) hg0 (by repeat first | exact mH | apply mT) | apply A7.im (by decide +kernel) hg1 (by repeat first | exact mH | apply mT) | apply A7.blk (by decide +kernel) (by repeat (first | exact Pk.here | apply Pk.there)) (by repeat first | exact mH | apply mT))) (fun v Gn outs hled hh => ?_); obtain ⟨pd, hpd1, hpd2, rfl, ed, cd, rfl, hrd, hsmd, hcd⟩ := hh; obtain ⟨d1, d2, d3, d4, d5, d6, d7, d8, d9, rfl⟩ := hrd.nine; replace hrl := hrl.mono hled; replace hx := hx.mono hled; replace hb := hb.mono hled; replace hrt := hrt.mono hled;)
 refine A2 15 ?_
 (refine E2 rfl (D0 rfl rfl rfl (by omega) (by unfold maxLen; omega) rfl) rfl rfl ?_; rintro _ ⟨b298, rfl⟩)
 refine A2 16 ?_
 refine N6 rfl rfl ((A0I _ _ _ _ _)) rfl rfl rfl ?_
 refine A2 17 ?_
 refine Q8 rfl rfl rfl rfl rfl rfl rfl rfl (by decide +kernel) (by repeat first | exact Sw.here | apply Sw.there) (by rfl) ?_
 refine A4 ?_
 (refine H2 (cs := [l1, l2, l3, l4, l5, l6, l7, l8, l9] ++ [d1, d2, d3, d4, d5, d6, d7, d8, d9]) (by repeat (first | exact Pk.here | apply Pk.there)) (fun G9 hle9 hsl9 hno9 => ?_); have hN := A4Y (k := 6) (nm := ⟨⟨[]⟩⟩) ⟨by omega, by omega⟩ (hrl.mono hle9) (hrd.mono hle9) hsl9)
 refine A4 ?_
 refine A09 ?_
 refine H7 (outs := [rd br pb nb cb pd]) (rC rfl (A5 rfl rfl)) (by repeat (first | exact A1.nil | refine A1.cons Pk.here ?_ | refine A1.cons (Pk.there Pk.here) ?_ | refine A1.cons (Pk.there (Pk.there Pk.here)) ?_ | apply A1.drop)) ?_
 (exact ⟨pd, by omega, by omega, rfl, _, _, rfl, hN, by first | exact O4 (by first | assumption | decide) | exact A0L (by decide) (by assumption) (by assumption) (by assumption) | exact U2 (by decide) (by assumption) (by assumption) | exact L5 (by decide) R1 (by assumption) | exact L5 (by decide) har.small (by assumption) | exact L5 (by decide) R1 (U2 (by decide) (by assumption) (O4 (by decide))) | exact L5 (by decide) A0M (O4 (by decide)) | assumption, by simp only [D1, E8]; omega⟩)
 refine A8 ?_
 refine sB (qE rfl rfl) rfl rfl (fun h317 => ?_) (fun h317 => ?_)
 refine J2 ?_
 refine sP (P4 rfl rfl (by omega) (by omega)) rfl rfl ?_
 (have hpkq := hpk9; obtain ⟨m, rfl⟩ := hfu.pos (.inl (by omega)); have hmB : mB (m + 1) = 3 * mB m + 200 := rfl; have hgm := A1L m; have hcall := ih m (by omega) (depth - 1) (.mk k ks) (p1 + 1) _ pc nc cc _ (hfu.sub (by omega) hfu.1) (by omega) (by omega) (by omega) hx hrt hb (by omega); refine J9 rfl hcall (Pk.perm (by repeat (first | exact Pk.here | apply Pk.there))) rfl rfl (fun v Gn outs hleh hh => ?_); obtain ⟨ph, hph1, hph2, rfl, eh, ch, rfl, hrh, hsmh, hch⟩ := hh; obtain ⟨h1, h2, h3, h4, h5, h6, h7, h8, h9, rfl⟩ := hrh.nine; replace hx := hx.mono hleh; replace hb := hb.mono hleh; replace hrt := hrt.mono hleh;)
 refine H6 rfl ((A21 _ _)) rfl rfl ?_
 (refine I3 (D0 rfl rfl rfl (by omega) (by unfold maxLen; omega) rfl) rfl ?_; rintro _ ⟨b331, rfl⟩)
 refine H6 rfl ((A0I _ _ _ _ _)) rfl rfl ?_
 (refine I3 (D0 rfl rfl rfl (by omega) (by unfold maxLen; omega) rfl) rfl ?_; rintro _ ⟨b333, rfl⟩)
 refine H6 rfl ((A0I _ _ _ _ _)) rfl rfl ?_
 refine B9 ?_
 (refine H2 (cs := [h1, h2, h3, h4, h5, h6, h7, h8, h9] ++ [.int .i64 2, .string ⟨⟨[]⟩⟩, .int .i64 1, .int .i64 0, .slice none 0 0, .int .i64 0, .slice none 0 0, .int .i64 0, .slice none 0 0]) (by repeat (first | exact Pk.here | apply Pk.there)) (fun G8 hle8 hsl8 hno8 => ?_); have hNi := A4Y (k := 10) (nm := ⟨⟨[]⟩⟩) ⟨by omega, by omega⟩ (hrh.mono hle8) (A2F G8 ⟨⟨[]⟩⟩ 1 (k := 2) ⟨by omega, by omega⟩ ⟨by omega, by omega⟩) hsl8; refine H2 (by repeat (first | exact Pk.here | apply Pk.there)) (fun G9 hle9 hsl9 hno9 => ?_); have hN := A4X (k := 11) (nm := ⟨⟨[]⟩⟩) ⟨by omega, by omega⟩ (P1 G9 (k := 0) ⟨by omega, by omega⟩) (hNi.mono hle9) hsl9)
 refine A4 ?_
 refine A09 ?_
 refine H7 (outs := [rd br pb nb cb ph]) (rC rfl (A5 rfl rfl)) (by repeat (first | exact A1.nil | refine A1.cons Pk.here ?_ | refine A1.cons (Pk.there Pk.here) ?_ | refine A1.cons (Pk.there (Pk.there Pk.here)) ?_ | apply A1.drop)) ?_
 (exact ⟨ph, by omega, by omega, rfl, _, _, rfl, hN, by first | exact O4 (by first | assumption | decide) | exact A0L (by decide) (by assumption) (by assumption) (by assumption) | exact U2 (by decide) (by assumption) (by assumption) | exact L5 (by decide) R1 (by assumption) | exact L5 (by decide) har.small (by assumption) | exact L5 (by decide) R1 (U2 (by decide) (by assumption) (O4 (by decide))) | exact L5 (by decide) A0M (O4 (by decide)) | assumption, by simp only [D1, E8]; omega⟩)
 refine A8 ?_
 refine A40 (p1 + 1, Gp) (M4 (by repeat (first | exact E7.nil | refine E7.cons rfl ?_)) (by repeat (first | exact A1.refl | exact A1.nil | refine A1.cons (by repeat (first | exact Pk.here | apply Pk.there)) ?_ | apply A1.drop))) ⟨C4.refl _, by dsimp only; omega, by dsimp only; omega⟩
 refine tK ?_
 refine A40 (p1, G1) (M4 (by repeat (first | exact E7.nil | refine E7.cons rfl ?_)) (by repeat (first | exact A1.refl | exact A1.nil | refine A1.cons (by repeat (first | exact Pk.here | apply Pk.there)) ?_ | apply A1.drop))) ⟨C4.refl _, by dsimp only; omega, by dsimp only; omega⟩
 (rintro ⟨(p2 : Nat), G2⟩ ⟨hle2c, hp2a, hp2b⟩; simp only [] at hle2c hp2a hp2b ⊢; have hcut1 := hp2a; replace hx := hx.mono hle2c; replace hb := hb.mono hle2c; replace hrt := hrt.mono hle2c;)
 refine B7 ?_
 (show J3 _ _ (.block 3 ..) _ _; refine B2j (fun (x : Nat × IM) => ⟨[(0, .pointer (some ⟨br, 0, none⟩)), (1, .slice pc nc cc), (3, .int .i64 depth), (6, .pointer (some ⟨b3, 0, none⟩)), (8, .pointer (some ⟨b4, 0, none⟩))], [rd br pb nb cb x.1, .blk b4 [.int .i64 0, .string ⟨⟨[]⟩⟩, .int .i64 0, .int .i64 0, .slice none 0 0, .int .i64 0, .slice none 0 0, .int .i64 0, .slice none 0 0], .blk b3 [.int .i64 k, .slice q ks.length c]], x.2⟩) (fun x => C4 G2 x.2 ∧ p2 ≤ x.1 ∧ x.1 ≤ p2 + 2) ?_ ?_)
 refine C5 (tS (tR (sB (qE rfl rfl) rfl rfl (fun h365 => ?_) (fun h365 => ?_))))
 refine D4 ?_
 refine sB (A0g rfl rfl) rfl rfl (fun h374 => ?_) (fun h374 => ?_)
 refine A4 ?_
 (have hkk3 : k = 3 := (by omega); refine J9 rfl (Z1 _ br pb nb cb (p2) bs 2 hb hnb (by omega)) (Pk.perm (by repeat (first | exact Pk.here | apply Pk.there))) rfl rfl (fun v Gp outs hle377 hh => ?_); obtain ⟨rfl, rfl, j377, rfl, hj377, hk377⟩ := hh; have hpk22 := hj377)
 replace hb := hb.mono hle377
 replace hrt := hrt.mono hle377
 refine sB (qE rfl rfl) rfl rfl (fun h378 => ?_) (fun h378 => ?_)
 refine D4 ?_
 refine H6 rfl ((A0H _)) rfl rfl ?_
 refine F8 ?_
 refine sP (P4 rfl rfl (by omega) (by omega)) rfl rfl ?_
 (have hkk3q := hkk3; obtain ⟨m, rfl⟩ := hfu.pos (.inl (by omega)); have hmB : mB (m + 1) = 3 * mB m + 200 := rfl; have hgm := A1L m; have hcall := ih m (by omega) (depth - 1) (.mk 2 []) (p2 + 1) _ pc nc cc _ (hfu.sub (by omega) (A3z 4 (by decide) (by decide))) (by omega) (by omega) (by omega) hx (P1 _ ⟨by omega, by omega⟩) hb (by omega); refine J9 rfl hcall (Pk.perm (by repeat (first | exact Pk.here | apply Pk.there))) rfl rfl (fun v Gn outs hlen hh => ?_); obtain ⟨pn, hpn1, hpn2, rfl, en, cn, rfl, hrn, hsmn, hcn⟩ := hh; obtain ⟨n1, n2, n3, n4, n5, n6, n7, n8, n9, rfl⟩ := hrn.nine; replace hx := hx.mono hlen; replace hb := hb.mono hlen; replace hrt := hrt.mono hlen;)
 refine A4 ?_
 refine H6 rfl ((A0H _)) rfl rfl ?_
 refine F8 ?_
 refine sP (P4 rfl rfl (by omega) (by omega)) rfl rfl ?_
 (have hcall := ih m (by omega) (depth - 1) (.mk 2 []) pn _ pc nc cc _ (hfu.sub (by omega) (A3z 4 (by decide) (by decide))) (by omega) (by omega) (by omega) hx (P1 _ ⟨by omega, by omega⟩) hb (by omega); refine J9 rfl hcall (Pk.perm (by repeat (first | exact Pk.here | apply Pk.there))) rfl rfl (fun v Gn outs hleo hh => ?_); obtain ⟨po, hpo1, hpo2, rfl, eo, co, rfl, hro, hsmo, hco⟩ := hh; obtain ⟨o1, o2, o3, o4, o5, o6, o7, o8, o9, rfl⟩ := hro.nine; replace hrn := hrn.mono hleo; replace hx := hx.mono hleo; replace hb := hb.mono hleo; replace hrt := hrt.mono hleo;)
 (refine I3 (D0 rfl rfl rfl (by omega) (by unfold maxLen; omega) rfl) rfl ?_; rintro _ ⟨b397, rfl⟩)
 refine H6 rfl ((A0I _ _ _ _ _)) rfl rfl ?_
 refine B9 ?_
 (refine H2 (cs := [n1, n2, n3, n4, n5, n6, n7, n8, n9] ++ [o1, o2, o3, o4, o5, o6, o7, o8, o9]) (by repeat (first | exact Pk.here | apply Pk.there)) (fun G9 hle9 hsl9 hno9 => ?_); have hN := A4Y (k := 8) (nm := ⟨⟨[]⟩⟩) ⟨by omega, by omega⟩ (hrn.mono hle9) (hro.mono hle9) hsl9)
 refine B9 ?_
 refine A09 ?_
 refine H7 (outs := [rd br pb nb cb po]) (rC rfl (A5 rfl rfl)) (by repeat (first | exact A1.nil | refine A1.cons Pk.here ?_ | refine A1.cons (Pk.there Pk.here) ?_ | refine A1.cons (Pk.there (Pk.there Pk.here)) ?_ | apply A1.drop)) ?_
 (exact ⟨po, by omega, by omega, rfl, _, _, rfl, hN, by first | exact O4 (by first | assumption | decide) | exact A0L (by decide) (by assumption) (by assumption) (by assumption) | exact U2 (by decide) (by assumption) (by assumption) | exact L5 (by decide) R1 (by assumption) | exact L5 (by decide) har.small (by assumption) | exact L5 (by decide) R1 (U2 (by decide) (by assumption) (O4 (by decide))) | exact L5 (by decide) A0M (O4 (by decide)) | assumption, by simp only [D1, E8]; omega⟩)
 refine J5 ?_
 refine A09 ?_
 refine H7 (outs := [rd br pb nb cb (p2 + 1)]) (rC rfl (A5 rfl rfl)) (by repeat (first | exact A1.nil | refine A1.cons Pk.here ?_ | refine A1.cons (Pk.there Pk.here) ?_ | refine A1.cons (Pk.there (Pk.there Pk.here)) ?_ | apply A1.drop)) ?_
 (exact ⟨(p2 + 1), by omega, by omega, rfl, _, _, rfl, A2F _ _ _ ⟨by omega, by omega⟩ (by first | exact ⟨by omega, by omega⟩ | exact hkn), by first | exact O4 (by first | assumption | decide) | exact A0L (by decide) (by assumption) (by assumption) (by assumption) | exact U2 (by decide) (by assumption) (by assumption) | exact L5 (by decide) R1 (by assumption) | exact L5 (by decide) har.small (by assumption) | exact L5 (by decide) R1 (U2 (by decide) (by assumption) (O4 (by decide))) | exact L5 (by decide) A0M (O4 (by decide)) | assumption, by simp only [D1, E8]; omega⟩)
 refine V1 ?_
 refine A09 ?_
 refine H7 (outs := [rd br pb nb cb p2]) (rC rfl (A5 rfl rfl)) (by repeat (first | exact A1.nil | refine A1.cons Pk.here ?_ | refine A1.cons (Pk.there Pk.here) ?_ | refine A1.cons (Pk.there (Pk.there Pk.here)) ?_ | apply A1.drop)) ?_
 (exact ⟨p2, by omega, by omega, rfl, _, _, rfl, A2F _ _ _ ⟨by omega, by omega⟩ (by first | exact ⟨by omega, by omega⟩ | exact hkn), by first | exact O4 (by first | assumption | decide) | exact A0L (by decide) (by assumption) (by assumption) (by assumption) | exact U2 (by decide) (by assumption) (by assumption) | exact L5 (by decide) R1 (by assumption) | exact L5 (by decide) har.small (by assumption) | exact L5 (by decide) R1 (U2 (by decide) (by assumption) (O4 (by decide))) | exact L5 (by decide) A0M (O4 (by decide)) | assumption, by simp only [D1, E8]; omega⟩)
 refine A8 ?_
 refine sB (qE rfl rfl) rfl rfl (fun h453 => ?_) (fun h453 => ?_)
 refine B0 ?_
 (have hk45 : k = 4 ∨ k = 5 := (by omega); have hl2 := hops hk45; obtain ⟨m, rfl⟩ := hfu.pos (.inr hk45); have hmB : mB (m + 1) = 3 * mB m + 200 := rfl; have hgm := A1L m; obtain ⟨es9, hsl, hkl⟩ := hrt.kidsM; obtain ⟨b0, o0, q0, d0, hp0, hat0, hre0, hg0⟩ := hsl.kidTy hkl (i := 0) (by omega) (by omega); obtain ⟨b1, o1, q1, d1, hp1, hat1, hre1, hg1⟩ := hsl.kidTy hkl (i := 1) (by omega) (by omega); cases hp0; cases hp1; have hmem0 := List.getElem_mem (l := ks) (n := 0) (by omega); have hmem1 := List.getElem_mem (l := ks) (n := 1) (by omega); refine D7 D8 rfl ?_)
 refine I6 (i := 0) (l' := [tt,ff,ff,ff,ff,ff,ff,ff,ff,ff,ff,ff,ff,ff]) rfl D2 (qM rfl) rfl (by kernel_rfl) rfl rfl ?_
 refine aP 1 rfl (qM rfl) rfl ?_
 refine aP 2 rfl (B8 rfl) rfl ?_
 refine aL 3 rfl (C7 rfl rfl) rfl ?_
 refine aP 4 rfl (B5 (j := 0) rfl rfl rfl (by omega)) rfl ?_
 refine aL 5 rfl (A3 rfl rfl (hat0 _) rfl) rfl ?_
 refine aP 6 rfl (B8 rfl) rfl ?_
 refine aL 7 rfl (C7 rfl rfl) rfl ?_
 refine aP 8 rfl (B5 (j := 1) rfl rfl rfl (by omega)) rfl ?_
 refine aL 9 rfl (A3 rfl rfl (hat1 _) rfl) rfl ?_
 refine aP 10 rfl (qM rfl) rfl ?_
 refine aP 11 rfl (P4 rfl rfl (by omega) (by omega)) rfl ?_
 refine A2 12 ?_
 (have hcall := B2i br pb nb cb bs hnb m (ih m (by omega)) (depth - 1) ks[0] ks[1] (p2) _ pc nc cc _ _ (hfu.kid hmem1) (by omega) (by omega) (by omega) hx hre0 ⟨har.kid _ hmem0, by have := B4R (k := k) hmem0; omega⟩ hre1 hb (by omega); refine X2 (l' := [tt,tt,tt,tt,tt,tt,tt,tt,tt,tt,tt,tt,tt,ff]) rfl rfl hcall (Pk.perm (by repeat (first | exact Pk.here | apply Pk.there))) rfl rfl rfl (by repeat (first | exact A7.nil | apply A7.dep (by decide +kernel) | apply A7.im (by decide +kernel) hg0 (by repeat first | exact mH | apply mT) | apply A7.im (by decide +kernel) hg1 (by repeat first | exact mH | apply mT) | apply A7.blk (by decide +kernel) (by repeat (first | exact Pk.here | apply Pk.there)) (by repeat first | exact mH | apply mT))) (fun v Gn outs hlek hh => ?_); obtain ⟨pk, hpk1, hpk2, rfl, ek, ck, rfl, hrk, hsmk, hck⟩ := hh; obtain ⟨k1, k2, k3, k4, k5, k6, k7, k8, k9, rfl⟩ := hrk.nine; replace hx := hx.mono hlek; replace hb := hb.mono hlek; replace hrt := hrt.mono hlek;)
 refine A2 13 ?_
 refine Q8 rfl rfl rfl rfl rfl hrk.one rfl rfl (by kernel_rfl) (by repeat first | exact Sw.here | apply Sw.there) (by rfl) ?_
 refine B4 ?_
 refine A09 ?_
 refine H7 (outs := [rd br pb nb cb pk]) (rC rfl (A5 rfl rfl)) (by repeat (first | exact A1.nil | refine A1.cons Pk.here ?_ | refine A1.cons (Pk.there Pk.here) ?_ | refine A1.cons (Pk.there (Pk.there Pk.here)) ?_ | apply A1.drop)) ?_
 (exact ⟨pk, by omega, by omega, rfl, _, _, rfl, hrk, hsmk, by omega⟩)
 refine A8 ?_
 refine sB (qE rfl rfl) rfl rfl (fun h489 => ?_) (fun h489 => ?_)
 refine B0 ?_
 (have hk45 : k = 4 ∨ k = 5 := (by omega); have hl2 := hops hk45; obtain ⟨m, rfl⟩ := hfu.pos (.inr hk45); have hmB : mB (m + 1) = 3 * mB m + 200 := rfl; have hgm := A1L m; obtain ⟨es9, hsl, hkl⟩ := hrt.kidsM; obtain ⟨b0, o0, q0, d0, hp0, hat0, hre0, hg0⟩ := hsl.kidTy hkl (i := 0) (by omega) (by omega); obtain ⟨b1, o1, q1, d1, hp1, hat1, hre1, hg1⟩ := hsl.kidTy hkl (i := 1) (by omega) (by omega); cases hp0; cases hp1; have hmem0 := List.getElem_mem (l := ks) (n := 0) (by omega); have hmem1 := List.getElem_mem (l := ks) (n := 1) (by omega); refine D7 D8 rfl ?_)
 refine I6 (i := 0) (l' := [tt,ff,ff,ff,ff,ff,ff,ff,ff,ff,ff,ff,ff,ff,ff,ff,ff,ff,ff,ff,ff]) rfl D2 (qM rfl) rfl (by kernel_rfl) rfl rfl ?_
 refine aP 1 rfl (qM rfl) rfl ?_
 refine aP 2 rfl (B8 rfl) rfl ?_
 refine aL 3 rfl (C7 rfl rfl) rfl ?_
 refine aP 4 rfl (B5 (j := 0) rfl rfl rfl (by omega)) rfl ?_
 refine aL 5 rfl (A3 rfl rfl (hat0 _) rfl) rfl ?_
 refine aP 6 rfl (qM rfl) rfl ?_
 refine aP 7 rfl (P4 rfl rfl (by omega) (by omega)) rfl ?_
 refine aP 9 rfl (qM rfl) rfl ?_
 refine aP 10 rfl (qM rfl) rfl ?_
 refine aP 11 rfl (B8 rfl) rfl ?_
 refine aL 12 rfl (C7 rfl rfl) rfl ?_
 refine aP 13 rfl (B5 (j := 1) rfl rfl rfl (by omega)) rfl ?_
 refine aL 14 rfl (A3 rfl rfl (hat1 _) rfl) rfl ?_
 refine aP 15 rfl (qM rfl) rfl ?_
 refine aP 16 rfl (P4 rfl rfl (by omega) (by omega)) rfl ?_
 refine A2 8 ?_
 (have hcall := ih m (by omega) (depth - 1) ks[0] p2 _ pc nc cc _ (hfu.kid hmem0) (by omega) (by omega) (by omega) hx hre0 hb (by omega); refine X2 (l' := [tt,tt,tt,tt,tt,tt,tt,tt,tt,tt,tt,tt,tt,tt,tt,tt,tt,ff,ff,ff,ff]) rfl rfl hcall (Pk.perm (by repeat (first | exact Pk.here | apply Pk.there))) rfl rfl rfl (by repeat (first | exact A7.nil | apply A7.dep (by decide +kernel) | apply A7.im (by decide +kernel) hg0 (by repeat first | exact mH | apply mT) | apply A7.im (by decide +kernel) hg1 (by repeat first | exact mH | apply mT) | apply A7.blk (by decide +kernel) (by repeat (first | exact Pk.here | apply Pk.there)) (by repeat first | exact mH | apply mT))) (fun v Gn outs hles hh => ?_); obtain ⟨ps, hps1, hps2, rfl, es, cs, rfl, hrs, hsms, hcs⟩ := hh; obtain ⟨s1, s2, s3, s4, s5, s6, s7, s8, s9, rfl⟩ := hrs.nine; replace hre1 := hre1.mono hles; replace hx := hx.mono hles; replace hb := hb.mono hles; replace hrt := hrt.mono hles;)
 refine A2 17 ?_
 (have hcall := ih m (by omega) (depth - 1) ks[1] ps _ pc nc cc _ (hfu.kid hmem1) (by omega) (by omega) (by omega) hx hre1 hb (by omega); refine X2 (l' := [tt,tt,tt,tt,tt,tt,tt,tt,tt,tt,tt,tt,tt,tt,tt,tt,tt,tt,ff,ff,ff]) rfl rfl hcall (Pk.perm (by repeat (first | exact Pk.here | apply Pk.there))) rfl rfl rfl (by repeat (first | exact A7.nil | apply A7.dep (by decide +kernel) | apply A7.im (by decide +kernel) hg0 (by repeat first | exact mH | apply mT) | apply A7.im (by decide +kernel) hg1 (by repeat first | exact mH | apply mT) | apply A7.blk (by decide +kernel) (by repeat (first | exact Pk.here | apply Pk.there)) (by repeat first | exact mH | apply mT))) (fun v Gn outs hlew hh => ?_); obtain ⟨pw, hpw1, hpw2, rfl, ew, cw, rfl, hrw, hsmw, hcw⟩ := hh; obtain ⟨w1, w2, w3, w4, w5, w6, w7, w8, w9, rfl⟩ := hrw.nine; replace hrs := hrs.mono hlew; replace hx := hx.mono hlew; replace hb := hb.mono hlew; replace hrt := hrt.mono hlew;)
 refine A2 18 ?_
 (refine E2 rfl (D0 rfl rfl rfl (by omega) (by unfold maxLen; omega) rfl) rfl rfl ?_; rintro _ ⟨b517, rfl⟩)
 refine A2 19 ?_
 refine N6 rfl rfl ((A0I _ _ _ _ _)) rfl rfl rfl ?_
 refine A2 20 ?_
 refine Q8 rfl rfl rfl rfl rfl rfl rfl rfl (by decide +kernel) (by repeat first | exact Sw.here | apply Sw.there) (by rfl) ?_
 refine A4 ?_
 (refine H2 (cs := [s1, s2, s3, s4, s5, s6, s7, s8, s9] ++ [w1, w2, w3, w4, w5, w6, w7, w8, w9]) (by repeat (first | exact Pk.here | apply Pk.there)) (fun G9 hle9 hsl9 hno9 => ?_); have hN := A4Y (k := 10) (nm := ⟨⟨[]⟩⟩) ⟨by omega, by omega⟩ (hrs.mono hle9) (hrw.mono hle9) hsl9)
 refine A4 ?_
 refine A09 ?_
 refine H7 (outs := [rd br pb nb cb pw]) (rC rfl (A5 rfl rfl)) (by repeat (first | exact A1.nil | refine A1.cons Pk.here ?_ | refine A1.cons (Pk.there Pk.here) ?_ | refine A1.cons (Pk.there (Pk.there Pk.here)) ?_ | apply A1.drop)) ?_
 (exact ⟨pw, by omega, by omega, rfl, _, _, rfl, hN, by first | exact O4 (by first | assumption | decide) | exact A0L (by decide) (by assumption) (by assumption) (by assumption) | exact U2 (by decide) (by assumption) (by assumption) | exact L5 (by decide) R1 (by assumption) | exact L5 (by decide) har.small (by assumption) | exact L5 (by decide) R1 (U2 (by decide) (by assumption) (O4 (by decide))) | exact L5 (by decide) A0M (O4 (by decide)) | assumption, by simp only [D1, E8]; omega⟩)
 refine A8 ?_
 refine sB (qE rfl rfl) rfl rfl (fun h536 => ?_) (fun h536 => ?_)
 refine D4 ?_
 refine sB (A0g rfl rfl) rfl rfl (fun h545 => ?_) (fun h545 => ?_)
 refine A4 ?_
 (have hkk1 : k = 1 := (by omega); refine J9 rfl (Z1 _ br pb nb cb (p2) bs 3 hb hnb (by omega)) (Pk.perm (by repeat (first | exact Pk.here | apply Pk.there))) rfl rfl (fun v Gp outs hle548 hh => ?_); obtain ⟨rfl, rfl, j548, rfl, hj548, hk548⟩ := hh; have hpk23 := hj548)
 replace hb := hb.mono hle548
 replace hrt := hrt.mono hle548
 refine sB (qE rfl rfl) rfl rfl (fun h549 => ?_) (fun h549 => ?_)
 refine E1 ?_
 (have hcall := A4v br pb nb cb bs hnb 1 (p2 + 1) _ (by omega) hb (by have : dB (1 + 1) ≤ 6 := (by decide); omega); refine J9 rfl hcall (Pk.perm (by repeat (first | exact Pk.here | apply Pk.there))) rfl rfl (fun v Gn outs hleF hh => ?_); obtain ⟨pF, hpF1, hpF2, rfl, uF, cuF, rfl, hruF, husF, huhF⟩ := hh; have huaF := huhF.ar; obtain ⟨quF, duF, euF, rfl, _⟩ := hruF.open; have hdBF : dB (1 + 1) ≤ 6 := (by decide); replace hx := hx.mono hleF; replace hb := hb.mono hleF; replace hrt := hrt.mono hleF;)
 refine F8 ?_
 refine sP (P4 rfl rfl (by omega) (by omega)) rfl rfl ?_
 (obtain ⟨m, rfl⟩ := hfu.pos (.inl (by omega)); have hmB : mB (m + 1) = 3 * mB m + 200 := rfl; have hgm := A1L m; have hcall := ih m (by omega) (depth - 1) uF pF _ pc nc cc _ (hfu.sub (by omega) (huhF.le (by omega))) (by omega) (by omega) (by omega) hx hruF hb (by omega); refine J9 rfl hcall (Pk.perm (by repeat (first | exact Pk.here | apply Pk.there))) rfl rfl (fun v Gn outs hlex hh => ?_); obtain ⟨px, hpx1, hpx2, rfl, ex, cx, rfl, hrx, hsmx, hcx⟩ := hh; obtain ⟨x1, x2, x3, x4, x5, x6, x7, x8, x9, rfl⟩ := hrx.nine; replace hx := hx.mono hlex; replace hb := hb.mono hlex; replace hrt := hrt.mono hlex;)
 refine sS rfl rfl rfl rfl hrx.one rfl ?_
 refine B0 ?_
 refine A09 ?_
 refine H7 (outs := [rd br pb nb cb px]) (rC rfl (A5 rfl rfl)) (by repeat (first | exact A1.nil | refine A1.cons Pk.here ?_ | refine A1.cons (Pk.there Pk.here) ?_ | refine A1.cons (Pk.there (Pk.there Pk.here)) ?_ | apply A1.drop)) ?_
 (exact ⟨px, by omega, by omega, rfl, _, _, rfl, hrx, hsmx, by omega⟩)
 refine E1 ?_
 (refine J9 rfl (Z1 _ br pb nb cb (p2 + 1) bs 3 hb hnb (by omega)) (Pk.perm (by repeat (first | exact Pk.here | apply Pk.there))) rfl rfl (fun v Gp outs hle581 hh => ?_); obtain ⟨rfl, rfl, j581, rfl, hj581, hk581⟩ := hh; have hpk21 := hj581)
 replace hb := hb.mono hle581
 replace hrt := hrt.mono hle581
 refine sB (qE rfl rfl) rfl rfl (fun h582 => ?_) (fun h582 => ?_)
 refine B0 ?_
 refine H6 rfl ((A17 _)) rfl rfl ?_
 refine F8 ?_
 (refine I3 (D0 rfl rfl rfl (by omega) (by unfold maxLen; omega) rfl) rfl ?_; rintro _ ⟨b590, rfl⟩)
 refine B4 ?_
 (refine H2 (cs := [.int .i64 4, .string ⟨⟨[]⟩⟩, .int .i64 0, .int .i64 0, .slice none 0 0, .int .i64 0, .slice none 0 0, .int .i64 0, .slice none 0 0]) (by repeat (first | exact Pk.here | apply Pk.there)) (fun G9 hle9 hsl9 hno9 => ?_); have hN := A4X (k := 13) (nm := ⟨⟨[]⟩⟩) ⟨by omega, by omega⟩ (A0Q _) (A2F G9 ⟨⟨[]⟩⟩ 0 (k := 4) ⟨by omega, by omega⟩ ⟨by omega, by omega⟩) hsl9)
 refine A4 ?_
 refine A09 ?_
 refine H7 (outs := [rd br pb nb cb (p2 + 1 + 1)]) (rC rfl (A5 rfl rfl)) (by repeat (first | exact A1.nil | refine A1.cons Pk.here ?_ | refine A1.cons (Pk.there Pk.here) ?_ | refine A1.cons (Pk.there (Pk.there Pk.here)) ?_ | apply A1.drop)) ?_
 (exact ⟨(p2 + 1 + 1), by omega, by omega, rfl, _, _, rfl, hN, by first | exact O4 (by first | assumption | decide) | exact A0L (by decide) (by assumption) (by assumption) (by assumption) | exact U2 (by decide) (by assumption) (by assumption) | exact L5 (by decide) R1 (by assumption) | exact L5 (by decide) har.small (by assumption) | exact L5 (by decide) R1 (U2 (by decide) (by assumption) (O4 (by decide))) | exact L5 (by decide) A0M (O4 (by decide)) | assumption, by simp only [D1, E8]; omega⟩)
 refine B0 ?_
 refine A40 (p2 + 1 + 1, Gp) (M4 (by repeat (first | exact E7.nil | refine E7.cons rfl ?_)) (by repeat (first | exact A1.refl | exact A1.nil | refine A1.cons (by repeat (first | exact Pk.here | apply Pk.there)) ?_ | apply A1.drop))) ⟨C4.refl _, by dsimp only; omega, by dsimp only; omega⟩
 refine K4 ?_
 (have hkk1 : k = 1 := (by omega); refine J9 rfl (Z1 _ br pb nb cb (p2) bs 3 hb hnb (by omega)) (Pk.perm (by repeat (first | exact Pk.here | apply Pk.there))) rfl rfl (fun v Gp outs hle620 hh => ?_); obtain ⟨rfl, rfl, j620, rfl, hj620, hk620⟩ := hh; have hpk23 := hj620)
 replace hb := hb.mono hle620
 replace hrt := hrt.mono hle620
 refine sB (qE rfl rfl) rfl rfl (fun h621 => ?_) (fun h621 => ?_)
 refine B0 ?_
 refine H6 rfl ((A17 _)) rfl rfl ?_
 refine F8 ?_
 (refine I3 (D0 rfl rfl rfl (by omega) (by unfold maxLen; omega) rfl) rfl ?_; rintro _ ⟨b629, rfl⟩)
 refine B4 ?_
 (refine H2 (cs := [.int .i64 4, .string ⟨⟨[]⟩⟩, .int .i64 0, .int .i64 0, .slice none 0 0, .int .i64 0, .slice none 0 0, .int .i64 0, .slice none 0 0]) (by repeat (first | exact Pk.here | apply Pk.there)) (fun G9 hle9 hsl9 hno9 => ?_); have hN := A4X (k := 13) (nm := ⟨⟨[]⟩⟩) ⟨by omega, by omega⟩ (A0Q _) (A2F G9 ⟨⟨[]⟩⟩ 0 (k := 4) ⟨by omega, by omega⟩ ⟨by omega, by omega⟩) hsl9)
 refine A4 ?_
 refine A09 ?_
 refine H7 (outs := [rd br pb nb cb (p2 + 1)]) (rC rfl (A5 rfl rfl)) (by repeat (first | exact A1.nil | refine A1.cons Pk.here ?_ | refine A1.cons (Pk.there Pk.here) ?_ | refine A1.cons (Pk.there (Pk.there Pk.here)) ?_ | apply A1.drop)) ?_
 (exact ⟨(p2 + 1), by omega, by omega, rfl, _, _, rfl, hN, by first | exact O4 (by first | assumption | decide) | exact A0L (by decide) (by assumption) (by assumption) (by assumption) | exact U2 (by decide) (by assumption) (by assumption) | exact L5 (by decide) R1 (by assumption) | exact L5 (by decide) har.small (by assumption) | exact L5 (by decide) R1 (U2 (by decide) (by assumption) (O4 (by decide))) | exact L5 (by decide) A0M (O4 (by decide)) | assumption, by simp only [D1, E8]; omega⟩)
 refine B0 ?_
 refine A40 (p2 + 1, Gp) (M4 (by repeat (first | exact E7.nil | refine E7.cons rfl ?_)) (by repeat (first | exact A1.refl | exact A1.nil | refine A1.cons (by repeat (first | exact Pk.here | apply Pk.there)) ?_ | apply A1.drop))) ⟨C4.refl _, by dsimp only; omega, by dsimp only; omega⟩
 refine A8 ?_
 refine A40 (p2, G2) (M4 (by repeat (first | exact E7.nil | refine E7.cons rfl ?_)) (by repeat (first | exact A1.refl | exact A1.nil | refine A1.cons (by repeat (first | exact Pk.here | apply Pk.there)) ?_ | apply A1.drop))) ⟨C4.refl _, by dsimp only; omega, by dsimp only; omega⟩
 (have hq := hcut1; rintro ⟨(p5 : Nat), G5⟩ ⟨hle5c, hp5a, hp5b⟩; simp only [] at hle5c hp5a hp5b ⊢; have hcut2 := hp5a; replace hx := hx.mono hle5c; replace hb := hb.mono hle5c; replace hrt := hrt.mono hle5c;)
 refine B4 ?_
 refine sB (A0g rfl rfl) rfl rfl (fun h658 => ?_) (fun h658 => ?_)
 refine A4 ?_
 (refine J9 rfl (Z1 _ br pb nb cb (p5) bs 2 hb hnb (by omega)) (Pk.perm (by repeat (first | exact Pk.here | apply Pk.there))) rfl rfl (fun v Gp outs hle661 hh => ?_); obtain ⟨rfl, rfl, j661, rfl, hj661, hk661⟩ := hh; have hpk5 := hj661)
 replace hb := hb.mono hle661
 replace hrt := hrt.mono hle661
 refine sB (qE rfl rfl) rfl rfl (fun h662 => ?_) (fun h662 => ?_)
 refine E1 ?_
 refine H6 rfl ((A0H _)) rfl rfl ?_
 (have hz2 : K7 (.mk 2 []) = 0 := rfl; have hcall := A5x br pb nb cb bs hnb (.mk 2 []) (p5 + 1) _ _ (X6 (by decide) (by decide)) (P1 _ ⟨by omega, by omega⟩) hb (by omega); refine J9 rfl hcall (Pk.perm (by repeat (first | exact Pk.here | apply Pk.there))) rfl rfl (fun v Gn outs hleG hh => ?_); obtain ⟨pG, hpG1, hpG2, rfl, uG, cuG, rfl, hruG, huaG, husG, huhG⟩ := hh; obtain ⟨quG, duG, euG, rfl, _⟩ := hruG.open; replace hx := hx.mono hleG; replace hb := hb.mono hleG; replace hrt := hrt.mono hleG;)
 refine F8 ?_
 refine sP (P4 rfl rfl (by omega) (by omega)) rfl rfl ?_
 (obtain ⟨m, rfl⟩ := hfu.pos (.inl (by omega)); have hmB : mB (m + 1) = 3 * mB m + 200 := rfl; have hgm := A1L m; have hcall := ih m (by omega) (depth - 1) uG pG _ pc nc cc _ (hfu.sub (by omega) (huhG 4 (A3z 4 (by decide) (by decide)))) (by omega) (by omega) (by omega) hx hruG hb (by omega); refine J9 rfl hcall (Pk.perm (by repeat (first | exact Pk.here | apply Pk.there))) rfl rfl (fun v Gn outs hley hh => ?_); obtain ⟨py, hpy1, hpy2, rfl, ey, cy, rfl, hry, hsmy, hcy⟩ := hh; obtain ⟨y1, y2, y3, y4, y5, y6, y7, y8, y9, rfl⟩ := hry.nine; replace hx := hx.mono hley; replace hb := hb.mono hley; replace hrt := hrt.mono hley;)
 refine A4 ?_
 refine H6 rfl ((A0H _)) rfl rfl ?_
 refine F8 ?_
 refine sP (P4 rfl rfl (by omega) (by omega)) rfl rfl ?_
 (have hcall := ih m (by omega) (depth - 1) (.mk 2 []) py _ pc nc cc _ (hfu.sub (by omega) (A3z 4 (by decide) (by decide))) (by omega) (by omega) (by omega) hx (P1 _ ⟨by omega, by omega⟩) hb (by omega); refine J9 rfl hcall (Pk.perm (by repeat (first | exact Pk.here | apply Pk.there))) rfl rfl (fun v Gn outs hlec hh => ?_); obtain ⟨pc, hpc1, hpc2, rfl, ec, cc, rfl, hrc, hsmc, hcc⟩ := hh; obtain ⟨c1, c2, c3, c4, c5, c6, c7, c8, c9, rfl⟩ := hrc.nine; replace hry := hry.mono hlec; replace hx := hx.mono hlec; replace hb := hb.mono hlec; replace hrt := hrt.mono hlec;)
 (refine I3 (D0 rfl rfl rfl (by omega) (by unfold maxLen; omega) rfl) rfl ?_; rintro _ ⟨b683, rfl⟩)
 refine H6 rfl ((A0I _ _ _ _ _)) rfl rfl ?_
 refine B9 ?_
 (refine H2 (cs := [y1, y2, y3, y4, y5, y6, y7, y8, y9] ++ [c1, c2, c3, c4, c5, c6, c7, c8, c9]) (by repeat (first | exact Pk.here | apply Pk.there)) (fun G9 hle9 hsl9 hno9 => ?_); have hN := A4Y (k := 7) (nm := ⟨⟨[]⟩⟩) ⟨by omega, by omega⟩ (hry.mono hle9) (hrc.mono hle9) hsl9)
 refine A4 ?_
 refine H7 (outs := [rd br pb nb cb pc]) (rC rfl (A5 rfl rfl)) (by repeat (first | exact A1.nil | refine A1.cons Pk.here ?_ | refine A1.cons (Pk.there Pk.here) ?_ | refine A1.cons (Pk.there (Pk.there Pk.here)) ?_ | apply A1.drop)) ?_
 (exact ⟨pc, by omega, by omega, rfl, _, _, rfl, hN, by first | exact O4 (by first | assumption | decide) | exact A0L (by decide) (by assumption) (by assumption) (by assumption) | exact U2 (by decide) (by assumption) (by assumption) | exact L5 (by decide) R1 (by assumption) | exact L5 (by decide) har.small (by assumption) | exact L5 (by decide) R1 (U2 (by decide) (by assumption) (O4 (by decide))) | exact L5 (by decide) A0M (O4 (by decide)) | assumption, by simp only [D1, E8]; omega⟩)
 refine E1 ?_
 (refine I3 (D0 rfl rfl rfl (by omega) (by unfold maxLen; omega) rfl) rfl ?_; rintro _ ⟨b702, rfl⟩)
 (refine U6 (by repeat (first | exact Pk.here | apply Pk.there)) (fun G4 hle4 hsl4 _ => ?_); refine J9 rfl (A0m G4 br pb nb cb (p5 + 1) bs _ _ _ _ (hb.mono hle4) hnb (by omega) hsl4 (by decide)) (Pk.perm (by repeat (first | exact Pk.here | apply Pk.there))) rfl rfl (fun v G7 outs hle7 hh => ?_); obtain ⟨rfl, rfl, hv⟩ := hh; obtain ⟨kn, rfl, hkn⟩ : ∃ k, v = .int .i64 k ∧ H0 k := (by simp only [List.mem_cons, List.not_mem_nil, or_false] at hv; rcases hv with rfl | rfl | rfl | rfl | rfl <;> exact ⟨_, rfl, by unfold H0; omega⟩))
 refine H6 rfl ((A21 _ _)) rfl rfl ?_
 refine B4 ?_
 refine H7 (outs := [rd br pb nb cb (p5 + 1 + 1)]) (rC rfl (A5 rfl rfl)) (by repeat (first | exact A1.nil | refine A1.cons Pk.here ?_ | refine A1.cons (Pk.there Pk.here) ?_ | refine A1.cons (Pk.there (Pk.there Pk.here)) ?_ | apply A1.drop)) ?_
 (exact ⟨(p5 + 1 + 1), by omega, by omega, rfl, _, _, rfl, A2F _ _ _ ⟨by omega, by omega⟩ (by first | exact ⟨by omega, by omega⟩ | exact hkn), by first | exact O4 (by first | assumption | decide) | exact A0L (by decide) (by assumption) (by assumption) (by assumption) | exact U2 (by decide) (by assumption) (by assumption) | exact L5 (by decide) R1 (by assumption) | exact L5 (by decide) har.small (by assumption) | exact L5 (by decide) R1 (U2 (by decide) (by assumption) (O4 (by decide))) | exact L5 (by decide) A0M (O4 (by decide)) | assumption, by simp only [D1, E8]; omega⟩)
 refine K4 ?_
 (refine I3 (D0 rfl rfl rfl (by omega) (by unfold maxLen; omega) rfl) rfl ?_; rintro _ ⟨b724, rfl⟩)
 (refine U6 (by repeat (first | exact Pk.here | apply Pk.there)) (fun G4 hle4 hsl4 _ => ?_); refine J9 rfl (A0m G4 br pb nb cb p5 bs _ _ _ _ (hb.mono hle4) hnb (by omega) hsl4 (by decide)) (Pk.perm (by repeat (first | exact Pk.here | apply Pk.there))) rfl rfl (fun v G7 outs hle7 hh => ?_); obtain ⟨rfl, rfl, hv⟩ := hh; obtain ⟨kn, rfl, hkn⟩ : ∃ k, v = .int .i64 k ∧ H0 k := (by simp only [List.mem_cons, List.not_mem_nil, or_false] at hv; rcases hv with rfl | rfl | rfl | rfl | rfl <;> exact ⟨_, rfl, by unfold H0; omega⟩))
 refine H6 rfl ((A21 _ _)) rfl rfl ?_
 refine B4 ?_
 refine H7 (outs := [rd br pb nb cb (p5 + 1)]) (rC rfl (A5 rfl rfl)) (by repeat (first | exact A1.nil | refine A1.cons Pk.here ?_ | refine A1.cons (Pk.there Pk.here) ?_ | refine A1.cons (Pk.there (Pk.there Pk.here)) ?_ | apply A1.drop)) ?_
 (exact ⟨(p5 + 1), by omega, by omega, rfl, _, _, rfl, A2F _ _ _ ⟨by omega, by omega⟩ (by first | exact ⟨by omega, by omega⟩ | exact hkn), by first | exact O4 (by first | assumption | decide) | exact A0L (by decide) (by assumption) (by assumption) (by assumption) | exact U2 (by decide) (by assumption) (by assumption) | exact L5 (by decide) R1 (by assumption) | exact L5 (by decide) har.small (by assumption) | exact L5 (by decide) R1 (U2 (by decide) (by assumption) (O4 (by decide))) | exact L5 (by decide) A0M (O4 (by decide)) | assumption, by simp only [D1, E8]; omega⟩)
theorem A0y.openA {a b : List Ty} {G' : IM} {v : Value} {outs : List A6} {m : Nat} (h : A0y (a ++ b) G' v outs) (hm : a.length = m) :
  ∃ p c es, v = .slice p (m + b.length) c ∧ outs = [.slc p c 34 2 (m + b.length) es.flatten] ∧ D5 G' (a ++ b) es := by
 subst hm
 rw [← List.length_append]
 exact h
theorem B2k {Q : Prop} (h : Q := by (exact ⟨Nat.zero_le _, hle1, (by show D5 G1 ((l ++ [Ty.mk tk tks]) ++ L7 (ks.take 0)) _; rw [List.take_zero, L7, List.append_nil]; exact hinit), by simp [L7]⟩)) : Q := h
theorem A75 {Q : Prop} (h : Q := by (dsimp only; exact ⟨by omega, hle.trans hle3, by rw [A30 (by omega), ← List.append_assoc]; exact hr3, by rw [A30 (by omega), ← List.append_assoc, List.length_append, hlen0]⟩)) : Q := h
theorem B8A : ∀ (t : Tm) (l : List Ty) (G : IM) (cells : List Value) (p : Option Addr) (c : Nat) (es : List (List Value)), t.small → l.length + D1 t ≤ 4000000 → B1 G t cells → D5 G l es →
  Fn Tryz.prog 136 [.slice p l.length c, .agg ⟨cells⟩] [.slc p c 34 2 l.length es.flatten] G (A0y (l ++ P3 t)) := by
 refine Tm.ind fun k nm num ty fr lb ks ih l G cells p c es0 hts hcnt hr hl0 => ?_
 have hone := hr.one
 simp only [Tm.small] at hts
 obtain ⟨_, hty', _, hsm, hks⟩ := hts
 have hcy : k = 5 ∨ k = 13 → P3 (.mk k nm num ty fr lb ks) = [ty] ++ L7 ks := fun h => by rw [P3, if_pos h]
 have hcn : ¬ (k = 5 ∨ k = 13) → P3 (.mk k nm num ty fr lb ks) = L7 ks := fun h => by rw [P3, if_neg h, List.nil_append]
 rw [D1] at hcnt
 obtain ⟨tk, tks⟩ := ty
 obtain ⟨fk, fks⟩ := fr
 obtain ⟨pt, ct, pf, cf, q, cq, ek, rfl, hk, hnum, hlb, hty, hfr, hsl, hkl⟩ := hr.open9
 have hn := hsl.le
 refine C6 Tryz.func136 rfl Tryz.ntmps136 Tryz.results136 rfl ?_
 intro w0
 refine A4 ?_
 refine sE (C9 rfl rfl) rfl (fun b3 => ?_)
 refine D4 ?_
 refine sB (qE rfl rfl) rfl rfl (fun h12 => ?_) (fun h12 => ?_)
 refine N4 ?_
 (refine E6 rfl (Q5 (.mk tk tks) G _ hty' hty) rfl rfl (fun v G1 hle1 hh => ?_); obtain ⟨cs1, F1, rfl, hs1, hn1⟩ := hh; have hr1 := hs1.R.mono (C2.le _ _); obtain ⟨p1, c1, rfl, _⟩ := hs1.open)
 (refine I3 (D0 rfl rfl rfl (by omega) (by unfold maxLen; omega) rfl) rfl ?_; rintro _ ⟨b26, rfl⟩)
 (refine A0Z rfl rfl rfl rfl rfl (fun _ _ => by repeat (first | exact Sw.here | apply Sw.there)) (M9 (by repeat first | exact mH | apply mT)) rfl (by simp [Value.oneCell']) (by unfold maxLen; omega) (by omega) rfl (fun pn0 cn0 => ?_))
 refine E1 ?_
 refine C5 ?_
 (have h14 := hcy (by omega); have hinit := D5.append (hl0.mono hle1) (D5.one1 hr1); refine K2 (fun (x : Nat × Nat × Option Addr × Nat × List (List Value) × IM) => ⟨[(5, .int .i64 x.1), (3, .pointer (some ⟨b3, 0, none⟩)), (0, .slice x.2.2.1 x.2.1 x.2.2.2.1)], [.slc x.2.2.1 x.2.2.2.1 34 2 x.2.1 x.2.2.2.2.1.flatten, .blk b3 [.int .i64 k, .string nm, .int .i64 num, .int .i64 tk, .slice pt tks.length ct, .int .i64 fk, .slice pf fks.length cf, .int .i64 lb, .slice q ks.length cq]], x.2.2.2.2.2⟩) (fun x => x.1 ≤ ks.length ∧ C4 G x.2.2.2.2.2 ∧ D5 x.2.2.2.2.2 ((l ++ [Ty.mk tk tks]) ++ L7 (ks.take x.1)) x.2.2.2.2.1 ∧ ((l ++ [Ty.mk tk tks]) ++ L7 (ks.take x.1)).length = x.2.1) (fun x => ks.length - x.1) (0, l.length + 1, pn0, cn0, es0 ++ [[.int .i64 tk, .slice p1 tks.length c1]], G1) (by simp only [List.flatten_append, List.flatten_cons, List.flatten_nil, List.append_nil]; exact (M4 (by repeat (first | exact E7.nil | refine E7.cons rfl ?_)) (by repeat (first | exact A1.refl | exact A1.nil | refine A1.cons (by repeat (first | exact Pk.here | apply Pk.there)) ?_ | apply A1.drop)))) ?_ ?_)
 exact B2k
 (rintro ⟨(i : Nat), (m : Nat), pn, cn, es, Gi⟩ ⟨hi, hle, hst, hlen⟩; simp only [] at hi hle hst hlen ⊢; replace hsl := hsl.mono hle; replace hkl := hkl.mono hle; have hb1 := A2E (ks.take i); have hb2 := A2E ks; have hlen0 := hlen; simp only [List.length_append, List.length_singleton, List.length_nil] at hlen)
 refine B7 ?_
 refine sB (J4 rfl rfl) rfl rfl (fun h48 => ?_) (fun h48 => ?_)
 refine A8 ?_
 refine C5 ?_
 refine B0 ?_
 (obtain ⟨b, o, e, rfl, hl, hat, hre, hgb⟩ := hsl.kidTm hkl (i := i) (by omega) (by omega); have hone9 := hre.one; have hsc := A0G (ks := ks) (i := i) (by omega); have hsk := A1h (ks := ks) (i := i) (by omega); refine sP (B5 rfl rfl rfl (by omega)) rfl rfl ?_)
 refine sL (A3 rfl rfl (hat _) hl) rfl rfl ?_
 (have hih := ih ks[i] (List.getElem_mem (by omega)) _ Gi e pn cn es (Tm.smallL_mem hks _ (List.getElem_mem (by omega))) (by simp only [List.length_append, List.length_singleton]; omega) hre hst; rw [hlen0] at hih; refine J9 rfl hih (Pk.perm (by repeat (first | exact Pk.here | apply Pk.there))) rfl rfl (fun v3 G3 outs hle3 hh => ?_); obtain ⟨p3, c3, e3, rfl, rfl, hr3⟩ := A0y.openA hh hlen0)
 refine A8 ?_
 refine sP (H9 rfl rfl (by omega) (by omega)) rfl rfl ?_
 refine A4 ?_
 (refine I5 (i + 1, m + (P3 ks[i]).length, p3, c3, e3, G3) ?_ ?_ ?_)
 (simp only [I1]; exact D6)
 exact A75
 exact V5
 refine J5 ?_
 (obtain rfl : i = ks.length := (by omega))
 refine tT ?_
 refine H7 (outs := [.slc pn cn 34 2 m es.flatten]) (rT rfl) (A1.cons (by repeat (first | exact Pk.here | apply Pk.there)) A1.nil) ?_
 (rw [h14]; rw [List.take_length] at hst hlen; first | exact A0y.mk (by simp only [List.length_append, List.length_singleton, List.length_nil]; omega) hst | (rw [← List.append_assoc]; exact A0y.mk (by simp only [List.length_append, List.length_singleton, List.length_nil]; omega) hst))
 refine B9 ?_
 refine sB (qE rfl rfl) rfl rfl (fun h98 => ?_) (fun h98 => ?_)
 refine D4 ?_
 (refine E6 rfl (Q5 (.mk tk tks) G _ hty' hty) rfl rfl (fun v G1 hle1 hh => ?_); obtain ⟨cs1, F1, rfl, hs1, hn1⟩ := hh; have hr1 := hs1.R.mono (C2.le _ _); obtain ⟨p1, c1, rfl, _⟩ := hs1.open)
 (refine I3 (D0 rfl rfl rfl (by omega) (by unfold maxLen; omega) rfl) rfl ?_; rintro _ ⟨b108, rfl⟩)
 (refine A0Z rfl rfl rfl rfl rfl (fun _ _ => by repeat (first | exact Sw.here | apply Sw.there)) (M9 (by repeat first | exact mH | apply mT)) rfl (by simp [Value.oneCell']) (by unfold maxLen; omega) (by omega) rfl (fun pn0 cn0 => ?_))
 refine E1 ?_
 refine C5 ?_
 (have h14 := hcy (by omega); have hinit := D5.append (hl0.mono hle1) (D5.one1 hr1); refine K2 (fun (x : Nat × Nat × Option Addr × Nat × List (List Value) × IM) => ⟨[(5, .int .i64 x.1), (3, .pointer (some ⟨b3, 0, none⟩)), (0, .slice x.2.2.1 x.2.1 x.2.2.2.1)], [.slc x.2.2.1 x.2.2.2.1 34 2 x.2.1 x.2.2.2.2.1.flatten, .blk b3 [.int .i64 k, .string nm, .int .i64 num, .int .i64 tk, .slice pt tks.length ct, .int .i64 fk, .slice pf fks.length cf, .int .i64 lb, .slice q ks.length cq]], x.2.2.2.2.2⟩) (fun x => x.1 ≤ ks.length ∧ C4 G x.2.2.2.2.2 ∧ D5 x.2.2.2.2.2 ((l ++ [Ty.mk tk tks]) ++ L7 (ks.take x.1)) x.2.2.2.2.1 ∧ ((l ++ [Ty.mk tk tks]) ++ L7 (ks.take x.1)).length = x.2.1) (fun x => ks.length - x.1) (0, l.length + 1, pn0, cn0, es0 ++ [[.int .i64 tk, .slice p1 tks.length c1]], G1) (by simp only [List.flatten_append, List.flatten_cons, List.flatten_nil, List.append_nil]; exact (M4 (by repeat (first | exact E7.nil | refine E7.cons rfl ?_)) (by repeat (first | exact A1.refl | exact A1.nil | refine A1.cons (by repeat (first | exact Pk.here | apply Pk.there)) ?_ | apply A1.drop)))) ?_ ?_)
 exact B2k
 (rintro ⟨(i : Nat), (m : Nat), pn, cn, es, Gi⟩ ⟨hi, hle, hst, hlen⟩; simp only [] at hi hle hst hlen ⊢; replace hsl := hsl.mono hle; replace hkl := hkl.mono hle; have hb1 := A2E (ks.take i); have hb2 := A2E ks; have hlen0 := hlen; simp only [List.length_append, List.length_singleton, List.length_nil] at hlen)
 refine B7 ?_
 refine sB (J4 rfl rfl) rfl rfl (fun h130 => ?_) (fun h130 => ?_)
 refine A8 ?_
 refine C5 ?_
 refine B0 ?_
 (obtain ⟨b, o, e, rfl, hl, hat, hre, hgb⟩ := hsl.kidTm hkl (i := i) (by omega) (by omega); have hone9 := hre.one; have hsc := A0G (ks := ks) (i := i) (by omega); have hsk := A1h (ks := ks) (i := i) (by omega); refine sP (B5 rfl rfl rfl (by omega)) rfl rfl ?_)
 refine sL (A3 rfl rfl (hat _) hl) rfl rfl ?_
 (have hih := ih ks[i] (List.getElem_mem (by omega)) _ Gi e pn cn es (Tm.smallL_mem hks _ (List.getElem_mem (by omega))) (by simp only [List.length_append, List.length_singleton]; omega) hre hst; rw [hlen0] at hih; refine J9 rfl hih (Pk.perm (by repeat (first | exact Pk.here | apply Pk.there))) rfl rfl (fun v3 G3 outs hle3 hh => ?_); obtain ⟨p3, c3, e3, rfl, rfl, hr3⟩ := A0y.openA hh hlen0)
 refine A8 ?_
 refine sP (H9 rfl rfl (by omega) (by omega)) rfl rfl ?_
 refine A4 ?_
 (refine I5 (i + 1, m + (P3 ks[i]).length, p3, c3, e3, G3) ?_ ?_ ?_)
 (simp only [I1]; exact D6)
 exact A75
 exact V5
 refine J5 ?_
 (obtain rfl : i = ks.length := (by omega))
 refine tT ?_
 refine H7 (outs := [.slc pn cn 34 2 m es.flatten]) (rT rfl) (A1.cons (by repeat (first | exact Pk.here | apply Pk.there)) A1.nil) ?_
 (rw [h14]; rw [List.take_length] at hst hlen; first | exact A0y.mk (by simp only [List.length_append, List.length_singleton, List.length_nil]; omega) hst | (rw [← List.append_assoc]; exact A0y.mk (by simp only [List.length_append, List.length_singleton, List.length_nil]; omega) hst))
 refine N4 ?_
 refine C5 ?_
 (have h14 := hcn (by omega); refine K2 (fun (x : Nat × Nat × Option Addr × Nat × List (List Value) × IM) => ⟨[(5, .int .i64 x.1), (3, .pointer (some ⟨b3, 0, none⟩)), (0, .slice x.2.2.1 x.2.1 x.2.2.2.1)], [.slc x.2.2.1 x.2.2.2.1 34 2 x.2.1 x.2.2.2.2.1.flatten, .blk b3 [.int .i64 k, .string nm, .int .i64 num, .int .i64 tk, .slice pt tks.length ct, .int .i64 fk, .slice pf fks.length cf, .int .i64 lb, .slice q ks.length cq]], x.2.2.2.2.2⟩) (fun x => x.1 ≤ ks.length ∧ C4 G x.2.2.2.2.2 ∧ D5 x.2.2.2.2.2 (l ++ L7 (ks.take x.1)) x.2.2.2.2.1 ∧ (l ++ L7 (ks.take x.1)).length = x.2.1) (fun x => ks.length - x.1) (0, l.length, p, c, es0, G) ?_ ?_ ?_)
 (simp only [I1]; exact D6)
 (exact ⟨Nat.zero_le _, C4.refl _, by simpa [L7] using hl0, by simp [L7]⟩)
 (rintro ⟨(i : Nat), (m : Nat), pn, cn, es, Gi⟩ ⟨hi, hle, hst, hlen⟩; simp only [] at hi hle hst hlen ⊢; replace hsl := hsl.mono hle; replace hkl := hkl.mono hle; have hb1 := A2E (ks.take i); have hb2 := A2E ks; have hlen0 := hlen; simp only [List.length_append, List.length_singleton, List.length_nil] at hlen)
 refine B7 ?_
 refine sB (J4 rfl rfl) rfl rfl (fun h201 => ?_) (fun h201 => ?_)
 refine A8 ?_
 refine C5 ?_
 refine B0 ?_
 (obtain ⟨b, o, e, rfl, hl, hat, hre, hgb⟩ := hsl.kidTm hkl (i := i) (by omega) (by omega); have hone9 := hre.one; have hsc := A0G (ks := ks) (i := i) (by omega); have hsk := A1h (ks := ks) (i := i) (by omega); refine sP (B5 rfl rfl rfl (by omega)) rfl rfl ?_)
 refine sL (A3 rfl rfl (hat _) hl) rfl rfl ?_
 (have hih := ih ks[i] (List.getElem_mem (by omega)) _ Gi e pn cn es (Tm.smallL_mem hks _ (List.getElem_mem (by omega))) (by simp only [List.length_append, List.length_singleton]; omega) hre hst; rw [hlen0] at hih; refine J9 rfl hih (Pk.perm (by repeat (first | exact Pk.here | apply Pk.there))) rfl rfl (fun v3 G3 outs hle3 hh => ?_); obtain ⟨p3, c3, e3, rfl, rfl, hr3⟩ := A0y.openA hh hlen0)
 refine A8 ?_
 refine sP (H9 rfl rfl (by omega) (by omega)) rfl rfl ?_
 refine A4 ?_
 (refine I5 (i + 1, m + (P3 ks[i]).length, p3, c3, e3, G3) ?_ ?_ ?_)
 (simp only [I1]; exact D6)
 exact A75
 exact V5
 refine J5 ?_
 (obtain rfl : i = ks.length := (by omega))
 refine tT ?_
 refine H7 (outs := [.slc pn cn 34 2 m es.flatten]) (rT rfl) (A1.cons (by repeat (first | exact Pk.here | apply Pk.there)) A1.nil) ?_
 (rw [h14]; rw [List.take_length] at hst hlen; first | exact A0y.mk (by simp only [List.length_append, List.length_singleton, List.length_nil]; omega) hst | (rw [← List.append_assoc]; exact A0y.mk (by simp only [List.length_append, List.length_singleton, List.length_nil]; omega) hst))
end Gw
end Go.Proofs.YtebfignffjhnhaaGreatDoor
