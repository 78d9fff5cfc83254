/-
  The program's evaluator: a step. The program's evaluator: step. The program's evaluator: StepCast, runs of steps, their results. Types are kept by steps; a closed term with a type does not get stuck, and what is blamed is a label of its casts. A term with its casts put in is valid, and has the type that the term has. Terms that hold a type. Precision of terms, on both sides. The text of a value, in plain words. The program's insertion of casts: a cast. The program's insertion of casts. CastTypeOf. The program's InsertCasts, TypeOf. A run of a term, in plain words. A comparison of runs, in plain words. Runs of terms of which one is more precise. Terms with casts that have a type are terms of the calculus; a value stays a value there and back (plain). Failures of terms of the calculus, with their labels (plain). Terms that differ in casts that change nothing, or that go through the unknown type: they run alike (plain). Terms that differ in casts that change nothing: steps, failures, runs (plain). Terms that differ in casts that change nothing: simulation (plain). Simplified terms, casts by way of the unknown type, forgotten types: they run alike (plain). Simplification, casts by way of the unknown type, forgotten types: the laws (plain). All paths of a term, in plain words: they are different, each has a node, none goes on to where no operand is. The first cast with a label. The casts of a term, in plain words: the first one with a label is the node at the first path to such a cast. What is blamed is unsafe: plain. The types that a term's text holds, and terms with other types: the plain words. Own slices and their capacity; data of terms one after the other. The types that a term's text holds: the program's list. Terms with other types: the program's. Shifts and masks of small numbers; writing into an own slice. Terms some of whose types become the unknown type: the program's. The configurations of a term: the program's. A number for each configuration: the program's. Drawn terms that often have a type: one lambda, given the terms below.
-/
import Derived.Test.YtfpgncjeejickaaGreatDoorKa5
import Derived.Test.YtfpgncjeejickaaGreatDoorKa2
import Derived.Test.YtfpgncjeejickaaGreatDoorKa4
import Derived.Test.YtfpgncjeejickaaGreatDoorKa3
import Derived.Test.YtfpgncjeejickaaGreatDoorKa1
import Derived.Lib.ItoaNum
set_option linter.unusedVariables false
set_option linter.unusedSimpArgs false
set_option maxHeartbeats 0
set_option maxRecDepth 100000
set_option synthInstance.maxSize 4000
set_option synthInstance.maxHeartbeats 0
namespace Go.Proofs.YtfpgncjeejickaaGreatDoor
open Go Go.RowKit
namespace Gw
theorem B4n (nm : ByteArray) (num : Int) (ty fr : Ty) (lb : Int) (G : IM) (cells : List Value) (hr : A8 G (.mk 1 nm num ty fr lb []) cells) : Fn Tryz.prog 220 [.agg ⟨cells⟩] [] G (R6 (X1 1 [])) := by
 rw [show X1 1 [] = none from rfl]
 obtain ⟨tk, tks⟩ := ty
 obtain ⟨fk, fks⟩ := fr
 obtain ⟨pt, ct, pf, cf, p, c, es, rfl, hk, hnum, hlb, hty, hfr, hsl, hkl⟩ := hr.open9
 have hL : ([] : List Tm).length = 0 := rfl
 refine B6 Tryz.func220 rfl Tryz.ntmps220 Tryz.results220 rfl ?_
 intro w0
 refine tS (tR ?_)
 refine sE (C4 rfl rfl) rfl (fun b3 => ?_)
 refine sE (A6 rfl) rfl (fun b4 => ?_)
 refine J9 ?_
 refine sE (A6 rfl) rfl (fun b11 => ?_)
 refine D8 ?_
 refine sP (B1L rfl rfl (by omega)) rfl rfl ?_
 refine N2 ?_
 refine C3 ?_
 refine tS (tR ?_)
 refine sP (E6 rfl rfl (by omega)) rfl rfl ?_
 refine sQ (qA rfl) rfl (sD (nS (cF rfl (tS (tS (tR ?_))))))
 refine sP (E6 rfl rfl (by omega)) rfl rfl ?_
 refine sQ (qA rfl) rfl (sD (nS (cF rfl (tR ?_))))
 refine sP (E6 rfl rfl (by omega)) rfl rfl ?_
 refine sQ (qA rfl) rfl (sD (nS (cF rfl (tS (tR ?_)))))
 refine sP (E6 rfl rfl (by omega)) rfl rfl ?_
 refine sQ (qA rfl) rfl (sD (nS (cF rfl (tS (tS (tR ?_))))))
 refine sP (E6 rfl rfl (by omega)) rfl rfl ?_
 refine sQ (qA rfl) rfl (sD (nS (cF rfl (tR ?_))))
 refine sP (E6 rfl rfl (by omega)) rfl rfl ?_
 refine K0 ?_
 refine C5 (rC rfl (A4 rfl rfl)) (rT rfl) ?_
 (exact R6.no rfl (O4 _))
theorem B4o (a : Tm) (nm : ByteArray) (num : Int) (ty fr : Ty) (lb : Int) (G : IM) (cells : List Value) (hr : A8 G (.mk 14 nm num ty fr lb [a]) cells) : Fn Tryz.prog 220 [.agg ⟨cells⟩] [] G (R6 (X1 14 [a])) := by
 rw [show X1 14 [a] = none from rfl]
 obtain ⟨tk, tks⟩ := ty
 obtain ⟨fk, fks⟩ := fr
 obtain ⟨pt, ct, pf, cf, p, c, es, rfl, hk, hnum, hlb, hty, hfr, hsl, hkl⟩ := hr.open9
 obtain ⟨bx, ox, e0, rfl, hl0, hat0, hre0, hgb0⟩ := hsl.kidTm hkl (i := 0) (by simp) (by simp)
 have ho0 : e0.all (·.oneCell') = true := (show A8 G a e0 from hre0).one
 refine B6 Tryz.func220 rfl Tryz.ntmps220 Tryz.results220 rfl ?_
 intro w0
 refine tS (tR ?_)
 refine sE (C4 rfl rfl) rfl (fun b3 => ?_)
 refine sE (A6 rfl) rfl (fun b4 => ?_)
 refine J9 ?_
 refine sE (A6 rfl) rfl (fun b11 => ?_)
 refine D8 ?_
 refine sB (Y2 rfl rfl) rfl rfl (fun h21 => ?_) (fun h21 => ?_)
 refine J9 ?_
 refine sP (B4 (j := 0) rfl rfl rfl (by simp)) rfl rfl ?_
 refine sL (A3 rfl rfl (hat0 _) hl0) rfl rfl ?_
 refine sS rfl rfl rfl hl0 ho0 rfl ?_ (hu := by exact C1 hl0.symm)
 refine D8 ?_
 refine C3 ?_
 refine tS (tR ?_)
 refine sP (E6 rfl rfl (by omega)) rfl rfl ?_
 refine sQ (qA rfl) rfl (sD (nS (cF rfl (tS (tS (tR ?_))))))
 refine sP (E6 rfl rfl (by omega)) rfl rfl ?_
 refine sQ (qA rfl) rfl (sD (nS (cF rfl (tR ?_))))
 refine sP (E6 rfl rfl (by omega)) rfl rfl ?_
 refine sQ (qA rfl) rfl (sD (nS (cF rfl (tS (tR ?_)))))
 refine sP (E6 rfl rfl (by omega)) rfl rfl ?_
 refine sQ (qA rfl) rfl (sD (nS (cF rfl (tS (tS (tR ?_))))))
 refine sP (E6 rfl rfl (by omega)) rfl rfl ?_
 refine sQ (qA rfl) rfl (sD (nS (cF rfl (tR ?_))))
 refine sP (E6 rfl rfl (by omega)) rfl rfl ?_
 refine K0 ?_
 refine C5 (rC rfl (A4 rfl rfl)) (rT rfl) ?_
 (exact R6.no rfl (O4 _))
 refine N2 ?_
 refine C3 ?_
 refine tS (tR ?_)
 refine sP (E6 rfl rfl (by omega)) rfl rfl ?_
 refine sQ (qA rfl) rfl (sD (nS (cF rfl (tS (tS (tR ?_))))))
 refine sP (E6 rfl rfl (by omega)) rfl rfl ?_
 refine sQ (qA rfl) rfl (sD (nS (cF rfl (tR ?_))))
 refine sP (E6 rfl rfl (by omega)) rfl rfl ?_
 refine sQ (qA rfl) rfl (sD (nS (cF rfl (tS (tR ?_)))))
 refine sP (E6 rfl rfl (by omega)) rfl rfl ?_
 refine sQ (qA rfl) rfl (sD (nS (cF rfl (tS (tS (tR ?_))))))
 refine sP (E6 rfl rfl (by omega)) rfl rfl ?_
 refine sQ (qA rfl) rfl (sD (nS (cF rfl (tR ?_))))
 refine sP (E6 rfl rfl (by omega)) rfl rfl ?_
 refine K0 ?_
 refine C5 (rC rfl (A4 rfl rfl)) (rT rfl) ?_
 (exact R6.no rfl (O4 _))
theorem ks1 {ks : List Tm} (h : ks.length = 1) : ∃ a, ks = [a] := by
 match ks, h with
 | [a], _ => exact ⟨a, rfl⟩
theorem ks2 {ks : List Tm} (h : ks.length = 2) : ∃ a b, ks = [a, b] := by
 match ks, h with
 | [a, b], _ => exact ⟨a, b, rfl⟩
theorem ks3 {ks : List Tm} (h : ks.length = 3) : ∃ a b c, ks = [a, b, c] := by
 match ks, h with
 | [a, b, c], _ => exact ⟨a, b, c, rfl⟩
theorem B4p {k : Int} {nm : ByteArray} {num : Int} {ty fr : Ty} {lb : Int} {ks : List Tm} {G : IM} {cells : List Value} (hc : cv (.mk k nm num ty fr lb ks)) (hk : k = 1 ∨ k = 6 ∨ k = 7 ∨ k = 8 ∨ k = 9 ∨ k = 11 ∨ k = 12 ∨ k = 14) (hr : A8 G (.mk k nm num ty fr lb ks) cells) :
  Fn Tryz.prog 220 [.agg ⟨cells⟩] [] G (R6 (X1 k ks)) := by
 obtain ⟨hN, hkk⟩ := hc.node
 have hops := hN.ops
 rcases hk with rfl | rfl | rfl | rfl | rfl | rfl | rfl | rfl
 ·obtain rfl : ks = [] := List.length_eq_zero_iff.1 (by have : D3 1 = 0 := rfl; omega)
  exact B4n _ _ _ _ _ _ _ hr
 ·obtain ⟨a, b, rfl⟩ := ks2 (ks := ks) (by have : D3 6 = 2 := rfl; omega)
  exact B4g a b _ _ _ _ _ _ _ (hkk a (by simp)) hr
 ·obtain ⟨a, b, rfl⟩ := ks2 (ks := ks) (by have : D3 7 = 2 := rfl; omega)
  exact A9X 7 a b _ _ _ _ _ _ _ (.inl rfl) (hkk a (by simp)) (hkk b (by simp)) hr
 ·obtain ⟨a, b, rfl⟩ := ks2 (ks := ks) (by have : D3 8 = 2 := rfl; omega)
  exact A9X 8 a b _ _ _ _ _ _ _ (.inr rfl) (hkk a (by simp)) (hkk b (by simp)) hr
 ·obtain ⟨a, b, c, rfl⟩ := ks3 (ks := ks) (by have : D3 9 = 3 := rfl; omega)
  exact B4h a b c _ _ _ _ _ _ _ hr
 ·obtain ⟨a, rfl⟩ := ks1 (ks := ks) (by have : D3 11 = 1 := rfl; omega)
  exact A9Y 11 a _ _ _ _ _ _ _ (.inl rfl) (hkk a (by simp)) hr
 ·obtain ⟨a, rfl⟩ := ks1 (ks := ks) (by have : D3 12 = 1 := rfl; omega)
  exact A9Y 12 a _ _ _ _ _ _ _ (.inr rfl) (hkk a (by simp)) hr
 ·obtain ⟨a, rfl⟩ := ks1 (ks := ks) (by have : D3 14 = 1 := rfl; omega)
  exact B4o a _ _ _ _ _ _ _ hr
theorem B4q {k : Int} {nm : ByteArray} {num : Int} {ty fr : Ty} {lb : Int} {ks : List Tm} {G : IM} {cells : List Value} (hc : cv (.mk k nm num ty fr lb ks)) (hk : k = 6 ∨ k = 7 ∨ k = 8 ∨ k = 9 ∨ k = 11 ∨ k = 12 ∨ k = 14) (hr : A8 G (.mk k nm num ty fr lb ks) cells) :
  Fn Tryz.prog 221 [.agg ⟨cells⟩] [] G (R7 (Y0 k ty fr lb ks)) := by
 obtain ⟨hN, hkk⟩ := hc.node
 have hops := hN.ops
 rcases hk with rfl | rfl | rfl | rfl | rfl | rfl | rfl
 ·obtain ⟨a, b, rfl⟩ := ks2 (ks := ks) (by have : D3 6 = 2 := rfl; omega)
  exact B4j a b _ _ _ _ _ _ _ (hkk a (by simp)) hr
 ·obtain ⟨a, b, rfl⟩ := ks2 (ks := ks) (by have : D3 7 = 2 := rfl; omega)
  exact A93 7 a b _ _ _ _ _ _ _ (.inl rfl) (hkk a (by simp)) hr
 ·obtain ⟨a, b, rfl⟩ := ks2 (ks := ks) (by have : D3 8 = 2 := rfl; omega)
  exact A93 8 a b _ _ _ _ _ _ _ (.inr rfl) (hkk a (by simp)) hr
 ·obtain ⟨a, b, c, rfl⟩ := ks3 (ks := ks) (by have : D3 9 = 3 := rfl; omega)
  exact B4m a b c _ _ _ _ _ _ _ (hkk a (by simp)) hr
 ·obtain ⟨a, rfl⟩ := ks1 (ks := ks) (by have : D3 11 = 1 := rfl; omega)
  exact A90 11 a _ _ _ _ _ _ _ (.inl rfl) (hkk a (by simp)) hr
 ·obtain ⟨a, rfl⟩ := ks1 (ks := ks) (by have : D3 12 = 1 := rfl; omega)
  exact A90 12 a _ _ _ _ _ _ _ (.inr rfl) (hkk a (by simp)) hr
 ·obtain ⟨a, rfl⟩ := ks1 (ks := ks) (by have : D3 14 = 1 := rfl; omega)
  exact B4l a _ _ _ _ _ _ _ (hkk a (by simp)) hN.lbB hr
theorem A4V (n : Nat) (t : Tm) (ts : List Tm) : V5 (n + 1) (t :: ts) = if E2 t = true then (match V5 n ts with | some (us, c, l) => some (t :: us, c, l) | none => none) else some ((I2 t).1 :: ts, (I2 t).2.1, (I2 t).2.2) := by
 rw [V5]; rfl
theorem A6D : ∀ (n : Nat) (ks : List Tm), (∀ i, i < n → (h : i < ks.length) → E2 ks[i] = true) → V5 n ks = none
 | n, [], _ => by cases n <;> rfl
 | 0, t :: ts, _ => rfl
 | n + 1, t :: ts, h => by
  rw [A4V, if_pos (show E2 t = true from h 0 (by omega) (by simp)), A6D n ts (fun i hi hl => h (i + 1) (by omega) (by simpa using hl))]
theorem A94 : ∀ (n : Nat) (ks : List Tm) (i : Nat) (hi : i < ks.length), i < n → (∀ j, j < i → (h : j < ks.length) → E2 ks[j] = true) → E2 ks[i] = false → V5 n ks = some (ks.set i (I2 ks[i]).1, (I2 ks[i]).2.1, (I2 ks[i]).2.2)
 | n, [], i, hi, _, _, _ => by simp at hi
 | 0, t :: ts, i, _, hn, _, _ => by omega
 | n + 1, t :: ts, 0, _, _, _, hv => by
  rw [A4V, if_neg (by rw [show E2 t = false from hv]; decide)]; rfl
 | n + 1, t :: ts, i + 1, hi, hn, hj, hv => by
  rw [A4V, if_pos (show E2 t = true from hj 0 (by omega) (by simp)), A94 n ts i (by simpa using hi) (by omega) (fun j hji hl => hj (j + 1) (by omega) (by simpa using hl)) hv]
  rfl
theorem B4r {k : Int} {ty fr : Ty} {lb : Int} {ks : List Tm} (h : (Y8 k ty fr lb ks).2.1 = 1) : (Y8 k ty fr lb ks).2.2 = 0 := by
 revert h
 unfold Y8 U5
 repeat' split
 all_goals first | (intro _; rfl) | (intro h; exfalso; revert h; simp)
theorem B4s {k : Int} {nm : ByteArray} {num : Int} {ty fr : Ty} {lb : Int} {ks : List Tm} (h : (I2 (.mk k nm num ty fr lb ks)).2.1 = 1) : (I2 (.mk k nm num ty fr lb ks)).2.2 = 0 := by
 rw [I2] at h ⊢
 cases hL : V5 (if k = 9 then 1 else ks.length) ks with
 | none => rw [hL] at h; exact B4r h
 | some p =>
  obtain ⟨us, c, l⟩ := p
  rw [hL] at h
  simp only at h ⊢
  by_cases hc : c = 1
  ·rw [if_pos hc]
  ·rw [if_neg hc] at h; exact absurd h hc
theorem B4t {t : Tm} (h : (I2 t).2.1 = 1) : (I2 t).2.2 = 0 := by cases t; exact B4s h
theorem A95 {k : Int} {nm : ByteArray} {num : Int} {ty fr : Ty} {lb : Int} {ks : List Tm} {i : Nat} (hi : i < ks.length) (hn : i < (if k = 9 then 1 else ks.length)) (hj : ∀ j, j < i → (h : j < ks.length) → E2 ks[j] = true) (hv : E2 ks[i] = false) :
  (I2 (.mk k nm num ty fr lb ks)).2.1 = (I2 ks[i]).2.1 ∧ (I2 (.mk k nm num ty fr lb ks)).2.2 = (I2 ks[i]).2.2 ∧ ((I2 ks[i]).2.1 = 1 → (I2 (.mk k nm num ty fr lb ks)).1 = .mk k nm num ty fr lb (ks.set i (I2 ks[i]).1)) := by
 rw [I2, A94 _ ks i hi hn hj hv]
 simp only
 by_cases hc : (I2 ks[i]).2.1 = 1
 ·rw [if_pos hc]
  exact ⟨hc.symm, (B4t hc).symm, fun _ => rfl⟩
 ·rw [if_neg hc]
  exact ⟨rfl, rfl, fun h => absurd h hc⟩
theorem B4u {k : Int} {nm : ByteArray} {num : Int} {ty fr : Ty} {lb : Int} {ks : List Tm} (h : ∀ i, i < (if k = 9 then 1 else ks.length) → (hl : i < ks.length) → E2 ks[i] = true) : I2 (.mk k nm num ty fr lb ks) = match X1 k ks with | some u => (u, 1, 0) | none => Y0 k ty fr lb ks := by
 rw [I2, A6D _ _ h]
 exact B4i k ty fr lb ks
theorem A96 {k : Int} (h : 0 ≤ D3 k) : 1 ≤ k ∧ k ≤ 14 := by
 by_cases hk : 1 ≤ k ∧ k ≤ 14
 ·exact hk
 ·rw [A3w hk] at h; omega
theorem A97 {k : Int} {nm : ByteArray} {num : Int} {ty fr : Ty} {lb : Int} {ks : List Tm} (hc : cv (.mk k nm num ty fr lb ks)) (hv : E2 (.mk k nm num ty fr lb ks) = false) (h : ∀ i, i < (if k = 9 then 1 else ks.length) → (hl : i < ks.length) → E2 ks[i] = true) : k = 1 ∨ k = 6 ∨ k = 7 ∨ k = 8 ∨ k = 9 ∨ k = 11 ∨ k = 12 ∨ k = 14 := by
 obtain ⟨hN, _⟩ := hc.node
 have hr := A96 (by rw [hN.ops]; omega : 0 ≤ D3 k)
 have h13 := hN.ne
 have h25 : ¬(k = 2 ∨ k = 3 ∨ k = 4 ∨ k = 5) := by
  intro hk
  rw [E2, if_neg (by omega)] at hv
  rw [decide_eq_true hk] at hv
  cases hv
 have h10 : k ≠ 10 := by
  rintro rfl
  rw [A4I (.inl rfl), List.all_eq_false] at hv
  obtain ⟨t, ht, hn⟩ := hv
  obtain ⟨i, hi, rfl⟩ := List.mem_iff_getElem.1 ht
  exact hn (h i (by rw [if_neg (by decide)]; exact hi) hi)
 omega
theorem B4v (t : Tm) (G : IM) (cells : List Value) (hr : A8 G t cells) : Fn Tryz.prog 218 [.agg ⟨cells⟩] [] G (J3 (.int .i64 ((if t.k = 9 then 1 else t.ks.length : Nat) : Int)) G) := by
 obtain ⟨k, nm, num, ⟨tk, tks⟩, ⟨fk, fks⟩, lb, ks⟩ := t
 obtain ⟨pt, ct, pf, cf, p, c, es, rfl, hk, hnum, hlb, hty, hfr, hsl, hkl⟩ := hr.open9
 rw [show (Tm.mk k nm num (.mk tk tks) (.mk fk fks) lb ks).k = k from rfl, show (Tm.mk k nm num (.mk tk tks) (.mk fk fks) lb ks).ks = ks from rfl]
 refine B6 Tryz.func218 rfl Tryz.ntmps218 Tryz.results218 rfl ?_
 intro w0
 refine tS (tR ?_)
 refine sE (C4 rfl rfl) rfl (fun b3 => ?_)
 refine F8 ?_
 refine sB (qE rfl rfl) rfl rfl (fun h12 => ?_) (fun h12 => ?_)
 refine J6 ?_
 (exact ⟨rfl, by rw [if_pos (by omega)]; rfl, rfl⟩)
 refine K0 ?_
 (exact ⟨rfl, by rw [if_neg (by omega)], rfl⟩)
theorem B4w {k : Int} (h8 : k = 1 ∨ k = 6 ∨ k = 7 ∨ k = 8 ∨ k = 9 ∨ k = 11 ∨ k = 12 ∨ k = 14) (h : D3 k = 0) : k = 1 := by
 rcases h8 with rfl | rfl | rfl | rfl | rfl | rfl | rfl | rfl
 ·rfl
 all_goals exact absurd h (by decide)
theorem A98 {G : IM} {r r' : Stp} {u : Tm} {cells : List Value} {c l : Int} (h1 : r.2.1 = c) (h2 : r.2.2 = l) (hr : A8 G u cells) (h3 : c = 1 → u = r.1) : R7 r G (.tuple ⟨[.agg ⟨cells⟩, .int .i64 c, .int .i64 l]⟩) [] := by
 subst h1 h2; exact ⟨rfl, u, cells, rfl, hr, h3⟩
theorem B4x : ∀ (t : Tm) (G : IM) (cells : List Value), cv t → E2 t = false → A8 G t cells → Fn Tryz.prog 169 [.agg ⟨cells⟩] [] G (R7 (I2 t)) := by
 refine Tm.ind fun k nm num ty fr lb ks ih G cells hc hv hr => ?_
 have hr0 := hr
 have hN := hc.node.1
 have hkk := hc.node.2
 have hsm := A4F _ hc
 obtain ⟨_, _, _, _, hksm⟩ := A4G.1 hsm
 have hops := hN.ops
 have hle3 := A1F k
 have hkd := @A97 k nm num ty fr lb ks hc hv
 have hrd := @B4u k nm num ty fr lb ks
 have hkidS := fun (i : Nat) => @A95 k nm num ty fr lb ks i
 have hRA := fun h => @B4p k nm num ty fr lb ks G cells hc h hr
 have hCA := fun h (G1 : IM) (hle : B8 G G1) => @B4q k nm num ty fr lb ks G1 cells hc h (hr.mono hle)
 have hCt := B4v _ G _ hr
 rw [show (Tm.mk k nm num ty fr lb ks).k = k from rfl, show (Tm.mk k nm num ty fr lb ks).ks = ks from rfl] at hCt
 obtain ⟨C, hC⟩ : ∃ C : Nat, (if k = 9 then 1 else ks.length : Nat) = C := ⟨_, rfl⟩
 rw [hC] at hCt hkd hrd
 have hkidS' := fun (i : Nat) (hi : i < ks.length) (hn : i < C) => hkidS i hi (by rw [hC]; exact hn)
 have hC9 : C ≤ ks.length := by rw [← hC]; split; (have : D3 k = 3 := by (rename_i h9; rw [h9]; rfl)); omega; omega
 have hrul := hkd
 obtain ⟨tk, tks⟩ := ty
 obtain ⟨fk, fks⟩ := fr
 obtain ⟨pt, ct, pf, cf, p, c, es, rfl, hk, hnum, hlb, hty, hfr, hsl, hkl⟩ := hr.open9
 have hn := hsl.le
 have hnc := hsl.sl.2.1
 refine B6 Tryz.func169 rfl Tryz.ntmps169 Tryz.results169 rfl ?_
 intro w0
 refine tS (tR ?_)
 refine sE (C4 rfl rfl) rfl (fun b3 => ?_)
 refine sE (A6 rfl) rfl (fun b4 => ?_)
 refine sQ (qA rfl) rfl (sQ (qA rfl) rfl (sD (nS (tS (tS ?_)))))
 refine D1 D2 rfl ?_
 refine I4 (i := 0) (l' := [tt,ff,ff,ff,ff,ff,ff]) rfl C8 (B5 rfl) rfl (by kernel_rfl) rfl rfl ?_
 refine aL 1 rfl (C7 rfl rfl) rfl ?_
 refine aL 2 rfl (A4 rfl rfl) rfl ?_
 refine aP 6 rfl (qM rfl) rfl ?_
 refine A2 3 ?_
 refine J0 rfl rfl (hCt) rfl rfl rfl ?_
 refine aP 4 rfl (A73 (l := C) rfl rfl rfl (by omega)) rfl ?_
 refine aP 5 rfl (pLn rfl rfl) rfl ?_
 refine C0 (nS ?_)
 refine C3 ?_
 (refine M6 (fun (i : Nat) => ⟨[(19, .int .i64 (i : Int)), (18, .int .i64 (C : Int)), (17, .slice p C c), (1, .pointer (some ⟨b3, 0, none⟩)), (2, .pointer (some ⟨b4, 0, none⟩))], [.blk b4 [.int .i64 0, .string ⟨⟨[]⟩⟩, .int .i64 0, .int .i64 0, .slice none 0 0, .int .i64 0, .slice none 0 0, .int .i64 0, .slice none 0 0], .blk b3 [.int .i64 k, .string nm, .int .i64 num, .int .i64 tk, .slice pt tks.length ct, .int .i64 fk, .slice pf fks.length cf, .int .i64 lb, .slice p ks.length c]], G⟩) (fun i => i ≤ C ∧ ∀ j, j < i → (h : j < ks.length) → E2 ks[j] = true) (fun i => C - i) 0 ?_ ?_ ?_)
 exact E1
 (exact ⟨Nat.zero_le _, fun j hj => absurd hj (Nat.not_lt_zero j)⟩)
 (rintro i ⟨hi, hj⟩)
 refine tS (tR ?_)
 refine sB (M2 rfl rfl) rfl rfl (fun h29 => ?_) (fun h29 => ?_)
 refine sD (nS (tS (qT rfl (tK (nS (tS ?_))))))
 refine C3 ?_
 refine tS (tR (sQ (qM rfl) rfl ?_))
 (have hiC : i < C := (by omega); obtain ⟨bx, ox, e, rfl, hl, hat, hre, hgb⟩ := hsl.kidTm hkl (i := i) (by omega) (by omega); have heo := hre.one; have hVi := A6a ks[i] G e hre; refine sP (B4 (j := i) rfl rfl rfl hiC) rfl rfl ?_)
 refine sL (A3 rfl rfl (hat _) hl) rfl rfl ?_
 refine sE (A6 rfl) rfl (fun b43 => ?_)
 refine sQ (qA rfl) rfl ?_
 refine sS rfl rfl rfl hl heo rfl ?_ (hu := by exact C1 hl.symm)
 refine sD (nS (tS (tS (tR ?_))))
 refine sL (A3 rfl rfl (A7 (by repeat first | exact mH | apply mT)) hl) rfl rfl ?_
 refine F4 rfl (hVi) rfl rfl (fun h52 => ?_) (fun h52 => ?_)
 refine F8 ?_
 refine sP (M8 rfl rfl (by omega) (by omega)) rfl rfl ?_
 refine sQ (qM rfl) rfl (sD ?_)
 refine L8 (i + 1) ?_ ?_ ?_
 exact E1
 (exact ⟨by omega, fun j hji hl2 => (by by_cases he : j = i; (subst he; assumption); exact hj j (by omega) hl2)⟩)
 (show C - (i + 1) < C - i; omega)
 refine sD (nS (cF rfl (tK (nS (tS (tR ?_))))))
 refine sL (A3 rfl rfl (A7 (by repeat first | exact mH | apply mT)) hl) rfl rfl ?_
 (have hvF : E2 ks[i] = false := (by assumption); obtain ⟨hs1, hs2, hs3⟩ := hkidS' i (by omega) hiC (fun j hji hl2 => hj j hji hl2) hvF; refine D7 rfl (ih ks[i] (List.getElem_mem (by omega)) G e (hkk _ (List.getElem_mem (by omega))) hvF hre) rfl rfl (fun v G1 hle1 hh => ?_); obtain ⟨u, uc, rfl, hru, hu1⟩ := hh; have hul := hru.len; have huo := hru.one; have hClo := B3L G1 _ ks.length c es (hsl.mono hle1) (by omega) (by omega))
 refine J8 ?_
 refine sE (A6 rfl) rfl (fun b81 => ?_)
 refine sS rfl rfl rfl hul huo rfl ?_ (hu := by exact C1 hul.symm)
 refine D5 ?_
 refine sE (A6 rfl) rfl (fun b90 => ?_)
 refine D5 ?_
 (refine A4i rfl hClo rfl rfl (fun v98 G98 outs98 hle98 h98 => ?_); obtain ⟨hG, p1, c1, rfl, rfl⟩ := h98; replace hG := hG.symm; subst hG; refine A8M (cs := es.flatten) (by repeat (first | exact Pk.here | apply Pk.there)) (by omega) (fun bc Cc hpe hnc1 hcm => ?_); subst hpe)
 replace hru := hru.mono hle98
 refine D8 ?_
 refine sL (A3 rfl rfl (A7 (by repeat first | exact mH | apply mT)) hul) rfl rfl ?_
 refine sP (B4 (j := i) rfl rfl rfl (by omega)) rfl rfl ?_
 refine P5 rfl rfl rfl hul huo rfl (by repeat first | exact Sw.here | apply Sw.there) (by exact A8O (by rw [hkl.len]; omega) (fun e he => (hsl.all e he)) hul) ?_
 refine N2 ?_
 (refine A3v (bs := [(bc, (es.set i uc).flatten ++ Cc)]) (Pk.perm (by repeat (first | exact Pk.here | apply Pk.there))) (fun hn2 hd2 hle2 => ?_))
 refine tT (rB (rS (A5g (rB (rS ?_)))))
 refine I0 (rC rfl (A4 rfl rfl)) (rT rfl) (rT rfl) ?_
 (have hks2 := E5.set (j := i) ((hkl.mono hle1).mono hle2) (hru.mono hle2); refine A98 (r' := U5) hs1 hs2 (A8.put (us := ks.set i u) (es := es.set i uc) hk hnum hlb ((hty.mono hle1).mono hle2) ((hfr.mono hle1).mono hle2) (by rw [List.length_set]) (C9.of (Sl.of_blk (A := []) (by rw [A1A hks2.all, hks2.len, List.length_set]) (by omega) hcm (Wi.in hn2 List.mem_cons_self)) (by rw [hks2.len, List.length_set]) hks2.all (fun e he => by obtain ⟨q, hq⟩ := List.getElem?_of_mem he; exact (hks2.inv hq I9).2.one)) hks2) (fun h1 => by rw [hs3 h1, hu1 h1]))
 refine J4 ?_
 focus (have hall : ∀ i, i < C → (hl : i < ks.length) → E2 ks[i] = true := (fun j hjc hl2 => hj j (by omega) hl2); have hk8 := hkd hall; have hrd' := hrd hall; refine D7 rfl (hRA hk8) rfl rfl (fun v G1 hle1 hh => ?_); obtain ⟨u, uc, cc, rfl, hru, hy, hno⟩ := hh; have hul := hru.len; have huo := hru.one; rcases hm : X1 k ks with _ | x; rotate_left; obtain ⟨rfl, rfl⟩ := hy _ hm; rotate_left; obtain rfl := hno hm; rw [hm] at hrd')
 refine H9 ?_
 refine sE (A6 rfl) rfl (fun b149 => ?_)
 refine sS rfl rfl rfl hul huo rfl ?_ (hu := by exact C1 hul.symm)
 refine sQ (qA rfl) rfl (sD (nS (tS (tR (sQ (qM rfl) rfl ?_)))))
 refine sP (E6 rfl rfl (by omega)) rfl rfl ?_
 refine J6 ?_
 refine sB (qE rfl rfl) rfl rfl (fun h169 => ?_) (fun h169 => ?_)
 refine J4 ?_
 refine I0 (rC rfl (A4 rfl rfl)) (rT rfl) (rT rfl) ?_
 (obtain rfl : k = 1 := B4w hk8 (by omega); rw [hrd']; exact R7.mk rfl (O4 _))
 refine F8 ?_
 (have hk7 : k = 6 ∨ k = 7 ∨ k = 8 ∨ k = 9 ∨ k = 11 ∨ k = 12 ∨ k = 14 := (by rcases hk8 with h1 | hh; (rw [h1] at hops; have : D3 1 = 0 := rfl; omega); exact hh); refine D7 rfl (hCA hk7 _ hle1) rfl rfl (fun v G2 hle2 hh => ?_); obtain ⟨w, wc, rfl, hrw, hw1⟩ := hh; have hwl := hrw.len; have hwo := hrw.one)
 refine H9 ?_
 refine sS rfl rfl rfl hwl hwo rfl ?_ (hu := by exact C1 hwl.symm)
 refine sQ (qA rfl) rfl (sQ (qA rfl) rfl (sD (nS (tT ?_))))
 refine I0 (rC rfl (A3 rfl rfl (A7 (by repeat first | exact mH | apply mT)) hwl)) (rT rfl) (rT rfl) ?_
 (rw [hrd']; exact A98 (r' := U5) rfl rfl hrw hw1)
 refine H9 ?_
 refine sE (A6 rfl) rfl (fun b208 => ?_)
 refine sS rfl rfl rfl hul huo rfl ?_ (hu := by exact C1 hul.symm)
 refine sQ (qA rfl) rfl (sD (nS (tS (tR (sQ (qM rfl) rfl ?_)))))
 refine sP (Q8 rfl rfl (by omega)) rfl rfl ?_
 refine sD (nS (qT rfl (tS (tR ?_))))
 refine sL (A3 rfl rfl (A7 (by repeat first | exact mH | apply mT)) hul) rfl rfl ?_
 refine sQ (qM rfl) rfl ?_
 refine sS rfl rfl rfl hul huo rfl ?_ (hu := by exact C1 hul.symm)
 refine sQ (qA rfl) rfl (sQ (qA rfl) rfl (sD (nS (tT (rS ?_)))))
 refine I0 (rC rfl (A3 rfl rfl (A7 (by repeat first | exact mH | apply mT)) hul)) (rT rfl) (rT rfl) ?_
 (rw [hrd', hm]; exact R7.mk rfl hru)
def A0T (r : Stp) : IM → Value → List A5 → Prop := L2 fun G' v => ∃ cells, v = .tuple ⟨[.agg ⟨cells⟩, .int .i64 r.2.1, .int .i64 r.2.2]⟩ ∧ A8 G' r.1 cells
theorem A0T.mk {G : IM} {r : Stp} {u : Tm} {c l : Int} {cells : List Value} (h : r = (u, c, l)) (hr : A8 G u cells) : A0T r G (.tuple ⟨[.agg ⟨cells⟩, .int .i64 c, .int .i64 l]⟩) [] := by
 subst h; exact ⟨rfl, cells, rfl, hr⟩
theorem A1M {t : Tm} (h : I3 t = true) : t.small := A4F t (A1H h).1
theorem A99 {e : Tm} (h : I3 e = false) : E4 e = (I9, 3, 0) := by unfold E4; rw [if_pos h]; rfl
theorem A6E {e : Tm} (h : I3 e = true) (h2 : E2 e = true) : E4 e = (e, 0, 0) := by unfold E4; rw [if_neg (by rw [h]; decide), if_pos h2]
theorem A4W {e : Tm} (h : I3 e = true) (h2 : E2 e = false) (h3 : (I2 e).2.1 ≠ 1) : E4 e = (I9, (I2 e).2.1, (I2 e).2.2) := by
 unfold E4; rw [if_neg (by rw [h]; decide), if_neg (by rw [h2]; decide), if_pos h3]
theorem A4X {e : Tm} (h : I3 e = true) (h2 : E2 e = false) (h3 : (I2 e).2.1 = 1) (h4 : I3 (I2 e).1 = false) : E4 e = (I9, 4, 0) := by
 unfold E4; rw [if_neg (by rw [h]; decide), if_neg (by rw [h2]; decide), if_neg (by omega), if_pos h4]
theorem A4Y {e : Tm} (h : I3 e = true) (h2 : E2 e = false) (h3 : (I2 e).2.1 = 1) (h4 : I3 (I2 e).1 = true) : E4 e = ((I2 e).1, 1, 0) := by
 unfold E4; rw [if_neg (by rw [h]; decide), if_neg (by rw [h2]; decide), if_neg (by omega), if_neg (by rw [h4]; decide)]
theorem B4y (t : Tm) (G : IM) (cells : List Value) (hr : A8 G t cells) : Fn Tryz.prog 124 [.agg ⟨cells⟩] [] G (A0T (E4 t)) := by
 have hRl := hr.len
 have hRo := hr.one
 have hV := A2m t G cells hr
 have hI := A6a t G cells hr
 refine B6 Tryz.func124 rfl Tryz.ntmps124 Tryz.results124 rfl ?_
 intro w0
 refine tS (tR ?_)
 refine sE (C4 rfl rfl) rfl (fun b3 => ?_)
 refine sE (A6 rfl) rfl (fun b4 => ?_)
 refine sQ (qA rfl) rfl (sQ (qA rfl) rfl (sD (nS (tS ?_))))
 refine C3 ?_
 refine tS (tR ?_)
 refine sL (A3 rfl rfl (A7 (by repeat first | exact mH | apply mT)) hRl) rfl rfl ?_
 refine F4 rfl (hV) rfl rfl (fun h14 => ?_) (fun h14 => ?_)
 refine D5 ?_
 refine sL (A3 rfl rfl (A7 (by repeat first | exact mH | apply mT)) hRl) rfl rfl ?_
 refine F4 rfl (hI) rfl rfl (fun h23 => ?_) (fun h23 => ?_)
 refine sQ (qA rfl) rfl (sD (nS (qT rfl (tS (tR ?_)))))
 refine sL (A3 rfl rfl (A7 (by repeat first | exact mH | apply mT)) hRl) rfl rfl ?_
 (refine D7 rfl (A5N t G cells (A1M (by assumption)) hr) rfl rfl (fun v G1 hle1 hh => ?_); obtain ⟨K9, F1, rfl, hs1, hn1⟩ := hh; have hul := hs1.R.len; have huo := hs1.R.one)
 refine sS rfl rfl rfl hul huo rfl ?_ (hu := by exact C1 hul.symm)
 refine D5 ?_
 refine I0 (rC rfl (A3 rfl rfl (A7 (by repeat first | exact mH | apply mT)) hul)) (rT rfl) (rT rfl) ?_
 (exact A0T.mk (A6E (by assumption) (by assumption)) (hs1.R.mono (C2.le _ _)))
 refine D8 ?_
 refine sL (A3 rfl rfl (A7 (by repeat first | exact mH | apply mT)) hRl) rfl rfl ?_
 (refine D7 rfl (B4x t G cells (A1H (by assumption)).1 (by assumption) hr) rfl rfl (fun v G1 hle1 hh => ?_); obtain ⟨u, uc, rfl, hru, hu1⟩ := hh; have hul := hru.len; have huo := hru.one; have hVu := A2m u G1 uc hru)
 refine J8 ?_
 refine sE (A6 rfl) rfl (fun b57 => ?_)
 refine sS rfl rfl rfl hul huo rfl ?_ (hu := by exact C1 hul.symm)
 refine sQ (qA rfl) rfl (sQ (qA rfl) rfl (sD (nS (tS ?_))))
 refine C3 ?_
 refine tS (tR (sQ (qM rfl) rfl ?_))
 refine sB (Q6 rfl rfl) rfl rfl (fun h68 => ?_) (fun h68 => ?_)
 refine P7 ?_
 refine I0 (rC rfl (A4 rfl rfl)) (rT rfl) (rT rfl) ?_
 (exact A0T.mk (A4W (by assumption) (by assumption) (by omega)) (O4 _))
 refine sQ (qA rfl) rfl (sD (nS (cF rfl (tS (tR ?_)))))
 refine sL (A3 rfl rfl (A7 (by repeat first | exact mH | apply mT)) hul) rfl rfl ?_
 refine F4 rfl (hVu) rfl rfl (fun h95 => ?_) (fun h95 => ?_)
 refine I8 ?_
 refine sL (A3 rfl rfl (A7 (by repeat first | exact mH | apply mT)) hul) rfl rfl ?_
 (refine D7 rfl (A5N u G1 uc (A1M (by assumption)) hru) rfl rfl (fun v G2 hle2 hh => ?_); obtain ⟨cs2, F2, rfl, hs2, hn2⟩ := hh; have hwl := hs2.R.len; have hwo := hs2.R.one)
 refine sS rfl rfl rfl hwl hwo rfl ?_ (hu := by exact C1 hwl.symm)
 refine sQ (qA rfl) rfl (sQ (qA rfl) rfl (sD (nS (tT ?_))))
 refine I0 (rC rfl (A3 rfl rfl (A7 (by repeat first | exact mH | apply mT)) hwl)) (rT rfl) (rT rfl) ?_
 (have h9 := hu1 (by omega); subst h9; exact A0T.mk (A4Y (by assumption) (by assumption) (by omega) (by assumption)) (hs2.R.mono (C2.le _ _)))
 refine M9 ?_
 refine I0 (rC rfl (A4 rfl rfl)) (rT rfl) (rT rfl) ?_
 (have h9 := hu1 (by omega); subst h9; exact A0T.mk (A4X (by assumption) (by assumption) (by omega) (by assumption)) (O4 _))
 refine M9 ?_
 refine I0 (rC rfl (A4 rfl rfl)) (rT rfl) (rT rfl) ?_
 (exact A0T.mk (A99 (by assumption)) (O4 _))
def P3 : Nat → Tm → Tm × Int × Int × Nat
 | 0, e => ((E4 e).1, (E4 e).2.1, (E4 e).2.2, 0)
 | n + 1, e => if (E4 e).2.1 = 1 then ((P3 n (E4 e).1).1, (P3 n (E4 e).1).2.1, (P3 n (E4 e).1).2.2.1, (P3 n (E4 e).1).2.2.2 + 1)
  else ((E4 e).1, (E4 e).2.1, (E4 e).2.2, 0)
theorem A6F (e : Tm) : P3 0 e = ((E4 e).1, (E4 e).2.1, (E4 e).2.2, 0) := by rw [P3]
theorem A6G {n : Nat} {e : Tm} (h : (E4 e).2.1 = 1) : P3 (n + 1) e = ((P3 n (E4 e).1).1, (P3 n (E4 e).1).2.1, (P3 n (E4 e).1).2.2.1, (P3 n (E4 e).1).2.2.2 + 1) := by rw [P3, if_pos h]
theorem A6H {n : Nat} {e : Tm} (h : (E4 e).2.1 ≠ 1) : P3 (n + 1) e = ((E4 e).1, (E4 e).2.1, (E4 e).2.2, 0) := by rw [P3, if_neg h]
theorem A6I : ∀ (n : Nat) (e : Tm), (P3 n e).2.1 = 1 → H2 n e = (I9, 5, 0, (P3 n e).2.2.2)
 | 0, e, h => by rw [A6F] at h ⊢; rw [H2, if_pos h]
 | n + 1, e, h => by
  by_cases h1 : (E4 e).2.1 = 1
  ·rw [A6G h1] at h ⊢
   rw [H2, if_pos h1, A6I n _ h]
  ·rw [A6H h1] at h; exact absurd h h1
theorem A6J : ∀ (n : Nat) (e : Tm), (P3 n e).2.1 ≠ 1 → H2 n e = P3 n e
 | 0, e, h => by rw [A6F] at h ⊢; rw [H2, if_neg h]
 | n + 1, e, h => by
  by_cases h1 : (E4 e).2.1 = 1
  ·rw [A6G h1] at h ⊢
   rw [H2, if_pos h1, A6J n _ h]
  ·rw [A6H h1]; rw [H2, if_neg h1]
def EvP (r : Tm × Int × Int × Nat) : IM → Value → List A5 → Prop := L2 fun G' v => ∃ cells, v = .tuple ⟨[.agg ⟨cells⟩, .int .i64 r.2.1, .int .i64 r.2.2.1, .int .i64 (r.2.2.2 : Int)]⟩ ∧ A8 G' r.1 cells
def A2z (i : Nat) (r : Tm × Int × Int × Nat) : Tm × Int × Int × Nat := (r.1, r.2.1, r.2.2.1, r.2.2.2 + i)
theorem B4z {m i : Nat} {e : Tm} (h : (E4 e).2.1 ≠ 1 ∨ m = 0) : A2z i (P3 m e) = ((E4 e).1, (E4 e).2.1, (E4 e).2.2, i) := by
 cases m with
 | zero => simp [A2z, P3]
 | succ m =>
  rcases h with h | h
  ·simp only [A2z, P3]; rw [if_neg h]; simp
  ·cases h
theorem B4A {m i : Nat} {e : Tm} (h : (E4 e).2.1 = 1) (hm : 0 < m) : A2z i (P3 m e) = A2z (i + 1) (P3 (m - 1) (E4 e).1) := by
 obtain ⟨k, rfl⟩ : ∃ k, m = k + 1 := ⟨m - 1, by omega⟩
 simp only [A2z, P3]; rw [if_pos h]; simp only [Nat.add_sub_cancel, Nat.add_assoc, Nat.add_comm 1 i]
section fin
variable {P : Program} {Γ : M1} {env : M7} {hp : List A5} {G : IM}
theorem B4B {post : IM → Value → List A5 → Prop} {σ : Sy} (hk : post σ.G (.tuple ⟨[]⟩) []) : A0H P Γ [] post .normal σ := ⟨[], .nil, [], σ.hp, by simp, hk⟩
theorem B0a {r r2 r3 r4 : ResultVar} {post : IM → Value → List A5 → Prop} {v v2 v3 v4 : Value} (h : A0k P Γ ⟨env, hp, G⟩ r v) (h2 : A0k P Γ ⟨env, hp, G⟩ r2 v2) (h3 : A0k P Γ ⟨env, hp, G⟩ r3 v3) (h4 : A0k P Γ ⟨env, hp, G⟩ r4 v4) (hk : post G (.tuple ⟨[v, v2, v3, v4]⟩) []) :
  A0H P Γ [r, r2, r3, r4] post .ret ⟨env, hp, G⟩ := A4f (.cons h (.cons h2 (.cons h3 (.cons h4 .nil)))) hk
end fin
theorem EvP.mk {G : IM} {r : Tm × Int × Int × Nat} {u : Tm} {c l : Int} {i : Nat} {cells : List Value} (h : r = (u, c, l, i)) (hr : A8 G u cells) : EvP r G (.tuple ⟨[.agg ⟨cells⟩, .int .i64 c, .int .i64 l, .int .i64 (i : Int)]⟩) [] := by
 subst h; exact ⟨rfl, cells, rfl, hr⟩
theorem B4C (e : Tm) (n : Nat) (hn : n ≤ 300) (fid : FuncId) [B7 Tryz.prog fid] (us cs : List Value) (hq : ∀ (G : IM) (u : Tm) (cells : List Value), A8 G u cells → Fn Tryz.prog fid (us ++ [.agg ⟨cells⟩] ++ cs) [] G (J3 (.tuple ⟨[]⟩) G))
  (G : IM) (cells : List Value) (hr : A8 G e cells) : Fn Tryz.prog 54 [.agg ⟨cells⟩, .int .i64 (n : Int), .func (.func fid) ⟨us⟩ ⟨cs⟩] [] G (EvP (P3 n e)) := by
 have hRl := hr.len
 have hRo := hr.one
 have hq0 := hq G e cells hr
 refine B6 Tryz.func54 rfl Tryz.ntmps54 Tryz.results54 rfl ?_
 intro w0
 refine tS (tR ?_)
 refine sE (C4 rfl rfl) rfl (fun b3 => ?_)
 refine sE (A6 rfl) rfl (fun b4 => ?_)
 refine F8 ?_
 refine sL (A3 rfl rfl (A7 (by repeat first | exact mH | apply mT)) hRl) rfl rfl ?_
 (refine A7w rfl rfl hq0 rfl rfl ?_)
 refine sD (nS (tS (tR (sQ (qA rfl) rfl (sD (nS ?_))))))
 refine C3 ?_
 (refine M6 (fun (x : Nat × Tm × List Value × IM) => ⟨[(10, .int .i64 (x.1 : Int)), (1, .int .i64 (n : Int)), (2, .func (.func fid) ⟨us⟩ ⟨cs⟩), (3, .pointer (some ⟨b3, 0, none⟩)), (6, .pointer (some ⟨b4, 0, none⟩))], [.blk b3 x.2.2.1, .blk b4 [.int .i64 0, .string ⟨⟨[]⟩⟩, .int .i64 0, .int .i64 0, .slice none 0 0, .int .i64 0, .slice none 0 0, .int .i64 0, .slice none 0 0]], x.2.2.2⟩) (fun x => x.1 ≤ n ∧ B8 G x.2.2.2 ∧ A8 x.2.2.2 x.2.1 x.2.2.1 ∧ A2z x.1 (P3 (n - x.1) x.2.1) = P3 n e) (fun x => n - x.1) (0, e, cells, G) ?_ ?_ ?_)
 (simp only [K4]; exact E1)
 (exact ⟨Nat.zero_le _, B8.refl _, hr, rfl⟩)
 (rintro ⟨i, u, uc, Gi⟩ ⟨hi, hle, hru, hev⟩; simp only [] at hi hle hru hev ⊢; have hul := hru.len; have huo := hru.one)
 refine tS ?_
 refine C3 ?_
 refine tS (tR ?_)
 refine sL (A3 rfl rfl (A7 (by repeat first | exact mH | apply mT)) hul) rfl rfl ?_
 (refine D7 rfl (B4y u Gi uc hru) rfl rfl (fun v G1 hle1 hh => ?_); obtain ⟨wc, hv, hrw⟩ := hh; have hwl := hrw.len; have hwo := hrw.one; have hend := @B4z (n - i) i u; have hgo := @B4A (n - i) i u; generalize E4 u = r at hv hrw hend hgo; obtain ⟨w, c, l⟩ := r; simp only at hv hrw hend hgo; subst hv)
 refine J8 ?_
 refine sE (A6 rfl) rfl (fun b37 => ?_)
 refine sS rfl rfl rfl hwl hwo rfl ?_ (hu := by exact C1 hwl.symm)
 refine F8 ?_
 refine sB (Q6 rfl rfl) rfl rfl (fun h47 => ?_) (fun h47 => ?_)
 refine I8 ?_
 refine sL (A3 rfl rfl (A7 (by repeat first | exact mH | apply mT)) hwl) rfl rfl ?_
 refine sQ (qM rfl) rfl (sQ (qM rfl) rfl (sQ (qM rfl) rfl ?_))
 refine sS rfl rfl rfl hwl hwo rfl ?_ (hu := by exact C1 hwl.symm)
 refine J6 ?_
 refine B0a (rC rfl (A3 rfl rfl (A7 (by repeat first | exact mH | apply mT)) hwl)) (rT rfl) (rT rfl) (rT rfl) ?_
 (exact EvP.mk (by rw [← hev]; exact hend (by omega)) hrw)
 refine sQ (qM rfl) rfl (sQ (qM rfl) rfl (sQ (qM rfl) rfl ?_))
 refine sB (qE rfl rfl) rfl rfl (fun h79 => ?_) (fun h79 => ?_)
 refine sQ (L6 rfl rfl) rfl (sD (nS (qT rfl (tS (tR ?_)))))
 refine sL (A3 rfl rfl (A7 (by repeat first | exact mH | apply mT)) hwl) rfl rfl ?_
 refine sQ (qM rfl) rfl (sQ (qM rfl) rfl (sQ (qM rfl) rfl ?_))
 refine sS rfl rfl rfl hwl hwo rfl ?_ (hu := by exact C1 hwl.symm)
 refine J6 ?_
 refine B0a (rC rfl (A3 rfl rfl (A7 (by repeat first | exact mH | apply mT)) hwl)) (rT rfl) (rT rfl) (rT rfl) ?_
 (exact EvP.mk (by rw [← hev]; exact hend (by omega)) hrw)
 refine F8 ?_
 refine sL (A3 rfl rfl (A7 (by repeat first | exact mH | apply mT)) hwl) rfl rfl ?_
 refine P5 rfl rfl rfl hwl hwo rfl (by repeat first | exact Sw.here | apply Sw.there) (by exact C1 (hul.trans hwl.symm)) ?_
 refine sD (nS (tR (sQ (qM rfl) rfl ?_)))
 refine sL (A3 rfl rfl (A7 (by repeat first | exact mH | apply mT)) hwl) rfl rfl ?_
 (refine A7w rfl rfl (hq G1 w wc hrw) rfl rfl ?_)
 refine sD (O2 (nS (tR (sQ (qM rfl) rfl ?_))))
 refine sP (M8 rfl rfl (by omega) (by omega)) rfl rfl ?_
 refine sQ (qA rfl) rfl (sD ?_)
 refine L8 (i + 1, w, wc, G1) ?_ ?_ ?_
 (simp only [K4]; exact E1)
 (dsimp only; exact ⟨by omega, hle.trans hle1, hrw, by rw [← hev, hgo (by omega) (by omega), show n - (i + 1) = n - i - 1 by omega]⟩)
 (show n - (i + 1) < n - i; omega)
theorem B4D (fuel : Int) (G : IM) : Fn Tryz.prog 53 [.int .i64 fuel] [] G (J3 (.bool (S4 fuel 0 300)) G) := by
 refine B6 Tryz.func53 rfl Tryz.ntmps53 Tryz.results53 rfl ?_
 intro w0
 refine F8 ?_
 refine E8 rfl ((A1e _ _ _ _)) rfl rfl ?_
 refine sQ (qA rfl) rfl (sD (nS (tT (D6 (rT rfl) ?_))))
 (exact ⟨rfl, rfl, rfl⟩)
theorem B4E {e : Tm} {fuel : Int} (h : S4 fuel 0 300 = false) : K6 e fuel = (I9, 3, 0) := by
 unfold K6; rw [if_neg (A7H h)]; rfl
theorem B4F {e : Tm} {fuel : Int} (h : S4 fuel 0 300 = true) (h1 : (P3 fuel.toNat e).2.1 = 1) : K6 e fuel = (I9, 5, 0) := by
 unfold K6; rw [if_pos (A4k h), A6I _ _ h1]
theorem B4G {e : Tm} {fuel : Int} (h : S4 fuel 0 300 = true) (h1 : (P3 fuel.toNat e).2.1 ≠ 1) : K6 e fuel = ((P3 fuel.toNat e).1, (P3 fuel.toNat e).2.1, (P3 fuel.toNat e).2.2.1) := by
 unfold K6; rw [if_pos (A4k h), A6J _ _ h1]
theorem B4H (G : IM) (cells : List Value) (hl : cells.length = 9) (ho : cells.all (·.oneCell') = true) : Fn Tryz.prog 55 [.agg ⟨cells⟩] [] G (J3 (.tuple ⟨[]⟩) G) := by
 refine B6 Tryz.func55 rfl Tryz.ntmps55 Tryz.results55 rfl ?_
 intro w0
 refine tR ?_
 refine sE (C4 rfl rfl) rfl (fun b2 => ?_)
 refine sD ?_
 refine B4B ?_
 (exact ⟨rfl, rfl, rfl⟩)
theorem A26 (e : Tm) (fuel : Int) (G : IM) (cells : List Value) (hr : A8 G e cells) : Fn Tryz.prog 15 [.agg ⟨cells⟩, .int .i64 fuel] [] G (A0T (K6 e fuel)) := by
 have hRl := hr.len
 have hRo := hr.one
 have hno := @B4E e fuel
 have hmu := @B4F e fuel
 have hen := @B4G e fuel
 refine B6 Tryz.func15 rfl Tryz.ntmps15 Tryz.results15 rfl ?_
 intro w0
 refine tS (tR ?_)
 refine sE (C4 rfl rfl) rfl (fun b3 => ?_)
 refine sE (A6 rfl) rfl (fun b4 => ?_)
 refine F8 ?_
 refine F4 rfl ((B4D fuel _)) rfl rfl (fun h13 => ?_) (fun h13 => ?_)
 refine sQ (Q5 rfl) rfl (sD (nS (cF rfl (tK (nS (tS (tR ?_)))))))
 refine sL (A3 rfl rfl (A7 (by repeat first | exact mH | apply mT)) hRl) rfl rfl ?_
 refine sQ (qM rfl) rfl ?_
 (have hf : S4 fuel 0 300 = true := (by assumption); have hf2 := A4k hf; have hE := B4C e fuel.toNat (by omega) 55 [] [] (fun G u cells hru => B4H G cells hru.len hru.one) G cells hr; rw [Int.toNat_of_nonneg hf2.1] at hE; refine D7 rfl hE rfl rfl (fun v G1 hle1 hh => ?_); obtain ⟨wc, hv, hrw⟩ := hh; have hwl := hrw.len; have hwo := hrw.one; have hmu := hmu hf; have hen := hen hf; generalize P3 fuel.toNat e = r at hv hrw hmu hen; obtain ⟨w, c, l, i⟩ := r; simp only at hv hrw hmu hen; subst hv)
 refine R0 ?_
 refine sE (A6 rfl) rfl (fun b30 => ?_)
 refine sS rfl rfl rfl hwl hwo rfl ?_ (hu := by exact C1 hwl.symm)
 refine D8 ?_
 refine sB (qE rfl rfl) rfl rfl (fun h41 => ?_) (fun h41 => ?_)
 refine J4 ?_
 refine I0 (rC rfl (A4 rfl rfl)) (rT rfl) (rT rfl) ?_
 (exact A0T.mk (hmu (by omega)) (O4 _))
 refine sD (nS (cF rfl (tK (nS (tS (tR ?_))))))
 refine sL (A3 rfl rfl (A7 (by repeat first | exact mH | apply mT)) hwl) rfl rfl ?_
 refine sQ (qM rfl) rfl (sQ (qM rfl) rfl ?_)
 refine sS rfl rfl rfl hwl hwo rfl ?_ (hu := by exact C1 hwl.symm)
 refine sQ (qA rfl) rfl (sQ (qA rfl) rfl (sD (nS (tT ?_))))
 refine I0 (rC rfl (A3 rfl rfl (A7 (by repeat first | exact mH | apply mT)) hwl)) (rT rfl) (rT rfl) ?_
 (exact A0T.mk (hen (by omega)) hrw)
 refine O0 ?_
 refine I0 (rC rfl (A4 rfl rfl)) (rT rfl) (rT rfl) ?_
 (exact A0T.mk (hno (by assumption)) (O4 _))
mutual
def U6 (L : Int → Prop) : Tm → Prop
 | .mk k nm num ty fr lb ks => (k = 14 → L lb) ∧ A1o L ks
def A1o (L : Int → Prop) : List Tm → Prop
 | [] => True
 | t :: ts => U6 L t ∧ A1o L ts
end
theorem A0v {L : Int → Prop} {k : Int} {nm : ByteArray} {num : Int} {ty fr : Ty} {lb : Int} {ks : List Tm} : U6 L (.mk k nm num ty fr lb ks) ↔ (k = 14 → L lb) ∧ A1o L ks := by rw [U6]
theorem A1N {L : Int → Prop} : ∀ {ts : List Tm}, A1o L ts ↔ ∀ t ∈ ts, U6 L t
 | [] => by simp [A1o]
 | t :: ts => by rw [A1o, A1N (ts := ts)]; simp
theorem A2A {L : Int → Prop} {e : Tm} {a b : Ty} {l : Int} (hl : L l) (h : U6 L e) : U6 L (L1 e a b l) := by
 rw [L1, A0v]; exact ⟨fun _ => hl, by simp [A1o, h]⟩
theorem A6K {L : Int → Prop} {k : Int} {ks : List Tm} (hk : k ≠ 14) (h : ∀ t ∈ ks, U6 L t) : U6 L (A0r k ks) := by
 rw [A0r, A0v]; exact ⟨fun e => absurd e hk, A1N.2 h⟩
mutual
theorem B0b {L : Int → Prop} {x : ByteArray} {v : Tm} (hv : U6 L v) : ∀ t, U6 L t → U6 L (T6 x v t)
 | .mk k nm num ty fr lb ks, h => by
  rw [A0v] at h
  rw [T6]
  split
  ·exact hv
  ·split
   ·rw [A0v]; exact h
   ·rw [A0v]; exact ⟨h.1, B0c hv ks h.2⟩
theorem B0c {L : Int → Prop} {x : ByteArray} {v : Tm} (hv : U6 L v) : ∀ ts, A1o L ts → A1o L (S1 x v ts)
 | [], _ => by rw [S1]; trivial
 | t :: ts, h => by rw [S1, A1o]; exact ⟨B0b hv t h.1, B0c hv ts h.2⟩
end
theorem A27 {f : Tm} {U : Ty} (hv : E2 f = true) (ht : B9 [] f = some U) (hc : cv f) :
  (U.k = 2 → f.k = 2) ∧ (U.k = 3 → f.k = 3 ∨ f.k = 4) ∧ (U.k = 4 → f.k = 5 ∨ (S6 f = true ∧ f.ty.k = 4)) ∧ (U.k = 5 → f.k = 10 ∨ (S6 f = true ∧ f.ty.k = 5)) ∧ (U.k = 1 → inj f = true) := by
 obtain ⟨k, nm, num, ty, fr, lb, ks⟩ := f
 obtain ⟨hN, _⟩ := hc.node
 have hop := hN.ops
 rw [A1I, A4H]
 show (U.k = 2 → k = 2) ∧ (U.k = 3 → k = 3 ∨ k = 4) ∧ (U.k = 4 → k = 5 ∨ (_ ∧ ty.k = 4)) ∧ (U.k = 5 → k = 10 ∨ (_ ∧ ty.k = 5)) ∧ (U.k = 1 → _)
 by_cases h10 : k = 10
 ·subst h10
  obtain ⟨a, b, rfl⟩ := ks2 (ks := ks) (by have : D3 10 = 2 := rfl; omega)
  obtain ⟨A, B, _, _, rfl⟩ := A4S ht
  refine ⟨fun h => ?_, fun h => ?_, fun h => ?_, fun h => .inl rfl, fun h => ?_⟩ <;> (exfalso; simp [Ty.k, O1, S5] at h)
 by_cases h14 : k = 14
 ·subst h14
  obtain ⟨a, rfl⟩ := ks1 (ks := ks) (by have : D3 14 = 1 := rfl; omega)
  obtain ⟨_, rfl⟩ := A1L ht
  by_cases hp : fr.k = U.k ∧ (U.k = 4 ∨ U.k = 5)
  ·refine ⟨fun h => by omega, fun h => by omega, fun h => .inr ⟨decide_eq_true ⟨rfl, hp⟩, h⟩, fun h => .inr ⟨decide_eq_true ⟨rfl, hp⟩, h⟩, fun h => by omega⟩
  ·by_cases hi : U.k = 1 ∧ S9 fr = true
   ·refine ⟨fun h => by omega, fun h => by omega, fun h => by omega, fun h => by omega, fun _ => ?_⟩
    rw [hi.2, decide_eq_true ⟨rfl, hi.1⟩]; rfl
   ·exfalso
    rw [E2, if_neg (by rintro (h | h | h); exact absurd h (by decide); exact hp h.2; exact hi h.2)] at hv
    exact absurd (of_decide_eq_true hv) (by decide)
 ·have hk : k = 2 ∨ k = 3 ∨ k = 4 ∨ k = 5 := by
   rw [E2, if_neg (by rintro (h | h | h); exact h10 h; exact h14 h.1; exact h14 h.1)] at hv
   exact of_decide_eq_true hv
  by_cases h5 : k = 5
  ·subst h5
   obtain ⟨a, rfl⟩ := ks1 (ks := ks) (by have : D3 5 = 1 := rfl; omega)
   obtain ⟨B, _, rfl⟩ := A6z ht
   refine ⟨fun h => ?_, fun h => ?_, fun h => .inl rfl, fun h => ?_, fun h => ?_⟩ <;> (exfalso; simp [Ty.k, O1, S5] at h)
  ·have hks : ks = [] := List.length_eq_zero_iff.1 (by
    rcases hk with h | h | h | h
    ·subst h; have : D3 2 = 0 := rfl; omega
    ·subst h; have : D3 3 = 0 := rfl; omega
    ·subst h; have : D3 4 = 0 := rfl; omega
    ·exact absurd h h5)
   subst hks
   by_cases h2 : k = 2
   ·subst h2
    obtain rfl := A9M ht
    refine ⟨fun _ => rfl, fun h => ?_, fun h => ?_, fun h => ?_, fun h => ?_⟩ <;> (exfalso; simp [Ty.k, O1, S5] at h)
   ·have h34 : k = 3 ∨ k = 4 := by omega
    obtain rfl := A9N h34 ht
    refine ⟨fun h => ?_, fun _ => h34, fun h => ?_, fun h => ?_, fun h => ?_⟩ <;> (exfalso; simp [Ty.k, O1, S5] at h)
theorem B0d {k : Int} {nm : ByteArray} {num : Int} {ty fr : Ty} {lb : Int} {ks : List Tm} (h : S6 (.mk k nm num ty fr lb ks) = true) : k = 14 ∧ fr.k = ty.k ∧ (ty.k = 4 ∨ ty.k = 5) := by
 rw [A1I] at h; exact of_decide_eq_true h
theorem B4I {n : Int} (h : W2 n = true) : n ≠ 0 := by
 simp only [W2, Bool.or_eq_true, A3L] at h; omega
def A2B (L : Int → Prop) (T : Ty) (r : Stp) : Prop := (r.2.1 = 1 ∧ B9 [] r.1 = some T ∧ U6 L r.1) ∨ (r.2.1 = 2 ∧ L r.2.2)
theorem B0e {t : Ty} (h : S9 t = true) : t = A0a t := by
 unfold S9 at h
 rw [Bool.and_eq_true] at h
 exact (R2 _ _).1 h.2
theorem B4J {t u : Ty} (h : t.k = u.k) : A0a t = A0a u := by unfold A0a; rw [h]
theorem B4K (L : Int → Prop) (hL : ∀ l, L l → L (-l)) {k : Int} {nm : ByteArray} {num : Int} {ty fr : Ty} {lb : Int} {ks : List Tm} {T : Ty} (hc : cv (.mk k nm num ty fr lb ks))
  (h8 : k = 1 ∨ k = 6 ∨ k = 7 ∨ k = 8 ∨ k = 9 ∨ k = 11 ∨ k = 12 ∨ k = 14) (hnv : E2 (.mk k nm num ty fr lb ks) = false)
  (hval : ∀ i, i < (if k = 9 then 1 else ks.length) → (hl : i < ks.length) → E2 ks[i] = true)
  (ht : B9 [] (.mk k nm num ty fr lb ks) = some T) (hlb : U6 L (.mk k nm num ty fr lb ks)) : A2B L T (Y8 k ty fr lb ks) := by
 obtain ⟨hN, hkk⟩ := hc.node
 have hop := hN.ops
 rw [A0v, A1N] at hlb
 obtain ⟨hl14, hlk⟩ := hlb
 have hTv := A9J hc ht
 unfold Y8
 by_cases h6 : k = 6
 ·subst h6
  obtain ⟨f, v, rfl⟩ := ks2 (ks := ks) (by have : D3 6 = 2 := rfl; omega)
  obtain ⟨A, hf, hv⟩ := A6v ht
  have hcf := hkk f (by simp)
  have hcv := hkk v (by simp)
  have hlf := hlk f (by simp)
  have hlv := hlk v (by simp)
  have hvf : E2 f = true := hval 0 (by simp) (by simp)
  have hfv := A9J hcf hf
  rw [if_pos rfl]
  obtain ⟨_, _, hcan, _⟩ := A27 hvf hf hcf
  obtain ⟨fk, fnm, fnum, fty, ffr, flb, fks⟩ := f
  obtain ⟨hNf, hkf⟩ := hcf.node
  have hopf := hNf.ops
  rw [A0v, A1N] at hlf
  show A2B L T (if fk = 5 then (T6 fnm v (kd fks 0), 1, 0) else if S6 (.mk fk fnm fnum fty ffr flb fks) = true ∧ fty.k = 4 then (L1 (A0r 6 [kd fks 0, L1 v (kt fty.ks 0) (kt ffr.ks 0) (-flb)]) (kt ffr.ks 1) (kt fty.ks 1) flb, 1, 0) else U5)
  by_cases h5 : fk = 5
  ·subst h5
   rw [if_pos rfl]
   obtain ⟨b, rfl⟩ := ks1 (ks := fks) (by have : D3 5 = 1 := rfl; omega)
   obtain ⟨B, hb, hT⟩ := A6z hf
   cases hT
   refine .inl ⟨rfl, ?_, B0b hlv _ (hlf.2 b (by simp))⟩
   exact A9Q hv b _ [] _ (hkf b (by simp)) (fun y hy => by rw [A1n, if_neg (fun e => hy e.symm)]) (by rw [A1n, if_pos rfl]) hb
  ·rw [if_neg h5]
   have hcan' : S6 (.mk fk fnm fnum fty ffr flb fks) = true ∧ fty.k = 4 := (hcan rfl).resolve_left h5
   rw [if_pos hcan']
   obtain ⟨rfl, hfk, _⟩ := B0d hcan'.1
   obtain ⟨g, rfl⟩ := ks1 (ks := fks) (by have : D3 14 = 1 := rfl; omega)
   obtain ⟨hg, rfl⟩ := A1L hf
   obtain ⟨_, hv1, hv2⟩ := hNf.c14 rfl
   obtain ⟨frk, frs⟩ := ffr
   obtain rfl : frk = 4 := hfk.trans hcan'.2
   obtain ⟨C, D, rfl, hC, hD⟩ := A22 (.inl rfl) hv2
   have hfl := hlf.1 rfl
   refine .inl ⟨rfl, ?_, A2A hfl (A6K (by decide) (by
    intro t htm
    simp only [List.mem_cons, List.not_mem_nil, or_false] at htm
    rcases htm with rfl | rfl
    ·exact hlf.2 _ (by simp [kd])
    ·exact A2A (hL _ hfl) hlv))⟩
   exact A0Q (A9L (A := C) hD hg (A0Q hv))
 rw [if_neg h6]
 by_cases h7 : k = 7 ∨ k = 8
 ·obtain ⟨a, b, rfl⟩ := ks2 (ks := ks) (by rcases h7 with h | h <;> subst h <;> (first | (have : D3 7 = 2 := rfl; omega) | (have : D3 8 = 2 := rfl; omega)))
  obtain ⟨ha, hb, hT⟩ := A4R h7 ht
  have hva : E2 a = true := hval 0 (by rw [if_neg (by omega)]; simp) (by simp)
  have hvb : E2 b = true := hval 1 (by rw [if_neg (by omega)]; simp) (by simp)
  have ha2 := (A27 hva ha (hkk a (by simp))).1 rfl
  have hb2 := (A27 hvb hb (hkk b (by simp))).1 rfl
  rw [if_pos h7, if_pos (show (kd [a, b] 0).k = 2 ∧ (kd [a, b] 1).k = 2 from ⟨ha2, hb2⟩)]
  by_cases hk7 : k = 7
  ·rw [if_pos hk7]
   rw [if_neg (by omega)] at hT
   subst hT
   exact .inl ⟨rfl, rfl, by rw [A3K, A0v]; exact ⟨fun e => absurd e (by decide), trivial⟩⟩
  ·rw [if_neg hk7]
   rw [if_pos (by omega)] at hT
   subst hT
   refine .inl ⟨rfl, ?_, ?_⟩
   ·unfold A0P; split <;> rfl
   ·unfold A0P; exact A6K (by split <;> decide) (by simp)
 rw [if_neg h7]
 by_cases h9 : k = 9
 ·subst h9
  obtain ⟨a, b, c, rfl⟩ := ks3 (ks := ks) (by have : D3 9 = 3 := rfl; omega)
  obtain ⟨ha, hb, hcc⟩ := A6w ht
  have hva : E2 a = true := hval 0 (by simp) (by simp)
  have ha2 := (A27 hva ha (hkk a (by simp))).2.1 rfl
  rw [if_pos rfl]
  show A2B L T (if a.k = 3 then (b, 1, 0) else if a.k = 4 then (c, 1, 0) else U5)
  by_cases h3 : a.k = 3
  ·rw [if_pos h3]; exact .inl ⟨rfl, hb, hlk b (by simp)⟩
  ·rw [if_neg h3, if_pos (by omega)]; exact .inl ⟨rfl, hcc, hlk c (by simp)⟩
 rw [if_neg h9]
 by_cases h11 : k = 11 ∨ k = 12
 ·obtain ⟨a, rfl⟩ := ks1 (ks := ks) (by rcases h11 with h | h <;> subst h <;> (first | (have : D3 11 = 1 := rfl; omega) | (have : D3 12 = 1 := rfl; omega)))
  obtain ⟨A, B, ha, hT⟩ := A6x h11 ht
  have hva : E2 a = true := hval 0 (by rw [if_neg (by omega)]; simp) (by simp)
  have hca := hkk a (by simp)
  have hla := hlk a (by simp)
  have ha2 := (A27 hva ha hca).2.2.2.1 rfl
  rw [if_pos h11]
  obtain ⟨fk, fnm, fnum, fty, ffr, flb, fks⟩ := a
  obtain ⟨hNf, hkf⟩ := hca.node
  have hopf := hNf.ops
  rw [A0v, A1N] at hla
  show A2B L T (if fk = 10 then (kd fks (k - 11).toNat, 1, 0) else if S6 (.mk fk fnm fnum fty ffr flb fks) = true ∧ fty.k = 5 then (L1 (A0r k [kd fks 0]) (kt ffr.ks (k - 11).toNat) (kt fty.ks (k - 11).toNat) flb, 1, 0) else U5)
  by_cases h10 : fk = 10
  ·subst h10
   rw [if_pos rfl]
   obtain ⟨x, y, rfl⟩ := ks2 (ks := fks) (by have : D3 10 = 2 := rfl; omega)
   obtain ⟨A', B', hx, hy, he⟩ := A4S ha
   cases he
   rcases h11 with rfl | rfl
   ·rw [if_neg (by decide)] at hT; subst hT; exact .inl ⟨rfl, hx, hla.2 x (by simp)⟩
   ·rw [if_pos rfl] at hT; subst hT; exact .inl ⟨rfl, hy, hla.2 y (by simp)⟩
  ·rw [if_neg h10]
   have hcan' : S6 (.mk fk fnm fnum fty ffr flb fks) = true ∧ fty.k = 5 := ha2.resolve_left h10
   rw [if_pos hcan']
   obtain ⟨rfl, hfk, _⟩ := B0d hcan'.1
   obtain ⟨g, rfl⟩ := ks1 (ks := fks) (by have : D3 14 = 1 := rfl; omega)
   obtain ⟨hg, rfl⟩ := A1L ha
   obtain ⟨_, hv1, hv2⟩ := hNf.c14 rfl
   obtain ⟨frk, frs⟩ := ffr
   obtain rfl : frk = 5 := hfk.trans hcan'.2
   obtain ⟨C, D, rfl, hC, hD⟩ := A22 (.inr rfl) hv2
   have hfl := hla.1 rfl
   refine .inl ⟨rfl, ?_, A2A hfl (A6K (by omega) (by
    intro t htm
    simp only [List.mem_cons, List.not_mem_nil, or_false] at htm
    subst htm
    exact hla.2 _ (by simp [kd])))⟩
   have hg' : B9 [] (kd [g] 0) = some (.mk 5 [C, D]) := hg
   rcases h11 with rfl | rfl
   ·rw [if_neg (by decide)] at hT; subst hT
    exact A0Q (A6y (k := 11) (.inl rfl) (by rw [if_neg (by decide)]; exact hC) hg')
   ·rw [if_pos rfl] at hT; subst hT
    exact A0Q (A6y (k := 12) (.inr rfl) (by rw [if_pos rfl]; exact hD) hg')
 rw [if_neg h11]
 by_cases h14 : k = 14
 ·subst h14
  obtain ⟨a, rfl⟩ := ks1 (ks := ks) (by have : D3 14 = 1 := rfl; omega)
  obtain ⟨ha, rfl⟩ := A1L ht
  have hva : E2 a = true := hval 0 (by simp) (by simp)
  have hca := hkk a (by simp)
  have hla := hlk a (by simp)
  have hlb := hl14 rfl
  obtain ⟨hcons, htv, hfv⟩ := hN.c14 rfl
  rw [if_pos rfl]
  have hnp : ¬(fr.k = T.k ∧ (T.k = 4 ∨ T.k = 5)) := by
   intro hh
   rw [A4I (.inr (.inl (by rw [A1I]; exact decide_eq_true ⟨rfl, hh⟩))), List.all_cons, hva] at hnv
   cases hnv
  by_cases h1 : fr.k = T.k
  ·rw [if_pos h1]
   refine .inl ⟨rfl, ?_, hla⟩
   show B9 [] a = some T
   rw [ha]
   obtain ⟨fk, fs⟩ := fr
   obtain ⟨tk, ts⟩ := T
   obtain rfl : fk = tk := h1
   obtain ⟨_, rfl⟩ := A6u hfv (fun e => hnp ⟨rfl, .inl e⟩) (fun e => hnp ⟨rfl, .inr e⟩)
   obtain ⟨_, rfl⟩ := A6u htv (fun e => hnp ⟨rfl, .inl e⟩) (fun e => hnp ⟨rfl, .inr e⟩)
   rfl
  ·rw [if_neg h1]
   by_cases h2 : T.k = 1
   ·rw [if_pos h2]
    exact .inl ⟨rfl, A0Q (A0Q ha), A2A hlb (A2A hlb hla)⟩
   ·rw [if_neg h2]
    by_cases h3 : S9 T = false
    ·rw [if_pos h3]
     exact .inl ⟨rfl, A0Q (A0Q ha), A2A hlb (A2A hlb hla)⟩
    ·rw [if_neg h3]
     have hfr1 : fr.k = 1 := by
      obtain ⟨fk, fs⟩ := fr
      obtain ⟨tk, ts⟩ := T
      rw [V9] at hcons
      simp only [Bool.or_eq_true, Bool.and_eq_true, decide_eq_true_eq] at hcons
      rcases hcons with (h | h) | h
      ·exact h
      ·exact absurd h h2
      ·exact absurd h.1 h1
     have hi := (A27 hva ha hca).2.2.2.2 hfr1
     rw [if_neg (by rw [show kd [a] 0 = a from rfl, hi]; decide)]
     have hg : S9 T = true := by cases h : S9 T with | true => rfl | false => exact absurd h h3
     obtain ⟨fk, fnm, fnum, fty, ffr, flb, fks⟩ := a
     obtain ⟨hNf, _⟩ := hca.node
     have hopf := hNf.ops
     rw [A0v, A1N] at hla
     have hgi := A92 hi
     obtain rfl : fk = 14 := A91 hi
     obtain ⟨g, rfl⟩ := ks1 (ks := fks) (by have : D3 14 = 1 := rfl; omega)
     obtain ⟨hgt, _⟩ := A1L ha
     show A2B L T (if ffr.k = T.k then (kd [g] 0, 1, 0) else (I9, 2, lb))
     by_cases h4 : ffr.k = T.k
     ·rw [if_pos h4]
      refine .inl ⟨rfl, ?_, hla.2 g (by simp)⟩
      show B9 [] g = some T
      rw [hgt]
      congr 1
      exact (B0e hgi).trans ((B4J h4).trans (B0e hg).symm)
     ·rw [if_neg h4]
      exact .inr ⟨rfl, hlb⟩
 ·exfalso
  obtain rfl : k = 1 := by omega
  have hks : ks = [] := List.length_eq_zero_iff.1 (by have : D3 1 = 0 := rfl; omega)
  subst hks
  have := A3S ht
  simp [P2, V2] at this
theorem B4L {L : Int → Prop} {ks : List Tm} {i : Nat} {u : Tm} (h : ∀ t ∈ ks, U6 L t) (hu : U6 L u) : ∀ t ∈ ks.set i u, U6 L t := by
 intro t ht
 rcases List.mem_or_eq_of_mem_set ht with h1 | h1
 ·exact h t h1
 ·rw [h1]; exact hu
theorem B4M (L : Int → Prop) (hL : ∀ l, L l → L (-l)) : ∀ (e : Tm) (T : Ty), cv e → E2 e = false → B9 [] e = some T → U6 L e → A2B L T (I2 e) := by
 refine Tm.ind fun k nm num ty fr lb ks ih T hc hv ht hlb => ?_
 obtain ⟨hN, hkk⟩ := hc.node
 by_cases hall : ∀ i, i < (if k = 9 then 1 else ks.length) → (hl : i < ks.length) → E2 ks[i] = true
 ·have h8 := A97 hc hv hall
  have := B4K L hL hc h8 hv hall ht hlb
  rw [I2, A6D _ _ hall]
  exact this
 ·
  have hex : ∃ i, ∃ (hl : i < ks.length), i < (if k = 9 then 1 else ks.length) ∧ E2 ks[i] = false ∧ ∀ j, j < i → (h : j < ks.length) → E2 ks[j] = true := by
   have h0 : ∃ i, ∃ (hl : i < ks.length), i < (if k = 9 then 1 else ks.length) ∧ E2 ks[i] = false := by
    apply Classical.byContradiction
    intro hn
    exact hall fun i hi hl => by
     cases h : E2 ks[i] with
     | true => rfl
     | false => exact absurd ⟨i, hl, hi, h⟩ hn
   obtain ⟨i, h1⟩ := h0
   induction i using Nat.strongRecOn with
   | _ i ih2 =>
    obtain ⟨hl, hi, hvi⟩ := h1
    by_cases hj : ∃ j, j < i ∧ ∃ (h : j < ks.length), E2 ks[j] = false
    ·obtain ⟨j, hji, hjl, hjv⟩ := hj
     exact ih2 j hji ⟨hjl, by omega, hjv⟩
    ·refine ⟨i, hl, hi, hvi, fun j hji hjl => ?_⟩
     cases h : E2 ks[j] with
     | true => rfl
     | false => exact absurd ⟨j, hji, hjl, h⟩ hj
  obtain ⟨i, hl, hi, hvi, hbe⟩ := hex
  obtain ⟨s1, s2, s3⟩ := @A95 k nm num ty fr lb ks i hl hi hbe hvi
  have hk5 : k ≠ 5 := by
   rintro rfl
   rw [E2, if_neg (by omega)] at hv
   exact absurd hv (by decide)
  have hlb2 := (A0v.1 hlb).2
  rw [A1N] at hlb2
  rw [B9] at ht
  split at ht
  ·cases ht
  ·rename_i us hu
   rw [N3, if_neg hk5] at hu
   obtain ⟨U, hU, hset⟩ := A9B hu i hl
   have hg := ih ks[i] (List.getElem_mem hl) U (hkk _ (List.getElem_mem hl)) hvi hU (hlb2 _ (List.getElem_mem hl))
   unfold A2B
   rw [s1, s2]
   rcases hg with ⟨g1, g2, g3⟩ | ⟨g1, g2⟩
   ·refine .inl ⟨g1, ?_, ?_⟩
    ·rw [s3 g1, B9, N3, if_neg hk5, hset _ g2]
     exact ht
    ·rw [s3 g1, A0v]
     exact ⟨(A0v.1 hlb).1, A1N.2 (B4L hlb2 g3)⟩
   ·exact .inr ⟨g1, g2⟩
mutual
theorem B0f : ∀ e : Tm, cv e → U6 (fun l => l ≠ 0) e
 | .mk k nm num ty fr lb ks, h => by
  obtain ⟨hN, hk⟩ := h.node
  obtain ⟨d, hd⟩ := h
  obtain ⟨_, _, h3, _⟩ := Z9 hd
  obtain ⟨_, _, _, _, _, _, _, n8, _⟩ := X8.1 h3
  rw [A0v]
  exact ⟨fun hk14 => B4I (n8 hk14).2, A1N.2 fun t ht => (B0g ks hk) t ht⟩
theorem B0g : ∀ ts : List Tm, (∀ t ∈ ts, cv t) → ∀ t ∈ ts, U6 (fun l => l ≠ 0) t
 | [], _ => by simp
 | t :: ts, h => fun u hu => by
  rcases List.mem_cons.1 hu with h1 | hu
  ·rw [h1]; exact B0f t (h t List.mem_cons_self)
  ·exact B0g ts (fun x hx => h x (List.mem_cons_of_mem _ hx)) u hu
end
theorem B0h (L : Int → Prop) (hL : ∀ l, L l → L (-l)) (e : Tm) (T : Ty) (hc : I3 e = true) (ht : B9 [] e = some T) (hl : U6 L e) :
  (E4 e = (e, 0, 0) ∧ E2 e = true) ∨ (∃ l, E4 e = (I9, 2, l) ∧ L l) ∨ E4 e = (I9, 4, 0) ∨ (∃ u, E4 e = (u, 1, 0) ∧ I3 u = true ∧ B9 [] u = some T ∧ U6 L u) := by
 cases hv : E2 e with
 | true => exact .inl ⟨A6E hc hv, rfl⟩
 | false =>
  rcases B4M L hL e T (A1H hc).1 hv ht hl with ⟨g1, g2, g3⟩ | ⟨g1, g2⟩
  ·cases hcv : I3 (I2 e).1 with
   | false => exact .inr (.inr (.inl (A4X hc hv g1 hcv)))
   | true => exact .inr (.inr (.inr ⟨_, A4Y hc hv g1 hcv, hcv, g2, g3⟩))
  ·exact .inr (.inl ⟨(I2 e).2.2, by rw [A4W hc hv (by omega), g1], g2⟩)
theorem B0i (L : Int → Prop) (hL : ∀ l, L l → L (-l)) : ∀ (n : Nat) (e : Tm) (T : Ty), I3 e = true → B9 [] e = some T → U6 L e →
  ((H2 n e).2.1 = 0 ∧ (H2 n e).2.2.1 = 0 ∧ B9 [] (H2 n e).1 = some T ∧ E2 (H2 n e).1 = true ∧ I3 (H2 n e).1 = true) ∨ ((H2 n e).2.1 = 2 ∧ L (H2 n e).2.2.1) ∨ ((H2 n e).2.1 = 4 ∧ (H2 n e).2.2.1 = 0) ∨ ((H2 n e).2.1 = 5 ∧ (H2 n e).2.2.1 = 0)
 | 0, e, T, hc, ht, hl => by
  rcases B0h L hL e T hc ht hl with ⟨h, hv⟩ | ⟨l, h, hl⟩ | h | ⟨u, h, hu1, hu2, hu3⟩
  ·simp [H2, h, ht, hv, hc]
  ·simp [H2, h, hl]
  ·simp [H2, h]
  ·simp [H2, h]
 | n + 1, e, T, hc, ht, hl => by
  rcases B0h L hL e T hc ht hl with ⟨h, hv⟩ | ⟨l, h, hl⟩ | h | ⟨u, h, hu1, hu2, hu3⟩
  ·simp [H2, h, ht, hv, hc]
  ·simp [H2, h, hl]
  ·simp [H2, h]
  ·have ih := B0i L hL n u T hu1 hu2 hu3
   simpa only [H2, h, if_true] using ih
structure Wt (cx : Cx) (k : Int) (nm : ByteArray) (ty : Ty) (h w : List Ty) (t : Ty) : Prop where
 len : w = [] ∨ w.length = h.length
 ok : ∀ i, (hi : i < w.length) → (hh : i < h.length) → P1 h[i] w[i] = true ∧ M5 w[i] = true
 again : k ≠ 13 → O7 cx k nm ty (if w = [] then h else w) = some (w, t)
 asT : k = 13 → w = [t]
def B6S (cx : Cx) (t : Tm) (D l : Int) (u : Tm) (a : Ty) (l' : Int) : Prop := L4 40 13 u D = true ∧ B9 cx u = some a ∧ M5 a = true ∧ l ≤ l' ∧ l' + 1 ≤ l + (E7 t : Int) ∧ (E7 u : Int) ≤ E7 t + (l' - l)
def B6T (k : Int) : Bool := decide (k = 5 ∨ k = 13)
def A6L : ByteArray := ⟨⟨[112, 97, 105, 114]⟩⟩
def A6M : ByteArray := ⟨⟨[102, 117, 110, 99, 116, 105, 111, 110]⟩⟩
def txT : ByteArray := ⟨⟨[84]⟩⟩
def txF : ByteArray := ⟨⟨[70]⟩⟩
def B0j (n : Int) : ByteArray := ⟨(Lib.decDigits n.toNat).toArray⟩
def A28 (k num : Int) : ByteArray := if k = 2 then B0j num else if k = 3 then txT else txF
mutual
def V7 : Tm → ByteArray
 | .mk k nm num ty fr lb ks => if k = 10 ∨ (S6 (.mk k nm num ty fr lb []) = true ∧ ty.k = 5) then A6L else if k = 5 ∨ S6 (.mk k nm num ty fr lb []) = true then A6M else if k = 14 then B4N ks else A28 k num
def B4N : List Tm → ByteArray
 | [] => ⟨⟨[]⟩⟩
 | t :: _ => V7 t
end
section
variable {k : Int} {nm : ByteArray} {num : Int} {ty fr : Ty} {lb : Int} {ks : List Tm}
theorem B4O (h : k = 10 ∨ (S6 (.mk k nm num ty fr lb ks) = true ∧ ty.k = 5)) : V7 (.mk k nm num ty fr lb ks) = A6L := by
 rw [V7]
 exact if_pos h
theorem B4P (h : ¬(k = 10 ∨ (S6 (.mk k nm num ty fr lb ks) = true ∧ ty.k = 5))) (h2 : k = 5 ∨ S6 (.mk k nm num ty fr lb ks) = true) : V7 (.mk k nm num ty fr lb ks) = A6M := by
 rw [V7]
 exact (if_neg h).trans (if_pos h2)
theorem B0k (h : S6 (.mk k nm num ty fr lb ks) = false) (hk : k = 14) (h0 : 0 < ks.length) : V7 (.mk k nm num ty fr lb ks) = V7 ks[0] := by
 rw [V7, if_neg (by rintro (h1 | h1); omega; exact Bool.noConfusion (h1.1.symm.trans h)), if_neg (by rintro (h1 | h1); omega; exact Bool.noConfusion (h1.symm.trans h)), if_pos hk]
 cases ks with
 | nil => simp at h0
 | cons t ts => rfl
theorem B4Q (h : S6 (.mk k nm num ty fr lb ks) = false) (hk : k ≠ 14) (h10 : k ≠ 10) (h5 : k ≠ 5) : V7 (.mk k nm num ty fr lb ks) = A28 k num := by
 rw [V7, if_neg (by rintro (h1 | h1); omega; exact Bool.noConfusion (h1.1.symm.trans h)), if_neg (by rintro (h1 | h1); omega; exact Bool.noConfusion (h1.symm.trans h)), if_neg hk]
end
section fin
variable {P : Program} {Γ : M1} {env : M7} {hp : List A5} {G : IM}
end fin
def CsP (bx : Nat) (e : Tm) (a b : Ty) (l : Int) : IM → Value → List A5 → Prop := fun G' v outs => ∃ cells, v = .agg ⟨cells⟩ ∧ outs = [.blk bx [.int .i64 (if H7 a b = true then l else l + 1)]] ∧ A8 G' (if H7 a b = true then e else L1 e a b (l + 1)) cells
def ElP (bx : Nat) (cx : Cx) (e : Tm) (l : Int) : IM → Value → List A5 → Prop := fun G' v outs => ∃ u cu t ct l', v = .tuple ⟨[.agg ⟨cu⟩, .agg ⟨ct⟩, .bool (mEl cx e l).isSome]⟩ ∧ outs = [.blk bx [.int .i64 l']] ∧ A8 G' u cu ∧ B2 G' t ct ∧ l ≤ l' ∧ l' + 1 ≤ l + (E7 e : Int) ∧ ∀ r, mEl cx e l = some r → r = (u, t, l')
section
variable {cx : Cx} {k : Int} {nm : ByteArray} {num : Int} {ty fr : Ty} {lb : Int} {ks us : List Tm} {h : List Ty} {l l' : Int}
end
theorem A3U (e : Tm) (G : IM) (cells : List Value) (hr : A8 G e cells) : Fn Tryz.prog 13 [.agg ⟨cells⟩] [] G (V6 (R3 e) G) := by
 have hl := hr.len
 have hone := hr.one
 refine B6 Tryz.func13 rfl Tryz.ntmps13 Tryz.results13 rfl ?_
 intro w0
 refine tS (tR ?_)
 refine sE (C4 rfl rfl) rfl (fun b3 => ?_)
 refine sE (A6 rfl) rfl (fun b4 => ?_)
 refine sQ (qA rfl) rfl (sD (nS (tS (tS (tR ?_)))))
 refine sL (A3 rfl rfl (A7 (by repeat first | exact mH | apply mT)) hl) rfl rfl ?_
 refine F4 rfl ((A2m e _ _ hr)) rfl rfl (fun h12 => ?_) (fun h12 => ?_)
 refine sQ (Q5 rfl) rfl (sD (nS (cF rfl (tK (nS (tS (tR ?_)))))))
 refine sL (A3 rfl rfl (A7 (by repeat first | exact mH | apply mT)) hl) rfl rfl ?_
 focus (have hcv : I3 e = true := (by assumption); have hsh := ((A1D e).1 hcv).1; refine D7 rfl (B3U e 1 [] G none 0 0 _ hsh (by omega) (S7.nil G) hr) rfl rfl (fun v G1 hle1 hh => ?_); obtain ⟨cu, u, rfl, hru, hu⟩ := hh; obtain ⟨p1, c1, e1, rfl, _⟩ := hru.open; rcases hct : B9 [] e with _ | u2; rotate_left; obtain rfl := hu u2 hct; rotate_left)
 refine H9 ?_
 refine sE (A6 rfl) rfl (fun b26 => ?_)
 refine Z3 ?_
 refine C5 (rC rfl (A4 rfl rfl)) (rT rfl) ?_
 (exact V6.no (u := B1) (K5 _ ⟨by omega, by omega⟩) rfl (by rw [R3, if_pos hcv]; exact hct))
 refine H9 ?_
 refine sE (A6 rfl) rfl (fun b53 => ?_)
 refine P7 ?_
 (refine D7 rfl (A1V _ G1 _ (A6o hsh hct).small hru) rfl rfl (fun v G2 hle2 hh => ?_); obtain ⟨cs2, F2, rfl, hs2, hn2⟩ := hh; obtain ⟨p2, c2, rfl, _⟩ := hs2.open; have hr2 := hs2.R.mono (C2.le G2 G1))
 refine H6 ?_
 refine sQ (qA rfl) rfl (sD (nS (tT ?_)))
 refine C5 (rC rfl (A4 rfl rfl)) (rT rfl) ?_
 (exact V6.yes hr2 rfl (by rw [R3, if_pos hcv]; exact hct))
 refine J4 ?_
 refine C5 (rC rfl (A4 rfl rfl)) (rT rfl) ?_
 (exact V6.no (u := B1) (K5 _ ⟨by omega, by omega⟩) rfl (by rw [R3, if_neg (by simp [*])]))
def B6U (r : Option (Tm × Ty)) : IM → Value → List A5 → Prop := L2 fun G' v => ∃ cu ct, v = .tuple ⟨[.agg ⟨cu⟩, .agg ⟨ct⟩, .bool r.isSome]⟩ ∧ A8 G' (r.getD (I9, B1)).1 cu ∧ B2 G' (r.getD (I9, B1)).2 ct
def B0l (e : Tm) : Option Ty := match A9D e with | some (_, t) => some t | none => none
def B0m (e : Tm) (fuel : Int) : ByteArray × Int × Int := match A9D e with
 | none => (⟨⟨[]⟩⟩, 3, 0)
 | some (u, _) => if (K6 u fuel).2.1 = 0 then (V7 (K6 u fuel).1, 0, 0) else (⟨⟨[]⟩⟩, (K6 u fuel).2.1, (K6 u fuel).2.2)
def B6V (r : ByteArray × Int × Int) (G : IM) : IM → Value → List A5 → Prop := L2 fun _ v => v = .tuple ⟨[.string r.1, .int .i64 r.2.1, .int .i64 r.2.2]⟩
theorem B0n : ∀ (n : Nat) (e : Tm), (P3 n e).2.1 = 0 → I3 (P3 n e).1 = true ∧ E2 (P3 n e).1 = true ∧ (P3 n e).2.2.1 = 0
 | 0, e, h => by rw [A6F] at h ⊢; exact stepv e h
 | n + 1, e, h => by
  by_cases h1 : (E4 e).2.1 = 1
  ·rw [A6G h1] at h ⊢; exact B0n n _ h
  ·rw [A6H h1] at h ⊢; exact stepv e h
where
 stepv (e : Tm) (h : (E4 e).2.1 = 0) : I3 (E4 e).1 = true ∧ E2 (E4 e).1 = true ∧ (E4 e).2.2 = 0 := by
  cases h1 : I3 e with
  | false => rw [A99 h1] at h; simp at h
  | true =>
   cases h2 : E2 e with
   | true => rw [A6E h1 h2]; exact ⟨h1, h2, rfl⟩
   | false =>
    by_cases h3 : (I2 e).2.1 = 1
    ·cases h4 : I3 (I2 e).1 with
     | false => rw [A4X h1 h2 h3 h4] at h; simp at h
     | true => rw [A4Y h1 h2 h3 h4] at h; simp at h
    ·rw [A4W h1 h2 h3] at h
     exact absurd h (stp_ne0 e)
 stp_ne0 : ∀ (e : Tm), (I2 e).2.1 ≠ 0 := by
  refine Tm.ind fun k nm num ty fr lb ks ih => ?_
  rw [I2]
  cases hL : V5 (if k = 9 then 1 else ks.length) ks with
  | none => exact red_ne0 k ty fr lb ks
  | some p =>
   obtain ⟨us, c, l⟩ := p
   have := stpL_ne0 ks ih _ us c l hL
   simp only
   by_cases hc : c = 1
   ·rw [if_pos hc]; simp
   ·rw [if_neg hc]; exact this
 red_ne0 (k : Int) (ty fr : Ty) (lb : Int) (ks : List Tm) : (Y8 k ty fr lb ks).2.1 ≠ 0 := by
  unfold Y8 U5
  repeat' split
  all_goals simp
 stpL_ne0 (ks : List Tm) (ih : ∀ t ∈ ks, (I2 t).2.1 ≠ 0) : ∀ (n : Nat) us c l, V5 n ks = some (us, c, l) → c ≠ 0 := by
  induction ks with
  | nil => intro n us c l h; cases n <;> simp [V5] at h
  | cons t ts iht =>
   intro n us c l h
   cases n with
   | zero => simp [V5] at h
   | succ n =>
    rw [A4V] at h
    by_cases hv : E2 t = true
    ·rw [if_pos hv] at h
     split at h
     ·rename_i us' c' l' h'
      simp only [Option.some.injEq, Prod.mk.injEq] at h
      obtain ⟨_, rfl, _⟩ := h
      exact iht (fun u hu => ih u (List.mem_cons_of_mem _ hu)) n _ _ _ h'
     ·cases h
    ·rw [if_neg hv] at h
     simp only [Option.some.injEq, Prod.mk.injEq] at h
     obtain ⟨_, rfl, _⟩ := h
     exact ih t List.mem_cons_self
def B4R (r s : ByteArray × Int × Int) : Int := if r.2.1 = 2 then 2 else if r.2.1 ≠ 0 ∨ s.2.1 = 4 ∨ s.2.1 = 5 then 3 else if s.2.1 = 0 ∧ r.1 = s.1 then 1 else 4
def B6W (a b : Tm) (fuel : Int) : Int := if (B0l a).isSome = true ∧ B4a a b = true ∧ S4 fuel 0 300 = true then B4R (B0m a fuel) (B0m b fuel) else 0
def gxT : GX → ByteArray
 | .n n => B0j n
 | .b b => if b = true then txT else txF
 | .p => A6L
 | .f => A6M
theorem B0o {v : GE} (h : GV v) : V7 v.tm = gxT v.tx := by
 induction h with
 | num => rfl
 | @tru b => cases b <;> rfl
 | lam => rfl
 | pair _ _ _ _ => rfl
 | pf _ _ => rfl
 | pp _ _ => rfl
 | @inj A l e hv hg i =>
  rw [GE.tm, B0k (h0 := by simp)]
  ·exact i
  ·rw [A1I]
   refine decide_eq_false ?_
   rintro ⟨_, _, h | h⟩ <;> simp [GT.ty, Ty.k] at h
  ·rfl
theorem B4S {k : Int} {nm : ByteArray} {num : Int} {ty fr : Ty} {lb : Int} {ks : List Tm} {d : Int} (h : L4 40 13 (.mk k nm num ty fr lb ks) d = true) :
  D3 k = ks.length ∧ k ≠ 13 ∧ (¬(k = 1 ∨ k = 5) → nm = ⟨#[]⟩) ∧ (k ≠ 2 → num = 0) ∧ (k = 5 ∨ k = 14 → M5 ty = true) ∧ (¬(k = 5 ∨ k = 14) → ty = B1) ∧ (k = 14 → A0K fr ty = true ∧ W2 lb = true) ∧ (k ≠ 14 → fr = B1 ∧ lb = 0) ∧ O6 40 13 ks (d + 1) = true := by
 obtain ⟨_, h2, h3, h4⟩ := Z9 h
 obtain ⟨n1, n2, n3, n4, n5, n6, n7, n8, n9⟩ := X8.1 h3
 exact ⟨n1, h2, n3, fun hk => by have := A3L.1 (n5 hk); omega, fun hk => n6 (by omega), fun hk => A2p (n7 (by omega)), n8, fun hk => ⟨A2p (n9 hk).1, (n9 hk).2⟩, h4⟩
theorem B0p {D N d : Int} : ∀ {ks : List Tm}, O6 D N ks d = true → ∀ t ∈ ks, L4 D N t d = true
 | [], _, t, ht => by cases ht
 | u :: us, h, t, ht => by
  rw [O6, Bool.and_eq_true] at h
  rcases List.mem_cons.1 ht with rfl | ht
  ·exact h.1
  ·exact B0p h.2 t ht
theorem kl2 {α : Type} {l : List α} (h : (l.length : Int) = 2) : ∃ a b, l = [a, b] := by
 match l, h with
 | [a, b], _ => exact ⟨a, b, rfl⟩
 | [], h => simp at h
 | [_], h => simp at h
 | _ :: _ :: _ :: _, h => simp only [List.length_cons] at h; omega
theorem kl1 {α : Type} {l : List α} (h : (l.length : Int) = 1) : ∃ a, l = [a] := by
 match l, h with
 | [a], _ => exact ⟨a, rfl⟩
 | [], h => simp at h
 | _ :: _ :: _, h => simp only [List.length_cons] at h; omega
theorem kl3 {α : Type} {l : List α} (h : (l.length : Int) = 3) : ∃ a b c, l = [a, b, c] := by
 match l, h with
 | [a, b, c], _ => exact ⟨a, b, c, rfl⟩
 | [], h => simp at h
 | [_], h => simp at h
 | [_, _], h => simp at h
 | _ :: _ :: _ :: _ :: _, h => simp only [List.length_cons] at h; omega
theorem B4T {A : GT} {x y : Ty} (h : Ty.mk 4 [x, y] = A.ty) : ∃ B C : GT, x = B.ty ∧ y = C.ty ∧ A = .fn B C := by
 cases A <;> simp [GT.ty] at h
 exact ⟨_, _, h.1, h.2, rfl⟩
theorem B4U {A : GT} {x y : Ty} (h : Ty.mk 5 [x, y] = A.ty) : ∃ B C : GT, x = B.ty ∧ y = C.ty ∧ A = .pr B C := by
 cases A <;> simp [GT.ty] at h
 exact ⟨_, _, h.1, h.2, rfl⟩
inductive Sm : Nat → GE → GE → Prop
 | refl {e} : Sm 0 e e
 | step {n a b c} : GS a b → Sm n b c → Sm (n + 1) a c
inductive Bl : GE → Int → Prop
 | app1 {f a L} : Bl f L → Bl (.app f a) L
 | app2 {f a L} : GV f → Bl a L → Bl (.app f a) L
 | ar1 {s a b L} : Bl a L → Bl (.ar s a b) L
 | ar2 {s a b L} : GV a → Bl b L → Bl (.ar s a b) L
 | ite1 {c a b L} : Bl c L → Bl (.ite c a b) L
 | pair1 {a b L} : Bl a L → Bl (.pair a b) L
 | pair2 {a b L} : GV a → Bl b L → Bl (.pair a b) L
 | part1 {s e L} : Bl e L → Bl (.part s e) L
 | cast1 {A B l e L} : Bl e L → Bl (.cast A B l e) L
 | fail {G H l m w} : GV w → G.Gd → H.Gd → G ≠ H → Bl (.cast .any G l (.cast H .any m w)) l
theorem A1p {e : GE} {L : Int} (h : Bl e L) : ¬GV e := by
 induction h with
 | app1 _ _ => intro h; cases h
 | app2 _ _ _ => intro h; cases h
 | ar1 _ _ => intro h; cases h
 | ar2 _ _ _ => intro h; cases h
 | ite1 _ _ => intro h; cases h
 | pair1 _ i => intro h; cases h with | pair h _ => exact i h
 | pair2 _ _ i => intro h; cases h with | pair _ h => exact i h
 | part1 _ _ => intro h; cases h
 | cast1 _ i => intro h; exact i h.ofCast
 | fail _ hg _ _ => intro h; cases h; exact hg.1 rfl
section
variable {k : Int} {nm : ByteArray} {num : Int} {ty fr : Ty} {lb : Int} {a b : Tm} {l : Int}
theorem A29 (h : E2 a = false) (ks : List Tm) (hs : ∃ u, I2 a = (u, 2, l)) : ∃ u, I2 (.mk k nm num ty fr lb (a :: ks)) = (u, 2, l) := by
 obtain ⟨u, hs⟩ := hs
 have : ∃ n, (if k = 9 then 1 else (a :: ks).length) = n + 1 := ⟨if k = 9 then 0 else ks.length, by split <;> simp⟩
 obtain ⟨n, hn⟩ := this
 refine ⟨I9, ?_⟩
 rw [I2, hn, V5, if_neg (by rw [h]; decide), hs]
 simp
theorem A6N (h0 : E2 a = true) (h : E2 b = false) (hk : k ≠ 9) (hs : ∃ u, I2 b = (u, 2, l)) : ∃ u, I2 (.mk k nm num ty fr lb [a, b]) = (u, 2, l) := by
 obtain ⟨u, hs⟩ := hs
 refine ⟨I9, ?_⟩
 rw [I2, if_neg hk]
 simp only [List.length_cons, List.length_nil, V5, h0, h, if_true, hs]
 simp
end
theorem A6O {e : GE} {L : Int} (h : Bl e L) : ∃ u, I2 e.tm = (u, 2, L) := by
 induction h with
 | app1 h i => exact A29 (A0u (A1p h)) _ i
 | app2 v h i => exact A6N ((R5 _).2 v) (A0u (A1p h)) (by decide) i
 | ar1 h i => exact A29 (A0u (A1p h)) _ i
 | @ar2 s _ _ _ v h i => exact A6N ((R5 _).2 v) (A0u (A1p h)) (by cases s <;> decide) i
 | ite1 h i => exact A29 (A0u (A1p h)) _ i
 | pair1 h i => exact A29 (A0u (A1p h)) _ i
 | pair2 v h i => exact A6N ((R5 _).2 v) (A0u (A1p h)) (by decide) i
 | part1 h i => exact A29 (A0u (A1p h)) _ i
 | cast1 h i => exact A29 (A0u (A1p h)) _ i
 | @fail B H l m w hv hB hH hne =>
  have hv2 : GV (.cast H .any m w) := .inj hv hH
  have hg' := A12.2 hB
  have hi : inj (GE.tm (.cast H .any m w)) = true := by
   rw [GE.tm]; unfold inj; rw [Bool.and_eq_true]; exact ⟨rfl, A12.2 hH⟩
  refine ⟨I9, ?_⟩
  rw [GE.tm, A13 ((R5 _).2 hv2)]
  unfold Y8
  rw [if_neg (by decide), if_neg (by decide), if_neg (by decide), if_neg (by decide), if_pos rfl, if_neg, if_neg, if_neg (by rw [hg']; decide), if_neg (by show ¬inj (GE.tm (.cast H .any m w)) = false; rw [hi]; decide), if_neg]
  ·show ¬H.ty.k = B.ty.k
   intro hk
   apply hne
   rw [← hH.2, ← hB.2]
   cases H <;> cases B <;> first | rfl | (simp [GT.ty, Ty.k] at hk)
  ·rw [A0t]; exact hB.1
  ·intro h; exact hB.1 (A0t.1 h.symm)
theorem B0q {e e' : GE} {A B A' : GT} {l : Int} (h : GP I5 e e' A A') (hc : Co A B) (hv : GV e) : GV (.cast A B l e) ∨ (∃ r, GS (.cast A B l e) r) ∨ ∃ L, Bl (.cast A B l e) L := by
 by_cases hA : A = .any
 ·subst hA
  by_cases hB : B = .any
  ·subst hB; exact .inr (.inl ⟨_, .cid hv (.inl rfl)⟩)
  ·by_cases hg : B.gr = B
   ·obtain ⟨H, m, w, rfl, hw, hH⟩ := A9m h rfl hv rfl
    by_cases he : H = B
    ·subst he; exact .inr (.inl ⟨_, .hit hw hH⟩)
    ·exact .inr (.inr ⟨_, .fail hw ⟨hB, hg⟩ hH (fun h => he h.symm)⟩)
   ·exact .inr (.inl ⟨_, .down hv hB hg⟩)
 ·by_cases hB : B = .any
  ·subst hB
   by_cases hg : A.gr = A
   ·exact .inl (.inj hv ⟨hA, hg⟩)
   ·exact .inr (.inl ⟨_, .up hv hA hg⟩)
  ·cases hc with
   | l => exact absurd rfl hA
   | r => exact absurd rfl hB
   | int => exact .inr (.inl ⟨_, .cid hv (.inr (.inl rfl))⟩)
   | bool => exact .inr (.inl ⟨_, .cid hv (.inr (.inr rfl))⟩)
   | fn _ _ => exact .inl (.pf hv)
   | pr _ _ => exact .inl (.pp hv)
theorem B0r {Γ : GC} {e e' : GE} {A A' : GT} (h : GP Γ e e' A A') : Γ = I5 → GV e ∨ (∃ r, GS e r) ∨ ∃ L, Bl e L := by
 induction h with
 | var hx _ => intro hE; subst hE; cases hx
 | num => intro _; exact .inl .num
 | tru => intro _; exact .inl .tru
 | lam _ _ _ => intro _; exact .inl .lam
 | app hf ha i j =>
  intro hE
  refine .inr ?_
  rcases i hE with vf | ⟨r, s⟩ | ⟨L, b⟩
  ·rcases j hE with va | ⟨r, s⟩ | ⟨L, b⟩
   ·rcases A9j hf hE vf rfl with ⟨x, C, e, rfl⟩ | ⟨_, _, _, _, _, _, rfl, hw⟩
    ·exact .inl ⟨_, .beta va⟩
    ·exact .inl ⟨_, .appx hw va⟩
   ·exact .inl ⟨_, .app2 vf s⟩
   ·exact .inr ⟨L, .app2 vf b⟩
  ·exact .inl ⟨_, .app1 s⟩
  ·exact .inr ⟨L, .app1 b⟩
 | ar ha hb i j =>
  intro hE
  refine .inr ?_
  rcases i hE with va | ⟨r, s⟩ | ⟨L, b⟩
  ·rcases j hE with vb | ⟨r, s⟩ | ⟨L, b⟩
   ·obtain ⟨m, rfl⟩ := A4M ha hE va rfl
    obtain ⟨n, rfl⟩ := A4M hb hE vb rfl
    exact .inl ⟨_, .ar⟩
   ·exact .inl ⟨_, .ar2 va s⟩
   ·exact .inr ⟨L, .ar2 va b⟩
  ·exact .inl ⟨_, .ar1 s⟩
  ·exact .inr ⟨L, .ar1 b⟩
 | ite hc _ _ i _ _ =>
  intro hE
  refine .inr ?_
  rcases i hE with va | ⟨r, s⟩ | ⟨L, b⟩
  ·obtain ⟨m, rfl⟩ := A9l hc hE va rfl
   exact .inl ⟨_, .ite⟩
  ·exact .inl ⟨_, .ite1 s⟩
  ·exact .inr ⟨L, .ite1 b⟩
 | pair _ _ i j =>
  intro hE
  rcases i hE with va | ⟨r, s⟩ | ⟨L, b⟩
  ·rcases j hE with vb | ⟨r, s⟩ | ⟨L, b⟩
   ·exact .inl (.pair va vb)
   ·exact .inr (.inl ⟨_, .pair2 va s⟩)
   ·exact .inr (.inr ⟨L, .pair2 va b⟩)
  ·exact .inr (.inl ⟨_, .pair1 s⟩)
  ·exact .inr (.inr ⟨L, .pair1 b⟩)
 | part hp i =>
  intro hE
  refine .inr ?_
  rcases i hE with va | ⟨r, s⟩ | ⟨L, b⟩
  ·rcases A9k hp hE va rfl with ⟨a, b, rfl, va, vb⟩ | ⟨_, _, _, _, _, _, rfl, hw⟩
   ·exact .inl ⟨_, .part va vb⟩
   ·exact .inl ⟨_, .partx hw⟩
  ·exact .inl ⟨_, .part1 s⟩
  ·exact .inr ⟨L, .part1 b⟩
 | castL h hc _ i =>
  intro hE
  rcases i hE with hv | ⟨r, s⟩ | ⟨L, b⟩
  ·subst hE; exact B0q h hc hv
  ·exact .inr (.inl ⟨_, .cast1 s⟩)
  ·exact .inr (.inr ⟨L, .cast1 b⟩)
 | castR _ _ _ i => exact i
 | castB h hc _ _ i =>
  intro hE
  rcases i hE with hv | ⟨r, s⟩ | ⟨L, b⟩
  ·subst hE; exact B0q h hc hv
  ·exact .inr (.inl ⟨_, .cast1 s⟩)
  ·exact .inr (.inr ⟨L, .cast1 b⟩)
theorem B4V {e : Tm} (h : (E4 e).2.1 = 2) : E2 e = false ∧ (I2 e).2.1 = 2 ∧ (E4 e).2.2 = (I2 e).2.2 := by
 unfold E4 at h ⊢
 split at h
 ·cases h
 ·rename_i h1
  split at h
  ·cases h
  ·rename_i h2
   split at h
   ·rename_i h3
    rw [if_neg h1, if_neg h2, if_pos h3]
    exact ⟨by cases hv : E2 e with | false => rfl | true => exact absurd hv h2, h, rfl⟩
   ·split at h <;> cases h
theorem B4W : ∀ (n : Nat) {e e' : GE} {A A' : GT}, GP I5 e e' A A' → (H2 n e.tm).2.1 = 2 → ∃ w, Ss e w ∧ Bl w (H2 n e.tm).2.2.1 := by
 intro n
 have fin : ∀ {e e' : GE} {A A' : GT}, GP I5 e e' A A' → (E4 e.tm).2.1 = 2 → ∃ w, Ss e w ∧ Bl w (E4 e.tm).2.2 := by
  intro e e' A A' hp h0
  obtain ⟨h1, h2, h3⟩ := B4V h0
  rcases B0r hp rfl with hv | ⟨r, s⟩ | ⟨L, b⟩
  ·rw [(R5 _).2 hv] at h1; cases h1
  ·rw [A20 s] at h2; cases h2
  ·obtain ⟨u, hu⟩ := A6O b
   refine ⟨e, .refl, ?_⟩
   rw [h3, hu]; exact b
 induction n with
 | zero =>
  intro e e' A A' hp h
  rw [H2] at h ⊢
  by_cases h1 : (E4 e.tm).2.1 = 1
  ·rw [if_pos h1] at h; cases h
  ·rw [if_neg h1] at h ⊢; exact fin hp h
 | succ n ih =>
  intro e e' A A' hp h
  by_cases h1 : (E4 e.tm).2.1 = 1
  ·obtain ⟨_, hv, hs, he⟩ := A9p h1
   rcases B0r hp rfl with hv' | ⟨r, s⟩ | ⟨L, b⟩
   ·rw [(R5 _).2 hv'] at hv; cases hv
   ·rw [A4O h1] at h ⊢
    have hr : (E4 e.tm).1 = r.tm := by rw [he, A20 s]
    rw [hr] at h ⊢
    obtain ⟨r', _, hp'⟩ := sim hp rfl s
    obtain ⟨w, h2, h3⟩ := ih hp' h
    exact ⟨w, .step s h2, h3⟩
   ·obtain ⟨u, hu⟩ := A6O b
    rw [hu] at hs; cases hs
  ·rw [H2, if_neg h1] at h ⊢; exact fin hp h
theorem B4X : ∀ {e w : GE} {L : Int}, Ss e w → Bl w L → ∀ (n : Nat), I3 e.tm = true → ((H2 n e.tm).2.1 = 2 ∧ (H2 n e.tm).2.2.1 = L ∧ (H2 n e.tm).1 = I9) ∨ (H2 n e.tm).2.1 = 4 ∨ (H2 n e.tm).2.1 = 5 := by
 intro e w L h
 induction h with
 | @refl e =>
  intro hb n hc
  obtain ⟨u, hu⟩ := A6O hb
  have : E4 e.tm = (I9, 2, L) := by rw [A4W hc (A0u (A1p hb)) (by rw [hu]; show (2 : Int) ≠ 1; decide), hu]
  cases n with
  | zero => rw [H2, this]; exact .inl ⟨rfl, rfl, rfl⟩
  | succ n => rw [H2, this]; exact .inl ⟨rfl, rfl, rfl⟩
 | @step a b c s _ ih =>
  intro hb n hc
  have hs := A20 s
  cases hcb : I3 b.tm with
  | false =>
   have : E4 a.tm = (I9, 4, 0) := A4X hc (nv s) (by rw [hs]) (by rw [hs]; exact hcb)
   cases n with
   | zero => rw [H2, this]; exact .inr (.inl rfl)
   | succ n => rw [H2, this]; exact .inr (.inl rfl)
  | true =>
   have : E4 a.tm = (b.tm, 1, 0) := by
    have h5 := A4Y hc (nv s) (by rw [hs]) (by rw [hs]; exact hcb)
    rw [h5, hs]
   cases n with
   | zero => rw [H2, this]; exact .inr (.inr rfl)
   | succ n =>
    rw [A4O (by rw [this]), this]
    exact ih hb n hcb
def GT.cp : GT → Prop
 | .fn _ _ => True
 | .pr _ _ => True
 | _ => False
def A0U : List Int → GE → GE
 | [], y => y
 | k :: ks, y => .cast .any .any k (A0U ks y)
theorem B0s (x : ByteArray) (v : GE) : ∀ (ks : List Int) (y : GE), (A0U ks y).sub x v = A0U ks (y.sub x v)
 | [], _ => rfl
 | k :: ks, y => by rw [A0U, GE.sub, B0s x v ks y]; rfl
inductive HR : GC → GE → GE → GT → Prop
 | var {Γ x A} : Γ x = some (A, A) → HR Γ (.var x) (.var x) A
 | num {Γ n} : HR Γ (.num n) (.num n) .int
 | tru {Γ b} : HR Γ (.tru b) (.tru b) .bool
 | lam {Γ x A B e e'} : HR (Y9 Γ x A A) e e' B → HR Γ (.lam x A e) (.lam x A e') (.fn A B)
 | app {Γ f f' a a' A B} : HR Γ f f' (.fn A B) → HR Γ a a' A → HR Γ (.app f a) (.app f' a') B
 | ar {Γ s a a' b b'} : HR Γ a a' .int → HR Γ b b' .int → HR Γ (.ar s a b) (.ar s a' b') (if s = true then .bool else .int)
 | ite {Γ c c' a a' b b' A} : HR Γ c c' .bool → HR Γ a a' A → HR Γ b b' A → HR Γ (.ite c a b) (.ite c' a' b') A
 | pair {Γ a a' b b' A B} : HR Γ a a' A → HR Γ b b' B → HR Γ (.pair a b) (.pair a' b') (.pr A B)
 | part {Γ s e e' A B} : HR Γ e e' (.pr A B) → HR Γ (.part s e) (.part s e') (if s = true then B else A)
 | cast {Γ e x A B l} : HR Γ e x A → Co A B → HR Γ (.cast A B l e) (.cast A B l x) B
 | idR {Γ e x A l} : HR Γ e x A → HR Γ e (.cast A A l x) A
 | idL {Γ e x A l} : HR Γ e x A → HR Γ (.cast A A l e) x A
 | back {Γ e x B l m} (ks : List Int) : HR Γ e x B → HR Γ e (.cast .any B l (A0U ks (.cast B .any m x))) B
 | backG {Γ e x B l m} : HR Γ e x B → B.cp → HR Γ e (.cast B.gr B l (.cast B B.gr m x)) B
 | dyn {Γ e x A B l} : HR Γ e x A → Co A B → HR Γ (.cast A B l e) (.cast .any B l (.cast A .any l x)) B
 | dynG {Γ e x A B l} : HR Γ e x A → Co A B → A.cp → B.cp → HR Γ (.cast A B l e) (.cast B.gr B l (.cast A A.gr l x)) B
 | dynU {Γ e x A B l} : HR Γ e x A → Co A B → A.cp → HR Γ (.cast A B l e) (.cast .any B l (.cast A.gr .any l (.cast A A.gr l x))) B
theorem T7 {A : GT} (h : A.cp) : A ≠ .any := by rintro rfl; exact h
theorem T8 {A : GT} (h : A.cp) : A.gr.Gd := A6e (T7 h)
theorem A3a {A : GT} (h : A.cp) : A.gr.cp := by cases A <;> first | trivial | exact h
theorem HR.left {Γ : GC} {e x : GE} {A : GT} (h : HR Γ e x A) : GP Γ e e A A := by
 induction h with
 | var h => exact .var h Le.refl
 | num => exact .num
 | tru => exact .tru
 | lam _ i => exact .lam Le.refl i
 | app _ _ i j => exact .app i j
 | ar _ _ i j => exact .ar i j
 | ite _ _ _ i j k => exact .ite i j k
 | pair _ _ i j => exact .pair i j
 | part _ i => exact .part i
 | cast _ c i => exact .castB i c c Le.refl
 | idR _ i => exact i
 | idL _ i => exact .castB i Co.refl Co.refl Le.refl
 | back _ _ i => exact i
 | backG _ _ i => exact i
 | dyn _ c i => exact .castB i c c Le.refl
 | dynG _ c _ _ i => exact .castB i c c Le.refl
 | dynU _ c _ i => exact .castB i c c Le.refl
theorem HR.weak {Γ : GC} {e x : GE} {A : GT} (h : HR Γ e x A) : ∀ {Δ : GC}, (∀ y p, Γ y = some p → Δ y = some p) → HR Δ e x A := by
 induction h with
 | var h => intro Δ hD; exact .var (hD _ _ h)
 | num => intro _ _; exact .num
 | tru => intro _ _; exact .tru
 | lam _ i =>
  intro Δ hD
  refine .lam (i fun z p hz => ?_)
  unfold Y9 at hz ⊢
  split
  ·rename_i h2; rw [if_pos h2] at hz; exact hz
  ·rename_i h2; rw [if_neg h2] at hz; exact hD z p hz
 | app _ _ i j => intro Δ hD; exact .app (i hD) (j hD)
 | ar _ _ i j => intro Δ hD; exact .ar (i hD) (j hD)
 | ite _ _ _ i j k => intro Δ hD; exact .ite (i hD) (j hD) (k hD)
 | pair _ _ i j => intro Δ hD; exact .pair (i hD) (j hD)
 | part _ i => intro Δ hD; exact .part (i hD)
 | cast _ c i => intro Δ hD; exact .cast (i hD) c
 | idR _ i => intro Δ hD; exact .idR (i hD)
 | idL _ i => intro Δ hD; exact .idL (i hD)
 | back ks _ i => intro Δ hD; exact .back ks (i hD)
 | backG _ c i => intro Δ hD; exact .backG (i hD) c
 | dyn _ c i => intro Δ hD; exact .dyn (i hD) c
 | dynG _ c d e i => intro Δ hD; exact .dynG (i hD) c d e
 | dynU _ c d i => intro Δ hD; exact .dynU (i hD) c d
theorem HR.sub {x : ByteArray} {v v' : GE} {A : GT} (hv : HR I5 v v' A) {Γ : GC} {e e' : GE} {B : GT} (h : HR Γ e e' B) :
  ∀ {Δ : GC}, (∀ y, x ≠ y → Γ y = Δ y) → Γ x = some (A, A) → HR Δ (e.sub x v) (e'.sub x v') B := by
 induction h with
 | @var Γ y C hy =>
  intro Δ hD hx
  simp only [GE.sub]
  split
  ·rename_i he
   subst he
   rw [hx] at hy
   cases hy
   exact hv.weak fun z p hz => by cases hz
  ·rename_i he
   exact .var (by rw [← hD y (fun e => he e.symm)]; exact hy)
 | num => intro _ _ _; exact .num
 | tru => intro _ _ _; exact .tru
 | @lam Γ y C D e e' h i =>
  intro Δ hD hx
  simp only [GE.sub]
  by_cases he : y = x
  ·rw [if_pos he, if_pos he]
   refine .lam (h.weak fun z p hz => ?_)
   unfold Y9 at hz ⊢
   split
   ·rename_i h2; rw [if_pos h2] at hz; exact hz
   ·rename_i h2; rw [if_neg h2] at hz; rw [← hD z (fun e => h2 (he.trans e))]; exact hz
  ·rw [if_neg he, if_neg he]
   refine .lam (i (fun z hz => ?_) ?_)
   ·unfold Y9
    split
    ·rfl
    ·exact hD z hz
   ·unfold Y9; rw [if_neg he]; exact hx
 | app _ _ i j => intro Δ hD hx; exact .app (i hD hx) (j hD hx)
 | ar _ _ i j => intro Δ hD hx; exact .ar (i hD hx) (j hD hx)
 | ite _ _ _ i j k => intro Δ hD hx; exact .ite (i hD hx) (j hD hx) (k hD hx)
 | pair _ _ i j => intro Δ hD hx; exact .pair (i hD hx) (j hD hx)
 | part _ i => intro Δ hD hx; exact .part (i hD hx)
 | cast _ c i => intro Δ hD hx; exact .cast (i hD hx) c
 | idR _ i => intro Δ hD hx; exact .idR (i hD hx)
 | idL _ i => intro Δ hD hx; exact .idL (i hD hx)
 | back ks _ i =>
  intro Δ hD hx
  simp only [GE.sub, B0s]
  exact .back ks (i hD hx)
 | backG _ c i => intro Δ hD hx; exact .backG (i hD hx) c
 | dyn _ c i => intro Δ hD hx; exact .dyn (i hD hx) c
 | dynG _ c d e i => intro Δ hD hx; exact .dynG (i hD hx) c d e
 | dynU _ c d i => intro Δ hD hx; exact .dynU (i hD hx) c d
theorem A4Z (A : GT) : A = .any ∨ A = .int ∨ A = .bool ∨ A.cp := by
 cases A with
 | any => exact .inl rfl
 | int => exact .inr (.inl rfl)
 | bool => exact .inr (.inr (.inl rfl))
 | fn _ _ => exact .inr (.inr (.inr trivial))
 | pr _ _ => exact .inr (.inr (.inr trivial))
theorem B0t {A : GT} (l : Int) {v : GE} (hv : GV v) : ∃ w, Ss (.cast A .any l v) w ∧ GV w ∧
  ((A = .any ∧ w = v) ∨ (A.Gd ∧ w = .cast A .any l v) ∨ (A.cp ∧ A.gr ≠ A ∧ w = .cast A.gr .any l (.cast A A.gr l v))) := by
 rcases A4Z A with rfl | rfl | rfl | hc
 ·exact ⟨v, .one (.cid hv (.inl rfl)), hv, .inl ⟨rfl, rfl⟩⟩
 ·exact ⟨_, .refl, .inj hv ⟨(by intro h; cases h), rfl⟩, .inr (.inl ⟨⟨(by intro h; cases h), rfl⟩, rfl⟩)⟩
 ·exact ⟨_, .refl, .inj hv ⟨(by intro h; cases h), rfl⟩, .inr (.inl ⟨⟨(by intro h; cases h), rfl⟩, rfl⟩)⟩
 ·by_cases hg : A.gr = A
  ·exact ⟨_, .refl, .inj hv ⟨T7 hc, hg⟩, .inr (.inl ⟨⟨T7 hc, hg⟩, rfl⟩)⟩
  ·refine ⟨_, .one (.up hv (T7 hc) hg), .inj ?_ (T8 hc), .inr (.inr ⟨hc, hg, rfl⟩)⟩
   cases A with
   | fn _ _ => exact .pf hv
   | pr _ _ => exact .pp hv
   | _ => exact hc.elim
theorem A0b {A B : GT} {l : Int} {v : GE} (hv : GV v) (hc : A.cp) (hd : B.gr = A.gr) : GV (.cast A B l v) := by
 cases A <;> cases B <;> first | exact .pf hv | exact .pp hv | exact hc.elim | (simp [GT.gr] at hd)
theorem B4Y {v w : GE} {A : GT} (l m : Int) (hv : GV v) (hw : GV w) (h : HR I5 v w A) : ∃ w2, Ss (.cast .any A l (.cast A .any m w)) w2 ∧ GV w2 ∧ HR I5 v w2 A := by
 rcases A4Z A with rfl | rfl | rfl | hc
 ·exact ⟨w, .step (.cast1 (.cid hw (.inl rfl))) (.one (.cid hw (.inl rfl))), hw, h⟩
 ·exact ⟨w, .one (.hit hw ⟨(by intro h; cases h), rfl⟩), hw, h⟩
 ·exact ⟨w, .one (.hit hw ⟨(by intro h; cases h), rfl⟩), hw, h⟩
 ·by_cases hg : A.gr = A
  ·exact ⟨w, .one (.hit hw ⟨T7 hc, hg⟩), hw, h⟩
  ·have h1 : GV (.cast A A.gr m w) := A0b hw hc (T8 hc).2
   refine ⟨.cast A.gr A l (.cast A A.gr m w), .step (.cast1 (.up hw (T7 hc) hg)) (.step (.down (.inj h1 (T8 hc)) (T7 hc) hg) (.one (.cast1 (.hit h1 (T8 hc))))), A0b h1 (A3a hc) (T8 hc).2.symm, .backG h hc⟩
theorem A40 {y z : GE} (h : Ss y z) : ∀ ks, Ss (A0U ks y) (A0U ks z)
 | [] => h
 | _ :: ks => F9 (A40 h ks)
theorem B0u {w : GE} (h : GV w) : ∀ ks, Ss (A0U ks w) w
 | [] => .refl
 | _ :: ks => (F9 (B0u h ks)).trans (.one (.cid h (.inl rfl)))
theorem B0v {A : GT} (m : Int) {w : GE} (hw : GV w) : ∃ w1, Ss (.cast A .any m w) w1 ∧ GV w1 ∧ ∀ (v : GE) (l : Int), GV v → HR I5 v w A → ∃ w2, Ss (.cast .any A l w1) w2 ∧ GV w2 ∧ HR I5 v w2 A := by
 obtain ⟨w1, h1, h2, h3⟩ := B0t (A := A) m hw
 refine ⟨w1, h1, h2, fun v l hv h => ?_⟩
 rcases h3 with ⟨rfl, rfl⟩ | ⟨hg, rfl⟩ | ⟨hc, hg, rfl⟩
 ·exact ⟨w1, .one (.cid hw (.inl rfl)), hw, h⟩
 ·exact ⟨w, .one (.hit hw hg), hw, h⟩
 ·have h4 : GV (.cast A A.gr m w) := A0b hw hc (T8 hc).2
  exact ⟨.cast A.gr A l (.cast A A.gr m w), .step (.down (.inj h4 (T8 hc)) (T7 hc) hg) (.one (.cast1 (.hit h4 (T8 hc)))), A0b h4 (A3a hc) (T8 hc).2.symm, .backG h hc⟩
theorem A41 {A B : GT} (h : Co A B) (hA : A ≠ .any) (hB : B ≠ .any) : A.gr = B.gr := by
 cases h with
 | l => exact absurd rfl hA
 | r => exact absurd rfl hB
 | int => rfl
 | bool => rfl
 | fn _ _ => rfl
 | pr _ _ => rfl
theorem A3V {f g a : GE} (h : Ss f g) : Ss (.app f a) (.app g a) := h.ctx (fun z => .app z a) fun _ _ => .app1
theorem A2C {f a b : GE} (v : GV f) (h : Ss a b) : Ss (.app f a) (.app f b) := h.ctx (fun z => .app f z) fun _ _ => .app2 v
theorem A3W {s : Bool} {f g a : GE} (h : Ss f g) : Ss (.ar s f a) (.ar s g a) := h.ctx (fun z => .ar s z a) fun _ _ => .ar1
theorem A6P {s : Bool} {f a b : GE} (v : GV f) (h : Ss a b) : Ss (.ar s f a) (.ar s f b) := h.ctx (fun z => .ar s f z) fun _ _ => .ar2 v
theorem A3X {f g a : GE} (h : Ss f g) : Ss (.pair f a) (.pair g a) := h.ctx (fun z => .pair z a) fun _ _ => .pair1
theorem A6Q {f a b : GE} (v : GV f) (h : Ss a b) : Ss (.pair f a) (.pair f b) := h.ctx (fun z => .pair f z) fun _ _ => .pair2 v
theorem A6R {f g a b : GE} (h : Ss f g) : Ss (.ite f a b) (.ite g a b) := h.ctx (fun z => .ite z a b) fun _ _ => .ite1
theorem A6S {s : Bool} {f g : GE} (h : Ss f g) : Ss (.part s f) (.part s g) := h.ctx (fun z => .part s z) fun _ _ => .part1
theorem A0V {B : GT} {l : Int} {x : GE} (h : GV (.cast .any B l x)) : False := by cases h with | inj _ hg => exact hg.1 rfl
theorem B0w {A B : GT} {l : Int} {x : GE} (h : GV (.cast A B l x)) (hB : B ≠ .any) : A.cp ∧ B.cp := by
 cases h with
 | pf _ => exact ⟨trivial, trivial⟩
 | pp _ => exact ⟨trivial, trivial⟩
 | inj _ _ => exact absurd rfl hB
theorem B4Z {e w : GE} {A B : GT} (l : Int) (hw : GV w) (h : HR I5 e w A) (hc : Co A B) (hA : A.cp) (hB : B.cp) : ∃ w2, Ss (.cast .any B l (.cast A .any l w)) w2 ∧ GV w2 ∧ HR I5 (.cast A B l e) w2 B := by
 have hg := A41 hc (T7 hA) (T7 hB)
 by_cases gA : A.gr = A
 ·have hi : GV (.cast A .any l w) := .inj hw ⟨T7 hA, gA⟩
  by_cases gB : B.gr = B
  ·have hE : A = B := by rw [← gA, ← gB]; exact hg
   subst hE
   exact ⟨w, .one (.hit hw ⟨T7 hA, gA⟩), hw, .idL h⟩
  ·have hE : B.gr = A := by rw [← hg]; exact gA
   refine ⟨.cast A B l w, ?_, A0b hw hA hg.symm, .cast h hc⟩
   have s1 := GS.down (B := B) (l := l) hi (T7 hB) gB
   rw [hE] at s1
   exact .step s1 (.one (.cast1 (.hit hw ⟨T7 hA, gA⟩)))
 ·have h4 : GV (.cast A A.gr l w) := A0b hw hA (T8 hA).2
  have s1 := F9 (A := .any) (B := B) (l := l) (Ss.one (GS.up (l := l) hw (T7 hA) gA))
  by_cases gB : B.gr = B
  ·have hE : A.gr = B := hg.trans gB
   rw [hE] at s1 h4
   exact ⟨.cast A B l w, s1.trans (.one (.hit h4 ⟨T7 hB, gB⟩)), h4, .cast h hc⟩
  ·refine ⟨.cast B.gr B l (.cast A A.gr l w), s1.trans ?_, (by rw [← hg]; exact A0b h4 (A3a hA) (by rw [(T8 hA).2]; exact hg.symm)), .dynG h hc hA hB⟩
   have s2 := GS.down (B := B) (l := l) (GV.inj (l := l) h4 (T8 hA)) (T7 hB) gB
   refine .step s2 ?_
   rw [← hg]
   exact .one (.cast1 (.hit h4 (T8 hA)))
theorem T9 {Γ : GC} {e x : GE} {A : GT} (h : HR Γ e x A) : Γ = I5 → GV e → ∃ w, Ss x w ∧ GV w ∧ HR I5 e w A := by
 induction h with
 | var hx => intro hE; subst hE; cases hx
 | num => intro _ _; exact ⟨_, .refl, .num, .num⟩
 | tru => intro _ _; exact ⟨_, .refl, .tru, .tru⟩
 | lam h _ => intro hE _; subst hE; exact ⟨_, .refl, .lam, .lam h⟩
 | app _ _ _ _ => intro _ hv; cases hv
 | ar _ _ _ _ => intro _ hv; cases hv
 | ite _ _ _ _ _ _ => intro _ hv; cases hv
 | part _ _ => intro _ hv; cases hv
 | pair _ _ i j =>
  intro hE hv
  cases hv with
  | pair v1 v2 =>
   obtain ⟨w, s1, g1, r1⟩ := i hE v1
   obtain ⟨u, s2, g2, r2⟩ := j hE v2
   exact ⟨_, (A3X s1).trans (A6Q g1 s2), .pair g1 g2, .pair r1 r2⟩
 | cast _ c i =>
  intro hE hv
  obtain ⟨w, s1, g1, r1⟩ := i hE hv.ofCast
  refine ⟨_, F9 s1, ?_, .cast r1 c⟩
  cases hv with
  | pf _ => exact .pf g1
  | pp _ => exact .pp g1
  | inj _ hg => exact .inj g1 hg
 | @idR Γ e x A l _ i =>
  intro hE hv
  obtain ⟨w, s1, g1, r1⟩ := i hE hv
  rcases A4Z A with h | h | h | hc
  ·exact ⟨w, (F9 s1).trans (.one (.cid g1 (.inl h))), g1, r1⟩
  ·exact ⟨w, (F9 s1).trans (.one (.cid g1 (.inr (.inl h)))), g1, r1⟩
  ·exact ⟨w, (F9 s1).trans (.one (.cid g1 (.inr (.inr h)))), g1, r1⟩
  ·exact ⟨_, F9 s1, A0b g1 hc rfl, .idR r1⟩
 | idL _ i =>
  intro hE hv
  obtain ⟨w, s1, g1, r1⟩ := i hE hv.ofCast
  exact ⟨w, s1, g1, .idL r1⟩
 | @back Γ e x B l m ks _ i =>
  intro hE hv
  obtain ⟨w, s1, g1, r1⟩ := i hE hv
  obtain ⟨w1, s2, g2, hb⟩ := B0v m g1 (A := B)
  obtain ⟨w2, s3, g3, r3⟩ := hb e l hv r1
  exact ⟨w2, (F9 ((A40 ((F9 s1).trans s2) ks).trans (B0u g2 ks))).trans s3, g3, r3⟩
 | @backG Γ e x B l m _ hc i =>
  intro hE hv
  obtain ⟨w, s1, g1, r1⟩ := i hE hv
  exact ⟨_, F9 (F9 s1), A0b (A0b g1 hc (T8 hc).2) (A3a hc) (T8 hc).2.symm, .backG r1 hc⟩
 | @dyn Γ e x A B l _ c i =>
  intro hE hv
  obtain ⟨w, s1, g1, r1⟩ := i hE hv.ofCast
  by_cases hB : B = .any
  ·subst hB
   cases hv with
   | inj _ hg => exact ⟨.cast A .any l w, (F9 (F9 s1)).trans (.one (.cid (.inj g1 hg) (.inl rfl))), .inj g1 hg, .cast r1 c⟩
  ·obtain ⟨hA, hB⟩ := B0w hv hB
   obtain ⟨w2, s2, g2, r2⟩ := B4Z l g1 r1 c hA hB
   exact ⟨w2, (F9 (F9 s1)).trans s2, g2, r2⟩
 | @dynG Γ e x A B l _ c hA hB i =>
  intro hE hv
  obtain ⟨w, s1, g1, r1⟩ := i hE hv.ofCast
  have hg := A41 c (T7 hA) (T7 hB)
  refine ⟨_, F9 (F9 s1), ?_, .dynG r1 c hA hB⟩
  rw [← hg]
  exact A0b (A0b g1 hA (T8 hA).2) (A3a hA) (by rw [(T8 hA).2]; exact hg.symm)
 | @dynU Γ e x A B l _ c hA i =>
  intro hE hv
  obtain ⟨w, s1, g1, r1⟩ := i hE hv.ofCast
  have h4 : GV (.cast A A.gr l w) := A0b g1 hA (T8 hA).2
  have s0 : Ss (.cast .any B l (.cast A.gr .any l (.cast A A.gr l x))) (.cast .any B l (.cast A.gr .any l (.cast A A.gr l w))) := F9 (F9 (F9 s1))
  have h5 : GV (.cast A.gr .any l (.cast A A.gr l w)) := .inj h4 (T8 hA)
  by_cases hB : B = .any
  ·subst hB
   cases hv with
   | inj _ hg =>
    refine ⟨_, s0.trans (.one (.cid h5 (.inl rfl))), h5, ?_⟩
    rw [hg.2]
    exact .cast (.idR r1) c
  ·obtain ⟨_, hB⟩ := B0w hv hB
   have hg := A41 c (T7 hA) (T7 hB)
   by_cases gB : B.gr = B
   ·have hE2 : A.gr = B := hg.trans gB
    refine ⟨.cast A B l w, s0.trans ?_, by rw [hE2] at h4; exact h4, .cast r1 c⟩
    rw [hE2] at h4 ⊢
    exact .one (.hit h4 ⟨T7 hB, gB⟩)
   ·refine ⟨.cast B.gr B l (.cast A A.gr l w), s0.trans (.step (.down h5 (T7 hB) gB) ?_), ?_, .dynG r1 c hA hB⟩
    ·rw [← hg]; exact .one (.cast1 (.hit h4 (T8 hA)))
    ·rw [← hg]; exact A0b h4 (A3a hA) (by rw [(T8 hA).2]; exact hg.symm)
theorem A42 {G : GT} {m : Int} {w v : GE} (h : HR I5 (.cast G .any m w) v .any) (hv : GV v) (hG : G ≠ .any) : ∃ u, v = .cast G .any m u ∧ GV u ∧ HR I5 w u G := by
 generalize he : GE.cast G .any m w = e at h
 generalize hA : GT.any = A at h
 cases h with
 | cast h c => cases he; exact ⟨_, rfl, hv.ofCast, h⟩
 | idR h => subst hA; exact (A0V hv).elim
 | idL h => cases he; exact absurd rfl hG
 | back _ h => exact (A0V hv).elim
 | backG h c => subst hA; exact c.elim
 | dyn h c => exact (A0V hv).elim
 | dynG h c d e => subst hA; exact e.elim
 | dynU h c d => exact (A0V hv).elim
 | _ => cases he
theorem B0x {n : Int} {v : GE} (h : HR I5 (.num n) v .int) (hv : GV v) : v = .num n := by
 generalize he : GE.num n = e at h
 generalize hA : GT.int = A at h
 cases h with
 | num => cases he; rfl
 | idR h => subst hA; cases hv
 | back _ h => exact (A0V hv).elim
 | backG h c => subst hA; exact c.elim
 | _ => cases he
theorem B40 {n : Bool} {v : GE} (h : HR I5 (.tru n) v .bool) (hv : GV v) : v = .tru n := by
 generalize he : GE.tru n = e at h
 generalize hA : GT.bool = A at h
 cases h with
 | tru => cases he; rfl
 | idR h => subst hA; cases hv
 | back _ h => exact (A0V hv).elim
 | backG h c => subst hA; exact c.elim
 | _ => cases he
theorem B0y {a b c d : GT} (h : Co (.fn a b) (.fn c d)) : Co a c ∧ Co b d := by cases h with | fn h1 h2 => exact ⟨h1, h2⟩
theorem B0z {a b c d : GT} (h : Co (.pr a b) (.pr c d)) : Co a c ∧ Co b d := by cases h with | pr h1 h2 => exact ⟨h1, h2⟩
theorem B41 {Γ : GC} {f f' : GE} {U : GT} (h : HR Γ f f' U) : ∀ {A B : GT} {w w' : GE}, Γ = I5 → U = .fn A B → GV f → GV f' → GV w → GV w' → HR I5 w w' A → ∀ r, GS (.app f w) r → ∃ r', Ss (.app f' w') r' ∧ HR I5 r r' B := by
 induction h with
 | var hx => intro _ _ _ _ hE; subst hE; cases hx
 | num => intro _ _ _ _ _ hU; cases hU
 | tru => intro _ _ _ _ _ hU; cases hU
 | pair _ _ _ _ => intro _ _ _ _ _ hU; cases hU
 | ar _ _ _ _ => intro _ _ _ _ _ _ hv; cases hv
 | app _ _ _ _ => intro _ _ _ _ _ _ hv; cases hv
 | ite _ _ _ _ _ _ => intro _ _ _ _ _ _ hv; cases hv
 | part _ _ => intro _ _ _ _ _ _ hv; cases hv
 | @lam Γ x A0 B0 e e' h _ =>
  intro A B w w' hE hU hv hv' hw hw' hr r s
  subst hE
  cases hU
  cases s with
  | app1 s => exact (hv.noS _ s).elim
  | app2 _ s => exact (hw.noS _ s).elim
  | beta _ =>
   refine ⟨_, .one (.beta hw'), HR.sub hr h (fun y hy => ?_) ?_⟩
   ·unfold Y9; rw [if_neg hy]
   ·unfold Y9; rw [if_pos rfl]
 | @cast Γ e x A0 B0 l h c _ =>
  intro A B w w' hE hU hv hv' hw hw' hr r s
  subst hE hU
  cases s with
  | app1 s => exact (hv.noS _ s).elim
  | app2 _ s => exact (hw.noS _ s).elim
  | appx he _ =>
   obtain ⟨c1, c2⟩ := B0y c
   exact ⟨_, .one (.appx hv'.ofCast hw'), .cast (.app h (.cast hr c1.symm)) c2⟩
 | @idR Γ e x A0 l h i =>
  intro A B w w' hE hU hv hv' hw hw' hr r s
  subst hU
  obtain ⟨w2, s1, g1, r1⟩ := T9 (HR.idR (l := -l) hr) rfl hw
  obtain ⟨r', s2, r2⟩ := i hE rfl hv hv'.ofCast hw g1 r1 r s
  exact ⟨_, .step (.appx hv'.ofCast hw') ((F9 (A2C hv'.ofCast s1)).trans (F9 s2)), .idR r2⟩
 | @idL Γ e x A0 l h i =>
  intro A B w w' hE hU hv hv' hw hw' hr r s
  subst hE hU
  cases s with
  | app1 s => exact (hv.noS _ s).elim
  | app2 _ s => exact (hw.noS _ s).elim
  | appx he _ => exact ⟨_, .refl, .idL (.app h (.idL hr))⟩
 | back _ _ _ => intro _ _ _ _ _ _ _ hv'; exact (A0V hv').elim
 | @backG Γ e x B0 l m h hc i =>
  intro A B w w' hE hU hv hv' hw hw' hr r s
  subst hU
  have hx := hv'.ofCast.ofCast
  obtain ⟨w1, s1, g1, hb⟩ := B0v (-l) hw' (A := A)
  obtain ⟨w2, s2, g2, r2⟩ := hb w (-m) hw hr
  obtain ⟨r', s3, r3⟩ := i hE rfl hv hx hw g2 r2 r s
  exact ⟨_, .step (.appx hv'.ofCast hw') ((F9 (A2C hv'.ofCast s1)).trans ((F9 (.one (.appx hx g1))).trans ((F9 (F9 (A2C hx s2))).trans (F9 (F9 s3))))), .back [] r3⟩
 | dyn _ _ _ => intro _ _ _ _ _ _ _ hv'; exact (A0V hv').elim
 | @dynG Γ e x A0 B0 l h c hA hB i =>
  intro A B w w' hE hU hv hv' hw hw' hr r s
  subst hE hU
  cases s with
  | app1 s => exact (hv.noS _ s).elim
  | app2 _ s => exact (hw.noS _ s).elim
  | @appx a b _ _ _ _ _ he _ =>
   obtain ⟨c1, c2⟩ := B0y c
   have hx := hv'.ofCast.ofCast
   obtain ⟨w1, s1, g1, hc3⟩ := B0t (A := A) (-l) hw'
   refine ⟨_, .step (.appx hv'.ofCast hw') ((F9 (A2C hv'.ofCast s1)).trans (F9 (.one (.appx hx g1)))), .dyn (.app h ?_) c2⟩
   rcases hc3 with ⟨rfl, rfl⟩ | ⟨hg, rfl⟩ | ⟨hc3, hg, rfl⟩
   ·exact .cast hr c1.symm
   ·exact .dyn hr c1.symm
   ·exact .dynU hr c1.symm hc3
 | dynU _ _ _ _ => intro _ _ _ _ _ _ _ hv'; exact (A0V hv').elim
theorem B42 {Γ : GC} {f f' : GE} {U : GT} (h : HR Γ f f' U) : ∀ {A B : GT} {t : Bool}, Γ = I5 → U = .pr A B → GV f → GV f' → ∀ r, GS (.part t f) r → ∃ r', Ss (.part t f') r' ∧ HR I5 r r' (if t = true then B else A) := by
 induction h with
 | var hx => intro _ _ _ hE; subst hE; cases hx
 | num => intro _ _ _ _ hU; cases hU
 | tru => intro _ _ _ _ hU; cases hU
 | lam _ _ => intro _ _ _ _ hU; cases hU
 | ar _ _ _ _ => intro _ _ _ _ _ hv; cases hv
 | app _ _ _ _ => intro _ _ _ _ _ hv; cases hv
 | ite _ _ _ _ _ _ => intro _ _ _ _ _ hv; cases hv
 | part _ _ => intro _ _ _ _ _ hv; cases hv
 | pair h1 h2 _ _ =>
  intro A B t hE hU hv hv' r s
  subst hE
  cases hU
  cases s with
  | part1 s => exact (hv.noS _ s).elim
  | part _ _ =>
   cases hv' with
   | pair v1 v2 =>
    refine ⟨_, .one (.part v1 v2), ?_⟩
    cases t
    ·exact h1
    ·exact h2
 | @cast Γ e x A0 B0 l h c _ =>
  intro A B t hE hU hv hv' r s
  subst hE hU
  cases s with
  | part1 s => exact (hv.noS _ s).elim
  | partx he =>
   obtain ⟨c1, c2⟩ := B0z c
   refine ⟨_, .one (.partx hv'.ofCast), .cast (.part h) ?_⟩
   cases t
   ·exact c1
   ·exact c2
 | @idR Γ e x A0 l h i =>
  intro A B t hE hU hv hv' r s
  subst hU
  obtain ⟨r', s2, r2⟩ := i hE rfl hv hv'.ofCast r s
  exact ⟨_, .step (.partx hv'.ofCast) (F9 s2), .idR r2⟩
 | @idL Γ e x A0 l h i =>
  intro A B t hE hU hv hv' r s
  subst hE hU
  cases s with
  | part1 s => exact (hv.noS _ s).elim
  | partx he => exact ⟨_, .refl, .idL (.part h)⟩
 | back _ _ _ => intro _ _ _ _ _ _ hv'; exact (A0V hv').elim
 | @backG Γ e x B0 l m h hc i =>
  intro A B t hE hU hv hv' r s
  subst hU
  have hx := hv'.ofCast.ofCast
  obtain ⟨r', s3, r3⟩ := i hE rfl hv hx r s
  refine ⟨_, .step (.partx hv'.ofCast) ((F9 (.one (.partx hx))).trans (F9 (F9 s3))), ?_⟩
  cases t
  ·exact .back [] r3
  ·exact .back [] r3
 | dyn _ _ _ => intro _ _ _ _ _ _ hv'; exact (A0V hv').elim
 | @dynG Γ e x A0 B0 l h c hA hB i =>
  intro A B t hE hU hv hv' r s
  subst hE hU
  cases s with
  | part1 s => exact (hv.noS _ s).elim
  | @partx _ a b _ _ _ _ he =>
   obtain ⟨c1, c2⟩ := B0z c
   have hx := hv'.ofCast.ofCast
   refine ⟨_, .step (.partx hv'.ofCast) (F9 (.one (.partx hx))), ?_⟩
   cases t
   ·exact .dyn (.part (s := false) h) c1
   ·exact .dyn (.part (s := true) h) c2
 | dynU _ _ _ _ => intro _ _ _ _ _ _ hv'; exact (A0V hv').elim
theorem B0A {f f' a a' : GE} {A B : GT} (h1 : HR I5 f f' (.fn A B)) (h2 : HR I5 a a' A) (vf : GV f) (va : GV a) (r : GE) (s : GS (.app f a) r) : ∃ x1, Ss (.app f' a') x1 ∧ HR I5 r x1 B := by
 obtain ⟨wf, s1, g1, r1⟩ := T9 h1 rfl vf
 obtain ⟨wa, s2, g2, r2⟩ := T9 h2 rfl va
 obtain ⟨r', s3, r3⟩ := B41 r1 rfl rfl vf g1 va g2 r2 r s
 exact ⟨r', (A3V s1).trans ((A2C g1 s2).trans s3), r3⟩
theorem B0B {f f' : GE} {A B : GT} {t : Bool} (h1 : HR I5 f f' (.pr A B)) (vf : GV f) (r : GE) (s : GS (.part t f) r) : ∃ x1, Ss (.part t f') x1 ∧ HR I5 r x1 (if t = true then B else A) := by
 obtain ⟨wf, s1, g1, r1⟩ := T9 h1 rfl vf
 obtain ⟨r', s3, r3⟩ := B42 r1 rfl rfl vf g1 r s
 exact ⟨r', (A6S s1).trans s3, r3⟩
theorem B43 {Γ : GC} {e x : GE} {A : GT} (h : HR Γ e x A) : Γ = I5 → ∀ r, GS e r → ∃ x1, Ss x x1 ∧ HR I5 r x1 A := by
 induction h with
 | var hx => intro hE; subst hE; cases hx
 | num => intro _ _ s; cases s
 | tru => intro _ _ s; cases s
 | lam _ _ => intro _ _ s; cases s
 | app h1 h2 i j =>
  intro hE r s
  subst hE
  cases s with
  | app1 s =>
   obtain ⟨x1, s1, r1⟩ := i rfl _ s
   exact ⟨_, A3V s1, .app r1 h2⟩
  | app2 v s =>
   obtain ⟨wf, s1, g1, r1⟩ := T9 h1 rfl v
   obtain ⟨x1, s2, r2⟩ := j rfl _ s
   exact ⟨_, (A3V s1).trans (A2C g1 s2), .app r1 r2⟩
  | beta v => exact B0A h1 h2 .lam v _ (.beta v)
  | appx vf v => exact B0A h1 h2 (.pf vf) v _ (.appx vf v)
 | @ar Γ t a a' b b' h1 h2 i j =>
  intro hE r s
  subst hE
  cases s with
  | ar1 s =>
   obtain ⟨x1, s1, r1⟩ := i rfl _ s
   exact ⟨_, A3W s1, .ar r1 h2⟩
  | ar2 v s =>
   obtain ⟨wf, s1, g1, r1⟩ := T9 h1 rfl v
   obtain ⟨x1, s2, r2⟩ := j rfl _ s
   exact ⟨_, (A3W s1).trans (A6P g1 s2), .ar r1 r2⟩
  | @ar _ m n =>
   obtain ⟨wf, s1, g1, r1⟩ := T9 h1 rfl .num
   obtain ⟨wa, s2, g2, r2⟩ := T9 h2 rfl .num
   obtain rfl := B0x r1 g1
   obtain rfl := B0x r2 g2
   refine ⟨_, (A3W s1).trans ((A6P g1 s2).trans (.one .ar)), ?_⟩
   unfold A4K
   cases t
   ·exact .num
   ·exact .tru
 | ite h1 h2 h3 i _ _ =>
  intro hE r s
  subst hE
  cases s with
  | ite1 s =>
   obtain ⟨x1, s1, r1⟩ := i rfl _ s
   exact ⟨_, A6R s1, .ite r1 h2 h3⟩
  | @ite b _ _ =>
   obtain ⟨wf, s1, g1, r1⟩ := T9 h1 rfl .tru
   obtain rfl := B40 r1 g1
   refine ⟨_, (A6R s1).trans (.one .ite), ?_⟩
   cases b
   ·exact h3
   ·exact h2
 | pair h1 h2 i j =>
  intro hE r s
  subst hE
  cases s with
  | pair1 s =>
   obtain ⟨x1, s1, r1⟩ := i rfl _ s
   exact ⟨_, A3X s1, .pair r1 h2⟩
  | pair2 v s =>
   obtain ⟨wf, s1, g1, r1⟩ := T9 h1 rfl v
   obtain ⟨x1, s2, r2⟩ := j rfl _ s
   exact ⟨_, (A3X s1).trans (A6Q g1 s2), .pair r1 r2⟩
 | part h1 i =>
  intro hE r s
  subst hE
  cases s with
  | part1 s =>
   obtain ⟨x1, s1, r1⟩ := i rfl _ s
   exact ⟨_, A6S s1, .part r1⟩
  | part v v2 => exact B0B h1 (.pair v v2) _ (.part v v2)
  | partx v => exact B0B h1 (.pp v) _ (.partx v)
 | cast h c i =>
  intro hE r s
  subst hE
  cases s with
  | cast1 s =>
   obtain ⟨x1, s1, r1⟩ := i rfl _ s
   exact ⟨_, F9 s1, .cast r1 c⟩
  | cid v hA =>
   obtain ⟨w, s1, g1, r1⟩ := T9 h rfl v
   exact ⟨w, (F9 s1).trans (.one (.cid g1 hA)), r1⟩
  | up v hA hg =>
   obtain ⟨w, s1, g1, r1⟩ := T9 h rfl v
   exact ⟨_, (F9 s1).trans (.one (.up g1 hA hg)), .cast (.cast r1 Co.gr) .r⟩
  | down v hB hg =>
   obtain ⟨w, s1, g1, r1⟩ := T9 h rfl v
   exact ⟨_, (F9 s1).trans (.one (.down g1 hB hg)), .cast (.cast r1 .l) Co.gr.symm⟩
  | hit v hg =>
   obtain ⟨w, s1, g1, r1⟩ := T9 h rfl (.inj v hg)
   obtain ⟨u, rfl, g2, r2⟩ := A42 r1 g1 hg.1
   exact ⟨u, (F9 s1).trans (.one (.hit g2 hg)), r2⟩
 | idR h i =>
  intro hE r s
  obtain ⟨x1, s1, r1⟩ := i hE r s
  exact ⟨_, F9 s1, .idR r1⟩
 | idL h i =>
  intro hE r s
  subst hE
  cases s with
  | cast1 s =>
   obtain ⟨x1, s1, r1⟩ := i rfl _ s
   exact ⟨_, s1, .idL r1⟩
  | cid v hA => exact ⟨_, .refl, h⟩
  | up v hA hg => exact absurd rfl hA
  | down v hB hg => exact absurd rfl hB
  | hit v hg => exact absurd rfl hg.1
 | back ks h i =>
  intro hE r s
  obtain ⟨x1, s1, r1⟩ := i hE r s
  exact ⟨_, F9 (A40 (F9 s1) ks), .back ks r1⟩
 | backG h c i =>
  intro hE r s
  obtain ⟨x1, s1, r1⟩ := i hE r s
  exact ⟨_, F9 (F9 s1), .backG r1 c⟩
 | @dyn Γ e x A B l h c i =>
  intro hE r s
  subst hE
  cases s with
  | cast1 s =>
   obtain ⟨x1, s1, r1⟩ := i rfl _ s
   exact ⟨_, F9 (F9 s1), .dyn r1 c⟩
  | cid v hA =>
   obtain ⟨w, s1, g1, r1⟩ := T9 h rfl v
   obtain ⟨w2, s2, g2, r2⟩ := B4Y l l v g1 r1
   exact ⟨w2, (F9 (F9 s1)).trans s2, r2⟩
  | up v hA hg =>
   obtain ⟨w, s1, g1, r1⟩ := T9 h rfl v
   have hc : A.cp := by rcases A4Z A with rfl | rfl | rfl | hc; exact absurd rfl hA; exact absurd rfl hg; exact absurd rfl hg; exact hc
   have h4 : GV (.cast A A.gr l w) := A0b g1 hc (T8 hc).2
   exact ⟨_, (F9 (F9 s1)).trans (.step (.cast1 (.up g1 hA hg)) (.one (.cid (.inj h4 (T8 hc)) (.inl rfl)))), .cast (.cast r1 Co.gr) .r⟩
  | down v hB hg =>
   obtain ⟨w, s1, g1, r1⟩ := T9 h rfl v
   exact ⟨_, (F9 (F9 s1)).trans (.step (.cast1 (.cid g1 (.inl rfl))) (.one (.down g1 hB hg))), .cast (.cast r1 .l) Co.gr.symm⟩
  | hit v hg =>
   obtain ⟨w, s1, g1, r1⟩ := T9 h rfl (.inj v hg)
   obtain ⟨u, rfl, g2, r2⟩ := A42 r1 g1 hg.1
   exact ⟨u, (F9 (F9 s1)).trans (.step (.cast1 (.cid g1 (.inl rfl))) (.one (.hit g2 hg))), r2⟩
 | @dynG Γ e x A B l h c hA hB i =>
  intro hE r s
  subst hE
  cases s with
  | cast1 s =>
   obtain ⟨x1, s1, r1⟩ := i rfl _ s
   exact ⟨_, F9 (F9 s1), .dynG r1 c hA hB⟩
  | cid v h => rcases h with rfl | rfl | rfl <;> exact hA.elim
  | up v _ _ => exact hB.elim
  | down v _ _ => exact hA.elim
  | hit v _ => exact hA.elim
 | @dynU Γ e x A B l h c hA i =>
  intro hE r s
  subst hE
  cases s with
  | cast1 s =>
   obtain ⟨x1, s1, r1⟩ := i rfl _ s
   exact ⟨_, F9 (F9 (F9 s1)), .dynU r1 c hA⟩
  | cid v h => rcases h with rfl | rfl | rfl <;> exact hA.elim
  | up v hA2 hg =>
   obtain ⟨w, s1, g1, r1⟩ := T9 h rfl v
   have h4 : GV (.cast A A.gr l w) := A0b g1 hA (T8 hA).2
   exact ⟨_, (F9 (F9 (F9 s1))).trans (.one (.cid (.inj h4 (T8 hA)) (.inl rfl))), .cast (.cast r1 Co.gr) .r⟩
  | down v _ _ => exact hA.elim
  | hit v _ => exact hA.elim
theorem B0C {e r : GE} (h : Ss e r) : ∀ {x : GE} {A : GT}, HR I5 e x A → ∃ x1, Ss x x1 ∧ HR I5 r x1 A := by
 induction h with
 | refl => exact fun h => ⟨_, .refl, h⟩
 | step s _ i =>
  intro x A h
  obtain ⟨x1, s1, r1⟩ := B43 h rfl _ s
  obtain ⟨x2, s2, r2⟩ := i r1
  exact ⟨x2, s1.trans s2, r2⟩
theorem B0D {y : GE} {L : Int} (h : Bl y L) : ∀ ks, Bl (A0U ks y) L
 | [] => h
 | _ :: ks => .cast1 (B0D h ks)
theorem B0E {Γ : GC} {e y : GE} {A : GT} (h : GP Γ e y A .any) : ∀ ks, GP Γ e (A0U ks y) A .any
 | [] => h
 | _ :: ks => .castR (B0E h ks) .l .any
theorem B44 {Γ : GC} {e x : GE} {A : GT} (h : HR Γ e x A) : Γ = I5 → ∀ L, Bl e L → ∃ x1, Ss x x1 ∧ Bl x1 L := by
 induction h with
 | var hx => intro hE; subst hE; cases hx
 | num => intro _ _ s; cases s
 | tru => intro _ _ s; cases s
 | lam _ _ => intro _ _ s; cases s
 | app h1 h2 i j =>
  intro hE L b
  subst hE
  cases b with
  | app1 b =>
   obtain ⟨x1, s1, b1⟩ := i rfl _ b
   exact ⟨_, A3V s1, .app1 b1⟩
  | app2 v b =>
   obtain ⟨wf, s1, g1, r1⟩ := T9 h1 rfl v
   obtain ⟨x1, s2, b2⟩ := j rfl _ b
   exact ⟨_, (A3V s1).trans (A2C g1 s2), .app2 g1 b2⟩
 | ar h1 h2 i j =>
  intro hE L b
  subst hE
  cases b with
  | ar1 b =>
   obtain ⟨x1, s1, b1⟩ := i rfl _ b
   exact ⟨_, A3W s1, .ar1 b1⟩
  | ar2 v b =>
   obtain ⟨wf, s1, g1, r1⟩ := T9 h1 rfl v
   obtain ⟨x1, s2, b2⟩ := j rfl _ b
   exact ⟨_, (A3W s1).trans (A6P g1 s2), .ar2 g1 b2⟩
 | ite h1 h2 h3 i _ _ =>
  intro hE L b
  subst hE
  cases b with
  | ite1 b =>
   obtain ⟨x1, s1, b1⟩ := i rfl _ b
   exact ⟨_, A6R s1, .ite1 b1⟩
 | pair h1 h2 i j =>
  intro hE L b
  subst hE
  cases b with
  | pair1 b =>
   obtain ⟨x1, s1, b1⟩ := i rfl _ b
   exact ⟨_, A3X s1, .pair1 b1⟩
  | pair2 v b =>
   obtain ⟨wf, s1, g1, r1⟩ := T9 h1 rfl v
   obtain ⟨x1, s2, b2⟩ := j rfl _ b
   exact ⟨_, (A3X s1).trans (A6Q g1 s2), .pair2 g1 b2⟩
 | part h1 i =>
  intro hE L b
  subst hE
  cases b with
  | part1 b =>
   obtain ⟨x1, s1, b1⟩ := i rfl _ b
   exact ⟨_, A6S s1, .part1 b1⟩
 | cast h c i =>
  intro hE L b
  subst hE
  cases b with
  | cast1 b =>
   obtain ⟨x1, s1, b1⟩ := i rfl _ b
   exact ⟨_, F9 s1, .cast1 b1⟩
  | fail v hg hh hne =>
   obtain ⟨w, s1, g1, r1⟩ := T9 h rfl (.inj v hh)
   obtain ⟨u, rfl, g2, r2⟩ := A42 r1 g1 hh.1
   exact ⟨_, F9 s1, .fail g2 hg hh hne⟩
 | idR h i =>
  intro hE L b
  obtain ⟨x1, s1, b1⟩ := i hE L b
  exact ⟨_, F9 s1, .cast1 b1⟩
 | idL h i =>
  intro hE L b
  subst hE
  cases b with
  | cast1 b => exact i rfl _ b
  | fail v hg hh hne => exact absurd rfl hg.1
 | back ks h i =>
  intro hE L b
  obtain ⟨x1, s1, b1⟩ := i hE L b
  exact ⟨_, F9 (A40 (F9 s1) ks), .cast1 (B0D (.cast1 b1) ks)⟩
 | backG h c i =>
  intro hE L b
  obtain ⟨x1, s1, b1⟩ := i hE L b
  exact ⟨_, F9 (F9 s1), .cast1 (.cast1 b1)⟩
 | dyn h c i =>
  intro hE L b
  subst hE
  cases b with
  | cast1 b =>
   obtain ⟨x1, s1, b1⟩ := i rfl _ b
   exact ⟨_, F9 (F9 s1), .cast1 (.cast1 b1)⟩
  | fail v hg hh hne =>
   obtain ⟨w, s1, g1, r1⟩ := T9 h rfl (.inj v hh)
   obtain ⟨u, rfl, g2, r2⟩ := A42 r1 g1 hh.1
   exact ⟨_, (F9 (F9 s1)).trans (.one (.cast1 (.cid g1 (.inl rfl)))), .fail g2 hg hh hne⟩
 | dynG h c hA hB i =>
  intro hE L b
  subst hE
  cases b with
  | cast1 b =>
   obtain ⟨x1, s1, b1⟩ := i rfl _ b
   exact ⟨_, F9 (F9 s1), .cast1 (.cast1 b1)⟩
  | fail _ _ _ _ => exact hA.elim
 | dynU h c hA i =>
  intro hE L b
  subst hE
  cases b with
  | cast1 b =>
   obtain ⟨x1, s1, b1⟩ := i rfl _ b
   exact ⟨_, F9 (F9 (F9 s1)), .cast1 (.cast1 (.cast1 b1))⟩
  | fail _ _ _ _ => exact hA.elim
theorem htx {Γ : GC} {e x : GE} {A : GT} (h : HR Γ e x A) : GP Γ e x A A := by
 induction h with
 | var h => exact .var h Le.refl
 | num => exact .num
 | tru => exact .tru
 | lam _ i => exact .lam Le.refl i
 | app _ _ i j => exact .app i j
 | ar _ _ i j => exact .ar i j
 | ite _ _ _ i j k => exact .ite i j k
 | pair _ _ i j => exact .pair i j
 | part _ i => exact .part i
 | cast _ c i => exact .castB i c c Le.refl
 | idR _ i => exact .castR i Co.refl Le.refl
 | idL _ i => exact .castL i Co.refl Le.refl
 | back ks _ i => exact .castR (B0E (.castR i .r .any) ks) .l Le.refl
 | backG _ _ i => exact .castR (.castR i Co.gr Le.gr) Co.gr.symm Le.refl
 | dyn _ c i => exact .castB (.castR i .r .any) c .l Le.refl
 | @dynG Γ e x A B l _ c hA hB i =>
  have hg := A41 c (T7 hA) (T7 hB)
  rw [← hg]
  exact .castB (.castR i Co.gr Le.gr) c (by rw [hg]; exact Co.gr.symm) Le.refl
 | dynU _ c _ i => exact .castB (.castR (.castR i Co.gr Le.gr) .r .any) c .l Le.refl
theorem Z1 {e x : GE} {A : GT} {T : Ty} (h : HR I5 e x A) (n m : Nat) (hce : I3 e.tm = true) (hT : B9 [] e.tm = some T) (hcx : I3 x.tm = true) :
  (H2 n e.tm).2.1 = 4 ∨ (H2 n e.tm).2.1 = 5 ∨ (H2 m x.tm).2.1 = 4 ∨ (H2 m x.tm).2.1 = 5 ∨
  ((H2 n e.tm).2.1 = 0 ∧ (H2 m x.tm).2.1 = 0 ∧ V7 (H2 n e.tm).1 = V7 (H2 m x.tm).1) ∨
  ((H2 n e.tm).2.1 = 2 ∧ (H2 m x.tm).2.1 = 2 ∧ (H2 n e.tm).2.2.1 = (H2 m x.tm).2.2.1) := by
 have hg := B0i (fun l => l ≠ 0) (fun l h => by omega) n e.tm T hce hT (B0f _ (A1H hce).1)
 rcases hg with ⟨g, _⟩ | ⟨g, _⟩ | ⟨g, _⟩ | ⟨g, _⟩
 ·obtain ⟨w, h1, h2, h3⟩ := B3J n h.left g
  obtain ⟨x1, s1, r1⟩ := B0C h3 h
  obtain ⟨w', s2, g2, r2⟩ := T9 r1 rfl h2
  rcases B3K (s1.trans s2) g2 m hcx with ⟨k1, k2⟩ | k1 | k1
  ·refine .inr (.inr (.inr (.inr (.inl ⟨g, k1, ?_⟩))))
   rw [h1, k2, B0o h2, B0o g2, B3D (htx r2) rfl h2 g2]
  ·exact .inr (.inr (.inl k1))
  ·exact .inr (.inr (.inr (.inl k1)))
 ·obtain ⟨w, h3, b⟩ := B4W n h.left g
  obtain ⟨x1, s1, r1⟩ := B0C h3 h
  obtain ⟨w', s2, b2⟩ := B44 r1 rfl _ b
  rcases B4X (s1.trans s2) b2 m hcx with ⟨k1, k2, _⟩ | k1 | k1
  ·exact .inr (.inr (.inr (.inr (.inr ⟨g, k1, k2.symm⟩))))
  ·exact .inr (.inr (.inl k1))
  ·exact .inr (.inr (.inr (.inl k1)))
 ·exact .inl g
 ·exact .inr (.inl g)
inductive WT : GC → GE → GT → Prop
 | var {Γ x A} : Γ x = some (A, A) → WT Γ (.var x) A
 | num {Γ n} : WT Γ (.num n) .int
 | tru {Γ b} : WT Γ (.tru b) .bool
 | lam {Γ x A B e} : WT (Y9 Γ x A A) e B → WT Γ (.lam x A e) (.fn A B)
 | app {Γ f a A B} : WT Γ f (.fn A B) → WT Γ a A → WT Γ (.app f a) B
 | ar {Γ s a b} : WT Γ a .int → WT Γ b .int → WT Γ (.ar s a b) (if s = true then .bool else .int)
 | ite {Γ c a b A} : WT Γ c .bool → WT Γ a A → WT Γ b A → WT Γ (.ite c a b) A
 | pair {Γ a b A B} : WT Γ a A → WT Γ b B → WT Γ (.pair a b) (.pr A B)
 | part {Γ s e A B} : WT Γ e (.pr A B) → WT Γ (.part s e) (if s = true then B else A)
 | cast {Γ e A B l} : WT Γ e A → Co A B → WT Γ (.cast A B l e) B
theorem A6T : ∀ (t : Tm) (d : Int) (cx : Cx) (Γ : GC) (T : Ty), L4 40 13 t d = true → CxR cx cx Γ → B9 cx t = some T → ∃ (g : GE) (A : GT), t = g.tm ∧ T = A.ty ∧ WT Γ g A := by
 refine Tm.ind fun k nm num ty fr lb ks ih d cx Γ T hs hcx hT => ?_
 obtain ⟨n1, n2, n3, n4, n5, n6, n7, n8, n9⟩ := B4S hs
 have hk : 1 ≤ k ∧ k ≤ 14 := by
  apply Classical.byContradiction
  intro hk
  rw [A3w hk] at n1; omega
 have S := B0p n9
 by_cases h5 : k = 5
 ·subst h5
  obtain rfl := n4 (by decide)
  obtain ⟨rfl, rfl⟩ := n8 (by decide)
  obtain ⟨x, rfl⟩ := kl1 (l := ks) (by have : D3 5 = 1 := rfl; omega)
  obtain ⟨A, rfl⟩ := A24 ty (n5 (.inl rfl))
  obtain ⟨B, hB, rfl⟩ := A6z hT
  obtain ⟨g, B', rfl, rfl, hp⟩ := ih x List.mem_cons_self (d + 1) _ _ B (S x List.mem_cons_self) (B4c hcx (Le.refl (a := A)) nm) hB
  exact ⟨.lam nm A g, .fn A B', rfl, rfl, .lam hp⟩
 have I : ∀ t ∈ ks, ∀ T, B9 cx t = some T → ∃ (g : GE) (A : GT), t = g.tm ∧ T = A.ty ∧ WT Γ g A := fun t ht T h => ih t ht (d + 1) cx Γ T (S t ht) hcx h
 by_cases h14 : k = 14
 ·subst h14
  obtain rfl := n4 (by decide)
  obtain rfl := n3 (by decide)
  obtain ⟨x, rfl⟩ := kl1 (l := ks) (by have : D3 14 = 1 := rfl; omega)
  obtain ⟨B, rfl⟩ := A24 ty (n5 (.inr rfl))
  obtain ⟨h1, rfl⟩ := A1L hT
  obtain ⟨g, A, rfl, rfl, hp⟩ := I x List.mem_cons_self _ h1
  have hc : Co A B := by
   have := (n7 rfl).1
   unfold A0K at this
   simp only [Bool.and_eq_true] at this
   exact (B4b A B).1 this.2
  exact ⟨.cast A B lb g, B, rfl, rfl, .cast hp hc⟩
 obtain ⟨rfl, rfl⟩ := n8 h14
 obtain rfl := n6 (by omega)
 by_cases h1 : k = 1
 ·subst h1
  obtain rfl := n4 (by decide)
  obtain rfl : ks = [] := List.length_eq_zero_iff.1 (by have : D3 1 = 0 := rfl; omega)
  obtain ⟨A, A', rfl, h2, h3, h4⟩ := hcx _ _ (A3S hT)
  have h5 := A3S hT
  rw [h2] at h5
  obtain rfl := GT.inj (Option.some.inj h5)
  exact ⟨.var nm, A', rfl, rfl, .var h3⟩
 obtain rfl := n3 (by omega)
 by_cases h2 : k = 2
 ·subst h2
  obtain rfl : ks = [] := List.length_eq_zero_iff.1 (by have : D3 2 = 0 := rfl; omega)
  obtain rfl := A9M hT
  exact ⟨.num num, .int, rfl, rfl, .num⟩
 obtain rfl := n4 h2
 by_cases h34 : k = 3 ∨ k = 4
 ·obtain ⟨b, rfl⟩ : ∃ b : Bool, k = if b = true then 3 else 4 := by rcases h34 with h | h; exact ⟨true, h⟩; exact ⟨false, h⟩
  obtain rfl : ks = [] := List.length_eq_zero_iff.1 (by have : D3 (if b = true then 3 else 4) = 0 := (by cases b <;> rfl); omega)
  obtain rfl := A9N h34 hT
  exact ⟨.tru b, .bool, rfl, rfl, .tru⟩
 by_cases h6 : k = 6
 ·subst h6
  obtain ⟨x, y, rfl⟩ := kl2 (l := ks) (by have : D3 6 = 2 := rfl; omega)
  obtain ⟨A, h1, h2⟩ := A6v hT
  obtain ⟨g, U, rfl, hU, hp⟩ := I x (by simp) _ h1
  obtain ⟨B, C, rfl, rfl, rfl⟩ := B4T hU
  obtain ⟨g2, U, rfl, hU2, hp2⟩ := I y (by simp) _ h2
  obtain rfl := GT.inj hU2
  exact ⟨.app g g2, C, rfl, rfl, .app hp hp2⟩
 by_cases h78 : k = 7 ∨ k = 8
 ·obtain ⟨b, rfl⟩ : ∃ b : Bool, k = if b = true then 8 else 7 := by rcases h78 with h | h; exact ⟨false, h⟩; exact ⟨true, h⟩
  obtain ⟨x, y, rfl⟩ := kl2 (l := ks) (by have : D3 (if b = true then 8 else 7) = 2 := (by cases b <;> rfl); omega)
  obtain ⟨h1, h2, rfl⟩ := A4R h78 hT
  obtain ⟨g, U, rfl, hU, hp⟩ := I x (by simp) _ h1
  obtain rfl : U = .int := GT.inj (b := .int) hU.symm
  obtain ⟨g2, U, rfl, hU2, hp2⟩ := I y (by simp) _ h2
  obtain rfl : U = .int := GT.inj (b := .int) hU2.symm
  exact ⟨.ar b g g2, if b = true then .bool else .int, rfl, by cases b <;> rfl, .ar hp hp2⟩
 by_cases h9 : k = 9
 ·subst h9
  obtain ⟨x, y, z, rfl⟩ := kl3 (l := ks) (by have : D3 9 = 3 := rfl; omega)
  obtain ⟨h1, h2, h3⟩ := A6w hT
  obtain ⟨g, U, rfl, hU, hp⟩ := I x (by simp) _ h1
  obtain rfl : U = .bool := GT.inj (b := .bool) hU.symm
  obtain ⟨g2, U, rfl, rfl, hp2⟩ := I y (by simp) _ h2
  obtain ⟨g3, V, rfl, hV, hp3⟩ := I z (by simp) _ h3
  obtain rfl := GT.inj hV
  exact ⟨.ite g g2 g3, U, rfl, rfl, .ite hp hp2 hp3⟩
 by_cases h10 : k = 10
 ·subst h10
  obtain ⟨x, y, rfl⟩ := kl2 (l := ks) (by have : D3 10 = 2 := rfl; omega)
  obtain ⟨A, B, h1, h2, rfl⟩ := A4S hT
  obtain ⟨g, U, rfl, rfl, hp⟩ := I x (by simp) _ h1
  obtain ⟨g2, V, rfl, rfl, hp2⟩ := I y (by simp) _ h2
  exact ⟨.pair g g2, .pr U V, rfl, rfl, .pair hp hp2⟩
 have h11 : k = 11 ∨ k = 12 := by omega
 obtain ⟨b, rfl⟩ : ∃ b : Bool, k = if b = true then 12 else 11 := by rcases h11 with h | h; exact ⟨false, h⟩; exact ⟨true, h⟩
 obtain ⟨x, rfl⟩ := kl1 (l := ks) (by have : D3 (if b = true then 12 else 11) = 1 := (by cases b <;> rfl); omega)
 obtain ⟨A, B, h1, rfl⟩ := A6x h11 hT
 obtain ⟨g, U, rfl, hU, hp⟩ := I x (by simp) _ h1
 obtain ⟨B', C, rfl, rfl, rfl⟩ := B4U hU
 exact ⟨.part b g, if b = true then C else B', rfl, by cases b <;> rfl, .part hp⟩
theorem B45 {Γ : GC} {g : GE} {A : GT} (h : WT Γ g A) : HR Γ g g A := by
 induction h with
 | var h => exact .var h
 | num => exact .num
 | tru => exact .tru
 | lam _ i => exact .lam i
 | app _ _ i j => exact .app i j
 | ar _ _ i j => exact .ar i j
 | ite _ _ _ i j k => exact .ite i j k
 | pair _ _ i j => exact .pair i j
 | part _ i => exact .part i
 | cast _ c i => exact .cast i c
def gbk (A B : GT) (l : Int) (a : GE) : GE := if H7 A.ty B.ty = true then a else match a with
 | .cast C D m x => if A.ty.k = 1 ∧ D.ty.k = 1 ∧ H7 B.ty C.ty = true then x else .cast A B l (.cast C D m x)
 | a => .cast A B l a
def GE.simp : GE → GE
 | .var x => .var x
 | .num n => .num n
 | .tru b => .tru b
 | .lam x A e => .lam x A e.simp
 | .app f a => .app f.simp a.simp
 | .ar s a b => .ar s a.simp b.simp
 | .ite c a b => .ite c.simp a.simp b.simp
 | .pair a b => .pair a.simp b.simp
 | .part s e => .part s e.simp
 | .cast A B l e => gbk A B l e.simp
theorem B46 {Γ : GC} {g : GE} {A : GT} (h : WT Γ g A) : HR Γ g.simp g A ∧ ∀ C m x, A = .any → g.simp = .cast C .any m x → ∃ ks m' e0, g = A0U ks (.cast C .any m' e0) ∧ HR Γ x e0 C := by
 induction h with
 | var h => exact ⟨.var h, fun C m x _ h => by cases h⟩
 | num => exact ⟨.num, fun C m x _ h => by cases h⟩
 | tru => exact ⟨.tru, fun C m x _ h => by cases h⟩
 | lam _ i => exact ⟨.lam i.1, fun C m x _ h => by cases h⟩
 | app _ _ i j => exact ⟨.app i.1 j.1, fun C m x _ h => by cases h⟩
 | ar _ _ i j => exact ⟨.ar i.1 j.1, fun C m x _ h => by cases h⟩
 | ite _ _ _ i j k => exact ⟨.ite i.1 j.1 k.1, fun C m x _ h => by cases h⟩
 | pair _ _ i j => exact ⟨.pair i.1 j.1, fun C m x _ h => by cases h⟩
 | part _ i => exact ⟨.part i.1, fun C m x _ h => by cases h⟩
 | @cast Γ e A B l h c i =>
  obtain ⟨i1, i2⟩ := i
  rw [GE.simp]
  unfold gbk
  by_cases hs : H7 A.ty B.ty = true
  ·rw [if_pos hs]
   obtain rfl := GT.inj ((R2 _ _).1 hs)
   refine ⟨.idR i1, fun C m x hA he => ?_⟩
   obtain ⟨ks, m', e0, h1, h2⟩ := i2 C m x hA he
   subst hA
   exact ⟨l :: ks, m', e0, by rw [h1]; rfl, h2⟩
  ·rw [if_neg hs]
   have stay : HR Γ (.cast A B l e.simp) (.cast A B l e) B ∧ ∀ C m x, B = .any → GE.cast A B l e.simp = .cast C .any m x → ∃ ks m' e0, GE.cast A B l e = A0U ks (.cast C .any m' e0) ∧ HR Γ x e0 C := by
    refine ⟨.cast i1 c, fun C m x hB he => ?_⟩
    cases he
    exact ⟨[], l, e, by rw [hB]; rfl, i1⟩
   generalize hes : e.simp = es at i1 i2 stay ⊢
   cases es with
   | cast C D m x =>
    simp only
    by_cases hc : A.ty.k = 1 ∧ D.ty.k = 1 ∧ H7 B.ty C.ty = true
    ·rw [if_pos hc]
     obtain ⟨h1, h2, h3⟩ := hc
     obtain rfl := A0t.1 h1
     obtain rfl := A0t.1 h2
     obtain rfl := GT.inj ((R2 _ _).1 h3)
     obtain ⟨ks, m', e0, h4, h5⟩ := i2 B m x rfl rfl
     refine ⟨by rw [h4]; exact .back ks h5, fun C m x hB he => ?_⟩
     subst hB
     exact absurd ((R2 _ _).2 rfl) hs
    ·rw [if_neg hc]; exact stay
   | _ => exact stay
def GE.dynm : GE → GE
 | .var x => .var x
 | .num n => .num n
 | .tru b => .tru b
 | .lam x A e => .lam x A e.dynm
 | .app f a => .app f.dynm a.dynm
 | .ar s a b => .ar s a.dynm b.dynm
 | .ite c a b => .ite c.dynm a.dynm b.dynm
 | .pair a b => .pair a.dynm b.dynm
 | .part s e => .part s e.dynm
 | .cast A B l e => if A.ty.k = 1 ∨ B.ty.k = 1 then .cast A B l e.dynm else .cast .any B l (.cast A .any l e.dynm)
theorem B47 {Γ : GC} {g : GE} {A : GT} (h : WT Γ g A) : HR Γ g g.dynm A := by
 induction h with
 | var h => exact .var h
 | num => exact .num
 | tru => exact .tru
 | lam _ i => exact .lam i
 | app _ _ i j => exact .app i j
 | ar _ _ i j => exact .ar i j
 | ite _ _ _ i j k => exact .ite i j k
 | pair _ _ i j => exact .pair i j
 | part _ i => exact .part i
 | cast _ c i =>
  rw [GE.dynm]
  split
  ·exact .cast i c
  ·exact .dyn i c
def N9 (t : Tm) : Tm := if t.k ≠ 14 then t else if H7 t.fr t.ty = true then kd t.ks 0 else if t.fr.k = 1 ∧ (kd t.ks 0).k = 14 ∧ (kd t.ks 0).ty.k = 1 ∧ H7 t.ty (kd t.ks 0).fr = true then kd (kd t.ks 0).ks 0 else t
def P4 (t : Tm) : Tm := if t.k ≠ 14 ∨ t.fr.k = 1 ∨ t.ty.k = 1 then t else L1 (L1 (kd t.ks 0) t.fr L0 t.lb) L0 t.ty t.lb
theorem A6U : ∀ g : GE, J7 N9 g.tm = g.simp.tm := by
 have nd : ∀ {k : Int} {nm : ByteArray} {num : Int} {ty fr : Ty} {lb : Int} {ks : List Tm}, k ≠ 14 → N9 (.mk k nm num ty fr lb ks) = .mk k nm num ty fr lb ks := fun h => if_pos h
 intro g
 induction g with
 | var x => rw [GE.tm, J7, H1, nd (by decide)]; rfl
 | num n => rw [GE.tm, J7, H1, nd (by decide)]; rfl
 | tru b => rw [GE.tm, J7, H1, nd (by cases b <;> decide)]; rfl
 | lam x A e i => rw [GE.tm, J7, H1, H1, nd (by decide), i]; rfl
 | app f a i j => rw [GE.tm, J7, H1, H1, H1, nd (by decide), i, j]; rfl
 | ar s a b i j => rw [GE.tm, J7, H1, H1, H1, nd (by cases s <;> decide), i, j]; rfl
 | ite c a b i j k => rw [GE.tm, J7, H1, H1, H1, H1, nd (by decide), i, j, k]; rfl
 | pair a b i j => rw [GE.tm, J7, H1, H1, H1, nd (by decide), i, j]; rfl
 | part s e i => rw [GE.tm, J7, H1, H1, nd (by cases s <;> decide), i]; rfl
 | cast A B l e i =>
  rw [GE.tm, J7, H1, H1, i, GE.simp]
  generalize e.simp = es
  unfold N9 gbk
  rw [if_neg (fun h => h rfl)]
  show (if H7 A.ty B.ty = true then es.tm else if A.ty.k = 1 ∧ es.tm.k = 14 ∧ es.tm.ty.k = 1 ∧ H7 B.ty es.tm.fr = true then kd es.tm.ks 0 else Tm.mk 14 _ _ B.ty A.ty l [es.tm]) = _
  by_cases hs : H7 A.ty B.ty = true
  ·rw [if_pos hs, if_pos hs]
  ·rw [if_neg hs, if_neg hs]
   have no : es.tm.k ≠ 14 → (if A.ty.k = 1 ∧ es.tm.k = 14 ∧ es.tm.ty.k = 1 ∧ H7 B.ty es.tm.fr = true then kd es.tm.ks 0 else Tm.mk 14 ⟨#[]⟩ 0 B.ty A.ty l [es.tm]) = (GE.cast A B l es).tm := fun h => by
    rw [if_neg (fun hc => h hc.2.1)]; rfl
   cases es with
   | cast C D m x =>
    show (if A.ty.k = 1 ∧ (14 : Int) = 14 ∧ D.ty.k = 1 ∧ H7 B.ty C.ty = true then x.tm else Tm.mk 14 _ _ B.ty A.ty l [(GE.cast C D m x).tm]) = _
    by_cases hc : A.ty.k = 1 ∧ D.ty.k = 1 ∧ H7 B.ty C.ty = true
    ·rw [if_pos ⟨hc.1, rfl, hc.2⟩]; simp only; rw [if_pos hc]
    ·rw [if_neg (fun h => hc ⟨h.1, h.2.2⟩)]; simp only; rw [if_neg hc]; rfl
   | var x => exact no (by simp [GE.tm, Tm.k])
   | num n => exact no (by simp [GE.tm, Tm.k])
   | tru b => exact no (by cases b <;> simp [GE.tm, Tm.k])
   | lam x A e => exact no (by simp [GE.tm, Tm.k])
   | app f a => exact no (by simp [GE.tm, Tm.k])
   | ar s a b => exact no (by cases s <;> simp [GE.tm, Tm.k])
   | ite c a b => exact no (by simp [GE.tm, Tm.k])
   | pair a b => exact no (by simp [GE.tm, Tm.k])
   | part s e => exact no (by cases s <;> simp [GE.tm, Tm.k])
theorem B48 : ∀ g : GE, J7 P4 g.tm = g.dynm.tm := by
 have nd : ∀ {k : Int} {nm : ByteArray} {num : Int} {ty fr : Ty} {lb : Int} {ks : List Tm}, k ≠ 14 → P4 (.mk k nm num ty fr lb ks) = .mk k nm num ty fr lb ks := fun h => if_pos (.inl h)
 intro g
 induction g with
 | var x => rw [GE.tm, J7, H1, nd (by decide)]; rfl
 | num n => rw [GE.tm, J7, H1, nd (by decide)]; rfl
 | tru b => rw [GE.tm, J7, H1, nd (by cases b <;> decide)]; rfl
 | lam x A e i => rw [GE.tm, J7, H1, H1, nd (by decide), i]; rfl
 | app f a i j => rw [GE.tm, J7, H1, H1, H1, nd (by decide), i, j]; rfl
 | ar s a b i j => rw [GE.tm, J7, H1, H1, H1, nd (by cases s <;> decide), i, j]; rfl
 | ite c a b i j k => rw [GE.tm, J7, H1, H1, H1, H1, nd (by decide), i, j, k]; rfl
 | pair a b i j => rw [GE.tm, J7, H1, H1, H1, nd (by decide), i, j]; rfl
 | part s e i => rw [GE.tm, J7, H1, H1, nd (by cases s <;> decide), i]; rfl
 | cast A B l e i =>
  rw [GE.tm, J7, H1, H1, i, GE.dynm]
  unfold P4
  show (if (14 : Int) ≠ 14 ∨ A.ty.k = 1 ∨ B.ty.k = 1 then Tm.mk 14 _ _ B.ty A.ty l [e.dynm.tm] else L1 (L1 e.dynm.tm A.ty L0 l) L0 B.ty l) = _
  by_cases hc : A.ty.k = 1 ∨ B.ty.k = 1
  ·rw [if_pos (.inr hc), if_pos hc]; rfl
  ·rw [if_neg (by rintro (h | h); exact h rfl; exact hc h), if_neg hc]; rfl
section
variable {cx : Cx} {k : Int} {nm : ByteArray} {num : Int} {ty fr : Ty} {lb : Int} {a b c a' b' c' : Tm} {T : Ty}
theorem A43 (i : ∀ cx T, B9 cx a = some T → B9 cx a' = some T) (h : B9 cx (.mk k nm num ty fr lb [a]) = some T) : B9 cx (.mk k nm num ty fr lb [a']) = some T := by
 rw [B9] at h ⊢
 split at h
 ·cases h
 ·rename_i us hu
  obtain ⟨x, hx, rfl⟩ := A2y hu
  rw [A3R (i _ _ hx)]
  exact h
theorem A3b (i : ∀ cx T, B9 cx a = some T → B9 cx a' = some T) (j : ∀ cx T, B9 cx b = some T → B9 cx b' = some T) (h : B9 cx (.mk k nm num ty fr lb [a, b]) = some T) : B9 cx (.mk k nm num ty fr lb [a', b']) = some T := by
 rw [B9] at h ⊢
 split at h
 ·cases h
 ·rename_i us hu
  obtain ⟨x, y, hx, hy, rfl⟩ := A1K hu
  rw [A6t (i _ _ hx) (j _ _ hy)]
  exact h
theorem B0F (i : ∀ cx T, B9 cx a = some T → B9 cx a' = some T) (j : ∀ cx T, B9 cx b = some T → B9 cx b' = some T) (l : ∀ cx T, B9 cx c = some T → B9 cx c' = some T) (h : B9 cx (.mk k nm num ty fr lb [a, b, c]) = some T) : B9 cx (.mk k nm num ty fr lb [a', b', c']) = some T := by
 rw [B9] at h ⊢
 split at h
 ·cases h
 ·rename_i us hu
  obtain ⟨x, y, z, hx, hy, hz, rfl⟩ := A6s hu
  rw [B34 (i _ _ hx) (j _ _ hy) (l _ _ hz)]
  exact h
end
theorem B0G {A : GT} {l : Int} {a : GE} : gbk A A l a = a := if_pos ((R2 _ _).2 rfl)
theorem A44 (A B : GT) (l : Int) (a : GE) : (A = B ∧ gbk A B l a = a) ∨ (∃ m x, A = .any ∧ a = .cast B .any m x ∧ gbk A B l a = x) ∨ gbk A B l a = .cast A B l a := by
 unfold gbk
 by_cases hs : H7 A.ty B.ty = true
 ·rw [if_pos hs]; exact .inl ⟨GT.inj ((R2 _ _).1 hs), rfl⟩
 ·rw [if_neg hs]
  cases a with
  | cast C D m x =>
   simp only
   by_cases hc : A.ty.k = 1 ∧ D.ty.k = 1 ∧ H7 B.ty C.ty = true
   ·rw [if_pos hc]
    obtain ⟨h1, h2, h3⟩ := hc
    obtain rfl := A0t.1 h1
    obtain rfl := A0t.1 h2
    obtain rfl := GT.inj ((R2 _ _).1 h3)
    exact .inr (.inl ⟨m, x, rfl, rfl, rfl⟩)
   ·rw [if_neg hc]; exact .inr (.inr rfl)
  | _ => exact .inr (.inr rfl)
theorem B49 : ∀ (g : GE) (cx : Cx) (T : Ty), B9 cx g.tm = some T → B9 cx g.simp.tm = some T := by
 intro g
 induction g with
 | var x => exact fun cx T h => h
 | num n => exact fun cx T h => h
 | tru b => exact fun cx T h => h
 | lam x A e i => exact fun cx T h => A43 i h
 | app f a i j => exact fun cx T h => A3b i j h
 | ar s a b i j => exact fun cx T h => A3b i j h
 | ite c a b i j k => exact fun cx T h => B0F i j k h
 | pair a b i j => exact fun cx T h => A3b i j h
 | part s e i => exact fun cx T h => A43 i h
 | cast A B l e i =>
  intro cx T h
  obtain ⟨h1, rfl⟩ := A1L h
  have h2 := i cx _ h1
  rw [GE.simp]
  rcases A44 A B l e.simp with ⟨rfl, h3⟩ | ⟨m, x, rfl, h4, h3⟩ | h3
  ·rw [h3]; exact h2
  ·rw [h3]
   rw [h4] at h2
   exact (A1L h2).1
  ·rw [h3]; exact A0Q h2
theorem B5a : ∀ (g : GE) (cx : Cx) (T : Ty), B9 cx g.tm = some T → B9 cx g.dynm.tm = some T := by
 intro g
 induction g with
 | var x => exact fun cx T h => h
 | num n => exact fun cx T h => h
 | tru b => exact fun cx T h => h
 | lam x A e i => exact fun cx T h => A43 i h
 | app f a i j => exact fun cx T h => A3b i j h
 | ar s a b i j => exact fun cx T h => A3b i j h
 | ite c a b i j k => exact fun cx T h => B0F i j k h
 | pair a b i j => exact fun cx T h => A3b i j h
 | part s e i => exact fun cx T h => A43 i h
 | cast A B l e i =>
  intro cx T h
  obtain ⟨h1, rfl⟩ := A1L h
  have h2 := i cx _ h1
  rw [GE.dynm]
  split
  ·exact A0Q h2
  ·exact A0Q (A0Q h2)
theorem A45 {D N : Int} {k : Int} {nm : ByteArray} {num : Int} {ty fr : Ty} {lb : Int} {ks : List Tm} {d : Int} (h1 : d ≤ D) (h2 : k ≠ N) (h3 : U4 k nm num ty fr lb ks.length = true) (h4 : O6 D N ks (d + 1) = true) : L4 D N (.mk k nm num ty fr lb ks) d = true := by
 rw [L4]
 simp only [Bool.and_eq_true, decide_eq_true_eq]
 exact ⟨⟨⟨h1, h2⟩, h3⟩, h4⟩
section
variable {D N : Int} {k : Int} {nm : ByteArray} {num : Int} {ty fr : Ty} {lb : Int} {a b c a' b' c' : Tm} {d d' : Int}
theorem A6V (i : ∀ d d', d' ≤ d → L4 D N a d = true → L4 D N a' d' = true) (hd : d' ≤ d) (h : L4 D N (.mk k nm num ty fr lb [a]) d = true) : L4 D N (.mk k nm num ty fr lb [a']) d' = true := by
 obtain ⟨h1, h2, h3, h4⟩ := Z9 h
 rw [O6, O6, Bool.and_true] at h4
 exact A45 (by omega) h2 h3 (by rw [O6, O6, Bool.and_true]; exact i _ _ (by omega) h4)
theorem A6W (i : ∀ d d', d' ≤ d → L4 D N a d = true → L4 D N a' d' = true) (j : ∀ d d', d' ≤ d → L4 D N b d = true → L4 D N b' d' = true) (hd : d' ≤ d) (h : L4 D N (.mk k nm num ty fr lb [a, b]) d = true) : L4 D N (.mk k nm num ty fr lb [a', b']) d' = true := by
 obtain ⟨h1, h2, h3, h4⟩ := Z9 h
 rw [O6, O6, O6, Bool.and_true, Bool.and_eq_true] at h4
 exact A45 (by omega) h2 h3 (by rw [O6, O6, O6, Bool.and_true, Bool.and_eq_true]; exact ⟨i _ _ (by omega) h4.1, j _ _ (by omega) h4.2⟩)
theorem B5b (i : ∀ d d', d' ≤ d → L4 D N a d = true → L4 D N a' d' = true) (j : ∀ d d', d' ≤ d → L4 D N b d = true → L4 D N b' d' = true) (l : ∀ d d', d' ≤ d → L4 D N c d = true → L4 D N c' d' = true) (hd : d' ≤ d) (h : L4 D N (.mk k nm num ty fr lb [a, b, c]) d = true) : L4 D N (.mk k nm num ty fr lb [a', b', c']) d' = true := by
 obtain ⟨h1, h2, h3, h4⟩ := Z9 h
 rw [O6, O6, O6, O6, Bool.and_true, Bool.and_eq_true, Bool.and_eq_true] at h4
 exact A45 (by omega) h2 h3 (by rw [O6, O6, O6, O6, Bool.and_true, Bool.and_eq_true, Bool.and_eq_true]; exact ⟨i _ _ (by omega) h4.1, j _ _ (by omega) h4.2.1, l _ _ (by omega) h4.2.2⟩)
theorem A6X (hd : d' ≤ d) (h : L4 D N (.mk k nm num ty fr lb []) d = true) : L4 D N (.mk k nm num ty fr lb []) d' = true := by
 obtain ⟨h1, h2, h3, h4⟩ := Z9 h
 exact A45 (by omega) h2 h3 (by rw [O6])
end
theorem B5c : ∀ (g : GE) (d d' : Int), d' ≤ d → L4 40 13 g.tm d = true → L4 40 13 g.simp.tm d' = true := by
 intro g
 induction g with
 | var x => exact fun d d' hd h => A6X hd h
 | num n => exact fun d d' hd h => A6X hd h
 | tru b => exact fun d d' hd h => A6X hd h
 | lam x A e i => exact fun d d' hd h => A6V i hd h
 | app f a i j => exact fun d d' hd h => A6W i j hd h
 | ar s a b i j => exact fun d d' hd h => A6W i j hd h
 | ite c a b i j k => exact fun d d' hd h => B5b i j k hd h
 | pair a b i j => exact fun d d' hd h => A6W i j hd h
 | part s e i => exact fun d d' hd h => A6V i hd h
 | cast A B l e i =>
  intro d d' hd h
  have h9 := h
  rw [GE.tm] at h9
  obtain ⟨_, _, _, h4⟩ := Z9 h9
  rw [O6, O6, Bool.and_true] at h4
  rw [GE.simp]
  rcases A44 A B l e.simp with ⟨rfl, h3⟩ | ⟨m, x, rfl, h5, h3⟩ | h3
  ·rw [h3]; exact i _ _ (by omega) h4
  ·rw [h3]
   have h6 := i (d + 1) (d' - 1) (by omega) h4
   rw [h5, GE.tm] at h6
   obtain ⟨_, _, _, h7⟩ := Z9 h6
   rw [O6, O6, Bool.and_true, show d' - 1 + 1 = d' by omega] at h7
   exact h7
  ·rw [h3]; exact A6V i hd h
theorem B5d : ∀ (g : GE), E7 g.simp.tm ≤ E7 g.tm := by
 intro g
 induction g with
 | var x => exact Nat.le_refl _
 | num n => exact Nat.le_refl _
 | tru b => exact Nat.le_refl _
 | lam x A e i => simp only [GE.simp, GE.tm, E7, H3]; omega
 | app f a i j => simp only [GE.simp, GE.tm, E7, H3]; omega
 | ar s a b i j => simp only [GE.simp, GE.tm, E7, H3]; omega
 | ite c a b i j k => simp only [GE.simp, GE.tm, E7, H3]; omega
 | pair a b i j => simp only [GE.simp, GE.tm, E7, H3]; omega
 | part s e i => simp only [GE.simp, GE.tm, E7, H3]; omega
 | cast A B l e i =>
  rw [GE.simp]
  rcases A44 A B l e.simp with ⟨rfl, h3⟩ | ⟨m, x, rfl, h5, h3⟩ | h3
  ·rw [h3]; simp only [GE.tm, E7, H3]; omega
  ·rw [h3]; rw [h5] at i; simp only [GE.tm, E7, H3] at i ⊢; omega
  ·rw [h3]; simp only [GE.tm, E7, H3]; omega
theorem B5e {n : Nat} {e : Tm} (h : (H2 n e).2.1 = 0) : I3 (H2 n e).1 = true ∧ E2 (H2 n e).1 = true ∧ (H2 n e).2.2.1 = 0 := by
 have hR : (P3 n e).2.1 ≠ 1 := fun h1 => by rw [A6I n e h1] at h; cases h
 rw [A6J n e hR] at h ⊢
 exact B0n n e h
theorem B0H {e : Tm} {n : Int} (h : (K6 e n).2.1 = 0) : I3 (K6 e n).1 = true ∧ E2 (K6 e n).1 = true ∧ (K6 e n).2.2 = 0 := by
 unfold K6 at h ⊢
 split at h
 ·rename_i hn; rw [if_pos hn]; exact B5e h
 ·cases h
theorem B5f : ∀ (n : Nat) (e : Tm), (H2 n e).2.1 ≠ 0 → (H2 n e).1 = I9 := by
 have st : ∀ e, (E4 e).2.1 ≠ 1 → (E4 e).2.1 ≠ 0 → (E4 e).1 = I9 := by
  intro e h1 h0
  unfold E4 at h1 h0 ⊢
  split
  ·rfl
  ·rename_i g1
   rw [if_neg g1] at h1 h0
   split
   ·rename_i g2; rw [if_pos g2] at h0; exact absurd rfl h0
   ·rename_i g2
    rw [if_neg g2] at h1
    split
    ·rfl
    ·rename_i g3
     rw [if_neg g3] at h1
     split
     ·rfl
     ·rename_i g4; rw [if_neg g4] at h1; exact absurd rfl h1
 intro n
 induction n with
 | zero =>
  intro e h
  rw [H2] at h ⊢
  split
  ·rfl
  ·rename_i h1; rw [if_neg h1] at h; exact st e h1 h
 | succ n ih =>
  intro e h
  rw [H2] at h ⊢
  split
  ·rename_i h1; rw [if_pos h1] at h; exact ih _ h
  ·rename_i h1; rw [if_neg h1] at h; exact st e h1 h
theorem B0I {e : Tm} {n : Int} (h : (K6 e n).2.1 ≠ 0) : (K6 e n).1 = I9 := by
 unfold K6 at h ⊢
 split at h
 ·rename_i hn; rw [if_pos hn]; exact B5f _ _ h
 ·rename_i hn; rw [if_neg hn]; rfl
def Agr (a b : Tm) (n m : Int) : Prop := (K6 a n).2.1 = 4 ∨ (K6 a n).2.1 = 5 ∨ (K6 b m).2.1 = 4 ∨ (K6 b m).2.1 = 5 ∨
 ((K6 a n).2.1 = 0 ∧ (K6 b m).2.1 = 0 ∧ V7 (K6 a n).1 = V7 (K6 b m).1) ∨
 ((K6 a n).2.1 = 2 ∧ (K6 b m).2.1 = 2 ∧ (K6 a n).2.2 = (K6 b m).2.2)
theorem A6Y {e x : GE} {A : GT} {T : Ty} (h : HR I5 e x A) {n m : Int} (hn : 0 ≤ n ∧ n ≤ 300) (hm : 0 ≤ m ∧ m ≤ 300) (hce : I3 e.tm = true) (hT : B9 [] e.tm = some T) (hcx : I3 x.tm = true) : Agr e.tm x.tm n m := by
 unfold Agr K6
 rw [if_pos hn, if_pos hm]
 exact Z1 h n.toNat m.toNat hce hT hcx
theorem B5g {a b : Tm} {n m : Int} (h : Agr a b n m) : (K6 a n).2.1 = 4 ∨ (K6 a n).2.1 = 5 ∨ (K6 b m).2.1 = 4 ∨ (K6 b m).2.1 = 5 ∨
  ((K6 a n).2.1 = (K6 b m).2.1 ∧ (K6 a n).2.2 = (K6 b m).2.2 ∧ (I3 (K6 a n).1 && E2 (K6 a n).1) = (I3 (K6 b m).1 && E2 (K6 b m).1) ∧ V7 (K6 a n).1 = V7 (K6 b m).1) := by
 rcases h with h | h | h | h | ⟨h1, h2, h3⟩ | ⟨h1, h2, h3⟩
 ·exact .inl h
 ·exact .inr (.inl h)
 ·exact .inr (.inr (.inl h))
 ·exact .inr (.inr (.inr (.inl h)))
 ·obtain ⟨a1, a2, a3⟩ := B0H h1
  obtain ⟨b1, b2, b3⟩ := B0H h2
  exact .inr (.inr (.inr (.inr ⟨h1.trans h2.symm, a3.trans b3.symm, by rw [a1, a2, b1, b2], h3⟩)))
 ·have a1 := B0I (e := a) (n := n) (by omega)
  have b1 := B0I (e := b) (n := m) (by omega)
  exact .inr (.inr (.inr (.inr ⟨h1.trans h2.symm, h3, by rw [a1, b1], by rw [a1, b1]⟩)))
def A0E (e : Tm) : Tm × Bool := if I3 e = true then (J7 N9 e, true) else (I9, false)
theorem B5h {e : Tm} {T : Ty} (hv : I3 e = true) (hT : B9 [] e = some T) : I3 (J7 N9 e) = true ∧ B9 [] (J7 N9 e) = some T ∧ Agr (J7 N9 e) e 200 200 := by
 obtain ⟨hs, hc⟩ := (A1D e).1 hv
 obtain ⟨g, A, rfl, rfl, hw⟩ := A6T e 1 [] I5 T hs A6C hT
 rw [A6U]
 have h1 := B49 g [] _ hT
 have h2 : I3 g.simp.tm = true := (A1D _).2 ⟨B5c g 1 1 (Int.le_refl _) hs, by have := B5d g; omega⟩
 exact ⟨h2, h1, A6Y (B46 hw).1 (by decide) (by decide) h2 h1 hv⟩
theorem B5i {e : Tm} {T : Ty} (hv : I3 e = true) (hT : B9 [] e = some T) (hx : I3 (J7 P4 e) = true) : B9 [] (J7 P4 e) = some T ∧ Agr e (J7 P4 e) 150 300 := by
 obtain ⟨hs, hc⟩ := (A1D e).1 hv
 obtain ⟨g, A, rfl, rfl, hw⟩ := A6T e 1 [] I5 T hs A6C hT
 rw [B48] at hx ⊢
 exact ⟨B5a g [] _ hT, A6Y (B47 hw) (by decide) (by decide) hv hT hx⟩
theorem B5j {e : Tm} {T : Ty} {l : Int} (hv : I3 e = true) (hT : B9 [] e = some T) (hx : I3 (L1 (L1 e T L0 l) L0 T l) = true) :
  Agr e (L1 (L1 e T L0 l) L0 T l) 150 300 ∧ J7 N9 (L1 (L1 e T L0 l) L0 T l) = J7 N9 e := by
 obtain ⟨hs, hc⟩ := (A1D e).1 hv
 obtain ⟨g, A, rfl, rfl, hw⟩ := A6T e 1 [] I5 T hs A6C hT
 have hb : L1 (L1 g.tm A.ty L0 l) L0 A.ty l = (GE.cast .any A l (.cast A .any l g)).tm := rfl
 rw [hb] at hx ⊢
 refine ⟨A6Y (.back [] (B45 hw)) (by decide) (by decide) hv hT hx, ?_⟩
 rw [A6U, A6U, GE.simp, GE.simp]
 congr 1
 by_cases hA : A = .any
 ·subst hA; rw [B0G, B0G]
 ·have e1 : gbk A .any l g.simp = .cast A .any l g.simp := by
   rcases A44 A .any l g.simp with ⟨h, _⟩ | ⟨_, _, h, _⟩ | h
   ·exact absurd h hA
   ·exact absurd h hA
   ·exact h
  rw [e1]
  unfold gbk
  rw [if_neg (fun h => hA (GT.inj ((R2 _ _).1 h)).symm)]
  simp only
  rw [if_pos ⟨rfl, rfl, (R2 _ _).2 rfl⟩]
def pAt (t : Tm) (label : Int) (l : List Int) : Bool := match tAt t l with
 | some x => decide (x.k = 14 ∧ x.lb = label)
 | none => false
def A6Z (t : Tm) (label : Int) : List Int × Bool := match (B18 t).find? (pAt t label) with
 | some l => (l, true)
 | none => ([], false)
def SP1 (G : IM) (l : List Int) (p : Option Addr) (c : Nat) : Prop := Sl G p l.length c 1 (A3x l) ∧ ∀ b ∈ K2 p, G b ≠ none
def CpP (t : Tm) (label : Int) (G : IM) : IM → Value → List A5 → Prop := L2 fun G' v => ∃ p c, v = .tuple ⟨[.slice p (A6Z t label).1.length c, .bool (A6Z t label).2]⟩ ∧ SP1 (C2 G' G) (A6Z t label).1 p c
mutual
def A2D : Tm → List Tm
 | .mk k nm num ty fr lb ks => (if k = 14 then [.mk k nm num ty fr lb ks] else []) ++ A60 ks
def A60 : List Tm → List Tm
 | [] => []
 | t :: ts => A2D t ++ A60 ts
end
def B0J (label : Int) (x : Tm) : Bool := decide (x.lb = label)
def B6X (t : Tm) (label : Int) : Prop := ((A2D t).find? (B0J label) = none → (A4o t []).find? (pAt t label) = none) ∧ (∀ x, (A2D t).find? (B0J label) = some x → ∃ l, (A4o t []).find? (pAt t label) = some l ∧ tAt t l = some x)
def B0K (label : Int) : List Tm → List Ty
 | [] => []
 | c :: cs => (if c.lb = label then [c.fr, c.ty] else []) ++ B0K label cs
def B6Y (t : Tm) (label : Int) : List Ty := if I3 t = true then B0K label (A2D t) else []
mutual
def A3c : GT → GT → Bool
 | _, .any => true
 | .fn a b, .fn c d => A15 c a && A3c b d
 | .pr a b, .pr c d => A3c a c && A3c b d
 | .int, .int => true
 | .bool, .bool => true
 | _, _ => false
termination_by a b => SizeOf.sizeOf a + SizeOf.sizeOf b
def A15 : GT → GT → Bool
 | .any, _ => true
 | .fn a b, .any => A3c .any a && A15 b .any
 | .pr a b, .any => A15 a .any && A15 b .any
 | .int, .any => true
 | .bool, .any => true
 | .fn a b, .fn c d => A3c c a && A15 b d
 | .pr a b, .pr c d => A15 a c && A15 b d
 | .int, .int => true
 | .bool, .bool => true
 | _, _ => false
termination_by a b => SizeOf.sizeOf a + SizeOf.sizeOf b
end
def GQ (Q : GT → GT → Int → Prop) : GE → Prop
 | .var _ => True
 | .num _ => True
 | .tru _ => True
 | .lam _ _ e => GQ Q e
 | .app f a => GQ Q f ∧ GQ Q a
 | .ar _ a b => GQ Q a ∧ GQ Q b
 | .ite c a b => GQ Q c ∧ GQ Q a ∧ GQ Q b
 | .pair a b => GQ Q a ∧ GQ Q b
 | .part _ e => GQ Q e
 | .cast A B l e => Q A B l ∧ GQ Q e
structure Clo (Q : GT → GT → Int → Prop) : Prop where
 fn : ∀ {a b c d l}, Q (.fn a b) (.fn c d) l → Q c a (-l) ∧ Q b d l
 pr : ∀ {a b c d l}, Q (.pr a b) (.pr c d) l → Q a c l ∧ Q b d l
 up : ∀ {A l}, A ≠ .any → Q A .any l → Q A.gr .any l ∧ Q A A.gr l
 down : ∀ {B l}, B ≠ .any → Q .any B l → Q B.gr B l ∧ Q .any B.gr l
def QL (m : Int) : GT → GT → Int → Prop := fun A B l => (l = m → A3c A B = true) ∧ (l = -m → A15 A B = true)
mutual
def A3d : Tm → List Ty
 | .mk k _ _ ty _ _ ks => (if k = 5 ∨ k = 13 then [ty] else []) ++ B0L ks
def B0L : List Tm → List Ty
 | [] => []
 | t :: ts => A3d t ++ B0L ts
end
mutual
def A61 : Tm → List Ty → Tm
 | .mk k nm num ty fr lb ks, l => .mk k nm num (if k = 5 ∨ k = 13 then l.getD 0 B1 else ty) fr lb (B0M ks (if k = 5 ∨ k = 13 then l.drop 1 else l))
def B0M : List Tm → List Ty → List Tm
 | [], _ => []
 | t :: ts, l => A61 t l :: B0M ts (l.drop (A3d t).length)
end
def B0N (mask : Nat) : Nat → List Ty → List Ty
 | _, [] => []
 | i, t :: ts => (if (mask / 2 ^ i) % 2 = 1 then .mk 1 [] else t) :: B0N mask (i + 1) ts
def B5k (e : Tm) (mask : Nat) : Tm := A61 e (B0N mask 0 (A3d e))
def B5l (e : Tm) : List Tm := (List.range (2 ^ (A3d e).length)).map (B5k e)
section cap
variable {P : Program} {Γ : M1} {env : M7} {hp : List A5} {G : IM} {K : Po} {ops : Array Oper} {rest : List Oper}
end cap
def B6Z (ts : List Ty) : IM → Value → List A5 → Prop := fun G' v outs => ∃ p c es, v = .slice p ts.length c ∧ outs = [.slc p c 25 2 ts.length es.flatten] ∧ E0 G' ts es
def RtP (u : Tm) (l : List Ty) : IM → Value → List A5 → Prop := fun G' v outs => outs = [] ∧ ∃ cu p c el, v = .tuple ⟨[.agg ⟨cu⟩, .slice p l.length c]⟩ ∧ A8 G' u cu ∧ C9 G' p l.length c 2 el ∧ E0 G' l el
section bits
variable {P : Program} {Γ : M1} {env : M7} {hp : List A5} {G : IM} {ty : TypeId}
end bits
section wr
variable {P : Program} {Γ : M1} {env : M7} {hp : List A5} {G : IM} {ty : TypeId} {K : Po} {ops : Array Oper} {rest : List Oper}
variable {pos : String} {af : Array Edge} {gd : Option (Nat × Bool)}
end wr
theorem W5 : (Ty.mk 1 []).small := by simp [Ty.small, Ty.smallL]
theorem A0w (G : IM) : B2 G (.mk 1 []) [.int .i64 1, .slice none 0 0] := by
 simp only [B2]; exact ⟨none, 0, [], rfl, ⟨by decide, by decide⟩, C9.nil G 2, by simp [E0]⟩
def B60 (e : Tm) : Option (List Tm) := if (B0l e).isSome = true ∧ (A3d e).length ≤ 6 then some (B5l e) else none
def CfP (r : Option (List Tm)) : IM → Value → List A5 → Prop := fun G' v outs => outs = [] ∧ ∃ p c es, v = .tuple ⟨[.slice p (r.getD []).length c, .bool r.isSome]⟩ ∧ C9 G' p (r.getD []).length c 9 es ∧ E5 G' (r.getD []) es
def MsP (r : Option (List Int)) (e : A5) (G : IM) : IM → Value → List A5 → Prop := fun G' v outs => outs = [e] ∧ ∃ p c, v = .tuple ⟨[.slice p (r.getD []).length c, .bool r.isSome]⟩ ∧ SP1 (C2 G' G) (r.getD []) p c
def IsP (l : List Int) (b : Bool) (G : IM) : IM → Value → List A5 → Prop := L2 fun G' v => ∃ p c, v = .tuple ⟨[.slice p l.length c, .bool b]⟩ ∧ SP1 (C2 G' G) l p c
theorem A8.nine {G : IM} {t : Tm} {cells : List Value} (h : A8 G t cells) : ∃ v1 v2 v3 v4 v5 v6 v7 v8 v9, cells = [v1, v2, v3, v4, v5, v6, v7, v8, v9] := by
 obtain ⟨_, _, _, _, _, _, _, _, _, rfl, _⟩ := h.open
 exact ⟨_, _, _, _, _, _, _, _, _, rfl⟩
theorem A3Y {G : IM} {e : Tm} {ce : List Value} {k : Int} {nm : ByteArray} {tk : Int} {tks : List Ty} {q p : Option Addr} {d c : Nat} (hk : E9 k) (ht : B2 G (.mk tk tks) [.int .i64 tk, .slice q tks.length d]) (h1 : A8 G e ce) (hs : Sl G p 1 c 9 ce) :
  A8 G (.mk k nm 0 (.mk tk tks) B1 0 [e]) [.int .i64 k, .string nm, .int .i64 0, .int .i64 tk, .slice q tks.length d, .int .i64 0, .slice none 0 0, .int .i64 0, .slice p 1 c] := by
 obtain ⟨a1, a2⟩ := A2u h1 hs
 exact A8.of9 (ks := [e]) hk ⟨by omega, by omega⟩ ⟨by omega, by omega⟩ ht (K5 _ ⟨by omega, by omega⟩) a1 a2
theorem A3Z {G : IM} {e f : Tm} {ce cf : List Value} {k : Int} {nm : ByteArray} {p : Option Addr} {c : Nat} (hk : E9 k) (h1 : A8 G e ce) (h2 : A8 G f cf) (hs : Sl G p 2 c 9 (ce ++ cf)) :
  A8 G (.mk k nm 0 B1 B1 0 [e, f]) [.int .i64 k, .string nm, .int .i64 0, .int .i64 0, .slice none 0 0, .int .i64 0, .slice none 0 0, .int .i64 0, .slice p 2 c] := by
 have hL : E5 G [e, f] [ce, cf] := by simp only [E5]; exact ⟨ce, [cf], rfl, h1, cf, [], rfl, h2, rfl⟩
 exact A8.of9 (ks := [e, f]) hk ⟨by omega, by omega⟩ ⟨by omega, by omega⟩ (K5 _ ⟨by omega, by omega⟩) (K5 _ ⟨by omega, by omega⟩)
  (C9.of (by simpa using hs) rfl hL.all (fun x hx => by obtain ⟨q, hq⟩ := List.getElem?_of_mem hx; exact (hL.inv hq I9).2.one)) hL
theorem B5m {G : IM} {e f g : Tm} {ce cf cg : List Value} {k : Int} {nm : ByteArray} {p : Option Addr} {c : Nat} (hk : E9 k) (h1 : A8 G e ce) (h2 : A8 G f cf) (h3 : A8 G g cg) (hs : Sl G p 3 c 9 (ce ++ (cf ++ cg))) :
  A8 G (.mk k nm 0 B1 B1 0 [e, f, g]) [.int .i64 k, .string nm, .int .i64 0, .int .i64 0, .slice none 0 0, .int .i64 0, .slice none 0 0, .int .i64 0, .slice p 3 c] := by
 have hL : E5 G [e, f, g] [ce, cf, cg] := by simp only [E5]; exact ⟨ce, [cf, cg], rfl, h1, cf, [cg], rfl, h2, cg, [], rfl, h3, rfl⟩
 exact A8.of9 (ks := [e, f, g]) hk ⟨by omega, by omega⟩ ⟨by omega, by omega⟩ (K5 _ ⟨by omega, by omega⟩) (K5 _ ⟨by omega, by omega⟩)
  (C9.of (by simpa using hs) rfl hL.all (fun x hx => by obtain ⟨q, hq⟩ := List.getElem?_of_mem hx; exact (hL.inv hq I9).2.one)) hL
def mB : Nat → Nat
 | 0 => 200
 | n + 1 => 3 * mB n + 200
theorem A1q (n : Nat) : 200 ≤ mB n := by cases n <;> simp only [mB] <;> omega
def A1r (n : Nat) (depth : Int) (t : Ty) : Prop := Q4 4 t ∧ (n : Int) - 1000 ≤ depth ∧ depth ≤ 1000 ∧ ((depth ≤ 1 ∧ Q4 n t) ∨ (2 ≤ depth ∧ depth + 3 ≤ n))
theorem A1r.sub {n : Nat} {depth : Int} {t t' : Ty} (h : A1r (n + 1) depth t) (hd : 1 < depth) (h4 : Q4 4 t') : A1r n (depth - 1) t' := by
 obtain ⟨h1, h2, h3, h5⟩ := h
 refine ⟨h4, by omega, by omega, ?_⟩
 rcases h5 with ⟨h5, _⟩ | ⟨h5, h6⟩
 ·omega
 ·by_cases h7 : 3 ≤ depth
  ·exact .inr ⟨by omega, by omega⟩
  ·exact .inl ⟨by omega, h4.le (by omega)⟩
theorem A1r.kid {n : Nat} {depth : Int} {k : Int} {ks : List Ty} {t' : Ty} (h : A1r (n + 1) depth (.mk k ks)) (ht : t' ∈ ks) : A1r n (depth - 1) t' := by
 have h4 : Q4 4 t' := (A5P h.1 ht).up
 by_cases hd : 1 < depth
 ·exact h.sub hd h4
 ·obtain ⟨h1, h2, h3, h5⟩ := h
  refine ⟨h4, by omega, by omega, .inl ⟨by omega, ?_⟩⟩
  rcases h5 with ⟨_, h5⟩ | ⟨h5, _⟩
  ·exact A5P h5 ht
  ·omega
theorem A1r.pos {n : Nat} {depth : Int} {k : Int} {ks : List Ty} (h : A1r n depth (.mk k ks)) (hd : 1 < depth ∨ k = 4 ∨ k = 5) : ∃ m, n = m + 1 := by
 cases n with
 | succ m => exact ⟨m, rfl⟩
 | zero =>
  obtain ⟨h1, h2, h3, h5⟩ := h
  rcases h5 with ⟨h5, h6⟩ | ⟨h5, h6⟩
  ·have := h6.2
   omega
  ·omega
theorem Q1 : B1.small := by simp [B1, Ty.small, Ty.smallL]
theorem O5 {k : Int} {nm : ByteArray} {num : Int} (h : nm.size ≤ 1) : (Tm.mk k nm num B1 B1 0 []).small := by
 simp only [Tm.small, Tm.smallL]; exact ⟨by omega, Q1, Q1, by simp, trivial⟩
theorem L3 {k : Int} {nm : ByteArray} {num : Int} {ty : Ty} {a : Tm} (h : nm.size ≤ 1) (ht : ty.small) (ha : a.small) : (Tm.mk k nm num ty B1 0 [a]).small := by
 simp only [Tm.small, Tm.smallL]; exact ⟨by omega, ht, Q1, by simp, ha, trivial⟩
theorem S2 {k : Int} {nm : ByteArray} {num : Int} {a b : Tm} (h : nm.size ≤ 1) (ha : a.small) (hb : b.small) : (Tm.mk k nm num B1 B1 0 [a, b]).small := by
 simp only [Tm.small, Tm.smallL]; exact ⟨by omega, Q1, Q1, by simp, ha, hb, trivial⟩
theorem A0x {k : Int} {nm : ByteArray} {num : Int} {a b c : Tm} (h : nm.size ≤ 1) (ha : a.small) (hb : b.small) (hc : c.small) : (Tm.mk k nm num B1 B1 0 [a, b, c]).small := by
 simp only [Tm.small, Tm.smallL]; exact ⟨by omega, Q1, Q1, by simp, ha, hb, hc, trivial⟩
theorem A0y : (Ty.mk 1 []).small := by simp [Ty.small, Ty.smallL]
def B0O (br : Nat) (pb : Option Addr) (nb cb : Nat) (bs : List UInt8) (n : Nat) : Prop := ∀ (depth : Int) (t : Ty) (p : Nat) (G : IM) (pc : Option Addr) (nc cc : Nat) (cells : List Value), A1r n depth t → (n : Int) - 1000 ≤ depth → depth ≤ 1000 → nc + n ≤ 40 → T5 G pc nc cc → B2 G t cells → Sl G pb nb cb 1 (N5 bs) → p + mB n < 1099511627776 →
 Fn Tryz.prog 127 [.pointer (some ⟨br, 0, none⟩), .slice pc nc cc, .agg ⟨cells⟩, .int .i64 depth] [rd br pb nb cb p] G
  (Z6 br pb nb cb p (mB n) (fun G' v => ∃ e cells, v = .agg ⟨cells⟩ ∧ A8 G' e cells ∧ e.small ∧ E7 e ≤ mB n))
theorem B0P (br : Nat) (pb : Option Addr) (nb cb : Nat) (bs : List UInt8) (hnb : nb ≤ 2000) (m : Nat) (hM : B0O br pb nb cb bs m) (depth : Int) (a t : Ty) (p : Nat) (G : IM) (pc : Option Addr) (nc cc : Nat) (ca cells : List Value)
  (hfu : A1r m depth t) (hd0 : (m : Int) - 1000 ≤ depth) (hd1 : depth ≤ 1000) (hnc : nc + 1 + m ≤ 40) (hx : T5 G pc nc cc) (hra : B2 G a ca) (haa : D4 a ∧ H4 a ≤ 30) (hrt : B2 G t cells) (hb : Sl G pb nb cb 1 (N5 bs)) (hp : p + 1 + mB m < 1099511627776) :
  Fn Tryz.prog 181 [.pointer (some ⟨br, 0, none⟩), .slice pc nc cc, .agg ⟨ca⟩, .agg ⟨cells⟩, .int .i64 depth] [rd br pb nb cb p] G
   (Z6 br pb nb cb p (1 + mB m) (fun G' v => ∃ e cells, v = .agg ⟨cells⟩ ∧ A8 G' e cells ∧ e.small ∧ E7 e ≤ 1 + mB m)) := by
 obtain ⟨ak, aks⟩ := a
 obtain ⟨tk, tks⟩ := t
 obtain ⟨pa, cca, ea, rfl, _⟩ := hra.open
 obtain ⟨pt, cct, et, rfl, _⟩ := hrt.open
 simp only [Ty.k, Ty.ks] at hra hrt ⊢
 refine B6 Tryz.func181 rfl Tryz.ntmps181 Tryz.results181 rfl ?_
 intro w0
 refine tS (tR ?_)
 refine sE (C4 rfl rfl) rfl (fun b3 => ?_)
 refine sE (C4 rfl rfl) rfl (fun b4 => ?_)
 refine sE (A6 rfl) rfl (fun b5 => ?_)
 refine sD (nS (tS (tR (sQ (qM rfl) rfl ?_))))
 (refine K7 (D0 rfl rfl rfl (by omega) (by unfold maxLen; omega) rfl) rfl ?_; rintro _ ⟨b11, rfl⟩)
 (refine U1 (by repeat (first | exact Pk.here | apply Pk.there)) (fun G4 hle4 hsl4 _ => ?_); refine H5 rfl (A5T G4 br pb nb cb p bs _ _ _ _ (hb.mono hle4) hnb (by omega) hsl4 (by decide)) (Pk.perm (by repeat (first | exact Pk.here | apply Pk.there))) rfl rfl (fun v G5 outs hle5 hh => ?_); obtain ⟨rfl, rfl, hv⟩ := hh; obtain ⟨nm, rfl, hnm⟩ : ∃ nm : ByteArray, v = .string nm ∧ nm.size ≤ 1 := (by simp only [List.mem_cons, List.not_mem_nil, or_false] at hv; rcases hv with rfl | rfl | rfl | rfl <;> exact ⟨_, rfl, by decide⟩); replace hra := hra.mono hle4; replace hx := hx.mono hle4; replace hb := hb.mono hle4; replace hrt := hrt.mono hle4;)
 refine sQ (qA rfl) rfl (sD (nS (tS ?_)))
 refine D1 D2 rfl ?_
 refine I4 (i := 0) (l' := [tt,ff,ff,ff,ff,ff,ff,ff,ff,ff,ff,ff,ff,ff]) rfl C8 (qM rfl) rfl (by kernel_rfl) rfl rfl ?_
 refine aL 1 rfl (A4 rfl rfl) rfl ?_
 refine aP 3 rfl (qM rfl) rfl ?_
 refine aP 4 rfl (qM rfl) rfl ?_
 refine aP 5 rfl (qM rfl) rfl ?_
 refine aL 6 rfl (A4 rfl rfl) rfl ?_
 refine aL 8 rfl (A4 rfl rfl) rfl ?_
 refine aP 9 rfl (qM rfl) rfl ?_
 refine A2 2 ?_
 (refine E3 rfl rfl (Q3 _ _ _ haa.1.small hra) rfl rfl rfl (fun v G6 hle6 hh => ?_); obtain ⟨K9, F1, rfl, hs1, hn1⟩ := hh; obtain ⟨p1, c1, rfl, _⟩ := hs1.open; have hr1 := hs1.R.mono (C2.le G6 _); replace hra := hra.mono hle6; replace hx := hx.mono hle6; replace hb := hb.mono hle6; replace hrt := hrt.mono hle6;)
 refine A2 7 ?_
 (refine E3 rfl rfl (A55 _ pc nc cc nm (.mk ak aks) _ hx (by omega) hra haa.1 haa.2 hnm) rfl rfl rfl (fun v G7 hle7 hh => ?_); obtain ⟨pm, cm, rfl, hxm⟩ := hh; replace hr1 := hr1.mono hle7; replace hx := hx.mono hle7; replace hb := hb.mono hle7; replace hrt := hrt.mono hle7; have hcall := hM depth (.mk tk tks) (p + 1) _ pm (nc + 1) cm _ hfu hd0 hd1 (by omega) hxm hrt hb (by omega))
 refine A2 10 ?_
 (refine Y6 (l' := [tt,tt,tt,tt,tt,tt,tt,tt,tt,tt,tt,ff,ff,ff]) rfl rfl hcall (Pk.perm (by repeat (first | exact Pk.here | apply Pk.there))) rfl rfl rfl (by repeat (first | exact A9.nil | apply A9.dep (by decide +kernel) | apply A9.blk (by decide +kernel) (by repeat (first | exact Pk.here | apply Pk.there)) (by repeat first | exact mH | apply mT))) (fun v G8 outs hle8 hh => ?_); obtain ⟨p8, hp81, hp82, rfl, e8, c8, rfl, hr8, hs8, hc8⟩ := hh; obtain ⟨a1, a2, a3, a4, a5, a6, a7, a8, a9, rfl⟩ := hr8.nine; replace hr1 := hr1.mono hle8)
 refine A2 11 ?_
 (refine D9 rfl (D0 rfl rfl rfl (by omega) (by unfold maxLen; omega) rfl) rfl rfl ?_; rintro _ ⟨b33, rfl⟩)
 refine aP 12 rfl (Q9 rfl rfl) rfl ?_
 refine A2 13 ?_
 refine M3 rfl rfl rfl rfl rfl rfl rfl rfl (by decide +kernel) (by repeat first | exact Sw.here | apply Sw.there) (by rfl) ?_
 refine C0 (nS ?_)
 (refine I6 (cs := [a1, a2, a3, a4, a5, a6, a7, a8, a9]) (by repeat (first | exact Pk.here | apply Pk.there)) (fun G9 hle9 hsl9 hno9 => ?_); have hN := A3Y (k := 5) (nm := nm) ⟨by omega, by omega⟩ (hr1.mono hle9) (hr8.mono hle9) hsl9)
 refine tT ?_
 refine I1 (outs := [rd br pb nb cb p8]) (rC rfl (A4 rfl rfl)) (by repeat (first | exact A1.nil | refine A1.cons Pk.here ?_ | refine A1.cons (Pk.there Pk.here) ?_ | refine A1.cons (Pk.there (Pk.there Pk.here)) ?_ | apply A1.drop)) ?_
 (exact ⟨p8, by omega, by omega, rfl, _, _, rfl, hN, L3 hnm haa.1.small hs8, by simp only [E7, H3]; omega⟩)
end Gw
end Go.Proofs.YtfpgncjeejickaaGreatDoor
