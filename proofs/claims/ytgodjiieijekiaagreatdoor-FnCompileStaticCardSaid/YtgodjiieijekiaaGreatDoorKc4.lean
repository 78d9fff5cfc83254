/-
  Which codes are valid: the program and the reference say the same.
-/
import Derived.Test.YtgodjiieijekiaaGreatDoorKc2
import Derived.Test.YtgodjiieijekiaaGreatDoorKc1
import Derived.Test.YtgodjiieijekiaaGreatDoorKc0
import Derived.Test.YtgodjiieijekiaaGreatDoorKc3
import Init
set_option linter.unusedVariables false
set_option linter.unusedSimpArgs false
set_option maxHeartbeats 0
set_option maxRecDepth 100000
set_option synthInstance.maxSize 4000
set_option synthInstance.maxHeartbeats 0
namespace Go.Proofs.YtgodjiieijekiaaGreatDoor
open Go Go.RowKit
namespace Gw
abbrev K4 := List (Int × Int)
def A3e (x : Int × Int) : List Value := [.int .i64 x.1, .int .i64 x.2]
structure U3 (G : IM) (ops : K4) (p : Option Addr) (n c : Nat) : Prop where
 sl : C0 G p n c 2 (ops.map A3e)
 len : n = ops.length
 rng : ∀ x ∈ ops, C1 x.1 ∧ C1 x.2
theorem U3.mono {G G' : IM} {ops : K4} {p : Option Addr} {n c : Nat} (h : U3 G ops p n c) (hg : A7 G G') : U3 G' ops p n c := ⟨h.sl.mono hg, h.len, h.rng⟩
theorem U3.get {G : IM} {ops : K4} {p : Option Addr} {n c : Nat} (h : U3 G ops p n c) {i : Nat} (hi : i < n) :
  ∃ b o, p = some ⟨b, o, none⟩ ∧ (∀ hp, At hp G b (o + i * 2) [.int .i64 (ops.getD i (0, 0)).1, .int .i64 (ops.getD i (0, 0)).2]) ∧ C1 (ops.getD i (0, 0)).1 ∧ C1 (ops.getD i (0, 0)).2 ∧ G b ≠ none := by
 have hn := h.len
 have hi' : i < ops.length := by omega
 obtain ⟨e, b, o, he, hp, _, _, hat, hg⟩ := h.sl.get hi
 have hx : ops[i]? = some ops[i] := List.getElem?_eq_getElem hi'
 have hd : ops.getD i (0, 0) = ops[i] := by rw [List.getD_eq_getElem?_getD, hx, Option.getD_some]
 rw [List.getElem?_map, hx, Option.map_some] at he
 replace he := Option.some.inj he
 subst he
 have hr := h.rng _ (List.getElem_mem hi')
 rw [hd]
 exact ⟨b, o, hp, hat, hr.1, hr.2, hg⟩
theorem A6O {ops : K4} {i : Nat} (hi : i < ops.length) (h : O2 ops.length i (ops.getD i (0, 0)) = false) : X0 ops = false := by
 unfold X0
 rw [Bool.and_eq_false_iff]; right
 rw [List.all_eq_false]
 exact ⟨i, List.mem_range.2 hi, by rw [h]; exact Bool.false_ne_true⟩
theorem A35 {ops : K4} (h : ¬(1 ≤ ops.length ∧ ops.length ≤ 120)) : X0 ops = false := by
 unfold X0; rw [decide_eq_false h, Bool.false_and]
theorem A6P {ops : K4} (h : 1 ≤ ops.length ∧ ops.length ≤ 120) (hj : ∀ j, j < ops.length → O2 ops.length j (ops.getD j (0, 0)) = true) : X0 ops = true := by
 unfold X0
 rw [decide_eq_true h, Bool.true_and, List.all_eq_true]
 exact fun j hm => hj j (List.mem_range.1 hm)
theorem B30 {ops : K4} (h : X0 ops = true) : 1 ≤ ops.length ∧ ops.length ≤ 120 ∧ ∀ j, j < ops.length → O2 ops.length j (ops.getD j (0, 0)) = true := by
 unfold X0 at h
 rw [Bool.and_eq_true, decide_eq_true_eq, List.all_eq_true] at h
 exact ⟨h.1.1, h.1.2, fun j hj => h.2 j (List.mem_range.2 hj)⟩
theorem B31 (k a : Int) (i n : Nat) (hi : i < n) (hn : n ≤ 4294967296) (G : IM) (h1 : C1 k) (h2 : C1 a) : Fn Tryz.prog 127 [.agg ⟨[.int .i64 k, .int .i64 a]⟩, .int .i64 (i : Int), .int .i64 (n : Int)] [] G (J1 (.bool (O2 n i (k, a))) G) := by
 obtain ⟨h1a, h1b⟩ := h1
 obtain ⟨h2a, h2b⟩ := h2
 refine B6 Tryz.func127 rfl Tryz.ntmps127 Tryz.results127 rfl ?_
 intro w0
 refine tS (tR ?_)
 refine sE (E2 rfl rfl) rfl (fun b3 => ?_)
 refine H9 ?_
 refine B2 (tS (tR (sB (qE rfl rfl) rfl rfl (fun h17 => ?_) (fun h17 => ?_))))
 refine E1 ?_
 refine sB (Y2 rfl rfl) rfl rfl (fun h26 => ?_) (fun h26 => ?_)
 refine M3 ?_
 refine sB (V6 rfl rfl) rfl rfl (fun h30 => ?_) (fun h30 => ?_)
 refine E1 ?_
 exact ⟨rfl, congrArg Value.bool (by (unfold O2 Q0; dsimp only; symm; first | (apply decide_eq_true; refine ⟨?_, ?_, ?_, ?_⟩ <;> (repeat' split) <;> omega) | (apply decide_eq_false; rintro ⟨j1, j2, j3, j4⟩; (repeat' split at j4) <;> omega))), rfl⟩
 refine E1 ?_
 exact ⟨rfl, congrArg Value.bool (by (unfold O2 Q0; dsimp only; symm; first | (apply decide_eq_true; refine ⟨?_, ?_, ?_, ?_⟩ <;> (repeat' split) <;> omega) | (apply decide_eq_false; rintro ⟨j1, j2, j3, j4⟩; (repeat' split at j4) <;> omega))), rfl⟩
 refine L4 ?_
 exact ⟨rfl, congrArg Value.bool (by (unfold O2 Q0; dsimp only; symm; first | (apply decide_eq_true; refine ⟨?_, ?_, ?_, ?_⟩ <;> (repeat' split) <;> omega) | (apply decide_eq_false; rintro ⟨j1, j2, j3, j4⟩; (repeat' split at j4) <;> omega))), rfl⟩
 refine sQ (qA rfl) rfl (sD (nS (cF rfl (tS (tR ?_)))))
 refine sB (qE rfl rfl) rfl rfl (fun h68 => ?_) (fun h68 => ?_)
 refine E1 ?_
 refine sB (qE rfl rfl) rfl rfl (fun h77 => ?_) (fun h77 => ?_)
 refine L4 ?_
 exact ⟨rfl, congrArg Value.bool (by (unfold O2 Q0; dsimp only; symm; first | (apply decide_eq_true; refine ⟨?_, ?_, ?_, ?_⟩ <;> (repeat' split) <;> omega) | (apply decide_eq_false; rintro ⟨j1, j2, j3, j4⟩; (repeat' split at j4) <;> omega))), rfl⟩
 refine M3 ?_
 refine sB (qE rfl rfl) rfl rfl (fun h94 => ?_) (fun h94 => ?_)
 refine E1 ?_
 exact ⟨rfl, congrArg Value.bool (by (unfold O2 Q0; dsimp only; symm; first | (apply decide_eq_true; refine ⟨?_, ?_, ?_, ?_⟩ <;> (repeat' split) <;> omega) | (apply decide_eq_false; rintro ⟨j1, j2, j3, j4⟩; (repeat' split at j4) <;> omega))), rfl⟩
 refine E1 ?_
 exact ⟨rfl, congrArg Value.bool (by (unfold O2 Q0; dsimp only; symm; first | (apply decide_eq_true; refine ⟨?_, ?_, ?_, ?_⟩ <;> (repeat' split) <;> omega) | (apply decide_eq_false; rintro ⟨j1, j2, j3, j4⟩; (repeat' split at j4) <;> omega))), rfl⟩
 refine sQ (qA rfl) rfl (sD (nS (cF rfl (tS (tR ?_)))))
 refine sB (qE rfl rfl) rfl rfl (fun h119 => ?_) (fun h119 => ?_)
 refine E1 ?_
 refine sB (Y2 rfl rfl) rfl rfl (fun h128 => ?_) (fun h128 => ?_)
 refine M3 ?_
 refine sB (I7 rfl rfl) rfl rfl (fun h132 => ?_) (fun h132 => ?_)
 refine E1 ?_
 exact ⟨rfl, congrArg Value.bool (by (unfold O2 Q0; dsimp only; symm; first | (apply decide_eq_true; refine ⟨?_, ?_, ?_, ?_⟩ <;> (repeat' split) <;> omega) | (apply decide_eq_false; rintro ⟨j1, j2, j3, j4⟩; (repeat' split at j4) <;> omega))), rfl⟩
 refine E1 ?_
 exact ⟨rfl, congrArg Value.bool (by (unfold O2 Q0; dsimp only; symm; first | (apply decide_eq_true; refine ⟨?_, ?_, ?_, ?_⟩ <;> (repeat' split) <;> omega) | (apply decide_eq_false; rintro ⟨j1, j2, j3, j4⟩; (repeat' split at j4) <;> omega))), rfl⟩
 refine L4 ?_
 exact ⟨rfl, congrArg Value.bool (by (unfold O2 Q0; dsimp only; symm; first | (apply decide_eq_true; refine ⟨?_, ?_, ?_, ?_⟩ <;> (repeat' split) <;> omega) | (apply decide_eq_false; rintro ⟨j1, j2, j3, j4⟩; (repeat' split at j4) <;> omega))), rfl⟩
 refine sQ (qA rfl) rfl (sD (nS (cF rfl (tS (tS (tR ?_))))))
 refine sB (qE rfl rfl) rfl rfl (fun h171 => ?_) (fun h171 => ?_)
 refine J3 ?_
 refine sB (Y2 rfl rfl) rfl rfl (fun h183 => ?_) (fun h183 => ?_)
 refine K5 ?_
 refine sB (V6 rfl rfl) rfl rfl (fun h188 => ?_) (fun h188 => ?_)
 refine sQ (N4 rfl rfl) rfl (sQ (qM rfl) rfl (sQ (qM rfl) rfl ?_))
 refine sP (H2 rfl rfl (by omega) (by omega)) rfl rfl ?_
 refine sQ (B1 rfl) rfl (sL (D4 rfl rfl) rfl rfl ?_)
 refine sP (H2 rfl rfl (by omega) (by omega)) rfl rfl ?_
 refine sQ (qM rfl) rfl ?_
 refine sB (V6 rfl rfl) rfl rfl (fun h197 => ?_) (fun h197 => ?_)
 refine E1 ?_
 exact ⟨rfl, congrArg Value.bool (by (unfold O2 Q0; dsimp only; symm; first | (apply decide_eq_true; refine ⟨?_, ?_, ?_, ?_⟩ <;> (repeat' split) <;> omega) | (apply decide_eq_false; rintro ⟨j1, j2, j3, j4⟩; (repeat' split at j4) <;> omega))), rfl⟩
 refine E1 ?_
 exact ⟨rfl, congrArg Value.bool (by (unfold O2 Q0; dsimp only; symm; first | (apply decide_eq_true; refine ⟨?_, ?_, ?_, ?_⟩ <;> (repeat' split) <;> omega) | (apply decide_eq_false; rintro ⟨j1, j2, j3, j4⟩; (repeat' split at j4) <;> omega))), rfl⟩
 refine U8 ?_
 exact ⟨rfl, congrArg Value.bool (by (unfold O2 Q0; dsimp only; symm; first | (apply decide_eq_true; refine ⟨?_, ?_, ?_, ?_⟩ <;> (repeat' split) <;> omega) | (apply decide_eq_false; rintro ⟨j1, j2, j3, j4⟩; (repeat' split at j4) <;> omega))), rfl⟩
 refine A0S ?_
 exact ⟨rfl, congrArg Value.bool (by (unfold O2 Q0; dsimp only; symm; first | (apply decide_eq_true; refine ⟨?_, ?_, ?_, ?_⟩ <;> (repeat' split) <;> omega) | (apply decide_eq_false; rintro ⟨j1, j2, j3, j4⟩; (repeat' split at j4) <;> omega))), rfl⟩
 refine sQ (qA rfl) rfl (sD (nS (cF rfl (tS (tR ?_)))))
 refine sB (qE rfl rfl) rfl rfl (fun h263 => ?_) (fun h263 => ?_)
 refine J3 ?_
 refine sB (Y2 rfl rfl) rfl rfl (fun h275 => ?_) (fun h275 => ?_)
 refine K5 ?_
 refine sB (V6 rfl rfl) rfl rfl (fun h280 => ?_) (fun h280 => ?_)
 refine sQ (N4 rfl rfl) rfl (sQ (qM rfl) rfl (sQ (qM rfl) rfl ?_))
 refine sP (H2 rfl rfl (by omega) (by omega)) rfl rfl ?_
 refine sQ (B1 rfl) rfl (sL (D4 rfl rfl) rfl rfl ?_)
 refine sP (H2 rfl rfl (by omega) (by omega)) rfl rfl ?_
 refine sQ (qM rfl) rfl ?_
 refine sB (V6 rfl rfl) rfl rfl (fun h289 => ?_) (fun h289 => ?_)
 refine E1 ?_
 exact ⟨rfl, congrArg Value.bool (by (unfold O2 Q0; dsimp only; symm; first | (apply decide_eq_true; refine ⟨?_, ?_, ?_, ?_⟩ <;> (repeat' split) <;> omega) | (apply decide_eq_false; rintro ⟨j1, j2, j3, j4⟩; (repeat' split at j4) <;> omega))), rfl⟩
 refine E1 ?_
 exact ⟨rfl, congrArg Value.bool (by (unfold O2 Q0; dsimp only; symm; first | (apply decide_eq_true; refine ⟨?_, ?_, ?_, ?_⟩ <;> (repeat' split) <;> omega) | (apply decide_eq_false; rintro ⟨j1, j2, j3, j4⟩; (repeat' split at j4) <;> omega))), rfl⟩
 refine U8 ?_
 exact ⟨rfl, congrArg Value.bool (by (unfold O2 Q0; dsimp only; symm; first | (apply decide_eq_true; refine ⟨?_, ?_, ?_, ?_⟩ <;> (repeat' split) <;> omega) | (apply decide_eq_false; rintro ⟨j1, j2, j3, j4⟩; (repeat' split at j4) <;> omega))), rfl⟩
 refine A0S ?_
 exact ⟨rfl, congrArg Value.bool (by (unfold O2 Q0; dsimp only; symm; first | (apply decide_eq_true; refine ⟨?_, ?_, ?_, ?_⟩ <;> (repeat' split) <;> omega) | (apply decide_eq_false; rintro ⟨j1, j2, j3, j4⟩; (repeat' split at j4) <;> omega))), rfl⟩
 refine sQ (qA rfl) rfl (sD (nS (cF rfl (tR ?_))))
 refine sB (qE rfl rfl) rfl rfl (fun h354 => ?_) (fun h354 => ?_)
 refine E1 ?_
 refine sB (Y2 rfl rfl) rfl rfl (fun h363 => ?_) (fun h363 => ?_)
 refine K5 ?_
 refine sB (V6 rfl rfl) rfl rfl (fun h368 => ?_) (fun h368 => ?_)
 refine sQ (N4 rfl rfl) rfl (sQ (qM rfl) rfl (sQ (qM rfl) rfl ?_))
 refine sP (H2 rfl rfl (by omega) (by omega)) rfl rfl ?_
 refine sQ (B1 rfl) rfl (sL (D4 rfl rfl) rfl rfl ?_)
 refine sP (H2 rfl rfl (by omega) (by omega)) rfl rfl ?_
 refine sQ (qM rfl) rfl ?_
 refine sB (V6 rfl rfl) rfl rfl (fun h377 => ?_) (fun h377 => ?_)
 refine E1 ?_
 exact ⟨rfl, congrArg Value.bool (by (unfold O2 Q0; dsimp only; symm; first | (apply decide_eq_true; refine ⟨?_, ?_, ?_, ?_⟩ <;> (repeat' split) <;> omega) | (apply decide_eq_false; rintro ⟨j1, j2, j3, j4⟩; (repeat' split at j4) <;> omega))), rfl⟩
 refine E1 ?_
 exact ⟨rfl, congrArg Value.bool (by (unfold O2 Q0; dsimp only; symm; first | (apply decide_eq_true; refine ⟨?_, ?_, ?_, ?_⟩ <;> (repeat' split) <;> omega) | (apply decide_eq_false; rintro ⟨j1, j2, j3, j4⟩; (repeat' split at j4) <;> omega))), rfl⟩
 refine U8 ?_
 exact ⟨rfl, congrArg Value.bool (by (unfold O2 Q0; dsimp only; symm; first | (apply decide_eq_true; refine ⟨?_, ?_, ?_, ?_⟩ <;> (repeat' split) <;> omega) | (apply decide_eq_false; rintro ⟨j1, j2, j3, j4⟩; (repeat' split at j4) <;> omega))), rfl⟩
 refine A0S ?_
 exact ⟨rfl, congrArg Value.bool (by (unfold O2 Q0; dsimp only; symm; first | (apply decide_eq_true; refine ⟨?_, ?_, ?_, ?_⟩ <;> (repeat' split) <;> omega) | (apply decide_eq_false; rintro ⟨j1, j2, j3, j4⟩; (repeat' split at j4) <;> omega))), rfl⟩
 refine J3 ?_
 refine sB (Y2 rfl rfl) rfl rfl (fun h448 => ?_) (fun h448 => ?_)
 refine M3 ?_
 refine sB (V6 rfl rfl) rfl rfl (fun h452 => ?_) (fun h452 => ?_)
 refine K5 ?_
 refine sB (qE rfl rfl) rfl rfl (fun h457 => ?_) (fun h457 => ?_)
 refine N6 ?_
 exact ⟨rfl, congrArg Value.bool (by (unfold O2 Q0; dsimp only; symm; first | (apply decide_eq_true; refine ⟨?_, ?_, ?_, ?_⟩ <;> (repeat' split) <;> omega) | (apply decide_eq_false; rintro ⟨j1, j2, j3, j4⟩; (repeat' split at j4) <;> omega))), rfl⟩
 refine N6 ?_
 exact ⟨rfl, congrArg Value.bool (by (unfold O2 Q0; dsimp only; symm; first | (apply decide_eq_true; refine ⟨?_, ?_, ?_, ?_⟩ <;> (repeat' split) <;> omega) | (apply decide_eq_false; rintro ⟨j1, j2, j3, j4⟩; (repeat' split at j4) <;> omega))), rfl⟩
 refine J3 ?_
 exact ⟨rfl, congrArg Value.bool (by (unfold O2 Q0; dsimp only; symm; first | (apply decide_eq_true; refine ⟨?_, ?_, ?_, ?_⟩ <;> (repeat' split) <;> omega) | (apply decide_eq_false; rintro ⟨j1, j2, j3, j4⟩; (repeat' split at j4) <;> omega))), rfl⟩
 refine J5 ?_
 exact ⟨rfl, congrArg Value.bool (by (unfold O2 Q0; dsimp only; symm; first | (apply decide_eq_true; refine ⟨?_, ?_, ?_, ?_⟩ <;> (repeat' split) <;> omega) | (apply decide_eq_false; rintro ⟨j1, j2, j3, j4⟩; (repeat' split at j4) <;> omega))), rfl⟩
theorem B32 (k b : Int) (G : IM) : Fn Tryz.prog 80 [.int .i64 k, .int .i64 b] [] G (J1 (.int .i64 (Q0 k b)) G) := by
 refine B6 Tryz.func80 rfl Tryz.ntmps80 Tryz.results80 rfl ?_
 intro w0
 refine J3 ?_
 refine B2 ?_
 refine tS (tR ?_)
 refine sB (qE rfl rfl) rfl rfl (fun h15 => ?_) (fun h15 => ?_)
 refine L7 ?_
 exact ⟨rfl, congrArg (Value.int .i64) (by (unfold Q0; (repeat' split) <;> first | rfl | omega)), rfl⟩
 refine sQ (qA rfl) rfl (sD (nS (cF rfl (tS (tR ?_)))))
 refine sB (qE rfl rfl) rfl rfl (fun h36 => ?_) (fun h36 => ?_)
 refine L7 ?_
 exact ⟨rfl, congrArg (Value.int .i64) (by (unfold Q0; (repeat' split) <;> first | rfl | omega)), rfl⟩
 refine sQ (qA rfl) rfl (sD (nS (cF rfl (tS (tR ?_)))))
 refine sB (qE rfl rfl) rfl rfl (fun h57 => ?_) (fun h57 => ?_)
 refine L7 ?_
 exact ⟨rfl, congrArg (Value.int .i64) (by (unfold Q0; (repeat' split) <;> first | rfl | omega)), rfl⟩
 refine sQ (qA rfl) rfl (sD (nS (cF rfl (tS (tS (tR ?_))))))
 refine sB (qE rfl rfl) rfl rfl (fun h79 => ?_) (fun h79 => ?_)
 refine U8 ?_
 exact ⟨rfl, congrArg (Value.int .i64) (by (unfold Q0; (repeat' split) <;> first | rfl | omega)), rfl⟩
 refine sQ (qA rfl) rfl (sD (nS (cF rfl (tS (tR ?_)))))
 refine sB (qE rfl rfl) rfl rfl (fun h104 => ?_) (fun h104 => ?_)
 refine U8 ?_
 exact ⟨rfl, congrArg (Value.int .i64) (by (unfold Q0; (repeat' split) <;> first | rfl | omega)), rfl⟩
 refine sQ (qA rfl) rfl (sD (nS (cF rfl (tR ?_))))
 refine sB (qE rfl rfl) rfl rfl (fun h128 => ?_) (fun h128 => ?_)
 refine M5 ?_
 exact ⟨rfl, congrArg (Value.int .i64) (by (unfold Q0; (repeat' split) <;> first | rfl | omega)), rfl⟩
 refine M5 ?_
 exact ⟨rfl, congrArg (Value.int .i64) (by (unfold Q0; (repeat' split) <;> first | rfl | omega)), rfl⟩
theorem B33 (ops : K4) (G : IM) (p : Option Addr) (n c : Nat) (h : U3 G ops p n c) : Fn Tryz.prog 67 [.slice p n c] [] G (J1 (.bool (X0 ops)) G) := by
 have hl := h.sl.le
 have hn := h.len
 refine B6 Tryz.func67 rfl Tryz.ntmps67 Tryz.results67 rfl ?_
 intro w0
 refine J3 ?_
 refine B2 (J8 (fun (i : Nat) => ⟨[(3, .int .i64 (i : Int)), (2, .bool false), (0, .slice p n c)], [], G⟩) (fun i => i ≤ n ∧ ∀ j, j < i → O2 ops.length j (ops.getD j (0, 0)) = true) (fun i => n - i) 0 ?_ ?_ ?_)
 exact C2
 exact ⟨Nat.zero_le _, by omega⟩
 (rintro i ⟨hi, hj⟩)
 refine N6 ?_
 refine sB (I7 rfl rfl) rfl rfl (fun h23 => ?_) (fun h23 => ?_)
 refine sQ (qM rfl) rfl (sQ (qM rfl) rfl (sQ (W0 rfl rfl) rfl ?_))
 refine sB (V6 rfl rfl) rfl rfl (fun h27 => ?_) (fun h27 => ?_)
 refine sQ (N4 rfl rfl) rfl (sD (nS (qT rfl (tK (nS (tS ?_))))))
 refine B2 ?_
 refine tS (tR (sQ (qM rfl) rfl (sQ (qM rfl) rfl ?_)))
 (obtain ⟨b, o, rfl, hat, hr1, hr2, hgb⟩ := h.get (i := i) (by omega); refine sP (B3 rfl rfl rfl (by omega)) rfl rfl ?_)
 refine sL (A6 rfl rfl (hat _) rfl) rfl rfl ?_
 refine sQ (qM rfl) rfl (sQ (qM rfl) rfl (sQ (W0 rfl rfl) rfl ?_))
 refine H8 rfl ((B31 _ _ i n (by omega) (by omega) G hr1 hr2)) rfl rfl (fun h45 => ?_) (fun h45 => ?_)
 refine E8 ?_
 refine sP (H2 rfl rfl (by omega) (by omega)) rfl rfl ?_
 refine sQ (qA rfl) rfl (sD ?_)
 refine J4 (i + 1) ?_ ?_ ?_
 exact C2
 (refine ⟨by omega, fun j hj2 => ?_⟩; rcases Nat.lt_or_ge j i with h5 | h5; exact hj j h5; obtain rfl : j = i := (by omega); rw [← hn]; assumption)
 (show n - (i + 1) < n - i; omega)
 refine N9 ?_
 (exact ⟨rfl, congrArg Value.bool (A6O (i := i) (by omega) (by rw [← hn]; assumption)).symm, rfl⟩)
 refine L7 ?_
 refine sP (B11 rfl rfl (by omega)) rfl rfl ?_
 refine sQ (qM rfl) rfl (sQ (qM rfl) rfl (sQ (W0 rfl rfl) rfl ?_))
 refine sP (B10 rfl rfl (by omega)) rfl rfl ?_
 refine N6 ?_
 (exact ⟨rfl, congrArg Value.bool (A35 (by omega)).symm, rfl⟩)
 refine U8 ?_
 refine sB (Y2 rfl rfl) rfl rfl (fun h121 => ?_) (fun h121 => ?_)
 refine sQ (qM rfl) rfl (sQ (qM rfl) rfl (sQ (W0 rfl rfl) rfl ?_))
 refine sB (V6 rfl rfl) rfl rfl (fun h125 => ?_) (fun h125 => ?_)
 refine N6 ?_
 (exact ⟨rfl, congrArg Value.bool (A6P (by omega) (fun j hj2 => hj j (by omega))).symm, rfl⟩)
 refine N6 ?_
 (exact ⟨rfl, congrArg Value.bool (A35 (by omega)).symm, rfl⟩)
 refine H9 ?_
 (exact ⟨rfl, congrArg Value.bool (A35 (by omega)).symm, rfl⟩)
theorem A9b (ops : K4) (G : IM) (p : Option Addr) (n c : Nat) (h : U3 G ops p n c) : Fn Tryz.prog 32 [.slice p n c] [] G (J1 (.bool (X0 ops)) G) := by
 have hl := h.sl.le
 have hn := h.len
 refine B6 Tryz.func32 rfl Tryz.ntmps32 Tryz.results32 rfl ?_
 intro w0
 refine L7 ?_
 refine B2 ?_
 refine J8 (fun (i : Nat) => ⟨[(7, .int .i64 (i : Int)), (6, .int .i64 (n : Int)), (5, .slice p n c), (0, .slice p n c)], [], G⟩) (fun i => i ≤ n ∧ ∀ j, j < i → O2 ops.length j (ops.getD j (0, 0)) = true) (fun i => n - i) 0 ?_ ?_ ?_
 exact C2
 exact ⟨Nat.zero_le _, by omega⟩
 (rintro i ⟨hi, hj⟩)
 refine tS (tR ?_)
 refine sB (I7 rfl rfl) rfl rfl (fun h21 => ?_) (fun h21 => ?_)
 refine sD (nS (tS (qT rfl (tK (nS (tS ?_))))))
 refine B2 ?_
 refine tS (tR (sQ (qM rfl) rfl ?_))
 (obtain ⟨b, o, rfl, hat, hr1, hr2, hgb⟩ := h.get (i := i) (by omega); refine sP (B3 rfl rfl rfl (by omega)) rfl rfl ?_)
 refine sL (A6 rfl rfl (hat _) rfl) rfl rfl ?_
 refine sE (B0 rfl) rfl (fun b35 => ?_)
 refine sQ (qA rfl) rfl (I1 ?_)
 refine sD (nS (tS ?_))
 refine D7 D8 rfl ?_
 refine H4 (i := 0) (l' := [tt,ff,ff,ff,ff,ff,ff,ff,ff,ff,ff,ff,ff,ff,ff,ff,ff,ff]) rfl D3 (B1 rfl) rfl (by kernel_rfl) rfl rfl ?_
 refine aL 1 rfl (D4 rfl rfl) rfl ?_
 refine A2 2 ?_
 refine W2 rfl rfl (A0J _ _ _ _) rfl rfl rfl (fun h45 => ?_) (fun h45 => ?_)
 refine aP 3 rfl (pNt rfl) rfl ?_
 refine aP 4 rfl (qM rfl) rfl ?_
 refine aP 5 rfl (B1 rfl) rfl ?_
 refine aL 6 rfl (D4 rfl rfl) rfl ?_
 refine aP 7 rfl (B1 rfl) rfl ?_
 refine aL 8 rfl (D4 rfl rfl) rfl ?_
 refine aP 9 rfl (qM rfl) rfl ?_
 refine aP 10 rfl (W0 rfl rfl) rfl ?_
 refine aP 11 rfl (N1 rfl rfl (by omega) (by omega)) rfl ?_
 refine aP 12 rfl (qM rfl) rfl ?_
 refine aP 13 rfl (N1 rfl rfl (by omega) (by omega)) rfl ?_
 refine A2 14 ?_
 refine S4 rfl rfl ((B32 _ _ _)) rfl rfl rfl ?_
 refine A2 15 ?_
 refine W2 rfl rfl (A0J _ _ _ _) rfl rfl rfl (fun h60 => ?_) (fun h60 => ?_)
 refine aP 16 rfl (pNt rfl) rfl ?_
 refine aP 17 rfl (S2 rfl rfl) rfl ?_
 refine B9 (nS (cF rfl (tK (M2 (nS (tR ?_))))))
 refine sP (H2 rfl rfl (by omega) (by omega)) rfl rfl ?_
 refine sQ (qM rfl) rfl (sD ?_)
 refine J4 (i + 1) ?_ ?_ ?_
 exact C2
 (refine ⟨by omega, fun j hj2 => ?_⟩; rcases Nat.lt_or_ge j i with h5 | h5; exact hj j h5; obtain rfl : j = i := (by omega); simp only [U1, decide_eq_true_eq] at *; unfold O2; apply decide_eq_true; rw [← hn]; omega)
 (show n - (i + 1) < n - i; omega)
 refine aP 16 rfl (pNf rfl) rfl ?_
 refine aP 17 rfl (S2 rfl rfl) rfl ?_
 refine J5 ?_
 (refine ⟨rfl, ?_, rfl⟩; rw [A6O (i := i) (by omega) ?_]; simp only [U1, decide_eq_true_eq, decide_eq_false_iff_not] at *; unfold O2; apply decide_eq_false; rw [← hn]; omega)
 refine aP 3 rfl (pNf rfl) rfl ?_
 refine aP 4 rfl (qM rfl) rfl ?_
 refine E0 5 rfl rfl rfl ?_
 refine E0 6 rfl rfl rfl ?_
 refine E0 7 rfl rfl rfl ?_
 refine E0 8 rfl rfl rfl ?_
 refine E0 9 rfl rfl rfl ?_
 refine E0 10 rfl rfl rfl ?_
 refine E0 11 rfl rfl rfl ?_
 refine E0 12 rfl rfl rfl ?_
 refine E0 13 rfl rfl rfl ?_
 refine E0 14 rfl rfl rfl ?_
 refine E0 15 rfl rfl rfl ?_
 refine E0 16 rfl rfl rfl ?_
 refine aP 17 rfl (N4 rfl rfl) rfl ?_
 refine J5 ?_
 (refine ⟨rfl, ?_, rfl⟩; rw [A6O (i := i) (by omega) ?_]; simp only [U1, decide_eq_true_eq, decide_eq_false_iff_not] at *; unfold O2; apply decide_eq_false; rw [← hn]; omega)
 refine L7 ?_
 refine H8 rfl (A0J _ _ _ _) rfl rfl (fun h139 => ?_) (fun h139 => ?_)
 refine sQ (qA rfl) rfl (sD (nS (tT (I6 (rT rfl) ?_))))
 (refine ⟨rfl, congrArg Value.bool ?_, rfl⟩; simp only [U1, decide_eq_true_eq, decide_eq_false_iff_not] at *; first | exact (A6P (by omega) (fun j hj2 => hj j (by omega))).symm | exact (A35 (by omega)).symm)
 refine sQ (qA rfl) rfl (sD (nS (tT (I6 (rT rfl) ?_))))
 (refine ⟨rfl, congrArg Value.bool ?_, rfl⟩; simp only [U1, decide_eq_true_eq, decide_eq_false_iff_not] at *; first | exact (A6P (by omega) (fun j hj2 => hj j (by omega))).symm | exact (A35 (by omega)).symm)
variable {P : Program} {G : IM}
section
variable {P : Program} {Γ : I3} {env : J0} {hp : List A1} {G : IM} {ty : TypeId}
theorem B34 {x y : Operand} {t el : TypeId} {i : H7} {sz by' : Nat} {zs : List Value} [hI : C7 P t i] (hd' : i.desc = .slice el) [hE : S8 P el sz by' zs] {p : Option Addr} {n c : Nat}
  (hx : evo env x = some (.slice p n c)) (hy : evo env y = some (.int .i64 ((0 : Nat) : Int))) :
  E6 P Γ ⟨env, hp, G⟩ (.slice t x (some y) none none) ty (.slice p n c) := by
 refine ⟨fun a _ hs _ _ _ _ w => ?_⟩
 have hu := hI.und
 rw [hd'] at hu
 obtain ⟨d, hE⟩ := hE.ok
 obtain ⟨inf, z, t1, t2, t3, _⟩ := A15 (P := P) (t := el)
 have e1 : a.eval x = _ := hs.evo hx
 have e2 : a.eval y = _ := hs.evo hy
 have hb : ∀ code, (Instr.sliceBound (.int .i64 ((0 : Nat) : Int)) n code).run P w = .ok 0 w := fun code => A31 (Nat.zero_le n) code
 simp only [execOp, Option.map, e1, e2, Instr.sliceAt, Sem.run_bind, run_underlying hu, Result.andThen_ok, Instr.slice, Instr.sliceBounds, Sem.run_pure, hb, t3]
 by_cases h : c = 0
 ·subst h; simp
 ·simp [h]; cases p <;> simp [Addr.add]
end
theorem St.slc_pt {Γ : I3} {env : J0} {hp : List A1} {G : IM} {a : Act} {w : World} {p : Option Addr} {c el sz n : Nat} {cs : List Value} (hs : St Γ ⟨env, hp, G⟩ a w) (hm : A1.slc p c el sz n cs ∈ hp) :
  (p = none ∧ n = 0 ∧ c = 0) ∨ ∃ g, p = some ⟨g, 0, none⟩ ∧ n ≤ c := by
 obtain ⟨_, h⟩ := hs.res.own.ok _ hm
 rcases h with ⟨hv, hn⟩ | ⟨g, cap, cur, hv, _, _, hnc, _⟩
 ·cases hv; exact .inl ⟨rfl, hn, rfl⟩
 ·cases hv; exact .inr ⟨g, rfl, hnc⟩
theorem A48 {P : Program} {Γ : I3} {env : J0} {hp : List A1} {G : IM} {post : IM → Value → List A1 → Prop} {outs : List A1} (ho : A0 hp outs) (hk : post G (.tuple ⟨[]⟩) outs) : A0f P Γ [] post .normal ⟨env, hp, G⟩ :=
 ⟨⟨[], .nil, outs, ho.spec.choose, ho.spec.choose_spec, hk⟩⟩
theorem A9c {cs Z V : List Value} {n : Nat} (h : cs.length = n * 4) (hz : Z.length = V.length) : R1 (cs ++ Z) (0 + n * 4) V = some (cs ++ V) := by
 have := A56 (A := cs) (B := Z) (C := []) (V := V) (o := 0 + n * 4) (by omega) hz
 simpa using this
theorem B35 (G : IM) (b o m c' c n : Nat) (cs news : List Value) (hv : ∀ j v, news[j]? = some v → cs[o + j]? = some v) (hl : news.length = m * 4) (h1 : ∀ u ∈ news, u.oneCell' = true) (hm : m ≤ 4294967296) :
  Fn Tryz.prog 132 [.slice (some ⟨b, o, none⟩) m c'] [.slc (some ⟨b, 0, none⟩) c 82 4 n cs] G (fun G' v outs => G' = G ∧ ∃ p' c'', v = .slice p' m c'' ∧ outs = [.slc p' c'' 82 4 m news, .slc (some ⟨b, 0, none⟩) c 82 4 n cs]) := by
 refine B6 Tryz.func132 rfl Tryz.ntmps132 Tryz.results132 rfl ?_
 intro w0
 refine E8 ?_
 refine sQ (A5R rfl rfl rfl) rfl ?_
 refine sD (nS (cF rfl (tK (nS (tS (tR ?_))))))
 (refine E9 (B4 rfl rfl rfl (by omega) (by unfold maxLen; omega) rfl) rfl ?_; rintro _ ⟨b18, rfl⟩)
 refine sQ (qM rfl) rfl ?_
 refine U9 rfl rfl rfl rfl rfl (fun _ _ => by repeat (first | exact Sw.here | apply Sw.there)) (A3B (by repeat first | exact mH | apply mT) hv) hl h1 (by unfold maxLen; omega) (by omega) rfl (fun pn cn => ?_)
 refine sQ (qA rfl) rfl (sD (nS (tT ?_)))
 refine E3 (rT rfl) A0.refl ?_
 exact ⟨rfl, _, _, by rw [Nat.zero_add], by rw [Nat.zero_add]; rfl⟩
theorem B36 (G : IM) : Fn Tryz.prog 132 [.slice none 0 0] [] G (J1 (.slice none 0 0) G) := by
 refine B6 Tryz.func132 rfl Tryz.ntmps132 Tryz.results132 rfl ?_
 intro w0
 refine E8 ?_
 refine sQ (A5Q rfl rfl rfl) rfl ?_
 refine J3 ?_
 exact ⟨rfl, rfl, rfl⟩
theorem A9d (G : IM) (p : Option Addr) (n c : Nat) (es : List (List Value)) (h : C0 G p n c 4 es) (hn : n ≤ 4294967296) :
  Fn Tryz.prog 132 [.slice p n c] [] G (fun G' v outs => G' = G ∧ ∃ p' c', v = .slice p' n c' ∧ outs = [.slc p' c' 82 4 n es.flatten]) := by
 have hp := h.sl.nn
 have hS := h.sl
 have hone : ∀ u ∈ es.flatten, u.oneCell' = true := by
  intro u hu
  obtain ⟨e, he, hue⟩ := List.mem_flatten.1 hu
  exact List.all_eq_true.1 (h.one e he) u hue
 refine B6 Tryz.func132 rfl Tryz.ntmps132 Tryz.results132 rfl ?_
 intro w0
 cases p with
 | none =>
  obtain rfl := hp rfl
  obtain rfl : es = [] := List.length_eq_zero_iff.1 h.len
  refine W9 82 4 ?_
  refine E8 ?_
  refine sQ (A5Q rfl rfl rfl) rfl ?_
  refine H9 ?_
  refine E3 (rT rfl) A0.refl ?_
  exact ⟨rfl, _, _, rfl, rfl⟩
 | some a =>
  refine E8 ?_
  refine sQ (A5R rfl rfl rfl) rfl ?_
  refine sD (nS (cF rfl (tK (nS (tS (tR ?_))))))
  (refine E9 (B4 rfl rfl rfl (by omega) (by unfold maxLen; omega) rfl) rfl ?_; rintro _ ⟨b18, rfl⟩)
  refine sQ (qM rfl) rfl ?_
  refine A3T rfl rfl rfl rfl rfl (fun _ _ => by repeat (first | exact Sw.here | apply Sw.there)) hS hone (Nat.zero_le _) (by unfold maxLen; omega) (by omega) rfl (fun pn cn => ?_)
  refine sQ (qA rfl) rfl (sD (nS (tT ?_)))
  refine E3 (rT rfl) A0.refl ?_
  exact ⟨rfl, _, _, by rw [Nat.zero_add], by rw [Nat.zero_add]; rfl⟩
def A0M (b : Nat) (A E F : Value) (p : Option Addr) (n c m : Nat) (cs : List Value) (es : List (List Value)) : IM → Value → List A1 → Prop := fun G' v outs =>
 if n < m then v = .tuple ⟨[.slice none 0 0, .bool false]⟩
 else ∃ q d, v = .tuple ⟨[.slice q m d, .bool true]⟩ ∧ outs = [.blk b [A, .slice p (n - m) c, E, F], .slc p c 82 4 (n - m) ((es.take (n - m)).flatten)] ∧ C0 G' q m d 4 (es.drop (n - m))
theorem B37 {es : List (List Value)} (l : Nat) (ha : ∀ e ∈ es, e.length = 4) : ∀ j v, (es.drop l).flatten[j]? = some v → es.flatten[l * 4 + j]? = some v := by
 intro j v hj
 rw [← A8Q l ha, List.getElem?_drop] at hj
 exact hj
theorem A49 (b m n c : Nat) (A E F : Value) (p : Option Addr) (es : List (List Value)) (G : IM) (hm : m ≤ 2) (hn : n ≤ 4294967296) (hl : es.length = n) (ha : ∀ e ∈ es, e.length = 4) (ho : ∀ e ∈ es, e.all (·.oneCell') = true) (hA : A.cells = ⟨[A]⟩ ∧ E.cells = ⟨[E]⟩ ∧ F.cells = ⟨[F]⟩) :
  Fn Tryz.prog 129 [.pointer (some ⟨b, 0, none⟩), .int .i64 (m : Int)] [.blk b [A, .slice p n c, E, F], .slc p c 82 4 n es.flatten] G (A0M b A E F p n c m es.flatten es) := by
 refine B6 Tryz.func129 rfl Tryz.ntmps129 Tryz.results129 rfl ?_
 intro w0
 refine A3F (fun a w hs => hs.slc_pt (p := p) (c := c) (el := 82) (sz := 4) (n := n) (cs := es.flatten) (by repeat first | exact mH | apply mT)) (fun hq => ?_)
 rcases hq with ⟨rfl, rfl, rfl⟩ | ⟨g, rfl, hnc⟩
 ·obtain rfl : es = [] := List.length_eq_zero_iff.1 hl
  refine E8 ?_
  refine sQ (I4 rfl) rfl ?_
  refine K5 ?_
  refine sP (N1 rfl rfl (by omega) (by omega)) rfl rfl ?_
  refine C5 ?_
  refine sB (I7 rfl rfl) rfl rfl (fun h23 => ?_) (fun h23 => ?_)
  ·refine J3 ?_
   refine A4A (outs := [.blk b [A, .slice none 0 0, E, F], .slc none 0 82 4 0 []]) (rT rfl) (rT rfl) (by repeat (first | exact A0.refl | exact A0.nil | refine A0.cons (by repeat (first | exact Pk.here | apply Pk.there)) ?_)) ?_
   (show A0M _ _ _ _ _ _ _ _ _ _ _ _ _; unfold A0M; rw [if_pos (by omega)])
  ·refine sD (nS (cF rfl (tK (nS (tS ?_)))))
   (rw [show (((0 : Nat) : Int) - (m : Int)) = ((0 : Nat) : Int) from (by omega)])
   refine tR (sQ (qM rfl) rfl ?_)
   refine sQ (I4 rfl) rfl ?_
   refine M3 ?_
   (obtain rfl : m = 0 := (by omega); refine sQ (B34 rfl rfl rfl) rfl ?_)
   refine H6 rfl ((B36 G)) rfl rfl ?_
   refine C5 ?_
   refine sQ (I4 rfl) rfl ?_
   refine M3 ?_
   (refine sP (A1O (l := 0) rfl rfl rfl (by omega)) rfl rfl ?_)
   refine sQ (I4 rfl) rfl ?_
   refine L4 ?_
   refine A4A (outs := [.blk b [A, .slice none 0 0, E, F], .slc none 0 82 4 0 []]) (rT rfl) (rT rfl) (by repeat (first | exact A0.refl | exact A0.nil | refine A0.cons (by repeat (first | exact Pk.here | apply Pk.there)) ?_)) ?_
   (show A0M _ _ _ _ _ _ _ _ _ _ _ _ _; unfold A0M; rw [if_neg (by omega)]; exact ⟨none, 0, rfl, rfl, C0.nil G 4⟩)
 ·have hdl : (es.drop (n - m)).length = n - (n - m) := by rw [List.length_drop, hl]
  have hfl : (es.drop (n - m)).flatten.length = (n - (n - m)) * 4 := by rw [A17 (fun e he => ha e (List.mem_of_mem_drop he)), hdl]
  have hf1 : ∀ u ∈ (es.drop (n - m)).flatten, u.oneCell' = true := by
   intro u hu
   obtain ⟨e, he, hue⟩ := List.mem_flatten.1 hu
   exact List.all_eq_true.1 (ho e (List.mem_of_mem_drop he)) u hue
  have hvv : ∀ j v, (es.drop (n - m)).flatten[j]? = some v → es.flatten[(if c = n - m then 0 else 0 + (n - m) * 4) + j]? = some v := by
   intro j v hj
   split
   ·rw [List.drop_eq_nil_of_le (by omega)] at hj; simp at hj
   ·rw [Nat.zero_add]; exact B37 _ ha j v hj
  have hC := B35 G g (if c = n - m then 0 else 0 + (n - m) * 4) (n - (n - m)) (c - (n - m)) c n es.flatten (es.drop (n - m)).flatten hvv hfl hf1 (by omega)
  refine E8 ?_
  refine sQ (I4 rfl) rfl ?_
  refine K5 ?_
  refine sP (N1 rfl rfl (by omega) (by omega)) rfl rfl ?_
  refine C5 ?_
  refine sB (I7 rfl rfl) rfl rfl (fun h23 => ?_) (fun h23 => ?_)
  ·refine J3 ?_
   refine K0 (rT rfl) (rT rfl) ?_
   (show A0M _ _ _ _ _ _ _ _ _ _ _ _ _; unfold A0M; rw [if_pos (by omega)])
  ·refine sD (nS (cF rfl (tK (nS (tS ?_)))))
   (rw [show ((n : Int) - (m : Int)) = ((n - m : Nat) : Int) from (by omega)])
   refine tR (sQ (qM rfl) rfl ?_)
   refine sQ (I4 rfl) rfl ?_
   refine M3 ?_
   refine sP (B29 (l := n - m) rfl rfl rfl (by omega)) rfl rfl ?_
   (refine C6 rfl hC (Pk.perm (by repeat (first | exact Pk.here | apply Pk.there))) rfl rfl (fun v Gn outs hle1 hh => ?_); obtain ⟨hG, p', c'', rfl, rfl⟩ := hh; subst hG; refine S9 (cs := (es.drop (n - m)).flatten) (by repeat (first | exact Pk.here | apply Pk.there)) (fun Gf hleF hslF hnoF => ?_); have hslN := C0.of hslF hdl (fun e he => ha e (List.mem_of_mem_drop he)) (fun e he => ho e (List.mem_of_mem_drop he)))
   refine C5 ?_
   refine sQ (I4 rfl) rfl ?_
   refine M3 ?_
   refine sP (A1O (l := n - m) rfl rfl rfl (by omega)) rfl rfl ?_
   refine sQ (I4 rfl) rfl ?_
   refine sQ (B1 rfl) rfl ?_
   (refine A6F (k := n - m) (p := some ⟨g, 0, none⟩) (by repeat (first | exact Pk.here | apply Pk.there)) (by omega) ?_; refine I1 ?_)
   refine H9 ?_
   refine A4A (outs := [.blk b [A, .slice (some ⟨g, 0, none⟩) (n - m) c, E, F], .slc (some ⟨g, 0, none⟩) c 82 4 (n - m) (es.flatten.take ((n - m) * 4))]) (rT rfl) (rT rfl) (by repeat (first | exact A0.refl | exact A0.nil | refine A0.cons (by repeat (first | exact Pk.here | apply Pk.there)) ?_)) ?_
   (show A0M _ _ _ _ _ _ _ _ _ _ _ _ _; unfold A0M; rw [if_neg (by omega)]; have hmm : n - (n - m) = m := (by omega); rw [hmm] at hslN; exact ⟨_, _, by rw [hmm], by rw [A6n _ ha], hslN⟩)
theorem A1V (b n c : Nat) (A E F x1 x2 x3 x4 : Value) (p : Option Addr) (cs : List Value) (G : IM) (hn : n ≤ 4294967296) (hx : [x1, x2, x3, x4].all (·.oneCell') = true) :
  Fn Tryz.prog 130 [.pointer (some ⟨b, 0, none⟩), .agg ⟨[x1, x2, x3, x4]⟩] [.blk b [A, .slice p n c, E, F], .slc p c 82 4 n cs] G (fun G' v outs => G' = G ∧ v = .tuple ⟨[]⟩ ∧ ∃ p' c', outs = [.blk b [A, .slice p' (n + 1) c', E, F], .slc p' c' 82 4 (n + 1) (cs ++ [x1, x2, x3, x4])]) := by
 refine B6 Tryz.func130 rfl Tryz.ntmps130 Tryz.results130 rfl ?_
 intro w0
 refine A3F (fun a w hs => hs.slc_form (p := p) (c := c) (el := 82) (sz := 4) (n := n) (cs := cs) (by repeat first | exact mH | apply mT)) (fun hq => ?_)
 obtain ⟨hcl, hnc, _⟩ := hq
 refine tS (tR ?_)
 refine sE (E2 rfl rfl) rfl (fun b3 => ?_)
 refine sD (nS ?_)
 refine D7 D8 rfl ?_
 refine H4 (i := 0) (l' := [tt,ff,ff,ff,ff,ff,ff,ff,ff,ff,ff,ff,ff]) rfl D3 (qM rfl) rfl (by kernel_rfl) rfl rfl ?_
 refine aP 1 rfl (I4 rfl) rfl ?_
 refine aP 2 rfl (B1 rfl) rfl ?_
 refine aL 3 rfl (D4 rfl rfl) rfl ?_
 refine aL 4 rfl (A3 rfl rfl) rfl ?_
 refine aP 5 rfl (W0 rfl rfl) rfl ?_
 refine A2 6 ?_
 (refine D6 rfl (B4 rfl rfl rfl (by omega) (by unfold maxLen; omega) rfl) rfl rfl ?_; rintro _ ⟨b14, rfl⟩)
 refine A2 7 ?_
 (refine Q9 rfl rfl rfl rfl rfl rfl (fun _ _ => by repeat (first | exact Sw.here | apply Sw.there)) (J9 (by repeat first | exact mH | apply mT)) rfl (by simp [Value.oneCell']) (by unfold maxLen; omega) (by omega) rfl rfl (by repeat (first | exact A4.nil | apply A4.dep (by decide +kernel) | apply A4.blk (by decide +kernel) (by repeat (first | exact Pk.here | apply Pk.there)) (by repeat first | exact mH | apply mT))) (fun p5 c5 => ?_); refine A3G (fun a w hs => (hs.slc_form (p := p5) (c := c5) (el := 82) (sz := 4) (n := n + 1) (by repeat first | exact mH | apply mT)).2.2 (Nat.succ_pos _)) (fun hq => ?_); obtain ⟨g5, rfl⟩ := hq)
 refine aP 8 rfl (B3 (j := n) rfl rfl rfl (by omega)) rfl ?_
 refine aP 10 rfl (I4 rfl) rfl ?_
 refine aP 11 rfl (B1 rfl) rfl ?_
 refine U7 (j := 9) (j' := 12) (by kernel_rfl) ?_ ?_
 (refine A8Z (l' := [tt,tt,tt,tt,tt,tt,tt,tt,tt,tt,tt,tt,ff]) rfl rfl rfl rfl rfl hx rfl rfl (by decide +kernel) (by repeat first | exact Sw.here | apply Sw.there) (by exact A9c hcl rfl) ?_)
 refine A2 12 ?_
 refine R2 rfl rfl rfl rfl rfl rfl rfl rfl (by decide +kernel) (by repeat first | exact Sw.here | apply Sw.there) (by rfl) ?_
 refine B9 ?_
 refine A48 (outs := [.blk b [A, .slice (some ⟨g5, 0, none⟩) (n + 1) c5, E, F], .slc (some ⟨g5, 0, none⟩) c5 82 4 (n + 1) (cs ++ [x1, x2, x3, x4])]) (by repeat (first | exact A0.refl | exact A0.nil | refine A0.cons (by repeat (first | exact Pk.here | apply Pk.there)) ?_)) ?_
 (exact ⟨rfl, rfl, _, _, rfl⟩)
 refine R2 rfl rfl rfl rfl rfl rfl rfl rfl (by decide +kernel) (by repeat first | exact Sw.here | apply Sw.there) (by rfl) ?_
 refine A2 9 ?_
 (refine A8Z (l' := [tt,tt,tt,tt,tt,tt,tt,tt,tt,tt,tt,tt,tt]) rfl rfl rfl rfl rfl hx rfl rfl (by decide +kernel) (by repeat first | exact Sw.here | apply Sw.there) (by exact A9c hcl rfl) ?_)
 refine B9 ?_
 refine A48 (outs := [.blk b [A, .slice (some ⟨g5, 0, none⟩) (n + 1) c5, E, F], .slc (some ⟨g5, 0, none⟩) c5 82 4 (n + 1) (cs ++ [x1, x2, x3, x4])]) (by repeat (first | exact A0.refl | exact A0.nil | refine A0.cons (by repeat (first | exact Pk.here | apply Pk.there)) ?_)) ?_
 (exact ⟨rfl, rfl, _, _, rfl⟩)
def A3f (x : List Value) (n : Nat) : Prop := ∃ ops : K4, n = ops.length ∧ x = (ops.map A3e).flatten ∧ ∀ y ∈ ops, C1 y.1 ∧ C1 y.2
theorem A3f.len {x : List Value} {n : Nat} (h : A3f x n) : x.length = n * 2 := by
 obtain ⟨a, rfl, rfl, _⟩ := h
 rw [A17 (sz := 2) (by intro e he; obtain ⟨y, _, rfl⟩ := List.mem_map.1 he; rfl), List.length_map]
theorem A3f.ones {x : List Value} {n : Nat} (h : A3f x n) : ∀ u ∈ x, u.oneCell' = true := by
 obtain ⟨a, rfl, rfl, _⟩ := h
 intro u hu
 obtain ⟨e, he, hue⟩ := List.mem_flatten.1 hu
 obtain ⟨y, _, rfl⟩ := List.mem_map.1 he
 simp [A3e] at hue
 rcases hue with rfl | rfl <;> rfl
mutual
def cOk : Tm → Prop
 | .mk k nm _ _ _ _ ks => nm.size ≤ 1 ∧ (k = 5 → 1 ≤ ks.length) ∧ (k = 9 → 3 ≤ ks.length) ∧ A2d ks
def A2d : List Tm → Prop
 | [] => True
 | t :: ts => cOk t ∧ A2d ts
end
theorem A9e : ∀ {ts : List Tm}, A2d ts → ∀ t ∈ ts, cOk t
 | [], _, t, h => by simp at h
 | t' :: ts, h, t, ht => by
  simp only [A2d] at h
  rcases List.mem_cons.1 ht with rfl | ht
  ·exact h.1
  ·exact A9e h.2 t ht
theorem B38 : cOk I2 := by simp [I2, cOk, A2d, ByteArray.size]
mutual
theorem A9f (D N : Int) : ∀ (t : Tm) (d : Int), I9 D N t d = true → cOk (D0 t)
 | .mk k nm num ty fr lb ks, d, h => by
  obtain ⟨_, _, h3, h4⟩ := R8 h
  have hL := A9g D N ks _ h4
  have hn := A6L h3
  obtain ⟨ha, _⟩ := R7.1 h3
  rw [D0]
  split
  ·cases ks with
   | nil => simpa [C4] using B38
   | cons t ts =>
    simp only [C4, A2d] at hL
    simpa [C4] using hL.1
  ·simp only [cOk]
   rw [A1S, List.length_map, ← A1S]
   refine ⟨hn, fun hk => ?_, fun hk => ?_, hL⟩
   ·subst hk; have : D5 5 = 1 := by decide
    omega
   ·subst hk; have : D5 9 = 3 := by decide
    omega
theorem A9g (D N : Int) : ∀ (ts : List Tm) (d : Int), F8 D N ts d = true → A2d (C4 ts)
 | [], _, _ => by rw [C4]; trivial
 | t :: ts, d, h => by
  rw [F8, Bool.and_eq_true] at h
  simp only [C4, A2d]
  exact ⟨A9f D N t d h.1, A9g D N ts d h.2⟩
end
theorem B39 {ks : List Tm} (h : 3 ≤ ks.length) : C9 (ks[0]'(by omega)) + C9 (ks[1]'(by omega)) + C9 (ks[2]'(by omega)) ≤ D2 ks := by
 match ks, h with
 | a :: b :: c :: r, _ => simp only [D2, List.getElem_cons_zero, List.getElem_cons_succ]; omega
theorem B4a {ks : List Tm} (h : 1 ≤ ks.length) : C9 (ks[0]'(by omega)) ≤ D2 ks := by
 match ks, h with
 | a :: r, _ => simp only [D2, List.getElem_cons_zero]; omega
def B7U (G : IM) (B : Nat) : IM → Value → List A1 → Prop := fun G' v outs => G' = G ∧ ∃ p n c x, v = .slice p n c ∧ outs = [.slc p c 72 2 n x] ∧ A3f x n ∧ 1 ≤ n ∧ n ≤ B
theorem T3 {P : Program} {Γ : I3} {env : J0} {hp h1 : List A1} {G : IM} {r : ResultVar} {post : IM → Value → List A1 → Prop} {p : Option Addr} {n c : Nat} {x : List Value} (hr : W8 P Γ ⟨env, hp, G⟩ r (.slice p n c)) (k1 : Pk hp (.slc p c 72 2 n x) h1)
  (h : post G (.slice p n c) [.slc p c 72 2 n x]) : A0f P Γ [r] post .ret ⟨env, hp, G⟩ := E3 hr (.cons k1 .nil) h
theorem A5a {n : Nat} (h : n ≤ 4294967296) : C1 (n : Int) := by unfold C1; omega
end Gw
end Go.Proofs.YtgodjiieijekiaaGreatDoor
namespace Go.Proofs.YtgodjiieijekiaaGreatDoor
namespace Gw
inductive GT where
 | any | int | bool
 | fn (a b : GT)
 | pr (a b : GT)
inductive GE where
 | var (x : ByteArray)
 | num (n : Int)
 | tru (b : Bool)
 | lam (x : ByteArray) (A : GT) (e : GE)
 | app (f a : GE)
 | ar (s : Bool) (a b : GE)
 | ite (c a b : GE)
 | pair (a b : GE)
 | part (s : Bool) (e : GE)
 | cast (A B : GT) (l : Int) (e : GE)
def GT.gr : GT → GT
 | .any => .any
 | .int => .int
 | .bool => .bool
 | .fn _ _ => .fn .any .any
 | .pr _ _ => .pr .any .any
def GT.Gd (t : GT) : Prop := t ≠ .any ∧ t.gr = t
inductive Co : GT → GT → Prop
 | l {b} : Co .any b
 | r {a} : Co a .any
 | int : Co .int .int
 | bool : Co .bool .bool
 | fn {a b a' b'} : Co a a' → Co b b' → Co (.fn a b) (.fn a' b')
 | pr {a b a' b'} : Co a a' → Co b b' → Co (.pr a b) (.pr a' b')
inductive Le : GT → GT → Prop
 | any {a} : Le a .any
 | int : Le .int .int
 | bool : Le .bool .bool
 | fn {a b a' b'} : Le a a' → Le b b' → Le (.fn a b) (.fn a' b')
 | pr {a b a' b'} : Le a a' → Le b b' → Le (.pr a b) (.pr a' b')
theorem Co.symm {a b : GT} (h : Co a b) : Co b a := by
 induction h with
 | l => exact .r
 | r => exact .l
 | int => exact .int
 | bool => exact .bool
 | fn _ _ i j => exact .fn i j
 | pr _ _ i j => exact .pr i j
theorem Co.refl : ∀ {a : GT}, Co a a
 | .any => .l
 | .int => .int
 | .bool => .bool
 | .fn _ _ => .fn Co.refl Co.refl
 | .pr _ _ => .pr Co.refl Co.refl
theorem Le.refl : ∀ {a : GT}, Le a a
 | .any => .any
 | .int => .int
 | .bool => .bool
 | .fn _ _ => .fn Le.refl Le.refl
 | .pr _ _ => .pr Le.refl Le.refl
theorem Le.gr {a : GT} : Le a a.gr := by
 cases a with
 | fn _ _ => exact .fn .any .any
 | pr _ _ => exact .pr .any .any
 | _ => exact Le.refl
theorem Co.gr {a : GT} : Co a a.gr := by
 cases a with
 | fn _ _ => exact .fn .r .r
 | pr _ _ => exact .pr .r .r
 | _ => exact Co.refl
theorem Le.trans {a b : GT} (h : Le a b) : ∀ {c : GT}, Le b c → Le a c := by
 induction h with
 | any => intro c h; cases h; exact .any
 | int => exact fun h => h
 | bool => exact fun h => h
 | fn _ _ i j =>
  intro c h
  cases h with
  | any => exact .any
  | fn h1 h2 => exact .fn (i h1) (j h2)
 | pr _ _ i j =>
  intro c h
  cases h with
  | any => exact .any
  | pr h1 h2 => exact .pr (i h1) (j h2)
theorem Co.up {a b : GT} (h : Co a b) : ∀ {a' b' : GT}, Le a a' → Le b b' → Co a' b' := by
 induction h with
 | l => intro a' b' h1 _; cases h1; exact .l
 | r => intro a' b' _ h2; cases h2; exact .r
 | int => intro a' b' h1 h2; cases h1 <;> cases h2 <;> first | exact .l | exact .r | exact .int
 | bool => intro a' b' h1 h2; cases h1 <;> cases h2 <;> first | exact .l | exact .r | exact .bool
 | fn _ _ i j =>
  intro a' b' h1 h2
  cases h1 with
  | any => exact .l
  | fn p q => cases h2 with
   | any => exact .r
   | fn r s => exact .fn (i p r) (j q s)
 | pr _ _ i j =>
  intro a' b' h1 h2
  cases h1 with
  | any => exact .l
  | pr p q => cases h2 with
   | any => exact .r
   | pr r s => exact .pr (i p r) (j q s)
theorem Le.co {a b : GT} (h : Le a b) : Co a b := Co.refl.up Le.refl h
theorem Le.gd {a g : GT} (h : Le a g) (hg : g.Gd) : a.gr = g := by
 cases h with
 | any => exact absurd rfl hg.1
 | int => rfl
 | bool => rfl
 | fn _ _ => exact hg.2
 | pr _ _ => exact hg.2
theorem A9h {a : GT} (h : a ≠ .any) : a.gr.Gd := by
 cases a with
 | any => exact absurd rfl h
 | int => exact ⟨(by intro h; cases h), rfl⟩
 | bool => exact ⟨(by intro h; cases h), rfl⟩
 | fn _ _ => exact ⟨(by intro h; cases h), rfl⟩
 | pr _ _ => exact ⟨(by intro h; cases h), rfl⟩
def GE.sub : GE → ByteArray → GE → GE
 | .var y, x, v => if y = x then v else .var y
 | .num n, _, _ => .num n
 | .tru b, _, _ => .tru b
 | .lam y A e, x, v => if y = x then .lam y A e else .lam y A (e.sub x v)
 | .app f a, x, v => .app (f.sub x v) (a.sub x v)
 | .ar s a b, x, v => .ar s (a.sub x v) (b.sub x v)
 | .ite c a b, x, v => .ite (c.sub x v) (a.sub x v) (b.sub x v)
 | .pair a b, x, v => .pair (a.sub x v) (b.sub x v)
 | .part s e, x, v => .part s (e.sub x v)
 | .cast A B l e, x, v => .cast A B l (e.sub x v)
inductive GV : GE → Prop
 | num {n} : GV (.num n)
 | tru {b} : GV (.tru b)
 | lam {x A e} : GV (.lam x A e)
 | pair {a b} : GV a → GV b → GV (.pair a b)
 | pf {a b c d l e} : GV e → GV (.cast (.fn a b) (.fn c d) l e)
 | pp {a b c d l e} : GV e → GV (.cast (.pr a b) (.pr c d) l e)
 | inj {A l e} : GV e → A.Gd → GV (.cast A .any l e)
def A0D (s : Bool) (m n : Int) : GE := if s = true then .tru (decide (m < n)) else .num ((m + n) % 1000)
inductive GS : GE → GE → Prop
 | app1 {f f' a} : GS f f' → GS (.app f a) (.app f' a)
 | app2 {f a a'} : GV f → GS a a' → GS (.app f a) (.app f a')
 | ar1 {s a a' b} : GS a a' → GS (.ar s a b) (.ar s a' b)
 | ar2 {s a b b'} : GV a → GS b b' → GS (.ar s a b) (.ar s a b')
 | ite1 {c c' a b} : GS c c' → GS (.ite c a b) (.ite c' a b)
 | pair1 {a a' b} : GS a a' → GS (.pair a b) (.pair a' b)
 | pair2 {a b b'} : GV a → GS b b' → GS (.pair a b) (.pair a b')
 | part1 {s e e'} : GS e e' → GS (.part s e) (.part s e')
 | cast1 {A B l e e'} : GS e e' → GS (.cast A B l e) (.cast A B l e')
 | beta {x A b v} : GV v → GS (.app (.lam x A b) v) (b.sub x v)
 | appx {a b c d l f v} : GV f → GV v → GS (.app (.cast (.fn a b) (.fn c d) l f) v) (.cast b d l (.app f (.cast c a (-l) v)))
 | ar {s m n} : GS (.ar s (.num m) (.num n)) (A0D s m n)
 | ite {b x y} : GS (.ite (.tru b) x y) (if b = true then x else y)
 | part {s a b} : GV a → GV b → GS (.part s (.pair a b)) (if s = true then b else a)
 | partx {s a b c d l e} : GV e → GS (.part s (.cast (.pr a b) (.pr c d) l e)) (.cast (if s = true then b else a) (if s = true then d else c) l (.part s e))
 | cid {A l v} : GV v → (A = .any ∨ A = .int ∨ A = .bool) → GS (.cast A A l v) v
 | up {A l v} : GV v → A ≠ .any → A.gr ≠ A → GS (.cast A .any l v) (.cast A.gr .any l (.cast A A.gr l v))
 | down {B l v} : GV v → B ≠ .any → B.gr ≠ B → GS (.cast .any B l v) (.cast B.gr B l (.cast .any B.gr l v))
 | hit {G l m w} : GV w → G.Gd → GS (.cast .any G l (.cast G .any m w)) w
theorem GV.noS {e : GE} (h : GV e) : ∀ r, ¬ GS e r := by
 induction h with
 | num => intro r s; cases s
 | tru => intro r s; cases s
 | lam => intro r s; cases s
 | pair _ _ i j =>
  intro r s
  cases s with
  | pair1 s => exact i _ s
  | pair2 _ s => exact j _ s
 | pf _ i =>
  intro r s
  cases s with
  | cast1 s => exact i _ s
  | cid _ h => rcases h with h | h | h <;> cases h
 | pp _ i =>
  intro r s
  cases s with
  | cast1 s => exact i _ s
  | cid _ h => rcases h with h | h | h <;> cases h
 | inj _ hg i =>
  intro r s
  cases s with
  | cast1 s => exact i _ s
  | cid _ h => exact hg.1 rfl
  | up _ _ h => exact h hg.2
  | down _ h => exact h rfl
  | hit _ h => exact h.1 rfl
theorem GV.ofCast {A B : GT} {l : Int} {e : GE} (h : GV (.cast A B l e)) : GV e := by cases h <;> assumption
inductive Ss : GE → GE → Prop
 | refl {e} : Ss e e
 | step {a b c} : GS a b → Ss b c → Ss a c
theorem Ss.trans {a b c : GE} (h : Ss a b) (h2 : Ss b c) : Ss a c := by
 induction h with
 | refl => exact h2
 | step s _ i => exact .step s (i h2)
theorem Ss.one {a b : GE} (h : GS a b) : Ss a b := .step h .refl
theorem Ss.ctx {a b : GE} (C : GE → GE) (hC : ∀ x y, GS x y → GS (C x) (C y)) (h : Ss a b) : Ss (C a) (C b) := by
 induction h with
 | refl => exact .refl
 | step s _ i => exact .step (hC _ _ s) i
abbrev GC := ByteArray → Option (GT × GT)
def P3 : GC := fun _ => none
def gup (Γ : GC) (x : ByteArray) (A A' : GT) : GC := fun y => if x = y then some (A, A') else Γ y
inductive GP : GC → GE → GE → GT → GT → Prop
 | var {Γ x A A'} : Γ x = some (A, A') → Le A A' → GP Γ (.var x) (.var x) A A'
 | num {Γ n} : GP Γ (.num n) (.num n) .int .int
 | tru {Γ b} : GP Γ (.tru b) (.tru b) .bool .bool
 | lam {Γ x A A' B B' e e'} : Le A A' → GP (gup Γ x A A') e e' B B' → GP Γ (.lam x A e) (.lam x A' e') (.fn A B) (.fn A' B')
 | app {Γ f f' a a' A A' B B'} : GP Γ f f' (.fn A B) (.fn A' B') → GP Γ a a' A A' → GP Γ (.app f a) (.app f' a') B B'
 | ar {Γ s a a' b b'} : GP Γ a a' .int .int → GP Γ b b' .int .int → GP Γ (.ar s a b) (.ar s a' b') (if s = true then .bool else .int) (if s = true then .bool else .int)
 | ite {Γ c c' a a' b b' A A'} : GP Γ c c' .bool .bool → GP Γ a a' A A' → GP Γ b b' A A' → GP Γ (.ite c a b) (.ite c' a' b') A A'
 | pair {Γ a a' b b' A A' B B'} : GP Γ a a' A A' → GP Γ b b' B B' → GP Γ (.pair a b) (.pair a' b') (.pr A B) (.pr A' B')
 | part {Γ s e e' A A' B B'} : GP Γ e e' (.pr A B) (.pr A' B') → GP Γ (.part s e) (.part s e') (if s = true then B else A) (if s = true then B' else A')
 | castL {Γ e e' A B A' l} : GP Γ e e' A A' → Co A B → Le B A' → GP Γ (.cast A B l e) e' B A'
 | castR {Γ e e' A A' B' l} : GP Γ e e' A A' → Co A' B' → Le A B' → GP Γ e (.cast A' B' l e') A B'
 | castB {Γ e e' A B A' B' l l'} : GP Γ e e' A A' → Co A B → Co A' B' → Le B B' → GP Γ (.cast A B l e) (.cast A' B' l' e') B B'
theorem GP.le {Γ : GC} {e e' : GE} {A A' : GT} (h : GP Γ e e' A A') : Le A A' := by
 induction h with
 | var _ h => exact h
 | num => exact .int
 | tru => exact .bool
 | lam h _ i => exact .fn h i
 | app _ _ i _ => cases i with | fn _ h => exact h
 | ar => exact Le.refl
 | ite _ _ _ _ i _ => exact i
 | pair _ _ i j => exact .pr i j
 | @part Γ s _ _ _ _ _ _ _ i => cases i with | pr h1 h2 => cases s <;> assumption
 | castL _ _ h _ => exact h
 | castR _ _ h _ => exact h
 | castB _ _ _ h _ => exact h
theorem GP.weak {Γ : GC} {e e' : GE} {A A' : GT} (h : GP Γ e e' A A') : ∀ {Δ : GC}, (∀ y p, Γ y = some p → Δ y = some p) → GP Δ e e' A A' := by
 induction h with
 | var hx hl => intro Δ hD; exact .var (hD _ _ hx) hl
 | num => intro _ _; exact .num
 | tru => intro _ _; exact .tru
 | lam hl _ i =>
  intro Δ hD
  refine .lam hl (i fun y p hy => ?_)
  unfold gup at hy ⊢
  split
  ·rename_i h; rw [if_pos h] at hy; exact hy
  ·rename_i h; rw [if_neg h] at hy; exact hD _ _ hy
 | app _ _ i j => intro Δ hD; exact .app (i hD) (j hD)
 | ar _ _ i j => intro Δ hD; exact .ar (i hD) (j hD)
 | ite _ _ _ i j k => intro Δ hD; exact .ite (i hD) (j hD) (k hD)
 | pair _ _ i j => intro Δ hD; exact .pair (i hD) (j hD)
 | part _ i => intro Δ hD; exact .part (i hD)
 | castL _ h1 h2 i => intro Δ hD; exact .castL (i hD) h1 h2
 | castR _ h1 h2 i => intro Δ hD; exact .castR (i hD) h1 h2
 | castB _ h1 h2 h3 i => intro Δ hD; exact .castB (i hD) h1 h2 h3
theorem GP.sub {x : ByteArray} {v v' : GE} {A A' : GT} (hv : GP P3 v v' A A') {Γ : GC} {e e' : GE} {B B' : GT} (h : GP Γ e e' B B') :
  ∀ {Δ : GC}, (∀ y, x ≠ y → Γ y = Δ y) → Γ x = some (A, A') → GP Δ (e.sub x v) (e'.sub x v') B B' := by
 induction h with
 | @var Γ y C C' hy hl =>
  intro Δ hD hx
  simp only [GE.sub]
  split
  ·rename_i he
   subst he
   rw [hx] at hy
   cases hy
   exact hv.weak fun z p hz => by cases hz
  ·rename_i he
   exact .var (by rw [← hD y (fun e => he e.symm)]; exact hy) hl
 | num => intro _ _ _; exact .num
 | tru => intro _ _ _; exact .tru
 | @lam Γ y C C' D D' e e' hl h i =>
  intro Δ hD hx
  simp only [GE.sub]
  by_cases he : y = x
  ·rw [if_pos he, if_pos he]
   refine .lam hl (h.weak fun z p hz => ?_)
   unfold gup at hz ⊢
   split
   ·rename_i h2; rw [if_pos h2] at hz; exact hz
   ·rename_i h2; rw [if_neg h2] at hz; rw [← hD z (fun e => h2 (he.trans e))]; exact hz
  ·rw [if_neg he, if_neg he]
   refine .lam hl (i (fun z hz => ?_) ?_)
   ·unfold gup
    split
    ·rfl
    ·exact hD z hz
   ·unfold gup; rw [if_neg he]; exact hx
 | app _ _ i j => intro Δ hD hx; exact .app (i hD hx) (j hD hx)
 | ar _ _ i j => intro Δ hD hx; exact .ar (i hD hx) (j hD hx)
 | ite _ _ _ i j k => intro Δ hD hx; exact .ite (i hD hx) (j hD hx) (k hD hx)
 | pair _ _ i j => intro Δ hD hx; exact .pair (i hD hx) (j hD hx)
 | part _ i => intro Δ hD hx; exact .part (i hD hx)
 | castL _ h1 h2 i => intro Δ hD hx; exact .castL (i hD hx) h1 h2
 | castR _ h1 h2 i => intro Δ hD hx; exact .castR (i hD hx) h1 h2
 | castB _ h1 h2 h3 i => intro Δ hD hx; exact .castB (i hD hx) h1 h2 h3
theorem B4b {Γ : GC} {v u : GE} {A U : GT} (h : GP Γ v u A U) : ∀ {H : GT} {l : Int} {w : GE}, u = .cast H .any l w → Γ = P3 → GV v → A ≠ .any → H.Gd → Le A H ∧ GP P3 v w A H := by
 induction h with
 | @castL Γ e e' A B A' m h hc hl i =>
  intro H l w hu hE hv hA hH
  subst hE
  have hU := hl
  subst hu
  obtain ⟨hle, hp⟩ : Le A H ∧ GP P3 e w A H := i rfl rfl hv.ofCast (by cases hv with | inj _ _ => exact absurd rfl hA | _ => intro h; cases h) hH
  have : Le B H := by
   cases hv with
   | inj _ _ => exact absurd rfl hA
   | pf _ =>
    cases hle with
    | any => exact absurd rfl hH.1
    | fn _ _ => have := hH.2; cases this; exact .fn .any .any
   | pp _ =>
    cases hle with
    | any => exact absurd rfl hH.1
    | pr _ _ => have := hH.2; cases this; exact .pr .any .any
  exact ⟨this, .castL hp hc this⟩
 | castR h hc hl _ =>
  intro H l w hu hE hv hA hH
  subst hE
  cases hu
  exact ⟨h.le, h⟩
 | @castB Γ e e' A B A' B' m m' h hc hc' hl _ =>
  intro H l w hu hE hv hA hH
  subst hE
  obtain ⟨rfl, rfl, _, rfl⟩ : A' = H ∧ B' = .any ∧ m' = l ∧ e' = w := by cases hu; exact ⟨rfl, rfl, rfl, rfl⟩
  have hle := h.le
  have : Le B A' := by
   cases hv with
   | inj _ _ => exact absurd rfl hA
   | pf _ =>
    cases hle with
    | any => exact absurd rfl hH.1
    | fn _ _ => have := hH.2; cases this; exact .fn .any .any
   | pp _ =>
    cases hle with
    | any => exact absurd rfl hH.1
    | pr _ _ => have := hH.2; cases this; exact .pr .any .any
  exact ⟨this, .castL h hc this⟩
 | _ => intro H l w hu; cases hu
theorem B4c {v' : GE} {v : GE} {A : GT} (h : GP P3 v v' A .any) (hv : GV v') : ∃ H l w, v' = .cast H .any l w ∧ GV w ∧ H.Gd := by
 suffices ∀ {Γ v v' A U}, GP Γ v v' A U → U = .any → Γ = P3 → GV v' → ∃ H l w, v' = .cast H .any l w ∧ GV w ∧ H.Gd from this h rfl rfl hv
 intro Γ v v' A U h
 induction h with
 | castL _ _ _ i => exact i
 | castR _ _ _ _ => intro hU _ hv; subst hU; cases hv with | inj h1 h2 => exact ⟨_, _, _, rfl, h1, h2⟩
 | castB _ _ _ _ _ => intro hU _ hv; subst hU; cases hv with | inj h1 h2 => exact ⟨_, _, _, rfl, h1, h2⟩
 | var hx _ => intro _ hE; subst hE; cases hx
 | app _ _ _ _ => intro _ _ hv; cases hv
 | ite _ _ _ _ _ _ => intro _ _ hv; cases hv
 | part _ _ => intro _ _ hv; cases hv
 | ar _ _ _ _ => intro _ _ hv; cases hv
 | _ => intro hU; cases hU
theorem A1r {A B : GT} {l : Int} {a b : GE} (h : Ss a b) : Ss (.cast A B l a) (.cast A B l b) := h.ctx _ fun _ _ => .cast1
theorem A9i {v v' : GE} {A G : GT} {l : Int} (hv : GV v) (hv' : GV v') (h : GP P3 v v' A .any) (hG : G.Gd) (hl : Le A G) (hA : A ≠ .any) :
  ∃ v'', Ss (.cast .any G l v') v'' ∧ GV v'' ∧ GP P3 v v'' A G := by
 obtain ⟨H, m, w, rfl, hw, hH⟩ := B4c h hv'
 obtain ⟨h1, h2⟩ := B4b h rfl rfl hv hA hH
 have : H = G := (h1.gd hH).symm.trans (hl.gd hG)
 subst this
 exact ⟨w, .one (.hit hw hG), hw, h2⟩
theorem B4d {A B : GT} (h : Le A B) (hB : B ≠ .any) : A ≠ .any := by rintro rfl; cases h; exact hB rfl
theorem A5b {v v' : GE} {A A' B' : GT} (l : Int) (hv : GV v) (hv' : GV v') (h : GP P3 v v' A A') (hl : Le A B') (hc : Co A' B') :
  ∃ v'', Ss (.cast A' B' l v') v'' ∧ GV v'' ∧ GP P3 v v'' A B' := by
 have hle := h.le
 by_cases hA : A' = .any
 ·subst hA
  by_cases hB : B' = .any
  ·subst hB; exact ⟨v', .one (.cid hv' (.inl rfl)), hv', h⟩
  ·have hA := B4d hl hB
   by_cases hg : B'.gr = B'
   ·exact A9i hv hv' h ⟨hB, hg⟩ hl hA
   ·have hgB := A9h hB
    obtain ⟨u, s, hu, hp⟩ := A9i (l := l) hv hv' h hgB (hl.trans Le.gr) hA
    refine ⟨.cast B'.gr B' l u, .step (.down hv' hB hg) (A1r s), ?_, .castR hp Co.gr.symm hl⟩
    cases B' with
    | fn _ _ => exact .pf hu
    | pr _ _ => exact .pp hu
    | any => exact absurd rfl hB
    | int => exact absurd rfl hg
    | bool => exact absurd rfl hg
 ·by_cases hB : B' = .any
  ·subst hB
   by_cases hg : A'.gr = A'
   ·exact ⟨_, .refl, .inj hv' ⟨hA, hg⟩, .castR h .r .any⟩
   ·refine ⟨_, .one (.up hv' hA hg), .inj ?_ (A9h hA), .castR (.castR h Co.gr (hle.trans Le.gr)) .r .any⟩
    cases A' with
    | fn _ _ => exact .pf hv'
    | pr _ _ => exact .pp hv'
    | any => exact absurd rfl hA
    | int => exact absurd rfl hg
    | bool => exact absurd rfl hg
  ·cases hc with
   | l => exact absurd rfl hA
   | r => exact absurd rfl hB
   | int => exact ⟨v', .one (.cid hv' (.inr (.inl rfl))), hv', h⟩
   | bool => exact ⟨v', .one (.cid hv' (.inr (.inr rfl))), hv', h⟩
   | fn h1 h2 => exact ⟨_, .refl, .pf hv', .castR h (.fn h1 h2) hl⟩
   | pr h1 h2 => exact ⟨_, .refl, .pp hv', .castR h (.pr h1 h2) hl⟩
theorem A1c {Γ : GC} {e e' : GE} {A A' : GT} (h : GP Γ e e' A A') : Γ = P3 → GV e → ∃ v', Ss e' v' ∧ GV v' ∧ GP P3 e v' A A' := by
 induction h with
 | var _ _ => intro _ hv; cases hv
 | num => intro _ _; exact ⟨_, .refl, .num, .num⟩
 | tru => intro _ _; exact ⟨_, .refl, .tru, .tru⟩
 | lam hl h _ => intro hE _; subst hE; exact ⟨_, .refl, .lam, .lam hl h⟩
 | app _ _ _ _ => intro _ hv; cases hv
 | ar _ _ _ _ => intro _ hv; cases hv
 | ite _ _ _ _ _ _ => intro _ hv; cases hv
 | part _ _ => intro _ hv; cases hv
 | pair _ _ i j =>
  intro hE hv
  cases hv with
  | pair va vb =>
   obtain ⟨a', s1, v1, p1⟩ := i hE va
   obtain ⟨b', s2, v2, p2⟩ := j hE vb
   exact ⟨.pair a' b', (s1.ctx (fun x => .pair x _) fun _ _ => .pair1).trans (s2.ctx (fun x => .pair a' x) fun _ _ s => .pair2 v1 s), .pair v1 v2, .pair p1 p2⟩
 | castL _ h1 h2 i =>
  intro hE hv
  obtain ⟨v', s, hv', p⟩ := i hE hv.ofCast
  exact ⟨v', s, hv', .castL p h1 h2⟩
 | castR _ h1 h2 i =>
  intro hE hv
  obtain ⟨v', s, hv', p⟩ := i hE hv
  obtain ⟨u, s2, hu, p2⟩ := A5b _ hv hv' p h2 h1
  exact ⟨u, (A1r s).trans s2, hu, p2⟩
 | @castB Γ e e' A B A' B' l l' _ h1 h2 h3 i =>
  intro hE hv
  obtain ⟨w', s, hw', p⟩ := i hE hv.ofCast
  by_cases hB : B' = .any
  ·subst hB
   obtain ⟨u, s2, hu, p2⟩ := A5b l' hv.ofCast hw' p .any h2
   exact ⟨u, (A1r s).trans s2, hu, .castL p2 h1 .any⟩
  ·by_cases hA : A' = .any
   ·subst hA
    obtain ⟨u, s2, hu, p2⟩ := A5b l' hv hw' (.castL p h1 .any) h3 h2
    exact ⟨u, (A1r s).trans s2, hu, p2⟩
   ·have hle := p.le
    refine ⟨.cast A' B' l' w', A1r s, ?_, .castB p h1 h2 h3⟩
    cases hv with
    | inj _ _ => cases h3; exact absurd rfl hB
    | pf _ =>
     cases h3 with
     | any => exact absurd rfl hB
     | fn _ _ => cases hle with
      | any => exact absurd rfl hA
      | fn _ _ => exact .pf hw'
    | pp _ =>
     cases h3 with
     | any => exact absurd rfl hB
     | pr _ _ => cases hle with
      | any => exact absurd rfl hA
      | pr _ _ => exact .pp hw'
theorem B4e {Γ : GC} {f f' : GE} {U U' : GT} (h : GP Γ f f' U U') : ∀ {A B A' B' : GT}, Γ = P3 → U = .fn A B → U' = .fn A' B' → GV f → GV f' →
  ∀ {v v' r : GE}, GV v → GV v' → GP P3 v v' A A' → GS (.app f v) r → ∃ r', Ss (.app f' v') r' ∧ GP P3 r r' B B' := by
 induction h with
 | lam hl h _ =>
  intro A B A' B' hE hU hU' _ _ v v' r hv hv' hp s
  subst hE
  cases hU; cases hU'
  cases s with
  | app1 s => exact absurd s (GV.lam.noS _)
  | app2 _ s => exact absurd s (hv.noS _)
  | beta _ => exact ⟨_, .one (.beta hv'), GP.sub hp h (fun y hy => by unfold gup; rw [if_neg hy]) (by unfold gup; rw [if_pos rfl])⟩
 | castL h h1 h2 _ =>
  intro A B A' B' hE hU hU' hf hf' v v' r hv hv' hp s
  subst hE hU hU'
  cases hf with
  | pf hw =>
   cases s with
   | app1 s => exact absurd s ((GV.pf hw).noS _)
   | app2 _ s => exact absurd s (hv.noS _)
   | appx _ _ =>
    cases h1 with
    | fn c1 c2 =>
     have hle := h.le
     cases hle with
     | fn l1 l2 =>
      cases h2 with
      | fn l3 l4 => exact ⟨_, .refl, .castL (.app h (.castL hp c1.symm l1)) c2 l4⟩
 | @castR Γ0 f0 w' U0 C' D' l h h1 h2 i =>
  intro A B A' B' hE hU hU' hf hf' v v' r hv hv' hp s
  subst hE hU hU'
  cases hf' with
  | pf hw =>
   cases h1 with
   | fn c1 c2 =>
    have hle := h.le
    cases hle with
    | fn l1 l2 =>
     cases h2 with
     | fn l3 l4 =>
      obtain ⟨v'', s2, hv'', p2⟩ := A5b (-l) hv hv' hp l1 c1.symm
      obtain ⟨r', s3, p3⟩ := i rfl rfl rfl hf hw hv hv'' p2 s
      exact ⟨_, .step (.appx hw hv') (A1r ((s2.ctx (fun x => .app w' x) fun _ _ s => .app2 hw s).trans s3)), .castR p3 c2 l4⟩
 | castB h h1 h1' h2 _ =>
  intro A B A' B' hE hU hU' hf hf' v v' r hv hv' hp s
  subst hE hU hU'
  cases hf with
  | pf hw =>
   cases hf' with
   | pf hw' =>
    cases s with
    | app1 s => exact absurd s ((GV.pf hw).noS _)
    | app2 _ s => exact absurd s (hv.noS _)
    | appx _ _ =>
     cases h1 with
     | fn c1 c2 => cases h1' with
      | fn d1 d2 =>
       have hle := h.le
       cases hle with
       | fn l1 l2 =>
        cases h2 with
        | fn l3 l4 => exact ⟨_, .one (.appx hw' hv'), .castB (.app h (.castB hp c1.symm d1.symm l1)) c2 d2 l4⟩
 | app _ _ _ _ => intro _ _ _ _ _ _ _ hf; cases hf
 | ite _ _ _ _ _ _ => intro _ _ _ _ _ _ _ hf; cases hf
 | part _ _ => intro _ _ _ _ _ _ _ hf; cases hf
 | ar _ _ _ _ => intro _ _ _ _ _ _ _ hf; cases hf
 | var hx _ => intro _ _ _ _ hE; subst hE; cases hx
 | _ => intro _ _ _ _ _ hU; cases hU
theorem B4f {Γ : GC} {f f' : GE} {U U' : GT} (h : GP Γ f f' U U') : ∀ {A B A' B' : GT} {t : Bool}, Γ = P3 → U = .pr A B → U' = .pr A' B' → GV f → GV f' →
  ∀ {r : GE}, GS (.part t f) r → ∃ r', Ss (.part t f') r' ∧ GP P3 r r' (if t = true then B else A) (if t = true then B' else A') := by
 induction h with
 | pair ha hb _ _ =>
  intro A B A' B' t hE hU hU' hf hf' r s
  subst hE
  cases hU; cases hU'
  cases hf' with
  | pair va vb =>
   cases s with
   | part1 s => exact absurd s (hf.noS _)
   | part _ _ => exact ⟨_, .one (.part va vb), by cases t <;> assumption⟩
 | castL h h1 h2 _ =>
  intro A B A' B' t hE hU hU' hf hf' r s
  subst hE hU hU'
  cases hf with
  | pp hw =>
   cases s with
   | part1 s => exact absurd s ((GV.pp hw).noS _)
   | partx _ =>
    cases h1 with
    | pr c1 c2 =>
     have hle := h.le
     cases hle with
     | pr l1 l2 =>
      cases h2 with
      | pr l3 l4 => exact ⟨_, .refl, .castL (.part h) (by cases t <;> assumption) (by cases t <;> assumption)⟩
 | castR h h1 h2 i =>
  intro A B A' B' t hE hU hU' hf hf' r s
  subst hE hU hU'
  cases hf' with
  | pp hw =>
   cases h1 with
   | pr c1 c2 =>
    have hle := h.le
    cases hle with
    | pr l1 l2 =>
     cases h2 with
     | pr l3 l4 =>
      obtain ⟨r', s3, p3⟩ := i rfl rfl rfl hf hw s
      exact ⟨_, .step (.partx hw) (A1r s3), .castR p3 (by cases t <;> assumption) (by cases t <;> assumption)⟩
 | castB h h1 h1' h2 _ =>
  intro A B A' B' t hE hU hU' hf hf' r s
  subst hE hU hU'
  cases hf with
  | pp hw =>
   cases hf' with
   | pp hw' =>
    cases s with
    | part1 s => exact absurd s ((GV.pp hw).noS _)
    | partx _ =>
     cases h1 with
     | pr c1 c2 => cases h1' with
      | pr d1 d2 =>
       cases h2 with
       | pr l3 l4 => exact ⟨_, .one (.partx hw'), .castB (.part h) (by cases t <;> assumption) (by cases t <;> assumption) (by cases t <;> assumption)⟩
 | app _ _ _ _ => intro _ _ _ _ _ _ _ _ hf; cases hf
 | ite _ _ _ _ _ _ => intro _ _ _ _ _ _ _ _ hf; cases hf
 | part _ _ => intro _ _ _ _ _ _ _ _ hf; cases hf
 | ar _ _ _ _ => intro _ _ _ _ _ _ _ _ hf; cases hf
 | var hx _ => intro _ _ _ _ _ hE; subst hE; cases hx
 | _ => intro _ _ _ _ _ _ hU; cases hU
theorem A9j {e' : GE} {n : Int} {A A' : GT} (h : GP P3 (.num n) e' A A') (hv : GV e') : A' = .int → e' = .num n := by
 intro hA
 cases h with
 | num => rfl
 | castR _ _ _ => subst hA; cases hv
theorem B4g {e' : GE} {b : Bool} {A A' : GT} (h : GP P3 (.tru b) e' A A') (hv : GV e') : A' = .bool → e' = .tru b := by
 intro hA
 cases h with
 | tru => rfl
 | castR _ _ _ => subst hA; cases hv
theorem A9k {G : GT} {m : Int} {w v' : GE} (h : GP P3 (.cast G .any m w) v' .any .any) (hv' : GV v') : GP P3 w v' G .any := by
 cases h with
 | castL h _ _ => exact h
 | castR h _ _ =>
  have := h.le
  cases this
  cases hv' with
  | inj _ hg => exact absurd rfl hg.1
 | castB h _ hc _ => exact .castR h hc .any
theorem sim {Γ : GC} {e e' : GE} {A A' : GT} (h : GP Γ e e' A A') : Γ = P3 → ∀ {r : GE}, GS e r → ∃ r', Ss e' r' ∧ GP P3 r r' A A' := by
 induction h with
 | var _ _ => intro _ r s; cases s
 | num => intro _ r s; cases s
 | tru => intro _ r s; cases s
 | lam _ _ _ => intro _ r s; cases s
 | @app Γ f f' a a' A A' B B' hf ha i j =>
  intro hE r s
  have go : GV f → GV a → ∃ r', Ss (.app f' a') r' ∧ GP P3 r r' B B' := by
   intro vf va
   obtain ⟨F', s1, v1, p1⟩ := A1c hf hE vf
   obtain ⟨V', s2, v2, p2⟩ := A1c ha hE va
   obtain ⟨r', s3, p3⟩ := B4e p1 rfl rfl rfl vf v1 va v2 p2 s
   exact ⟨r', ((s1.ctx (fun x => .app x a') fun _ _ => .app1).trans (s2.ctx (fun x => .app F' x) fun _ _ s => .app2 v1 s)).trans s3, p3⟩
  cases s with
  | app1 s =>
   obtain ⟨r', s1, p⟩ := i hE s
   subst hE
   exact ⟨.app r' a', s1.ctx (fun x => .app x a') fun _ _ => .app1, .app p ha⟩
  | app2 vf s =>
   obtain ⟨F', s1, v1, p1⟩ := A1c hf hE vf
   obtain ⟨r', s2, p⟩ := j hE s
   exact ⟨.app F' r', (s1.ctx (fun x => .app x a') fun _ _ => .app1).trans (s2.ctx (fun x => .app F' x) fun _ _ s => .app2 v1 s), .app p1 p⟩
  | beta va => exact go .lam va
  | appx vf va => exact go (.pf vf) va
 | @ar Γ t a a' b b' ha hb i j =>
  intro hE r s
  cases s with
  | ar1 s =>
   obtain ⟨r', s1, p⟩ := i hE s
   subst hE
   exact ⟨.ar t r' b', s1.ctx (fun x => .ar t x b') fun _ _ => .ar1, .ar p hb⟩
  | ar2 va s =>
   obtain ⟨A', s1, v1, p1⟩ := A1c ha hE va
   obtain ⟨r', s2, p⟩ := j hE s
   exact ⟨.ar t A' r', (s1.ctx (fun x => .ar t x b') fun _ _ => .ar1).trans (s2.ctx (fun x => .ar t A' x) fun _ _ s => .ar2 v1 s), .ar p1 p⟩
  | ar =>
   obtain ⟨A', s1, v1, p1⟩ := A1c ha hE .num
   obtain ⟨B', s2, v2, p2⟩ := A1c hb hE .num
   obtain rfl := A9j p1 v1 rfl
   obtain rfl := A9j p2 v2 rfl
   refine ⟨_, ((s1.ctx (fun x => .ar t x b') fun _ _ => .ar1).trans (s2.ctx (fun x => .ar t _ x) fun _ _ s => .ar2 v1 s)).trans (.one .ar), ?_⟩
   unfold A0D
   cases t
   ·exact .num
   ·exact .tru
 | @ite Γ c c' a a' b b' A A' hc ha hb i _ _ =>
  intro hE r s
  cases s with
  | ite1 s =>
   obtain ⟨r', s1, p⟩ := i hE s
   subst hE
   exact ⟨.ite r' a' b', s1.ctx (fun x => .ite x a' b') fun _ _ => .ite1, .ite p ha hb⟩
  | ite =>
   obtain ⟨A', s1, v1, p1⟩ := A1c hc hE .tru
   obtain rfl := B4g p1 v1 rfl
   subst hE
   refine ⟨_, (s1.ctx (fun x => .ite x a' b') fun _ _ => .ite1).trans (.one .ite), ?_⟩
   split
   ·exact ha
   ·exact hb
 | @pair Γ a a' b b' A A' B B' ha hb i j =>
  intro hE r s
  cases s with
  | pair1 s =>
   obtain ⟨r', s1, p⟩ := i hE s
   subst hE
   exact ⟨.pair r' b', s1.ctx (fun x => .pair x b') fun _ _ => .pair1, .pair p hb⟩
  | pair2 va s =>
   obtain ⟨A', s1, v1, p1⟩ := A1c ha hE va
   obtain ⟨r', s2, p⟩ := j hE s
   exact ⟨.pair A' r', (s1.ctx (fun x => .pair x b') fun _ _ => .pair1).trans (s2.ctx (fun x => .pair A' x) fun _ _ s => .pair2 v1 s), .pair p1 p⟩
 | @part Γ t e e' A A' B B' h i =>
  intro hE r s
  have go : GV e → ∃ r', Ss (.part t e') r' ∧ GP P3 r r' (if t = true then B else A) (if t = true then B' else A') := by
   intro ve
   obtain ⟨E', s1, v1, p1⟩ := A1c h hE ve
   obtain ⟨r', s3, p3⟩ := B4f p1 rfl rfl rfl ve v1 s
   exact ⟨r', (s1.ctx (fun x => .part t x) fun _ _ => .part1).trans s3, p3⟩
  cases s with
  | part1 s =>
   obtain ⟨r', s1, p⟩ := i hE s
   exact ⟨.part t r', s1.ctx (fun x => .part t x) fun _ _ => .part1, .part p⟩
  | part va vb => exact go (.pair va vb)
  | partx v => exact go (.pp v)
 | @castL Γ e e' A B A' l h h1 h2 i =>
  intro hE r s
  have hle := h.le
  cases s with
  | cast1 s =>
   obtain ⟨r', s1, p⟩ := i hE s
   exact ⟨r', s1, .castL p h1 h2⟩
  | cid v _ => subst hE; exact ⟨e', .refl, h⟩
  | up v hA hg =>
   subst hE
   cases h2
   exact ⟨e', .refl, .castL (.castL h Co.gr .any) .r .any⟩
  | down v hB hg =>
   subst hE
   cases hle
   exact ⟨e', .refl, .castL (.castL h .l .any) Co.gr.symm .any⟩
  | hit v hg =>
   obtain ⟨v', s1, v1, p1⟩ := A1c h hE (.inj v hg)
   cases hle
   exact ⟨v', s1, A9k p1 v1⟩
 | @castR Γ e e' A A' B' l h h1 h2 i =>
  intro hE r s
  obtain ⟨r', s1, p⟩ := i hE s
  exact ⟨_, A1r s1, .castR p h1 h2⟩
 | @castB Γ e e' A B A' B' l l' h h1 h1' h2 i =>
  intro hE r s
  have hle := h.le
  cases s with
  | cast1 s =>
   obtain ⟨r', s1, p⟩ := i hE s
   exact ⟨_, A1r s1, .castB p h1 h1' h2⟩
  | cid v _ => subst hE; exact ⟨_, .refl, .castR h h1' h2⟩
  | up v hA hg =>
   subst hE
   cases h2
   exact ⟨_, .refl, .castL (.castL (.castR h h1' .any) Co.gr .any) .r .any⟩
  | down v hB hg =>
   subst hE
   cases hle
   exact ⟨_, .refl, .castR (.castL (.castL h .l .any) Co.gr.symm .any) .l h2⟩
  | hit v hg =>
   obtain ⟨v', s1, v1, p1⟩ := A1c h hE (.inj v hg)
   cases hle
   exact ⟨_, A1r s1, .castR (A9k p1 v1) .l h2⟩
inductive GX where
 | n (n : Int) | b (b : Bool) | p | f
def GE.tx : GE → GX
 | .num n => .n n
 | .tru b => .b b
 | .pair _ _ => .p
 | .cast _ (.fn _ _) _ _ => .f
 | .cast _ (.pr _ _) _ _ => .p
 | .cast _ _ _ e => e.tx
 | _ => .f
def T7 : Ty := .mk 2 []
def Y7 : Ty := .mk 3 []
mutual
def Q2 : Ty → Ty → Bool
 | .mk k ks, t => decide (k = t.k) && A0E ks t.ks
def A0E : List Ty → List Ty → Bool
 | [], [] => true
 | a :: xs, b :: ys => Q2 a b && A0E xs ys
 | _, _ => false
end
theorem A6Q (k k' : Int) (ks ks' : List Ty) : Q2 (.mk k ks) (.mk k' ks') = (decide (k = k') && A0E ks ks') := by rw [Q2]; rfl
mutual
theorem A2I : ∀ (a b : Ty), Q2 a b = true ↔ a = b
 | .mk k ks, .mk k' ks' => by
  rw [A6Q, Bool.and_eq_true, decide_eq_true_eq, A9l ks ks', Ty.mk.injEq]
theorem A9l : ∀ (xs ys : List Ty), A0E xs ys = true ↔ xs = ys
 | [], [] => by simp [A0E]
 | [], b :: ys => by simp [A0E]
 | a :: xs, [] => by simp [A0E]
 | a :: xs, b :: ys => by
  rw [A0E, Bool.and_eq_true, A2I a b, A9l xs ys, List.cons.injEq]
end
theorem A6R (a : Ty) : Q2 a a = true := (A2I a a).2 rfl
theorem A9m : ∀ (xs ys : List Ty), A0E xs ys = true ↔ xs.length = ys.length ∧ ∀ i, (h : i < xs.length) → (h' : i < ys.length) → Q2 xs[i] ys[i] = true
 | [], [] => by simp [A0E]
 | [], b :: ys => by simp [A0E]
 | a :: xs, [] => by simp [A0E]
 | a :: xs, b :: ys => by
  simp only [A0E, Bool.and_eq_true, A9m xs ys, List.length_cons]
  constructor
  ·rintro ⟨h1, h2, h3⟩
   refine ⟨by omega, fun i hi hi' => ?_⟩
   cases i with
   | zero => exact h1
   | succ i => exact h3 i (by simpa using hi) (by simpa using hi')
  ·rintro ⟨h1, h2⟩
   exact ⟨h2 0 (by simp) (by simp), by omega, fun i hi hi' => h2 (i + 1) (by simpa using hi) (by simpa using hi')⟩

abbrev Cx := List (ByteArray × Ty)
def X9 (cx : Cx) (nm : ByteArray) : Nat → Option Ty
 | 0 => none
 | n + 1 => match cx[n]? with
  | some b => if b.1 = nm then some b.2 else X9 cx nm n
  | none => X9 cx nm n
def W5 (cx : Cx) (nm : ByteArray) : Option Ty := X9 cx nm cx.length
theorem A6S {cx : Cx} {nm x : ByteArray} {n : Nat} {t : Ty} (h : cx[n]? = some (x, t)) (he : x = nm) : X9 cx nm (n + 1) = some t := by
 rw [X9, h]; simp only [he, if_true]
theorem A6T {cx : Cx} {nm x : ByteArray} {n : Nat} {t : Ty} (h : cx[n]? = some (x, t)) (he : ¬x = nm) : X9 cx nm (n + 1) = X9 cx nm n := by
 rw [X9, h]; simp only [he, if_false]

mutual
def V2 : Ty → Ty → Ty
 | .mk k ks, b => if k = 1 then b else if b.k = 1 then .mk k ks else .mk k (T4 ks b.ks)
def T4 : List Ty → List Ty → List Ty
 | a :: xs, b :: ys => V2 a b :: T4 xs ys
 | _, _ => []
end
theorem A1d (k k' : Int) (ks ks' : List Ty) : V2 (.mk k ks) (.mk k' ks') = if k = 1 then .mk k' ks' else if k' = 1 then .mk k ks else .mk k (T4 ks ks') := by rw [V2]; rfl
def R3 (kind : Int) (t : Ty) : Option (Ty × Ty) :=
 if t.k = kind then some (t.ks.getD 0 A5, t.ks.getD 1 A5) else if t.k = 1 then some (O4, O4) else none
def M8 (cx : Cx) (k : Int) (nm : ByteArray) (ty : Ty) (h : List Ty) : Option (List Ty × Ty) :=
 if k = 1 then (match W5 cx nm with | some t => some ([], t) | none => none)
 else if k = 2 then some ([], T7)
 else if k = 3 ∨ k = 4 then some ([], Y7)
 else if k = 5 then some ([], .mk 4 [ty, h.getD 0 A5])
 else if k = 6 then (match R3 4 (h.getD 0 A5) with | some (a, b) => if J6 (h.getD 1 A5) a = true then some ([.mk 4 [a, b], a], b) else none | none => none)
 else if k = 7 ∨ k = 8 then (if J6 (h.getD 0 A5) T7 = true ∧ J6 (h.getD 1 A5) T7 = true then some ([T7, T7], if k = 8 then Y7 else T7) else none)
 else if k = 9 then (if J6 (h.getD 0 A5) Y7 = true ∧ J6 (h.getD 1 A5) (h.getD 2 A5) = true then some ([Y7, V2 (h.getD 1 A5) (h.getD 2 A5), V2 (h.getD 1 A5) (h.getD 2 A5)], V2 (h.getD 1 A5) (h.getD 2 A5)) else none)
 else if k = 10 then some ([], .mk 5 [h.getD 0 A5, h.getD 1 A5])
 else if k = 13 then (if J6 (h.getD 0 A5) ty = true then some ([ty], ty) else none)
 else (match R3 5 (h.getD 0 A5) with | some (a, b) => some ([.mk 5 [a, b]], if k = 12 then b else a) | none => none)
def A0c (cx : Cx) (k : Int) (nm : ByteArray) (ty : Ty) (h : List Ty) : Option (List Ty × Ty) := match M8 cx k nm ty h with
 | some (w, t) => if E4 t = true then some (w, t) else none
 | none => none
def A36 : List Ty → List Ty → Bool
 | [], _ => true
 | a :: xs, b :: ys => Q2 a b && A36 xs ys
 | _ :: _, [] => false
def O8 (cx : Cx) (k : Int) (nm : ByteArray) (ty : Ty) : Cx := if k = 5 then cx ++ [(nm, ty)] else cx
mutual
def A0W (cx : Cx) : Tm → Option Ty
 | .mk k nm num ty fr lb ks => match Z6 (O8 cx k nm ty) ks with
  | none => none
  | some h => if k = 14 then (if Q2 (h.getD 0 A5) fr = true then some ty else none)
   else match A0c cx k nm ty h with
    | none => none
    | some (w, t) => if A36 w h = true then some t else none
def Z6 (cx : Cx) : List Tm → Option (List Ty)
 | [] => some []
 | t :: ts => match A0W cx t with
  | none => none
  | some u => match Z6 cx ts with
   | none => none
   | some us => some (u :: us)
end
def B4h (e : Tm) : Option Ty := if W4 e = true then A0W [] e else none
def A1s (t : Ty) : Ty := if t.k = 4 ∨ t.k = 5 then .mk t.k [O4, O4] else .mk t.k []
def A2J (t : Ty) : Bool := decide (t.k ≠ 1) && Q2 t (A1s t)
def prx (t : Tm) : Bool := decide (t.k = 14 ∧ t.fr.k = t.ty.k ∧ (t.ty.k = 4 ∨ t.ty.k = 5))
def inj (t : Tm) : Bool := decide (t.k = 14 ∧ t.ty.k = 1) && A2J t.fr
mutual
def P9 : Tm → Bool
 | .mk k nm num ty fr lb ks => if k = 10 ∨ (k = 14 ∧ fr.k = ty.k ∧ (ty.k = 4 ∨ ty.k = 5)) ∨ (k = 14 ∧ ty.k = 1 ∧ A2J fr = true) then A1W ks else decide (k = 2 ∨ k = 3 ∨ k = 4 ∨ k = 5)
def A1W : List Tm → Bool
 | [] => true
 | t :: ts => P9 t && A1W ts
end
mutual
def A0t (x : ByteArray) (v : Tm) : Tm → Tm
 | .mk k nm num ty fr lb ks => if k = 1 ∧ nm = x then v else if k = 5 ∧ nm = x then .mk k nm num ty fr lb ks else .mk k nm num ty fr lb (A0N x v ks)
def A0N (x : ByteArray) (v : Tm) : List Tm → List Tm
 | [] => []
 | t :: ts => A0t x v t :: A0N x v ts
end
def R4 (e : Tm) (fr to : Ty) (lb : Int) : Tm := .mk 14 ⟨#[]⟩ 0 to fr lb [e]
def A2K (k : Int) (ks : List Tm) : Tm := .mk k ⟨#[]⟩ 0 A5 A5 0 ks
def A9n (n : Int) : Tm := .mk 2 ⟨#[]⟩ n A5 A5 0 []
def A5c (b : Prop) [Decidable b] : Tm := A2K (if b then 3 else 4) []
abbrev Stp := Tm × Int × Int
def A0X : Stp := (I2, 3, 0)
def kd (ks : List Tm) (i : Nat) : Tm := ks.getD i I2
def kt (ks : List Ty) (i : Nat) : Ty := ks.getD i A5
def B4i (k : Int) (ty fr : Ty) (lb : Int) (ks : List Tm) : Stp :=
 if k = 6 then
  (if (kd ks 0).k = 5 then (A0t (kd ks 0).nm (kd ks 1) (kd (kd ks 0).ks 0), 1, 0)
   else if prx (kd ks 0) = true ∧ (kd ks 0).ty.k = 4 then (R4 (A2K 6 [kd (kd ks 0).ks 0, R4 (kd ks 1) (kt (kd ks 0).ty.ks 0) (kt (kd ks 0).fr.ks 0) (-(kd ks 0).lb)]) (kt (kd ks 0).fr.ks 1) (kt (kd ks 0).ty.ks 1) (kd ks 0).lb, 1, 0)
   else A0X)
 else if k = 7 ∨ k = 8 then
  (if (kd ks 0).k = 2 ∧ (kd ks 1).k = 2 then (if k = 7 then A9n (((kd ks 0).num + (kd ks 1).num) % 1000) else A5c ((kd ks 0).num < (kd ks 1).num), 1, 0) else A0X)
 else if k = 9 then (if (kd ks 0).k = 3 then (kd ks 1, 1, 0) else if (kd ks 0).k = 4 then (kd ks 2, 1, 0) else A0X)
 else if k = 11 ∨ k = 12 then
  (if (kd ks 0).k = 10 then (kd (kd ks 0).ks (k - 11).toNat, 1, 0)
   else if prx (kd ks 0) = true ∧ (kd ks 0).ty.k = 5 then (R4 (A2K k [kd (kd ks 0).ks 0]) (kt (kd ks 0).fr.ks (k - 11).toNat) (kt (kd ks 0).ty.ks (k - 11).toNat) (kd ks 0).lb, 1, 0)
   else A0X)
 else if k = 14 then
  (if fr.k = ty.k then (kd ks 0, 1, 0)
   else if ty.k = 1 then (R4 (R4 (kd ks 0) fr (A1s fr) lb) (A1s fr) ty lb, 1, 0)
   else if A2J ty = false then (R4 (R4 (kd ks 0) fr (A1s ty) lb) (A1s ty) ty lb, 1, 0)
   else if inj (kd ks 0) = false then A0X
   else if (kd ks 0).fr.k = ty.k then (kd (kd ks 0).ks 0, 1, 0)
   else (I2, 2, lb))
 else A0X
mutual
def A1X : Tm → Stp
 | .mk k nm num ty fr lb ks => match A9o (if k = 9 then 1 else ks.length) ks with
  | some (ks', c, l) => if c = 1 then (.mk k nm num ty fr lb ks', 1, 0) else (I2, c, l)
  | none => B4i k ty fr lb ks
def A9o : Nat → List Tm → Option (List Tm × Int × Int)
 | _, [] => none
 | n, t :: ts => match n with
  | 0 => none
  | n + 1 => if P9 t = true then (match A9o n ts with
    | some (us, c, l) => some (t :: us, c, l)
    | none => none)
   else some ((A1X t).1 :: ts, (A1X t).2.1, (A1X t).2.2)
end
def W6 (e : Tm) : Stp :=
 if W4 e = false then A0X else if P9 e = true then (e, 0, 0)
 else if (A1X e).2.1 ≠ 1 then (I2, (A1X e).2.1, (A1X e).2.2)
 else if W4 (A1X e).1 = false then (I2, 4, 0) else ((A1X e).1, 1, 0)
def mEv : Nat → Tm → Tm × Int × Int × Nat
 | 0, e => if (W6 e).2.1 = 1 then (I2, 5, 0, 0) else ((W6 e).1, (W6 e).2.1, (W6 e).2.2, 0)
 | n + 1, e => if (W6 e).2.1 = 1 then ((mEv n (W6 e).1).1, (mEv n (W6 e).1).2.1, (mEv n (W6 e).1).2.2.1, (mEv n (W6 e).1).2.2.2 + 1)
  else ((W6 e).1, (W6 e).2.1, (W6 e).2.2, 0)
def A0p (e : Tm) (fuel : Int) : Stp := if 0 ≤ fuel ∧ fuel ≤ 300 then ((mEv fuel.toNat e).1, (mEv fuel.toNat e).2.1, (mEv fuel.toNat e).2.2.1) else A0X
def B7V (e : Tm) (fuel : Int) : Int := if 0 ≤ fuel ∧ fuel ≤ 300 then ((mEv fuel.toNat e).2.2.2 : Int) else 0
structure CvN (k : Int) (nm : ByteArray) (num : Int) (ty fr : Ty) (lb : Int) (ks : List Tm) : Prop where
 ops : D5 k = ks.length
 ne : k ≠ 13
 nm1 : nm.size ≤ 1
 num0 : 0 ≤ num ∧ num ≤ 999
 tyA : E5 ty
 frA : E5 fr
 lbB : -99 ≤ lb ∧ lb ≤ 99
 c14 : k = 14 → J6 fr ty = true ∧ E4 ty = true ∧ E4 fr = true
 ty5 : ¬(k = 5 ∨ k = 14) → ty = A5
 fr14 : k ≠ 14 → fr = A5 ∧ lb = 0
def cv (t : Tm) : Prop := ∃ d, I9 40 13 t d = true
theorem A6U {n lo hi : Int} : U1 n lo hi = true ↔ lo ≤ n ∧ n ≤ hi := by unfold U1; rw [decide_eq_true_eq]
theorem A37 (k : Int) (nm : ByteArray) (num : Int) (ty fr : Ty) (lb : Int) (ks : List Tm) : C9 (.mk k nm num ty fr lb ks) = D2 ks + 1 := by rw [C9]
theorem B4j : A5.small := by simp [A5, Ty.small, Ty.smallL]
def GT.ty : GT → Ty
 | .any => .mk 1 []
 | .int => .mk 2 []
 | .bool => .mk 3 []
 | .fn a b => .mk 4 [a.ty, b.ty]
 | .pr a b => .mk 5 [a.ty, b.ty]
def GE.tm : GE → Tm
 | .var x => .mk 1 x 0 A5 A5 0 []
 | .num n => .mk 2 ⟨#[]⟩ n A5 A5 0 []
 | .tru b => .mk (if b = true then 3 else 4) ⟨#[]⟩ 0 A5 A5 0 []
 | .lam x A e => .mk 5 x 0 A.ty A5 0 [e.tm]
 | .app f a => .mk 6 ⟨#[]⟩ 0 A5 A5 0 [f.tm, a.tm]
 | .ar s a b => .mk (if s = true then 8 else 7) ⟨#[]⟩ 0 A5 A5 0 [a.tm, b.tm]
 | .ite c a b => .mk 9 ⟨#[]⟩ 0 A5 A5 0 [c.tm, a.tm, b.tm]
 | .pair a b => .mk 10 ⟨#[]⟩ 0 A5 A5 0 [a.tm, b.tm]
 | .part s e => .mk (if s = true then 12 else 11) ⟨#[]⟩ 0 A5 A5 0 [e.tm]
 | .cast A B l e => .mk 14 ⟨#[]⟩ 0 B.ty A.ty l [e.tm]
theorem GT.inj : ∀ {a b : GT}, a.ty = b.ty → a = b := by
 intro a
 induction a with
 | any => intro b h; cases b <;> first | rfl | (simp [GT.ty] at h)
 | int => intro b h; cases b <;> first | rfl | (simp [GT.ty] at h)
 | bool => intro b h; cases b <;> first | rfl | (simp [GT.ty] at h)
 | fn a1 a2 i j =>
  intro b h
  cases b with
  | fn b1 b2 => simp only [GT.ty, Ty.mk.injEq, List.cons.injEq, true_and, and_true] at h; rw [i h.1, j h.2]
  | _ => simp [GT.ty] at h
 | pr a1 a2 i j =>
  intro b h
  cases b with
  | pr b1 b2 => simp only [GT.ty, Ty.mk.injEq, List.cons.injEq, true_and, and_true] at h; rw [i h.1, j h.2]
  | _ => simp [GT.ty] at h
theorem B4k (a : GT) : A1s a.ty = a.gr.ty := by cases a <;> rfl
theorem A9p {a : GT} : a.ty.k = 1 ↔ a = .any := by cases a <;> simp [GT.ty, Ty.k]
theorem A9q {a : GT} : A2J a.ty = true ↔ a.Gd := by
 unfold A2J GT.Gd
 rw [Bool.and_eq_true, decide_eq_true_eq, A2I, B4k, Ne, A9p]
 constructor
 ·rintro ⟨h1, h2⟩; exact ⟨h1, (GT.inj h2).symm⟩
 ·rintro ⟨h1, h2⟩; exact ⟨h1, by rw [h2]⟩
theorem A0F : ∀ e : GE, P9 e.tm = true ↔ GV e := by
 intro e
 induction e with
 | var x => rw [GE.tm, P9]; simp; intro h; cases h
 | num n => rw [GE.tm, P9]; simp; exact .num
 | tru b => rw [GE.tm, P9]; cases b <;> (simp; exact .tru)
 | lam x A e _ => rw [GE.tm, P9]; simp; exact .lam
 | app f a _ _ => rw [GE.tm, P9]; simp; intro h; cases h
 | ar s a b _ _ => rw [GE.tm, P9]; cases s <;> (simp; intro h; cases h)
 | ite c a b _ _ _ => rw [GE.tm, P9]; simp; intro h; cases h
 | pair a b i j =>
  rw [GE.tm, P9, if_pos (.inl rfl), A1W, A1W, A1W, Bool.and_true, Bool.and_eq_true, i, j]
  exact ⟨fun h => .pair h.1 h.2, fun h => by cases h with | pair a b => exact ⟨a, b⟩⟩
 | part s e _ => rw [GE.tm, P9]; cases s <;> (simp; intro h; cases h)
 | cast A B l e i =>
  rw [GE.tm, P9]
  by_cases hp : A.ty.k = B.ty.k ∧ (B.ty.k = 4 ∨ B.ty.k = 5)
  ·rw [if_pos (.inr (.inl ⟨rfl, hp⟩)), A1W, A1W, Bool.and_true, i]
   constructor
   ·intro h
    cases B <;> cases A <;> first | exact .pf h | exact .pp h | (exfalso; simp [GT.ty, Ty.k] at hp)
   ·intro h; exact h.ofCast
  ·by_cases hi : B.ty.k = 1 ∧ A2J A.ty = true
   ·rw [if_pos (.inr (.inr ⟨rfl, hi⟩)), A1W, A1W, Bool.and_true, i]
    constructor
    ·intro h
     obtain rfl := A9p.1 hi.1
     exact .inj h (A9q.1 hi.2)
    ·intro h; exact h.ofCast
   ·rw [if_neg (by rintro (h | h | h); exact absurd h (by decide); exact hp h.2; exact hi h.2)]
    constructor
    ·intro h; exact absurd (of_decide_eq_true h) (by decide)
    ·intro h
     exfalso
     cases h with
     | pf _ => exact hp ⟨rfl, .inl rfl⟩
     | pp _ => exact hp ⟨rfl, .inr rfl⟩
     | inj _ hg => exact hi ⟨rfl, A9q.2 hg⟩
theorem A0Y {e : GE} (h : ¬GV e) : P9 e.tm = false := by
 cases h2 : P9 e.tm with
 | false => rfl
 | true => exact absurd ((A0F e).1 h2) h
theorem nv {e r : GE} (h : GS e r) : P9 e.tm = false := A0Y fun hv => hv.noS _ h
theorem B4l (x : ByteArray) (v : GE) : ∀ e : GE, (e.sub x v).tm = A0t x v.tm e.tm := by
 intro e
 induction e with
 | var y =>
  rw [GE.sub, GE.tm, A0t]
  by_cases h : y = x
  ·rw [if_pos h, if_pos ⟨rfl, h⟩]
  ·rw [if_neg h, if_neg (fun c => h c.2), if_neg (by rintro ⟨h, _⟩; exact absurd h (by decide)), GE.tm, A0N]
 | num n => rw [GE.sub, GE.tm, A0t]; simp [A0N]
 | tru b => rw [GE.sub, GE.tm, A0t]; cases b <;> simp [A0N]
 | lam y A e i =>
  by_cases h : y = x
  ·rw [GE.sub, if_pos h, GE.tm, A0t, if_neg (by rintro ⟨h, _⟩; exact absurd h (by decide)), if_pos ⟨rfl, h⟩]
  ·rw [GE.sub, if_neg h, GE.tm, GE.tm, A0t, if_neg (by rintro ⟨h, _⟩; exact absurd h (by decide)), if_neg (fun c => h c.2), i, A0N, A0N]
 | app f a i j => rw [GE.sub, GE.tm, GE.tm, A0t, i, j]; simp [A0N]
 | ar s a b i j => rw [GE.sub, GE.tm, GE.tm, A0t, i, j]; cases s <;> simp [A0N]
 | ite c a b i j k => rw [GE.sub, GE.tm, GE.tm, A0t, i, j, k]; simp [A0N]
 | pair a b i j => rw [GE.sub, GE.tm, GE.tm, A0t, i, j]; simp [A0N]
 | part s e i => rw [GE.sub, GE.tm, GE.tm, A0t, i]; cases s <;> simp [A0N]
 | cast A B l e i => rw [GE.sub, GE.tm, GE.tm, A0t, i]; simp [A0N]
section
variable {k : Int} {nm : ByteArray} {num : Int} {ty fr : Ty} {lb : Int} {a b c : Tm} {t : Tm} {l : Int}
end
def Bd (e : GE) : Prop := P9 e.tm = false ∧ (A1X e.tm).2.1 = 2
theorem B4m {Γ : GC} {v v' : GE} {U U' : GT} (h : GP Γ v v' U U') : Γ = P3 → GV v → ∀ {A B}, U = .fn A B → (∃ x C e, v = .lam x C e) ∨ ∃ a b c d l e, v = .cast (.fn a b) (.fn c d) l e ∧ GV e := by
 induction h with
 | castR _ _ _ i => exact i
 | castL _ _ _ _ => intro _ hv A B hU; subst hU; cases hv with | pf h => exact .inr ⟨_, _, _, _, _, _, rfl, h⟩
 | castB _ _ _ _ _ => intro _ hv A B hU; subst hU; cases hv with | pf h => exact .inr ⟨_, _, _, _, _, _, rfl, h⟩
 | lam _ _ _ => intro _ _ _ _ _; exact .inl ⟨_, _, _, rfl⟩
 | app _ _ _ _ => intro _ hv; cases hv
 | ite _ _ _ _ _ _ => intro _ hv; cases hv
 | part _ _ => intro _ hv; cases hv
 | ar _ _ _ _ => intro _ hv; cases hv
 | var _ _ => intro _ hv; cases hv
 | _ => intro _ _ _ _ hU; cases hU
theorem B4n {Γ : GC} {v v' : GE} {U U' : GT} (h : GP Γ v v' U U') : Γ = P3 → GV v → ∀ {A B}, U = .pr A B → (∃ a b, v = .pair a b ∧ GV a ∧ GV b) ∨ ∃ a b c d l e, v = .cast (.pr a b) (.pr c d) l e ∧ GV e := by
 induction h with
 | castR _ _ _ i => exact i
 | castL _ _ _ _ => intro _ hv A B hU; subst hU; cases hv with | pp h => exact .inr ⟨_, _, _, _, _, _, rfl, h⟩
 | castB _ _ _ _ _ => intro _ hv A B hU; subst hU; cases hv with | pp h => exact .inr ⟨_, _, _, _, _, _, rfl, h⟩
 | pair _ _ _ _ => intro _ hv _ _ _; cases hv with | pair a b => exact .inl ⟨_, _, rfl, a, b⟩
 | app _ _ _ _ => intro _ hv; cases hv
 | ite _ _ _ _ _ _ => intro _ hv; cases hv
 | part _ _ => intro _ hv; cases hv
 | ar _ _ _ _ => intro _ hv; cases hv
 | var _ _ => intro _ hv; cases hv
 | _ => intro _ _ _ _ hU; cases hU
theorem A9r {Γ : GC} {v v' : GE} {U U' : GT} (h : GP Γ v v' U U') : Γ = P3 → GV v → U = .int → ∃ n, v = .num n := by
 induction h with
 | castR _ _ _ i => exact i
 | castL _ _ _ _ => intro _ hv hU; subst hU; cases hv
 | castB _ _ _ _ _ => intro _ hv hU; subst hU; cases hv
 | num => intro _ _ _; exact ⟨_, rfl⟩
 | app _ _ _ _ => intro _ hv; cases hv
 | ite _ _ _ _ _ _ => intro _ hv; cases hv
 | part _ _ => intro _ hv; cases hv
 | ar _ _ _ _ => intro _ hv; cases hv
 | var _ _ => intro _ hv; cases hv
 | _ => intro _ _ hU; cases hU
theorem B4o {Γ : GC} {v v' : GE} {U U' : GT} (h : GP Γ v v' U U') : Γ = P3 → GV v → U = .bool → ∃ b, v = .tru b := by
 induction h with
 | castR _ _ _ i => exact i
 | castL _ _ _ _ => intro _ hv hU; subst hU; cases hv
 | castB _ _ _ _ _ => intro _ hv hU; subst hU; cases hv
 | tru => intro _ _ _; exact ⟨_, rfl⟩
 | app _ _ _ _ => intro _ hv; cases hv
 | ite _ _ _ _ _ _ => intro _ hv; cases hv
 | part _ _ => intro _ hv; cases hv
 | ar _ _ _ _ => intro _ hv; cases hv
 | var _ _ => intro _ hv; cases hv
 | _ => intro _ _ hU; cases hU
theorem B4p {Γ : GC} {v v' : GE} {U U' : GT} (h : GP Γ v v' U U') : Γ = P3 → GV v → U = .any → ∃ H l w, v = .cast H .any l w ∧ GV w ∧ H.Gd := by
 induction h with
 | castR _ _ _ i => exact i
 | castL _ _ _ _ => intro _ hv hU; subst hU; cases hv with | inj h g => exact ⟨_, _, _, rfl, h, g⟩
 | castB _ _ _ _ _ => intro _ hv hU; subst hU; cases hv with | inj h g => exact ⟨_, _, _, rfl, h, g⟩
 | app _ _ _ _ => intro _ hv; cases hv
 | ite _ _ _ _ _ _ => intro _ hv; cases hv
 | part _ _ => intro _ hv; cases hv
 | ar _ _ _ _ => intro _ hv; cases hv
 | var _ _ => intro _ hv; cases hv
 | _ => intro _ _ hU; cases hU
theorem B4q (e : Tm) (a b : Ty) (l : Int) : C9 (R4 e a b l) = C9 e + 1 := by rw [R4, A37, D2, D2]
def A9s (u : Ty) (G : IM) : IM → Value → List A1 → Prop := I8 fun G' v => ∃ cells, v = .agg ⟨cells⟩ ∧ A8 G' u cells
def Y8 (r : Option Ty) (G : IM) : IM → Value → List A1 → Prop := I8 fun G' v => ∃ cells u, v = .tuple ⟨[.agg ⟨cells⟩, .bool r.isSome]⟩ ∧ A8 G' u cells ∧ ∀ t, r = some t → u = t
theorem B4r {G : IM} {k : Int} {a b : Ty} {ca cb : List Value} {p : Option Addr} {c : Nat} (hk : C1 k) (ha : A8 G a ca) (hb : A8 G b cb) (hs : Sl G p 2 c 2 (ca ++ cb)) : A8 G (.mk k [a, b]) [.int .i64 k, .slice p 2 c] := by
 have hL : C3 G [a, b] [ca, cb] := by simp only [C3]; exact ⟨ca, [cb], rfl, ha, cb, [], rfl, hb, rfl⟩
 exact C3.ty (ts := [a, b]) (es := [ca, cb]) hL rfl (by simpa using hs) hk
theorem B4s : ∀ (t t' : Ty) (G : IM) (cells cells' : List Value), A8 G t cells → A8 G t' cells' → Fn Tryz.prog 46 [.agg ⟨cells⟩, .agg ⟨cells'⟩] [] G (J1 (.bool (Q2 t t')) G) := by
 refine Ty.ind fun k ks ih t' G cells cells' hr hr' => ?_
 obtain ⟨k', ks'⟩ := t'
 obtain ⟨p, c, es, rfl, hk, hsl, hkl⟩ := hr.open
 obtain ⟨p', c', es', rfl, hk', hsl', hkl'⟩ := hr'.open
 simp only [Ty.k, Ty.ks] at hk hsl hkl hk' hsl' hkl' ⊢
 obtain ⟨A, hA⟩ : ∃ A, A0E ks ks' = A := ⟨_, rfl⟩
 have hA' : A = true ↔ ks.length = ks'.length ∧ ∀ i, i < ks.length → Q2 (ks.getD i A5) (ks'.getD i A5) = true := by
  rw [← hA, A9m]
  constructor
  ·rintro ⟨h1, h2⟩
   refine ⟨h1, fun i hi => ?_⟩
   have := h2 i hi (by omega)
   simpa [List.getD_eq_getElem?_getD, List.getElem?_eq_getElem hi, List.getElem?_eq_getElem (show i < ks'.length by omega)] using this
  ·rintro ⟨h1, h2⟩
   refine ⟨h1, fun i hi hi' => ?_⟩
   have := h2 i hi
   simpa [List.getD_eq_getElem?_getD, List.getElem?_eq_getElem hi, List.getElem?_eq_getElem hi'] using this
 refine B6 Tryz.func46 rfl Tryz.ntmps46 Tryz.results46 rfl ?_
 intro w0
 refine tS (tR ?_)
 refine sE (E2 rfl rfl) rfl (fun b3 => ?_)
 refine sE (E2 rfl rfl) rfl (fun b4 => ?_)
 refine E8 ?_
 refine sB (qE rfl rfl) rfl rfl (fun h14 => ?_) (fun h14 => ?_)
 refine W1 ?_
 refine H6 rfl (A8C _ _ _ _ _ _ _ _ _ hsl hsl' _ [] [] [] (fun i => Q2 (ks.getD i A5) (ks'.getD i A5)) A hA' (fun i e e' he he' => ih _ (hkl.inv he A5).1 _ _ _ _ (hkl.inv he A5).2 (hkl'.inv he' A5).2)) rfl rfl ?_
 refine N6 ?_
 exact ⟨rfl, by rw [A6Q, hA]; first | (rw [decide_eq_true (p := k = k') (by omega)]; rfl) | (rw [decide_eq_false (p := k = k') (by omega)]; rfl), rfl⟩
 refine L4 ?_
 exact ⟨rfl, by rw [A6Q, hA]; first | (rw [decide_eq_true (p := k = k') (by omega)]; rfl) | (rw [decide_eq_false (p := k = k') (by omega)]; rfl), rfl⟩
theorem A2L (k : Int) (a b : Ty) (G : IM) (ca cb : List Value) (hk : C1 k) (hra : A8 G a ca) (hrb : A8 G b cb) :
  Fn Tryz.prog 191 [.int .i64 k, .agg ⟨ca⟩, .agg ⟨cb⟩] [] G (A9s (.mk k [a, b]) G) := by
 obtain ⟨pa, cca, ea, rfl, _⟩ := hra.open
 obtain ⟨pb, ccb, eb, rfl, _⟩ := hrb.open
 refine B6 Tryz.func191 rfl Tryz.ntmps191 Tryz.results191 rfl ?_
 intro w0
 refine tS (tR ?_)
 refine sE (E2 rfl rfl) rfl (fun b3 => ?_)
 refine sE (E2 rfl rfl) rfl (fun b4 => ?_)
 refine sE (B0 rfl) rfl (fun b5 => ?_)
 refine C5 ?_
 (refine E9 (B4 rfl rfl rfl (by omega) (by unfold maxLen; omega) rfl) rfl ?_; rintro _ ⟨b13, rfl⟩)
 refine sQ (R6 rfl rfl) rfl (I1 ?_)
 refine sD (nS ?_)
 (refine I5 (by repeat (first | exact Pk.here | apply Pk.there)) (fun G5 hle5 hsl5 hno5 => ?_))
 refine tT ?_
 refine I6 (rC rfl (A3 rfl rfl)) ?_
 exact ⟨rfl, _, rfl, B4r hk (hra.mono hle5) (hrb.mono hle5) hsl5⟩
theorem A1Y (k tk : Int) (ks : List Ty) : R3 k (.mk tk ks) = if tk = k then some (ks.getD 0 A5, ks.getD 1 A5) else if tk = 1 then some (O4, O4) else none := rfl
def A9t (k : Int) (t : Ty) (G : IM) : IM → Value → List A1 → Prop := I8 fun G' v => ∃ a ca b cb, v = .tuple ⟨[.agg ⟨ca⟩, .agg ⟨cb⟩, .bool (R3 k t).isSome]⟩ ∧ A8 G' a ca ∧ A8 G' b cb ∧ E5 a ∧ E5 b ∧ ∀ p, R3 k t = some p → p = (a, b)
theorem A9u (k : Int) (t : Ty) (G : IM) (cells : List Value) (hk : k = 4 ∨ k = 5) (ha : E5 t) (hr : A8 G t cells) :
  Fn Tryz.prog 222 [.agg ⟨cells⟩, .int .i64 k] [] G (A9t k t G) := by
 obtain ⟨tk, ks⟩ := t
 have ha2 := ha
 rw [E5] at ha2
 have hkid := ha.kid
 obtain ⟨p, c, es, rfl, htk, hsl, hkl⟩ := hr.open
 simp only [Ty.k, Ty.ks] at htk hsl hkl ⊢
 refine B6 Tryz.func222 rfl Tryz.ntmps222 Tryz.results222 rfl ?_
 intro w0
 refine tS (tR ?_)
 refine sE (E2 rfl rfl) rfl (fun b3 => ?_)
 refine sE (B0 rfl) rfl (fun b4 => ?_)
 refine sE (B0 rfl) rfl (fun b5 => ?_)
 refine H9 ?_
 refine B2 (tS (tR (sQ (qM rfl) rfl (sB (qE rfl rfl) rfl rfl (fun h20 => ?_) (fun h20 => ?_)))))
 refine sQ (qA rfl) rfl (sD (nS (qT rfl (tS ?_))))
 (have hlen : ks.length = 2 := ha2.1 (by omega); obtain ⟨b, o, q0, d0, hp0, hat0, hre0, hg0⟩ := hsl.kidTy hkl (i := 0) (by omega) (by omega); obtain ⟨b', o', q1, d1, hp1, hat1, hre1, hg1⟩ := hsl.kidTy hkl (i := 1) (by omega) (by omega); subst hp0; cases hp1; refine D7 D8 rfl ?_)
 refine H4 (i := 0) (l' := [tt,ff,ff,ff,ff,ff,ff,ff,ff,ff,ff]) rfl D3 (B1 rfl) rfl (by kernel_rfl) rfl rfl ?_
 refine aL 1 rfl (D4 rfl rfl) rfl ?_
 refine aP 2 rfl (B3 (j := 0) rfl rfl rfl (by omega)) rfl ?_
 refine aL 3 rfl (A6 rfl rfl (hat0 _) rfl) rfl ?_
 refine aP 4 rfl (B1 rfl) rfl ?_
 refine aL 5 rfl (D4 rfl rfl) rfl ?_
 refine aP 6 rfl (B3 (j := 1) rfl rfl rfl (by omega)) rfl ?_
 refine aL 7 rfl (A6 rfl rfl (hat1 _) rfl) rfl ?_
 refine A2 8 ?_
 refine H3 rfl ?_
 refine A2 9 ?_
 refine H3 rfl ?_
 refine aP 10 rfl (qA rfl) rfl ?_
 refine B9 (nS (tT (rB (rS ?_))))
 refine K7 (rC rfl (A3 rfl rfl)) (rC rfl (A3 rfl rfl)) (rT rfl) ?_
 (refine ⟨rfl, _, _, _, _, ?_, hre0, hre1, hkid _ (List.getElem_mem (by omega)), hkid _ (List.getElem_mem (by omega)), ?_⟩ <;> rw [A1Y, if_pos (by omega)] <;> first | rfl | (intro p hp; cases hp; simp [hlen]))
 refine sQ (qA rfl) rfl (sD (nS (cF rfl (tS (tR ?_)))))
 refine sB (qE rfl rfl) rfl rfl (fun h53 => ?_) (fun h53 => ?_)
 refine sQ (qA rfl) rfl (sD (nS (qT rfl (tS (tR ?_)))))
 refine H6 rfl ((A3P _ _)) rfl rfl ?_
 refine H6 rfl ((A3P _ _)) rfl rfl ?_
 refine I1 ?_
 refine I1 ?_
 refine sQ (qA rfl) rfl (sD (nS (tT (rB (rS ?_)))))
 refine K7 (rC rfl (A3 rfl rfl)) (rC rfl (A3 rfl rfl)) (rT rfl) ?_
 (refine ⟨rfl, _, _, _, _, ?_, A1o _, A1o _, A3W, A3W, ?_⟩ <;> rw [A1Y, if_neg (by omega), if_pos (by omega)] <;> first | rfl | (intro p hp; cases hp; rfl))
 refine U8 ?_
 refine K7 (rC rfl (A3 rfl rfl)) (rC rfl (A3 rfl rfl)) (rT rfl) ?_
 (refine ⟨rfl, A5, _, A5, _, ?_, N8 _ ⟨by omega, by omega⟩, N8 _ ⟨by omega, by omega⟩, V1 (by omega) (by omega), V1 (by omega) (by omega), ?_⟩ <;> rw [A1Y, if_neg (by omega), if_neg (by omega)] <;> first | rfl | (intro p hp; cases hp))
def A3g (G : IM) (b : ByteArray × Ty) (e : List Value) : Prop := ∃ q d, e = [.string b.1, .int .i64 b.2.k, .slice q b.2.ks.length d] ∧ A8 G b.2 [.int .i64 b.2.k, .slice q b.2.ks.length d]
theorem A3g.mono {G G' : IM} {b : ByteArray × Ty} {e : List Value} (h : A3g G b e) (hg : A7 G G') : A3g G' b e := by
 obtain ⟨q, d, h1, h2⟩ := h
 exact ⟨q, d, h1, h2.mono hg⟩
def U4 (G : IM) (cx : Cx) (p : Option Addr) (n c : Nat) : Prop := n = cx.length ∧ ∃ es : List (List Value), C0 G p n c 3 es ∧ ∀ (i : Nat) (b : ByteArray × Ty), cx[i]? = some b → ∃ e, es[i]? = some e ∧ A3g G b e
theorem U4.mono {G G' : IM} {cx : Cx} {p : Option Addr} {n c : Nat} (h : U4 G cx p n c) (hg : A7 G G') : U4 G' cx p n c := by
 obtain ⟨h1, es, h2, h3⟩ := h
 refine ⟨h1, es, h2.mono hg, fun i b hb => ?_⟩
 obtain ⟨e, he, hr⟩ := h3 i b hb
 exact ⟨e, he, hr.mono hg⟩
theorem U4.nil (G : IM) : U4 G [] none 0 0 := ⟨rfl, [], C0.nil _ _, by simp⟩
theorem U4.le {G : IM} {cx : Cx} {p : Option Addr} {n c : Nat} (h : U4 G cx p n c) : n ≤ 9223372036854775807 := by
 obtain ⟨h1, es, h2, h3⟩ := h
 exact h2.le
theorem U4.get {G : IM} {cx : Cx} {p : Option Addr} {n c : Nat} (h : U4 G cx p n c) {i : Nat} (hi : i < n) :
  ∃ b o nm t q d, cx[i]? = some (nm, t) ∧ p = some ⟨b, o, none⟩ ∧ (∀ hp, At hp G b (o + i * 3) [.string nm, .int .i64 t.k, .slice q t.ks.length d]) ∧ A8 G t [.int .i64 t.k, .slice q t.ks.length d] ∧ G b ≠ none := by
 obtain ⟨h1, es, h2, h3⟩ := h
 obtain ⟨e, b, o, he, rfl, hl, _, hat, hgb⟩ := h2.get (i := i) (by omega)
 have hx : cx[i]? = some cx[i] := List.getElem?_eq_getElem (by omega)
 obtain ⟨e', he', q, d, h4, h5⟩ := h3 i _ hx
 rw [he] at he'
 obtain rfl := Option.some.inj he'
 rw [h4] at hat
 exact ⟨b, o, cx[i].1, cx[i].2, q, d, hx, rfl, hat, h5, hgb⟩
theorem B4t (G : IM) (cx : Cx) (p : Option Addr) (n c : Nat) (nm : ByteArray) (hx : U4 G cx p n c) :
  Fn Tryz.prog 221 [.slice p n c, .string nm] [] G (Y8 (W5 cx nm) G) := by
 have hn := hx.le
 have hn1 := hx.1
 refine B6 Tryz.func221 rfl Tryz.ntmps221 Tryz.results221 rfl ?_
 intro w0
 refine tS (tR ?_)
 refine sE (B0 rfl) rfl (fun b3 => ?_)
 refine E1 ?_
 refine sP (N1 rfl rfl (by omega) (by omega)) rfl rfl ?_
 refine sQ (qA rfl) rfl (sD (nS ?_))
 refine B2 ?_
 (refine J8 (fun (i : Nat) => ⟨[(6, .int .i64 ((i : Int) - 1)), (0, .slice p n c), (1, .string nm), (4, .pointer (some ⟨b3, 0, none⟩))], [.blk b3 [.int .i64 0, .slice none 0 0]], G⟩) (fun i => i ≤ n ∧ X9 cx nm i = W5 cx nm) (fun i => i) n ?_ ?_ ?_)
 exact C2
 exact ⟨Nat.le_refl _, by rw [hn1]; rfl⟩
 (rintro i ⟨hi, hlk⟩)
 refine tS (tS (tR (sQ (qM rfl) rfl ?_)))
 refine sB (Y2 rfl rfl) rfl rfl (fun h25 => ?_) (fun h25 => ?_)
 refine sD (nS (qT rfl (tK (nS (tS ?_)))))
 (show H5 _ _ (.block 1 _) _ _; obtain ⟨j, rfl⟩ : ∃ j, i = j + 1 := ⟨i - 1, by omega⟩; rw [show ((j + 1 : Nat) : Int) - 1 = (j : Int) from by omega]; obtain ⟨b, o, nm1, t1, q1, d1, hcx, rfl, hat, hr1, hgb⟩ := hx.get (i := j) (by omega); refine B2 ?_)
 refine tS (tR (sQ (qM rfl) rfl (sQ (qM rfl) rfl ?_)))
 refine sP (B3 rfl rfl rfl (by omega)) rfl rfl ?_
 refine sQ (qF rfl) rfl ?_
 refine sL (Q8 rfl rfl ((hat _).sub (j := 0) rfl)) rfl rfl ?_
 refine sQ (qM rfl) rfl ?_
 refine sB (A2u rfl rfl) rfl rfl (fun h41 => ?_) (fun h41 => ?_)
 refine C5 ?_
 refine sP (B3 rfl rfl rfl (by omega)) rfl rfl ?_
 refine sQ (qF rfl) rfl ?_
 refine sL (A6 rfl rfl (hat _).drop rfl) rfl rfl ?_
 refine H9 ?_
 refine K0 (rC rfl (A3 rfl rfl)) (rT rfl) ?_
 (rw [A6S hcx (by assumption)] at hlk; rw [← hlk]; exact ⟨rfl, _, _, rfl, hr1, fun t ht => by cases ht; rfl⟩)
 refine E1 ?_
 refine sP (N1 rfl rfl (by omega) (by omega)) rfl rfl ?_
 refine sQ (qA rfl) rfl (sD ?_)
 refine J4 j ?_ ?_ ?_
 exact C2
 (rw [A6T hcx (by assumption)] at hlk; exact ⟨by omega, hlk⟩)
 (show _ < _ + 1; omega)
 refine N9 ?_
 refine K0 (rC rfl (A3 rfl rfl)) (rT rfl) ?_
 (obtain rfl : i = 0 := (by omega); rw [X9] at hlk; rw [← hlk]; exact ⟨rfl, _, A5, rfl, N8 _ ⟨by omega, by omega⟩, fun t ht => by cases ht⟩)
theorem B4u {xs ys : List Ty} (h : xs.length = 2) (h' : ys.length = 2) : T4 xs ys = [V2 (xs[0]'(by omega)) (ys[0]'(by omega)), V2 (xs[1]'(by omega)) (ys[1]'(by omega))] := by
 match xs, ys, h, h' with
 | [a, b], [c, d], _, _ => rfl
theorem B4v {k k' : Int} {ks bs : List Ty} (h : J6 (.mk k ks) (.mk k' bs) = true) (hk : k ≠ 1) (hk' : k' ≠ 1) : k = k' ∧ M6 ks bs = true := by
 rw [T0] at h
 simpa [hk, hk'] using h
theorem A9v : ∀ (a b : Ty) (G : IM) (ca cb : List Value), J6 a b = true → E5 a → E5 b → A8 G a ca → A8 G b cb →
  Fn Tryz.prog 223 [.agg ⟨ca⟩, .agg ⟨cb⟩] [] G (A9s (V2 a b) G) := by
 refine Ty.ind fun k ks ih b G ca cb hc haa hab hra hrb => ?_
 have hsa := haa.small
 have hsb := hab.small
 obtain ⟨bk, bks⟩ := b
 have hra0 := hra
 have hrb0 := hrb
 have ha2 := haa
 have hb2 := hab
 rw [E5] at ha2 hb2
 have hkida := haa.kid
 have hkidb := hab.kid
 obtain ⟨p, c, es, rfl, hk, hsl, hkl⟩ := hra.open
 obtain ⟨p', c', es', rfl, hk', hsl', hkl'⟩ := hrb.open
 simp only [Ty.k, Ty.ks] at hk hsl hkl hk' hsl' hkl' ⊢
 have hn := hsl.le
 rw [A1d]
 refine B6 Tryz.func223 rfl Tryz.ntmps223 Tryz.results223 rfl ?_
 intro w0
 refine tS (tR ?_)
 refine sE (E2 rfl rfl) rfl (fun b3 => ?_)
 refine sE (E2 rfl rfl) rfl (fun b4 => ?_)
 refine sE (B0 rfl) rfl (fun b5 => ?_)
 refine sD (nS (tS ?_))
 refine B2 ?_
 refine tS (tR (sQ (B1 rfl) rfl (sL (D4 rfl rfl) rfl rfl ?_)))
 refine sB (qE rfl rfl) rfl rfl (fun h14 => ?_) (fun h14 => ?_)
 refine C5 ?_
 (refine M0 rfl (A2B _ _ _ hsb hrb0) rfl rfl (fun v G1 hle1 hh => ?_); obtain ⟨Y3, F1, rfl, hs1, hn1⟩ := hh; obtain ⟨p1, c1, rfl, _⟩ := hs1.open; have hr1 := hs1.R.mono (B7.le G1 _))
 refine I1 ?_
 refine sD (nS (tT (rB (rS ?_))))
 refine I6 (rC rfl (A3 rfl rfl)) ?_
 (rw [if_pos (by omega)]; exact ⟨rfl, _, rfl, hr1⟩)
 refine E1 ?_
 refine sB (qE rfl rfl) rfl rfl (fun h39 => ?_) (fun h39 => ?_)
 refine L7 ?_
 (refine M0 rfl (A2B _ _ _ hsa hra0) rfl rfl (fun v G1 hle1 hh => ?_); obtain ⟨Y3, F1, rfl, hs1, hn1⟩ := hh; obtain ⟨p1, c1, rfl, _⟩ := hs1.open; have hr1 := hs1.R.mono (B7.le G1 _))
 refine I1 ?_
 refine sD (nS (tT (rB (rS ?_))))
 refine I6 (rC rfl (A3 rfl rfl)) ?_
 (rw [if_neg (by omega)]; split <;> first | exact ⟨rfl, _, rfl, hr1⟩ | (obtain rfl : ks = [] := List.length_eq_zero_iff.1 (by omega); rw [T4]; exact ⟨rfl, _, rfl, hr1⟩; simp))
 refine K5 ?_
 refine sB (qE rfl rfl) rfl rfl (fun h66 => ?_) (fun h66 => ?_)
 refine E1 ?_
 (refine M0 rfl (A2B _ _ _ hsa hra0) rfl rfl (fun v G1 hle1 hh => ?_); obtain ⟨Y3, F1, rfl, hs1, hn1⟩ := hh; obtain ⟨p1, c1, rfl, _⟩ := hs1.open; have hr1 := hs1.R.mono (B7.le G1 _))
 refine I1 ?_
 refine sD (nS (tT (rB (rS ?_))))
 refine I6 (rC rfl (A3 rfl rfl)) ?_
 (rw [if_neg (by omega)]; split <;> first | exact ⟨rfl, _, rfl, hr1⟩ | (obtain rfl : ks = [] := List.length_eq_zero_iff.1 (by omega); rw [T4]; exact ⟨rfl, _, rfl, hr1⟩; simp))
 refine E8 ?_
 (obtain ⟨hkk, hcl0⟩ := B4v hc (by omega) (by omega); subst hkk; have hcl := (A2z _ _).1 hcl0; have hlen : ks.length = 2 := (by have := ha2.2.1; have := ha2.1; omega); have hlen' : bks.length = 2 := (by omega); obtain ⟨b0, o0, q0, d0, hp0, hat0, hre0, hg0⟩ := hsl.kidTy hkl (i := 0) (by omega) (by omega); obtain ⟨b1, o1, q1, d1, hp1, hat1, hre1, hg1⟩ := hsl.kidTy hkl (i := 1) (by omega) (by omega); subst hp0; cases hp1; obtain ⟨b2, o2, q2, d2, hp2, hat2, hre2, hg2⟩ := hsl'.kidTy hkl' (i := 0) (by omega) (by omega); obtain ⟨b3, o3, q3, d3, hp3, hat3, hre3, hg3⟩ := hsl'.kidTy hkl' (i := 1) (by omega) (by omega); subst hp2; cases hp3; have hM1 := ih ks[0] (List.getElem_mem (by omega)) bks[0] G _ _ (hcl.2 0 (by omega) (by omega)) (hkida _ (List.getElem_mem (by omega))) (hkidb _ (List.getElem_mem (by omega))) hre0 hre2; refine D7 D8 rfl ?_)
 refine H4 (i := 0) (l' := [tt,ff,ff,ff,ff,ff,ff,ff,ff,ff,ff,ff,ff,ff,ff,ff,ff,ff,ff,ff,ff,ff]) rfl D3 (B1 rfl) rfl (by kernel_rfl) rfl rfl ?_
 refine aL 1 rfl (D4 rfl rfl) rfl ?_
 refine aP 2 rfl (B1 rfl) rfl ?_
 refine aL 3 rfl (D4 rfl rfl) rfl ?_
 refine aP 4 rfl (B3 (j := 0) rfl rfl rfl (by omega)) rfl ?_
 refine aL 5 rfl (A6 rfl rfl (hat0 _) rfl) rfl ?_
 refine aP 6 rfl (B1 rfl) rfl ?_
 refine aL 7 rfl (D4 rfl rfl) rfl ?_
 refine aP 8 rfl (B3 (j := 0) rfl rfl rfl (by omega)) rfl ?_
 refine aL 9 rfl (A6 rfl rfl (hat2 _) rfl) rfl ?_
 refine aP 11 rfl (B1 rfl) rfl ?_
 refine aL 12 rfl (D4 rfl rfl) rfl ?_
 refine aP 13 rfl (B3 (j := 1) rfl rfl rfl (by omega)) rfl ?_
 refine aL 14 rfl (A6 rfl rfl (hat1 _) rfl) rfl ?_
 refine aP 15 rfl (B1 rfl) rfl ?_
 refine aL 16 rfl (D4 rfl rfl) rfl ?_
 refine aP 17 rfl (B3 (j := 1) rfl rfl rfl (by omega)) rfl ?_
 refine aL 18 rfl (A6 rfl rfl (hat3 _) rfl) rfl ?_
 refine A2 10 ?_
 (refine P2 rfl rfl hM1 rfl rfl rfl (fun v G1 hle1 hh => ?_); obtain ⟨cm1, rfl, hm1⟩ := hh; have hM2 := ih ks[1] (List.getElem_mem (by omega)) bks[1] G1 _ _ (hcl.2 1 (by omega) (by omega)) (hkida _ (List.getElem_mem (by omega))) (hkidb _ (List.getElem_mem (by omega))) (hre1.mono hle1) (hre3.mono hle1))
 refine A2 19 ?_
 (refine P2 rfl rfl hM2 rfl rfl rfl (fun v G2 hle2 hh => ?_); obtain ⟨cm2, rfl, hm2⟩ := hh; have hB := A2L k _ _ G2 _ _ hk (hm1.mono hle2) hm2)
 refine A2 20 ?_
 (refine P2 rfl rfl hB rfl rfl rfl (fun v G3 hle3 hh => ?_); obtain ⟨cm3, rfl, hm3⟩ := hh; obtain ⟨p5, c5, e5, rfl, _⟩ := hm3.open)
 refine A2 21 ?_
 refine H3 rfl ?_
 refine B9 (nS (tT ?_))
 refine I6 (rC rfl (A3 rfl rfl)) ?_
 (rw [if_neg (by omega), if_neg (by omega)]; rw [B4u hlen hlen']; exact ⟨rfl, _, rfl, hm3⟩)
theorem At.mono' {hp : List A1} {G G' : IM} {b o : Nat} {vs : List Value} (hg : A7 G G') (h : At [] G b o vs) : At hp G' b o vs := by
 rcases h with ⟨cs, hm, hv⟩ | ⟨n, c, el, sz, cs, hm, hv⟩ | ⟨full, hx, hv⟩
 ·cases hm
 ·cases hm
 ·exact .inr (.inr ⟨full, hg _ _ hx, hv⟩)
theorem C0.kidD {G : IM} {p : Option Addr} {n c : Nat} {es : List (List Value)} {ks : List Ty} (h : C0 G p n c 2 es) (hk : C3 G ks es) {i : Nat} (hi : i < n) (hn : i < ks.length) :
  ∃ b o q d, p = some ⟨b, o, none⟩ ∧ (∀ hp, At hp G b (o + i * 2) [.int .i64 (ks.getD i A5).k, .slice q (ks.getD i A5).ks.length d]) ∧ A8 G (ks.getD i A5) [.int .i64 (ks.getD i A5).k, .slice q (ks.getD i A5).ks.length d] ∧ G b ≠ none := by
 obtain ⟨b, o, q, d, h1, h2, h3, h4⟩ := h.kidTy hk hi hn
 rw [List.getD_eq_getElem?_getD, List.getElem?_eq_getElem hn, Option.getD_some]
 exact ⟨b, o, q, d, h1, h2, h3, h4⟩
theorem A3h {hs : List Ty} (h : ∀ t ∈ hs, E5 t) {i : Nat} (hi : i < hs.length) : E5 (hs.getD i A5) := by
 rw [List.getD_eq_getElem?_getD, List.getElem?_eq_getElem hi, Option.getD_some]
 exact h _ (List.getElem_mem hi)
def K6 (r : Option (List Ty × Ty)) (G : IM) : IM → Value → List A1 → Prop := I8 fun G' v => ∃ p n c es w cu u, v = .tuple ⟨[.slice p n c, .agg ⟨cu⟩, .bool r.isSome]⟩ ∧ n = w.length ∧ C0 G' p n c 2 es ∧ C3 G' w es ∧ A8 G' u cu ∧ ∀ q, r = some q → q = (w, u)
theorem K6.mk {r : Option (List Ty × Ty)} {G G' : IM} {p : Option Addr} {n c : Nat} {es : List (List Value)} {w : List Ty} {cu : List Value} {u : Ty} {b : Bool} (hl : n = w.length) (hs : Sl G' p n c 2 es.flatten) (hw : C3 G' w es) (hu : A8 G' u cu) (h : r = if b = true then some (w, u) else none) :
  K6 r G G' (.tuple ⟨[.slice p n c, .agg ⟨cu⟩, .bool b]⟩) [] := by
 refine ⟨rfl, p, n, c, es, w, cu, u, ?_, hl, C0.of hs (by rw [hw.len, hl]) hw.all (fun e he => (hw.each e he).2), hw, hu, ?_⟩
 ·subst h; cases b <;> rfl
 ·subst h; cases b
  ·simp
  ·intro q hq; simpa using hq.symm
theorem K6.nil {r : Option (List Ty × Ty)} {G G' : IM} {cu : List Value} {u : Ty} {b : Bool} (hu : A8 G' u cu) (h : r = if b = true then some ([], u) else none) :
  K6 r G G' (.tuple ⟨[.slice none 0 0, .agg ⟨cu⟩, .bool b]⟩) [] := K6.mk (es := []) rfl (Sl.nil _ _) (by simp [C3]) hu h
theorem K6.one {r : Option (List Ty × Ty)} {G G' : IM} {p : Option Addr} {c : Nat} {a : Ty} {ca : List Value} {cu : List Value} {u : Ty} {b : Bool} (hs : Sl G' p 1 c 2 ca) (ha : A8 G' a ca) (hu : A8 G' u cu) (h : r = if b = true then some ([a], u) else none) :
  K6 r G G' (.tuple ⟨[.slice p 1 c, .agg ⟨cu⟩, .bool b]⟩) [] := K6.mk (es := [ca]) (w := [a]) rfl (by simpa using hs) ⟨_, _, rfl, ha, rfl⟩ hu h
theorem K6.two {r : Option (List Ty × Ty)} {G G' : IM} {p : Option Addr} {c : Nat} {a a2 : Ty} {ca ca2 : List Value} {cu : List Value} {u : Ty} {b : Bool} (hs : Sl G' p 2 c 2 (ca ++ ca2)) (ha : A8 G' a ca) (ha2 : A8 G' a2 ca2) (hu : A8 G' u cu) (h : r = if b = true then some ([a, a2], u) else none) :
  K6 r G G' (.tuple ⟨[.slice p 2 c, .agg ⟨cu⟩, .bool b]⟩) [] := K6.mk (es := [ca, ca2]) (w := [a, a2]) rfl (by simpa using hs) ⟨_, _, rfl, ha, _, _, rfl, ha2, rfl⟩ hu h
theorem K6.three {r : Option (List Ty × Ty)} {G G' : IM} {p : Option Addr} {c : Nat} {a a2 a3 : Ty} {ca ca2 ca3 : List Value} {cu : List Value} {u : Ty} {b : Bool} (hs : Sl G' p 3 c 2 (ca ++ (ca2 ++ ca3))) (ha : A8 G' a ca) (ha2 : A8 G' a2 ca2) (ha3 : A8 G' a3 ca3) (hu : A8 G' u cu) (h : r = if b = true then some ([a, a2, a3], u) else none) :
  K6 r G G' (.tuple ⟨[.slice p 3 c, .agg ⟨cu⟩, .bool b]⟩) [] := K6.mk (es := [ca, ca2, ca3]) (w := [a, a2, a3]) rfl (by simpa using hs) ⟨_, _, rfl, ha, _, _, rfl, ha2, _, _, rfl, ha3, rfl⟩ hu h
section
variable {cx : Cx} {nm : ByteArray} {ty : Ty} {h : List Ty}
theorem mW1 : M8 cx 1 nm ty h = match W5 cx nm with | some t => some ([], t) | none => none := rfl
theorem mW2 : M8 cx 2 nm ty h = some ([], T7) := rfl
theorem A5d {k : Int} (hk : k = 3 ∨ k = 4) : M8 cx k nm ty h = some ([], Y7) := by rcases hk with rfl | rfl <;> rfl
theorem mW5 : M8 cx 5 nm ty h = some ([], .mk 4 [ty, h.getD 0 A5]) := rfl
theorem mW6 : M8 cx 6 nm ty h = match R3 4 (h.getD 0 A5) with | some (a, b) => if J6 (h.getD 1 A5) a = true then some ([.mk 4 [a, b], a], b) else none | none => none := rfl
theorem X5 {k : Int} (hk : k = 7 ∨ k = 8) : M8 cx k nm ty h = if J6 (h.getD 0 A5) T7 = true ∧ J6 (h.getD 1 A5) T7 = true then some ([T7, T7], if k = 8 then Y7 else T7) else none := by rcases hk with rfl | rfl <;> rfl
theorem mW9 : M8 cx 9 nm ty h = if J6 (h.getD 0 A5) Y7 = true ∧ J6 (h.getD 1 A5) (h.getD 2 A5) = true then some ([Y7, V2 (h.getD 1 A5) (h.getD 2 A5), V2 (h.getD 1 A5) (h.getD 2 A5)], V2 (h.getD 1 A5) (h.getD 2 A5)) else none := rfl
theorem A6V : M8 cx 10 nm ty h = some ([], .mk 5 [h.getD 0 A5, h.getD 1 A5]) := rfl
theorem A3i : M8 cx 13 nm ty h = if J6 (h.getD 0 A5) ty = true then some ([ty], ty) else none := rfl
theorem A38 {k : Int} (hk : k = 11 ∨ k = 12) : M8 cx k nm ty h = match R3 5 (h.getD 0 A5) with | some (a, b) => some ([.mk 5 [a, b]], if k = 12 then b else a) | none => none := by rcases hk with rfl | rfl <;> rfl
end
theorem K1 (G : IM) : A8 G T7 [.int .i64 2, .slice none 0 0] := N8 G ⟨by omega, by omega⟩
theorem A0q (G : IM) : A8 G Y7 [.int .i64 3, .slice none 0 0] := N8 G ⟨by omega, by omega⟩
theorem B4w (cx : Cx) (k : Int) (nm : ByteArray) (num : Int) (ty fr : Ty) (lb : Int) (ks : List Tm) (h : List Ty) (G : IM) (pc : Option Addr) (nc cc : Nat) (cells : List Value) (p : Option Addr) (n c : Nat) (es : List (List Value))
  (hx : U4 G cx pc nc cc) (hops : D5 k = n) (hnl : n = h.length) (hk14 : k ≠ 14) (hta : E5 ty) (hr : B5 G (.mk k nm num ty fr lb ks) cells) (hsl : C0 G p n c 2 es) (hkl : C3 G h es) (har : ∀ t ∈ h, E5 t) :
  Fn Tryz.prog 203 [.slice pc nc cc, .agg ⟨cells⟩, .slice p n c] [] G (K6 (M8 cx k nm ty h) G) := by
 have hone := hr.one
 have hop := A46 hops
 have hkr : 1 ≤ k ∧ k ≤ 14 := by
  apply Classical.byContradiction
  intro hc
  rw [A4E hc] at hops; omega
 obtain ⟨tyk, tyks⟩ := ty
 obtain ⟨fk, fks⟩ := fr
 obtain ⟨pt, ct, pf, cf, pk, ck, ek, rfl, hk, hnum, hlb, hrty, hrfr, _, _⟩ := hr.open9
 refine B6 Tryz.func203 rfl Tryz.ntmps203 Tryz.results203 rfl ?_
 intro w0
 refine tS (tR ?_)
 refine sE (E2 rfl rfl) rfl (fun b3 => ?_)
 refine sQ (qA rfl) rfl ?_
 refine sE (B0 rfl) rfl (fun b5 => ?_)
 refine sQ (qA rfl) rfl (sD (nS (tS (tR ?_))))
 refine H6 rfl ((A3P _ _)) rfl rfl ?_
 refine H6 rfl ((A3P _ _)) rfl rfl ?_
 refine sE (B0 rfl) rfl (fun b13 => ?_)
 refine sE (B0 rfl) rfl (fun b14 => ?_)
 refine J3 ?_
 refine B2 (tS (tR (sB (qE rfl rfl) rfl rfl (fun h29 => ?_) (fun h29 => ?_))))
 refine E8 ?_
 (refine M0 rfl (B4t G cx pc nc cc nm hx) rfl rfl (fun v G1 hle1 hh => ?_); obtain ⟨cu, u, rfl, hru, hu⟩ := hh; obtain ⟨p1, c1, e1, rfl, _⟩ := hru.open)
 refine M3 ?_
 refine sE (B0 rfl) rfl (fun b43 => ?_)
 refine I1 ?_
 refine sQ (qA rfl) rfl (sD (nS (tS ?_)))
 refine D7 D8 rfl ?_
 refine V5 (i := 0) (l' := [tt,ff,ff,ff,ff]) rfl D3 (A3 rfl rfl) rfl (by kernel_rfl) rfl rfl ?_
 refine aP 1 rfl (qM rfl) rfl ?_
 refine aP 2 rfl (qA rfl) rfl ?_
 refine A2 3 ?_
 refine H3 rfl ?_
 refine aP 4 rfl (qA rfl) rfl ?_
 refine B9 (nS (tT (rB (rS ?_))))
 refine K7 (rT rfl) (rC rfl (A3 rfl rfl)) (rT rfl) ?_
 (have hk1 : k = 1 := (by omega); subst hk1; rw [mW1]; refine K6.nil hru ?_; generalize W5 cx nm = r at hu ⊢; cases r with | none => rfl | some t => (rw [hu t rfl]; rfl))
 refine sQ (qA rfl) rfl (sD (nS (cF rfl (tS (tR ?_)))))
 refine sB (qE rfl rfl) rfl rfl (fun h69 => ?_) (fun h69 => ?_)
 refine sQ (qA rfl) rfl (sD (nS (qT rfl (tS ?_))))
 refine D7 D8 rfl ?_
 refine V5 (i := 0) (l' := [tt,ff,ff,ff]) rfl D3 (A3 rfl rfl) rfl (by kernel_rfl) rfl rfl ?_
 refine aP 1 rfl (qA rfl) rfl ?_
 refine A2 2 ?_
 refine H3 rfl ?_
 refine aP 3 rfl (qA rfl) rfl ?_
 refine B9 (nS (tT (rB (rS ?_))))
 refine K7 (rT rfl) (rC rfl (A3 rfl rfl)) (rT rfl) ?_
 (have hk1 : k = 2 := (by omega); subst hk1; exact K6.nil (K1 _) mW2)
 refine sQ (qA rfl) rfl (sD (nS (cF rfl (tS (tS (tR ?_))))))
 refine sB (qE rfl rfl) rfl rfl (fun h95 => ?_) (fun h95 => ?_)
 refine E1 ?_
 refine D7 D8 rfl ?_
 refine V5 (i := 0) (l' := [tt,ff,ff,ff]) rfl D3 (A3 rfl rfl) rfl (by kernel_rfl) rfl rfl ?_
 refine aP 1 rfl (qA rfl) rfl ?_
 refine A2 2 ?_
 refine H3 rfl ?_
 refine aP 3 rfl (qA rfl) rfl ?_
 refine B9 (nS (tT (rB (rS ?_))))
 refine K7 (rT rfl) (rC rfl (A3 rfl rfl)) (rT rfl) ?_
 (exact K6.nil (A0q _) (by rw [A5d (by omega)]; rfl))
 refine sQ (qA rfl) rfl (sD (nS (cF rfl (tR ?_))))
 refine sB (qE rfl rfl) rfl rfl (fun h122 => ?_) (fun h122 => ?_)
 refine sQ (qA rfl) rfl (sD (nS (qT rfl (tS ?_))))
 refine D7 D8 rfl ?_
 refine V5 (i := 0) (l' := [tt,ff,ff,ff]) rfl D3 (A3 rfl rfl) rfl (by kernel_rfl) rfl rfl ?_
 refine aP 1 rfl (qA rfl) rfl ?_
 refine A2 2 ?_
 refine H3 rfl ?_
 refine aP 3 rfl (qA rfl) rfl ?_
 refine B9 (nS (tT (rB (rS ?_))))
 refine K7 (rT rfl) (rC rfl (A3 rfl rfl)) (rT rfl) ?_
 (exact K6.nil (A0q _) (by rw [A5d (by omega)]; rfl))
 refine sQ (qA rfl) rfl (sD (nS (cF rfl (tS (tR ?_)))))
 refine sB (qE rfl rfl) rfl rfl (fun h147 => ?_) (fun h147 => ?_)
 refine sQ (qA rfl) rfl (sD (nS (qT rfl (tS ?_))))
 (have hl1 : n = 1 := hop.2.2 (by omega); obtain ⟨b0, o0, q0, d0, hp0, hat0, hre0, hg0⟩ := hsl.kidD hkl (i := 0) (by omega) (by omega); cases hp0; refine D7 D8 rfl ?_)
 refine H4 (i := 0) (l' := [tt,ff,ff,ff,ff,ff,ff,ff,ff]) rfl D3 (B1 rfl) rfl (by kernel_rfl) rfl rfl ?_
 refine aL 1 rfl (A3 rfl rfl) rfl ?_
 refine aP 2 rfl (qM rfl) rfl ?_
 refine aP 3 rfl (B3 (j := 0) rfl rfl rfl (by omega)) rfl ?_
 refine aL 4 rfl (A6 rfl rfl (hat0 _) rfl) rfl ?_
 refine A2 5 ?_
 (refine P2 rfl rfl (A2L 4 _ _ _ _ _ ⟨by omega, by omega⟩ hrty hre0) rfl rfl rfl (fun v GB hleB hh => ?_); obtain ⟨cB, rfl, hrB⟩ := hh; obtain ⟨p7, c7, e7, rfl, _⟩ := hrB.open)
 refine aP 6 rfl (qA rfl) rfl ?_
 refine A2 7 ?_
 refine H3 rfl ?_
 refine aP 8 rfl (qA rfl) rfl ?_
 refine B9 (nS (tT (rB (rS ?_))))
 refine K7 (rT rfl) (rC rfl (A3 rfl rfl)) (rT rfl) ?_
 (have hk1 : k = 5 := (by omega); subst hk1; exact K6.nil hrB mW5)
 refine sQ (qA rfl) rfl (sD (nS (cF rfl (tS (tR ?_)))))
 refine sB (qE rfl rfl) rfl rfl (fun h178 => ?_) (fun h178 => ?_)
 refine C5 ?_
 (have hl2 : n = 2 := hop.1 (by omega); obtain ⟨b0, o0, q0, d0, hp0, hat0, hre0, hg0⟩ := hsl.kidD hkl (i := 0) (by omega) (by omega); cases hp0; refine sP (B3 (j := 0) rfl rfl rfl (by omega)) rfl rfl ?_)
 refine sL (A6 rfl rfl (hat0 _) rfl) rfl rfl ?_
 (refine M0 rfl (A9u 4 (h.getD 0 A5) G _ (.inl rfl) (A3h har (by omega)) hre0) rfl rfl (fun v G1 hle1 hh => ?_); obtain ⟨ma, mca, mb, mcb, rfl, hma, hmb, hma2, hmb2, hmm⟩ := hh; obtain ⟨p1, c1, e1, rfl, _⟩ := hma.open; obtain ⟨p2, c2, e2, rfl, _⟩ := hmb.open; replace hsl := hsl.mono hle1; replace hkl := hkl.mono hle1; generalize hmi : (R3 4 (h.getD 0 A5)).isSome = mi; cases mi)
 refine K5 ?_
 refine sE (B0 rfl) rfl (fun b193 => ?_)
 refine sE (B0 rfl) rfl (fun b194 => ?_)
 refine I1 ?_
 refine I1 ?_
 refine sQ (qA rfl) rfl (sD (nS (tS ?_)))
 (have hl2 : n = 2 := hop.1 (by omega); obtain ⟨b0, o0, q0, d0, hp0, hat0, hre0, hg0⟩ := hsl.kidD hkl (i := 0) (by omega) (by omega); obtain ⟨b1, o1, q1, d1, hp1, hat1, hre1, hg1⟩ := hsl.kidD hkl (i := 1) (by omega) (by omega); cases hp0; cases hp1; refine D7 D8 rfl ?_)
 refine V5 (i := 0) (l' := [tt,ff,ff,ff,ff,ff,ff,ff,ff,ff,ff,ff,ff,ff,ff,ff,ff]) rfl D3 (A3 rfl rfl) rfl (by kernel_rfl) rfl rfl ?_
 refine aL 1 rfl (A3 rfl rfl) rfl ?_
 refine aL 3 rfl (A3 rfl rfl) rfl ?_
 refine aL 5 rfl (A3 rfl rfl) rfl ?_
 refine aP 6 rfl (qM rfl) rfl ?_
 refine A2 2 ?_
 (refine P2 rfl rfl (A2L _ ma mb _ _ _ ⟨by omega, by omega⟩ hma hmb) rfl rfl rfl (fun v GB hleB hh => ?_); obtain ⟨cB, rfl, hrB⟩ := hh; obtain ⟨p7, c7, e7, rfl, _⟩ := hrB.open; have hma' := hma.mono hleB; have hmb' := hmb.mono hleB)
 refine aP 7 rfl (qM rfl) rfl ?_
 refine E0 8 rfl rfl rfl ?_
 refine E0 9 rfl rfl rfl ?_
 refine E0 10 rfl rfl rfl ?_
 refine E0 11 rfl rfl rfl ?_
 refine U7 (j := 4) (j' := 12) (by kernel_rfl) ?_ ?_
 (refine D6 rfl (B4 rfl rfl rfl (by omega) (by unfold maxLen; omega) rfl) rfl rfl ?_; rintro _ ⟨b215, rfl⟩)
 refine E0 12 rfl rfl rfl ?_
 refine aP 13 rfl (S2 rfl rfl) rfl ?_
 refine aP 14 rfl (qA rfl) rfl ?_
 refine A2 15 ?_
 refine H3 rfl ?_
 refine aP 16 rfl (qA rfl) rfl ?_
 refine B9 (nS ?_)
 (refine I5 Pk.here (fun G5 hle5 hsl5 hno5 => ?_))
 refine tT (rB (rS ?_))
 refine K7 (rT rfl) (rC rfl (A3 rfl rfl)) (rT rfl) ?_
 (have hk1 : k = 6 := (by omega); subst hk1; refine K6.two hsl5 (hrB.mono hle5) (hma'.mono hle5) (hmb'.mono hle5) ?_; rw [mW6]; cases hq : R3 4 (h.getD 0 A5) with | none => rfl | some q => (rw [hq] at hmi; cases hmi))
 refine A54 (l' := [tt,tt,tt,tt,ff,tt,tt,tt,tt,tt,tt,tt,tt,ff,ff,ff,ff]) rfl rfl rfl rfl ?_
 refine aP 13 rfl (S2 rfl rfl) rfl ?_
 refine A2 4 ?_
 (refine D6 rfl (B4 rfl rfl rfl (by omega) (by unfold maxLen; omega) rfl) rfl rfl ?_; rintro _ ⟨b233, rfl⟩)
 refine aP 14 rfl (qA rfl) rfl ?_
 refine A2 15 ?_
 refine H3 rfl ?_
 refine aP 16 rfl (qA rfl) rfl ?_
 refine B9 (nS ?_)
 (refine I5 Pk.here (fun G5 hle5 hsl5 hno5 => ?_))
 refine tT (rB (rS ?_))
 refine K7 (rT rfl) (rC rfl (A3 rfl rfl)) (rT rfl) ?_
 (have hk1 : k = 6 := (by omega); subst hk1; refine K6.two hsl5 (hrB.mono hle5) (hma'.mono hle5) (hmb'.mono hle5) ?_; rw [mW6]; cases hq : R3 4 (h.getD 0 A5) with | none => rfl | some q => (rw [hq] at hmi; cases hmi))
 refine K5 ?_
 refine sE (B0 rfl) rfl (fun b250 => ?_)
 refine sE (B0 rfl) rfl (fun b251 => ?_)
 refine I1 ?_
 refine I1 ?_
 refine sQ (qA rfl) rfl (sD (nS (tS ?_)))
 (have hl2 : n = 2 := hop.1 (by omega); obtain ⟨b0, o0, q0, d0, hp0, hat0, hre0, hg0⟩ := hsl.kidD hkl (i := 0) (by omega) (by omega); obtain ⟨b1, o1, q1, d1, hp1, hat1, hre1, hg1⟩ := hsl.kidD hkl (i := 1) (by omega) (by omega); cases hp0; cases hp1; refine D7 D8 rfl ?_)
 refine V5 (i := 0) (l' := [tt,ff,ff,ff,ff,ff,ff,ff,ff,ff,ff,ff,ff,ff,ff,ff,ff]) rfl D3 (A3 rfl rfl) rfl (by kernel_rfl) rfl rfl ?_
 refine aL 1 rfl (A3 rfl rfl) rfl ?_
 refine aL 3 rfl (A3 rfl rfl) rfl ?_
 refine aL 5 rfl (A3 rfl rfl) rfl ?_
 refine aP 6 rfl (qM rfl) rfl ?_
 refine A2 2 ?_
 (refine P2 rfl rfl (A2L _ ma mb _ _ _ ⟨by omega, by omega⟩ hma hmb) rfl rfl rfl (fun v GB hleB hh => ?_); obtain ⟨cB, rfl, hrB⟩ := hh; obtain ⟨p7, c7, e7, rfl, _⟩ := hrB.open; have hma' := hma.mono hleB; have hmb' := hmb.mono hleB)
 refine aP 7 rfl (qM rfl) rfl ?_
 refine aP 8 rfl (qM rfl) rfl ?_
 refine aP 9 rfl (B3 (j := 1) rfl rfl rfl (by omega)) rfl ?_
 refine aL 10 rfl (A6 rfl rfl (At.mono' hleB (hat1 _)) rfl) rfl ?_
 refine aL 11 rfl (A3 rfl rfl) rfl ?_
 refine U7 (j := 4) (j' := 12) (by kernel_rfl) ?_ ?_
 (refine D6 rfl (B4 rfl rfl rfl (by omega) (by unfold maxLen; omega) rfl) rfl rfl ?_; rintro _ ⟨b272, rfl⟩)
 refine A2 12 ?_
 refine W2 rfl rfl ((Z9 _ _ _ _ _ (hre1.mono hleB) hma')) rfl rfl rfl (fun h274 => ?_) (fun h274 => ?_)
 refine aP 13 rfl (N4 rfl rfl) rfl ?_
 refine aP 14 rfl (qA rfl) rfl ?_
 refine A2 15 ?_
 refine H3 rfl ?_
 refine aP 16 rfl (qA rfl) rfl ?_
 refine B9 (nS ?_)
 (refine I5 Pk.here (fun G5 hle5 hsl5 hno5 => ?_))
 refine tT (rB (rS ?_))
 refine K7 (rT rfl) (rC rfl (A3 rfl rfl)) (rT rfl) ?_
 (have hk1 : k = 6 := (by omega); subst hk1; refine K6.two hsl5 (hrB.mono hle5) (hma'.mono hle5) (hmb'.mono hle5) ?_; rw [mW6]; cases hq : R3 4 (h.getD 0 A5) with | none => (rw [hq] at hmi; cases hmi) | some q => (have hq2 := hmm q hq; subst hq2; dsimp only; split <;> first | rfl | (exfalso; simp_all; done)))
 refine aP 13 rfl (N4 rfl rfl) rfl ?_
 refine aP 14 rfl (qA rfl) rfl ?_
 refine A2 15 ?_
 refine H3 rfl ?_
 refine aP 16 rfl (qA rfl) rfl ?_
 refine B9 (nS ?_)
 (refine I5 Pk.here (fun G5 hle5 hsl5 hno5 => ?_))
 refine tT (rB (rS ?_))
 refine K7 (rT rfl) (rC rfl (A3 rfl rfl)) (rT rfl) ?_
 (have hk1 : k = 6 := (by omega); subst hk1; refine K6.two hsl5 (hrB.mono hle5) (hma'.mono hle5) (hmb'.mono hle5) ?_; rw [mW6]; cases hq : R3 4 (h.getD 0 A5) with | none => (rw [hq] at hmi; cases hmi) | some q => (have hq2 := hmm q hq; subst hq2; dsimp only; split <;> first | rfl | (exfalso; simp_all; done)))
 refine W2 rfl rfl ((Z9 _ _ _ _ _ (hre1.mono hleB) hma')) rfl rfl rfl (fun h301 => ?_) (fun h301 => ?_)
 refine aP 13 rfl (N4 rfl rfl) rfl ?_
 refine A2 4 ?_
 (refine D6 rfl (B4 rfl rfl rfl (by omega) (by unfold maxLen; omega) rfl) rfl rfl ?_; rintro _ ⟨b304, rfl⟩)
 refine aP 14 rfl (qA rfl) rfl ?_
 refine A2 15 ?_
 refine H3 rfl ?_
 refine aP 16 rfl (qA rfl) rfl ?_
 refine B9 (nS ?_)
 (refine I5 Pk.here (fun G5 hle5 hsl5 hno5 => ?_))
 refine tT (rB (rS ?_))
 refine K7 (rT rfl) (rC rfl (A3 rfl rfl)) (rT rfl) ?_
 (have hk1 : k = 6 := (by omega); subst hk1; refine K6.two hsl5 (hrB.mono hle5) (hma'.mono hle5) (hmb'.mono hle5) ?_; rw [mW6]; cases hq : R3 4 (h.getD 0 A5) with | none => (rw [hq] at hmi; cases hmi) | some q => (have hq2 := hmm q hq; subst hq2; dsimp only; split <;> first | rfl | (exfalso; simp_all; done)))
 refine aP 13 rfl (N4 rfl rfl) rfl ?_
 refine A2 4 ?_
 (refine D6 rfl (B4 rfl rfl rfl (by omega) (by unfold maxLen; omega) rfl) rfl rfl ?_; rintro _ ⟨b319, rfl⟩)
 refine aP 14 rfl (qA rfl) rfl ?_
 refine A2 15 ?_
 refine H3 rfl ?_
 refine aP 16 rfl (qA rfl) rfl ?_
 refine B9 (nS ?_)
 (refine I5 Pk.here (fun G5 hle5 hsl5 hno5 => ?_))
 refine tT (rB (rS ?_))
 refine K7 (rT rfl) (rC rfl (A3 rfl rfl)) (rT rfl) ?_
 (have hk1 : k = 6 := (by omega); subst hk1; refine K6.two hsl5 (hrB.mono hle5) (hma'.mono hle5) (hmb'.mono hle5) ?_; rw [mW6]; cases hq : R3 4 (h.getD 0 A5) with | none => (rw [hq] at hmi; cases hmi) | some q => (have hq2 := hmm q hq; subst hq2; dsimp only; split <;> first | rfl | (exfalso; simp_all; done)))
 refine sQ (qA rfl) rfl (sD (nS (cF rfl (tS (tS (tR ?_))))))
 refine sB (qE rfl rfl) rfl rfl (fun h339 => ?_) (fun h339 => ?_)
 refine H9 ?_
 refine sE (B0 rfl) rfl (fun b350 => ?_)
 refine E1 ?_
 refine sP (K9 rfl rfl (by omega)) rfl rfl ?_
 refine sD (nS (cF rfl (tK (nS (tS ?_)))))
 (have hl2 : n = 2 := hop.1 (by omega); obtain ⟨b0, o0, q0, d0, hp0, hat0, hre0, hg0⟩ := hsl.kidD hkl (i := 0) (by omega) (by omega); obtain ⟨b1, o1, q1, d1, hp1, hat1, hre1, hg1⟩ := hsl.kidD hkl (i := 1) (by omega) (by omega); cases hp0; cases hp1; refine D7 D8 rfl ?_)
 refine V5 (i := 0) (l' := [tt,ff,ff,ff,ff,ff,ff,ff,ff,ff,ff,ff,ff,ff,ff,ff,ff,ff,ff]) rfl D3 (A3 rfl rfl) rfl (by kernel_rfl) rfl rfl ?_
 refine aL 1 rfl (A3 rfl rfl) rfl ?_
 refine aL 3 rfl (A3 rfl rfl) rfl ?_
 refine aP 4 rfl (qM rfl) rfl ?_
 refine aP 5 rfl (B3 (j := 0) rfl rfl rfl (by omega)) rfl ?_
 refine aL 6 rfl (A6 rfl rfl (hat0 _) rfl) rfl ?_
 refine aL 7 rfl (A3 rfl rfl) rfl ?_
 refine U7 (j := 2) (j' := 8) (by kernel_rfl) ?_ ?_
 (refine D6 rfl (B4 rfl rfl rfl (by omega) (by unfold maxLen; omega) rfl) rfl rfl ?_; rintro _ ⟨b375, rfl⟩)
 refine A2 8 ?_
 refine W2 rfl rfl ((Z9 _ _ _ _ _ hre0 (K1 _))) rfl rfl rfl (fun h377 => ?_) (fun h377 => ?_)
 refine aP 9 rfl (qM rfl) rfl ?_
 refine aP 10 rfl (qM rfl) rfl ?_
 refine aP 11 rfl (B3 (j := 1) rfl rfl rfl (by omega)) rfl ?_
 refine aL 12 rfl (A6 rfl rfl (hat1 _) rfl) rfl ?_
 refine aL 13 rfl (A3 rfl rfl) rfl ?_
 refine A2 14 ?_
 refine W2 rfl rfl ((Z9 _ _ _ _ _ hre1 (K1 _))) rfl rfl rfl (fun h384 => ?_) (fun h384 => ?_)
 refine aP 15 rfl (N4 rfl rfl) rfl ?_
 refine aP 16 rfl (qA rfl) rfl ?_
 refine A2 17 ?_
 refine H3 rfl ?_
 refine aP 18 rfl (qA rfl) rfl ?_
 refine B9 (nS ?_)
 (refine I5 Pk.here (fun G5 hle5 hsl5 hno5 => ?_))
 refine tT (rB (rS ?_))
 refine K7 (rT rfl) (rC rfl (A3 rfl rfl)) (rT rfl) ?_
 (refine K6.two hsl5 (K1 _) (K1 _) (K1 _) ?_; rw [X5 (by omega)]; first | (rw [if_pos ⟨by assumption, by assumption⟩, if_neg (by omega)]; rfl) | (rw [if_neg (fun hc => by first | exact Bool.noConfusion (hc.1.symm.trans (by assumption)) | exact Bool.noConfusion (hc.2.symm.trans (by assumption)) | exact Bool.noConfusion (hc.symm.trans (by assumption)))]; rfl))
 refine aP 15 rfl (N4 rfl rfl) rfl ?_
 refine aP 16 rfl (qA rfl) rfl ?_
 refine A2 17 ?_
 refine H3 rfl ?_
 refine aP 18 rfl (qA rfl) rfl ?_
 refine B9 (nS ?_)
 (refine I5 Pk.here (fun G5 hle5 hsl5 hno5 => ?_))
 refine tT (rB (rS ?_))
 refine K7 (rT rfl) (rC rfl (A3 rfl rfl)) (rT rfl) ?_
 (refine K6.two hsl5 (K1 _) (K1 _) (K1 _) ?_; rw [X5 (by omega)]; first | (rw [if_pos ⟨by assumption, by assumption⟩, if_neg (by omega)]; rfl) | (rw [if_neg (fun hc => by first | exact Bool.noConfusion (hc.1.symm.trans (by assumption)) | exact Bool.noConfusion (hc.2.symm.trans (by assumption)) | exact Bool.noConfusion (hc.symm.trans (by assumption)))]; rfl))
 refine aP 9 rfl (qM rfl) rfl ?_
 refine E0 10 rfl rfl rfl ?_
 refine E0 11 rfl rfl rfl ?_
 refine E0 12 rfl rfl rfl ?_
 refine E0 13 rfl rfl rfl ?_
 refine E0 14 rfl rfl rfl ?_
 refine aP 15 rfl (S2 rfl rfl) rfl ?_
 refine aP 16 rfl (qA rfl) rfl ?_
 refine A2 17 ?_
 refine H3 rfl ?_
 refine aP 18 rfl (qA rfl) rfl ?_
 refine B9 (nS ?_)
 (refine I5 Pk.here (fun G5 hle5 hsl5 hno5 => ?_))
 refine tT (rB (rS ?_))
 refine K7 (rT rfl) (rC rfl (A3 rfl rfl)) (rT rfl) ?_
 (refine K6.two hsl5 (K1 _) (K1 _) (K1 _) ?_; rw [X5 (by omega)]; first | (rw [if_pos ⟨by assumption, by assumption⟩, if_neg (by omega)]; rfl) | (rw [if_neg (fun hc => by first | exact Bool.noConfusion (hc.1.symm.trans (by assumption)) | exact Bool.noConfusion (hc.2.symm.trans (by assumption)) | exact Bool.noConfusion (hc.symm.trans (by assumption)))]; rfl))
 refine W2 rfl rfl ((Z9 _ _ _ _ _ hre0 (K1 _))) rfl rfl rfl (fun h430 => ?_) (fun h430 => ?_)
 refine aP 9 rfl (qM rfl) rfl ?_
 refine aP 10 rfl (qM rfl) rfl ?_
 refine aP 11 rfl (B3 (j := 1) rfl rfl rfl (by omega)) rfl ?_
 refine aL 12 rfl (A6 rfl rfl (hat1 _) rfl) rfl ?_
 refine aL 13 rfl (A3 rfl rfl) rfl ?_
 refine U7 (j := 2) (j' := 14) (by kernel_rfl) ?_ ?_
 (refine D6 rfl (B4 rfl rfl rfl (by omega) (by unfold maxLen; omega) rfl) rfl rfl ?_; rintro _ ⟨b437, rfl⟩)
 refine A2 14 ?_
 refine W2 rfl rfl ((Z9 _ _ _ _ _ hre1 (K1 _))) rfl rfl rfl (fun h439 => ?_) (fun h439 => ?_)
 refine aP 15 rfl (N4 rfl rfl) rfl ?_
 refine aP 16 rfl (qA rfl) rfl ?_
 refine A2 17 ?_
 refine H3 rfl ?_
 refine aP 18 rfl (qA rfl) rfl ?_
 refine B9 (nS ?_)
 (refine I5 Pk.here (fun G5 hle5 hsl5 hno5 => ?_))
 refine tT (rB (rS ?_))
 refine K7 (rT rfl) (rC rfl (A3 rfl rfl)) (rT rfl) ?_
 (refine K6.two hsl5 (K1 _) (K1 _) (K1 _) ?_; rw [X5 (by omega)]; first | (rw [if_pos ⟨by assumption, by assumption⟩, if_neg (by omega)]; rfl) | (rw [if_neg (fun hc => by first | exact Bool.noConfusion (hc.1.symm.trans (by assumption)) | exact Bool.noConfusion (hc.2.symm.trans (by assumption)) | exact Bool.noConfusion (hc.symm.trans (by assumption)))]; rfl))
 refine aP 15 rfl (N4 rfl rfl) rfl ?_
 refine aP 16 rfl (qA rfl) rfl ?_
 refine A2 17 ?_
 refine H3 rfl ?_
 refine aP 18 rfl (qA rfl) rfl ?_
 refine B9 (nS ?_)
 (refine I5 Pk.here (fun G5 hle5 hsl5 hno5 => ?_))
 refine tT (rB (rS ?_))
 refine K7 (rT rfl) (rC rfl (A3 rfl rfl)) (rT rfl) ?_
 (refine K6.two hsl5 (K1 _) (K1 _) (K1 _) ?_; rw [X5 (by omega)]; first | (rw [if_pos ⟨by assumption, by assumption⟩, if_neg (by omega)]; rfl) | (rw [if_neg (fun hc => by first | exact Bool.noConfusion (hc.1.symm.trans (by assumption)) | exact Bool.noConfusion (hc.2.symm.trans (by assumption)) | exact Bool.noConfusion (hc.symm.trans (by assumption)))]; rfl))
 refine W2 rfl rfl ((Z9 _ _ _ _ _ hre1 (K1 _))) rfl rfl rfl (fun h466 => ?_) (fun h466 => ?_)
 refine aP 15 rfl (N4 rfl rfl) rfl ?_
 refine A2 2 ?_
 (refine D6 rfl (B4 rfl rfl rfl (by omega) (by unfold maxLen; omega) rfl) rfl rfl ?_; rintro _ ⟨b469, rfl⟩)
 refine aP 16 rfl (qA rfl) rfl ?_
 refine A2 17 ?_
 refine H3 rfl ?_
 refine aP 18 rfl (qA rfl) rfl ?_
 refine B9 (nS ?_)
 (refine I5 Pk.here (fun G5 hle5 hsl5 hno5 => ?_))
 refine tT (rB (rS ?_))
 refine K7 (rT rfl) (rC rfl (A3 rfl rfl)) (rT rfl) ?_
 (refine K6.two hsl5 (K1 _) (K1 _) (K1 _) ?_; rw [X5 (by omega)]; first | (rw [if_pos ⟨by assumption, by assumption⟩, if_neg (by omega)]; rfl) | (rw [if_neg (fun hc => by first | exact Bool.noConfusion (hc.1.symm.trans (by assumption)) | exact Bool.noConfusion (hc.2.symm.trans (by assumption)) | exact Bool.noConfusion (hc.symm.trans (by assumption)))]; rfl))
 refine aP 15 rfl (N4 rfl rfl) rfl ?_
 refine A2 2 ?_
 (refine D6 rfl (B4 rfl rfl rfl (by omega) (by unfold maxLen; omega) rfl) rfl rfl ?_; rintro _ ⟨b484, rfl⟩)
 refine aP 16 rfl (qA rfl) rfl ?_
 refine A2 17 ?_
 refine H3 rfl ?_
 refine aP 18 rfl (qA rfl) rfl ?_
 refine B9 (nS ?_)
 (refine I5 Pk.here (fun G5 hle5 hsl5 hno5 => ?_))
 refine tT (rB (rS ?_))
 refine K7 (rT rfl) (rC rfl (A3 rfl rfl)) (rT rfl) ?_
 (refine K6.two hsl5 (K1 _) (K1 _) (K1 _) ?_; rw [X5 (by omega)]; first | (rw [if_pos ⟨by assumption, by assumption⟩, if_neg (by omega)]; rfl) | (rw [if_neg (fun hc => by first | exact Bool.noConfusion (hc.1.symm.trans (by assumption)) | exact Bool.noConfusion (hc.2.symm.trans (by assumption)) | exact Bool.noConfusion (hc.symm.trans (by assumption)))]; rfl))
 refine aP 9 rfl (qM rfl) rfl ?_
 refine E0 10 rfl rfl rfl ?_
 refine E0 11 rfl rfl rfl ?_
 refine E0 12 rfl rfl rfl ?_
 refine E0 13 rfl rfl rfl ?_
 refine U7 (j := 2) (j' := 14) (by kernel_rfl) ?_ ?_
 (refine D6 rfl (B4 rfl rfl rfl (by omega) (by unfold maxLen; omega) rfl) rfl rfl ?_; rintro _ ⟨b503, rfl⟩)
 refine E0 14 rfl rfl rfl ?_
 refine aP 15 rfl (S2 rfl rfl) rfl ?_
 refine aP 16 rfl (qA rfl) rfl ?_
 refine A2 17 ?_
 refine H3 rfl ?_
 refine aP 18 rfl (qA rfl) rfl ?_
 refine B9 (nS ?_)
 (refine I5 Pk.here (fun G5 hle5 hsl5 hno5 => ?_))
 refine tT (rB (rS ?_))
 refine K7 (rT rfl) (rC rfl (A3 rfl rfl)) (rT rfl) ?_
 (refine K6.two hsl5 (K1 _) (K1 _) (K1 _) ?_; rw [X5 (by omega)]; first | (rw [if_pos ⟨by assumption, by assumption⟩, if_neg (by omega)]; rfl) | (rw [if_neg (fun hc => by first | exact Bool.noConfusion (hc.1.symm.trans (by assumption)) | exact Bool.noConfusion (hc.2.symm.trans (by assumption)) | exact Bool.noConfusion (hc.symm.trans (by assumption)))]; rfl))
 refine A54 (l' := [tt,tt,ff,tt,tt,tt,tt,tt,tt,tt,tt,tt,tt,tt,tt,ff,ff,ff,ff]) rfl rfl rfl rfl ?_
 refine aP 15 rfl (S2 rfl rfl) rfl ?_
 refine A2 2 ?_
 (refine D6 rfl (B4 rfl rfl rfl (by omega) (by unfold maxLen; omega) rfl) rfl rfl ?_; rintro _ ⟨b521, rfl⟩)
 refine aP 16 rfl (qA rfl) rfl ?_
 refine A2 17 ?_
 refine H3 rfl ?_
 refine aP 18 rfl (qA rfl) rfl ?_
 refine B9 (nS ?_)
 (refine I5 Pk.here (fun G5 hle5 hsl5 hno5 => ?_))
 refine tT (rB (rS ?_))
 refine K7 (rT rfl) (rC rfl (A3 rfl rfl)) (rT rfl) ?_
 (refine K6.two hsl5 (K1 _) (K1 _) (K1 _) ?_; rw [X5 (by omega)]; first | (rw [if_pos ⟨by assumption, by assumption⟩, if_neg (by omega)]; rfl) | (rw [if_neg (fun hc => by first | exact Bool.noConfusion (hc.1.symm.trans (by assumption)) | exact Bool.noConfusion (hc.2.symm.trans (by assumption)) | exact Bool.noConfusion (hc.symm.trans (by assumption)))]; rfl))
 refine sQ (qA rfl) rfl (sD (nS (cF rfl (tR ?_))))
 refine sB (qE rfl rfl) rfl rfl (fun h539 => ?_) (fun h539 => ?_)
 refine C5 ?_
 refine sE (B0 rfl) rfl (fun b547 => ?_)
 refine E1 ?_
 refine sP (A1i rfl rfl (by omega)) rfl rfl ?_
 refine E8 ?_
 (have hl2 : n = 2 := hop.1 (by omega); obtain ⟨b0, o0, q0, d0, hp0, hat0, hre0, hg0⟩ := hsl.kidD hkl (i := 0) (by omega) (by omega); obtain ⟨b1, o1, q1, d1, hp1, hat1, hre1, hg1⟩ := hsl.kidD hkl (i := 1) (by omega) (by omega); cases hp0; cases hp1; refine D7 D8 rfl ?_)
 refine V5 (i := 0) (l' := [tt,ff,ff,ff,ff,ff,ff,ff,ff,ff,ff,ff,ff,ff,ff,ff,ff,ff,ff]) rfl D3 (A3 rfl rfl) rfl (by kernel_rfl) rfl rfl ?_
 refine aL 1 rfl (A3 rfl rfl) rfl ?_
 refine aL 3 rfl (A3 rfl rfl) rfl ?_
 refine aP 4 rfl (qM rfl) rfl ?_
 refine aP 5 rfl (B3 (j := 0) rfl rfl rfl (by omega)) rfl ?_
 refine aL 6 rfl (A6 rfl rfl (hat0 _) rfl) rfl ?_
 refine aL 7 rfl (A3 rfl rfl) rfl ?_
 refine U7 (j := 2) (j' := 8) (by kernel_rfl) ?_ ?_
 (refine D6 rfl (B4 rfl rfl rfl (by omega) (by unfold maxLen; omega) rfl) rfl rfl ?_; rintro _ ⟨b575, rfl⟩)
 refine A2 8 ?_
 refine W2 rfl rfl ((Z9 _ _ _ _ _ hre0 (K1 _))) rfl rfl rfl (fun h577 => ?_) (fun h577 => ?_)
 refine aP 9 rfl (qM rfl) rfl ?_
 refine aP 10 rfl (qM rfl) rfl ?_
 refine aP 11 rfl (B3 (j := 1) rfl rfl rfl (by omega)) rfl ?_
 refine aL 12 rfl (A6 rfl rfl (hat1 _) rfl) rfl ?_
 refine aL 13 rfl (A3 rfl rfl) rfl ?_
 refine A2 14 ?_
 refine W2 rfl rfl ((Z9 _ _ _ _ _ hre1 (K1 _))) rfl rfl rfl (fun h584 => ?_) (fun h584 => ?_)
 refine aP 15 rfl (N4 rfl rfl) rfl ?_
 refine aP 16 rfl (qA rfl) rfl ?_
 refine A2 17 ?_
 refine H3 rfl ?_
 refine aP 18 rfl (qA rfl) rfl ?_
 refine B9 (nS ?_)
 (refine I5 Pk.here (fun G5 hle5 hsl5 hno5 => ?_))
 refine tT (rB (rS ?_))
 refine K7 (rT rfl) (rC rfl (A3 rfl rfl)) (rT rfl) ?_
 (refine K6.two hsl5 (K1 _) (K1 _) (A0q _) ?_; rw [X5 (by omega)]; first | (rw [if_pos ⟨by assumption, by assumption⟩, if_pos (by omega)]; rfl) | (rw [if_neg (fun hc => by first | exact Bool.noConfusion (hc.1.symm.trans (by assumption)) | exact Bool.noConfusion (hc.2.symm.trans (by assumption)) | exact Bool.noConfusion (hc.symm.trans (by assumption)))]; rfl))
 refine aP 15 rfl (N4 rfl rfl) rfl ?_
 refine aP 16 rfl (qA rfl) rfl ?_
 refine A2 17 ?_
 refine H3 rfl ?_
 refine aP 18 rfl (qA rfl) rfl ?_
 refine B9 (nS ?_)
 (refine I5 Pk.here (fun G5 hle5 hsl5 hno5 => ?_))
 refine tT (rB (rS ?_))
 refine K7 (rT rfl) (rC rfl (A3 rfl rfl)) (rT rfl) ?_
 (refine K6.two hsl5 (K1 _) (K1 _) (A0q _) ?_; rw [X5 (by omega)]; first | (rw [if_pos ⟨by assumption, by assumption⟩, if_pos (by omega)]; rfl) | (rw [if_neg (fun hc => by first | exact Bool.noConfusion (hc.1.symm.trans (by assumption)) | exact Bool.noConfusion (hc.2.symm.trans (by assumption)) | exact Bool.noConfusion (hc.symm.trans (by assumption)))]; rfl))
 refine aP 9 rfl (qM rfl) rfl ?_
 refine E0 10 rfl rfl rfl ?_
 refine E0 11 rfl rfl rfl ?_
 refine E0 12 rfl rfl rfl ?_
 refine E0 13 rfl rfl rfl ?_
 refine E0 14 rfl rfl rfl ?_
 refine aP 15 rfl (S2 rfl rfl) rfl ?_
 refine aP 16 rfl (qA rfl) rfl ?_
 refine A2 17 ?_
 refine H3 rfl ?_
 refine aP 18 rfl (qA rfl) rfl ?_
 refine B9 (nS ?_)
 (refine I5 Pk.here (fun G5 hle5 hsl5 hno5 => ?_))
 refine tT (rB (rS ?_))
 refine K7 (rT rfl) (rC rfl (A3 rfl rfl)) (rT rfl) ?_
 (refine K6.two hsl5 (K1 _) (K1 _) (A0q _) ?_; rw [X5 (by omega)]; first | (rw [if_pos ⟨by assumption, by assumption⟩, if_pos (by omega)]; rfl) | (rw [if_neg (fun hc => by first | exact Bool.noConfusion (hc.1.symm.trans (by assumption)) | exact Bool.noConfusion (hc.2.symm.trans (by assumption)) | exact Bool.noConfusion (hc.symm.trans (by assumption)))]; rfl))
 refine W2 rfl rfl ((Z9 _ _ _ _ _ hre0 (K1 _))) rfl rfl rfl (fun h630 => ?_) (fun h630 => ?_)
 refine aP 9 rfl (qM rfl) rfl ?_
 refine aP 10 rfl (qM rfl) rfl ?_
 refine aP 11 rfl (B3 (j := 1) rfl rfl rfl (by omega)) rfl ?_
 refine aL 12 rfl (A6 rfl rfl (hat1 _) rfl) rfl ?_
 refine aL 13 rfl (A3 rfl rfl) rfl ?_
 refine U7 (j := 2) (j' := 14) (by kernel_rfl) ?_ ?_
 (refine D6 rfl (B4 rfl rfl rfl (by omega) (by unfold maxLen; omega) rfl) rfl rfl ?_; rintro _ ⟨b637, rfl⟩)
 refine A2 14 ?_
 refine W2 rfl rfl ((Z9 _ _ _ _ _ hre1 (K1 _))) rfl rfl rfl (fun h639 => ?_) (fun h639 => ?_)
 refine aP 15 rfl (N4 rfl rfl) rfl ?_
 refine aP 16 rfl (qA rfl) rfl ?_
 refine A2 17 ?_
 refine H3 rfl ?_
 refine aP 18 rfl (qA rfl) rfl ?_
 refine B9 (nS ?_)
 (refine I5 Pk.here (fun G5 hle5 hsl5 hno5 => ?_))
 refine tT (rB (rS ?_))
 refine K7 (rT rfl) (rC rfl (A3 rfl rfl)) (rT rfl) ?_
 (refine K6.two hsl5 (K1 _) (K1 _) (A0q _) ?_; rw [X5 (by omega)]; first | (rw [if_pos ⟨by assumption, by assumption⟩, if_pos (by omega)]; rfl) | (rw [if_neg (fun hc => by first | exact Bool.noConfusion (hc.1.symm.trans (by assumption)) | exact Bool.noConfusion (hc.2.symm.trans (by assumption)) | exact Bool.noConfusion (hc.symm.trans (by assumption)))]; rfl))
 refine aP 15 rfl (N4 rfl rfl) rfl ?_
 refine aP 16 rfl (qA rfl) rfl ?_
 refine A2 17 ?_
 refine H3 rfl ?_
 refine aP 18 rfl (qA rfl) rfl ?_
 refine B9 (nS ?_)
 (refine I5 Pk.here (fun G5 hle5 hsl5 hno5 => ?_))
 refine tT (rB (rS ?_))
 refine K7 (rT rfl) (rC rfl (A3 rfl rfl)) (rT rfl) ?_
 (refine K6.two hsl5 (K1 _) (K1 _) (A0q _) ?_; rw [X5 (by omega)]; first | (rw [if_pos ⟨by assumption, by assumption⟩, if_pos (by omega)]; rfl) | (rw [if_neg (fun hc => by first | exact Bool.noConfusion (hc.1.symm.trans (by assumption)) | exact Bool.noConfusion (hc.2.symm.trans (by assumption)) | exact Bool.noConfusion (hc.symm.trans (by assumption)))]; rfl))
 refine W2 rfl rfl ((Z9 _ _ _ _ _ hre1 (K1 _))) rfl rfl rfl (fun h666 => ?_) (fun h666 => ?_)
 refine aP 15 rfl (N4 rfl rfl) rfl ?_
 refine A2 2 ?_
 (refine D6 rfl (B4 rfl rfl rfl (by omega) (by unfold maxLen; omega) rfl) rfl rfl ?_; rintro _ ⟨b669, rfl⟩)
 refine aP 16 rfl (qA rfl) rfl ?_
 refine A2 17 ?_
 refine H3 rfl ?_
 refine aP 18 rfl (qA rfl) rfl ?_
 refine B9 (nS ?_)
 (refine I5 Pk.here (fun G5 hle5 hsl5 hno5 => ?_))
 refine tT (rB (rS ?_))
 refine K7 (rT rfl) (rC rfl (A3 rfl rfl)) (rT rfl) ?_
 (refine K6.two hsl5 (K1 _) (K1 _) (A0q _) ?_; rw [X5 (by omega)]; first | (rw [if_pos ⟨by assumption, by assumption⟩, if_pos (by omega)]; rfl) | (rw [if_neg (fun hc => by first | exact Bool.noConfusion (hc.1.symm.trans (by assumption)) | exact Bool.noConfusion (hc.2.symm.trans (by assumption)) | exact Bool.noConfusion (hc.symm.trans (by assumption)))]; rfl))
 refine aP 15 rfl (N4 rfl rfl) rfl ?_
 refine A2 2 ?_
 (refine D6 rfl (B4 rfl rfl rfl (by omega) (by unfold maxLen; omega) rfl) rfl rfl ?_; rintro _ ⟨b684, rfl⟩)
 refine aP 16 rfl (qA rfl) rfl ?_
 refine A2 17 ?_
 refine H3 rfl ?_
 refine aP 18 rfl (qA rfl) rfl ?_
 refine B9 (nS ?_)
 (refine I5 Pk.here (fun G5 hle5 hsl5 hno5 => ?_))
 refine tT (rB (rS ?_))
 refine K7 (rT rfl) (rC rfl (A3 rfl rfl)) (rT rfl) ?_
 (refine K6.two hsl5 (K1 _) (K1 _) (A0q _) ?_; rw [X5 (by omega)]; first | (rw [if_pos ⟨by assumption, by assumption⟩, if_pos (by omega)]; rfl) | (rw [if_neg (fun hc => by first | exact Bool.noConfusion (hc.1.symm.trans (by assumption)) | exact Bool.noConfusion (hc.2.symm.trans (by assumption)) | exact Bool.noConfusion (hc.symm.trans (by assumption)))]; rfl))
 refine aP 9 rfl (qM rfl) rfl ?_
 refine E0 10 rfl rfl rfl ?_
 refine E0 11 rfl rfl rfl ?_
 refine E0 12 rfl rfl rfl ?_
 refine E0 13 rfl rfl rfl ?_
 refine U7 (j := 2) (j' := 14) (by kernel_rfl) ?_ ?_
 (refine D6 rfl (B4 rfl rfl rfl (by omega) (by unfold maxLen; omega) rfl) rfl rfl ?_; rintro _ ⟨b703, rfl⟩)
 refine E0 14 rfl rfl rfl ?_
 refine aP 15 rfl (S2 rfl rfl) rfl ?_
 refine aP 16 rfl (qA rfl) rfl ?_
 refine A2 17 ?_
 refine H3 rfl ?_
 refine aP 18 rfl (qA rfl) rfl ?_
 refine B9 (nS ?_)
 (refine I5 Pk.here (fun G5 hle5 hsl5 hno5 => ?_))
 refine tT (rB (rS ?_))
 refine K7 (rT rfl) (rC rfl (A3 rfl rfl)) (rT rfl) ?_
 (refine K6.two hsl5 (K1 _) (K1 _) (A0q _) ?_; rw [X5 (by omega)]; first | (rw [if_pos ⟨by assumption, by assumption⟩, if_pos (by omega)]; rfl) | (rw [if_neg (fun hc => by first | exact Bool.noConfusion (hc.1.symm.trans (by assumption)) | exact Bool.noConfusion (hc.2.symm.trans (by assumption)) | exact Bool.noConfusion (hc.symm.trans (by assumption)))]; rfl))
 refine A54 (l' := [tt,tt,ff,tt,tt,tt,tt,tt,tt,tt,tt,tt,tt,tt,tt,ff,ff,ff,ff]) rfl rfl rfl rfl ?_
 refine aP 15 rfl (S2 rfl rfl) rfl ?_
 refine A2 2 ?_
 (refine D6 rfl (B4 rfl rfl rfl (by omega) (by unfold maxLen; omega) rfl) rfl rfl ?_; rintro _ ⟨b721, rfl⟩)
 refine aP 16 rfl (qA rfl) rfl ?_
 refine A2 17 ?_
 refine H3 rfl ?_
 refine aP 18 rfl (qA rfl) rfl ?_
 refine B9 (nS ?_)
 (refine I5 Pk.here (fun G5 hle5 hsl5 hno5 => ?_))
 refine tT (rB (rS ?_))
 refine K7 (rT rfl) (rC rfl (A3 rfl rfl)) (rT rfl) ?_
 (refine K6.two hsl5 (K1 _) (K1 _) (A0q _) ?_; rw [X5 (by omega)]; first | (rw [if_pos ⟨by assumption, by assumption⟩, if_pos (by omega)]; rfl) | (rw [if_neg (fun hc => by first | exact Bool.noConfusion (hc.1.symm.trans (by assumption)) | exact Bool.noConfusion (hc.2.symm.trans (by assumption)) | exact Bool.noConfusion (hc.symm.trans (by assumption)))]; rfl))
 refine sQ (qA rfl) rfl (sD (nS (cF rfl (tS (tR ?_)))))
 refine sB (qE rfl rfl) rfl rfl (fun h740 => ?_) (fun h740 => ?_)
 refine sQ (qA rfl) rfl (sD (nS (qT rfl (tS (tS ?_)))))
 (have hl3 : n = 3 := hop.2.1 (by omega); obtain ⟨b0, o0, q0, d0, hp0, hat0, hre0, hg0⟩ := hsl.kidD hkl (i := 0) (by omega) (by omega); obtain ⟨b1, o1, q1, d1, hp1, hat1, hre1, hg1⟩ := hsl.kidD hkl (i := 1) (by omega) (by omega); cases hp0; cases hp1; obtain ⟨b2, o2, q2, d2, hp2, hat2, hre2, hg2⟩ := hsl.kidD hkl (i := 2) (by omega) (by omega); cases hp2; refine D7 D8 rfl ?_)
 refine H4 (i := 0) (l' := [tt,ff,ff,ff,ff,ff,ff,ff,ff,ff,ff,ff,ff,ff,ff,ff]) rfl D3 (qM rfl) rfl (by kernel_rfl) rfl rfl ?_
 refine aP 1 rfl (B3 (j := 0) rfl rfl rfl (by omega)) rfl ?_
 refine aL 2 rfl (A6 rfl rfl (hat0 _) rfl) rfl ?_
 refine aL 3 rfl (A3 rfl rfl) rfl ?_
 refine A2 4 ?_
 refine W2 rfl rfl ((Z9 _ _ _ _ _ hre0 (A0q _))) rfl rfl rfl (fun h753 => ?_) (fun h753 => ?_)
 refine aP 5 rfl (pNt rfl) rfl ?_
 refine aP 6 rfl (qM rfl) rfl ?_
 refine aP 7 rfl (qM rfl) rfl ?_
 refine aP 8 rfl (B3 (j := 1) rfl rfl rfl (by omega)) rfl ?_
 refine aL 9 rfl (A6 rfl rfl (hat1 _) rfl) rfl ?_
 refine aP 10 rfl (qM rfl) rfl ?_
 refine aP 11 rfl (B3 (j := 2) rfl rfl rfl (by omega)) rfl ?_
 refine aL 12 rfl (A6 rfl rfl (hat2 _) rfl) rfl ?_
 refine A2 13 ?_
 refine W2 rfl rfl ((Z9 _ _ _ _ _ hre1 hre2)) rfl rfl rfl (fun h763 => ?_) (fun h763 => ?_)
 refine aP 14 rfl (pNt rfl) rfl ?_
 refine aP 15 rfl (S2 rfl rfl) rfl ?_
 refine B9 (nS (cF rfl (tK (nS (tS ?_)))))
 (have hl3 : n = 3 := hop.2.1 (by omega); obtain ⟨b0, o0, q0, d0, hp0, hat0, hre0, hg0⟩ := hsl.kidD hkl (i := 0) (by omega) (by omega); obtain ⟨b1, o1, q1, d1, hp1, hat1, hre1, hg1⟩ := hsl.kidD hkl (i := 1) (by omega) (by omega); cases hp0; cases hp1; obtain ⟨b2, o2, q2, d2, hp2, hat2, hre2, hg2⟩ := hsl.kidD hkl (i := 2) (by omega) (by omega); cases hp2; refine D7 D8 rfl ?_)
 refine H4 (i := 0) (l' := [tt,ff,ff,ff,ff,ff,ff,ff,ff]) rfl D3 (qM rfl) rfl (by kernel_rfl) rfl rfl ?_
 refine aP 1 rfl (B3 (j := 1) rfl rfl rfl (by omega)) rfl ?_
 refine aL 2 rfl (A6 rfl rfl (hat1 _) rfl) rfl ?_
 refine aP 3 rfl (qM rfl) rfl ?_
 refine aP 4 rfl (B3 (j := 2) rfl rfl rfl (by omega)) rfl ?_
 refine aL 5 rfl (A6 rfl rfl (hat2 _) rfl) rfl ?_
 refine U7 (j := 6) (j' := 7) (by kernel_rfl) ?_ ?_
 (refine P2 rfl rfl (A9v _ _ _ _ _ (by assumption) (A3h har (by omega)) (A3h har (by omega)) hre1 hre2) rfl rfl rfl (fun v GM hleM hh => ?_); obtain ⟨cM, rfl, hrM⟩ := hh; obtain ⟨p7, c7, e7, rfl, _⟩ := hrM.open)
 refine A2 7 ?_
 (refine D6 rfl (B0 rfl) rfl rfl ?_; rintro _ ⟨b782, rfl⟩)
 refine A2 8 ?_
 refine H3 rfl ?_
 refine B9 (nS (tS ?_))
 (have hl3 : n = 3 := hop.2.1 (by omega); obtain ⟨b0, o0, q0, d0, hp0, hat0, hre0, hg0⟩ := hsl.kidD hkl (i := 0) (by omega) (by omega); obtain ⟨b1, o1, q1, d1, hp1, hat1, hre1, hg1⟩ := hsl.kidD hkl (i := 1) (by omega) (by omega); cases hp0; cases hp1; obtain ⟨b2, o2, q2, d2, hp2, hat2, hre2, hg2⟩ := hsl.kidD hkl (i := 2) (by omega) (by omega); cases hp2; refine D7 D8 rfl ?_)
 refine V5 (i := 0) (l' := [tt,ff,ff,ff,ff,ff,ff,ff]) rfl D3 (A3 rfl rfl) rfl (by kernel_rfl) rfl rfl ?_
 refine aL 1 rfl (A3 rfl rfl) rfl ?_
 refine aL 2 rfl (A3 rfl rfl) rfl ?_
 refine aL 4 rfl (A3 rfl rfl) rfl ?_
 refine A2 3 ?_
 (refine D6 rfl (B4 rfl rfl rfl (by omega) (by unfold maxLen; omega) rfl) rfl rfl ?_; rintro _ ⟨b794, rfl⟩)
 refine aP 5 rfl (qA rfl) rfl ?_
 refine A2 6 ?_
 refine H3 rfl ?_
 refine aP 7 rfl (qA rfl) rfl ?_
 refine B9 (nS ?_)
 (refine I5 Pk.here (fun G5 hle5 hsl5 hno5 => ?_))
 refine tT (rB (rS ?_))
 refine K7 (rT rfl) (rC rfl (A3 rfl rfl)) (rT rfl) ?_
 (have hk1 : k = 9 := (by omega); subst hk1; exact K6.three hsl5 (A0q _) (hrM.mono hle5) (hrM.mono hle5) (hrM.mono hle5) (by rw [mW9, if_pos ⟨by assumption, by assumption⟩]; rfl))
 (refine D6 rfl (B0 rfl) rfl rfl ?_; rintro _ ⟨b807, rfl⟩)
 refine A2 6 ?_
 (refine P2 rfl rfl (A9v _ _ _ _ _ (by assumption) (A3h har (by omega)) (A3h har (by omega)) hre1 hre2) rfl rfl rfl (fun v GM hleM hh => ?_); obtain ⟨cM, rfl, hrM⟩ := hh; obtain ⟨p7, c7, e7, rfl, _⟩ := hrM.open)
 refine A2 8 ?_
 refine H3 rfl ?_
 refine B9 (nS (tS ?_))
 (have hl3 : n = 3 := hop.2.1 (by omega); obtain ⟨b0, o0, q0, d0, hp0, hat0, hre0, hg0⟩ := hsl.kidD hkl (i := 0) (by omega) (by omega); obtain ⟨b1, o1, q1, d1, hp1, hat1, hre1, hg1⟩ := hsl.kidD hkl (i := 1) (by omega) (by omega); cases hp0; cases hp1; obtain ⟨b2, o2, q2, d2, hp2, hat2, hre2, hg2⟩ := hsl.kidD hkl (i := 2) (by omega) (by omega); cases hp2; refine D7 D8 rfl ?_)
 refine V5 (i := 0) (l' := [tt,ff,ff,ff,ff,ff,ff,ff]) rfl D3 (A3 rfl rfl) rfl (by kernel_rfl) rfl rfl ?_
 refine aL 1 rfl (A3 rfl rfl) rfl ?_
 refine aL 2 rfl (A3 rfl rfl) rfl ?_
 refine aL 4 rfl (A3 rfl rfl) rfl ?_
 refine A2 3 ?_
 (refine D6 rfl (B4 rfl rfl rfl (by omega) (by unfold maxLen; omega) rfl) rfl rfl ?_; rintro _ ⟨b821, rfl⟩)
 refine aP 5 rfl (qA rfl) rfl ?_
 refine A2 6 ?_
 refine H3 rfl ?_
 refine aP 7 rfl (qA rfl) rfl ?_
 refine B9 (nS ?_)
 (refine I5 Pk.here (fun G5 hle5 hsl5 hno5 => ?_))
 refine tT (rB (rS ?_))
 refine K7 (rT rfl) (rC rfl (A3 rfl rfl)) (rT rfl) ?_
 (have hk1 : k = 9 := (by omega); subst hk1; exact K6.three hsl5 (A0q _) (hrM.mono hle5) (hrM.mono hle5) (hrM.mono hle5) (by rw [mW9, if_pos ⟨by assumption, by assumption⟩]; rfl))
 refine aP 14 rfl (pNf rfl) rfl ?_
 refine aP 15 rfl (S2 rfl rfl) rfl ?_
 refine J5 ?_
 refine K7 (rT rfl) (rC rfl (A3 rfl rfl)) (rT rfl) ?_
 (have hk1 : k = 9 := (by omega); subst hk1; exact K6.nil (u := A5) (N8 _ ⟨by omega, by omega⟩) (by rw [mW9, if_neg (fun hc => by first | exact Bool.noConfusion (hc.1.symm.trans (by assumption)) | exact Bool.noConfusion (hc.2.symm.trans (by assumption)) | exact Bool.noConfusion (hc.symm.trans (by assumption)))]; rfl))
 refine aP 5 rfl (pNf rfl) rfl ?_
 refine aP 6 rfl (qM rfl) rfl ?_
 refine E0 7 rfl rfl rfl ?_
 refine E0 8 rfl rfl rfl ?_
 refine E0 9 rfl rfl rfl ?_
 refine E0 10 rfl rfl rfl ?_
 refine E0 11 rfl rfl rfl ?_
 refine E0 12 rfl rfl rfl ?_
 refine E0 13 rfl rfl rfl ?_
 refine E0 14 rfl rfl rfl ?_
 refine aP 15 rfl (N4 rfl rfl) rfl ?_
 refine J5 ?_
 refine K7 (rT rfl) (rC rfl (A3 rfl rfl)) (rT rfl) ?_
 (have hk1 : k = 9 := (by omega); subst hk1; exact K6.nil (u := A5) (N8 _ ⟨by omega, by omega⟩) (by rw [mW9, if_neg (fun hc => by first | exact Bool.noConfusion (hc.1.symm.trans (by assumption)) | exact Bool.noConfusion (hc.2.symm.trans (by assumption)) | exact Bool.noConfusion (hc.symm.trans (by assumption)))]; rfl))
 refine sQ (qA rfl) rfl (sD (nS (cF rfl (tS (tR ?_)))))
 refine sB (qE rfl rfl) rfl rfl (fun h887 => ?_) (fun h887 => ?_)
 refine sQ (qA rfl) rfl (sD (nS (qT rfl (tS ?_))))
 (have hl2 : n = 2 := hop.1 (by omega); obtain ⟨b0, o0, q0, d0, hp0, hat0, hre0, hg0⟩ := hsl.kidD hkl (i := 0) (by omega) (by omega); obtain ⟨b1, o1, q1, d1, hp1, hat1, hre1, hg1⟩ := hsl.kidD hkl (i := 1) (by omega) (by omega); cases hp0; cases hp1; refine D7 D8 rfl ?_)
 refine H4 (i := 0) (l' := [tt,ff,ff,ff,ff,ff,ff,ff,ff,ff]) rfl D3 (qM rfl) rfl (by kernel_rfl) rfl rfl ?_
 refine aP 1 rfl (B3 (j := 0) rfl rfl rfl (by omega)) rfl ?_
 refine aL 2 rfl (A6 rfl rfl (hat0 _) rfl) rfl ?_
 refine aP 3 rfl (qM rfl) rfl ?_
 refine aP 4 rfl (B3 (j := 1) rfl rfl rfl (by omega)) rfl ?_
 refine aL 5 rfl (A6 rfl rfl (hat1 _) rfl) rfl ?_
 refine A2 6 ?_
 (refine P2 rfl rfl (A2L 5 _ _ _ _ _ ⟨by omega, by omega⟩ hre0 hre1) rfl rfl rfl (fun v GB hleB hh => ?_); obtain ⟨cB, rfl, hrB⟩ := hh; obtain ⟨p7, c7, e7, rfl, _⟩ := hrB.open)
 refine aP 7 rfl (qA rfl) rfl ?_
 refine A2 8 ?_
 refine H3 rfl ?_
 refine aP 9 rfl (qA rfl) rfl ?_
 refine B9 (nS (tT (rB (rS ?_))))
 refine K7 (rT rfl) (rC rfl (A3 rfl rfl)) (rT rfl) ?_
 (have hk1 : k = 10 := (by omega); subst hk1; exact K6.nil hrB A6V)
 refine sQ (qA rfl) rfl (sD (nS (cF rfl (tS (tR ?_)))))
 refine sB (qE rfl rfl) rfl rfl (fun h919 => ?_) (fun h919 => ?_)
 refine sQ (qA rfl) rfl (sD (nS (qT rfl (tS ?_))))
 (have hl1 : n = 1 := hop.2.2 (by omega); obtain ⟨b0, o0, q0, d0, hp0, hat0, hre0, hg0⟩ := hsl.kidD hkl (i := 0) (by omega) (by omega); cases hp0; refine D7 D8 rfl ?_)
 refine H4 (i := 0) (l' := [tt,ff,ff,ff,ff,ff,ff,ff,ff,ff,ff,ff,ff,ff]) rfl D3 (B1 rfl) rfl (by kernel_rfl) rfl rfl ?_
 refine aL 1 rfl (A3 rfl rfl) rfl ?_
 refine aP 3 rfl (B1 rfl) rfl ?_
 refine aL 4 rfl (A3 rfl rfl) rfl ?_
 refine aP 5 rfl (qM rfl) rfl ?_
 refine aP 6 rfl (B3 (j := 0) rfl rfl rfl (by omega)) rfl ?_
 refine aL 7 rfl (A6 rfl rfl (hat0 _) rfl) rfl ?_
 refine aP 8 rfl (B1 rfl) rfl ?_
 refine aL 9 rfl (A3 rfl rfl) rfl ?_
 refine U7 (j := 2) (j' := 10) (by kernel_rfl) ?_ ?_
 (refine D6 rfl (B4 rfl rfl rfl (by omega) (by unfold maxLen; omega) rfl) rfl rfl ?_; rintro _ ⟨b936, rfl⟩)
 refine A2 10 ?_
 refine W2 rfl rfl ((Z9 _ _ _ _ _ hre0 hrty)) rfl rfl rfl (fun h938 => ?_) (fun h938 => ?_)
 refine aP 11 rfl (qA rfl) rfl ?_
 refine A2 12 ?_
 refine H3 rfl ?_
 refine aP 13 rfl (qA rfl) rfl ?_
 refine B9 (nS ?_)
 (refine I5 Pk.here (fun G5 hle5 hsl5 hno5 => ?_))
 refine tT (rB (rS ?_))
 refine K7 (rT rfl) (rC rfl (A3 rfl rfl)) (rT rfl) ?_
 (have hk1 : k = 13 := (by omega); subst hk1; refine K6.one hsl5 (hrty.mono hle5) (hrty.mono hle5) ?_; rw [A3i]; split <;> first | rfl | (exfalso; simp_all; done))
 refine aP 11 rfl (qA rfl) rfl ?_
 refine A2 12 ?_
 refine H3 rfl ?_
 refine aP 13 rfl (qA rfl) rfl ?_
 refine B9 (nS ?_)
 (refine I5 Pk.here (fun G5 hle5 hsl5 hno5 => ?_))
 refine tT (rB (rS ?_))
 refine K7 (rT rfl) (rC rfl (A3 rfl rfl)) (rT rfl) ?_
 (have hk1 : k = 13 := (by omega); subst hk1; refine K6.one hsl5 (hrty.mono hle5) (hrty.mono hle5) ?_; rw [A3i]; split <;> first | rfl | (exfalso; simp_all; done))
 refine W2 rfl rfl ((Z9 _ _ _ _ _ hre0 hrty)) rfl rfl rfl (fun h963 => ?_) (fun h963 => ?_)
 refine A2 2 ?_
 (refine D6 rfl (B4 rfl rfl rfl (by omega) (by unfold maxLen; omega) rfl) rfl rfl ?_; rintro _ ⟨b965, rfl⟩)
 refine aP 11 rfl (qA rfl) rfl ?_
 refine A2 12 ?_
 refine H3 rfl ?_
 refine aP 13 rfl (qA rfl) rfl ?_
 refine B9 (nS ?_)
 (refine I5 Pk.here (fun G5 hle5 hsl5 hno5 => ?_))
 refine tT (rB (rS ?_))
 refine K7 (rT rfl) (rC rfl (A3 rfl rfl)) (rT rfl) ?_
 (have hk1 : k = 13 := (by omega); subst hk1; refine K6.one hsl5 (hrty.mono hle5) (hrty.mono hle5) ?_; rw [A3i]; split <;> first | rfl | (exfalso; simp_all; done))
 refine A2 2 ?_
 (refine D6 rfl (B4 rfl rfl rfl (by omega) (by unfold maxLen; omega) rfl) rfl rfl ?_; rintro _ ⟨b979, rfl⟩)
 refine aP 11 rfl (qA rfl) rfl ?_
 refine A2 12 ?_
 refine H3 rfl ?_
 refine aP 13 rfl (qA rfl) rfl ?_
 refine B9 (nS ?_)
 (refine I5 Pk.here (fun G5 hle5 hsl5 hno5 => ?_))
 refine tT (rB (rS ?_))
 refine K7 (rT rfl) (rC rfl (A3 rfl rfl)) (rT rfl) ?_
 (have hk1 : k = 13 := (by omega); subst hk1; refine K6.one hsl5 (hrty.mono hle5) (hrty.mono hle5) ?_; rw [A3i]; split <;> first | rfl | (exfalso; simp_all; done))
 refine H9 ?_
 (have hk11 : k = 11 ∨ k = 12 := (by omega); have hl1 : n = 1 := hop.2.2 (by omega); obtain ⟨b0, o0, q0, d0, hp0, hat0, hre0, hg0⟩ := hsl.kidD hkl (i := 0) (by omega) (by omega); cases hp0; refine sP (B3 (j := 0) rfl rfl rfl (by omega)) rfl rfl ?_)
 refine sL (A6 rfl rfl (hat0 _) rfl) rfl rfl ?_
 (refine M0 rfl (A9u 5 (h.getD 0 A5) G _ (.inr rfl) (A3h har (by omega)) hre0) rfl rfl (fun v G1 hle1 hh => ?_); obtain ⟨ma, mca, mb, mcb, rfl, hma, hmb, hma2, hmb2, hmm⟩ := hh; obtain ⟨p1, c1, e1, rfl, _⟩ := hma.open; obtain ⟨p2, c2, e2, rfl, _⟩ := hmb.open)
 refine K5 ?_
 refine sE (B0 rfl) rfl (fun b1009 => ?_)
 refine sE (B0 rfl) rfl (fun b1010 => ?_)
 refine E1 ?_
 refine sE (B0 rfl) rfl (fun b1019 => ?_)
 refine E1 ?_
 refine sB (qE rfl rfl) rfl rfl (fun h1028 => ?_) (fun h1028 => ?_)
 refine E8 ?_
 (have hl1 : n = 1 := hop.2.2 (by omega); obtain ⟨b0, o0, q0, d0, hp0, hat0, hre0, hg0⟩ := hsl.kidD hkl (i := 0) (by omega) (by omega); cases hp0; refine D7 D8 rfl ?_)
 refine V5 (i := 0) (l' := [tt,ff,ff,ff,ff,ff,ff,ff,ff]) rfl D3 (A3 rfl rfl) rfl (by kernel_rfl) rfl rfl ?_
 refine aL 1 rfl (A3 rfl rfl) rfl ?_
 refine aL 4 rfl (A3 rfl rfl) rfl ?_
 refine aP 5 rfl (qM rfl) rfl ?_
 refine A2 2 ?_
 (refine P2 rfl rfl (A2L _ ma mb _ _ _ ⟨by omega, by omega⟩ hma hmb) rfl rfl rfl (fun v GB hleB hh => ?_); obtain ⟨cB, rfl, hrB⟩ := hh; obtain ⟨p7, c7, e7, rfl, _⟩ := hrB.open; have hma' := hma.mono hleB; have hmb' := hmb.mono hleB)
 refine A2 3 ?_
 (refine D6 rfl (B4 rfl rfl rfl (by omega) (by unfold maxLen; omega) rfl) rfl rfl ?_; rintro _ ⟨b1046, rfl⟩)
 refine aP 6 rfl (qA rfl) rfl ?_
 refine A2 7 ?_
 refine H3 rfl ?_
 refine aP 8 rfl (qA rfl) rfl ?_
 refine B9 (nS ?_)
 (refine I5 Pk.here (fun G5 hle5 hsl5 hno5 => ?_))
 refine tT ?_
 refine K7 (rT rfl) (rC rfl (A3 rfl rfl)) (rT rfl) ?_
 (refine K6.one hsl5 (hrB.mono hle5) (hmb'.mono hle5) ?_; rw [A38 (by omega)]; cases hq : R3 5 (h.getD 0 A5) with | none => rfl | some q => (have hq2 := hmm q hq; subst hq2; dsimp only; rw [if_pos (by omega)]; rfl))
 refine sD (nS (cF rfl (tK (nS (tS ?_)))))
 (have hl1 : n = 1 := hop.2.2 (by omega); obtain ⟨b0, o0, q0, d0, hp0, hat0, hre0, hg0⟩ := hsl.kidD hkl (i := 0) (by omega) (by omega); cases hp0; refine D7 D8 rfl ?_)
 refine V5 (i := 0) (l' := [tt,ff,ff,ff,ff,ff,ff,ff,ff]) rfl D3 (A3 rfl rfl) rfl (by kernel_rfl) rfl rfl ?_
 refine aL 1 rfl (A3 rfl rfl) rfl ?_
 refine aL 4 rfl (A3 rfl rfl) rfl ?_
 refine aP 5 rfl (qM rfl) rfl ?_
 refine A2 2 ?_
 (refine P2 rfl rfl (A2L _ ma mb _ _ _ ⟨by omega, by omega⟩ hma hmb) rfl rfl rfl (fun v GB hleB hh => ?_); obtain ⟨cB, rfl, hrB⟩ := hh; obtain ⟨p7, c7, e7, rfl, _⟩ := hrB.open; have hma' := hma.mono hleB; have hmb' := hmb.mono hleB)
 refine A2 3 ?_
 (refine D6 rfl (B4 rfl rfl rfl (by omega) (by unfold maxLen; omega) rfl) rfl rfl ?_; rintro _ ⟨b1071, rfl⟩)
 refine aP 6 rfl (qA rfl) rfl ?_
 refine A2 7 ?_
 refine H3 rfl ?_
 refine aP 8 rfl (qA rfl) rfl ?_
 refine B9 (nS ?_)
 (refine I5 Pk.here (fun G5 hle5 hsl5 hno5 => ?_))
 refine tT ?_
 refine K7 (rT rfl) (rC rfl (A3 rfl rfl)) (rT rfl) ?_
 (refine K6.one hsl5 (hrB.mono hle5) (hma'.mono hle5) ?_; rw [A38 (by omega)]; cases hq : R3 5 (h.getD 0 A5) with | none => rfl | some q => (have hq2 := hmm q hq; subst hq2; dsimp only; rw [if_neg (by omega)]; rfl))
theorem A9w {cx : Cx} {k : Int} {nm : ByteArray} {ty : Ty} {h w : List Ty} {t : Ty} (he : A0c cx k nm ty h = some (w, t)) : E4 t = true ∧ M8 cx k nm ty h = some (w, t) := by
 unfold A0c at he
 split at he
 ·rename_i w' t' hw
  split at he
  ·cases he; exact ⟨by assumption, hw⟩
  ·cases he
 ·cases he
theorem B4x {cx : Cx} {k : Int} {nm : ByteArray} {ty : Ty} {h w : List Ty} {t : Ty} (hop : (k = 6 ∨ k = 7 ∨ k = 8 ∨ k = 10 → h.length = 2) ∧ (k = 9 → h.length = 3) ∧ (k = 5 ∨ k = 11 ∨ k = 12 ∨ k = 13 → h.length = 1)) (hk : 1 ≤ k ∧ k ≤ 14) (h14 : k ≠ 14) (he : M8 cx k nm ty h = some (w, t)) : w.length ≤ h.length := by
 have hkk : k = 1 ∨ k = 2 ∨ (k = 3 ∨ k = 4) ∨ k = 5 ∨ k = 6 ∨ (k = 7 ∨ k = 8) ∨ k = 9 ∨ k = 10 ∨ (k = 11 ∨ k = 12) ∨ k = 13 := by omega
 rcases hkk with rfl | rfl | hk | rfl | rfl | hk | rfl | rfl | hk | rfl
 ·rw [mW1] at he; split at he <;> cases he; simp
 ·rw [mW2] at he; cases he; simp
 ·rw [A5d hk] at he; cases he; simp
 ·rw [mW5] at he; cases he; simp
 ·rw [mW6] at he
  split at he
  ·split at he <;> cases he
   have := hop.1 (by omega); simp [this]
  ·cases he
 ·rw [X5 hk] at he
  split at he <;> cases he
  have := hop.1 (by omega); simp [this]
 ·rw [mW9] at he
  split at he <;> cases he
  have := hop.2.1 (by omega); simp [this]
 ·rw [A6V] at he; cases he; simp
 ·rw [A38 hk] at he
  split at he
  ·cases he; have := hop.2.2 (by omega); simp [this]
  ·cases he
 ·rw [A3i] at he
  split at he <;> cases he
  have := hop.2.2 (by omega); simp [this]
theorem U4.snoc {G G' : IM} {cx : Cx} {n : Nat} {p' : Option Addr} {c' : Nat} {es : List (List Value)} {e : List Value} {nm : ByteArray} {t : Ty} (h1 : n = cx.length) (hl : es.length = n) (h2 : ∀ x ∈ es, x.length = 3) (h3 : ∀ x ∈ es, x.all (·.oneCell') = true)
  (h4 : ∀ (i : Nat) (b : ByteArray × Ty), cx[i]? = some b → ∃ e, es[i]? = some e ∧ A3g G b e) (hg : A7 G G') (he : A3g G' (nm, t) e) (hs : Sl G' p' (n + 1) c' 3 (es.flatten ++ e)) : U4 G' (cx ++ [(nm, t)]) p' (n + 1) c' := by
 have hel : e.length = 3 ∧ e.all (·.oneCell') = true := by obtain ⟨q, d, rfl, _⟩ := he; exact ⟨rfl, rfl⟩
 refine ⟨by simp [h1], es ++ [e], C0.of (by simpa using hs) (by simp [hl]) ?_ ?_, ?_⟩
 ·simp only [List.forall_mem_append, List.forall_mem_singleton]; exact ⟨h2, hel.1⟩
 ·simp only [List.forall_mem_append, List.forall_mem_singleton]; exact ⟨h3, hel.2⟩
 ·intro i b hb
  rw [List.getElem?_append] at hb ⊢
  split at hb
  ·rename_i hi
   obtain ⟨e', he', hr⟩ := h4 i b hb
   rw [if_pos (by omega)]
   exact ⟨e', he', hr.mono hg⟩
  ·rename_i hi
   have : i - cx.length = 0 := by
    apply Classical.byContradiction; intro hc
    rw [List.getElem?_eq_none (by simp; omega)] at hb; cases hb
   rw [this] at hb
   simp only [List.getElem?_cons_zero, Option.some.injEq] at hb
   subst hb
   rw [if_neg (by omega)]
   exact ⟨e, by rw [show i - es.length = 0 by omega]; rfl, he⟩
theorem B4y (G : IM) (p : Option Addr) (n c : Nat) (es : List (List Value)) (h : C0 G p n c 3 es) (hn : n ≤ 4294967296) :
  Fn Tryz.prog 202 [.slice p n c] [] G (fun G' v outs => G' = G ∧ ∃ p' c', v = .slice p' n c' ∧ outs = [.slc p' c' 161 3 n es.flatten]) := by
 have hp := h.sl.nn
 have hS := h.sl
 have hone : ∀ u ∈ es.flatten, u.oneCell' = true := by
  intro u hu
  obtain ⟨e, he, hue⟩ := List.mem_flatten.1 hu
  exact List.all_eq_true.1 (h.one e he) u hue
 refine B6 Tryz.func202 rfl Tryz.ntmps202 Tryz.results202 rfl ?_
 intro w0
 cases p with
 | none =>
  obtain rfl := hp rfl
  obtain rfl : es = [] := List.length_eq_zero_iff.1 h.len
  refine W9 161 3 ?_
  refine E8 ?_
  refine sQ (A5Q rfl rfl rfl) rfl ?_
  refine H9 ?_
  refine E3 (rT rfl) A0.refl ?_
  exact ⟨rfl, _, _, rfl, rfl⟩
 | some a =>
  refine E8 ?_
  refine sQ (A5R rfl rfl rfl) rfl ?_
  refine sD (nS (cF rfl (tK (nS (tS (tR ?_))))))
  (refine E9 (B4 rfl rfl rfl (by omega) (by unfold maxLen; omega) rfl) rfl ?_; rintro _ ⟨b18, rfl⟩)
  refine sQ (qM rfl) rfl ?_
  refine A3T rfl rfl rfl rfl rfl (fun _ _ => by repeat (first | exact Sw.here | apply Sw.there)) hS hone (Nat.zero_le _) (by unfold maxLen; omega) (by omega) rfl (fun pn cn => ?_)
  refine sQ (qA rfl) rfl (sD (nS (tT ?_)))
  refine E3 (rT rfl) A0.refl ?_
  exact ⟨rfl, _, _, by rw [Nat.zero_add], by rw [Nat.zero_add]; rfl⟩
theorem Y8.no {r : Option Ty} {G G' : IM} {cu : List Value} {u : Ty} {b : Bool} (hu : A8 G' u cu) (hb : b = false) (h : r = none) : Y8 r G G' (.tuple ⟨[.agg ⟨cu⟩, .bool b]⟩) [] := by
 subst hb h
 exact ⟨rfl, cu, u, rfl, hu, by simp⟩
theorem Y8.yes {r : Option Ty} {G G' : IM} {cu : List Value} {u : Ty} {b : Bool} (hu : A8 G' u cu) (hb : b = true) (h : r = some u) : Y8 r G G' (.tuple ⟨[.agg ⟨cu⟩, .bool b]⟩) [] := by
 subst hb h
 exact ⟨rfl, cu, u, rfl, hu, fun t ht => by cases ht; rfl⟩
section
variable {cx : Cx} {k : Int} {nm : ByteArray} {num : Int} {ty fr : Ty} {lb : Int} {ks : List Tm}
theorem A39 {us w : List Ty} {t : Ty} (h : M8 cx k nm ty us = some (w, t)) {b : Bool} (hb : E4 t = b) : A0c cx k nm ty us = if b = true then some (w, t) else none := by
 unfold A0c; rw [h]; simp only [hb]
theorem B4z {us : List Ty} (h : M8 cx k nm ty us = none) : A0c cx k nm ty us = none := by
 unfold A0c; rw [h]
end
def A6W (r : Tm) : Tm × Bool := if W4 r = true then (r, true) else (I2, false)
def B7W (t : Tm) (path : List Int) (x : Tm) : Tm × Bool := if W4 t = true ∧ W4 x = true ∧ tAt t path ≠ none then A6W (A8O t path x) else (I2, false)
def D9 : List Tm → List Ty → List Ty → Int → List Tm × Int
 | u :: us, a :: h, b :: w, l => if Q2 a b = true then (u :: (D9 us h w l).1, (D9 us h w l).2) else (R4 u a b (l + 1) :: (D9 us h w (l + 1)).1, (D9 us h w (l + 1)).2)
 | us, _, _, l => (us, l)
def Q6 (cx : Cx) (k : Int) (nm : ByteArray) (num : Int) (ty fr : Ty) (lb : Int) (us : List Tm) (h : List Ty) (l : Int) : Option (Tm × Ty × Int) :=
 match A0c cx k nm ty h with
 | none => none
 | some (w, t) => some (if k = 13 then (D9 us h w l).1.getD 0 I2 else .mk k nm num ty fr lb (D9 us h w l).1, t, (D9 us h w l).2)
mutual
def L9 (cx : Cx) : Tm → Int → Option (Tm × Ty × Int)
 | .mk k nm num ty fr lb ks, l => match L6 (O8 cx k nm ty) ks l with
  | none => none
  | some (us, h, l') => Q6 cx k nm num ty fr lb us h l'
def L6 (cx : Cx) : List Tm → Int → Option (List Tm × List Ty × Int)
 | [], l => some ([], [], l)
 | t :: ts, l => match L9 cx t l with
  | none => none
  | some (u, a, l') => match L6 cx ts l' with
   | none => none
   | some (us, h, l'') => some (u :: us, a :: h, l'')
end
def X6 (e : Tm) : Option (Tm × Ty) := if O6 e = true then (match L9 [] e 0 with | some (u, t, _) => some (u, t) | none => none) else none
def Y0 (cx : Cx) (k : Int) (nm : ByteArray) (ty : Ty) (h : List Ty) : Option Ty := match M8 cx k nm ty h with
 | some (_, t) => if (k = 5 ∨ k = 10) ∧ E4 t = false then none else some t
 | none => none
mutual
def Q3 (cx : Cx) : Tm → Option Ty
 | .mk k nm num ty fr lb ks => match X1 (O8 cx k nm ty) ks with
  | none => none
  | some h => Y0 cx k nm ty h
def X1 (cx : Cx) : List Tm → Option (List Ty)
 | [] => some []
 | t :: ts => match Q3 cx t with
  | none => none
  | some a => match X1 cx ts with
   | none => none
   | some h => some (a :: h)
end
theorem A2e (k : Int) (ks : List Ty) (d : Int) : K3 (.mk k ks) d = (decide (d ≤ 4) && decide (V9 k = ks.length) && U2 ks (d + 1)) := by rw [K3]
mutual
theorem A4a : ∀ (t : Ty) (d e : Int), e ≤ d → K3 t d = true → K3 t e = true
 | .mk k ks, d, e, h, hs => by
  rw [A2e, Bool.and_eq_true, Bool.and_eq_true, decide_eq_true_eq, decide_eq_true_eq] at hs ⊢
  exact ⟨⟨by omega, hs.1.2⟩, A9x ks (d + 1) (e + 1) (by omega) hs.2⟩
theorem A9x : ∀ (ts : List Ty) (d e : Int), e ≤ d → U2 ts d = true → U2 ts e = true
 | [], d, e, h, hs => by rw [U2]
 | t :: ts, d, e, h, hs => by
  rw [U2, Bool.and_eq_true] at hs ⊢
  exact ⟨A4a t d e h hs.1, A9x ts d e h hs.2⟩
end
mutual
theorem A6X : ∀ (a b : Ty) (d : Int), J6 a b = true → K3 a d = true → K3 b d = true → K3 (V2 a b) d = true
 | .mk k ks, .mk k' ks', d, hc, ha, hb => by
  rw [A1d]
  split
  ·exact hb
  ·split
   ·exact ha
   ·rw [T0] at hc
    rw [A2e, Bool.and_eq_true, Bool.and_eq_true, decide_eq_true_eq, decide_eq_true_eq] at ha hb ⊢
    simp only [Bool.or_eq_true, Bool.and_eq_true, decide_eq_true_eq] at hc
    obtain ⟨hk, hl⟩ : k = k' ∧ M6 ks ks' = true := by
     rcases hc with (h | h) | h
     ·contradiction
     ·contradiction
     ·exact h
    subst hk
    obtain ⟨m1, m2⟩ := A9y ks ks' (d + 1) hl ha.2 hb.2
    exact ⟨⟨ha.1.1, by rw [m2]; exact ha.1.2⟩, m1⟩
theorem A9y : ∀ (xs ys : List Ty) (d : Int), M6 xs ys = true → U2 xs d = true → U2 ys d = true → U2 (T4 xs ys) d = true ∧ (T4 xs ys).length = xs.length
 | [], [], d, _, _, _ => by simp [T4, U2]
 | [], b :: ys, d, hc, _, _ => by simp [M6] at hc
 | a :: xs, [], d, hc, _, _ => by simp [M6] at hc
 | a :: xs, b :: ys, d, hc, ha, hb => by
  rw [M6, Bool.and_eq_true] at hc
  rw [U2, Bool.and_eq_true] at ha hb
  obtain ⟨m1, m2⟩ := A9y xs ys d hc.2 ha.2 hb.2
  rw [T4, U2, Bool.and_eq_true]
  exact ⟨⟨A6X a b d hc.1 ha.1 hb.1, m1⟩, by simp [m2]⟩
end
theorem A6Y {cx : Cx} (h : ∀ b ∈ cx, E4 b.2 = true) {nm : ByteArray} {t : Ty} : ∀ {n : Nat}, X9 cx nm n = some t → E4 t = true
 | 0, hl => by simp [X9] at hl
 | n + 1, hl => by
  rw [X9] at hl
  split at hl
  ·rename_i b hb
   split at hl
   ·cases hl; exact h b (List.mem_of_getElem? hb)
   ·exact A6Y h hl
  ·exact A6Y h hl
theorem A9z {k : Int} {t a b : Ty} (hk : k = 4 ∨ k = 5) (ht : E4 t = true) (h : R3 k t = some (a, b)) : E4 a = true ∧ E4 b = true := by
 obtain ⟨tk, ks⟩ := t
 rw [show R3 k (.mk tk ks) = (if tk = k then some (ks.getD 0 A5, ks.getD 1 A5) else if tk = 1 then some (O4, O4) else none) from rfl] at h
 by_cases he : tk = k
 ·rw [if_pos he] at h
  cases h
  unfold E4 at ht ⊢
  rw [A2e, Bool.and_eq_true, Bool.and_eq_true, decide_eq_true_eq, decide_eq_true_eq] at ht
  have h2 : ks.length = 2 := by
   have : V9 tk = 2 := by rw [he]; rcases hk with rfl | rfl <;> rfl
   omega
  match ks, h2, ht.2 with
  | [x, y], _, hL =>
   simp only [U2, Bool.and_eq_true] at hL
   exact ⟨A4a _ 2 1 (by omega) hL.1, A4a _ 2 1 (by omega) hL.2.1⟩
 ·rw [if_neg he] at h
  by_cases h1 : tk = 1
  ·rw [if_pos h1] at h
   cases h
   exact ⟨by decide, by decide⟩
  ·rw [if_neg h1] at h; cases h
theorem B4A {l : List Ty} {i : Nat} (h : i < l.length) : l.getD i A5 ∈ l := by
 rw [List.getD_eq_getElem?_getD, List.getElem?_eq_getElem h, Option.getD_some]; exact List.getElem_mem h
theorem B4B {cx : Cx} {k : Int} {nm : ByteArray} {ty : Ty} {h w : List Ty} {t : Ty} (hcx : ∀ b ∈ cx, E4 b.2 = true) (hh : ∀ a ∈ h, E4 a = true) (hd : E4 (h.getD 0 A5) = true ∨ h = []) (hty : k = 13 → E4 ty = true) (hn : D5 k = (h.length : Int)) (hw : M8 cx k nm ty h = some (w, t)) (h510 : k ≠ 5 ∧ k ≠ 10) : E4 t = true := by
 have hg : ∀ i, i < h.length → E4 (h.getD i A5) = true := fun i hi => hh _ (B4A hi)
 unfold M8 at hw
 split at hw
 ·split at hw
  ·rename_i u hu; cases hw; exact A6Y hcx hu
  ·cases hw
 split at hw
 ·cases hw; decide
 split at hw
 ·cases hw; decide
 split at hw
 ·exact absurd (by assumption) h510.1
 split at hw
 ·rename_i hk6
  have hl : h.length = 2 := by have : D5 k = 2 := (by rw [hk6]; rfl); omega
  split at hw
  ·rename_i a b hm
   split at hw
   ·cases hw; exact (A9z (.inl rfl) (hg 0 (by omega)) hm).2
   ·cases hw
  ·cases hw
 split at hw
 ·split at hw
  ·cases hw; split <;> decide
  ·cases hw
 split at hw
 ·rename_i hk9
  have hl : h.length = 3 := by have : D5 k = 3 := (by rw [hk9]; rfl); omega
  split at hw
  ·rename_i hc
   cases hw
   exact A6X _ _ 1 hc.2 (hg 1 (by omega)) (hg 2 (by omega))
  ·cases hw
 split at hw
 ·exact absurd (by assumption) h510.2
 split at hw
 ·split at hw
  ·cases hw; exact hty (by assumption)
  ·cases hw
 ·split at hw
  ·rename_i a b hm
   have hl : h.length ≠ 0 := by
    intro h0
    rw [List.length_eq_zero_iff] at h0
    subst h0
    rw [show R3 5 (([] : List Ty).getD 0 A5) = none from rfl] at hm
    cases hm
   cases hw
   have := A9z (.inr rfl) (hg 0 (by omega)) hm
   split
   ·exact this.2
   ·exact this.1
  ·cases hw
def Y9 (cx : Cx) : Prop := ∀ b ∈ cx, E4 b.2 = true
theorem A4b : Y9 [] := by intro b hb; simp at hb
theorem A4c {cx : Cx} {k : Int} {nm : ByteArray} {ty : Ty} (h : Y9 cx) (ht : k = 5 → E4 ty = true) : Y9 (O8 cx k nm ty) := by
 unfold O8
 split
 ·intro b hb
  rcases List.mem_append.1 hb with hb | hb
  ·exact h b hb
  ·obtain rfl := List.mem_singleton.1 hb; exact ht (by assumption)
 ·exact h
theorem B4C {cx : Cx} {k : Int} {nm : ByteArray} {ty : Ty} {h : List Ty} (hcx : Y9 cx) (hh : ∀ a ∈ h, E4 a = true) (hty : k = 13 → E4 ty = true) (hn : D5 k = (h.length : Int)) :
  (∀ w t, A0c cx k nm ty h = some (w, t) → Y0 cx k nm ty h = some t ∧ E4 t = true) ∧ (A0c cx k nm ty h = none → Y0 cx k nm ty h = none) := by
 unfold A0c Y0
 have hv := fun w t (e : M8 cx k nm ty h = some (w, t)) (h5 : k ≠ 5 ∧ k ≠ 10) => B4B hcx hh (by cases h with | nil => exact .inr rfl | cons x xs => exact .inl (hh _ (by simp))) hty hn e h5
 cases hw : M8 cx k nm ty h with
 | none => simp
 | some p =>
  obtain ⟨w, t⟩ := p
  have hv := hv w t hw
  simp only
  by_cases h5 : k = 5 ∨ k = 10
  ·cases ht : E4 t with
   | true => simp [ht]
   | false => simp [h5]
  ·have := hv (by omega)
   simp [this]
theorem A9A (ks : List Tm) (ih : ∀ t ∈ ks, ∀ d cx l, I9 12 14 t d = true → Y9 cx → (∀ u a l', L9 cx t l = some (u, a, l') → Q3 cx t = some a ∧ E4 a = true) ∧ (L9 cx t l = none → Q3 cx t = none)) :
  ∀ d cx l, F8 12 14 ks d = true → Y9 cx → (∀ us h l', L6 cx ks l = some (us, h, l') → X1 cx ks = some h ∧ (∀ a ∈ h, E4 a = true) ∧ h.length = ks.length ∧ us.length = ks.length) ∧ (L6 cx ks l = none → X1 cx ks = none) := by
 induction ks with
 | nil =>
  intro d cx l _ _
  refine ⟨fun us h l' he => ?_, fun he => by simp [L6] at he⟩
  simp only [L6, Option.some.injEq, Prod.mk.injEq] at he
  obtain ⟨rfl, rfl, _⟩ := he
  exact ⟨by rw [X1], by simp, rfl, rfl⟩
 | cons t ts ihl =>
  intro d cx l hs hcx
  rw [F8, Bool.and_eq_true] at hs
  obtain ⟨a1, a2⟩ := ih t List.mem_cons_self d cx l hs.1 hcx
  rw [L6, X1]
  cases he : L9 cx t l with
  | none => rw [a2 he]; exact ⟨fun _ _ _ h => by simp at h, fun _ => rfl⟩
  | some p =>
   obtain ⟨u, a, l1⟩ := p
   obtain ⟨b1, b2⟩ := a1 u a l1 he
   rw [b1]
   obtain ⟨c1, c2⟩ := ihl (fun x hx => ih x (List.mem_cons_of_mem _ hx)) d cx l1 hs.2 hcx
   simp only
   cases hL : L6 cx ts l1 with
   | none => rw [c2 hL]; exact ⟨fun _ _ _ h => by simp at h, fun _ => rfl⟩
   | some q =>
    obtain ⟨us, h, l2⟩ := q
    obtain ⟨d1, d2, d3, d4⟩ := c1 us h l2 hL
    rw [d1]
    refine ⟨fun us' h' l' e => ?_, fun e => by simp at e⟩
    simp only [Option.some.injEq, Prod.mk.injEq] at e
    obtain ⟨rfl, rfl, _⟩ := e
    refine ⟨rfl, fun x hx => ?_, by simp [d3], by simp [d4]⟩
    rcases List.mem_cons.1 hx with rfl | hx
    ·exact b2
    ·exact d2 x hx
theorem A4d : ∀ (t : Tm) (d : Int) (cx : Cx) (l : Int), I9 12 14 t d = true → Y9 cx → (∀ u a l', L9 cx t l = some (u, a, l') → Q3 cx t = some a ∧ E4 a = true) ∧ (L9 cx t l = none → Q3 cx t = none) := by
 refine Tm.ind fun k nm num ty fr lb ks ih d cx l hs hcx => ?_
 obtain ⟨_, _, h3, h4⟩ := R8 hs
 obtain ⟨n1, _, _, _, _, n6, _⟩ := R7.1 h3
 obtain ⟨L1, L2⟩ := A9A ks ih (d + 1) (O8 cx k nm ty) l h4 (A4c hcx fun hk => n6 (by omega))
 rw [L9, Q3]
 cases hL : L6 (O8 cx k nm ty) ks l with
 | none => rw [L2 hL]; exact ⟨fun _ _ _ h => by simp at h, fun _ => rfl⟩
 | some q =>
  obtain ⟨us, h, l2⟩ := q
  obtain ⟨d1, d2, d3, d4⟩ := L1 us h l2 hL
  rw [d1]
  obtain ⟨e1, e2⟩ := B4C (k := k) (nm := nm) (ty := ty) hcx d2 (fun hk => n6 (.inr (.inl hk))) (by rw [d3]; exact n1)
  simp only [Q6]
  cases hN : A0c cx k nm ty h with
  | none => rw [e2 hN]; exact ⟨fun _ _ _ h => by simp at h, fun _ => rfl⟩
  | some p =>
   obtain ⟨w, t⟩ := p
   obtain ⟨f1, f2⟩ := e1 w t hN
   rw [f1]
   refine ⟨fun u a l' e => ?_, fun e => by simp at e⟩
   simp only [Option.some.injEq, Prod.mk.injEq] at e
   obtain ⟨_, rfl, _⟩ := e
   exact ⟨rfl, f2⟩
end Gw
end Go.Proofs.YtgodjiieijekiaaGreatDoor
