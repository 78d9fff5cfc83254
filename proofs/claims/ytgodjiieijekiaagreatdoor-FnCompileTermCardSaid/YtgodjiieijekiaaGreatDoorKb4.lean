/-
  Which codes are valid: the program and the reference say the same.
-/
import Derived.Test.YtgodjiieijekiaaGreatDoorKb2
import Derived.Test.YtgodjiieijekiaaGreatDoorKb1
import Derived.Test.YtgodjiieijekiaaGreatDoorKb0
import Derived.Test.YtgodjiieijekiaaGreatDoorKb3
import Init
import Derived.Lib.ItoaNum
set_option linter.unusedVariables false
set_option linter.unusedSimpArgs false
set_option maxHeartbeats 0
set_option maxRecDepth 100000
set_option synthInstance.maxSize 4000
set_option synthInstance.maxHeartbeats 0
namespace Go.Proofs.YtgodjiieijekiaaGreatDoor
open Go Go.RowKit
namespace Gw
abbrev J0 := List (Int × Int)
def A24 (x : Int × Int) : List Value := [.int .i64 x.1, .int .i64 x.2]
structure T0 (G : IM) (ops : J0) (p : Option Addr) (n c : Nat) : Prop where
 sl : C5 G p n c 2 (ops.map A24)
 len : n = ops.length
 rng : ∀ x ∈ ops, C6 x.1 ∧ C6 x.2
theorem T0.mono {G G' : IM} {ops : J0} {p : Option Addr} {n c : Nat} (h : T0 G ops p n c) (hg : B4 G G') : T0 G' ops p n c := ⟨h.sl.mono hg, h.len, h.rng⟩
theorem T0.get {G : IM} {ops : J0} {p : Option Addr} {n c : Nat} (h : T0 G ops p n c) {i : Nat} (hi : i < n) :
  ∃ b o, p = some ⟨b, o, none⟩ ∧ (∀ hp, At hp G b (o + i * 2) [.int .i64 (ops.getD i (0, 0)).1, .int .i64 (ops.getD i (0, 0)).2]) ∧ C6 (ops.getD i (0, 0)).1 ∧ C6 (ops.getD i (0, 0)).2 ∧ G b ≠ none := by
 have hn := h.len
 have hi' : i < ops.length := by omega
 obtain ⟨e, b, o, he, hp, _, _, hat, hg⟩ := h.sl.get hi
 have hx : ops[i]? = some ops[i] := List.getElem?_eq_getElem hi'
 have hd : ops.getD i (0, 0) = ops[i] := by rw [List.getD_eq_getElem?_getD, hx, Option.getD_some]
 rw [List.getElem?_map, hx, Option.map_some] at he
 replace he := Option.some.inj he
 subst he
 have hr := h.rng _ (List.getElem_mem hi')
 rw [hd]
 exact ⟨b, o, hp, hat, hr.1, hr.2, hg⟩
theorem A6j {ops : J0} {i : Nat} (hi : i < ops.length) (h : M3 ops.length i (ops.getD i (0, 0)) = false) : Q6 ops = false := by
 unfold Q6
 rw [Bool.and_eq_false_iff]; right
 rw [List.all_eq_false]
 exact ⟨i, List.mem_range.2 hi, by rw [h]; exact Bool.false_ne_true⟩
theorem A3V {ops : J0} (h : ¬(1 ≤ ops.length ∧ ops.length ≤ 120)) : Q6 ops = false := by
 unfold Q6; rw [decide_eq_false h, Bool.false_and]
theorem A6k {ops : J0} (h : 1 ≤ ops.length ∧ ops.length ≤ 120) (hj : ∀ j, j < ops.length → M3 ops.length j (ops.getD j (0, 0)) = true) : Q6 ops = true := by
 unfold Q6
 rw [decide_eq_true h, Bool.true_and, List.all_eq_true]
 exact fun j hm => hj j (List.mem_range.1 hm)
theorem A8R {ops : J0} (h : Q6 ops = true) : 1 ≤ ops.length ∧ ops.length ≤ 120 ∧ ∀ j, j < ops.length → M3 ops.length j (ops.getD j (0, 0)) = true := by
 unfold Q6 at h
 rw [Bool.and_eq_true, decide_eq_true_eq, List.all_eq_true] at h
 exact ⟨h.1.1, h.1.2, fun j hj => h.2 j (List.mem_range.2 hj)⟩
theorem B3r (k a : Int) (i n : Nat) (hi : i < n) (hn : n ≤ 4294967296) (G : IM) (h1 : C6 k) (h2 : C6 a) : Fn Tryz.prog 127 [.agg ⟨[.int .i64 k, .int .i64 a]⟩, .int .i64 (i : Int), .int .i64 (n : Int)] [] G (H3 (.bool (M3 n i (k, a))) G) := by
 obtain ⟨h1a, h1b⟩ := h1
 obtain ⟨h2a, h2b⟩ := h2
 refine B7 Tryz.func127 rfl Tryz.ntmps127 Tryz.results127 rfl ?_
 intro w0
 refine tS (tR ?_)
 refine sE (D5 rfl rfl) rfl (fun b3 => ?_)
 refine sQ (qA rfl) rfl (sD (nS (tS (tS (tR (sQ (A3 rfl) rfl (sL (A5 rfl rfl) rfl rfl (sD (nS ?_)))))))))
 refine B5 (tS (tR (sB (qE rfl rfl) rfl rfl (fun h17 => ?_) (fun h17 => ?_))))
 refine sQ (qA rfl) rfl (sD (nS (qT rfl (tS (tR (sQ (A3 rfl) rfl (sL (A5 rfl rfl) rfl rfl ?_)))))))
 refine sB (Y0 rfl rfl) rfl rfl (fun h26 => ?_) (fun h26 => ?_)
 refine sQ (qM rfl) rfl (sQ (A3 rfl) rfl (sL (A5 rfl rfl) rfl rfl ?_))
 refine sB (T6 rfl rfl) rfl rfl (fun h30 => ?_) (fun h30 => ?_)
 refine sQ (C1 rfl rfl) rfl (sQ (qA rfl) rfl (sD (nS (tT (rB (rS (A6 (rT rfl) ?_)))))))
 exact ⟨rfl, congrArg Value.bool (by (unfold M3 O8; dsimp only; symm; first | (apply decide_eq_true; refine ⟨?_, ?_, ?_, ?_⟩ <;> (repeat' split) <;> omega) | (apply decide_eq_false; rintro ⟨j1, j2, j3, j4⟩; (repeat' split at j4) <;> omega))), rfl⟩
 refine sQ (C1 rfl rfl) rfl (sQ (qA rfl) rfl (sD (nS (tT (rB (rS (A6 (rT rfl) ?_)))))))
 exact ⟨rfl, congrArg Value.bool (by (unfold M3 O8; dsimp only; symm; first | (apply decide_eq_true; refine ⟨?_, ?_, ?_, ?_⟩ <;> (repeat' split) <;> omega) | (apply decide_eq_false; rintro ⟨j1, j2, j3, j4⟩; (repeat' split at j4) <;> omega))), rfl⟩
 refine R5 ?_
 exact ⟨rfl, congrArg Value.bool (by (unfold M3 O8; dsimp only; symm; first | (apply decide_eq_true; refine ⟨?_, ?_, ?_, ?_⟩ <;> (repeat' split) <;> omega) | (apply decide_eq_false; rintro ⟨j1, j2, j3, j4⟩; (repeat' split at j4) <;> omega))), rfl⟩
 refine sQ (qA rfl) rfl (sD (nS (cF rfl (tS (tR ?_)))))
 refine sB (qE rfl rfl) rfl rfl (fun h68 => ?_) (fun h68 => ?_)
 refine sQ (qA rfl) rfl (sD (nS (qT rfl (tS (tR (sQ (A3 rfl) rfl (sL (A5 rfl rfl) rfl rfl ?_)))))))
 refine sB (qE rfl rfl) rfl rfl (fun h77 => ?_) (fun h77 => ?_)
 refine R5 ?_
 exact ⟨rfl, congrArg Value.bool (by (unfold M3 O8; dsimp only; symm; first | (apply decide_eq_true; refine ⟨?_, ?_, ?_, ?_⟩ <;> (repeat' split) <;> omega) | (apply decide_eq_false; rintro ⟨j1, j2, j3, j4⟩; (repeat' split at j4) <;> omega))), rfl⟩
 refine sQ (qM rfl) rfl (sQ (A3 rfl) rfl (sL (A5 rfl rfl) rfl rfl ?_))
 refine sB (qE rfl rfl) rfl rfl (fun h94 => ?_) (fun h94 => ?_)
 refine sQ (D7 rfl rfl) rfl (sQ (qA rfl) rfl (sD (nS (tT (rB (rS (A6 (rT rfl) ?_)))))))
 exact ⟨rfl, congrArg Value.bool (by (unfold M3 O8; dsimp only; symm; first | (apply decide_eq_true; refine ⟨?_, ?_, ?_, ?_⟩ <;> (repeat' split) <;> omega) | (apply decide_eq_false; rintro ⟨j1, j2, j3, j4⟩; (repeat' split at j4) <;> omega))), rfl⟩
 refine sQ (D7 rfl rfl) rfl (sQ (qA rfl) rfl (sD (nS (tT (rB (rS (A6 (rT rfl) ?_)))))))
 exact ⟨rfl, congrArg Value.bool (by (unfold M3 O8; dsimp only; symm; first | (apply decide_eq_true; refine ⟨?_, ?_, ?_, ?_⟩ <;> (repeat' split) <;> omega) | (apply decide_eq_false; rintro ⟨j1, j2, j3, j4⟩; (repeat' split at j4) <;> omega))), rfl⟩
 refine sQ (qA rfl) rfl (sD (nS (cF rfl (tS (tR ?_)))))
 refine sB (qE rfl rfl) rfl rfl (fun h119 => ?_) (fun h119 => ?_)
 refine sQ (qA rfl) rfl (sD (nS (qT rfl (tS (tR (sQ (A3 rfl) rfl (sL (A5 rfl rfl) rfl rfl ?_)))))))
 refine sB (Y0 rfl rfl) rfl rfl (fun h128 => ?_) (fun h128 => ?_)
 refine sQ (qM rfl) rfl (sQ (A3 rfl) rfl (sL (A5 rfl rfl) rfl rfl ?_))
 refine sB (J3 rfl rfl) rfl rfl (fun h132 => ?_) (fun h132 => ?_)
 refine sQ (C1 rfl rfl) rfl (sQ (qA rfl) rfl (sD (nS (tT (rB (rS (A6 (rT rfl) ?_)))))))
 exact ⟨rfl, congrArg Value.bool (by (unfold M3 O8; dsimp only; symm; first | (apply decide_eq_true; refine ⟨?_, ?_, ?_, ?_⟩ <;> (repeat' split) <;> omega) | (apply decide_eq_false; rintro ⟨j1, j2, j3, j4⟩; (repeat' split at j4) <;> omega))), rfl⟩
 refine sQ (C1 rfl rfl) rfl (sQ (qA rfl) rfl (sD (nS (tT (rB (rS (A6 (rT rfl) ?_)))))))
 exact ⟨rfl, congrArg Value.bool (by (unfold M3 O8; dsimp only; symm; first | (apply decide_eq_true; refine ⟨?_, ?_, ?_, ?_⟩ <;> (repeat' split) <;> omega) | (apply decide_eq_false; rintro ⟨j1, j2, j3, j4⟩; (repeat' split at j4) <;> omega))), rfl⟩
 refine R5 ?_
 exact ⟨rfl, congrArg Value.bool (by (unfold M3 O8; dsimp only; symm; first | (apply decide_eq_true; refine ⟨?_, ?_, ?_, ?_⟩ <;> (repeat' split) <;> omega) | (apply decide_eq_false; rintro ⟨j1, j2, j3, j4⟩; (repeat' split at j4) <;> omega))), rfl⟩
 refine sQ (qA rfl) rfl (sD (nS (cF rfl (tS (tS (tR ?_))))))
 refine sB (qE rfl rfl) rfl rfl (fun h171 => ?_) (fun h171 => ?_)
 refine sQ (qA rfl) rfl (sD (nS (qT rfl (tK (nS (qT rfl (tS (tR (sQ (A3 rfl) rfl (sL (A5 rfl rfl) rfl rfl ?_))))))))))
 refine sB (Y0 rfl rfl) rfl rfl (fun h183 => ?_) (fun h183 => ?_)
 refine sQ (qM rfl) rfl (sQ (A3 rfl) rfl (sL (A5 rfl rfl) rfl rfl (sQ (qM rfl) rfl ?_)))
 refine sB (T6 rfl rfl) rfl rfl (fun h188 => ?_) (fun h188 => ?_)
 refine sQ (C1 rfl rfl) rfl (sQ (qM rfl) rfl (sQ (qM rfl) rfl ?_))
 refine sP (H6 rfl rfl (by omega) (by omega)) rfl rfl ?_
 refine sQ (A3 rfl) rfl (sL (A5 rfl rfl) rfl rfl ?_)
 refine sP (H6 rfl rfl (by omega) (by omega)) rfl rfl ?_
 refine sQ (qM rfl) rfl ?_
 refine sB (T6 rfl rfl) rfl rfl (fun h197 => ?_) (fun h197 => ?_)
 refine sQ (C1 rfl rfl) rfl (sQ (qA rfl) rfl (sD (nS (tT (rB (rS (A6 (rT rfl) ?_)))))))
 exact ⟨rfl, congrArg Value.bool (by (unfold M3 O8; dsimp only; symm; first | (apply decide_eq_true; refine ⟨?_, ?_, ?_, ?_⟩ <;> (repeat' split) <;> omega) | (apply decide_eq_false; rintro ⟨j1, j2, j3, j4⟩; (repeat' split at j4) <;> omega))), rfl⟩
 refine sQ (C1 rfl rfl) rfl (sQ (qA rfl) rfl (sD (nS (tT (rB (rS (A6 (rT rfl) ?_)))))))
 exact ⟨rfl, congrArg Value.bool (by (unfold M3 O8; dsimp only; symm; first | (apply decide_eq_true; refine ⟨?_, ?_, ?_, ?_⟩ <;> (repeat' split) <;> omega) | (apply decide_eq_false; rintro ⟨j1, j2, j3, j4⟩; (repeat' split at j4) <;> omega))), rfl⟩
 refine R6 ?_
 exact ⟨rfl, congrArg Value.bool (by (unfold M3 O8; dsimp only; symm; first | (apply decide_eq_true; refine ⟨?_, ?_, ?_, ?_⟩ <;> (repeat' split) <;> omega) | (apply decide_eq_false; rintro ⟨j1, j2, j3, j4⟩; (repeat' split at j4) <;> omega))), rfl⟩
 refine A09 ?_
 exact ⟨rfl, congrArg Value.bool (by (unfold M3 O8; dsimp only; symm; first | (apply decide_eq_true; refine ⟨?_, ?_, ?_, ?_⟩ <;> (repeat' split) <;> omega) | (apply decide_eq_false; rintro ⟨j1, j2, j3, j4⟩; (repeat' split at j4) <;> omega))), rfl⟩
 refine sQ (qA rfl) rfl (sD (nS (cF rfl (tS (tR ?_)))))
 refine sB (qE rfl rfl) rfl rfl (fun h263 => ?_) (fun h263 => ?_)
 refine sQ (qA rfl) rfl (sD (nS (qT rfl (tK (nS (qT rfl (tS (tR (sQ (A3 rfl) rfl (sL (A5 rfl rfl) rfl rfl ?_))))))))))
 refine sB (Y0 rfl rfl) rfl rfl (fun h275 => ?_) (fun h275 => ?_)
 refine sQ (qM rfl) rfl (sQ (A3 rfl) rfl (sL (A5 rfl rfl) rfl rfl (sQ (qM rfl) rfl ?_)))
 refine sB (T6 rfl rfl) rfl rfl (fun h280 => ?_) (fun h280 => ?_)
 refine sQ (C1 rfl rfl) rfl (sQ (qM rfl) rfl (sQ (qM rfl) rfl ?_))
 refine sP (H6 rfl rfl (by omega) (by omega)) rfl rfl ?_
 refine sQ (A3 rfl) rfl (sL (A5 rfl rfl) rfl rfl ?_)
 refine sP (H6 rfl rfl (by omega) (by omega)) rfl rfl ?_
 refine sQ (qM rfl) rfl ?_
 refine sB (T6 rfl rfl) rfl rfl (fun h289 => ?_) (fun h289 => ?_)
 refine sQ (C1 rfl rfl) rfl (sQ (qA rfl) rfl (sD (nS (tT (rB (rS (A6 (rT rfl) ?_)))))))
 exact ⟨rfl, congrArg Value.bool (by (unfold M3 O8; dsimp only; symm; first | (apply decide_eq_true; refine ⟨?_, ?_, ?_, ?_⟩ <;> (repeat' split) <;> omega) | (apply decide_eq_false; rintro ⟨j1, j2, j3, j4⟩; (repeat' split at j4) <;> omega))), rfl⟩
 refine sQ (C1 rfl rfl) rfl (sQ (qA rfl) rfl (sD (nS (tT (rB (rS (A6 (rT rfl) ?_)))))))
 exact ⟨rfl, congrArg Value.bool (by (unfold M3 O8; dsimp only; symm; first | (apply decide_eq_true; refine ⟨?_, ?_, ?_, ?_⟩ <;> (repeat' split) <;> omega) | (apply decide_eq_false; rintro ⟨j1, j2, j3, j4⟩; (repeat' split at j4) <;> omega))), rfl⟩
 refine R6 ?_
 exact ⟨rfl, congrArg Value.bool (by (unfold M3 O8; dsimp only; symm; first | (apply decide_eq_true; refine ⟨?_, ?_, ?_, ?_⟩ <;> (repeat' split) <;> omega) | (apply decide_eq_false; rintro ⟨j1, j2, j3, j4⟩; (repeat' split at j4) <;> omega))), rfl⟩
 refine A09 ?_
 exact ⟨rfl, congrArg Value.bool (by (unfold M3 O8; dsimp only; symm; first | (apply decide_eq_true; refine ⟨?_, ?_, ?_, ?_⟩ <;> (repeat' split) <;> omega) | (apply decide_eq_false; rintro ⟨j1, j2, j3, j4⟩; (repeat' split at j4) <;> omega))), rfl⟩
 refine sQ (qA rfl) rfl (sD (nS (cF rfl (tR ?_))))
 refine sB (qE rfl rfl) rfl rfl (fun h354 => ?_) (fun h354 => ?_)
 refine sQ (qA rfl) rfl (sD (nS (qT rfl (tS (tR (sQ (A3 rfl) rfl (sL (A5 rfl rfl) rfl rfl ?_)))))))
 refine sB (Y0 rfl rfl) rfl rfl (fun h363 => ?_) (fun h363 => ?_)
 refine sQ (qM rfl) rfl (sQ (A3 rfl) rfl (sL (A5 rfl rfl) rfl rfl (sQ (qM rfl) rfl ?_)))
 refine sB (T6 rfl rfl) rfl rfl (fun h368 => ?_) (fun h368 => ?_)
 refine sQ (C1 rfl rfl) rfl (sQ (qM rfl) rfl (sQ (qM rfl) rfl ?_))
 refine sP (H6 rfl rfl (by omega) (by omega)) rfl rfl ?_
 refine sQ (A3 rfl) rfl (sL (A5 rfl rfl) rfl rfl ?_)
 refine sP (H6 rfl rfl (by omega) (by omega)) rfl rfl ?_
 refine sQ (qM rfl) rfl ?_
 refine sB (T6 rfl rfl) rfl rfl (fun h377 => ?_) (fun h377 => ?_)
 refine sQ (C1 rfl rfl) rfl (sQ (qA rfl) rfl (sD (nS (tT (rB (rS (A6 (rT rfl) ?_)))))))
 exact ⟨rfl, congrArg Value.bool (by (unfold M3 O8; dsimp only; symm; first | (apply decide_eq_true; refine ⟨?_, ?_, ?_, ?_⟩ <;> (repeat' split) <;> omega) | (apply decide_eq_false; rintro ⟨j1, j2, j3, j4⟩; (repeat' split at j4) <;> omega))), rfl⟩
 refine sQ (C1 rfl rfl) rfl (sQ (qA rfl) rfl (sD (nS (tT (rB (rS (A6 (rT rfl) ?_)))))))
 exact ⟨rfl, congrArg Value.bool (by (unfold M3 O8; dsimp only; symm; first | (apply decide_eq_true; refine ⟨?_, ?_, ?_, ?_⟩ <;> (repeat' split) <;> omega) | (apply decide_eq_false; rintro ⟨j1, j2, j3, j4⟩; (repeat' split at j4) <;> omega))), rfl⟩
 refine R6 ?_
 exact ⟨rfl, congrArg Value.bool (by (unfold M3 O8; dsimp only; symm; first | (apply decide_eq_true; refine ⟨?_, ?_, ?_, ?_⟩ <;> (repeat' split) <;> omega) | (apply decide_eq_false; rintro ⟨j1, j2, j3, j4⟩; (repeat' split at j4) <;> omega))), rfl⟩
 refine A09 ?_
 exact ⟨rfl, congrArg Value.bool (by (unfold M3 O8; dsimp only; symm; first | (apply decide_eq_true; refine ⟨?_, ?_, ?_, ?_⟩ <;> (repeat' split) <;> omega) | (apply decide_eq_false; rintro ⟨j1, j2, j3, j4⟩; (repeat' split at j4) <;> omega))), rfl⟩
 refine sQ (qA rfl) rfl (sD (nS (cF rfl (tK (C8 (nS (tS (tR (sQ (A3 rfl) rfl (sL (A5 rfl rfl) rfl rfl ?_))))))))))
 refine sB (Y0 rfl rfl) rfl rfl (fun h448 => ?_) (fun h448 => ?_)
 refine sQ (qM rfl) rfl (sQ (A3 rfl) rfl (sL (A5 rfl rfl) rfl rfl ?_))
 refine sB (T6 rfl rfl) rfl rfl (fun h452 => ?_) (fun h452 => ?_)
 refine sQ (C1 rfl rfl) rfl (sQ (qM rfl) rfl (sQ (A3 rfl) rfl (sL (A5 rfl rfl) rfl rfl ?_)))
 refine sB (qE rfl rfl) rfl rfl (fun h457 => ?_) (fun h457 => ?_)
 refine sQ (C1 rfl rfl) rfl (sQ (qA rfl) rfl (sD (nS (tT (A6 (rT rfl) ?_)))))
 exact ⟨rfl, congrArg Value.bool (by (unfold M3 O8; dsimp only; symm; first | (apply decide_eq_true; refine ⟨?_, ?_, ?_, ?_⟩ <;> (repeat' split) <;> omega) | (apply decide_eq_false; rintro ⟨j1, j2, j3, j4⟩; (repeat' split at j4) <;> omega))), rfl⟩
 refine sQ (C1 rfl rfl) rfl (sQ (qA rfl) rfl (sD (nS (tT (A6 (rT rfl) ?_)))))
 exact ⟨rfl, congrArg Value.bool (by (unfold M3 O8; dsimp only; symm; first | (apply decide_eq_true; refine ⟨?_, ?_, ?_, ?_⟩ <;> (repeat' split) <;> omega) | (apply decide_eq_false; rintro ⟨j1, j2, j3, j4⟩; (repeat' split at j4) <;> omega))), rfl⟩
 refine A0n ?_
 exact ⟨rfl, congrArg Value.bool (by (unfold M3 O8; dsimp only; symm; first | (apply decide_eq_true; refine ⟨?_, ?_, ?_, ?_⟩ <;> (repeat' split) <;> omega) | (apply decide_eq_false; rintro ⟨j1, j2, j3, j4⟩; (repeat' split at j4) <;> omega))), rfl⟩
 refine N5 ?_
 exact ⟨rfl, congrArg Value.bool (by (unfold M3 O8; dsimp only; symm; first | (apply decide_eq_true; refine ⟨?_, ?_, ?_, ?_⟩ <;> (repeat' split) <;> omega) | (apply decide_eq_false; rintro ⟨j1, j2, j3, j4⟩; (repeat' split at j4) <;> omega))), rfl⟩
theorem B3s (k b : Int) (G : IM) : Fn Tryz.prog 80 [.int .i64 k, .int .i64 b] [] G (H3 (.int .i64 (O8 k b)) G) := by
 refine B7 Tryz.func80 rfl Tryz.ntmps80 Tryz.results80 rfl ?_
 intro w0
 refine tS (tR (sQ (qA rfl) rfl (sD (nS (tS (tS (tR (sQ (qM rfl) rfl (sD (nS ?_))))))))))
 refine B5 ?_
 refine tS (tR ?_)
 refine sB (qE rfl rfl) rfl rfl (fun h15 => ?_) (fun h15 => ?_)
 refine sQ (qA rfl) rfl (sD (nS (qT rfl (tS (tR (sQ (qA rfl) rfl (sD (nS (tT (rB (rS (A6 (rT rfl) ?_))))))))))))
 exact ⟨rfl, congrArg (Value.int .i64) (by (unfold O8; (repeat' split) <;> first | rfl | omega)), rfl⟩
 refine sQ (qA rfl) rfl (sD (nS (cF rfl (tS (tR ?_)))))
 refine sB (qE rfl rfl) rfl rfl (fun h36 => ?_) (fun h36 => ?_)
 refine sQ (qA rfl) rfl (sD (nS (qT rfl (tS (tR (sQ (qA rfl) rfl (sD (nS (tT (rB (rS (A6 (rT rfl) ?_))))))))))))
 exact ⟨rfl, congrArg (Value.int .i64) (by (unfold O8; (repeat' split) <;> first | rfl | omega)), rfl⟩
 refine sQ (qA rfl) rfl (sD (nS (cF rfl (tS (tR ?_)))))
 refine sB (qE rfl rfl) rfl rfl (fun h57 => ?_) (fun h57 => ?_)
 refine sQ (qA rfl) rfl (sD (nS (qT rfl (tS (tR (sQ (qA rfl) rfl (sD (nS (tT (rB (rS (A6 (rT rfl) ?_))))))))))))
 exact ⟨rfl, congrArg (Value.int .i64) (by (unfold O8; (repeat' split) <;> first | rfl | omega)), rfl⟩
 refine sQ (qA rfl) rfl (sD (nS (cF rfl (tS (tS (tR ?_))))))
 refine sB (qE rfl rfl) rfl rfl (fun h79 => ?_) (fun h79 => ?_)
 refine R6 ?_
 exact ⟨rfl, congrArg (Value.int .i64) (by (unfold O8; (repeat' split) <;> first | rfl | omega)), rfl⟩
 refine sQ (qA rfl) rfl (sD (nS (cF rfl (tS (tR ?_)))))
 refine sB (qE rfl rfl) rfl rfl (fun h104 => ?_) (fun h104 => ?_)
 refine R6 ?_
 exact ⟨rfl, congrArg (Value.int .i64) (by (unfold O8; (repeat' split) <;> first | rfl | omega)), rfl⟩
 refine sQ (qA rfl) rfl (sD (nS (cF rfl (tR ?_))))
 refine sB (qE rfl rfl) rfl rfl (fun h128 => ?_) (fun h128 => ?_)
 refine sQ (qA rfl) rfl (sD (nS (qT rfl (tS (tR (sQ (qM rfl) rfl (sQ (qA rfl) rfl (sD (nS (tT (rB (rS (A6 (rT rfl) ?_)))))))))))))
 exact ⟨rfl, congrArg (Value.int .i64) (by (unfold O8; (repeat' split) <;> first | rfl | omega)), rfl⟩
 refine sQ (qA rfl) rfl (sD (nS (cF rfl (tK (C8 (nS (tS (tR (sQ (qA rfl) rfl (sD (nS (tT (A6 (rT rfl) ?_)))))))))))))
 exact ⟨rfl, congrArg (Value.int .i64) (by (unfold O8; (repeat' split) <;> first | rfl | omega)), rfl⟩
theorem B3t (ops : J0) (G : IM) (p : Option Addr) (n c : Nat) (h : T0 G ops p n c) : Fn Tryz.prog 67 [.slice p n c] [] G (H3 (.bool (Q6 ops)) G) := by
 have hl := h.sl.le
 have hn := h.len
 refine B7 Tryz.func67 rfl Tryz.ntmps67 Tryz.results67 rfl ?_
 intro w0
 refine tS (tR (sQ (qA rfl) rfl (sD (nS (tS (tS (tR (sQ (qA rfl) rfl (sD (nS ?_))))))))))
 refine B5 (K4 (fun (i : Nat) => ⟨[(3, .int .i64 (i : Int)), (2, .bool false), (0, .slice p n c)], [], G⟩) (fun i => i ≤ n ∧ ∀ j, j < i → M3 ops.length j (ops.getD j (0, 0)) = true) (fun i => n - i) 0 ?_ ?_ ?_)
 exact C9
 exact ⟨Nat.zero_le _, by omega⟩
 (rintro i ⟨hi, hj⟩)
 refine tS (tS (tR (sQ (qM rfl) rfl (sQ (qM rfl) rfl (sQ (D8 rfl rfl) rfl ?_)))))
 refine sB (J3 rfl rfl) rfl rfl (fun h23 => ?_) (fun h23 => ?_)
 refine sQ (qM rfl) rfl (sQ (qM rfl) rfl (sQ (D8 rfl rfl) rfl ?_))
 refine sB (T6 rfl rfl) rfl rfl (fun h27 => ?_) (fun h27 => ?_)
 refine sQ (C1 rfl rfl) rfl (sD (nS (qT rfl (tK (nS (tS ?_))))))
 refine B5 ?_
 refine tS (tR (sQ (qM rfl) rfl (sQ (qM rfl) rfl ?_)))
 (obtain ⟨b, o, rfl, hat, hr1, hr2, hgb⟩ := h.get (i := i) (by omega); refine sP (C2 rfl rfl rfl (by omega)) rfl rfl ?_)
 refine sL (A9 rfl rfl (hat _) rfl) rfl rfl ?_
 refine sQ (qM rfl) rfl (sQ (qM rfl) rfl (sQ (D8 rfl rfl) rfl ?_))
 refine H1 rfl ((B3r _ _ i n (by omega) (by omega) G hr1 hr2)) rfl rfl (fun h45 => ?_) (fun h45 => ?_)
 refine sQ (M4 rfl) rfl (sD (nS (cF rfl (tK (C8 (nS (tR (sQ (qM rfl) rfl ?_))))))))
 refine sP (H6 rfl rfl (by omega) (by omega)) rfl rfl ?_
 refine sQ (qA rfl) rfl (sD ?_)
 refine K3 (i + 1) ?_ ?_ ?_
 exact C9
 (refine ⟨by omega, fun j hj2 => ?_⟩; rcases Nat.lt_or_ge j i with h5 | h5; exact hj j h5; obtain rfl : j = i := (by omega); rw [← hn]; assumption)
 (show n - (i + 1) < n - i; omega)
 refine sQ (O5 rfl) rfl (sD (nS (qT rfl (tS (tR (sQ (qA rfl) rfl (sD (nS (tT (rB (rS (U2 (rB (rS (A6 (rT rfl) ?_)))))))))))))))
 (exact ⟨rfl, congrArg Value.bool (A6j (i := i) (by omega) (by rw [← hn]; assumption)).symm, rfl⟩)
 refine W2 ?_
 refine sP (B1A rfl rfl (by omega)) rfl rfl ?_
 refine sQ (qM rfl) rfl (sQ (qM rfl) rfl (sQ (D8 rfl rfl) rfl ?_))
 refine sP (B1y rfl rfl (by omega)) rfl rfl ?_
 refine sQ (C1 rfl rfl) rfl (sQ (qA rfl) rfl (sD (nS (tT (A6 (rT rfl) ?_)))))
 (exact ⟨rfl, congrArg Value.bool (A3V (by omega)).symm, rfl⟩)
 refine R6 ?_
 refine sB (Y0 rfl rfl) rfl rfl (fun h121 => ?_) (fun h121 => ?_)
 refine sQ (qM rfl) rfl (sQ (qM rfl) rfl (sQ (D8 rfl rfl) rfl ?_))
 refine sB (T6 rfl rfl) rfl rfl (fun h125 => ?_) (fun h125 => ?_)
 refine sQ (C1 rfl rfl) rfl (sQ (qA rfl) rfl (sD (nS (tT (A6 (rT rfl) ?_)))))
 (exact ⟨rfl, congrArg Value.bool (A6k (by omega) (fun j hj2 => hj j (by omega))).symm, rfl⟩)
 refine sQ (C1 rfl rfl) rfl (sQ (qA rfl) rfl (sD (nS (tT (A6 (rT rfl) ?_)))))
 (exact ⟨rfl, congrArg Value.bool (A3V (by omega)).symm, rfl⟩)
 refine sQ (qM rfl) rfl (sK rfl rfl (sK rfl rfl (sK rfl rfl (sQ (D7 rfl rfl) rfl (sQ (qA rfl) rfl (sD (nS (tT (A6 (rT rfl) ?_)))))))))
 (exact ⟨rfl, congrArg Value.bool (A3V (by omega)).symm, rfl⟩)
theorem A6l (ops : J0) (G : IM) (p : Option Addr) (n c : Nat) (h : T0 G ops p n c) : Fn Tryz.prog 32 [.slice p n c] [] G (H3 (.bool (Q6 ops)) G) := by
 have hl := h.sl.le
 have hn := h.len
 refine B7 Tryz.func32 rfl Tryz.ntmps32 Tryz.results32 rfl ?_
 intro w0
 refine tS (tR (sQ (qA rfl) rfl (sD (nS (tS (tS (tR (sQ (qM rfl) rfl (sQ (D8 rfl rfl) rfl (sQ (qM rfl) rfl (sD (nS ?_))))))))))))
 refine B5 ?_
 refine K4 (fun (i : Nat) => ⟨[(7, .int .i64 (i : Int)), (6, .int .i64 (n : Int)), (5, .slice p n c), (0, .slice p n c)], [], G⟩) (fun i => i ≤ n ∧ ∀ j, j < i → M3 ops.length j (ops.getD j (0, 0)) = true) (fun i => n - i) 0 ?_ ?_ ?_
 exact C9
 exact ⟨Nat.zero_le _, by omega⟩
 (rintro i ⟨hi, hj⟩)
 refine tS (tR ?_)
 refine sB (J3 rfl rfl) rfl rfl (fun h21 => ?_) (fun h21 => ?_)
 refine sD (nS (tS (qT rfl (tK (nS (tS ?_))))))
 refine B5 ?_
 refine tS (tR (sQ (qM rfl) rfl ?_))
 (obtain ⟨b, o, rfl, hat, hr1, hr2, hgb⟩ := h.get (i := i) (by omega); refine sP (C2 rfl rfl rfl (by omega)) rfl rfl ?_)
 refine sL (A9 rfl rfl (hat _) rfl) rfl rfl ?_
 refine sE (B6 rfl) rfl (fun b35 => ?_)
 refine sQ (qA rfl) rfl (B9 ?_)
 refine sD (nS (tS ?_))
 refine I0 I1 rfl ?_
 refine J2 (i := 0) (l' := [tt,ff,ff,ff,ff,ff,ff,ff,ff,ff,ff,ff,ff,ff,ff,ff,ff,ff]) rfl F4 (A3 rfl) rfl (by kernel_rfl) rfl rfl ?_
 refine aL 1 rfl (A5 rfl rfl) rfl ?_
 refine A8 2 ?_
 refine A2p rfl rfl (A0s _ _ _ _) rfl rfl rfl (fun h45 => ?_) (fun h45 => ?_)
 refine aP 3 rfl (M4 rfl) rfl ?_
 refine aP 4 rfl (qM rfl) rfl ?_
 refine aP 5 rfl (A3 rfl) rfl ?_
 refine aL 6 rfl (A5 rfl rfl) rfl ?_
 refine aP 7 rfl (A3 rfl) rfl ?_
 refine aL 8 rfl (A5 rfl rfl) rfl ?_
 refine aP 9 rfl (qM rfl) rfl ?_
 refine aP 10 rfl (D8 rfl rfl) rfl ?_
 refine aP 11 rfl (L7 rfl rfl (by omega) (by omega)) rfl ?_
 refine aP 12 rfl (qM rfl) rfl ?_
 refine aP 13 rfl (L7 rfl rfl (by omega) (by omega)) rfl ?_
 refine A8 14 ?_
 refine Q5 rfl rfl ((B3s _ _ _)) rfl rfl rfl ?_
 refine A8 15 ?_
 refine A2p rfl rfl (A0s _ _ _ _) rfl rfl rfl (fun h60 => ?_) (fun h60 => ?_)
 refine aP 16 rfl (M4 rfl) rfl ?_
 refine aP 17 rfl (D7 rfl rfl) rfl ?_
 refine D6 (nS (cF rfl (tK (C8 (nS (tR ?_))))))
 refine sP (H6 rfl rfl (by omega) (by omega)) rfl rfl ?_
 refine sQ (qM rfl) rfl (sD ?_)
 refine K3 (i + 1) ?_ ?_ ?_
 exact C9
 (refine ⟨by omega, fun j hj2 => ?_⟩; rcases Nat.lt_or_ge j i with h5 | h5; exact hj j h5; obtain rfl : j = i := (by omega); simp only [P4, decide_eq_true_eq] at *; unfold M3; apply decide_eq_true; rw [← hn]; omega)
 (show n - (i + 1) < n - i; omega)
 refine aP 16 rfl (O5 rfl) rfl ?_
 refine aP 17 rfl (D7 rfl rfl) rfl ?_
 refine D6 (nS (qT rfl (tS (tR (sQ (qA rfl) rfl (sD (nS (tT (rB (rS (U2 (rB (rS (A6 (rT rfl) ?_))))))))))))))
 (refine ⟨rfl, ?_, rfl⟩; rw [A6j (i := i) (by omega) ?_]; simp only [P4, decide_eq_true_eq, decide_eq_false_iff_not] at *; unfold M3; apply decide_eq_false; rw [← hn]; omega)
 refine aP 3 rfl (O5 rfl) rfl ?_
 refine aP 4 rfl (qM rfl) rfl ?_
 refine J7 5 rfl rfl rfl ?_
 refine J7 6 rfl rfl rfl ?_
 refine J7 7 rfl rfl rfl ?_
 refine J7 8 rfl rfl rfl ?_
 refine J7 9 rfl rfl rfl ?_
 refine J7 10 rfl rfl rfl ?_
 refine J7 11 rfl rfl rfl ?_
 refine J7 12 rfl rfl rfl ?_
 refine J7 13 rfl rfl rfl ?_
 refine J7 14 rfl rfl rfl ?_
 refine J7 15 rfl rfl rfl ?_
 refine J7 16 rfl rfl rfl ?_
 refine aP 17 rfl (C1 rfl rfl) rfl ?_
 refine D6 (nS (qT rfl (tS (tR (sQ (qA rfl) rfl (sD (nS (tT (rB (rS (U2 (rB (rS (A6 (rT rfl) ?_))))))))))))))
 (refine ⟨rfl, ?_, rfl⟩; rw [A6j (i := i) (by omega) ?_]; simp only [P4, decide_eq_true_eq, decide_eq_false_iff_not] at *; unfold M3; apply decide_eq_false; rw [← hn]; omega)
 refine sD (nS (tS (cF rfl (M7 (M8 (N3 (M9 (nS (tS (tR (sQ (qM rfl) rfl (sQ (D8 rfl rfl) rfl ?_))))))))))))
 refine H1 rfl (A0s _ _ _ _) rfl rfl (fun h139 => ?_) (fun h139 => ?_)
 refine sQ (qA rfl) rfl (sD (nS (tT (A6 (rT rfl) ?_))))
 (refine ⟨rfl, congrArg Value.bool ?_, rfl⟩; simp only [P4, decide_eq_true_eq, decide_eq_false_iff_not] at *; first | exact (A6k (by omega) (fun j hj2 => hj j (by omega))).symm | exact (A3V (by omega)).symm)
 refine sQ (qA rfl) rfl (sD (nS (tT (A6 (rT rfl) ?_))))
 (refine ⟨rfl, congrArg Value.bool ?_, rfl⟩; simp only [P4, decide_eq_true_eq, decide_eq_false_iff_not] at *; first | exact (A6k (by omega) (fun j hj2 => hj j (by omega))).symm | exact (A3V (by omega)).symm)
variable {P : Program} {G : IM}
theorem Fn.forget {f : FuncId} {args : List Value} {v0 : Value} {post : IM → Value → List A4 → Prop} (h : Fn P f args [] G post) (hv : ∀ G' v outs, post G' v outs → v = v0) : Fn P f args [] G (H3 v0 G) := by
 refine ⟨fun w hw => (h.run w hw).mono ?_⟩
 rintro e w' ⟨u, G', outs, rfl, hres, hp⟩
 refine ⟨u, G, [], rfl, ⟨⟨fun b l hb => hres.own.inn b l (hres.le b l hb), by simp, by simp [Fp], by simp [Fp]⟩, hres.ext, B4.refl _, fun _ _ h => .inl h, by simp [Fp], fun b l h h0 => absurd h (by rw [h0]; simp)⟩, rfl, hv _ _ _ hp, rfl⟩
section
variable {P : Program} {Γ : J1} {env : J5} {hp : List A4} {G : IM} {ty : TypeId}
theorem B3u {x y : Operand} {t el : TypeId} {i : I7} {sz by' : Nat} {zs : List Value} [hI : D4 P t i] (hd' : i.desc = .slice el) [hE : S1 P el sz by' zs] {p : Option Addr} {n c : Nat}
  (hx : evo env x = some (.slice p n c)) (hy : evo env y = some (.int .i64 ((0 : Nat) : Int))) :
  E1 P Γ ⟨env, hp, G⟩ (.slice t x (some y) none none) ty (.slice p n c) := by
 refine ⟨fun a _ hs _ _ _ _ w => ?_⟩
 have hu := hI.und
 rw [hd'] at hu
 obtain ⟨d, hE⟩ := hE.ok
 obtain ⟨inf, z, t1, t2, t3, _⟩ := A15 (P := P) (t := el)
 have e1 : a.eval x = _ := hs.evo hx
 have e2 : a.eval y = _ := hs.evo hy
 have hb : ∀ code, (Instr.sliceBound (.int .i64 ((0 : Nat) : Int)) n code).run P w = .ok 0 w := fun code => A3R (Nat.zero_le n) code
 simp only [execOp, Option.map, e1, e2, Instr.sliceAt, Sem.run_bind, run_underlying hu, Result.andThen_ok, Instr.slice, Instr.sliceBounds, Sem.run_pure, hb, t3]
 by_cases h : c = 0
 ·subst h; simp
 ·simp [h]; cases p <;> simp [Addr.add]
end
theorem St.slc_pt {Γ : J1} {env : J5} {hp : List A4} {G : IM} {a : Act} {w : World} {p : Option Addr} {c el sz n : Nat} {cs : List Value} (hs : St Γ ⟨env, hp, G⟩ a w) (hm : A4.slc p c el sz n cs ∈ hp) :
  (p = none ∧ n = 0 ∧ c = 0) ∨ ∃ g, p = some ⟨g, 0, none⟩ ∧ n ≤ c := by
 obtain ⟨_, h⟩ := hs.res.own.ok _ hm
 rcases h with ⟨hv, hn⟩ | ⟨g, cap, cur, hv, _, _, hnc, _⟩
 ·cases hv; exact .inl ⟨rfl, hn, rfl⟩
 ·cases hv; exact .inr ⟨g, rfl, hnc⟩
theorem A4D {P : Program} {Γ : J1} {env : J5} {hp : List A4} {G : IM} {post : IM → Value → List A4 → Prop} {outs : List A4} (ho : A0 hp outs) (hk : post G (.tuple ⟨[]⟩) outs) : Z3 P Γ [] post .normal ⟨env, hp, G⟩ :=
 ⟨⟨[], .nil, outs, ho.spec.choose, ho.spec.choose_spec, hk⟩⟩
theorem A8S {cs Z V : List Value} {n : Nat} (h : cs.length = n * 4) (hz : Z.length = V.length) : Q3 (cs ++ Z) (0 + n * 4) V = some (cs ++ V) := by
 have := A5y (A := cs) (B := Z) (C := []) (V := V) (o := 0 + n * 4) (by omega) hz
 simpa using this
theorem B3v (G : IM) (b o m c' c n : Nat) (cs news : List Value) (hv : ∀ j v, news[j]? = some v → cs[o + j]? = some v) (hl : news.length = m * 4) (h1 : ∀ u ∈ news, u.oneCell' = true) (hm : m ≤ 4294967296) :
  Fn Tryz.prog 132 [.slice (some ⟨b, o, none⟩) m c'] [.slc (some ⟨b, 0, none⟩) c 82 4 n cs] G (fun G' v outs => G' = G ∧ ∃ p' c'', v = .slice p' m c'' ∧ outs = [.slc p' c'' 82 4 m news, .slc (some ⟨b, 0, none⟩) c 82 4 n cs]) := by
 refine B7 Tryz.func132 rfl Tryz.ntmps132 Tryz.results132 rfl ?_
 intro w0
 refine tS (tR (sQ (qA rfl) rfl (sD (nS (tS (tS (tR (sQ (qM rfl) rfl ?_))))))))
 refine sQ (A5i rfl rfl rfl) rfl ?_
 refine sD (nS (cF rfl (tK (nS (tS (tR ?_))))))
 (refine E0 (D0 rfl rfl rfl (by omega) (by unfold maxLen; omega) rfl) rfl ?_; rintro _ ⟨b18, rfl⟩)
 refine sQ (qM rfl) rfl ?_
 refine T1 rfl rfl rfl rfl rfl (fun _ _ => by repeat (first | exact Sw.here | apply Sw.there)) (A3q (by repeat first | exact mH | apply mT) hv) hl h1 (by unfold maxLen; omega) (by omega) rfl (fun pn cn => ?_)
 refine sQ (qA rfl) rfl (sD (nS (tT ?_)))
 refine E5 (rT rfl) A0.refl ?_
 exact ⟨rfl, _, _, by rw [Nat.zero_add], by rw [Nat.zero_add]; rfl⟩
theorem B3w (G : IM) : Fn Tryz.prog 132 [.slice none 0 0] [] G (H3 (.slice none 0 0) G) := by
 refine B7 Tryz.func132 rfl Tryz.ntmps132 Tryz.results132 rfl ?_
 intro w0
 refine tS (tR (sQ (qA rfl) rfl (sD (nS (tS (tS (tR (sQ (qM rfl) rfl ?_))))))))
 refine sQ (A7g rfl rfl rfl) rfl ?_
 refine sD (nS (qT rfl (tS (tR (sQ (qA rfl) rfl (sD (nS (tT (rS (A6 (rT rfl) ?_))))))))))
 exact ⟨rfl, rfl, rfl⟩
theorem A8T (G : IM) (p : Option Addr) (n c : Nat) (es : List (List Value)) (h : C5 G p n c 4 es) (hn : n ≤ 4294967296) :
  Fn Tryz.prog 132 [.slice p n c] [] G (fun G' v outs => G' = G ∧ ∃ p' c', v = .slice p' n c' ∧ outs = [.slc p' c' 82 4 n es.flatten]) := by
 have hp := h.sl.nn
 have hS := h.sl
 have hone : ∀ u ∈ es.flatten, u.oneCell' = true := by
  intro u hu
  obtain ⟨e, he, hue⟩ := List.mem_flatten.1 hu
  exact List.all_eq_true.1 (h.one e he) u hue
 refine B7 Tryz.func132 rfl Tryz.ntmps132 Tryz.results132 rfl ?_
 intro w0
 cases p with
 | none =>
  obtain rfl := hp rfl
  obtain rfl : es = [] := List.length_eq_zero_iff.1 h.len
  refine W1 82 4 ?_
  refine tS (tR (sQ (qA rfl) rfl (sD (nS (tS (tS (tR (sQ (qM rfl) rfl ?_))))))))
  refine sQ (A7g rfl rfl rfl) rfl ?_
  refine sD (nS (qT rfl (tS (tR (sQ (qA rfl) rfl (sD (nS (tT (rS ?_)))))))))
  refine E5 (rT rfl) A0.refl ?_
  exact ⟨rfl, _, _, rfl, rfl⟩
 | some a =>
  refine tS (tR (sQ (qA rfl) rfl (sD (nS (tS (tS (tR (sQ (qM rfl) rfl ?_))))))))
  refine sQ (A5i rfl rfl rfl) rfl ?_
  refine sD (nS (cF rfl (tK (nS (tS (tR ?_))))))
  (refine E0 (D0 rfl rfl rfl (by omega) (by unfold maxLen; omega) rfl) rfl ?_; rintro _ ⟨b18, rfl⟩)
  refine sQ (qM rfl) rfl ?_
  refine A8s rfl rfl rfl rfl rfl (fun _ _ => by repeat (first | exact Sw.here | apply Sw.there)) hS hone (Nat.zero_le _) (by unfold maxLen; omega) (by omega) rfl (fun pn cn => ?_)
  refine sQ (qA rfl) rfl (sD (nS (tT ?_)))
  refine E5 (rT rfl) A0.refl ?_
  exact ⟨rfl, _, _, by rw [Nat.zero_add], by rw [Nat.zero_add]; rfl⟩
def A0F (b : Nat) (A E F : Value) (p : Option Addr) (n c m : Nat) (cs : List Value) (es : List (List Value)) : IM → Value → List A4 → Prop := fun G' v outs =>
 if n < m then v = .tuple ⟨[.slice none 0 0, .bool false]⟩
 else ∃ q d, v = .tuple ⟨[.slice q m d, .bool true]⟩ ∧ outs = [.blk b [A, .slice p (n - m) c, E, F], .slc p c 82 4 (n - m) ((es.take (n - m)).flatten)] ∧ C5 G' q m d 4 (es.drop (n - m))
theorem B3x {es : List (List Value)} (l : Nat) (ha : ∀ e ∈ es, e.length = 4) : ∀ j v, (es.drop l).flatten[j]? = some v → es.flatten[l * 4 + j]? = some v := by
 intro j v hj
 rw [← A8v l ha, List.getElem?_drop] at hj
 exact hj
theorem A4E (b m n c : Nat) (A E F : Value) (p : Option Addr) (es : List (List Value)) (G : IM) (hm : m ≤ 2) (hn : n ≤ 4294967296) (hl : es.length = n) (ha : ∀ e ∈ es, e.length = 4) (ho : ∀ e ∈ es, e.all (·.oneCell') = true) (hA : A.cells = ⟨[A]⟩ ∧ E.cells = ⟨[E]⟩ ∧ F.cells = ⟨[F]⟩) :
  Fn Tryz.prog 129 [.pointer (some ⟨b, 0, none⟩), .int .i64 (m : Int)] [.blk b [A, .slice p n c, E, F], .slc p c 82 4 n es.flatten] G (A0F b A E F p n c m es.flatten es) := by
 refine B7 Tryz.func129 rfl Tryz.ntmps129 Tryz.results129 rfl ?_
 intro w0
 refine A3u (fun a w hs => hs.slc_pt (p := p) (c := c) (el := 82) (sz := 4) (n := n) (cs := es.flatten) (by repeat first | exact mH | apply mT)) (fun hq => ?_)
 rcases hq with ⟨rfl, rfl, rfl⟩ | ⟨g, rfl, hnc⟩
 ·obtain rfl : es = [] := List.length_eq_zero_iff.1 hl
  refine tS (tR (sQ (qA rfl) rfl (sQ (qA rfl) rfl (sD (nS (tS (tR (sQ (qM rfl) rfl ?_))))))))
  refine sQ (J6 rfl) rfl ?_
  refine sQ (A3 rfl) rfl (sL (A5 rfl rfl) rfl rfl (sQ (D8 rfl rfl) rfl (sQ (qM rfl) rfl ?_)))
  refine sP (L7 rfl rfl (by omega) (by omega)) rfl rfl ?_
  refine sQ (qA rfl) rfl (sD (nS (tS (tS (tR (sQ (qM rfl) rfl ?_))))))
  refine sB (J3 rfl rfl) rfl rfl (fun h23 => ?_) (fun h23 => ?_)
  ·refine sD (nS (qT rfl (tS (tR (sQ (qA rfl) rfl (sQ (qA rfl) rfl (sD (nS (tT (rS ?_))))))))))
   refine A4f (outs := [.blk b [A, .slice none 0 0, E, F], .slc none 0 82 4 0 []]) (rT rfl) (rT rfl) (by repeat (first | exact A0.refl | exact A0.nil | refine A0.cons (by repeat (first | exact Pk.here | apply Pk.there)) ?_)) ?_
   (show A0F _ _ _ _ _ _ _ _ _ _ _ _ _; unfold A0F; rw [if_pos (by omega)])
  ·refine sD (nS (cF rfl (tK (nS (tS ?_)))))
   (rw [show (((0 : Nat) : Int) - (m : Int)) = ((0 : Nat) : Int) from (by omega)])
   refine tR (sQ (qM rfl) rfl ?_)
   refine sQ (J6 rfl) rfl ?_
   refine sQ (A3 rfl) rfl (sL (A5 rfl rfl) rfl rfl (sQ (qM rfl) rfl ?_))
   (obtain rfl : m = 0 := (by omega); refine sQ (B3u rfl rfl rfl) rfl ?_)
   refine F0 rfl ((B3w G)) rfl rfl ?_
   refine sQ (qA rfl) rfl (sD (nS (tS (tR (sQ (qM rfl) rfl (sQ (qM rfl) rfl ?_))))))
   refine sQ (J6 rfl) rfl ?_
   refine sQ (A3 rfl) rfl (sL (A5 rfl rfl) rfl rfl (sQ (qM rfl) rfl ?_))
   (refine sP (A1q (l := 0) rfl rfl rfl (by omega)) rfl rfl ?_)
   refine sQ (J6 rfl) rfl ?_
   refine sQ (A3 rfl) rfl (B9 ?_)
   refine sD (nS (tS (tR (sQ (qM rfl) rfl (sQ (qA rfl) rfl (sQ (qA rfl) rfl (sD (nS (tT ?_)))))))))
   refine A4f (outs := [.blk b [A, .slice none 0 0, E, F], .slc none 0 82 4 0 []]) (rT rfl) (rT rfl) (by repeat (first | exact A0.refl | exact A0.nil | refine A0.cons (by repeat (first | exact Pk.here | apply Pk.there)) ?_)) ?_
   (show A0F _ _ _ _ _ _ _ _ _ _ _ _ _; unfold A0F; rw [if_neg (by omega)]; exact ⟨none, 0, rfl, rfl, C5.nil G 4⟩)
 ·have hdl : (es.drop (n - m)).length = n - (n - m) := by rw [List.length_drop, hl]
  have hfl : (es.drop (n - m)).flatten.length = (n - (n - m)) * 4 := by rw [A2q (fun e he => ha e (List.mem_of_mem_drop he)), hdl]
  have hf1 : ∀ u ∈ (es.drop (n - m)).flatten, u.oneCell' = true := by
   intro u hu
   obtain ⟨e, he, hue⟩ := List.mem_flatten.1 hu
   exact List.all_eq_true.1 (ho e (List.mem_of_mem_drop he)) u hue
  have hvv : ∀ j v, (es.drop (n - m)).flatten[j]? = some v → es.flatten[(if c = n - m then 0 else 0 + (n - m) * 4) + j]? = some v := by
   intro j v hj
   split
   ·rw [List.drop_eq_nil_of_le (by omega)] at hj; simp at hj
   ·rw [Nat.zero_add]; exact B3x _ ha j v hj
  have hC := B3v G g (if c = n - m then 0 else 0 + (n - m) * 4) (n - (n - m)) (c - (n - m)) c n es.flatten (es.drop (n - m)).flatten hvv hfl hf1 (by omega)
  refine tS (tR (sQ (qA rfl) rfl (sQ (qA rfl) rfl (sD (nS (tS (tR (sQ (qM rfl) rfl ?_))))))))
  refine sQ (J6 rfl) rfl ?_
  refine sQ (A3 rfl) rfl (sL (A5 rfl rfl) rfl rfl (sQ (D8 rfl rfl) rfl (sQ (qM rfl) rfl ?_)))
  refine sP (L7 rfl rfl (by omega) (by omega)) rfl rfl ?_
  refine sQ (qA rfl) rfl (sD (nS (tS (tS (tR (sQ (qM rfl) rfl ?_))))))
  refine sB (J3 rfl rfl) rfl rfl (fun h23 => ?_) (fun h23 => ?_)
  ·refine sD (nS (qT rfl (tS (tR (sQ (qA rfl) rfl (sQ (qA rfl) rfl (sD (nS (tT (rS ?_))))))))))
   refine H9 (rT rfl) (rT rfl) ?_
   (show A0F _ _ _ _ _ _ _ _ _ _ _ _ _; unfold A0F; rw [if_pos (by omega)])
  ·refine sD (nS (cF rfl (tK (nS (tS ?_)))))
   (rw [show ((n : Int) - (m : Int)) = ((n - m : Nat) : Int) from (by omega)])
   refine tR (sQ (qM rfl) rfl ?_)
   refine sQ (J6 rfl) rfl ?_
   refine sQ (A3 rfl) rfl (sL (A5 rfl rfl) rfl rfl (sQ (qM rfl) rfl ?_))
   refine sP (B2B (l := n - m) rfl rfl rfl (by omega)) rfl rfl ?_
   (refine D2 rfl hC (Pk.perm (by repeat (first | exact Pk.here | apply Pk.there))) rfl rfl (fun v Gn outs hle1 hh => ?_); obtain ⟨hG, p', c'', rfl, rfl⟩ := hh; subst hG; refine Q8 (cs := (es.drop (n - m)).flatten) (by repeat (first | exact Pk.here | apply Pk.there)) (fun Gf hleF hslF hnoF => ?_); have hslN := C5.of hslF hdl (fun e he => ha e (List.mem_of_mem_drop he)) (fun e he => ho e (List.mem_of_mem_drop he)))
   refine sQ (qA rfl) rfl (sD (nS (tS (tR (sQ (qM rfl) rfl (sQ (qM rfl) rfl ?_))))))
   refine sQ (J6 rfl) rfl ?_
   refine sQ (A3 rfl) rfl (sL (A5 rfl rfl) rfl rfl (sQ (qM rfl) rfl ?_))
   refine sP (A1q (l := n - m) rfl rfl rfl (by omega)) rfl rfl ?_
   refine sQ (J6 rfl) rfl ?_
   refine sQ (A3 rfl) rfl ?_
   (refine A59 (k := n - m) (p := some ⟨g, 0, none⟩) (by repeat (first | exact Pk.here | apply Pk.there)) (by omega) ?_; refine B9 ?_)
   refine sD (nS (tS (tR (sQ (qM rfl) rfl (sQ (qA rfl) rfl (sQ (qA rfl) rfl (sD (nS (tT ?_)))))))))
   refine A4f (outs := [.blk b [A, .slice (some ⟨g, 0, none⟩) (n - m) c, E, F], .slc (some ⟨g, 0, none⟩) c 82 4 (n - m) (es.flatten.take ((n - m) * 4))]) (rT rfl) (rT rfl) (by repeat (first | exact A0.refl | exact A0.nil | refine A0.cons (by repeat (first | exact Pk.here | apply Pk.there)) ?_)) ?_
   (show A0F _ _ _ _ _ _ _ _ _ _ _ _ _; unfold A0F; rw [if_neg (by omega)]; have hmm : n - (n - m) = m := (by omega); rw [hmm] at hslN; exact ⟨_, _, by rw [hmm], by rw [A5Q _ ha], hslN⟩)
theorem A1U (b n c : Nat) (A E F x1 x2 x3 x4 : Value) (p : Option Addr) (cs : List Value) (G : IM) (hn : n ≤ 4294967296) (hx : [x1, x2, x3, x4].all (·.oneCell') = true) :
  Fn Tryz.prog 130 [.pointer (some ⟨b, 0, none⟩), .agg ⟨[x1, x2, x3, x4]⟩] [.blk b [A, .slice p n c, E, F], .slc p c 82 4 n cs] G (fun G' v outs => G' = G ∧ v = .tuple ⟨[]⟩ ∧ ∃ p' c', outs = [.blk b [A, .slice p' (n + 1) c', E, F], .slc p' c' 82 4 (n + 1) (cs ++ [x1, x2, x3, x4])]) := by
 refine B7 Tryz.func130 rfl Tryz.ntmps130 Tryz.results130 rfl ?_
 intro w0
 refine A3u (fun a w hs => hs.slc_form (p := p) (c := c) (el := 82) (sz := 4) (n := n) (cs := cs) (by repeat first | exact mH | apply mT)) (fun hq => ?_)
 obtain ⟨hcl, hnc, _⟩ := hq
 refine tS (tR ?_)
 refine sE (D5 rfl rfl) rfl (fun b3 => ?_)
 refine sD (nS ?_)
 refine I0 I1 rfl ?_
 refine J2 (i := 0) (l' := [tt,ff,ff,ff,ff,ff,ff,ff,ff,ff,ff,ff,ff]) rfl F4 (qM rfl) rfl (by kernel_rfl) rfl rfl ?_
 refine aP 1 rfl (J6 rfl) rfl ?_
 refine aP 2 rfl (A3 rfl) rfl ?_
 refine aL 3 rfl (A5 rfl rfl) rfl ?_
 refine aL 4 rfl (A7 rfl rfl) rfl ?_
 refine aP 5 rfl (D8 rfl rfl) rfl ?_
 refine A8 6 ?_
 (refine J9 rfl (D0 rfl rfl rfl (by omega) (by unfold maxLen; omega) rfl) rfl rfl ?_; rintro _ ⟨b14, rfl⟩)
 refine A8 7 ?_
 (refine S9 rfl rfl rfl rfl rfl rfl (fun _ _ => by repeat (first | exact Sw.here | apply Sw.there)) (K9 (by repeat first | exact mH | apply mT)) rfl (by simp [Value.oneCell']) (by unfold maxLen; omega) (by omega) rfl rfl (by repeat (first | exact B0.nil | apply B0.dep (by decide +kernel) | apply B0.blk (by decide +kernel) (by repeat (first | exact Pk.here | apply Pk.there)) (by repeat first | exact mH | apply mT))) (fun p5 c5 => ?_); refine A3v (fun a w hs => (hs.slc_form (p := p5) (c := c5) (el := 82) (sz := 4) (n := n + 1) (by repeat first | exact mH | apply mT)).2.2 (Nat.succ_pos _)) (fun hq => ?_); obtain ⟨g5, rfl⟩ := hq)
 refine aP 8 rfl (C2 (j := n) rfl rfl rfl (by omega)) rfl ?_
 refine aP 10 rfl (J6 rfl) rfl ?_
 refine aP 11 rfl (A3 rfl) rfl ?_
 refine A0N (j := 9) (j' := 12) (by kernel_rfl) ?_ ?_
 (refine A8E (l' := [tt,tt,tt,tt,tt,tt,tt,tt,tt,tt,tt,tt,ff]) rfl rfl rfl rfl rfl hx rfl rfl (by decide +kernel) (by repeat first | exact Sw.here | apply Sw.there) (by exact A8S hcl rfl) ?_)
 refine A8 12 ?_
 refine P3 rfl rfl rfl rfl rfl rfl rfl rfl (by decide +kernel) (by repeat first | exact Sw.here | apply Sw.there) (by rfl) ?_
 refine D6 ?_
 refine A4D (outs := [.blk b [A, .slice (some ⟨g5, 0, none⟩) (n + 1) c5, E, F], .slc (some ⟨g5, 0, none⟩) c5 82 4 (n + 1) (cs ++ [x1, x2, x3, x4])]) (by repeat (first | exact A0.refl | exact A0.nil | refine A0.cons (by repeat (first | exact Pk.here | apply Pk.there)) ?_)) ?_
 (exact ⟨rfl, rfl, _, _, rfl⟩)
 refine P3 rfl rfl rfl rfl rfl rfl rfl rfl (by decide +kernel) (by repeat first | exact Sw.here | apply Sw.there) (by rfl) ?_
 refine A8 9 ?_
 (refine A8E (l' := [tt,tt,tt,tt,tt,tt,tt,tt,tt,tt,tt,tt,tt]) rfl rfl rfl rfl rfl hx rfl rfl (by decide +kernel) (by repeat first | exact Sw.here | apply Sw.there) (by exact A8S hcl rfl) ?_)
 refine D6 ?_
 refine A4D (outs := [.blk b [A, .slice (some ⟨g5, 0, none⟩) (n + 1) c5, E, F], .slc (some ⟨g5, 0, none⟩) c5 82 4 (n + 1) (cs ++ [x1, x2, x3, x4])]) (by repeat (first | exact A0.refl | exact A0.nil | refine A0.cons (by repeat (first | exact Pk.here | apply Pk.there)) ?_)) ?_
 (exact ⟨rfl, rfl, _, _, rfl⟩)
def A25 (x : List Value) (n : Nat) : Prop := ∃ ops : J0, n = ops.length ∧ x = (ops.map A24).flatten ∧ ∀ y ∈ ops, C6 y.1 ∧ C6 y.2
theorem A25.len {x : List Value} {n : Nat} (h : A25 x n) : x.length = n * 2 := by
 obtain ⟨a, rfl, rfl, _⟩ := h
 rw [A2q (sz := 2) (by intro e he; obtain ⟨y, _, rfl⟩ := List.mem_map.1 he; rfl), List.length_map]
theorem A25.ones {x : List Value} {n : Nat} (h : A25 x n) : ∀ u ∈ x, u.oneCell' = true := by
 obtain ⟨a, rfl, rfl, _⟩ := h
 intro u hu
 obtain ⟨e, he, hue⟩ := List.mem_flatten.1 hu
 obtain ⟨y, _, rfl⟩ := List.mem_map.1 he
 simp [A24] at hue
 rcases hue with rfl | rfl <;> rfl
mutual
def cOk : Tm → Prop
 | .mk k nm _ _ _ _ ks => nm.size ≤ 1 ∧ (k = 5 → 1 ≤ ks.length) ∧ (k = 9 → 3 ≤ ks.length) ∧ A2c ks
def A2c : List Tm → Prop
 | [] => True
 | t :: ts => cOk t ∧ A2c ts
end
theorem A8U : ∀ {ts : List Tm}, A2c ts → ∀ t ∈ ts, cOk t
 | [], _, t, h => by simp at h
 | t' :: ts, h, t, ht => by
  simp only [A2c] at h
  rcases List.mem_cons.1 ht with rfl | ht
  ·exact h.1
  ·exact A8U h.2 t ht
theorem B3y : cOk H7 := by simp [H7, cOk, A2c, ByteArray.size]
mutual
theorem A8V (D N : Int) : ∀ (t : Tm) (d : Int), M1 D N t d = true → cOk (D3 t)
 | .mk k nm num ty fr lb ks, d, h => by
  obtain ⟨_, _, h3, h4⟩ := V7 h
  have hL := A8W D N ks _ h4
  have hn := A4C h3
  obtain ⟨ha, _⟩ := U9.1 h3
  rw [D3]
  split
  ·cases ks with
   | nil => simpa [I3] using B3y
   | cons t ts =>
    simp only [I3, A2c] at hL
    simpa [I3] using hL.1
  ·simp only [cOk]
   rw [A1R, List.length_map, ← A1R]
   refine ⟨hn, fun hk => ?_, fun hk => ?_, hL⟩
   ·subst hk; have : E7 5 = 1 := by decide
    omega
   ·subst hk; have : E7 9 = 3 := by decide
    omega
theorem A8W (D N : Int) : ∀ (ts : List Tm) (d : Int), N6 D N ts d = true → A2c (I3 ts)
 | [], _, _ => by rw [I3]; trivial
 | t :: ts, d, h => by
  rw [N6, Bool.and_eq_true] at h
  simp only [I3, A2c]
  exact ⟨A8V D N t d h.1, A8W D N ts d h.2⟩
end
theorem B3z {ks : List Tm} (h : 3 ≤ ks.length) : E6 (ks[0]'(by omega)) + E6 (ks[1]'(by omega)) + E6 (ks[2]'(by omega)) ≤ I2 ks := by
 match ks, h with
 | a :: b :: c :: r, _ => simp only [I2, List.getElem_cons_zero, List.getElem_cons_succ]; omega
theorem B3A {ks : List Tm} (h : 1 ≤ ks.length) : E6 (ks[0]'(by omega)) ≤ I2 ks := by
 match ks, h with
 | a :: r, _ => simp only [I2, List.getElem_cons_zero]; omega
def B7a (G : IM) (B : Nat) : IM → Value → List A4 → Prop := fun G' v outs => G' = G ∧ ∃ p n c x, v = .slice p n c ∧ outs = [.slc p c 72 2 n x] ∧ A25 x n ∧ 1 ≤ n ∧ n ≤ B
theorem S6 {P : Program} {Γ : J1} {env : J5} {hp h1 : List A4} {G : IM} {r : ResultVar} {post : IM → Value → List A4 → Prop} {p : Option Addr} {n c : Nat} {x : List Value} (hr : U3 P Γ ⟨env, hp, G⟩ r (.slice p n c)) (k1 : Pk hp (.slc p c 72 2 n x) h1)
  (h : post G (.slice p n c) [.slc p c 72 2 n x]) : Z3 P Γ [r] post .ret ⟨env, hp, G⟩ := E5 hr (.cons k1 .nil) h
theorem A4F {n : Nat} (h : n ≤ 4294967296) : C6 (n : Int) := by unfold C6; omega
end Gw
end Go.Proofs.YtgodjiieijekiaaGreatDoor
namespace Go.Proofs.YtgodjiieijekiaaGreatDoor
namespace Gw
inductive GT where
 | any | int | bool
 | fn (a b : GT)
 | pr (a b : GT)
inductive GE where
 | var (x : ByteArray)
 | num (n : Int)
 | tru (b : Bool)
 | lam (x : ByteArray) (A : GT) (e : GE)
 | app (f a : GE)
 | ar (s : Bool) (a b : GE)
 | ite (c a b : GE)
 | pair (a b : GE)
 | part (s : Bool) (e : GE)
 | cast (A B : GT) (l : Int) (e : GE)
def GT.gr : GT → GT
 | .any => .any
 | .int => .int
 | .bool => .bool
 | .fn _ _ => .fn .any .any
 | .pr _ _ => .pr .any .any
def GT.Gd (t : GT) : Prop := t ≠ .any ∧ t.gr = t
inductive Co : GT → GT → Prop
 | l {b} : Co .any b
 | r {a} : Co a .any
 | int : Co .int .int
 | bool : Co .bool .bool
 | fn {a b a' b'} : Co a a' → Co b b' → Co (.fn a b) (.fn a' b')
 | pr {a b a' b'} : Co a a' → Co b b' → Co (.pr a b) (.pr a' b')
inductive Le : GT → GT → Prop
 | any {a} : Le a .any
 | int : Le .int .int
 | bool : Le .bool .bool
 | fn {a b a' b'} : Le a a' → Le b b' → Le (.fn a b) (.fn a' b')
 | pr {a b a' b'} : Le a a' → Le b b' → Le (.pr a b) (.pr a' b')
def GE.sub : GE → ByteArray → GE → GE
 | .var y, x, v => if y = x then v else .var y
 | .num n, _, _ => .num n
 | .tru b, _, _ => .tru b
 | .lam y A e, x, v => if y = x then .lam y A e else .lam y A (e.sub x v)
 | .app f a, x, v => .app (f.sub x v) (a.sub x v)
 | .ar s a b, x, v => .ar s (a.sub x v) (b.sub x v)
 | .ite c a b, x, v => .ite (c.sub x v) (a.sub x v) (b.sub x v)
 | .pair a b, x, v => .pair (a.sub x v) (b.sub x v)
 | .part s e, x, v => .part s (e.sub x v)
 | .cast A B l e, x, v => .cast A B l (e.sub x v)
inductive GV : GE → Prop
 | num {n} : GV (.num n)
 | tru {b} : GV (.tru b)
 | lam {x A e} : GV (.lam x A e)
 | pair {a b} : GV a → GV b → GV (.pair a b)
 | pf {a b c d l e} : GV e → GV (.cast (.fn a b) (.fn c d) l e)
 | pp {a b c d l e} : GV e → GV (.cast (.pr a b) (.pr c d) l e)
 | inj {A l e} : GV e → A.Gd → GV (.cast A .any l e)
def A1V (s : Bool) (m n : Int) : GE := if s = true then .tru (decide (m < n)) else .num ((m + n) % 1000)
inductive GS : GE → GE → Prop
 | app1 {f f' a} : GS f f' → GS (.app f a) (.app f' a)
 | app2 {f a a'} : GV f → GS a a' → GS (.app f a) (.app f a')
 | ar1 {s a a' b} : GS a a' → GS (.ar s a b) (.ar s a' b)
 | ar2 {s a b b'} : GV a → GS b b' → GS (.ar s a b) (.ar s a b')
 | ite1 {c c' a b} : GS c c' → GS (.ite c a b) (.ite c' a b)
 | pair1 {a a' b} : GS a a' → GS (.pair a b) (.pair a' b)
 | pair2 {a b b'} : GV a → GS b b' → GS (.pair a b) (.pair a b')
 | part1 {s e e'} : GS e e' → GS (.part s e) (.part s e')
 | cast1 {A B l e e'} : GS e e' → GS (.cast A B l e) (.cast A B l e')
 | beta {x A b v} : GV v → GS (.app (.lam x A b) v) (b.sub x v)
 | appx {a b c d l f v} : GV f → GV v → GS (.app (.cast (.fn a b) (.fn c d) l f) v) (.cast b d l (.app f (.cast c a (-l) v)))
 | ar {s m n} : GS (.ar s (.num m) (.num n)) (A1V s m n)
 | ite {b x y} : GS (.ite (.tru b) x y) (if b = true then x else y)
 | part {s a b} : GV a → GV b → GS (.part s (.pair a b)) (if s = true then b else a)
 | partx {s a b c d l e} : GV e → GS (.part s (.cast (.pr a b) (.pr c d) l e)) (.cast (if s = true then b else a) (if s = true then d else c) l (.part s e))
 | cid {A l v} : GV v → (A = .any ∨ A = .int ∨ A = .bool) → GS (.cast A A l v) v
 | up {A l v} : GV v → A ≠ .any → A.gr ≠ A → GS (.cast A .any l v) (.cast A.gr .any l (.cast A A.gr l v))
 | down {B l v} : GV v → B ≠ .any → B.gr ≠ B → GS (.cast .any B l v) (.cast B.gr B l (.cast .any B.gr l v))
 | hit {G l m w} : GV w → G.Gd → GS (.cast .any G l (.cast G .any m w)) w
theorem GV.noS {e : GE} (h : GV e) : ∀ r, ¬ GS e r := by
 induction h with
 | num => intro r s; cases s
 | tru => intro r s; cases s
 | lam => intro r s; cases s
 | pair _ _ i j =>
  intro r s
  cases s with
  | pair1 s => exact i _ s
  | pair2 _ s => exact j _ s
 | pf _ i =>
  intro r s
  cases s with
  | cast1 s => exact i _ s
  | cid _ h => rcases h with h | h | h <;> cases h
 | pp _ i =>
  intro r s
  cases s with
  | cast1 s => exact i _ s
  | cid _ h => rcases h with h | h | h <;> cases h
 | inj _ hg i =>
  intro r s
  cases s with
  | cast1 s => exact i _ s
  | cid _ h => exact hg.1 rfl
  | up _ _ h => exact h hg.2
  | down _ h => exact h rfl
  | hit _ h => exact h.1 rfl
theorem GV.ofCast {A B : GT} {l : Int} {e : GE} (h : GV (.cast A B l e)) : GV e := by cases h <;> assumption
inductive Ss : GE → GE → Prop
 | refl {e} : Ss e e
 | step {a b c} : GS a b → Ss b c → Ss a c
theorem Ss.trans {a b c : GE} (h : Ss a b) (h2 : Ss b c) : Ss a c := by
 induction h with
 | refl => exact h2
 | step s _ i => exact .step s (i h2)
theorem Ss.one {a b : GE} (h : GS a b) : Ss a b := .step h .refl
theorem Ss.ctx {a b : GE} (C : GE → GE) (hC : ∀ x y, GS x y → GS (C x) (C y)) (h : Ss a b) : Ss (C a) (C b) := by
 induction h with
 | refl => exact .refl
 | step s _ i => exact .step (hC _ _ s) i
abbrev GC := ByteArray → Option (GT × GT)
def emp : GC := fun _ => none
def gup (Γ : GC) (x : ByteArray) (A A' : GT) : GC := fun y => if x = y then some (A, A') else Γ y
inductive GP : GC → GE → GE → GT → GT → Prop
 | var {Γ x A A'} : Γ x = some (A, A') → Le A A' → GP Γ (.var x) (.var x) A A'
 | num {Γ n} : GP Γ (.num n) (.num n) .int .int
 | tru {Γ b} : GP Γ (.tru b) (.tru b) .bool .bool
 | lam {Γ x A A' B B' e e'} : Le A A' → GP (gup Γ x A A') e e' B B' → GP Γ (.lam x A e) (.lam x A' e') (.fn A B) (.fn A' B')
 | app {Γ f f' a a' A A' B B'} : GP Γ f f' (.fn A B) (.fn A' B') → GP Γ a a' A A' → GP Γ (.app f a) (.app f' a') B B'
 | ar {Γ s a a' b b'} : GP Γ a a' .int .int → GP Γ b b' .int .int → GP Γ (.ar s a b) (.ar s a' b') (if s = true then .bool else .int) (if s = true then .bool else .int)
 | ite {Γ c c' a a' b b' A A'} : GP Γ c c' .bool .bool → GP Γ a a' A A' → GP Γ b b' A A' → GP Γ (.ite c a b) (.ite c' a' b') A A'
 | pair {Γ a a' b b' A A' B B'} : GP Γ a a' A A' → GP Γ b b' B B' → GP Γ (.pair a b) (.pair a' b') (.pr A B) (.pr A' B')
 | part {Γ s e e' A A' B B'} : GP Γ e e' (.pr A B) (.pr A' B') → GP Γ (.part s e) (.part s e') (if s = true then B else A) (if s = true then B' else A')
 | castL {Γ e e' A B A' l} : GP Γ e e' A A' → Co A B → Le B A' → GP Γ (.cast A B l e) e' B A'
 | castR {Γ e e' A A' B' l} : GP Γ e e' A A' → Co A' B' → Le A B' → GP Γ e (.cast A' B' l e') A B'
 | castB {Γ e e' A B A' B' l l'} : GP Γ e e' A A' → Co A B → Co A' B' → Le B B' → GP Γ (.cast A B l e) (.cast A' B' l' e') B B'
inductive GX where
 | n (n : Int) | b (b : Bool) | p | f
def GE.tx : GE → GX
 | .num n => .n n
 | .tru b => .b b
 | .pair _ _ => .p
 | .cast _ (.fn _ _) _ _ => .f
 | .cast _ (.pr _ _) _ _ => .p
 | .cast _ _ _ e => e.tx
 | _ => .f
def Y9 : Ty := .mk 2 []
def A0R : Ty := .mk 3 []
mutual
def V1 : Ty → Ty → Bool
 | .mk k ks, t => decide (k = t.k) && A0w ks t.ks
def A0w : List Ty → List Ty → Bool
 | [], [] => true
 | a :: xs, b :: ys => V1 a b && A0w xs ys
 | _, _ => false
end
theorem A6m (k k' : Int) (ks ks' : List Ty) : V1 (.mk k ks) (.mk k' ks') = (decide (k = k') && A0w ks ks') := by rw [V1]; rfl
mutual
theorem A8X : ∀ (a b : Ty), V1 a b = true ↔ a = b
 | .mk k ks, .mk k' ks' => by
  rw [A6m, Bool.and_eq_true, decide_eq_true_eq, A8Y ks ks', Ty.mk.injEq]
theorem A8Y : ∀ (xs ys : List Ty), A0w xs ys = true ↔ xs = ys
 | [], [] => by simp [A0w]
 | [], b :: ys => by simp [A0w]
 | a :: xs, [] => by simp [A0w]
 | a :: xs, b :: ys => by
  rw [A0w, Bool.and_eq_true, A8X a b, A8Y xs ys, List.cons.injEq]
end
theorem A8Z : ∀ (xs ys : List Ty), A0w xs ys = true ↔ xs.length = ys.length ∧ ∀ i, (h : i < xs.length) → (h' : i < ys.length) → V1 xs[i] ys[i] = true
 | [], [] => by simp [A0w]
 | [], b :: ys => by simp [A0w]
 | a :: xs, [] => by simp [A0w]
 | a :: xs, b :: ys => by
  simp only [A0w, Bool.and_eq_true, A8Z xs ys, List.length_cons]
  constructor
  ·rintro ⟨h1, h2, h3⟩
   refine ⟨by omega, fun i hi hi' => ?_⟩
   cases i with
   | zero => exact h1
   | succ i => exact h3 i (by simpa using hi) (by simpa using hi')
  ·rintro ⟨h1, h2⟩
   exact ⟨h2 0 (by simp) (by simp), by omega, fun i hi hi' => h2 (i + 1) (by simpa using hi) (by simpa using hi')⟩

abbrev Cx := List (ByteArray × Ty)
def A0S (cx : Cx) (nm : ByteArray) : Nat → Option Ty
 | 0 => none
 | n + 1 => match cx[n]? with
  | some b => if b.1 = nm then some b.2 else A0S cx nm n
  | none => A0S cx nm n
def A2d (cx : Cx) (nm : ByteArray) : Option Ty := A0S cx nm cx.length
theorem B3B {cx : Cx} {nm x : ByteArray} {n : Nat} {t : Ty} (h : cx[n]? = some (x, t)) (he : x = nm) : A0S cx nm (n + 1) = some t := by
 rw [A0S, h]; simp only [he, if_true]
theorem B3C {cx : Cx} {nm x : ByteArray} {n : Nat} {t : Ty} (h : cx[n]? = some (x, t)) (he : ¬x = nm) : A0S cx nm (n + 1) = A0S cx nm n := by
 rw [A0S, h]; simp only [he, if_false]

mutual
def A0x : Ty → Ty → Ty
 | .mk k ks, b => if k = 1 then b else if b.k = 1 then .mk k ks else .mk k (A0c ks b.ks)
def A0c : List Ty → List Ty → List Ty
 | a :: xs, b :: ys => A0x a b :: A0c xs ys
 | _, _ => []
end
theorem A6n (k k' : Int) (ks ks' : List Ty) : A0x (.mk k ks) (.mk k' ks') = if k = 1 then .mk k' ks' else if k' = 1 then .mk k ks else .mk k (A0c ks ks') := by rw [A0x]; rfl
def A0j (kind : Int) (t : Ty) : Option (Ty × Ty) :=
 if t.k = kind then some (t.ks.getD 0 B8, t.ks.getD 1 B8) else if t.k = 1 then some (O4, O4) else none
def A0G (cx : Cx) (k : Int) (nm : ByteArray) (ty : Ty) (h : List Ty) : Option (List Ty × Ty) :=
 if k = 1 then (match A2d cx nm with | some t => some ([], t) | none => none)
 else if k = 2 then some ([], Y9)
 else if k = 3 ∨ k = 4 then some ([], A0R)
 else if k = 5 then some ([], .mk 4 [ty, h.getD 0 B8])
 else if k = 6 then (match A0j 4 (h.getD 0 B8) with | some (a, b) => if O3 (h.getD 1 B8) a = true then some ([.mk 4 [a, b], a], b) else none | none => none)
 else if k = 7 ∨ k = 8 then (if O3 (h.getD 0 B8) Y9 = true ∧ O3 (h.getD 1 B8) Y9 = true then some ([Y9, Y9], if k = 8 then A0R else Y9) else none)
 else if k = 9 then (if O3 (h.getD 0 B8) A0R = true ∧ O3 (h.getD 1 B8) (h.getD 2 B8) = true then some ([A0R, A0x (h.getD 1 B8) (h.getD 2 B8), A0x (h.getD 1 B8) (h.getD 2 B8)], A0x (h.getD 1 B8) (h.getD 2 B8)) else none)
 else if k = 10 then some ([], .mk 5 [h.getD 0 B8, h.getD 1 B8])
 else if k = 13 then (if O3 (h.getD 0 B8) ty = true then some ([ty], ty) else none)
 else (match A0j 5 (h.getD 0 B8) with | some (a, b) => some ([.mk 5 [a, b]], if k = 12 then b else a) | none => none)
def A26 (cx : Cx) (k : Int) (nm : ByteArray) (ty : Ty) (h : List Ty) : Option (List Ty × Ty) := match A0G cx k nm ty h with
 | some (w, t) => if M0 t = true then some (w, t) else none
 | none => none
def A80 : List Ty → List Ty → Bool
 | [], _ => true
 | a :: xs, b :: ys => V1 a b && A80 xs ys
 | _ :: _, [] => false
def A0T (cx : Cx) (k : Int) (nm : ByteArray) (ty : Ty) : Cx := if k = 5 then cx ++ [(nm, ty)] else cx
mutual
def A4G (cx : Cx) : Tm → Option Ty
 | .mk k nm num ty fr lb ks => match A81 (A0T cx k nm ty) ks with
  | none => none
  | some h => if k = 14 then (if V1 (h.getD 0 B8) fr = true then some ty else none)
   else match A26 cx k nm ty h with
    | none => none
    | some (w, t) => if A80 w h = true then some t else none
def A81 (cx : Cx) : List Tm → Option (List Ty)
 | [] => some []
 | t :: ts => match A4G cx t with
  | none => none
  | some u => match A81 cx ts with
   | none => none
   | some us => some (u :: us)
end
def B3D (e : Tm) : Option Ty := if N0 e = true then A4G [] e else none
def A1w (t : Ty) : Ty := if t.k = 4 ∨ t.k = 5 then .mk t.k [O4, O4] else .mk t.k []
def A0U (t : Ty) : Bool := decide (t.k ≠ 1) && V1 t (A1w t)
def W5 (t : Tm) : Bool := decide (t.k = 14 ∧ t.fr.k = t.ty.k ∧ (t.ty.k = 4 ∨ t.ty.k = 5))
def inj (t : Tm) : Bool := decide (t.k = 14 ∧ t.ty.k = 1) && A0U t.fr
mutual
def I8 : Tm → Bool
 | .mk k nm num ty fr lb ks => if k = 10 ∨ (k = 14 ∧ fr.k = ty.k ∧ (ty.k = 4 ∨ ty.k = 5)) ∨ (k = 14 ∧ ty.k = 1 ∧ A0U fr = true) then A1h ks else decide (k = 2 ∨ k = 3 ∨ k = 4 ∨ k = 5)
def A1h : List Tm → Bool
 | [] => true
 | t :: ts => I8 t && A1h ts
end
mutual
def W6 (x : ByteArray) (v : Tm) : Tm → Tm
 | .mk k nm num ty fr lb ks => if k = 1 ∧ nm = x then v else if k = 5 ∧ nm = x then .mk k nm num ty fr lb ks else .mk k nm num ty fr lb (V8 x v ks)
def V8 (x : ByteArray) (v : Tm) : List Tm → List Tm
 | [] => []
 | t :: ts => W6 x v t :: V8 x v ts
end
theorem A6o (x : ByteArray) (v : Tm) : ∀ ks, V8 x v ks = ks.map (W6 x v)
 | [] => rfl
 | t :: ts => by rw [V8, A6o x v ts, List.map_cons]
def V9 (e : Tm) (fr to : Ty) (lb : Int) : Tm := .mk 14 ⟨#[]⟩ 0 to fr lb [e]
def A0H (k : Int) (ks : List Tm) : Tm := .mk k ⟨#[]⟩ 0 B8 B8 0 ks
def A4H (n : Int) : Tm := .mk 2 ⟨#[]⟩ n B8 B8 0 []
def A1x (b : Prop) [Decidable b] : Tm := A0H (if b then 3 else 4) []
abbrev Z0 := Tm × Int × Int
def A0I : Z0 := (H7, 3, 0)
def kd (ks : List Tm) (i : Nat) : Tm := ks.getD i H7
def kt (ks : List Ty) (i : Nat) : Ty := ks.getD i B8
def B3E (k : Int) (ty fr : Ty) (lb : Int) (ks : List Tm) : Z0 :=
 if k = 6 then
  (if (kd ks 0).k = 5 then (W6 (kd ks 0).nm (kd ks 1) (kd (kd ks 0).ks 0), 1, 0)
   else if W5 (kd ks 0) = true ∧ (kd ks 0).ty.k = 4 then (V9 (A0H 6 [kd (kd ks 0).ks 0, V9 (kd ks 1) (kt (kd ks 0).ty.ks 0) (kt (kd ks 0).fr.ks 0) (-(kd ks 0).lb)]) (kt (kd ks 0).fr.ks 1) (kt (kd ks 0).ty.ks 1) (kd ks 0).lb, 1, 0)
   else A0I)
 else if k = 7 ∨ k = 8 then
  (if (kd ks 0).k = 2 ∧ (kd ks 1).k = 2 then (if k = 7 then A4H (((kd ks 0).num + (kd ks 1).num) % 1000) else A1x ((kd ks 0).num < (kd ks 1).num), 1, 0) else A0I)
 else if k = 9 then (if (kd ks 0).k = 3 then (kd ks 1, 1, 0) else if (kd ks 0).k = 4 then (kd ks 2, 1, 0) else A0I)
 else if k = 11 ∨ k = 12 then
  (if (kd ks 0).k = 10 then (kd (kd ks 0).ks (k - 11).toNat, 1, 0)
   else if W5 (kd ks 0) = true ∧ (kd ks 0).ty.k = 5 then (V9 (A0H k [kd (kd ks 0).ks 0]) (kt (kd ks 0).fr.ks (k - 11).toNat) (kt (kd ks 0).ty.ks (k - 11).toNat) (kd ks 0).lb, 1, 0)
   else A0I)
 else if k = 14 then
  (if fr.k = ty.k then (kd ks 0, 1, 0)
   else if ty.k = 1 then (V9 (V9 (kd ks 0) fr (A1w fr) lb) (A1w fr) ty lb, 1, 0)
   else if A0U ty = false then (V9 (V9 (kd ks 0) fr (A1w ty) lb) (A1w ty) ty lb, 1, 0)
   else if inj (kd ks 0) = false then A0I
   else if (kd ks 0).fr.k = ty.k then (kd (kd ks 0).ks 0, 1, 0)
   else (H7, 2, lb))
 else A0I
mutual
def A1W : Tm → Z0
 | .mk k nm num ty fr lb ks => match A82 (if k = 9 then 1 else ks.length) ks with
  | some (ks', c, l) => if c = 1 then (.mk k nm num ty fr lb ks', 1, 0) else (H7, c, l)
  | none => B3E k ty fr lb ks
def A82 : Nat → List Tm → Option (List Tm × Int × Int)
 | _, [] => none
 | n, t :: ts => match n with
  | 0 => none
  | n + 1 => if I8 t = true then (match A82 n ts with
    | some (us, c, l) => some (t :: us, c, l)
    | none => none)
   else some ((A1W t).1 :: ts, (A1W t).2.1, (A1W t).2.2)
end
def U7 (e : Tm) : Z0 :=
 if N0 e = false then A0I else if I8 e = true then (e, 0, 0)
 else if (A1W e).2.1 ≠ 1 then (H7, (A1W e).2.1, (A1W e).2.2)
 else if N0 (A1W e).1 = false then (H7, 4, 0) else ((A1W e).1, 1, 0)
def mEv : Nat → Tm → Tm × Int × Int × Nat
 | 0, e => if (U7 e).2.1 = 1 then (H7, 5, 0, 0) else ((U7 e).1, (U7 e).2.1, (U7 e).2.2, 0)
 | n + 1, e => if (U7 e).2.1 = 1 then ((mEv n (U7 e).1).1, (mEv n (U7 e).1).2.1, (mEv n (U7 e).1).2.2.1, (mEv n (U7 e).1).2.2.2 + 1)
  else ((U7 e).1, (U7 e).2.1, (U7 e).2.2, 0)
def A0d (e : Tm) (fuel : Int) : Z0 := if 0 ≤ fuel ∧ fuel ≤ 300 then ((mEv fuel.toNat e).1, (mEv fuel.toNat e).2.1, (mEv fuel.toNat e).2.2.1) else A0I
def B7b (e : Tm) (fuel : Int) : Int := if 0 ≤ fuel ∧ fuel ≤ 300 then ((mEv fuel.toNat e).2.2.2 : Int) else 0
structure CvN (k : Int) (nm : ByteArray) (num : Int) (ty fr : Ty) (lb : Int) (ks : List Tm) : Prop where
 ops : E7 k = ks.length
 ne : k ≠ 13
 nm1 : nm.size ≤ 1
 num0 : 0 ≤ num ∧ num ≤ 999
 tyA : H4 ty
 frA : H4 fr
 lbB : -99 ≤ lb ∧ lb ≤ 99
 c14 : k = 14 → O3 fr ty = true ∧ M0 ty = true ∧ M0 fr = true
 ty5 : ¬(k = 5 ∨ k = 14) → ty = B8
 fr14 : k ≠ 14 → fr = B8 ∧ lb = 0
def cv (t : Tm) : Prop := ∃ d, M1 40 13 t d = true
theorem A4I {n lo hi : Int} : P4 n lo hi = true ↔ lo ≤ n ∧ n ≤ hi := by unfold P4; rw [decide_eq_true_eq]
theorem cv.node {k : Int} {nm : ByteArray} {num : Int} {ty fr : Ty} {lb : Int} {ks : List Tm} (h : cv (.mk k nm num ty fr lb ks)) : CvN k nm num ty fr lb ks ∧ ∀ t ∈ ks, cv t := by
 obtain ⟨d, h⟩ := h
 obtain ⟨_, h2, h3, h4⟩ := V7 h
 obtain ⟨n1, n2, n3, n4, n5, n6, n7, n8, n9⟩ := U9.1 h3
 refine ⟨⟨n1, h2, A4C h3, ?_, (A6h h3).1, ?_, ?_, ?_, ?_, ?_⟩, fun t ht => ?_⟩
 ·by_cases hk : k = 2
  ·exact A4I.1 (n4 hk)
  ·have := A4I.1 (n5 hk); omega
 ·by_cases hk : k = 14
  ·have := (n8 hk).1
   simp only [A1O, Bool.and_eq_true] at this
   exact (A6g this.1.1).1
  ·rw [A2u (n9 hk).1]; exact U0 (by decide) (by decide)
 ·by_cases hk : k = 14
  ·have := (n8 hk).2
   simp only [A1P, Bool.or_eq_true, A4I] at this
   omega
  ·have := (n9 hk).2; omega
 ·intro hk
  have := (n8 hk).1
  simp only [A1O, Bool.and_eq_true] at this
  exact ⟨this.2, this.1.2, this.1.1⟩
 ·intro hk
  exact A2u (n7 (by omega))
 ·intro hk
  exact ⟨A2u (n9 hk).1, (n9 hk).2⟩
 ·obtain ⟨i, hi, rfl⟩ := List.mem_iff_getElem.1 ht
  exact ⟨_, (A0B 40 13 ks _).1 h4 i hi⟩
theorem A6p {t : Tm} (h : N0 t = true) : cv t ∧ E6 t ≤ 200 := by
 obtain ⟨h1, h2⟩ := (A4o t).1 h
 exact ⟨⟨1, h1⟩, h2⟩
mutual
theorem A4J : ∀ (t : Tm), cv t → t.small
 | .mk k nm num ty fr lb ks, h => by
  obtain ⟨hn, hk⟩ := h.node
  rw [Tm.small]
  refine ⟨by have := hn.nm1; omega, hn.tyA.small, hn.frA.small, ?_, A83 ks hk⟩
  have := A23 k
  have := hn.ops
  omega
theorem A83 : ∀ (ts : List Tm), (∀ t ∈ ts, cv t) → Tm.smallL ts
 | [], _ => by rw [Tm.smallL]; trivial
 | t :: ts, h => by
  rw [Tm.smallL]
  exact ⟨A4J t (h t List.mem_cons_self), A83 ts fun u hu => h u (List.mem_cons_of_mem _ hu)⟩
end
theorem A6q {k : Int} {nm : ByteArray} {num : Int} {ty fr : Ty} {lb : Int} {ks : List Tm} : (Tm.mk k nm num ty fr lb ks).small ↔ nm.size ≤ 4294967296 ∧ ty.small ∧ fr.small ∧ ks.length ≤ 4294967296 ∧ Tm.smallL ks := by rw [Tm.small]
theorem B3F : B8.small := by simp [B8, Ty.small, Ty.smallL]
def GT.ty : GT → Ty
 | .any => .mk 1 []
 | .int => .mk 2 []
 | .bool => .mk 3 []
 | .fn a b => .mk 4 [a.ty, b.ty]
 | .pr a b => .mk 5 [a.ty, b.ty]
def GE.tm : GE → Tm
 | .var x => .mk 1 x 0 B8 B8 0 []
 | .num n => .mk 2 ⟨#[]⟩ n B8 B8 0 []
 | .tru b => .mk (if b = true then 3 else 4) ⟨#[]⟩ 0 B8 B8 0 []
 | .lam x A e => .mk 5 x 0 A.ty B8 0 [e.tm]
 | .app f a => .mk 6 ⟨#[]⟩ 0 B8 B8 0 [f.tm, a.tm]
 | .ar s a b => .mk (if s = true then 8 else 7) ⟨#[]⟩ 0 B8 B8 0 [a.tm, b.tm]
 | .ite c a b => .mk 9 ⟨#[]⟩ 0 B8 B8 0 [c.tm, a.tm, b.tm]
 | .pair a b => .mk 10 ⟨#[]⟩ 0 B8 B8 0 [a.tm, b.tm]
 | .part s e => .mk (if s = true then 12 else 11) ⟨#[]⟩ 0 B8 B8 0 [e.tm]
 | .cast A B l e => .mk 14 ⟨#[]⟩ 0 B.ty A.ty l [e.tm]
theorem GT.inj : ∀ {a b : GT}, a.ty = b.ty → a = b := by
 intro a
 induction a with
 | any => intro b h; cases b <;> first | rfl | (simp [GT.ty] at h)
 | int => intro b h; cases b <;> first | rfl | (simp [GT.ty] at h)
 | bool => intro b h; cases b <;> first | rfl | (simp [GT.ty] at h)
 | fn a1 a2 i j =>
  intro b h
  cases b with
  | fn b1 b2 => simp only [GT.ty, Ty.mk.injEq, List.cons.injEq, true_and, and_true] at h; rw [i h.1, j h.2]
  | _ => simp [GT.ty] at h
 | pr a1 a2 i j =>
  intro b h
  cases b with
  | pr b1 b2 => simp only [GT.ty, Ty.mk.injEq, List.cons.injEq, true_and, and_true] at h; rw [i h.1, j h.2]
  | _ => simp [GT.ty] at h
theorem B3G (a : GT) : A1w a.ty = a.gr.ty := by cases a <;> rfl
theorem A6r {a : GT} : a.ty.k = 1 ↔ a = .any := by cases a <;> simp [GT.ty, Ty.k]
theorem A84 {a : GT} : A0U a.ty = true ↔ a.Gd := by
 unfold A0U GT.Gd
 rw [Bool.and_eq_true, decide_eq_true_eq, A8X, B3G, Ne, A6r]
 constructor
 ·rintro ⟨h1, h2⟩; exact ⟨h1, (GT.inj h2).symm⟩
 ·rintro ⟨h1, h2⟩; exact ⟨h1, by rw [h2]⟩
theorem A0k : ∀ e : GE, I8 e.tm = true ↔ GV e := by
 intro e
 induction e with
 | var x => rw [GE.tm, I8]; simp; intro h; cases h
 | num n => rw [GE.tm, I8]; simp; exact .num
 | tru b => rw [GE.tm, I8]; cases b <;> (simp; exact .tru)
 | lam x A e _ => rw [GE.tm, I8]; simp; exact .lam
 | app f a _ _ => rw [GE.tm, I8]; simp; intro h; cases h
 | ar s a b _ _ => rw [GE.tm, I8]; cases s <;> (simp; intro h; cases h)
 | ite c a b _ _ _ => rw [GE.tm, I8]; simp; intro h; cases h
 | pair a b i j =>
  rw [GE.tm, I8, if_pos (.inl rfl), A1h, A1h, A1h, Bool.and_true, Bool.and_eq_true, i, j]
  exact ⟨fun h => .pair h.1 h.2, fun h => by cases h with | pair a b => exact ⟨a, b⟩⟩
 | part s e _ => rw [GE.tm, I8]; cases s <;> (simp; intro h; cases h)
 | cast A B l e i =>
  rw [GE.tm, I8]
  by_cases hp : A.ty.k = B.ty.k ∧ (B.ty.k = 4 ∨ B.ty.k = 5)
  ·rw [if_pos (.inr (.inl ⟨rfl, hp⟩)), A1h, A1h, Bool.and_true, i]
   constructor
   ·intro h
    cases B <;> cases A <;> first | exact .pf h | exact .pp h | (exfalso; simp [GT.ty, Ty.k] at hp)
   ·intro h; exact h.ofCast
  ·by_cases hi : B.ty.k = 1 ∧ A0U A.ty = true
   ·rw [if_pos (.inr (.inr ⟨rfl, hi⟩)), A1h, A1h, Bool.and_true, i]
    constructor
    ·intro h
     obtain rfl := A6r.1 hi.1
     exact .inj h (A84.1 hi.2)
    ·intro h; exact h.ofCast
   ·rw [if_neg (by rintro (h | h | h); exact absurd h (by decide); exact hp h.2; exact hi h.2)]
    constructor
    ·intro h; exact absurd (of_decide_eq_true h) (by decide)
    ·intro h
     exfalso
     cases h with
     | pf _ => exact hp ⟨rfl, .inl rfl⟩
     | pp _ => exact hp ⟨rfl, .inr rfl⟩
     | inj _ hg => exact hi ⟨rfl, A84.2 hg⟩
theorem A0V {e : GE} (h : ¬GV e) : I8 e.tm = false := by
 cases h2 : I8 e.tm with
 | false => rfl
 | true => exact absurd ((A0k e).1 h2) h
theorem nv {e r : GE} (h : GS e r) : I8 e.tm = false := A0V fun hv => hv.noS _ h
theorem B3H (x : ByteArray) (v : GE) : ∀ e : GE, (e.sub x v).tm = W6 x v.tm e.tm := by
 intro e
 induction e with
 | var y =>
  rw [GE.sub, GE.tm, W6]
  by_cases h : y = x
  ·rw [if_pos h, if_pos ⟨rfl, h⟩]
  ·rw [if_neg h, if_neg (fun c => h c.2), if_neg (by rintro ⟨h, _⟩; exact absurd h (by decide)), GE.tm, V8]
 | num n => rw [GE.sub, GE.tm, W6]; simp [V8]
 | tru b => rw [GE.sub, GE.tm, W6]; cases b <;> simp [V8]
 | lam y A e i =>
  by_cases h : y = x
  ·rw [GE.sub, if_pos h, GE.tm, W6, if_neg (by rintro ⟨h, _⟩; exact absurd h (by decide)), if_pos ⟨rfl, h⟩]
  ·rw [GE.sub, if_neg h, GE.tm, GE.tm, W6, if_neg (by rintro ⟨h, _⟩; exact absurd h (by decide)), if_neg (fun c => h c.2), i, V8, V8]
 | app f a i j => rw [GE.sub, GE.tm, GE.tm, W6, i, j]; simp [V8]
 | ar s a b i j => rw [GE.sub, GE.tm, GE.tm, W6, i, j]; cases s <;> simp [V8]
 | ite c a b i j k => rw [GE.sub, GE.tm, GE.tm, W6, i, j, k]; simp [V8]
 | pair a b i j => rw [GE.sub, GE.tm, GE.tm, W6, i, j]; simp [V8]
 | part s e i => rw [GE.sub, GE.tm, GE.tm, W6, i]; cases s <;> simp [V8]
 | cast A B l e i => rw [GE.sub, GE.tm, GE.tm, W6, i]; simp [V8]
section
variable {k : Int} {nm : ByteArray} {num : Int} {ty fr : Ty} {lb : Int} {a b c : Tm} {t : Tm} {l : Int}
end
def Bd (e : GE) : Prop := I8 e.tm = false ∧ (A1W e.tm).2.1 = 2
def B3I (u : Ty) (G : IM) : IM → Value → List A4 → Prop := I9 fun G' v => ∃ cells, v = .agg ⟨cells⟩ ∧ C3 G' u cells
def A2e (r : Option Ty) (G : IM) : IM → Value → List A4 → Prop := I9 fun G' v => ∃ cells u, v = .tuple ⟨[.agg ⟨cells⟩, .bool r.isSome]⟩ ∧ C3 G' u cells ∧ ∀ t, r = some t → u = t
theorem B3J {G : IM} {k : Int} {a b : Ty} {ca cb : List Value} {p : Option Addr} {c : Nat} (hk : C6 k) (ha : C3 G a ca) (hb : C3 G b cb) (hs : Sl G p 2 c 2 (ca ++ cb)) : C3 G (.mk k [a, b]) [.int .i64 k, .slice p 2 c] := by
 have hL : F8 G [a, b] [ca, cb] := by simp only [F8]; exact ⟨ca, [cb], rfl, ha, cb, [], rfl, hb, rfl⟩
 exact F8.ty (ts := [a, b]) (es := [ca, cb]) hL rfl (by simpa using hs) hk
theorem B3K : ∀ (t t' : Ty) (G : IM) (cells cells' : List Value), C3 G t cells → C3 G t' cells' → Fn Tryz.prog 46 [.agg ⟨cells⟩, .agg ⟨cells'⟩] [] G (H3 (.bool (V1 t t')) G) := by
 refine Ty.ind fun k ks ih t' G cells cells' hr hr' => ?_
 obtain ⟨k', ks'⟩ := t'
 obtain ⟨p, c, es, rfl, hk, hsl, hkl⟩ := hr.open
 obtain ⟨p', c', es', rfl, hk', hsl', hkl'⟩ := hr'.open
 simp only [Ty.k, Ty.ks] at hk hsl hkl hk' hsl' hkl' ⊢
 obtain ⟨A, hA⟩ : ∃ A, A0w ks ks' = A := ⟨_, rfl⟩
 have hA' : A = true ↔ ks.length = ks'.length ∧ ∀ i, i < ks.length → V1 (ks.getD i B8) (ks'.getD i B8) = true := by
  rw [← hA, A8Z]
  constructor
  ·rintro ⟨h1, h2⟩
   refine ⟨h1, fun i hi => ?_⟩
   have := h2 i hi (by omega)
   simpa [List.getD_eq_getElem?_getD, List.getElem?_eq_getElem hi, List.getElem?_eq_getElem (show i < ks'.length by omega)] using this
  ·rintro ⟨h1, h2⟩
   refine ⟨h1, fun i hi hi' => ?_⟩
   have := h2 i hi
   simpa [List.getD_eq_getElem?_getD, List.getElem?_eq_getElem hi, List.getElem?_eq_getElem hi'] using this
 refine B7 Tryz.func46 rfl Tryz.ntmps46 Tryz.results46 rfl ?_
 intro w0
 refine tS (tR ?_)
 refine sE (D5 rfl rfl) rfl (fun b3 => ?_)
 refine sE (D5 rfl rfl) rfl (fun b4 => ?_)
 refine sQ (qA rfl) rfl (sD (nS (tS (tR (sQ (A3 rfl) rfl (sL (A5 rfl rfl) rfl rfl (sQ (A3 rfl) rfl (sL (A5 rfl rfl) rfl rfl ?_))))))))
 refine sB (qE rfl rfl) rfl rfl (fun h14 => ?_) (fun h14 => ?_)
 refine sQ (qM rfl) rfl (sQ (A3 rfl) rfl (sL (A5 rfl rfl) rfl rfl (sQ (A3 rfl) rfl (sL (A5 rfl rfl) rfl rfl ?_))))
 refine F0 rfl (A8e _ _ _ _ _ _ _ _ _ hsl hsl' _ [] [] [] (fun i => V1 (ks.getD i B8) (ks'.getD i B8)) A hA' (fun i e e' he he' => ih _ (hkl.inv he B8).1 _ _ _ _ (hkl.inv he B8).2 (hkl'.inv he' B8).2)) rfl rfl ?_
 refine sQ (C1 rfl rfl) rfl (sQ (qA rfl) rfl (sD (nS (tT (A6 (rT rfl) ?_)))))
 exact ⟨rfl, by rw [A6m, hA]; first | (rw [decide_eq_true (p := k = k') (by omega)]; rfl) | (rw [decide_eq_false (p := k = k') (by omega)]; rfl), rfl⟩
 refine R5 ?_
 exact ⟨rfl, by rw [A6m, hA]; first | (rw [decide_eq_true (p := k = k') (by omega)]; rfl) | (rw [decide_eq_false (p := k = k') (by omega)]; rfl), rfl⟩
theorem B3L (k : Int) (a b : Ty) (G : IM) (ca cb : List Value) (hk : C6 k) (hra : C3 G a ca) (hrb : C3 G b cb) :
  Fn Tryz.prog 191 [.int .i64 k, .agg ⟨ca⟩, .agg ⟨cb⟩] [] G (B3I (.mk k [a, b]) G) := by
 obtain ⟨pa, cca, ea, rfl, _⟩ := hra.open
 obtain ⟨pb, ccb, eb, rfl, _⟩ := hrb.open
 refine B7 Tryz.func191 rfl Tryz.ntmps191 Tryz.results191 rfl ?_
 intro w0
 refine tS (tR ?_)
 refine sE (D5 rfl rfl) rfl (fun b3 => ?_)
 refine sE (D5 rfl rfl) rfl (fun b4 => ?_)
 refine sE (B6 rfl) rfl (fun b5 => ?_)
 refine sD (nS (tS (tR (sQ (qM rfl) rfl (sL (A7 rfl rfl) rfl rfl (sL (A7 rfl rfl) rfl rfl ?_))))))
 (refine E0 (D0 rfl rfl rfl (by omega) (by unfold maxLen; omega) rfl) rfl ?_; rintro _ ⟨b13, rfl⟩)
 refine sQ (D9 rfl rfl) rfl (B9 ?_)
 refine sD (nS ?_)
 (refine Q4 (by repeat (first | exact Pk.here | apply Pk.there)) (fun G5 hle5 hsl5 hno5 => ?_))
 refine tT ?_
 refine A6 (rC rfl (A7 rfl rfl)) ?_
 exact ⟨rfl, _, rfl, B3J hk (hra.mono hle5) (hrb.mono hle5) hsl5⟩
theorem A6s (k tk : Int) (ks : List Ty) : A0j k (.mk tk ks) = if tk = k then some (ks.getD 0 B8, ks.getD 1 B8) else if tk = 1 then some (O4, O4) else none := rfl
def B3M (k : Int) (t : Ty) (G : IM) : IM → Value → List A4 → Prop := I9 fun G' v => ∃ a ca b cb, v = .tuple ⟨[.agg ⟨ca⟩, .agg ⟨cb⟩, .bool (A0j k t).isSome]⟩ ∧ C3 G' a ca ∧ C3 G' b cb ∧ H4 a ∧ H4 b ∧ ∀ p, A0j k t = some p → p = (a, b)
def A27 (G : IM) (b : ByteArray × Ty) (e : List Value) : Prop := ∃ q d, e = [.string b.1, .int .i64 b.2.k, .slice q b.2.ks.length d] ∧ C3 G b.2 [.int .i64 b.2.k, .slice q b.2.ks.length d]
theorem A27.mono {G G' : IM} {b : ByteArray × Ty} {e : List Value} (h : A27 G b e) (hg : B4 G G') : A27 G' b e := by
 obtain ⟨q, d, h1, h2⟩ := h
 exact ⟨q, d, h1, h2.mono hg⟩
def X4 (G : IM) (cx : Cx) (p : Option Addr) (n c : Nat) : Prop := n = cx.length ∧ ∃ es : List (List Value), C5 G p n c 3 es ∧ ∀ (i : Nat) (b : ByteArray × Ty), cx[i]? = some b → ∃ e, es[i]? = some e ∧ A27 G b e
theorem X4.mono {G G' : IM} {cx : Cx} {p : Option Addr} {n c : Nat} (h : X4 G cx p n c) (hg : B4 G G') : X4 G' cx p n c := by
 obtain ⟨h1, es, h2, h3⟩ := h
 refine ⟨h1, es, h2.mono hg, fun i b hb => ?_⟩
 obtain ⟨e, he, hr⟩ := h3 i b hb
 exact ⟨e, he, hr.mono hg⟩
theorem X4.nil (G : IM) : X4 G [] none 0 0 := ⟨rfl, [], C5.nil _ _, by simp⟩
theorem X4.le {G : IM} {cx : Cx} {p : Option Addr} {n c : Nat} (h : X4 G cx p n c) : n ≤ 9223372036854775807 := by
 obtain ⟨h1, es, h2, h3⟩ := h
 exact h2.le
theorem X4.get {G : IM} {cx : Cx} {p : Option Addr} {n c : Nat} (h : X4 G cx p n c) {i : Nat} (hi : i < n) :
  ∃ b o nm t q d, cx[i]? = some (nm, t) ∧ p = some ⟨b, o, none⟩ ∧ (∀ hp, At hp G b (o + i * 3) [.string nm, .int .i64 t.k, .slice q t.ks.length d]) ∧ C3 G t [.int .i64 t.k, .slice q t.ks.length d] ∧ G b ≠ none := by
 obtain ⟨h1, es, h2, h3⟩ := h
 obtain ⟨e, b, o, he, rfl, hl, _, hat, hgb⟩ := h2.get (i := i) (by omega)
 have hx : cx[i]? = some cx[i] := List.getElem?_eq_getElem (by omega)
 obtain ⟨e', he', q, d, h4, h5⟩ := h3 i _ hx
 rw [he] at he'
 obtain rfl := Option.some.inj he'
 rw [h4] at hat
 exact ⟨b, o, cx[i].1, cx[i].2, q, d, hx, rfl, hat, h5, hgb⟩
theorem B3N (G : IM) (p : Option Addr) (n c : Nat) (es : List (List Value)) (h : C5 G p n c 9 es) (h0 : 0 < n) (hn : n ≤ 4294967296) :
  Fn Tryz.prog 231 [.slice p n c] [] G (fun G' v outs => G' = G ∧ ∃ p' c', v = .slice p' n c' ∧ outs = [.slc p' c' 28 9 n es.flatten]) := by
 obtain ⟨hl, hc, hm, hat⟩ := h.sl
 obtain ⟨b, o, full, rfl, hg, hv⟩ := hat.resolve_left (by omega)
 have ho : ∀ u ∈ es.flatten, u.oneCell' = true := by
  intro u hu
  obtain ⟨e, he, hue⟩ := List.mem_flatten.1 hu
  exact List.all_eq_true.1 (h.one e he) u hue
 refine B7 Tryz.func231 rfl Tryz.ntmps231 Tryz.results231 rfl ?_
 intro w0
 refine tS (tR (sQ (qA rfl) rfl (sD (nS (tS (tS (tR (sQ (qM rfl) rfl ?_))))))))
 refine sQ (A5i rfl rfl rfl) rfl ?_
 refine sD (nS (cF rfl (tK (nS (tS (tR ?_))))))
 (refine E0 (D0 rfl rfl rfl (by omega) (by unfold maxLen; omega) rfl) rfl ?_; rintro _ ⟨b18, rfl⟩)
 refine sQ (qM rfl) rfl ?_
 refine T1 rfl rfl rfl rfl rfl (fun _ _ => by repeat (first | exact Sw.here | apply Sw.there)) (A4a hg hv) hl ho (by unfold maxLen; omega) (by omega) rfl (fun pn cn => ?_)
 refine sQ (qA rfl) rfl (sD (nS (tT ?_)))
 refine E5 (rT rfl) A0.refl ?_
 exact ⟨rfl, _, _, by rw [Nat.zero_add], by rw [Nat.zero_add]; rfl⟩
theorem At.mono' {hp : List A4} {G G' : IM} {b o : Nat} {vs : List Value} (hg : B4 G G') (h : At [] G b o vs) : At hp G' b o vs := by
 rcases h with ⟨cs, hm, hv⟩ | ⟨n, c, el, sz, cs, hm, hv⟩ | ⟨full, hx, hv⟩
 ·cases hm
 ·cases hm
 ·exact .inr (.inr ⟨full, hg _ _ hx, hv⟩)
def WtP (r : Option (List Ty × Ty)) (G : IM) : IM → Value → List A4 → Prop := I9 fun G' v => ∃ p n c es w cu u, v = .tuple ⟨[.slice p n c, .agg ⟨cu⟩, .bool r.isSome]⟩ ∧ n = w.length ∧ C5 G' p n c 2 es ∧ F8 G' w es ∧ C3 G' u cu ∧ ∀ q, r = some q → q = (w, u)
section
variable {cx : Cx} {nm : ByteArray} {ty : Ty} {h : List Ty}
theorem mW1 : A0G cx 1 nm ty h = match A2d cx nm with | some t => some ([], t) | none => none := rfl
theorem mW5 : A0G cx 5 nm ty h = some ([], .mk 4 [ty, h.getD 0 B8]) := rfl
end
theorem B3O (G : IM) : C3 G Y9 [.int .i64 2, .slice none 0 0] := P1 G ⟨by omega, by omega⟩
theorem A85 (G : IM) : C3 G A0R [.int .i64 3, .slice none 0 0] := P1 G ⟨by omega, by omega⟩
theorem X4.snoc {G G' : IM} {cx : Cx} {n : Nat} {p' : Option Addr} {c' : Nat} {es : List (List Value)} {e : List Value} {nm : ByteArray} {t : Ty} (h1 : n = cx.length) (hl : es.length = n) (h2 : ∀ x ∈ es, x.length = 3) (h3 : ∀ x ∈ es, x.all (·.oneCell') = true)
  (h4 : ∀ (i : Nat) (b : ByteArray × Ty), cx[i]? = some b → ∃ e, es[i]? = some e ∧ A27 G b e) (hg : B4 G G') (he : A27 G' (nm, t) e) (hs : Sl G' p' (n + 1) c' 3 (es.flatten ++ e)) : X4 G' (cx ++ [(nm, t)]) p' (n + 1) c' := by
 have hel : e.length = 3 ∧ e.all (·.oneCell') = true := by obtain ⟨q, d, rfl, _⟩ := he; exact ⟨rfl, rfl⟩
 refine ⟨by simp [h1], es ++ [e], C5.of (by simpa using hs) (by simp [hl]) ?_ ?_, ?_⟩
 ·simp only [List.forall_mem_append, List.forall_mem_singleton]; exact ⟨h2, hel.1⟩
 ·simp only [List.forall_mem_append, List.forall_mem_singleton]; exact ⟨h3, hel.2⟩
 ·intro i b hb
  rw [List.getElem?_append] at hb ⊢
  split at hb
  ·rename_i hi
   obtain ⟨e', he', hr⟩ := h4 i b hb
   rw [if_pos (by omega)]
   exact ⟨e', he', hr.mono hg⟩
  ·rename_i hi
   have : i - cx.length = 0 := by
    apply Classical.byContradiction; intro hc
    rw [List.getElem?_eq_none (by simp; omega)] at hb; cases hb
   rw [this] at hb
   simp only [List.getElem?_cons_zero, Option.some.injEq] at hb
   subst hb
   rw [if_neg (by omega)]
   exact ⟨e, by rw [show i - es.length = 0 by omega]; rfl, he⟩
theorem A2e.no {r : Option Ty} {G G' : IM} {cu : List Value} {u : Ty} {b : Bool} (hu : C3 G' u cu) (hb : b = false) (h : r = none) : A2e r G G' (.tuple ⟨[.agg ⟨cu⟩, .bool b]⟩) [] := by
 subst hb h
 exact ⟨rfl, cu, u, rfl, hu, by simp⟩
section
variable {cx : Cx} {k : Int} {nm : ByteArray} {num : Int} {ty fr : Ty} {lb : Int} {ks : List Tm}
end
def A6t (r : Tm) : Tm × Bool := if N0 r = true then (r, true) else (H7, false)
def B7c (t : Tm) (path : List Int) (x : Tm) : Tm × Bool := if N0 t = true ∧ N0 x = true ∧ tAt t path ≠ none then A6t (A8t t path x) else (H7, false)
def A2y : List Tm → List Ty → List Ty → Int → List Tm × Int
 | u :: us, a :: h, b :: w, l => if V1 a b = true then (u :: (A2y us h w l).1, (A2y us h w l).2) else (V9 u a b (l + 1) :: (A2y us h w (l + 1)).1, (A2y us h w (l + 1)).2)
 | us, _, _, l => (us, l)
def A86 (cx : Cx) (k : Int) (nm : ByteArray) (num : Int) (ty fr : Ty) (lb : Int) (us : List Tm) (h : List Ty) (l : Int) : Option (Tm × Ty × Int) :=
 match A26 cx k nm ty h with
 | none => none
 | some (w, t) => some (if k = 13 then (A2y us h w l).1.getD 0 H7 else .mk k nm num ty fr lb (A2y us h w l).1, t, (A2y us h w l).2)
mutual
def mEl (cx : Cx) : Tm → Int → Option (Tm × Ty × Int)
 | .mk k nm num ty fr lb ks, l => match A1X (A0T cx k nm ty) ks l with
  | none => none
  | some (us, h, l') => A86 cx k nm num ty fr lb us h l'
def A1X (cx : Cx) : List Tm → Int → Option (List Tm × List Ty × Int)
 | [], l => some ([], [], l)
 | t :: ts, l => match mEl cx t l with
  | none => none
  | some (u, a, l') => match A1X cx ts l' with
   | none => none
   | some (us, h, l'') => some (u :: us, a :: h, l'')
end
def A1Y (e : Tm) : Option (Tm × Ty) := if M5 e = true then (match mEl [] e 0 with | some (u, t, _) => some (u, t) | none => none) else none
def W7 (cx : Cx) (k : Int) (nm : ByteArray) (ty : Ty) (h : List Ty) : Option Ty := match A0G cx k nm ty h with
 | some (_, t) => if (k = 5 ∨ k = 10) ∧ M0 t = false then none else some t
 | none => none
mutual
def P2 (cx : Cx) : Tm → Option Ty
 | .mk k nm num ty fr lb ks => match V2 (A0T cx k nm ty) ks with
  | none => none
  | some h => W7 cx k nm ty h
def V2 (cx : Cx) : List Tm → Option (List Ty)
 | [] => some []
 | t :: ts => match P2 cx t with
  | none => none
  | some a => match V2 cx ts with
   | none => none
   | some h => some (a :: h)
end
theorem A6u (k : Int) (ks : List Ty) (d : Int) : K6 (.mk k ks) d = (decide (d ≤ 4) && decide (U5 k = ks.length) && U8 ks (d + 1)) := by rw [K6]
mutual
theorem A6v : ∀ (t : Ty) (d e : Int), e ≤ d → K6 t d = true → K6 t e = true
 | .mk k ks, d, e, h, hs => by
  rw [A6u, Bool.and_eq_true, Bool.and_eq_true, decide_eq_true_eq, decide_eq_true_eq] at hs ⊢
  exact ⟨⟨by omega, hs.1.2⟩, A87 ks (d + 1) (e + 1) (by omega) hs.2⟩
theorem A87 : ∀ (ts : List Ty) (d e : Int), e ≤ d → U8 ts d = true → U8 ts e = true
 | [], d, e, h, hs => by rw [U8]
 | t :: ts, d, e, h, hs => by
  rw [U8, Bool.and_eq_true] at hs ⊢
  exact ⟨A6v t d e h hs.1, A87 ts d e h hs.2⟩
end
mutual
theorem A88 : ∀ (a b : Ty) (d : Int), O3 a b = true → K6 a d = true → K6 b d = true → K6 (A0x a b) d = true
 | .mk k ks, .mk k' ks', d, hc, ha, hb => by
  rw [A6n]
  split
  ·exact hb
  ·split
   ·exact ha
   ·rw [A1a] at hc
    rw [A6u, Bool.and_eq_true, Bool.and_eq_true, decide_eq_true_eq, decide_eq_true_eq] at ha hb ⊢
    simp only [Bool.or_eq_true, Bool.and_eq_true, decide_eq_true_eq] at hc
    obtain ⟨hk, hl⟩ : k = k' ∧ Y2 ks ks' = true := by
     rcases hc with (h | h) | h
     ·contradiction
     ·contradiction
     ·exact h
    subst hk
    obtain ⟨m1, m2⟩ := A89 ks ks' (d + 1) hl ha.2 hb.2
    exact ⟨⟨ha.1.1, by rw [m2]; exact ha.1.2⟩, m1⟩
theorem A89 : ∀ (xs ys : List Ty) (d : Int), Y2 xs ys = true → U8 xs d = true → U8 ys d = true → U8 (A0c xs ys) d = true ∧ (A0c xs ys).length = xs.length
 | [], [], d, _, _, _ => by simp [A0c, U8]
 | [], b :: ys, d, hc, _, _ => by simp [Y2] at hc
 | a :: xs, [], d, hc, _, _ => by simp [Y2] at hc
 | a :: xs, b :: ys, d, hc, ha, hb => by
  rw [Y2, Bool.and_eq_true] at hc
  rw [U8, Bool.and_eq_true] at ha hb
  obtain ⟨m1, m2⟩ := A89 xs ys d hc.2 ha.2 hb.2
  rw [A0c, U8, Bool.and_eq_true]
  exact ⟨⟨A88 a b d hc.1 ha.1 hb.1, m1⟩, by simp [m2]⟩
end
theorem A6w {cx : Cx} (h : ∀ b ∈ cx, M0 b.2 = true) {nm : ByteArray} {t : Ty} : ∀ {n : Nat}, A0S cx nm n = some t → M0 t = true
 | 0, hl => by simp [A0S] at hl
 | n + 1, hl => by
  rw [A0S] at hl
  split at hl
  ·rename_i b hb
   split at hl
   ·cases hl; exact h b (List.mem_of_getElem? hb)
   ·exact A6w h hl
  ·exact A6w h hl
theorem A9a {k : Int} {t a b : Ty} (hk : k = 4 ∨ k = 5) (ht : M0 t = true) (h : A0j k t = some (a, b)) : M0 a = true ∧ M0 b = true := by
 obtain ⟨tk, ks⟩ := t
 rw [show A0j k (.mk tk ks) = (if tk = k then some (ks.getD 0 B8, ks.getD 1 B8) else if tk = 1 then some (O4, O4) else none) from rfl] at h
 by_cases he : tk = k
 ·rw [if_pos he] at h
  cases h
  unfold M0 at ht ⊢
  rw [A6u, Bool.and_eq_true, Bool.and_eq_true, decide_eq_true_eq, decide_eq_true_eq] at ht
  have h2 : ks.length = 2 := by
   have : U5 tk = 2 := by rw [he]; rcases hk with rfl | rfl <;> rfl
   omega
  match ks, h2, ht.2 with
  | [x, y], _, hL =>
   simp only [U8, Bool.and_eq_true] at hL
   exact ⟨A6v _ 2 1 (by omega) hL.1, A6v _ 2 1 (by omega) hL.2.1⟩
 ·rw [if_neg he] at h
  by_cases h1 : tk = 1
  ·rw [if_pos h1] at h
   cases h
   exact ⟨by decide, by decide⟩
  ·rw [if_neg h1] at h; cases h
theorem B3P {l : List Ty} {i : Nat} (h : i < l.length) : l.getD i B8 ∈ l := by
 rw [List.getD_eq_getElem?_getD, List.getElem?_eq_getElem h, Option.getD_some]; exact List.getElem_mem h
theorem B3Q {cx : Cx} {k : Int} {nm : ByteArray} {ty : Ty} {h w : List Ty} {t : Ty} (hcx : ∀ b ∈ cx, M0 b.2 = true) (hh : ∀ a ∈ h, M0 a = true) (hd : M0 (h.getD 0 B8) = true ∨ h = []) (hty : k = 13 → M0 ty = true) (hn : E7 k = (h.length : Int)) (hw : A0G cx k nm ty h = some (w, t)) (h510 : k ≠ 5 ∧ k ≠ 10) : M0 t = true := by
 have hg : ∀ i, i < h.length → M0 (h.getD i B8) = true := fun i hi => hh _ (B3P hi)
 unfold A0G at hw
 split at hw
 ·split at hw
  ·rename_i u hu; cases hw; exact A6w hcx hu
  ·cases hw
 split at hw
 ·cases hw; decide
 split at hw
 ·cases hw; decide
 split at hw
 ·exact absurd (by assumption) h510.1
 split at hw
 ·rename_i hk6
  have hl : h.length = 2 := by have : E7 k = 2 := (by rw [hk6]; rfl); omega
  split at hw
  ·rename_i a b hm
   split at hw
   ·cases hw; exact (A9a (.inl rfl) (hg 0 (by omega)) hm).2
   ·cases hw
  ·cases hw
 split at hw
 ·split at hw
  ·cases hw; split <;> decide
  ·cases hw
 split at hw
 ·rename_i hk9
  have hl : h.length = 3 := by have : E7 k = 3 := (by rw [hk9]; rfl); omega
  split at hw
  ·rename_i hc
   cases hw
   exact A88 _ _ 1 hc.2 (hg 1 (by omega)) (hg 2 (by omega))
  ·cases hw
 split at hw
 ·exact absurd (by assumption) h510.2
 split at hw
 ·split at hw
  ·cases hw; exact hty (by assumption)
  ·cases hw
 ·split at hw
  ·rename_i a b hm
   have hl : h.length ≠ 0 := by
    intro h0
    rw [List.length_eq_zero_iff] at h0
    subst h0
    rw [show A0j 5 (([] : List Ty).getD 0 B8) = none from rfl] at hm
    cases hm
   cases hw
   have := A9a (.inr rfl) (hg 0 (by omega)) hm
   split
   ·exact this.2
   ·exact this.1
  ·cases hw
def cxV (cx : Cx) : Prop := ∀ b ∈ cx, M0 b.2 = true
theorem A9b : cxV [] := by intro b hb; simp at hb
theorem A9c {cx : Cx} {k : Int} {nm : ByteArray} {ty : Ty} (h : cxV cx) (ht : k = 5 → M0 ty = true) : cxV (A0T cx k nm ty) := by
 unfold A0T
 split
 ·intro b hb
  rcases List.mem_append.1 hb with hb | hb
  ·exact h b hb
  ·obtain rfl := List.mem_singleton.1 hb; exact ht (by assumption)
 ·exact h
theorem B3R {cx : Cx} {k : Int} {nm : ByteArray} {ty : Ty} {h : List Ty} (hcx : cxV cx) (hh : ∀ a ∈ h, M0 a = true) (hty : k = 13 → M0 ty = true) (hn : E7 k = (h.length : Int)) :
  (∀ w t, A26 cx k nm ty h = some (w, t) → W7 cx k nm ty h = some t ∧ M0 t = true) ∧ (A26 cx k nm ty h = none → W7 cx k nm ty h = none) := by
 unfold A26 W7
 have hv := fun w t (e : A0G cx k nm ty h = some (w, t)) (h5 : k ≠ 5 ∧ k ≠ 10) => B3Q hcx hh (by cases h with | nil => exact .inr rfl | cons x xs => exact .inl (hh _ (by simp))) hty hn e h5
 cases hw : A0G cx k nm ty h with
 | none => simp
 | some p =>
  obtain ⟨w, t⟩ := p
  have hv := hv w t hw
  simp only
  by_cases h5 : k = 5 ∨ k = 10
  ·cases ht : M0 t with
   | true => simp [ht]
   | false => simp [h5]
  ·have := hv (by omega)
   simp [this]
theorem B3S (ks : List Tm) (ih : ∀ t ∈ ks, ∀ d cx l, M1 12 14 t d = true → cxV cx → (∀ u a l', mEl cx t l = some (u, a, l') → P2 cx t = some a ∧ M0 a = true) ∧ (mEl cx t l = none → P2 cx t = none)) :
  ∀ d cx l, N6 12 14 ks d = true → cxV cx → (∀ us h l', A1X cx ks l = some (us, h, l') → V2 cx ks = some h ∧ (∀ a ∈ h, M0 a = true) ∧ h.length = ks.length ∧ us.length = ks.length) ∧ (A1X cx ks l = none → V2 cx ks = none) := by
 induction ks with
 | nil =>
  intro d cx l _ _
  refine ⟨fun us h l' he => ?_, fun he => by simp [A1X] at he⟩
  simp only [A1X, Option.some.injEq, Prod.mk.injEq] at he
  obtain ⟨rfl, rfl, _⟩ := he
  exact ⟨by rw [V2], by simp, rfl, rfl⟩
 | cons t ts ihl =>
  intro d cx l hs hcx
  rw [N6, Bool.and_eq_true] at hs
  obtain ⟨a1, a2⟩ := ih t List.mem_cons_self d cx l hs.1 hcx
  rw [A1X, V2]
  cases he : mEl cx t l with
  | none => rw [a2 he]; exact ⟨fun _ _ _ h => by simp at h, fun _ => rfl⟩
  | some p =>
   obtain ⟨u, a, l1⟩ := p
   obtain ⟨b1, b2⟩ := a1 u a l1 he
   rw [b1]
   obtain ⟨c1, c2⟩ := ihl (fun x hx => ih x (List.mem_cons_of_mem _ hx)) d cx l1 hs.2 hcx
   simp only
   cases hL : A1X cx ts l1 with
   | none => rw [c2 hL]; exact ⟨fun _ _ _ h => by simp at h, fun _ => rfl⟩
   | some q =>
    obtain ⟨us, h, l2⟩ := q
    obtain ⟨d1, d2, d3, d4⟩ := c1 us h l2 hL
    rw [d1]
    refine ⟨fun us' h' l' e => ?_, fun e => by simp at e⟩
    simp only [Option.some.injEq, Prod.mk.injEq] at e
    obtain ⟨rfl, rfl, _⟩ := e
    refine ⟨rfl, fun x hx => ?_, by simp [d3], by simp [d4]⟩
    rcases List.mem_cons.1 hx with rfl | hx
    ·exact b2
    ·exact d2 x hx
theorem B3T : ∀ (t : Tm) (d : Int) (cx : Cx) (l : Int), M1 12 14 t d = true → cxV cx → (∀ u a l', mEl cx t l = some (u, a, l') → P2 cx t = some a ∧ M0 a = true) ∧ (mEl cx t l = none → P2 cx t = none) := by
 refine Tm.ind fun k nm num ty fr lb ks ih d cx l hs hcx => ?_
 obtain ⟨_, _, h3, h4⟩ := V7 hs
 obtain ⟨n1, _, _, _, _, n6, _⟩ := U9.1 h3
 obtain ⟨L1, L2⟩ := B3S ks ih (d + 1) (A0T cx k nm ty) l h4 (A9c hcx fun hk => n6 (by omega))
 rw [mEl, P2]
 cases hL : A1X (A0T cx k nm ty) ks l with
 | none => rw [L2 hL]; exact ⟨fun _ _ _ h => by simp at h, fun _ => rfl⟩
 | some q =>
  obtain ⟨us, h, l2⟩ := q
  obtain ⟨d1, d2, d3, d4⟩ := L1 us h l2 hL
  rw [d1]
  obtain ⟨e1, e2⟩ := B3R (k := k) (nm := nm) (ty := ty) hcx d2 (fun hk => n6 (.inr (.inl hk))) (by rw [d3]; exact n1)
  simp only [A86]
  cases hN : A26 cx k nm ty h with
  | none => rw [e2 hN]; exact ⟨fun _ _ _ h => by simp at h, fun _ => rfl⟩
  | some p =>
   obtain ⟨w, t⟩ := p
   obtain ⟨f1, f2⟩ := e1 w t hN
   rw [f1]
   refine ⟨fun u a l' e => ?_, fun e => by simp at e⟩
   simp only [Option.some.injEq, Prod.mk.injEq] at e
   obtain ⟨_, rfl, _⟩ := e
   exact ⟨rfl, f2⟩
section inv
variable {cx : Cx} {nm : ByteArray} {num : Int} {ty fr : Ty} {lb : Int} {a b c : Tm} {T : Ty}
end inv
mutual
def A6x : Ty → Ty → Bool
 | .mk k ks, t => decide (t.k = 1) || (decide (k = t.k) && A9d ks t.ks)
def A9d : List Ty → List Ty → Bool
 | [], [] => true
 | a :: xs, b :: ys => A6x a b && A9d xs ys
 | _, _ => false
end
mutual
def A9e : Tm → Tm → Bool
 | .mk k nm num ty _ _ ks, u => decide (k = u.k ∧ nm = u.nm ∧ num = u.num) && (decide (k ≠ 5 ∧ k ≠ 13) || A6x ty u.ty) && A9f ks u.ks
def A9f : List Tm → List Tm → Bool
 | [], [] => true
 | a :: xs, b :: ys => A9e a b && A9f xs ys
 | _, _ => false
end
def B3U (a b : Tm) : Bool := M5 a && (M5 b && A9e a b)
def A4K : GT → GT → GT
 | .any, b => b
 | .fn a b, .fn c d => .fn (A4K a c) (A4K b d)
 | .pr a b, .pr c d => .pr (A4K a c) (A4K b d)
 | a, _ => a
def gmF : GT → Option (GT × GT)
 | .fn a b => some (a, b)
 | .any => some (.any, .any)
 | _ => none
def gmP : GT → Option (GT × GT)
 | .pr a b => some (a, b)
 | .any => some (.any, .any)
 | _ => none
def CxR (cx cx' : Cx) (Γ : GC) : Prop := ∀ x a, A2d cx x = some a → ∃ A A', a = A.ty ∧ A2d cx' x = some A'.ty ∧ Γ x = some (A, A') ∧ Le A A'
def B7d (A B : GT) (l : Int) (e : GE) : GE := if V1 A.ty B.ty = true then e else .cast A B l e
inductive GPL (Γ : GC) : List GE → List GE → List GT → List GT → Prop
 | nil : GPL Γ [] [] [] []
 | cons {e e' A A' es es' As As'} : GP Γ e e' A A' → GPL Γ es es' As As' → GPL Γ (e :: es) (e' :: es') (A :: As) (A' :: As')
abbrev ElR (Γ : GC) (u : Tm) (a : Ty) (r : Option (Tm × Ty × Int)) : Prop := ∃ e A e' A' l2, u = e.tm ∧ a = A.ty ∧ r = some (e'.tm, A'.ty, l2) ∧ GP Γ e e' A A'
section
variable {cx cx' : Cx} {Γ : GC} {es es' : List GE} {As As' : List GT} {l l' : Int} {u : Tm} {a : Ty} {l2 : Int} {nm : ByteArray} {num : Int}
end
def TmP (t : Tm) : IM → Value → List A4 → Prop := I9 fun G' v => ∃ cells, v = .agg ⟨cells⟩ ∧ B1 G' t cells
theorem TmP.mk {G : IM} {t : Tm} {cells : List Value} (h : B1 G t cells) : TmP t G (.agg ⟨cells⟩) [] := ⟨rfl, cells, rfl, h⟩
def mGk (k : Int) : Ty := if k = 4 ∨ k = 5 then .mk k [O4, O4] else .mk k []
theorem A2z {G : IM} {k : Int} {ks : List Tm} {p : Option Addr} {n c : Nat} {es : List (List Value)} (hk : C6 k) (hn : n = ks.length) (hs : C5 G p n c 9 es) (hr : E3 G ks es) : B1 G (A0H k ks) [.int .i64 k, .string ⟨⟨[]⟩⟩, .int .i64 0, .int .i64 0, .slice none 0 0, .int .i64 0, .slice none 0 0, .int .i64 0, .slice p n c] := by
 subst hn
 simp only [A0H, B1]
 exact ⟨[.int .i64 0, .slice none 0 0], [.int .i64 0, .slice none 0 0], p, c, es, rfl, hk, ⟨by decide, by decide⟩, ⟨by decide, by decide⟩, A2b G, A2b G, hs, hr⟩
theorem B3V (k : Int) (G : IM) (hk : C6 k) : Fn Tryz.prog 262 [.int .i64 k] [] G (I9 fun G' v => ∃ cells, v = .agg ⟨cells⟩ ∧ C3 G' (mGk k) cells) := by
 have hB := B3L k O4 O4 G _ _ hk (A1t G) (A1t G)
 refine B7 Tryz.func262 rfl Tryz.ntmps262 Tryz.results262 rfl ?_
 intro w0
 refine tS (tR ?_)
 refine sE (B6 rfl) rfl (fun b3 => ?_)
 refine sD (nS (tS (tS (tR (sQ (qM rfl) rfl ?_)))))
 refine sB (qE rfl rfl) rfl rfl (fun h10 => ?_) (fun h10 => ?_)
 refine sQ (qM rfl) rfl (sK rfl rfl (sK rfl rfl (sQ (C1 rfl rfl) rfl (sD (nS (qT rfl (tS (tR (sQ (qM rfl) rfl ?_)))))))))
 refine F0 rfl ((A2Y _ _)) rfl rfl ?_
 refine F0 rfl ((A2Y _ _)) rfl rfl ?_
 (refine I5 rfl hB rfl rfl (fun v G1 hle1 hh => ?_); obtain ⟨cb, rfl, hrb⟩ := hh; obtain ⟨p1, c1, e1, rfl, _⟩ := hrb.open)
 refine B9 ?_
 refine sD (nS (tT (rS ?_)))
 refine A6 (rC rfl (A7 rfl rfl)) ?_
 (exact ⟨rfl, _, rfl, by unfold mGk; rw [if_pos (by omega)]; exact hrb⟩)
 refine sQ (qM rfl) rfl (sQ (qM rfl) rfl ?_)
 refine sB (qE rfl rfl) rfl rfl (fun h33 => ?_) (fun h33 => ?_)
 refine sQ (D7 rfl rfl) rfl (sD (nS (qT rfl (tS (tR (sQ (qM rfl) rfl ?_))))))
 refine F0 rfl ((A2Y _ _)) rfl rfl ?_
 refine F0 rfl ((A2Y _ _)) rfl rfl ?_
 (refine I5 rfl hB rfl rfl (fun v G1 hle1 hh => ?_); obtain ⟨cb, rfl, hrb⟩ := hh; obtain ⟨p1, c1, e1, rfl, _⟩ := hrb.open)
 refine B9 ?_
 refine sD (nS (tT (rS ?_)))
 refine A6 (rC rfl (A7 rfl rfl)) ?_
 (exact ⟨rfl, _, rfl, by unfold mGk; rw [if_pos (by omega)]; exact hrb⟩)
 refine sQ (D7 rfl rfl) rfl (sD (nS (cF rfl (tK (nS (tS (tR (sQ (qM rfl) rfl ?_))))))))
 refine F0 rfl ((A2Y _ _)) rfl rfl ?_
 refine B9 ?_
 refine sD (nS (tT ?_))
 refine A6 (rC rfl (A7 rfl rfl)) ?_
 (exact ⟨rfl, _, rfl, by unfold mGk; rw [if_neg (by omega)]; exact P1 _ hk⟩)
theorem B3W (t : Ty) (G : IM) (cells : List Value) (hr : C3 G t cells) : Fn Tryz.prog 251 [.agg ⟨cells⟩] [] G (H3 (.bool (A0U t)) G) := by
 refine Fn.forget (post := I9 fun _ v => v = .bool (A0U t)) ?_ (fun _ _ _ h => h.2)
 have hr0 := hr
 obtain ⟨tk, tks⟩ := t
 obtain ⟨p, c, es, rfl, hk, _⟩ := hr.open
 simp only [Ty.k, Ty.ks] at hk hr0 ⊢
 rw [show A0U (.mk tk tks) = (decide (tk ≠ 1) && V1 (.mk tk tks) (mGk tk)) from rfl]
 refine B7 Tryz.func251 rfl Tryz.ntmps251 Tryz.results251 rfl ?_
 intro w0
 refine tS (tR ?_)
 refine sE (D5 rfl rfl) rfl (fun b3 => ?_)
 refine sQ (qA rfl) rfl (sD (nS (tS ?_)))
 refine I0 I1 rfl ?_
 refine J2 (i := 0) (l' := [tt,ff,ff,ff,ff,ff,ff,ff,ff,ff,ff]) rfl F4 (A3 rfl) rfl (by kernel_rfl) rfl rfl ?_
 refine aL 1 rfl (A5 rfl rfl) rfl ?_
 refine A12 (i := 2) (l' := [tt,tt,tt,ff,ff,ff,ff,ff,ff,ff,ff]) rfl F4 (P9 rfl rfl) rfl (by kernel_rfl) rfl rfl (fun h11 => ?_) (fun h11 => ?_)
 refine aP 3 rfl (qM rfl) rfl ?_
 refine aL 4 rfl (A7 rfl rfl) rfl ?_
 refine aP 5 rfl (A3 rfl) rfl ?_
 refine aL 6 rfl (A5 rfl rfl) rfl ?_
 refine A8 7 ?_
 (refine Q0 rfl rfl (B3V tk G hk) rfl rfl rfl (fun v G1 hle1 hh => ?_); obtain ⟨cg, rfl, hrg⟩ := hh; have hT := B3K (.mk tk tks) (mGk tk) G1 _ _ (hr0.mono hle1) hrg; obtain ⟨pg, cgg, eg, rfl, _⟩ := hrg.open)
 refine A8 8 ?_
 refine Q5 rfl rfl (hT) rfl rfl rfl ?_
 refine aP 9 rfl (C1 rfl rfl) rfl ?_
 refine aP 10 rfl (qA rfl) rfl ?_
 refine D6 (nS (tT (A6 (rT rfl) ?_)))
 (exact ⟨rfl, by rw [decide_eq_true (by omega), Bool.true_and]⟩)
 refine aP 3 rfl (qM rfl) rfl ?_
 refine J7 4 rfl rfl rfl ?_
 refine J7 5 rfl rfl rfl ?_
 refine J7 6 rfl rfl rfl ?_
 refine J7 7 rfl rfl rfl ?_
 refine J7 8 rfl rfl rfl ?_
 refine aP 9 rfl (D7 rfl rfl) rfl ?_
 refine aP 10 rfl (qA rfl) rfl ?_
 refine D6 (nS (tT (A6 (rT rfl) ?_)))
 (exact ⟨rfl, by rw [decide_eq_false (by omega), Bool.false_and]⟩)
theorem A9g (t : Tm) (G : IM) (cells : List Value) (hr : B1 G t cells) : Fn Tryz.prog 140 [.agg ⟨cells⟩] [] G (H3 (.bool (W5 t)) G) := by
 obtain ⟨k, nm, num, ⟨tk, tks⟩, ⟨fk, fks⟩, lb, ks⟩ := t
 obtain ⟨pt, ct, pf, cf, p, c, es, rfl, hk, hnum, hlb, hty, hfr, hsl, hkl⟩ := hr.open9
 have hd : W5 (.mk k nm num (.mk tk tks) (.mk fk fks) lb ks) = decide (k = 14 ∧ fk = tk ∧ (tk = 4 ∨ tk = 5)) := rfl
 rw [hd]
 refine B7 Tryz.func140 rfl Tryz.ntmps140 Tryz.results140 rfl ?_
 intro w0
 refine tS (tR ?_)
 refine sE (D5 rfl rfl) rfl (fun b3 => ?_)
 refine sQ (qA rfl) rfl (sD (nS (tS (tR (sQ (A3 rfl) rfl (sL (A5 rfl rfl) rfl rfl ?_))))))
 refine sB (qE rfl rfl) rfl rfl (fun h11 => ?_) (fun h11 => ?_)
 refine wk7 ?_
 refine sB (qE rfl rfl) rfl rfl (fun h19 => ?_) (fun h19 => ?_)
 refine sQ (C1 rfl rfl) rfl (sQ (qM rfl) rfl (sQ (A3 rfl) rfl (sQ (qF rfl) rfl (sL (A5 rfl rfl) rfl rfl ?_))))
 refine sB (qE rfl rfl) rfl rfl (fun h25 => ?_) (fun h25 => ?_)
 refine R5 ?_
 (exact ⟨rfl, by rw [decide_eq_true (by omega)], rfl⟩)
 refine sQ (qM rfl) rfl (sQ (A3 rfl) rfl (sQ (qF rfl) rfl (sL (A5 rfl rfl) rfl rfl ?_)))
 refine sB (qE rfl rfl) rfl rfl (fun h43 => ?_) (fun h43 => ?_)
 refine sQ (D7 rfl rfl) rfl (sQ (C1 rfl rfl) rfl (sQ (qA rfl) rfl (sD (nS (tT (A6 (rT rfl) ?_))))))
 (exact ⟨rfl, by rw [decide_eq_true (by omega)], rfl⟩)
 refine sQ (D7 rfl rfl) rfl (sQ (C1 rfl rfl) rfl (sQ (qA rfl) rfl (sD (nS (tT (A6 (rT rfl) ?_))))))
 (exact ⟨rfl, by rw [decide_eq_false (by omega)], rfl⟩)
 refine V6 ?_
 (exact ⟨rfl, by rw [decide_eq_false (by omega)], rfl⟩)
 refine A5t ?_
 (exact ⟨rfl, by rw [decide_eq_false (by omega)], rfl⟩)
theorem B3X (t : Tm) (G : IM) (cells : List Value) (hr : B1 G t cells) : Fn Tryz.prog 225 [.agg ⟨cells⟩] [] G (H3 (.bool (inj t)) G) := by
 obtain ⟨k, nm, num, ⟨tk, tks⟩, ⟨fk, fks⟩, lb, ks⟩ := t
 obtain ⟨pt, ct, pf, cf, p, c, es, rfl, hk, hnum, hlb, hty, hfr, hsl, hkl⟩ := hr.open9
 have hd : inj (.mk k nm num (.mk tk tks) (.mk fk fks) lb ks) = (decide (k = 14 ∧ tk = 1) && A0U (.mk fk fks)) := rfl
 rw [hd]
 refine B7 Tryz.func225 rfl Tryz.ntmps225 Tryz.results225 rfl ?_
 intro w0
 refine tS (tR ?_)
 refine sE (D5 rfl rfl) rfl (fun b3 => ?_)
 refine sQ (qA rfl) rfl (sD (nS (tS (tR (sQ (A3 rfl) rfl (sL (A5 rfl rfl) rfl rfl ?_))))))
 refine sB (qE rfl rfl) rfl rfl (fun h11 => ?_) (fun h11 => ?_)
 refine sQ (qM rfl) rfl (sQ (A3 rfl) rfl (sQ (qF rfl) rfl (sL (A5 rfl rfl) rfl rfl ?_)))
 refine sB (qE rfl rfl) rfl rfl (fun h16 => ?_) (fun h16 => ?_)
 refine sQ (C1 rfl rfl) rfl (sQ (qM rfl) rfl (sQ (A3 rfl) rfl (sL (A7 rfl rfl) rfl rfl ?_)))
 refine F0 rfl ((B3W (.mk fk fks) G _ hfr)) rfl rfl ?_
 refine sQ (C1 rfl rfl) rfl (sQ (qA rfl) rfl (sD (nS (tT (A6 (rT rfl) ?_)))))
 (exact ⟨rfl, by rw [decide_eq_true (by omega), Bool.true_and], rfl⟩)
 refine A0n ?_
 (exact ⟨rfl, by rw [decide_eq_false (by omega), Bool.false_and], rfl⟩)
 refine Q9 ?_
 (exact ⟨rfl, by rw [decide_eq_false (by omega), Bool.false_and], rfl⟩)
theorem B3Y (t : Tm) (G : IM) (cells : List Value) (hr : B1 G t cells) : Fn Tryz.prog 228 [.agg ⟨cells⟩] [] G (H3 (.bool (decide (t.k = 2 ∨ t.k = 3 ∨ t.k = 4 ∨ t.k = 5))) G) := by
 obtain ⟨k, nm, num, ⟨tk, tks⟩, ⟨fk, fks⟩, lb, ks⟩ := t
 obtain ⟨pt, ct, pf, cf, p, c, es, rfl, hk, hnum, hlb, hty, hfr, hsl, hkl⟩ := hr.open9
 rw [show (Tm.mk k nm num (.mk tk tks) (.mk fk fks) lb ks).k = k from rfl]
 refine B7 Tryz.func228 rfl Tryz.ntmps228 Tryz.results228 rfl ?_
 intro w0
 refine tS (tR ?_)
 refine sE (D5 rfl rfl) rfl (fun b3 => ?_)
 refine sQ (qA rfl) rfl (sD (nS (tS (tR (sQ (A3 rfl) rfl (sL (A5 rfl rfl) rfl rfl ?_))))))
 refine sB (qE rfl rfl) rfl rfl (fun h11 => ?_) (fun h11 => ?_)
 refine A07 ?_
 (exact ⟨rfl, by rw [decide_eq_true (by omega)], rfl⟩)
 refine sQ (qM rfl) rfl (sQ (A3 rfl) rfl (sL (A5 rfl rfl) rfl rfl ?_))
 refine sB (qE rfl rfl) rfl rfl (fun h36 => ?_) (fun h36 => ?_)
 refine Q9 ?_
 (exact ⟨rfl, by rw [decide_eq_true (by omega)], rfl⟩)
 refine sQ (D7 rfl rfl) rfl (sQ (qM rfl) rfl (sQ (A3 rfl) rfl (sL (A5 rfl rfl) rfl rfl ?_)))
 refine sB (qE rfl rfl) rfl rfl (fun h58 => ?_) (fun h58 => ?_)
 refine A0n ?_
 (exact ⟨rfl, by rw [decide_eq_true (by omega)], rfl⟩)
 refine sQ (D7 rfl rfl) rfl (sQ (qM rfl) rfl (sQ (A3 rfl) rfl (sL (A5 rfl rfl) rfl rfl ?_)))
 refine sB (qE rfl rfl) rfl rfl (fun h75 => ?_) (fun h75 => ?_)
 refine sQ (D7 rfl rfl) rfl (sQ (qA rfl) rfl (sD (nS (tT (A6 (rT rfl) ?_)))))
 (exact ⟨rfl, by rw [decide_eq_true (by omega)], rfl⟩)
 refine sQ (D7 rfl rfl) rfl (sQ (qA rfl) rfl (sD (nS (tT (A6 (rT rfl) ?_)))))
 (exact ⟨rfl, by rw [decide_eq_false (by omega)], rfl⟩)
theorem B3Z (G : IM) (p : Option Addr) (n c : Nat) (es : List (List Value)) (hsl : C5 G p n c 9 es) (fid : FuncId) [B3 Tryz.prog fid] (us cs : List Value) (ins : List A4) (q : Nat → Bool)
  (hq : ∀ i e, es[i]? = some e → Fn Tryz.prog fid (us ++ [.agg ⟨e⟩] ++ cs) ins G (T8 (.bool (q i)) ins G)) :
  Fn Tryz.prog 252 [.slice p n c, .func (.func fid) ⟨us⟩ ⟨cs⟩] ins G (T8 (.int .i64 (A0A q n)) ins G) := by
 have hn := hsl.le
 refine B7 Tryz.func252 rfl Tryz.ntmps252 Tryz.results252 rfl ?_
 intro w0
 refine tS (tR (sQ (qA rfl) rfl (sD (nS (tS (tS (tR (sQ (qM rfl) rfl (sQ (D8 rfl rfl) rfl (sQ (qM rfl) rfl (sD (nS ?_))))))))))))
 refine B5 ?_
 refine K4 (fun i : Nat => ⟨[(8, .int .i64 i), (7, .int .i64 n), (1, .func (.func fid) ⟨us⟩ ⟨cs⟩), (0, .slice p n c)], ins, G⟩) (fun i => i ≤ n ∧ ∀ j, j < i → q j = false) (fun i => n - i) 0 ?_ ?_ ?_
 exact C9
 exact ⟨by omega, by omega⟩
 rintro i ⟨hi, hf⟩
 refine tS (tR ?_)
 refine sB (J3 rfl rfl) rfl rfl (fun h21 => ?_) (fun h21 => ?_)
 refine sD (nS (tS (qT rfl (tK (nS (tS ?_))))))
 refine B5 ?_
 refine tS (tR (sQ (qM rfl) rfl (sQ (qA rfl) rfl (sD (nS (tS (tR (sQ (qM rfl) rfl (sQ (qM rfl) rfl (sQ (qM rfl) rfl ?_))))))))))
 (obtain ⟨e, b, o, he, rfl, hl, _, hat, _⟩ := hsl.get (i := i) (by omega); refine sP (C2 rfl rfl rfl (by omega)) rfl rfl ?_)
 refine sL (A9 rfl rfl (hat _) hl) rfl rfl ?_
 refine A5s rfl rfl (hq i e he) Z5 rfl rfl (fun h43 => ?_) (fun h43 => ?_)
 refine sD (nS (qT rfl (tS (tR (sQ (qM rfl) rfl (sQ (qA rfl) rfl (sD (nS (tT (rB (rS (U2 (rB (rS ?_))))))))))))))
 refine E5 (rT rfl) A0.refl ?_
 exact ⟨rfl, by rw [A7y (by omega) hf (by assumption)], rfl⟩
 refine sD (nS (cF rfl (tK (C8 (nS (tR ?_))))))
 refine sP (H6 rfl rfl (by omega) (by omega)) rfl rfl ?_
 refine sQ (qM rfl) rfl (sD ?_)
 refine K3 (i + 1) ?_ ?_ ?_
 exact C9
 exact ⟨by omega, fun j hj => by by_cases hji : j = i; (subst hji; assumption); exact hf j (by omega)⟩
 omega
 refine sD (nS (tS (cF rfl (M7 (M8 (N3 (M9 (nS (tS (tR (sQ (qA rfl) rfl (sD (nS (tT ?_))))))))))))))
 refine E5 (rT rfl) A0.refl ?_
 exact ⟨rfl, by rw [A5w (fun j hj => hf j (by omega))], rfl⟩
theorem B30 (G : IM) (p : Option Addr) (n c : Nat) (es : List (List Value)) (hsl : C5 G p n c 9 es) (fid : FuncId) [B3 Tryz.prog fid] (us cs : List Value) (ins : List A4) (q : Nat → Bool)
  (hq : ∀ i e, es[i]? = some e → Fn Tryz.prog fid (us ++ [.agg ⟨e⟩] ++ cs) ins G (T8 (.bool (q i)) ins G)) :
  Fn Tryz.prog 226 [.slice p n c, .func (.func fid) ⟨us⟩ ⟨cs⟩] ins G (T8 (.bool (decide (0 ≤ A0A q n))) ins G) := by
 refine B7 Tryz.func226 rfl Tryz.ntmps226 Tryz.results226 rfl ?_
 intro w0
 refine tS (tR (sQ (qA rfl) rfl (sD (nS (tS (tR (sQ (qM rfl) rfl (sQ (qM rfl) rfl ?_))))))))
 refine A1M rfl (B3Z G p n c es hsl fid us cs ins q hq) Z5 rfl rfl ?_
 refine sQ (Y0 rfl rfl) rfl ?_
 refine sQ (qA rfl) rfl (sD (nS (tT ?_)))
 refine E5 (rT rfl) A0.refl ?_
 exact ⟨rfl, rfl, rfl⟩
theorem A9h (G : IM) (p : Option Addr) (n c : Nat) (es : List (List Value)) (hsl : C5 G p n c 9 es) (fid : FuncId) [B3 Tryz.prog fid] (us cs : List Value) (ins : List A4) (f : Tm → Bool) (ks : List Tm)
  (hn : ks.length = n) {A : Bool} (hA : ks.all f = A) (hq : ∀ i e, es[i]? = some e → Fn Tryz.prog fid (us ++ [.agg ⟨e⟩] ++ cs) ins G (T8 (.bool (!f (ks.getD i H7))) ins G)) :
  Fn Tryz.prog 226 [.slice p n c, .func (.func fid) ⟨us⟩ ⟨cs⟩] ins G (T8 (.bool (!A)) ins G) := by
 subst hn hA
 rw [← A7B f ks H7]
 exact B30 G p _ c es hsl fid us cs ins _ hq
theorem A9i : ∀ ks, A1h ks = ks.all I8
 | [] => rfl
 | t :: ts => by rw [A1h, A9i ts, List.all_cons]
theorem B31 (t : Tm) (G : IM) (cells : List Value) (hl : cells.length = 9) (ho : cells.all (·.oneCell') = true) (h : Fn Tryz.prog 206 [.agg ⟨cells⟩] [] G (H3 (.bool (I8 t)) G)) :
  Fn Tryz.prog 227 [.agg ⟨cells⟩] [] G (T8 (.bool (!I8 t)) [] G) := by
 refine B7 Tryz.func227 rfl Tryz.ntmps227 Tryz.results227 rfl ?_
 intro w0
 refine tS (tR ?_)
 refine sE (D5 rfl rfl) rfl (fun b3 => ?_)
 refine sQ (qA rfl) rfl (sD (nS (tS (tR ?_))))
 refine sL (A9 rfl rfl (C7 (by repeat first | exact mH | apply mT)) hl) rfl rfl ?_
 refine F0 rfl (h) rfl rfl ?_
 refine sQ (A1I rfl) rfl ?_
 refine sQ (qA rfl) rfl (sD (nS (tT (A6 (rT rfl) ?_))))
 (exact ⟨rfl, rfl, rfl⟩)
theorem A6y (k : Int) (nm : ByteArray) (num : Int) (ty fr : Ty) (lb : Int) (ks : List Tm) : W5 (.mk k nm num ty fr lb ks) = decide (k = 14 ∧ fr.k = ty.k ∧ (ty.k = 4 ∨ ty.k = 5)) := rfl
theorem A6z (k : Int) (nm : ByteArray) (num : Int) (ty fr : Ty) (lb : Int) (ks : List Tm) : inj (.mk k nm num ty fr lb ks) = (decide (k = 14 ∧ ty.k = 1) && A0U fr) := rfl
theorem A6A {k : Int} {nm : ByteArray} {num : Int} {ty fr : Ty} {lb : Int} {ks : List Tm} (h : k = 10 ∨ W5 (.mk k nm num ty fr lb ks) = true ∨ inj (.mk k nm num ty fr lb ks) = true) : I8 (.mk k nm num ty fr lb ks) = ks.all I8 := by
 rw [I8, if_pos, A9i]
 rw [A6y, A6z] at h
 simp only [Bool.and_eq_true, decide_eq_true_eq] at h
 rcases h with h | h | h
 ·exact .inl h
 ·exact .inr (.inl h)
 ·exact .inr (.inr ⟨h.1.1, h.1.2, h.2⟩)
theorem A9j {k : Int} {nm : ByteArray} {num : Int} {ty fr : Ty} {lb : Int} {ks : List Tm} (h : ¬k = 10) (h2 : W5 (.mk k nm num ty fr lb ks) = false) (h3 : inj (.mk k nm num ty fr lb ks) = false) : I8 (.mk k nm num ty fr lb ks) = decide (k = 2 ∨ k = 3 ∨ k = 4 ∨ k = 5) := by
 rw [I8, if_neg]
 rw [A6y] at h2
 rw [A6z] at h3
 simp only [Bool.and_eq_false_iff, decide_eq_false_iff_not] at h2 h3
 rintro (h' | h' | h')
 ·exact h h'
 ·exact h2 h'
 ·rcases h3 with h3 | h3
  ·exact h3 ⟨h'.1, h'.2.1⟩
  ·rw [h3] at h'; cases h'.2.2
theorem A9k : ∀ (t : Tm) (G : IM) (cells : List Value), B1 G t cells → Fn Tryz.prog 206 [.agg ⟨cells⟩] [] G (H3 (.bool (I8 t)) G) := by
 refine Tm.ind fun k nm num ty fr lb ks ih G cells hr => ?_
 have hr0 := hr
 have hP := A9g _ G _ hr
 have hI := B3X _ G _ hr
 have hPl := B3Y _ G _ hr
 have hy := @A6A k nm num ty fr lb ks
 have hn := @A9j k nm num ty fr lb ks
 rw [show (Tm.mk k nm num ty fr lb ks).k = k from rfl] at hPl
 obtain ⟨A, hA⟩ : ∃ A, ks.all I8 = A := ⟨_, rfl⟩
 rw [hA] at hy
 generalize hpx : W5 (.mk k nm num ty fr lb ks) = bp at hP hy hn
 generalize hij : inj (.mk k nm num ty fr lb ks) = bi at hI hy hn
 generalize I8 (.mk k nm num ty fr lb ks) = R at hy hn ⊢
 obtain ⟨tk, tks⟩ := ty
 obtain ⟨fk, fks⟩ := fr
 obtain ⟨pt, ct, pf, cf, p, c, es, rfl, hk, hnum, hlb, hty, hfr, hsl, hkl⟩ := hr.open9
 have hC := A9h G p ks.length c es hsl 227 [] [] [] I8 ks rfl hA (fun i e he => by
  have hx := hkl.inv he H7
  exact B31 _ G e hx.2.len hx.2.one (ih _ hx.1 G e hx.2))
 refine B7 Tryz.func206 rfl Tryz.ntmps206 Tryz.results206 rfl ?_
 intro w0
 refine tS (tR ?_)
 refine sE (D5 rfl rfl) rfl (fun b3 => ?_)
 refine sQ (qA rfl) rfl (sD (nS (tS (tS (tR (sQ (A3 rfl) rfl (sL (A5 rfl rfl) rfl rfl ?_)))))))
 refine sB (qE rfl rfl) rfl rfl (fun h12 => ?_) (fun h12 => ?_)
 refine N5 ?_
 refine A1M rfl hC Z5 rfl rfl ?_
 refine sQ (A1I rfl) rfl ?_
 refine sQ (qA rfl) rfl (sD (nS (tT (rS (A6 (rT rfl) ?_)))))
 (exact ⟨rfl, by rw [hy (by first | exact .inl (by omega) | exact .inr (.inl (by assumption)) | exact .inr (.inr (by assumption)))]; cases A <;> rfl, rfl⟩)
 refine sQ (qM rfl) rfl (sL (A7 rfl rfl) rfl rfl ?_)
 refine H1 rfl (hP) rfl rfl (fun h39 => ?_) (fun h39 => ?_)
 refine R5 ?_
 refine A1M rfl hC Z5 rfl rfl ?_
 refine sQ (A1I rfl) rfl ?_
 refine sQ (qA rfl) rfl (sD (nS (tT (rS (A6 (rT rfl) ?_)))))
 (exact ⟨rfl, by rw [hy (by first | exact .inl (by omega) | exact .inr (.inl (by assumption)) | exact .inr (.inr (by assumption)))]; cases A <;> rfl, rfl⟩)
 refine sQ (D7 rfl rfl) rfl (sQ (qM rfl) rfl (sL (A7 rfl rfl) rfl rfl ?_))
 refine H1 rfl (hI) rfl rfl (fun h64 => ?_) (fun h64 => ?_)
 refine sQ (D7 rfl rfl) rfl (sD (nS (qT rfl (tS (tR (sQ (A3 rfl) rfl (sL (A5 rfl rfl) rfl rfl ?_)))))))
 refine A1M rfl hC Z5 rfl rfl ?_
 refine sQ (A1I rfl) rfl ?_
 refine sQ (qA rfl) rfl (sD (nS (tT (rS (A6 (rT rfl) ?_)))))
 (exact ⟨rfl, by rw [hy (by first | exact .inl (by omega) | exact .inr (.inl (by assumption)) | exact .inr (.inr (by assumption)))]; cases A <;> rfl, rfl⟩)
 refine sQ (D7 rfl rfl) rfl (sD (nS (cF rfl (tK (nS (tS (tR (sL (A7 rfl rfl) rfl rfl ?_))))))))
 refine F0 rfl (hPl) rfl rfl ?_
 refine sQ (qA rfl) rfl (sD (nS (tT (A6 (rT rfl) ?_))))
 (exact ⟨rfl, by rw [hn (by omega) (by assumption) (by assumption)], rfl⟩)
theorem B1.put {G : IM} {k : Int} {nm : ByteArray} {num tk fk lb : Int} {tks fks : List Ty} {us : List Tm} {pt pf p : Option Addr} {ct cf n c : Nat} {es : List (List Value)} (hk : C6 k) (hnum : C6 num) (hlb : C6 lb) (hty : C3 G (.mk tk tks) [.int .i64 tk, .slice pt tks.length ct]) (hfr : C3 G (.mk fk fks) [.int .i64 fk, .slice pf fks.length cf])
  (hn : n = us.length) (hs : C5 G p n c 9 es) (hr : E3 G us es) : B1 G (.mk k nm num (.mk tk tks) (.mk fk fks) lb us) [.int .i64 k, .string nm, .int .i64 num, .int .i64 tk, .slice pt tks.length ct, .int .i64 fk, .slice pf fks.length cf, .int .i64 lb, .slice p n c] := by
 subst hn
 simp only [B1]
 exact ⟨_, _, p, c, es, rfl, hk, hnum, hlb, hty, hfr, hs, hr⟩
theorem nine {uc : List Value} (h : uc.length = 9) : ∃ v1 v2 v3 v4 v5 v6 v7 v8 v9, uc = [v1, v2, v3, v4, v5, v6, v7, v8, v9] := by
 match uc, h with
 | [a, b, c, d, e, f, g, i, j], _ => exact ⟨a, b, c, d, e, f, g, i, j, rfl⟩
theorem A6B {x : ByteArray} {v : Tm} {ks : List Tm} {i : Nat} (h : i < ks.length) : (V8 x v ks).take (i + 1) = (V8 x v ks).take i ++ [W6 x v ks[i]] := by
 rw [A6o, List.take_succ_eq_append_getElem (by rw [List.length_map]; exact h), List.getElem_map]
theorem A1Z (x : ByteArray) (v : Tm) (ks : List Tm) : (V8 x v ks).length = ks.length := by rw [A6o, List.length_map]
theorem B32 (y : ByteArray) (v : Tm) (vc : List Value) : ∀ (t : Tm) (G : IM) (cells : List Value), t.small → B1 G t cells → B1 G v vc → Fn Tryz.prog 253 [.agg ⟨cells⟩, .string y, .agg ⟨vc⟩] [] G (TmP (W6 y v t)) := by
 refine Tm.ind fun k nm num ty fr lb ks ih G cells hts hr hv => ?_
 have hr0 := hr
 obtain ⟨_, _, _, hsm, hks⟩ := A6q.1 hts
 have hvl := hv.len
 have hvo := hv.one
 have hRl := hr.len
 have hRo := hr.one
 rw [W6]
 obtain ⟨tk, tks⟩ := ty
 obtain ⟨fk, fks⟩ := fr
 obtain ⟨pt, ct, pf, cf, p, c, es, rfl, hk, hnum, hlb, hty, hfr, hsl, hkl⟩ := hr.open9
 have hn := hsl.le
 refine B7 Tryz.func253 rfl Tryz.ntmps253 Tryz.results253 rfl ?_
 intro w0
 refine tS (tR ?_)
 refine sE (D5 rfl rfl) rfl (fun b3 => ?_)
 refine sE (D5 rfl rfl) rfl (fun b4 => ?_)
 refine sE (B6 rfl) rfl (fun b5 => ?_)
 refine sD (nS (tS ?_))
 refine B5 ?_
 refine tS (tR (sQ (A3 rfl) rfl (sL (A5 rfl rfl) rfl rfl ?_)))
 refine sB (qE rfl rfl) rfl rfl (fun h14 => ?_) (fun h14 => ?_)
 refine sQ (qM rfl) rfl (sQ (A3 rfl) rfl (sL (A5 rfl rfl) rfl rfl (sQ (qM rfl) rfl ?_)))
 refine sB (A1J rfl rfl) rfl rfl (fun h19 => ?_) (fun h19 => ?_)
 refine sQ (C1 rfl rfl) rfl (sQ (qA rfl) rfl (sD (nS (qT rfl (tS (tR ?_))))))
 refine sL (A9 rfl rfl (C7 (by repeat first | exact mH | apply mT)) hvl) rfl rfl ?_
 refine sS rfl rfl rfl hvl hvo rfl ?_ (hu := by exact I4 hvl.symm)
 refine sD (nS (tT (rB (rS ?_))))
 refine A6 (rC rfl (A9 rfl rfl (C7 (by repeat first | exact mH | apply mT)) hvl)) ?_
 (rw [if_pos (by refine ⟨by omega, by assumption⟩)]; exact TmP.mk hv)
 refine sQ (C1 rfl rfl) rfl (sQ (qA rfl) rfl (sD (nS (cF rfl (tS (tR (sQ (A3 rfl) rfl (sL (A5 rfl rfl) rfl rfl ?_))))))))
 refine sP (E9 rfl rfl (by omega)) rfl rfl ?_
 refine Q9 ?_
 refine sE (B6 rfl) rfl (fun b62 => ?_)
 refine V6 ?_
 refine B5 ?_
 (refine W1 28 9 ?_; refine K4 (fun (x : Nat × Option Addr × Nat × List (List Value) × IM) => ⟨[(37, .int .i64 x.1), (36, .int .i64 ks.length), (35, .slice p ks.length c), (1, .string y), (3, .pointer (some ⟨b3, 0, none⟩)), (5, .pointer (some ⟨b4, 0, none⟩)), (6, .pointer (some ⟨b5, 0, none⟩)), (7, .pointer (some ⟨b62, 0, none⟩))], [.blk b62 [.int .i64 k, .string nm, .int .i64 num, .int .i64 tk, .slice pt tks.length ct, .int .i64 fk, .slice pf fks.length cf, .int .i64 lb, .slice x.2.1 x.1 x.2.2.1], .slc x.2.1 x.2.2.1 28 9 x.1 x.2.2.2.1.flatten, .blk b5 [.int .i64 0, .string ⟨⟨[]⟩⟩, .int .i64 0, .int .i64 0, .slice none 0 0, .int .i64 0, .slice none 0 0, .int .i64 0, .slice none 0 0], .blk b4 vc, .blk b3 [.int .i64 k, .string nm, .int .i64 num, .int .i64 tk, .slice pt tks.length ct, .int .i64 fk, .slice pf fks.length cf, .int .i64 lb, .slice p ks.length c]], x.2.2.2.2⟩) (fun x => x.1 ≤ ks.length ∧ B4 G x.2.2.2.2 ∧ E3 x.2.2.2.2 ((V8 y v ks).take x.1) x.2.2.2.1) (fun x => ks.length - x.1) (0, none, 0, [], G) ?_ ?_ ?_)
 (simp only [E2]; exact C9)
 (exact ⟨Nat.zero_le _, B4.refl _, by simp [E3]⟩)
 (rintro ⟨i, pn, cn, es', Gi⟩ ⟨hi, hle, hst⟩; simp only [] at hi hle hst ⊢; replace hsl := hsl.mono hle; replace hkl := hkl.mono hle; replace hv := hv.mono hle; replace hty := hty.mono hle; replace hfr := hfr.mono hle; have hsl' := hst.len; rw [List.length_take, A1Z] at hsl')
 refine tS (tR ?_)
 refine sB (J3 rfl rfl) rfl rfl (fun h88 => ?_) (fun h88 => ?_)
 refine sD (nS (tS (qT rfl (tK (nS (tS ?_))))))
 refine B5 ?_
 refine tS (tR ?_)
 (have hil : i < ks.length := (by omega); obtain ⟨bx, ox, e, rfl, hl, hat, hre, hgb⟩ := hsl.kidTm hkl (i := i) (by omega) (by omega); have hel := hre.len; have heo := hre.one; refine sP (C2 (j := i) rfl rfl rfl (by omega)) rfl rfl ?_)
 refine sL (A9 rfl rfl (hat _) hl) rfl rfl ?_
 refine sE (B6 rfl) rfl (fun b101 => ?_)
 refine sS rfl rfl rfl hel heo rfl ?_ (hu := by exact I4 hel.symm)
 refine sD (nS ?_)
 refine I0 I1 rfl ?_
 refine A0M (i := 2) (l' := [ff,ff,tt,ff,ff,ff,ff,ff,ff,ff]) rfl F4 (A9 rfl rfl (C7 (by repeat first | exact mH | apply mT)) hel) rfl (by kernel_rfl) rfl rfl ?_
 refine aL 4 rfl (A9 rfl rfl (C7 (by repeat first | exact mH | apply mT)) hvl) rfl ?_
 refine aP 0 rfl (A3 rfl) rfl ?_
 refine aL 1 rfl (A5 rfl rfl) rfl ?_
 refine aP 3 rfl (qM rfl) rfl ?_
 refine A8 5 ?_
 (refine Q0 rfl rfl (ih ks[i] (List.getElem_mem (by omega)) Gi _ (Tm.smallL_mem hks _ (List.getElem_mem (by omega))) hre hv) rfl rfl rfl (fun u G1 hle1 hh => ?_); obtain ⟨uc, rfl, hru⟩ := hh; have hul := hru.len; have huo := hru.one; obtain ⟨v1, v2, v3, v4, v5, v6, v7, v8, v9, rfl⟩ := nine hul)
 refine A8 6 ?_
 (refine J9 rfl (D0 rfl rfl rfl (by omega) (by unfold maxLen; omega) rfl) rfl rfl ?_; rintro _ ⟨b114, rfl⟩)
 refine A8 7 ?_
 (refine S9 rfl rfl rfl rfl rfl rfl (fun _ _ => by repeat (first | exact Sw.here | apply Sw.there)) (K9 (by repeat first | exact mH | apply mT)) rfl (fun u hu => List.all_eq_true.1 huo u hu) (by unfold maxLen; omega) (by omega) rfl rfl (by repeat (first | exact B0.nil | apply B0.dep (by decide +kernel) | apply B0.im (by decide +kernel) (by assumption) (by repeat first | exact mH | apply mT) | apply B0.blk (by decide +kernel) (by repeat (first | exact Pk.here | apply Pk.there)) (by repeat first | exact mH | apply mT))) (fun p7 c7 => ?_))
 refine aP 8 rfl (A3 rfl) rfl ?_
 refine A8 9 ?_
 refine P3 rfl rfl rfl rfl rfl rfl rfl rfl (by decide +kernel) (by repeat first | exact Sw.here | apply Sw.there) (by rfl) ?_
 refine D6 (C8 (nS (tR ?_)))
 refine sP (H6 rfl rfl (by omega) (by omega)) rfl rfl ?_
 refine sQ (qM rfl) rfl (sD ?_)
 refine K3 (i + 1, p7, c7, es' ++ [[v1, v2, v3, v4, v5, v6, v7, v8, v9]], G1) ?_ ?_ ?_
 (simp only [E2]; exact C9)
 (dsimp only; exact ⟨by omega, hle.trans hle1, by rw [A6B (by omega)]; exact E3.snoc (hst.mono hle1) hru⟩)
 (show ks.length - (i + 1) < ks.length - i; omega)
 refine sD (nS (tS (cF rfl (M7 (M8 (N3 (M9 (nS (tS (tR (sL (A7 rfl rfl) rfl rfl (B9 ?_))))))))))))
 refine sD (nS ?_)
 (refine Q4 (cs := es'.flatten) (by repeat (first | exact Pk.here | apply Pk.there)) (fun G2 hle2 hsl2 hno2 => ?_); obtain rfl : i = ks.length := (by omega))
 refine tT ?_
 refine A6 (rC rfl (A7 rfl rfl)) ?_
 (rw [if_neg (by rintro ⟨h1, h2⟩; first | omega | contradiction), if_neg (by rintro ⟨h1, h2⟩; first | omega | contradiction)]; rw [List.take_of_length_le (by rw [A1Z]; omega)] at hst; exact TmP.mk (B1.put hk hnum hlb (hty.mono hle2) (hfr.mono hle2) (by rw [A1Z]) (C5.of hsl2 (by omega) hst.all (fun e he => (hst.each e he).2)) (hst.mono hle2)))
 refine Y8 ?_
 refine sB (qE rfl rfl) rfl rfl (fun h164 => ?_) (fun h164 => ?_)
 refine sQ (qM rfl) rfl (sQ (A3 rfl) rfl (sL (A5 rfl rfl) rfl rfl (sQ (qM rfl) rfl ?_)))
 refine sB (A1J rfl rfl) rfl rfl (fun h169 => ?_) (fun h169 => ?_)
 refine sQ (C1 rfl rfl) rfl (sQ (qA rfl) rfl (sD (nS (qT rfl (tS (tR (sL (A7 rfl rfl) rfl rfl (B9 ?_))))))))
 refine sD (nS (tT (rB (rS ?_))))
 refine A6 (rC rfl (A7 rfl rfl)) ?_
 (rw [if_neg (by rintro ⟨h1, h2⟩; first | omega | contradiction), if_pos (by refine ⟨by omega, by assumption⟩)]; exact TmP.mk hr0)
 refine sQ (C1 rfl rfl) rfl (sQ (qA rfl) rfl (sD (nS (cF rfl (tK (C8 (nS (tS (tR (sL (A7 rfl rfl) rfl rfl ?_))))))))))
 refine sE (B6 rfl) rfl (fun b197 => ?_)
 refine V6 ?_
 refine B5 ?_
 (refine W1 28 9 ?_; refine K4 (fun (x : Nat × Option Addr × Nat × List (List Value) × IM) => ⟨[(37, .int .i64 x.1), (36, .int .i64 ks.length), (35, .slice p ks.length c), (1, .string y), (3, .pointer (some ⟨b3, 0, none⟩)), (5, .pointer (some ⟨b4, 0, none⟩)), (6, .pointer (some ⟨b5, 0, none⟩)), (7, .pointer (some ⟨b197, 0, none⟩))], [.blk b197 [.int .i64 k, .string nm, .int .i64 num, .int .i64 tk, .slice pt tks.length ct, .int .i64 fk, .slice pf fks.length cf, .int .i64 lb, .slice x.2.1 x.1 x.2.2.1], .slc x.2.1 x.2.2.1 28 9 x.1 x.2.2.2.1.flatten, .blk b5 [.int .i64 0, .string ⟨⟨[]⟩⟩, .int .i64 0, .int .i64 0, .slice none 0 0, .int .i64 0, .slice none 0 0, .int .i64 0, .slice none 0 0], .blk b4 vc, .blk b3 [.int .i64 k, .string nm, .int .i64 num, .int .i64 tk, .slice pt tks.length ct, .int .i64 fk, .slice pf fks.length cf, .int .i64 lb, .slice p ks.length c]], x.2.2.2.2⟩) (fun x => x.1 ≤ ks.length ∧ B4 G x.2.2.2.2 ∧ E3 x.2.2.2.2 ((V8 y v ks).take x.1) x.2.2.2.1) (fun x => ks.length - x.1) (0, none, 0, [], G) ?_ ?_ ?_)
 (simp only [E2]; exact C9)
 (exact ⟨Nat.zero_le _, B4.refl _, by simp [E3]⟩)
 (rintro ⟨i, pn, cn, es', Gi⟩ ⟨hi, hle, hst⟩; simp only [] at hi hle hst ⊢; replace hsl := hsl.mono hle; replace hkl := hkl.mono hle; replace hv := hv.mono hle; replace hty := hty.mono hle; replace hfr := hfr.mono hle; have hsl' := hst.len; rw [List.length_take, A1Z] at hsl')
 refine tS (tR ?_)
 refine sB (J3 rfl rfl) rfl rfl (fun h223 => ?_) (fun h223 => ?_)
 refine sD (nS (tS (qT rfl (tK (nS (tS ?_))))))
 refine B5 ?_
 refine tS (tR ?_)
 (have hil : i < ks.length := (by omega); obtain ⟨bx, ox, e, rfl, hl, hat, hre, hgb⟩ := hsl.kidTm hkl (i := i) (by omega) (by omega); have hel := hre.len; have heo := hre.one; refine sP (C2 (j := i) rfl rfl rfl (by omega)) rfl rfl ?_)
 refine sL (A9 rfl rfl (hat _) hl) rfl rfl ?_
 refine sE (B6 rfl) rfl (fun b236 => ?_)
 refine sS rfl rfl rfl hel heo rfl ?_ (hu := by exact I4 hel.symm)
 refine sD (nS ?_)
 refine I0 I1 rfl ?_
 refine A0M (i := 2) (l' := [ff,ff,tt,ff,ff,ff,ff,ff,ff,ff]) rfl F4 (A9 rfl rfl (C7 (by repeat first | exact mH | apply mT)) hel) rfl (by kernel_rfl) rfl rfl ?_
 refine aL 4 rfl (A9 rfl rfl (C7 (by repeat first | exact mH | apply mT)) hvl) rfl ?_
 refine aP 0 rfl (A3 rfl) rfl ?_
 refine aL 1 rfl (A5 rfl rfl) rfl ?_
 refine aP 3 rfl (qM rfl) rfl ?_
 refine A8 5 ?_
 (refine Q0 rfl rfl (ih ks[i] (List.getElem_mem (by omega)) Gi _ (Tm.smallL_mem hks _ (List.getElem_mem (by omega))) hre hv) rfl rfl rfl (fun u G1 hle1 hh => ?_); obtain ⟨uc, rfl, hru⟩ := hh; have hul := hru.len; have huo := hru.one; obtain ⟨v1, v2, v3, v4, v5, v6, v7, v8, v9, rfl⟩ := nine hul)
 refine A8 6 ?_
 (refine J9 rfl (D0 rfl rfl rfl (by omega) (by unfold maxLen; omega) rfl) rfl rfl ?_; rintro _ ⟨b249, rfl⟩)
 refine A8 7 ?_
 (refine S9 rfl rfl rfl rfl rfl rfl (fun _ _ => by repeat (first | exact Sw.here | apply Sw.there)) (K9 (by repeat first | exact mH | apply mT)) rfl (fun u hu => List.all_eq_true.1 huo u hu) (by unfold maxLen; omega) (by omega) rfl rfl (by repeat (first | exact B0.nil | apply B0.dep (by decide +kernel) | apply B0.im (by decide +kernel) (by assumption) (by repeat first | exact mH | apply mT) | apply B0.blk (by decide +kernel) (by repeat (first | exact Pk.here | apply Pk.there)) (by repeat first | exact mH | apply mT))) (fun p7 c7 => ?_))
 refine aP 8 rfl (A3 rfl) rfl ?_
 refine A8 9 ?_
 refine P3 rfl rfl rfl rfl rfl rfl rfl rfl (by decide +kernel) (by repeat first | exact Sw.here | apply Sw.there) (by rfl) ?_
 refine D6 (C8 (nS (tR ?_)))
 refine sP (H6 rfl rfl (by omega) (by omega)) rfl rfl ?_
 refine sQ (qM rfl) rfl (sD ?_)
 refine K3 (i + 1, p7, c7, es' ++ [[v1, v2, v3, v4, v5, v6, v7, v8, v9]], G1) ?_ ?_ ?_
 (simp only [E2]; exact C9)
 (dsimp only; exact ⟨by omega, hle.trans hle1, by rw [A6B (by omega)]; exact E3.snoc (hst.mono hle1) hru⟩)
 (show ks.length - (i + 1) < ks.length - i; omega)
 refine sD (nS (tS (cF rfl (M7 (M8 (N3 (M9 (nS (tS (tR (sL (A7 rfl rfl) rfl rfl (B9 ?_))))))))))))
 refine sD (nS ?_)
 (refine Q4 (cs := es'.flatten) (by repeat (first | exact Pk.here | apply Pk.there)) (fun G2 hle2 hsl2 hno2 => ?_); obtain rfl : i = ks.length := (by omega))
 refine tT ?_
 refine A6 (rC rfl (A7 rfl rfl)) ?_
 (rw [if_neg (by rintro ⟨h1, h2⟩; first | omega | contradiction), if_neg (by rintro ⟨h1, h2⟩; first | omega | contradiction)]; rw [List.take_of_length_le (by rw [A1Z]; omega)] at hst; exact TmP.mk (B1.put hk hnum hlb (hty.mono hle2) (hfr.mono hle2) (by rw [A1Z]) (C5.of hsl2 (by omega) hst.all (fun e he => (hst.each e he).2)) (hst.mono hle2)))
 refine Q9 ?_
 refine sE (B6 rfl) rfl (fun b301 => ?_)
 refine V6 ?_
 refine B5 ?_
 (refine W1 28 9 ?_; refine K4 (fun (x : Nat × Option Addr × Nat × List (List Value) × IM) => ⟨[(37, .int .i64 x.1), (36, .int .i64 ks.length), (35, .slice p ks.length c), (1, .string y), (3, .pointer (some ⟨b3, 0, none⟩)), (5, .pointer (some ⟨b4, 0, none⟩)), (6, .pointer (some ⟨b5, 0, none⟩)), (7, .pointer (some ⟨b301, 0, none⟩))], [.blk b301 [.int .i64 k, .string nm, .int .i64 num, .int .i64 tk, .slice pt tks.length ct, .int .i64 fk, .slice pf fks.length cf, .int .i64 lb, .slice x.2.1 x.1 x.2.2.1], .slc x.2.1 x.2.2.1 28 9 x.1 x.2.2.2.1.flatten, .blk b5 [.int .i64 0, .string ⟨⟨[]⟩⟩, .int .i64 0, .int .i64 0, .slice none 0 0, .int .i64 0, .slice none 0 0, .int .i64 0, .slice none 0 0], .blk b4 vc, .blk b3 [.int .i64 k, .string nm, .int .i64 num, .int .i64 tk, .slice pt tks.length ct, .int .i64 fk, .slice pf fks.length cf, .int .i64 lb, .slice p ks.length c]], x.2.2.2.2⟩) (fun x => x.1 ≤ ks.length ∧ B4 G x.2.2.2.2 ∧ E3 x.2.2.2.2 ((V8 y v ks).take x.1) x.2.2.2.1) (fun x => ks.length - x.1) (0, none, 0, [], G) ?_ ?_ ?_)
 (simp only [E2]; exact C9)
 (exact ⟨Nat.zero_le _, B4.refl _, by simp [E3]⟩)
 (rintro ⟨i, pn, cn, es', Gi⟩ ⟨hi, hle, hst⟩; simp only [] at hi hle hst ⊢; replace hsl := hsl.mono hle; replace hkl := hkl.mono hle; replace hv := hv.mono hle; replace hty := hty.mono hle; replace hfr := hfr.mono hle; have hsl' := hst.len; rw [List.length_take, A1Z] at hsl')
 refine tS (tR ?_)
 refine sB (J3 rfl rfl) rfl rfl (fun h327 => ?_) (fun h327 => ?_)
 refine sD (nS (tS (qT rfl (tK (nS (tS ?_))))))
 refine B5 ?_
 refine tS (tR ?_)
 (have hil : i < ks.length := (by omega); obtain ⟨bx, ox, e, rfl, hl, hat, hre, hgb⟩ := hsl.kidTm hkl (i := i) (by omega) (by omega); have hel := hre.len; have heo := hre.one; refine sP (C2 (j := i) rfl rfl rfl (by omega)) rfl rfl ?_)
 refine sL (A9 rfl rfl (hat _) hl) rfl rfl ?_
 refine sE (B6 rfl) rfl (fun b340 => ?_)
 refine sS rfl rfl rfl hel heo rfl ?_ (hu := by exact I4 hel.symm)
 refine sD (nS ?_)
 refine I0 I1 rfl ?_
 refine A0M (i := 2) (l' := [ff,ff,tt,ff,ff,ff,ff,ff,ff,ff]) rfl F4 (A9 rfl rfl (C7 (by repeat first | exact mH | apply mT)) hel) rfl (by kernel_rfl) rfl rfl ?_
 refine aL 4 rfl (A9 rfl rfl (C7 (by repeat first | exact mH | apply mT)) hvl) rfl ?_
 refine aP 0 rfl (A3 rfl) rfl ?_
 refine aL 1 rfl (A5 rfl rfl) rfl ?_
 refine aP 3 rfl (qM rfl) rfl ?_
 refine A8 5 ?_
 (refine Q0 rfl rfl (ih ks[i] (List.getElem_mem (by omega)) Gi _ (Tm.smallL_mem hks _ (List.getElem_mem (by omega))) hre hv) rfl rfl rfl (fun u G1 hle1 hh => ?_); obtain ⟨uc, rfl, hru⟩ := hh; have hul := hru.len; have huo := hru.one; obtain ⟨v1, v2, v3, v4, v5, v6, v7, v8, v9, rfl⟩ := nine hul)
 refine A8 6 ?_
 (refine J9 rfl (D0 rfl rfl rfl (by omega) (by unfold maxLen; omega) rfl) rfl rfl ?_; rintro _ ⟨b353, rfl⟩)
 refine A8 7 ?_
 (refine S9 rfl rfl rfl rfl rfl rfl (fun _ _ => by repeat (first | exact Sw.here | apply Sw.there)) (K9 (by repeat first | exact mH | apply mT)) rfl (fun u hu => List.all_eq_true.1 huo u hu) (by unfold maxLen; omega) (by omega) rfl rfl (by repeat (first | exact B0.nil | apply B0.dep (by decide +kernel) | apply B0.im (by decide +kernel) (by assumption) (by repeat first | exact mH | apply mT) | apply B0.blk (by decide +kernel) (by repeat (first | exact Pk.here | apply Pk.there)) (by repeat first | exact mH | apply mT))) (fun p7 c7 => ?_))
 refine aP 8 rfl (A3 rfl) rfl ?_
 refine A8 9 ?_
 refine P3 rfl rfl rfl rfl rfl rfl rfl rfl (by decide +kernel) (by repeat first | exact Sw.here | apply Sw.there) (by rfl) ?_
 refine D6 (C8 (nS (tR ?_)))
 refine sP (H6 rfl rfl (by omega) (by omega)) rfl rfl ?_
 refine sQ (qM rfl) rfl (sD ?_)
 refine K3 (i + 1, p7, c7, es' ++ [[v1, v2, v3, v4, v5, v6, v7, v8, v9]], G1) ?_ ?_ ?_
 (simp only [E2]; exact C9)
 (dsimp only; exact ⟨by omega, hle.trans hle1, by rw [A6B (by omega)]; exact E3.snoc (hst.mono hle1) hru⟩)
 (show ks.length - (i + 1) < ks.length - i; omega)
 refine sD (nS (tS (cF rfl (M7 (M8 (N3 (M9 (nS (tS (tR (sL (A7 rfl rfl) rfl rfl (B9 ?_))))))))))))
 refine sD (nS ?_)
 (refine Q4 (cs := es'.flatten) (by repeat (first | exact Pk.here | apply Pk.there)) (fun G2 hle2 hsl2 hno2 => ?_); obtain rfl : i = ks.length := (by omega))
 refine tT ?_
 refine A6 (rC rfl (A7 rfl rfl)) ?_
 (rw [if_neg (by rintro ⟨h1, h2⟩; first | omega | contradiction), if_neg (by rintro ⟨h1, h2⟩; first | omega | contradiction)]; rw [List.take_of_length_le (by rw [A1Z]; omega)] at hst; exact TmP.mk (B1.put hk hnum hlb (hty.mono hle2) (hfr.mono hle2) (by rw [A1Z]) (C5.of hsl2 (by omega) hst.all (fun e he => (hst.each e he).2)) (hst.mono hle2)))
theorem A9l (k : Int) (p : Option Addr) (n c : Nat) (G : IM) : Fn Tryz.prog 153 [.int .i64 k, .slice p n c] [] G (H3 (.agg ⟨[.int .i64 k, .string ⟨⟨[]⟩⟩, .int .i64 0, .int .i64 0, .slice none 0 0, .int .i64 0, .slice none 0 0, .int .i64 0, .slice p n c]⟩) G) := by
 refine B7 Tryz.func153 rfl Tryz.ntmps153 Tryz.results153 rfl ?_
 intro w0
 refine tS (tR ?_)
 refine sE (B6 rfl) rfl (fun b3 => ?_)
 refine sD (nS (tS (tR (sQ (qM rfl) rfl (sQ (qM rfl) rfl (sQ (D9 rfl rfl) rfl (B9 ?_)))))))
 refine sD (nS (tT ?_))
 refine A6 (rC rfl (A7 rfl rfl)) ?_
 (exact ⟨rfl, rfl, rfl⟩)
theorem A9m (G : IM) {k : Int} (hk : C6 k) : B1 G (A0H k []) [.int .i64 k, .string ⟨⟨[]⟩⟩, .int .i64 0, .int .i64 0, .slice none 0 0, .int .i64 0, .slice none 0 0, .int .i64 0, .slice none 0 0] := A2z hk rfl (C5.nil _ _) rfl
theorem B33 (G : IM) : Fn Tryz.prog 254 [.bool true] [] G (TmP (A1x (true = true))) := by
 refine B7 Tryz.func254 rfl Tryz.ntmps254 Tryz.results254 rfl ?_
 intro w0
 refine tS (tR ?_)
 refine sE (B6 rfl) rfl (fun b3 => ?_)
 refine sD (nS (tS (tS (tR (sQ (qM rfl) rfl (sD (nS (qT rfl (tS (tR ?_))))))))))
 refine F0 rfl ((A9l _ _ _ _ _)) rfl rfl ?_
 refine B9 ?_
 refine sD (nS (tT (rS ?_)))
 refine A6 (rC rfl (A7 rfl rfl)) ?_
 (exact TmP.mk (A9m _ ⟨by decide, by decide⟩))
theorem B34 (G : IM) : Fn Tryz.prog 254 [.bool false] [] G (TmP (A1x (false = true))) := by
 refine B7 Tryz.func254 rfl Tryz.ntmps254 Tryz.results254 rfl ?_
 intro w0
 refine tS (tR ?_)
 refine sE (B6 rfl) rfl (fun b3 => ?_)
 refine sD (nS (tS (tS (tR (sQ (qM rfl) rfl (sD (nS (cF rfl (tK (nS (tS (tR ?_))))))))))))
 refine F0 rfl ((A9l _ _ _ _ _)) rfl rfl ?_
 refine B9 ?_
 refine sD (nS (tT ?_))
 refine A6 (rC rfl (A7 rfl rfl)) ?_
 (exact TmP.mk (A9m _ ⟨by decide, by decide⟩))
theorem A9n (b : Bool) (G : IM) : Fn Tryz.prog 254 [.bool b] [] G (TmP (A1x (b = true))) := by
 cases b
 ·exact B34 G
 ·exact B33 G
theorem B35 {a b : Int} (h : 0 ≤ a ∧ a ≤ 999) (h' : 0 ≤ b ∧ b ≤ 999) : (a + b).tmod 1000 = (a + b) % 1000 := by
 rw [Int.tmod_eq_emod_of_nonneg (by omega)]
def R7 (k : Int) (ks : List Tm) : Option Tm :=
 if k = 6 then (if (kd ks 0).k = 5 then some (W6 (kd ks 0).nm (kd ks 1) (kd (kd ks 0).ks 0)) else none)
 else if k = 7 ∨ k = 8 then (if (kd ks 0).k = 2 ∧ (kd ks 1).k = 2 then some (if k = 7 then A4H (((kd ks 0).num + (kd ks 1).num) % 1000) else A1x ((kd ks 0).num < (kd ks 1).num)) else none)
 else if k = 9 then (if (kd ks 0).k = 3 then some (kd ks 1) else if (kd ks 0).k = 4 then some (kd ks 2) else none)
 else if k = 11 ∨ k = 12 then (if (kd ks 0).k = 10 then some (kd (kd ks 0).ks (k - 11).toNat) else none)
 else none
def R0 (o : Option Tm) : IM → Value → List A4 → Prop := I9 fun G' v => ∃ u cells c, v = .tuple ⟨[.agg ⟨cells⟩, .int .i64 c]⟩ ∧ B1 G' u cells ∧ (∀ x, o = some x → c = 1 ∧ u = x) ∧ (o = none → c = 3)
theorem R0.yes {G : IM} {o : Option Tm} {u : Tm} {cells : List Value} (h : o = some u) (hr : B1 G u cells) : R0 o G (.tuple ⟨[.agg ⟨cells⟩, .int .i64 1]⟩) [] := by
 subst h; exact ⟨rfl, u, cells, 1, rfl, hr, fun x hx => (by cases hx; exact ⟨rfl, rfl⟩), fun h => (by cases h)⟩
theorem R0.no {G : IM} {o : Option Tm} {u : Tm} {cells : List Value} (h : o = none) (hr : B1 G u cells) : R0 o G (.tuple ⟨[.agg ⟨cells⟩, .int .i64 3]⟩) [] := by
 subst h; exact ⟨rfl, u, cells, 3, rfl, hr, fun x hx => (by cases hx), fun _ => rfl⟩
theorem Z1 (G : IM) : B1 G H7 [.int .i64 0, .string ⟨⟨[]⟩⟩, .int .i64 0, .int .i64 0, .slice none 0 0, .int .i64 0, .slice none 0 0, .int .i64 0, .slice none 0 0] := (N4.zero G).R
theorem B36 (a b : Tm) (nm : ByteArray) (num : Int) (ty fr : Ty) (lb : Int) (G : IM) (cells : List Value) (hca : cv a) (hr : B1 G (.mk 6 nm num ty fr lb [a, b]) cells) : Fn Tryz.prog 232 [.agg ⟨cells⟩] [] G (R0 (R7 6 [a, b])) := by
 have hsm := A4J a hca
 obtain ⟨ak, anm, anum, ⟨atk, atks⟩, ⟨afk, afks⟩, alb, aks⟩ := a
 obtain ⟨tk, tks⟩ := ty
 obtain ⟨fk, fks⟩ := fr
 obtain ⟨pt, ct, pf, cf, p, c, es, rfl, hk, hnum, hlb, hty, hfr, hsl, hkl⟩ := hr.open9
 obtain ⟨bx, ox, e0, rfl, hl0, hat0, hre0, hgb0⟩ := hsl.kidTm hkl (i := 0) (by simp) (by simp)
 replace hre0 : B1 G (.mk ak anm anum (.mk atk atks) (.mk afk afks) alb aks) e0 := hre0
 obtain ⟨apt, act, apf, acf, ap, ac, aes, rfl, hak, hanum, halb, haty, hafr, hasl, hakl⟩ := hre0.open9
 obtain ⟨_, _, e1, hp1, hl1, hat1, hre1, hgb1⟩ := hsl.kidTm hkl (i := 1) (by simp) (by simp)
 cases hp1
 replace hre1 : B1 G b e1 := hre1
 have ho1 := hre1.one
 obtain ⟨hN, _⟩ := hca.node
 have hops := hN.ops
 obtain ⟨_, _, _, _, hksm⟩ := A6q.1 hsm
 have h1 : ak = 5 → aks.length = 1 := fun h => by rw [h] at hops; have : E7 5 = 1 := rfl; omega
 have hL : ([Tm.mk ak anm anum (.mk atk atks) (.mk afk afks) alb aks, b] : List Tm).length = 2 := rfl
 rw [show R7 6 [Tm.mk ak anm anum (.mk atk atks) (.mk afk afks) alb aks, b] = (if ak = 5 then some (W6 anm b (kd aks 0)) else none) from rfl]
 refine B7 Tryz.func232 rfl Tryz.ntmps232 Tryz.results232 rfl ?_
 intro w0
 refine tS (tR ?_)
 refine sE (D5 rfl rfl) rfl (fun b3 => ?_)
 refine sE (B6 rfl) rfl (fun b4 => ?_)
 refine sQ (qA rfl) rfl (sD (nS (tS (tR (sQ (D9 rfl rfl) rfl ?_)))))
 refine sE (B6 rfl) rfl (fun b11 => ?_)
 refine B9 ?_
 refine sD (nS (tS (tS (tR (sQ (A3 rfl) rfl (sL (A5 rfl rfl) rfl rfl (sQ (D8 rfl rfl) rfl ?_)))))))
 refine sP (A2T rfl rfl (by omega)) rfl rfl ?_
 refine sD (nS (qT rfl (tR (sQ (A3 rfl) rfl (sL (A5 rfl rfl) rfl rfl ?_)))))
 refine sP (C2 (j := 0) rfl rfl rfl (by simp)) rfl rfl ?_
 refine sL (A9 rfl rfl (hat0 _) rfl) rfl rfl ?_
 refine B9 ?_
 refine sD (nS (tS (tS (tR (sQ (A3 rfl) rfl (sL (A5 rfl rfl) rfl rfl (sD (nS ?_))))))))
 refine B5 ?_
 refine tS (tR ?_)
 refine sP (W9 rfl rfl (by omega)) rfl rfl ?_
 refine sQ (qA rfl) rfl (sD (nS (qT rfl (tS (tR (sQ (A3 rfl) rfl (sL (A5 rfl rfl) rfl rfl ?_)))))))
 refine sB (qE rfl rfl) rfl rfl (fun h52 => ?_) (fun h52 => ?_)
 refine sD (nS (qT rfl (tS ?_)))
 (have hq : ak = 5 := (by omega); have hq1 := h1 hq; obtain ⟨bq, oq, e3, rfl, hl3, hat3, hre3, hgb3⟩ := hasl.kidTm hakl (i := 0) (by omega) (by omega); have hS := B32 anm b e1 aks[0] G e3 (Tm.smallL_mem hksm _ (List.getElem_mem (by omega))) hre3 hre1; refine I0 I1 rfl ?_)
 refine J2 (i := 0) (l' := [tt,ff,ff,ff,ff,ff,ff,ff,ff,ff,ff,ff,ff]) rfl F4 (A3 rfl) rfl (by kernel_rfl) rfl rfl ?_
 refine aL 1 rfl (A5 rfl rfl) rfl ?_
 refine aP 2 rfl (C2 (j := 0) rfl rfl rfl (by omega)) rfl ?_
 refine aL 3 rfl (A9 rfl rfl (hat3 _) hl3) rfl ?_
 refine aP 4 rfl (A3 rfl) rfl ?_
 refine aL 5 rfl (A5 rfl rfl) rfl ?_
 refine aP 6 rfl (A3 rfl) rfl ?_
 refine aL 7 rfl (A5 rfl rfl) rfl ?_
 refine aP 8 rfl (C2 (j := 1) rfl rfl rfl (by simp)) rfl ?_
 refine aL 9 rfl (A9 rfl rfl (hat1 _) hl1) rfl ?_
 refine A8 10 ?_
 (refine Q0 rfl rfl hS rfl rfl rfl (fun u G1 hle1 hh => ?_); obtain ⟨uc, rfl, hru⟩ := hh; have hul := hru.len; have huo := hru.one)
 refine A8 11 ?_
 (refine oS rfl rfl rfl rfl hul huo rfl rfl ?_ (hu := by exact I4 hul.symm))
 refine aP 12 rfl (qA rfl) rfl ?_
 refine D6 (nS (tT (rB (rS ?_))))
 refine H9 (rC rfl (A9 rfl rfl (C7 (by repeat first | exact mH | apply mT)) hul)) (rT rfl) ?_
 (exact R0.yes (by rw [if_pos (by omega)]; unfold kd; rw [List.getD_eq_getElem?_getD, List.getElem?_eq_getElem (by omega), Option.getD_some]) hru)
 refine sD (nS (cF rfl (tK (C8 (nS (tS (tR (sQ (D9 rfl rfl) rfl (B9 ?_)))))))))
 refine sQ (qA rfl) rfl (sD (nS (tT ?_)))
 refine H9 (rC rfl (A7 rfl rfl)) (rT rfl) ?_
 (exact R0.no (by rw [if_neg (by omega)]) (Z1 _))
theorem A9o (k : Int) (a b : Tm) (nm : ByteArray) (num : Int) (ty fr : Ty) (lb : Int) (G : IM) (cells : List Value) (hk78 : k = 7 ∨ k = 8) (hca : cv a) (hcb : cv b) (hr : B1 G (.mk k nm num ty fr lb [a, b]) cells) : Fn Tryz.prog 232 [.agg ⟨cells⟩] [] G (R0 (R7 k [a, b])) := by
 obtain ⟨ak, anm, anum, ⟨atk, atks⟩, ⟨afk, afks⟩, alb, aks⟩ := a
 obtain ⟨tk, tks⟩ := ty
 obtain ⟨fk, fks⟩ := fr
 obtain ⟨pt, ct, pf, cf, p, c, es, rfl, hk, hnum, hlb, hty, hfr, hsl, hkl⟩ := hr.open9
 obtain ⟨bx, ox, e0, rfl, hl0, hat0, hre0, hgb0⟩ := hsl.kidTm hkl (i := 0) (by simp) (by simp)
 replace hre0 : B1 G (.mk ak anm anum (.mk atk atks) (.mk afk afks) alb aks) e0 := hre0
 obtain ⟨apt, act, apf, acf, ap, ac, aes, rfl, hak, hanum, halb, haty, hafr, hasl, hakl⟩ := hre0.open9
 obtain ⟨bk, bnm, bnum, ⟨btk, btks⟩, ⟨bfk, bfks⟩, blb, bks⟩ := b
 obtain ⟨_, _, e1, hp1, hl1, hat1, hre1, hgb1⟩ := hsl.kidTm hkl (i := 1) (by simp) (by simp)
 cases hp1
 replace hre1 : B1 G (.mk bk bnm bnum (.mk btk btks) (.mk bfk bfks) blb bks) e1 := hre1
 obtain ⟨bpt, bct, bpf, bcf, bp, bc, bes, rfl, hbk, hbnum, hblb, hbty, hbfr, hbsl, hbkl⟩ := hre1.open9
 obtain ⟨hN, _⟩ := hca.node
 obtain ⟨hM, _⟩ := hcb.node
 obtain ⟨hn1, hn2⟩ := hN.num0
 obtain ⟨hm1, hm2⟩ := hM.num0
 have hL : ([Tm.mk ak anm anum (.mk atk atks) (.mk afk afks) alb aks, Tm.mk bk bnm bnum (.mk btk btks) (.mk bfk bfks) blb bks] : List Tm).length = 2 := rfl
 have hR : R7 k [Tm.mk ak anm anum (.mk atk atks) (.mk afk afks) alb aks, Tm.mk bk bnm bnum (.mk btk btks) (.mk bfk bfks) blb bks] = (if ak = 2 ∧ bk = 2 then some (if k = 7 then A4H ((anum + bnum) % 1000) else A1x (anum < bnum)) else none) := by
  unfold R7; rw [if_neg (by omega), if_pos hk78]; rfl
 rw [hR]
 have htm : (anum + bnum).tmod 1000 = (anum + bnum) % 1000 := B35 ⟨hn1, hn2⟩ ⟨hm1, hm2⟩
 have hb : C6 ((anum + bnum) % 1000) := ⟨by omega, by omega⟩
 refine B7 Tryz.func232 rfl Tryz.ntmps232 Tryz.results232 rfl ?_
 intro w0
 refine tS (tR ?_)
 refine sE (D5 rfl rfl) rfl (fun b3 => ?_)
 refine sE (B6 rfl) rfl (fun b4 => ?_)
 refine sQ (qA rfl) rfl (sD (nS (tS (tR (sQ (D9 rfl rfl) rfl ?_)))))
 refine sE (B6 rfl) rfl (fun b11 => ?_)
 refine B9 ?_
 refine sD (nS (tS (tS (tR (sQ (A3 rfl) rfl (sL (A5 rfl rfl) rfl rfl (sQ (D8 rfl rfl) rfl ?_)))))))
 refine sP (A2T rfl rfl (by omega)) rfl rfl ?_
 refine sD (nS (qT rfl (tR (sQ (A3 rfl) rfl (sL (A5 rfl rfl) rfl rfl ?_)))))
 refine sP (C2 (j := 0) rfl rfl rfl (by simp)) rfl rfl ?_
 refine sL (A9 rfl rfl (hat0 _) rfl) rfl rfl ?_
 refine B9 ?_
 refine sD (nS (tS (tS (tR (sQ (A3 rfl) rfl (sL (A5 rfl rfl) rfl rfl (sD (nS ?_))))))))
 refine B5 ?_
 refine tS (tR ?_)
 refine sP (E9 rfl rfl (by omega)) rfl rfl ?_
 refine sQ (qA rfl) rfl (sD (nS (cF rfl (tS (tS (tR ?_))))))
 refine sB (qE rfl rfl) rfl rfl (fun h51 => ?_) (fun h51 => ?_)
 refine sQ (qA rfl) rfl (sD (nS (qT rfl (tK (nS (qT rfl (tS (tR (sQ (A3 rfl) rfl (sL (A5 rfl rfl) rfl rfl ?_))))))))))
 refine sP (C2 (j := 1) rfl rfl rfl (by simp)) rfl rfl ?_
 refine sL (A9 rfl rfl (hat1 _) rfl) rfl rfl ?_
 refine sE (B6 rfl) rfl (fun b65 => ?_)
 refine B9 ?_
 refine sD (nS ?_)
 refine B5 ?_
 refine tS (tR (sQ (A3 rfl) rfl (sL (A5 rfl rfl) rfl rfl ?_)))
 refine sB (P9 rfl rfl) rfl rfl (fun h74 => ?_) (fun h74 => ?_)
 refine A08 ?_
 refine H9 (rC rfl (A7 rfl rfl)) (rT rfl) ?_
 (exact R0.no (by rw [if_neg (by omega)]) (Z1 _))
 refine sQ (qM rfl) rfl (sQ (A3 rfl) rfl (sL (A5 rfl rfl) rfl rfl ?_))
 refine sB (P9 rfl rfl) rfl rfl (fun h101 => ?_) (fun h101 => ?_)
 refine R6 ?_
 refine H9 (rC rfl (A7 rfl rfl)) (rT rfl) ?_
 (exact R0.no (by rw [if_neg (by omega)]) (Z1 _))
 refine sQ (D7 rfl rfl) rfl (sQ (qA rfl) rfl (sD (nS (cF rfl (tS (tR (sQ (A3 rfl) rfl (sL (A5 rfl rfl) rfl rfl ?_))))))))
 refine sP (W9 rfl rfl (by omega)) rfl rfl ?_
 refine A05 ?_
 refine sP (H6 rfl rfl (by omega) (by omega)) rfl rfl ?_
 refine sP (A3p rfl rfl (by omega)) rfl rfl ?_
 refine sQ (D9 rfl rfl) rfl ?_
 (rw [htm]; refine B9 ?_)
 refine sQ (qA rfl) rfl (sD (nS (tT (rB (rB (rS ?_))))))
 refine H9 (rC rfl (A7 rfl rfl)) (rT rfl) ?_
 (exact R0.yes (u := A4H (HMod.hMod (anum + bnum) 1000)) (by rw [if_pos ⟨by omega, by omega⟩, if_pos (by omega)]) (B1.put (us := []) ⟨by decide, by decide⟩ hb ⟨by decide, by decide⟩ (A2b _) (A2b _) rfl (C5.nil _ _) rfl))
 refine sQ (qA rfl) rfl (sD (nS (cF rfl (tR ?_))))
 refine sP (W9 rfl rfl (by omega)) rfl rfl ?_
 refine sQ (qA rfl) rfl (sD (nS (qT rfl (tS (tR (sQ (A3 rfl) rfl (sL (A5 rfl rfl) rfl rfl ?_)))))))
 refine sP (C2 (j := 1) rfl rfl rfl (by simp)) rfl rfl ?_
 refine sL (A9 rfl rfl (hat1 _) rfl) rfl rfl ?_
 refine sE (B6 rfl) rfl (fun b170 => ?_)
 refine B9 ?_
 refine sD (nS ?_)
 refine B5 ?_
 refine tS (tR (sQ (A3 rfl) rfl (sL (A5 rfl rfl) rfl rfl ?_)))
 refine sB (P9 rfl rfl) rfl rfl (fun h179 => ?_) (fun h179 => ?_)
 refine A08 ?_
 refine H9 (rC rfl (A7 rfl rfl)) (rT rfl) ?_
 (exact R0.no (by rw [if_neg (by omega)]) (Z1 _))
 refine sQ (qM rfl) rfl (sQ (A3 rfl) rfl (sL (A5 rfl rfl) rfl rfl ?_))
 refine sB (P9 rfl rfl) rfl rfl (fun h206 => ?_) (fun h206 => ?_)
 refine R6 ?_
 refine H9 (rC rfl (A7 rfl rfl)) (rT rfl) ?_
 (exact R0.no (by rw [if_neg (by omega)]) (Z1 _))
 refine sQ (D7 rfl rfl) rfl (sQ (qA rfl) rfl (sD (nS (cF rfl (tS (tR (sQ (A3 rfl) rfl (sL (A5 rfl rfl) rfl rfl ?_))))))))
 refine sP (E9 rfl rfl (by omega)) rfl rfl ?_
 refine A05 ?_
 (refine sB (J3 rfl rfl) rfl rfl (fun h246 => ?_) (fun h246 => ?_))
 (refine I5 rfl (A9n _ _) rfl rfl (fun u G1 hle1 hh => ?_); obtain ⟨uc, rfl, hru⟩ := hh; have hul := hru.len; have huo := hru.one)
 refine sS rfl rfl rfl hul huo rfl ?_ (hu := by exact I4 hul.symm)
 refine sQ (qA rfl) rfl (sD (nS (tT (rB (rB (rS ?_))))))
 refine H9 (rC rfl (A9 rfl rfl (C7 (by repeat first | exact mH | apply mT)) hul)) (rT rfl) ?_
 (exact R0.yes (by rw [if_pos ⟨by omega, by omega⟩, if_neg (by omega)]; unfold A1x; rw [if_pos (by omega), if_pos rfl]) hru)
 (refine I5 rfl (A9n _ _) rfl rfl (fun u G1 hle1 hh => ?_); obtain ⟨uc, rfl, hru⟩ := hh; have hul := hru.len; have huo := hru.one)
 refine sS rfl rfl rfl hul huo rfl ?_ (hu := by exact I4 hul.symm)
 refine sQ (qA rfl) rfl (sD (nS (tT (rB (rB (rS ?_))))))
 refine H9 (rC rfl (A9 rfl rfl (C7 (by repeat first | exact mH | apply mT)) hul)) (rT rfl) ?_
 (exact R0.yes (by rw [if_pos ⟨by omega, by omega⟩, if_neg (by omega)]; unfold A1x; rw [if_neg (by omega), if_neg (by decide)]) hru)
theorem B37 (a b c0 : Tm) (nm : ByteArray) (num : Int) (ty fr : Ty) (lb : Int) (G : IM) (cells : List Value) (hr : B1 G (.mk 9 nm num ty fr lb [a, b, c0]) cells) : Fn Tryz.prog 232 [.agg ⟨cells⟩] [] G (R0 (R7 9 [a, b, c0])) := by
 obtain ⟨ak, anm, anum, ⟨atk, atks⟩, ⟨afk, afks⟩, alb, aks⟩ := a
 obtain ⟨tk, tks⟩ := ty
 obtain ⟨fk, fks⟩ := fr
 obtain ⟨pt, ct, pf, cf, p, c, es, rfl, hk, hnum, hlb, hty, hfr, hsl, hkl⟩ := hr.open9
 obtain ⟨bx, ox, e0, rfl, hl0, hat0, hre0, hgb0⟩ := hsl.kidTm hkl (i := 0) (by simp) (by simp)
 replace hre0 : B1 G (.mk ak anm anum (.mk atk atks) (.mk afk afks) alb aks) e0 := hre0
 obtain ⟨apt, act, apf, acf, ap, ac, aes, rfl, hak, hanum, halb, haty, hafr, hasl, hakl⟩ := hre0.open9
 obtain ⟨_, _, e1, hp1, hl1, hat1, hre1, hgb1⟩ := hsl.kidTm hkl (i := 1) (by simp) (by simp)
 cases hp1
 replace hre1 : B1 G b e1 := hre1
 have ho1 := hre1.one
 obtain ⟨_, _, e2, hp2, hl2, hat2, hre2, hgb2⟩ := hsl.kidTm hkl (i := 2) (by simp) (by simp)
 cases hp2
 replace hre2 : B1 G c0 e2 := hre2
 have ho2 := hre2.one
 have hL : ([Tm.mk ak anm anum (.mk atk atks) (.mk afk afks) alb aks, b, c0] : List Tm).length = 3 := rfl
 rw [show R7 9 [Tm.mk ak anm anum (.mk atk atks) (.mk afk afks) alb aks, b, c0] = (if ak = 3 then some b else if ak = 4 then some c0 else none) from rfl]
 refine B7 Tryz.func232 rfl Tryz.ntmps232 Tryz.results232 rfl ?_
 intro w0
 refine tS (tR ?_)
 refine sE (D5 rfl rfl) rfl (fun b3 => ?_)
 refine sE (B6 rfl) rfl (fun b4 => ?_)
 refine sQ (qA rfl) rfl (sD (nS (tS (tR (sQ (D9 rfl rfl) rfl ?_)))))
 refine sE (B6 rfl) rfl (fun b11 => ?_)
 refine B9 ?_
 refine sD (nS (tS (tS (tR (sQ (A3 rfl) rfl (sL (A5 rfl rfl) rfl rfl (sQ (D8 rfl rfl) rfl ?_)))))))
 refine sP (A2T rfl rfl (by omega)) rfl rfl ?_
 refine sD (nS (qT rfl (tR (sQ (A3 rfl) rfl (sL (A5 rfl rfl) rfl rfl ?_)))))
 refine sP (C2 (j := 0) rfl rfl rfl (by simp)) rfl rfl ?_
 refine sL (A9 rfl rfl (hat0 _) rfl) rfl rfl ?_
 refine B9 ?_
 refine sD (nS (tS (tS (tR (sQ (A3 rfl) rfl (sL (A5 rfl rfl) rfl rfl (sD (nS ?_))))))))
 refine B5 ?_
 refine tS (tR ?_)
 refine sP (E9 rfl rfl (by omega)) rfl rfl ?_
 refine sQ (qA rfl) rfl (sD (nS (cF rfl (tS (tS (tR ?_))))))
 refine sP (E9 rfl rfl (by omega)) rfl rfl ?_
 refine sQ (qA rfl) rfl (sD (nS (cF rfl (tR ?_))))
 refine sP (E9 rfl rfl (by omega)) rfl rfl ?_
 refine sQ (qA rfl) rfl (sD (nS (cF rfl (tS (tR ?_)))))
 refine sP (W9 rfl rfl (by omega)) rfl rfl ?_
 refine sQ (qA rfl) rfl (sD (nS (qT rfl (tS (tR (sQ (A3 rfl) rfl (sL (A5 rfl rfl) rfl rfl (sD (nS ?_)))))))))
 refine B5 (tS (tR (sB (qE rfl rfl) rfl rfl (fun h78 => ?_) (fun h78 => ?_))))
 refine sQ (qA rfl) rfl (sD (nS (qT rfl (tS (tR (sQ (A3 rfl) rfl (sL (A5 rfl rfl) rfl rfl ?_)))))))
 refine sP (C2 (j := 1) rfl rfl rfl (by simp)) rfl rfl ?_
 refine sL (A9 rfl rfl (hat1 _) hl1) rfl rfl ?_
 refine sS rfl rfl rfl hl1 ho1 rfl ?_ (hu := by exact I4 hl1.symm)
 refine sQ (qA rfl) rfl (sD (nS (tT (rB (rB (rS ?_))))))
 refine H9 (rC rfl (A9 rfl rfl (C7 (by repeat first | exact mH | apply mT)) hl1)) (rT rfl) ?_
 (exact R0.yes (by rw [if_pos (by omega)]) hre1)
 refine sQ (qA rfl) rfl (sD (nS (cF rfl (tS (tR ?_)))))
 refine sB (qE rfl rfl) rfl rfl (fun h105 => ?_) (fun h105 => ?_)
 refine sQ (qA rfl) rfl (sD (nS (qT rfl (tS (tR (sQ (A3 rfl) rfl (sL (A5 rfl rfl) rfl rfl ?_)))))))
 refine sP (C2 (j := 2) rfl rfl rfl (by simp)) rfl rfl ?_
 refine sL (A9 rfl rfl (hat2 _) hl2) rfl rfl ?_
 refine sS rfl rfl rfl hl2 ho2 rfl ?_ (hu := by exact I4 hl2.symm)
 refine sQ (qA rfl) rfl (sD (nS (tT (rB (rB (rS ?_))))))
 refine H9 (rC rfl (A9 rfl rfl (C7 (by repeat first | exact mH | apply mT)) hl2)) (rT rfl) ?_
 (exact R0.yes (by rw [if_neg (by omega), if_pos (by omega)]) hre2)
 refine Q9 ?_
 refine H9 (rC rfl (A7 rfl rfl)) (rT rfl) ?_
 (exact R0.no (by rw [if_neg (by omega), if_neg (by omega)]) (Z1 _))
theorem A9p (k : Int) (a : Tm) (nm : ByteArray) (num : Int) (ty fr : Ty) (lb : Int) (G : IM) (cells : List Value) (hk1 : k = 11 ∨ k = 12) (hca : cv a) (hr : B1 G (.mk k nm num ty fr lb [a]) cells) : Fn Tryz.prog 232 [.agg ⟨cells⟩] [] G (R0 (R7 k [a])) := by
 obtain ⟨ak, anm, anum, ⟨atk, atks⟩, ⟨afk, afks⟩, alb, aks⟩ := a
 obtain ⟨tk, tks⟩ := ty
 obtain ⟨fk, fks⟩ := fr
 obtain ⟨pt, ct, pf, cf, p, c, es, rfl, hk, hnum, hlb, hty, hfr, hsl, hkl⟩ := hr.open9
 obtain ⟨bx, ox, e0, rfl, hl0, hat0, hre0, hgb0⟩ := hsl.kidTm hkl (i := 0) (by simp) (by simp)
 replace hre0 : B1 G (.mk ak anm anum (.mk atk atks) (.mk afk afks) alb aks) e0 := hre0
 obtain ⟨apt, act, apf, acf, ap, ac, aes, rfl, hak, hanum, halb, haty, hafr, hasl, hakl⟩ := hre0.open9
 obtain ⟨hN, _⟩ := hca.node
 have hops := hN.ops
 have h2 : ak = 10 → aks.length = 2 := fun h => by rw [h] at hops; have : E7 10 = 2 := rfl; omega
 have hL : ([Tm.mk ak anm anum (.mk atk atks) (.mk afk afks) alb aks] : List Tm).length = 1 := rfl
 have hR : R7 k [Tm.mk ak anm anum (.mk atk atks) (.mk afk afks) alb aks] = (if ak = 10 then some (kd aks (k - 11).toNat) else none) := by
  unfold R7; rw [if_neg (by omega), if_neg (by omega), if_neg (by omega), if_pos hk1]; rfl
 rw [hR]
 obtain ⟨i, hi⟩ : ∃ i : Nat, (k - 11).toNat = i := ⟨_, rfl⟩
 rw [hi]
 refine B7 Tryz.func232 rfl Tryz.ntmps232 Tryz.results232 rfl ?_
 intro w0
 refine tS (tR ?_)
 refine sE (D5 rfl rfl) rfl (fun b3 => ?_)
 refine sE (B6 rfl) rfl (fun b4 => ?_)
 refine sQ (qA rfl) rfl (sD (nS (tS (tR (sQ (D9 rfl rfl) rfl ?_)))))
 refine sE (B6 rfl) rfl (fun b11 => ?_)
 refine B9 ?_
 refine sD (nS (tS (tS (tR (sQ (A3 rfl) rfl (sL (A5 rfl rfl) rfl rfl (sQ (D8 rfl rfl) rfl ?_)))))))
 refine sP (A2T rfl rfl (by omega)) rfl rfl ?_
 refine sD (nS (qT rfl (tR (sQ (A3 rfl) rfl (sL (A5 rfl rfl) rfl rfl ?_)))))
 refine sP (C2 (j := 0) rfl rfl rfl (by simp)) rfl rfl ?_
 refine sL (A9 rfl rfl (hat0 _) rfl) rfl rfl ?_
 refine B9 ?_
 refine sD (nS (tS (tS (tR (sQ (A3 rfl) rfl (sL (A5 rfl rfl) rfl rfl (sD (nS ?_))))))))
 refine B5 ?_
 refine tS (tR ?_)
 refine sP (E9 rfl rfl (by omega)) rfl rfl ?_
 refine sQ (qA rfl) rfl (sD (nS (cF rfl (tS (tS (tR ?_))))))
 refine sP (E9 rfl rfl (by omega)) rfl rfl ?_
 refine sQ (qA rfl) rfl (sD (nS (cF rfl (tR ?_))))
 refine sP (E9 rfl rfl (by omega)) rfl rfl ?_
 refine sQ (qA rfl) rfl (sD (nS (cF rfl (tS (tR ?_)))))
 refine sP (E9 rfl rfl (by omega)) rfl rfl ?_
 refine sQ (qA rfl) rfl (sD (nS (cF rfl (tS (tS (tR ?_))))))
 refine sB (qE rfl rfl) rfl rfl (fun h72 => ?_) (fun h72 => ?_)
 refine sQ (qA rfl) rfl (sD (nS (qT rfl (tK (nS (qT rfl (tS (tR (sQ (A3 rfl) rfl (sL (A5 rfl rfl) rfl rfl ?_))))))))))
 refine sB (qE rfl rfl) rfl rfl (fun h84 => ?_) (fun h84 => ?_)
 refine sD (nS (qT rfl (tS ?_)))
 (have hq : ak = 10 := (by omega); have hq1 := h2 hq; obtain ⟨bq, oq, e3, rfl, hl3, hat3, hre3, hgb3⟩ := hasl.kidTm hakl (i := i) (by omega) (by omega); have ho3 := hre3.one)
 refine tR (sQ (A3 rfl) rfl (sL (A5 rfl rfl) rfl rfl (sQ (A3 rfl) rfl (sL (A5 rfl rfl) rfl rfl ?_))))
 refine sP (L7 rfl rfl (by omega) (by omega)) rfl rfl ?_
 (rw [show (k - 11 : Int) = ((i : Nat) : Int) from (by omega)]; refine sP (C2 (j := i) rfl rfl rfl (by omega)) rfl rfl ?_)
 refine sL (A9 rfl rfl (hat3 _) hl3) rfl rfl ?_
 refine sS rfl rfl rfl hl3 ho3 rfl ?_ (hu := by exact I4 hl3.symm)
 refine sQ (qA rfl) rfl (sD (nS (tT (rB (rS ?_)))))
 refine H9 (rC rfl (A9 rfl rfl (C7 (by repeat first | exact mH | apply mT)) hl3)) (rT rfl) ?_
 (exact R0.yes (by rw [if_pos (by omega)]; unfold kd; rw [List.getD_eq_getElem?_getD, List.getElem?_eq_getElem (by omega), Option.getD_some]) hre3)
 refine sD (nS (cF rfl (tK (C8 (nS (tS (tR (sQ (D9 rfl rfl) rfl (B9 ?_)))))))))
 refine sQ (qA rfl) rfl (sD (nS (tT ?_)))
 refine H9 (rC rfl (A7 rfl rfl)) (rT rfl) ?_
 (exact R0.no (by rw [if_neg (by omega)]) (Z1 _))
 refine sQ (qA rfl) rfl (sD (nS (cF rfl (tR ?_))))
 refine sP (W9 rfl rfl (by omega)) rfl rfl ?_
 refine sQ (qA rfl) rfl (sD (nS (qT rfl (tS (tR (sQ (A3 rfl) rfl (sL (A5 rfl rfl) rfl rfl ?_)))))))
 refine sB (qE rfl rfl) rfl rfl (fun h137 => ?_) (fun h137 => ?_)
 refine sD (nS (qT rfl (tS ?_)))
 (have hq : ak = 10 := (by omega); have hq1 := h2 hq; obtain ⟨bq, oq, e3, rfl, hl3, hat3, hre3, hgb3⟩ := hasl.kidTm hakl (i := i) (by omega) (by omega); have ho3 := hre3.one)
 refine tR (sQ (A3 rfl) rfl (sL (A5 rfl rfl) rfl rfl (sQ (A3 rfl) rfl (sL (A5 rfl rfl) rfl rfl ?_))))
 refine sP (L7 rfl rfl (by omega) (by omega)) rfl rfl ?_
 (rw [show (k - 11 : Int) = ((i : Nat) : Int) from (by omega)]; refine sP (C2 (j := i) rfl rfl rfl (by omega)) rfl rfl ?_)
 refine sL (A9 rfl rfl (hat3 _) hl3) rfl rfl ?_
 refine sS rfl rfl rfl hl3 ho3 rfl ?_ (hu := by exact I4 hl3.symm)
 refine sQ (qA rfl) rfl (sD (nS (tT (rB (rS ?_)))))
 refine H9 (rC rfl (A9 rfl rfl (C7 (by repeat first | exact mH | apply mT)) hl3)) (rT rfl) ?_
 (exact R0.yes (by rw [if_pos (by omega)]; unfold kd; rw [List.getD_eq_getElem?_getD, List.getElem?_eq_getElem (by omega), Option.getD_some]) hre3)
 refine sD (nS (cF rfl (tK (C8 (nS (tS (tR (sQ (D9 rfl rfl) rfl (B9 ?_)))))))))
 refine sQ (qA rfl) rfl (sD (nS (tT ?_)))
 refine H9 (rC rfl (A7 rfl rfl)) (rT rfl) ?_
 (exact R0.no (by rw [if_neg (by omega)]) (Z1 _))
section
variable {P : Program} {Γ : J1} {K : Po} {ops : Array Oper} {env : J5} {hp : List A4} {G : IM}
theorem A9q {H : List (Nat × Nat)} {fuel j : Nat} {listed : List Bool} {hp' : List A4} {p : Option Addr} {c el sz n : Nat} {cs : List Value} (hk : Pk hp (.slc p c el sz n cs) hp')
  (h : ∀ G', B4 G G' → Sl G' p n c sz cs → (∀ b ∈ H5 p, G b = none ∧ G' b ≠ none) → T5 P Γ ops K H fuel listed j ⟨env, hp', G'⟩) : T5 P Γ ops K H fuel listed j ⟨env, hp, G⟩ :=
 ⟨fun a w hs => let ⟨G', h1, h2, h3, h4⟩ := hs.freeze hk; (h G' h2 h3 h4).run a w h1⟩
end
def B7e (k : Int) (ty fr : Ty) (lb : Int) (ks : List Tm) : Z0 :=
 if k = 6 then
  (if W5 (kd ks 0) = true ∧ (kd ks 0).ty.k = 4 then (V9 (A0H 6 [kd (kd ks 0).ks 0, V9 (kd ks 1) (kt (kd ks 0).ty.ks 0) (kt (kd ks 0).fr.ks 0) (-(kd ks 0).lb)]) (kt (kd ks 0).fr.ks 1) (kt (kd ks 0).ty.ks 1) (kd ks 0).lb, 1, 0) else A0I)
 else if k = 11 ∨ k = 12 then
  (if W5 (kd ks 0) = true ∧ (kd ks 0).ty.k = 5 then (V9 (A0H k [kd (kd ks 0).ks 0]) (kt (kd ks 0).fr.ks (k - 11).toNat) (kt (kd ks 0).ty.ks (k - 11).toNat) (kd ks 0).lb, 1, 0) else A0I)
 else if k = 14 then
  (if fr.k = ty.k then (kd ks 0, 1, 0)
   else if ty.k = 1 then (V9 (V9 (kd ks 0) fr (A1w fr) lb) (A1w fr) ty lb, 1, 0)
   else if A0U ty = false then (V9 (V9 (kd ks 0) fr (A1w ty) lb) (A1w ty) ty lb, 1, 0)
   else if inj (kd ks 0) = false then A0I
   else if (kd ks 0).fr.k = ty.k then (kd (kd ks 0).ks 0, 1, 0)
   else (H7, 2, lb))
 else A0I
def A28 (r : Z0) : IM → Value → List A4 → Prop := I9 fun G' v => ∃ u cells, v = .tuple ⟨[.agg ⟨cells⟩, .int .i64 r.2.1, .int .i64 r.2.2]⟩ ∧ B1 G' u cells ∧ (r.2.1 = 1 → u = r.1)
theorem A28.mk {G : IM} {r : Z0} {u : Tm} {cells : List Value} {c l : Int} (h : r = (u, c, l)) (hr : B1 G u cells) : A28 r G (.tuple ⟨[.agg ⟨cells⟩, .int .i64 c, .int .i64 l]⟩) [] := by
 subst h; exact ⟨rfl, u, cells, rfl, hr, fun _ => rfl⟩
theorem B38 (nm : ByteArray) (num : Int) (ty fr : Ty) (lb : Int) (G : IM) (cells : List Value) (hr : B1 G (.mk 1 nm num ty fr lb []) cells) : Fn Tryz.prog 232 [.agg ⟨cells⟩] [] G (R0 (R7 1 [])) := by
 rw [show R7 1 [] = none from rfl]
 obtain ⟨tk, tks⟩ := ty
 obtain ⟨fk, fks⟩ := fr
 obtain ⟨pt, ct, pf, cf, p, c, es, rfl, hk, hnum, hlb, hty, hfr, hsl, hkl⟩ := hr.open9
 have hL : ([] : List Tm).length = 0 := rfl
 refine B7 Tryz.func232 rfl Tryz.ntmps232 Tryz.results232 rfl ?_
 intro w0
 refine tS (tR ?_)
 refine sE (D5 rfl rfl) rfl (fun b3 => ?_)
 refine sE (B6 rfl) rfl (fun b4 => ?_)
 refine sQ (qA rfl) rfl (sD (nS (tS (tR (sQ (D9 rfl rfl) rfl ?_)))))
 refine sE (B6 rfl) rfl (fun b11 => ?_)
 refine B9 ?_
 refine sD (nS (tS (tS (tR (sQ (A3 rfl) rfl (sL (A5 rfl rfl) rfl rfl (sQ (D8 rfl rfl) rfl ?_)))))))
 refine sP (B1z rfl rfl (by omega)) rfl rfl ?_
 refine sD (nS (cF rfl (tK (nS (tS (tS (tR (sQ (A3 rfl) rfl (sL (A5 rfl rfl) rfl rfl (sD (nS ?_)))))))))))
 refine B5 ?_
 refine tS (tR ?_)
 refine sP (E9 rfl rfl (by omega)) rfl rfl ?_
 refine sQ (qA rfl) rfl (sD (nS (cF rfl (tS (tS (tR ?_))))))
 refine sP (E9 rfl rfl (by omega)) rfl rfl ?_
 refine sQ (qA rfl) rfl (sD (nS (cF rfl (tR ?_))))
 refine sP (E9 rfl rfl (by omega)) rfl rfl ?_
 refine sQ (qA rfl) rfl (sD (nS (cF rfl (tS (tR ?_)))))
 refine sP (E9 rfl rfl (by omega)) rfl rfl ?_
 refine sQ (qA rfl) rfl (sD (nS (cF rfl (tS (tS (tR ?_))))))
 refine sP (E9 rfl rfl (by omega)) rfl rfl ?_
 refine sQ (qA rfl) rfl (sD (nS (cF rfl (tR ?_))))
 refine sP (E9 rfl rfl (by omega)) rfl rfl ?_
 refine N5 ?_
 refine H9 (rC rfl (A7 rfl rfl)) (rT rfl) ?_
 (exact R0.no rfl (Z1 _))
theorem B39 (a : Tm) (nm : ByteArray) (num : Int) (ty fr : Ty) (lb : Int) (G : IM) (cells : List Value) (hr : B1 G (.mk 14 nm num ty fr lb [a]) cells) : Fn Tryz.prog 232 [.agg ⟨cells⟩] [] G (R0 (R7 14 [a])) := by
 rw [show R7 14 [a] = none from rfl]
 obtain ⟨tk, tks⟩ := ty
 obtain ⟨fk, fks⟩ := fr
 obtain ⟨pt, ct, pf, cf, p, c, es, rfl, hk, hnum, hlb, hty, hfr, hsl, hkl⟩ := hr.open9
 obtain ⟨bx, ox, e0, rfl, hl0, hat0, hre0, hgb0⟩ := hsl.kidTm hkl (i := 0) (by simp) (by simp)
 have ho0 : e0.all (·.oneCell') = true := (show B1 G a e0 from hre0).one
 refine B7 Tryz.func232 rfl Tryz.ntmps232 Tryz.results232 rfl ?_
 intro w0
 refine tS (tR ?_)
 refine sE (D5 rfl rfl) rfl (fun b3 => ?_)
 refine sE (B6 rfl) rfl (fun b4 => ?_)
 refine sQ (qA rfl) rfl (sD (nS (tS (tR (sQ (D9 rfl rfl) rfl ?_)))))
 refine sE (B6 rfl) rfl (fun b11 => ?_)
 refine B9 ?_
 refine sD (nS (tS (tS (tR (sQ (A3 rfl) rfl (sL (A5 rfl rfl) rfl rfl (sQ (D8 rfl rfl) rfl ?_)))))))
 refine sB (Y7 rfl rfl) rfl rfl (fun h21 => ?_) (fun h21 => ?_)
 refine sD (nS (qT rfl (tR (sQ (A3 rfl) rfl (sL (A5 rfl rfl) rfl rfl ?_)))))
 refine sP (C2 (j := 0) rfl rfl rfl (by simp)) rfl rfl ?_
 refine sL (A9 rfl rfl (hat0 _) hl0) rfl rfl ?_
 refine sS rfl rfl rfl hl0 ho0 rfl ?_ (hu := by exact I4 hl0.symm)
 refine sD (nS (tS (tS (tR (sQ (A3 rfl) rfl (sL (A5 rfl rfl) rfl rfl (sD (nS ?_))))))))
 refine B5 ?_
 refine tS (tR ?_)
 refine sP (E9 rfl rfl (by omega)) rfl rfl ?_
 refine sQ (qA rfl) rfl (sD (nS (cF rfl (tS (tS (tR ?_))))))
 refine sP (E9 rfl rfl (by omega)) rfl rfl ?_
 refine sQ (qA rfl) rfl (sD (nS (cF rfl (tR ?_))))
 refine sP (E9 rfl rfl (by omega)) rfl rfl ?_
 refine sQ (qA rfl) rfl (sD (nS (cF rfl (tS (tR ?_)))))
 refine sP (E9 rfl rfl (by omega)) rfl rfl ?_
 refine sQ (qA rfl) rfl (sD (nS (cF rfl (tS (tS (tR ?_))))))
 refine sP (E9 rfl rfl (by omega)) rfl rfl ?_
 refine sQ (qA rfl) rfl (sD (nS (cF rfl (tR ?_))))
 refine sP (E9 rfl rfl (by omega)) rfl rfl ?_
 refine N5 ?_
 refine H9 (rC rfl (A7 rfl rfl)) (rT rfl) ?_
 (exact R0.no rfl (Z1 _))
 refine sD (nS (cF rfl (tK (nS (tS (tS (tR (sQ (A3 rfl) rfl (sL (A5 rfl rfl) rfl rfl (sD (nS ?_)))))))))))
 refine B5 ?_
 refine tS (tR ?_)
 refine sP (E9 rfl rfl (by omega)) rfl rfl ?_
 refine sQ (qA rfl) rfl (sD (nS (cF rfl (tS (tS (tR ?_))))))
 refine sP (E9 rfl rfl (by omega)) rfl rfl ?_
 refine sQ (qA rfl) rfl (sD (nS (cF rfl (tR ?_))))
 refine sP (E9 rfl rfl (by omega)) rfl rfl ?_
 refine sQ (qA rfl) rfl (sD (nS (cF rfl (tS (tR ?_)))))
 refine sP (E9 rfl rfl (by omega)) rfl rfl ?_
 refine sQ (qA rfl) rfl (sD (nS (cF rfl (tS (tS (tR ?_))))))
 refine sP (E9 rfl rfl (by omega)) rfl rfl ?_
 refine sQ (qA rfl) rfl (sD (nS (cF rfl (tR ?_))))
 refine sP (E9 rfl rfl (by omega)) rfl rfl ?_
 refine N5 ?_
 refine H9 (rC rfl (A7 rfl rfl)) (rT rfl) ?_
 (exact R0.no rfl (Z1 _))
theorem ks1 {ks : List Tm} (h : ks.length = 1) : ∃ a, ks = [a] := by
 match ks, h with
 | [a], _ => exact ⟨a, rfl⟩
theorem ks2 {ks : List Tm} (h : ks.length = 2) : ∃ a b, ks = [a, b] := by
 match ks, h with
 | [a, b], _ => exact ⟨a, b, rfl⟩
theorem ks3 {ks : List Tm} (h : ks.length = 3) : ∃ a b c, ks = [a, b, c] := by
 match ks, h with
 | [a, b, c], _ => exact ⟨a, b, c, rfl⟩
theorem B4a {k : Int} {nm : ByteArray} {num : Int} {ty fr : Ty} {lb : Int} {ks : List Tm} {G : IM} {cells : List Value} (hc : cv (.mk k nm num ty fr lb ks)) (hk : k = 1 ∨ k = 6 ∨ k = 7 ∨ k = 8 ∨ k = 9 ∨ k = 11 ∨ k = 12 ∨ k = 14) (hr : B1 G (.mk k nm num ty fr lb ks) cells) :
  Fn Tryz.prog 232 [.agg ⟨cells⟩] [] G (R0 (R7 k ks)) := by
 obtain ⟨hN, hkk⟩ := hc.node
 have hops := hN.ops
 rcases hk with rfl | rfl | rfl | rfl | rfl | rfl | rfl | rfl
 ·obtain rfl : ks = [] := List.length_eq_zero_iff.1 (by have : E7 1 = 0 := rfl; omega)
  exact B38 _ _ _ _ _ _ _ hr
 ·obtain ⟨a, b, rfl⟩ := ks2 (ks := ks) (by have : E7 6 = 2 := rfl; omega)
  exact B36 a b _ _ _ _ _ _ _ (hkk a (by simp)) hr
 ·obtain ⟨a, b, rfl⟩ := ks2 (ks := ks) (by have : E7 7 = 2 := rfl; omega)
  exact A9o 7 a b _ _ _ _ _ _ _ (.inl rfl) (hkk a (by simp)) (hkk b (by simp)) hr
 ·obtain ⟨a, b, rfl⟩ := ks2 (ks := ks) (by have : E7 8 = 2 := rfl; omega)
  exact A9o 8 a b _ _ _ _ _ _ _ (.inr rfl) (hkk a (by simp)) (hkk b (by simp)) hr
 ·obtain ⟨a, b, c, rfl⟩ := ks3 (ks := ks) (by have : E7 9 = 3 := rfl; omega)
  exact B37 a b c _ _ _ _ _ _ _ hr
 ·obtain ⟨a, rfl⟩ := ks1 (ks := ks) (by have : E7 11 = 1 := rfl; omega)
  exact A9p 11 a _ _ _ _ _ _ _ (.inl rfl) (hkk a (by simp)) hr
 ·obtain ⟨a, rfl⟩ := ks1 (ks := ks) (by have : E7 12 = 1 := rfl; omega)
  exact A9p 12 a _ _ _ _ _ _ _ (.inr rfl) (hkk a (by simp)) hr
 ·obtain ⟨a, rfl⟩ := ks1 (ks := ks) (by have : E7 14 = 1 := rfl; omega)
  exact B39 a _ _ _ _ _ _ _ hr
theorem A9r {k : Int} (h : 0 ≤ E7 k) : 1 ≤ k ∧ k ≤ 14 := by
 by_cases hk : 1 ≤ k ∧ k ≤ 14
 ·exact hk
 ·rw [A7C hk] at h; omega
theorem B4b {k : Int} {nm : ByteArray} {num : Int} {ty fr : Ty} {lb : Int} {ks : List Tm} (hc : cv (.mk k nm num ty fr lb ks)) (hv : I8 (.mk k nm num ty fr lb ks) = false) (h : ∀ i, i < (if k = 9 then 1 else ks.length) → (hl : i < ks.length) → I8 ks[i] = true) : k = 1 ∨ k = 6 ∨ k = 7 ∨ k = 8 ∨ k = 9 ∨ k = 11 ∨ k = 12 ∨ k = 14 := by
 obtain ⟨hN, _⟩ := hc.node
 have hr := A9r (by rw [hN.ops]; omega : 0 ≤ E7 k)
 have h13 := hN.ne
 have h25 : ¬(k = 2 ∨ k = 3 ∨ k = 4 ∨ k = 5) := by
  intro hk
  rw [I8, if_neg (by omega)] at hv
  rw [decide_eq_true hk] at hv
  cases hv
 have h10 : k ≠ 10 := by
  rintro rfl
  rw [A6A (.inl rfl), List.all_eq_false] at hv
  obtain ⟨t, ht, hn⟩ := hv
  obtain ⟨i, hi, rfl⟩ := List.mem_iff_getElem.1 ht
  exact hn (h i (by rw [if_neg (by decide)]; exact hi) hi)
 omega
theorem B4c (t : Tm) (G : IM) (cells : List Value) (hr : B1 G t cells) : Fn Tryz.prog 230 [.agg ⟨cells⟩] [] G (H3 (.int .i64 ((if t.k = 9 then 1 else t.ks.length : Nat) : Int)) G) := by
 obtain ⟨k, nm, num, ⟨tk, tks⟩, ⟨fk, fks⟩, lb, ks⟩ := t
 obtain ⟨pt, ct, pf, cf, p, c, es, rfl, hk, hnum, hlb, hty, hfr, hsl, hkl⟩ := hr.open9
 rw [show (Tm.mk k nm num (.mk tk tks) (.mk fk fks) lb ks).k = k from rfl, show (Tm.mk k nm num (.mk tk tks) (.mk fk fks) lb ks).ks = ks from rfl]
 refine B7 Tryz.func230 rfl Tryz.ntmps230 Tryz.results230 rfl ?_
 intro w0
 refine tS (tR ?_)
 refine sE (D5 rfl rfl) rfl (fun b3 => ?_)
 refine sQ (qA rfl) rfl (sD (nS (tS (tS (tR (sQ (A3 rfl) rfl (sL (A5 rfl rfl) rfl rfl ?_)))))))
 refine sB (qE rfl rfl) rfl rfl (fun h12 => ?_) (fun h12 => ?_)
 refine sD (nS (qT rfl (tS (tR (sQ (qA rfl) rfl (sD (nS (tT (rS (A6 (rT rfl) ?_))))))))))
 (exact ⟨rfl, by rw [if_pos (by omega)]; rfl, rfl⟩)
 refine N5 ?_
 (exact ⟨rfl, by rw [if_neg (by omega)], rfl⟩)
theorem B4d {G : IM} {r r' : Z0} {u : Tm} {cells : List Value} {c l : Int} (h1 : r.2.1 = c) (h2 : r.2.2 = l) (hr : B1 G u cells) (h3 : c = 1 → u = r.1) : A28 r G (.tuple ⟨[.agg ⟨cells⟩, .int .i64 c, .int .i64 l]⟩) [] := by
 subst h1 h2; exact ⟨rfl, u, cells, rfl, hr, h3⟩
def A0W (r : Z0) : IM → Value → List A4 → Prop := I9 fun G' v => ∃ cells, v = .tuple ⟨[.agg ⟨cells⟩, .int .i64 r.2.1, .int .i64 r.2.2]⟩ ∧ B1 G' r.1 cells
theorem A0W.mk {G : IM} {r : Z0} {u : Tm} {c l : Int} {cells : List Value} (h : r = (u, c, l)) (hr : B1 G u cells) : A0W r G (.tuple ⟨[.agg ⟨cells⟩, .int .i64 c, .int .i64 l]⟩) [] := by
 subst h; exact ⟨rfl, cells, rfl, hr⟩
theorem A9s {t : Tm} (h : N0 t = true) : t.small := A4J t (A6p h).1
def A4L : Nat → Tm → Tm × Int × Int × Nat
 | 0, e => ((U7 e).1, (U7 e).2.1, (U7 e).2.2, 0)
 | n + 1, e => if (U7 e).2.1 = 1 then ((A4L n (U7 e).1).1, (A4L n (U7 e).1).2.1, (A4L n (U7 e).1).2.2.1, (A4L n (U7 e).1).2.2.2 + 1)
  else ((U7 e).1, (U7 e).2.1, (U7 e).2.2, 0)
def EvP (r : Tm × Int × Int × Nat) : IM → Value → List A4 → Prop := I9 fun G' v => ∃ cells, v = .tuple ⟨[.agg ⟨cells⟩, .int .i64 r.2.1, .int .i64 r.2.2.1, .int .i64 (r.2.2.2 : Int)]⟩ ∧ B1 G' r.1 cells
def A2A (i : Nat) (r : Tm × Int × Int × Nat) : Tm × Int × Int × Nat := (r.1, r.2.1, r.2.2.1, r.2.2.2 + i)
section fin
variable {P : Program} {Γ : J1} {env : J5} {hp : List A4} {G : IM}
theorem A9t {r r2 r3 r4 : ResultVar} {post : IM → Value → List A4 → Prop} {v v2 v3 v4 : Value} (h : U3 P Γ ⟨env, hp, G⟩ r v) (h2 : U3 P Γ ⟨env, hp, G⟩ r2 v2) (h3 : U3 P Γ ⟨env, hp, G⟩ r3 v3) (h4 : U3 P Γ ⟨env, hp, G⟩ r4 v4) (hk : post G (.tuple ⟨[v, v2, v3, v4]⟩) []) :
  Z3 P Γ [r, r2, r3, r4] post .ret ⟨env, hp, G⟩ := A3s (.cons h (.cons h2 (.cons h3 (.cons h4 .nil)))) hk
end fin
theorem EvP.mk {G : IM} {r : Tm × Int × Int × Nat} {u : Tm} {c l : Int} {i : Nat} {cells : List Value} (h : r = (u, c, l, i)) (hr : B1 G u cells) : EvP r G (.tuple ⟨[.agg ⟨cells⟩, .int .i64 c, .int .i64 l, .int .i64 (i : Int)]⟩) [] := by
 subst h; exact ⟨rfl, cells, rfl, hr⟩
theorem B4e (fuel : Int) (G : IM) : Fn Tryz.prog 138 [.int .i64 fuel] [] G (H3 (.bool (P4 fuel 0 300)) G) := by
 refine B7 Tryz.func138 rfl Tryz.ntmps138 Tryz.results138 rfl ?_
 intro w0
 refine tS (tR (sQ (qA rfl) rfl (sD (nS (tS (tR (sQ (qM rfl) rfl ?_)))))))
 refine F0 rfl ((A0s _ _ _ _)) rfl rfl ?_
 refine sQ (qA rfl) rfl (sD (nS (tT (A6 (rT rfl) ?_))))
 (exact ⟨rfl, rfl, rfl⟩)
mutual
def A4M (L : Int → Prop) : Tm → Prop
 | .mk k nm num ty fr lb ks => (k = 14 → L lb) ∧ A9u L ks
def A9u (L : Int → Prop) : List Tm → Prop
 | [] => True
 | t :: ts => A4M L t ∧ A9u L ts
end
def B7f (L : Int → Prop) (T : Ty) (r : Z0) : Prop := (r.2.1 = 1 ∧ A4G [] r.1 = some T ∧ A4M L r.1) ∨ (r.2.1 = 2 ∧ L r.2.2)
structure Wt (cx : Cx) (k : Int) (nm : ByteArray) (ty : Ty) (h w : List Ty) (t : Ty) : Prop where
 len : w = [] ∨ w.length = h.length
 ok : ∀ i, (hi : i < w.length) → (hh : i < h.length) → O3 h[i] w[i] = true ∧ M0 w[i] = true
 again : k ≠ 13 → A0G cx k nm ty (if w = [] then h else w) = some (w, t)
 asT : k = 13 → w = [t]
def B7g (cx : Cx) (t : Tm) (D l : Int) (u : Tm) (a : Ty) (l' : Int) : Prop := M1 40 13 u D = true ∧ A4G cx u = some a ∧ M0 a = true ∧ l ≤ l' ∧ l' + 1 ≤ l + (E6 t : Int) ∧ (E6 u : Int) ≤ E6 t + (l' - l)
def B7h (k : Int) : Bool := decide (k = 5 ∨ k = 13)
def A6C : ByteArray := ⟨⟨[112, 97, 105, 114]⟩⟩
def A6D : ByteArray := ⟨⟨[102, 117, 110, 99, 116, 105, 111, 110]⟩⟩
def txT : ByteArray := ⟨⟨[84]⟩⟩
def txF : ByteArray := ⟨⟨[70]⟩⟩
def A9v (n : Int) : ByteArray := ⟨(Lib.decDigits n.toNat).toArray⟩
def A29 (k num : Int) : ByteArray := if k = 2 then A9v num else if k = 3 then txT else txF
mutual
def Y3 : Tm → ByteArray
 | .mk k nm num ty fr lb ks => if k = 10 ∨ (W5 (.mk k nm num ty fr lb []) = true ∧ ty.k = 5) then A6C else if k = 5 ∨ W5 (.mk k nm num ty fr lb []) = true then A6D else if k = 14 then B4f ks else A29 k num
def B4f : List Tm → ByteArray
 | [] => ⟨⟨[]⟩⟩
 | t :: _ => Y3 t
end
section
variable {k : Int} {nm : ByteArray} {num : Int} {ty fr : Ty} {lb : Int} {ks : List Tm}
theorem B4g (h : k = 10 ∨ (W5 (.mk k nm num ty fr lb ks) = true ∧ ty.k = 5)) : Y3 (.mk k nm num ty fr lb ks) = A6C := by
 rw [Y3]
 exact if_pos h
theorem B4h (h : ¬(k = 10 ∨ (W5 (.mk k nm num ty fr lb ks) = true ∧ ty.k = 5))) (h2 : k = 5 ∨ W5 (.mk k nm num ty fr lb ks) = true) : Y3 (.mk k nm num ty fr lb ks) = A6D := by
 rw [Y3]
 exact (if_neg h).trans (if_pos h2)
theorem B4i (h : W5 (.mk k nm num ty fr lb ks) = false) (hk : k = 14) (h0 : 0 < ks.length) : Y3 (.mk k nm num ty fr lb ks) = Y3 ks[0] := by
 rw [Y3, if_neg (by rintro (h1 | h1); omega; exact Bool.noConfusion (h1.1.symm.trans h)), if_neg (by rintro (h1 | h1); omega; exact Bool.noConfusion (h1.symm.trans h)), if_pos hk]
 cases ks with
 | nil => simp at h0
 | cons t ts => rfl
theorem B4j (h : W5 (.mk k nm num ty fr lb ks) = false) (hk : k ≠ 14) (h10 : k ≠ 10) (h5 : k ≠ 5) : Y3 (.mk k nm num ty fr lb ks) = A29 k num := by
 rw [Y3, if_neg (by rintro (h1 | h1); omega; exact Bool.noConfusion (h1.1.symm.trans h)), if_neg (by rintro (h1 | h1); omega; exact Bool.noConfusion (h1.symm.trans h)), if_neg hk]
end
section fin
variable {P : Program} {Γ : J1} {env : J5} {hp : List A4} {G : IM}
end fin
def CsP (bx : Nat) (e : Tm) (a b : Ty) (l : Int) : IM → Value → List A4 → Prop := fun G' v outs => ∃ cells, v = .agg ⟨cells⟩ ∧ outs = [.blk bx [.int .i64 (if V1 a b = true then l else l + 1)]] ∧ B1 G' (if V1 a b = true then e else V9 e a b (l + 1)) cells
def ElP (bx : Nat) (cx : Cx) (e : Tm) (l : Int) : IM → Value → List A4 → Prop := fun G' v outs => ∃ u cu t ct l', v = .tuple ⟨[.agg ⟨cu⟩, .agg ⟨ct⟩, .bool (mEl cx e l).isSome]⟩ ∧ outs = [.blk bx [.int .i64 l']] ∧ B1 G' u cu ∧ C3 G' t ct ∧ l ≤ l' ∧ l' + 1 ≤ l + (E6 e : Int) ∧ ∀ r, mEl cx e l = some r → r = (u, t, l')
section
variable {cx : Cx} {k : Int} {nm : ByteArray} {num : Int} {ty fr : Ty} {lb : Int} {ks us : List Tm} {h : List Ty} {l l' : Int}
end
end Gw
end Go.Proofs.YtgodjiieijekiaaGreatDoor
