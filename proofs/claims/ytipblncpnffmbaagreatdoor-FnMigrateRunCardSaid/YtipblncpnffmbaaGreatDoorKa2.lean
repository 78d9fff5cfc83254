/-
  The reference model's tests of types and nodes: they compute the same plain func.
-/
import Derived.Test.YtipblncpnffmbaaGreatDoorKa1
import Derived.Test.YtipblncpnffmbaaGreatDoorKa0
import Derived.Laws.Slices
set_option linter.unusedVariables false
set_option linter.unusedSimpArgs false
set_option maxHeartbeats 0
set_option maxRecDepth 100000
set_option synthInstance.maxSize 4000
set_option synthInstance.maxHeartbeats 0
namespace Go.Proofs.YtipblncpnffmbaaGreatDoor
open Go Go.RowKit
namespace Gw
theorem A7l (k : Int) (G : IM) : Fn Tryz.prog 88 [.int .i64 k] [] G (H9 (.int .i64 (S1 k)) G) := by
 refine B7 Tryz.func88 rfl Tryz.ntmps88 Tryz.results88 rfl ?_
 intro w0
 refine K6 ?_
 refine B6 ?_
 refine tS (tS (tR ?_))
 refine sB (qE rfl rfl) rfl rfl (fun h16 => ?_) (fun h16 => ?_)
 refine K8 ?_
 exact ⟨rfl, by (first | rw [(L8 k).1 (by omega)] | rw [(L8 k).2.1 (by omega)] | rw [(L8 k).2.2 (by omega) (by omega) (by omega) (by omega) (by omega)]), rfl⟩
 refine sQ (qA rfl) rfl (sD (nS (cF rfl (tS (tR ?_)))))
 refine sB (qE rfl rfl) rfl rfl (fun h40 => ?_) (fun h40 => ?_)
 refine K8 ?_
 exact ⟨rfl, by (first | rw [(L8 k).1 (by omega)] | rw [(L8 k).2.1 (by omega)] | rw [(L8 k).2.2 (by omega) (by omega) (by omega) (by omega) (by omega)]), rfl⟩
 refine sQ (qA rfl) rfl (sD (nS (cF rfl (tR ?_))))
 refine sB (qE rfl rfl) rfl rfl (fun h63 => ?_) (fun h63 => ?_)
 refine L7 ?_
 exact ⟨rfl, by (first | rw [(L8 k).1 (by omega)] | rw [(L8 k).2.1 (by omega)] | rw [(L8 k).2.2 (by omega) (by omega) (by omega) (by omega) (by omega)]), rfl⟩
 refine sQ (qA rfl) rfl (sD (nS (cF rfl (tS (tS (tR ?_))))))
 refine sB (qE rfl rfl) rfl rfl (fun h85 => ?_) (fun h85 => ?_)
 refine K8 ?_
 exact ⟨rfl, by (first | rw [(L8 k).1 (by omega)] | rw [(L8 k).2.1 (by omega)] | rw [(L8 k).2.2 (by omega) (by omega) (by omega) (by omega) (by omega)]), rfl⟩
 refine sQ (qA rfl) rfl (sD (nS (cF rfl (tR ?_))))
 refine sB (qE rfl rfl) rfl rfl (fun h108 => ?_) (fun h108 => ?_)
 refine L7 ?_
 exact ⟨rfl, by (first | rw [(L8 k).1 (by omega)] | rw [(L8 k).2.1 (by omega)] | rw [(L8 k).2.2 (by omega) (by omega) (by omega) (by omega) (by omega)]), rfl⟩
 refine M1 ?_
 exact ⟨rfl, by (first | rw [(L8 k).1 (by omega)] | rw [(L8 k).2.1 (by omega)] | rw [(L8 k).2.2 (by omega) (by omega) (by omega) (by omega) (by omega)]), rfl⟩
theorem B1k (k : Int) (G : IM) : Fn Tryz.prog 117 [.int .i64 k] [] G (H9 (.int .i64 (D1 k)) G) := by
 refine B7 Tryz.func117 rfl Tryz.ntmps117 Tryz.results117 rfl ?_
 intro w0
 refine K6 ?_
 refine B6 ?_
 refine tS (tS (tR ?_))
 refine sB (qE rfl rfl) rfl rfl (fun h16 => ?_) (fun h16 => ?_)
 refine K8 ?_
 exact ⟨rfl, by (unfold D1; first | rw [if_pos (by omega)] | rw [if_neg (by omega), if_pos (by omega)] | rw [if_neg (by omega), if_neg (by omega), if_pos (by omega)] | rw [if_neg (by omega), if_neg (by omega), if_neg (by omega), if_pos (by omega)] | rw [if_neg (by omega), if_neg (by omega), if_neg (by omega), if_neg (by omega)]), rfl⟩
 refine sQ (qA rfl) rfl (sD (nS (cF rfl (tS (tR ?_)))))
 refine sB (qE rfl rfl) rfl rfl (fun h40 => ?_) (fun h40 => ?_)
 refine K8 ?_
 exact ⟨rfl, by (unfold D1; first | rw [if_pos (by omega)] | rw [if_neg (by omega), if_pos (by omega)] | rw [if_neg (by omega), if_neg (by omega), if_pos (by omega)] | rw [if_neg (by omega), if_neg (by omega), if_neg (by omega), if_pos (by omega)] | rw [if_neg (by omega), if_neg (by omega), if_neg (by omega), if_neg (by omega)]), rfl⟩
 refine sQ (qA rfl) rfl (sD (nS (cF rfl (tS (tR ?_)))))
 refine sB (qE rfl rfl) rfl rfl (fun h64 => ?_) (fun h64 => ?_)
 refine K8 ?_
 exact ⟨rfl, by (unfold D1; first | rw [if_pos (by omega)] | rw [if_neg (by omega), if_pos (by omega)] | rw [if_neg (by omega), if_neg (by omega), if_pos (by omega)] | rw [if_neg (by omega), if_neg (by omega), if_neg (by omega), if_pos (by omega)] | rw [if_neg (by omega), if_neg (by omega), if_neg (by omega), if_neg (by omega)]), rfl⟩
 refine sQ (qA rfl) rfl (sD (nS (cF rfl (tR ?_))))
 refine sB (qE rfl rfl) rfl rfl (fun h87 => ?_) (fun h87 => ?_)
 refine L7 ?_
 exact ⟨rfl, by (unfold D1; first | rw [if_pos (by omega)] | rw [if_neg (by omega), if_pos (by omega)] | rw [if_neg (by omega), if_neg (by omega), if_pos (by omega)] | rw [if_neg (by omega), if_neg (by omega), if_neg (by omega), if_pos (by omega)] | rw [if_neg (by omega), if_neg (by omega), if_neg (by omega), if_neg (by omega)]), rfl⟩
 refine sQ (qA rfl) rfl (sD (nS (cF rfl (tS (tS (tR ?_))))))
 refine sB (qE rfl rfl) rfl rfl (fun h109 => ?_) (fun h109 => ?_)
 refine K8 ?_
 exact ⟨rfl, by (unfold D1; first | rw [if_pos (by omega)] | rw [if_neg (by omega), if_pos (by omega)] | rw [if_neg (by omega), if_neg (by omega), if_pos (by omega)] | rw [if_neg (by omega), if_neg (by omega), if_neg (by omega), if_pos (by omega)] | rw [if_neg (by omega), if_neg (by omega), if_neg (by omega), if_neg (by omega)]), rfl⟩
 refine sQ (qA rfl) rfl (sD (nS (cF rfl (tS (tR ?_)))))
 refine sB (qE rfl rfl) rfl rfl (fun h133 => ?_) (fun h133 => ?_)
 refine K8 ?_
 exact ⟨rfl, by (unfold D1; first | rw [if_pos (by omega)] | rw [if_neg (by omega), if_pos (by omega)] | rw [if_neg (by omega), if_neg (by omega), if_pos (by omega)] | rw [if_neg (by omega), if_neg (by omega), if_neg (by omega), if_pos (by omega)] | rw [if_neg (by omega), if_neg (by omega), if_neg (by omega), if_neg (by omega)]), rfl⟩
 refine sQ (qA rfl) rfl (sD (nS (cF rfl (tS (tR ?_)))))
 refine sB (qE rfl rfl) rfl rfl (fun h157 => ?_) (fun h157 => ?_)
 refine K8 ?_
 exact ⟨rfl, by (unfold D1; first | rw [if_pos (by omega)] | rw [if_neg (by omega), if_pos (by omega)] | rw [if_neg (by omega), if_neg (by omega), if_pos (by omega)] | rw [if_neg (by omega), if_neg (by omega), if_neg (by omega), if_pos (by omega)] | rw [if_neg (by omega), if_neg (by omega), if_neg (by omega), if_neg (by omega)]), rfl⟩
 refine sQ (qA rfl) rfl (sD (nS (cF rfl (tS (tR ?_)))))
 refine sB (qE rfl rfl) rfl rfl (fun h181 => ?_) (fun h181 => ?_)
 refine K8 ?_
 exact ⟨rfl, by (unfold D1; first | rw [if_pos (by omega)] | rw [if_neg (by omega), if_pos (by omega)] | rw [if_neg (by omega), if_neg (by omega), if_pos (by omega)] | rw [if_neg (by omega), if_neg (by omega), if_neg (by omega), if_pos (by omega)] | rw [if_neg (by omega), if_neg (by omega), if_neg (by omega), if_neg (by omega)]), rfl⟩
 refine sQ (qA rfl) rfl (sD (nS (cF rfl (tR ?_))))
 refine sB (qE rfl rfl) rfl rfl (fun h204 => ?_) (fun h204 => ?_)
 refine L7 ?_
 exact ⟨rfl, by (unfold D1; first | rw [if_pos (by omega)] | rw [if_neg (by omega), if_pos (by omega)] | rw [if_neg (by omega), if_neg (by omega), if_pos (by omega)] | rw [if_neg (by omega), if_neg (by omega), if_neg (by omega), if_pos (by omega)] | rw [if_neg (by omega), if_neg (by omega), if_neg (by omega), if_neg (by omega)]), rfl⟩
 refine sQ (qA rfl) rfl (sD (nS (cF rfl (tS (tS (tR ?_))))))
 refine sB (qE rfl rfl) rfl rfl (fun h226 => ?_) (fun h226 => ?_)
 refine K8 ?_
 exact ⟨rfl, by (unfold D1; first | rw [if_pos (by omega)] | rw [if_neg (by omega), if_pos (by omega)] | rw [if_neg (by omega), if_neg (by omega), if_pos (by omega)] | rw [if_neg (by omega), if_neg (by omega), if_neg (by omega), if_pos (by omega)] | rw [if_neg (by omega), if_neg (by omega), if_neg (by omega), if_neg (by omega)]), rfl⟩
 refine sQ (qA rfl) rfl (sD (nS (cF rfl (tS (tR ?_)))))
 refine sB (qE rfl rfl) rfl rfl (fun h250 => ?_) (fun h250 => ?_)
 refine K8 ?_
 exact ⟨rfl, by (unfold D1; first | rw [if_pos (by omega)] | rw [if_neg (by omega), if_pos (by omega)] | rw [if_neg (by omega), if_neg (by omega), if_pos (by omega)] | rw [if_neg (by omega), if_neg (by omega), if_neg (by omega), if_pos (by omega)] | rw [if_neg (by omega), if_neg (by omega), if_neg (by omega), if_neg (by omega)]), rfl⟩
 refine sQ (qA rfl) rfl (sD (nS (cF rfl (tS (tR ?_)))))
 refine sB (qE rfl rfl) rfl rfl (fun h274 => ?_) (fun h274 => ?_)
 refine K8 ?_
 exact ⟨rfl, by (unfold D1; first | rw [if_pos (by omega)] | rw [if_neg (by omega), if_pos (by omega)] | rw [if_neg (by omega), if_neg (by omega), if_pos (by omega)] | rw [if_neg (by omega), if_neg (by omega), if_neg (by omega), if_pos (by omega)] | rw [if_neg (by omega), if_neg (by omega), if_neg (by omega), if_neg (by omega)]), rfl⟩
 refine sQ (qA rfl) rfl (sD (nS (cF rfl (tR ?_))))
 refine sB (qE rfl rfl) rfl rfl (fun h297 => ?_) (fun h297 => ?_)
 refine L7 ?_
 exact ⟨rfl, by (unfold D1; first | rw [if_pos (by omega)] | rw [if_neg (by omega), if_pos (by omega)] | rw [if_neg (by omega), if_neg (by omega), if_pos (by omega)] | rw [if_neg (by omega), if_neg (by omega), if_neg (by omega), if_pos (by omega)] | rw [if_neg (by omega), if_neg (by omega), if_neg (by omega), if_neg (by omega)]), rfl⟩
 refine sQ (qA rfl) rfl (sD (nS (cF rfl (tS (tR ?_)))))
 refine sB (qE rfl rfl) rfl rfl (fun h318 => ?_) (fun h318 => ?_)
 refine L7 ?_
 exact ⟨rfl, by (unfold D1; first | rw [if_pos (by omega)] | rw [if_neg (by omega), if_pos (by omega)] | rw [if_neg (by omega), if_neg (by omega), if_pos (by omega)] | rw [if_neg (by omega), if_neg (by omega), if_neg (by omega), if_pos (by omega)] | rw [if_neg (by omega), if_neg (by omega), if_neg (by omega), if_neg (by omega)]), rfl⟩
 refine M1 ?_
 exact ⟨rfl, by (unfold D1; first | rw [if_pos (by omega)] | rw [if_neg (by omega), if_pos (by omega)] | rw [if_neg (by omega), if_neg (by omega), if_pos (by omega)] | rw [if_neg (by omega), if_neg (by omega), if_neg (by omega), if_pos (by omega)] | rw [if_neg (by omega), if_neg (by omega), if_neg (by omega), if_neg (by omega)]), rfl⟩
theorem B1l (s : ByteArray) (G : IM) : Fn Tryz.prog 96 [.string s] [] G (H9 (.bool (Y6 s)) G) := by
 refine B7 Tryz.func96 rfl Tryz.ntmps96 Tryz.results96 rfl ?_
 intro w0
 refine D7 ?_
 refine sQ (A6j rfl rfl) rfl (sB (qE rfl rfl) rfl rfl (fun h10 => ?_) (fun h10 => ?_))
 refine sQ (qM rfl) rfl (sQ (qM rfl) rfl ?_)
 refine sP (A3D rfl rfl rfl (by omega) (A3O (by omega))) rfl rfl ?_
 refine sB (A0Q rfl rfl) rfl rfl (fun h14 => ?_) (fun h14 => ?_)
 refine sQ (O2 rfl rfl) rfl (sQ (qM rfl) rfl (sQ (qM rfl) rfl ?_))
 refine sP (A3D rfl rfl rfl (by omega) (A3O (by omega))) rfl rfl ?_
 refine sB (Z9 rfl rfl) rfl rfl (fun h19 => ?_) (fun h19 => ?_)
 refine I0 ?_
 exact ⟨rfl, by simp only [Y6]; (try simp only [Int.toNat_zero] at *); (first | rw [decide_eq_true (by omega)] | rw [decide_eq_false (by omega)]), rfl⟩
 refine I0 ?_
 exact ⟨rfl, by simp only [Y6]; (try simp only [Int.toNat_zero] at *); (first | rw [decide_eq_true (by omega)] | rw [decide_eq_false (by omega)]), rfl⟩
 refine K6 ?_
 exact ⟨rfl, by simp only [Y6]; (try simp only [Int.toNat_zero] at *); (first | rw [decide_eq_true (by omega)] | rw [decide_eq_false (by omega)]), rfl⟩
 refine I4 ?_
 exact ⟨rfl, by simp only [Y6]; (try simp only [Int.toNat_zero] at *); (first | rw [decide_eq_true (by omega)] | rw [decide_eq_false (by omega)]), rfl⟩
theorem A7m (t : Ty) (G : IM) (cells : List Value) (hr : B3 G t cells) : Fn Tryz.prog 134 [.agg ⟨cells⟩] [] G (H9 (.bool (X5 t)) G) := by
 obtain ⟨p, c, es, rfl, hk, hsl, hkl⟩ := hr.open
 refine B7 Tryz.func134 rfl Tryz.ntmps134 Tryz.results134 rfl ?_
 intro w0
 refine tS (tR ?_)
 refine sE (C2 rfl rfl) rfl (fun b3 => ?_)
 refine D0 ?_
 refine sB (qE rfl rfl) rfl rfl (fun h11 => ?_) (fun h11 => ?_)
 refine J5 ?_
 refine sB (qE rfl rfl) rfl rfl (fun h16 => ?_) (fun h16 => ?_)
 refine I0 ?_
 exact ⟨rfl, by simp only [X5]; (first | rw [decide_eq_true (by omega)] | rw [decide_eq_false (by omega)]), rfl⟩
 refine I0 ?_
 exact ⟨rfl, by simp only [X5]; (first | rw [decide_eq_true (by omega)] | rw [decide_eq_false (by omega)]), rfl⟩
 refine K6 ?_
 exact ⟨rfl, by simp only [X5]; (first | rw [decide_eq_true (by omega)] | rw [decide_eq_false (by omega)]), rfl⟩
def B5F (n : Int) : Int := if n < -99 ∨ n > 99 then 0 else if n < 0 then -n else n
theorem A7n {k : Int} {ks : List Ty} {d : Int} (h : 4 < d ∨ S1 k ≠ ks.length) : I1 (.mk k ks) d = false := by
 rw [I1]
 rcases h with h | h
 ·rw [decide_eq_false (by omega)]; rfl
 ·rw [decide_eq_false (p := S1 k = ks.length) h, Bool.and_false]; rfl
theorem A7o {k : Int} {ks : List Ty} {d : Int} (h : d ≤ 4) (h2 : S1 k = ks.length) : I1 (.mk k ks) d = M2 ks (d + 1) := by
 rw [I1, decide_eq_true h, decide_eq_true h2]; rfl
theorem B1m {ks : List Ty} {d : Int} {i : Nat} (hi : i < ks.length) (h : I1 ks[i] d = false) : M2 ks d = false := by
 cases hx : M2 ks d with
 | false => rfl
 | true => rw [(A3N ks d).1 hx i hi] at h; cases h
theorem B1n : ∀ (t : Ty) (d : Int) (G : IM) (cells : List Value), 0 ≤ d ∧ d ≤ 4 → B3 G t cells →
  Fn Tryz.prog 102 [.agg ⟨cells⟩, .int .i64 d] [] G (H9 (.bool (I1 t (5 - d))) G) := by
 refine Ty.ind fun k ks ih d G cells hd hr => ?_
 obtain ⟨p, c, es, rfl, hk, hsl, hkl⟩ := hr.open
 simp only [Ty.k, Ty.ks] at hk hsl hkl ⊢
 have hn := hsl.le
 have hk1 := A7l k G
 refine B7 Tryz.func102 rfl Tryz.ntmps102 Tryz.results102 rfl ?_
 intro w0
 refine tS (tR ?_)
 refine sE (C2 rfl rfl) rfl (fun b3 => ?_)
 refine sQ (qA rfl) rfl (sD (nS (tS (tS ?_))))
 refine E4 E7 rfl ?_
 refine K2 (i := 0) (l' := [tt,ff,ff,ff,ff,ff,ff,ff,ff,ff,ff]) rfl D6 (qM rfl) rfl (by kernel_rfl) rfl rfl ?_
 refine A1Q (i := 1) (l' := [tt,tt,ff,ff,ff,ff,ff,ff,ff,ff,ff]) rfl D6 (J6 rfl rfl) rfl (by kernel_rfl) rfl rfl (fun h11 => ?_) (fun h11 => ?_)
 refine aP 2 rfl (qM rfl) rfl ?_
 refine E5 3 rfl rfl rfl ?_
 refine E5 4 rfl rfl rfl ?_
 refine E5 6 rfl rfl rfl ?_
 refine E5 7 rfl rfl rfl ?_
 refine E5 8 rfl rfl rfl ?_
 refine E5 5 rfl rfl rfl ?_
 refine E5 9 rfl rfl rfl ?_
 refine aP 10 rfl (O2 rfl rfl) rfl ?_
 refine K6 ?_
 (rw [A7n (by omega)]; exact ⟨rfl, rfl, rfl⟩)
 refine aP 2 rfl (qM rfl) rfl ?_
 refine aP 3 rfl (B8 rfl) rfl ?_
 refine aL 4 rfl (C7 rfl rfl) rfl ?_
 refine aP 6 rfl (B8 rfl) rfl ?_
 refine aL 7 rfl (C7 rfl rfl) rfl ?_
 refine aP 8 rfl (pLn rfl rfl) rfl ?_
 refine A3 5 ?_
 refine P5 rfl rfl (hk1) rfl rfl rfl ?_
 refine A1Q (i := 9) (l' := [tt,tt,tt,tt,tt,tt,tt,tt,tt,tt,ff]) rfl D6 (R9 rfl rfl) rfl (by kernel_rfl) rfl rfl (fun h41 => ?_) (fun h41 => ?_)
 refine aP 10 rfl (S5 rfl rfl) rfl ?_
 refine K6 ?_
 (rw [A7n (by omega)]; exact ⟨rfl, rfl, rfl⟩)
 refine aP 10 rfl (S5 rfl rfl) rfl ?_
 refine K6 ?_
 refine B6 ?_
 (refine J3 (fun (i : Nat) => ⟨[(5, .int .i64 i), (2, .pointer (some ⟨b3, 0, none⟩)), (1, .int .i64 d)], [.blk b3 [.int .i64 k, .slice p ks.length c]], G⟩) (fun i => i ≤ ks.length ∧ ∀ j (h : j < ks.length), j < i → I1 ks[j] (5 - d + 1) = true) (fun i => ks.length - i) 0 ?_ ?_ ?_)
 exact C5
 exact ⟨by omega, by omega⟩
 (rintro i ⟨hi, hf⟩)
 refine D0 ?_
 refine sB (J6 rfl rfl) rfl rfl (fun h79 => ?_) (fun h79 => ?_)
 refine sD (nS (qT rfl (tK (nS (tS ?_)))))
 refine B6 ?_
 refine R2 ?_
 (obtain ⟨b, o, p2, c2, rfl, hat, hre, hgb⟩ := hsl.kidTy hkl (i := i) (by omega) (by omega); refine sP (B4 rfl rfl rfl (by omega)) rfl rfl ?_)
 refine sL (A5 rfl rfl (hat _) rfl) rfl rfl ?_
 refine sQ (qM rfl) rfl ?_
 refine sP (O4 rfl rfl (by omega) (by omega)) rfl rfl ?_
 (have hih := ih ks[i] (List.getElem_mem (by omega)) (d - 1) G _ (by omega) hre; rw [show 5 - (d - 1) = 5 - d + 1 by omega] at hih; refine H3 rfl hih rfl rfl (fun h96 => ?_) (fun h96 => ?_))
 refine D2 ?_
 refine sP (I2 rfl rfl (by omega) (by omega)) rfl rfl ?_
 refine sQ (qA rfl) rfl (sD ?_)
 refine I9 (i + 1) ?_ ?_ ?_
 exact C5
 exact ⟨by omega, fun j hj hji => by (by_cases he : j = i; (subst he; assumption); exact hf j hj (by omega))⟩
 omega
 refine K8 ?_
 (rw [A7o (by omega) (by omega), B1m (i := i) (by omega) (by assumption)]; exact ⟨rfl, rfl, rfl⟩)
 refine I4 ?_
 (rw [A7o (by omega) (by omega), (A3N ks _).2 (fun j hj => hf j hj (by omega))]; exact ⟨rfl, rfl, rfl⟩)
theorem A1C (t : Ty) (G : IM) (cells : List Value) (hr : B3 G t cells) : Fn Tryz.prog 70 [.agg ⟨cells⟩] [] G (H9 (.bool (C9 t)) G) := by
 have hl := hr.len
 have hv := B1n t 4 G cells (by omega) hr
 refine B7 Tryz.func70 rfl Tryz.ntmps70 Tryz.results70 rfl ?_
 intro w0
 refine tS (tR ?_)
 refine sE (C2 rfl rfl) rfl (fun b3 => ?_)
 refine sQ (qA rfl) rfl (sD (nS (tS (tR ?_))))
 refine sL (A5 rfl rfl (B5 (by repeat first | exact mH | apply mT)) (by assumption)) rfl rfl ?_
 refine H2 rfl (hv) rfl rfl ?_
 refine sQ (qA rfl) rfl (sD (nS (tT (F0 (rT rfl) ?_))))
 exact ⟨rfl, rfl, rfl⟩
theorem A47 {k : Int} {ks : List Ty} {d : Int} (h : I1 (.mk k ks) d = true) : S1 k = ks.length ∧ ∀ i, (hi : i < ks.length) → I1 ks[i] (d + 1) = true := by
 rw [I1] at h
 simp only [Bool.and_eq_true, decide_eq_true_eq] at h
 exact ⟨h.1.2, (A3N ks _).1 h.2⟩
theorem A7p {k k' : Int} {ks ks' : List Ty} (h : k = 1 ∨ k' = 1) : J7 (.mk k ks) (.mk k' ks') = true := by
 rw [S2]
 rcases h with h | h
 ·rw [decide_eq_true (p := k = 1) h]; rfl
 ·rw [decide_eq_true (p := k' = 1) h]; simp
theorem B1o {k k' : Int} {ks ks' : List Ty} (h : k ≠ 1) (h' : k' ≠ 1) (hk : k ≠ k') : J7 (.mk k ks) (.mk k' ks') = false := by
 rw [S2, decide_eq_false h, decide_eq_false h', decide_eq_false hk]; rfl
theorem A7q {k k' : Int} {ks ks' : List Ty} (h : k ≠ 1) (h' : k' ≠ 1) (hk : k = k') : J7 (.mk k ks) (.mk k' ks') = N0 ks ks' := by
 rw [S2, decide_eq_false h, decide_eq_false h', decide_eq_true hk]; rfl
theorem B1p {ks ks' : List Ty} {i : Nat} (hi : i < ks.length) (hi' : i < ks'.length) (h : J7 ks[i] ks'[i] = false) : N0 ks ks' = false := by
 cases hx : N0 ks ks' with
 | false => rfl
 | true => rw [((A10 ks ks').1 hx).2 i hi hi'] at h; cases h
section blaws
variable {P : Program} {Γ : K1} {env : K7} {hp : List A4} {G : IM} {ty : TypeId}
theorem A16 {x y : Operand} {t t' : TypeId} {i : K3} [hI : H5 P t i] (hd : i.desc = .bool) {r : Bool} (hx : evo env x = some (.bool r)) (hy : evo env y = some (.bool r)) :
  I6 P Γ ⟨env, hp, G⟩ (.binOp .neq t x y t') ty (.bool false) := by
 have h := A4D (P := P) (Γ := Γ) (hp := hp) (G := G) (t := t) (t' := t') (ty := ty) hd hx hy
 rwa [decide_eq_false (by simp)] at h
theorem A7r {x y : Operand} {t t' : TypeId} {i : K3} [hI : H5 P t i] (hd : i.desc = .bool) (hx : evo env x = some (.bool true)) (hy : evo env y = some (.bool false)) :
  I6 P Γ ⟨env, hp, G⟩ (.binOp .neq t x y t') ty (.bool true) := A4D hd hx hy
theorem A48 {x y : Operand} {t t' : TypeId} {i : K3} [hI : H5 P t i] (hd : i.desc = .bool) (hx : evo env x = some (.bool false)) (hy : evo env y = some (.bool true)) :
  I6 P Γ ⟨env, hp, G⟩ (.binOp .neq t x y t') ty (.bool true) := A4D hd hx hy
end blaws
theorem B1q (k : Int) (nm : ByteArray) (num : Int) (ty fr : Ty) (lb : Int) (ks : List Tm) (G : IM) (cells : List Value) (hr : A9 G (.mk k nm num ty fr lb ks) cells) (R : Bool)
  (hi : R = true ↔ (k = 1 ∨ k = 5 → Y6 nm = true) ∧ (¬(k = 1 ∨ k = 5) → nm = ⟨#[]⟩) ∧ (k = 5 ∨ k = 13 ∨ k = 14 → C9 ty = true) ∧ (¬(k = 5 ∨ k = 13 ∨ k = 14) → X5 ty = true) ∧ (k ≠ 14 → X5 fr = true ∧ lb = 0) ∧ (k = 2 → 0 ≤ num ∧ num ≤ 999) ∧ (k ≠ 2 → num = 0)) :
  Fn Tryz.prog 118 [.agg ⟨cells⟩] [] G (H9 (.bool R) G) := by
 have he : nm = ⟨#[]⟩ → Y6 nm = false := by rintro rfl; rfl
 obtain ⟨tk, tks⟩ := ty
 obtain ⟨fk, fks⟩ := fr
 obtain ⟨pt, ct, pf, cf, p, c, es, rfl, hk, hnum, hlb, hty, hfr, hsl, hkl⟩ := hr.open9
 clear hr
 have o2 := B1l nm G
 have o3 := A1C _ G _ hty
 have o4 := A7m _ G _ hty
 have o7 := A7m _ G _ hfr
 refine B7 Tryz.func118 rfl Tryz.ntmps118 Tryz.results118 rfl ?_
 intro w0
 refine tS (tR ?_)
 refine sE (C2 rfl rfl) rfl (fun b3 => ?_)
 refine D0 ?_
 refine sB (qE rfl rfl) rfl rfl (fun h11 => ?_) (fun h11 => ?_)
 refine N8 ?_
 refine sP (I3 rfl rfl (by omega)) rfl rfl ?_
 refine J0 ?_
 refine sP (I3 rfl rfl (by omega)) rfl rfl ?_
 refine J5 ?_
 refine sP (I3 rfl rfl (by omega)) rfl rfl ?_
 refine L6 ?_
 refine H3 rfl (o2) rfl rfl (fun h44 => ?_) (fun h44 => ?_)
 refine sQ (A16 rfl rfl rfl) rfl ?_
 refine A2n ?_
 refine H3 rfl (o4) rfl rfl (fun h70 => ?_) (fun h70 => ?_)
 refine L7 ?_
 refine sP (A0x rfl rfl (by omega)) rfl rfl ?_
 refine J0 ?_
 refine H3 rfl (o7) rfl rfl (fun h88 => ?_) (fun h88 => ?_)
 refine J5 ?_
 refine sB (R9 rfl rfl) rfl rfl (fun h93 => ?_) (fun h93 => ?_)
 refine L7 ?_
 exact ⟨rfl, by (cases R with | false => rfl | true => (exfalso; obtain ⟨i1, i2, i3, i4, i5, i6, i7⟩ := hi.1 rfl; first | omega | (have j := i1 (by omega); simp_all; done) | (have j := he (i2 (by omega)); simp_all; done) | (have j := i2 (by omega); simp_all; done) | (have j := i3 (by omega); simp_all; done) | (have j := i4 (by omega); simp_all; done) | (have j := i5 (by omega); simp_all; done))), rfl⟩
 refine N8 ?_
 refine sP (I3 rfl rfl (by omega)) rfl rfl ?_
 refine D2 ?_
 refine sB (qE rfl rfl) rfl rfl (fun h130 => ?_) (fun h130 => ?_)
 refine sQ (qA rfl) rfl (sD (nS (tT (F0 (rT rfl) ?_))))
 exact ⟨rfl, by rw [hi.2 ⟨fun _ => by (first | assumption | (exfalso; omega)), fun _ => by (first | assumption | (exfalso; omega) | exact Classical.not_not.1 (by assumption)), fun _ => by (first | assumption | (exfalso; omega)), fun _ => by (first | assumption | (exfalso; omega)), fun _ => ⟨by (first | assumption | (exfalso; omega)), by (first | assumption | omega)⟩, by omega, by omega⟩], rfl⟩
 refine sQ (qA rfl) rfl (sD (nS (tT (F0 (rT rfl) ?_))))
 exact ⟨rfl, by (cases R with | false => rfl | true => (exfalso; obtain ⟨i1, i2, i3, i4, i5, i6, i7⟩ := hi.1 rfl; first | omega | (have j := i1 (by omega); simp_all; done) | (have j := he (i2 (by omega)); simp_all; done) | (have j := i2 (by omega); simp_all; done) | (have j := i3 (by omega); simp_all; done) | (have j := i4 (by omega); simp_all; done) | (have j := i5 (by omega); simp_all; done))), rfl⟩
 refine V7 ?_
 exact ⟨rfl, by (cases R with | false => rfl | true => (exfalso; obtain ⟨i1, i2, i3, i4, i5, i6, i7⟩ := hi.1 rfl; first | omega | (have j := i1 (by omega); simp_all; done) | (have j := he (i2 (by omega)); simp_all; done) | (have j := i2 (by omega); simp_all; done) | (have j := i3 (by omega); simp_all; done) | (have j := i4 (by omega); simp_all; done) | (have j := i5 (by omega); simp_all; done))), rfl⟩
 refine M1 ?_
 exact ⟨rfl, by (cases R with | false => rfl | true => (exfalso; obtain ⟨i1, i2, i3, i4, i5, i6, i7⟩ := hi.1 rfl; first | omega | (have j := i1 (by omega); simp_all; done) | (have j := he (i2 (by omega)); simp_all; done) | (have j := i2 (by omega); simp_all; done) | (have j := i3 (by omega); simp_all; done) | (have j := i4 (by omega); simp_all; done) | (have j := i5 (by omega); simp_all; done))), rfl⟩
 refine sQ (A7r rfl rfl rfl) rfl ?_
 refine A0i ?_
 refine D2 ?_
 exact ⟨rfl, by (cases R with | false => rfl | true => (exfalso; obtain ⟨i1, i2, i3, i4, i5, i6, i7⟩ := hi.1 rfl; first | omega | (have j := i1 (by omega); simp_all; done) | (have j := he (i2 (by omega)); simp_all; done) | (have j := i2 (by omega); simp_all; done) | (have j := i3 (by omega); simp_all; done) | (have j := i4 (by omega); simp_all; done) | (have j := i5 (by omega); simp_all; done))), rfl⟩
 refine J0 ?_
 refine sB (qE rfl rfl) rfl rfl (fun h221 => ?_) (fun h221 => ?_)
 refine D7 ?_
 refine sP (V6 rfl rfl (by omega)) rfl rfl ?_
 refine A0a ?_
 refine H3 rfl (o2) rfl rfl (fun h250 => ?_) (fun h250 => ?_)
 refine sQ (A16 rfl rfl rfl) rfl ?_
 refine M1 ?_
 refine H3 rfl (o3) rfl rfl (fun h266 => ?_) (fun h266 => ?_)
 refine A1A ?_
 refine sP (A0x rfl rfl (by omega)) rfl rfl ?_
 refine J0 ?_
 refine H3 rfl (o7) rfl rfl (fun h294 => ?_) (fun h294 => ?_)
 refine J5 ?_
 refine sB (R9 rfl rfl) rfl rfl (fun h299 => ?_) (fun h299 => ?_)
 refine L7 ?_
 exact ⟨rfl, by (cases R with | false => rfl | true => (exfalso; obtain ⟨i1, i2, i3, i4, i5, i6, i7⟩ := hi.1 rfl; first | omega | (have j := i1 (by omega); simp_all; done) | (have j := he (i2 (by omega)); simp_all; done) | (have j := i2 (by omega); simp_all; done) | (have j := i3 (by omega); simp_all; done) | (have j := i4 (by omega); simp_all; done) | (have j := i5 (by omega); simp_all; done))), rfl⟩
 refine N8 ?_
 refine sP (I3 rfl rfl (by omega)) rfl rfl ?_
 refine D2 ?_
 refine sB (qE rfl rfl) rfl rfl (fun h336 => ?_) (fun h336 => ?_)
 refine sQ (qA rfl) rfl (sD (nS (tT (F0 (rT rfl) ?_))))
 exact ⟨rfl, by rw [hi.2 ⟨fun _ => by (first | assumption | (exfalso; omega)), fun _ => by (first | assumption | (exfalso; omega) | exact Classical.not_not.1 (by assumption)), fun _ => by (first | assumption | (exfalso; omega)), fun _ => by (first | assumption | (exfalso; omega)), fun _ => ⟨by (first | assumption | (exfalso; omega)), by (first | assumption | omega)⟩, by omega, by omega⟩], rfl⟩
 refine sQ (qA rfl) rfl (sD (nS (tT (F0 (rT rfl) ?_))))
 exact ⟨rfl, by (cases R with | false => rfl | true => (exfalso; obtain ⟨i1, i2, i3, i4, i5, i6, i7⟩ := hi.1 rfl; first | omega | (have j := i1 (by omega); simp_all; done) | (have j := he (i2 (by omega)); simp_all; done) | (have j := i2 (by omega); simp_all; done) | (have j := i3 (by omega); simp_all; done) | (have j := i4 (by omega); simp_all; done) | (have j := i5 (by omega); simp_all; done))), rfl⟩
 refine V7 ?_
 exact ⟨rfl, by (cases R with | false => rfl | true => (exfalso; obtain ⟨i1, i2, i3, i4, i5, i6, i7⟩ := hi.1 rfl; first | omega | (have j := i1 (by omega); simp_all; done) | (have j := he (i2 (by omega)); simp_all; done) | (have j := i2 (by omega); simp_all; done) | (have j := i3 (by omega); simp_all; done) | (have j := i4 (by omega); simp_all; done) | (have j := i5 (by omega); simp_all; done))), rfl⟩
 refine A2n ?_
 exact ⟨rfl, by (cases R with | false => rfl | true => (exfalso; obtain ⟨i1, i2, i3, i4, i5, i6, i7⟩ := hi.1 rfl; first | omega | (have j := i1 (by omega); simp_all; done) | (have j := he (i2 (by omega)); simp_all; done) | (have j := i2 (by omega); simp_all; done) | (have j := i3 (by omega); simp_all; done) | (have j := i4 (by omega); simp_all; done) | (have j := i5 (by omega); simp_all; done))), rfl⟩
 refine sQ (A7r rfl rfl rfl) rfl ?_
 refine A0i ?_
 refine D2 ?_
 exact ⟨rfl, by (cases R with | false => rfl | true => (exfalso; obtain ⟨i1, i2, i3, i4, i5, i6, i7⟩ := hi.1 rfl; first | omega | (have j := i1 (by omega); simp_all; done) | (have j := he (i2 (by omega)); simp_all; done) | (have j := i2 (by omega); simp_all; done) | (have j := i3 (by omega); simp_all; done) | (have j := i4 (by omega); simp_all; done) | (have j := i5 (by omega); simp_all; done))), rfl⟩
 refine D7 ?_
 refine sP (I3 rfl rfl (by omega)) rfl rfl ?_
 refine J0 ?_
 refine sB (qE rfl rfl) rfl rfl (fun h446 => ?_) (fun h446 => ?_)
 refine I4 ?_
 refine H3 rfl (o2) rfl rfl (fun h462 => ?_) (fun h462 => ?_)
 refine sQ (A48 rfl rfl rfl) rfl ?_
 refine A0i ?_
 refine D2 ?_
 exact ⟨rfl, by (cases R with | false => rfl | true => (exfalso; obtain ⟨i1, i2, i3, i4, i5, i6, i7⟩ := hi.1 rfl; first | omega | (have j := i1 (by omega); simp_all; done) | (have j := he (i2 (by omega)); simp_all; done) | (have j := i2 (by omega); simp_all; done) | (have j := i3 (by omega); simp_all; done) | (have j := i4 (by omega); simp_all; done) | (have j := i5 (by omega); simp_all; done))), rfl⟩
 refine sQ (A16 rfl rfl rfl) rfl ?_
 refine I0 ?_
 refine sB (A1T rfl rfl) rfl rfl (fun h511 => ?_) (fun h511 => ?_)
 refine A0i ?_
 refine rS (F0 (rT rfl) ?_)
 exact ⟨rfl, by (cases R with | false => rfl | true => (exfalso; obtain ⟨i1, i2, i3, i4, i5, i6, i7⟩ := hi.1 rfl; first | omega | (have j := i1 (by omega); simp_all; done) | (have j := he (i2 (by omega)); simp_all; done) | (have j := i2 (by omega); simp_all; done) | (have j := i3 (by omega); simp_all; done) | (have j := i4 (by omega); simp_all; done) | (have j := i5 (by omega); simp_all; done))), rfl⟩
 refine D0 ?_
 refine H3 rfl (o3) rfl rfl (fun h552 => ?_) (fun h552 => ?_)
 refine A1A ?_
 refine sP (A0x rfl rfl (by omega)) rfl rfl ?_
 refine J0 ?_
 refine H3 rfl (o7) rfl rfl (fun h580 => ?_) (fun h580 => ?_)
 refine J5 ?_
 refine sB (R9 rfl rfl) rfl rfl (fun h585 => ?_) (fun h585 => ?_)
 refine L7 ?_
 exact ⟨rfl, by (cases R with | false => rfl | true => (exfalso; obtain ⟨i1, i2, i3, i4, i5, i6, i7⟩ := hi.1 rfl; first | omega | (have j := i1 (by omega); simp_all; done) | (have j := he (i2 (by omega)); simp_all; done) | (have j := i2 (by omega); simp_all; done) | (have j := i3 (by omega); simp_all; done) | (have j := i4 (by omega); simp_all; done) | (have j := i5 (by omega); simp_all; done))), rfl⟩
 refine N8 ?_
 refine sP (I3 rfl rfl (by omega)) rfl rfl ?_
 refine D2 ?_
 refine sB (qE rfl rfl) rfl rfl (fun h622 => ?_) (fun h622 => ?_)
 refine sQ (qA rfl) rfl (sD (nS (tT (F0 (rT rfl) ?_))))
 exact ⟨rfl, by rw [hi.2 ⟨fun _ => by (first | assumption | (exfalso; omega)), fun _ => by (first | assumption | (exfalso; omega) | exact Classical.not_not.1 (by assumption)), fun _ => by (first | assumption | (exfalso; omega)), fun _ => by (first | assumption | (exfalso; omega)), fun _ => ⟨by (first | assumption | (exfalso; omega)), by (first | assumption | omega)⟩, by omega, by omega⟩], rfl⟩
 refine sQ (qA rfl) rfl (sD (nS (tT (F0 (rT rfl) ?_))))
 exact ⟨rfl, by (cases R with | false => rfl | true => (exfalso; obtain ⟨i1, i2, i3, i4, i5, i6, i7⟩ := hi.1 rfl; first | omega | (have j := i1 (by omega); simp_all; done) | (have j := he (i2 (by omega)); simp_all; done) | (have j := i2 (by omega); simp_all; done) | (have j := i3 (by omega); simp_all; done) | (have j := i4 (by omega); simp_all; done) | (have j := i5 (by omega); simp_all; done))), rfl⟩
 refine V7 ?_
 exact ⟨rfl, by (cases R with | false => rfl | true => (exfalso; obtain ⟨i1, i2, i3, i4, i5, i6, i7⟩ := hi.1 rfl; first | omega | (have j := i1 (by omega); simp_all; done) | (have j := he (i2 (by omega)); simp_all; done) | (have j := i2 (by omega); simp_all; done) | (have j := i3 (by omega); simp_all; done) | (have j := i4 (by omega); simp_all; done) | (have j := i5 (by omega); simp_all; done))), rfl⟩
 refine A2n ?_
 exact ⟨rfl, by (cases R with | false => rfl | true => (exfalso; obtain ⟨i1, i2, i3, i4, i5, i6, i7⟩ := hi.1 rfl; first | omega | (have j := i1 (by omega); simp_all; done) | (have j := he (i2 (by omega)); simp_all; done) | (have j := i2 (by omega); simp_all; done) | (have j := i3 (by omega); simp_all; done) | (have j := i4 (by omega); simp_all; done) | (have j := i5 (by omega); simp_all; done))), rfl⟩
 refine J5 ?_
 refine sB (qE rfl rfl) rfl rfl (fun h683 => ?_) (fun h683 => ?_)
 refine L6 ?_
 refine H3 rfl (o2) rfl rfl (fun h694 => ?_) (fun h694 => ?_)
 refine sQ (A48 rfl rfl rfl) rfl ?_
 refine A0i ?_
 refine D2 ?_
 exact ⟨rfl, by (cases R with | false => rfl | true => (exfalso; obtain ⟨i1, i2, i3, i4, i5, i6, i7⟩ := hi.1 rfl; first | omega | (have j := i1 (by omega); simp_all; done) | (have j := he (i2 (by omega)); simp_all; done) | (have j := i2 (by omega); simp_all; done) | (have j := i3 (by omega); simp_all; done) | (have j := i4 (by omega); simp_all; done) | (have j := i5 (by omega); simp_all; done))), rfl⟩
 refine sQ (A16 rfl rfl rfl) rfl ?_
 refine I0 ?_
 refine sB (A1T rfl rfl) rfl rfl (fun h743 => ?_) (fun h743 => ?_)
 refine A0i ?_
 refine rS (F0 (rT rfl) ?_)
 exact ⟨rfl, by (cases R with | false => rfl | true => (exfalso; obtain ⟨i1, i2, i3, i4, i5, i6, i7⟩ := hi.1 rfl; first | omega | (have j := i1 (by omega); simp_all; done) | (have j := he (i2 (by omega)); simp_all; done) | (have j := i2 (by omega); simp_all; done) | (have j := i3 (by omega); simp_all; done) | (have j := i4 (by omega); simp_all; done) | (have j := i5 (by omega); simp_all; done))), rfl⟩
 refine D0 ?_
 refine H3 rfl (o3) rfl rfl (fun h784 => ?_) (fun h784 => ?_)
 refine A1A ?_
 refine sP (A4J rfl rfl (by omega)) rfl rfl ?_
 refine A0h ?_
 refine sP (I3 rfl rfl (by omega)) rfl rfl ?_
 refine D2 ?_
 refine sB (qE rfl rfl) rfl rfl (fun h840 => ?_) (fun h840 => ?_)
 refine sQ (qA rfl) rfl (sD (nS (tT (F0 (rT rfl) ?_))))
 exact ⟨rfl, by rw [hi.2 ⟨fun _ => by (first | assumption | (exfalso; omega)), fun _ => by (first | assumption | (exfalso; omega) | exact Classical.not_not.1 (by assumption)), fun _ => by (first | assumption | (exfalso; omega)), fun _ => by (first | assumption | (exfalso; omega)), fun _ => ⟨by (first | assumption | (exfalso; omega)), by (first | assumption | omega)⟩, by omega, by omega⟩], rfl⟩
 refine sQ (qA rfl) rfl (sD (nS (tT (F0 (rT rfl) ?_))))
 exact ⟨rfl, by (cases R with | false => rfl | true => (exfalso; obtain ⟨i1, i2, i3, i4, i5, i6, i7⟩ := hi.1 rfl; first | omega | (have j := i1 (by omega); simp_all; done) | (have j := he (i2 (by omega)); simp_all; done) | (have j := i2 (by omega); simp_all; done) | (have j := i3 (by omega); simp_all; done) | (have j := i4 (by omega); simp_all; done) | (have j := i5 (by omega); simp_all; done))), rfl⟩
 refine A2n ?_
 exact ⟨rfl, by (cases R with | false => rfl | true => (exfalso; obtain ⟨i1, i2, i3, i4, i5, i6, i7⟩ := hi.1 rfl; first | omega | (have j := i1 (by omega); simp_all; done) | (have j := he (i2 (by omega)); simp_all; done) | (have j := i2 (by omega); simp_all; done) | (have j := i3 (by omega); simp_all; done) | (have j := i4 (by omega); simp_all; done) | (have j := i5 (by omega); simp_all; done))), rfl⟩
 refine L6 ?_
 refine H3 rfl (o2) rfl rfl (fun h888 => ?_) (fun h888 => ?_)
 refine sQ (A48 rfl rfl rfl) rfl ?_
 refine A0i ?_
 refine D2 ?_
 exact ⟨rfl, by (cases R with | false => rfl | true => (exfalso; obtain ⟨i1, i2, i3, i4, i5, i6, i7⟩ := hi.1 rfl; first | omega | (have j := i1 (by omega); simp_all; done) | (have j := he (i2 (by omega)); simp_all; done) | (have j := i2 (by omega); simp_all; done) | (have j := i3 (by omega); simp_all; done) | (have j := i4 (by omega); simp_all; done) | (have j := i5 (by omega); simp_all; done))), rfl⟩
 refine sQ (A16 rfl rfl rfl) rfl ?_
 refine I0 ?_
 refine sB (A1T rfl rfl) rfl rfl (fun h937 => ?_) (fun h937 => ?_)
 refine A0i ?_
 refine rS (F0 (rT rfl) ?_)
 exact ⟨rfl, by (cases R with | false => rfl | true => (exfalso; obtain ⟨i1, i2, i3, i4, i5, i6, i7⟩ := hi.1 rfl; first | omega | (have j := i1 (by omega); simp_all; done) | (have j := he (i2 (by omega)); simp_all; done) | (have j := i2 (by omega); simp_all; done) | (have j := i3 (by omega); simp_all; done) | (have j := i4 (by omega); simp_all; done) | (have j := i5 (by omega); simp_all; done))), rfl⟩
 refine T2 ?_
 refine H3 rfl (o4) rfl rfl (fun h988 => ?_) (fun h988 => ?_)
 refine L7 ?_
 refine sP (A0x rfl rfl (by omega)) rfl rfl ?_
 refine J0 ?_
 refine H3 rfl (o7) rfl rfl (fun h1006 => ?_) (fun h1006 => ?_)
 refine J5 ?_
 refine sB (R9 rfl rfl) rfl rfl (fun h1011 => ?_) (fun h1011 => ?_)
 refine L7 ?_
 exact ⟨rfl, by (cases R with | false => rfl | true => (exfalso; obtain ⟨i1, i2, i3, i4, i5, i6, i7⟩ := hi.1 rfl; first | omega | (have j := i1 (by omega); simp_all; done) | (have j := he (i2 (by omega)); simp_all; done) | (have j := i2 (by omega); simp_all; done) | (have j := i3 (by omega); simp_all; done) | (have j := i4 (by omega); simp_all; done) | (have j := i5 (by omega); simp_all; done))), rfl⟩
 refine N8 ?_
 refine sB (qE rfl rfl) rfl rfl (fun h1038 => ?_) (fun h1038 => ?_)
 refine D0 ?_
 refine sB (A0Q rfl rfl) rfl rfl (fun h1046 => ?_) (fun h1046 => ?_)
 refine J0 ?_
 refine sB (Z9 rfl rfl) rfl rfl (fun h1050 => ?_) (fun h1050 => ?_)
 refine D0 ?_
 exact ⟨rfl, by rw [hi.2 ⟨fun _ => by (first | assumption | (exfalso; omega)), fun _ => by (first | assumption | (exfalso; omega) | exact Classical.not_not.1 (by assumption)), fun _ => by (first | assumption | (exfalso; omega)), fun _ => by (first | assumption | (exfalso; omega)), fun _ => ⟨by (first | assumption | (exfalso; omega)), by (first | assumption | omega)⟩, by omega, by omega⟩], rfl⟩
 refine D0 ?_
 exact ⟨rfl, by (cases R with | false => rfl | true => (exfalso; obtain ⟨i1, i2, i3, i4, i5, i6, i7⟩ := hi.1 rfl; first | omega | (have j := i1 (by omega); simp_all; done) | (have j := he (i2 (by omega)); simp_all; done) | (have j := i2 (by omega); simp_all; done) | (have j := i3 (by omega); simp_all; done) | (have j := i4 (by omega); simp_all; done) | (have j := i5 (by omega); simp_all; done))), rfl⟩
 refine K6 ?_
 exact ⟨rfl, by (cases R with | false => rfl | true => (exfalso; obtain ⟨i1, i2, i3, i4, i5, i6, i7⟩ := hi.1 rfl; first | omega | (have j := i1 (by omega); simp_all; done) | (have j := he (i2 (by omega)); simp_all; done) | (have j := i2 (by omega); simp_all; done) | (have j := i3 (by omega); simp_all; done) | (have j := i4 (by omega); simp_all; done) | (have j := i5 (by omega); simp_all; done))), rfl⟩
 refine D2 ?_
 refine sB (qE rfl rfl) rfl rfl (fun h1088 => ?_) (fun h1088 => ?_)
 refine sQ (qA rfl) rfl (sD (nS (tT (F0 (rT rfl) ?_))))
 exact ⟨rfl, by rw [hi.2 ⟨fun _ => by (first | assumption | (exfalso; omega)), fun _ => by (first | assumption | (exfalso; omega) | exact Classical.not_not.1 (by assumption)), fun _ => by (first | assumption | (exfalso; omega)), fun _ => by (first | assumption | (exfalso; omega)), fun _ => ⟨by (first | assumption | (exfalso; omega)), by (first | assumption | omega)⟩, by omega, by omega⟩], rfl⟩
 refine sQ (qA rfl) rfl (sD (nS (tT (F0 (rT rfl) ?_))))
 exact ⟨rfl, by (cases R with | false => rfl | true => (exfalso; obtain ⟨i1, i2, i3, i4, i5, i6, i7⟩ := hi.1 rfl; first | omega | (have j := i1 (by omega); simp_all; done) | (have j := he (i2 (by omega)); simp_all; done) | (have j := i2 (by omega); simp_all; done) | (have j := i3 (by omega); simp_all; done) | (have j := i4 (by omega); simp_all; done) | (have j := i5 (by omega); simp_all; done))), rfl⟩
 refine V7 ?_
 exact ⟨rfl, by (cases R with | false => rfl | true => (exfalso; obtain ⟨i1, i2, i3, i4, i5, i6, i7⟩ := hi.1 rfl; first | omega | (have j := i1 (by omega); simp_all; done) | (have j := he (i2 (by omega)); simp_all; done) | (have j := i2 (by omega); simp_all; done) | (have j := i3 (by omega); simp_all; done) | (have j := i4 (by omega); simp_all; done) | (have j := i5 (by omega); simp_all; done))), rfl⟩
 refine M1 ?_
 exact ⟨rfl, by (cases R with | false => rfl | true => (exfalso; obtain ⟨i1, i2, i3, i4, i5, i6, i7⟩ := hi.1 rfl; first | omega | (have j := i1 (by omega); simp_all; done) | (have j := he (i2 (by omega)); simp_all; done) | (have j := i2 (by omega); simp_all; done) | (have j := i3 (by omega); simp_all; done) | (have j := i4 (by omega); simp_all; done) | (have j := i5 (by omega); simp_all; done))), rfl⟩
mutual
def N7 (D N : Int) : Tm → Int → Bool
 | .mk k nm num ty fr lb ks, deep => decide (deep ≤ D) && decide (k ≠ N) && V8 k nm num ty fr lb ks.length && M4 D N ks (deep + 1)
def M4 (D N : Int) : List Tm → Int → Bool
 | [], _ => true
 | t :: ts, deep => N7 D N t deep && M4 D N ts deep
end
theorem A1D (D N : Int) : ∀ (ts : List Tm) (d : Int), M4 D N ts d = true ↔ ∀ i, (h : i < ts.length) → N7 D N ts[i] d = true
 | [], d => by simp [M4]
 | t :: ts, d => by
  simp only [M4, Bool.and_eq_true, A1D D N ts d]
  constructor
  ·rintro ⟨h1, h2⟩ i hi
   cases i with
   | zero => exact h1
   | succ i => exact h2 i (by simpa using hi)
  ·intro h
   exact ⟨h 0 (by simp), fun i hi => h (i + 1) (by simpa using hi)⟩
theorem A25 {D N : Int} {k : Int} {nm : ByteArray} {num : Int} {ty fr : Ty} {lb : Int} {ks : List Tm} {d : Int} (h : D < d ∨ k = N ∨ V8 k nm num ty fr lb ks.length = false) : N7 D N (.mk k nm num ty fr lb ks) d = false := by
 rw [N7]
 rcases h with h | h | h
 ·rw [decide_eq_false (by omega)]; rfl
 ·rw [decide_eq_false (p := k ≠ N) (by omega), Bool.and_false]; rfl
 ·rw [h, Bool.and_false]; rfl
theorem A17 {D N : Int} {k : Int} {nm : ByteArray} {num : Int} {ty fr : Ty} {lb : Int} {ks : List Tm} {d : Int} (h1 : d ≤ D) (h2 : k ≠ N) (h3 : V8 k nm num ty fr lb ks.length = true) : N7 D N (.mk k nm num ty fr lb ks) d = M4 D N ks (d + 1) := by
 rw [N7, decide_eq_true h1, decide_eq_true h2, h3]; rfl
theorem B1r {D N : Int} {ks : List Tm} {d : Int} {i : Nat} (hi : i < ks.length) (h : N7 D N ks[i] d = false) : M4 D N ks d = false := by
 cases hx : M4 D N ks d with
 | false => rfl
 | true => rw [(A1D D N ks d).1 hx i hi] at h; cases h
theorem B1s {k : Int} {nm : ByteArray} {num : Int} {ty fr : Ty} {lb : Int} {n : Nat} (hk : k ≠ 14) (ha : D1 k = n) : V8 k nm num ty fr lb n = true ↔
  (k = 1 ∨ k = 5 → Y6 nm = true) ∧ (¬(k = 1 ∨ k = 5) → nm = ⟨#[]⟩) ∧ (k = 5 ∨ k = 13 ∨ k = 14 → C9 ty = true) ∧ (¬(k = 5 ∨ k = 13 ∨ k = 14) → X5 ty = true) ∧ (k ≠ 14 → X5 fr = true ∧ lb = 0) ∧ (k = 2 → 0 ≤ num ∧ num ≤ 999) ∧ (k ≠ 2 → num = 0) := by
 rw [W8]
 simp only [S7, decide_eq_true_eq]
 constructor
 ·rintro ⟨_, h2, h3, h4, h5, h6, h7, _, h9⟩
  exact ⟨h2, h3, h6, h7, h9, h4, fun h => by have := h5 h; omega⟩
 ·rintro ⟨h2, h3, h6, h7, h9, h4, h5⟩
  exact ⟨ha, h2, h3, h4, fun h => by have := h5 h; omega, h6, h7, fun h => absurd h hk, h9⟩
theorem B1t {D N : Int} {k : Int} {nm : ByteArray} {num : Int} {ty fr : Ty} {lb : Int} {ks : List Tm} {d : Int} (h : N7 D N (.mk k nm num ty fr lb ks) d = true) : d ≤ D ∧ ∀ i, (hi : i < ks.length) → N7 D N ks[i] (d + 1) = true := by
 rw [N7] at h
 simp only [Bool.and_eq_true, decide_eq_true_eq] at h
 exact ⟨h.1.1.1, (A1D D N ks _).1 h.2⟩
mutual
theorem A49 (M D N : Int) : ∀ (t : Tm) (deep c : Int), c ≤ M → ((R6 M D N t deep c).1 = true ↔ N7 D N t deep = true ∧ c + E0 t ≤ M)
 | .mk k nm num ty fr lb ks, deep, c, hc => by
  rw [R6, E0]
  by_cases h : c + 1 > M ∨ deep > D ∨ k = N ∨ V8 k nm num ty fr lb ks.length = false
  ·rw [if_pos h]
   constructor
   ·intro h; cases h
   ·rintro ⟨h1, h2⟩
    rcases h with h | h
    ·omega
    ·rw [A25 h] at h1; cases h1
  ·rw [if_neg h]
   have hn : V8 k nm num ty fr lb ks.length = true := by
    cases hx : V8 k nm num ty fr lb ks.length with
    | true => rfl
    | false => exact absurd (Or.inr (Or.inr (Or.inr hx))) h
   rw [A17 (by omega) (by omega) hn, A7s M D N ks (deep + 1) (c + 1) (by omega)]
   constructor
   ·rintro ⟨a, b⟩; exact ⟨a, by omega⟩
   ·rintro ⟨a, b⟩; exact ⟨a, by omega⟩
theorem A7s (M D N : Int) : ∀ (ts : List Tm) (deep c : Int), c ≤ M → ((T4 M D N ts deep c).1 = true ↔ M4 D N ts deep = true ∧ c + H1 ts ≤ M)
 | [], deep, c, hc => by simp [T4, M4, H1]; omega
 | t :: ts, deep, c, hc => by
  have h0 := A49 M D N t deep c hc
  rw [T4, M4, H1, Bool.and_eq_true]
  by_cases h : (R6 M D N t deep c).1 = true
  ·rw [if_pos h, A6T M D N t deep c h, A7s M D N ts deep _ (h0.1 h).2]
   have := h0.1 h
   constructor
   ·rintro ⟨a, b⟩; exact ⟨⟨this.1, a⟩, by omega⟩
   ·rintro ⟨⟨_, a⟩, b⟩; exact ⟨a, by omega⟩
  ·rw [if_neg h]
   constructor
   ·intro h'; cases h'
   ·rintro ⟨⟨a, _⟩, b⟩
    exact absurd (h0.2 ⟨a, by omega⟩) h
end
theorem A7t (t : Tm) : P9 t = true ↔ N7 40 13 t 1 = true ∧ E0 t ≤ 200 := by
 have := A49 200 40 13 t 1 0 (by omega)
 rw [P9, this]
 constructor
 ·rintro ⟨a, b⟩; exact ⟨a, by omega⟩
 ·rintro ⟨a, b⟩; exact ⟨a, by omega⟩
theorem B1u (D N : Int) : ∀ (t : Tm) (d : Int) (G : IM) (cells : List Value), d ≤ 40 → N7 D N t (D + 1 - d) = true → E0 t ≤ 4294967296 → A9 G t cells →
  Fn Tryz.prog 98 [.agg ⟨cells⟩, .int .i64 d] [] G (H9 (.int .i64 (E0 t : Int)) G) := by
 refine Tm.ind fun k nm num ty fr lb ks ih d G cells hd hv hcnt hr => ?_
 have hone := hr.one
 obtain ⟨hv1, hv2⟩ := B1t hv
 obtain ⟨tk, tks⟩ := ty
 obtain ⟨fk, fks⟩ := fr
 obtain ⟨pt, ct, pf, cf, p, c, es, rfl, hk, hnum, hlb, hty, hfr, hsl, hkl⟩ := hr.open9
 have hn := hsl.le
 clear hr
 rw [E0] at hcnt ⊢
 refine B7 Tryz.func98 rfl Tryz.ntmps98 Tryz.results98 rfl ?_
 intro w0
 refine tS (tR ?_)
 refine sE (C2 rfl rfl) rfl (fun b3 => ?_)
 refine M1 ?_
 refine B6 ?_
 (refine J3 (fun (i : Nat) => ⟨[(6, .int .i64 i), (5, .int .i64 ((H1 (ks.take i) + 1 : Nat) : Int)), (2, .pointer (some ⟨b3, 0, none⟩)), (1, .int .i64 d)], [.blk b3 [.int .i64 k, .string nm, .int .i64 num, .int .i64 tk, .slice pt tks.length ct, .int .i64 fk, .slice pf fks.length cf, .int .i64 lb, .slice p ks.length c]], G⟩) (fun i => i ≤ ks.length) (fun i => ks.length - i) 0 ?_ ?_ ?_)
 exact C5
 exact Nat.zero_le _
 (rintro i hi)
 refine D0 ?_
 refine sB (J6 rfl rfl) rfl rfl (fun h30 => ?_) (fun h30 => ?_)
 refine sQ (qM rfl) rfl (sQ (qM rfl) rfl ?_)
 refine sP (A2S rfl rfl (by omega)) rfl rfl ?_
 refine sQ (O2 rfl rfl) rfl (sD (nS (qT rfl (tK (nS (tS ?_))))))
 refine B6 ?_
 refine R2 ?_
 (obtain ⟨b, o, e, rfl, hl, hat, hre, hgb⟩ := hsl.kidTm hkl (i := i) (by omega) (by omega); have htk := A0z (ks := ks) (i := i) (by omega); refine sP (B4 rfl rfl rfl (by omega)) rfl rfl ?_)
 refine sL (A5 rfl rfl (hat _) hl) rfl rfl ?_
 refine sQ (qM rfl) rfl ?_
 refine sP (O4 rfl rfl (by omega) (by omega)) rfl rfl ?_
 (have hvk := hv2 i (by omega); rw [show D + 1 - d + 1 = D + 1 - (d - 1) by omega] at hvk; refine H2 rfl (ih ks[i] (List.getElem_mem (by omega)) (d - 1) G _ (by omega) hvk (by omega) hre) rfl rfl ?_)
 refine sP (I2 rfl rfl (by omega) (by omega)) rfl rfl ?_
 refine I0 ?_
 refine sP (I2 rfl rfl (by omega) (by omega)) rfl rfl ?_
 refine sQ (qA rfl) rfl (sD ?_)
 (refine I9 (i + 1) ?_ ?_ ?_; rw [show ((H1 (ks.take (i + 1)) + 1 : Nat) : Int) = ((H1 (ks.take i) + 1 : Nat) : Int) + (E0 ks[i] : Int) from by rw [A0A (by omega)]; omega])
 exact C5
 omega
 omega
 refine A0y ?_
 (obtain rfl : i = ks.length := (by omega); rw [List.take_length]; exact ⟨rfl, rfl, rfl⟩)
theorem Sw.same {hp hp' : List A4} {e : A4} (h : Sw hp e e hp') : hp' = hp := by
 generalize he : e = e' at h
 have : ∀ {hp e e' hp'}, Sw hp e e' hp' → e = e' → hp' = hp := by
  intro hp e e' hp' h
  induction h with
  | here => rintro rfl; rfl
  | there _ ih => intro he; rw [ih he]
 subst he
 exact this h rfl
section
variable {P : Program} {Γ : K1} {env : K7} {hp : List A4} {G : IM} {ty : TypeId}
theorem A7u {d : Nat} {x y : Operand} {t el : TypeId} {i : K3} {sz by' : Nat} {zs : List Value} [hI : H5 P t i] {ie : K3} [hEl : H5 P el ie] (hd' : i.desc = .slice el) [hE : V5 P el sz by' zs] {p q : Option Addr} {c n m c2 : Nat} {cs news : List Value} {hp' : Option Addr → Nat → List A4}
  (hd : Nat.blt d Γ.n = true) (hx : evo env x = some (.slice p n c)) (hy : evo env y = some (.slice q m c2)) (hsz : Nat.blt 0 sz = true)
  (hm : ∀ p' c', Sw hp (.slc p c el sz n cs) (.slc p' c' el sz (n + m) (cs ++ news)) (hp' p' c'))
  (hS : Sl G q m c2 sz news) (h1 : ∀ u ∈ news, u.oneCell' = true) (hc : n ≤ c)
  (h63 : n + m ≤ maxLen) (hb : (n + m) * by' ≤ 140737488355328) :
  U8 P Γ ⟨env, hp, G⟩ (some d) (.call ⟨.builtin .append, ⟨[x, y]⟩, ⟨[t, t]⟩⟩) ty (I5 p) (fun σ' => ∃ p' c', σ' = ⟨(d, .slice p' (n + m) c') :: env, hp' p' c', G⟩) := by
 obtain ⟨hl, _, _, hat⟩ := hS
 rcases Nat.eq_zero_or_pos m with rfl | hm0
 ·obtain rfl : news = [] := List.length_eq_zero_iff.1 (by omega)
  have hpu := B0t (P := P) (Γ := Γ) (hp := hp) (G := G) (ty := ty) (t := t) (el := el) hd' hx hy hc
  refine ⟨fun a w hs pos af gd Q next hn => ?_⟩
  simp only [Oper.wp, hpu.run a w hs, Oper.upon]
  refine hn _ _ _ (hs.put d _ (by simpa using hd) hs.res) (Ext.refl _ _) ⟨p, c, ?_⟩
  have h0 := hm p c
  simp only [Nat.add_zero, List.append_nil] at h0 ⊢
  rw [h0.same]
 ·obtain ⟨b, o, full, rfl, hg, hv⟩ := hat.resolve_left (by omega)
  exact A4N hd' hd hx hy hsz hm (A2Q hg hv) hl h1 h63 hb
variable {K : Po} {ops : Array Oper} {rest : List Oper} {pos : String} {af : Array Edge} {gd : Option (Nat × Bool)}
theorem A3X {d : Nat} {x y : Operand} {t el : TypeId} {i : K3} {sz by' : Nat} {zs : List Value} [hI : H5 P t i] {ie : K3} [hEl : H5 P el ie] [hE : V5 P el sz by' zs] {p q : Option Addr} {c n m c2 : Nat} {cs news : List Value} {hp' : Option Addr → Nat → List A4}
  (hd' : i.desc = .slice el) (hd : Nat.blt d Γ.n = true) (hx : evo env x = some (.slice p n c)) (hy : evo env y = some (.slice q m c2)) (hsz : Nat.blt 0 sz = true)
  (hm : ∀ p' c', Sw hp (.slc p c el sz n cs) (.slc p' c' el sz (n + m) (cs ++ news)) (hp' p' c'))
  (hS : Sl G q m c2 sz news) (h1 : ∀ u ∈ news, u.oneCell' = true) (hc : n ≤ c)
  (h63 : n + m ≤ maxLen) (hb : (n + m) * by' ≤ 140737488355328) (hw : K5 ops env gd = some true)
  (k : ∀ p' c', E8 P Γ ops rest K ⟨(d, .slice p' (n + m) c') :: env, hp' p' c', G⟩) : E8 P Γ ops (⟨some d, .call ⟨.builtin .append, ⟨[x, y]⟩, ⟨[t, t]⟩⟩, ty, pos, af, gd⟩ :: rest) K ⟨env, hp, G⟩ :=
 I8 (A7u hd' hd hx hy hsz hm hS h1 hc h63 hb) hw (by rintro _ ⟨p', c', rfl⟩; exact k p' c')
theorem A2p {H : List (Nat × Nat)} {fuel : Nat} {listed l' : List Bool} {j d : Nat} {cs : List Value} {x y : Operand} {t el : TypeId} {i : K3} {sz by' : Nat} {zs : List Value} [hI : H5 P t i] {ie : K3} [hEl : H5 P el ie] [hE : V5 P el sz by' zs] {p q : Option Addr} {c n m c2 : Nat} {news : List Value} {hp' : Option Addr → Nat → List A4} {H' : List (Nat × Nat)}
  (hi : ops[j]? = some ⟨some d, .call ⟨.builtin .append, ⟨[x, y]⟩, ⟨[t, t]⟩⟩, ty, pos, af, gd⟩) (hd' : i.desc = .slice el)
  (hd : Nat.blt d Γ.n = true) (hx : evo env x = some (.slice p n c)) (hy : evo env y = some (.slice q m c2)) (hsz : Nat.blt 0 sz = true)
  (hm : ∀ p' c', Sw hp (.slc p c el sz n cs) (.slc p' c' el sz (n + m) (cs ++ news)) (hp' p' c'))
  (hS : Sl G q m c2 sz news) (h1 : ∀ u ∈ news, u.oneCell' = true) (hc : n ≤ c)
  (h63 : n + m ≤ maxLen) (hb : (n + m) * by' ≤ 140737488355328) (hw : K5 ops env gd = some true) (hl : listed.set j true = l')
  (hok : A8 ops j hp G (.slc p c el sz n cs) H H')
  (k : ∀ p' c', M8 P Γ ops K H' fuel l' ⟨(d, .slice p' (n + m) c') :: env, hp' p' c', G⟩) : U3 P Γ ops K H fuel listed j ⟨env, hp, G⟩ :=
 A2V hi (A7u hd' hd hx hy hsz hm hS h1 hc h63 hb) hw hl (fun _ _ hs => hok.spec hs) hok.filter (by rintro _ ⟨p', c', rfl⟩; exact k p' c')
theorem A0c {H H' : List (Nat × Nat)} {fuel : Nat} {listed l' : List Bool} {j d : Nat} {f : FuncId} [hF : B2 P f] {xs : List Operand} {ats : Array TypeId} {vs : List Value} {e : A4} {rst : List A4} {post : IM → Value → List A4 → Prop}
  (hi : ops[j]? = some ⟨some d, .call ⟨.value (.func f), ⟨xs⟩, ats⟩, ty, pos, af, gd⟩) (hx : evl env xs = some vs) (h : Fn P f vs [e] G post) (hp' : hp.Perm ([e] ++ rst)) (hw : K5 ops env gd = some true) (hd : Nat.blt d Γ.n = true) (hl : listed.set j true = l')
  (hok : A8 ops j hp G e H H')
  (k : ∀ v G' outs, B1 G G' → post G' v outs → M8 P Γ ops K H' fuel l' ⟨(d, v) :: env, outs ++ rst, G'⟩) : U3 P Γ ops K H fuel listed j ⟨env, hp, G⟩ :=
 A2V hi (A3E hx h hp' hd) hw hl (fun _ _ hs => by simpa [Fp] using hok.spec hs) hok.filter (by rintro _ ⟨v, G', outs, rfl, hle, hq⟩; exact k v G' outs hle hq)
end
section forget
variable {P : Program} {Γ : K1} {env : K7} {hp : List A4} {G : IM} {K : Po} {ops : Array Oper} {rest : List Oper} {ty : TypeId} {pos : String} {af : Array Edge} {gd : Option (Nat × Bool)}
end forget
def tAt : Tm → List Int → Option Tm
 | t, [] => some t
 | .mk _ _ _ _ _ _ ks, i :: is => if h : 0 ≤ i ∧ i < ks.length then tAt (ks[i.toNat]'(by omega)) is else none
def z9 : List Value := [.int .i64 0, .string ⟨⟨[]⟩⟩, .int .i64 0, .int .i64 0, .slice none 0 0, .int .i64 0, .slice none 0 0, .int .i64 0, .slice none 0 0]
def AtP (t : Tm) (path : List Int) (G : IM) : IM → Value → List A4 → Prop := fun G' v outs => G' = G ∧ outs = [] ∧
 ((∃ x cells, tAt t path = some x ∧ A9 G x cells ∧ v = .tuple ⟨[.agg ⟨cells⟩, .bool true]⟩) ∨ (tAt t path = none ∧ v = .tuple ⟨[.agg ⟨z9⟩, .bool false]⟩))
section slaw
variable {P : Program} {Γ : K1} {env : K7} {hp : List A4} {G : IM} {ty : TypeId} {K : Po} {ops : Array Oper} {rest : List Oper}
theorem A7v {x y : Operand} {t el : TypeId} {i : K3} {sz by' : Nat} {zs : List Value} [hI : H5 P t i] (hd' : i.desc = .slice el) [hE : V5 P el sz by' zs] {b o n c l : Nat}
  (hx : evo env x = some (.slice (some ⟨b, o, none⟩) n c)) (hy : evo env y = some (.int .i64 (l : Int))) (hl : l ≤ n) :
  I6 P Γ ⟨env, hp, G⟩ (.slice t x (some y) none none) ty (.slice (some ⟨b, if c = l then o else o + l * sz, none⟩) (n - l) (c - l)) := by
 refine ⟨fun a _ hs _ _ _ _ w => ?_⟩
 have hu := hI.und
 rw [hd'] at hu
 obtain ⟨d, hE⟩ := hE.ok
 obtain ⟨inf, z, t1, t2, t3, _⟩ := A1Y (P := P) (t := el)
 have e1 : a.eval x = _ := hs.evo hx
 have e2 : a.eval y = _ := hs.evo hy
 have hb : ∀ code, (Instr.sliceBound (.int .i64 (l : Int)) n code).run P w = .ok l w := fun code => by
  have := run_sliceBound (P := P) w .i64 (l : Int) n code (by omega) (by omega)
  simpa using this
 simp only [execOp, Option.map, e1, e2, Instr.sliceAt, Sem.run_bind, run_underlying hu, Result.andThen_ok, Instr.slice, Instr.sliceBounds, Sem.run_pure, hb, t3]
 by_cases h : c = l
 ·simp [h]
 ·simp [h, A1R]
theorem Sl.from {G : IM} {b o n c l sz : Nat} {cs : List Value} (h : Sl G (some ⟨b, o, none⟩) n c sz cs) (hl : l ≤ n) : Sl G (some ⟨b, if c = l then o else o + l * sz, none⟩) (n - l) (c - l) sz (cs.drop (l * sz)) := by
 obtain ⟨h1, h2, h3, h4⟩ := h
 refine ⟨by rw [List.length_drop, h1, Nat.sub_mul], by omega, by omega, ?_⟩
 by_cases h : c = l
 ·left; omega
 ·rcases h4 with h0 | ⟨b', o', full, he, hg, hv⟩
  ·left; omega
  ·right
   cases he
   rw [if_neg h]
   refine ⟨b, _, full, rfl, hg, fun j v hj => ?_⟩
   rw [List.getElem?_drop] at hj
   have := hv _ v hj
   rw [Nat.add_assoc]; exact this
theorem St.slc_open {a : Act} {w : World} {p : Option Addr} {c el sz n : Nat} {cs : List Value} {hp' : List A4} (hs : St Γ ⟨env, hp, G⟩ a w) (hk : Pk hp (.slc p c el sz n cs) hp') (h0 : 0 < n) :
  ∃ b C, p = some ⟨b, 0, none⟩ ∧ n ≤ c ∧ c ≤ maxLen ∧ St Γ ⟨env, .blk b (cs ++ C) :: hp', G⟩ a w := by
 have hown : R5 [.slc p c el sz n cs] G w := hs.res.own.of_mem hk.perm
 obtain ⟨hl, h⟩ := hown.ok _ List.mem_cons_self
 rcases h with ⟨hv, hn⟩ | ⟨g, cap, cur, hv, _, hg, hnc, hcm, hsz, ht⟩
 ·omega
 ·cases hv
  refine ⟨g, cur.toList.drop cs.length, rfl, hnc, hcm, ?_⟩
  have hcur : cur.toList = cs ++ cur.toList.drop cs.length := by
   have e : cs.length = n * sz := hl
   rw [e]
   conv => lhs; rw [← List.take_append_drop (n * sz) cur.toList, ht]
  have hr : Q4 [.slc (some ⟨g, 0, none⟩) c el sz n cs] G w [.blk g (cs ++ cur.toList.drop cs.length)] G w := by
   refine ⟨⟨hown.inn, ?_, by simp [Fp, A4.fp], ?_⟩, Ext.refl _ _, B1.refl _, fun _ _ h => .inl h, ?_, fun b l h h0 => absurd h (by rw [h0]; simp)⟩
   ·intro e he
    simp at he; subst he
    refine ⟨el, ?_⟩
    rw [← hcur]; simpa using hg
   ·intro b' hb; exact hown.disj b' (by simpa [Fp, A4.fp, I5] using hb)
   ·intro b' hb; exact .inr (by simpa [Fp, A4.fp, I5] using hb)
  exact ⟨hs.size, hs.nod, hs.env, by have := (hs.res.perm hk.perm).frame hr; simpa using this⟩
theorem A1E {p : Option Addr} {c el sz n : Nat} {cs : List Value} {hp' : List A4} (hk : Pk hp (.slc p c el sz n cs) hp') (h0 : 0 < n)
  (h : ∀ b C, p = some ⟨b, 0, none⟩ → n ≤ c → c ≤ maxLen → E8 P Γ ops rest K ⟨env, .blk b (cs ++ C) :: hp', G⟩) : E8 P Γ ops rest K ⟨env, hp, G⟩ :=
 ⟨fun a w hs => let ⟨b, C, h1, h2, h3, h4⟩ := hs.slc_open hk h0; (h b C h1 h2 h3).run a w h4⟩
end slaw
theorem B1v {es : List (List Value)} {j : Nat} {vs : List Value} (hj : j < es.length) : (es.set j vs).flatten = (es.take j).flatten ++ (vs ++ (es.drop (j + 1)).flatten) := by
 rw [List.set_eq_take_append_cons_drop, if_pos hj]; simp
theorem A7w {es : List (List Value)} {j : Nat} (hj : j < es.length) : es.flatten = (es.take j).flatten ++ (es[j] ++ (es.drop (j + 1)).flatten) := by
 have h := congrArg List.flatten (List.take_append_drop j es).symm
 rw [List.drop_eq_getElem_cons hj, List.flatten_append, List.flatten_cons] at h
 exact h
theorem A1F {es : List (List Value)} {C vs : List Value} {j sz : Nat} (hj : j < es.length) (ha : ∀ e ∈ es, e.length = sz) (hv : vs.length = sz) : Q5 (es.flatten ++ C) (0 + j * sz) vs = some ((es.set j vs).flatten ++ C) := by
 have := A3R (A := (es.take j).flatten) (B := es[j]) (C := (es.drop (j + 1)).flatten ++ C) (V := vs) (o := 0 + j * sz)
  (by rw [X6 (fun e he => ha e (List.mem_of_mem_take he)), List.length_take]; rw [Nat.min_eq_left (by omega)]; omega) (by rw [ha _ (List.getElem_mem hj), hv])
 rw [A7w hj, B1v hj]
 simp only [List.append_assoc] at this ⊢
 exact this
theorem C8.set {G : IM} : ∀ {ks : List Tm} {es : List (List Value)} {j : Nat} {y : Tm} {v : List Value}, C8 G ks es → A9 G y v → C8 G (ks.set j y) (es.set j v)
 | [], es, j, y, v, h, h2 => by simp only [C8] at h; subst h; simp [C8]
 | t :: ts, es, 0, y, v, h, h2 => by
  simp only [C8] at h
  obtain ⟨a, r, rfl, h3, h4⟩ := h
  simp only [List.set_cons_zero, C8]
  exact ⟨v, r, rfl, h2, h4⟩
 | t :: ts, es, j + 1, y, v, h, h2 => by
  simp only [C8] at h
  obtain ⟨a, r, rfl, h3, h4⟩ := h
  simp only [List.set_cons_succ, C8]
  exact ⟨a, r.set j v, rfl, h3, C8.set h4 h2⟩
def A7x : Tm → List Int → Tm → Tm
 | _, [], x => x
 | .mk k nm num ty fr lb ks, i :: is, x => if h : 0 ≤ i ∧ i < ks.length then .mk k nm num ty fr lb (ks.set i.toNat (A7x (ks[i.toNat]'(by omega)) is x)) else .mk k nm num ty fr lb ks
def P0 : Ty := .mk 1 []
def P7 : Nat → Ty → Prop
 | 0, .mk k ks => ks = [] ∧ k ≠ 4 ∧ k ≠ 5
 | n + 1, .mk k ks => (k = 4 ∨ k = 5 → ks.length = 2) ∧ (k ≠ 4 → k ≠ 5 → ks.length = 0) ∧ ∀ t ∈ ks, P7 n t
mutual
def D8 : Ty → Prop
 | .mk k ks => (k = 4 ∨ k = 5 → ks.length = 2) ∧ (k ≠ 4 → k ≠ 5 → ks.length = 0) ∧ A0D ks
def A0D : List Ty → Prop
 | [] => True
 | t :: ts => D8 t ∧ A0D ts
end
theorem A26 : ∀ {ts : List Ty}, A0D ts ↔ ∀ t ∈ ts, D8 t
 | [] => by simp [A0D]
 | t :: ts => by simp only [A0D, A26 (ts := ts), List.forall_mem_cons]
theorem P7.ar : ∀ {n : Nat} {t : Ty}, P7 n t → D8 t
 | 0, .mk k ks, h => by
  obtain ⟨rfl, h1, h2⟩ := h
  rw [D8]
  exact ⟨fun h => by omega, fun _ _ => rfl, by rw [A0D]; trivial⟩
 | n + 1, .mk k ks, h => by
  obtain ⟨h1, h2, h3⟩ := h
  rw [D8]
  exact ⟨h1, h2, A26.2 fun t ht => (h3 t ht).ar⟩
theorem P7.up : ∀ {n : Nat} {t : Ty}, P7 n t → P7 (n + 1) t
 | 0, .mk k ks, h => by
  obtain ⟨rfl, h1, h2⟩ := h
  exact ⟨fun h => by omega, fun _ _ => rfl, by simp⟩
 | n + 1, .mk k ks, h => by
  obtain ⟨h1, h2, h3⟩ := h
  exact ⟨h1, h2, fun t ht => (h3 t ht).up⟩
theorem P7.le {n m : Nat} {t : Ty} (h : P7 n t) (hm : n ≤ m) : P7 m t := by
 induction hm with
 | refl => exact h
 | step _ ih => exact ih.up
theorem B1w {d : Nat} {k : Int} {ts : List Ty} (h0 : d = 0 → k < 4) (hl : (ts.length : Int) = S1 k) (h1 : 1 ≤ k) (h5 : k ≤ 5) (ha : ∀ u ∈ ts, P7 (d - 1) u) : P7 d (.mk k ts) := by
 have hk : k = 1 ∨ k = 2 ∨ k = 3 ∨ k = 4 ∨ k = 5 := by omega
 cases d with
 | zero =>
  have hk4 := h0 rfl
  refine ⟨?_, by omega, by omega⟩
  have : S1 k = 0 := by
   rcases hk with rfl | rfl | rfl | rfl | rfl <;> first | rfl | omega
  exact List.length_eq_zero_iff.1 (by omega)
 | succ d =>
  refine ⟨?_, ?_, ha⟩
  ·rintro (rfl | rfl)
   ·have : S1 4 = 2 := rfl
    omega
   ·have : S1 5 = 2 := rfl
    omega
  ·intro h4 h5
   have : S1 k = 0 := by
    rcases hk with rfl | rfl | rfl | rfl | rfl <;> first | rfl | omega
   omega
theorem A7y (n : Nat) : P7 n P0 := by
 refine P7.le (n := 0) ⟨rfl, by decide, by decide⟩ (Nat.zero_le n)
theorem A2q (n : Nat) {k : Int} (h4 : k ≠ 4) (h5 : k ≠ 5) : P7 n (.mk k []) := P7.le (n := 0) ⟨rfl, h4, h5⟩ (Nat.zero_le n)
theorem A27 : D8 P0 := (A7y 0).ar
mutual
theorem D8.small : ∀ {t : Ty}, D8 t → t.small
 | .mk k ks, h => by
  rw [D8] at h
  rw [Ty.small]
  exact ⟨by have h1 := h.1; have h2 := h.2.1; omega, A0D.small h.2.2⟩
theorem A0D.small : ∀ {ts : List Ty}, A0D ts → Ty.smallL ts
 | [], _ => by rw [Ty.smallL]; trivial
 | t :: ts, h => by
  rw [A0D] at h
  rw [Ty.smallL]
  exact ⟨h.1.small, A0D.small h.2⟩
end
theorem A3Y : ∀ {n : Nat} {t : Ty}, P7 n t → H4 t ≤ ((2 ^ (n + 1) - 2 : Nat) : Int)
 | 0, .mk k ks, h => by
  obtain ⟨rfl, h1, h2⟩ := h
  rw [H4, K9]; simp
 | n + 1, .mk k ks, h => by
  obtain ⟨h1, h2, h3⟩ := h
  have hp : 2 ≤ 2 ^ (n + 1) := by
   have := Nat.pow_le_pow_right (n := 2) (by omega) (show 1 ≤ n + 1 by omega)
   simpa using this
  have e : 2 ^ (n + 1 + 1) = 2 ^ (n + 1) * 2 := Nat.pow_succ ..
  have hl : ks.length = 0 ∨ ks.length = 2 := by omega
  rw [H4]
  match ks, hl, h3 with
  | [], _, _ => rw [K9]; simp
  | [a, b], _, h3 =>
   have := A3Y (h3 a (by simp))
   have := A3Y (h3 b (by simp))
   simp only [K9, List.length_cons, List.length_nil]; omega
theorem B1x {k : Int} {ks us : List Ty} : ∀ {n : Nat}, P7 n (.mk k ks) → us.length = ks.length → (∀ u ∈ us, P7 (n - 1) u) → P7 n (.mk k us)
 | 0, h, hl, _ => by
  obtain ⟨rfl, h1, h2⟩ := h
  exact ⟨List.length_eq_zero_iff.1 (by simpa using hl), h1, h2⟩
 | n + 1, h, hl, hu => by
  obtain ⟨h1, h2, h3⟩ := h
  exact ⟨fun hk => by rw [hl]; exact h1 hk, fun a b => by rw [hl]; exact h2 a b, hu⟩
theorem A5a {k : Int} {ks : List Ty} {t : Ty} : ∀ {n : Nat}, P7 n (.mk k ks) → t ∈ ks → P7 (n - 1) t
 | 0, h, ht => by
  obtain ⟨rfl, h1, h2⟩ := h
  simp at ht
 | n + 1, h, ht => h.2.2 t ht
def S3 : Ty := .mk 2 []
def W9 : Ty := .mk 3 []
mutual
def P1 : Ty → Ty → Bool
 | .mk k ks, t => decide (k = t.k) && A0k ks t.ks
def A0k : List Ty → List Ty → Bool
 | [], [] => true
 | a :: xs, b :: ys => P1 a b && A0k xs ys
 | _, _ => false
end
theorem A5b (k k' : Int) (ks ks' : List Ty) : P1 (.mk k ks) (.mk k' ks') = (decide (k = k') && A0k ks ks') := by rw [P1]; rfl
mutual
theorem A08 : ∀ (a b : Ty), P1 a b = true ↔ a = b
 | .mk k ks, .mk k' ks' => by
  rw [A5b, Bool.and_eq_true, decide_eq_true_eq, A7z ks ks', Ty.mk.injEq]
theorem A7z : ∀ (xs ys : List Ty), A0k xs ys = true ↔ xs = ys
 | [], [] => by simp [A0k]
 | [], b :: ys => by simp [A0k]
 | a :: xs, [] => by simp [A0k]
 | a :: xs, b :: ys => by
  rw [A0k, Bool.and_eq_true, A08 a b, A7z xs ys, List.cons.injEq]
end
theorem A7A (a : Ty) : P1 a a = true := (A08 a a).2 rfl
theorem A7B : ∀ (xs ys : List Ty), A0k xs ys = true ↔ xs.length = ys.length ∧ ∀ i, (h : i < xs.length) → (h' : i < ys.length) → P1 xs[i] ys[i] = true
 | [], [] => by simp [A0k]
 | [], b :: ys => by simp [A0k]
 | a :: xs, [] => by simp [A0k]
 | a :: xs, b :: ys => by
  simp only [A0k, Bool.and_eq_true, A7B xs ys, List.length_cons]
  constructor
  ·rintro ⟨h1, h2, h3⟩
   refine ⟨by omega, fun i hi hi' => ?_⟩
   cases i with
   | zero => exact h1
   | succ i => exact h3 i (by simpa using hi) (by simpa using hi')
  ·rintro ⟨h1, h2⟩
   exact ⟨h2 0 (by simp) (by simp), by omega, fun i hi hi' => h2 (i + 1) (by simpa using hi) (by simpa using hi')⟩

abbrev Cx := List (ByteArray × Ty)
def X0 (cx : Cx) (nm : ByteArray) : Nat → Option Ty
 | 0 => none
 | n + 1 => match cx[n]? with
  | some b => if b.1 = nm then some b.2 else X0 cx nm n
  | none => X0 cx nm n
def Z2 (cx : Cx) (nm : ByteArray) : Option Ty := X0 cx nm cx.length
theorem A5c {cx : Cx} {nm x : ByteArray} {n : Nat} {t : Ty} (h : cx[n]? = some (x, t)) (he : x = nm) : X0 cx nm (n + 1) = some t := by
 rw [X0, h]; simp only [he, if_true]
theorem A5d {cx : Cx} {nm x : ByteArray} {n : Nat} {t : Ty} (h : cx[n]? = some (x, t)) (he : ¬x = nm) : X0 cx nm (n + 1) = X0 cx nm n := by
 rw [X0, h]; simp only [he, if_false]

mutual
def T5 : Ty → Ty → Ty
 | .mk k ks, b => if k = 1 then b else if b.k = 1 then .mk k ks else .mk k (R7 ks b.ks)
def R7 : List Ty → List Ty → List Ty
 | a :: xs, b :: ys => T5 a b :: R7 xs ys
 | _, _ => []
end
theorem A0W (k k' : Int) (ks ks' : List Ty) : T5 (.mk k ks) (.mk k' ks') = if k = 1 then .mk k' ks' else if k' = 1 then .mk k ks else .mk k (R7 ks ks') := by rw [T5]; rfl
def R3 (kind : Int) (t : Ty) : Option (Ty × Ty) :=
 if t.k = kind then some (t.ks.getD 0 A7, t.ks.getD 1 A7) else if t.k = 1 then some (P0, P0) else none
def M5 (cx : Cx) (k : Int) (nm : ByteArray) (ty : Ty) (h : List Ty) : Option (List Ty × Ty) :=
 if k = 1 then (match Z2 cx nm with | some t => some ([], t) | none => none)
 else if k = 2 then some ([], S3)
 else if k = 3 ∨ k = 4 then some ([], W9)
 else if k = 5 then some ([], .mk 4 [ty, h.getD 0 A7])
 else if k = 6 then (match R3 4 (h.getD 0 A7) with | some (a, b) => if J7 (h.getD 1 A7) a = true then some ([.mk 4 [a, b], a], b) else none | none => none)
 else if k = 7 ∨ k = 8 then (if J7 (h.getD 0 A7) S3 = true ∧ J7 (h.getD 1 A7) S3 = true then some ([S3, S3], if k = 8 then W9 else S3) else none)
 else if k = 9 then (if J7 (h.getD 0 A7) W9 = true ∧ J7 (h.getD 1 A7) (h.getD 2 A7) = true then some ([W9, T5 (h.getD 1 A7) (h.getD 2 A7), T5 (h.getD 1 A7) (h.getD 2 A7)], T5 (h.getD 1 A7) (h.getD 2 A7)) else none)
 else if k = 10 then some ([], .mk 5 [h.getD 0 A7, h.getD 1 A7])
 else if k = 13 then (if J7 (h.getD 0 A7) ty = true then some ([ty], ty) else none)
 else (match R3 5 (h.getD 0 A7) with | some (a, b) => some ([.mk 5 [a, b]], if k = 12 then b else a) | none => none)
def Y8 (cx : Cx) (k : Int) (nm : ByteArray) (ty : Ty) (h : List Ty) : Option (List Ty × Ty) := match M5 cx k nm ty h with
 | some (w, t) => if C9 t = true then some (w, t) else none
 | none => none
def A28 : List Ty → List Ty → Bool
 | [], _ => true
 | a :: xs, b :: ys => P1 a b && A28 xs ys
 | _ :: _, [] => false
def O6 (cx : Cx) (k : Int) (nm : ByteArray) (ty : Ty) : Cx := if k = 5 then cx ++ [(nm, ty)] else cx
mutual
def A0E (cx : Cx) : Tm → Option Ty
 | .mk k nm num ty fr lb ks => match X7 (O6 cx k nm ty) ks with
  | none => none
  | some h => if k = 14 then (if P1 (h.getD 0 A7) fr = true then some ty else none)
   else match Y8 cx k nm ty h with
    | none => none
    | some (w, t) => if A28 w h = true then some t else none
def X7 (cx : Cx) : List Tm → Option (List Ty)
 | [] => some []
 | t :: ts => match A0E cx t with
  | none => none
  | some u => match X7 cx ts with
   | none => none
   | some us => some (u :: us)
end
def B5G (e : Tm) : Option Ty := if P9 e = true then A0E [] e else none
theorem Y9 (t : Tm) : M3 t = true ↔ N7 12 14 t 1 = true ∧ E0 t ≤ 30 := by
 have := A49 30 12 14 t 1 0 (by omega)
 rw [M3, this]
 constructor
 ·rintro ⟨a, b⟩; exact ⟨a, by omega⟩
 ·rintro ⟨a, b⟩; exact ⟨a, by omega⟩
theorem B1y : ∀ (t : Tm) (d : Int) (G : IM) (cells : List Value), 0 ≤ d ∧ d ≤ 12 → A9 G t cells →
  Fn Tryz.prog 97 [.agg ⟨cells⟩, .int .i64 d] [] G (H9 (.bool (N7 12 14 t (13 - d))) G) := by
 refine Tm.ind fun k nm num ty fr lb ks ih d G cells hd hr => ?_
 have hr0 := hr
 have hne := fun h : k ≠ 14 => @B1s k nm num ty fr lb ks.length h
 have har := fun h : V8 k nm num ty fr lb ks.length = true => (W8.1 h).1
 obtain ⟨R, hR⟩ : ∃ R, V8 k nm num ty fr lb ks.length = R := ⟨_, rfl⟩
 rw [hR] at hne har
 have hl2 := B1q k nm num ty fr lb ks G cells hr0 R
 have hk1 := B1k k G
 obtain ⟨tk, tks⟩ := ty
 obtain ⟨fk, fks⟩ := fr
 obtain ⟨pt, ct, pf, cf, p, c, es, rfl, hk, hnum, hlb, hty, hfr, hsl, hkl⟩ := hr.open9
 have hn := hsl.le
 clear hr hr0
 refine B7 Tryz.func97 rfl Tryz.ntmps97 Tryz.results97 rfl ?_
 intro w0
 refine tS (tR ?_)
 refine sE (C2 rfl rfl) rfl (fun b3 => ?_)
 refine sQ (qA rfl) rfl (sD (nS (tS (tS ?_))))
 refine E4 E7 rfl ?_
 refine K2 (i := 0) (l' := [tt,ff,ff,ff,ff,ff,ff,ff,ff,ff,ff,ff,ff,ff,ff,ff,ff,ff,ff,ff,ff]) rfl D6 (qM rfl) rfl (by kernel_rfl) rfl rfl ?_
 refine A1Q (i := 1) (l' := [tt,tt,ff,ff,ff,ff,ff,ff,ff,ff,ff,ff,ff,ff,ff,ff,ff,ff,ff,ff,ff]) rfl D6 (J6 rfl rfl) rfl (by kernel_rfl) rfl rfl (fun h11 => ?_) (fun h11 => ?_)
 refine aP 2 rfl (qM rfl) rfl ?_
 refine E5 3 rfl rfl rfl ?_
 refine E5 4 rfl rfl rfl ?_
 refine E5 6 rfl rfl rfl ?_
 refine E5 7 rfl rfl rfl ?_
 refine E5 8 rfl rfl rfl ?_
 refine E5 5 rfl rfl rfl ?_
 refine E5 9 rfl rfl rfl ?_
 refine aP 10 rfl (O2 rfl rfl) rfl ?_
 refine aP 11 rfl (qM rfl) rfl ?_
 refine E5 12 rfl rfl rfl ?_
 refine E5 13 rfl rfl rfl ?_
 refine E5 14 rfl rfl rfl ?_
 refine aP 15 rfl (O2 rfl rfl) rfl ?_
 refine aP 16 rfl (qM rfl) rfl ?_
 refine E5 17 rfl rfl rfl ?_
 refine E5 18 rfl rfl rfl ?_
 refine E5 19 rfl rfl rfl ?_
 refine aP 20 rfl (O2 rfl rfl) rfl ?_
 refine K6 ?_
 (rw [A25 (by rw [hR]; first | omega | exact .inr (.inr (by assumption)) | exact .inr (.inr (by cases R with | false => rfl | true => exact absurd (har rfl) (by omega))))]; exact ⟨rfl, rfl, rfl⟩)
 refine aP 2 rfl (qM rfl) rfl ?_
 refine aP 3 rfl (B8 rfl) rfl ?_
 refine aL 4 rfl (C7 rfl rfl) rfl ?_
 refine aP 6 rfl (B8 rfl) rfl ?_
 refine aL 7 rfl (C7 rfl rfl) rfl ?_
 refine aP 8 rfl (pLn rfl rfl) rfl ?_
 refine A3 5 ?_
 refine P5 rfl rfl (hk1) rfl rfl rfl ?_
 refine A1Q (i := 9) (l' := [tt,tt,tt,tt,tt,tt,tt,tt,tt,tt,ff,ff,ff,ff,ff,ff,ff,ff,ff,ff,ff]) rfl D6 (R9 rfl rfl) rfl (by kernel_rfl) rfl rfl (fun h51 => ?_) (fun h51 => ?_)
 refine aP 10 rfl (S5 rfl rfl) rfl ?_
 refine aP 11 rfl (qM rfl) rfl ?_
 refine E5 12 rfl rfl rfl ?_
 refine E5 13 rfl rfl rfl ?_
 refine E5 14 rfl rfl rfl ?_
 refine aP 15 rfl (O2 rfl rfl) rfl ?_
 refine aP 16 rfl (qM rfl) rfl ?_
 refine E5 17 rfl rfl rfl ?_
 refine E5 18 rfl rfl rfl ?_
 refine E5 19 rfl rfl rfl ?_
 refine aP 20 rfl (O2 rfl rfl) rfl ?_
 refine K6 ?_
 (rw [A25 (by rw [hR]; first | omega | exact .inr (.inr (by assumption)) | exact .inr (.inr (by cases R with | false => rfl | true => exact absurd (har rfl) (by omega))))]; exact ⟨rfl, rfl, rfl⟩)
 refine aP 10 rfl (S5 rfl rfl) rfl ?_
 refine aP 11 rfl (qM rfl) rfl ?_
 refine aP 12 rfl (B8 rfl) rfl ?_
 refine aL 13 rfl (C7 rfl rfl) rfl ?_
 refine A1Q (i := 14) (l' := [tt,tt,tt,tt,tt,tt,tt,tt,tt,tt,tt,tt,tt,tt,tt,ff,ff,ff,ff,ff,ff]) rfl D6 (qE rfl rfl) rfl (by kernel_rfl) rfl rfl (fun h79 => ?_) (fun h79 => ?_)
 refine aP 15 rfl (S5 rfl rfl) rfl ?_
 refine aP 16 rfl (qM rfl) rfl ?_
 refine E5 17 rfl rfl rfl ?_
 refine E5 18 rfl rfl rfl ?_
 refine E5 19 rfl rfl rfl ?_
 refine aP 20 rfl (O2 rfl rfl) rfl ?_
 refine K6 ?_
 (rw [A25 (by rw [hR]; first | omega | exact .inr (.inr (by assumption)) | exact .inr (.inr (by cases R with | false => rfl | true => exact absurd (har rfl) (by omega))))]; exact ⟨rfl, rfl, rfl⟩)
 refine aP 15 rfl (S5 rfl rfl) rfl ?_
 refine aP 16 rfl (qM rfl) rfl ?_
 refine aL 17 rfl (A2 rfl rfl) rfl ?_
 refine A3 18 ?_
 refine U9 rfl rfl (hl2 (hne (by omega) (by omega))) rfl rfl rfl (fun h102 => ?_) (fun h102 => ?_)
 refine aP 19 rfl (pNt rfl) rfl ?_
 refine aP 20 rfl (S5 rfl rfl) rfl ?_
 refine K6 ?_
 refine B6 ?_
 (refine J3 (fun (i : Nat) => ⟨[(5, .int .i64 i), (2, .pointer (some ⟨b3, 0, none⟩)), (1, .int .i64 d)], [.blk b3 [.int .i64 k, .string nm, .int .i64 num, .int .i64 tk, .slice pt tks.length ct, .int .i64 fk, .slice pf fks.length cf, .int .i64 lb, .slice p ks.length c]], G⟩) (fun i => i ≤ ks.length ∧ ∀ j (h : j < ks.length), j < i → N7 12 14 ks[j] (13 - d + 1) = true) (fun i => ks.length - i) 0 ?_ ?_ ?_)
 exact C5
 exact ⟨by omega, by omega⟩
 (rintro i ⟨hi, hf⟩)
 refine D0 ?_
 refine sB (J6 rfl rfl) rfl rfl (fun h128 => ?_) (fun h128 => ?_)
 refine sD (nS (qT rfl (tK (nS (tS ?_)))))
 refine B6 ?_
 refine R2 ?_
 (obtain ⟨b, o, e, rfl, hl, hat, hre, hgb⟩ := hsl.kidTm hkl (i := i) (by omega) (by omega); refine sP (B4 rfl rfl rfl (by omega)) rfl rfl ?_)
 refine sL (A5 rfl rfl (hat _) hl) rfl rfl ?_
 refine sQ (qM rfl) rfl ?_
 refine sP (O4 rfl rfl (by omega) (by omega)) rfl rfl ?_
 (have hih := ih ks[i] (List.getElem_mem (by omega)) (d - 1) G _ (by omega) hre; rw [show 13 - (d - 1) = 13 - d + 1 by omega] at hih; refine H3 rfl hih rfl rfl (fun h145 => ?_) (fun h145 => ?_))
 refine D2 ?_
 refine sP (I2 rfl rfl (by omega) (by omega)) rfl rfl ?_
 refine sQ (qA rfl) rfl (sD ?_)
 refine I9 (i + 1) ?_ ?_ ?_
 exact C5
 exact ⟨by omega, fun j hj hji => by (by_cases he : j = i; (subst he; assumption); exact hf j hj (by omega))⟩
 omega
 refine K8 ?_
 (rw [A17 (by omega) (by omega) (hR.trans (by assumption)), B1r (i := i) (by omega) (by assumption)]; exact ⟨rfl, rfl, rfl⟩)
 refine I4 ?_
 (rw [A17 (by omega) (by omega) (hR.trans (by assumption)), (A1D 12 14 ks _).2 (fun j hj => hf j hj (by omega))]; exact ⟨rfl, rfl, rfl⟩)
 refine aP 19 rfl (pNf rfl) rfl ?_
 refine aP 20 rfl (S5 rfl rfl) rfl ?_
 refine K6 ?_
 (rw [A25 (by rw [hR]; first | omega | exact .inr (.inr (by assumption)) | exact .inr (.inr (by cases R with | false => rfl | true => exact absurd (har rfl) (by omega))))]; exact ⟨rfl, rfl, rfl⟩)
theorem A5e (t : Tm) (G : IM) (cells : List Value) (hcnt : E0 t ≤ 4294967296) (hr : A9 G t cells) :
  Fn Tryz.prog 66 [.agg ⟨cells⟩] [] G (H9 (.bool (M3 t)) G) := by
 have hl := hr.len
 have hv := B1y t 12 G cells (by omega) hr
 have hc := fun h => B1u 12 14 t 12 G cells (by omega) h hcnt hr
 have hi := Y9 t
 obtain ⟨R, hR⟩ : ∃ R, M3 t = R := ⟨_, rfl⟩
 rw [hR] at hi ⊢
 refine B7 Tryz.func66 rfl Tryz.ntmps66 Tryz.results66 rfl ?_
 intro w0
 refine tS (tR ?_)
 refine sE (C2 rfl rfl) rfl (fun b3 => ?_)
 refine sQ (qA rfl) rfl (sD (nS (tS (tR ?_))))
 refine sL (A5 rfl rfl (B5 (by repeat first | exact mH | apply mT)) (by assumption)) rfl rfl ?_
 refine H3 rfl (hv) rfl rfl (fun h10 => ?_) (fun h10 => ?_)
 refine sQ (qM rfl) rfl ?_
 refine sL (A5 rfl rfl (B5 (by repeat first | exact mH | apply mT)) (by assumption)) rfl rfl ?_
 refine H2 rfl (hc (by assumption)) rfl rfl ?_
 refine sB (Z9 rfl rfl) rfl rfl (fun h14 => ?_) (fun h14 => ?_)
 refine I0 ?_
 exact ⟨rfl, by rw [hi.2 ⟨by assumption, by omega⟩], rfl⟩
 refine I0 ?_
 exact ⟨rfl, by (cases R with | false => rfl | true => (exfalso; have h0 := hi.1 rfl; first | omega | simp_all)), rfl⟩
 refine L6 ?_
 exact ⟨rfl, by (cases R with | false => rfl | true => (exfalso; have h0 := hi.1 rfl; first | omega | simp_all)), rfl⟩
def J4 : Tm := .mk 0 ⟨⟨[]⟩⟩ 0 (.mk 0 []) (.mk 0 []) 0 []
theorem O5.zero (G : IM) : O5 G J4 z9 [] := by
 simp only [J4, O5, P6, N4, N5, z9]
 refine ⟨[.int .i64 0, .slice none 0 0], [.int .i64 0, .slice none 0 0], none, 0, [], [], [], [], rfl, ⟨by omega, by omega⟩, ⟨by omega, by omega⟩, ⟨by omega, by omega⟩, ?_, ?_, B9.nil _ _, ⟨rfl, rfl⟩, rfl, by simp [I5]⟩
 ·exact ⟨none, 0, [], [], rfl, ⟨by omega, by omega⟩, B9.nil _ _, ⟨rfl, rfl⟩, rfl, by simp [I5]⟩
 ·exact ⟨none, 0, [], [], rfl, ⟨by omega, by omega⟩, B9.nil _ _, ⟨rfl, rfl⟩, rfl, by simp [I5]⟩
def B5H (t : Tm) (path : List Int) : Tm × Bool := if P9 t = true then (match tAt t path with | some x => (x, true) | none => (J4, false)) else (J4, false)
def TbP (r : Tm × Bool) (G : IM) : IM → Value → List A4 → Prop := L5 fun G' v => ∃ cells F, v = .tuple ⟨[.agg ⟨cells⟩, .bool r.2]⟩ ∧ O5 (C1 G' G) r.1 cells F ∧ F.Nodup
structure A3Z {ι : Type} (S : ι → Sy) (φ : ι → Prop) (e : Exit) (σ : Sy) : Prop where
 run : match e with
  | .normal => ∃ i, φ i ∧ Sub σ (S i)
  | _ => False
section cut
variable {P : Program} {Γ : K1} {K : Po} {σ : Sy} {ι : Type}
theorem A2r {c y : Code} (S : ι → Sy) (φ : ι → Prop) (h : J1 P Γ c (A3Z S φ) σ) (k : ∀ i, φ i → J1 P Γ y K (S i)) : J1 P Γ c (A0N P Γ y K) σ := by
 refine tri_post h ?_
 rintro e σ ⟨hk⟩
 cases e with
 | normal => obtain ⟨i, hi, hs⟩ := hk; exact ⟨A6e hs (k i hi)⟩
 | _ => exact hk.elim
where
 tri_post {c : Code} {K K' : Po} {σ : Sy} (h : J1 P Γ c K σ) (hk : ∀ e σ, K e σ → K' e σ) : J1 P Γ c K' σ := A4A h hk
theorem V0 {S : ι → Sy} {φ : ι → Prop} {σ : Sy} (i : ι) (hs : Sub σ (S i)) (h : φ i) : A3Z S φ .normal σ := ⟨⟨i, h, hs⟩⟩
theorem B1z {S : ι → Sy} {φ : ι → Prop} : Y1 (A3Z S φ) := fun _ _ h => h.run
instance npC5 {S : ι → Sy} {φ : ι → Prop} : NpC (A3Z S φ) := ⟨B1z⟩
end cut
section take
variable {P : Program} {Γ : K1} {env : K7} {hp : List A4} {G : IM} {K : Po} {ops : Array Oper} {rest : List Oper} {ty : TypeId} {pos : String} {af : Array Edge} {gd : Option (Nat × Bool)}
theorem L3 {d : Nat} {f : FuncId} [hF : B2 P f] {xs : List Operand} {ats : Array TypeId} {vs : List Value} {ins rst : List A4} {post : IM → Value → List A4 → Prop}
  (hx : evl env xs = some vs) (h : Fn P f vs ins G post) (hp' : hp.Perm (ins ++ rst)) (hw : K5 ops env gd = some true) (hd : Nat.blt d Γ.n = true)
  (k : ∀ v G' outs, B1 G G' → post G' v outs → E8 P Γ ops rest K ⟨(d, v) :: env, outs ++ rst, G'⟩) : E8 P Γ ops (⟨some d, .call ⟨.value (.func f), ⟨xs⟩, ats⟩, ty, pos, af, gd⟩ :: rest) K ⟨env, hp, G⟩ :=
 I8 (A3E hx h hp' hd) hw (by rintro _ ⟨v, G', outs, rfl, hle, hq⟩; exact k v G' outs hle hq)
end take
theorem A1q (G : IM) (br : Nat) (pb : Option Addr) (nb cb p : Nat) (bs : List UInt8) (q : Option Addr) (n c : Nat) (xs : List Value) (hb : Sl G pb nb cb 1 (O0 bs)) (hnb : nb ≤ 2000) (hp : p < 1099511627776) (hx : Sl G q n c 1 xs) (hn : 0 < n) :
  Fn Tryz.prog 48 [.pointer (some ⟨br, 0, none⟩), .slice q n c] [rd br pb nb cb p] G (fun G' v outs => G' = G ∧ outs = [rd br pb nb cb (p + 1)] ∧ v ∈ xs) := by
 refine B7 Tryz.func48 rfl Tryz.ntmps48 Tryz.results48 rfl ?_
 intro w0
 refine K6 ?_
 (refine L3 rfl (A0C G br pb nb cb p bs (n : Int) hb hnb hp) (List.Perm.refl _) rfl rfl (fun v G1 outs hle1 hh => ?_); obtain ⟨rfl, rfl, k, rfl, hk0, hkn⟩ := hh; obtain ⟨j, rfl⟩ := Int.eq_ofNat_of_zero_le hk0)
 (obtain ⟨b, o, v, rfl, hv, hat, _⟩ := hx.kid (i := j) (by omega); refine sP (B4 rfl rfl rfl (by omega)) rfl rfl ?_)
 refine sL (A0w rfl rfl (hat _)) rfl rfl ?_
 refine sQ (qA rfl) rfl (sD (nS (tT ?_)))
 refine H0 (rT rfl) A0.refl ?_
 exact ⟨rfl, rfl, List.mem_of_getElem? hv⟩
theorem A7C (G : IM) (br : Nat) (pb : Option Addr) (nb cb p : Nat) (bs : List UInt8) (q : Option Addr) (n c : Nat) (xs : List Value) (hb : Sl G pb nb cb 1 (O0 bs)) (hnb : nb ≤ 2000) (hp : p < 1099511627776) (hx : Sl G q n c 1 xs) (hn : 0 < n) :
  Fn Tryz.prog 49 [.pointer (some ⟨br, 0, none⟩), .slice q n c] [rd br pb nb cb p] G (fun G' v outs => G' = G ∧ outs = [rd br pb nb cb (p + 1)] ∧ v ∈ xs) := by
 refine B7 Tryz.func49 rfl Tryz.ntmps49 Tryz.results49 rfl ?_
 intro w0
 refine K6 ?_
 (refine L3 rfl (A0C G br pb nb cb p bs (n : Int) hb hnb hp) (List.Perm.refl _) rfl rfl (fun v G1 outs hle1 hh => ?_); obtain ⟨rfl, rfl, k, rfl, hk0, hkn⟩ := hh; obtain ⟨j, rfl⟩ := Int.eq_ofNat_of_zero_le hk0)
 (obtain ⟨b, o, v, rfl, hv, hat, _⟩ := hx.kid (i := j) (by omega); refine sP (B4 rfl rfl rfl (by omega)) rfl rfl ?_)
 refine sL (A0w rfl rfl (hat _)) rfl rfl ?_
 refine sQ (qA rfl) rfl (sD (nS (tT ?_)))
 refine H0 (rT rfl) A0.refl ?_
 exact ⟨rfl, rfl, List.mem_of_getElem? hv⟩
theorem A09 (G : IM) : Fn Tryz.prog 52 [] [] G (H9 (.agg ⟨[.int .i64 1, .slice none 0 0]⟩) G) := by
 refine B7 Tryz.func52 rfl Tryz.ntmps52 Tryz.results52 rfl ?_
 intro w0
 refine tS (tR ?_)
 refine sE (A6 rfl) rfl (fun b3 => ?_)
 refine D2 ?_
 refine F0 (rC rfl (A2 rfl rfl)) ?_
 exact ⟨rfl, rfl, rfl⟩
def dB : Nat → Nat
 | 0 => 0
 | d + 1 => 2 * dB d + 2
theorem B1A {d : Nat} (h : d ≤ 3) : dB (d + 1) ≤ 30 := by
 have : d = 0 ∨ d = 1 ∨ d = 2 ∨ d = 3 := by omega
 rcases this with rfl | rfl | rfl | rfl <;> decide
theorem B1B (k : Int) : S1 k ≤ 2 := by
 unfold S1; split <;> try split
 all_goals omega
theorem A30 : ∀ (ts : List Ty) (t : Ty), K9 (ts ++ [t]) = K9 ts + H4 t
 | [], t => by simp [K9]
 | a :: ts, t => by simp only [List.cons_append, K9, A30 ts t]; omega
theorem B0.ty {G : IM} {k : Int} {ts : List Ty} {es : List (List Value)} {p : Option Addr} {n c : Nat} (h : B0 G ts es) (hn : ts.length = n) (hs : Sl G p n c 2 es.flatten) (hk : D9 k) : B3 G (.mk k ts) [.int .i64 k, .slice p n c] := by
 subst hn
 simp only [B3]
 exact ⟨p, c, es, rfl, hk, B9.of hs h.len h.all (fun e he => (h.each e he).2), h⟩
theorem A31 (br : Nat) (pb : Option Addr) (nb cb : Nat) (bs : List UInt8) (hnb : nb ≤ 2000) : ∀ (d p : Nat) (G : IM), d ≤ 1000 → Sl G pb nb cb 1 (O0 bs) → p + dB (d + 1) < 1099511627776 →
  Fn Tryz.prog 55 [.pointer (some ⟨br, 0, none⟩), .int .i64 ((d + 1 : Nat) : Int)] [rd br pb nb cb p] G
   (A05 br pb nb cb p (dB (d + 1)) (fun G' v => ∃ t cells, v = .agg ⟨cells⟩ ∧ B3 G' t cells ∧ H4 t ≤ ((dB (d + 1) : Nat) : Int) ∧ P7 d t)) := by
 refine fun d => Nat.strongRecOn d fun d ih p G hd hb hp => ?_
 rw [dB] at hp ⊢
 refine B7 Tryz.func55 rfl Tryz.ntmps55 Tryz.results55 rfl ?_
 intro w0
 refine tS (tR ?_)
 refine sE (A6 rfl) rfl (fun b3 => ?_)
 refine sD (nS (tS (tR (sQ (qM rfl) rfl ?_))))
 (refine I8 (C3 rfl rfl rfl (by omega) (by unfold maxLen; omega) rfl) rfl ?_; rintro _ ⟨b9, rfl⟩)
 (refine T8 (by repeat (first | exact Pk.here | apply Pk.there)) (fun G1 hle1 hsl1 _ => ?_); refine L3 rfl (A1q G1 br pb nb cb p bs _ _ _ _ (hb.mono hle1) hnb (by omega) hsl1 (by decide)) (Pk.perm (by repeat (first | exact Pk.here | apply Pk.there))) rfl rfl (fun v G2 outs hle2 hh => ?_); obtain ⟨rfl, rfl, hv⟩ := hh; replace hb := hb.mono hle1; obtain ⟨k, rfl, hk1⟩ : ∃ k, v = .int .i64 k ∧ 1 ≤ k ∧ k ≤ 5 := (by simp only [List.mem_cons, List.not_mem_nil, or_false] at hv; rcases hv with rfl | rfl | rfl | rfl | rfl | rfl | rfl <;> exact ⟨_, rfl, by decide, by decide⟩))
 refine sQ (qA rfl) rfl (sD (nS (tS (tS ?_))))
 (have hv' := hv; refine A2r (fun (x : Bool) => ⟨(16, .bool x) :: [(5, .int .i64 k), (4, .pointer (some ⟨b3, 0, none⟩)), (0, .pointer (some ⟨br, 0, none⟩)), (1, .int .i64 ((d + 1 : Nat) : Int))], [rd br pb nb cb (p + 1), .blk b3 [.int .i64 0, .slice none 0 0]], G2⟩) (fun x => x = false → d = 0 → k < 4) ?_ ?_)
 refine tR (sQ (qM rfl) rfl ?_)
 refine sB (J6 rfl rfl) rfl rfl (fun h19 => ?_) (fun h19 => ?_)
 refine sQ (qM rfl) rfl (sQ (qM rfl) rfl ?_)
 refine sB (A0Q rfl rfl) rfl rfl (fun h22 => ?_) (fun h22 => ?_)
 refine sQ (O2 rfl rfl) rfl (sD ?_)
 refine V0 true (N3 (by repeat (first | exact D4.nil | refine D4.cons rfl ?_)) (by repeat (first | exact A0.refl | exact A0.nil | refine A0.cons (by repeat (first | exact Pk.here | apply Pk.there)) ?_ | apply A0.drop))) ?_
 (show _ = false → d = 0 → k < 4; intro hf h0; first | exact absurd hf (by decide) | omega)
 refine sQ (O2 rfl rfl) rfl (sD ?_)
 refine V0 false (N3 (by repeat (first | exact D4.nil | refine D4.cons rfl ?_)) (by repeat (first | exact A0.refl | exact A0.nil | refine A0.cons (by repeat (first | exact Pk.here | apply Pk.there)) ?_ | apply A0.drop))) ?_
 (show _ = false → d = 0 → k < 4; intro hf h0; first | exact absurd hf (by decide) | omega)
 refine R2 ?_
 refine V0 false (N3 (by repeat (first | exact D4.nil | refine D4.cons rfl ?_)) (by repeat (first | exact A0.refl | exact A0.nil | refine A0.cons (by repeat (first | exact Pk.here | apply Pk.there)) ?_ | apply A0.drop))) ?_
 (show _ = false → d = 0 → k < 4; intro hf h0; first | exact absurd hf (by decide) | omega)
 (rintro x hx; clear hv)
 (show J1 _ _ (.cond (.tmp 16) _ _) _ _; refine A2r (fun (x : Int) => ⟨[(5, .int .i64 x), (4, .pointer (some ⟨b3, 0, none⟩)), (0, .pointer (some ⟨br, 0, none⟩)), (1, .int .i64 ((d + 1 : Nat) : Int))], [rd br pb nb cb (p + 1), .blk b3 [.int .i64 0, .slice none 0 0]], G2⟩) (fun x => 1 ≤ x ∧ x ≤ 5 ∧ (d = 0 → x < 4)) (A6d rfl (fun hxt => ?_) (fun hxf => ?_)) ?_)
 refine tR (sQ (qA rfl) rfl (sD ?_))
 refine V0 1 (N3 (by repeat (first | exact D4.nil | refine D4.cons rfl ?_)) (by repeat (first | exact A0.refl | exact A0.nil | refine A0.cons (by repeat (first | exact Pk.here | apply Pk.there)) ?_ | apply A0.drop))) ?_
 (first | exact ⟨by omega, by omega, by omega⟩ | exact ⟨by omega, by omega, fun h0 => by have := hx hxf h0; omega⟩)
 refine tK ?_
 refine V0 k (N3 (by repeat (first | exact D4.nil | refine D4.cons rfl ?_)) (by repeat (first | exact A0.refl | exact A0.nil | refine A0.cons (by repeat (first | exact Pk.here | apply Pk.there)) ?_ | apply A0.drop))) ?_
 (first | exact ⟨by omega, by omega, by omega⟩ | exact ⟨by omega, by omega, fun h0 => by have := hx hxf h0; omega⟩)
 (rintro kk ⟨hk2, hk3, hk4⟩; have hop := B1B kk; have hk5 := (L8 kk).1; have hk6 := (L8 kk).2.1; have hK := A7l kk)
 refine tS (tR (sQ (qM rfl) rfl (sQ (S0 rfl rfl) rfl ?_)))
 refine sE (A6 rfl) rfl (fun b53 => ?_)
 refine F9 ?_
 refine sD (nS (tS (tS (tR (sQ (qA rfl) rfl (sD (nS ?_)))))))
 refine B6 ?_
 (refine T7 25 2 ?_; refine J3 (fun (x : Nat × Option Addr × Nat × List Ty × List (List Value) × Nat × IM) => ⟨[(7, .int .i64 x.1), (5, .int .i64 kk), (6, .pointer (some ⟨b53, 0, none⟩)), (4, .pointer (some ⟨b3, 0, none⟩)), (0, .pointer (some ⟨br, 0, none⟩)), (1, .int .i64 ((d + 1 : Nat) : Int))], [.blk b53 [.int .i64 kk, .slice x.2.1 x.1 x.2.2.1], .slc x.2.1 x.2.2.1 25 2 x.1 x.2.2.2.2.1.flatten, rd br pb nb cb x.2.2.2.2.2.1, .blk b3 [.int .i64 0, .slice none 0 0]], x.2.2.2.2.2.2⟩) (fun x => (∀ u ∈ x.2.2.2.1, P7 (d - 1) u) ∧ (x.1 : Int) ≤ S1 kk ∧ B1 G2 x.2.2.2.2.2.2 ∧ x.2.2.2.1.length = x.1 ∧ B0 x.2.2.2.2.2.2 x.2.2.2.1 x.2.2.2.2.1 ∧ K9 x.2.2.2.1 ≤ ((x.1 * dB d : Nat) : Int) ∧ p + 1 ≤ x.2.2.2.2.2.1 ∧ x.2.2.2.2.2.1 ≤ p + 1 + x.1 * dB d) (fun x => (S1 kk).toNat - x.1) (0, none, 0, [], [], p + 1, G2) ?_ ?_ ?_)
 (simp only [E2]; exact C5)
 (exact ⟨by simp, by dsimp only; omega, B1.refl _, rfl, by simp [B0], by simp [K9], by dsimp only; omega, by dsimp only; omega⟩)
 (rintro ⟨i, pn, cn, ts, es', p', Gi⟩ ⟨hah, hi, hle, hlt, hst, hsum, hq1, hq2⟩; simp only [] at hah hi hle hlt hst hsum hq1 hq2 ⊢; have hid : i * dB d ≤ 2 * dB d := Nat.mul_le_mul_right _ (by omega))
 refine tS (tS (tR (sQ (qM rfl) rfl (sQ (qM rfl) rfl ?_))))
 refine H2 rfl ((hK _)) rfl rfl ?_
 refine sB (J6 rfl rfl) rfl rfl (fun h74 => ?_) (fun h74 => ?_)
 refine sD (nS (qT rfl (tK (nS (tS ?_)))))
 refine B6 ?_
 (obtain ⟨d', rfl⟩ : ∃ d', d = d' + 1 := ⟨d - 1, by omega⟩; have hih := ih d' (by omega) p' Gi (by omega) (hb.mono hle) (by have := Nat.mul_le_mul_right (dB (d' + 1)) (show i + 1 ≤ 2 by omega); rw [Nat.succ_mul] at this; omega); refine E4 E7 rfl ?_)
 refine K2 (i := 0) (l' := [tt,ff,ff,ff,ff,ff,ff,ff,ff,ff]) rfl D6 (B8 rfl) rfl (by kernel_rfl) rfl rfl ?_
 refine aL 1 rfl (C7 rfl rfl) rfl ?_
 refine aP 2 rfl (qM rfl) rfl ?_
 refine aP 3 rfl (qM rfl) rfl ?_
 refine aP 4 rfl (A65 rfl rfl (by omega)) rfl ?_
 refine A3 5 ?_
 (refine A0c (l' := [tt,tt,tt,tt,tt,tt,ff,ff,ff,ff]) rfl rfl hih (Pk.perm (by repeat (first | exact Pk.here | apply Pk.there))) rfl rfl rfl (by repeat (first | exact A8.nil | apply A8.dep (by decide +kernel) | apply A8.blk (by decide +kernel) (by repeat (first | exact Pk.here | apply Pk.there)) (by repeat first | exact mH | apply mT))) (fun v G3 outs hle3 hh => ?_); obtain ⟨p3, hp31, hp32, rfl, t3, cells3, rfl, hr3, hs3, ha3⟩ := hh; obtain ⟨q3, c3, es3, rfl, _⟩ := hr3.open)
 refine A3 6 ?_
 (refine E1 rfl (C3 rfl rfl rfl (by omega) (by unfold maxLen; omega) rfl) rfl rfl ?_; rintro _ ⟨b91, rfl⟩)
 refine A3 7 ?_
 refine T3 rfl rfl rfl rfl rfl rfl (fun _ _ => by repeat (first | exact Sw.here | apply Sw.there)) (N2 (by repeat first | exact mH | apply mT)) rfl (by simp [Value.oneCell']) (by unfold maxLen; omega) (by omega) rfl rfl (by repeat (first | exact A8.nil | apply A8.dep (by decide +kernel) | apply A8.blk (by decide +kernel) (by repeat (first | exact Pk.here | apply Pk.there)) (by repeat first | exact mH | apply mT))) (fun pn' cn' => ?_)
 refine aP 8 rfl (B8 rfl) rfl ?_
 refine A3 9 ?_
 refine U1 rfl rfl rfl rfl rfl rfl rfl rfl (by kernel_rfl) (by repeat first | exact Sw.here | apply Sw.there) (by rfl) ?_
 refine C4 (M9 (nS (tR (sQ (qM rfl) rfl ?_))))
 refine sP (I2 rfl rfl (by omega) (by omega)) rfl rfl ?_
 refine sQ (qA rfl) rfl (sD ?_)
 refine I9 (i + 1, pn', cn', ts ++ [t3], es' ++ [[.int .i64 t3.k, .slice q3 t3.ks.length c3]], p3, G3) ?_ ?_ ?_
 (simp only [E2]; exact C5)
 (dsimp only; have e1 : (i + 1) * dB (d' + 1) = i * dB (d' + 1) + dB (d' + 1) := Nat.succ_mul _ _; have e2 := A30 ts t3; exact ⟨by simp only [List.forall_mem_append, List.forall_mem_singleton]; exact ⟨hah, ha3⟩, by omega, hle.trans hle3, by simp [hlt], B0.snoc (hst.mono hle3) hr3, by omega, by omega, by omega⟩)
 (show (S1 kk).toNat - (i + 1) < (S1 kk).toNat - i; omega)
 refine M1 ?_
 (refine H8 (by repeat (first | exact Pk.here | apply Pk.there)) (fun G5 hle5 hsl5 hno5 => ?_))
 refine tT ?_
 refine H0 (outs := [rd br pb nb cb p']) (rC rfl (A2 rfl rfl)) (by repeat (first | exact A0.nil | refine A0.cons Pk.here ?_ | refine A0.cons (Pk.there Pk.here) ?_ | apply A0.drop)) ?_
 (refine ⟨p', by omega, by omega, rfl, .mk kk ts, _, rfl, (hst.mono hle5).ty hlt hsl5 ⟨by omega, by omega⟩, ?_, B1w hk4 (by omega) hk2 hk3 hah⟩; rw [H4]; omega)
theorem B1C (br : Nat) (pb : Option Addr) (nb cb : Nat) (bs : List UInt8) (hnb : nb ≤ 2000) (p : Nat) (G : IM) (hb : Sl G pb nb cb 1 (O0 bs)) (hp : p + 31 < 1099511627776) :
  Fn Tryz.prog 51 [.pointer (some ⟨br, 0, none⟩)] [rd br pb nb cb p] G
   (A05 br pb nb cb p 31 (fun G' v => ∃ t cells, v = .agg ⟨cells⟩ ∧ B3 G' t cells ∧ H4 t ≤ 30 ∧ P7 3 t)) := by
 refine B7 Tryz.func51 rfl Tryz.ntmps51 Tryz.results51 rfl ?_
 intro w0
 refine tS (tR ?_)
 refine sE (A6 rfl) rfl (fun b3 => ?_)
 refine sD (nS (tS (tR (sQ (qM rfl) rfl (sQ (qM rfl) rfl ?_)))))
 (refine I8 (C3 rfl rfl rfl (by omega) (by unfold maxLen; omega) rfl) rfl ?_; rintro _ ⟨b10, rfl⟩)
 (refine T8 (by repeat (first | exact Pk.here | apply Pk.there)) (fun G1 hle1 hsl1 _ => ?_); refine L3 rfl (A1q G1 br pb nb cb p bs _ _ _ _ (hb.mono hle1) hnb (by omega) hsl1 (by decide)) (Pk.perm (by repeat (first | exact Pk.here | apply Pk.there))) rfl rfl (fun v G2 outs hle2 hh => ?_); obtain ⟨rfl, rfl, hv⟩ := hh; replace hb := hb.mono hle1; obtain ⟨d, rfl, hd⟩ : ∃ d : Nat, v = .int .i64 ((d + 1 : Nat) : Int) ∧ d ≤ 3 := (by simp only [List.mem_cons, List.not_mem_nil, or_false] at hv; rcases hv with rfl | rfl | rfl | rfl | rfl <;> first | exact ⟨0, rfl, by decide⟩ | exact ⟨1, rfl, by decide⟩ | exact ⟨2, rfl, by decide⟩ | exact ⟨3, rfl, by decide⟩))
 (have hdB := B1A hd; refine L3 rfl (A31 br pb nb cb bs hnb d (p + 1) G2 (by omega) hb (by omega)) (Pk.perm (by repeat (first | exact Pk.here | apply Pk.there))) rfl rfl (fun v G3 outs hle3 hh => ?_); obtain ⟨p3, hp31, hp32, rfl, t3, cells3, rfl, hr3, hs3, ha3⟩ := hh; obtain ⟨q3, c3, es3, rfl, _⟩ := hr3.open)
 refine F9 ?_
 refine sD (nS (tT ?_))
 refine H0 (outs := [rd br pb nb cb p3]) (rC rfl (A2 rfl rfl)) (by repeat (first | exact A0.nil | refine A0.cons Pk.here ?_ | refine A0.cons (Pk.there Pk.here) ?_ | apply A0.drop)) ?_
 exact ⟨p3, by omega, by omega, rfl, t3, _, rfl, hr3, by omega, ha3.le hd⟩
theorem B1D (br : Nat) (pb : Option Addr) (nb cb : Nat) (bs : List UInt8) (hnb : nb ≤ 2000) (p : Nat) (G : IM) (hb : Sl G pb nb cb 1 (O0 bs)) (hp : p + 31 < 1099511627776) :
  Fn Tryz.prog 51 [.pointer (some ⟨br, 0, none⟩)] [rd br pb nb cb p] G
   (A05 br pb nb cb p 31 (fun G' v => ∃ t cells, v = .agg ⟨cells⟩ ∧ B3 G' t cells ∧ H4 t ≤ 30)) :=
 (B1C br pb nb cb bs hnb p G hb hp).mono fun G' v outs _ ⟨p', h1, h2, h3, t, cells, h4, h5, h6, _⟩ => ⟨p', h1, h2, h3, t, cells, h4, h5, h6⟩
theorem A7D (k : Int) (ks : List Ty) (G : IM) (p : Option Addr) (c : Nat) (hts : (Ty.mk k ks).small) (hr : B3 G (.mk k ks) [.int .i64 k, .slice p ks.length c]) : Fn Tryz.prog 34 [.agg ⟨[.int .i64 k, .slice p ks.length c]⟩] [] G
  (fun G' v outs => ∃ p c es, v = .agg ⟨[.int .i64 k, .slice p ks.length c]⟩ ∧ outs = [.slc p c 25 2 ks.length es.flatten] ∧ B0 G' ks es) := by
 simp only [Ty.small] at hts
 obtain ⟨hsm, hks⟩ := hts
 obtain ⟨p', c', es, he, hk, hsl, hkl⟩ := hr.open
 simp only [Ty.k, Ty.ks, List.cons.injEq, Value.slice.injEq, true_and, and_true] at he hk hsl hkl
 obtain ⟨rfl, rfl⟩ := he
 have hn := hsl.le
 refine B7 Tryz.func34 rfl Tryz.ntmps34 Tryz.results34 rfl ?_
 intro w0
 refine tS (tR ?_)
 refine sE (C2 rfl rfl) rfl (fun b3 => ?_)
 refine sE (A6 rfl) rfl (fun b4 => ?_)
 refine D0 ?_
 refine sE (A6 rfl) rfl (fun b12 => ?_)
 refine F9 ?_
 refine sD (nS (tS (tS (tR (sQ (qA rfl) rfl (sD (nS ?_)))))))
 refine B6 ?_
 (refine T7 25 2 ?_; refine J3 (fun (x : Nat × Option Addr × Nat × List (List Value) × IM) => ⟨[(4, .int .i64 x.1), (3, .pointer (some ⟨b12, 0, none⟩)), (1, .pointer (some ⟨b3, 0, none⟩)), (2, .pointer (some ⟨b4, 0, none⟩))], [.blk b12 [.int .i64 k, .slice x.2.1 x.1 x.2.2.1], .slc x.2.1 x.2.2.1 25 2 x.1 x.2.2.2.1.flatten, .blk b4 [.int .i64 0, .slice none 0 0], .blk b3 [.int .i64 k, .slice p ks.length c]], x.2.2.2.2⟩) (fun x => x.1 ≤ ks.length ∧ B1 G x.2.2.2.2 ∧ B0 x.2.2.2.2 (ks.take x.1) x.2.2.2.1) (fun x => ks.length - x.1) (0, none, 0, [], G) ?_ ?_ ?_)
 (simp only [E2]; exact C5)
 exact ⟨by simp, B1.refl _, by simp [B0]⟩
 (rintro ⟨i, pn, cn, es', Gi⟩ ⟨hi, hle, hst⟩; simp only [] at hi hle hst ⊢; replace hsl := hsl.mono hle; replace hkl := hkl.mono hle)
 refine D0 ?_
 refine sB (J6 rfl rfl) rfl rfl (fun h34 => ?_) (fun h34 => ?_)
 refine sD (nS (qT rfl (tK (nS (tS ?_)))))
 refine B6 ?_
 (obtain ⟨b, o, p2, c2, rfl, hat, hre, hgb⟩ := hsl.kidTy hkl (i := i) (by omega) (by omega); refine E4 E7 rfl ?_)
 refine K2 (i := 0) (l' := [tt,ff,ff,ff,ff,ff,ff,ff,ff,ff,ff,ff]) rfl D6 (B8 rfl) rfl (by kernel_rfl) rfl rfl ?_
 refine aL 1 rfl (C7 rfl rfl) rfl ?_
 refine aP 2 rfl (B8 rfl) rfl ?_
 refine aL 3 rfl (C7 rfl rfl) rfl ?_
 refine aP 4 rfl (qM rfl) rfl ?_
 refine aP 5 rfl (B4 rfl rfl rfl (by omega)) rfl ?_
 refine aL 6 rfl (A5 rfl rfl (hat _) rfl) rfl ?_
 refine A3 7 ?_
 (refine K4 rfl rfl (U6 ks[i] _ _ (Ty.smallL_mem hks _ (List.getElem_mem (by omega))) hre) rfl rfl rfl (fun v G1 hle1 hh => ?_); obtain ⟨cells', F', rfl, hs', hnd'⟩ := hh; have hr' := hs'.R.mono (C1.le _ _); obtain ⟨p3, c3, es3, rfl, _⟩ := hr'.open)
 refine A3 8 ?_
 (refine E1 rfl (C3 rfl rfl rfl (by omega) (by unfold maxLen; omega) rfl) rfl rfl ?_; rintro _ ⟨b53, rfl⟩)
 refine A3 9 ?_
 refine T3 rfl rfl rfl rfl rfl rfl (fun _ _ => by repeat (first | exact Sw.here | apply Sw.there)) (N2 (by repeat first | exact mH | apply mT)) rfl (by simp [Value.oneCell']) (by unfold maxLen; omega) (by omega) rfl rfl (by repeat (first | exact A8.nil | apply A8.dep (by decide +kernel) | apply A8.blk (by decide +kernel) (by repeat (first | exact Pk.here | apply Pk.there)) (by repeat first | exact mH | apply mT))) (fun pn' cn' => ?_)
 refine aP 10 rfl (B8 rfl) rfl ?_
 refine A3 11 ?_
 refine U1 rfl rfl rfl rfl rfl rfl rfl rfl (by kernel_rfl) (by repeat first | exact Sw.here | apply Sw.there) (by rfl) ?_
 refine C4 (M9 (nS (tR (sQ (qM rfl) rfl ?_))))
 refine sP (I2 rfl rfl (by omega) (by omega)) rfl rfl ?_
 refine sQ (qA rfl) rfl (sD ?_)
 refine I9 (i + 1, pn', cn', es' ++ [[.int .i64 ks[i].k, .slice p3 ks[i].ks.length c3]], G1) ?_ ?_ ?_
 (simp only [E2]; exact C5)
 (dsimp only; exact ⟨by omega, hle.trans hle1, by rw [List.take_succ_eq_append_getElem (by omega)]; exact B0.snoc (hst.mono hle1) hr'⟩)
 (show ks.length - (i + 1) < ks.length - i; omega)
 refine I4 ?_
 (obtain rfl : i = ks.length := (by omega); refine H0 (outs := [.slc pn cn 25 2 ks.length es'.flatten]) (rC rfl (A2 rfl rfl)) (by repeat (first | exact A0.nil | refine A0.cons Pk.here ?_ | refine A0.cons (Pk.there Pk.here) ?_ | apply A0.drop)) ?_)
 (rw [List.take_length] at hst; exact ⟨pn, cn, es', rfl, rfl, hst⟩)
theorem A0l (G : IM) : B3 G P0 [.int .i64 1, .slice none 0 0] := by
 simp only [P0, B3]
 exact ⟨none, 0, [], rfl, ⟨by omega, by omega⟩, B9.of (Sl.nil _ _) rfl (by simp) (by simp), by simp [B0]⟩
theorem A5f : H4 P0 = 0 := rfl
theorem B1E (br : Nat) (pb : Option Addr) (nb cb : Nat) (bs : List UInt8) (hnb : nb ≤ 2000) (p : Nat) (G : IM) (hb : Sl G pb nb cb 1 (O0 bs)) (hp : p + 31 < 1099511627776) (t : Ty) (cells : List Value) (hr : B3 G t cells) (hsz : H4 t ≤ 30) :
  Fn Tryz.prog 50 [.pointer (some ⟨br, 0, none⟩), .agg ⟨cells⟩] [rd br pb nb cb p] G
   (A05 br pb nb cb p 2 (fun G' v => ∃ t cells, v = .agg ⟨cells⟩ ∧ B3 G' t cells ∧ H4 t ≤ 38)) := by
 have hts := A3W t (by omega)
 obtain ⟨k, ks⟩ := t
 rw [H4] at hsz
 have hsn := A0B ks
 obtain ⟨q0, c0, es0, rfl, hk, _⟩ := hr.open
 simp only [Ty.k, Ty.ks] at hk hr ⊢
 refine B7 Tryz.func50 rfl Tryz.ntmps50 Tryz.results50 rfl ?_
 intro w0
 refine tS (tR ?_)
 refine sE (C2 rfl rfl) rfl (fun b3 => ?_)
 refine sE (A6 rfl) rfl (fun b4 => ?_)
 refine sD (nS (tS (tR (sL (A2 rfl rfl) rfl rfl ?_))))
 (refine T9 rfl (A7D k ks G q0 c0 hts hr) rfl rfl (fun v G1 outs hle1 hh => ?_); obtain ⟨q, c, es, rfl, rfl, hst⟩ := hh)
 refine sE (A6 rfl) rfl (fun b11 => ?_)
 refine F9 ?_
 refine sD (nS (tS (tS (tR (sQ (qM rfl) rfl ?_)))))
 (refine L3 rfl (A0C G1 br pb nb cb p bs 40 (hb.mono hle1) hnb (by omega)) (Pk.perm (by repeat (first | exact Pk.here | apply Pk.there))) rfl rfl (fun v G2 outs hle2 hh => ?_); obtain ⟨rfl, rfl, j, rfl, hj0, hj1⟩ := hh; replace hb := hb.mono hle1)
 refine sD (nS ?_)
 (show J1 _ _ (.block 0 _) _ _; refine A2r (fun (x : Ty × Option Addr × Nat × Nat × IM) => ⟨[(5, .pointer (some ⟨b11, 0, none⟩)), (4, .pointer (some ⟨b4, 0, none⟩))], [.blk b11 [.int .i64 x.1.k, .slice x.2.1 x.1.ks.length x.2.2.1], .blk b4 [.int .i64 0, .slice none 0 0], rd br pb nb cb x.2.2.2.1], x.2.2.2.2⟩) (fun x => B1 G2 x.2.2.2.2 ∧ B3 x.2.2.2.2 x.1 [.int .i64 x.1.k, .slice x.2.1 x.1.ks.length x.2.2.1] ∧ H4 x.1 ≤ 38 ∧ p ≤ x.2.2.2.1 ∧ x.2.2.2.1 ≤ p + 2) ?_ ?_)
 refine B6 (tS (tR (sB (qE rfl rfl) rfl rfl (fun h26 => ?_) (fun h26 => ?_))))
 refine sQ (qA rfl) rfl (sD (nS (qT rfl (tR (sQ (qM rfl) rfl ?_)))))
 (refine I8 (C3 rfl rfl rfl (by omega) (by unfold maxLen; omega) rfl) rfl ?_; rintro _ ⟨b33, rfl⟩)
 (refine T8 (by repeat (first | exact Pk.here | apply Pk.there)) (fun G3 hle3 hsl3 _ => ?_); refine T8 (by repeat (first | exact Pk.here | apply Pk.there)) (fun G4 hle4 hsl4 _ => ?_); refine L3 rfl (A1q G4 br pb nb cb (p + 1) bs _ _ _ _ (hb.mono (hle3.trans hle4)) hnb (by omega) (hsl3.mono hle4) (by decide)) (Pk.perm (by repeat (first | exact Pk.here | apply Pk.there))) rfl rfl (fun v G5 outs hle5 hh => ?_); obtain ⟨rfl, rfl, hv⟩ := hh; obtain ⟨k', rfl, hk'⟩ : ∃ k', v = .int .i64 k' ∧ D9 k' := (by simp only [List.mem_cons, List.not_mem_nil, or_false] at hv; rcases hv with rfl | rfl | rfl | rfl | rfl <;> exact ⟨_, rfl, by unfold D9; omega⟩))
 refine sQ (B8 rfl) rfl (F9 ?_)
 refine sD (M9 ?_)
 refine V0 (.mk k' ks, q, c, p + 2, G5) ?_ ?_
 (simp only [E2]; exact C5)
 (dsimp only; exact ⟨hle3.trans hle4, (hst.mono (hle3.trans hle4)).ty rfl hsl4 hk', by (rw [H4]; omega), by omega, by omega⟩)
 refine sQ (qA rfl) rfl (sD (nS (cF rfl (tS (tR ?_)))))
 refine sB (qE rfl rfl) rfl rfl (fun h48 => ?_) (fun h48 => ?_)
 refine sQ (qA rfl) rfl (sD (nS (qT rfl ?_)))
 refine E4 E7 rfl ?_
 refine K2 (i := 0) (l' := [tt,ff,ff,ff,ff,ff,ff]) rfl D6 (B8 rfl) rfl (by kernel_rfl) rfl rfl ?_
 refine aL 1 rfl (C7 rfl rfl) rfl ?_
 refine A3 2 ?_
 refine P5 rfl rfl ((A09 _)) rfl rfl rfl ?_
 refine A3 3 ?_
 (refine E1 rfl (C3 rfl rfl rfl (by omega) (by unfold maxLen; omega) rfl) rfl rfl ?_; rintro _ ⟨b59, rfl⟩)
 refine A3 4 ?_
 refine T3 rfl rfl rfl rfl rfl rfl (fun _ _ => by repeat (first | exact Sw.here | apply Sw.there)) (N2 (by repeat first | exact mH | apply mT)) rfl (by simp [Value.oneCell']) (by unfold maxLen; omega) (by omega) rfl rfl (by repeat (first | exact A8.nil | apply A8.dep (by decide +kernel) | apply A8.blk (by decide +kernel) (by repeat (first | exact Pk.here | apply Pk.there)) (by repeat first | exact mH | apply mT))) (fun qn cn => ?_)
 (refine A3I (cs := es.flatten ++ [.int .i64 1, .slice none 0 0]) (by repeat (first | exact Pk.here | apply Pk.there)) (fun G6 hle6 hsl6 _ => ?_))
 refine aP 5 rfl (B8 rfl) rfl ?_
 refine A3 6 ?_
 refine U1 rfl rfl rfl rfl rfl rfl rfl rfl (by kernel_rfl) (by repeat first | exact Sw.here | apply Sw.there) (by rfl) ?_
 refine C4 (M9 ?_)
 refine V0 (.mk k (ks ++ [P0]), qn, cn, p + 1, G6) (by rw [show (Ty.mk k (ks ++ [P0])).ks.length = ks.length + 1 from by simp [Ty.ks]]; exact C5) ?_
 (dsimp only; refine ⟨hle6, B0.ty (ts := ks ++ [P0]) (es := es ++ [[.int .i64 1, .slice none 0 0]]) (B0.snoc (hst.mono hle6) (A0l _)) rfl (by simpa [Ty.ks] using hsl6) hk, ?_, by omega, by omega⟩; rw [H4, A30, A5f, List.length_append]; simp only [List.length_singleton]; omega)
 refine sQ (qA rfl) rfl (sD (nS (cF rfl (tS (tR ?_)))))
 refine sB (qE rfl rfl) rfl rfl (fun h76 => ?_) (fun h76 => ?_)
 refine D2 ?_
 refine B6 ?_
 (refine A1z (by repeat (first | exact Pk.here | apply Pk.there)) (fun G3 hle3 hsl3 _ => ?_); refine J3 (fun (x : Nat × Ty × Option Addr × Nat × IM) => ⟨[(6, .int .i64 x.1), (5, .pointer (some ⟨b11, 0, none⟩)), (4, .pointer (some ⟨b4, 0, none⟩))], [.blk b11 [.int .i64 x.2.1.k, .slice x.2.2.1 x.2.1.ks.length x.2.2.2.1], .blk b4 [.int .i64 0, .slice none 0 0], rd br pb nb cb (p + 1)], x.2.2.2.2⟩) (fun x => x.1 ≤ 4 ∧ B1 G3 x.2.2.2.2 ∧ B3 x.2.2.2.2 x.2.1 [.int .i64 x.2.1.k, .slice x.2.2.1 x.2.1.ks.length x.2.2.2.1] ∧ H4 x.2.1 ≤ 30 + 2 * x.1) (fun x => 4 - x.1) (0, .mk k ks, q, c, G3) ?_ ?_ ?_)
 (simp only [E2]; exact C5)
 (dsimp only; exact ⟨by omega, B1.refl _, (hst.mono hle3).ty rfl hsl3 hk, by (rw [H4]; omega)⟩)
 (rintro ⟨i, ⟨tk, tks⟩, qi, ci, Gi⟩ ⟨hi, hlei, hri, hsi⟩; simp only [Ty.k, Ty.ks] at hi hlei hri hsi ⊢)
 refine tS (tS (tR (sQ (qM rfl) rfl ?_)))
 refine sB (J6 rfl rfl) rfl rfl (fun h95 => ?_) (fun h95 => ?_)
 refine sD (nS (qT rfl (tK (nS (tS ?_)))))
 refine B6 ?_
 refine E4 E7 rfl ?_
 refine P8 (i := 1) (l' := [ff,tt,ff,ff,ff]) rfl D6 (A2 rfl rfl) rfl (by kernel_rfl) rfl rfl ?_
 refine A3 0 ?_
 refine P5 rfl rfl ((A09 _)) rfl rfl rfl ?_
 refine A3 2 ?_
 (refine E1 rfl (C3 rfl rfl rfl (by omega) (by unfold maxLen; omega) rfl) rfl rfl ?_; rintro _ ⟨b108, rfl⟩)
 (refine A3I (cs := [.int .i64 1, .slice none 0 0, .int .i64 tk, .slice qi tks.length ci]) (by repeat (first | exact Pk.here | apply Pk.there)) (fun G7 hle7 hsl7 _ => ?_))
 refine aP 3 rfl (S0 rfl rfl) rfl ?_
 refine A3 4 ?_
 refine U1 rfl rfl rfl rfl rfl rfl rfl rfl (by kernel_rfl) (by repeat first | exact Sw.here | apply Sw.there) (by rfl) ?_
 refine C4 (M9 (nS (tR (sQ (qM rfl) rfl ?_))))
 refine sP (I2 rfl rfl (by omega) (by omega)) rfl rfl ?_
 refine sQ (qA rfl) rfl (sD ?_)
 refine I9 (i + 1, .mk 4 [P0, .mk tk tks], some ⟨b108, 0, none⟩, 2, G7) ?_ ?_ ?_
 (simp only [E2]; exact C5)
 (dsimp only; refine ⟨by omega, hlei.trans hle7, B0.ty (ts := [P0, .mk tk tks]) (es := [[.int .i64 1, .slice none 0 0], [.int .i64 tk, .slice qi tks.length ci]]) ⟨_, _, rfl, A0l _, _, _, rfl, hri.mono hle7, rfl⟩ rfl hsl7 ⟨by omega, by omega⟩, ?_⟩; rw [H4, K9, K9, K9, A5f]; simp only [List.length_cons, List.length_nil]; omega)
 (show 4 - (i + 1) < 4 - i; omega)
 refine D7 ?_
 refine V0 (.mk tk tks, qi, ci, p + 1, Gi) ?_ ?_
 (simp only [E2]; exact C5)
 (dsimp only; exact ⟨hle3.trans hlei, hri, by omega, by omega, by omega⟩)
 refine sQ (qA rfl) rfl (sD (nS (cF rfl ?_)))
 (refine A1z (by repeat (first | exact Pk.here | apply Pk.there)) (fun G8 hle8 hsl8 _ => ?_); refine tK ?_)
 refine M9 ?_
 refine V0 (.mk k ks, q, c, p + 1, G8) ?_ ?_
 (simp only [E2]; exact C5)
 (dsimp only; exact ⟨hle8, (hst.mono hle8).ty rfl hsl8 hk, by (rw [H4]; omega), by omega, by omega⟩)
 (rintro ⟨t', q', c', p', G'⟩ ⟨hle9, hr9, hs9, hp9, hp9'⟩; simp only [] at hle9 hr9 hs9 hp9 hp9' ⊢)
 refine tS (tR (sL (A2 rfl rfl) rfl rfl (F9 ?_)))
 refine sD (nS (tT ?_))
 refine H0 (outs := [rd br pb nb cb p']) (rC rfl (A2 rfl rfl)) (by repeat (first | exact A0.nil | refine A0.cons Pk.here ?_ | refine A0.cons (Pk.there Pk.here) ?_ | apply A0.drop)) ?_
 (exact ⟨p', by omega, by omega, rfl, t', _, rfl, hr9, by omega⟩)
mutual
def B1F : Tm → Tm
 | .mk k nm num ty fr lb ks => if k = 13 ∨ k = 14 then (A5g ks).headD J4 else .mk k nm num (if k = 5 then P0 else A7) A7 0 (A5g ks)
def A5g : List Tm → List Tm
 | [] => []
 | t :: ts => B1F t :: A5g ts
end
def B5I : Tm → Tm
 | .mk k nm num ty fr lb ks => if k = 13 ∨ k = 14 then ks.headD J4 else if k = 5 then .mk k nm num P0 fr lb ks else .mk k nm num ty fr lb ks
def B5J : Tm → Prop
 | .mk k _ _ _ _ _ ks => k = 13 ∨ k = 14 → ks ≠ []
theorem A18 {t : Ty} (h : X5 t = true) : t = A7 := by
 obtain ⟨k, ks⟩ := t
 obtain ⟨h1, h2⟩ : (Ty.mk k ks).k = 0 ∧ (Ty.mk k ks).ks.length = 0 := of_decide_eq_true h
 simp only [Ty.k, Ty.ks] at h1 h2
 have h3 : ks = [] := List.length_eq_zero_iff.1 (by omega)
 rw [h3, A7]
 congr
theorem A0X {D N : Int} {k : Int} {nm : ByteArray} {num : Int} {ty fr : Ty} {lb : Int} {ks : List Tm} {d : Int} (h : N7 D N (.mk k nm num ty fr lb ks) d = true) : d ≤ D ∧ k ≠ N ∧ V8 k nm num ty fr lb ks.length = true ∧ M4 D N ks (d + 1) = true := by
 rw [N7] at h
 simp only [Bool.and_eq_true, decide_eq_true_eq] at h
 exact ⟨h.1.1.1, h.1.1.2, h.1.2, h.2⟩
section slaws
variable {P : Program} {Γ : K1} {env : K7} {hp : List A4} {G : IM} {ty : TypeId}
end slaws
theorem A2s (G : IM) : B3 G A7 [.int .i64 0, .slice none 0 0] := by
 simp only [A7, B3]
 exact ⟨none, 0, [], rfl, ⟨by omega, by omega⟩, B9.of (Sl.nil _ _) rfl (by simp) (by simp), by simp [B0]⟩
theorem C8.tm {G : IM} {k : Int} {nm : ByteArray} {num : Int} {t : Ty} {q : Option Addr} {d : Nat} {ts : List Tm} {es : List (List Value)} {p : Option Addr} {n c : Nat} (h : C8 G ts es) (hn : ts.length = n) (hs : Sl G p n c 9 es.flatten) (hk : D9 k) (hm : D9 num)
  (ht : B3 G t [.int .i64 t.k, .slice q t.ks.length d]) : A9 G (.mk k nm num t A7 0 ts) [.int .i64 k, .string nm, .int .i64 num, .int .i64 t.k, .slice q t.ks.length d, .int .i64 0, .slice none 0 0, .int .i64 0, .slice p n c] := by
 subst hn
 simp only [A9]
 exact ⟨_, _, p, c, es, rfl, hk, hm, ⟨by omega, by omega⟩, ht, A2s G, B9.of hs h.len h.all (fun e he => (h.each e he).2), h⟩
theorem B1G {G : IM} {k : Int} {nm : ByteArray} {num : Int} (hk : D9 k) (hm : D9 num) :
  A9 G (.mk k nm num A7 A7 0 []) [.int .i64 k, .string nm, .int .i64 num, .int .i64 0, .slice none 0 0, .int .i64 0, .slice none 0 0, .int .i64 0, .slice none 0 0] :=
 C8.tm (ts := []) (es := []) (t := A7) (by simp [C8]) rfl (Sl.nil _ _) hk hm (A2s G)
theorem A29 (k : Int) : D1 k ≤ 3 := by
 unfold D1; repeat (split; omega)
 omega
theorem B1H {d : Nat} (h : d ≤ 2) : dB (d + 1) ≤ 14 := by
 have : d = 0 ∨ d = 1 ∨ d = 2 := by omega
 rcases this with rfl | rfl | rfl <;> decide
theorem A32 (n : Int) (G : IM) : Fn Tryz.prog 57 [.int .i64 n] [] G (H9 (.agg ⟨[.int .i64 2, .string ⟨⟨[]⟩⟩, .int .i64 n, .int .i64 0, .slice none 0 0, .int .i64 0, .slice none 0 0, .int .i64 0, .slice none 0 0]⟩) G) := by
 refine B7 Tryz.func57 rfl Tryz.ntmps57 Tryz.results57 rfl ?_
 intro w0
 refine tS (tR ?_)
 refine sE (A6 rfl) rfl (fun b3 => ?_)
 refine L6 ?_
 refine F0 (rC rfl (A2 rfl rfl)) ?_
 exact ⟨rfl, rfl, rfl⟩
def tB : Nat → Nat
 | 0 => 3
 | d + 1 => 3 * tB d + 20
theorem Sl.pre {G : IM} {p : Option Addr} {n c m : Nat} {cs : List Value} (h : Sl G p n c 1 cs) (hm : m ≤ n) : Sl G p m c 1 (cs.take m) := by
 obtain ⟨h1, h2, h3, h4⟩ := h
 refine ⟨by rw [List.length_take]; omega, by omega, h3, ?_⟩
 rcases h4 with h4 | ⟨b, o, full, e1, e2, e3⟩
 ·exact .inl (by omega)
 ·refine .inr ⟨b, o, full, e1, e2, fun j v hj => e3 j v ?_⟩
  rw [List.getElem?_take] at hj
  split at hj
  ·exact hj
  ·cases hj
theorem B1I (bs : List UInt8) (m : Nat) : O0 (bs.take m) = (O0 bs).take m := by unfold O0; rw [List.map_take]
def A3a (G : IM) : IM → Value → List A4 → Prop := fun G' v outs => G' = G ∧ ∃ br pb nb cb bs, v = .pointer (some ⟨br, 0, none⟩) ∧ outs = [rd br pb nb cb 0] ∧ nb ≤ 2000 ∧ Sl G pb nb cb 1 (O0 bs)
theorem A3a.mk {G : IM} {b : Nat} {pb : Option Addr} {nb cb : Nat} {bs : List UInt8} (h : nb ≤ 2000) (hb : Sl G pb nb cb 1 (O0 bs)) : A3a G G (.pointer (some ⟨b, 0, none⟩)) [.blk b [.slice pb nb cb, .int .i64 0]] := ⟨rfl, _, _, _, _, bs, rfl, rfl, h, hb⟩
theorem B1J (G : IM) (q : Option Addr) (n c : Nat) (bs : List UInt8) (hb : Sl G q n c 1 (O0 bs)) :
  Fn Tryz.prog 21 [.slice q n c] [] G (A3a G) := by
 have hn := hb.le
 have hnc := hb.2.1
 have hpre := fun h : 2000 ≤ n => hb.pre h
 refine B7 Tryz.func21 rfl Tryz.ntmps21 Tryz.results21 rfl ?_
 intro w0
 refine L6 ?_
 refine sB (A0v rfl rfl) rfl rfl (fun h11 => ?_) (fun h11 => ?_)
 refine sD (nS (qT rfl (tR (sQ (qM rfl) rfl ?_))))
 refine sP (A42 (l := 2000) rfl rfl rfl (by omega)) rfl rfl ?_
 refine D0 ?_
 refine sE (C2 rfl rfl) rfl (fun b25 => ?_)
 refine sQ (qA rfl) rfl (sD (nS (tT ?_)))
 refine H0 (rT rfl) A0.refl ?_
 exact A3a.mk (Nat.le_refl _) (by rw [B1I]; exact hpre (by omega))
 refine D2 ?_
 refine sE (C2 rfl rfl) rfl (fun b41 => ?_)
 refine sQ (qA rfl) rfl (sD (nS (tT ?_)))
 refine H0 (rT rfl) A0.refl ?_
 exact A3a.mk (by omega) hb
theorem A0Y (G : IM) : Fn Tryz.prog 87 [] [] G (H9 (.agg ⟨[.int .i64 2, .slice none 0 0]⟩) G) := by
 refine B7 Tryz.func87 rfl Tryz.ntmps87 Tryz.results87 rfl ?_
 intro w0
 refine tS (tR ?_)
 refine sE (A6 rfl) rfl (fun b3 => ?_)
 refine D2 ?_
 refine F0 (rC rfl (A2 rfl rfl)) ?_
 exact ⟨rfl, rfl, rfl⟩
theorem A2t (G : IM) : Fn Tryz.prog 85 [] [] G (H9 (.agg ⟨[.int .i64 3, .slice none 0 0]⟩) G) := by
 refine B7 Tryz.func85 rfl Tryz.ntmps85 Tryz.results85 rfl ?_
 intro w0
 refine tS (tR ?_)
 refine sE (A6 rfl) rfl (fun b3 => ?_)
 refine D2 ?_
 refine F0 (rC rfl (A2 rfl rfl)) ?_
 exact ⟨rfl, rfl, rfl⟩
theorem A19 (G : IM) (k : Int) (p : Option Addr) (n c : Nat) : Fn Tryz.prog 84 [.int .i64 k, .slice p n c] [] G (H9 (.agg ⟨[.int .i64 k, .string ⟨⟨[]⟩⟩, .int .i64 0, .int .i64 0, .slice none 0 0, .int .i64 0, .slice none 0 0, .int .i64 0, .slice p n c]⟩) G) := by
 refine B7 Tryz.func84 rfl Tryz.ntmps84 Tryz.results84 rfl ?_
 intro w0
 refine tS (tR ?_)
 refine sE (A6 rfl) rfl (fun b3 => ?_)
 refine K6 ?_
 refine F0 (rC rfl (A2 rfl rfl)) ?_
 exact ⟨rfl, rfl, rfl⟩
theorem L4 (G : IM) {k : Int} (hk : D9 k) : B3 G (.mk k []) [.int .i64 k, .slice none 0 0] := by
 simp only [B3]
 exact ⟨none, 0, [], rfl, hk, B9.of (Sl.nil _ _) rfl (by simp) (by simp), by simp [B0]⟩
theorem A7E (k : Int) : H4 (.mk k []) = 0 := rfl
def TyB (B : Int) (G : IM) : IM → Value → List A4 → Prop := L5 fun G' v => ∃ t cells b, v = .tuple ⟨[.agg ⟨cells⟩, .bool b]⟩ ∧ B3 G' t cells ∧ D8 t ∧ H4 t ≤ B
theorem A33 {k : Int} {a b : Ty} (hk : k = 4 ∨ k = 5) (ha : D8 a) (hb : D8 b) : D8 (.mk k [a, b]) := by
 rw [D8]
 exact ⟨fun _ => rfl, fun h4 h5 => by omega, by simp [A0D, ha, hb]⟩
theorem S8 {k : Int} (h4 : k ≠ 4) (h5 : k ≠ 5) : D8 (.mk k []) := (A2q 0 h4 h5).ar
theorem D8.kid {k : Int} {ks : List Ty} (h : D8 (.mk k ks)) : ∀ t ∈ ks, D8 t := by
 rw [D8] at h; exact A26.1 h.2.2
theorem D8.two {k : Int} {ks : List Ty} (h : D8 (.mk k ks)) : ks.length ≤ 2 := by
 rw [D8] at h
 have h1 := h.1
 have h2 := h.2.1
 omega
theorem A5h : ∀ {ks : List Ty} {t : Ty}, t ∈ ks → H4 t ≤ K9 ks
 | [], t, h => by simp at h
 | t' :: ts, t, h => by
  rw [K9]
  have := A2Z t'
  have := A0B ts
  rcases List.mem_cons.1 h with rfl | h
  ·omega
  ·have := A5h h; omega
theorem B1K {k : Int} {ks : List Ty} {t : Ty} (h : t ∈ ks) : H4 t ≤ H4 (.mk k ks) := by
 have := A5h h
 rw [H4]; omega
def B5K (B : Int) (G : IM) : IM → Value → List A4 → Prop := L5 fun G' v => ∃ a ca b cb x, v = .tuple ⟨[.agg ⟨ca⟩, .agg ⟨cb⟩, .bool x]⟩ ∧ B3 G' a ca ∧ D8 a ∧ H4 a ≤ B ∧ B3 G' b cb ∧ D8 b ∧ H4 b ≤ B
def TyP (B : Int) (Q : Ty → Prop) (G : IM) : IM → Value → List A4 → Prop := L5 fun G' v => ∃ t cells, v = .agg ⟨cells⟩ ∧ B3 G' t cells ∧ D8 t ∧ H4 t ≤ B ∧ Q t
theorem A7F {k : Int} {ks us : List Ty} (h : D8 (.mk k ks)) (hl : us.length = ks.length) (hu : ∀ u ∈ us, D8 u) : D8 (.mk k us) := by
 rw [D8] at h ⊢
 exact ⟨fun hk => by rw [hl]; exact h.1 hk, fun a b => by rw [hl]; exact h.2.1 a b, A26.2 hu⟩
theorem A2u {P : Ty → Prop} {us : List Ty} {u : Ty} (h : ∀ x ∈ us, P x) (hu : P u) : ∀ x ∈ us ++ [u], P x := by
 simp only [List.forall_mem_append, List.forall_mem_singleton]; exact ⟨h, hu⟩
theorem A1r : ∀ (t t' : Ty) (G : IM) (cells cells' : List Value), D8 t → D8 t' → B3 G t cells → B3 G t' cells' →
  Fn Tryz.prog 83 [.agg ⟨cells⟩, .agg ⟨cells'⟩] [] G (H9 (.bool (J7 t t')) G) := by
 refine Ty.ind fun k ks ih t' G cells cells' ha ha' hr hr' => ?_
 obtain ⟨k', ks'⟩ := t'
 obtain ⟨p, c, es, rfl, hk, hsl, hkl⟩ := hr.open
 obtain ⟨p', c', es', rfl, hk', hsl', hkl'⟩ := hr'.open
 simp only [Ty.k, Ty.ks] at hk hsl hkl hk' hsl' hkl' ⊢
 have hn := hsl.le
 have hn' := hsl'.le
 have hv2 := ha.kid
 have hv2' := ha'.kid
 rw [D8] at ha ha'
 have hle : k = k' → ks.length = ks'.length := by
  rintro rfl
  have h1 := ha.1
  have h2 := ha.2.1
  have h3 := ha'.1
  have h4 := ha'.2.1
  omega
 refine B7 Tryz.func83 rfl Tryz.ntmps83 Tryz.results83 rfl ?_
 intro w0
 refine tS (tR ?_)
 refine sE (C2 rfl rfl) rfl (fun b3 => ?_)
 refine sE (C2 rfl rfl) rfl (fun b4 => ?_)
 refine D7 ?_
 refine sB (qE rfl rfl) rfl rfl (fun h13 => ?_) (fun h13 => ?_)
 refine K8 ?_
 (rw [A7p (by omega)]; exact ⟨rfl, rfl, rfl⟩)
 refine J0 ?_
 refine sB (qE rfl rfl) rfl rfl (fun h34 => ?_) (fun h34 => ?_)
 refine N8 ?_
 (rw [A7p (by omega)]; exact ⟨rfl, rfl, rfl⟩)
 refine L7 ?_
 refine sB (R9 rfl rfl) rfl rfl (fun h61 => ?_) (fun h61 => ?_)
 refine K6 ?_
 (rw [B1o (by omega) (by omega) (by omega)]; exact ⟨rfl, rfl, rfl⟩)
 refine K6 ?_
 refine B6 ?_
 (have hll : ks.length = ks'.length := hle (by omega); refine J3 (fun (i : Nat) => ⟨[(5, .int .i64 i), (3, .pointer (some ⟨b4, 0, none⟩)), (2, .pointer (some ⟨b3, 0, none⟩))], [.blk b3 [.int .i64 k, .slice p ks.length c], .blk b4 [.int .i64 k', .slice p' ks'.length c']], G⟩) (fun i => i ≤ ks.length ∧ ∀ j (h : j < ks.length) (h' : j < ks'.length), j < i → J7 ks[j] ks'[j] = true) (fun i => ks.length - i) 0 ?_ ?_ ?_)
 exact C5
 exact ⟨by omega, by omega⟩
 (rintro i ⟨hi, hf⟩)
 refine D0 ?_
 refine sB (J6 rfl rfl) rfl rfl (fun h97 => ?_) (fun h97 => ?_)
 refine sD (nS (qT rfl (tK (nS (tS ?_)))))
 refine B6 ?_
 refine tS ?_
 (obtain ⟨b, o, p2, c2, rfl, hat, hre, hgb⟩ := hsl.kidTy hkl (i := i) (by omega) (by omega); obtain ⟨b', o', p2', c2', rfl, hat', hre', hgb'⟩ := hsl'.kidTy hkl' (i := i) (by omega) (by omega); refine E4 E7 rfl ?_)
 refine K2 (i := 0) (l' := [tt,ff,ff,ff,ff,ff,ff,ff,ff,ff,ff,ff]) rfl D6 (B8 rfl) rfl (by kernel_rfl) rfl rfl ?_
 refine aL 1 rfl (C7 rfl rfl) rfl ?_
 refine aP 2 rfl (qM rfl) rfl ?_
 refine aP 3 rfl (B4 rfl rfl rfl (by omega)) rfl ?_
 refine aL 4 rfl (A5 rfl rfl (hat _) rfl) rfl ?_
 refine aP 5 rfl (B8 rfl) rfl ?_
 refine aL 6 rfl (C7 rfl rfl) rfl ?_
 refine aP 7 rfl (qM rfl) rfl ?_
 refine aP 8 rfl (B4 rfl rfl rfl (by omega)) rfl ?_
 refine aL 9 rfl (A5 rfl rfl (hat' _) rfl) rfl ?_
 refine A3 10 ?_
 refine U9 rfl rfl (ih ks[i] (List.getElem_mem (by omega)) ks'[i] G _ _ (hv2 _ (List.getElem_mem (by omega))) (hv2' _ (List.getElem_mem (by omega))) hre hre') rfl rfl rfl (fun h118 => ?_) (fun h118 => ?_)
 refine aP 11 rfl (pNt rfl) rfl ?_
 refine D7 ?_
 refine sP (I2 rfl rfl (by omega) (by omega)) rfl rfl ?_
 refine sQ (qA rfl) rfl (sD ?_)
 refine I9 (i + 1) ?_ ?_ ?_
 exact C5
 exact ⟨by omega, fun j hj hj' hji => by (by_cases he : j = i; (subst he; assumption); exact hf j hj hj' (by omega))⟩
 omega
 refine aP 11 rfl (pNf rfl) rfl ?_
 refine I4 ?_
 (rw [A7q (by omega) (by omega) (by omega), B1p (i := i) (by omega) (by omega) (by assumption)]; exact ⟨rfl, rfl, rfl⟩)
 refine I4 ?_
 (rw [A7q (by omega) (by omega) (by omega), (A10 ks _).2 ⟨hll, fun j hj hj' => hf j hj hj' (by omega)⟩]; exact ⟨rfl, rfl, rfl⟩)
theorem A34 (br : Nat) (pb : Option Addr) (nb cb : Nat) (bs : List UInt8) (hnb : nb ≤ 2000) : ∀ (t : Ty) (p : Nat) (G : IM) (cells : List Value), D8 t → B3 G t cells → Sl G pb nb cb 1 (O0 bs) → p + (H4 t).toNat + 1 < 1099511627776 →
  Fn Tryz.prog 53 [.pointer (some ⟨br, 0, none⟩), .agg ⟨cells⟩] [rd br pb nb cb p] G
   (A05 br pb nb cb p ((H4 t).toNat + 1) (fun G' v => ∃ u cells, v = .agg ⟨cells⟩ ∧ B3 G' u cells ∧ D8 u ∧ H4 u ≤ H4 t ∧ ∀ n, P7 n t → P7 n u)) := by
 refine Ty.ind fun k ks ih p G cells ha hr hb hp => ?_
 have hkid := ha.kid
 have hnn := A0B ks
 have hz : H4 (.mk k ks) = ks.length + K9 ks := by rw [H4]
 rw [hz] at hp ⊢
 obtain ⟨q, c, es, rfl, hk, hsl, hkl⟩ := hr.open
 simp only [Ty.k, Ty.ks] at hk hsl hkl ⊢
 have hn := hsl.le
 have hl2 := ha.two
 refine B7 Tryz.func53 rfl Tryz.ntmps53 Tryz.results53 rfl ?_
 intro w0
 refine tS (tR ?_)
 refine sE (C2 rfl rfl) rfl (fun b3 => ?_)
 refine sE (A6 rfl) rfl (fun b4 => ?_)
 refine sD (nS (tS (tS (tR (sQ (qM rfl) rfl ?_)))))
 (refine L3 rfl (A0C _ br pb nb cb p bs _ hb hnb (by omega)) (Pk.perm (by repeat (first | exact Pk.here | apply Pk.there))) rfl rfl (fun v11 G11 outs11 hle11 hh => ?_); obtain ⟨rfl, rfl, j11, rfl, hj11, hk11⟩ := hh; have hm := hle11)
 replace hb := hb.mono hle11
 replace hr := hr.mono hle11
 replace hsl := hsl.mono hle11
 replace hkl := hkl.mono hle11
 refine sB (qE rfl rfl) rfl rfl (fun h12 => ?_) (fun h12 => ?_)
 refine sD (nS (qT rfl (tS (tR ?_))))
 refine H2 rfl ((A09 _)) rfl rfl ?_
 refine F9 ?_
 refine sD (nS (tT (rS ?_)))
 refine H0 (outs := [rd br pb nb cb (p + 1)]) (rC rfl (A2 rfl rfl)) (by repeat (first | exact A0.nil | refine A0.cons Pk.here ?_ | refine A0.cons (Pk.there Pk.here) ?_ | refine A0.cons (Pk.there (Pk.there Pk.here)) ?_ | apply A0.drop)) ?_
 (exact ⟨p + 1, by omega, by omega, rfl, P0, _, rfl, A0l _, A27, by rw [A5f]; omega, fun n _ => A7y n⟩)
 refine L6 ?_
 refine sE (A6 rfl) rfl (fun b36 => ?_)
 refine F9 ?_
 refine sD (nS (tS (tS (tR (sQ (qA rfl) rfl (sD (nS ?_)))))))
 refine B6 ?_
 (refine T7 25 2 ?_; refine J3 (fun (x : Nat × Option Addr × Nat × List Ty × List (List Value) × Nat × IM) => ⟨[(6, .int .i64 x.1), (5, .pointer (some ⟨b36, 0, none⟩)), (4, .pointer (some ⟨b4, 0, none⟩)), (0, .pointer (some ⟨br, 0, none⟩)), (3, .pointer (some ⟨b3, 0, none⟩))], [.blk b36 [.int .i64 k, .slice x.2.1 x.1 x.2.2.1], .slc x.2.1 x.2.2.1 25 2 x.1 x.2.2.2.2.1.flatten, rd br pb nb cb x.2.2.2.2.2.1, .blk b4 [.int .i64 0, .slice none 0 0], .blk b3 [.int .i64 k, .slice q ks.length c]], x.2.2.2.2.2.2⟩) (fun x => x.1 ≤ ks.length ∧ B1 G11 x.2.2.2.2.2.2 ∧ x.2.2.2.1.length = x.1 ∧ B0 x.2.2.2.2.2.2 x.2.2.2.1 x.2.2.2.2.1 ∧ (∀ u ∈ x.2.2.2.1, D8 u) ∧ (∀ n, P7 n (.mk k ks) → ∀ u ∈ x.2.2.2.1, P7 (n - 1) u) ∧ K9 x.2.2.2.1 ≤ K9 (ks.take x.1) ∧ p + 1 ≤ x.2.2.2.2.2.1 ∧ (x.2.2.2.2.2.1 : Int) ≤ p + 1 + x.1 + K9 (ks.take x.1)) (fun x => ks.length - x.1) (0, none, 0, [], [], p + 1, G11) ?_ ?_ ?_)
 (simp only [E2]; exact C5)
 (exact ⟨by simp, B1.refl _, rfl, by simp [B0], by simp, by simp, by simp [K9], by dsimp only; omega, by simp [K9]⟩)
 (rintro ⟨i, pn, cn, us, es', p', Gi⟩ ⟨hi, hle, hlu, hst, hau, hhu, hsu, hp1, hp2⟩; simp only [] at hi hle hlu hst hau hhu hsu hp1 hp2 ⊢; replace hsl := hsl.mono hle; replace hkl := hkl.mono hle; have htk := A61 ks i)
 refine D0 ?_
 refine sB (J6 rfl rfl) rfl rfl (fun h58 => ?_) (fun h58 => ?_)
 refine sD (nS (qT rfl (tK (nS (tS ?_)))))
 refine B6 ?_
 (obtain ⟨b, o, q0, d0, hp0, hat0, hre0, hg0⟩ := hsl.kidTy hkl (i := i) (by omega) (by omega); subst hp0; have e1 := B0V (ks := ks) (i := i) (by omega); have e2 := A61 ks (i + 1); have e3 := A2Z ks[i]; have hih := ih ks[i] (List.getElem_mem (by omega)) p' Gi _ (hkid _ (List.getElem_mem (by omega))) hre0 (hb.mono hle) (by omega); refine E4 E7 rfl ?_)
 refine K2 (i := 0) (l' := [tt,ff,ff,ff,ff,ff,ff,ff,ff,ff,ff,ff,ff]) rfl D6 (B8 rfl) rfl (by kernel_rfl) rfl rfl ?_
 refine aL 1 rfl (C7 rfl rfl) rfl ?_
 refine aP 2 rfl (qM rfl) rfl ?_
 refine aP 3 rfl (B8 rfl) rfl ?_
 refine aL 4 rfl (C7 rfl rfl) rfl ?_
 refine aP 5 rfl (qM rfl) rfl ?_
 refine aP 6 rfl (B4 rfl rfl rfl (by omega)) rfl ?_
 refine aL 7 rfl (A5 rfl rfl (hat0 _) rfl) rfl ?_
 refine A3 8 ?_
 (refine A0c (l' := [tt,tt,tt,tt,tt,tt,tt,tt,tt,ff,ff,ff,ff]) rfl rfl hih (Pk.perm (by repeat (first | exact Pk.here | apply Pk.there))) rfl rfl rfl (by repeat (first | exact A8.nil | apply A8.dep (by decide +kernel) | apply A8.blk (by decide +kernel) (by repeat (first | exact Pk.here | apply Pk.there)) (by repeat first | exact mH | apply mT) | apply A8.im (by decide +kernel) hg0 (by repeat first | exact mH | apply mT))) (fun v G3 outs hle3 hh => ?_); obtain ⟨p3, hp31, hp32, rfl, u, cells3, rfl, hru, hua, hus, huh⟩ := hh; obtain ⟨q3, c3, es3, rfl, _⟩ := hru.open)
 refine A3 9 ?_
 (refine E1 rfl (C3 rfl rfl rfl (by omega) (by unfold maxLen; omega) rfl) rfl rfl ?_; rintro _ ⟨b78, rfl⟩)
 refine A3 10 ?_
 refine T3 rfl rfl rfl rfl rfl rfl (fun _ _ => by repeat (first | exact Sw.here | apply Sw.there)) (N2 (by repeat first | exact mH | apply mT)) rfl (by simp [Value.oneCell']) (by unfold maxLen; omega) (by omega) rfl rfl (by repeat (first | exact A8.nil | apply A8.dep (by decide +kernel) | apply A8.blk (by decide +kernel) (by repeat (first | exact Pk.here | apply Pk.there)) (by repeat first | exact mH | apply mT))) (fun pn' cn' => ?_)
 refine aP 11 rfl (B8 rfl) rfl ?_
 refine A3 12 ?_
 refine U1 rfl rfl rfl rfl rfl rfl rfl rfl (by kernel_rfl) (by repeat first | exact Sw.here | apply Sw.there) (by rfl) ?_
 refine C4 (M9 (nS (tR (sQ (qM rfl) rfl ?_))))
 refine sP (I2 rfl rfl (by omega) (by omega)) rfl rfl ?_
 refine sQ (qA rfl) rfl (sD ?_)
 refine I9 (i + 1, pn', cn', us ++ [u], es' ++ [[.int .i64 u.k, .slice q3 u.ks.length c3]], p3, G3) ?_ ?_ ?_
 (simp only [E2]; exact C5)
 (dsimp only; exact ⟨by omega, hle.trans hle3, by simp [hlu], B0.snoc (hst.mono hle3) hru, A2u hau hua, fun n hn => A2u (hhu n hn) (huh _ (A5a hn (List.getElem_mem _))), by rw [A30]; omega, by omega, by omega⟩)
 (show ks.length - (i + 1) < ks.length - i; omega)
 refine M1 ?_
 (refine H8 (by repeat (first | exact Pk.here | apply Pk.there)) (fun G5 hle5 hsl5 hno5 => ?_); obtain rfl : i = ks.length := (by omega))
 refine tT ?_
 refine H0 (outs := [rd br pb nb cb p']) (rC rfl (A2 rfl rfl)) (by repeat (first | exact A0.nil | refine A0.cons Pk.here ?_ | refine A0.cons (Pk.there Pk.here) ?_ | refine A0.cons (Pk.there (Pk.there Pk.here)) ?_ | apply A0.drop)) ?_
 (rw [List.take_length] at hsu hp2; refine ⟨p', by omega, by omega, rfl, .mk k us, _, rfl, (hst.mono hle5).ty hlu hsl5 hk, A7F ha hlu hau, by rw [H4]; omega, fun n hn => B1x hn hlu (hhu n hn)⟩)
theorem At.sub {hp : List A4} {G : IM} {b o j : Nat} {vs : List Value} {v : Value} (h : At hp G b o vs) (hj : vs[j]? = some v) : At hp G b (o + j) [v] := by
 have key : ∀ {cs : List Value}, (∀ i u, vs[i]? = some u → cs[o + i]? = some u) → ∀ i u, [v][i]? = some u → cs[o + j + i]? = some u := by
  intro cs hc i u hu
  cases i with
  | zero => simp at hu; subst hu; simpa using hc j v hj
  | succ i => simp at hu
 rcases h with ⟨cs, hm, hv⟩ | ⟨n, c, el, sz, cs, hm, hv⟩ | ⟨full, hg, hv⟩
 ·exact .inl ⟨cs, hm, key hv⟩
 ·exact .inr (.inl ⟨n, c, el, sz, cs, hm, key hv⟩)
 ·exact .inr (.inr ⟨full, hg, key hv⟩)
def HTm (G : IM) (t : Tm) (k : Int) (cells : List Value) : Prop := ∃ pt ct et pf cf ef p c es,
 cells = [.int .i64 t.k, .string t.nm, .int .i64 t.num, .int .i64 t.ty.k, .slice pt t.ty.ks.length ct, .int .i64 t.fr.k, .slice pf t.fr.ks.length cf, .int .i64 t.lb, .slice p t.ks.length c] ∧
 B9 G pt t.ty.ks.length ct 2 et ∧ B0 G (A1B t.ty.ks k) et ∧ B9 G pf t.fr.ks.length cf 2 ef ∧ B0 G (A1B t.fr.ks (k + Z1 t.ty.ks)) ef ∧ B9 G p t.ks.length c 9 es ∧ C8 G (A3V t.ks (k + Z1 t.ty.ks + Z1 t.fr.ks)) es
theorem B1L {nm : ByteArray} (h : Y6 nm = true) : nm.size = 1 := by
 unfold Y6 at h
 simp at h
 omega
theorem A7G {k : Int} {nm : ByteArray} {num : Int} {ty fr : Ty} {lb : Int} {n : Nat} (h : V8 k nm num ty fr lb n = true) : nm.size ≤ 1 := by
 obtain ⟨_, h2, h3, _⟩ := W8.1 h
 by_cases hk : k = 1 ∨ k = 5
 ·rw [B1L (h2 hk)]; omega
 ·rw [h3 hk]; decide
def RBd (G : IM) (e : List Value) : Prop := ∃ nm t q d, e = [.string nm, .int .i64 t.k, .slice q t.ks.length d] ∧ B3 G t [.int .i64 t.k, .slice q t.ks.length d] ∧ D8 t ∧ H4 t ≤ 30 ∧ nm.size ≤ 1
def V9 (G : IM) (p : Option Addr) (n c : Nat) : Prop := ∃ es, es.length = n ∧ B9 G p n c 3 es ∧ ∀ e ∈ es, RBd G e
theorem RBd.mono {G G' : IM} {e : List Value} (h : RBd G e) (hg : B1 G G') : RBd G' e := by
 obtain ⟨nm, t, q, d, h1, h2, h3, h4⟩ := h
 exact ⟨nm, t, q, d, h1, h2.mono hg, h3, h4⟩
theorem V9.mono {G G' : IM} {p : Option Addr} {n c : Nat} (h : V9 G p n c) (hg : B1 G G') : V9 G' p n c := by
 obtain ⟨es, h1, h2, h3⟩ := h
 exact ⟨es, h1, h2.mono hg, fun e he => (h3 e he).mono hg⟩
theorem V9.nil (G : IM) : V9 G none 0 0 := ⟨[], rfl, B9.nil _ _, by simp⟩
theorem At.drop {hp : List A4} {G : IM} {b o : Nat} {v : Value} {vs : List Value} (h : At hp G b o (v :: vs)) : At hp G b (o + 1) vs := by
 have key : ∀ {cs : List Value}, (∀ i u, (v :: vs)[i]? = some u → cs[o + i]? = some u) → ∀ i u, vs[i]? = some u → cs[o + 1 + i]? = some u := by
  intro cs hc i u hu
  have := hc (i + 1) u (by simpa using hu)
  rwa [show o + 1 + i = o + (i + 1) by omega]
 rcases h with ⟨cs, hm, hv⟩ | ⟨n, c, el, sz, cs, hm, hv⟩ | ⟨full, hg, hv⟩
 ·exact .inl ⟨cs, hm, key hv⟩
 ·exact .inr (.inl ⟨n, c, el, sz, cs, hm, key hv⟩)
 ·exact .inr (.inr ⟨full, hg, key hv⟩)
theorem V9.get {G : IM} {p : Option Addr} {n c : Nat} (h : V9 G p n c) {i : Nat} (hi : i < n) :
  ∃ b o nm t q d, p = some ⟨b, o, none⟩ ∧ (∀ hp, At hp G b (o + i * 3) [.string nm, .int .i64 t.k, .slice q t.ks.length d]) ∧ B3 G t [.int .i64 t.k, .slice q t.ks.length d] ∧ D8 t ∧ H4 t ≤ 30 ∧ G b ≠ none ∧ nm.size ≤ 1 := by
 obtain ⟨es, h1, h2, h3⟩ := h
 obtain ⟨e, b, o, he, rfl, hl, _, hat, hgb⟩ := h2.get (i := i) (by omega)
 obtain ⟨nm, t, q, d, rfl, h5, h6, h7, h8⟩ := h3 e (List.mem_of_getElem? he)
 exact ⟨b, o, nm, t, q, d, rfl, hat, h5, h6, h7, hgb, h8⟩
theorem V9.le {G : IM} {p : Option Addr} {n c : Nat} (h : V9 G p n c) : n ≤ 9223372036854775807 := by
 obtain ⟨es, h1, h2, h3⟩ := h
 exact h2.le
theorem B1M (G : IM) (p : Option Addr) (n c : Nat) (nm : ByteArray) (hx : V9 G p n c) :
  Fn Tryz.prog 82 [.slice p n c, .string nm] [] G (TyB 30 G) := by
 have hn := hx.le
 refine B7 Tryz.func82 rfl Tryz.ntmps82 Tryz.results82 rfl ?_
 intro w0
 refine tS (tR ?_)
 refine sE (A6 rfl) rfl (fun b3 => ?_)
 refine D7 ?_
 refine sP (O4 rfl rfl (by omega) (by omega)) rfl rfl ?_
 refine sQ (qA rfl) rfl (sD (nS ?_))
 refine B6 ?_
 (refine J3 (fun (i : Nat) => ⟨[(6, .int .i64 ((i : Int) - 1)), (0, .slice p n c), (1, .string nm), (4, .pointer (some ⟨b3, 0, none⟩))], [.blk b3 [.int .i64 0, .slice none 0 0]], G⟩) (fun i => i ≤ n) (fun i => i) n ?_ ?_ ?_)
 exact C5
 exact Nat.le_refl _
 (rintro i hi)
 refine tS (tS (tR (sQ (qM rfl) rfl ?_)))
 refine sB (A0Q rfl rfl) rfl rfl (fun h25 => ?_) (fun h25 => ?_)
 refine sD (nS (qT rfl (tK (nS (tS ?_)))))
 (show J1 _ _ (.block 1 _) _ _; obtain ⟨j, rfl⟩ : ∃ j, i = j + 1 := ⟨i - 1, by omega⟩; rw [show ((j + 1 : Nat) : Int) - 1 = (j : Int) from by omega]; obtain ⟨b, o, nm1, t1, q1, d1, rfl, hat, hr1, ha1, hs1, hgb, hns1⟩ := hx.get (i := j) (by omega); refine B6 ?_)
 refine tS (tR (sQ (qM rfl) rfl (sQ (qM rfl) rfl ?_)))
 refine sP (B4 rfl rfl rfl (by omega)) rfl rfl ?_
 refine sQ (qF rfl) rfl ?_
 refine sL (A0w rfl rfl ((hat _).sub (j := 0) rfl)) rfl rfl ?_
 refine sQ (qM rfl) rfl ?_
 refine sB (A2k rfl rfl) rfl rfl (fun h41 => ?_) (fun h41 => ?_)
 refine D0 ?_
 refine sP (B4 rfl rfl rfl (by omega)) rfl rfl ?_
 refine sQ (qF rfl) rfl ?_
 refine sL (A5 rfl rfl (hat _).drop rfl) rfl rfl ?_
 (refine F4 rfl (U6 _ G _ ha1.small hr1) rfl rfl (fun v G1 hle1 hh => ?_); obtain ⟨cs1, F1, rfl, hs1', hn1⟩ := hh; obtain ⟨p1, c1, rfl, _⟩ := hs1'.open; have hrr := hs1'.R.mono (C1.le G1 G))
 refine L6 ?_
 refine E9 (rC rfl (A2 rfl rfl)) (rT rfl) ?_
 (exact ⟨rfl, _, _, _, rfl, hrr, ha1, hs1⟩)
 refine D7 ?_
 refine sP (O4 rfl rfl (by omega) (by omega)) rfl rfl ?_
 refine sQ (qA rfl) rfl (sD ?_)
 refine I9 j ?_ ?_ ?_
 exact C5
 (show _ ≤ n; omega)
 exact Nat.le_refl _
 refine K8 ?_
 refine E9 (rC rfl (A2 rfl rfl)) (rT rfl) ?_
 (exact ⟨rfl, _, _, _, rfl, L4 _ ⟨by omega, by omega⟩, S8 (by omega) (by omega), by rw [A7E]; omega⟩)
theorem A5i {G : IM} {nm : ByteArray} {k : Int} {ks : List Ty} {q : Option Addr} {d : Nat} (hr : B3 G (.mk k ks) [.int .i64 k, .slice q ks.length d]) (ha : D8 (.mk k ks)) (hs : H4 (.mk k ks) ≤ 30) (hn : nm.size ≤ 1) : RBd G [.string nm, .int .i64 k, .slice q ks.length d] := ⟨nm, .mk k ks, q, d, rfl, hr, ha, hs, hn⟩
theorem V9.snoc {G G' : IM} {p p' : Option Addr} {n c c' : Nat} {es : List (List Value)} {e : List Value} (h1 : es.length = n) (h2 : B9 G p n c 3 es) (h3 : ∀ e ∈ es, RBd G e) (hg : B1 G G') (he : RBd G' e) (hs : Sl G' p' (n + 1) c' 3 (es.flatten ++ e)) : V9 G' p' (n + 1) c' := by
 refine ⟨es ++ [e], by simp [h1], B9.of (by simpa using hs) (by simp [h1]) ?_ ?_, ?_⟩
 ·intro x hx
  rcases List.mem_append.1 hx with hx | hx
  ·obtain ⟨_, _, _, _, rfl, _⟩ := h3 x hx; rfl
  ·obtain ⟨_, _, _, _, rfl, _⟩ := he
   simp only [List.mem_singleton] at hx; subst hx; rfl
 ·intro x hx
  rcases List.mem_append.1 hx with hx | hx
  ·obtain ⟨_, _, _, _, rfl, _⟩ := h3 x hx; simp [Value.oneCell']
  ·obtain ⟨_, _, _, _, rfl, _⟩ := he
   simp only [List.mem_singleton] at hx; subst hx; simp [Value.oneCell']
 ·intro x hx
  rcases List.mem_append.1 hx with hx | hx
  ·exact (h3 x hx).mono hg
  ·simp only [List.mem_singleton] at hx; subst hx; exact he
theorem B1N (G : IM) (p : Option Addr) (n c : Nat) (nm : ByteArray) (t : Ty) (cells : List Value) (hx : V9 G p n c) (hn : n ≤ 1000) (hr : B3 G t cells) (ha : D8 t) (hs : H4 t ≤ 30) (hnm : nm.size ≤ 1) :
  Fn Tryz.prog 99 [.slice p n c, .string nm, .agg ⟨cells⟩] [] G (L5 fun G' v => ∃ p' c', v = .slice p' (n + 1) c' ∧ V9 G' p' (n + 1) c') := by
 obtain ⟨k, ks⟩ := t
 obtain ⟨q, d, es0, rfl, _⟩ := hr.open
 simp only [Ty.k, Ty.ks] at hr ⊢
 obtain ⟨es, h1, h2, h3⟩ := hx
 have hSl : Sl G p n c 3 es.flatten := h2.1
 have h1c : ∀ u ∈ es.flatten, u.oneCell' = true := by
  intro u hu
  obtain ⟨e, he, hue⟩ := List.mem_flatten.1 hu
  obtain ⟨_, _, _, _, rfl, _⟩ := h3 e he
  simp only [List.mem_cons, List.not_mem_nil, or_false] at hue
  rcases hue with rfl | rfl | rfl <;> rfl
 refine B7 Tryz.func99 rfl Tryz.ntmps99 Tryz.results99 rfl ?_
 intro w0
 refine tS (tR ?_)
 refine sE (C2 rfl rfl) rfl (fun b3 => ?_)
 refine sQ (qA rfl) rfl (sD (nS (tS ?_)))
 refine E4 E7 rfl ?_
 refine K2 (i := 1) (l' := [ff,tt,ff,ff,ff,ff,ff,ff,ff]) rfl D6 (qM rfl) rfl (by kernel_rfl) rfl rfl ?_
 refine aP 3 rfl (qM rfl) rfl ?_
 refine aL 4 rfl (A2 rfl rfl) rfl ?_
 refine aP 5 rfl (S0 rfl rfl) rfl ?_
 refine T6 (j := 0) (j' := 6) (by kernel_rfl) ?_ ?_
 (refine E1 rfl (C3 rfl rfl rfl (by omega) (by unfold maxLen; omega) rfl) rfl rfl ?_; rintro _ ⟨b14, rfl⟩)
 refine T6 (j := 2) (j' := 6) (by kernel_rfl) ?_ ?_
 (refine A2p rfl rfl rfl rfl rfl rfl (fun _ _ => by repeat (first | exact Sw.here | apply Sw.there)) hSl h1c (Nat.zero_le _) (by unfold maxLen; omega) (by omega) rfl rfl (by repeat (first | exact A8.nil | apply A8.dep (by decide +kernel) | apply A8.blk (by decide +kernel) (by repeat (first | exact Pk.here | apply Pk.there)) (by repeat first | exact mH | apply mT))) (fun p4 c4 => ?_); simp only [Nat.zero_add, List.nil_append])
 refine A3 6 ?_
 (refine E1 rfl (C3 rfl rfl rfl (by omega) (by unfold maxLen; omega) rfl) rfl rfl ?_; rintro _ ⟨b18, rfl⟩)
 refine A3 7 ?_
 (refine T3 rfl rfl rfl rfl rfl rfl (fun _ _ => by repeat (first | exact Sw.here | apply Sw.there)) (N2 (by repeat first | exact mH | apply mT)) rfl (by simp [Value.oneCell']) (by unfold maxLen; omega) (by omega) rfl rfl (by repeat (first | exact A8.nil | apply A8.dep (by decide +kernel) | apply A8.blk (by decide +kernel) (by repeat (first | exact Pk.here | apply Pk.there)) (by repeat first | exact mH | apply mT))) (fun p5 c5 => ?_))
 refine aP 8 rfl (qA rfl) rfl ?_
 refine C4 (nS ?_)
 (refine H8 (cs := es.flatten ++ [.string nm, .int .i64 k, .slice q ks.length d]) (by repeat (first | exact Pk.here | apply Pk.there)) (fun G5 hle5 hsl5 hno5 => ?_))
 refine tT (F0 (rT rfl) ?_)
 (exact ⟨rfl, _, _, rfl, V9.snoc h1 h2 h3 hle5 (A5i (hr.mono hle5) ha hs hnm) hsl5⟩)
 (refine E1 rfl (C3 rfl rfl rfl (by omega) (by unfold maxLen; omega) rfl) rfl rfl ?_; rintro _ ⟨b28, rfl⟩)
 refine A3 2 ?_
 (refine A2p rfl rfl rfl rfl rfl rfl (fun _ _ => by repeat (first | exact Sw.here | apply Sw.there)) hSl h1c (Nat.zero_le _) (by unfold maxLen; omega) (by omega) rfl rfl (by repeat (first | exact A8.nil | apply A8.dep (by decide +kernel) | apply A8.blk (by decide +kernel) (by repeat (first | exact Pk.here | apply Pk.there)) (by repeat first | exact mH | apply mT))) (fun p4 c4 => ?_); simp only [Nat.zero_add, List.nil_append])
 refine A3 7 ?_
 (refine T3 rfl rfl rfl rfl rfl rfl (fun _ _ => by repeat (first | exact Sw.here | apply Sw.there)) (N2 (by repeat first | exact mH | apply mT)) rfl (by simp [Value.oneCell']) (by unfold maxLen; omega) (by omega) rfl rfl (by repeat (first | exact A8.nil | apply A8.dep (by decide +kernel) | apply A8.blk (by decide +kernel) (by repeat (first | exact Pk.here | apply Pk.there)) (by repeat first | exact mH | apply mT))) (fun p5 c5 => ?_))
 refine aP 8 rfl (qA rfl) rfl ?_
 refine C4 (nS ?_)
 (refine H8 (cs := es.flatten ++ [.string nm, .int .i64 k, .slice q ks.length d]) (by repeat (first | exact Pk.here | apply Pk.there)) (fun G5 hle5 hsl5 hno5 => ?_))
 refine tT (F0 (rT rfl) ?_)
 (exact ⟨rfl, _, _, rfl, V9.snoc h1 h2 h3 hle5 (A5i (hr.mono hle5) ha hs hnm) hsl5⟩)
 (refine E1 rfl (C3 rfl rfl rfl (by omega) (by unfold maxLen; omega) rfl) rfl rfl ?_; rintro _ ⟨b40, rfl⟩)
 refine A3 0 ?_
 (refine E1 rfl (C3 rfl rfl rfl (by omega) (by unfold maxLen; omega) rfl) rfl rfl ?_; rintro _ ⟨b42, rfl⟩)
 refine A3 2 ?_
 (refine A2p rfl rfl rfl rfl rfl rfl (fun _ _ => by repeat (first | exact Sw.here | apply Sw.there)) hSl h1c (Nat.zero_le _) (by unfold maxLen; omega) (by omega) rfl rfl (by repeat (first | exact A8.nil | apply A8.dep (by decide +kernel) | apply A8.blk (by decide +kernel) (by repeat (first | exact Pk.here | apply Pk.there)) (by repeat first | exact mH | apply mT))) (fun p4 c4 => ?_); simp only [Nat.zero_add, List.nil_append])
 refine A3 7 ?_
 (refine T3 rfl rfl rfl rfl rfl rfl (fun _ _ => by repeat (first | exact Sw.here | apply Sw.there)) (N2 (by repeat first | exact mH | apply mT)) rfl (by simp [Value.oneCell']) (by unfold maxLen; omega) (by omega) rfl rfl (by repeat (first | exact A8.nil | apply A8.dep (by decide +kernel) | apply A8.blk (by decide +kernel) (by repeat (first | exact Pk.here | apply Pk.there)) (by repeat first | exact mH | apply mT))) (fun p5 c5 => ?_))
 refine aP 8 rfl (qA rfl) rfl ?_
 refine C4 (nS ?_)
 (refine H8 (cs := es.flatten ++ [.string nm, .int .i64 k, .slice q ks.length d]) (by repeat (first | exact Pk.here | apply Pk.there)) (fun G5 hle5 hsl5 hno5 => ?_))
 refine tT (F0 (rT rfl) ?_)
 (exact ⟨rfl, _, _, rfl, V9.snoc h1 h2 h3 hle5 (A5i (hr.mono hle5) ha hs hnm) hsl5⟩)
theorem B1O (G : IM) : Fn Tryz.prog 65 [.slice none 0 0] [] G (H9 (.bool true) G) := by
 refine B7 Tryz.func65 rfl Tryz.ntmps65 Tryz.results65 rfl ?_
 intro w0
 refine K6 ?_
 refine B6 ?_
 (refine J3 (fun (_ : Nat) => ⟨[(3, .int .i64 0), (0, .slice none 0 0)], [], G⟩) (fun _ => True) (fun i => i) 0 ?_ ?_ ?_)
 ·exact C5
 ·trivial
 ·(rintro i _)
  refine I0 ?_
  refine sP (A4K rfl rfl (by omega)) rfl rfl ?_
  refine N8 ?_
  refine sP (A6u rfl rfl (by omega)) rfl rfl ?_
  refine sQ (qA rfl) rfl (sD (nS (tT (F0 (rT rfl) ?_))))
  trivial
theorem A35 {k : Int} {n : Nat} (h : D1 k = n) : (k = 6 ∨ k = 7 ∨ k = 8 ∨ k = 10 → n = 2) ∧ (k = 9 → n = 3) ∧ (k = 5 ∨ k = 11 ∨ k = 12 ∨ k = 13 → n = 1) := by
 refine ⟨?_, ?_, ?_⟩
 ·rintro (rfl | rfl | rfl | rfl)
  ·rw [show D1 6 = 2 from rfl] at h; omega
  ·rw [show D1 7 = 2 from rfl] at h; omega
  ·rw [show D1 8 = 2 from rfl] at h; omega
  ·rw [show D1 10 = 2 from rfl] at h; omega
 ·rintro rfl
  rw [show D1 9 = 3 from rfl] at h; omega
 ·rintro (rfl | rfl | rfl | rfl)
  ·rw [show D1 5 = 1 from rfl] at h; omega
  ·rw [show D1 11 = 1 from rfl] at h; omega
  ·rw [show D1 12 = 1 from rfl] at h; omega
  ·rw [show D1 13 = 1 from rfl] at h; omega
theorem A7H {ts : List Ty} {i : Nat} (h : i < ts.length) : H4 ts[i] ≤ K9 ts := A5h (List.getElem_mem h)
theorem B1P : ∀ (t : Ty) (d : Int), I1 t d = true → D8 t := by
 refine Ty.ind fun k ks ih d h => ?_
 obtain ⟨h1, h2⟩ := A47 h
 rw [D8]
 refine ⟨fun hk => ?_, fun h4 h5 => ?_, A26.2 fun t ht => ?_⟩
 ·have := (L8 k).2.1 hk
  omega
 ·have h5' := L8 k
  have h6 := h5'.1
  have h7 := h5'.2.2
  omega
 ·obtain ⟨i, hi, rfl⟩ := List.getElem_of_mem ht
  exact ih _ ht _ (h2 i hi)
theorem B1Q : ∀ (n : Nat) (t : Ty) (d : Int), I1 t d = true → 4 - d ≤ n → P7 n t := by
 intro n
 induction n with
 | zero =>
  rintro ⟨k, ks⟩ d h hd
  obtain ⟨h1, h2⟩ := A47 h
  have hks : ks.length = 0 := by
   rcases Nat.eq_zero_or_pos ks.length with h0 | h0
   ·exact h0
   ·have h3 := h2 0 h0
    obtain ⟨k', ks'⟩ : Ty := ks[0]
    have h4 : ∀ (u : Ty) (d : Int), I1 u d = true → d ≤ 4 := by
     rintro ⟨a, b⟩ d hu
     rw [I1] at hu
     simp only [Bool.and_eq_true, decide_eq_true_eq] at hu
     exact hu.1.1
    have := h4 _ _ h3
    omega
  have h5 := L8 k
  have h6 := h5.2.1
  exact ⟨List.length_eq_zero_iff.1 hks, by intro h; have := h6 (.inl h); omega, by intro h; have := h6 (.inr h); omega⟩
 | succ n ih =>
  rintro ⟨k, ks⟩ d h hd
  have ha := B1P _ _ h
  rw [D8] at ha
  obtain ⟨h1, h2⟩ := A47 h
  refine ⟨ha.1, ha.2.1, fun t ht => ?_⟩
  obtain ⟨i, hi, rfl⟩ := List.getElem_of_mem ht
  exact ih _ _ (h2 i hi) (by omega)
theorem A0d {t : Ty} (h : C9 t = true) : D8 t ∧ H4 t ≤ 30 := by
 have h1 := B1Q 3 t 1 h (by omega)
 have h2 := A3Y h1
 have h3 : ((2 ^ (3 + 1) - 2 : Nat) : Int) = 14 := rfl
 exact ⟨h1.ar, by omega⟩
theorem B1R {t : Ty} (h : X5 t = true) : D8 t ∧ H4 t ≤ 30 := by
 rw [A18 h]
 exact ⟨S8 (by decide) (by decide), by rw [A7, A7E]; omega⟩
theorem A36 {k : Int} {nm : ByteArray} {num : Int} {ty fr : Ty} {lb : Int} {n : Nat} (h : V8 k nm num ty fr lb n = true) : D8 ty ∧ H4 ty ≤ 30 := by
 have hn := W8.1 h
 by_cases hk : k = 5 ∨ k = 13 ∨ k = 14
 ·exact A0d (hn.2.2.2.2.2.1 hk)
 ·exact B1R (hn.2.2.2.2.2.2.1 hk)
theorem A9.of9 {G : IM} {k : Int} {nm : ByteArray} {num tk fk : Int} {tks fks : List Ty} {lb : Int} {ks : List Tm} {q1 q2 q3 : Option Addr} {c1 c2 c3 : Nat} {es : List (List Value)} (hk : D9 k) (hnum : D9 num) (hlb : D9 lb) (hty : B3 G (.mk tk tks) [.int .i64 tk, .slice q1 tks.length c1])
  (hfr : B3 G (.mk fk fks) [.int .i64 fk, .slice q2 fks.length c2]) (hsl : B9 G q3 ks.length c3 9 es) (hkl : C8 G ks es) :
  A9 G (.mk k nm num (.mk tk tks) (.mk fk fks) lb ks) [.int .i64 k, .string nm, .int .i64 num, .int .i64 tk, .slice q1 tks.length c1, .int .i64 fk, .slice q2 fks.length c2, .int .i64 lb, .slice q3 ks.length c3] := by
 simp only [A9]
 exact ⟨_, _, q3, c3, es, rfl, hk, hnum, hlb, hty, hfr, hsl, hkl⟩
theorem A2a {k k' : Int} {nm nm' : ByteArray} {num num' : Int} {ty fr ty' fr' : Ty} {lb lb' : Int} {ks : List Tm} (h : (Tm.mk k nm num ty fr lb ks).small) (h1 : nm'.size ≤ 4294967296) (h2 : ty'.small) (h3 : fr'.small) : (Tm.mk k' nm' num' ty' fr' lb' ks).small := by
 simp only [Tm.small] at h ⊢
 exact ⟨h1, h2, h3, h.2.2.2⟩
def Tm.fit (t : Tm) (N : Nat) : Prop := t.small ∧ E0 t ≤ N
theorem B1S (br : Nat) (pb : Option Addr) (nb cb : Nat) (bs : List UInt8) (hnb : nb ≤ 2000) (p : Nat) (G : IM) (hb : Sl G pb nb cb 1 (O0 bs)) (hp : p + 100 < 1099511627776) (t : Tm) (cells : List Value) (N : Nat) (hfit : t.fit N) (hr : A9 G t cells) :
  Fn Tryz.prog 22 [.pointer (some ⟨br, 0, none⟩), .agg ⟨cells⟩] [rd br pb nb cb p] G
   (A05 br pb nb cb p 40 (fun G' v => ∃ t cells, v = .agg ⟨cells⟩ ∧ A9 G' t cells ∧ t.fit N)) := by
 have hl := hr.len
 have hone := hr.one
 obtain ⟨k, nm, num, ⟨tk, tks⟩, ⟨fk, fks⟩, lb, ks⟩ := t
 have hfit0 := hfit
 obtain ⟨hsm, hcn⟩ := hfit0
 replace hfit : (Tm.mk k nm num (.mk tk tks) (.mk fk fks) lb ks).small ∧ E0 (Tm.mk k nm num (.mk tk tks) (.mk fk fks) lb ks) ≤ N := hfit
 rw [show (Tm.mk k nm num (.mk tk tks) (.mk fk fks) lb ks).small = (nm.size ≤ 4294967296 ∧ (Ty.mk tk tks).small ∧ (Ty.mk fk fks).small ∧ ks.length ≤ 4294967296 ∧ Tm.smallL ks) from by rw [Tm.small]] at hfit
 refine B7 Tryz.func22 rfl Tryz.ntmps22 Tryz.results22 rfl ?_
 intro w0
 refine tS (tR ?_)
 refine sE (C2 rfl rfl) rfl (fun b3 => ?_)
 refine sE (A6 rfl) rfl (fun b4 => ?_)
 refine sD (nS (tS (tR ?_)))
 refine sL (A5 rfl rfl (B5 (by repeat first | exact mH | apply mT)) (by assumption)) rfl rfl ?_
 (refine F4 rfl (A69 _ G cells hsm hr) rfl rfl (fun v G1 hle1 hh => ?_); obtain ⟨cells1, F1, rfl, hs1, hn1⟩ := hh; have hr1 := hs1.R.mono (C1.le G1 G); obtain ⟨q1, c1, q2, c2, q3, c3, es, rfl, hk, hnum, hlb, hty, hfr, hsl, hkl⟩ := hr1.open9)
 refine sE (A6 rfl) rfl (fun b11 => ?_)
 refine F9 ?_
 refine sD (nS (tS (tS (tR (sQ (qM rfl) rfl ?_)))))
 (refine L3 rfl (A0C _ br pb nb cb p bs 50 (hb.mono hle1) hnb (by omega)) (Pk.perm (by repeat (first | exact Pk.here | apply Pk.there))) rfl rfl (fun v G2 outs hle2 hh => ?_); obtain ⟨rfl, rfl, j, rfl, hj0, hj1⟩ := hh; replace hb := hb.mono hle1)
 refine sD (nS ?_)
 (show J1 _ _ (.block 0 _) _ _; refine A2r (fun (x : List Value × Nat × IM) => ⟨[(5, .pointer (some ⟨b11, 0, none⟩)), (4, .pointer (some ⟨b4, 0, none⟩))], [.blk b11 x.1, .blk b4 [.int .i64 0, .string ⟨⟨[]⟩⟩, .int .i64 0, .int .i64 0, .slice none 0 0, .int .i64 0, .slice none 0 0, .int .i64 0, .slice none 0 0], rd br pb nb cb x.2.1], x.2.2⟩) (fun x => B1 G2 x.2.2 ∧ p ≤ x.2.1 ∧ x.2.1 ≤ p + 40 ∧ ∃ t, A9 x.2.2 t x.1 ∧ t.small ∧ E0 t = E0 (.mk k nm num (.mk tk tks) (.mk fk fks) lb ks)) ?_ ?_)
 refine B6 (tS (tR (sB (qE rfl rfl) rfl rfl (fun h26 => ?_) (fun h26 => ?_))))
 refine sQ (qA rfl) rfl (sD (nS (qT rfl (tR (sQ (qM rfl) rfl ?_)))))
 (refine I8 (C3 rfl rfl rfl (by omega) (by unfold maxLen; omega) rfl) rfl ?_; rintro _ ⟨b33, rfl⟩)
 (refine T8 (by repeat (first | exact Pk.here | apply Pk.there)) (fun G4 hle4 hsl4 _ => ?_); refine L3 rfl (A1q G4 br pb nb cb (p + 1) bs _ _ _ _ (hb.mono hle4) hnb (by omega) hsl4 (by decide)) (Pk.perm (by repeat (first | exact Pk.here | apply Pk.there))) rfl rfl (fun v G5 outs hle5 hh => ?_); obtain ⟨rfl, rfl, hv⟩ := hh; obtain ⟨k', rfl, hk'⟩ : ∃ k', v = .int .i64 k' ∧ D9 k' := (by simp only [List.mem_cons, List.not_mem_nil, or_false] at hv; rcases hv with rfl | rfl | rfl | rfl | rfl | rfl <;> exact ⟨_, rfl, by unfold D9; omega⟩))
 refine sQ (B8 rfl) rfl (F9 ?_)
 refine sD (M9 ?_)
 refine V0 ([.int .i64 k', .string nm, .int .i64 num, .int .i64 tk, .slice q1 tks.length c1, .int .i64 fk, .slice q2 fks.length c2, .int .i64 lb, .slice q3 ks.length c3], p + 1 + 1, G5) (N3 (by repeat (first | exact D4.nil | refine D4.cons rfl ?_)) (by repeat (first | exact A0.refl | exact A0.nil | refine A0.cons (by repeat (first | exact Pk.here | apply Pk.there)) ?_ | apply A0.drop))) ?_
 (dsimp only; exact ⟨hle4, by omega, by omega, _, A9.of9 hk' hnum hlb (hty.mono hle4) (hfr.mono hle4) (hsl.mono hle4) (hkl.mono hle4), A2a hsm hfit.1.1 hfit.1.2.1 hfit.1.2.2.1, rfl⟩)
 refine sQ (qA rfl) rfl (sD (nS (cF rfl (tS (tR ?_)))))
 refine sB (qE rfl rfl) rfl rfl (fun h47 => ?_) (fun h47 => ?_)
 refine sQ (qA rfl) rfl (sD (nS (qT rfl (tR (sQ (qM rfl) rfl ?_)))))
 (refine I8 (C3 rfl rfl rfl (by omega) (by unfold maxLen; omega) rfl) rfl ?_; rintro _ ⟨b54, rfl⟩)
 (refine T8 (by repeat (first | exact Pk.here | apply Pk.there)) (fun G4 hle4 hsl4 _ => ?_); refine L3 rfl (A7C G4 br pb nb cb (p + 1) bs _ _ _ _ (hb.mono hle4) hnb (by omega) hsl4 (by decide)) (Pk.perm (by repeat (first | exact Pk.here | apply Pk.there))) rfl rfl (fun v G5 outs hle5 hh => ?_); obtain ⟨rfl, rfl, hv⟩ := hh; obtain ⟨nm', rfl, hnm'⟩ : ∃ nm', v = .string nm' ∧ nm'.size ≤ 2 := (by simp only [List.mem_cons, List.not_mem_nil, or_false] at hv; rcases hv with rfl | rfl | rfl | rfl <;> exact ⟨_, rfl, by decide⟩))
 refine sQ (B8 rfl) rfl (F9 ?_)
 refine sD (M9 ?_)
 refine V0 ([.int .i64 k, .string nm', .int .i64 num, .int .i64 tk, .slice q1 tks.length c1, .int .i64 fk, .slice q2 fks.length c2, .int .i64 lb, .slice q3 ks.length c3], p + 1 + 1, G5) (N3 (by repeat (first | exact D4.nil | refine D4.cons rfl ?_)) (by repeat (first | exact A0.refl | exact A0.nil | refine A0.cons (by repeat (first | exact Pk.here | apply Pk.there)) ?_ | apply A0.drop))) ?_
 (dsimp only; exact ⟨hle4, by omega, by omega, _, A9.of9 hk hnum hlb (hty.mono hle4) (hfr.mono hle4) (hsl.mono hle4) (hkl.mono hle4), A2a hsm (by omega) hfit.1.2.1 hfit.1.2.2.1, rfl⟩)
 refine sQ (qA rfl) rfl (sD (nS (cF rfl (tS (tR ?_)))))
 refine sB (qE rfl rfl) rfl rfl (fun h68 => ?_) (fun h68 => ?_)
 refine sQ (qA rfl) rfl (sD (nS (qT rfl (tR (sQ (qM rfl) rfl ?_)))))
 (refine I8 (C3 rfl rfl rfl (by omega) (by unfold maxLen; omega) rfl) rfl ?_; rintro _ ⟨b75, rfl⟩)
 (refine T8 (by repeat (first | exact Pk.here | apply Pk.there)) (fun G4 hle4 hsl4 _ => ?_); refine L3 rfl (A1q G4 br pb nb cb (p + 1) bs _ _ _ _ (hb.mono hle4) hnb (by omega) hsl4 (by decide)) (Pk.perm (by repeat (first | exact Pk.here | apply Pk.there))) rfl rfl (fun v G5 outs hle5 hh => ?_); obtain ⟨rfl, rfl, hv⟩ := hh; obtain ⟨k', rfl, hk'⟩ : ∃ k', v = .int .i64 k' ∧ D9 k' := (by simp only [List.mem_cons, List.not_mem_nil, or_false] at hv; rcases hv with rfl | rfl | rfl | rfl | rfl | rfl <;> exact ⟨_, rfl, by unfold D9; omega⟩))
 refine sQ (B8 rfl) rfl (F9 ?_)
 refine sD (M9 ?_)
 refine V0 ([.int .i64 k, .string nm, .int .i64 k', .int .i64 tk, .slice q1 tks.length c1, .int .i64 fk, .slice q2 fks.length c2, .int .i64 lb, .slice q3 ks.length c3], p + 1 + 1, G5) (N3 (by repeat (first | exact D4.nil | refine D4.cons rfl ?_)) (by repeat (first | exact A0.refl | exact A0.nil | refine A0.cons (by repeat (first | exact Pk.here | apply Pk.there)) ?_ | apply A0.drop))) ?_
 (dsimp only; exact ⟨hle4, by omega, by omega, _, A9.of9 hk hk' hlb (hty.mono hle4) (hfr.mono hle4) (hsl.mono hle4) (hkl.mono hle4), A2a hsm hfit.1.1 hfit.1.2.1 hfit.1.2.2.1, rfl⟩)
 refine sQ (qA rfl) rfl (sD (nS (cF rfl (tS (tR ?_)))))
 refine sB (qE rfl rfl) rfl rfl (fun h89 => ?_) (fun h89 => ?_)
 refine D0 ?_
 (refine L3 rfl (B1D br pb nb cb bs hnb (p + 1) _ hb (by omega)) (Pk.perm (by repeat (first | exact Pk.here | apply Pk.there))) rfl rfl (fun v G3 outs hle3 hh => ?_); obtain ⟨p3, hp31, hp32, rfl, t3, cells3, rfl, hr3, hs3⟩ := hh)
 (refine L3 rfl (B1E br pb nb cb bs hnb p3 _ (hb.mono hle3) (by omega) t3 cells3 hr3 hs3) (Pk.perm (by repeat (first | exact Pk.here | apply Pk.there))) rfl rfl (fun v G4 outs hle4 hh => ?_); obtain ⟨p4, hp41, hp42, rfl, t4, cells4, rfl, hr4, hs4⟩ := hh; have hts4 := A3W t4 (by omega); obtain ⟨t4k, t4s⟩ := t4; obtain ⟨q4, c4, es4, rfl, _⟩ := hr4.open; have hle24 := hle3.trans hle4)
 refine sQ (B8 rfl) rfl (F9 ?_)
 refine sD (M9 ?_)
 refine V0 ([.int .i64 k, .string nm, .int .i64 num, .int .i64 t4k, .slice q4 t4s.length c4, .int .i64 fk, .slice q2 fks.length c2, .int .i64 lb, .slice q3 ks.length c3], p4, G4) (N3 (by repeat (first | exact D4.nil | refine D4.cons rfl ?_)) (by repeat (first | exact A0.refl | exact A0.nil | refine A0.cons (by repeat (first | exact Pk.here | apply Pk.there)) ?_ | apply A0.drop))) ?_
 (dsimp only; exact ⟨hle24, by omega, by omega, _, A9.of9 hk hnum hlb hr4 (hfr.mono hle24) (hsl.mono hle24) (hkl.mono hle24), A2a hsm hfit.1.1 hts4 hfit.1.2.2.1, rfl⟩)
 refine sQ (qA rfl) rfl (sD (nS (cF rfl (tS (tR ?_)))))
 refine sB (qE rfl rfl) rfl rfl (fun h111 => ?_) (fun h111 => ?_)
 refine D2 ?_
 refine V0 ([.int .i64 k, .string nm, .int .i64 num, .int .i64 tk, .slice q1 tks.length c1, .int .i64 fk, .slice q2 fks.length c2, .int .i64 1, .slice q3 ks.length c3], p + 1, G2) (N3 (by repeat (first | exact D4.nil | refine D4.cons rfl ?_)) (by repeat (first | exact A0.refl | exact A0.nil | refine A0.cons (by repeat (first | exact Pk.here | apply Pk.there)) ?_ | apply A0.drop))) ?_
 (dsimp only; exact ⟨B1.refl _, by omega, by omega, _, A9.of9 hk hnum ⟨by omega, by omega⟩ hty hfr hsl hkl, A2a hsm hfit.1.1 hfit.1.2.1 hfit.1.2.2.1, rfl⟩)
 refine sQ (qA rfl) rfl (sD (nS (cF rfl (tS (tR ?_)))))
 refine sB (qE rfl rfl) rfl rfl (fun h129 => ?_) (fun h129 => ?_)
 refine sQ (qA rfl) rfl (sD (nS (qT rfl (tR ?_))))
 refine H2 rfl ((A09 _)) rfl rfl ?_
 refine sQ (B8 rfl) rfl (F9 ?_)
 refine sD (M9 ?_)
 refine V0 ([.int .i64 k, .string nm, .int .i64 num, .int .i64 tk, .slice q1 tks.length c1, .int .i64 1, .slice none 0 0, .int .i64 lb, .slice q3 ks.length c3], p + 1, G2) (N3 (by repeat (first | exact D4.nil | refine D4.cons rfl ?_)) (by repeat (first | exact A0.refl | exact A0.nil | refine A0.cons (by repeat (first | exact Pk.here | apply Pk.there)) ?_ | apply A0.drop))) ?_
 (dsimp only; exact ⟨B1.refl _, by omega, by omega, _, A9.of9 hk hnum hlb hty (A0l _) hsl hkl, A2a hsm hfit.1.1 hfit.1.2.1 (by simp [Ty.small, Ty.smallL]), rfl⟩)
 refine sQ (qA rfl) rfl (sD (nS (cF rfl (tK (M9 ?_)))))
 refine V0 ([.int .i64 k, .string nm, .int .i64 num, .int .i64 tk, .slice q1 tks.length c1, .int .i64 fk, .slice q2 fks.length c2, .int .i64 lb, .slice q3 ks.length c3], p + 1, G2) (N3 (by repeat (first | exact D4.nil | refine D4.cons rfl ?_)) (by repeat (first | exact A0.refl | exact A0.nil | refine A0.cons (by repeat (first | exact Pk.here | apply Pk.there)) ?_ | apply A0.drop))) ?_
 (dsimp only; exact ⟨B1.refl _, by omega, by omega, _, A9.of9 hk hnum hlb hty hfr hsl hkl, A2a hsm hfit.1.1 hfit.1.2.1 hfit.1.2.2.1, rfl⟩)
 (rintro ⟨cells9, p9, G9⟩ ⟨hle9, hp9, hp9', t9, hr9, hs9, hc9⟩; simp only [] at hle9 hp9 hp9' hr9 hs9 hc9 ⊢; have hl9 := hr9.len; have ho9 := hr9.one)
 refine tS (tR ?_)
 refine sL (A5 rfl rfl (B5 (by repeat first | exact mH | apply mT)) hl9) rfl rfl ?_
 refine sS rfl rfl rfl hl9 ho9 rfl ?_ (hu := by exact D5 hl9.symm)
 refine sD (nS (tT ?_))
 refine H0 (outs := [rd br pb nb cb p9]) (rC rfl (A5 rfl rfl (B5 (by repeat first | exact mH | apply mT)) hl9)) (by repeat (first | exact A0.nil | refine A0.cons Pk.here ?_ | refine A0.cons (Pk.there Pk.here) ?_ | refine A0.cons (Pk.there (Pk.there Pk.here)) ?_ | apply A0.drop)) ?_
 (exact ⟨p9, by omega, by omega, rfl, t9, cells9, rfl, hr9, hs9, by omega⟩)
def TyV (e : Tm) (G : IM) : IM → Value → List A4 → Prop := L5 fun G' v => ∃ t cells b, v = .tuple ⟨[.agg ⟨cells⟩, .bool b]⟩ ∧ B3 G' t cells ∧ D8 t ∧ H4 t ≤ 960 ∧ (b = true → M3 e = true)
theorem B1T {G : IM} {e : Tm} {ce : List Value} {p : Option Addr} {c : Nat} (hr : A9 G e ce) (hs : Sl G p 1 c 9 ce) : B9 G p [e].length c 9 [ce] ∧ C8 G [e] [ce] := by
 refine ⟨B9.of (by simpa using hs) rfl (fun x hx => by simp only [List.mem_singleton] at hx; subst hx; exact hr.len) (fun x hx => by simp only [List.mem_singleton] at hx; subst hx; exact hr.one), ?_⟩
 simp only [C8]
 exact ⟨ce, [], rfl, hr, rfl⟩
def B5L (e : Tm) (label : Int) (G : IM) : IM → Value → List A4 → Prop := L5 fun G' v => ∃ u cu l', v = .tuple ⟨[.agg ⟨cu⟩, .int .i64 l']⟩ ∧ A9 G' u cu ∧ (e.small → u.small) ∧ E0 u ≤ E0 e + 1 ∧ label ≤ l' ∧ l' ≤ label + 1
def B5M (n : Nat) (G : IM) : IM → Value → List A4 → Prop := L5 fun G' v => ∃ p c es ws, v = .slice p n c ∧ ws.length = n ∧ B9 G' p n c 2 es ∧ B0 G' ws es ∧ ∀ w ∈ ws, D8 w
theorem C8.at2 {G : IM} {ts : List Tm} {es : List (List Value)} {i : Nat} (h : C8 G ts es) (h1 : i < ts.length) (h2 : i < es.length) : i < es.length ∧ A9 G ts[i] es[i] := by
 have := (h.inv (List.getElem?_eq_getElem h2) J4).2
 rw [List.getD_eq_getElem?_getD, List.getElem?_eq_getElem h1] at this
 exact ⟨h2, this⟩
theorem A7I {hp : List A4} {G : IM} {b sz i : Nat} {es : List (List Value)} {C : List Value} (hm : A4.blk b (es.flatten ++ C) ∈ hp) (hi : i < es.length) (ha : ∀ e ∈ es, e.length = sz) : At hp G b (0 + i * sz) es[i] := by
 refine .inl ⟨_, hm, fun j u hu => ?_⟩
 rw [A7w hi, List.append_assoc, List.append_assoc]
 have hl : (es.take i).flatten.length = i * sz := by
  rw [X6 (fun e he => ha e (List.mem_of_mem_take he)), List.length_take, Nat.min_eq_left (by omega)]
 have hj : j < es[i].length := (List.getElem?_eq_some_iff.1 hu).1
 rw [List.getElem?_append_right (by omega), show 0 + i * sz + j - (es.take i).flatten.length = j by omega, List.getElem?_append_left hj]
 exact hu
def B5N (e : Tm) (label : Int) (G : IM) : IM → Value → List A4 → Prop := L5 fun G' v => ∃ u cu t ct l', v = .tuple ⟨[.agg ⟨cu⟩, .agg ⟨ct⟩, .int .i64 l']⟩ ∧ A9 G' u cu ∧ u.small ∧ E0 u + 1 ≤ 2 * E0 e ∧ B3 G' t ct ∧ D8 t ∧ H4 t ≤ 32 * (E0 e : Int) ∧ label ≤ l' ∧ l' + 1 ≤ label + 2 * (E0 e : Int)
end Gw
end Go.Proofs.YtipblncpnffmbaaGreatDoor
