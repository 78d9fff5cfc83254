/-
  The reference model's tests of types and nodes: they compute the same plain func.
-/
import Derived.Test.YtgodjiieijekiaaGreatDoorKf1
import Init
import Derived.Test.YtgodjiieijekiaaGreatDoorKf0
import Derived.Laws.Slices
set_option linter.unusedVariables false
set_option linter.unusedSimpArgs false
set_option maxHeartbeats 0
set_option maxRecDepth 100000
set_option synthInstance.maxSize 4000
set_option synthInstance.maxHeartbeats 0
namespace Go.Proofs.YtgodjiieijekiaaGreatDoor
open Go Go.RowKit
namespace Gw
theorem A9E (k : Int) (G : IM) : Fn Tryz.prog 175 [.int .i64 k] [] G (H4 (.int .i64 (Z9 k)) G) := by
 refine B3 Tryz.func175 rfl Tryz.ntmps175 Tryz.results175 rfl ?_
 intro w0
 refine D7 ?_
 refine D0 ?_
 refine tS (tS (tR ?_))
 refine sB (qE rfl rfl) rfl rfl (fun h16 => ?_) (fun h16 => ?_)
 refine N4 ?_
 exact ⟨rfl, by (first | rw [(J8 k).1 (by omega)] | rw [(J8 k).2.1 (by omega)] | rw [(J8 k).2.2 (by omega) (by omega) (by omega) (by omega) (by omega)]), rfl⟩
 refine sQ (qA rfl) rfl (sD (nS (cF rfl (tS (tR ?_)))))
 refine sB (qE rfl rfl) rfl rfl (fun h40 => ?_) (fun h40 => ?_)
 refine N4 ?_
 exact ⟨rfl, by (first | rw [(J8 k).1 (by omega)] | rw [(J8 k).2.1 (by omega)] | rw [(J8 k).2.2 (by omega) (by omega) (by omega) (by omega) (by omega)]), rfl⟩
 refine sQ (qA rfl) rfl (sD (nS (cF rfl (tR ?_))))
 refine sB (qE rfl rfl) rfl rfl (fun h63 => ?_) (fun h63 => ?_)
 refine D9 ?_
 exact ⟨rfl, by (first | rw [(J8 k).1 (by omega)] | rw [(J8 k).2.1 (by omega)] | rw [(J8 k).2.2 (by omega) (by omega) (by omega) (by omega) (by omega)]), rfl⟩
 refine sQ (qA rfl) rfl (sD (nS (cF rfl (tS (tS (tR ?_))))))
 refine sB (qE rfl rfl) rfl rfl (fun h85 => ?_) (fun h85 => ?_)
 refine N4 ?_
 exact ⟨rfl, by (first | rw [(J8 k).1 (by omega)] | rw [(J8 k).2.1 (by omega)] | rw [(J8 k).2.2 (by omega) (by omega) (by omega) (by omega) (by omega)]), rfl⟩
 refine sQ (qA rfl) rfl (sD (nS (cF rfl (tR ?_))))
 refine sB (qE rfl rfl) rfl rfl (fun h108 => ?_) (fun h108 => ?_)
 refine D9 ?_
 exact ⟨rfl, by (first | rw [(J8 k).1 (by omega)] | rw [(J8 k).2.1 (by omega)] | rw [(J8 k).2.2 (by omega) (by omega) (by omega) (by omega) (by omega)]), rfl⟩
 refine S2 ?_
 exact ⟨rfl, by (first | rw [(J8 k).1 (by omega)] | rw [(J8 k).2.1 (by omega)] | rw [(J8 k).2.2 (by omega) (by omega) (by omega) (by omega) (by omega)]), rfl⟩
theorem A5T (k : Int) (G : IM) : Fn Tryz.prog 93 [.int .i64 k] [] G (H4 (.int .i64 (L8 k)) G) := by
 refine B3 Tryz.func93 rfl Tryz.ntmps93 Tryz.results93 rfl ?_
 intro w0
 refine D7 ?_
 refine D0 ?_
 refine tS (tS (tR ?_))
 refine sB (qE rfl rfl) rfl rfl (fun h16 => ?_) (fun h16 => ?_)
 refine N4 ?_
 exact ⟨rfl, by (unfold L8; first | rw [if_pos (by omega)] | rw [if_neg (by omega), if_pos (by omega)] | rw [if_neg (by omega), if_neg (by omega), if_pos (by omega)] | rw [if_neg (by omega), if_neg (by omega), if_neg (by omega), if_pos (by omega)] | rw [if_neg (by omega), if_neg (by omega), if_neg (by omega), if_neg (by omega)]), rfl⟩
 refine sQ (qA rfl) rfl (sD (nS (cF rfl (tS (tR ?_)))))
 refine sB (qE rfl rfl) rfl rfl (fun h40 => ?_) (fun h40 => ?_)
 refine N4 ?_
 exact ⟨rfl, by (unfold L8; first | rw [if_pos (by omega)] | rw [if_neg (by omega), if_pos (by omega)] | rw [if_neg (by omega), if_neg (by omega), if_pos (by omega)] | rw [if_neg (by omega), if_neg (by omega), if_neg (by omega), if_pos (by omega)] | rw [if_neg (by omega), if_neg (by omega), if_neg (by omega), if_neg (by omega)]), rfl⟩
 refine sQ (qA rfl) rfl (sD (nS (cF rfl (tS (tR ?_)))))
 refine sB (qE rfl rfl) rfl rfl (fun h64 => ?_) (fun h64 => ?_)
 refine N4 ?_
 exact ⟨rfl, by (unfold L8; first | rw [if_pos (by omega)] | rw [if_neg (by omega), if_pos (by omega)] | rw [if_neg (by omega), if_neg (by omega), if_pos (by omega)] | rw [if_neg (by omega), if_neg (by omega), if_neg (by omega), if_pos (by omega)] | rw [if_neg (by omega), if_neg (by omega), if_neg (by omega), if_neg (by omega)]), rfl⟩
 refine sQ (qA rfl) rfl (sD (nS (cF rfl (tR ?_))))
 refine sB (qE rfl rfl) rfl rfl (fun h87 => ?_) (fun h87 => ?_)
 refine D9 ?_
 exact ⟨rfl, by (unfold L8; first | rw [if_pos (by omega)] | rw [if_neg (by omega), if_pos (by omega)] | rw [if_neg (by omega), if_neg (by omega), if_pos (by omega)] | rw [if_neg (by omega), if_neg (by omega), if_neg (by omega), if_pos (by omega)] | rw [if_neg (by omega), if_neg (by omega), if_neg (by omega), if_neg (by omega)]), rfl⟩
 refine sQ (qA rfl) rfl (sD (nS (cF rfl (tS (tS (tR ?_))))))
 refine sB (qE rfl rfl) rfl rfl (fun h109 => ?_) (fun h109 => ?_)
 refine N4 ?_
 exact ⟨rfl, by (unfold L8; first | rw [if_pos (by omega)] | rw [if_neg (by omega), if_pos (by omega)] | rw [if_neg (by omega), if_neg (by omega), if_pos (by omega)] | rw [if_neg (by omega), if_neg (by omega), if_neg (by omega), if_pos (by omega)] | rw [if_neg (by omega), if_neg (by omega), if_neg (by omega), if_neg (by omega)]), rfl⟩
 refine sQ (qA rfl) rfl (sD (nS (cF rfl (tS (tR ?_)))))
 refine sB (qE rfl rfl) rfl rfl (fun h133 => ?_) (fun h133 => ?_)
 refine N4 ?_
 exact ⟨rfl, by (unfold L8; first | rw [if_pos (by omega)] | rw [if_neg (by omega), if_pos (by omega)] | rw [if_neg (by omega), if_neg (by omega), if_pos (by omega)] | rw [if_neg (by omega), if_neg (by omega), if_neg (by omega), if_pos (by omega)] | rw [if_neg (by omega), if_neg (by omega), if_neg (by omega), if_neg (by omega)]), rfl⟩
 refine sQ (qA rfl) rfl (sD (nS (cF rfl (tS (tR ?_)))))
 refine sB (qE rfl rfl) rfl rfl (fun h157 => ?_) (fun h157 => ?_)
 refine N4 ?_
 exact ⟨rfl, by (unfold L8; first | rw [if_pos (by omega)] | rw [if_neg (by omega), if_pos (by omega)] | rw [if_neg (by omega), if_neg (by omega), if_pos (by omega)] | rw [if_neg (by omega), if_neg (by omega), if_neg (by omega), if_pos (by omega)] | rw [if_neg (by omega), if_neg (by omega), if_neg (by omega), if_neg (by omega)]), rfl⟩
 refine sQ (qA rfl) rfl (sD (nS (cF rfl (tS (tR ?_)))))
 refine sB (qE rfl rfl) rfl rfl (fun h181 => ?_) (fun h181 => ?_)
 refine N4 ?_
 exact ⟨rfl, by (unfold L8; first | rw [if_pos (by omega)] | rw [if_neg (by omega), if_pos (by omega)] | rw [if_neg (by omega), if_neg (by omega), if_pos (by omega)] | rw [if_neg (by omega), if_neg (by omega), if_neg (by omega), if_pos (by omega)] | rw [if_neg (by omega), if_neg (by omega), if_neg (by omega), if_neg (by omega)]), rfl⟩
 refine sQ (qA rfl) rfl (sD (nS (cF rfl (tR ?_))))
 refine sB (qE rfl rfl) rfl rfl (fun h204 => ?_) (fun h204 => ?_)
 refine D9 ?_
 exact ⟨rfl, by (unfold L8; first | rw [if_pos (by omega)] | rw [if_neg (by omega), if_pos (by omega)] | rw [if_neg (by omega), if_neg (by omega), if_pos (by omega)] | rw [if_neg (by omega), if_neg (by omega), if_neg (by omega), if_pos (by omega)] | rw [if_neg (by omega), if_neg (by omega), if_neg (by omega), if_neg (by omega)]), rfl⟩
 refine sQ (qA rfl) rfl (sD (nS (cF rfl (tS (tS (tR ?_))))))
 refine sB (qE rfl rfl) rfl rfl (fun h226 => ?_) (fun h226 => ?_)
 refine N4 ?_
 exact ⟨rfl, by (unfold L8; first | rw [if_pos (by omega)] | rw [if_neg (by omega), if_pos (by omega)] | rw [if_neg (by omega), if_neg (by omega), if_pos (by omega)] | rw [if_neg (by omega), if_neg (by omega), if_neg (by omega), if_pos (by omega)] | rw [if_neg (by omega), if_neg (by omega), if_neg (by omega), if_neg (by omega)]), rfl⟩
 refine sQ (qA rfl) rfl (sD (nS (cF rfl (tS (tR ?_)))))
 refine sB (qE rfl rfl) rfl rfl (fun h250 => ?_) (fun h250 => ?_)
 refine N4 ?_
 exact ⟨rfl, by (unfold L8; first | rw [if_pos (by omega)] | rw [if_neg (by omega), if_pos (by omega)] | rw [if_neg (by omega), if_neg (by omega), if_pos (by omega)] | rw [if_neg (by omega), if_neg (by omega), if_neg (by omega), if_pos (by omega)] | rw [if_neg (by omega), if_neg (by omega), if_neg (by omega), if_neg (by omega)]), rfl⟩
 refine sQ (qA rfl) rfl (sD (nS (cF rfl (tS (tR ?_)))))
 refine sB (qE rfl rfl) rfl rfl (fun h274 => ?_) (fun h274 => ?_)
 refine N4 ?_
 exact ⟨rfl, by (unfold L8; first | rw [if_pos (by omega)] | rw [if_neg (by omega), if_pos (by omega)] | rw [if_neg (by omega), if_neg (by omega), if_pos (by omega)] | rw [if_neg (by omega), if_neg (by omega), if_neg (by omega), if_pos (by omega)] | rw [if_neg (by omega), if_neg (by omega), if_neg (by omega), if_neg (by omega)]), rfl⟩
 refine sQ (qA rfl) rfl (sD (nS (cF rfl (tR ?_))))
 refine sB (qE rfl rfl) rfl rfl (fun h297 => ?_) (fun h297 => ?_)
 refine D9 ?_
 exact ⟨rfl, by (unfold L8; first | rw [if_pos (by omega)] | rw [if_neg (by omega), if_pos (by omega)] | rw [if_neg (by omega), if_neg (by omega), if_pos (by omega)] | rw [if_neg (by omega), if_neg (by omega), if_neg (by omega), if_pos (by omega)] | rw [if_neg (by omega), if_neg (by omega), if_neg (by omega), if_neg (by omega)]), rfl⟩
 refine sQ (qA rfl) rfl (sD (nS (cF rfl (tS (tR ?_)))))
 refine sB (qE rfl rfl) rfl rfl (fun h318 => ?_) (fun h318 => ?_)
 refine D9 ?_
 exact ⟨rfl, by (unfold L8; first | rw [if_pos (by omega)] | rw [if_neg (by omega), if_pos (by omega)] | rw [if_neg (by omega), if_neg (by omega), if_pos (by omega)] | rw [if_neg (by omega), if_neg (by omega), if_neg (by omega), if_pos (by omega)] | rw [if_neg (by omega), if_neg (by omega), if_neg (by omega), if_neg (by omega)]), rfl⟩
 refine S2 ?_
 exact ⟨rfl, by (unfold L8; first | rw [if_pos (by omega)] | rw [if_neg (by omega), if_pos (by omega)] | rw [if_neg (by omega), if_neg (by omega), if_pos (by omega)] | rw [if_neg (by omega), if_neg (by omega), if_neg (by omega), if_pos (by omega)] | rw [if_neg (by omega), if_neg (by omega), if_neg (by omega), if_neg (by omega)]), rfl⟩
theorem A5U (s : ByteArray) (G : IM) : Fn Tryz.prog 104 [.string s] [] G (H4 (.bool (S4 s)) G) := by
 refine B3 Tryz.func104 rfl Tryz.ntmps104 Tryz.results104 rfl ?_
 intro w0
 refine C6 ?_
 refine sQ (M6 rfl rfl) rfl (sB (qE rfl rfl) rfl rfl (fun h10 => ?_) (fun h10 => ?_))
 refine sQ (qM rfl) rfl (sQ (qM rfl) rfl ?_)
 refine sP (N3 rfl rfl rfl (by omega) (A2R (by omega))) rfl rfl ?_
 refine sB (Q2 rfl rfl) rfl rfl (fun h14 => ?_) (fun h14 => ?_)
 refine sQ (I4 rfl rfl) rfl (sQ (qM rfl) rfl (sQ (qM rfl) rfl ?_))
 refine sP (N3 rfl rfl rfl (by omega) (A2R (by omega))) rfl rfl ?_
 refine sB (S8 rfl rfl) rfl rfl (fun h19 => ?_) (fun h19 => ?_)
 refine I2 ?_
 exact ⟨rfl, by simp only [S4]; (try simp only [Int.toNat_zero] at *); (first | rw [decide_eq_true (by omega)] | rw [decide_eq_false (by omega)]), rfl⟩
 refine I2 ?_
 exact ⟨rfl, by simp only [S4]; (try simp only [Int.toNat_zero] at *); (first | rw [decide_eq_true (by omega)] | rw [decide_eq_false (by omega)]), rfl⟩
 refine D7 ?_
 exact ⟨rfl, by simp only [S4]; (try simp only [Int.toNat_zero] at *); (first | rw [decide_eq_true (by omega)] | rw [decide_eq_false (by omega)]), rfl⟩
 refine I7 ?_
 exact ⟨rfl, by simp only [S4]; (try simp only [Int.toNat_zero] at *); (first | rw [decide_eq_true (by omega)] | rw [decide_eq_false (by omega)]), rfl⟩
theorem A5V (t : Ty) (G : IM) (cells : List Value) (hr : C5 G t cells) : Fn Tryz.prog 164 [.agg ⟨cells⟩] [] G (H4 (.bool (S9 t)) G) := by
 obtain ⟨p, c, es, rfl, hk, hsl, hkl⟩ := hr.open
 refine B3 Tryz.func164 rfl Tryz.ntmps164 Tryz.results164 rfl ?_
 intro w0
 refine tS (tR ?_)
 refine sE (J6 rfl rfl) rfl (fun b3 => ?_)
 refine B1 ?_
 refine sB (qE rfl rfl) rfl rfl (fun h11 => ?_) (fun h11 => ?_)
 refine H9 ?_
 refine sB (qE rfl rfl) rfl rfl (fun h16 => ?_) (fun h16 => ?_)
 refine I2 ?_
 exact ⟨rfl, by simp only [S9]; (first | rw [decide_eq_true (by omega)] | rw [decide_eq_false (by omega)]), rfl⟩
 refine I2 ?_
 exact ⟨rfl, by simp only [S9]; (first | rw [decide_eq_true (by omega)] | rw [decide_eq_false (by omega)]), rfl⟩
 refine D7 ?_
 exact ⟨rfl, by simp only [S9]; (first | rw [decide_eq_true (by omega)] | rw [decide_eq_false (by omega)]), rfl⟩
def Y2 (n : Int) : Int := if n < -99 ∨ n > 99 then 0 else if n < 0 then -n else n
theorem A9F (n : Int) (G : IM) : Fn Tryz.prog 185 [.int .i64 n] [] G (H4 (.int .i64 (Y2 n)) G) := by
 refine B3 Tryz.func185 rfl Tryz.ntmps185 Tryz.results185 rfl ?_
 intro w0
 refine C1 ?_
 refine sB (N2 rfl rfl) rfl rfl (fun h10 => ?_) (fun h10 => ?_)
 refine I7 ?_
 exact ⟨rfl, by (unfold Y2; first | rw [if_pos (by omega)] | rw [if_neg (by omega), if_pos (by omega)] | rw [if_neg (by omega), if_neg (by omega)]), rfl⟩
 refine sQ (qM rfl) rfl (sQ (qM rfl) rfl ?_)
 refine sB (Z1 rfl rfl) rfl rfl (fun h29 => ?_) (fun h29 => ?_)
 refine O0 ?_
 exact ⟨rfl, by (unfold Y2; first | rw [if_pos (by omega)] | rw [if_neg (by omega), if_pos (by omega)] | rw [if_neg (by omega), if_neg (by omega)]), rfl⟩
 refine M0 ?_
 refine sB (N2 rfl rfl) rfl rfl (fun h53 => ?_) (fun h53 => ?_)
 refine sD (nS (qT rfl (tS (tR (sQ (qM rfl) rfl ?_)))))
 refine sP (A4Y rfl (by omega) (by omega)) rfl rfl ?_
 refine sQ (qA rfl) rfl (sD (nS (tT (rS (F0 (rT rfl) ?_)))))
 exact ⟨rfl, by (unfold Y2; first | rw [if_pos (by omega)] | rw [if_neg (by omega), if_pos (by omega)] | rw [if_neg (by omega), if_neg (by omega)]), rfl⟩
 refine D9 ?_
 exact ⟨rfl, by (unfold Y2; first | rw [if_pos (by omega)] | rw [if_neg (by omega), if_pos (by omega)] | rw [if_neg (by omega), if_neg (by omega)]), rfl⟩
theorem A5W {k : Int} {ks : List Ty} {d : Int} (h : 4 < d ∨ Z9 k ≠ ks.length) : E1 (.mk k ks) d = false := by
 rw [E1]
 rcases h with h | h
 ·rw [decide_eq_false (by omega)]; rfl
 ·rw [decide_eq_false (p := Z9 k = ks.length) h, Bool.and_false]; rfl
theorem A5X {k : Int} {ks : List Ty} {d : Int} (h : d ≤ 4) (h2 : Z9 k = ks.length) : E1 (.mk k ks) d = A0a ks (d + 1) := by
 rw [E1, decide_eq_true h, decide_eq_true h2]; rfl
theorem A9G {ks : List Ty} {d : Int} {i : Nat} (hi : i < ks.length) (h : E1 ks[i] d = false) : A0a ks d = false := by
 cases hx : A0a ks d with
 | false => rfl
 | true => rw [(A2P ks d).1 hx i hi] at h; cases h
theorem A9H : ∀ (t : Ty) (d : Int) (G : IM) (cells : List Value), 0 ≤ d ∧ d ≤ 4 → C5 G t cells →
  Fn Tryz.prog 194 [.agg ⟨cells⟩, .int .i64 d] [] G (H4 (.bool (E1 t (5 - d))) G) := by
 refine Ty.ind fun k ks ih d G cells hd hr => ?_
 obtain ⟨p, c, es, rfl, hk, hsl, hkl⟩ := hr.open
 simp only [Ty.k, Ty.ks] at hk hsl hkl ⊢
 have hn := hsl.le
 have hk1 := A9E k G
 refine B3 Tryz.func194 rfl Tryz.ntmps194 Tryz.results194 rfl ?_
 intro w0
 refine tS (tR ?_)
 refine sE (J6 rfl rfl) rfl (fun b3 => ?_)
 refine sQ (qA rfl) rfl (sD (nS (tS (tS ?_))))
 refine K7 K9 rfl ?_
 refine I0 (i := 0) (l' := [tt,ff,ff,ff,ff,ff,ff,ff,ff,ff,ff]) rfl E9 (qM rfl) rfl (by kernel_rfl) rfl rfl ?_
 refine X4 (i := 1) (l' := [tt,tt,ff,ff,ff,ff,ff,ff,ff,ff,ff]) rfl E9 (N2 rfl rfl) rfl (by kernel_rfl) rfl rfl (fun h11 => ?_) (fun h11 => ?_)
 refine aP 2 rfl (qM rfl) rfl ?_
 refine A5 3 rfl rfl rfl ?_
 refine A5 4 rfl rfl rfl ?_
 refine A5 6 rfl rfl rfl ?_
 refine A5 7 rfl rfl rfl ?_
 refine A5 8 rfl rfl rfl ?_
 refine A5 5 rfl rfl rfl ?_
 refine A5 9 rfl rfl rfl ?_
 refine aP 10 rfl (I4 rfl rfl) rfl ?_
 refine D7 ?_
 (rw [A5W (by omega)]; exact ⟨rfl, rfl, rfl⟩)
 refine aP 2 rfl (qM rfl) rfl ?_
 refine aP 3 rfl (A4 rfl) rfl ?_
 refine aL 4 rfl (C2 rfl rfl) rfl ?_
 refine aP 6 rfl (A4 rfl) rfl ?_
 refine aL 7 rfl (C2 rfl rfl) rfl ?_
 refine aP 8 rfl (pLn rfl rfl) rfl ?_
 refine B6 5 ?_
 refine N5 rfl rfl (hk1) rfl rfl rfl ?_
 refine X4 (i := 9) (l' := [tt,tt,tt,tt,tt,tt,tt,tt,tt,tt,ff]) rfl E9 (N1 rfl rfl) rfl (by kernel_rfl) rfl rfl (fun h41 => ?_) (fun h41 => ?_)
 refine aP 10 rfl (L7 rfl rfl) rfl ?_
 refine D7 ?_
 (rw [A5W (by omega)]; exact ⟨rfl, rfl, rfl⟩)
 refine aP 10 rfl (L7 rfl rfl) rfl ?_
 refine D7 ?_
 refine D0 ?_
 (refine O9 (fun (i : Nat) => ⟨[(5, .int .i64 i), (2, .pointer (some ⟨b3, 0, none⟩)), (1, .int .i64 d)], [.blk b3 [.int .i64 k, .slice p ks.length c]], G⟩) (fun i => i ≤ ks.length ∧ ∀ j (h : j < ks.length), j < i → E1 ks[j] (5 - d + 1) = true) (fun i => ks.length - i) 0 ?_ ?_ ?_)
 exact I6
 exact ⟨by omega, by omega⟩
 (rintro i ⟨hi, hf⟩)
 refine B1 ?_
 refine sB (N2 rfl rfl) rfl rfl (fun h79 => ?_) (fun h79 => ?_)
 refine sD (nS (qT rfl (tK (nS (tS ?_)))))
 refine D0 ?_
 refine R6 ?_
 (obtain ⟨b, o, p2, c2, rfl, hat, hre, hgb⟩ := hsl.kidTy hkl (i := i) (by omega) (by omega); refine sP (H2 rfl rfl rfl (by omega)) rfl rfl ?_)
 refine sL (D5 rfl rfl (hat _) rfl) rfl rfl ?_
 refine sQ (qM rfl) rfl ?_
 refine sP (A0i rfl rfl (by omega) (by omega)) rfl rfl ?_
 (have hih := ih ks[i] (List.getElem_mem (by omega)) (d - 1) G _ (by omega) hre; rw [show 5 - (d - 1) = 5 - d + 1 by omega] at hih; refine H6 rfl hih rfl rfl (fun h96 => ?_) (fun h96 => ?_))
 refine C1 ?_
 refine sP (K2 rfl rfl (by omega) (by omega)) rfl rfl ?_
 refine sQ (qA rfl) rfl (sD ?_)
 refine P6 (i + 1) ?_ ?_ ?_
 exact I6
 exact ⟨by omega, fun j hj hji => by (by_cases he : j = i; (subst he; assumption); exact hf j hj (by omega))⟩
 omega
 refine N4 ?_
 (rw [A5X (by omega) (by omega), A9G (i := i) (by omega) (by assumption)]; exact ⟨rfl, rfl, rfl⟩)
 refine I7 ?_
 (rw [A5X (by omega) (by omega), (A2P ks _).2 (fun j hj => hf j hj (by omega))]; exact ⟨rfl, rfl, rfl⟩)
theorem A3Z (t : Ty) (G : IM) (cells : List Value) (hr : C5 G t cells) : Fn Tryz.prog 163 [.agg ⟨cells⟩] [] G (H4 (.bool (O7 t)) G) := by
 have hl := hr.len
 have hv := A9H t 4 G cells (by omega) hr
 refine B3 Tryz.func163 rfl Tryz.ntmps163 Tryz.results163 rfl ?_
 intro w0
 refine tS (tR ?_)
 refine sE (J6 rfl rfl) rfl (fun b3 => ?_)
 refine sQ (qA rfl) rfl (sD (nS (tS (tR ?_))))
 refine sL (D5 rfl rfl (K8 (by repeat first | exact mH | apply mT)) (by assumption)) rfl rfl ?_
 refine I5 rfl (hv) rfl rfl ?_
 refine sQ (qA rfl) rfl (sD (nS (tT (F0 (rT rfl) ?_))))
 exact ⟨rfl, rfl, rfl⟩
theorem A2p {k : Int} {ks : List Ty} {d : Int} (h : E1 (.mk k ks) d = true) : Z9 k = ks.length ∧ ∀ i, (hi : i < ks.length) → E1 ks[i] (d + 1) = true := by
 rw [E1] at h
 simp only [Bool.and_eq_true, decide_eq_true_eq] at h
 exact ⟨h.1.2, (A2P ks _).1 h.2⟩
theorem A5Y {k k' : Int} {ks ks' : List Ty} (h : k = 1 ∨ k' = 1) : P7 (.mk k ks) (.mk k' ks') = true := by
 rw [A0Y]
 rcases h with h | h
 ·rw [decide_eq_true (p := k = 1) h]; rfl
 ·rw [decide_eq_true (p := k' = 1) h]; simp
theorem A9I {k k' : Int} {ks ks' : List Ty} (h : k ≠ 1) (h' : k' ≠ 1) (hk : k ≠ k') : P7 (.mk k ks) (.mk k' ks') = false := by
 rw [A0Y, decide_eq_false h, decide_eq_false h', decide_eq_false hk]; rfl
theorem A5Z {k k' : Int} {ks ks' : List Ty} (h : k ≠ 1) (h' : k' ≠ 1) (hk : k = k') : P7 (.mk k ks) (.mk k' ks') = X9 ks ks' := by
 rw [A0Y, decide_eq_false h, decide_eq_false h', decide_eq_true hk]; rfl
theorem A9J {ks ks' : List Ty} {i : Nat} (hi : i < ks.length) (hi' : i < ks'.length) (h : P7 ks[i] ks'[i] = false) : X9 ks ks' = false := by
 cases hx : X9 ks ks' with
 | false => rfl
 | true => rw [((A2Q ks ks').1 hx).2 i hi hi'] at h; cases h
theorem A9K : ∀ (t t' : Ty) (G : IM) (cells cells' : List Value) (d d' : Int), E1 t d = true → E1 t' d' = true → C5 G t cells → C5 G t' cells' →
  Fn Tryz.prog 145 [.agg ⟨cells⟩, .agg ⟨cells'⟩] [] G (H4 (.bool (P7 t t')) G) := by
 refine Ty.ind fun k ks ih t' G cells cells' d d' hv hv' hr hr' => ?_
 obtain ⟨k', ks'⟩ := t'
 obtain ⟨p, c, es, rfl, hk, hsl, hkl⟩ := hr.open
 obtain ⟨p', c', es', rfl, hk', hsl', hkl'⟩ := hr'.open
 simp only [Ty.k, Ty.ks] at hk hsl hkl hk' hsl' hkl' ⊢
 have hn := hsl.le
 have hn' := hsl'.le
 obtain ⟨hv1, hv2⟩ := A2p hv
 obtain ⟨hv1', hv2'⟩ := A2p hv'
 have hle : k = k' → ks.length = ks'.length := by rintro rfl; omega
 refine B3 Tryz.func145 rfl Tryz.ntmps145 Tryz.results145 rfl ?_
 intro w0
 refine tS (tR ?_)
 refine sE (J6 rfl rfl) rfl (fun b3 => ?_)
 refine sE (J6 rfl rfl) rfl (fun b4 => ?_)
 refine C6 ?_
 refine sB (qE rfl rfl) rfl rfl (fun h13 => ?_) (fun h13 => ?_)
 refine N4 ?_
 (rw [A5Y (by omega)]; exact ⟨rfl, rfl, rfl⟩)
 refine F5 ?_
 refine sB (qE rfl rfl) rfl rfl (fun h34 => ?_) (fun h34 => ?_)
 refine O0 ?_
 (rw [A5Y (by omega)]; exact ⟨rfl, rfl, rfl⟩)
 refine D9 ?_
 refine sB (N1 rfl rfl) rfl rfl (fun h61 => ?_) (fun h61 => ?_)
 refine D7 ?_
 (rw [A9I (by omega) (by omega) (by omega)]; exact ⟨rfl, rfl, rfl⟩)
 refine D7 ?_
 refine D0 ?_
 (have hll : ks.length = ks'.length := hle (by omega); refine O9 (fun (i : Nat) => ⟨[(5, .int .i64 i), (3, .pointer (some ⟨b4, 0, none⟩)), (2, .pointer (some ⟨b3, 0, none⟩))], [.blk b3 [.int .i64 k, .slice p ks.length c], .blk b4 [.int .i64 k', .slice p' ks'.length c']], G⟩) (fun i => i ≤ ks.length ∧ ∀ j (h : j < ks.length) (h' : j < ks'.length), j < i → P7 ks[j] ks'[j] = true) (fun i => ks.length - i) 0 ?_ ?_ ?_)
 exact I6
 exact ⟨by omega, by omega⟩
 (rintro i ⟨hi, hf⟩)
 refine B1 ?_
 refine sB (N2 rfl rfl) rfl rfl (fun h97 => ?_) (fun h97 => ?_)
 refine sD (nS (qT rfl (tK (nS (tS ?_)))))
 refine D0 ?_
 refine tS ?_
 (obtain ⟨b, o, p2, c2, rfl, hat, hre, hgb⟩ := hsl.kidTy hkl (i := i) (by omega) (by omega); obtain ⟨b', o', p2', c2', rfl, hat', hre', hgb'⟩ := hsl'.kidTy hkl' (i := i) (by omega) (by omega); refine K7 K9 rfl ?_)
 refine I0 (i := 0) (l' := [tt,ff,ff,ff,ff,ff,ff,ff,ff,ff,ff,ff]) rfl E9 (A4 rfl) rfl (by kernel_rfl) rfl rfl ?_
 refine aL 1 rfl (C2 rfl rfl) rfl ?_
 refine aP 2 rfl (qM rfl) rfl ?_
 refine aP 3 rfl (H2 rfl rfl rfl (by omega)) rfl ?_
 refine aL 4 rfl (D5 rfl rfl (hat _) rfl) rfl ?_
 refine aP 5 rfl (A4 rfl) rfl ?_
 refine aL 6 rfl (C2 rfl rfl) rfl ?_
 refine aP 7 rfl (qM rfl) rfl ?_
 refine aP 8 rfl (H2 rfl rfl rfl (by omega)) rfl ?_
 refine aL 9 rfl (D5 rfl rfl (hat' _) rfl) rfl ?_
 refine B6 10 ?_
 refine A2O rfl rfl (ih ks[i] (List.getElem_mem (by omega)) ks'[i] G _ _ _ _ (hv2 i (by omega)) (hv2' i (by omega)) hre hre') rfl rfl rfl (fun h118 => ?_) (fun h118 => ?_)
 refine aP 11 rfl (X5 rfl) rfl ?_
 refine C6 ?_
 refine sP (K2 rfl rfl (by omega) (by omega)) rfl rfl ?_
 refine sQ (qA rfl) rfl (sD ?_)
 refine P6 (i + 1) ?_ ?_ ?_
 exact I6
 exact ⟨by omega, fun j hj hj' hji => by (by_cases he : j = i; (subst he; assumption); exact hf j hj hj' (by omega))⟩
 omega
 refine aP 11 rfl (pNf rfl) rfl ?_
 refine I7 ?_
 (rw [A5Z (by omega) (by omega) (by omega), A9J (i := i) (by omega) (by omega) (by assumption)]; exact ⟨rfl, rfl, rfl⟩)
 refine I7 ?_
 (rw [A5Z (by omega) (by omega) (by omega), (A2Q ks _).2 ⟨hll, fun j hj hj' => hf j hj hj' (by omega)⟩]; exact ⟨rfl, rfl, rfl⟩)
section blaws
variable {P : Program} {Γ : E6} {env : F9} {hp : List A1} {G : IM} {ty : TypeId}
theorem A0M {x y : Operand} {t t' : TypeId} {i : K1} [hI : E8 P t i] (hd : i.desc = .bool) {r : Bool} (hx : evo env x = some (.bool r)) (hy : evo env y = some (.bool r)) :
  C9 P Γ ⟨env, hp, G⟩ (.binOp .neq t x y t') ty (.bool false) := by
 have h := A3x (P := P) (Γ := Γ) (hp := hp) (G := G) (t := t) (t' := t') (ty := ty) hd hx hy
 rwa [decide_eq_false (by simp)] at h
theorem A50 {x y : Operand} {t t' : TypeId} {i : K1} [hI : E8 P t i] (hd : i.desc = .bool) (hx : evo env x = some (.bool true)) (hy : evo env y = some (.bool false)) :
  C9 P Γ ⟨env, hp, G⟩ (.binOp .neq t x y t') ty (.bool true) := A3x hd hx hy
theorem A30 {x y : Operand} {t t' : TypeId} {i : K1} [hI : E8 P t i] (hd : i.desc = .bool) (hx : evo env x = some (.bool false)) (hy : evo env y = some (.bool true)) :
  C9 P Γ ⟨env, hp, G⟩ (.binOp .neq t x y t') ty (.bool true) := A3x hd hx hy
end blaws
theorem A9L (n : Int) : ((1 ≤ Y2 n ∧ Y2 n ≤ 99) ↔ X0 n = true) := by
 unfold Y2 X0 T4
 simp only [Bool.or_eq_true, decide_eq_true_eq]
 split
 ·omega
 ·split <;> omega
theorem A9M (k : Int) (nm : ByteArray) (num : Int) (ty fr : Ty) (lb : Int) (ks : List Tm) (G : IM) (cells : List Value) (hr : C7 G (.mk k nm num ty fr lb ks) cells) (R : Bool)
  (hi : R = true ↔ nm = ⟨#[]⟩ ∧ num = 0 ∧ (1 ≤ Y2 lb ∧ Y2 lb ≤ 99) ∧ O7 ty = true ∧ O7 fr = true ∧ P7 fr ty = true) :
  Fn Tryz.prog 142 [.agg ⟨cells⟩] [] G (H4 (.bool R) G) := by
 obtain ⟨tk, tks⟩ := ty
 obtain ⟨fk, fks⟩ := fr
 obtain ⟨pt, ct, pf, cf, p, c, es, rfl, hk, hnum, hlb, hty, hfr, hsl, hkl⟩ := hr.open9
 clear hr
 have o3 := A3Z _ G _ hty
 have o4 := A3Z _ G _ hfr
 have o6 := A9F lb G
 refine B3 Tryz.func142 rfl Tryz.ntmps142 Tryz.results142 rfl ?_
 intro w0
 refine tS (tR ?_)
 refine sE (J6 rfl rfl) rfl (fun b3 => ?_)
 refine B1 ?_
 refine I5 rfl (o6) rfl rfl ?_
 refine B1 ?_
 refine sB (A1h rfl rfl) rfl rfl (fun h19 => ?_) (fun h19 => ?_)
 refine F5 ?_
 refine sB (qE rfl rfl) rfl rfl (fun h23 => ?_) (fun h23 => ?_)
 refine sQ (I4 rfl rfl) rfl (sQ (qM rfl) rfl (sQ (qM rfl) rfl ?_))
 refine sB (Q2 rfl rfl) rfl rfl (fun h27 => ?_) (fun h27 => ?_)
 refine sQ (I4 rfl rfl) rfl (sQ (qM rfl) rfl (sQ (qM rfl) rfl ?_))
 refine sB (S8 rfl rfl) rfl rfl (fun h31 => ?_) (fun h31 => ?_)
 refine H9 ?_
 refine H6 rfl (o3) rfl rfl (fun h36 => ?_) (fun h36 => ?_)
 refine H9 ?_
 refine H6 rfl (o4) rfl rfl (fun h41 => ?_) (fun h41 => ?_)
 refine I2 ?_
 refine H6 rfl (A9K _ _ G _ _ _ _ (by assumption) (by assumption) hfr hty) rfl rfl (fun h48 => ?_) (fun h48 => ?_)
 refine I2 ?_
 exact ⟨rfl, by rw [hi.2 ⟨by (first | assumption | exact Classical.not_not.1 (by assumption)), by omega, by omega, by assumption, by assumption, by assumption⟩], rfl⟩
 refine I2 ?_
 exact ⟨rfl, by (cases R with | false => rfl | true => (exfalso; obtain ⟨i1, i2, i3, i4, i5, i6⟩ := hi.1 rfl; first | omega | (simp_all; done))), rfl⟩
 refine D9 ?_
 exact ⟨rfl, by (cases R with | false => rfl | true => (exfalso; obtain ⟨i1, i2, i3, i4, i5, i6⟩ := hi.1 rfl; first | omega | (simp_all; done))), rfl⟩
 refine W1 ?_
 exact ⟨rfl, by (cases R with | false => rfl | true => (exfalso; obtain ⟨i1, i2, i3, i4, i5, i6⟩ := hi.1 rfl; first | omega | (simp_all; done))), rfl⟩
 refine A0n ?_
 exact ⟨rfl, by (cases R with | false => rfl | true => (exfalso; obtain ⟨i1, i2, i3, i4, i5, i6⟩ := hi.1 rfl; first | omega | (simp_all; done))), rfl⟩
 refine A3L ?_
 exact ⟨rfl, by (cases R with | false => rfl | true => (exfalso; obtain ⟨i1, i2, i3, i4, i5, i6⟩ := hi.1 rfl; first | omega | (simp_all; done))), rfl⟩
 refine S3 ?_
 refine F0 (rT rfl) ?_
 exact ⟨rfl, by (cases R with | false => rfl | true => (exfalso; obtain ⟨i1, i2, i3, i4, i5, i6⟩ := hi.1 rfl; first | omega | (simp_all; done))), rfl⟩
 refine S3 ?_
 refine sQ (qA rfl) rfl (sD (nS (tT (F0 (rT rfl) ?_))))
 exact ⟨rfl, by (cases R with | false => rfl | true => (exfalso; obtain ⟨i1, i2, i3, i4, i5, i6⟩ := hi.1 rfl; first | omega | (simp_all; done))), rfl⟩
theorem A51 (k : Int) (nm : ByteArray) (num : Int) (ty fr : Ty) (lb : Int) (ks : List Tm) (G : IM) (cells : List Value) (hr : C7 G (.mk k nm num ty fr lb ks) cells) (R : Bool)
  (hi : R = true ↔ (k = 1 ∨ k = 5 → S4 nm = true) ∧ (¬(k = 1 ∨ k = 5) → nm = ⟨#[]⟩) ∧ (k = 5 ∨ k = 13 ∨ k = 14 → O7 ty = true) ∧ (¬(k = 5 ∨ k = 13 ∨ k = 14) → S9 ty = true) ∧ (k ≠ 14 → S9 fr = true ∧ lb = 0) ∧ (k = 2 → 0 ≤ num ∧ num ≤ 999) ∧ (k ≠ 2 → num = 0)) :
  Fn Tryz.prog 94 [.agg ⟨cells⟩] [] G (H4 (.bool R) G) := by
 have he : nm = ⟨#[]⟩ → S4 nm = false := by rintro rfl; rfl
 obtain ⟨tk, tks⟩ := ty
 obtain ⟨fk, fks⟩ := fr
 obtain ⟨pt, ct, pf, cf, p, c, es, rfl, hk, hnum, hlb, hty, hfr, hsl, hkl⟩ := hr.open9
 clear hr
 have o2 := A5U nm G
 have o3 := A3Z _ G _ hty
 have o4 := A5V _ G _ hty
 have o7 := A5V _ G _ hfr
 refine B3 Tryz.func94 rfl Tryz.ntmps94 Tryz.results94 rfl ?_
 intro w0
 refine tS (tR ?_)
 refine sE (J6 rfl rfl) rfl (fun b3 => ?_)
 refine B1 ?_
 refine sB (qE rfl rfl) rfl rfl (fun h11 => ?_) (fun h11 => ?_)
 refine O0 ?_
 refine sP (I1 rfl rfl (by omega)) rfl rfl ?_
 refine F5 ?_
 refine sP (I1 rfl rfl (by omega)) rfl rfl ?_
 refine H9 ?_
 refine sP (I1 rfl rfl (by omega)) rfl rfl ?_
 refine M0 ?_
 refine H6 rfl (o2) rfl rfl (fun h44 => ?_) (fun h44 => ?_)
 refine sQ (A0M rfl rfl rfl) rfl ?_
 refine A0o ?_
 refine H6 rfl (o4) rfl rfl (fun h70 => ?_) (fun h70 => ?_)
 refine D9 ?_
 refine sP (T8 rfl rfl (by omega)) rfl rfl ?_
 refine F5 ?_
 refine H6 rfl (o7) rfl rfl (fun h88 => ?_) (fun h88 => ?_)
 refine H9 ?_
 refine sB (N1 rfl rfl) rfl rfl (fun h93 => ?_) (fun h93 => ?_)
 refine D9 ?_
 exact ⟨rfl, by (cases R with | false => rfl | true => (exfalso; obtain ⟨i1, i2, i3, i4, i5, i6, i7⟩ := hi.1 rfl; first | omega | (have j := i1 (by omega); simp_all; done) | (have j := he (i2 (by omega)); simp_all; done) | (have j := i2 (by omega); simp_all; done) | (have j := i3 (by omega); simp_all; done) | (have j := i4 (by omega); simp_all; done) | (have j := i5 (by omega); simp_all; done))), rfl⟩
 refine O0 ?_
 refine sP (I1 rfl rfl (by omega)) rfl rfl ?_
 refine C1 ?_
 refine sB (qE rfl rfl) rfl rfl (fun h130 => ?_) (fun h130 => ?_)
 refine sQ (qA rfl) rfl (sD (nS (tT (F0 (rT rfl) ?_))))
 exact ⟨rfl, by rw [hi.2 ⟨fun _ => by (first | assumption | (exfalso; omega)), fun _ => by (first | assumption | (exfalso; omega) | exact Classical.not_not.1 (by assumption)), fun _ => by (first | assumption | (exfalso; omega)), fun _ => by (first | assumption | (exfalso; omega)), fun _ => ⟨by (first | assumption | (exfalso; omega)), by (first | assumption | omega)⟩, by omega, by omega⟩], rfl⟩
 refine sQ (qA rfl) rfl (sD (nS (tT (F0 (rT rfl) ?_))))
 exact ⟨rfl, by (cases R with | false => rfl | true => (exfalso; obtain ⟨i1, i2, i3, i4, i5, i6, i7⟩ := hi.1 rfl; first | omega | (have j := i1 (by omega); simp_all; done) | (have j := he (i2 (by omega)); simp_all; done) | (have j := i2 (by omega); simp_all; done) | (have j := i3 (by omega); simp_all; done) | (have j := i4 (by omega); simp_all; done) | (have j := i5 (by omega); simp_all; done))), rfl⟩
 refine W1 ?_
 exact ⟨rfl, by (cases R with | false => rfl | true => (exfalso; obtain ⟨i1, i2, i3, i4, i5, i6, i7⟩ := hi.1 rfl; first | omega | (have j := i1 (by omega); simp_all; done) | (have j := he (i2 (by omega)); simp_all; done) | (have j := i2 (by omega); simp_all; done) | (have j := i3 (by omega); simp_all; done) | (have j := i4 (by omega); simp_all; done) | (have j := i5 (by omega); simp_all; done))), rfl⟩
 refine S2 ?_
 exact ⟨rfl, by (cases R with | false => rfl | true => (exfalso; obtain ⟨i1, i2, i3, i4, i5, i6, i7⟩ := hi.1 rfl; first | omega | (have j := i1 (by omega); simp_all; done) | (have j := he (i2 (by omega)); simp_all; done) | (have j := i2 (by omega); simp_all; done) | (have j := i3 (by omega); simp_all; done) | (have j := i4 (by omega); simp_all; done) | (have j := i5 (by omega); simp_all; done))), rfl⟩
 refine sQ (A50 rfl rfl rfl) rfl ?_
 refine S3 ?_
 refine C1 ?_
 exact ⟨rfl, by (cases R with | false => rfl | true => (exfalso; obtain ⟨i1, i2, i3, i4, i5, i6, i7⟩ := hi.1 rfl; first | omega | (have j := i1 (by omega); simp_all; done) | (have j := he (i2 (by omega)); simp_all; done) | (have j := i2 (by omega); simp_all; done) | (have j := i3 (by omega); simp_all; done) | (have j := i4 (by omega); simp_all; done) | (have j := i5 (by omega); simp_all; done))), rfl⟩
 refine F5 ?_
 refine sB (qE rfl rfl) rfl rfl (fun h221 => ?_) (fun h221 => ?_)
 refine C6 ?_
 refine sP (A1F rfl rfl (by omega)) rfl rfl ?_
 refine U7 ?_
 refine H6 rfl (o2) rfl rfl (fun h250 => ?_) (fun h250 => ?_)
 refine sQ (A0M rfl rfl rfl) rfl ?_
 refine S2 ?_
 refine H6 rfl (o3) rfl rfl (fun h266 => ?_) (fun h266 => ?_)
 refine A0n ?_
 refine sP (T8 rfl rfl (by omega)) rfl rfl ?_
 refine F5 ?_
 refine H6 rfl (o7) rfl rfl (fun h294 => ?_) (fun h294 => ?_)
 refine H9 ?_
 refine sB (N1 rfl rfl) rfl rfl (fun h299 => ?_) (fun h299 => ?_)
 refine D9 ?_
 exact ⟨rfl, by (cases R with | false => rfl | true => (exfalso; obtain ⟨i1, i2, i3, i4, i5, i6, i7⟩ := hi.1 rfl; first | omega | (have j := i1 (by omega); simp_all; done) | (have j := he (i2 (by omega)); simp_all; done) | (have j := i2 (by omega); simp_all; done) | (have j := i3 (by omega); simp_all; done) | (have j := i4 (by omega); simp_all; done) | (have j := i5 (by omega); simp_all; done))), rfl⟩
 refine O0 ?_
 refine sP (I1 rfl rfl (by omega)) rfl rfl ?_
 refine C1 ?_
 refine sB (qE rfl rfl) rfl rfl (fun h336 => ?_) (fun h336 => ?_)
 refine sQ (qA rfl) rfl (sD (nS (tT (F0 (rT rfl) ?_))))
 exact ⟨rfl, by rw [hi.2 ⟨fun _ => by (first | assumption | (exfalso; omega)), fun _ => by (first | assumption | (exfalso; omega) | exact Classical.not_not.1 (by assumption)), fun _ => by (first | assumption | (exfalso; omega)), fun _ => by (first | assumption | (exfalso; omega)), fun _ => ⟨by (first | assumption | (exfalso; omega)), by (first | assumption | omega)⟩, by omega, by omega⟩], rfl⟩
 refine sQ (qA rfl) rfl (sD (nS (tT (F0 (rT rfl) ?_))))
 exact ⟨rfl, by (cases R with | false => rfl | true => (exfalso; obtain ⟨i1, i2, i3, i4, i5, i6, i7⟩ := hi.1 rfl; first | omega | (have j := i1 (by omega); simp_all; done) | (have j := he (i2 (by omega)); simp_all; done) | (have j := i2 (by omega); simp_all; done) | (have j := i3 (by omega); simp_all; done) | (have j := i4 (by omega); simp_all; done) | (have j := i5 (by omega); simp_all; done))), rfl⟩
 refine W1 ?_
 exact ⟨rfl, by (cases R with | false => rfl | true => (exfalso; obtain ⟨i1, i2, i3, i4, i5, i6, i7⟩ := hi.1 rfl; first | omega | (have j := i1 (by omega); simp_all; done) | (have j := he (i2 (by omega)); simp_all; done) | (have j := i2 (by omega); simp_all; done) | (have j := i3 (by omega); simp_all; done) | (have j := i4 (by omega); simp_all; done) | (have j := i5 (by omega); simp_all; done))), rfl⟩
 refine A0o ?_
 exact ⟨rfl, by (cases R with | false => rfl | true => (exfalso; obtain ⟨i1, i2, i3, i4, i5, i6, i7⟩ := hi.1 rfl; first | omega | (have j := i1 (by omega); simp_all; done) | (have j := he (i2 (by omega)); simp_all; done) | (have j := i2 (by omega); simp_all; done) | (have j := i3 (by omega); simp_all; done) | (have j := i4 (by omega); simp_all; done) | (have j := i5 (by omega); simp_all; done))), rfl⟩
 refine sQ (A50 rfl rfl rfl) rfl ?_
 refine S3 ?_
 refine C1 ?_
 exact ⟨rfl, by (cases R with | false => rfl | true => (exfalso; obtain ⟨i1, i2, i3, i4, i5, i6, i7⟩ := hi.1 rfl; first | omega | (have j := i1 (by omega); simp_all; done) | (have j := he (i2 (by omega)); simp_all; done) | (have j := i2 (by omega); simp_all; done) | (have j := i3 (by omega); simp_all; done) | (have j := i4 (by omega); simp_all; done) | (have j := i5 (by omega); simp_all; done))), rfl⟩
 refine C6 ?_
 refine sP (I1 rfl rfl (by omega)) rfl rfl ?_
 refine F5 ?_
 refine sB (qE rfl rfl) rfl rfl (fun h446 => ?_) (fun h446 => ?_)
 refine I7 ?_
 refine H6 rfl (o2) rfl rfl (fun h462 => ?_) (fun h462 => ?_)
 refine sQ (A30 rfl rfl rfl) rfl ?_
 refine S3 ?_
 refine C1 ?_
 exact ⟨rfl, by (cases R with | false => rfl | true => (exfalso; obtain ⟨i1, i2, i3, i4, i5, i6, i7⟩ := hi.1 rfl; first | omega | (have j := i1 (by omega); simp_all; done) | (have j := he (i2 (by omega)); simp_all; done) | (have j := i2 (by omega); simp_all; done) | (have j := i3 (by omega); simp_all; done) | (have j := i4 (by omega); simp_all; done) | (have j := i5 (by omega); simp_all; done))), rfl⟩
 refine sQ (A0M rfl rfl rfl) rfl ?_
 refine I2 ?_
 refine sB (Z2 rfl rfl) rfl rfl (fun h511 => ?_) (fun h511 => ?_)
 refine S3 ?_
 refine rS (F0 (rT rfl) ?_)
 exact ⟨rfl, by (cases R with | false => rfl | true => (exfalso; obtain ⟨i1, i2, i3, i4, i5, i6, i7⟩ := hi.1 rfl; first | omega | (have j := i1 (by omega); simp_all; done) | (have j := he (i2 (by omega)); simp_all; done) | (have j := i2 (by omega); simp_all; done) | (have j := i3 (by omega); simp_all; done) | (have j := i4 (by omega); simp_all; done) | (have j := i5 (by omega); simp_all; done))), rfl⟩
 refine B1 ?_
 refine H6 rfl (o3) rfl rfl (fun h552 => ?_) (fun h552 => ?_)
 refine A0n ?_
 refine sP (T8 rfl rfl (by omega)) rfl rfl ?_
 refine F5 ?_
 refine H6 rfl (o7) rfl rfl (fun h580 => ?_) (fun h580 => ?_)
 refine H9 ?_
 refine sB (N1 rfl rfl) rfl rfl (fun h585 => ?_) (fun h585 => ?_)
 refine D9 ?_
 exact ⟨rfl, by (cases R with | false => rfl | true => (exfalso; obtain ⟨i1, i2, i3, i4, i5, i6, i7⟩ := hi.1 rfl; first | omega | (have j := i1 (by omega); simp_all; done) | (have j := he (i2 (by omega)); simp_all; done) | (have j := i2 (by omega); simp_all; done) | (have j := i3 (by omega); simp_all; done) | (have j := i4 (by omega); simp_all; done) | (have j := i5 (by omega); simp_all; done))), rfl⟩
 refine O0 ?_
 refine sP (I1 rfl rfl (by omega)) rfl rfl ?_
 refine C1 ?_
 refine sB (qE rfl rfl) rfl rfl (fun h622 => ?_) (fun h622 => ?_)
 refine sQ (qA rfl) rfl (sD (nS (tT (F0 (rT rfl) ?_))))
 exact ⟨rfl, by rw [hi.2 ⟨fun _ => by (first | assumption | (exfalso; omega)), fun _ => by (first | assumption | (exfalso; omega) | exact Classical.not_not.1 (by assumption)), fun _ => by (first | assumption | (exfalso; omega)), fun _ => by (first | assumption | (exfalso; omega)), fun _ => ⟨by (first | assumption | (exfalso; omega)), by (first | assumption | omega)⟩, by omega, by omega⟩], rfl⟩
 refine sQ (qA rfl) rfl (sD (nS (tT (F0 (rT rfl) ?_))))
 exact ⟨rfl, by (cases R with | false => rfl | true => (exfalso; obtain ⟨i1, i2, i3, i4, i5, i6, i7⟩ := hi.1 rfl; first | omega | (have j := i1 (by omega); simp_all; done) | (have j := he (i2 (by omega)); simp_all; done) | (have j := i2 (by omega); simp_all; done) | (have j := i3 (by omega); simp_all; done) | (have j := i4 (by omega); simp_all; done) | (have j := i5 (by omega); simp_all; done))), rfl⟩
 refine W1 ?_
 exact ⟨rfl, by (cases R with | false => rfl | true => (exfalso; obtain ⟨i1, i2, i3, i4, i5, i6, i7⟩ := hi.1 rfl; first | omega | (have j := i1 (by omega); simp_all; done) | (have j := he (i2 (by omega)); simp_all; done) | (have j := i2 (by omega); simp_all; done) | (have j := i3 (by omega); simp_all; done) | (have j := i4 (by omega); simp_all; done) | (have j := i5 (by omega); simp_all; done))), rfl⟩
 refine A0o ?_
 exact ⟨rfl, by (cases R with | false => rfl | true => (exfalso; obtain ⟨i1, i2, i3, i4, i5, i6, i7⟩ := hi.1 rfl; first | omega | (have j := i1 (by omega); simp_all; done) | (have j := he (i2 (by omega)); simp_all; done) | (have j := i2 (by omega); simp_all; done) | (have j := i3 (by omega); simp_all; done) | (have j := i4 (by omega); simp_all; done) | (have j := i5 (by omega); simp_all; done))), rfl⟩
 refine H9 ?_
 refine sB (qE rfl rfl) rfl rfl (fun h683 => ?_) (fun h683 => ?_)
 refine M0 ?_
 refine H6 rfl (o2) rfl rfl (fun h694 => ?_) (fun h694 => ?_)
 refine sQ (A30 rfl rfl rfl) rfl ?_
 refine S3 ?_
 refine C1 ?_
 exact ⟨rfl, by (cases R with | false => rfl | true => (exfalso; obtain ⟨i1, i2, i3, i4, i5, i6, i7⟩ := hi.1 rfl; first | omega | (have j := i1 (by omega); simp_all; done) | (have j := he (i2 (by omega)); simp_all; done) | (have j := i2 (by omega); simp_all; done) | (have j := i3 (by omega); simp_all; done) | (have j := i4 (by omega); simp_all; done) | (have j := i5 (by omega); simp_all; done))), rfl⟩
 refine sQ (A0M rfl rfl rfl) rfl ?_
 refine I2 ?_
 refine sB (Z2 rfl rfl) rfl rfl (fun h743 => ?_) (fun h743 => ?_)
 refine S3 ?_
 refine rS (F0 (rT rfl) ?_)
 exact ⟨rfl, by (cases R with | false => rfl | true => (exfalso; obtain ⟨i1, i2, i3, i4, i5, i6, i7⟩ := hi.1 rfl; first | omega | (have j := i1 (by omega); simp_all; done) | (have j := he (i2 (by omega)); simp_all; done) | (have j := i2 (by omega); simp_all; done) | (have j := i3 (by omega); simp_all; done) | (have j := i4 (by omega); simp_all; done) | (have j := i5 (by omega); simp_all; done))), rfl⟩
 refine B1 ?_
 refine H6 rfl (o3) rfl rfl (fun h784 => ?_) (fun h784 => ?_)
 refine A0n ?_
 refine sP (R0 rfl rfl (by omega)) rfl rfl ?_
 refine A0m ?_
 refine sP (I1 rfl rfl (by omega)) rfl rfl ?_
 refine C1 ?_
 refine sB (qE rfl rfl) rfl rfl (fun h840 => ?_) (fun h840 => ?_)
 refine sQ (qA rfl) rfl (sD (nS (tT (F0 (rT rfl) ?_))))
 exact ⟨rfl, by rw [hi.2 ⟨fun _ => by (first | assumption | (exfalso; omega)), fun _ => by (first | assumption | (exfalso; omega) | exact Classical.not_not.1 (by assumption)), fun _ => by (first | assumption | (exfalso; omega)), fun _ => by (first | assumption | (exfalso; omega)), fun _ => ⟨by (first | assumption | (exfalso; omega)), by (first | assumption | omega)⟩, by omega, by omega⟩], rfl⟩
 refine sQ (qA rfl) rfl (sD (nS (tT (F0 (rT rfl) ?_))))
 exact ⟨rfl, by (cases R with | false => rfl | true => (exfalso; obtain ⟨i1, i2, i3, i4, i5, i6, i7⟩ := hi.1 rfl; first | omega | (have j := i1 (by omega); simp_all; done) | (have j := he (i2 (by omega)); simp_all; done) | (have j := i2 (by omega); simp_all; done) | (have j := i3 (by omega); simp_all; done) | (have j := i4 (by omega); simp_all; done) | (have j := i5 (by omega); simp_all; done))), rfl⟩
 refine A0o ?_
 exact ⟨rfl, by (cases R with | false => rfl | true => (exfalso; obtain ⟨i1, i2, i3, i4, i5, i6, i7⟩ := hi.1 rfl; first | omega | (have j := i1 (by omega); simp_all; done) | (have j := he (i2 (by omega)); simp_all; done) | (have j := i2 (by omega); simp_all; done) | (have j := i3 (by omega); simp_all; done) | (have j := i4 (by omega); simp_all; done) | (have j := i5 (by omega); simp_all; done))), rfl⟩
 refine M0 ?_
 refine H6 rfl (o2) rfl rfl (fun h888 => ?_) (fun h888 => ?_)
 refine sQ (A30 rfl rfl rfl) rfl ?_
 refine S3 ?_
 refine C1 ?_
 exact ⟨rfl, by (cases R with | false => rfl | true => (exfalso; obtain ⟨i1, i2, i3, i4, i5, i6, i7⟩ := hi.1 rfl; first | omega | (have j := i1 (by omega); simp_all; done) | (have j := he (i2 (by omega)); simp_all; done) | (have j := i2 (by omega); simp_all; done) | (have j := i3 (by omega); simp_all; done) | (have j := i4 (by omega); simp_all; done) | (have j := i5 (by omega); simp_all; done))), rfl⟩
 refine sQ (A0M rfl rfl rfl) rfl ?_
 refine I2 ?_
 refine sB (Z2 rfl rfl) rfl rfl (fun h937 => ?_) (fun h937 => ?_)
 refine S3 ?_
 refine rS (F0 (rT rfl) ?_)
 exact ⟨rfl, by (cases R with | false => rfl | true => (exfalso; obtain ⟨i1, i2, i3, i4, i5, i6, i7⟩ := hi.1 rfl; first | omega | (have j := i1 (by omega); simp_all; done) | (have j := he (i2 (by omega)); simp_all; done) | (have j := i2 (by omega); simp_all; done) | (have j := i3 (by omega); simp_all; done) | (have j := i4 (by omega); simp_all; done) | (have j := i5 (by omega); simp_all; done))), rfl⟩
 refine W0 ?_
 refine H6 rfl (o4) rfl rfl (fun h988 => ?_) (fun h988 => ?_)
 refine D9 ?_
 refine sP (T8 rfl rfl (by omega)) rfl rfl ?_
 refine F5 ?_
 refine H6 rfl (o7) rfl rfl (fun h1006 => ?_) (fun h1006 => ?_)
 refine H9 ?_
 refine sB (N1 rfl rfl) rfl rfl (fun h1011 => ?_) (fun h1011 => ?_)
 refine D9 ?_
 exact ⟨rfl, by (cases R with | false => rfl | true => (exfalso; obtain ⟨i1, i2, i3, i4, i5, i6, i7⟩ := hi.1 rfl; first | omega | (have j := i1 (by omega); simp_all; done) | (have j := he (i2 (by omega)); simp_all; done) | (have j := i2 (by omega); simp_all; done) | (have j := i3 (by omega); simp_all; done) | (have j := i4 (by omega); simp_all; done) | (have j := i5 (by omega); simp_all; done))), rfl⟩
 refine O0 ?_
 refine sB (qE rfl rfl) rfl rfl (fun h1038 => ?_) (fun h1038 => ?_)
 refine B1 ?_
 refine sB (Q2 rfl rfl) rfl rfl (fun h1046 => ?_) (fun h1046 => ?_)
 refine F5 ?_
 refine sB (S8 rfl rfl) rfl rfl (fun h1050 => ?_) (fun h1050 => ?_)
 refine B1 ?_
 exact ⟨rfl, by rw [hi.2 ⟨fun _ => by (first | assumption | (exfalso; omega)), fun _ => by (first | assumption | (exfalso; omega) | exact Classical.not_not.1 (by assumption)), fun _ => by (first | assumption | (exfalso; omega)), fun _ => by (first | assumption | (exfalso; omega)), fun _ => ⟨by (first | assumption | (exfalso; omega)), by (first | assumption | omega)⟩, by omega, by omega⟩], rfl⟩
 refine B1 ?_
 exact ⟨rfl, by (cases R with | false => rfl | true => (exfalso; obtain ⟨i1, i2, i3, i4, i5, i6, i7⟩ := hi.1 rfl; first | omega | (have j := i1 (by omega); simp_all; done) | (have j := he (i2 (by omega)); simp_all; done) | (have j := i2 (by omega); simp_all; done) | (have j := i3 (by omega); simp_all; done) | (have j := i4 (by omega); simp_all; done) | (have j := i5 (by omega); simp_all; done))), rfl⟩
 refine D7 ?_
 exact ⟨rfl, by (cases R with | false => rfl | true => (exfalso; obtain ⟨i1, i2, i3, i4, i5, i6, i7⟩ := hi.1 rfl; first | omega | (have j := i1 (by omega); simp_all; done) | (have j := he (i2 (by omega)); simp_all; done) | (have j := i2 (by omega); simp_all; done) | (have j := i3 (by omega); simp_all; done) | (have j := i4 (by omega); simp_all; done) | (have j := i5 (by omega); simp_all; done))), rfl⟩
 refine C1 ?_
 refine sB (qE rfl rfl) rfl rfl (fun h1088 => ?_) (fun h1088 => ?_)
 refine sQ (qA rfl) rfl (sD (nS (tT (F0 (rT rfl) ?_))))
 exact ⟨rfl, by rw [hi.2 ⟨fun _ => by (first | assumption | (exfalso; omega)), fun _ => by (first | assumption | (exfalso; omega) | exact Classical.not_not.1 (by assumption)), fun _ => by (first | assumption | (exfalso; omega)), fun _ => by (first | assumption | (exfalso; omega)), fun _ => ⟨by (first | assumption | (exfalso; omega)), by (first | assumption | omega)⟩, by omega, by omega⟩], rfl⟩
 refine sQ (qA rfl) rfl (sD (nS (tT (F0 (rT rfl) ?_))))
 exact ⟨rfl, by (cases R with | false => rfl | true => (exfalso; obtain ⟨i1, i2, i3, i4, i5, i6, i7⟩ := hi.1 rfl; first | omega | (have j := i1 (by omega); simp_all; done) | (have j := he (i2 (by omega)); simp_all; done) | (have j := i2 (by omega); simp_all; done) | (have j := i3 (by omega); simp_all; done) | (have j := i4 (by omega); simp_all; done) | (have j := i5 (by omega); simp_all; done))), rfl⟩
 refine W1 ?_
 exact ⟨rfl, by (cases R with | false => rfl | true => (exfalso; obtain ⟨i1, i2, i3, i4, i5, i6, i7⟩ := hi.1 rfl; first | omega | (have j := i1 (by omega); simp_all; done) | (have j := he (i2 (by omega)); simp_all; done) | (have j := i2 (by omega); simp_all; done) | (have j := i3 (by omega); simp_all; done) | (have j := i4 (by omega); simp_all; done) | (have j := i5 (by omega); simp_all; done))), rfl⟩
 refine S2 ?_
 exact ⟨rfl, by (cases R with | false => rfl | true => (exfalso; obtain ⟨i1, i2, i3, i4, i5, i6, i7⟩ := hi.1 rfl; first | omega | (have j := i1 (by omega); simp_all; done) | (have j := he (i2 (by omega)); simp_all; done) | (have j := i2 (by omega); simp_all; done) | (have j := i3 (by omega); simp_all; done) | (have j := i4 (by omega); simp_all; done) | (have j := i5 (by omega); simp_all; done))), rfl⟩
mutual
def M5 (D N : Int) : Tm → Int → Bool
 | .mk k nm num ty fr lb ks, deep => decide (deep ≤ D) && decide (k ≠ N) && P8 k nm num ty fr lb ks.length && W2 D N ks (deep + 1)
def W2 (D N : Int) : List Tm → Int → Bool
 | [], _ => true
 | t :: ts, deep => M5 D N t deep && W2 D N ts deep
end
theorem A0e (D N : Int) : ∀ (ts : List Tm) (d : Int), W2 D N ts d = true ↔ ∀ i, (h : i < ts.length) → M5 D N ts[i] d = true
 | [], d => by simp [W2]
 | t :: ts, d => by
  simp only [W2, Bool.and_eq_true, A0e D N ts d]
  constructor
  ·rintro ⟨h1, h2⟩ i hi
   cases i with
   | zero => exact h1
   | succ i => exact h2 i (by simpa using hi)
  ·intro h
   exact ⟨h 0 (by simp), fun i hi => h (i + 1) (by simpa using hi)⟩
theorem A0v {D N : Int} {k : Int} {nm : ByteArray} {num : Int} {ty fr : Ty} {lb : Int} {ks : List Tm} {d : Int} (h : D < d ∨ k = N ∨ P8 k nm num ty fr lb ks.length = false) : M5 D N (.mk k nm num ty fr lb ks) d = false := by
 rw [M5]
 rcases h with h | h | h
 ·rw [decide_eq_false (by omega)]; rfl
 ·rw [decide_eq_false (p := k ≠ N) (by omega), Bool.and_false]; rfl
 ·rw [h, Bool.and_false]; rfl
theorem A1r {D N : Int} {k : Int} {nm : ByteArray} {num : Int} {ty fr : Ty} {lb : Int} {ks : List Tm} {d : Int} (h1 : d ≤ D) (h2 : k ≠ N) (h3 : P8 k nm num ty fr lb ks.length = true) : M5 D N (.mk k nm num ty fr lb ks) d = W2 D N ks (d + 1) := by
 rw [M5, decide_eq_true h1, decide_eq_true h2, h3]; rfl
theorem A31 {D N : Int} {ks : List Tm} {d : Int} {i : Nat} (hi : i < ks.length) (h : M5 D N ks[i] d = false) : W2 D N ks d = false := by
 cases hx : W2 D N ks d with
 | false => rfl
 | true => rw [(A0e D N ks d).1 hx i hi] at h; cases h
theorem A9N {k : Int} {nm : ByteArray} {num : Int} {ty fr : Ty} {lb : Int} {n : Nat} (hk : k = 14) (ha : L8 k = n) : P8 k nm num ty fr lb n = true ↔ nm = ⟨#[]⟩ ∧ num = 0 ∧ (1 ≤ Y2 lb ∧ Y2 lb ≤ 99) ∧ O7 ty = true ∧ O7 fr = true ∧ P7 fr ty = true := by
 rw [A0q, A9L]
 simp only [T4, Y0, decide_eq_true_eq, Bool.and_eq_true]
 constructor
 ·rintro ⟨_, _, h3, _, h5, h6, _, h8, _⟩
  have h8 := h8 hk
  exact ⟨h3 (by omega), by have := h5 (by omega); omega, h8.2, h6 (by omega), h8.1.1.1, h8.1.2⟩
 ·rintro ⟨h1, h2, h3, h4, h5, h6⟩
  exact ⟨ha, fun h => absurd h (by omega), fun _ => h1, fun h => absurd h (by omega), fun _ => by omega, fun _ => h4, fun h => absurd h (by omega), fun _ => ⟨⟨⟨h5, h4⟩, h6⟩, h3⟩, fun h => absurd hk h⟩
theorem A52 {k : Int} {nm : ByteArray} {num : Int} {ty fr : Ty} {lb : Int} {n : Nat} (hk : k ≠ 14) (ha : L8 k = n) : P8 k nm num ty fr lb n = true ↔
  (k = 1 ∨ k = 5 → S4 nm = true) ∧ (¬(k = 1 ∨ k = 5) → nm = ⟨#[]⟩) ∧ (k = 5 ∨ k = 13 ∨ k = 14 → O7 ty = true) ∧ (¬(k = 5 ∨ k = 13 ∨ k = 14) → S9 ty = true) ∧ (k ≠ 14 → S9 fr = true ∧ lb = 0) ∧ (k = 2 → 0 ≤ num ∧ num ≤ 999) ∧ (k ≠ 2 → num = 0) := by
 rw [A0q]
 simp only [T4, decide_eq_true_eq]
 constructor
 ·rintro ⟨_, h2, h3, h4, h5, h6, h7, _, h9⟩
  exact ⟨h2, h3, h6, h7, h9, h4, fun h => by have := h5 h; omega⟩
 ·rintro ⟨h2, h3, h6, h7, h9, h4, h5⟩
  exact ⟨ha, h2, h3, h4, fun h => by have := h5 h; omega, h6, h7, fun h => absurd h hk, h9⟩
theorem A9O : ∀ (t : Tm) (d : Int) (G : IM) (cells : List Value), 0 ≤ d ∧ d ≤ 40 → C7 G t cells →
  Fn Tryz.prog 82 [.agg ⟨cells⟩, .int .i64 d] [] G (H4 (.bool (M5 40 13 t (41 - d))) G) := by
 refine Tm.ind fun k nm num ty fr lb ks ih d G cells hd hr => ?_
 have hr0 := hr
 have h14 := fun h : k = 14 => @A9N k nm num ty fr lb ks.length h
 have hne := fun h : k ≠ 14 => @A52 k nm num ty fr lb ks.length h
 have har := fun h : P8 k nm num ty fr lb ks.length = true => (A0q.1 h).1
 obtain ⟨R, hR⟩ : ∃ R, P8 k nm num ty fr lb ks.length = R := ⟨_, rfl⟩
 rw [hR] at h14 hne har
 have hlo := A9M k nm num ty fr lb ks G cells hr0 R
 have hl2 := A51 k nm num ty fr lb ks G cells hr0 R
 have hk1 := A5T k G
 obtain ⟨tk, tks⟩ := ty
 obtain ⟨fk, fks⟩ := fr
 obtain ⟨pt, ct, pf, cf, p, c, es, rfl, hk, hnum, hlb, hty, hfr, hsl, hkl⟩ := hr.open9
 have hn := hsl.le
 clear hr hr0
 refine B3 Tryz.func82 rfl Tryz.ntmps82 Tryz.results82 rfl ?_
 intro w0
 refine tS (tR ?_)
 refine sE (J6 rfl rfl) rfl (fun b3 => ?_)
 refine sQ (qA rfl) rfl (sD (nS (tS (tS ?_))))
 refine K7 K9 rfl ?_
 refine I0 (i := 0) (l' := [tt,ff,ff,ff,ff,ff,ff,ff,ff,ff,ff,ff,ff,ff,ff,ff,ff,ff,ff,ff,ff,ff,ff,ff,ff,ff,ff,ff,ff,ff,ff,ff,ff,ff,ff,ff]) rfl E9 (qM rfl) rfl (by kernel_rfl) rfl rfl ?_
 refine X4 (i := 1) (l' := [tt,tt,ff,ff,ff,ff,ff,ff,ff,ff,ff,ff,ff,ff,ff,ff,ff,ff,ff,ff,ff,ff,ff,ff,ff,ff,ff,ff,ff,ff,ff,ff,ff,ff,ff,ff]) rfl E9 (N2 rfl rfl) rfl (by kernel_rfl) rfl rfl (fun h11 => ?_) (fun h11 => ?_)
 refine aP 2 rfl (qM rfl) rfl ?_
 refine A5 3 rfl rfl rfl ?_
 refine A5 4 rfl rfl rfl ?_
 refine A5 6 rfl rfl rfl ?_
 refine A5 7 rfl rfl rfl ?_
 refine A5 8 rfl rfl rfl ?_
 refine A5 5 rfl rfl rfl ?_
 refine A5 9 rfl rfl rfl ?_
 refine aP 10 rfl (I4 rfl rfl) rfl ?_
 refine aP 11 rfl (qM rfl) rfl ?_
 refine A5 12 rfl rfl rfl ?_
 refine A5 13 rfl rfl rfl ?_
 refine A5 14 rfl rfl rfl ?_
 refine aP 15 rfl (I4 rfl rfl) rfl ?_
 refine aP 16 rfl (qM rfl) rfl ?_
 refine A5 17 rfl rfl rfl ?_
 refine A5 18 rfl rfl rfl ?_
 refine A5 19 rfl rfl rfl ?_
 refine A5 20 rfl rfl rfl ?_
 refine A5 21 rfl rfl rfl ?_
 refine A5 22 rfl rfl rfl ?_
 refine A5 23 rfl rfl rfl ?_
 refine A5 24 rfl rfl rfl ?_
 refine aP 25 rfl (I4 rfl rfl) rfl ?_
 refine aP 26 rfl (qM rfl) rfl ?_
 refine A5 27 rfl rfl rfl ?_
 refine A5 28 rfl rfl rfl ?_
 refine A5 29 rfl rfl rfl ?_
 refine A5 30 rfl rfl rfl ?_
 refine A5 31 rfl rfl rfl ?_
 refine A5 32 rfl rfl rfl ?_
 refine A5 33 rfl rfl rfl ?_
 refine A5 34 rfl rfl rfl ?_
 refine aP 35 rfl (I4 rfl rfl) rfl ?_
 refine D7 ?_
 (rw [A0v (by rw [hR]; first | omega | exact .inr (.inr (by assumption)) | exact .inr (.inr (by cases R with | false => rfl | true => exact absurd (har rfl) (by omega))))]; exact ⟨rfl, rfl, rfl⟩)
 refine aP 2 rfl (qM rfl) rfl ?_
 refine aP 3 rfl (A4 rfl) rfl ?_
 refine aL 4 rfl (C2 rfl rfl) rfl ?_
 refine aP 6 rfl (A4 rfl) rfl ?_
 refine aL 7 rfl (C2 rfl rfl) rfl ?_
 refine aP 8 rfl (pLn rfl rfl) rfl ?_
 refine B6 5 ?_
 refine N5 rfl rfl (hk1) rfl rfl rfl ?_
 refine X4 (i := 9) (l' := [tt,tt,tt,tt,tt,tt,tt,tt,tt,tt,ff,ff,ff,ff,ff,ff,ff,ff,ff,ff,ff,ff,ff,ff,ff,ff,ff,ff,ff,ff,ff,ff,ff,ff,ff,ff]) rfl E9 (N1 rfl rfl) rfl (by kernel_rfl) rfl rfl (fun h66 => ?_) (fun h66 => ?_)
 refine aP 10 rfl (L7 rfl rfl) rfl ?_
 refine aP 11 rfl (qM rfl) rfl ?_
 refine A5 12 rfl rfl rfl ?_
 refine A5 13 rfl rfl rfl ?_
 refine A5 14 rfl rfl rfl ?_
 refine aP 15 rfl (I4 rfl rfl) rfl ?_
 refine aP 16 rfl (qM rfl) rfl ?_
 refine A5 17 rfl rfl rfl ?_
 refine A5 18 rfl rfl rfl ?_
 refine A5 19 rfl rfl rfl ?_
 refine A5 20 rfl rfl rfl ?_
 refine A5 21 rfl rfl rfl ?_
 refine A5 22 rfl rfl rfl ?_
 refine A5 23 rfl rfl rfl ?_
 refine A5 24 rfl rfl rfl ?_
 refine aP 25 rfl (I4 rfl rfl) rfl ?_
 refine aP 26 rfl (qM rfl) rfl ?_
 refine A5 27 rfl rfl rfl ?_
 refine A5 28 rfl rfl rfl ?_
 refine A5 29 rfl rfl rfl ?_
 refine A5 30 rfl rfl rfl ?_
 refine A5 31 rfl rfl rfl ?_
 refine A5 32 rfl rfl rfl ?_
 refine A5 33 rfl rfl rfl ?_
 refine A5 34 rfl rfl rfl ?_
 refine aP 35 rfl (I4 rfl rfl) rfl ?_
 refine D7 ?_
 (rw [A0v (by rw [hR]; first | omega | exact .inr (.inr (by assumption)) | exact .inr (.inr (by cases R with | false => rfl | true => exact absurd (har rfl) (by omega))))]; exact ⟨rfl, rfl, rfl⟩)
 refine aP 10 rfl (L7 rfl rfl) rfl ?_
 refine aP 11 rfl (qM rfl) rfl ?_
 refine aP 12 rfl (A4 rfl) rfl ?_
 refine aL 13 rfl (C2 rfl rfl) rfl ?_
 refine X4 (i := 14) (l' := [tt,tt,tt,tt,tt,tt,tt,tt,tt,tt,tt,tt,tt,tt,tt,ff,ff,ff,ff,ff,ff,ff,ff,ff,ff,ff,ff,ff,ff,ff,ff,ff,ff,ff,ff,ff]) rfl E9 (qE rfl rfl) rfl (by kernel_rfl) rfl rfl (fun h109 => ?_) (fun h109 => ?_)
 refine aP 15 rfl (L7 rfl rfl) rfl ?_
 refine aP 16 rfl (qM rfl) rfl ?_
 refine A5 17 rfl rfl rfl ?_
 refine A5 18 rfl rfl rfl ?_
 refine A5 19 rfl rfl rfl ?_
 refine A5 20 rfl rfl rfl ?_
 refine A5 21 rfl rfl rfl ?_
 refine A5 22 rfl rfl rfl ?_
 refine A5 23 rfl rfl rfl ?_
 refine A5 24 rfl rfl rfl ?_
 refine aP 25 rfl (I4 rfl rfl) rfl ?_
 refine aP 26 rfl (qM rfl) rfl ?_
 refine A5 27 rfl rfl rfl ?_
 refine A5 28 rfl rfl rfl ?_
 refine A5 29 rfl rfl rfl ?_
 refine A5 30 rfl rfl rfl ?_
 refine A5 31 rfl rfl rfl ?_
 refine A5 32 rfl rfl rfl ?_
 refine A5 33 rfl rfl rfl ?_
 refine A5 34 rfl rfl rfl ?_
 refine aP 35 rfl (I4 rfl rfl) rfl ?_
 refine D7 ?_
 (rw [A0v (by rw [hR]; first | omega | exact .inr (.inr (by assumption)) | exact .inr (.inr (by cases R with | false => rfl | true => exact absurd (har rfl) (by omega))))]; exact ⟨rfl, rfl, rfl⟩)
 refine aP 15 rfl (L7 rfl rfl) rfl ?_
 refine aP 16 rfl (qM rfl) rfl ?_
 refine aP 17 rfl (A4 rfl) rfl ?_
 refine aL 18 rfl (C2 rfl rfl) rfl ?_
 refine X4 (i := 19) (l' := [tt,tt,tt,tt,tt,tt,tt,tt,tt,tt,tt,tt,tt,tt,tt,tt,tt,tt,tt,tt,ff,ff,ff,ff,ff,ff,ff,ff,ff,ff,ff,ff,ff,ff,ff,ff]) rfl E9 (qE rfl rfl) rfl (by kernel_rfl) rfl rfl (fun h147 => ?_) (fun h147 => ?_)
 refine aP 20 rfl (qM rfl) rfl ?_
 refine aL 21 rfl (A7 rfl rfl) rfl ?_
 refine B6 22 ?_
 refine A2O rfl rfl (hlo (h14 (by omega) (by omega))) rfl rfl rfl (fun h151 => ?_) (fun h151 => ?_)
 refine aP 23 rfl (X5 rfl) rfl ?_
 refine aP 24 rfl (I4 rfl rfl) rfl ?_
 refine aP 25 rfl (L7 rfl rfl) rfl ?_
 refine aP 26 rfl (qM rfl) rfl ?_
 refine aP 27 rfl (A4 rfl) rfl ?_
 refine aL 28 rfl (C2 rfl rfl) rfl ?_
 refine aP 29 rfl (R0 rfl rfl (by omega)) rfl ?_
 refine aP 30 rfl (qM rfl) rfl ?_
 refine A5 31 rfl rfl rfl ?_
 refine A5 32 rfl rfl rfl ?_
 refine A5 33 rfl rfl rfl ?_
 refine aP 34 rfl (L7 rfl rfl) rfl ?_
 refine aP 35 rfl (L7 rfl rfl) rfl ?_
 refine D7 ?_
 refine D0 ?_
 (refine O9 (fun (i : Nat) => ⟨[(5, .int .i64 i), (2, .pointer (some ⟨b3, 0, none⟩)), (1, .int .i64 d)], [.blk b3 [.int .i64 k, .string nm, .int .i64 num, .int .i64 tk, .slice pt tks.length ct, .int .i64 fk, .slice pf fks.length cf, .int .i64 lb, .slice p ks.length c]], G⟩) (fun i => i ≤ ks.length ∧ ∀ j (h : j < ks.length), j < i → M5 40 13 ks[j] (41 - d + 1) = true) (fun i => ks.length - i) 0 ?_ ?_ ?_)
 exact I6
 exact ⟨by omega, by omega⟩
 (rintro i ⟨hi, hf⟩)
 refine B1 ?_
 refine sB (N2 rfl rfl) rfl rfl (fun h188 => ?_) (fun h188 => ?_)
 refine sD (nS (qT rfl (tK (nS (tS ?_)))))
 refine D0 ?_
 refine R6 ?_
 (obtain ⟨b, o, e, rfl, hl, hat, hre, hgb⟩ := hsl.kidTm hkl (i := i) (by omega) (by omega); refine sP (H2 rfl rfl rfl (by omega)) rfl rfl ?_)
 refine sL (D5 rfl rfl (hat _) hl) rfl rfl ?_
 refine sQ (qM rfl) rfl ?_
 refine sP (A0i rfl rfl (by omega) (by omega)) rfl rfl ?_
 (have hih := ih ks[i] (List.getElem_mem (by omega)) (d - 1) G _ (by omega) hre; rw [show 41 - (d - 1) = 41 - d + 1 by omega] at hih; refine H6 rfl hih rfl rfl (fun h205 => ?_) (fun h205 => ?_))
 refine C1 ?_
 refine sP (K2 rfl rfl (by omega) (by omega)) rfl rfl ?_
 refine sQ (qA rfl) rfl (sD ?_)
 refine P6 (i + 1) ?_ ?_ ?_
 exact I6
 exact ⟨by omega, fun j hj hji => by (by_cases he : j = i; (subst he; assumption); exact hf j hj (by omega))⟩
 omega
 refine N4 ?_
 (rw [A1r (by omega) (by omega) (hR.trans (by assumption)), A31 (i := i) (by omega) (by assumption)]; exact ⟨rfl, rfl, rfl⟩)
 refine I7 ?_
 (rw [A1r (by omega) (by omega) (hR.trans (by assumption)), (A0e 40 13 ks _).2 (fun j hj => hf j hj (by omega))]; exact ⟨rfl, rfl, rfl⟩)
 refine aP 23 rfl (pNf rfl) rfl ?_
 refine aP 24 rfl (I4 rfl rfl) rfl ?_
 refine aP 25 rfl (L7 rfl rfl) rfl ?_
 refine aP 26 rfl (qM rfl) rfl ?_
 refine A5 27 rfl rfl rfl ?_
 refine A5 28 rfl rfl rfl ?_
 refine A5 29 rfl rfl rfl ?_
 refine A5 30 rfl rfl rfl ?_
 refine A5 31 rfl rfl rfl ?_
 refine A5 32 rfl rfl rfl ?_
 refine A5 33 rfl rfl rfl ?_
 refine A5 34 rfl rfl rfl ?_
 refine aP 35 rfl (I4 rfl rfl) rfl ?_
 refine D7 ?_
 (rw [A0v (by rw [hR]; first | omega | exact .inr (.inr (by assumption)) | exact .inr (.inr (by cases R with | false => rfl | true => exact absurd (har rfl) (by omega))))]; exact ⟨rfl, rfl, rfl⟩)
 refine aP 20 rfl (qM rfl) rfl ?_
 refine A5 21 rfl rfl rfl ?_
 refine A5 22 rfl rfl rfl ?_
 refine A5 23 rfl rfl rfl ?_
 refine aP 24 rfl (L7 rfl rfl) rfl ?_
 refine aP 25 rfl (L7 rfl rfl) rfl ?_
 refine aP 26 rfl (qM rfl) rfl ?_
 refine aP 27 rfl (A4 rfl) rfl ?_
 refine aL 28 rfl (C2 rfl rfl) rfl ?_
 refine aP 29 rfl (T8 rfl rfl (by omega)) rfl ?_
 refine aP 30 rfl (qM rfl) rfl ?_
 refine aL 31 rfl (A7 rfl rfl) rfl ?_
 refine B6 32 ?_
 refine A2O rfl rfl (hl2 (hne (by omega) (by omega))) rfl rfl rfl (fun h293 => ?_) (fun h293 => ?_)
 refine aP 33 rfl (X5 rfl) rfl ?_
 refine aP 34 rfl (I4 rfl rfl) rfl ?_
 refine aP 35 rfl (L7 rfl rfl) rfl ?_
 refine D7 ?_
 refine D0 ?_
 (refine O9 (fun (i : Nat) => ⟨[(5, .int .i64 i), (2, .pointer (some ⟨b3, 0, none⟩)), (1, .int .i64 d)], [.blk b3 [.int .i64 k, .string nm, .int .i64 num, .int .i64 tk, .slice pt tks.length ct, .int .i64 fk, .slice pf fks.length cf, .int .i64 lb, .slice p ks.length c]], G⟩) (fun i => i ≤ ks.length ∧ ∀ j (h : j < ks.length), j < i → M5 40 13 ks[j] (41 - d + 1) = true) (fun i => ks.length - i) 0 ?_ ?_ ?_)
 exact I6
 exact ⟨by omega, by omega⟩
 (rintro i ⟨hi, hf⟩)
 refine B1 ?_
 refine sB (N2 rfl rfl) rfl rfl (fun h320 => ?_) (fun h320 => ?_)
 refine sD (nS (qT rfl (tK (nS (tS ?_)))))
 refine D0 ?_
 refine R6 ?_
 (obtain ⟨b, o, e, rfl, hl, hat, hre, hgb⟩ := hsl.kidTm hkl (i := i) (by omega) (by omega); refine sP (H2 rfl rfl rfl (by omega)) rfl rfl ?_)
 refine sL (D5 rfl rfl (hat _) hl) rfl rfl ?_
 refine sQ (qM rfl) rfl ?_
 refine sP (A0i rfl rfl (by omega) (by omega)) rfl rfl ?_
 (have hih := ih ks[i] (List.getElem_mem (by omega)) (d - 1) G _ (by omega) hre; rw [show 41 - (d - 1) = 41 - d + 1 by omega] at hih; refine H6 rfl hih rfl rfl (fun h337 => ?_) (fun h337 => ?_))
 refine C1 ?_
 refine sP (K2 rfl rfl (by omega) (by omega)) rfl rfl ?_
 refine sQ (qA rfl) rfl (sD ?_)
 refine P6 (i + 1) ?_ ?_ ?_
 exact I6
 exact ⟨by omega, fun j hj hji => by (by_cases he : j = i; (subst he; assumption); exact hf j hj (by omega))⟩
 omega
 refine N4 ?_
 (rw [A1r (by omega) (by omega) (hR.trans (by assumption)), A31 (i := i) (by omega) (by assumption)]; exact ⟨rfl, rfl, rfl⟩)
 refine I7 ?_
 (rw [A1r (by omega) (by omega) (hR.trans (by assumption)), (A0e 40 13 ks _).2 (fun j hj => hf j hj (by omega))]; exact ⟨rfl, rfl, rfl⟩)
 refine aP 33 rfl (pNf rfl) rfl ?_
 refine aP 34 rfl (I4 rfl rfl) rfl ?_
 refine aP 35 rfl (L7 rfl rfl) rfl ?_
 refine D7 ?_
 (rw [A0v (by rw [hR]; first | omega | exact .inr (.inr (by assumption)) | exact .inr (.inr (by cases R with | false => rfl | true => exact absurd (har rfl) (by omega))))]; exact ⟨rfl, rfl, rfl⟩)
theorem A9P {D N : Int} {k : Int} {nm : ByteArray} {num : Int} {ty fr : Ty} {lb : Int} {ks : List Tm} {d : Int} (h : M5 D N (.mk k nm num ty fr lb ks) d = true) : d ≤ D ∧ ∀ i, (hi : i < ks.length) → M5 D N ks[i] (d + 1) = true := by
 rw [M5] at h
 simp only [Bool.and_eq_true, decide_eq_true_eq] at h
 exact ⟨h.1.1.1, (A0e D N ks _).1 h.2⟩
mutual
theorem A32 (M D N : Int) : ∀ (t : Tm) (deep c : Int), c ≤ M → ((O1 M D N t deep c).1 = true ↔ M5 D N t deep = true ∧ c + D1 t ≤ M)
 | .mk k nm num ty fr lb ks, deep, c, hc => by
  rw [O1, D1]
  by_cases h : c + 1 > M ∨ deep > D ∨ k = N ∨ P8 k nm num ty fr lb ks.length = false
  ·rw [if_pos h]
   constructor
   ·intro h; cases h
   ·rintro ⟨h1, h2⟩
    rcases h with h | h
    ·omega
    ·rw [A0v h] at h1; cases h1
  ·rw [if_neg h]
   have hn : P8 k nm num ty fr lb ks.length = true := by
    cases hx : P8 k nm num ty fr lb ks.length with
    | true => rfl
    | false => exact absurd (Or.inr (Or.inr (Or.inr hx))) h
   rw [A1r (by omega) (by omega) hn, A53 M D N ks (deep + 1) (c + 1) (by omega)]
   constructor
   ·rintro ⟨a, b⟩; exact ⟨a, by omega⟩
   ·rintro ⟨a, b⟩; exact ⟨a, by omega⟩
theorem A53 (M D N : Int) : ∀ (ts : List Tm) (deep c : Int), c ≤ M → ((P2 M D N ts deep c).1 = true ↔ W2 D N ts deep = true ∧ c + F8 ts ≤ M)
 | [], deep, c, hc => by simp [P2, W2, F8]; omega
 | t :: ts, deep, c, hc => by
  have h0 := A32 M D N t deep c hc
  rw [P2, W2, F8, Bool.and_eq_true]
  by_cases h : (O1 M D N t deep c).1 = true
  ·rw [if_pos h, A5v M D N t deep c h, A53 M D N ts deep _ (h0.1 h).2]
   have := h0.1 h
   constructor
   ·rintro ⟨a, b⟩; exact ⟨⟨this.1, a⟩, by omega⟩
   ·rintro ⟨⟨_, a⟩, b⟩; exact ⟨a, by omega⟩
  ·rw [if_neg h]
   constructor
   ·intro h'; cases h'
   ·rintro ⟨⟨a, _⟩, b⟩
    exact absurd (h0.2 ⟨a, by omega⟩) h
end
theorem A54 (t : Tm) : N7 t = true ↔ M5 40 13 t 1 = true ∧ D1 t ≤ 200 := by
 have := A32 200 40 13 t 1 0 (by omega)
 rw [N7, this]
 constructor
 ·rintro ⟨a, b⟩; exact ⟨a, by omega⟩
 ·rintro ⟨a, b⟩; exact ⟨a, by omega⟩
theorem A55 (D N : Int) : ∀ (t : Tm) (d : Int) (G : IM) (cells : List Value), d ≤ 40 → M5 D N t (D + 1 - d) = true → D1 t ≤ 4294967296 → C7 G t cells →
  Fn Tryz.prog 45 [.agg ⟨cells⟩, .int .i64 d] [] G (H4 (.int .i64 (D1 t : Int)) G) := by
 refine Tm.ind fun k nm num ty fr lb ks ih d G cells hd hv hcnt hr => ?_
 have hone := hr.one
 obtain ⟨hv1, hv2⟩ := A9P hv
 obtain ⟨tk, tks⟩ := ty
 obtain ⟨fk, fks⟩ := fr
 obtain ⟨pt, ct, pf, cf, p, c, es, rfl, hk, hnum, hlb, hty, hfr, hsl, hkl⟩ := hr.open9
 have hn := hsl.le
 clear hr
 rw [D1] at hcnt ⊢
 refine B3 Tryz.func45 rfl Tryz.ntmps45 Tryz.results45 rfl ?_
 intro w0
 refine tS (tR ?_)
 refine sE (J6 rfl rfl) rfl (fun b3 => ?_)
 refine S2 ?_
 refine D0 ?_
 (refine O9 (fun (i : Nat) => ⟨[(6, .int .i64 i), (5, .int .i64 ((F8 (ks.take i) + 1 : Nat) : Int)), (2, .pointer (some ⟨b3, 0, none⟩)), (1, .int .i64 d)], [.blk b3 [.int .i64 k, .string nm, .int .i64 num, .int .i64 tk, .slice pt tks.length ct, .int .i64 fk, .slice pf fks.length cf, .int .i64 lb, .slice p ks.length c]], G⟩) (fun i => i ≤ ks.length) (fun i => ks.length - i) 0 ?_ ?_ ?_)
 exact I6
 exact Nat.zero_le _
 (rintro i hi)
 refine B1 ?_
 refine sB (N2 rfl rfl) rfl rfl (fun h30 => ?_) (fun h30 => ?_)
 refine sQ (qM rfl) rfl (sQ (qM rfl) rfl ?_)
 refine sP (A3D rfl rfl (by omega)) rfl rfl ?_
 refine sQ (I4 rfl rfl) rfl (sD (nS (qT rfl (tK (nS (tS ?_))))))
 refine D0 ?_
 refine R6 ?_
 (obtain ⟨b, o, e, rfl, hl, hat, hre, hgb⟩ := hsl.kidTm hkl (i := i) (by omega) (by omega); have htk := A88 (ks := ks) (i := i) (by omega); refine sP (H2 rfl rfl rfl (by omega)) rfl rfl ?_)
 refine sL (D5 rfl rfl (hat _) hl) rfl rfl ?_
 refine sQ (qM rfl) rfl ?_
 refine sP (A0i rfl rfl (by omega) (by omega)) rfl rfl ?_
 (have hvk := hv2 i (by omega); rw [show D + 1 - d + 1 = D + 1 - (d - 1) by omega] at hvk; refine I5 rfl (ih ks[i] (List.getElem_mem (by omega)) (d - 1) G _ (by omega) hvk (by omega) hre) rfl rfl ?_)
 refine sP (K2 rfl rfl (by omega) (by omega)) rfl rfl ?_
 refine I2 ?_
 refine sP (K2 rfl rfl (by omega) (by omega)) rfl rfl ?_
 refine sQ (qA rfl) rfl (sD ?_)
 (refine P6 (i + 1) ?_ ?_ ?_; rw [show ((F8 (ks.take (i + 1)) + 1 : Nat) : Int) = ((F8 (ks.take i) + 1 : Nat) : Int) + (D1 ks[i] : Int) from by rw [A89 (by omega)]; omega])
 exact I6
 omega
 omega
 refine X8 ?_
 (obtain rfl : i = ks.length := (by omega); rw [List.take_length]; exact ⟨rfl, rfl, rfl⟩)
theorem A9Q (t : Tm) (G : IM) (cells : List Value) (hcnt : D1 t ≤ 4294967296) (hr : C7 G t cells) :
  Fn Tryz.prog 37 [.agg ⟨cells⟩] [] G (H4 (.bool (N7 t)) G) := by
 have hl := hr.len
 have hv := A9O t 40 G cells (by omega) hr
 have hc := fun h => A55 40 13 t 40 G cells (by omega) h hcnt hr
 have hi := A54 t
 obtain ⟨R, hR⟩ : ∃ R, N7 t = R := ⟨_, rfl⟩
 rw [hR] at hi ⊢
 refine B3 Tryz.func37 rfl Tryz.ntmps37 Tryz.results37 rfl ?_
 intro w0
 refine tS (tR ?_)
 refine sE (J6 rfl rfl) rfl (fun b3 => ?_)
 refine sQ (qA rfl) rfl (sD (nS (tS (tR ?_))))
 refine sL (D5 rfl rfl (K8 (by repeat first | exact mH | apply mT)) (by assumption)) rfl rfl ?_
 refine H6 rfl (hv) rfl rfl (fun h10 => ?_) (fun h10 => ?_)
 refine sQ (qM rfl) rfl ?_
 refine sL (D5 rfl rfl (K8 (by repeat first | exact mH | apply mT)) (by assumption)) rfl rfl ?_
 refine I5 rfl (hc (by assumption)) rfl rfl ?_
 refine sB (S8 rfl rfl) rfl rfl (fun h14 => ?_) (fun h14 => ?_)
 refine I2 ?_
 exact ⟨rfl, by rw [hi.2 ⟨by assumption, by omega⟩], rfl⟩
 refine I2 ?_
 exact ⟨rfl, by (cases R with | false => rfl | true => (exfalso; have h0 := hi.1 rfl; first | omega | simp_all)), rfl⟩
 refine M0 ?_
 exact ⟨rfl, by (cases R with | false => rfl | true => (exfalso; have h0 := hi.1 rfl; first | omega | simp_all)), rfl⟩
theorem A56 (t : Tm) : P9 t = true ↔ M5 12 14 t 1 = true ∧ D1 t ≤ 30 := by
 have := A32 30 12 14 t 1 0 (by omega)
 rw [P9, this]
 constructor
 ·rintro ⟨a, b⟩; exact ⟨a, by omega⟩
 ·rintro ⟨a, b⟩; exact ⟨a, by omega⟩
theorem A9R : ∀ (t : Tm) (d : Int) (G : IM) (cells : List Value), 0 ≤ d ∧ d ≤ 12 → C7 G t cells →
  Fn Tryz.prog 44 [.agg ⟨cells⟩, .int .i64 d] [] G (H4 (.bool (M5 12 14 t (13 - d))) G) := by
 refine Tm.ind fun k nm num ty fr lb ks ih d G cells hd hr => ?_
 have hr0 := hr
 have hne := fun h : k ≠ 14 => @A52 k nm num ty fr lb ks.length h
 have har := fun h : P8 k nm num ty fr lb ks.length = true => (A0q.1 h).1
 obtain ⟨R, hR⟩ : ∃ R, P8 k nm num ty fr lb ks.length = R := ⟨_, rfl⟩
 rw [hR] at hne har
 have hl2 := A51 k nm num ty fr lb ks G cells hr0 R
 have hk1 := A5T k G
 obtain ⟨tk, tks⟩ := ty
 obtain ⟨fk, fks⟩ := fr
 obtain ⟨pt, ct, pf, cf, p, c, es, rfl, hk, hnum, hlb, hty, hfr, hsl, hkl⟩ := hr.open9
 have hn := hsl.le
 clear hr hr0
 refine B3 Tryz.func44 rfl Tryz.ntmps44 Tryz.results44 rfl ?_
 intro w0
 refine tS (tR ?_)
 refine sE (J6 rfl rfl) rfl (fun b3 => ?_)
 refine sQ (qA rfl) rfl (sD (nS (tS (tS ?_))))
 refine K7 K9 rfl ?_
 refine I0 (i := 0) (l' := [tt,ff,ff,ff,ff,ff,ff,ff,ff,ff,ff,ff,ff,ff,ff,ff,ff,ff,ff,ff,ff]) rfl E9 (qM rfl) rfl (by kernel_rfl) rfl rfl ?_
 refine X4 (i := 1) (l' := [tt,tt,ff,ff,ff,ff,ff,ff,ff,ff,ff,ff,ff,ff,ff,ff,ff,ff,ff,ff,ff]) rfl E9 (N2 rfl rfl) rfl (by kernel_rfl) rfl rfl (fun h11 => ?_) (fun h11 => ?_)
 refine aP 2 rfl (qM rfl) rfl ?_
 refine A5 3 rfl rfl rfl ?_
 refine A5 4 rfl rfl rfl ?_
 refine A5 6 rfl rfl rfl ?_
 refine A5 7 rfl rfl rfl ?_
 refine A5 8 rfl rfl rfl ?_
 refine A5 5 rfl rfl rfl ?_
 refine A5 9 rfl rfl rfl ?_
 refine aP 10 rfl (I4 rfl rfl) rfl ?_
 refine aP 11 rfl (qM rfl) rfl ?_
 refine A5 12 rfl rfl rfl ?_
 refine A5 13 rfl rfl rfl ?_
 refine A5 14 rfl rfl rfl ?_
 refine aP 15 rfl (I4 rfl rfl) rfl ?_
 refine aP 16 rfl (qM rfl) rfl ?_
 refine A5 17 rfl rfl rfl ?_
 refine A5 18 rfl rfl rfl ?_
 refine A5 19 rfl rfl rfl ?_
 refine aP 20 rfl (I4 rfl rfl) rfl ?_
 refine D7 ?_
 (rw [A0v (by rw [hR]; first | omega | exact .inr (.inr (by assumption)) | exact .inr (.inr (by cases R with | false => rfl | true => exact absurd (har rfl) (by omega))))]; exact ⟨rfl, rfl, rfl⟩)
 refine aP 2 rfl (qM rfl) rfl ?_
 refine aP 3 rfl (A4 rfl) rfl ?_
 refine aL 4 rfl (C2 rfl rfl) rfl ?_
 refine aP 6 rfl (A4 rfl) rfl ?_
 refine aL 7 rfl (C2 rfl rfl) rfl ?_
 refine aP 8 rfl (pLn rfl rfl) rfl ?_
 refine B6 5 ?_
 refine N5 rfl rfl (hk1) rfl rfl rfl ?_
 refine X4 (i := 9) (l' := [tt,tt,tt,tt,tt,tt,tt,tt,tt,tt,ff,ff,ff,ff,ff,ff,ff,ff,ff,ff,ff]) rfl E9 (N1 rfl rfl) rfl (by kernel_rfl) rfl rfl (fun h51 => ?_) (fun h51 => ?_)
 refine aP 10 rfl (L7 rfl rfl) rfl ?_
 refine aP 11 rfl (qM rfl) rfl ?_
 refine A5 12 rfl rfl rfl ?_
 refine A5 13 rfl rfl rfl ?_
 refine A5 14 rfl rfl rfl ?_
 refine aP 15 rfl (I4 rfl rfl) rfl ?_
 refine aP 16 rfl (qM rfl) rfl ?_
 refine A5 17 rfl rfl rfl ?_
 refine A5 18 rfl rfl rfl ?_
 refine A5 19 rfl rfl rfl ?_
 refine aP 20 rfl (I4 rfl rfl) rfl ?_
 refine D7 ?_
 (rw [A0v (by rw [hR]; first | omega | exact .inr (.inr (by assumption)) | exact .inr (.inr (by cases R with | false => rfl | true => exact absurd (har rfl) (by omega))))]; exact ⟨rfl, rfl, rfl⟩)
 refine aP 10 rfl (L7 rfl rfl) rfl ?_
 refine aP 11 rfl (qM rfl) rfl ?_
 refine aP 12 rfl (A4 rfl) rfl ?_
 refine aL 13 rfl (C2 rfl rfl) rfl ?_
 refine X4 (i := 14) (l' := [tt,tt,tt,tt,tt,tt,tt,tt,tt,tt,tt,tt,tt,tt,tt,ff,ff,ff,ff,ff,ff]) rfl E9 (qE rfl rfl) rfl (by kernel_rfl) rfl rfl (fun h79 => ?_) (fun h79 => ?_)
 refine aP 15 rfl (L7 rfl rfl) rfl ?_
 refine aP 16 rfl (qM rfl) rfl ?_
 refine A5 17 rfl rfl rfl ?_
 refine A5 18 rfl rfl rfl ?_
 refine A5 19 rfl rfl rfl ?_
 refine aP 20 rfl (I4 rfl rfl) rfl ?_
 refine D7 ?_
 (rw [A0v (by rw [hR]; first | omega | exact .inr (.inr (by assumption)) | exact .inr (.inr (by cases R with | false => rfl | true => exact absurd (har rfl) (by omega))))]; exact ⟨rfl, rfl, rfl⟩)
 refine aP 15 rfl (L7 rfl rfl) rfl ?_
 refine aP 16 rfl (qM rfl) rfl ?_
 refine aL 17 rfl (A7 rfl rfl) rfl ?_
 refine B6 18 ?_
 refine A2O rfl rfl (hl2 (hne (by omega) (by omega))) rfl rfl rfl (fun h102 => ?_) (fun h102 => ?_)
 refine aP 19 rfl (X5 rfl) rfl ?_
 refine aP 20 rfl (L7 rfl rfl) rfl ?_
 refine D7 ?_
 refine D0 ?_
 (refine O9 (fun (i : Nat) => ⟨[(5, .int .i64 i), (2, .pointer (some ⟨b3, 0, none⟩)), (1, .int .i64 d)], [.blk b3 [.int .i64 k, .string nm, .int .i64 num, .int .i64 tk, .slice pt tks.length ct, .int .i64 fk, .slice pf fks.length cf, .int .i64 lb, .slice p ks.length c]], G⟩) (fun i => i ≤ ks.length ∧ ∀ j (h : j < ks.length), j < i → M5 12 14 ks[j] (13 - d + 1) = true) (fun i => ks.length - i) 0 ?_ ?_ ?_)
 exact I6
 exact ⟨by omega, by omega⟩
 (rintro i ⟨hi, hf⟩)
 refine B1 ?_
 refine sB (N2 rfl rfl) rfl rfl (fun h128 => ?_) (fun h128 => ?_)
 refine sD (nS (qT rfl (tK (nS (tS ?_)))))
 refine D0 ?_
 refine R6 ?_
 (obtain ⟨b, o, e, rfl, hl, hat, hre, hgb⟩ := hsl.kidTm hkl (i := i) (by omega) (by omega); refine sP (H2 rfl rfl rfl (by omega)) rfl rfl ?_)
 refine sL (D5 rfl rfl (hat _) hl) rfl rfl ?_
 refine sQ (qM rfl) rfl ?_
 refine sP (A0i rfl rfl (by omega) (by omega)) rfl rfl ?_
 (have hih := ih ks[i] (List.getElem_mem (by omega)) (d - 1) G _ (by omega) hre; rw [show 13 - (d - 1) = 13 - d + 1 by omega] at hih; refine H6 rfl hih rfl rfl (fun h145 => ?_) (fun h145 => ?_))
 refine C1 ?_
 refine sP (K2 rfl rfl (by omega) (by omega)) rfl rfl ?_
 refine sQ (qA rfl) rfl (sD ?_)
 refine P6 (i + 1) ?_ ?_ ?_
 exact I6
 exact ⟨by omega, fun j hj hji => by (by_cases he : j = i; (subst he; assumption); exact hf j hj (by omega))⟩
 omega
 refine N4 ?_
 (rw [A1r (by omega) (by omega) (hR.trans (by assumption)), A31 (i := i) (by omega) (by assumption)]; exact ⟨rfl, rfl, rfl⟩)
 refine I7 ?_
 (rw [A1r (by omega) (by omega) (hR.trans (by assumption)), (A0e 12 14 ks _).2 (fun j hj => hf j hj (by omega))]; exact ⟨rfl, rfl, rfl⟩)
 refine aP 19 rfl (pNf rfl) rfl ?_
 refine aP 20 rfl (L7 rfl rfl) rfl ?_
 refine D7 ?_
 (rw [A0v (by rw [hR]; first | omega | exact .inr (.inr (by assumption)) | exact .inr (.inr (by cases R with | false => rfl | true => exact absurd (har rfl) (by omega))))]; exact ⟨rfl, rfl, rfl⟩)
theorem A9S (t : Tm) (G : IM) (cells : List Value) (hcnt : D1 t ≤ 4294967296) (hr : C7 G t cells) :
  Fn Tryz.prog 15 [.agg ⟨cells⟩] [] G (H4 (.bool (P9 t)) G) := by
 have hl := hr.len
 have hv := A9R t 12 G cells (by omega) hr
 have hc := fun h => A55 12 14 t 12 G cells (by omega) h hcnt hr
 have hi := A56 t
 obtain ⟨R, hR⟩ : ∃ R, P9 t = R := ⟨_, rfl⟩
 rw [hR] at hi ⊢
 refine B3 Tryz.func15 rfl Tryz.ntmps15 Tryz.results15 rfl ?_
 intro w0
 refine tS (tR ?_)
 refine sE (J6 rfl rfl) rfl (fun b3 => ?_)
 refine sQ (qA rfl) rfl (sD (nS (tS (tR ?_))))
 refine sL (D5 rfl rfl (K8 (by repeat first | exact mH | apply mT)) (by assumption)) rfl rfl ?_
 refine H6 rfl (hv) rfl rfl (fun h10 => ?_) (fun h10 => ?_)
 refine sQ (qM rfl) rfl ?_
 refine sL (D5 rfl rfl (K8 (by repeat first | exact mH | apply mT)) (by assumption)) rfl rfl ?_
 refine I5 rfl (hc (by assumption)) rfl rfl ?_
 refine sB (S8 rfl rfl) rfl rfl (fun h14 => ?_) (fun h14 => ?_)
 refine I2 ?_
 exact ⟨rfl, by rw [hi.2 ⟨by assumption, by omega⟩], rfl⟩
 refine I2 ?_
 exact ⟨rfl, by (cases R with | false => rfl | true => (exfalso; have h0 := hi.1 rfl; first | omega | simp_all)), rfl⟩
 refine M0 ?_
 exact ⟨rfl, by (cases R with | false => rfl | true => (exfalso; have h0 := hi.1 rfl; first | omega | simp_all)), rfl⟩
end Gw
end Go.Proofs.YtgodjiieijekiaaGreatDoor
namespace Go.Proofs.YtgodjiieijekiaaGreatDoor
namespace Gw
inductive GT where
 | any | int | bool
 | fn (a b : GT)
 | pr (a b : GT)
inductive GE where
 | var (x : ByteArray)
 | num (n : Int)
 | tru (b : Bool)
 | lam (x : ByteArray) (A : GT) (e : GE)
 | app (f a : GE)
 | ar (s : Bool) (a b : GE)
 | ite (c a b : GE)
 | pair (a b : GE)
 | part (s : Bool) (e : GE)
 | cast (A B : GT) (l : Int) (e : GE)
def GT.gr : GT → GT
 | .any => .any
 | .int => .int
 | .bool => .bool
 | .fn _ _ => .fn .any .any
 | .pr _ _ => .pr .any .any
def GT.Gd (t : GT) : Prop := t ≠ .any ∧ t.gr = t
inductive Co : GT → GT → Prop
 | l {b} : Co .any b
 | r {a} : Co a .any
 | int : Co .int .int
 | bool : Co .bool .bool
 | fn {a b a' b'} : Co a a' → Co b b' → Co (.fn a b) (.fn a' b')
 | pr {a b a' b'} : Co a a' → Co b b' → Co (.pr a b) (.pr a' b')
inductive Le : GT → GT → Prop
 | any {a} : Le a .any
 | int : Le .int .int
 | bool : Le .bool .bool
 | fn {a b a' b'} : Le a a' → Le b b' → Le (.fn a b) (.fn a' b')
 | pr {a b a' b'} : Le a a' → Le b b' → Le (.pr a b) (.pr a' b')
def GE.sub : GE → ByteArray → GE → GE
 | .var y, x, v => if y = x then v else .var y
 | .num n, _, _ => .num n
 | .tru b, _, _ => .tru b
 | .lam y A e, x, v => if y = x then .lam y A e else .lam y A (e.sub x v)
 | .app f a, x, v => .app (f.sub x v) (a.sub x v)
 | .ar s a b, x, v => .ar s (a.sub x v) (b.sub x v)
 | .ite c a b, x, v => .ite (c.sub x v) (a.sub x v) (b.sub x v)
 | .pair a b, x, v => .pair (a.sub x v) (b.sub x v)
 | .part s e, x, v => .part s (e.sub x v)
 | .cast A B l e, x, v => .cast A B l (e.sub x v)
inductive GV : GE → Prop
 | num {n} : GV (.num n)
 | tru {b} : GV (.tru b)
 | lam {x A e} : GV (.lam x A e)
 | pair {a b} : GV a → GV b → GV (.pair a b)
 | pf {a b c d l e} : GV e → GV (.cast (.fn a b) (.fn c d) l e)
 | pp {a b c d l e} : GV e → GV (.cast (.pr a b) (.pr c d) l e)
 | inj {A l e} : GV e → A.Gd → GV (.cast A .any l e)
def A9T (s : Bool) (m n : Int) : GE := if s = true then .tru (decide (m < n)) else .num ((m + n) % 1000)
inductive GS : GE → GE → Prop
 | app1 {f f' a} : GS f f' → GS (.app f a) (.app f' a)
 | app2 {f a a'} : GV f → GS a a' → GS (.app f a) (.app f a')
 | ar1 {s a a' b} : GS a a' → GS (.ar s a b) (.ar s a' b)
 | ar2 {s a b b'} : GV a → GS b b' → GS (.ar s a b) (.ar s a b')
 | ite1 {c c' a b} : GS c c' → GS (.ite c a b) (.ite c' a b)
 | pair1 {a a' b} : GS a a' → GS (.pair a b) (.pair a' b)
 | pair2 {a b b'} : GV a → GS b b' → GS (.pair a b) (.pair a b')
 | part1 {s e e'} : GS e e' → GS (.part s e) (.part s e')
 | cast1 {A B l e e'} : GS e e' → GS (.cast A B l e) (.cast A B l e')
 | beta {x A b v} : GV v → GS (.app (.lam x A b) v) (b.sub x v)
 | appx {a b c d l f v} : GV f → GV v → GS (.app (.cast (.fn a b) (.fn c d) l f) v) (.cast b d l (.app f (.cast c a (-l) v)))
 | ar {s m n} : GS (.ar s (.num m) (.num n)) (A9T s m n)
 | ite {b x y} : GS (.ite (.tru b) x y) (if b = true then x else y)
 | part {s a b} : GV a → GV b → GS (.part s (.pair a b)) (if s = true then b else a)
 | partx {s a b c d l e} : GV e → GS (.part s (.cast (.pr a b) (.pr c d) l e)) (.cast (if s = true then b else a) (if s = true then d else c) l (.part s e))
 | cid {A l v} : GV v → (A = .any ∨ A = .int ∨ A = .bool) → GS (.cast A A l v) v
 | up {A l v} : GV v → A ≠ .any → A.gr ≠ A → GS (.cast A .any l v) (.cast A.gr .any l (.cast A A.gr l v))
 | down {B l v} : GV v → B ≠ .any → B.gr ≠ B → GS (.cast .any B l v) (.cast B.gr B l (.cast .any B.gr l v))
 | hit {G l m w} : GV w → G.Gd → GS (.cast .any G l (.cast G .any m w)) w
inductive Ss : GE → GE → Prop
 | refl {e} : Ss e e
 | step {a b c} : GS a b → Ss b c → Ss a c
abbrev GC := ByteArray → Option (GT × GT)
def emp : GC := fun _ => none
def gup (Γ : GC) (x : ByteArray) (A A' : GT) : GC := fun y => if x = y then some (A, A') else Γ y
inductive GP : GC → GE → GE → GT → GT → Prop
 | var {Γ x A A'} : Γ x = some (A, A') → Le A A' → GP Γ (.var x) (.var x) A A'
 | num {Γ n} : GP Γ (.num n) (.num n) .int .int
 | tru {Γ b} : GP Γ (.tru b) (.tru b) .bool .bool
 | lam {Γ x A A' B B' e e'} : Le A A' → GP (gup Γ x A A') e e' B B' → GP Γ (.lam x A e) (.lam x A' e') (.fn A B) (.fn A' B')
 | app {Γ f f' a a' A A' B B'} : GP Γ f f' (.fn A B) (.fn A' B') → GP Γ a a' A A' → GP Γ (.app f a) (.app f' a') B B'
 | ar {Γ s a a' b b'} : GP Γ a a' .int .int → GP Γ b b' .int .int → GP Γ (.ar s a b) (.ar s a' b') (if s = true then .bool else .int) (if s = true then .bool else .int)
 | ite {Γ c c' a a' b b' A A'} : GP Γ c c' .bool .bool → GP Γ a a' A A' → GP Γ b b' A A' → GP Γ (.ite c a b) (.ite c' a' b') A A'
 | pair {Γ a a' b b' A A' B B'} : GP Γ a a' A A' → GP Γ b b' B B' → GP Γ (.pair a b) (.pair a' b') (.pr A B) (.pr A' B')
 | part {Γ s e e' A A' B B'} : GP Γ e e' (.pr A B) (.pr A' B') → GP Γ (.part s e) (.part s e') (if s = true then B else A) (if s = true then B' else A')
 | castL {Γ e e' A B A' l} : GP Γ e e' A A' → Co A B → Le B A' → GP Γ (.cast A B l e) e' B A'
 | castR {Γ e e' A A' B' l} : GP Γ e e' A A' → Co A' B' → Le A B' → GP Γ e (.cast A' B' l e') A B'
 | castB {Γ e e' A B A' B' l l'} : GP Γ e e' A A' → Co A B → Co A' B' → Le B B' → GP Γ (.cast A B l e) (.cast A' B' l' e') B B'
inductive GX where
 | n (n : Int) | b (b : Bool) | p | f
def GE.tx : GE → GX
 | .num n => .n n
 | .tru b => .b b
 | .pair _ _ => .p
 | .cast _ (.fn _ _) _ _ => .f
 | .cast _ (.pr _ _) _ _ => .p
 | .cast _ _ _ e => e.tx
 | _ => .f
theorem A9U {full cs : List Value} {o : Nat} (h : ∀ j v, cs[j]? = some v → full[o + j]? = some v) (hc : cs ≠ []) : full = full.take o ++ (cs ++ full.drop (o + cs.length)) ∧ (full.take o).length = o := by
 have hpos : 0 < cs.length := List.length_pos_iff.2 hc
 have hl : o + cs.length ≤ full.length := by
  have := h (cs.length - 1) cs[cs.length - 1] (List.getElem?_eq_getElem (by omega))
  have := (List.getElem?_eq_some_iff.1 this).1; omega
 have ho : (full.take o).length = o := by simp; omega
 refine ⟨?_, ho⟩
 apply List.ext_getElem?
 intro i
 rw [List.getElem?_append, ho]
 split
 ·rename_i hi; rw [List.getElem?_take, if_pos hi]
 ·rename_i hi
  rw [List.getElem?_append]
  split
  ·rename_i h2
   have := h (i - o) cs[i - o] (List.getElem?_eq_getElem h2)
   rw [show o + (i - o) = i by omega] at this
   rw [this, List.getElem?_eq_getElem h2]
  ·rename_i h2
   rw [List.getElem?_drop, show o + cs.length + (i - o - cs.length) = i by omega]
theorem Sl.blk {G : IM} {p : Option Addr} {n c sz : Nat} {cs : List Value} (h : Sl G p n c sz cs) (hc : cs ≠ []) : ∃ b A C, p = some ⟨b, A.length, none⟩ ∧ G b = some (A ++ (cs ++ C)) := by
 obtain ⟨h1, h2, h3, h4⟩ := h
 have hn : n ≠ 0 := by
  rintro rfl
  simp at h1; exact hc h1
 obtain ⟨b, o, full, rfl, hg, hv⟩ := h4.resolve_left hn
 obtain ⟨e1, e2⟩ := A9U hv hc
 exact ⟨b, full.take o, full.drop (o + cs.length), by rw [e2], by rw [← e1]; exact hg⟩
theorem Sl.of_blk {G : IM} {b n c sz : Nat} {A C cs : List Value} (hl : cs.length = n * sz) (hc : n ≤ c) (hm : c ≤ maxLen) (hg : G b = some (A ++ (cs ++ C))) : Sl G (some ⟨b, A.length, none⟩) n c sz cs := by
 refine ⟨hl, hc, hm, .inr ⟨b, A.length, _, rfl, hg, fun j v hj => ?_⟩⟩
 have hlt : j < cs.length := (List.getElem?_eq_some_iff.1 hj).1
 rw [List.getElem?_append, if_neg (by omega), List.getElem?_append, if_pos (by omega), show A.length + j - A.length = j by omega]
 exact hj
def V2 (G : IM) (bs : H1) (F : List Nat) : Prop := (bs.map Prod.fst).Sublist F ∧ ∀ q ∈ bs, G q.1 = some q.2
theorem V2.nil (G : IM) (F : List Nat) : V2 G [] F := ⟨by simp, by simp⟩
theorem V2.app {G : IM} {a b : H1} {F F' : List Nat} (h : V2 G a F) (h' : V2 G b F') : V2 G (a ++ b) (F ++ F') := by
 refine ⟨by rw [List.map_append]; exact h.1.append h'.1, fun q hq => ?_⟩
 rcases List.mem_append.1 hq with hq | hq
 ·exact h.2 q hq
 ·exact h'.2 q hq
mutual
theorem K6.blks {G : IM} : ∀ {t : Ty} {cells : List Value} {F : List Nat}, K6 G t cells F → ∃ bs, R7 t cells bs ∧ V2 G bs F
 | .mk k ks, cells, F, h => by
  simp only [K6] at h
  obtain ⟨p, c, es, Fs, h1, hk, h2, h3, rfl, h5⟩ := h
  obtain ⟨r, hr1, hr2⟩ := I8.blks h3
  simp only [R7]
  have hc := h2.sl.2.1
  have hm := h2.sl.2.2.1
  cases ks with
  | nil => exact ⟨[], ⟨p, c, h1, hk, hc, hm, .inl ⟨rfl, rfl⟩⟩, V2.nil _ _⟩
  | cons t ts =>
   have hne : es.flatten ≠ [] := by
    intro h0
    have hl := h2.sl.1
    rw [h0] at hl; simp at hl
   obtain ⟨b, A, C, rfl, hg⟩ := h2.sl.blk hne
   refine ⟨(b, A ++ (es.flatten ++ C)) :: r, ⟨_, c, h1, hk, hc, hm, .inr ⟨b, A, C, es, r, rfl, rfl, hr1⟩⟩, ?_, ?_⟩
   ·simpa [E5] using hr2.1
   ·intro q hq
    rcases List.mem_cons.1 hq with rfl | hq
    ·exact hg
    ·exact hr2.2 q hq
theorem I8.blks {G : IM} : ∀ {ts : List Ty} {es : List (List Value)} {F : List Nat}, I8 G ts es F → ∃ bs, J2 ts es bs ∧ V2 G bs F
 | [], es, F, h => by
  simp only [I8] at h
  exact ⟨[], by simp only [J2]; exact ⟨h.1, trivial⟩, V2.nil _ _⟩
 | t :: ts, es, F, h => by
  simp only [I8] at h
  obtain ⟨a, r, Fa, Fr, rfl, h2, h3, rfl⟩ := h
  obtain ⟨b1, o1, i1⟩ := K6.blks h2
  obtain ⟨b2, o2, i2⟩ := I8.blks h3
  exact ⟨b1 ++ b2, by simp only [J2]; exact ⟨a, r, b1, b2, rfl, rfl, o1, o2⟩, i1.app i2⟩
end
mutual
theorem L9.blks {G : IM} : ∀ {t : Tm} {cells : List Value} {F : List Nat}, L9 G t cells F → ∃ bs, O8 t cells bs ∧ V2 G bs F
 | .mk k nm num ty fr lb ks, cells, F, h => by
  simp only [L9] at h
  obtain ⟨tc, fc, p, c, es, Ft, Ff, Fs, h1, hk, hn, hl, h5, h6, h2, h3, rfl, h10⟩ := h
  obtain ⟨bt, ot, it⟩ := h5.blks
  obtain ⟨bf, of', if'⟩ := h6.blks
  obtain ⟨r, hr1, hr2⟩ := J9.blks h3
  simp only [O8]
  have hc := h2.sl.2.1
  have hm := h2.sl.2.2.1
  cases ks with
  | nil => exact ⟨bt ++ (bf ++ []), ⟨tc, fc, p, c, bt, bf, [], h1, hk, hn, hl, ot, of', hc, hm, .inl ⟨rfl, rfl⟩, rfl⟩, it.app (if'.app (V2.nil _ _))⟩
  | cons t ts =>
   have hne : es.flatten ≠ [] := by
    intro h0
    have hl := h2.sl.1
    rw [h0] at hl; simp at hl
   obtain ⟨b, A, C, rfl, hg⟩ := h2.sl.blk hne
   refine ⟨bt ++ (bf ++ ((b, A ++ (es.flatten ++ C)) :: r)), ⟨tc, fc, _, c, bt, bf, _, h1, hk, hn, hl, ot, of', hc, hm, .inr ⟨b, A, C, es, r, rfl, rfl, hr1⟩, rfl⟩, it.app (if'.app ⟨?_, ?_⟩)⟩
   ·simpa [E5] using hr2.1
   ·intro q hq
    rcases List.mem_cons.1 hq with rfl | hq
    ·exact hg
    ·exact hr2.2 q hq
theorem J9.blks {G : IM} : ∀ {ts : List Tm} {es : List (List Value)} {F : List Nat}, J9 G ts es F → ∃ bs, J3 ts es bs ∧ V2 G bs F
 | [], es, F, h => by
  simp only [J9] at h
  exact ⟨[], by simp only [J3]; exact ⟨h.1, trivial⟩, V2.nil _ _⟩
 | t :: ts, es, F, h => by
  simp only [J9] at h
  obtain ⟨a, r, Fa, Fr, rfl, h2, h3, rfl⟩ := h
  obtain ⟨b1, o1, i1⟩ := L9.blks h2
  obtain ⟨b2, o2, i2⟩ := J9.blks h3
  exact ⟨b1 ++ b2, by simp only [J3]; exact ⟨a, r, b1, b2, rfl, rfl, o1, o2⟩, i1.app i2⟩
end
mutual
theorem R7.r {G : IM} : ∀ {t : Ty} {cells : List Value} {bs : H1}, R7 t cells bs → (∀ q ∈ bs, G q.1 = some q.2) → C5 G t cells
 | .mk k ks, cells, bs, h, hg => by
  simp only [R7] at h
  obtain ⟨p, c, h1, hk, hc, hm, h⟩ := h
  simp only [C5]
  rcases h with ⟨rfl, rfl⟩ | ⟨b, A, C, es, r, rfl, rfl, hL⟩
  ·exact ⟨p, c, [], h1, hk, B7.of ⟨rfl, hc, hm, .inl rfl⟩ rfl (by simp) (by simp), by simp [H5]⟩
  ·have hR := J2.r hL fun q hq => hg q (List.mem_cons_of_mem _ hq)
   refine ⟨_, c, es, h1, hk, B7.of (Sl.of_blk (by rw [A2k hR.all, hR.len]) hc hm (hg _ List.mem_cons_self)) hR.len hR.all (fun e he => ?_), hR⟩
   obtain ⟨i, hi⟩ := List.getElem?_of_mem he
   exact (hR.inv hi A3).2.one
theorem J2.r {G : IM} : ∀ {ts : List Ty} {es : List (List Value)} {bs : H1}, J2 ts es bs → (∀ q ∈ bs, G q.1 = some q.2) → H5 G ts es
 | [], es, bs, h, _ => by simp only [J2] at h; simp only [H5]; exact h.1
 | t :: ts, es, bs, h, hg => by
  simp only [J2] at h
  obtain ⟨e, e', r1, r2, rfl, rfl, h1, h2⟩ := h
  simp only [H5]
  exact ⟨e, e', rfl, R7.r h1 fun q hq => hg q (List.mem_append_left _ hq), J2.r h2 fun q hq => hg q (List.mem_append_right _ hq)⟩
end
mutual
theorem O8.r {G : IM} : ∀ {t : Tm} {cells : List Value} {bs : H1}, O8 t cells bs → (∀ q ∈ bs, G q.1 = some q.2) → C7 G t cells
 | .mk k nm num ty fr lb ks, cells, bs, h, hg => by
  simp only [O8] at h
  obtain ⟨tc, fc, p, c, bt, bf, bk, h1, hk, hn, hl, h5, h6, hc, hm, h, rfl⟩ := h
  simp only [C7]
  have ht := h5.r fun q hq => hg q (List.mem_append_left _ hq)
  have hf := h6.r fun q hq => hg q (List.mem_append_right _ (List.mem_append_left _ hq))
  rcases h with ⟨rfl, rfl⟩ | ⟨b, A, C, es, r, rfl, rfl, hL⟩
  ·exact ⟨tc, fc, p, c, [], h1, hk, hn, hl, ht, hf, B7.of ⟨rfl, hc, hm, .inl rfl⟩ rfl (by simp) (by simp), by simp [E7]⟩
  ·have hg' : ∀ q ∈ (b, A ++ (es.flatten ++ C)) :: r, G q.1 = some q.2 := fun q hq => hg q (List.mem_append_right _ (List.mem_append_right _ hq))
   have hR := J3.r hL fun q hq => hg' q (List.mem_cons_of_mem _ hq)
   refine ⟨tc, fc, _, c, es, h1, hk, hn, hl, ht, hf, B7.of (Sl.of_blk (by rw [A2k hR.all, hR.len]) hc hm (hg' _ List.mem_cons_self)) hR.len hR.all (fun e he => ?_), hR⟩
   obtain ⟨i, hi⟩ := List.getElem?_of_mem he
   exact (hR.inv hi (.mk 0 ⟨#[]⟩ 0 A3 A3 0 [])).2.one
theorem J3.r {G : IM} : ∀ {ts : List Tm} {es : List (List Value)} {bs : H1}, J3 ts es bs → (∀ q ∈ bs, G q.1 = some q.2) → E7 G ts es
 | [], es, bs, h, _ => by simp only [J3] at h; simp only [E7]; exact h.1
 | t :: ts, es, bs, h, hg => by
  simp only [J3] at h
  obtain ⟨e, e', r1, r2, rfl, rfl, h1, h2⟩ := h
  simp only [E7]
  exact ⟨e, e', rfl, O8.r h1 fun q hq => hg q (List.mem_append_left _ hq), J3.r h2 fun q hq => hg q (List.mem_append_right _ hq)⟩
end
theorem Q0.r {G : IM} {ks : List Ty} {p : Option Addr} {c : Nat} {bs : H1} (h : Q0 ks p c bs) (hg : ∀ q ∈ bs, G q.1 = some q.2) : ∃ es, B7 G p ks.length c 2 es ∧ H5 G ks es := by
 have := (h.ty (k := 0) ⟨by omega, by omega⟩).r hg
 simp only [C5] at this
 obtain ⟨p', c', es, he, _, h1, h2⟩ := this
 simp only [List.cons.injEq, Value.slice.injEq, true_and, and_true] at he
 obtain ⟨rfl, rfl⟩ := he
 exact ⟨es, h1, h2⟩
theorem A0b.r {G : IM} {ks : List Tm} {p : Option Addr} {c : Nat} {bs : H1} (h : A0b ks p c bs) (hg : ∀ q ∈ bs, G q.1 = some q.2) : ∃ es, B7 G p ks.length c 9 es ∧ E7 G ks es := by
 have hz : Q0 [] none 0 [] := ⟨by simp, by simp, .inl ⟨rfl, rfl⟩⟩
 have hi : F1 0 := ⟨by omega, by omega⟩
 have := (O8.mk (nm := ⟨#[]⟩) hi hi hi hi hi hz hz h).r (G := G) (by simpa using hg)
 obtain ⟨_, _, _, _, p', c', es, he, _, _, _, _, _, h1, h2⟩ := this.open9
 simp only [List.cons.injEq, Value.slice.injEq, true_and, and_true] at he
 obtain ⟨_, _, rfl, rfl⟩ := he
 exact ⟨es, h1, h2⟩

mutual
theorem A9V : ∀ t : Ty, A0r t = 1 + Q1 t
 | .mk _ ks => by
  have := A2W ks
  rw [A0r, Q1]; omega
theorem A2W : ∀ ts : List Ty, B0 ts = ts.length + Y1 ts
 | [] => by rw [B0, Y1]; simp
 | t :: ts => by
  have := A9V t
  have := A2W ts
  rw [B0, Y1, List.length_cons]; omega
end
theorem A57 (t : Ty) : Q1 t = t.ks.length + Y1 t.ks := by cases t; rw [Q1]; rfl
mutual
theorem A58 : ∀ t : Tm, A0s t ≤ 6 + 6 * A01 t
 | .mk _ nm _ ty fr _ ks => by
  have := A59 ks
  have := A2W ty.ks
  have := A2W fr.ks
  have := A57 ty
  have := A57 fr
  have := A3W ty
  have := A3W fr
  rw [A0s, A01]; omega
theorem A59 : ∀ ts : List Tm, J4 ts ≤ 6 * (ts.length + A02 ts)
 | [] => by rw [J4, A02]; simp
 | t :: ts => by
  have := A58 t
  have := A59 ts
  rw [J4, A02, List.length_cons]; omega
end
theorem A9W (t : Tm) : B0 t.ty.ks + B0 t.fr.ks + J4 t.ks ≤ 6 * A01 t := by
 have h := A58 t
 rw [A3T] at h; omega
def T6 : Ty := .mk 1 []
def tAh : Nat → Ty → Prop
 | 0, .mk k ks => ks = [] ∧ k ≠ 4 ∧ k ≠ 5
 | n + 1, .mk k ks => (k = 4 ∨ k = 5 → ks.length = 2) ∧ (k ≠ 4 → k ≠ 5 → ks.length = 0) ∧ ∀ t ∈ ks, tAh n t
mutual
def Q5 : Ty → Prop
 | .mk k ks => (k = 4 ∨ k = 5 → ks.length = 2) ∧ (k ≠ 4 → k ≠ 5 → ks.length = 0) ∧ A1M ks
def A1M : List Ty → Prop
 | [] => True
 | t :: ts => Q5 t ∧ A1M ts
end
theorem A33 : ∀ {ts : List Ty}, A1M ts ↔ ∀ t ∈ ts, Q5 t
 | [] => by simp [A1M]
 | t :: ts => by simp only [A1M, A33 (ts := ts), List.forall_mem_cons]
theorem tAh.ar : ∀ {n : Nat} {t : Ty}, tAh n t → Q5 t
 | 0, .mk k ks, h => by
  obtain ⟨rfl, h1, h2⟩ := h
  rw [Q5]
  exact ⟨fun h => by omega, fun _ _ => rfl, by rw [A1M]; trivial⟩
 | n + 1, .mk k ks, h => by
  obtain ⟨h1, h2, h3⟩ := h
  rw [Q5]
  exact ⟨h1, h2, A33.2 fun t ht => (h3 t ht).ar⟩
theorem A34 : ∀ {n : Nat} {t : Ty}, tAh n t → Q1 t ≤ ((2 ^ (n + 1) - 2 : Nat) : Int)
 | 0, .mk k ks, h => by
  obtain ⟨rfl, h1, h2⟩ := h
  rw [Q1, Y1]; simp
 | n + 1, .mk k ks, h => by
  obtain ⟨h1, h2, h3⟩ := h
  have hp : 2 ≤ 2 ^ (n + 1) := by
   have := Nat.pow_le_pow_right (n := 2) (by omega) (show 1 ≤ n + 1 by omega)
   simpa using this
  have e : 2 ^ (n + 1 + 1) = 2 ^ (n + 1) * 2 := Nat.pow_succ ..
  have hl : ks.length = 0 ∨ ks.length = 2 := by omega
  rw [Q1]
  match ks, hl, h3 with
  | [], _, _ => rw [Y1]; simp
  | [a, b], _, h3 =>
   have := A34 (h3 a (by simp))
   have := A34 (h3 b (by simp))
   simp only [Y1, List.length_cons, List.length_nil]; omega
def A1N : Ty := .mk 2 []
def A2X : Ty := .mk 3 []
mutual
def W3 : Ty → Ty → Bool
 | .mk k ks, t => decide (k = t.k) && A6a ks t.ks
def A6a : List Ty → List Ty → Bool
 | [], [] => true
 | a :: xs, b :: ys => W3 a b && A6a xs ys
 | _, _ => false
end
abbrev Cx := List (ByteArray × Ty)
def A35 (cx : Cx) (nm : ByteArray) : Nat → Option Ty
 | 0 => none
 | n + 1 => match cx[n]? with
  | some b => if b.1 = nm then some b.2 else A35 cx nm n
  | none => A35 cx nm n
def A2Y (cx : Cx) (nm : ByteArray) : Option Ty := A35 cx nm cx.length
mutual
def A2Z : Ty → Ty → Ty
 | .mk k ks, b => if k = 1 then b else if b.k = 1 then .mk k ks else .mk k (A6b ks b.ks)
def A6b : List Ty → List Ty → List Ty
 | a :: xs, b :: ys => A2Z a b :: A6b xs ys
 | _, _ => []
end
def A2q (kind : Int) (t : Ty) : Option (Ty × Ty) :=
 if t.k = kind then some (t.ks.getD 0 A3, t.ks.getD 1 A3) else if t.k = 1 then some (T6, T6) else none
def A2r (cx : Cx) (k : Int) (nm : ByteArray) (ty : Ty) (h : List Ty) : Option (List Ty × Ty) :=
 if k = 1 then (match A2Y cx nm with | some t => some ([], t) | none => none)
 else if k = 2 then some ([], A1N)
 else if k = 3 ∨ k = 4 then some ([], A2X)
 else if k = 5 then some ([], .mk 4 [ty, h.getD 0 A3])
 else if k = 6 then (match A2q 4 (h.getD 0 A3) with | some (a, b) => if P7 (h.getD 1 A3) a = true then some ([.mk 4 [a, b], a], b) else none | none => none)
 else if k = 7 ∨ k = 8 then (if P7 (h.getD 0 A3) A1N = true ∧ P7 (h.getD 1 A3) A1N = true then some ([A1N, A1N], if k = 8 then A2X else A1N) else none)
 else if k = 9 then (if P7 (h.getD 0 A3) A2X = true ∧ P7 (h.getD 1 A3) (h.getD 2 A3) = true then some ([A2X, A2Z (h.getD 1 A3) (h.getD 2 A3), A2Z (h.getD 1 A3) (h.getD 2 A3)], A2Z (h.getD 1 A3) (h.getD 2 A3)) else none)
 else if k = 10 then some ([], .mk 5 [h.getD 0 A3, h.getD 1 A3])
 else if k = 13 then (if P7 (h.getD 0 A3) ty = true then some ([ty], ty) else none)
 else (match A2q 5 (h.getD 0 A3) with | some (a, b) => some ([.mk 5 [a, b]], if k = 12 then b else a) | none => none)
def A6c (cx : Cx) (k : Int) (nm : ByteArray) (ty : Ty) (h : List Ty) : Option (List Ty × Ty) := match A2r cx k nm ty h with
 | some (w, t) => if O7 t = true then some (w, t) else none
 | none => none
def A6d : List Ty → List Ty → Bool
 | [], _ => true
 | a :: xs, b :: ys => W3 a b && A6d xs ys
 | _ :: _, [] => false
def A36 (cx : Cx) (k : Int) (nm : ByteArray) (ty : Ty) : Cx := if k = 5 then cx ++ [(nm, ty)] else cx
mutual
def A20 (cx : Cx) : Tm → Option Ty
 | .mk k nm num ty fr lb ks => match A6e (A36 cx k nm ty) ks with
  | none => none
  | some h => if k = 14 then (if W3 (h.getD 0 A3) fr = true then some ty else none)
   else match A6c cx k nm ty h with
    | none => none
    | some (w, t) => if A6d w h = true then some t else none
def A6e (cx : Cx) : List Tm → Option (List Ty)
 | [] => some []
 | t :: ts => match A20 cx t with
  | none => none
  | some u => match A6e cx ts with
   | none => none
   | some us => some (u :: us)
end
def A9X (e : Tm) : Option Ty := if N7 e = true then A20 [] e else none
def A9Y (t : Ty) (G : IM) : IM → Value → List A1 → Prop := J1 fun G' v => ∃ cells' F, v = .agg ⟨cells'⟩ ∧ K6 (B2 G' G) t cells' F ∧ F.Nodup
def B2z (ks : List Ty) (G : IM) : IM → Value → List A1 → Prop := J1 fun G' v => ∃ p c F, v = .slice p ks.length c ∧ A81 (B2 G' G) ks p c F ∧ F.Nodup
def B2A (t : Tm) (G : IM) : IM → Value → List A1 → Prop := J1 fun G' v => ∃ cells' F, v = .agg ⟨cells'⟩ ∧ L9 (B2 G' G) t cells' F ∧ F.Nodup
def B2B (ks : List Tm) (G : IM) : IM → Value → List A1 → Prop := J1 fun G' v => ∃ p c F, v = .slice p ks.length c ∧ A82 (B2 G' G) ks p c F ∧ F.Nodup
mutual
def A37 (g : Tm → Tm) : Tm → Tm
 | .mk k nm num ty fr lb ks => g (.mk k nm num ty fr lb (A38 g ks))
def A38 (g : Tm → Tm) : List Tm → List Tm
 | [] => []
 | t :: ts => A37 g t :: A38 g ts
end
mutual
def mOk (Q : Tm → Prop) (g : Tm → Tm) : Tm → Prop
 | .mk k nm num ty fr lb ks => A6f Q g ks ∧ Q (.mk k nm num ty fr lb (A38 g ks))
def A6f (Q : Tm → Prop) (g : Tm → Tm) : List Tm → Prop
 | [] => True
 | t :: ts => mOk Q g t ∧ A6f Q g ts
end
def B2C (g : Tm → Tm) (Q : Tm → Prop) (fid : FuncId) (us cs : List Value) : Prop := ∀ (t : Tm) (G0 G1 : IM) (cells : List Value) (F : List Nat), Q t → B4 G0 G1 → L9 (B2 G1 G0) t cells F → F.Nodup →
 Fn Tryz.prog fid (us ++ [.agg ⟨cells⟩] ++ cs) [] G1 (J1 fun G2 v => ∃ cells' F', v = .agg ⟨cells'⟩ ∧ L9 (B2 G2 G0) (g t) cells' F' ∧ F'.Nodup)
section
variable {P : Program} {Γ : E6} {env : F9} {hp : List A1} {G : IM} {ty : TypeId}
variable {K : Po} {ops : Array Oper} {rest : List Oper} {pos : String} {af : Array Edge} {gd : Option (Nat × Bool)}
theorem A9Z {H H' : List (Nat × Nat)} {fuel : Nat} {listed l' : List Bool} {j d : Nat} {f : FuncId} [hF : A8 P f] {xs : List Operand} {ats : Array TypeId} {vs : List Value} {e : A1} {rst : List A1} {post : IM → Value → List A1 → Prop}
  (hi : ops[j]? = some ⟨some d, .call ⟨.value (.func f), ⟨xs⟩, ats⟩, ty, pos, af, gd⟩) (hx : evl env xs = some vs) (h : Fn P f vs [e] G post) (hp' : hp.Perm ([e] ++ rst)) (hw : J0 ops env gd = some true) (hd : Nat.blt d Γ.n = true) (hl : listed.set j true = l')
  (hok : E4 ops j hp G e H H')
  (k : ∀ v G' outs, B4 G G' → post G' v outs → L6 P Γ ops K H' fuel l' ⟨(d, v) :: env, outs ++ rst, G'⟩) : U5 P Γ ops K H fuel listed j ⟨env, hp, G⟩ :=
 A2j hi (A1D hx h hp' hd) hw hl (fun _ _ hs => by simpa [Fp] using hok.spec hs) hok.filter (by rintro _ ⟨v, G', outs, rfl, hle, hq⟩; exact k v G' outs hle hq)
end
theorem A90 {G G' : IM} (h : B4 G G') {b : Nat} (hb : G' b = none) : G b = none := by
 cases hg : G b with
 | none => rfl
 | some l => rw [h b l hg] at hb; cases hb
theorem A6g {G0 Ga Gb Gc : IM} {bs : H1} {F : List Nat} (hi : V2 (B2 Gb Ga) bs F) (hn : F.Nodup) (h0 : B4 G0 Ga) (hc : B4 (B2 Gb Ga) Gc) :
  (bs.map Prod.fst).Nodup ∧ (∀ q ∈ bs, Gc q.1 = some q.2 ∧ G0 q.1 = none) ∧ (∀ b ∈ bs.map Prod.fst, Ga b = none ∧ Gb b ≠ none) := by
 have key : ∀ q ∈ bs, Ga q.1 = none ∧ Gb q.1 = some q.2 := fun q hq => ⟨B2.out (by rw [hi.2 q hq]; simp), B2.le _ _ _ _ (hi.2 q hq)⟩
 refine ⟨hn.sublist hi.1, fun q hq => ⟨hc _ _ (hi.2 q hq), A90 h0 (key q hq).1⟩, fun b hb => ?_⟩
 obtain ⟨q, hq, rfl⟩ := List.mem_map.1 hb
 exact ⟨(key q hq).1, by rw [(key q hq).2]; simp⟩
section forget
variable {P : Program} {Γ : E6} {env : F9} {hp : List A1} {G : IM} {K : Po} {ops : Array Oper} {rest : List Oper} {ty : TypeId} {pos : String} {af : Array Edge} {gd : Option (Nat × Bool)}
theorem A6h {d : Nat} {f : FuncId} [hF : A8 P f] {xs : List Operand} {ats : Array TypeId} {vs : List Value} {v0 : Value} {Φ : H1 → Prop} {bs : H1} (hn : (bs.map Prod.fst).Nodup) (hg : ∀ q ∈ bs, G q.1 = some q.2 ∧ Γ.G0 q.1 = none)
  (hx : evl env xs = some vs) (h : Fn P f vs (blks bs) (Wo G (bs.map Prod.fst)) (A1K v0 (Wo G (bs.map Prod.fst)) Φ)) (hw : J0 ops env gd = some true) (hd : Nat.blt d Γ.n = true)
  (k : ∀ bs' G', Φ bs' → B4 (Wo G (bs.map Prod.fst)) G' → (∀ q ∈ bs', G' q.1 = some q.2) → C4 P Γ ops rest K ⟨(d, v0) :: env, hp, G'⟩) : C4 P Γ ops (⟨some d, .call ⟨.value (.func f), ⟨xs⟩, ats⟩, ty, pos, af, gd⟩ :: rest) K ⟨env, hp, G⟩ := by
 refine A8P bs hn hg ?_
 refine F3 (A1D hx h (List.Perm.refl _) hd) hw ?_
 rintro _ ⟨v, G', outs, rfl, _, rfl, rfl, bs', rfl, hΦ⟩
 exact A8Q (List.Perm.refl _) fun h1 h2 h3 => k bs' _ hΦ h3 fun q hq => Wi.in h1 hq
end forget
def tAt : Tm → List Int → Option Tm
 | t, [] => some t
 | .mk _ _ _ _ _ _ ks, i :: is => if h : 0 ≤ i ∧ i < ks.length then tAt (ks[i.toNat]'(by omega)) is else none
def z9 : List Value := [.int .i64 0, .string ⟨⟨[]⟩⟩, .int .i64 0, .int .i64 0, .slice none 0 0, .int .i64 0, .slice none 0 0, .int .i64 0, .slice none 0 0]
def AtP (t : Tm) (path : List Int) (G : IM) : IM → Value → List A1 → Prop := fun G' v outs => G' = G ∧ outs = [] ∧
 ((∃ x cells, tAt t path = some x ∧ C7 G x cells ∧ v = .tuple ⟨[.agg ⟨cells⟩, .bool true]⟩) ∨ (tAt t path = none ∧ v = .tuple ⟨[.agg ⟨z9⟩, .bool false]⟩))
def L4 : Tm := .mk 0 ⟨⟨[]⟩⟩ 0 (.mk 0 []) (.mk 0 []) 0 []
theorem L9.zero (G : IM) : L9 G L4 z9 [] := by
 simp only [L4, L9, K6, I8, J9, z9]
 refine ⟨[.int .i64 0, .slice none 0 0], [.int .i64 0, .slice none 0 0], none, 0, [], [], [], [], rfl, ⟨by omega, by omega⟩, ⟨by omega, by omega⟩, ⟨by omega, by omega⟩, ?_, ?_, B7.nil _ _, ⟨rfl, rfl⟩, rfl, by simp [E5]⟩
 ·exact ⟨none, 0, [], [], rfl, ⟨by omega, by omega⟩, B7.nil _ _, ⟨rfl, rfl⟩, rfl, by simp [E5]⟩
 ·exact ⟨none, 0, [], [], rfl, ⟨by omega, by omega⟩, B7.nil _ _, ⟨rfl, rfl⟩, rfl, by simp [E5]⟩
def B2D (t : Tm) (path : List Int) : Tm × Bool := if N7 t = true then (match tAt t path with | some x => (x, true) | none => (L4, false)) else (L4, false)
def TbP (r : Tm × Bool) (G : IM) : IM → Value → List A1 → Prop := J1 fun G' v => ∃ cells F, v = .tuple ⟨[.agg ⟨cells⟩, .bool r.2]⟩ ∧ L9 (B2 G' G) r.1 cells F ∧ F.Nodup
section rlaws
variable {P : Program} {Γ : E6} {env : F9} {hp : List A1} {G : IM} {ty : TypeId}
theorem A6i {x y : Operand} {t t' : TypeId} {m n : Nat} (hx : evo env x = some (.int .i64 (m : Int))) (hy : evo env y = some (.int .i64 (n : Int))) (h : m * n ≤ 9223372036854775807) :
  C9 P Γ ⟨env, hp, G⟩ (.binOp .mul t x y t') ty (.int .i64 ((m * n : Nat) : Int)) := by
 have e : ((m : Int) * (n : Int)) = ((m * n : Nat) : Int) := by simp
 have h2 := A3w (P := P) (Γ := Γ) (hp := hp) (G := G) (ty := ty) (t := t) (t' := t') hx hy (by rw [e]; omega) (by rw [e]; omega)
 rwa [e] at h2
theorem J5 {x y : Operand} {t t' : TypeId} {m n : Nat} (hx : evo env x = some (.int .i64 (m : Int))) (hy : evo env y = some (.int .i64 (n : Int))) (h : m + n ≤ 9223372036854775807) :
  C9 P Γ ⟨env, hp, G⟩ (.binOp .add t x y t') ty (.int .i64 ((m + n : Nat) : Int)) := by
 have e : ((m : Int) + (n : Int)) = ((m + n : Nat) : Int) := by simp
 have h2 := K2 (P := P) (Γ := Γ) (hp := hp) (G := G) (ty := ty) (t := t) (t' := t') hx hy (by rw [e]; omega) (by rw [e]; omega)
 rwa [e] at h2
theorem A0N {x y : Operand} {t t' : TypeId} {m : Nat} (hx : evo env x = some (.int .i64 ((m + 1 : Nat) : Int))) (hy : evo env y = some (.int .i64 1)) (h : m ≤ 9223372036854775807) :
  C9 P Γ ⟨env, hp, G⟩ (.binOp .sub t x y t') ty (.int .i64 (m : Int)) := by
 have e : (((m + 1 : Nat) : Int) - 1) = (m : Int) := by omega
 have h2 := A0i (P := P) (Γ := Γ) (hp := hp) (G := G) (ty := ty) (t := t) (t' := t') hx hy (by rw [e]; omega) (by rw [e]; omega)
 rwa [e] at h2
theorem A6j {s d : TypeId} {is id : K1} [hS : E8 P s is] [hD : E8 P d id] (hd : id.desc = .int .i64) {k : IntKind} (hs : is.desc = .int k) {x : Operand} {n : Int} (hx : evo env x = some (.int k n)) (h0 : -9223372036854775808 ≤ n) (h1 : n ≤ 9223372036854775807) :
  C9 P Γ ⟨env, hp, G⟩ (.convert s d x) ty (.int .i64 n) := by
 refine ⟨fun a _ hst _ _ _ _ w => ?_⟩
 have hu := hD.und
 rw [hd] at hu
 have hus := hS.und
 rw [hs] at hus
 have hw : IntKind.i64.wrap n = n := A1C n rfl h0 h1
 simp [execOp, convert, run_underlying hus, run_underlying hu, (hst.evo hx : a.eval x = _), Conv.intToInt, hw]
end rlaws
def A6k (bs : List UInt8) : List Value := bs.map fun b => .int .u8 (b.toNat : Int)
def rd (br : Nat) (pb : Option Addr) (nb cb p : Nat) : A1 := .blk br [.slice pb nb cb, .int .i64 (p : Int)]
def A91 (br : Nat) (pb : Option Addr) (nb cb p B : Nat) (Φ : IM → Value → Prop) : IM → Value → List A1 → Prop := fun G' v outs => ∃ p', p ≤ p' ∧ p' ≤ p + B ∧ outs = [rd br pb nb cb p'] ∧ Φ G' v
structure B2E {ι : Type} (S : ι → Sy) (φ : ι → Prop) (e : Exit) (σ : Sy) : Prop where
 run : match e with
  | .normal => ∃ i, φ i ∧ Sub σ (S i)
  | _ => False
section cut
variable {P : Program} {Γ : E6} {K : Po} {σ : Sy} {ι : Type}
end cut
section take
variable {P : Program} {Γ : E6} {env : F9} {hp : List A1} {G : IM} {K : Po} {ops : Array Oper} {rest : List Oper} {ty : TypeId} {pos : String} {af : Array Edge} {gd : Option (Nat × Bool)}
theorem H7 {d : Nat} {f : FuncId} [hF : A8 P f] {xs : List Operand} {ats : Array TypeId} {vs : List Value} {ins rst : List A1} {post : IM → Value → List A1 → Prop}
  (hx : evl env xs = some vs) (h : Fn P f vs ins G post) (hp' : hp.Perm (ins ++ rst)) (hw : J0 ops env gd = some true) (hd : Nat.blt d Γ.n = true)
  (k : ∀ v G' outs, B4 G G' → post G' v outs → C4 P Γ ops rest K ⟨(d, v) :: env, outs ++ rst, G'⟩) : C4 P Γ ops (⟨some d, .call ⟨.value (.func f), ⟨xs⟩, ats⟩, ty, pos, af, gd⟩ :: rest) K ⟨env, hp, G⟩ :=
 F3 (A1D hx h hp' hd) hw (by rintro _ ⟨v, G', outs, rfl, hle, hq⟩; exact k v G' outs hle hq)
end take
def dB : Nat → Nat
 | 0 => 0
 | d + 1 => 2 * dB d + 2
theorem H5.ty {G : IM} {k : Int} {ts : List Ty} {es : List (List Value)} {p : Option Addr} {n c : Nat} (h : H5 G ts es) (hn : ts.length = n) (hs : Sl G p n c 2 es.flatten) (hk : F1 k) : C5 G (.mk k ts) [.int .i64 k, .slice p n c] := by
 subst hn
 simp only [C5]
 exact ⟨p, c, es, rfl, hk, B7.of hs h.len h.all (fun e he => (h.each e he).2), h⟩
mutual
def A1s : Tm → Tm
 | .mk k nm num ty fr lb ks => if k = 13 ∨ k = 14 then (A39 ks).headD L4 else .mk k nm num (if k = 5 then T6 else A3) A3 0 (A39 ks)
def A39 : List Tm → List Tm
 | [] => []
 | t :: ts => A1s t :: A39 ts
end
def B2F : Tm → Tm
 | .mk k nm num ty fr lb ks => if k = 13 ∨ k = 14 then ks.headD L4 else if k = 5 then .mk k nm num T6 fr lb ks else .mk k nm num ty fr lb ks
def B2G : Tm → Prop
 | .mk k _ _ _ _ _ ks => k = 13 ∨ k = 14 → ks ≠ []
theorem A04 {D N : Int} {k : Int} {nm : ByteArray} {num : Int} {ty fr : Ty} {lb : Int} {ks : List Tm} {d : Int} (h : M5 D N (.mk k nm num ty fr lb ks) d = true) : d ≤ D ∧ k ≠ N ∧ P8 k nm num ty fr lb ks.length = true ∧ W2 D N ks (d + 1) = true := by
 rw [M5] at h
 simp only [Bool.and_eq_true, decide_eq_true_eq] at h
 exact ⟨h.1.1.1, h.1.1.2, h.1.2, h.2⟩
section slaws
variable {P : Program} {Γ : E6} {env : F9} {hp : List A1} {G : IM} {ty : TypeId}
theorem A21 {P : Program} {w : World} {l c : Nat} (hl : l ≤ c) (code : BoundsCode) : (Instr.sliceBound (.int .i64 (l : Int)) c code).run P w = .ok l w := by
 unfold Instr.sliceBound
 simp only [asIntOf, Sem.run_bind, Sem.run_pure, Result.andThen_ok]
 rw [if_pos ⟨by omega, by omega⟩]
 simp
theorem A0O {x y z : Operand} {t : TypeId} {i : K1} [hI : E8 P t i] (hd' : i.desc = .string) {s : ByteArray} {l h : Nat}
  (hx : evo env x = some (.string s)) (hy : evo env y = some (.int .i64 (l : Int))) (hz : evo env z = some (.int .i64 (h : Int))) (hl : l ≤ h) (hh : h ≤ s.size) :
  C9 P Γ ⟨env, hp, G⟩ (.slice t x (some y) (some z) none) ty (.string (s.extract l h)) := by
 refine ⟨fun a _ hs _ _ _ _ w => ?_⟩
 have hu := hI.und
 rw [hd'] at hu
 simp [execOp, (hs.evo hx : a.eval x = _), (hs.evo hy : a.eval y = _), (hs.evo hz : a.eval z = _), Instr.sliceAt, Sem.run_bind, run_underlying hu, Instr.slice, Instr.sliceBounds, A21 hl, A21 hh]
theorem A2s {x z : Operand} {t : TypeId} {i : K1} [hI : E8 P t i] (hd' : i.desc = .string) {s : ByteArray} {h : Nat}
  (hx : evo env x = some (.string s)) (hz : evo env z = some (.int .i64 (h : Int))) (hh : h ≤ s.size) :
  C9 P Γ ⟨env, hp, G⟩ (.slice t x none (some z) none) ty (.string (s.extract 0 h)) := by
 refine ⟨fun a _ hs _ _ _ _ w => ?_⟩
 have hu := hI.und
 rw [hd'] at hu
 simp [execOp, (hs.evo hx : a.eval x = _), (hs.evo hz : a.eval z = _), Instr.sliceAt, Sem.run_bind, run_underlying hu, Instr.slice, Instr.sliceBounds, A21 hh]
theorem R8 {x y : Operand} {t : TypeId} {i : K1} [hI : E8 P t i] (hd' : i.desc = .string) {s : ByteArray} {l : Nat}
  (hx : evo env x = some (.string s)) (hy : evo env y = some (.int .i64 (l : Int))) (hl : l ≤ s.size) :
  C9 P Γ ⟨env, hp, G⟩ (.slice t x (some y) none none) ty (.string (s.extract l s.size)) := by
 refine ⟨fun a _ hs _ _ _ _ w => ?_⟩
 have hu := hI.und
 rw [hd'] at hu
 simp [execOp, (hs.evo hx : a.eval x = _), (hs.evo hy : a.eval y = _), Instr.sliceAt, Sem.run_bind, run_underlying hu, Instr.slice, Instr.sliceBounds, A21 hl]
end slaws
theorem A0P (G : IM) : C5 G A3 [.int .i64 0, .slice none 0 0] := by
 simp only [A3, C5]
 exact ⟨none, 0, [], rfl, ⟨by omega, by omega⟩, B7.of (Sl.nil _ _) rfl (by simp) (by simp), by simp [H5]⟩
def tB : Nat → Nat
 | 0 => 3
 | d + 1 => 3 * tB d + 20
def B2H (G : IM) : IM → Value → List A1 → Prop := fun G' v outs => G' = G ∧ ∃ br pb nb cb bs, v = .pointer (some ⟨br, 0, none⟩) ∧ outs = [rd br pb nb cb 0] ∧ nb ≤ 2000 ∧ Sl G pb nb cb 1 (A6k bs)
theorem A4a (G : IM) {k : Int} (hk : F1 k) : C5 G (.mk k []) [.int .i64 k, .slice none 0 0] := by
 simp only [C5]
 exact ⟨none, 0, [], rfl, hk, B7.of (Sl.nil _ _) rfl (by simp) (by simp), by simp [H5]⟩
def TyB (B : Int) (G : IM) : IM → Value → List A1 → Prop := J1 fun G' v => ∃ t cells b, v = .tuple ⟨[.agg ⟨cells⟩, .bool b]⟩ ∧ C5 G' t cells ∧ Q5 t ∧ Q1 t ≤ B
def B2I (B : Int) (G : IM) : IM → Value → List A1 → Prop := J1 fun G' v => ∃ a ca b cb x, v = .tuple ⟨[.agg ⟨ca⟩, .agg ⟨cb⟩, .bool x]⟩ ∧ C5 G' a ca ∧ Q5 a ∧ Q1 a ≤ B ∧ C5 G' b cb ∧ Q5 b ∧ Q1 b ≤ B
def TyP (B : Int) (Q : Ty → Prop) (G : IM) : IM → Value → List A1 → Prop := J1 fun G' v => ∃ t cells, v = .agg ⟨cells⟩ ∧ C5 G' t cells ∧ Q5 t ∧ Q1 t ≤ B ∧ Q t
theorem At.sub {hp : List A1} {G : IM} {b o j : Nat} {vs : List Value} {v : Value} (h : At hp G b o vs) (hj : vs[j]? = some v) : At hp G b (o + j) [v] := by
 have key : ∀ {cs : List Value}, (∀ i u, vs[i]? = some u → cs[o + i]? = some u) → ∀ i u, [v][i]? = some u → cs[o + j + i]? = some u := by
  intro cs hc i u hu
  cases i with
  | zero => simp at hu; subst hu; simpa using hc j v hj
  | succ i => simp at hu
 rcases h with ⟨cs, hm, hv⟩ | ⟨n, c, el, sz, cs, hm, hv⟩ | ⟨full, hg, hv⟩
 ·exact .inl ⟨cs, hm, key hv⟩
 ·exact .inr (.inl ⟨n, c, el, sz, cs, hm, key hv⟩)
 ·exact .inr (.inr ⟨full, hg, key hv⟩)
theorem At.sub2 {hp : List A1} {G : IM} {b o j j' : Nat} {vs : List Value} {v : Value} (h : At hp G b o vs) (hj : vs[j + j']? = some v) : At hp G b (o + j + j') [v] := by
 rw [Nat.add_assoc]; exact h.sub hj
theorem A6l : ∀ (ks : List Ty) (k : Int) (i : Nat) (hi : i < ks.length), (K4 ks k)[i]? = some (A1I ks[i] (k + B0 (ks.take i)))
 | [], k, i, hi => by simp at hi
 | t :: ts, k, 0, hi => by simp [K4, B0]
 | t :: ts, k, i + 1, hi => by
  have := A6l ts (k + A0r t) i (by simpa using hi)
  simp only [K4, List.getElem?_cons_succ, this, List.getElem_cons_succ, List.take_succ_cons, B0]
  rw [Int.add_assoc]
theorem A6m : ∀ (ks : List Tm) (k : Int) (i : Nat) (hi : i < ks.length), (O3 ks k)[i]? = some (A1J ks[i] (k + J4 (ks.take i)))
 | [], k, i, hi => by simp at hi
 | t :: ts, k, 0, hi => by simp [O3, J4]
 | t :: ts, k, i + 1, hi => by
  have := A6m ts (k + A0s t) i (by simpa using hi)
  simp only [O3, List.getElem?_cons_succ, this, List.getElem_cons_succ, List.take_succ_cons, J4]
  rw [Int.add_assoc]
theorem A92 {G : IM} {p : Option Addr} {c : Nat} {es : List (List Value)} {ks : List Ty} {k : Int} (h : B7 G p ks.length c 2 es) (hk : H5 G (K4 ks k) es) {i : Nat} (hi : i < ks.length) :
  ∃ b o p2 c2 es2, p = some ⟨b, o, none⟩ ∧ (∀ hp, At hp G b (o + i * 2) [.int .i64 (k + B0 (ks.take i)), .slice p2 ks[i].ks.length c2]) ∧ B7 G p2 ks[i].ks.length c2 2 es2 ∧ H5 G (K4 ks[i].ks (k + B0 (ks.take i) + 1)) es2 ∧ G b ≠ none := by
 obtain ⟨e, he, hr⟩ := hk.get (A6l ks k i hi)
 obtain ⟨e', b, o, he', hp, hl, _, hat, hg⟩ := h.get hi
 rw [he'] at he; cases he
 rw [A5E] at hr
 obtain ⟨p2, c2, es2, rfl, _, h2, h3⟩ := hr.open
 simp only [Ty.k, Ty.ks] at h2 h3 hat
 rw [A0c] at h2 hat
 exact ⟨b, o, p2, c2, es2, hp, hat, h2, h3, hg⟩
theorem A93 {G : IM} {p : Option Addr} {c : Nat} {es : List (List Value)} {ks : List Tm} {k kk : Int} (h : B7 G p ks.length c 9 es) (hk : E7 G (O3 ks k) es) {i : Nat} (hkk : kk = k + J4 (ks.take i)) (hi : i < ks.length) :
  ∃ b o pt ct et pf cf ef p2 c2 es2, p = some ⟨b, o, none⟩ ∧
   (∀ hp, At hp G b (o + i * 9) [.int .i64 kk, .string (A0Z (kk + 1).toNat), .int .i64 (kk + 1 + 1), .int .i64 (kk + 1 + 1 + 1), .slice pt ks[i].ty.ks.length ct, .int .i64 (kk + 1 + 1 + 1 + 1 + B0 ks[i].ty.ks), .slice pf ks[i].fr.ks.length cf, .int .i64 (kk + 1 + 1 + 1 + 1 + B0 ks[i].ty.ks + 1 + B0 ks[i].fr.ks), .slice p2 ks[i].ks.length c2]) ∧
   B7 G pt ks[i].ty.ks.length ct 2 et ∧ H5 G (K4 ks[i].ty.ks (kk + 1 + 1 + 1 + 1)) et ∧ B7 G pf ks[i].fr.ks.length cf 2 ef ∧ H5 G (K4 ks[i].fr.ks (kk + 1 + 1 + 1 + 1 + B0 ks[i].ty.ks + 1)) ef ∧
   B7 G p2 ks[i].ks.length c2 9 es2 ∧ E7 G (O3 ks[i].ks (kk + 1 + 1 + 1 + 1 + B0 ks[i].ty.ks + 1 + B0 ks[i].fr.ks + 1)) es2 ∧ G b ≠ none := by
 obtain ⟨e, he, hr⟩ := hk.get (A6m ks k i hi)
 obtain ⟨e', b, o, he', hp, hl, _, hat, hg⟩ := h.get hi
 rw [he'] at he; cases he
 rw [A5F, ← hkk] at hr
 obtain ⟨pt, ct, et, pf, cf, ef, p2, c2, es2, rfl, _, _, _, ⟨_, h2, h3⟩, ⟨_, h4, h5⟩, h6, h7⟩ := hr.open
 simp only [Tm.k, Tm.nm, Tm.num, Tm.ty, Tm.fr, Tm.lb, Tm.ks, Ty.k, Ty.ks] at h2 h3 h4 h5 h6 h7 hat
 rw [A0c] at h2 h4
 rw [A1p] at h6
 rw [A0c, A0c, A1p] at hat
 exact ⟨b, o, pt, ct, et, pf, cf, ef, p2, c2, es2, hp, hat, h2, h3, h4, h5, h6, h7, hg⟩
theorem A4b : ∀ (t : Ty) (k : Int) (G : IM) (p : Option Addr) (c : Nat) (es : List (List Value)), B7 G p t.ks.length c 2 es → H5 G (K4 t.ks k) es → 0 < k → k + B0 t.ks ≤ 1099511627776 →
  Fn Tryz.prog 109 [.slice p t.ks.length c, .int .i64 k] [] G (H4 (.int .i64 (k + B0 t.ks)) G) := by
 refine Ty.ind fun k0 ks ih k G p c es hsl hkl hk hb => ?_
 simp only [Ty.ks] at hsl hkl hb ⊢
 have hn := hsl.le
 refine B3 Tryz.func109 rfl Tryz.ntmps109 Tryz.results109 rfl ?_
 intro w0
 refine D7 ?_
 refine D0 (O9 (fun (x : Nat × Int) => ⟨[(5, .int .i64 x.1), (1, .int .i64 x.2), (0, .slice p ks.length c)], [], G⟩) (fun x => x.1 ≤ ks.length ∧ x.2 = k + B0 (ks.take x.1)) (fun x => ks.length - x.1) (0, k) ?_ ?_ ?_)
 (simp only [T9]; exact I6)
 exact ⟨by simp, by simp [B0]⟩
 (rintro ⟨i, kk⟩ ⟨hi, hkk⟩; simp only [] at hi hkk ⊢; have hnn := T0 (ks.take i))
 refine I2 ?_
 refine sB (N2 rfl rfl) rfl rfl (fun h23 => ?_) (fun h23 => ?_)
 refine sD (nS (qT rfl (tK (nS (tS ?_)))))
 refine D0 ?_
 refine tS (tS (tR (sQ (qM rfl) rfl (sQ (qM rfl) rfl ?_))))
 (obtain ⟨b, o, p2, c2, es2, rfl, hat, hs2, hk2, hgb⟩ := A92 hsl hkl (i := i) (by omega); rw [← hkk] at hat hk2; have hsu := A5z (ks := ks) (i := i) (by omega); have hta := A3R ks (i + 1); have hce := A5B ks[i]; have hn2 := T0 ks[i].ks; refine sP (H2 rfl rfl rfl (by omega)) rfl rfl ?_)
 refine sQ (qF rfl) rfl ?_
 refine sL (H3 rfl rfl ((hat _).sub rfl)) rfl rfl ?_
 refine sQ (qM rfl) rfl ?_
 refine sP (R0 rfl rfl (by omega)) rfl rfl ?_
 refine sD (nS (cF rfl (tK (nS (tS (tR (sQ (qM rfl) rfl ?_)))))))
 refine sP (K2 rfl rfl (by omega) (by omega)) rfl rfl ?_
 refine B1 ?_
 refine sP (H2 rfl rfl rfl (by omega)) rfl rfl ?_
 refine sQ (qF rfl) rfl ?_
 refine sL (H3 rfl rfl ((hat _).sub rfl)) rfl rfl ?_
 refine sQ (qM rfl) rfl ?_
 refine I5 rfl (ih ks[i] (List.getElem_mem (by omega)) (kk + 1) G p2 c2 es2 hs2 hk2 (by omega) (by omega)) rfl rfl ?_
 refine sQ (qA rfl) rfl (sD (nS (tS (tR (sQ (qM rfl) rfl ?_)))))
 refine sP (M8 rfl rfl (by omega)) rfl rfl ?_
 refine C6 ?_
 refine sP (K2 rfl rfl (by omega) (by omega)) rfl rfl ?_
 refine sQ (qA rfl) rfl (sD ?_)
 refine P6 (i + 1, kk + 1 + B0 ks[i].ks) ?_ ?_ ?_
 (simp only [T9]; exact I6)
 (dsimp only; exact ⟨by omega, by omega⟩)
 (show ks.length - (i + 1) < ks.length - i; omega)
 refine N4 ?_
 (obtain rfl : i = ks.length := (by omega); rw [List.take_length] at hkk; exact ⟨rfl, by rw [hkk], rfl⟩)
theorem A6n (t : Ty) (k k0 : Int) (G : IM) (p : Option Addr) (c : Nat) (es : List (List Value)) (hsl : B7 G p t.ks.length c 2 es) (hkl : H5 G (K4 t.ks k) es) (hk : 0 < k) (hb : k + B0 t.ks ≤ 1099511627776) :
  Fn Tryz.prog 56 [.agg ⟨[.int .i64 k0, .slice p t.ks.length c]⟩, .int .i64 k] [] G (H4 (.int .i64 (k + B0 t.ks)) G) := by
 have hH := A4b t k G p c es hsl hkl hk hb
 have hn := T0 t.ks
 refine B3 Tryz.func56 rfl Tryz.ntmps56 Tryz.results56 rfl ?_
 intro w0
 refine tS (tR ?_)
 refine sE (J6 rfl rfl) rfl (fun b3 => ?_)
 refine C6 ?_
 refine I5 rfl (hH) rfl rfl ?_
 refine B1 ?_
 refine sP (M8 rfl rfl (by omega)) rfl rfl ?_
 refine D9 ?_
 exact ⟨rfl, rfl, rfl⟩
theorem A94 : ∀ (t : Tm) (k : Int) (G : IM) (p : Option Addr) (c : Nat) (es : List (List Value)), B7 G p t.ks.length c 9 es → E7 G (O3 t.ks k) es → 0 < k → k + J4 t.ks ≤ 1099511627776 →
  Fn Tryz.prog 57 [.slice p t.ks.length c, .int .i64 k] [] G (H4 (.int .i64 (k + J4 t.ks)) G) := by
 refine Tm.ind fun k0 nm0 num0 A3 fr0 lb0 ks ih k G p c es hsl hkl hk hb => ?_
 simp only [Tm.ks] at hsl hkl hb ⊢
 have hn := hsl.le
 refine B3 Tryz.func57 rfl Tryz.ntmps57 Tryz.results57 rfl ?_
 intro w0
 refine D7 ?_
 refine D0 (O9 (fun (x : Nat × Int) => ⟨[(5, .int .i64 x.1), (1, .int .i64 x.2), (0, .slice p ks.length c)], [], G⟩) (fun x => x.1 ≤ ks.length ∧ x.2 = k + J4 (ks.take x.1)) (fun x => ks.length - x.1) (0, k) ?_ ?_ ?_)
 (simp only [T9]; exact I6)
 exact ⟨by simp, by simp [J4]⟩
 (rintro ⟨i, kk⟩ ⟨hi, hkk⟩; simp only [] at hi hkk ⊢; have hnn := A0t (ks.take i))
 refine I2 ?_
 refine sB (N2 rfl rfl) rfl rfl (fun h23 => ?_) (fun h23 => ?_)
 refine sD (nS (qT rfl (tK (nS (tS ?_)))))
 refine D0 ?_
 refine tS (tS (tR (sQ (qM rfl) rfl (sQ (qM rfl) rfl ?_))))
 (obtain ⟨b, o, pt, ct, et, pf, cf, ef, p2, c2, es2, rfl, hat, hst, hkt, hsf, hkf, hs2, hk2, hgb⟩ := A93 hsl hkl (i := i) hkk (by omega); have hsu := A5A (ks := ks) (i := i) (by omega); have hta := A3S ks (i + 1); have hce := A3T ks[i]; have hn1 := T0 ks[i].ty.ks; have hn2 := T0 ks[i].fr.ks; have hn3 := A0t ks[i].ks; refine sP (H2 rfl rfl rfl (by omega)) rfl rfl ?_)
 refine sQ (qF rfl) rfl ?_
 refine sL (H3 rfl rfl ((hat _).sub rfl)) rfl rfl ?_
 refine sQ (qM rfl) rfl ?_
 refine sP (R0 rfl rfl (by omega)) rfl rfl ?_
 refine sD (nS (cF rfl (tK (nS (tS (tR (sQ (qM rfl) rfl ?_)))))))
 refine sP (K2 rfl rfl (by omega) (by omega)) rfl rfl ?_
 refine sQ (qA rfl) rfl (sD (nS (tS (tS ?_))))
 refine K7 K9 rfl ?_
 refine I0 (i := 0) (l' := [tt,ff,ff,ff,ff,ff,ff,ff]) rfl E9 (qM rfl) rfl (by kernel_rfl) rfl rfl ?_
 refine aP 1 rfl (qM rfl) rfl ?_
 refine aP 2 rfl (H2 rfl rfl rfl (by omega)) rfl ?_
 refine aP 3 rfl (qF rfl) rfl ?_
 refine aL 4 rfl (H3 rfl rfl ((hat _).sub rfl)) rfl ?_
 refine aP 5 rfl (qM rfl) rfl ?_
 refine B6 6 ?_
 refine N5 rfl rfl (A5K _ (by omega) (by omega) _) rfl rfl rfl ?_
 refine aP 7 rfl (A5x rfl rfl) rfl ?_
 refine R5 (nS (cF rfl (tK (nS (tS (tR (sQ (qM rfl) rfl ?_)))))))
 refine sP (K2 rfl rfl (by omega) (by omega)) rfl rfl ?_
 refine C6 ?_
 refine sP (H2 rfl rfl rfl (by omega)) rfl rfl ?_
 refine sQ (qF rfl) rfl ?_
 refine sL (H3 rfl rfl ((hat _).sub rfl)) rfl rfl ?_
 refine sQ (qM rfl) rfl ?_
 refine sP (R0 rfl rfl (by omega)) rfl rfl ?_
 refine sD (nS (cF rfl (tK (nS (tS (tR (sQ (qM rfl) rfl ?_)))))))
 refine sP (K2 rfl rfl (by omega) (by omega)) rfl rfl ?_
 refine C6 ?_
 refine sP (H2 rfl rfl rfl (by omega)) rfl rfl ?_
 refine sQ (qF rfl) rfl (sQ (qF rfl) rfl ?_)
 refine sL (H3 rfl rfl ((hat _).sub rfl)) rfl rfl ?_
 refine sQ (qM rfl) rfl ?_
 refine sP (R0 rfl rfl (by omega)) rfl rfl ?_
 refine sD (nS (cF rfl (tK (nS (tS (tR (sQ (qM rfl) rfl ?_)))))))
 refine sP (K2 rfl rfl (by omega) (by omega)) rfl rfl ?_
 refine B1 ?_
 refine sP (H2 rfl rfl rfl (by omega)) rfl rfl ?_
 refine sQ (qF rfl) rfl (sQ (qF rfl) rfl ?_)
 refine sL (H3 rfl rfl ((hat _).sub2 rfl)) rfl rfl ?_
 refine sQ (qM rfl) rfl ?_
 refine I5 rfl (A4b ks[i].ty (kk + 1 + 1 + 1 + 1) G pt ct et hst hkt (by omega) (by omega)) rfl rfl ?_
 refine B1 ?_
 refine sP (M8 rfl rfl (by omega)) rfl rfl ?_
 refine M0 ?_
 refine sP (H2 rfl rfl rfl (by omega)) rfl rfl ?_
 refine sQ (qF rfl) rfl (sQ (qF rfl) rfl ?_)
 refine sL (H3 rfl rfl ((hat _).sub rfl)) rfl rfl ?_
 refine sQ (qM rfl) rfl ?_
 refine sP (R0 rfl rfl (by omega)) rfl rfl ?_
 refine sD (nS (cF rfl (tK (nS (tS (tR (sQ (qM rfl) rfl ?_)))))))
 refine sP (K2 rfl rfl (by omega) (by omega)) rfl rfl ?_
 refine B1 ?_
 refine sP (H2 rfl rfl rfl (by omega)) rfl rfl ?_
 refine sQ (qF rfl) rfl (sQ (qF rfl) rfl ?_)
 refine sL (H3 rfl rfl ((hat _).sub2 rfl)) rfl rfl ?_
 refine sQ (qM rfl) rfl ?_
 refine I5 rfl (A4b ks[i].fr (kk + 1 + 1 + 1 + 1 + B0 ks[i].ty.ks + 1) G pf cf ef hsf hkf (by omega) (by omega)) rfl rfl ?_
 refine B1 ?_
 refine sP (M8 rfl rfl (by omega)) rfl rfl ?_
 refine M0 ?_
 refine sP (H2 rfl rfl rfl (by omega)) rfl rfl ?_
 refine sQ (qF rfl) rfl ?_
 refine sL (H3 rfl rfl ((hat _).sub rfl)) rfl rfl ?_
 refine sQ (qM rfl) rfl ?_
 refine sP (R0 rfl rfl (by omega)) rfl rfl ?_
 refine sD (nS (cF rfl (tK (nS (tS (tR (sQ (qM rfl) rfl ?_)))))))
 refine sP (K2 rfl rfl (by omega) (by omega)) rfl rfl ?_
 refine B1 ?_
 refine sP (H2 rfl rfl rfl (by omega)) rfl rfl ?_
 refine sQ (qF rfl) rfl ?_
 refine sL (H3 rfl rfl ((hat _).sub rfl)) rfl rfl ?_
 refine sQ (qM rfl) rfl ?_
 refine I5 rfl (ih ks[i] (List.getElem_mem (by omega)) (kk + 1 + 1 + 1 + 1 + B0 ks[i].ty.ks + 1 + B0 ks[i].fr.ks + 1) G p2 c2 es2 hs2 hk2 (by omega) (by omega)) rfl rfl ?_
 refine sQ (qA rfl) rfl (sD (nS (tS (tR (sQ (qM rfl) rfl ?_)))))
 refine sP (M8 rfl rfl (by omega)) rfl rfl ?_
 refine C6 ?_
 refine sP (K2 rfl rfl (by omega) (by omega)) rfl rfl ?_
 refine sQ (qA rfl) rfl (sD ?_)
 refine P6 (i + 1, kk + 1 + 1 + 1 + 1 + B0 ks[i].ty.ks + 1 + B0 ks[i].fr.ks + 1 + J4 ks[i].ks) ?_ ?_ ?_
 (simp only [T9]; exact I6)
 (dsimp only; exact ⟨by omega, by omega⟩)
 (show ks.length - (i + 1) < ks.length - i; omega)
 refine N4 ?_
 (obtain rfl : i = ks.length := (by omega); rw [List.take_length] at hkk; exact ⟨rfl, by rw [hkk], rfl⟩)
def HTm (G : IM) (t : Tm) (k : Int) (cells : List Value) : Prop := ∃ pt ct et pf cf ef p c es,
 cells = [.int .i64 t.k, .string t.nm, .int .i64 t.num, .int .i64 t.ty.k, .slice pt t.ty.ks.length ct, .int .i64 t.fr.k, .slice pf t.fr.ks.length cf, .int .i64 t.lb, .slice p t.ks.length c] ∧
 B7 G pt t.ty.ks.length ct 2 et ∧ H5 G (K4 t.ty.ks k) et ∧ B7 G pf t.fr.ks.length cf 2 ef ∧ H5 G (K4 t.fr.ks (k + B0 t.ty.ks)) ef ∧ B7 G p t.ks.length c 9 es ∧ E7 G (O3 t.ks (k + B0 t.ty.ks + B0 t.fr.ks)) es
theorem MTm.h {G : IM} {t : Tm} {k : Int} {cells : List Value} {bs : H1} (h : MTm t k cells bs) (hg : ∀ q ∈ bs, G q.1 = some q.2) : HTm G t k cells := by
 obtain ⟨pt, ct, pf, cf, p, c, bt, bf, bk, rfl, h1, h2, h3, rfl⟩ := h
 obtain ⟨et, a1, a2⟩ := h1.r fun q hq => hg q (List.mem_append_left _ hq)
 obtain ⟨ef, b1, b2⟩ := h2.r fun q hq => hg q (List.mem_append_right _ (List.mem_append_left _ hq))
 obtain ⟨es, c1, c2⟩ := h3.r fun q hq => hg q (List.mem_append_right _ (List.mem_append_right _ hq))
 rw [A0c] at a1 b1
 rw [A1p] at c1
 exact ⟨pt, ct, et, pf, cf, ef, p, c, es, rfl, a1, a2, b1, b2, c1, c2⟩
theorem HTm.mono {G G' : IM} {t : Tm} {k : Int} {cells : List Value} (h : HTm G t k cells) (hg : B4 G G') : HTm G' t k cells := by
 obtain ⟨pt, ct, et, pf, cf, ef, p, c, es, h0, h1, h2, h3, h4, h5, h6⟩ := h
 exact ⟨pt, ct, et, pf, cf, ef, p, c, es, h0, h1.mono hg, h2.mono hg, h3.mono hg, h4.mono hg, h5.mono hg, h6.mono hg⟩
theorem A22 (t : Tm) (k : Int) (G : IM) (cells : List Value) (h : HTm G t k cells) (hk : 0 < k) (hb : k + B0 t.ty.ks + B0 t.fr.ks + J4 t.ks ≤ 1099511627776) :
  Fn Tryz.prog 21 [.agg ⟨cells⟩, .int .i64 k] [] G (H4 (.int .i64 (k + B0 t.ty.ks + B0 t.fr.ks + J4 t.ks)) G) := by
 obtain ⟨pt, ct, et, pf, cf, ef, p, c, es, rfl, a1, a2, b1, b2, c1, c2⟩ := h
 have h1 := T0 t.ty.ks
 have h2 := T0 t.fr.ks
 have h3 := A0t t.ks
 have hT := A6n t.ty k t.ty.k G pt ct et a1 a2 (by omega) (by omega)
 have hF := A6n t.fr (k + B0 t.ty.ks) t.fr.k G pf cf ef b1 b2 (by omega) (by omega)
 have hS := A94 t (k + B0 t.ty.ks + B0 t.fr.ks) G p c es c1 c2 (by omega) (by omega)
 refine B3 Tryz.func21 rfl Tryz.ntmps21 Tryz.results21 rfl ?_
 intro w0
 refine tS (tR ?_)
 refine sE (J6 rfl rfl) rfl (fun b3 => ?_)
 refine C6 ?_
 refine I5 rfl (hT) rfl rfl ?_
 refine B1 ?_
 refine sP (M8 rfl rfl (by omega)) rfl rfl ?_
 refine M0 ?_
 refine I5 rfl (hF) rfl rfl ?_
 refine B1 ?_
 refine sP (M8 rfl rfl (by omega)) rfl rfl ?_
 refine M0 ?_
 refine I5 rfl (hS) rfl rfl ?_
 refine B1 ?_
 refine sP (M8 rfl rfl (by omega)) rfl rfl ?_
 refine D9 ?_
 exact ⟨rfl, rfl, rfl⟩
def RBd (G : IM) (e : List Value) : Prop := ∃ nm t q d, e = [.string nm, .int .i64 t.k, .slice q t.ks.length d] ∧ C5 G t [.int .i64 t.k, .slice q t.ks.length d] ∧ Q5 t ∧ Q1 t ≤ 30 ∧ nm.size ≤ 1
def GCx (G : IM) (p : Option Addr) (n c : Nat) : Prop := ∃ es, es.length = n ∧ B7 G p n c 3 es ∧ ∀ e ∈ es, RBd G e
theorem A95 : ∀ (t : Ty) (d : Int), E1 t d = true → Q5 t := by
 refine Ty.ind fun k ks ih d h => ?_
 obtain ⟨h1, h2⟩ := A2p h
 rw [Q5]
 refine ⟨fun hk => ?_, fun h4 h5 => ?_, A33.2 fun t ht => ?_⟩
 ·have := (J8 k).2.1 hk
  omega
 ·have h5' := J8 k
  have h6 := h5'.1
  have h7 := h5'.2.2
  omega
 ·obtain ⟨i, hi, rfl⟩ := List.getElem_of_mem ht
  exact ih _ ht _ (h2 i hi)
theorem A96 : ∀ (n : Nat) (t : Ty) (d : Int), E1 t d = true → 4 - d ≤ n → tAh n t := by
 intro n
 induction n with
 | zero =>
  rintro ⟨k, ks⟩ d h hd
  obtain ⟨h1, h2⟩ := A2p h
  have hks : ks.length = 0 := by
   rcases Nat.eq_zero_or_pos ks.length with h0 | h0
   ·exact h0
   ·have h3 := h2 0 h0
    obtain ⟨k', ks'⟩ : Ty := ks[0]
    have h4 : ∀ (u : Ty) (d : Int), E1 u d = true → d ≤ 4 := by
     rintro ⟨a, b⟩ d hu
     rw [E1] at hu
     simp only [Bool.and_eq_true, decide_eq_true_eq] at hu
     exact hu.1.1
    have := h4 _ _ h3
    omega
  have h5 := J8 k
  have h6 := h5.2.1
  exact ⟨List.length_eq_zero_iff.1 hks, by intro h; have := h6 (.inl h); omega, by intro h; have := h6 (.inr h); omega⟩
 | succ n ih =>
  rintro ⟨k, ks⟩ d h hd
  have ha := A95 _ _ h
  rw [Q5] at ha
  obtain ⟨h1, h2⟩ := A2p h
  refine ⟨ha.1, ha.2.1, fun t ht => ?_⟩
  obtain ⟨i, hi, rfl⟩ := List.getElem_of_mem ht
  exact ih _ _ (h2 i hi) (by omega)
theorem A6o {t : Ty} (h : O7 t = true) : Q5 t ∧ Q1 t ≤ 30 := by
 have h1 := A96 3 t 1 h (by omega)
 have h2 := A34 h1
 have h3 : ((2 ^ (3 + 1) - 2 : Nat) : Int) = 14 := rfl
 exact ⟨h1.ar, by omega⟩
def Tm.fit (t : Tm) (N : Nat) : Prop := t.small ∧ D1 t ≤ N
section slaw
variable {P : Program} {Γ : E6} {env : F9} {hp : List A1} {G : IM} {ty : TypeId} {K : Po} {ops : Array Oper} {rest : List Oper}
end slaw
def A6p : Tm → List Int → Tm → Tm
 | _, [], x => x
 | .mk k nm num ty fr lb ks, i :: is, x => if h : 0 ≤ i ∧ i < ks.length then .mk k nm num ty fr lb (ks.set i.toNat (A6p (ks[i.toNat]'(by omega)) is x)) else .mk k nm num ty fr lb ks
def TyV (e : Tm) (G : IM) : IM → Value → List A1 → Prop := J1 fun G' v => ∃ t cells b, v = .tuple ⟨[.agg ⟨cells⟩, .bool b]⟩ ∧ C5 G' t cells ∧ Q5 t ∧ Q1 t ≤ 960 ∧ (b = true → P9 e = true)
def B2J (e : Tm) (label : Int) (G : IM) : IM → Value → List A1 → Prop := J1 fun G' v => ∃ u cu l', v = .tuple ⟨[.agg ⟨cu⟩, .int .i64 l']⟩ ∧ C7 G' u cu ∧ (e.small → u.small) ∧ D1 u ≤ D1 e + 1 ∧ label ≤ l' ∧ l' ≤ label + 1
def B2K (n : Nat) (G : IM) : IM → Value → List A1 → Prop := J1 fun G' v => ∃ p c es ws, v = .slice p n c ∧ ws.length = n ∧ B7 G' p n c 2 es ∧ H5 G' ws es ∧ ∀ w ∈ ws, Q5 w
def B2L (e : Tm) (label : Int) (G : IM) : IM → Value → List A1 → Prop := J1 fun G' v => ∃ u cu t ct l', v = .tuple ⟨[.agg ⟨cu⟩, .agg ⟨ct⟩, .int .i64 l']⟩ ∧ C7 G' u cu ∧ u.small ∧ D1 u + 1 ≤ 2 * D1 e ∧ C5 G' t ct ∧ Q5 t ∧ Q1 t ≤ 32 * (D1 e : Int) ∧ label ≤ l' ∧ l' + 1 ≤ label + 2 * (D1 e : Int)
theorem A6q : ∀ {ks : List Tm} {i : Nat} (h : i < ks.length), F8 (ks.take (i + 1)) = F8 (ks.take i) + D1 ks[i]
 | [], i, h => by simp at h
 | t :: ts, 0, h => by simp [F8]
 | t :: ts, i + 1, h => by
  have := A6q (ks := ts) (i := i) (by simpa using h)
  simp only [List.take_succ_cons, F8, List.getElem_cons_succ, this]
  omega
theorem A6r : ∀ (ks : List Tm) (i : Nat), F8 (ks.take i) ≤ F8 ks
 | [], i => by simp [F8]
 | t :: ts, 0 => by simp [F8]
 | t :: ts, i + 1 => by
  have := A6r ts i
  simp only [List.take_succ_cons, F8]
  omega
def A0Q (t : Ty) : Ty := if t.k = 4 ∨ t.k = 5 then .mk t.k [T6, T6] else .mk t.k []
def A23 (t : Ty) : Bool := decide (t.k ≠ 1) && W3 t (A0Q t)
def prx (t : Tm) : Bool := decide (t.k = 14 ∧ t.fr.k = t.ty.k ∧ (t.ty.k = 4 ∨ t.ty.k = 5))
def inj (t : Tm) : Bool := decide (t.k = 14 ∧ t.ty.k = 1) && A23 t.fr
mutual
def A1O : Tm → Bool
 | .mk k nm num ty fr lb ks => if k = 10 ∨ (k = 14 ∧ fr.k = ty.k ∧ (ty.k = 4 ∨ ty.k = 5)) ∨ (k = 14 ∧ ty.k = 1 ∧ A23 fr = true) then A6s ks else decide (k = 2 ∨ k = 3 ∨ k = 4 ∨ k = 5)
def A6s : List Tm → Bool
 | [] => true
 | t :: ts => A1O t && A6s ts
end
mutual
def A4c (x : ByteArray) (v : Tm) : Tm → Tm
 | .mk k nm num ty fr lb ks => if k = 1 ∧ nm = x then v else if k = 5 ∧ nm = x then .mk k nm num ty fr lb ks else .mk k nm num ty fr lb (A6t x v ks)
def A6t (x : ByteArray) (v : Tm) : List Tm → List Tm
 | [] => []
 | t :: ts => A4c x v t :: A6t x v ts
end
def R9 (e : Tm) (fr to : Ty) (lb : Int) : Tm := .mk 14 ⟨#[]⟩ 0 to fr lb [e]
def A1t (k : Int) (ks : List Tm) : Tm := .mk k ⟨#[]⟩ 0 A3 A3 0 ks
def A6u (n : Int) : Tm := .mk 2 ⟨#[]⟩ n A3 A3 0 []
def A6v (b : Prop) [Decidable b] : Tm := A1t (if b then 3 else 4) []
abbrev W4 := Tm × Int × Int
def Y3 : W4 := (L4, 3, 0)
def kd (ks : List Tm) (i : Nat) : Tm := ks.getD i L4
def kt (ks : List Ty) (i : Nat) : Ty := ks.getD i A3
def A97 (k : Int) (ty fr : Ty) (lb : Int) (ks : List Tm) : W4 :=
 if k = 6 then
  (if (kd ks 0).k = 5 then (A4c (kd ks 0).nm (kd ks 1) (kd (kd ks 0).ks 0), 1, 0)
   else if prx (kd ks 0) = true ∧ (kd ks 0).ty.k = 4 then (R9 (A1t 6 [kd (kd ks 0).ks 0, R9 (kd ks 1) (kt (kd ks 0).ty.ks 0) (kt (kd ks 0).fr.ks 0) (-(kd ks 0).lb)]) (kt (kd ks 0).fr.ks 1) (kt (kd ks 0).ty.ks 1) (kd ks 0).lb, 1, 0)
   else Y3)
 else if k = 7 ∨ k = 8 then
  (if (kd ks 0).k = 2 ∧ (kd ks 1).k = 2 then (if k = 7 then A6u (((kd ks 0).num + (kd ks 1).num) % 1000) else A6v ((kd ks 0).num < (kd ks 1).num), 1, 0) else Y3)
 else if k = 9 then (if (kd ks 0).k = 3 then (kd ks 1, 1, 0) else if (kd ks 0).k = 4 then (kd ks 2, 1, 0) else Y3)
 else if k = 11 ∨ k = 12 then
  (if (kd ks 0).k = 10 then (kd (kd ks 0).ks (k - 11).toNat, 1, 0)
   else if prx (kd ks 0) = true ∧ (kd ks 0).ty.k = 5 then (R9 (A1t k [kd (kd ks 0).ks 0]) (kt (kd ks 0).fr.ks (k - 11).toNat) (kt (kd ks 0).ty.ks (k - 11).toNat) (kd ks 0).lb, 1, 0)
   else Y3)
 else if k = 14 then
  (if fr.k = ty.k then (kd ks 0, 1, 0)
   else if ty.k = 1 then (R9 (R9 (kd ks 0) fr (A0Q fr) lb) (A0Q fr) ty lb, 1, 0)
   else if A23 ty = false then (R9 (R9 (kd ks 0) fr (A0Q ty) lb) (A0Q ty) ty lb, 1, 0)
   else if inj (kd ks 0) = false then Y3
   else if (kd ks 0).fr.k = ty.k then (kd (kd ks 0).ks 0, 1, 0)
   else (L4, 2, lb))
 else Y3
mutual
def A0R : Tm → W4
 | .mk k nm num ty fr lb ks => match A6w (if k = 9 then 1 else ks.length) ks with
  | some (ks', c, l) => if c = 1 then (.mk k nm num ty fr lb ks', 1, 0) else (L4, c, l)
  | none => A97 k ty fr lb ks
def A6w : Nat → List Tm → Option (List Tm × Int × Int)
 | _, [] => none
 | n, t :: ts => match n with
  | 0 => none
  | n + 1 => if A1O t = true then (match A6w n ts with
    | some (us, c, l) => some (t :: us, c, l)
    | none => none)
   else some ((A0R t).1 :: ts, (A0R t).2.1, (A0R t).2.2)
end
def Q6 (e : Tm) : W4 :=
 if N7 e = false then Y3 else if A1O e = true then (e, 0, 0)
 else if (A0R e).2.1 ≠ 1 then (L4, (A0R e).2.1, (A0R e).2.2)
 else if N7 (A0R e).1 = false then (L4, 4, 0) else ((A0R e).1, 1, 0)
def mEv : Nat → Tm → Tm × Int × Int × Nat
 | 0, e => if (Q6 e).2.1 = 1 then (L4, 5, 0, 0) else ((Q6 e).1, (Q6 e).2.1, (Q6 e).2.2, 0)
 | n + 1, e => if (Q6 e).2.1 = 1 then ((mEv n (Q6 e).1).1, (mEv n (Q6 e).1).2.1, (mEv n (Q6 e).1).2.2.1, (mEv n (Q6 e).1).2.2.2 + 1)
  else ((Q6 e).1, (Q6 e).2.1, (Q6 e).2.2, 0)
def U8 (e : Tm) (fuel : Int) : W4 := if 0 ≤ fuel ∧ fuel ≤ 300 then ((mEv fuel.toNat e).1, (mEv fuel.toNat e).2.1, (mEv fuel.toNat e).2.2.1) else Y3
def B2M (e : Tm) (fuel : Int) : Int := if 0 ≤ fuel ∧ fuel ≤ 300 then ((mEv fuel.toNat e).2.2.2 : Int) else 0
structure CvN (k : Int) (nm : ByteArray) (num : Int) (ty fr : Ty) (lb : Int) (ks : List Tm) : Prop where
 ops : L8 k = ks.length
 ne : k ≠ 13
 nm1 : nm.size ≤ 1
 num0 : 0 ≤ num ∧ num ≤ 999
 tyA : Q5 ty
 frA : Q5 fr
 lbB : -99 ≤ lb ∧ lb ≤ 99
 c14 : k = 14 → P7 fr ty = true ∧ O7 ty = true ∧ O7 fr = true
 ty5 : ¬(k = 5 ∨ k = 14) → ty = A3
 fr14 : k ≠ 14 → fr = A3 ∧ lb = 0
def cv (t : Tm) : Prop := ∃ d, M5 40 13 t d = true
def GT.ty : GT → Ty
 | .any => .mk 1 []
 | .int => .mk 2 []
 | .bool => .mk 3 []
 | .fn a b => .mk 4 [a.ty, b.ty]
 | .pr a b => .mk 5 [a.ty, b.ty]
def GE.tm : GE → Tm
 | .var x => .mk 1 x 0 A3 A3 0 []
 | .num n => .mk 2 ⟨#[]⟩ n A3 A3 0 []
 | .tru b => .mk (if b = true then 3 else 4) ⟨#[]⟩ 0 A3 A3 0 []
 | .lam x A e => .mk 5 x 0 A.ty A3 0 [e.tm]
 | .app f a => .mk 6 ⟨#[]⟩ 0 A3 A3 0 [f.tm, a.tm]
 | .ar s a b => .mk (if s = true then 8 else 7) ⟨#[]⟩ 0 A3 A3 0 [a.tm, b.tm]
 | .ite c a b => .mk 9 ⟨#[]⟩ 0 A3 A3 0 [c.tm, a.tm, b.tm]
 | .pair a b => .mk 10 ⟨#[]⟩ 0 A3 A3 0 [a.tm, b.tm]
 | .part s e => .mk (if s = true then 12 else 11) ⟨#[]⟩ 0 A3 A3 0 [e.tm]
 | .cast A B l e => .mk 14 ⟨#[]⟩ 0 B.ty A.ty l [e.tm]
section
variable {k : Int} {nm : ByteArray} {num : Int} {ty fr : Ty} {lb : Int} {a b c : Tm} {t : Tm} {l : Int}
end
def Bd (e : GE) : Prop := A1O e.tm = false ∧ (A0R e.tm).2.1 = 2
def B2N (u : Ty) (G : IM) : IM → Value → List A1 → Prop := J1 fun G' v => ∃ cells, v = .agg ⟨cells⟩ ∧ C5 G' u cells
def B2O (r : Option Ty) (G : IM) : IM → Value → List A1 → Prop := J1 fun G' v => ∃ cells u, v = .tuple ⟨[.agg ⟨cells⟩, .bool r.isSome]⟩ ∧ C5 G' u cells ∧ ∀ t, r = some t → u = t
theorem A6x {G : IM} {k : Int} {a b : Ty} {ca cb : List Value} {p : Option Addr} {c : Nat} (hk : F1 k) (ha : C5 G a ca) (hb : C5 G b cb) (hs : Sl G p 2 c 2 (ca ++ cb)) : C5 G (.mk k [a, b]) [.int .i64 k, .slice p 2 c] := by
 have hL : H5 G [a, b] [ca, cb] := by simp only [H5]; exact ⟨ca, [cb], rfl, ha, cb, [], rfl, hb, rfl⟩
 exact H5.ty (ts := [a, b]) (es := [ca, cb]) hL rfl (by simpa using hs) hk
theorem B2P (k tk : Int) (ks : List Ty) : A2q k (.mk tk ks) = if tk = k then some (ks.getD 0 A3, ks.getD 1 A3) else if tk = 1 then some (T6, T6) else none := rfl
def B2Q (k : Int) (t : Ty) (G : IM) : IM → Value → List A1 → Prop := J1 fun G' v => ∃ a ca b cb, v = .tuple ⟨[.agg ⟨ca⟩, .agg ⟨cb⟩, .bool (A2q k t).isSome]⟩ ∧ C5 G' a ca ∧ C5 G' b cb ∧ Q5 a ∧ Q5 b ∧ ∀ p, A2q k t = some p → p = (a, b)
def A98 (G : IM) (b : ByteArray × Ty) (e : List Value) : Prop := ∃ q d, e = [.string b.1, .int .i64 b.2.k, .slice q b.2.ks.length d] ∧ C5 G b.2 [.int .i64 b.2.k, .slice q b.2.ks.length d]
def RCx (G : IM) (cx : Cx) (p : Option Addr) (n c : Nat) : Prop := n = cx.length ∧ ∃ es : List (List Value), B7 G p n c 3 es ∧ ∀ (i : Nat) (b : ByteArray × Ty), cx[i]? = some b → ∃ e, es[i]? = some e ∧ A98 G b e
def WtP (r : Option (List Ty × Ty)) (G : IM) : IM → Value → List A1 → Prop := J1 fun G' v => ∃ p n c es w cu u, v = .tuple ⟨[.slice p n c, .agg ⟨cu⟩, .bool r.isSome]⟩ ∧ n = w.length ∧ B7 G' p n c 2 es ∧ H5 G' w es ∧ C5 G' u cu ∧ ∀ q, r = some q → q = (w, u)
section
variable {cx : Cx} {nm : ByteArray} {ty : Ty} {h : List Ty}
theorem mW1 : A2r cx 1 nm ty h = match A2Y cx nm with | some t => some ([], t) | none => none := rfl
theorem mW5 : A2r cx 5 nm ty h = some ([], .mk 4 [ty, h.getD 0 A3]) := rfl
end
section
variable {cx : Cx} {k : Int} {nm : ByteArray} {num : Int} {ty fr : Ty} {lb : Int} {ks : List Tm}
end
def A4d (r : Tm) : Tm × Bool := if N7 r = true then (r, true) else (L4, false)
def B2R (t : Tm) (path : List Int) (x : Tm) : Tm × Bool := if N7 t = true ∧ N7 x = true ∧ tAt t path ≠ none then A4d (A6p t path x) else (L4, false)
def A1u : List Tm → List Ty → List Ty → Int → List Tm × Int
 | u :: us, a :: h, b :: w, l => if W3 a b = true then (u :: (A1u us h w l).1, (A1u us h w l).2) else (R9 u a b (l + 1) :: (A1u us h w (l + 1)).1, (A1u us h w (l + 1)).2)
 | us, _, _, l => (us, l)
def A99 (cx : Cx) (k : Int) (nm : ByteArray) (num : Int) (ty fr : Ty) (lb : Int) (us : List Tm) (h : List Ty) (l : Int) : Option (Tm × Ty × Int) :=
 match A6c cx k nm ty h with
 | none => none
 | some (w, t) => some (if k = 13 then (A1u us h w l).1.getD 0 L4 else .mk k nm num ty fr lb (A1u us h w l).1, t, (A1u us h w l).2)
mutual
def mEl (cx : Cx) : Tm → Int → Option (Tm × Ty × Int)
 | .mk k nm num ty fr lb ks, l => match A6y (A36 cx k nm ty) ks l with
  | none => none
  | some (us, h, l') => A99 cx k nm num ty fr lb us h l'
def A6y (cx : Cx) : List Tm → Int → Option (List Tm × List Ty × Int)
 | [], l => some ([], [], l)
 | t :: ts, l => match mEl cx t l with
  | none => none
  | some (u, a, l') => match A6y cx ts l' with
   | none => none
   | some (us, h, l'') => some (u :: us, a :: h, l'')
end
def A6z (e : Tm) : Option (Tm × Ty) := if P9 e = true then (match mEl [] e 0 with | some (u, t, _) => some (u, t) | none => none) else none
def B0a (cx : Cx) (k : Int) (nm : ByteArray) (ty : Ty) (h : List Ty) : Option Ty := match A2r cx k nm ty h with
 | some (_, t) => if (k = 5 ∨ k = 10) ∧ O7 t = false then none else some t
 | none => none
mutual
def B0b (cx : Cx) : Tm → Option Ty
 | .mk k nm num ty fr lb ks => match A6A (A36 cx k nm ty) ks with
  | none => none
  | some h => B0a cx k nm ty h
def A6A (cx : Cx) : List Tm → Option (List Ty)
 | [] => some []
 | t :: ts => match B0b cx t with
  | none => none
  | some a => match A6A cx ts with
   | none => none
   | some h => some (a :: h)
end
def cxV (cx : Cx) : Prop := ∀ b ∈ cx, O7 b.2 = true
section inv
variable {cx : Cx} {nm : ByteArray} {num : Int} {ty fr : Ty} {lb : Int} {a b c : Tm} {T : Ty}
end inv
mutual
def A4e : Ty → Ty → Bool
 | .mk k ks, t => decide (t.k = 1) || (decide (k = t.k) && A6B ks t.ks)
def A6B : List Ty → List Ty → Bool
 | [], [] => true
 | a :: xs, b :: ys => A4e a b && A6B xs ys
 | _, _ => false
end
mutual
def A6C : Tm → Tm → Bool
 | .mk k nm num ty _ _ ks, u => decide (k = u.k ∧ nm = u.nm ∧ num = u.num) && (decide (k ≠ 5 ∧ k ≠ 13) || A4e ty u.ty) && A6D ks u.ks
def A6D : List Tm → List Tm → Bool
 | [], [] => true
 | a :: xs, b :: ys => A6C a b && A6D xs ys
 | _, _ => false
end
def B0c (a b : Tm) : Bool := P9 a && (P9 b && A6C a b)
def A24 : GT → GT → GT
 | .any, b => b
 | .fn a b, .fn c d => .fn (A24 a c) (A24 b d)
 | .pr a b, .pr c d => .pr (A24 a c) (A24 b d)
 | a, _ => a
def gmF : GT → Option (GT × GT)
 | .fn a b => some (a, b)
 | .any => some (.any, .any)
 | _ => none
def gmP : GT → Option (GT × GT)
 | .pr a b => some (a, b)
 | .any => some (.any, .any)
 | _ => none
def CxR (cx cx' : Cx) (Γ : GC) : Prop := ∀ x a, A2Y cx x = some a → ∃ A A', a = A.ty ∧ A2Y cx' x = some A'.ty ∧ Γ x = some (A, A') ∧ Le A A'
def B2S (A B : GT) (l : Int) (e : GE) : GE := if W3 A.ty B.ty = true then e else .cast A B l e
inductive GPL (Γ : GC) : List GE → List GE → List GT → List GT → Prop
 | nil : GPL Γ [] [] [] []
 | cons {e e' A A' es es' As As'} : GP Γ e e' A A' → GPL Γ es es' As As' → GPL Γ (e :: es) (e' :: es') (A :: As) (A' :: As')
abbrev ElR (Γ : GC) (u : Tm) (a : Ty) (r : Option (Tm × Ty × Int)) : Prop := ∃ e A e' A' l2, u = e.tm ∧ a = A.ty ∧ r = some (e'.tm, A'.ty, l2) ∧ GP Γ e e' A A'
section
variable {cx cx' : Cx} {Γ : GC} {es es' : List GE} {As As' : List GT} {l l' : Int} {u : Tm} {a : Ty} {l2 : Int} {nm : ByteArray} {num : Int}
end
variable {P : Program} {G : IM}
def TmP (t : Tm) : IM → Value → List A1 → Prop := J1 fun G' v => ∃ cells, v = .agg ⟨cells⟩ ∧ C7 G' t cells
def mGk (k : Int) : Ty := if k = 4 ∨ k = 5 then .mk k [T6, T6] else .mk k []
theorem A1P {G : IM} {k : Int} {ks : List Tm} {p : Option Addr} {n c : Nat} {es : List (List Value)} (hk : F1 k) (hn : n = ks.length) (hs : B7 G p n c 9 es) (hr : E7 G ks es) : C7 G (A1t k ks) [.int .i64 k, .string ⟨⟨[]⟩⟩, .int .i64 0, .int .i64 0, .slice none 0 0, .int .i64 0, .slice none 0 0, .int .i64 0, .slice p n c] := by
 subst hn
 simp only [A1t, C7]
 exact ⟨[.int .i64 0, .slice none 0 0], [.int .i64 0, .slice none 0 0], p, c, es, rfl, hk, ⟨by decide, by decide⟩, ⟨by decide, by decide⟩, A0P G, A0P G, hs, hr⟩
theorem A1Q (k : Int) (p : Option Addr) (n c : Nat) (G : IM) : Fn Tryz.prog 153 [.int .i64 k, .slice p n c] [] G (H4 (.agg ⟨[.int .i64 k, .string ⟨⟨[]⟩⟩, .int .i64 0, .int .i64 0, .slice none 0 0, .int .i64 0, .slice none 0 0, .int .i64 0, .slice p n c]⟩) G) := by
 refine B3 Tryz.func153 rfl Tryz.ntmps153 Tryz.results153 rfl ?_
 intro w0
 refine tS (tR ?_)
 refine sE (D6 rfl) rfl (fun b3 => ?_)
 refine D7 ?_
 refine F0 (rC rfl (A7 rfl rfl)) ?_
 (exact ⟨rfl, rfl, rfl⟩)
def B0d (k : Int) (ks : List Tm) : Option Tm :=
 if k = 6 then (if (kd ks 0).k = 5 then some (A4c (kd ks 0).nm (kd ks 1) (kd (kd ks 0).ks 0)) else none)
 else if k = 7 ∨ k = 8 then (if (kd ks 0).k = 2 ∧ (kd ks 1).k = 2 then some (if k = 7 then A6u (((kd ks 0).num + (kd ks 1).num) % 1000) else A6v ((kd ks 0).num < (kd ks 1).num)) else none)
 else if k = 9 then (if (kd ks 0).k = 3 then some (kd ks 1) else if (kd ks 0).k = 4 then some (kd ks 2) else none)
 else if k = 11 ∨ k = 12 then (if (kd ks 0).k = 10 then some (kd (kd ks 0).ks (k - 11).toNat) else none)
 else none
def B2T (o : Option Tm) : IM → Value → List A1 → Prop := J1 fun G' v => ∃ u cells c, v = .tuple ⟨[.agg ⟨cells⟩, .int .i64 c]⟩ ∧ C7 G' u cells ∧ (∀ x, o = some x → c = 1 ∧ u = x) ∧ (o = none → c = 3)
end Gw
end Go.Proofs.YtgodjiieijekiaaGreatDoor
