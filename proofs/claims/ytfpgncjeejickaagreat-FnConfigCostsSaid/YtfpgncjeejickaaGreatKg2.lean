/-
  The reference model's tests of types and nodes: they compute the same plain func.
-/
import Derived.Test.YtfpgncjeejickaaGreatKg1
import Derived.Test.YtfpgncjeejickaaGreatKg0
set_option linter.unusedVariables false
set_option linter.unusedSimpArgs false
set_option maxHeartbeats 0
set_option maxRecDepth 100000
set_option synthInstance.maxSize 4000
set_option synthInstance.maxHeartbeats 0
namespace Go.Proofs.YtfpgncjeejickaaGreat
open Go Go.RowKit
namespace Gw
theorem A77 (k : Int) (G : IM) : Fn Tryz.prog 210 [.int .i64 k] [] G (I5 (.int .i64 (V0 k)) G) := by
 refine C0 Tryz.func210 rfl Tryz.ntmps210 Tryz.results210 rfl ?_
 intro w0
 refine J2 ?_
 refine B8 ?_
 refine tS (tS (tR ?_))
 refine sB (qE rfl rfl) rfl rfl (fun h16 => ?_) (fun h16 => ?_)
 refine J9 ?_
 exact ⟨rfl, by (first | rw [(N5 k).1 (by omega)] | rw [(N5 k).2.1 (by omega)] | rw [(N5 k).2.2 (by omega) (by omega) (by omega) (by omega) (by omega)]), rfl⟩
 refine A7 ?_
 refine sB (qE rfl rfl) rfl rfl (fun h40 => ?_) (fun h40 => ?_)
 refine J9 ?_
 exact ⟨rfl, by (first | rw [(N5 k).1 (by omega)] | rw [(N5 k).2.1 (by omega)] | rw [(N5 k).2.2 (by omega) (by omega) (by omega) (by omega) (by omega)]), rfl⟩
 refine B0 ?_
 refine sB (qE rfl rfl) rfl rfl (fun h63 => ?_) (fun h63 => ?_)
 refine K3 ?_
 exact ⟨rfl, by (first | rw [(N5 k).1 (by omega)] | rw [(N5 k).2.1 (by omega)] | rw [(N5 k).2.2 (by omega) (by omega) (by omega) (by omega) (by omega)]), rfl⟩
 refine B4 ?_
 refine sB (qE rfl rfl) rfl rfl (fun h85 => ?_) (fun h85 => ?_)
 refine J9 ?_
 exact ⟨rfl, by (first | rw [(N5 k).1 (by omega)] | rw [(N5 k).2.1 (by omega)] | rw [(N5 k).2.2 (by omega) (by omega) (by omega) (by omega) (by omega)]), rfl⟩
 refine B0 ?_
 refine sB (qE rfl rfl) rfl rfl (fun h108 => ?_) (fun h108 => ?_)
 refine K3 ?_
 exact ⟨rfl, by (first | rw [(N5 k).1 (by omega)] | rw [(N5 k).2.1 (by omega)] | rw [(N5 k).2.2 (by omega) (by omega) (by omega) (by omega) (by omega)]), rfl⟩
 refine K5 ?_
 exact ⟨rfl, by (first | rw [(N5 k).1 (by omega)] | rw [(N5 k).2.1 (by omega)] | rw [(N5 k).2.2 (by omega) (by omega) (by omega) (by omega) (by omega)]), rfl⟩
theorem A4F (k : Int) (G : IM) : Fn Tryz.prog 219 [.int .i64 k] [] G (I5 (.int .i64 (E2 k)) G) := by
 refine C0 Tryz.func219 rfl Tryz.ntmps219 Tryz.results219 rfl ?_
 intro w0
 refine J2 ?_
 refine B8 ?_
 refine tS (tS (tR ?_))
 refine sB (qE rfl rfl) rfl rfl (fun h16 => ?_) (fun h16 => ?_)
 refine J9 ?_
 exact ⟨rfl, by (unfold E2; first | rw [if_pos (by omega)] | rw [if_neg (by omega), if_pos (by omega)] | rw [if_neg (by omega), if_neg (by omega), if_pos (by omega)] | rw [if_neg (by omega), if_neg (by omega), if_neg (by omega), if_pos (by omega)] | rw [if_neg (by omega), if_neg (by omega), if_neg (by omega), if_neg (by omega)]), rfl⟩
 refine A7 ?_
 refine sB (qE rfl rfl) rfl rfl (fun h40 => ?_) (fun h40 => ?_)
 refine J9 ?_
 exact ⟨rfl, by (unfold E2; first | rw [if_pos (by omega)] | rw [if_neg (by omega), if_pos (by omega)] | rw [if_neg (by omega), if_neg (by omega), if_pos (by omega)] | rw [if_neg (by omega), if_neg (by omega), if_neg (by omega), if_pos (by omega)] | rw [if_neg (by omega), if_neg (by omega), if_neg (by omega), if_neg (by omega)]), rfl⟩
 refine A7 ?_
 refine sB (qE rfl rfl) rfl rfl (fun h64 => ?_) (fun h64 => ?_)
 refine J9 ?_
 exact ⟨rfl, by (unfold E2; first | rw [if_pos (by omega)] | rw [if_neg (by omega), if_pos (by omega)] | rw [if_neg (by omega), if_neg (by omega), if_pos (by omega)] | rw [if_neg (by omega), if_neg (by omega), if_neg (by omega), if_pos (by omega)] | rw [if_neg (by omega), if_neg (by omega), if_neg (by omega), if_neg (by omega)]), rfl⟩
 refine B0 ?_
 refine sB (qE rfl rfl) rfl rfl (fun h87 => ?_) (fun h87 => ?_)
 refine K3 ?_
 exact ⟨rfl, by (unfold E2; first | rw [if_pos (by omega)] | rw [if_neg (by omega), if_pos (by omega)] | rw [if_neg (by omega), if_neg (by omega), if_pos (by omega)] | rw [if_neg (by omega), if_neg (by omega), if_neg (by omega), if_pos (by omega)] | rw [if_neg (by omega), if_neg (by omega), if_neg (by omega), if_neg (by omega)]), rfl⟩
 refine B4 ?_
 refine sB (qE rfl rfl) rfl rfl (fun h109 => ?_) (fun h109 => ?_)
 refine J9 ?_
 exact ⟨rfl, by (unfold E2; first | rw [if_pos (by omega)] | rw [if_neg (by omega), if_pos (by omega)] | rw [if_neg (by omega), if_neg (by omega), if_pos (by omega)] | rw [if_neg (by omega), if_neg (by omega), if_neg (by omega), if_pos (by omega)] | rw [if_neg (by omega), if_neg (by omega), if_neg (by omega), if_neg (by omega)]), rfl⟩
 refine A7 ?_
 refine sB (qE rfl rfl) rfl rfl (fun h133 => ?_) (fun h133 => ?_)
 refine J9 ?_
 exact ⟨rfl, by (unfold E2; first | rw [if_pos (by omega)] | rw [if_neg (by omega), if_pos (by omega)] | rw [if_neg (by omega), if_neg (by omega), if_pos (by omega)] | rw [if_neg (by omega), if_neg (by omega), if_neg (by omega), if_pos (by omega)] | rw [if_neg (by omega), if_neg (by omega), if_neg (by omega), if_neg (by omega)]), rfl⟩
 refine A7 ?_
 refine sB (qE rfl rfl) rfl rfl (fun h157 => ?_) (fun h157 => ?_)
 refine J9 ?_
 exact ⟨rfl, by (unfold E2; first | rw [if_pos (by omega)] | rw [if_neg (by omega), if_pos (by omega)] | rw [if_neg (by omega), if_neg (by omega), if_pos (by omega)] | rw [if_neg (by omega), if_neg (by omega), if_neg (by omega), if_pos (by omega)] | rw [if_neg (by omega), if_neg (by omega), if_neg (by omega), if_neg (by omega)]), rfl⟩
 refine A7 ?_
 refine sB (qE rfl rfl) rfl rfl (fun h181 => ?_) (fun h181 => ?_)
 refine J9 ?_
 exact ⟨rfl, by (unfold E2; first | rw [if_pos (by omega)] | rw [if_neg (by omega), if_pos (by omega)] | rw [if_neg (by omega), if_neg (by omega), if_pos (by omega)] | rw [if_neg (by omega), if_neg (by omega), if_neg (by omega), if_pos (by omega)] | rw [if_neg (by omega), if_neg (by omega), if_neg (by omega), if_neg (by omega)]), rfl⟩
 refine B0 ?_
 refine sB (qE rfl rfl) rfl rfl (fun h204 => ?_) (fun h204 => ?_)
 refine K3 ?_
 exact ⟨rfl, by (unfold E2; first | rw [if_pos (by omega)] | rw [if_neg (by omega), if_pos (by omega)] | rw [if_neg (by omega), if_neg (by omega), if_pos (by omega)] | rw [if_neg (by omega), if_neg (by omega), if_neg (by omega), if_pos (by omega)] | rw [if_neg (by omega), if_neg (by omega), if_neg (by omega), if_neg (by omega)]), rfl⟩
 refine B4 ?_
 refine sB (qE rfl rfl) rfl rfl (fun h226 => ?_) (fun h226 => ?_)
 refine J9 ?_
 exact ⟨rfl, by (unfold E2; first | rw [if_pos (by omega)] | rw [if_neg (by omega), if_pos (by omega)] | rw [if_neg (by omega), if_neg (by omega), if_pos (by omega)] | rw [if_neg (by omega), if_neg (by omega), if_neg (by omega), if_pos (by omega)] | rw [if_neg (by omega), if_neg (by omega), if_neg (by omega), if_neg (by omega)]), rfl⟩
 refine A7 ?_
 refine sB (qE rfl rfl) rfl rfl (fun h250 => ?_) (fun h250 => ?_)
 refine J9 ?_
 exact ⟨rfl, by (unfold E2; first | rw [if_pos (by omega)] | rw [if_neg (by omega), if_pos (by omega)] | rw [if_neg (by omega), if_neg (by omega), if_pos (by omega)] | rw [if_neg (by omega), if_neg (by omega), if_neg (by omega), if_pos (by omega)] | rw [if_neg (by omega), if_neg (by omega), if_neg (by omega), if_neg (by omega)]), rfl⟩
 refine A7 ?_
 refine sB (qE rfl rfl) rfl rfl (fun h274 => ?_) (fun h274 => ?_)
 refine J9 ?_
 exact ⟨rfl, by (unfold E2; first | rw [if_pos (by omega)] | rw [if_neg (by omega), if_pos (by omega)] | rw [if_neg (by omega), if_neg (by omega), if_pos (by omega)] | rw [if_neg (by omega), if_neg (by omega), if_neg (by omega), if_pos (by omega)] | rw [if_neg (by omega), if_neg (by omega), if_neg (by omega), if_neg (by omega)]), rfl⟩
 refine B0 ?_
 refine sB (qE rfl rfl) rfl rfl (fun h297 => ?_) (fun h297 => ?_)
 refine K3 ?_
 exact ⟨rfl, by (unfold E2; first | rw [if_pos (by omega)] | rw [if_neg (by omega), if_pos (by omega)] | rw [if_neg (by omega), if_neg (by omega), if_pos (by omega)] | rw [if_neg (by omega), if_neg (by omega), if_neg (by omega), if_pos (by omega)] | rw [if_neg (by omega), if_neg (by omega), if_neg (by omega), if_neg (by omega)]), rfl⟩
 refine A7 ?_
 refine sB (qE rfl rfl) rfl rfl (fun h318 => ?_) (fun h318 => ?_)
 refine K3 ?_
 exact ⟨rfl, by (unfold E2; first | rw [if_pos (by omega)] | rw [if_neg (by omega), if_pos (by omega)] | rw [if_neg (by omega), if_neg (by omega), if_pos (by omega)] | rw [if_neg (by omega), if_neg (by omega), if_neg (by omega), if_pos (by omega)] | rw [if_neg (by omega), if_neg (by omega), if_neg (by omega), if_neg (by omega)]), rfl⟩
 refine K5 ?_
 exact ⟨rfl, by (unfold E2; first | rw [if_pos (by omega)] | rw [if_neg (by omega), if_pos (by omega)] | rw [if_neg (by omega), if_neg (by omega), if_pos (by omega)] | rw [if_neg (by omega), if_neg (by omega), if_neg (by omega), if_pos (by omega)] | rw [if_neg (by omega), if_neg (by omega), if_neg (by omega), if_neg (by omega)]), rfl⟩
theorem B2f (s : ByteArray) (G : IM) : Fn Tryz.prog 233 [.string s] [] G (I5 (.bool (Y2 s)) G) := by
 refine C0 Tryz.func233 rfl Tryz.ntmps233 Tryz.results233 rfl ?_
 intro w0
 refine D6 ?_
 refine sQ (A2k rfl rfl) rfl (sB (qE rfl rfl) rfl rfl (fun h10 => ?_) (fun h10 => ?_))
 refine D7 ?_
 refine sP (A4h rfl rfl rfl (by omega) (A4t (by omega))) rfl rfl ?_
 refine sB (A0J rfl rfl) rfl rfl (fun h14 => ?_) (fun h14 => ?_)
 refine E3 ?_
 refine sP (A4h rfl rfl rfl (by omega) (A4t (by omega))) rfl rfl ?_
 refine sB (Y0 rfl rfl) rfl rfl (fun h19 => ?_) (fun h19 => ?_)
 refine A7 ?_
 exact ⟨rfl, by simp only [Y2]; (try simp only [Int.toNat_zero] at *); (first | rw [decide_eq_true (by omega)] | rw [decide_eq_false (by omega)]), rfl⟩
 refine A7 ?_
 exact ⟨rfl, by simp only [Y2]; (try simp only [Int.toNat_zero] at *); (first | rw [decide_eq_true (by omega)] | rw [decide_eq_false (by omega)]), rfl⟩
 refine J2 ?_
 exact ⟨rfl, by simp only [Y2]; (try simp only [Int.toNat_zero] at *); (first | rw [decide_eq_true (by omega)] | rw [decide_eq_false (by omega)]), rfl⟩
 refine I6 ?_
 exact ⟨rfl, by simp only [Y2]; (try simp only [Int.toNat_zero] at *); (first | rw [decide_eq_true (by omega)] | rw [decide_eq_false (by omega)]), rfl⟩
theorem A78 (t : Ty) (G : IM) (cells : List Value) (hr : C1 G t cells) : Fn Tryz.prog 242 [.agg ⟨cells⟩] [] G (I5 (.bool (Y1 t)) G) := by
 obtain ⟨p, c, es, rfl, hk, hsl, hkl⟩ := hr.open
 refine C0 Tryz.func242 rfl Tryz.ntmps242 Tryz.results242 rfl ?_
 intro w0
 refine tS (tR ?_)
 refine sE (C5 rfl rfl) rfl (fun b3 => ?_)
 refine B4 ?_
 refine sB (qE rfl rfl) rfl rfl (fun h11 => ?_) (fun h11 => ?_)
 refine B6 ?_
 refine sB (qE rfl rfl) rfl rfl (fun h16 => ?_) (fun h16 => ?_)
 refine A7 ?_
 exact ⟨rfl, by simp only [Y1]; (first | rw [decide_eq_true (by omega)] | rw [decide_eq_false (by omega)]), rfl⟩
 refine A7 ?_
 exact ⟨rfl, by simp only [Y1]; (first | rw [decide_eq_true (by omega)] | rw [decide_eq_false (by omega)]), rfl⟩
 refine J2 ?_
 exact ⟨rfl, by simp only [Y1]; (first | rw [decide_eq_true (by omega)] | rw [decide_eq_false (by omega)]), rfl⟩
def A0O (n : Int) : Int := if n < -99 ∨ n > 99 then 0 else if n < 0 then -n else n
theorem B2g (n : Int) (G : IM) : Fn Tryz.prog 241 [.int .i64 n] [] G (I5 (.int .i64 (A0O n)) G) := by
 refine C0 Tryz.func241 rfl Tryz.ntmps241 Tryz.results241 rfl ?_
 intro w0
 refine E4 ?_
 refine sB (I0 rfl rfl) rfl rfl (fun h10 => ?_) (fun h10 => ?_)
 refine I6 ?_
 exact ⟨rfl, by (unfold A0O; first | rw [if_pos (by omega)] | rw [if_neg (by omega), if_pos (by omega)] | rw [if_neg (by omega), if_neg (by omega)]), rfl⟩
 refine D7 ?_
 refine sB (X2 rfl rfl) rfl rfl (fun h29 => ?_) (fun h29 => ?_)
 refine K8 ?_
 exact ⟨rfl, by (unfold A0O; first | rw [if_pos (by omega)] | rw [if_neg (by omega), if_pos (by omega)] | rw [if_neg (by omega), if_neg (by omega)]), rfl⟩
 refine J5 ?_
 refine sB (I0 rfl rfl) rfl rfl (fun h53 => ?_) (fun h53 => ?_)
 refine A7 ?_
 refine sP (A4f rfl (by omega) (by omega)) rfl rfl ?_
 refine A7 ?_
 exact ⟨rfl, by (unfold A0O; first | rw [if_pos (by omega)] | rw [if_neg (by omega), if_pos (by omega)] | rw [if_neg (by omega), if_neg (by omega)]), rfl⟩
 refine K3 ?_
 exact ⟨rfl, by (unfold A0O; first | rw [if_pos (by omega)] | rw [if_neg (by omega), if_pos (by omega)] | rw [if_neg (by omega), if_neg (by omega)]), rfl⟩
theorem Sl.of_blk {G : IM} {b n c sz : Nat} {A C cs : List Value} (hl : cs.length = n * sz) (hc : n ≤ c) (hm : c ≤ maxLen) (hg : G b = some (A ++ (cs ++ C))) : Sl G (some ⟨b, A.length, none⟩) n c sz cs := by
 refine ⟨hl, hc, hm, .inr ⟨b, A.length, _, rfl, hg, fun j v hj => ?_⟩⟩
 have hlt : j < cs.length := (List.getElem?_eq_some_iff.1 hj).1
 rw [List.getElem?_append, if_neg (by omega), List.getElem?_append, if_pos (by omega), show A.length + j - A.length = j by omega]
 exact hj
def InG (G : IM) (bs : A03) (F : List Nat) : Prop := (bs.map Prod.fst).Sublist F ∧ ∀ q ∈ bs, G q.1 = some q.2
mutual
theorem A3H : ∀ t : Ty, J7 t ≤ 4294967296 → t.small
 | .mk _ ks, h => by
  rw [J7] at h
  have := A1G ks
  simp only [Ty.small]
  exact ⟨by omega, A79 ks (by omega)⟩
theorem A79 : ∀ ts : List Ty, O3 ts ≤ 4294967296 → Ty.smallL ts
 | [], _ => by simp [Ty.smallL]
 | t :: ts, h => by
  rw [O3] at h
  have := A04 t
  have := A1G ts
  simp only [Ty.smallL]
  exact ⟨A3H t (by omega), A79 ts (by omega)⟩
end
mutual
theorem A8a : ∀ t : Tm, A0q t ≤ 4294967296 → t.small
 | .mk _ nm _ ty fr _ ks, h => by
  rw [A0q] at h
  have := A4B ks
  have := A04 ty
  have := A04 fr
  simp only [Tm.small]
  exact ⟨by omega, A3H ty (by omega), A3H fr (by omega), by omega, A8b ks (by omega)⟩
theorem A8b : ∀ ts : List Tm, X5 ts ≤ 4294967296 → Tm.smallL ts
 | [], _ => by simp [Tm.smallL]
 | t :: ts, h => by
  rw [X5] at h
  have := A7U t
  have := A4B ts
  simp only [Tm.smallL]
  exact ⟨A8a t (by omega), A8b ts (by omega)⟩
end
mutual
theorem A5T : ∀ t : Tm, (D0 t : Int) ≤ A0q t + 1
 | .mk _ nm _ ty fr _ ks => by
  have := A8c ks
  have := A04 ty
  have := A04 fr
  rw [A0q, D0]; omega
theorem A8c : ∀ ts : List Tm, (E7 ts : Int) ≤ ts.length + X5 ts
 | [] => by rw [X5, E7]; simp
 | t :: ts => by
  have := A5T t
  have := A8c ts
  rw [X5, E7, List.length_cons]; omega
end
def P8 : Ty := .mk 1 []
def Q9 : Nat → Ty → Prop
 | 0, .mk k ks => ks = [] ∧ k ≠ 4 ∧ k ≠ 5
 | n + 1, .mk k ks => (k = 4 ∨ k = 5 → ks.length = 2) ∧ (k ≠ 4 → k ≠ 5 → ks.length = 0) ∧ ∀ t ∈ ks, Q9 n t
mutual
def F4 : Ty → Prop
 | .mk k ks => (k = 4 ∨ k = 5 → ks.length = 2) ∧ (k ≠ 4 → k ≠ 5 → ks.length = 0) ∧ A0P ks
def A0P : List Ty → Prop
 | [] => True
 | t :: ts => F4 t ∧ A0P ts
end
theorem A1I : ∀ {ts : List Ty}, A0P ts ↔ ∀ t ∈ ts, F4 t
 | [] => by simp [A0P]
 | t :: ts => by simp only [A0P, A1I (ts := ts), List.forall_mem_cons]
theorem Q9.ar : ∀ {n : Nat} {t : Ty}, Q9 n t → F4 t
 | 0, .mk k ks, h => by
  obtain ⟨rfl, h1, h2⟩ := h
  rw [F4]
  exact ⟨fun h => by omega, fun _ _ => rfl, by rw [A0P]; trivial⟩
 | n + 1, .mk k ks, h => by
  obtain ⟨h1, h2, h3⟩ := h
  rw [F4]
  exact ⟨h1, h2, A1I.2 fun t ht => (h3 t ht).ar⟩
theorem Q9.up : ∀ {n : Nat} {t : Ty}, Q9 n t → Q9 (n + 1) t
 | 0, .mk k ks, h => by
  obtain ⟨rfl, h1, h2⟩ := h
  exact ⟨fun h => by omega, fun _ _ => rfl, by simp⟩
 | n + 1, .mk k ks, h => by
  obtain ⟨h1, h2, h3⟩ := h
  exact ⟨h1, h2, fun t ht => (h3 t ht).up⟩
theorem Q9.le {n m : Nat} {t : Ty} (h : Q9 n t) (hm : n ≤ m) : Q9 m t := by
 induction hm with
 | refl => exact h
 | step _ ih => exact ih.up
theorem B2h {d : Nat} {k : Int} {ts : List Ty} (h0 : d = 0 → k < 4) (hl : (ts.length : Int) = V0 k) (h1 : 1 ≤ k) (h5 : k ≤ 5) (ha : ∀ u ∈ ts, Q9 (d - 1) u) : Q9 d (.mk k ts) := by
 have hk : k = 1 ∨ k = 2 ∨ k = 3 ∨ k = 4 ∨ k = 5 := by omega
 cases d with
 | zero =>
  have hk4 := h0 rfl
  refine ⟨?_, by omega, by omega⟩
  have : V0 k = 0 := by
   rcases hk with rfl | rfl | rfl | rfl | rfl <;> first | rfl | omega
  exact List.length_eq_zero_iff.1 (by omega)
 | succ d =>
  refine ⟨?_, ?_, ha⟩
  ·rintro (rfl | rfl)
   ·have : V0 4 = 2 := rfl
    omega
   ·have : V0 5 = 2 := rfl
    omega
  ·intro h4 h5
   have : V0 k = 0 := by
    rcases hk with rfl | rfl | rfl | rfl | rfl <;> first | rfl | omega
   omega
theorem A8d (n : Nat) : Q9 n P8 := by
 refine Q9.le (n := 0) ⟨rfl, by decide, by decide⟩ (Nat.zero_le n)
theorem A2Z (n : Nat) {k : Int} (h4 : k ≠ 4) (h5 : k ≠ 5) : Q9 n (.mk k []) := Q9.le (n := 0) ⟨rfl, h4, h5⟩ (Nat.zero_le n)
theorem A3I : F4 P8 := (A8d 0).ar
mutual
theorem F4.small : ∀ {t : Ty}, F4 t → t.small
 | .mk k ks, h => by
  rw [F4] at h
  rw [Ty.small]
  exact ⟨by have h1 := h.1; have h2 := h.2.1; omega, A0P.small h.2.2⟩
theorem A0P.small : ∀ {ts : List Ty}, A0P ts → Ty.smallL ts
 | [], _ => by rw [Ty.smallL]; trivial
 | t :: ts, h => by
  rw [A0P] at h
  rw [Ty.smallL]
  exact ⟨h.1.small, A0P.small h.2⟩
end
theorem A4G : ∀ {n : Nat} {t : Ty}, Q9 n t → J7 t ≤ ((2 ^ (n + 1) - 2 : Nat) : Int)
 | 0, .mk k ks, h => by
  obtain ⟨rfl, h1, h2⟩ := h
  rw [J7, O3]; simp
 | n + 1, .mk k ks, h => by
  obtain ⟨h1, h2, h3⟩ := h
  have hp : 2 ≤ 2 ^ (n + 1) := by
   have := Nat.pow_le_pow_right (n := 2) (by omega) (show 1 ≤ n + 1 by omega)
   simpa using this
  have e : 2 ^ (n + 1 + 1) = 2 ^ (n + 1) * 2 := Nat.pow_succ ..
  have hl : ks.length = 0 ∨ ks.length = 2 := by omega
  rw [J7]
  match ks, hl, h3 with
  | [], _, _ => rw [O3]; simp
  | [a, b], _, h3 =>
   have := A4G (h3 a (by simp))
   have := A4G (h3 b (by simp))
   simp only [O3, List.length_cons, List.length_nil]; omega
theorem B2i {k : Int} {ks us : List Ty} : ∀ {n : Nat}, Q9 n (.mk k ks) → us.length = ks.length → (∀ u ∈ us, Q9 (n - 1) u) → Q9 n (.mk k us)
 | 0, h, hl, _ => by
  obtain ⟨rfl, h1, h2⟩ := h
  exact ⟨List.length_eq_zero_iff.1 (by simpa using hl), h1, h2⟩
 | n + 1, h, hl, hu => by
  obtain ⟨h1, h2, h3⟩ := h
  exact ⟨fun hk => by rw [hl]; exact h1 hk, fun a b => by rw [hl]; exact h2 a b, hu⟩
theorem A5U {k : Int} {ks : List Ty} {t : Ty} : ∀ {n : Nat}, Q9 n (.mk k ks) → t ∈ ks → Q9 (n - 1) t
 | 0, h, ht => by
  obtain ⟨rfl, h1, h2⟩ := h
  simp at ht
 | n + 1, h, ht => h.2.2 t ht
theorem A8e {k : Int} {ks : List Ty} {d : Int} (h : 4 < d ∨ V0 k ≠ ks.length) : K9 (.mk k ks) d = false := by
 rw [K9]
 rcases h with h | h
 ·rw [decide_eq_false (by omega)]; rfl
 ·rw [decide_eq_false (p := V0 k = ks.length) h, Bool.and_false]; rfl
theorem A8f {k : Int} {ks : List Ty} {d : Int} (h : d ≤ 4) (h2 : V0 k = ks.length) : K9 (.mk k ks) d = U1 ks (d + 1) := by
 rw [K9, decide_eq_true h, decide_eq_true h2]; rfl
theorem B2j {ks : List Ty} {d : Int} {i : Nat} (hi : i < ks.length) (h : K9 ks[i] d = false) : U1 ks d = false := by
 cases hx : U1 ks d with
 | false => rfl
 | true => rw [(A4s ks d).1 hx i hi] at h; cases h
theorem B2k : ∀ (t : Ty) (d : Int) (G : IM) (cells : List Value), 0 ≤ d ∧ d ≤ 4 → C1 G t cells →
  Fn Tryz.prog 196 [.agg ⟨cells⟩, .int .i64 d] [] G (I5 (.bool (K9 t (5 - d))) G) := by
 refine Ty.ind fun k ks ih d G cells hd hr => ?_
 obtain ⟨p, c, es, rfl, hk, hsl, hkl⟩ := hr.open
 simp only [Ty.k, Ty.ks] at hk hsl hkl ⊢
 have hn := hsl.le
 have hk1 := A77 k G
 refine C0 Tryz.func196 rfl Tryz.ntmps196 Tryz.results196 rfl ?_
 intro w0
 refine tS (tR ?_)
 refine sE (C5 rfl rfl) rfl (fun b3 => ?_)
 refine B0 ?_
 refine E0 E1 rfl ?_
 refine I8 (i := 0) (l' := [tt,ff,ff,ff,ff,ff,ff,ff,ff,ff,ff]) rfl D2 (qM rfl) rfl (by kernel_rfl) rfl rfl ?_
 refine A0w (i := 1) (l' := [tt,tt,ff,ff,ff,ff,ff,ff,ff,ff,ff]) rfl D2 (I0 rfl rfl) rfl (by kernel_rfl) rfl rfl (fun h11 => ?_) (fun h11 => ?_)
 refine aP 2 rfl (qM rfl) rfl ?_
 refine C3 3 rfl rfl rfl ?_
 refine C3 4 rfl rfl rfl ?_
 refine C3 6 rfl rfl rfl ?_
 refine C3 7 rfl rfl rfl ?_
 refine C3 8 rfl rfl rfl ?_
 refine C3 5 rfl rfl rfl ?_
 refine C3 9 rfl rfl rfl ?_
 refine aP 10 rfl (N7 rfl rfl) rfl ?_
 refine J2 ?_
 (rw [A8e (by omega)]; exact ⟨rfl, rfl, rfl⟩)
 refine aP 2 rfl (qM rfl) rfl ?_
 refine aP 3 rfl (B7 rfl) rfl ?_
 refine aL 4 rfl (C7 rfl rfl) rfl ?_
 refine aP 6 rfl (B7 rfl) rfl ?_
 refine aL 7 rfl (C7 rfl rfl) rfl ?_
 refine aP 8 rfl (pLn rfl rfl) rfl ?_
 refine A3 5 ?_
 refine O2 rfl rfl (hk1) rfl rfl rfl ?_
 refine A0w (i := 9) (l' := [tt,tt,tt,tt,tt,tt,tt,tt,tt,tt,ff]) rfl D2 (O9 rfl rfl) rfl (by kernel_rfl) rfl rfl (fun h41 => ?_) (fun h41 => ?_)
 refine aP 10 rfl (N4 rfl rfl) rfl ?_
 refine J2 ?_
 (rw [A8e (by omega)]; exact ⟨rfl, rfl, rfl⟩)
 refine aP 10 rfl (N4 rfl rfl) rfl ?_
 refine J2 ?_
 refine B8 ?_
 (refine I2 (fun (i : Nat) => ⟨[(5, .int .i64 i), (2, .pointer (some ⟨b3, 0, none⟩)), (1, .int .i64 d)], [.blk b3 [.int .i64 k, .slice p ks.length c]], G⟩) (fun i => i ≤ ks.length ∧ ∀ j (h : j < ks.length), j < i → K9 ks[j] (5 - d + 1) = true) (fun i => ks.length - i) 0 ?_ ?_ ?_)
 exact D3
 exact ⟨by omega, by omega⟩
 (rintro i ⟨hi, hf⟩)
 refine B4 ?_
 refine sB (I0 rfl rfl) rfl rfl (fun h79 => ?_) (fun h79 => ?_)
 refine A7 ?_
 refine B8 ?_
 refine B0 ?_
 (obtain ⟨b, o, p2, c2, rfl, hat, hre, hgb⟩ := hsl.kidTy hkl (i := i) (by omega) (by omega); refine sP (B3 rfl rfl rfl (by omega)) rfl rfl ?_)
 refine sL (A2 rfl rfl (hat _) rfl) rfl rfl ?_
 refine sQ (qM rfl) rfl ?_
 refine sP (P2 rfl rfl (by omega) (by omega)) rfl rfl ?_
 (have hih := ih ks[i] (List.getElem_mem (by omega)) (d - 1) G _ (by omega) hre; rw [show 5 - (d - 1) = 5 - d + 1 by omega] at hih; refine H4 rfl hih rfl rfl (fun h96 => ?_) (fun h96 => ?_))
 refine E4 ?_
 refine sP (H2 rfl rfl (by omega) (by omega)) rfl rfl ?_
 refine D7 ?_
 refine H9 (i + 1) ?_ ?_ ?_
 exact D3
 exact ⟨by omega, fun j hj hji => by (by_cases he : j = i; (subst he; assumption); exact hf j hj (by omega))⟩
 omega
 refine J9 ?_
 (rw [A8f (by omega) (by omega), B2j (i := i) (by omega) (by assumption)]; exact ⟨rfl, rfl, rfl⟩)
 refine I6 ?_
 (rw [A8f (by omega) (by omega), (A4s ks _).2 (fun j hj => hf j hj (by omega))]; exact ⟨rfl, rfl, rfl⟩)
theorem A1J (t : Ty) (G : IM) (cells : List Value) (hr : C1 G t cells) : Fn Tryz.prog 143 [.agg ⟨cells⟩] [] G (I5 (.bool (F9 t)) G) := by
 have hl := hr.len
 have hv := B2k t 4 G cells (by omega) hr
 refine C0 Tryz.func143 rfl Tryz.ntmps143 Tryz.results143 rfl ?_
 intro w0
 refine tS (tR ?_)
 refine sE (C5 rfl rfl) rfl (fun b3 => ?_)
 refine B0 ?_
 refine sL (A2 rfl rfl (A9 (by repeat first | exact mH | apply mT)) (by assumption)) rfl rfl ?_
 refine H3 rfl (hv) rfl rfl ?_
 refine B0 ?_
 exact ⟨rfl, rfl, rfl⟩
theorem A3J {k : Int} {ks : List Ty} {d : Int} (h : K9 (.mk k ks) d = true) : V0 k = ks.length ∧ ∀ i, (hi : i < ks.length) → K9 ks[i] (d + 1) = true := by
 rw [K9] at h
 simp only [Bool.and_eq_true, decide_eq_true_eq] at h
 exact ⟨h.1.2, (A4s ks _).1 h.2⟩
theorem A4H {k k' : Int} {ks ks' : List Ty} (h : k = 1 ∨ k' = 1) : K0 (.mk k ks) (.mk k' ks') = true := by
 rw [S7]
 rcases h with h | h
 ·rw [decide_eq_true (p := k = 1) h]; rfl
 ·rw [decide_eq_true (p := k' = 1) h]; simp
theorem A8g {k k' : Int} {ks ks' : List Ty} (h : k ≠ 1) (h' : k' ≠ 1) (hk : k ≠ k') : K0 (.mk k ks) (.mk k' ks') = false := by
 rw [S7, decide_eq_false h, decide_eq_false h', decide_eq_false hk]; rfl
theorem A4I {k k' : Int} {ks ks' : List Ty} (h : k ≠ 1) (h' : k' ≠ 1) (hk : k = k') : K0 (.mk k ks) (.mk k' ks') = M9 ks ks' := by
 rw [S7, decide_eq_false h, decide_eq_false h', decide_eq_true hk]; rfl
theorem A8h {ks ks' : List Ty} {i : Nat} (hi : i < ks.length) (hi' : i < ks'.length) (h : K0 ks[i] ks'[i] = false) : M9 ks ks' = false := by
 cases hx : M9 ks ks' with
 | false => rfl
 | true => rw [((A1Y ks ks').1 hx).2 i hi hi'] at h; cases h
theorem B2l : ∀ (t t' : Ty) (G : IM) (cells cells' : List Value) (d d' : Int), K9 t d = true → K9 t' d' = true → C1 G t cells → C1 G t' cells' →
  Fn Tryz.prog 206 [.agg ⟨cells⟩, .agg ⟨cells'⟩] [] G (I5 (.bool (K0 t t')) G) := by
 refine Ty.ind fun k ks ih t' G cells cells' d d' hv hv' hr hr' => ?_
 obtain ⟨k', ks'⟩ := t'
 obtain ⟨p, c, es, rfl, hk, hsl, hkl⟩ := hr.open
 obtain ⟨p', c', es', rfl, hk', hsl', hkl'⟩ := hr'.open
 simp only [Ty.k, Ty.ks] at hk hsl hkl hk' hsl' hkl' ⊢
 have hn := hsl.le
 have hn' := hsl'.le
 obtain ⟨hv1, hv2⟩ := A3J hv
 obtain ⟨hv1', hv2'⟩ := A3J hv'
 have hle : k = k' → ks.length = ks'.length := by rintro rfl; omega
 refine C0 Tryz.func206 rfl Tryz.ntmps206 Tryz.results206 rfl ?_
 intro w0
 refine tS (tR ?_)
 refine sE (C5 rfl rfl) rfl (fun b3 => ?_)
 refine sE (C5 rfl rfl) rfl (fun b4 => ?_)
 refine D6 ?_
 refine sB (qE rfl rfl) rfl rfl (fun h13 => ?_) (fun h13 => ?_)
 refine J9 ?_
 (rw [A4H (by omega)]; exact ⟨rfl, rfl, rfl⟩)
 refine E3 ?_
 refine sB (qE rfl rfl) rfl rfl (fun h34 => ?_) (fun h34 => ?_)
 refine K8 ?_
 (rw [A4H (by omega)]; exact ⟨rfl, rfl, rfl⟩)
 refine K3 ?_
 refine sB (O9 rfl rfl) rfl rfl (fun h61 => ?_) (fun h61 => ?_)
 refine J2 ?_
 (rw [A8g (by omega) (by omega) (by omega)]; exact ⟨rfl, rfl, rfl⟩)
 refine J2 ?_
 refine B8 ?_
 (have hll : ks.length = ks'.length := hle (by omega); refine I2 (fun (i : Nat) => ⟨[(5, .int .i64 i), (3, .pointer (some ⟨b4, 0, none⟩)), (2, .pointer (some ⟨b3, 0, none⟩))], [.blk b3 [.int .i64 k, .slice p ks.length c], .blk b4 [.int .i64 k', .slice p' ks'.length c']], G⟩) (fun i => i ≤ ks.length ∧ ∀ j (h : j < ks.length) (h' : j < ks'.length), j < i → K0 ks[j] ks'[j] = true) (fun i => ks.length - i) 0 ?_ ?_ ?_)
 exact D3
 exact ⟨by omega, by omega⟩
 (rintro i ⟨hi, hf⟩)
 refine B4 ?_
 refine sB (I0 rfl rfl) rfl rfl (fun h97 => ?_) (fun h97 => ?_)
 refine A7 ?_
 refine B8 ?_
 refine tS ?_
 (obtain ⟨b, o, p2, c2, rfl, hat, hre, hgb⟩ := hsl.kidTy hkl (i := i) (by omega) (by omega); obtain ⟨b', o', p2', c2', rfl, hat', hre', hgb'⟩ := hsl'.kidTy hkl' (i := i) (by omega) (by omega); refine E0 E1 rfl ?_)
 refine I8 (i := 0) (l' := [tt,ff,ff,ff,ff,ff,ff,ff,ff,ff,ff,ff]) rfl D2 (B7 rfl) rfl (by kernel_rfl) rfl rfl ?_
 refine aL 1 rfl (C7 rfl rfl) rfl ?_
 refine aP 2 rfl (qM rfl) rfl ?_
 refine aP 3 rfl (B3 rfl rfl rfl (by omega)) rfl ?_
 refine aL 4 rfl (A2 rfl rfl (hat _) rfl) rfl ?_
 refine aP 5 rfl (B7 rfl) rfl ?_
 refine aL 6 rfl (C7 rfl rfl) rfl ?_
 refine aP 7 rfl (qM rfl) rfl ?_
 refine aP 8 rfl (B3 rfl rfl rfl (by omega)) rfl ?_
 refine aL 9 rfl (A2 rfl rfl (hat' _) rfl) rfl ?_
 refine A3 10 ?_
 refine U5 rfl rfl (ih ks[i] (List.getElem_mem (by omega)) ks'[i] G _ _ _ _ (hv2 i (by omega)) (hv2' i (by omega)) hre hre') rfl rfl rfl (fun h118 => ?_) (fun h118 => ?_)
 refine aP 11 rfl (pNt rfl) rfl ?_
 refine D6 ?_
 refine sP (H2 rfl rfl (by omega) (by omega)) rfl rfl ?_
 refine D7 ?_
 refine H9 (i + 1) ?_ ?_ ?_
 exact D3
 exact ⟨by omega, fun j hj hj' hji => by (by_cases he : j = i; (subst he; assumption); exact hf j hj hj' (by omega))⟩
 omega
 refine aP 11 rfl (pNf rfl) rfl ?_
 refine I6 ?_
 (rw [A4I (by omega) (by omega) (by omega), A8h (i := i) (by omega) (by omega) (by assumption)]; exact ⟨rfl, rfl, rfl⟩)
 refine I6 ?_
 (rw [A4I (by omega) (by omega) (by omega), (A1Y ks _).2 ⟨hll, fun j hj hj' => hf j hj hj' (by omega)⟩]; exact ⟨rfl, rfl, rfl⟩)
section blaws
variable {P : Program} {Γ : L9} {env : M4} {hp : List A5} {G : IM} {ty : TypeId}
theorem A06 {x y : Operand} {t t' : TypeId} {i : L5} [hI : I9 P t i] (hd : i.desc = .bool) {r : Bool} (hx : evo env x = some (.bool r)) (hy : evo env y = some (.bool r)) :
  I7 P Γ ⟨env, hp, G⟩ (.binOp .neq t x y t') ty (.bool false) := by
 have h := A5v (P := P) (Γ := Γ) (hp := hp) (G := G) (t := t) (t' := t') (ty := ty) hd hx hy
 rwa [decide_eq_false (by simp)] at h
theorem A8i {x y : Operand} {t t' : TypeId} {i : L5} [hI : I9 P t i] (hd : i.desc = .bool) (hx : evo env x = some (.bool true)) (hy : evo env y = some (.bool false)) :
  I7 P Γ ⟨env, hp, G⟩ (.binOp .neq t x y t') ty (.bool true) := A5v hd hx hy
theorem A5V {x y : Operand} {t t' : TypeId} {i : L5} [hI : I9 P t i] (hd : i.desc = .bool) (hx : evo env x = some (.bool false)) (hy : evo env y = some (.bool true)) :
  I7 P Γ ⟨env, hp, G⟩ (.binOp .neq t x y t') ty (.bool true) := A5v hd hx hy
end blaws
theorem B2m (n : Int) : ((1 ≤ A0O n ∧ A0O n ≤ 99) ↔ A01 n = true) := by
 unfold A0O A01 R8
 simp only [Bool.or_eq_true, decide_eq_true_eq]
 split
 ·omega
 ·split <;> omega
theorem B2n (k : Int) (nm : ByteArray) (num : Int) (ty fr : Ty) (lb : Int) (ks : List Tm) (G : IM) (cells : List Value) (hr : A8 G (.mk k nm num ty fr lb ks) cells) (R : Bool)
  (hi : R = true ↔ nm = ⟨#[]⟩ ∧ num = 0 ∧ (1 ≤ A0O lb ∧ A0O lb ≤ 99) ∧ F9 ty = true ∧ F9 fr = true ∧ K0 fr ty = true) :
  Fn Tryz.prog 228 [.agg ⟨cells⟩] [] G (I5 (.bool R) G) := by
 obtain ⟨tk, tks⟩ := ty
 obtain ⟨fk, fks⟩ := fr
 obtain ⟨pt, ct, pf, cf, p, c, es, rfl, hk, hnum, hlb, hty, hfr, hsl, hkl⟩ := hr.open9
 clear hr
 have o3 := A1J _ G _ hty
 have o4 := A1J _ G _ hfr
 have o6 := B2g lb G
 refine C0 Tryz.func228 rfl Tryz.ntmps228 Tryz.results228 rfl ?_
 intro w0
 refine tS (tR ?_)
 refine sE (C5 rfl rfl) rfl (fun b3 => ?_)
 refine B4 ?_
 refine H3 rfl (o6) rfl rfl ?_
 refine B4 ?_
 refine sB (A1B rfl rfl) rfl rfl (fun h19 => ?_) (fun h19 => ?_)
 refine E3 ?_
 refine sB (qE rfl rfl) rfl rfl (fun h23 => ?_) (fun h23 => ?_)
 refine E3 ?_
 refine sB (A0J rfl rfl) rfl rfl (fun h27 => ?_) (fun h27 => ?_)
 refine E3 ?_
 refine sB (Y0 rfl rfl) rfl rfl (fun h31 => ?_) (fun h31 => ?_)
 refine B6 ?_
 refine H4 rfl (o3) rfl rfl (fun h36 => ?_) (fun h36 => ?_)
 refine B6 ?_
 refine H4 rfl (o4) rfl rfl (fun h41 => ?_) (fun h41 => ?_)
 refine A7 ?_
 refine H4 rfl (B2l _ _ G _ _ _ _ (by assumption) (by assumption) hfr hty) rfl rfl (fun h48 => ?_) (fun h48 => ?_)
 refine A7 ?_
 exact ⟨rfl, by rw [hi.2 ⟨by (first | assumption | exact Classical.not_not.1 (by assumption)), by omega, by omega, by assumption, by assumption, by assumption⟩], rfl⟩
 refine A7 ?_
 exact ⟨rfl, by (cases R with | false => rfl | true => (exfalso; obtain ⟨i1, i2, i3, i4, i5, i6⟩ := hi.1 rfl; first | omega | (simp_all; done))), rfl⟩
 refine K3 ?_
 exact ⟨rfl, by (cases R with | false => rfl | true => (exfalso; obtain ⟨i1, i2, i3, i4, i5, i6⟩ := hi.1 rfl; first | omega | (simp_all; done))), rfl⟩
 refine U4 ?_
 exact ⟨rfl, by (cases R with | false => rfl | true => (exfalso; obtain ⟨i1, i2, i3, i4, i5, i6⟩ := hi.1 rfl; first | omega | (simp_all; done))), rfl⟩
 refine A1j ?_
 exact ⟨rfl, by (cases R with | false => rfl | true => (exfalso; obtain ⟨i1, i2, i3, i4, i5, i6⟩ := hi.1 rfl; first | omega | (simp_all; done))), rfl⟩
 refine A7z ?_
 exact ⟨rfl, by (cases R with | false => rfl | true => (exfalso; obtain ⟨i1, i2, i3, i4, i5, i6⟩ := hi.1 rfl; first | omega | (simp_all; done))), rfl⟩
 refine A0c ?_
 refine K7 (rT rfl) ?_
 exact ⟨rfl, by (cases R with | false => rfl | true => (exfalso; obtain ⟨i1, i2, i3, i4, i5, i6⟩ := hi.1 rfl; first | omega | (simp_all; done))), rfl⟩
 refine A0c ?_
 refine B0 ?_
 exact ⟨rfl, by (cases R with | false => rfl | true => (exfalso; obtain ⟨i1, i2, i3, i4, i5, i6⟩ := hi.1 rfl; first | omega | (simp_all; done))), rfl⟩
theorem A8j (k : Int) (nm : ByteArray) (num : Int) (ty fr : Ty) (lb : Int) (ks : List Tm) (G : IM) (cells : List Value) (hr : A8 G (.mk k nm num ty fr lb ks) cells) (R : Bool)
  (hi : R = true ↔ (k = 1 ∨ k = 5 → Y2 nm = true) ∧ (¬(k = 1 ∨ k = 5) → nm = ⟨#[]⟩) ∧ (k = 5 ∨ k = 13 ∨ k = 14 → F9 ty = true) ∧ (¬(k = 5 ∨ k = 13 ∨ k = 14) → Y1 ty = true) ∧ (k ≠ 14 → Y1 fr = true ∧ lb = 0) ∧ (k = 2 → 0 ≤ num ∧ num ≤ 999) ∧ (k ≠ 2 → num = 0)) :
  Fn Tryz.prog 229 [.agg ⟨cells⟩] [] G (I5 (.bool R) G) := by
 have he : nm = ⟨#[]⟩ → Y2 nm = false := by rintro rfl; rfl
 obtain ⟨tk, tks⟩ := ty
 obtain ⟨fk, fks⟩ := fr
 obtain ⟨pt, ct, pf, cf, p, c, es, rfl, hk, hnum, hlb, hty, hfr, hsl, hkl⟩ := hr.open9
 clear hr
 have o2 := B2f nm G
 have o3 := A1J _ G _ hty
 have o4 := A78 _ G _ hty
 have o7 := A78 _ G _ hfr
 refine C0 Tryz.func229 rfl Tryz.ntmps229 Tryz.results229 rfl ?_
 intro w0
 refine tS (tR ?_)
 refine sE (C5 rfl rfl) rfl (fun b3 => ?_)
 refine B4 ?_
 refine sB (qE rfl rfl) rfl rfl (fun h11 => ?_) (fun h11 => ?_)
 refine K8 ?_
 refine sP (J3 rfl rfl (by omega)) rfl rfl ?_
 refine E3 ?_
 refine sP (J3 rfl rfl (by omega)) rfl rfl ?_
 refine B6 ?_
 refine sP (J3 rfl rfl (by omega)) rfl rfl ?_
 refine J5 ?_
 refine H4 rfl (o2) rfl rfl (fun h44 => ?_) (fun h44 => ?_)
 refine sQ (A06 rfl rfl rfl) rfl ?_
 refine A2W ?_
 refine H4 rfl (o4) rfl rfl (fun h70 => ?_) (fun h70 => ?_)
 refine K3 ?_
 refine sP (A0y rfl rfl (by omega)) rfl rfl ?_
 refine E3 ?_
 refine H4 rfl (o7) rfl rfl (fun h88 => ?_) (fun h88 => ?_)
 refine B6 ?_
 refine sB (O9 rfl rfl) rfl rfl (fun h93 => ?_) (fun h93 => ?_)
 refine K3 ?_
 exact ⟨rfl, by (cases R with | false => rfl | true => (exfalso; obtain ⟨i1, i2, i3, i4, i5, i6, i7⟩ := hi.1 rfl; first | omega | (have j := i1 (by omega); simp_all; done) | (have j := he (i2 (by omega)); simp_all; done) | (have j := i2 (by omega); simp_all; done) | (have j := i3 (by omega); simp_all; done) | (have j := i4 (by omega); simp_all; done) | (have j := i5 (by omega); simp_all; done))), rfl⟩
 refine K8 ?_
 refine sP (J3 rfl rfl (by omega)) rfl rfl ?_
 refine E4 ?_
 refine sB (qE rfl rfl) rfl rfl (fun h130 => ?_) (fun h130 => ?_)
 refine B0 ?_
 exact ⟨rfl, by rw [hi.2 ⟨fun _ => by (first | assumption | (exfalso; omega)), fun _ => by (first | assumption | (exfalso; omega) | exact Classical.not_not.1 (by assumption)), fun _ => by (first | assumption | (exfalso; omega)), fun _ => by (first | assumption | (exfalso; omega)), fun _ => ⟨by (first | assumption | (exfalso; omega)), by (first | assumption | omega)⟩, by omega, by omega⟩], rfl⟩
 refine B0 ?_
 exact ⟨rfl, by (cases R with | false => rfl | true => (exfalso; obtain ⟨i1, i2, i3, i4, i5, i6, i7⟩ := hi.1 rfl; first | omega | (have j := i1 (by omega); simp_all; done) | (have j := he (i2 (by omega)); simp_all; done) | (have j := i2 (by omega); simp_all; done) | (have j := i3 (by omega); simp_all; done) | (have j := i4 (by omega); simp_all; done) | (have j := i5 (by omega); simp_all; done))), rfl⟩
 refine U4 ?_
 exact ⟨rfl, by (cases R with | false => rfl | true => (exfalso; obtain ⟨i1, i2, i3, i4, i5, i6, i7⟩ := hi.1 rfl; first | omega | (have j := i1 (by omega); simp_all; done) | (have j := he (i2 (by omega)); simp_all; done) | (have j := i2 (by omega); simp_all; done) | (have j := i3 (by omega); simp_all; done) | (have j := i4 (by omega); simp_all; done) | (have j := i5 (by omega); simp_all; done))), rfl⟩
 refine K5 ?_
 exact ⟨rfl, by (cases R with | false => rfl | true => (exfalso; obtain ⟨i1, i2, i3, i4, i5, i6, i7⟩ := hi.1 rfl; first | omega | (have j := i1 (by omega); simp_all; done) | (have j := he (i2 (by omega)); simp_all; done) | (have j := i2 (by omega); simp_all; done) | (have j := i3 (by omega); simp_all; done) | (have j := i4 (by omega); simp_all; done) | (have j := i5 (by omega); simp_all; done))), rfl⟩
 refine sQ (A8i rfl rfl rfl) rfl ?_
 refine A0c ?_
 refine E4 ?_
 exact ⟨rfl, by (cases R with | false => rfl | true => (exfalso; obtain ⟨i1, i2, i3, i4, i5, i6, i7⟩ := hi.1 rfl; first | omega | (have j := i1 (by omega); simp_all; done) | (have j := he (i2 (by omega)); simp_all; done) | (have j := i2 (by omega); simp_all; done) | (have j := i3 (by omega); simp_all; done) | (have j := i4 (by omega); simp_all; done) | (have j := i5 (by omega); simp_all; done))), rfl⟩
 refine E3 ?_
 refine sB (qE rfl rfl) rfl rfl (fun h221 => ?_) (fun h221 => ?_)
 refine D6 ?_
 refine sP (Z5 rfl rfl (by omega)) rfl rfl ?_
 refine A0m ?_
 refine H4 rfl (o2) rfl rfl (fun h250 => ?_) (fun h250 => ?_)
 refine sQ (A06 rfl rfl rfl) rfl ?_
 refine K5 ?_
 refine H4 rfl (o3) rfl rfl (fun h266 => ?_) (fun h266 => ?_)
 refine A1j ?_
 refine sP (A0y rfl rfl (by omega)) rfl rfl ?_
 refine E3 ?_
 refine H4 rfl (o7) rfl rfl (fun h294 => ?_) (fun h294 => ?_)
 refine B6 ?_
 refine sB (O9 rfl rfl) rfl rfl (fun h299 => ?_) (fun h299 => ?_)
 refine K3 ?_
 exact ⟨rfl, by (cases R with | false => rfl | true => (exfalso; obtain ⟨i1, i2, i3, i4, i5, i6, i7⟩ := hi.1 rfl; first | omega | (have j := i1 (by omega); simp_all; done) | (have j := he (i2 (by omega)); simp_all; done) | (have j := i2 (by omega); simp_all; done) | (have j := i3 (by omega); simp_all; done) | (have j := i4 (by omega); simp_all; done) | (have j := i5 (by omega); simp_all; done))), rfl⟩
 refine K8 ?_
 refine sP (J3 rfl rfl (by omega)) rfl rfl ?_
 refine E4 ?_
 refine sB (qE rfl rfl) rfl rfl (fun h336 => ?_) (fun h336 => ?_)
 refine B0 ?_
 exact ⟨rfl, by rw [hi.2 ⟨fun _ => by (first | assumption | (exfalso; omega)), fun _ => by (first | assumption | (exfalso; omega) | exact Classical.not_not.1 (by assumption)), fun _ => by (first | assumption | (exfalso; omega)), fun _ => by (first | assumption | (exfalso; omega)), fun _ => ⟨by (first | assumption | (exfalso; omega)), by (first | assumption | omega)⟩, by omega, by omega⟩], rfl⟩
 refine B0 ?_
 exact ⟨rfl, by (cases R with | false => rfl | true => (exfalso; obtain ⟨i1, i2, i3, i4, i5, i6, i7⟩ := hi.1 rfl; first | omega | (have j := i1 (by omega); simp_all; done) | (have j := he (i2 (by omega)); simp_all; done) | (have j := i2 (by omega); simp_all; done) | (have j := i3 (by omega); simp_all; done) | (have j := i4 (by omega); simp_all; done) | (have j := i5 (by omega); simp_all; done))), rfl⟩
 refine U4 ?_
 exact ⟨rfl, by (cases R with | false => rfl | true => (exfalso; obtain ⟨i1, i2, i3, i4, i5, i6, i7⟩ := hi.1 rfl; first | omega | (have j := i1 (by omega); simp_all; done) | (have j := he (i2 (by omega)); simp_all; done) | (have j := i2 (by omega); simp_all; done) | (have j := i3 (by omega); simp_all; done) | (have j := i4 (by omega); simp_all; done) | (have j := i5 (by omega); simp_all; done))), rfl⟩
 refine A2W ?_
 exact ⟨rfl, by (cases R with | false => rfl | true => (exfalso; obtain ⟨i1, i2, i3, i4, i5, i6, i7⟩ := hi.1 rfl; first | omega | (have j := i1 (by omega); simp_all; done) | (have j := he (i2 (by omega)); simp_all; done) | (have j := i2 (by omega); simp_all; done) | (have j := i3 (by omega); simp_all; done) | (have j := i4 (by omega); simp_all; done) | (have j := i5 (by omega); simp_all; done))), rfl⟩
 refine sQ (A8i rfl rfl rfl) rfl ?_
 refine A0c ?_
 refine E4 ?_
 exact ⟨rfl, by (cases R with | false => rfl | true => (exfalso; obtain ⟨i1, i2, i3, i4, i5, i6, i7⟩ := hi.1 rfl; first | omega | (have j := i1 (by omega); simp_all; done) | (have j := he (i2 (by omega)); simp_all; done) | (have j := i2 (by omega); simp_all; done) | (have j := i3 (by omega); simp_all; done) | (have j := i4 (by omega); simp_all; done) | (have j := i5 (by omega); simp_all; done))), rfl⟩
 refine D6 ?_
 refine sP (J3 rfl rfl (by omega)) rfl rfl ?_
 refine E3 ?_
 refine sB (qE rfl rfl) rfl rfl (fun h446 => ?_) (fun h446 => ?_)
 refine I6 ?_
 refine H4 rfl (o2) rfl rfl (fun h462 => ?_) (fun h462 => ?_)
 refine sQ (A5V rfl rfl rfl) rfl ?_
 refine A0c ?_
 refine E4 ?_
 exact ⟨rfl, by (cases R with | false => rfl | true => (exfalso; obtain ⟨i1, i2, i3, i4, i5, i6, i7⟩ := hi.1 rfl; first | omega | (have j := i1 (by omega); simp_all; done) | (have j := he (i2 (by omega)); simp_all; done) | (have j := i2 (by omega); simp_all; done) | (have j := i3 (by omega); simp_all; done) | (have j := i4 (by omega); simp_all; done) | (have j := i5 (by omega); simp_all; done))), rfl⟩
 refine sQ (A06 rfl rfl rfl) rfl ?_
 refine A7 ?_
 refine sB (A2l rfl rfl) rfl rfl (fun h511 => ?_) (fun h511 => ?_)
 refine A0c ?_
 refine rS (K7 (rT rfl) ?_)
 exact ⟨rfl, by (cases R with | false => rfl | true => (exfalso; obtain ⟨i1, i2, i3, i4, i5, i6, i7⟩ := hi.1 rfl; first | omega | (have j := i1 (by omega); simp_all; done) | (have j := he (i2 (by omega)); simp_all; done) | (have j := i2 (by omega); simp_all; done) | (have j := i3 (by omega); simp_all; done) | (have j := i4 (by omega); simp_all; done) | (have j := i5 (by omega); simp_all; done))), rfl⟩
 refine B4 ?_
 refine H4 rfl (o3) rfl rfl (fun h552 => ?_) (fun h552 => ?_)
 refine A1j ?_
 refine sP (A0y rfl rfl (by omega)) rfl rfl ?_
 refine E3 ?_
 refine H4 rfl (o7) rfl rfl (fun h580 => ?_) (fun h580 => ?_)
 refine B6 ?_
 refine sB (O9 rfl rfl) rfl rfl (fun h585 => ?_) (fun h585 => ?_)
 refine K3 ?_
 exact ⟨rfl, by (cases R with | false => rfl | true => (exfalso; obtain ⟨i1, i2, i3, i4, i5, i6, i7⟩ := hi.1 rfl; first | omega | (have j := i1 (by omega); simp_all; done) | (have j := he (i2 (by omega)); simp_all; done) | (have j := i2 (by omega); simp_all; done) | (have j := i3 (by omega); simp_all; done) | (have j := i4 (by omega); simp_all; done) | (have j := i5 (by omega); simp_all; done))), rfl⟩
 refine K8 ?_
 refine sP (J3 rfl rfl (by omega)) rfl rfl ?_
 refine E4 ?_
 refine sB (qE rfl rfl) rfl rfl (fun h622 => ?_) (fun h622 => ?_)
 refine B0 ?_
 exact ⟨rfl, by rw [hi.2 ⟨fun _ => by (first | assumption | (exfalso; omega)), fun _ => by (first | assumption | (exfalso; omega) | exact Classical.not_not.1 (by assumption)), fun _ => by (first | assumption | (exfalso; omega)), fun _ => by (first | assumption | (exfalso; omega)), fun _ => ⟨by (first | assumption | (exfalso; omega)), by (first | assumption | omega)⟩, by omega, by omega⟩], rfl⟩
 refine B0 ?_
 exact ⟨rfl, by (cases R with | false => rfl | true => (exfalso; obtain ⟨i1, i2, i3, i4, i5, i6, i7⟩ := hi.1 rfl; first | omega | (have j := i1 (by omega); simp_all; done) | (have j := he (i2 (by omega)); simp_all; done) | (have j := i2 (by omega); simp_all; done) | (have j := i3 (by omega); simp_all; done) | (have j := i4 (by omega); simp_all; done) | (have j := i5 (by omega); simp_all; done))), rfl⟩
 refine U4 ?_
 exact ⟨rfl, by (cases R with | false => rfl | true => (exfalso; obtain ⟨i1, i2, i3, i4, i5, i6, i7⟩ := hi.1 rfl; first | omega | (have j := i1 (by omega); simp_all; done) | (have j := he (i2 (by omega)); simp_all; done) | (have j := i2 (by omega); simp_all; done) | (have j := i3 (by omega); simp_all; done) | (have j := i4 (by omega); simp_all; done) | (have j := i5 (by omega); simp_all; done))), rfl⟩
 refine A2W ?_
 exact ⟨rfl, by (cases R with | false => rfl | true => (exfalso; obtain ⟨i1, i2, i3, i4, i5, i6, i7⟩ := hi.1 rfl; first | omega | (have j := i1 (by omega); simp_all; done) | (have j := he (i2 (by omega)); simp_all; done) | (have j := i2 (by omega); simp_all; done) | (have j := i3 (by omega); simp_all; done) | (have j := i4 (by omega); simp_all; done) | (have j := i5 (by omega); simp_all; done))), rfl⟩
 refine B6 ?_
 refine sB (qE rfl rfl) rfl rfl (fun h683 => ?_) (fun h683 => ?_)
 refine J5 ?_
 refine H4 rfl (o2) rfl rfl (fun h694 => ?_) (fun h694 => ?_)
 refine sQ (A5V rfl rfl rfl) rfl ?_
 refine A0c ?_
 refine E4 ?_
 exact ⟨rfl, by (cases R with | false => rfl | true => (exfalso; obtain ⟨i1, i2, i3, i4, i5, i6, i7⟩ := hi.1 rfl; first | omega | (have j := i1 (by omega); simp_all; done) | (have j := he (i2 (by omega)); simp_all; done) | (have j := i2 (by omega); simp_all; done) | (have j := i3 (by omega); simp_all; done) | (have j := i4 (by omega); simp_all; done) | (have j := i5 (by omega); simp_all; done))), rfl⟩
 refine sQ (A06 rfl rfl rfl) rfl ?_
 refine A7 ?_
 refine sB (A2l rfl rfl) rfl rfl (fun h743 => ?_) (fun h743 => ?_)
 refine A0c ?_
 refine rS (K7 (rT rfl) ?_)
 exact ⟨rfl, by (cases R with | false => rfl | true => (exfalso; obtain ⟨i1, i2, i3, i4, i5, i6, i7⟩ := hi.1 rfl; first | omega | (have j := i1 (by omega); simp_all; done) | (have j := he (i2 (by omega)); simp_all; done) | (have j := i2 (by omega); simp_all; done) | (have j := i3 (by omega); simp_all; done) | (have j := i4 (by omega); simp_all; done) | (have j := i5 (by omega); simp_all; done))), rfl⟩
 refine B4 ?_
 refine H4 rfl (o3) rfl rfl (fun h784 => ?_) (fun h784 => ?_)
 refine A1j ?_
 refine sP (A1D rfl rfl (by omega)) rfl rfl ?_
 refine A0K ?_
 refine sP (J3 rfl rfl (by omega)) rfl rfl ?_
 refine E4 ?_
 refine sB (qE rfl rfl) rfl rfl (fun h840 => ?_) (fun h840 => ?_)
 refine B0 ?_
 exact ⟨rfl, by rw [hi.2 ⟨fun _ => by (first | assumption | (exfalso; omega)), fun _ => by (first | assumption | (exfalso; omega) | exact Classical.not_not.1 (by assumption)), fun _ => by (first | assumption | (exfalso; omega)), fun _ => by (first | assumption | (exfalso; omega)), fun _ => ⟨by (first | assumption | (exfalso; omega)), by (first | assumption | omega)⟩, by omega, by omega⟩], rfl⟩
 refine B0 ?_
 exact ⟨rfl, by (cases R with | false => rfl | true => (exfalso; obtain ⟨i1, i2, i3, i4, i5, i6, i7⟩ := hi.1 rfl; first | omega | (have j := i1 (by omega); simp_all; done) | (have j := he (i2 (by omega)); simp_all; done) | (have j := i2 (by omega); simp_all; done) | (have j := i3 (by omega); simp_all; done) | (have j := i4 (by omega); simp_all; done) | (have j := i5 (by omega); simp_all; done))), rfl⟩
 refine A2W ?_
 exact ⟨rfl, by (cases R with | false => rfl | true => (exfalso; obtain ⟨i1, i2, i3, i4, i5, i6, i7⟩ := hi.1 rfl; first | omega | (have j := i1 (by omega); simp_all; done) | (have j := he (i2 (by omega)); simp_all; done) | (have j := i2 (by omega); simp_all; done) | (have j := i3 (by omega); simp_all; done) | (have j := i4 (by omega); simp_all; done) | (have j := i5 (by omega); simp_all; done))), rfl⟩
 refine J5 ?_
 refine H4 rfl (o2) rfl rfl (fun h888 => ?_) (fun h888 => ?_)
 refine sQ (A5V rfl rfl rfl) rfl ?_
 refine A0c ?_
 refine E4 ?_
 exact ⟨rfl, by (cases R with | false => rfl | true => (exfalso; obtain ⟨i1, i2, i3, i4, i5, i6, i7⟩ := hi.1 rfl; first | omega | (have j := i1 (by omega); simp_all; done) | (have j := he (i2 (by omega)); simp_all; done) | (have j := i2 (by omega); simp_all; done) | (have j := i3 (by omega); simp_all; done) | (have j := i4 (by omega); simp_all; done) | (have j := i5 (by omega); simp_all; done))), rfl⟩
 refine sQ (A06 rfl rfl rfl) rfl ?_
 refine A7 ?_
 refine sB (A2l rfl rfl) rfl rfl (fun h937 => ?_) (fun h937 => ?_)
 refine A0c ?_
 refine rS (K7 (rT rfl) ?_)
 exact ⟨rfl, by (cases R with | false => rfl | true => (exfalso; obtain ⟨i1, i2, i3, i4, i5, i6, i7⟩ := hi.1 rfl; first | omega | (have j := i1 (by omega); simp_all; done) | (have j := he (i2 (by omega)); simp_all; done) | (have j := i2 (by omega); simp_all; done) | (have j := i3 (by omega); simp_all; done) | (have j := i4 (by omega); simp_all; done) | (have j := i5 (by omega); simp_all; done))), rfl⟩
 refine S6 ?_
 refine H4 rfl (o4) rfl rfl (fun h988 => ?_) (fun h988 => ?_)
 refine K3 ?_
 refine sP (A0y rfl rfl (by omega)) rfl rfl ?_
 refine E3 ?_
 refine H4 rfl (o7) rfl rfl (fun h1006 => ?_) (fun h1006 => ?_)
 refine B6 ?_
 refine sB (O9 rfl rfl) rfl rfl (fun h1011 => ?_) (fun h1011 => ?_)
 refine K3 ?_
 exact ⟨rfl, by (cases R with | false => rfl | true => (exfalso; obtain ⟨i1, i2, i3, i4, i5, i6, i7⟩ := hi.1 rfl; first | omega | (have j := i1 (by omega); simp_all; done) | (have j := he (i2 (by omega)); simp_all; done) | (have j := i2 (by omega); simp_all; done) | (have j := i3 (by omega); simp_all; done) | (have j := i4 (by omega); simp_all; done) | (have j := i5 (by omega); simp_all; done))), rfl⟩
 refine K8 ?_
 refine sB (qE rfl rfl) rfl rfl (fun h1038 => ?_) (fun h1038 => ?_)
 refine B4 ?_
 refine sB (A0J rfl rfl) rfl rfl (fun h1046 => ?_) (fun h1046 => ?_)
 refine E3 ?_
 refine sB (Y0 rfl rfl) rfl rfl (fun h1050 => ?_) (fun h1050 => ?_)
 refine B4 ?_
 exact ⟨rfl, by rw [hi.2 ⟨fun _ => by (first | assumption | (exfalso; omega)), fun _ => by (first | assumption | (exfalso; omega) | exact Classical.not_not.1 (by assumption)), fun _ => by (first | assumption | (exfalso; omega)), fun _ => by (first | assumption | (exfalso; omega)), fun _ => ⟨by (first | assumption | (exfalso; omega)), by (first | assumption | omega)⟩, by omega, by omega⟩], rfl⟩
 refine B4 ?_
 exact ⟨rfl, by (cases R with | false => rfl | true => (exfalso; obtain ⟨i1, i2, i3, i4, i5, i6, i7⟩ := hi.1 rfl; first | omega | (have j := i1 (by omega); simp_all; done) | (have j := he (i2 (by omega)); simp_all; done) | (have j := i2 (by omega); simp_all; done) | (have j := i3 (by omega); simp_all; done) | (have j := i4 (by omega); simp_all; done) | (have j := i5 (by omega); simp_all; done))), rfl⟩
 refine J2 ?_
 exact ⟨rfl, by (cases R with | false => rfl | true => (exfalso; obtain ⟨i1, i2, i3, i4, i5, i6, i7⟩ := hi.1 rfl; first | omega | (have j := i1 (by omega); simp_all; done) | (have j := he (i2 (by omega)); simp_all; done) | (have j := i2 (by omega); simp_all; done) | (have j := i3 (by omega); simp_all; done) | (have j := i4 (by omega); simp_all; done) | (have j := i5 (by omega); simp_all; done))), rfl⟩
 refine E4 ?_
 refine sB (qE rfl rfl) rfl rfl (fun h1088 => ?_) (fun h1088 => ?_)
 refine B0 ?_
 exact ⟨rfl, by rw [hi.2 ⟨fun _ => by (first | assumption | (exfalso; omega)), fun _ => by (first | assumption | (exfalso; omega) | exact Classical.not_not.1 (by assumption)), fun _ => by (first | assumption | (exfalso; omega)), fun _ => by (first | assumption | (exfalso; omega)), fun _ => ⟨by (first | assumption | (exfalso; omega)), by (first | assumption | omega)⟩, by omega, by omega⟩], rfl⟩
 refine B0 ?_
 exact ⟨rfl, by (cases R with | false => rfl | true => (exfalso; obtain ⟨i1, i2, i3, i4, i5, i6, i7⟩ := hi.1 rfl; first | omega | (have j := i1 (by omega); simp_all; done) | (have j := he (i2 (by omega)); simp_all; done) | (have j := i2 (by omega); simp_all; done) | (have j := i3 (by omega); simp_all; done) | (have j := i4 (by omega); simp_all; done) | (have j := i5 (by omega); simp_all; done))), rfl⟩
 refine U4 ?_
 exact ⟨rfl, by (cases R with | false => rfl | true => (exfalso; obtain ⟨i1, i2, i3, i4, i5, i6, i7⟩ := hi.1 rfl; first | omega | (have j := i1 (by omega); simp_all; done) | (have j := he (i2 (by omega)); simp_all; done) | (have j := i2 (by omega); simp_all; done) | (have j := i3 (by omega); simp_all; done) | (have j := i4 (by omega); simp_all; done) | (have j := i5 (by omega); simp_all; done))), rfl⟩
 refine K5 ?_
 exact ⟨rfl, by (cases R with | false => rfl | true => (exfalso; obtain ⟨i1, i2, i3, i4, i5, i6, i7⟩ := hi.1 rfl; first | omega | (have j := i1 (by omega); simp_all; done) | (have j := he (i2 (by omega)); simp_all; done) | (have j := i2 (by omega); simp_all; done) | (have j := i3 (by omega); simp_all; done) | (have j := i4 (by omega); simp_all; done) | (have j := i5 (by omega); simp_all; done))), rfl⟩
mutual
def M5 (D N : Int) : Tm → Int → Bool
 | .mk k nm num ty fr lb ks, deep => decide (deep ≤ D) && decide (k ≠ N) && V5 k nm num ty fr lb ks.length && M3 D N ks (deep + 1)
def M3 (D N : Int) : List Tm → Int → Bool
 | [], _ => true
 | t :: ts, deep => M5 D N t deep && M3 D N ts deep
end
theorem A07 (D N : Int) : ∀ (ts : List Tm) (d : Int), M3 D N ts d = true ↔ ∀ i, (h : i < ts.length) → M5 D N ts[i] d = true
 | [], d => by simp [M3]
 | t :: ts, d => by
  simp only [M3, Bool.and_eq_true, A07 D N ts d]
  constructor
  ·rintro ⟨h1, h2⟩ i hi
   cases i with
   | zero => exact h1
   | succ i => exact h2 i (by simpa using hi)
  ·intro h
   exact ⟨h 0 (by simp), fun i hi => h (i + 1) (by simpa using hi)⟩
theorem A1l {D N : Int} {k : Int} {nm : ByteArray} {num : Int} {ty fr : Ty} {lb : Int} {ks : List Tm} {d : Int} (h : D < d ∨ k = N ∨ V5 k nm num ty fr lb ks.length = false) : M5 D N (.mk k nm num ty fr lb ks) d = false := by
 rw [M5]
 rcases h with h | h | h
 ·rw [decide_eq_false (by omega)]; rfl
 ·rw [decide_eq_false (p := k ≠ N) (by omega), Bool.and_false]; rfl
 ·rw [h, Bool.and_false]; rfl
theorem A08 {D N : Int} {k : Int} {nm : ByteArray} {num : Int} {ty fr : Ty} {lb : Int} {ks : List Tm} {d : Int} (h1 : d ≤ D) (h2 : k ≠ N) (h3 : V5 k nm num ty fr lb ks.length = true) : M5 D N (.mk k nm num ty fr lb ks) d = M3 D N ks (d + 1) := by
 rw [M5, decide_eq_true h1, decide_eq_true h2, h3]; rfl
theorem A5W {D N : Int} {ks : List Tm} {d : Int} {i : Nat} (hi : i < ks.length) (h : M5 D N ks[i] d = false) : M3 D N ks d = false := by
 cases hx : M3 D N ks d with
 | false => rfl
 | true => rw [(A07 D N ks d).1 hx i hi] at h; cases h
theorem B2o {k : Int} {nm : ByteArray} {num : Int} {ty fr : Ty} {lb : Int} {n : Nat} (hk : k = 14) (ha : E2 k = n) : V5 k nm num ty fr lb n = true ↔ nm = ⟨#[]⟩ ∧ num = 0 ∧ (1 ≤ A0O lb ∧ A0O lb ≤ 99) ∧ F9 ty = true ∧ F9 fr = true ∧ K0 fr ty = true := by
 rw [U2, B2m]
 simp only [R8, A00, decide_eq_true_eq, Bool.and_eq_true]
 constructor
 ·rintro ⟨_, _, h3, _, h5, h6, _, h8, _⟩
  have h8 := h8 hk
  exact ⟨h3 (by omega), by have := h5 (by omega); omega, h8.2, h6 (by omega), h8.1.1.1, h8.1.2⟩
 ·rintro ⟨h1, h2, h3, h4, h5, h6⟩
  exact ⟨ha, fun h => absurd h (by omega), fun _ => h1, fun h => absurd h (by omega), fun _ => by omega, fun _ => h4, fun h => absurd h (by omega), fun _ => ⟨⟨⟨h5, h4⟩, h6⟩, h3⟩, fun h => absurd hk h⟩
theorem A8k {k : Int} {nm : ByteArray} {num : Int} {ty fr : Ty} {lb : Int} {n : Nat} (hk : k ≠ 14) (ha : E2 k = n) : V5 k nm num ty fr lb n = true ↔
  (k = 1 ∨ k = 5 → Y2 nm = true) ∧ (¬(k = 1 ∨ k = 5) → nm = ⟨#[]⟩) ∧ (k = 5 ∨ k = 13 ∨ k = 14 → F9 ty = true) ∧ (¬(k = 5 ∨ k = 13 ∨ k = 14) → Y1 ty = true) ∧ (k ≠ 14 → Y1 fr = true ∧ lb = 0) ∧ (k = 2 → 0 ≤ num ∧ num ≤ 999) ∧ (k ≠ 2 → num = 0) := by
 rw [U2]
 simp only [R8, decide_eq_true_eq]
 constructor
 ·rintro ⟨_, h2, h3, h4, h5, h6, h7, _, h9⟩
  exact ⟨h2, h3, h6, h7, h9, h4, fun h => by have := h5 h; omega⟩
 ·rintro ⟨h2, h3, h6, h7, h9, h4, h5⟩
  exact ⟨ha, h2, h3, h4, fun h => by have := h5 h; omega, h6, h7, fun h => absurd h hk, h9⟩
theorem B2p : ∀ (t : Tm) (d : Int) (G : IM) (cells : List Value), 0 ≤ d ∧ d ≤ 40 → A8 G t cells →
  Fn Tryz.prog 183 [.agg ⟨cells⟩, .int .i64 d] [] G (I5 (.bool (M5 40 13 t (41 - d))) G) := by
 refine Tm.ind fun k nm num ty fr lb ks ih d G cells hd hr => ?_
 have hr0 := hr
 have h14 := fun h : k = 14 => @B2o k nm num ty fr lb ks.length h
 have hne := fun h : k ≠ 14 => @A8k k nm num ty fr lb ks.length h
 have har := fun h : V5 k nm num ty fr lb ks.length = true => (U2.1 h).1
 obtain ⟨R, hR⟩ : ∃ R, V5 k nm num ty fr lb ks.length = R := ⟨_, rfl⟩
 rw [hR] at h14 hne har
 have hlo := B2n k nm num ty fr lb ks G cells hr0 R
 have hl2 := A8j k nm num ty fr lb ks G cells hr0 R
 have hk1 := A4F k G
 obtain ⟨tk, tks⟩ := ty
 obtain ⟨fk, fks⟩ := fr
 obtain ⟨pt, ct, pf, cf, p, c, es, rfl, hk, hnum, hlb, hty, hfr, hsl, hkl⟩ := hr.open9
 have hn := hsl.le
 clear hr hr0
 refine C0 Tryz.func183 rfl Tryz.ntmps183 Tryz.results183 rfl ?_
 intro w0
 refine tS (tR ?_)
 refine sE (C5 rfl rfl) rfl (fun b3 => ?_)
 refine B0 ?_
 refine E0 E1 rfl ?_
 refine I8 (i := 0) (l' := [tt,ff,ff,ff,ff,ff,ff,ff,ff,ff,ff,ff,ff,ff,ff,ff,ff,ff,ff,ff,ff,ff,ff,ff,ff,ff,ff,ff,ff,ff,ff,ff,ff,ff,ff,ff]) rfl D2 (qM rfl) rfl (by kernel_rfl) rfl rfl ?_
 refine A0w (i := 1) (l' := [tt,tt,ff,ff,ff,ff,ff,ff,ff,ff,ff,ff,ff,ff,ff,ff,ff,ff,ff,ff,ff,ff,ff,ff,ff,ff,ff,ff,ff,ff,ff,ff,ff,ff,ff,ff]) rfl D2 (I0 rfl rfl) rfl (by kernel_rfl) rfl rfl (fun h11 => ?_) (fun h11 => ?_)
 refine aP 2 rfl (qM rfl) rfl ?_
 refine C3 3 rfl rfl rfl ?_
 refine C3 4 rfl rfl rfl ?_
 refine C3 6 rfl rfl rfl ?_
 refine C3 7 rfl rfl rfl ?_
 refine C3 8 rfl rfl rfl ?_
 refine C3 5 rfl rfl rfl ?_
 refine C3 9 rfl rfl rfl ?_
 refine aP 10 rfl (N7 rfl rfl) rfl ?_
 refine aP 11 rfl (qM rfl) rfl ?_
 refine C3 12 rfl rfl rfl ?_
 refine C3 13 rfl rfl rfl ?_
 refine C3 14 rfl rfl rfl ?_
 refine aP 15 rfl (N7 rfl rfl) rfl ?_
 refine aP 16 rfl (qM rfl) rfl ?_
 refine C3 17 rfl rfl rfl ?_
 refine C3 18 rfl rfl rfl ?_
 refine C3 19 rfl rfl rfl ?_
 refine C3 20 rfl rfl rfl ?_
 refine C3 21 rfl rfl rfl ?_
 refine C3 22 rfl rfl rfl ?_
 refine C3 23 rfl rfl rfl ?_
 refine C3 24 rfl rfl rfl ?_
 refine aP 25 rfl (N7 rfl rfl) rfl ?_
 refine aP 26 rfl (qM rfl) rfl ?_
 refine C3 27 rfl rfl rfl ?_
 refine C3 28 rfl rfl rfl ?_
 refine C3 29 rfl rfl rfl ?_
 refine C3 30 rfl rfl rfl ?_
 refine C3 31 rfl rfl rfl ?_
 refine C3 32 rfl rfl rfl ?_
 refine C3 33 rfl rfl rfl ?_
 refine C3 34 rfl rfl rfl ?_
 refine aP 35 rfl (N7 rfl rfl) rfl ?_
 refine J2 ?_
 (rw [A1l (by rw [hR]; first | omega | exact .inr (.inr (by assumption)) | exact .inr (.inr (by cases R with | false => rfl | true => exact absurd (har rfl) (by omega))))]; exact ⟨rfl, rfl, rfl⟩)
 refine aP 2 rfl (qM rfl) rfl ?_
 refine aP 3 rfl (B7 rfl) rfl ?_
 refine aL 4 rfl (C7 rfl rfl) rfl ?_
 refine aP 6 rfl (B7 rfl) rfl ?_
 refine aL 7 rfl (C7 rfl rfl) rfl ?_
 refine aP 8 rfl (pLn rfl rfl) rfl ?_
 refine A3 5 ?_
 refine O2 rfl rfl (hk1) rfl rfl rfl ?_
 refine A0w (i := 9) (l' := [tt,tt,tt,tt,tt,tt,tt,tt,tt,tt,ff,ff,ff,ff,ff,ff,ff,ff,ff,ff,ff,ff,ff,ff,ff,ff,ff,ff,ff,ff,ff,ff,ff,ff,ff,ff]) rfl D2 (O9 rfl rfl) rfl (by kernel_rfl) rfl rfl (fun h66 => ?_) (fun h66 => ?_)
 refine aP 10 rfl (N4 rfl rfl) rfl ?_
 refine aP 11 rfl (qM rfl) rfl ?_
 refine C3 12 rfl rfl rfl ?_
 refine C3 13 rfl rfl rfl ?_
 refine C3 14 rfl rfl rfl ?_
 refine aP 15 rfl (N7 rfl rfl) rfl ?_
 refine aP 16 rfl (qM rfl) rfl ?_
 refine C3 17 rfl rfl rfl ?_
 refine C3 18 rfl rfl rfl ?_
 refine C3 19 rfl rfl rfl ?_
 refine C3 20 rfl rfl rfl ?_
 refine C3 21 rfl rfl rfl ?_
 refine C3 22 rfl rfl rfl ?_
 refine C3 23 rfl rfl rfl ?_
 refine C3 24 rfl rfl rfl ?_
 refine aP 25 rfl (N7 rfl rfl) rfl ?_
 refine aP 26 rfl (qM rfl) rfl ?_
 refine C3 27 rfl rfl rfl ?_
 refine C3 28 rfl rfl rfl ?_
 refine C3 29 rfl rfl rfl ?_
 refine C3 30 rfl rfl rfl ?_
 refine C3 31 rfl rfl rfl ?_
 refine C3 32 rfl rfl rfl ?_
 refine C3 33 rfl rfl rfl ?_
 refine C3 34 rfl rfl rfl ?_
 refine aP 35 rfl (N7 rfl rfl) rfl ?_
 refine J2 ?_
 (rw [A1l (by rw [hR]; first | omega | exact .inr (.inr (by assumption)) | exact .inr (.inr (by cases R with | false => rfl | true => exact absurd (har rfl) (by omega))))]; exact ⟨rfl, rfl, rfl⟩)
 refine aP 10 rfl (N4 rfl rfl) rfl ?_
 refine aP 11 rfl (qM rfl) rfl ?_
 refine aP 12 rfl (B7 rfl) rfl ?_
 refine aL 13 rfl (C7 rfl rfl) rfl ?_
 refine A0w (i := 14) (l' := [tt,tt,tt,tt,tt,tt,tt,tt,tt,tt,tt,tt,tt,tt,tt,ff,ff,ff,ff,ff,ff,ff,ff,ff,ff,ff,ff,ff,ff,ff,ff,ff,ff,ff,ff,ff]) rfl D2 (qE rfl rfl) rfl (by kernel_rfl) rfl rfl (fun h109 => ?_) (fun h109 => ?_)
 refine aP 15 rfl (N4 rfl rfl) rfl ?_
 refine aP 16 rfl (qM rfl) rfl ?_
 refine C3 17 rfl rfl rfl ?_
 refine C3 18 rfl rfl rfl ?_
 refine C3 19 rfl rfl rfl ?_
 refine C3 20 rfl rfl rfl ?_
 refine C3 21 rfl rfl rfl ?_
 refine C3 22 rfl rfl rfl ?_
 refine C3 23 rfl rfl rfl ?_
 refine C3 24 rfl rfl rfl ?_
 refine aP 25 rfl (N7 rfl rfl) rfl ?_
 refine aP 26 rfl (qM rfl) rfl ?_
 refine C3 27 rfl rfl rfl ?_
 refine C3 28 rfl rfl rfl ?_
 refine C3 29 rfl rfl rfl ?_
 refine C3 30 rfl rfl rfl ?_
 refine C3 31 rfl rfl rfl ?_
 refine C3 32 rfl rfl rfl ?_
 refine C3 33 rfl rfl rfl ?_
 refine C3 34 rfl rfl rfl ?_
 refine aP 35 rfl (N7 rfl rfl) rfl ?_
 refine J2 ?_
 (rw [A1l (by rw [hR]; first | omega | exact .inr (.inr (by assumption)) | exact .inr (.inr (by cases R with | false => rfl | true => exact absurd (har rfl) (by omega))))]; exact ⟨rfl, rfl, rfl⟩)
 refine aP 15 rfl (N4 rfl rfl) rfl ?_
 refine aP 16 rfl (qM rfl) rfl ?_
 refine aP 17 rfl (B7 rfl) rfl ?_
 refine aL 18 rfl (C7 rfl rfl) rfl ?_
 refine A0w (i := 19) (l' := [tt,tt,tt,tt,tt,tt,tt,tt,tt,tt,tt,tt,tt,tt,tt,tt,tt,tt,tt,tt,ff,ff,ff,ff,ff,ff,ff,ff,ff,ff,ff,ff,ff,ff,ff,ff]) rfl D2 (qE rfl rfl) rfl (by kernel_rfl) rfl rfl (fun h147 => ?_) (fun h147 => ?_)
 refine aP 20 rfl (qM rfl) rfl ?_
 refine aL 21 rfl (A4 rfl rfl) rfl ?_
 refine A3 22 ?_
 refine U5 rfl rfl (hlo (h14 (by omega) (by omega))) rfl rfl rfl (fun h151 => ?_) (fun h151 => ?_)
 refine aP 23 rfl (pNt rfl) rfl ?_
 refine aP 24 rfl (N7 rfl rfl) rfl ?_
 refine aP 25 rfl (N4 rfl rfl) rfl ?_
 refine aP 26 rfl (qM rfl) rfl ?_
 refine aP 27 rfl (B7 rfl) rfl ?_
 refine aL 28 rfl (C7 rfl rfl) rfl ?_
 refine aP 29 rfl (A1D rfl rfl (by omega)) rfl ?_
 refine aP 30 rfl (qM rfl) rfl ?_
 refine C3 31 rfl rfl rfl ?_
 refine C3 32 rfl rfl rfl ?_
 refine C3 33 rfl rfl rfl ?_
 refine aP 34 rfl (N4 rfl rfl) rfl ?_
 refine aP 35 rfl (N4 rfl rfl) rfl ?_
 refine J2 ?_
 refine B8 ?_
 (refine I2 (fun (i : Nat) => ⟨[(5, .int .i64 i), (2, .pointer (some ⟨b3, 0, none⟩)), (1, .int .i64 d)], [.blk b3 [.int .i64 k, .string nm, .int .i64 num, .int .i64 tk, .slice pt tks.length ct, .int .i64 fk, .slice pf fks.length cf, .int .i64 lb, .slice p ks.length c]], G⟩) (fun i => i ≤ ks.length ∧ ∀ j (h : j < ks.length), j < i → M5 40 13 ks[j] (41 - d + 1) = true) (fun i => ks.length - i) 0 ?_ ?_ ?_)
 exact D3
 exact ⟨by omega, by omega⟩
 (rintro i ⟨hi, hf⟩)
 refine B4 ?_
 refine sB (I0 rfl rfl) rfl rfl (fun h188 => ?_) (fun h188 => ?_)
 refine A7 ?_
 refine B8 ?_
 refine B0 ?_
 (obtain ⟨b, o, e, rfl, hl, hat, hre, hgb⟩ := hsl.kidTm hkl (i := i) (by omega) (by omega); refine sP (B3 rfl rfl rfl (by omega)) rfl rfl ?_)
 refine sL (A2 rfl rfl (hat _) hl) rfl rfl ?_
 refine sQ (qM rfl) rfl ?_
 refine sP (P2 rfl rfl (by omega) (by omega)) rfl rfl ?_
 (have hih := ih ks[i] (List.getElem_mem (by omega)) (d - 1) G _ (by omega) hre; rw [show 41 - (d - 1) = 41 - d + 1 by omega] at hih; refine H4 rfl hih rfl rfl (fun h205 => ?_) (fun h205 => ?_))
 refine E4 ?_
 refine sP (H2 rfl rfl (by omega) (by omega)) rfl rfl ?_
 refine D7 ?_
 refine H9 (i + 1) ?_ ?_ ?_
 exact D3
 exact ⟨by omega, fun j hj hji => by (by_cases he : j = i; (subst he; assumption); exact hf j hj (by omega))⟩
 omega
 refine J9 ?_
 (rw [A08 (by omega) (by omega) (hR.trans (by assumption)), A5W (i := i) (by omega) (by assumption)]; exact ⟨rfl, rfl, rfl⟩)
 refine I6 ?_
 (rw [A08 (by omega) (by omega) (hR.trans (by assumption)), (A07 40 13 ks _).2 (fun j hj => hf j hj (by omega))]; exact ⟨rfl, rfl, rfl⟩)
 refine aP 23 rfl (pNf rfl) rfl ?_
 refine aP 24 rfl (N7 rfl rfl) rfl ?_
 refine aP 25 rfl (N4 rfl rfl) rfl ?_
 refine aP 26 rfl (qM rfl) rfl ?_
 refine C3 27 rfl rfl rfl ?_
 refine C3 28 rfl rfl rfl ?_
 refine C3 29 rfl rfl rfl ?_
 refine C3 30 rfl rfl rfl ?_
 refine C3 31 rfl rfl rfl ?_
 refine C3 32 rfl rfl rfl ?_
 refine C3 33 rfl rfl rfl ?_
 refine C3 34 rfl rfl rfl ?_
 refine aP 35 rfl (N7 rfl rfl) rfl ?_
 refine J2 ?_
 (rw [A1l (by rw [hR]; first | omega | exact .inr (.inr (by assumption)) | exact .inr (.inr (by cases R with | false => rfl | true => exact absurd (har rfl) (by omega))))]; exact ⟨rfl, rfl, rfl⟩)
 refine aP 20 rfl (qM rfl) rfl ?_
 refine C3 21 rfl rfl rfl ?_
 refine C3 22 rfl rfl rfl ?_
 refine C3 23 rfl rfl rfl ?_
 refine aP 24 rfl (N4 rfl rfl) rfl ?_
 refine aP 25 rfl (N4 rfl rfl) rfl ?_
 refine aP 26 rfl (qM rfl) rfl ?_
 refine aP 27 rfl (B7 rfl) rfl ?_
 refine aL 28 rfl (C7 rfl rfl) rfl ?_
 refine aP 29 rfl (A0y rfl rfl (by omega)) rfl ?_
 refine aP 30 rfl (qM rfl) rfl ?_
 refine aL 31 rfl (A4 rfl rfl) rfl ?_
 refine A3 32 ?_
 refine U5 rfl rfl (hl2 (hne (by omega) (by omega))) rfl rfl rfl (fun h293 => ?_) (fun h293 => ?_)
 refine aP 33 rfl (pNt rfl) rfl ?_
 refine aP 34 rfl (N7 rfl rfl) rfl ?_
 refine aP 35 rfl (N4 rfl rfl) rfl ?_
 refine J2 ?_
 refine B8 ?_
 (refine I2 (fun (i : Nat) => ⟨[(5, .int .i64 i), (2, .pointer (some ⟨b3, 0, none⟩)), (1, .int .i64 d)], [.blk b3 [.int .i64 k, .string nm, .int .i64 num, .int .i64 tk, .slice pt tks.length ct, .int .i64 fk, .slice pf fks.length cf, .int .i64 lb, .slice p ks.length c]], G⟩) (fun i => i ≤ ks.length ∧ ∀ j (h : j < ks.length), j < i → M5 40 13 ks[j] (41 - d + 1) = true) (fun i => ks.length - i) 0 ?_ ?_ ?_)
 exact D3
 exact ⟨by omega, by omega⟩
 (rintro i ⟨hi, hf⟩)
 refine B4 ?_
 refine sB (I0 rfl rfl) rfl rfl (fun h320 => ?_) (fun h320 => ?_)
 refine A7 ?_
 refine B8 ?_
 refine B0 ?_
 (obtain ⟨b, o, e, rfl, hl, hat, hre, hgb⟩ := hsl.kidTm hkl (i := i) (by omega) (by omega); refine sP (B3 rfl rfl rfl (by omega)) rfl rfl ?_)
 refine sL (A2 rfl rfl (hat _) hl) rfl rfl ?_
 refine sQ (qM rfl) rfl ?_
 refine sP (P2 rfl rfl (by omega) (by omega)) rfl rfl ?_
 (have hih := ih ks[i] (List.getElem_mem (by omega)) (d - 1) G _ (by omega) hre; rw [show 41 - (d - 1) = 41 - d + 1 by omega] at hih; refine H4 rfl hih rfl rfl (fun h337 => ?_) (fun h337 => ?_))
 refine E4 ?_
 refine sP (H2 rfl rfl (by omega) (by omega)) rfl rfl ?_
 refine D7 ?_
 refine H9 (i + 1) ?_ ?_ ?_
 exact D3
 exact ⟨by omega, fun j hj hji => by (by_cases he : j = i; (subst he; assumption); exact hf j hj (by omega))⟩
 omega
 refine J9 ?_
 (rw [A08 (by omega) (by omega) (hR.trans (by assumption)), A5W (i := i) (by omega) (by assumption)]; exact ⟨rfl, rfl, rfl⟩)
 refine I6 ?_
 (rw [A08 (by omega) (by omega) (hR.trans (by assumption)), (A07 40 13 ks _).2 (fun j hj => hf j hj (by omega))]; exact ⟨rfl, rfl, rfl⟩)
 refine aP 33 rfl (pNf rfl) rfl ?_
 refine aP 34 rfl (N7 rfl rfl) rfl ?_
 refine aP 35 rfl (N4 rfl rfl) rfl ?_
 refine J2 ?_
 (rw [A1l (by rw [hR]; first | omega | exact .inr (.inr (by assumption)) | exact .inr (.inr (by cases R with | false => rfl | true => exact absurd (har rfl) (by omega))))]; exact ⟨rfl, rfl, rfl⟩)
def S8 : Ty := .mk 2 []
def W5 : Ty := .mk 3 []
mutual
def N0 : Ty → Ty → Bool
 | .mk k ks, t => decide (k = t.k) && A0f ks t.ks
def A0f : List Ty → List Ty → Bool
 | [], [] => true
 | a :: xs, b :: ys => N0 a b && A0f xs ys
 | _, _ => false
end
theorem A2t (k k' : Int) (ks ks' : List Ty) : N0 (.mk k ks) (.mk k' ks') = (decide (k = k') && A0f ks ks') := by rw [N0]; rfl
mutual
theorem A1K : ∀ (a b : Ty), N0 a b = true ↔ a = b
 | .mk k ks, .mk k' ks' => by
  rw [A2t, Bool.and_eq_true, decide_eq_true_eq, A8l ks ks', Ty.mk.injEq]
theorem A8l : ∀ (xs ys : List Ty), A0f xs ys = true ↔ xs = ys
 | [], [] => by simp [A0f]
 | [], b :: ys => by simp [A0f]
 | a :: xs, [] => by simp [A0f]
 | a :: xs, b :: ys => by
  rw [A0f, Bool.and_eq_true, A1K a b, A8l xs ys, List.cons.injEq]
end
theorem A4J (a : Ty) : N0 a a = true := (A1K a a).2 rfl
theorem A3K : ∀ (xs ys : List Ty), A0f xs ys = true ↔ xs.length = ys.length ∧ ∀ i, (h : i < xs.length) → (h' : i < ys.length) → N0 xs[i] ys[i] = true
 | [], [] => by simp [A0f]
 | [], b :: ys => by simp [A0f]
 | a :: xs, [] => by simp [A0f]
 | a :: xs, b :: ys => by
  simp only [A0f, Bool.and_eq_true, A3K xs ys, List.length_cons]
  constructor
  ·rintro ⟨h1, h2, h3⟩
   refine ⟨by omega, fun i hi hi' => ?_⟩
   cases i with
   | zero => exact h1
   | succ i => exact h3 i (by simpa using hi) (by simpa using hi')
  ·rintro ⟨h1, h2⟩
   exact ⟨h2 0 (by simp) (by simp), by omega, fun i hi hi' => h2 (i + 1) (by simpa using hi) (by simpa using hi')⟩

abbrev Cx := List (ByteArray × Ty)
def W6 (cx : Cx) (nm : ByteArray) : Nat → Option Ty
 | 0 => none
 | n + 1 => match cx[n]? with
  | some b => if b.1 = nm then some b.2 else W6 cx nm n
  | none => W6 cx nm n
def V6 (cx : Cx) (nm : ByteArray) : Option Ty := W6 cx nm cx.length
theorem A5X {cx : Cx} {nm x : ByteArray} {n : Nat} {t : Ty} (h : cx[n]? = some (x, t)) (he : x = nm) : W6 cx nm (n + 1) = some t := by
 rw [W6, h]; simp only [he, if_true]
theorem A5Y {cx : Cx} {nm x : ByteArray} {n : Nat} {t : Ty} (h : cx[n]? = some (x, t)) (he : ¬x = nm) : W6 cx nm (n + 1) = W6 cx nm n := by
 rw [W6, h]; simp only [he, if_false]

mutual
def U7 : Ty → Ty → Ty
 | .mk k ks, b => if k = 1 then b else if b.k = 1 then .mk k ks else .mk k (T6 ks b.ks)
def T6 : List Ty → List Ty → List Ty
 | a :: xs, b :: ys => U7 a b :: T6 xs ys
 | _, _ => []
end
theorem A09 (k k' : Int) (ks ks' : List Ty) : U7 (.mk k ks) (.mk k' ks') = if k = 1 then .mk k' ks' else if k' = 1 then .mk k ks else .mk k (T6 ks ks') := by rw [U7]; rfl
def R0 (kind : Int) (t : Ty) : Option (Ty × Ty) :=
 if t.k = kind then some (t.ks.getD 0 B2, t.ks.getD 1 B2) else if t.k = 1 then some (P8, P8) else none
def L8 (cx : Cx) (k : Int) (nm : ByteArray) (ty : Ty) (h : List Ty) : Option (List Ty × Ty) :=
 if k = 1 then (match V6 cx nm with | some t => some ([], t) | none => none)
 else if k = 2 then some ([], S8)
 else if k = 3 ∨ k = 4 then some ([], W5)
 else if k = 5 then some ([], .mk 4 [ty, h.getD 0 B2])
 else if k = 6 then (match R0 4 (h.getD 0 B2) with | some (a, b) => if K0 (h.getD 1 B2) a = true then some ([.mk 4 [a, b], a], b) else none | none => none)
 else if k = 7 ∨ k = 8 then (if K0 (h.getD 0 B2) S8 = true ∧ K0 (h.getD 1 B2) S8 = true then some ([S8, S8], if k = 8 then W5 else S8) else none)
 else if k = 9 then (if K0 (h.getD 0 B2) W5 = true ∧ K0 (h.getD 1 B2) (h.getD 2 B2) = true then some ([W5, U7 (h.getD 1 B2) (h.getD 2 B2), U7 (h.getD 1 B2) (h.getD 2 B2)], U7 (h.getD 1 B2) (h.getD 2 B2)) else none)
 else if k = 10 then some ([], .mk 5 [h.getD 0 B2, h.getD 1 B2])
 else if k = 13 then (if K0 (h.getD 0 B2) ty = true then some ([ty], ty) else none)
 else (match R0 5 (h.getD 0 B2) with | some (a, b) => some ([.mk 5 [a, b]], if k = 12 then b else a) | none => none)
def Y4 (cx : Cx) (k : Int) (nm : ByteArray) (ty : Ty) (h : List Ty) : Option (List Ty × Ty) := match L8 cx k nm ty h with
 | some (w, t) => if F9 t = true then some (w, t) else none
 | none => none
def A3L : List Ty → List Ty → Bool
 | [], _ => true
 | a :: xs, b :: ys => N0 a b && A3L xs ys
 | _ :: _, [] => false
def N2 (cx : Cx) (k : Int) (nm : ByteArray) (ty : Ty) : Cx := if k = 5 then cx ++ [(nm, ty)] else cx
mutual
def A0Q (cx : Cx) : Tm → Option Ty
 | .mk k nm num ty fr lb ks => match Y5 (N2 cx k nm ty) ks with
  | none => none
  | some h => if k = 14 then (if N0 (h.getD 0 B2) fr = true then some ty else none)
   else match Y4 cx k nm ty h with
    | none => none
    | some (w, t) => if A3L w h = true then some t else none
def Y5 (cx : Cx) : List Tm → Option (List Ty)
 | [] => some []
 | t :: ts => match A0Q cx t with
  | none => none
  | some u => match Y5 cx ts with
   | none => none
   | some us => some (u :: us)
end
def B6H (e : Tm) : Option Ty := if P0 e = true then A0Q [] e else none
theorem A1L : ∀ (t : Ty) (G : IM) (cells : List Value), t.small → C1 G t cells →
  Fn Tryz.prog 48 [.agg ⟨cells⟩] [] G (J4 fun G' v => ∃ cells' F, v = .agg ⟨cells'⟩ ∧ Q8 (C4 G' G) t cells' F ∧ F.Nodup) := by
 refine Ty.ind fun k ks ih G cells hts hr => ?_
 simp only [Ty.small] at hts
 obtain ⟨hsm, hks⟩ := hts
 obtain ⟨p, c, es, rfl, hk, hsl, hkl⟩ := hr.open
 simp only [Ty.k, Ty.ks] at hk hsl hkl ⊢
 have hn := hsl.le
 refine C0 Tryz.func48 rfl Tryz.ntmps48 Tryz.results48 rfl ?_
 intro w0
 refine tS (tR ?_)
 refine sE (C5 rfl rfl) rfl (fun b3 => ?_)
 refine sE (A6 rfl) rfl (fun b4 => ?_)
 refine B4 ?_
 refine sE (A6 rfl) rfl (fun b12 => ?_)
 refine K8 ?_
 refine B8 ?_
 (refine Q7 25 2 ?_; refine I2 (fun (x : Nat × Option Addr × Nat × List (List Value) × List Nat × IM) => ⟨[(12, .int .i64 x.1), (11, .int .i64 ks.length), (10, .slice p ks.length c), (3, .pointer (some ⟨b12, 0, none⟩)), (2, .pointer (some ⟨b4, 0, none⟩))], [.blk b12 [.int .i64 k, .slice x.2.1 x.1 x.2.2.1], .slc x.2.1 x.2.2.1 25 2 x.1 x.2.2.2.1.flatten, .blk b4 [.int .i64 0, .slice none 0 0]], x.2.2.2.2.2⟩) (fun x => x.1 ≤ ks.length ∧ B9 G x.2.2.2.2.2 ∧ O5 (C4 x.2.2.2.2.2 G) (ks.take x.1) x.2.2.2.1 x.2.2.2.2.1 ∧ x.2.2.2.2.1.Nodup) (fun x => ks.length - x.1) (0, none, 0, [], [], G) ?_ ?_ ?_)
 (simp only [H6]; exact J8 (by repeat (first | exact D4.nil | refine D4.cons rfl ?_)) (by repeat (first | exact A0.refl | exact A0.nil | refine A0.cons (by repeat (first | exact Pk.here | apply Pk.there)) ?_)))
 exact ⟨by simp, B9.refl _, by simp [O5], by simp⟩
 (rintro ⟨i, pn, cn, es', F, Gi⟩ ⟨hi, hle, hst, hnd⟩; simp only [] at hi hle hst hnd ⊢; replace hsl := hsl.mono hle; replace hkl := hkl.mono hle)
 refine tS (tR ?_)
 refine sB (I0 rfl rfl) rfl rfl (fun h32 => ?_) (fun h32 => ?_)
 refine B4 ?_
 refine B8 ?_
 refine tS (tR ?_)
 (obtain ⟨b, o, p2, c2, rfl, hat, hre, hgb⟩ := hsl.kidTy hkl (i := i) (by omega) (by omega); refine sP (B3 rfl rfl rfl (by omega)) rfl rfl ?_)
 refine sL (A2 rfl rfl (hat _) rfl) rfl rfl ?_
 refine sE (A6 rfl) rfl (fun b45 => ?_)
 refine sS' ?_
 refine sD (nS ?_)
 refine E0 E1 rfl ?_
 refine I8 (i := 0) (l' := [tt,ff,ff,ff,ff,ff,ff,ff]) rfl D2 (B7 rfl) rfl (by kernel_rfl) rfl rfl ?_
 refine aL 1 rfl (C7 rfl rfl) rfl ?_
 refine aL 2 rfl (A4 rfl rfl) rfl ?_
 refine A3 3 ?_
 (refine H1 rfl rfl (ih _ (List.getElem_mem (by omega)) _ _ (Ty.smallL_mem hks _ (List.getElem_mem (by omega))) hre) rfl rfl rfl (fun v G1 hle1 hh => ?_); obtain ⟨cells', F', rfl, hs', hnd'⟩ := hh; obtain ⟨p3, c3, es3, rfl, _⟩ := hs'.R.open)
 refine A3 4 ?_
 (refine E6 rfl (C9 rfl rfl rfl (by omega) (by unfold maxLen; omega) rfl) rfl rfl ?_; rintro _ ⟨b56, rfl⟩)
 refine A3 5 ?_
 refine R4 rfl rfl rfl rfl rfl rfl (fun _ _ => by repeat (first | exact Sw.here | apply Sw.there)) (M6 (by repeat first | exact mH | apply mT)) rfl (by simp [Value.oneCell']) (by unfold maxLen; omega) (by omega) rfl rfl (by repeat (first | exact B1.nil | apply B1.dep (by kernel_rfl) | apply B1.blk (by kernel_rfl) (by repeat (first | exact Pk.here | apply Pk.there)) (by repeat first | exact mH | apply mT))) (fun pn' cn' => ?_)
 refine aP 6 rfl (B7 rfl) rfl ?_
 refine A3 7 ?_
 refine R7 rfl rfl rfl rfl rfl rfl rfl rfl (by kernel_rfl) (by repeat first | exact Sw.here | apply Sw.there) (by rfl) ?_
 refine B6 ?_
 refine sP (H2 rfl rfl (by omega) (by omega)) rfl rfl ?_
 refine D7 ?_
 refine H9 (i + 1, pn', cn', es' ++ [[.int .i64 ks[i].k, .slice p3 ks[i].ks.length c3]], F ++ F', G1) ?_ ?_ ?_
 (simp only [H6]; exact J8 (by repeat (first | exact D4.nil | refine D4.cons rfl ?_)) (by repeat (first | exact A0.refl | exact A0.nil | refine A0.cons (by repeat (first | exact Pk.here | apply Pk.there)) ?_)))
 exact ⟨by omega, hle.trans hle1, O5.step hst hnd hle hle1 (by omega) hs' hnd'⟩
 (show ks.length - (i + 1) < ks.length - i; omega)
 refine I6 ?_
 (refine E9 (by repeat (first | exact Pk.here | apply Pk.there)) (fun G2 hle2 hsl2 hno2 => ?_); obtain rfl : i = ks.length := by omega)
 refine tT ?_
 refine K7 (rC rfl (A4 rfl rfl)) ?_
 (rw [List.take_length] at hst; obtain ⟨F2, hf1, hf2⟩ := Q8.fin hst hnd hle hle2 hsl2 hno2 hk; exact ⟨rfl, _, F2, rfl, hf1, hf2⟩)
def B2q (t : Ty) (G : IM) : IM → Value → List A5 → Prop := J4 fun G' v => ∃ cells' F, v = .agg ⟨cells'⟩ ∧ Q8 (C4 G' G) t cells' F ∧ F.Nodup
def B6I (ks : List Ty) (G : IM) : IM → Value → List A5 → Prop := J4 fun G' v => ∃ p c F, v = .slice p ks.length c ∧ A7J (C4 G' G) ks p c F ∧ F.Nodup
def A5Z (t : Tm) (G : IM) : IM → Value → List A5 → Prop := J4 fun G' v => ∃ cells' F, v = .agg ⟨cells'⟩ ∧ Q1 (C4 G' G) t cells' F ∧ F.Nodup
def B6J (ks : List Tm) (G : IM) : IM → Value → List A5 → Prop := J4 fun G' v => ∃ p c F, v = .slice p ks.length c ∧ A2r (C4 G' G) ks p c F ∧ F.Nodup
theorem P9 : ∀ (t : Ty) (G : IM) (cells : List Value), t.small → C1 G t cells → Fn Tryz.prog 167 [.agg ⟨cells⟩] [] G (B2q t G) := by
 refine Ty.ind fun k ks ih G cells hts hr => ?_
 simp only [Ty.small] at hts
 obtain ⟨hsm, hks⟩ := hts
 obtain ⟨p, c, es, rfl, hk, hsl, hkl⟩ := hr.open
 simp only [Ty.k, Ty.ks] at hk hsl hkl ⊢
 have hn := hsl.le
 refine C0 Tryz.func167 rfl Tryz.ntmps167 Tryz.results167 rfl ?_
 intro w0
 refine tS (tR ?_)
 refine sE (C5 rfl rfl) rfl (fun b3 => ?_)
 refine sE (A6 rfl) rfl (fun b4 => ?_)
 refine B4 ?_
 refine sE (A6 rfl) rfl (fun b12 => ?_)
 refine E4 ?_
 refine B8 ?_
 (refine Q7 25 2 ?_; refine I2 (fun (x : Nat × Option Addr × Nat × List (List Value) × List Nat × IM) => ⟨[(4, .int .i64 x.1), (3, .pointer (some ⟨b12, 0, none⟩)), (1, .pointer (some ⟨b3, 0, none⟩)), (2, .pointer (some ⟨b4, 0, none⟩))], [.blk b12 [.int .i64 k, .slice x.2.1 x.1 x.2.2.1], .slc x.2.1 x.2.2.1 25 2 x.1 x.2.2.2.1.flatten, .blk b4 [.int .i64 0, .slice none 0 0], .blk b3 [.int .i64 k, .slice p ks.length c]], x.2.2.2.2.2⟩) (fun x => x.1 ≤ ks.length ∧ B9 G x.2.2.2.2.2 ∧ O5 (C4 x.2.2.2.2.2 G) (ks.take x.1) x.2.2.2.1 x.2.2.2.2.1 ∧ x.2.2.2.2.1.Nodup) (fun x => ks.length - x.1) (0, none, 0, [], [], G) ?_ ?_ ?_)
 (simp only [H6]; exact D3)
 exact ⟨by simp, B9.refl _, by simp [O5], by simp⟩
 (rintro ⟨i, pn, cn, es', F, Gi⟩ ⟨hi, hle, hst, hnd⟩; simp only [] at hi hle hst hnd ⊢; replace hsl := hsl.mono hle; replace hkl := hkl.mono hle)
 refine B4 ?_
 refine sB (I0 rfl rfl) rfl rfl (fun h34 => ?_) (fun h34 => ?_)
 refine A7 ?_
 refine B8 ?_
 (obtain ⟨b, o, p2, c2, rfl, hat, hre, hgb⟩ := hsl.kidTy hkl (i := i) (by omega) (by omega); refine E0 E1 rfl ?_)
 refine I8 (i := 0) (l' := [tt,ff,ff,ff,ff,ff,ff,ff,ff,ff,ff,ff]) rfl D2 (B7 rfl) rfl (by kernel_rfl) rfl rfl ?_
 refine aL 1 rfl (C7 rfl rfl) rfl ?_
 refine aP 2 rfl (B7 rfl) rfl ?_
 refine aL 3 rfl (C7 rfl rfl) rfl ?_
 refine aP 4 rfl (qM rfl) rfl ?_
 refine aP 5 rfl (B3 rfl rfl rfl (by omega)) rfl ?_
 refine aL 6 rfl (A2 rfl rfl (hat _) rfl) rfl ?_
 refine A3 7 ?_
 (refine H1 rfl rfl (ih ks[i] (List.getElem_mem (by omega)) _ _ (Ty.smallL_mem hks _ (List.getElem_mem (by omega))) hre) rfl rfl rfl (fun v G1 hle1 hh => ?_); obtain ⟨cells', F', rfl, hs', hnd'⟩ := hh; obtain ⟨p3, c3, es3, rfl, _⟩ := hs'.R.open)
 refine A3 8 ?_
 (refine E6 rfl (C9 rfl rfl rfl (by omega) (by unfold maxLen; omega) rfl) rfl rfl ?_; rintro _ ⟨b53, rfl⟩)
 refine A3 9 ?_
 refine R4 rfl rfl rfl rfl rfl rfl (fun _ _ => by repeat (first | exact Sw.here | apply Sw.there)) (M6 (by repeat first | exact mH | apply mT)) rfl (by simp [Value.oneCell']) (by unfold maxLen; omega) (by omega) rfl rfl (by repeat (first | exact B1.nil | apply B1.dep (by decide +kernel) | apply B1.blk (by decide +kernel) (by repeat (first | exact Pk.here | apply Pk.there)) (by repeat first | exact mH | apply mT))) (fun pn' cn' => ?_)
 refine aP 10 rfl (B7 rfl) rfl ?_
 refine A3 11 ?_
 refine R7 rfl rfl rfl rfl rfl rfl rfl rfl (by kernel_rfl) (by repeat first | exact Sw.here | apply Sw.there) (by rfl) ?_
 refine B0 ?_
 refine sP (H2 rfl rfl (by omega) (by omega)) rfl rfl ?_
 refine D7 ?_
 refine H9 (i + 1, pn', cn', es' ++ [[.int .i64 ks[i].k, .slice p3 ks[i].ks.length c3]], F ++ F', G1) ?_ ?_ ?_
 (simp only [H6]; exact D3)
 exact ⟨by omega, hle.trans hle1, O5.step hst hnd hle hle1 (by omega) hs' hnd'⟩
 (show ks.length - (i + 1) < ks.length - i; omega)
 refine K5 ?_
 (refine E9 (by repeat (first | exact Pk.here | apply Pk.there)) (fun G2 hle2 hsl2 hno2 => ?_); obtain rfl : i = ks.length := (by omega))
 refine tT ?_
 refine K7 (rC rfl (A4 rfl rfl)) ?_
 (rw [List.take_length] at hst; obtain ⟨F2, hf1, hf2⟩ := Q8.fin hst hnd hle hle2 hsl2 hno2 hk; exact ⟨rfl, _, F2, rfl, hf1, hf2⟩)
theorem A20 : ∀ (t : Tm) (G : IM) (cells : List Value), t.small → A8 G t cells → Fn Tryz.prog 128 [.agg ⟨cells⟩] [] G (A5Z t G) := by
 refine Tm.ind fun k nm num ty fr lb ks ih G cells hts hr => ?_
 have hone := hr.one
 simp only [Tm.small] at hts
 obtain ⟨hnm, hty', hfr', hsm, hks⟩ := hts
 obtain ⟨tk, tks⟩ := ty
 obtain ⟨fk, fks⟩ := fr
 obtain ⟨pt, ct, pf, cf, p, c, es, rfl, hk, hnum, hlb, hty, hfr, hsl, hkl⟩ := hr.open9
 have hn := hsl.le
 have hT := P9 (.mk tk tks) G _ hty' hty
 refine C0 Tryz.func128 rfl Tryz.ntmps128 Tryz.results128 rfl ?_
 intro w0
 refine tS (tR ?_)
 refine sE (C5 rfl rfl) rfl (fun b3 => ?_)
 refine sE (A6 rfl) rfl (fun b4 => ?_)
 refine B0 ?_
 refine sE (A6 rfl) rfl (fun b10 => ?_)
 refine B4 ?_
 (refine D8 rfl hT rfl rfl (fun v G1 hle1 hh => ?_); obtain ⟨cs1, F1, rfl, hs1, hn1⟩ := hh; obtain ⟨p1, c1, rfl, _⟩ := hs1.open; have hF := P9 (.mk fk fks) G1 _ hfr' (hfr.mono hle1))
 refine D6 ?_
 (refine D8 rfl hF rfl rfl (fun v G2 hle2 hh => ?_); obtain ⟨cs2, F2, rfl, hs2, hn2⟩ := hh; obtain ⟨p2, c2, rfl, _⟩ := hs2.open; replace hsl := hsl.mono (hle1.trans hle2); replace hkl := hkl.mono (hle1.trans hle2))
 refine J9 ?_
 refine B8 ?_
 (refine Q7 28 9 ?_; refine I2 (fun (x : Nat × Option Addr × Nat × List (List Value) × List Nat × IM) => ⟨[(4, .int .i64 x.1), (3, .pointer (some ⟨b10, 0, none⟩)), (1, .pointer (some ⟨b3, 0, none⟩)), (2, .pointer (some ⟨b4, 0, none⟩))], [.blk b10 [.int .i64 k, .string nm, .int .i64 num, .int .i64 tk, .slice p1 tks.length c1, .int .i64 fk, .slice p2 fks.length c2, .int .i64 lb, .slice x.2.1 x.1 x.2.2.1], .slc x.2.1 x.2.2.1 28 9 x.1 x.2.2.2.1.flatten, .blk b4 [.int .i64 0, .string ⟨⟨[]⟩⟩, .int .i64 0, .int .i64 0, .slice none 0 0, .int .i64 0, .slice none 0 0, .int .i64 0, .slice none 0 0], .blk b3 [.int .i64 k, .string nm, .int .i64 num, .int .i64 tk, .slice pt tks.length ct, .int .i64 fk, .slice pf fks.length cf, .int .i64 lb, .slice p ks.length c]], x.2.2.2.2.2⟩) (fun x => x.1 ≤ ks.length ∧ B9 G2 x.2.2.2.2.2 ∧ O6 (C4 x.2.2.2.2.2 G2) (ks.take x.1) x.2.2.2.1 x.2.2.2.2.1 ∧ x.2.2.2.2.1.Nodup) (fun x => ks.length - x.1) (0, none, 0, [], [], G2) ?_ ?_ ?_)
 (simp only [H6]; exact D3)
 exact ⟨by simp, B9.refl _, by simp [O6], by simp⟩
 (rintro ⟨i, pn, cn, es', F, Gi⟩ ⟨hi, hle, hst, hnd⟩; simp only [] at hi hle hst hnd ⊢; replace hsl := hsl.mono hle; replace hkl := hkl.mono hle)
 refine B4 ?_
 refine sB (I0 rfl rfl) rfl rfl (fun h56 => ?_) (fun h56 => ?_)
 refine A7 ?_
 refine B8 ?_
 (obtain ⟨b, o, e, rfl, hl, hat, hre, hgb⟩ := hsl.kidTm hkl (i := i) (by omega) (by omega); have hone := hre.one; refine E0 E1 rfl ?_)
 refine I8 (i := 0) (l' := [tt,ff,ff,ff,ff,ff,ff,ff,ff,ff,ff,ff]) rfl D2 (B7 rfl) rfl (by kernel_rfl) rfl rfl ?_
 refine aL 1 rfl (C7 rfl rfl) rfl ?_
 refine aP 2 rfl (B7 rfl) rfl ?_
 refine aL 3 rfl (C7 rfl rfl) rfl ?_
 refine aP 4 rfl (qM rfl) rfl ?_
 refine aP 5 rfl (B3 rfl rfl rfl (by omega)) rfl ?_
 refine aL 6 rfl (A2 rfl rfl (hat _) hl) rfl ?_
 refine A3 7 ?_
 (refine H1 rfl rfl (ih ks[i] (List.getElem_mem (by omega)) _ _ (Tm.smallL_mem hks _ (List.getElem_mem (by omega))) hre) rfl rfl rfl (fun v G3 hle3 hh => ?_); obtain ⟨cells', F', rfl, hs', hnd'⟩ := hh; obtain ⟨qt, dt, et', qf, df, ef', q3, d3, es3, rfl, _⟩ := hs'.R.open)
 refine A3 8 ?_
 (refine E6 rfl (C9 rfl rfl rfl (by omega) (by unfold maxLen; omega) rfl) rfl rfl ?_; rintro _ ⟨b75, rfl⟩)
 refine A3 9 ?_
 refine R4 rfl rfl rfl rfl rfl rfl (fun _ _ => by repeat (first | exact Sw.here | apply Sw.there)) (M6 (by repeat first | exact mH | apply mT)) rfl (by simp [Value.oneCell']) (by unfold maxLen; omega) (by omega) rfl rfl (by repeat (first | exact B1.nil | apply B1.dep (by decide +kernel) | apply B1.blk (by decide +kernel) (by repeat (first | exact Pk.here | apply Pk.there)) (by repeat first | exact mH | apply mT))) (fun pn' cn' => ?_)
 refine aP 10 rfl (B7 rfl) rfl ?_
 refine A3 11 ?_
 refine R7 rfl rfl rfl rfl rfl rfl rfl rfl (by kernel_rfl) (by repeat first | exact Sw.here | apply Sw.there) (by rfl) ?_
 refine B0 ?_
 refine sP (H2 rfl rfl (by omega) (by omega)) rfl rfl ?_
 refine D7 ?_
 refine H9 (i + 1, pn', cn', es' ++ [[.int .i64 ks[i].k, .string ks[i].nm, .int .i64 ks[i].num, .int .i64 ks[i].ty.k, .slice qt ks[i].ty.ks.length dt, .int .i64 ks[i].fr.k, .slice qf ks[i].fr.ks.length df, .int .i64 ks[i].lb, .slice q3 ks[i].ks.length d3]], F ++ F', G3) ?_ ?_ ?_
 (simp only [H6]; exact D3)
 exact ⟨by omega, hle.trans hle3, O6.step hst hnd hle hle3 (by omega) hs' hnd'⟩
 (show ks.length - (i + 1) < ks.length - i; omega)
 refine K5 ?_
 (refine E9 (by repeat (first | exact Pk.here | apply Pk.there)) (fun G4 hle4 hsl4 hno4 => ?_); obtain rfl : i = ks.length := (by omega))
 refine tT ?_
 refine K7 (rC rfl (A4 rfl rfl)) ?_
 (rw [List.take_length] at hst; obtain ⟨F3, hf1, hf2⟩ := A2r.fin hst hnd hle hle4 hsl4 hno4; obtain ⟨F5, hg1, hg2⟩ := Q1.mk3 (nm := nm) hk hnum hlb hle1 hle2 (hle.trans hle4) hs1 hn1 hs2 hn2 hf1 hf2; exact ⟨rfl, _, F5, rfl, hg1, hg2⟩)
mutual
def A10 (g : Tm → Tm) : Tm → Tm
 | .mk k nm num ty fr lb ks => g (.mk k nm num ty fr lb (A1a g ks))
def A1a (g : Tm → Tm) : List Tm → List Tm
 | [] => []
 | t :: ts => A10 g t :: A1a g ts
end
theorem A50 (g : Tm → Tm) : ∀ ks, A1a g ks = ks.map (A10 g)
 | [] => rfl
 | t :: ts => by rw [A1a, A50 g ts, List.map_cons]
mutual
theorem A8m : ∀ t, A10 id t = t
 | .mk k nm num ty fr lb ks => by rw [A10, A8n ks]; rfl
theorem A8n : ∀ ks, A1a id ks = ks
 | [] => rfl
 | t :: ts => by rw [A1a, A8m t, A8n ts]
end
theorem Q1.mk3k {G G1 G2 G3 : IM} {k : Int} {nm : ByteArray} {num : Int} {ty fr : Ty} {lb : Int} {ks : List Tm} {tc fc : List Value} {p : Option Addr} {c : Nat} {F1 F2 F3 : List Nat} (hk : F8 k) (hnum : F8 num) (hlb : F8 lb)
  (hl1 : B9 G G1) (hl2 : B9 G1 G2) (hl3 : B9 G2 G3) (h3 : A2r (C4 G1 G) ks p c F3) (n3 : F3.Nodup) (h1 : Q8 (C4 G2 G1) ty tc F1) (n1 : F1.Nodup) (h2 : Q8 (C4 G3 G2) fr fc F2) (n2 : F2.Nodup) :
  ∃ F, Q1 (C4 G3 G) (.mk k nm num ty fr lb ks) ([.int .i64 k, .string nm, .int .i64 num] ++ tc ++ fc ++ [.int .i64 lb, .slice p ks.length c]) F ∧ F.Nodup := by
 obtain ⟨es, Fs, e1, e2, rfl, e4⟩ := h3
 have i3 : ∀ b ∈ J0 p ++ Fs, C4 G1 G b ≠ none := by
  intro b hb
  rcases List.mem_append.1 hb with hb | hb
  ·exact e4 b hb
  ·exact e2.inG b hb
 have a1 : B9 (C4 G1 G) (C4 G3 G) := C4.mono (hl2.trans hl3)
 have a2 : B9 (C4 G2 G1) (C4 G3 G) := fun b l h => C4.mono hl3 b l (C4.anti hl1 b l h)
 have a3 : B9 (C4 G3 G2) (C4 G3 G) := C4.anti (hl1.trans hl2)
 refine ⟨F1 ++ (F2 ++ (J0 p ++ Fs)), ?_, ?_⟩
 ·simp only [Q1]
  exact ⟨tc, fc, p, c, es, F1, F2, Fs, rfl, hk, hnum, hlb, h1.mono a2, h2.mono a3, e1.mono a1, e2.mono a1, rfl, A2X a1 e4⟩
 ·rw [List.nodup_append, List.nodup_append]
  refine ⟨n1, ⟨n2, n3, ?_⟩, ?_⟩
  ·rintro x hx y hy rfl
   exact A2s (A2X (C4.mono hl2) i3) h2.inG x hy x hx rfl
  ·rintro x hx y hy rfl
   rcases List.mem_append.1 hy with hy | hy
   ·exact A2s (A2X (C4.anti hl1) h1.inG) h2.inG x hx x hy rfl
   ·exact A2s i3 h1.inG x hy x hx rfl
mutual
def mOk (Q : Tm → Prop) (g : Tm → Tm) : Tm → Prop
 | .mk k nm num ty fr lb ks => A2u Q g ks ∧ Q (.mk k nm num ty fr lb (A1a g ks))
def A2u (Q : Tm → Prop) (g : Tm → Tm) : List Tm → Prop
 | [] => True
 | t :: ts => mOk Q g t ∧ A2u Q g ts
end
theorem A8o {Q : Tm → Prop} {g : Tm → Tm} : ∀ {ts : List Tm}, A2u Q g ts → ∀ t ∈ ts, mOk Q g t
 | [], _, t, h => by simp at h
 | t' :: ts, h, t, ht => by
  simp only [A2u] at h
  rcases List.mem_cons.1 ht with rfl | ht
  ·exact h.1
  ·exact A8o h.2 t ht
mutual
theorem A8p (g : Tm → Tm) : ∀ t, mOk (fun _ => True) g t
 | .mk k nm num ty fr lb ks => by rw [mOk]; exact ⟨A8q g ks, trivial⟩
theorem A8q (g : Tm → Tm) : ∀ ts, A2u (fun _ => True) g ts
 | [] => by rw [A2u]; trivial
 | t :: ts => by rw [A2u]; exact ⟨A8p g t, A8q g ts⟩
end
def A8r (g : Tm → Tm) (Q : Tm → Prop) (fid : FuncId) (us cs : List Value) : Prop := ∀ (t : Tm) (G0 G1 : IM) (cells : List Value) (F : List Nat), Q t → B9 G0 G1 → Q1 (C4 G1 G0) t cells F → F.Nodup →
 Fn Tryz.prog fid (us ++ [.agg ⟨cells⟩] ++ cs) [] G1 (J4 fun G2 v => ∃ cells' F', v = .agg ⟨cells'⟩ ∧ Q1 (C4 G2 G0) (g t) cells' F' ∧ F'.Nodup)
theorem B2r (g : Tm → Tm) (Q : Tm → Prop) (fid : FuncId) [B5 Tryz.prog fid] (us cs : List Value) (hg : A8r g Q fid us cs) : ∀ (t : Tm) (G : IM) (cells : List Value), mOk Q g t → t.small → A8 G t cells →
  Fn Tryz.prog 42 [.agg ⟨cells⟩, .func (.func fid) ⟨us⟩ ⟨cs⟩] [] G (A5Z (A10 g t) G) := by
 refine Tm.ind fun k nm num ty fr lb ks ih G cells hmo hts hr => ?_
 have hone := hr.one
 simp only [mOk] at hmo
 obtain ⟨hmoL, hQ⟩ := hmo
 simp only [Tm.small] at hts
 obtain ⟨hnm, hty', hfr', hsm, hks⟩ := hts
 obtain ⟨tk, tks⟩ := ty
 obtain ⟨fk, fks⟩ := fr
 obtain ⟨pt, ct, pf, cf, p, c, es, rfl, hk, hnum, hlb, hty, hfr, hsl, hkl⟩ := hr.open9
 have hn := hsl.le
 have hlen : (A1a g ks).length = ks.length := by rw [A50, List.length_map]
 have hget : ∀ i (h : i < ks.length) (h' : i < (A1a g ks).length), (A1a g ks)[i] = A10 g ks[i] := fun i h h' => by simp [A50]
 refine C0 Tryz.func42 rfl Tryz.ntmps42 Tryz.results42 rfl ?_
 intro w0
 refine tS (tR ?_)
 refine sE (C5 rfl rfl) rfl (fun b3 => ?_)
 refine sE (A6 rfl) rfl (fun b4 => ?_)
 refine J9 ?_
 refine B8 ?_
 (refine Q7 28 9 ?_; refine I2 (fun (x : Nat × Option Addr × Nat × List (List Value) × List Nat × IM) => ⟨[(11, .int .i64 x.1), (10, .int .i64 ks.length), (9, .slice p ks.length c), (5, .slice x.2.1 x.1 x.2.2.1), (2, .pointer (some ⟨b3, 0, none⟩)), (1, .func (.func fid) ⟨us⟩ ⟨cs⟩), (4, .pointer (some ⟨b4, 0, none⟩))], [.slc x.2.1 x.2.2.1 28 9 x.1 x.2.2.2.1.flatten, .blk b4 [.int .i64 0, .string ⟨⟨[]⟩⟩, .int .i64 0, .int .i64 0, .slice none 0 0, .int .i64 0, .slice none 0 0, .int .i64 0, .slice none 0 0], .blk b3 [.int .i64 k, .string nm, .int .i64 num, .int .i64 tk, .slice pt tks.length ct, .int .i64 fk, .slice pf fks.length cf, .int .i64 lb, .slice p ks.length c]], x.2.2.2.2.2⟩) (fun x => x.1 ≤ ks.length ∧ B9 G x.2.2.2.2.2 ∧ O6 (C4 x.2.2.2.2.2 G) ((A1a g ks).take x.1) x.2.2.2.1 x.2.2.2.2.1 ∧ x.2.2.2.2.1.Nodup) (fun x => ks.length - x.1) (0, none, 0, [], [], G) ?_ ?_ ?_)
 (simp only [H6]; exact D3)
 exact ⟨by simp, B9.refl _, by simp [O6], by simp⟩
 (rintro ⟨i, pn, cn, es', F, Gi⟩ ⟨hi, hle, hst, hnd⟩; simp only [] at hi hle hst hnd ⊢; replace hsl := hsl.mono hle; replace hkl := hkl.mono hle)
 refine tS (tR ?_)
 refine sB (I0 rfl rfl) rfl rfl (fun h28 => ?_) (fun h28 => ?_)
 refine B4 ?_
 refine B8 ?_
 refine tS (tR ?_)
 (obtain ⟨b, o, e, rfl, hl, hat, hre, hgb⟩ := hsl.kidTm hkl (i := i) (by omega) (by omega); have hone := hre.one; refine sP (B3 rfl rfl rfl (by omega)) rfl rfl ?_)
 refine sL (A2 rfl rfl (hat _) hl) rfl rfl ?_
 refine sE (A6 rfl) rfl (fun b41 => ?_)
 refine sS rfl rfl rfl hl hone rfl ?_ (hu := by exact D5 hl.symm)
 refine B6 ?_
 refine sL (A2 rfl rfl (A9 (by repeat first | exact mH | apply mT)) (by assumption)) rfl rfl ?_
 refine sQ (qM rfl) rfl ?_
 (refine D8 rfl (ih ks[i] (List.getElem_mem (by omega)) _ _ (A8o hmoL _ (List.getElem_mem (by omega))) (Tm.smallL_mem hks _ (List.getElem_mem (by omega))) hre) rfl rfl (fun v G3 hle3 hh => ?_); obtain ⟨cells', F', rfl, hs', hnd'⟩ := hh; rw [← hget i (by omega) (by omega)] at hs'; have hlc := hs'.R.len; have hoc := hs'.R.one)
 (obtain ⟨v1, v2, v3, v4, v5, v6, v7, v8, v9, rfl⟩ : ∃ v1 v2 v3 v4 v5 v6 v7 v8 v9, cells' = [v1, v2, v3, v4, v5, v6, v7, v8, v9] := by obtain ⟨_, _, _, _, _, _, _, _, _, rfl, _⟩ := hs'.R.open; exact ⟨_, _, _, _, _, _, _, _, _, rfl⟩)
 (refine I1 (C9 rfl rfl rfl (by omega) (by unfold maxLen; omega) rfl) rfl ?_; rintro _ ⟨b51, rfl⟩)
 refine X4 rfl rfl rfl rfl rfl (fun _ _ => by repeat (first | exact Sw.here | apply Sw.there)) (M6 (by repeat first | exact mH | apply mT)) rfl (fun u hu => List.all_eq_true.1 hoc u hu) (by unfold maxLen; omega) (by omega) rfl (fun pn' cn' => ?_)
 refine B0 ?_
 refine sP (H2 rfl rfl (by omega) (by omega)) rfl rfl ?_
 refine D7 ?_
 refine H9 (i + 1, pn', cn', es' ++ [[v1, v2, v3, v4, v5, v6, v7, v8, v9]], F ++ F', G3) ?_ ?_ ?_
 (simp only [H6]; exact D3)
 exact ⟨by omega, hle.trans hle3, O6.step hst hnd hle hle3 (by omega) hs' hnd'⟩
 (show ks.length - (i + 1) < ks.length - i; omega)
 refine J5 ?_
 (obtain rfl : i = ks.length := (by omega); refine A1X (by repeat (first | exact Pk.here | apply Pk.there)) (fun G2 hle2 hsl2 hno2 => ?_); rw [← hlen, List.take_length] at hst; rw [← hlen] at hsl2; obtain ⟨F3, hf1, hf2⟩ := A2r.fin hst hnd hle hle2 hsl2 hno2; have hleG := hle.trans hle2; have hT := A1L (.mk tk tks) G2 _ hty' (hty.mono hleG); refine E0 E1 rfl ?_)
 refine I8 (i := 0) (l' := [tt,ff,ff,ff,ff,ff,ff,ff,ff,ff,ff,ff,ff]) rfl D2 (B7 rfl) rfl (by kernel_rfl) rfl rfl ?_
 refine aL 1 rfl (A4 rfl rfl) rfl ?_
 refine aP 3 rfl (B7 rfl) rfl ?_
 refine aL 4 rfl (A4 rfl rfl) rfl ?_
 refine aP 6 rfl (qM rfl) rfl ?_
 refine A3 2 ?_
 (refine H1 rfl rfl hT rfl rfl rfl (fun v G4 hle4 hh => ?_); obtain ⟨cs1, F1, rfl, hs1, hn1⟩ := hh; obtain ⟨p1, c1, rfl, _⟩ := hs1.open; have hF := A1L (.mk fk fks) G4 _ hfr' (hfr.mono (hleG.trans hle4)))
 refine aP 7 rfl (B7 rfl) rfl ?_
 refine A3 5 ?_
 (refine H1 rfl rfl hF rfl rfl rfl (fun v G5 hle5 hh => ?_); obtain ⟨cs2, F2, rfl, hs2, hn2⟩ := hh; obtain ⟨p2, c2, rfl, _⟩ := hs2.open; obtain ⟨F6, hg1, hg2⟩ := Q1.mk3k (nm := nm) hk hnum hlb hleG hle4 hle5 hf1 hf2 hs1 hn1 hs2 hn2; rw [hlen] at hg1; have hch := hg _ G G5 _ F6 hQ (hleG.trans (hle4.trans hle5)) hg1 hg2)
 refine A3 8 ?_
 refine R7 rfl rfl rfl rfl rfl rfl rfl rfl (by kernel_rfl) (by repeat first | exact Sw.here | apply Sw.there) (by rfl) ?_
 refine aP 9 rfl (B7 rfl) rfl ?_
 refine A3 10 ?_
 refine R7 rfl rfl rfl rfl rfl rfl rfl rfl (by kernel_rfl) (by repeat first | exact Sw.here | apply Sw.there) (by rfl) ?_
 refine aP 11 rfl (B7 rfl) rfl ?_
 refine A3 12 ?_
 refine R7 rfl rfl rfl rfl rfl rfl rfl rfl (by kernel_rfl) (by repeat first | exact Sw.here | apply Sw.there) (by rfl) ?_
 refine A7 ?_
 (refine I1 (A4k rfl rfl hch (List.Perm.refl _) rfl) rfl ?_; rintro _ ⟨v, G7, outs, rfl, hle7, rfl, cells7, F7, rfl, hs7, hn7⟩; have hl7 := hs7.R.len; have ho7 := hs7.R.one)
 refine sS rfl rfl rfl hl7 ho7 rfl ?_ (hu := by exact D5 hl7.symm)
 refine sD (nS (tT ?_))
 refine K7 (rC rfl (A2 rfl rfl (A9 (by repeat first | exact mH | apply mT)) hl7)) ?_
 (rw [A10]; exact ⟨rfl, cells7, F7, rfl, hs7, hn7⟩)
theorem B2s (G : IM) (cells : List Value) (hl : cells.length = 9) (hone : cells.all (·.oneCell') = true) : Fn Tryz.prog 94 [.agg ⟨cells⟩] [] G (I5 (.agg ⟨cells⟩) G) := by
 refine C0 Tryz.func94 rfl Tryz.ntmps94 Tryz.results94 rfl ?_
 intro w0
 refine tS (tR ?_)
 refine sE (C5 rfl rfl) rfl (fun b3 => ?_)
 refine sE (A6 rfl) rfl (fun b4 => ?_)
 refine sD (nS (tS (tR ?_)))
 refine sL (A2 rfl rfl (A9 (by repeat first | exact mH | apply mT)) (by assumption)) rfl rfl ?_
 refine sS rfl rfl rfl hl hone rfl ?_ (hu := by exact D5 hl.symm)
 refine sD (nS (tT ?_))
 refine K7 (rC rfl (A2 rfl rfl (A9 (by repeat first | exact mH | apply mT)) hl)) ?_
 exact ⟨rfl, rfl, rfl⟩
theorem B2t : A8r id (fun _ => True) 94 [] [] := fun t G0 G1 cells F _ hle hs hn =>
 (B2s G1 cells hs.R.len hs.R.one).mono fun G' v outs _ ⟨h1, h2, h3⟩ => ⟨h3, cells, F, h2, by rw [h1]; exact hs, hn⟩
theorem A51 (t : Tm) (G : IM) (cells : List Value) (hts : t.small) (hr : A8 G t cells) : Fn Tryz.prog 47 [.agg ⟨cells⟩] [] G (A5Z t G) := by
 have hl := hr.len
 have hone := hr.one
 have hM := B2r id (fun _ => True) 94 [] [] B2t t G cells (A8p _ t) hts hr
 rw [A8m] at hM
 refine C0 Tryz.func47 rfl Tryz.ntmps47 Tryz.results47 rfl ?_
 intro w0
 refine tS (tR ?_)
 refine sE (C5 rfl rfl) rfl (fun b3 => ?_)
 refine sE (A6 rfl) rfl (fun b4 => ?_)
 refine sD (nS (tS (tR ?_)))
 refine sL (A2 rfl rfl (A9 (by repeat first | exact mH | apply mT)) (by assumption)) rfl rfl ?_
 (refine D8 rfl hM rfl rfl (fun v G3 hle3 hh => ?_); obtain ⟨cells', F', rfl, hs', hnd'⟩ := hh; have hl' := hs'.R.len; have ho' := hs'.R.one)
 refine sS rfl rfl rfl hl' ho' rfl ?_ (hu := by exact D5 hl'.symm)
 refine sD (nS (tT ?_))
 refine K7 (rC rfl (A2 rfl rfl (A9 (by repeat first | exact mH | apply mT)) hl')) ?_
 exact ⟨rfl, cells', F', rfl, hs', hnd'⟩
theorem B2u {D N : Int} {k : Int} {nm : ByteArray} {num : Int} {ty fr : Ty} {lb : Int} {ks : List Tm} {d : Int} (h : M5 D N (.mk k nm num ty fr lb ks) d = true) : d ≤ D ∧ ∀ i, (hi : i < ks.length) → M5 D N ks[i] (d + 1) = true := by
 rw [M5] at h
 simp only [Bool.and_eq_true, decide_eq_true_eq] at h
 exact ⟨h.1.1.1, (A07 D N ks _).1 h.2⟩
mutual
theorem A52 (M D N : Int) : ∀ (t : Tm) (deep c : Int), c ≤ M → ((T5 M D N t deep c).1 = true ↔ M5 D N t deep = true ∧ c + D0 t ≤ M)
 | .mk k nm num ty fr lb ks, deep, c, hc => by
  rw [T5, D0]
  by_cases h : c + 1 > M ∨ deep > D ∨ k = N ∨ V5 k nm num ty fr lb ks.length = false
  ·rw [if_pos h]
   constructor
   ·intro h; cases h
   ·rintro ⟨h1, h2⟩
    rcases h with h | h
    ·omega
    ·rw [A1l h] at h1; cases h1
  ·rw [if_neg h]
   have hn : V5 k nm num ty fr lb ks.length = true := by
    cases hx : V5 k nm num ty fr lb ks.length with
    | true => rfl
    | false => exact absurd (Or.inr (Or.inr (Or.inr hx))) h
   rw [A08 (by omega) (by omega) hn, A8s M D N ks (deep + 1) (c + 1) (by omega)]
   constructor
   ·rintro ⟨a, b⟩; exact ⟨a, by omega⟩
   ·rintro ⟨a, b⟩; exact ⟨a, by omega⟩
theorem A8s (M D N : Int) : ∀ (ts : List Tm) (deep c : Int), c ≤ M → ((U6 M D N ts deep c).1 = true ↔ M3 D N ts deep = true ∧ c + E7 ts ≤ M)
 | [], deep, c, hc => by simp [U6, M3, E7]; omega
 | t :: ts, deep, c, hc => by
  have h0 := A52 M D N t deep c hc
  rw [U6, M3, E7, Bool.and_eq_true]
  by_cases h : (T5 M D N t deep c).1 = true
  ·rw [if_pos h, A5N M D N t deep c h, A8s M D N ts deep _ (h0.1 h).2]
   have := h0.1 h
   constructor
   ·rintro ⟨a, b⟩; exact ⟨⟨this.1, a⟩, by omega⟩
   ·rintro ⟨⟨_, a⟩, b⟩; exact ⟨a, by omega⟩
  ·rw [if_neg h]
   constructor
   ·intro h'; cases h'
   ·rintro ⟨⟨a, _⟩, b⟩
    exact absurd (h0.2 ⟨a, by omega⟩) h
end
theorem A53 (t : Tm) : P0 t = true ↔ M5 40 13 t 1 = true ∧ D0 t ≤ 200 := by
 have := A52 200 40 13 t 1 0 (by omega)
 rw [P0, this]
 constructor
 ·rintro ⟨a, b⟩; exact ⟨a, by omega⟩
 ·rintro ⟨a, b⟩; exact ⟨a, by omega⟩
theorem A8t (D N : Int) : ∀ (t : Tm) (d : Int) (G : IM) (cells : List Value), d ≤ 40 → M5 D N t (D + 1 - d) = true → D0 t ≤ 4294967296 → A8 G t cells →
  Fn Tryz.prog 184 [.agg ⟨cells⟩, .int .i64 d] [] G (I5 (.int .i64 (D0 t : Int)) G) := by
 refine Tm.ind fun k nm num ty fr lb ks ih d G cells hd hv hcnt hr => ?_
 have hone := hr.one
 obtain ⟨hv1, hv2⟩ := B2u hv
 obtain ⟨tk, tks⟩ := ty
 obtain ⟨fk, fks⟩ := fr
 obtain ⟨pt, ct, pf, cf, p, c, es, rfl, hk, hnum, hlb, hty, hfr, hsl, hkl⟩ := hr.open9
 have hn := hsl.le
 clear hr
 rw [D0] at hcnt ⊢
 refine C0 Tryz.func184 rfl Tryz.ntmps184 Tryz.results184 rfl ?_
 intro w0
 refine tS (tR ?_)
 refine sE (C5 rfl rfl) rfl (fun b3 => ?_)
 refine K5 ?_
 refine B8 ?_
 (refine I2 (fun (i : Nat) => ⟨[(6, .int .i64 i), (5, .int .i64 ((E7 (ks.take i) + 1 : Nat) : Int)), (2, .pointer (some ⟨b3, 0, none⟩)), (1, .int .i64 d)], [.blk b3 [.int .i64 k, .string nm, .int .i64 num, .int .i64 tk, .slice pt tks.length ct, .int .i64 fk, .slice pf fks.length cf, .int .i64 lb, .slice p ks.length c]], G⟩) (fun i => i ≤ ks.length) (fun i => ks.length - i) 0 ?_ ?_ ?_)
 exact D3
 exact Nat.zero_le _
 (rintro i hi)
 refine B4 ?_
 refine sB (I0 rfl rfl) rfl rfl (fun h30 => ?_) (fun h30 => ?_)
 refine D7 ?_
 refine sP (A3w rfl rfl (by omega)) rfl rfl ?_
 refine B4 ?_
 refine B8 ?_
 refine B0 ?_
 (obtain ⟨b, o, e, rfl, hl, hat, hre, hgb⟩ := hsl.kidTm hkl (i := i) (by omega) (by omega); have htk := Z6 (ks := ks) (i := i) (by omega); refine sP (B3 rfl rfl rfl (by omega)) rfl rfl ?_)
 refine sL (A2 rfl rfl (hat _) hl) rfl rfl ?_
 refine sQ (qM rfl) rfl ?_
 refine sP (P2 rfl rfl (by omega) (by omega)) rfl rfl ?_
 (have hvk := hv2 i (by omega); rw [show D + 1 - d + 1 = D + 1 - (d - 1) by omega] at hvk; refine H3 rfl (ih ks[i] (List.getElem_mem (by omega)) (d - 1) G _ (by omega) hvk (by omega) hre) rfl rfl ?_)
 refine sP (H2 rfl rfl (by omega) (by omega)) rfl rfl ?_
 refine A7 ?_
 refine sP (H2 rfl rfl (by omega) (by omega)) rfl rfl ?_
 refine D7 ?_
 (refine H9 (i + 1) ?_ ?_ ?_; rw [show ((E7 (ks.take (i + 1)) + 1 : Nat) : Int) = ((E7 (ks.take i) + 1 : Nat) : Int) + (D0 ks[i] : Int) from by rw [A0p (by omega)]; omega])
 exact D3
 omega
 omega
 refine A0n ?_
 (obtain rfl : i = ks.length := (by omega); rw [List.take_length]; exact ⟨rfl, rfl, rfl⟩)
theorem A8u (t : Tm) (G : IM) (cells : List Value) (hcnt : D0 t ≤ 4294967296) (hr : A8 G t cells) :
  Fn Tryz.prog 130 [.agg ⟨cells⟩] [] G (I5 (.bool (P0 t)) G) := by
 have hl := hr.len
 have hv := B2p t 40 G cells (by omega) hr
 have hc := fun h => A8t 40 13 t 40 G cells (by omega) h hcnt hr
 have hi := A53 t
 obtain ⟨R, hR⟩ : ∃ R, P0 t = R := ⟨_, rfl⟩
 rw [hR] at hi ⊢
 refine C0 Tryz.func130 rfl Tryz.ntmps130 Tryz.results130 rfl ?_
 intro w0
 refine tS (tR ?_)
 refine sE (C5 rfl rfl) rfl (fun b3 => ?_)
 refine B0 ?_
 refine sL (A2 rfl rfl (A9 (by repeat first | exact mH | apply mT)) (by assumption)) rfl rfl ?_
 refine H4 rfl (hv) rfl rfl (fun h10 => ?_) (fun h10 => ?_)
 refine sQ (qM rfl) rfl ?_
 refine sL (A2 rfl rfl (A9 (by repeat first | exact mH | apply mT)) (by assumption)) rfl rfl ?_
 refine H3 rfl (hc (by assumption)) rfl rfl ?_
 refine sB (Y0 rfl rfl) rfl rfl (fun h14 => ?_) (fun h14 => ?_)
 refine A7 ?_
 exact ⟨rfl, by rw [hi.2 ⟨by assumption, by omega⟩], rfl⟩
 refine A7 ?_
 exact ⟨rfl, by (cases R with | false => rfl | true => (exfalso; have h0 := hi.1 rfl; first | omega | simp_all)), rfl⟩
 refine J5 ?_
 exact ⟨rfl, by (cases R with | false => rfl | true => (exfalso; have h0 := hi.1 rfl; first | omega | simp_all)), rfl⟩
theorem Z8 (t : Tm) : N8 t = true ↔ M5 12 14 t 1 = true ∧ D0 t ≤ 30 := by
 have := A52 30 12 14 t 1 0 (by omega)
 rw [N8, this]
 constructor
 ·rintro ⟨a, b⟩; exact ⟨a, by omega⟩
 ·rintro ⟨a, b⟩; exact ⟨a, by omega⟩
theorem B2v : ∀ (t : Tm) (d : Int) (G : IM) (cells : List Value), 0 ≤ d ∧ d ≤ 12 → A8 G t cells →
  Fn Tryz.prog 195 [.agg ⟨cells⟩, .int .i64 d] [] G (I5 (.bool (M5 12 14 t (13 - d))) G) := by
 refine Tm.ind fun k nm num ty fr lb ks ih d G cells hd hr => ?_
 have hr0 := hr
 have hne := fun h : k ≠ 14 => @A8k k nm num ty fr lb ks.length h
 have har := fun h : V5 k nm num ty fr lb ks.length = true => (U2.1 h).1
 obtain ⟨R, hR⟩ : ∃ R, V5 k nm num ty fr lb ks.length = R := ⟨_, rfl⟩
 rw [hR] at hne har
 have hl2 := A8j k nm num ty fr lb ks G cells hr0 R
 have hk1 := A4F k G
 obtain ⟨tk, tks⟩ := ty
 obtain ⟨fk, fks⟩ := fr
 obtain ⟨pt, ct, pf, cf, p, c, es, rfl, hk, hnum, hlb, hty, hfr, hsl, hkl⟩ := hr.open9
 have hn := hsl.le
 clear hr hr0
 refine C0 Tryz.func195 rfl Tryz.ntmps195 Tryz.results195 rfl ?_
 intro w0
 refine tS (tR ?_)
 refine sE (C5 rfl rfl) rfl (fun b3 => ?_)
 refine B0 ?_
 refine E0 E1 rfl ?_
 refine I8 (i := 0) (l' := [tt,ff,ff,ff,ff,ff,ff,ff,ff,ff,ff,ff,ff,ff,ff,ff,ff,ff,ff,ff,ff]) rfl D2 (qM rfl) rfl (by kernel_rfl) rfl rfl ?_
 refine A0w (i := 1) (l' := [tt,tt,ff,ff,ff,ff,ff,ff,ff,ff,ff,ff,ff,ff,ff,ff,ff,ff,ff,ff,ff]) rfl D2 (I0 rfl rfl) rfl (by kernel_rfl) rfl rfl (fun h11 => ?_) (fun h11 => ?_)
 refine aP 2 rfl (qM rfl) rfl ?_
 refine C3 3 rfl rfl rfl ?_
 refine C3 4 rfl rfl rfl ?_
 refine C3 6 rfl rfl rfl ?_
 refine C3 7 rfl rfl rfl ?_
 refine C3 8 rfl rfl rfl ?_
 refine C3 5 rfl rfl rfl ?_
 refine C3 9 rfl rfl rfl ?_
 refine aP 10 rfl (N7 rfl rfl) rfl ?_
 refine aP 11 rfl (qM rfl) rfl ?_
 refine C3 12 rfl rfl rfl ?_
 refine C3 13 rfl rfl rfl ?_
 refine C3 14 rfl rfl rfl ?_
 refine aP 15 rfl (N7 rfl rfl) rfl ?_
 refine aP 16 rfl (qM rfl) rfl ?_
 refine C3 17 rfl rfl rfl ?_
 refine C3 18 rfl rfl rfl ?_
 refine C3 19 rfl rfl rfl ?_
 refine aP 20 rfl (N7 rfl rfl) rfl ?_
 refine J2 ?_
 (rw [A1l (by rw [hR]; first | omega | exact .inr (.inr (by assumption)) | exact .inr (.inr (by cases R with | false => rfl | true => exact absurd (har rfl) (by omega))))]; exact ⟨rfl, rfl, rfl⟩)
 refine aP 2 rfl (qM rfl) rfl ?_
 refine aP 3 rfl (B7 rfl) rfl ?_
 refine aL 4 rfl (C7 rfl rfl) rfl ?_
 refine aP 6 rfl (B7 rfl) rfl ?_
 refine aL 7 rfl (C7 rfl rfl) rfl ?_
 refine aP 8 rfl (pLn rfl rfl) rfl ?_
 refine A3 5 ?_
 refine O2 rfl rfl (hk1) rfl rfl rfl ?_
 refine A0w (i := 9) (l' := [tt,tt,tt,tt,tt,tt,tt,tt,tt,tt,ff,ff,ff,ff,ff,ff,ff,ff,ff,ff,ff]) rfl D2 (O9 rfl rfl) rfl (by kernel_rfl) rfl rfl (fun h51 => ?_) (fun h51 => ?_)
 refine aP 10 rfl (N4 rfl rfl) rfl ?_
 refine aP 11 rfl (qM rfl) rfl ?_
 refine C3 12 rfl rfl rfl ?_
 refine C3 13 rfl rfl rfl ?_
 refine C3 14 rfl rfl rfl ?_
 refine aP 15 rfl (N7 rfl rfl) rfl ?_
 refine aP 16 rfl (qM rfl) rfl ?_
 refine C3 17 rfl rfl rfl ?_
 refine C3 18 rfl rfl rfl ?_
 refine C3 19 rfl rfl rfl ?_
 refine aP 20 rfl (N7 rfl rfl) rfl ?_
 refine J2 ?_
 (rw [A1l (by rw [hR]; first | omega | exact .inr (.inr (by assumption)) | exact .inr (.inr (by cases R with | false => rfl | true => exact absurd (har rfl) (by omega))))]; exact ⟨rfl, rfl, rfl⟩)
 refine aP 10 rfl (N4 rfl rfl) rfl ?_
 refine aP 11 rfl (qM rfl) rfl ?_
 refine aP 12 rfl (B7 rfl) rfl ?_
 refine aL 13 rfl (C7 rfl rfl) rfl ?_
 refine A0w (i := 14) (l' := [tt,tt,tt,tt,tt,tt,tt,tt,tt,tt,tt,tt,tt,tt,tt,ff,ff,ff,ff,ff,ff]) rfl D2 (qE rfl rfl) rfl (by kernel_rfl) rfl rfl (fun h79 => ?_) (fun h79 => ?_)
 refine aP 15 rfl (N4 rfl rfl) rfl ?_
 refine aP 16 rfl (qM rfl) rfl ?_
 refine C3 17 rfl rfl rfl ?_
 refine C3 18 rfl rfl rfl ?_
 refine C3 19 rfl rfl rfl ?_
 refine aP 20 rfl (N7 rfl rfl) rfl ?_
 refine J2 ?_
 (rw [A1l (by rw [hR]; first | omega | exact .inr (.inr (by assumption)) | exact .inr (.inr (by cases R with | false => rfl | true => exact absurd (har rfl) (by omega))))]; exact ⟨rfl, rfl, rfl⟩)
 refine aP 15 rfl (N4 rfl rfl) rfl ?_
 refine aP 16 rfl (qM rfl) rfl ?_
 refine aL 17 rfl (A4 rfl rfl) rfl ?_
 refine A3 18 ?_
 refine U5 rfl rfl (hl2 (hne (by omega) (by omega))) rfl rfl rfl (fun h102 => ?_) (fun h102 => ?_)
 refine aP 19 rfl (pNt rfl) rfl ?_
 refine aP 20 rfl (N4 rfl rfl) rfl ?_
 refine J2 ?_
 refine B8 ?_
 (refine I2 (fun (i : Nat) => ⟨[(5, .int .i64 i), (2, .pointer (some ⟨b3, 0, none⟩)), (1, .int .i64 d)], [.blk b3 [.int .i64 k, .string nm, .int .i64 num, .int .i64 tk, .slice pt tks.length ct, .int .i64 fk, .slice pf fks.length cf, .int .i64 lb, .slice p ks.length c]], G⟩) (fun i => i ≤ ks.length ∧ ∀ j (h : j < ks.length), j < i → M5 12 14 ks[j] (13 - d + 1) = true) (fun i => ks.length - i) 0 ?_ ?_ ?_)
 exact D3
 exact ⟨by omega, by omega⟩
 (rintro i ⟨hi, hf⟩)
 refine B4 ?_
 refine sB (I0 rfl rfl) rfl rfl (fun h128 => ?_) (fun h128 => ?_)
 refine A7 ?_
 refine B8 ?_
 refine B0 ?_
 (obtain ⟨b, o, e, rfl, hl, hat, hre, hgb⟩ := hsl.kidTm hkl (i := i) (by omega) (by omega); refine sP (B3 rfl rfl rfl (by omega)) rfl rfl ?_)
 refine sL (A2 rfl rfl (hat _) hl) rfl rfl ?_
 refine sQ (qM rfl) rfl ?_
 refine sP (P2 rfl rfl (by omega) (by omega)) rfl rfl ?_
 (have hih := ih ks[i] (List.getElem_mem (by omega)) (d - 1) G _ (by omega) hre; rw [show 13 - (d - 1) = 13 - d + 1 by omega] at hih; refine H4 rfl hih rfl rfl (fun h145 => ?_) (fun h145 => ?_))
 refine E4 ?_
 refine sP (H2 rfl rfl (by omega) (by omega)) rfl rfl ?_
 refine D7 ?_
 refine H9 (i + 1) ?_ ?_ ?_
 exact D3
 exact ⟨by omega, fun j hj hji => by (by_cases he : j = i; (subst he; assumption); exact hf j hj (by omega))⟩
 omega
 refine J9 ?_
 (rw [A08 (by omega) (by omega) (hR.trans (by assumption)), A5W (i := i) (by omega) (by assumption)]; exact ⟨rfl, rfl, rfl⟩)
 refine I6 ?_
 (rw [A08 (by omega) (by omega) (hR.trans (by assumption)), (A07 12 14 ks _).2 (fun j hj => hf j hj (by omega))]; exact ⟨rfl, rfl, rfl⟩)
 refine aP 19 rfl (pNf rfl) rfl ?_
 refine aP 20 rfl (N4 rfl rfl) rfl ?_
 refine J2 ?_
 (rw [A1l (by rw [hR]; first | omega | exact .inr (.inr (by assumption)) | exact .inr (.inr (by cases R with | false => rfl | true => exact absurd (har rfl) (by omega))))]; exact ⟨rfl, rfl, rfl⟩)
theorem A4K (t : Tm) (G : IM) (cells : List Value) (hcnt : D0 t ≤ 4294967296) (hr : A8 G t cells) :
  Fn Tryz.prog 141 [.agg ⟨cells⟩] [] G (I5 (.bool (N8 t)) G) := by
 have hl := hr.len
 have hv := B2v t 12 G cells (by omega) hr
 have hc := fun h => A8t 12 14 t 12 G cells (by omega) h hcnt hr
 have hi := Z8 t
 obtain ⟨R, hR⟩ : ∃ R, N8 t = R := ⟨_, rfl⟩
 rw [hR] at hi ⊢
 refine C0 Tryz.func141 rfl Tryz.ntmps141 Tryz.results141 rfl ?_
 intro w0
 refine tS (tR ?_)
 refine sE (C5 rfl rfl) rfl (fun b3 => ?_)
 refine B0 ?_
 refine sL (A2 rfl rfl (A9 (by repeat first | exact mH | apply mT)) (by assumption)) rfl rfl ?_
 refine H4 rfl (hv) rfl rfl (fun h10 => ?_) (fun h10 => ?_)
 refine sQ (qM rfl) rfl ?_
 refine sL (A2 rfl rfl (A9 (by repeat first | exact mH | apply mT)) (by assumption)) rfl rfl ?_
 refine H3 rfl (hc (by assumption)) rfl rfl ?_
 refine sB (Y0 rfl rfl) rfl rfl (fun h14 => ?_) (fun h14 => ?_)
 refine A7 ?_
 exact ⟨rfl, by rw [hi.2 ⟨by assumption, by omega⟩], rfl⟩
 refine A7 ?_
 exact ⟨rfl, by (cases R with | false => rfl | true => (exfalso; have h0 := hi.1 rfl; first | omega | simp_all)), rfl⟩
 refine J5 ?_
 exact ⟨rfl, by (cases R with | false => rfl | true => (exfalso; have h0 := hi.1 rfl; first | omega | simp_all)), rfl⟩
theorem Sw.same {hp hp' : List A5} {e : A5} (h : Sw hp e e hp') : hp' = hp := by
 generalize he : e = e' at h
 have : ∀ {hp e e' hp'}, Sw hp e e' hp' → e = e' → hp' = hp := by
  intro hp e e' hp' h
  induction h with
  | here => rintro rfl; rfl
  | there _ ih => intro he; rw [ih he]
 subst he
 exact this h rfl
section
variable {P : Program} {Γ : L9} {env : M4} {hp : List A5} {G : IM} {ty : TypeId}
theorem A8v {d : Nat} {x y : Operand} {t el : TypeId} {i : L5} {sz by' : Nat} {zs : List Value} [hI : I9 P t i] {ie : L5} [hEl : I9 P el ie] (hd' : i.desc = .slice el) [hE : X1 P el sz by' zs] {p q : Option Addr} {c n m c2 : Nat} {cs news : List Value} {hp' : Option Addr → Nat → List A5}
  (hd : Nat.blt d Γ.n = true) (hx : evo env x = some (.slice p n c)) (hy : evo env y = some (.slice q m c2)) (hsz : Nat.blt 0 sz = true)
  (hm : ∀ p' c', Sw hp (.slc p c el sz n cs) (.slc p' c' el sz (n + m) (cs ++ news)) (hp' p' c'))
  (hS : Sl G q m c2 sz news) (h1 : ∀ u ∈ news, u.oneCell' = true) (hc : n ≤ c)
  (h63 : n + m ≤ maxLen) (hb : (n + m) * by' ≤ 140737488355328) :
  W3 P Γ ⟨env, hp, G⟩ (some d) (.call ⟨.builtin .append, ⟨[x, y]⟩, ⟨[t, t]⟩⟩) ty (J0 p) (fun σ' => ∃ p' c', σ' = ⟨(d, .slice p' (n + m) c') :: env, hp' p' c', G⟩) := by
 obtain ⟨hl, _, _, hat⟩ := hS
 rcases Nat.eq_zero_or_pos m with rfl | hm0
 ·obtain rfl : news = [] := List.length_eq_zero_iff.1 (by omega)
  have hpu := B1A (P := P) (Γ := Γ) (hp := hp) (G := G) (ty := ty) (t := t) (el := el) hd' hx hy hc
  refine ⟨fun a w hs pos af gd Q next hn => ?_⟩
  simp only [Oper.wp, hpu.run a w hs, Oper.upon]
  refine hn _ _ _ (hs.put d _ (by simpa using hd) hs.res) (Ext.refl _ _) ⟨p, c, ?_⟩
  have h0 := hm p c
  simp only [Nat.add_zero, List.append_nil] at h0 ⊢
  rw [h0.same]
 ·obtain ⟨b, o, full, rfl, hg, hv⟩ := hat.resolve_left (by omega)
  exact A5F hd' hd hx hy hsz hm (A4g hg hv) hl h1 h63 hb
variable {K : Po} {ops : Array Oper} {rest : List Oper} {pos : String} {af : Array Edge} {gd : Option (Nat × Bool)}
theorem A2v {d : Nat} {x y : Operand} {t el : TypeId} {i : L5} {sz by' : Nat} {zs : List Value} [hI : I9 P t i] {ie : L5} [hEl : I9 P el ie] [hE : X1 P el sz by' zs] {p q : Option Addr} {c n m c2 : Nat} {cs news : List Value} {hp' : Option Addr → Nat → List A5}
  (hd' : i.desc = .slice el) (hd : Nat.blt d Γ.n = true) (hx : evo env x = some (.slice p n c)) (hy : evo env y = some (.slice q m c2)) (hsz : Nat.blt 0 sz = true)
  (hm : ∀ p' c', Sw hp (.slc p c el sz n cs) (.slc p' c' el sz (n + m) (cs ++ news)) (hp' p' c'))
  (hS : Sl G q m c2 sz news) (h1 : ∀ u ∈ news, u.oneCell' = true) (hc : n ≤ c)
  (h63 : n + m ≤ maxLen) (hb : (n + m) * by' ≤ 140737488355328) (hw : M2 ops env gd = some true)
  (k : ∀ p' c', I3 P Γ ops rest K ⟨(d, .slice p' (n + m) c') :: env, hp' p' c', G⟩) : I3 P Γ ops (⟨some d, .call ⟨.builtin .append, ⟨[x, y]⟩, ⟨[t, t]⟩⟩, ty, pos, af, gd⟩ :: rest) K ⟨env, hp, G⟩ :=
 I1 (A8v hd' hd hx hy hsz hm hS h1 hc h63 hb) hw (by rintro _ ⟨p', c', rfl⟩; exact k p' c')
theorem A21 {H : List (Nat × Nat)} {fuel : Nat} {listed l' : List Bool} {j d : Nat} {cs : List Value} {x y : Operand} {t el : TypeId} {i : L5} {sz by' : Nat} {zs : List Value} [hI : I9 P t i] {ie : L5} [hEl : I9 P el ie] [hE : X1 P el sz by' zs] {p q : Option Addr} {c n m c2 : Nat} {news : List Value} {hp' : Option Addr → Nat → List A5} {H' : List (Nat × Nat)}
  (hi : ops[j]? = some ⟨some d, .call ⟨.builtin .append, ⟨[x, y]⟩, ⟨[t, t]⟩⟩, ty, pos, af, gd⟩) (hd' : i.desc = .slice el)
  (hd : Nat.blt d Γ.n = true) (hx : evo env x = some (.slice p n c)) (hy : evo env y = some (.slice q m c2)) (hsz : Nat.blt 0 sz = true)
  (hm : ∀ p' c', Sw hp (.slc p c el sz n cs) (.slc p' c' el sz (n + m) (cs ++ news)) (hp' p' c'))
  (hS : Sl G q m c2 sz news) (h1 : ∀ u ∈ news, u.oneCell' = true) (hc : n ≤ c)
  (h63 : n + m ≤ maxLen) (hb : (n + m) * by' ≤ 140737488355328) (hw : M2 ops env gd = some true) (hl : listed.set j true = l')
  (hok : B1 ops j hp G (.slc p c el sz n cs) H H')
  (k : ∀ p' c', O1 P Γ ops K H' fuel l' ⟨(d, .slice p' (n + m) c') :: env, hp' p' c', G⟩) : V3 P Γ ops K H fuel listed j ⟨env, hp, G⟩ :=
 A3A hi (A8v hd' hd hx hy hsz hm hS h1 hc h63 hb) hw hl (fun _ _ hs => hok.spec hs) hok.filter (by rintro _ ⟨p', c', rfl⟩; exact k p' c')
theorem Y6 {H H' : List (Nat × Nat)} {fuel : Nat} {listed l' : List Bool} {j d : Nat} {f : FuncId} [hF : B5 P f] {xs : List Operand} {ats : Array TypeId} {vs : List Value} {e : A5} {rst : List A5} {post : IM → Value → List A5 → Prop}
  (hi : ops[j]? = some ⟨some d, .call ⟨.value (.func f), ⟨xs⟩, ats⟩, ty, pos, af, gd⟩) (hx : evl env xs = some vs) (h : Fn P f vs [e] G post) (hp' : hp.Perm ([e] ++ rst)) (hw : M2 ops env gd = some true) (hd : Nat.blt d Γ.n = true) (hl : listed.set j true = l')
  (hok : B1 ops j hp G e H H')
  (k : ∀ v G' outs, B9 G G' → post G' v outs → O1 P Γ ops K H' fuel l' ⟨(d, v) :: env, outs ++ rst, G'⟩) : V3 P Γ ops K H fuel listed j ⟨env, hp, G⟩ :=
 A3A hi (A4j hx h hp' hd) hw hl (fun _ _ hs => by simpa [Fp] using hok.spec hs) hok.filter (by rintro _ ⟨v, G', outs, rfl, hle, hq⟩; exact k v G' outs hle hq)
end
section forget
variable {P : Program} {Γ : L9} {env : M4} {hp : List A5} {G : IM} {K : Po} {ops : Array Oper} {rest : List Oper} {ty : TypeId} {pos : String} {af : Array Edge} {gd : Option (Nat × Bool)}
end forget
def tAt : Tm → List Int → Option Tm
 | t, [] => some t
 | .mk _ _ _ _ _ _ ks, i :: is => if h : 0 ≤ i ∧ i < ks.length then tAt (ks[i.toNat]'(by omega)) is else none
def z9 : List Value := [.int .i64 0, .string ⟨⟨[]⟩⟩, .int .i64 0, .int .i64 0, .slice none 0 0, .int .i64 0, .slice none 0 0, .int .i64 0, .slice none 0 0]
def AtP (t : Tm) (path : List Int) (G : IM) : IM → Value → List A5 → Prop := fun G' v outs => G' = G ∧ outs = [] ∧
 ((∃ x cells, tAt t path = some x ∧ A8 G x cells ∧ v = .tuple ⟨[.agg ⟨cells⟩, .bool true]⟩) ∨ (tAt t path = none ∧ v = .tuple ⟨[.agg ⟨z9⟩, .bool false]⟩))
theorem A8w {l : List Int} {i : Nat} {v : Value} (h : (N6 l)[i]? = some v) (hi : i < l.length) : v = .int .i64 l[i] := (A3D h).2
def K1 : Tm := .mk 0 ⟨⟨[]⟩⟩ 0 (.mk 0 []) (.mk 0 []) 0 []
theorem Q1.zero (G : IM) : Q1 G K1 z9 [] := by
 simp only [K1, Q1, Q8, O5, O6, z9]
 refine ⟨[.int .i64 0, .slice none 0 0], [.int .i64 0, .slice none 0 0], none, 0, [], [], [], [], rfl, ⟨by omega, by omega⟩, ⟨by omega, by omega⟩, ⟨by omega, by omega⟩, ?_, ?_, D1.nil _ _, ⟨rfl, rfl⟩, rfl, by simp [J0]⟩
 ·exact ⟨none, 0, [], [], rfl, ⟨by omega, by omega⟩, D1.nil _ _, ⟨rfl, rfl⟩, rfl, by simp [J0]⟩
 ·exact ⟨none, 0, [], [], rfl, ⟨by omega, by omega⟩, D1.nil _ _, ⟨rfl, rfl⟩, rfl, by simp [J0]⟩
def B6K (t : Tm) (path : List Int) : Tm × Bool := if P0 t = true then (match tAt t path with | some x => (x, true) | none => (K1, false)) else (K1, false)
def TbP (r : Tm × Bool) (G : IM) : IM → Value → List A5 → Prop := J4 fun G' v => ∃ cells F, v = .tuple ⟨[.agg ⟨cells⟩, .bool r.2]⟩ ∧ Q1 (C4 G' G) r.1 cells F ∧ F.Nodup
structure A4L {ι : Type} (S : ι → Sy) (φ : ι → Prop) (e : Exit) (σ : Sy) : Prop where
 run : match e with
  | .normal => ∃ i, φ i ∧ Sub σ (S i)
  | _ => False
section cut
variable {P : Program} {Γ : L9} {K : Po} {σ : Sy} {ι : Type}
theorem A0g {c y : Code} (S : ι → Sy) (φ : ι → Prop) (h : J1 P Γ c (A4L S φ) σ) (k : ∀ i, φ i → J1 P Γ y K (S i)) : J1 P Γ c (A0W P Γ y K) σ := by
 refine tri_post h ?_
 rintro e σ ⟨hk⟩
 cases e with
 | normal => obtain ⟨i, hi, hs⟩ := hk; exact ⟨A7a hs (k i hi)⟩
 | _ => exact hk.elim
where
 tri_post {c : Code} {K K' : Po} {σ : Sy} (h : J1 P Γ c K σ) (hk : ∀ e σ, K e σ → K' e σ) : J1 P Γ c K' σ := A5s h hk
theorem Q0 {S : ι → Sy} {φ : ι → Prop} {σ : Sy} (i : ι) (hs : Sub σ (S i)) (h : φ i) : A4L S φ .normal σ := ⟨⟨i, h, hs⟩⟩
theorem B2w {S : ι → Sy} {φ : ι → Prop} : Z2 (A4L S φ) := fun _ _ h => h.run
instance npC5 {S : ι → Sy} {φ : ι → Prop} : NpC (A4L S φ) := ⟨B2w⟩
end cut
section take
variable {P : Program} {Γ : L9} {env : M4} {hp : List A5} {G : IM} {K : Po} {ops : Array Oper} {rest : List Oper} {ty : TypeId} {pos : String} {af : Array Edge} {gd : Option (Nat × Bool)}
theorem I4 {d : Nat} {f : FuncId} [hF : B5 P f] {xs : List Operand} {ats : Array TypeId} {vs : List Value} {ins rst : List A5} {post : IM → Value → List A5 → Prop}
  (hx : evl env xs = some vs) (h : Fn P f vs ins G post) (hp' : hp.Perm (ins ++ rst)) (hw : M2 ops env gd = some true) (hd : Nat.blt d Γ.n = true)
  (k : ∀ v G' outs, B9 G G' → post G' v outs → I3 P Γ ops rest K ⟨(d, v) :: env, outs ++ rst, G'⟩) : I3 P Γ ops (⟨some d, .call ⟨.value (.func f), ⟨xs⟩, ats⟩, ty, pos, af, gd⟩ :: rest) K ⟨env, hp, G⟩ :=
 I1 (A4j hx h hp' hd) hw (by rintro _ ⟨v, G', outs, rfl, hle, hq⟩; exact k v G' outs hle hq)
end take
theorem Y7 (G : IM) (br : Nat) (pb : Option Addr) (nb cb p : Nat) (bs : List UInt8) (q : Option Addr) (n c : Nat) (xs : List Value) (hb : Sl G pb nb cb 1 (N9 bs)) (hnb : nb ≤ 2000) (hp : p < 1099511627776) (hx : Sl G q n c 1 xs) (hn : 0 < n) :
  Fn Tryz.prog 118 [.pointer (some ⟨br, 0, none⟩), .slice q n c] [rd br pb nb cb p] G (fun G' v outs => G' = G ∧ outs = [rd br pb nb cb (p + 1)] ∧ v ∈ xs) := by
 refine C0 Tryz.func118 rfl Tryz.ntmps118 Tryz.results118 rfl ?_
 intro w0
 refine J2 ?_
 (refine I4 rfl (Y3 G br pb nb cb p bs (n : Int) hb hnb hp) (List.Perm.refl _) rfl rfl (fun v G1 outs hle1 hh => ?_); obtain ⟨rfl, rfl, k, rfl, hk0, hkn⟩ := hh; obtain ⟨j, rfl⟩ := Int.eq_ofNat_of_zero_le hk0)
 (obtain ⟨b, o, v, rfl, hv, hat, _⟩ := hx.kid (i := j) (by omega); refine sP (B3 rfl rfl rfl (by omega)) rfl rfl ?_)
 refine sL (R3 rfl rfl (hat _)) rfl rfl ?_
 refine B6 ?_
 refine H7 (rT rfl) A0.refl ?_
 exact ⟨rfl, rfl, List.mem_of_getElem? hv⟩
theorem A54 (G : IM) (br : Nat) (pb : Option Addr) (nb cb p : Nat) (bs : List UInt8) (q : Option Addr) (n c : Nat) (xs : List Value) (hb : Sl G pb nb cb 1 (N9 bs)) (hnb : nb ≤ 2000) (hp : p < 1099511627776) (hx : Sl G q n c 1 xs) (hn : 0 < n) :
  Fn Tryz.prog 155 [.pointer (some ⟨br, 0, none⟩), .slice q n c] [rd br pb nb cb p] G (fun G' v outs => G' = G ∧ outs = [rd br pb nb cb (p + 1)] ∧ v ∈ xs) := by
 refine C0 Tryz.func155 rfl Tryz.ntmps155 Tryz.results155 rfl ?_
 intro w0
 refine J2 ?_
 (refine I4 rfl (Y3 G br pb nb cb p bs (n : Int) hb hnb hp) (List.Perm.refl _) rfl rfl (fun v G1 outs hle1 hh => ?_); obtain ⟨rfl, rfl, k, rfl, hk0, hkn⟩ := hh; obtain ⟨j, rfl⟩ := Int.eq_ofNat_of_zero_le hk0)
 (obtain ⟨b, o, v, rfl, hv, hat, _⟩ := hx.kid (i := j) (by omega); refine sP (B3 rfl rfl rfl (by omega)) rfl rfl ?_)
 refine sL (R3 rfl rfl (hat _)) rfl rfl ?_
 refine B6 ?_
 refine H7 (rT rfl) A0.refl ?_
 exact ⟨rfl, rfl, List.mem_of_getElem? hv⟩
theorem A1m (G : IM) : Fn Tryz.prog 101 [] [] G (I5 (.agg ⟨[.int .i64 1, .slice none 0 0]⟩) G) := by
 refine C0 Tryz.func101 rfl Tryz.ntmps101 Tryz.results101 rfl ?_
 intro w0
 refine tS (tR ?_)
 refine sE (A6 rfl) rfl (fun b3 => ?_)
 refine E4 ?_
 refine K7 (rC rfl (A4 rfl rfl)) ?_
 exact ⟨rfl, rfl, rfl⟩
def dB : Nat → Nat
 | 0 => 0
 | d + 1 => 2 * dB d + 2
theorem B2x {d : Nat} (h : d ≤ 3) : dB (d + 1) ≤ 30 := by
 have : d = 0 ∨ d = 1 ∨ d = 2 ∨ d = 3 := by omega
 rcases this with rfl | rfl | rfl | rfl <;> decide
theorem B2y (k : Int) : V0 k ≤ 2 := by
 unfold V0; split <;> try split
 all_goals omega
theorem A4M : ∀ (ts : List Ty) (t : Ty), O3 (ts ++ [t]) = O3 ts + J7 t
 | [], t => by simp [O3]
 | a :: ts, t => by simp only [List.cons_append, O3, A4M ts t]; omega
theorem C8.ty {G : IM} {k : Int} {ts : List Ty} {es : List (List Value)} {p : Option Addr} {n c : Nat} (h : C8 G ts es) (hn : ts.length = n) (hs : Sl G p n c 2 es.flatten) (hk : F8 k) : C1 G (.mk k ts) [.int .i64 k, .slice p n c] := by
 subst hn
 simp only [C1]
 exact ⟨p, c, es, rfl, hk, D1.of hs h.len h.all (fun e he => (h.each e he).2), h⟩
theorem A22 (br : Nat) (pb : Option Addr) (nb cb : Nat) (bs : List UInt8) (hnb : nb ≤ 2000) : ∀ (d p : Nat) (G : IM), d ≤ 1000 → Sl G pb nb cb 1 (N9 bs) → p + dB (d + 1) < 1099511627776 →
  Fn Tryz.prog 152 [.pointer (some ⟨br, 0, none⟩), .int .i64 ((d + 1 : Nat) : Int)] [rd br pb nb cb p] G
   (A0e br pb nb cb p (dB (d + 1)) (fun G' v => ∃ t cells, v = .agg ⟨cells⟩ ∧ C1 G' t cells ∧ J7 t ≤ ((dB (d + 1) : Nat) : Int) ∧ Q9 d t)) := by
 refine fun d => Nat.strongRecOn d fun d ih p G hd hb hp => ?_
 rw [dB] at hp ⊢
 refine C0 Tryz.func152 rfl Tryz.ntmps152 Tryz.results152 rfl ?_
 intro w0
 refine tS (tR ?_)
 refine sE (A6 rfl) rfl (fun b3 => ?_)
 refine B0 ?_
 (refine I1 (C9 rfl rfl rfl (by omega) (by unfold maxLen; omega) rfl) rfl ?_; rintro _ ⟨b9, rfl⟩)
 (refine R6 (by repeat (first | exact Pk.here | apply Pk.there)) (fun G1 hle1 hsl1 _ => ?_); refine I4 rfl (Y7 G1 br pb nb cb p bs _ _ _ _ (hb.mono hle1) hnb (by omega) hsl1 (by decide)) (Pk.perm (by repeat (first | exact Pk.here | apply Pk.there))) rfl rfl (fun v G2 outs hle2 hh => ?_); obtain ⟨rfl, rfl, hv⟩ := hh; replace hb := hb.mono hle1; obtain ⟨k, rfl, hk1⟩ : ∃ k, v = .int .i64 k ∧ 1 ≤ k ∧ k ≤ 5 := (by simp only [List.mem_cons, List.not_mem_nil, or_false] at hv; rcases hv with rfl | rfl | rfl | rfl | rfl | rfl | rfl <;> exact ⟨_, rfl, by decide, by decide⟩))
 refine B0 ?_
 (have hv' := hv; refine A0g (fun (x : Bool) => ⟨(16, .bool x) :: [(5, .int .i64 k), (4, .pointer (some ⟨b3, 0, none⟩)), (0, .pointer (some ⟨br, 0, none⟩)), (1, .int .i64 ((d + 1 : Nat) : Int))], [rd br pb nb cb (p + 1), .blk b3 [.int .i64 0, .slice none 0 0]], G2⟩) (fun x => x = false → d = 0 → k < 4) ?_ ?_)
 refine D7 ?_
 refine sB (I0 rfl rfl) rfl rfl (fun h19 => ?_) (fun h19 => ?_)
 refine D7 ?_
 refine sB (A0J rfl rfl) rfl rfl (fun h22 => ?_) (fun h22 => ?_)
 refine D7 ?_
 refine Q0 true (J8 (by repeat (first | exact D4.nil | refine D4.cons rfl ?_)) (by repeat (first | exact A0.refl | exact A0.nil | refine A0.cons (by repeat (first | exact Pk.here | apply Pk.there)) ?_ | apply A0.drop))) ?_
 (show _ = false → d = 0 → k < 4; intro hf h0; first | exact absurd hf (by decide) | omega)
 refine D7 ?_
 refine Q0 false (J8 (by repeat (first | exact D4.nil | refine D4.cons rfl ?_)) (by repeat (first | exact A0.refl | exact A0.nil | refine A0.cons (by repeat (first | exact Pk.here | apply Pk.there)) ?_ | apply A0.drop))) ?_
 (show _ = false → d = 0 → k < 4; intro hf h0; first | exact absurd hf (by decide) | omega)
 refine B0 ?_
 refine Q0 false (J8 (by repeat (first | exact D4.nil | refine D4.cons rfl ?_)) (by repeat (first | exact A0.refl | exact A0.nil | refine A0.cons (by repeat (first | exact Pk.here | apply Pk.there)) ?_ | apply A0.drop))) ?_
 (show _ = false → d = 0 → k < 4; intro hf h0; first | exact absurd hf (by decide) | omega)
 (rintro x hx; clear hv)
 (show J1 _ _ (.cond (.tmp 16) _ _) _ _; refine A0g (fun (x : Int) => ⟨[(5, .int .i64 x), (4, .pointer (some ⟨b3, 0, none⟩)), (0, .pointer (some ⟨br, 0, none⟩)), (1, .int .i64 ((d + 1 : Nat) : Int))], [rd br pb nb cb (p + 1), .blk b3 [.int .i64 0, .slice none 0 0]], G2⟩) (fun x => 1 ≤ x ∧ x ≤ 5 ∧ (d = 0 → x < 4)) (A3s rfl (fun hxt => ?_) (fun hxf => ?_)) ?_)
 refine E3 ?_
 refine Q0 1 (J8 (by repeat (first | exact D4.nil | refine D4.cons rfl ?_)) (by repeat (first | exact A0.refl | exact A0.nil | refine A0.cons (by repeat (first | exact Pk.here | apply Pk.there)) ?_ | apply A0.drop))) ?_
 (first | exact ⟨by omega, by omega, by omega⟩ | exact ⟨by omega, by omega, fun h0 => by have := hx hxf h0; omega⟩)
 refine tK ?_
 refine Q0 k (J8 (by repeat (first | exact D4.nil | refine D4.cons rfl ?_)) (by repeat (first | exact A0.refl | exact A0.nil | refine A0.cons (by repeat (first | exact Pk.here | apply Pk.there)) ?_ | apply A0.drop))) ?_
 (first | exact ⟨by omega, by omega, by omega⟩ | exact ⟨by omega, by omega, fun h0 => by have := hx hxf h0; omega⟩)
 (rintro kk ⟨hk2, hk3, hk4⟩; have hop := B2y kk; have hk5 := (N5 kk).1; have hk6 := (N5 kk).2.1; have hK := A77 kk)
 refine B6 ?_
 refine sE (A6 rfl) rfl (fun b53 => ?_)
 refine E4 ?_
 refine B8 ?_
 (refine Q7 25 2 ?_; refine I2 (fun (x : Nat × Option Addr × Nat × List Ty × List (List Value) × Nat × IM) => ⟨[(7, .int .i64 x.1), (5, .int .i64 kk), (6, .pointer (some ⟨b53, 0, none⟩)), (4, .pointer (some ⟨b3, 0, none⟩)), (0, .pointer (some ⟨br, 0, none⟩)), (1, .int .i64 ((d + 1 : Nat) : Int))], [.blk b53 [.int .i64 kk, .slice x.2.1 x.1 x.2.2.1], .slc x.2.1 x.2.2.1 25 2 x.1 x.2.2.2.2.1.flatten, rd br pb nb cb x.2.2.2.2.2.1, .blk b3 [.int .i64 0, .slice none 0 0]], x.2.2.2.2.2.2⟩) (fun x => (∀ u ∈ x.2.2.2.1, Q9 (d - 1) u) ∧ (x.1 : Int) ≤ V0 kk ∧ B9 G2 x.2.2.2.2.2.2 ∧ x.2.2.2.1.length = x.1 ∧ C8 x.2.2.2.2.2.2 x.2.2.2.1 x.2.2.2.2.1 ∧ O3 x.2.2.2.1 ≤ ((x.1 * dB d : Nat) : Int) ∧ p + 1 ≤ x.2.2.2.2.2.1 ∧ x.2.2.2.2.2.1 ≤ p + 1 + x.1 * dB d) (fun x => (V0 kk).toNat - x.1) (0, none, 0, [], [], p + 1, G2) ?_ ?_ ?_)
 (simp only [H6]; exact D3)
 (exact ⟨by simp, by dsimp only; omega, B9.refl _, rfl, by simp [C8], by simp [O3], by dsimp only; omega, by dsimp only; omega⟩)
 (rintro ⟨i, pn, cn, ts, es', p', Gi⟩ ⟨hah, hi, hle, hlt, hst, hsum, hq1, hq2⟩; simp only [] at hah hi hle hlt hst hsum hq1 hq2 ⊢; have hid : i * dB d ≤ 2 * dB d := Nat.mul_le_mul_right _ (by omega))
 refine B0 ?_
 refine H3 rfl ((hK _)) rfl rfl ?_
 refine sB (I0 rfl rfl) rfl rfl (fun h74 => ?_) (fun h74 => ?_)
 refine A7 ?_
 refine B8 ?_
 (obtain ⟨d', rfl⟩ : ∃ d', d = d' + 1 := ⟨d - 1, by omega⟩; have hih := ih d' (by omega) p' Gi (by omega) (hb.mono hle) (by have := Nat.mul_le_mul_right (dB (d' + 1)) (show i + 1 ≤ 2 by omega); rw [Nat.succ_mul] at this; omega); refine E0 E1 rfl ?_)
 refine I8 (i := 0) (l' := [tt,ff,ff,ff,ff,ff,ff,ff,ff,ff]) rfl D2 (B7 rfl) rfl (by kernel_rfl) rfl rfl ?_
 refine aL 1 rfl (C7 rfl rfl) rfl ?_
 refine aP 2 rfl (qM rfl) rfl ?_
 refine aP 3 rfl (qM rfl) rfl ?_
 refine aP 4 rfl (A4C rfl rfl (by omega)) rfl ?_
 refine A3 5 ?_
 (refine Y6 (l' := [tt,tt,tt,tt,tt,tt,ff,ff,ff,ff]) rfl rfl hih (Pk.perm (by repeat (first | exact Pk.here | apply Pk.there))) rfl rfl rfl (by repeat (first | exact B1.nil | apply B1.dep (by decide +kernel) | apply B1.blk (by decide +kernel) (by repeat (first | exact Pk.here | apply Pk.there)) (by repeat first | exact mH | apply mT))) (fun v G3 outs hle3 hh => ?_); obtain ⟨p3, hp31, hp32, rfl, t3, cells3, rfl, hr3, hs3, ha3⟩ := hh; obtain ⟨q3, c3, es3, rfl, _⟩ := hr3.open)
 refine A3 6 ?_
 (refine E6 rfl (C9 rfl rfl rfl (by omega) (by unfold maxLen; omega) rfl) rfl rfl ?_; rintro _ ⟨b91, rfl⟩)
 refine A3 7 ?_
 refine R4 rfl rfl rfl rfl rfl rfl (fun _ _ => by repeat (first | exact Sw.here | apply Sw.there)) (M6 (by repeat first | exact mH | apply mT)) rfl (by simp [Value.oneCell']) (by unfold maxLen; omega) (by omega) rfl rfl (by repeat (first | exact B1.nil | apply B1.dep (by decide +kernel) | apply B1.blk (by decide +kernel) (by repeat (first | exact Pk.here | apply Pk.there)) (by repeat first | exact mH | apply mT))) (fun pn' cn' => ?_)
 refine aP 8 rfl (B7 rfl) rfl ?_
 refine A3 9 ?_
 refine R7 rfl rfl rfl rfl rfl rfl rfl rfl (by kernel_rfl) (by repeat first | exact Sw.here | apply Sw.there) (by rfl) ?_
 refine B0 ?_
 refine sP (H2 rfl rfl (by omega) (by omega)) rfl rfl ?_
 refine D7 ?_
 refine H9 (i + 1, pn', cn', ts ++ [t3], es' ++ [[.int .i64 t3.k, .slice q3 t3.ks.length c3]], p3, G3) ?_ ?_ ?_
 (simp only [H6]; exact D3)
 (dsimp only; have e1 : (i + 1) * dB (d' + 1) = i * dB (d' + 1) + dB (d' + 1) := Nat.succ_mul _ _; have e2 := A4M ts t3; exact ⟨by simp only [List.forall_mem_append, List.forall_mem_singleton]; exact ⟨hah, ha3⟩, by omega, hle.trans hle3, by simp [hlt], C8.snoc (hst.mono hle3) hr3, by omega, by omega, by omega⟩)
 (show (V0 kk).toNat - (i + 1) < (V0 kk).toNat - i; omega)
 refine K5 ?_
 (refine E9 (by repeat (first | exact Pk.here | apply Pk.there)) (fun G5 hle5 hsl5 hno5 => ?_))
 refine tT ?_
 refine H7 (outs := [rd br pb nb cb p']) (rC rfl (A4 rfl rfl)) (by repeat (first | exact A0.nil | refine A0.cons Pk.here ?_ | refine A0.cons (Pk.there Pk.here) ?_ | apply A0.drop)) ?_
 (refine ⟨p', by omega, by omega, rfl, .mk kk ts, _, rfl, (hst.mono hle5).ty hlt hsl5 ⟨by omega, by omega⟩, ?_, B2h hk4 (by omega) hk2 hk3 hah⟩; rw [J7]; omega)
theorem A8x (br : Nat) (pb : Option Addr) (nb cb : Nat) (bs : List UInt8) (hnb : nb ≤ 2000) (d p : Nat) (G : IM) (hd : d ≤ 1000) (hb : Sl G pb nb cb 1 (N9 bs)) (hp : p + dB (d + 1) < 1099511627776) :
  Fn Tryz.prog 152 [.pointer (some ⟨br, 0, none⟩), .int .i64 ((d + 1 : Nat) : Int)] [rd br pb nb cb p] G
   (A0e br pb nb cb p (dB (d + 1)) (fun G' v => ∃ t cells, v = .agg ⟨cells⟩ ∧ C1 G' t cells ∧ J7 t ≤ ((dB (d + 1) : Nat) : Int))) :=
 (A22 br pb nb cb bs hnb d p G hd hb hp).mono fun G' v outs _ ⟨p', h1, h2, h3, t, cells, h4, h5, h6, _⟩ => ⟨p', h1, h2, h3, t, cells, h4, h5, h6⟩
theorem B2z (br : Nat) (pb : Option Addr) (nb cb : Nat) (bs : List UInt8) (hnb : nb ≤ 2000) (p : Nat) (G : IM) (hb : Sl G pb nb cb 1 (N9 bs)) (hp : p + 31 < 1099511627776) :
  Fn Tryz.prog 120 [.pointer (some ⟨br, 0, none⟩)] [rd br pb nb cb p] G
   (A0e br pb nb cb p 31 (fun G' v => ∃ t cells, v = .agg ⟨cells⟩ ∧ C1 G' t cells ∧ J7 t ≤ 30 ∧ Q9 3 t)) := by
 refine C0 Tryz.func120 rfl Tryz.ntmps120 Tryz.results120 rfl ?_
 intro w0
 refine tS (tR ?_)
 refine sE (A6 rfl) rfl (fun b3 => ?_)
 refine A7 ?_
 (refine I1 (C9 rfl rfl rfl (by omega) (by unfold maxLen; omega) rfl) rfl ?_; rintro _ ⟨b10, rfl⟩)
 (refine R6 (by repeat (first | exact Pk.here | apply Pk.there)) (fun G1 hle1 hsl1 _ => ?_); refine I4 rfl (Y7 G1 br pb nb cb p bs _ _ _ _ (hb.mono hle1) hnb (by omega) hsl1 (by decide)) (Pk.perm (by repeat (first | exact Pk.here | apply Pk.there))) rfl rfl (fun v G2 outs hle2 hh => ?_); obtain ⟨rfl, rfl, hv⟩ := hh; replace hb := hb.mono hle1; obtain ⟨d, rfl, hd⟩ : ∃ d : Nat, v = .int .i64 ((d + 1 : Nat) : Int) ∧ d ≤ 3 := (by simp only [List.mem_cons, List.not_mem_nil, or_false] at hv; rcases hv with rfl | rfl | rfl | rfl | rfl <;> first | exact ⟨0, rfl, by decide⟩ | exact ⟨1, rfl, by decide⟩ | exact ⟨2, rfl, by decide⟩ | exact ⟨3, rfl, by decide⟩))
 (have hdB := B2x hd; refine I4 rfl (A22 br pb nb cb bs hnb d (p + 1) G2 (by omega) hb (by omega)) (Pk.perm (by repeat (first | exact Pk.here | apply Pk.there))) rfl rfl (fun v G3 outs hle3 hh => ?_); obtain ⟨p3, hp31, hp32, rfl, t3, cells3, rfl, hr3, hs3, ha3⟩ := hh; obtain ⟨q3, c3, es3, rfl, _⟩ := hr3.open)
 refine B6 ?_
 refine H7 (outs := [rd br pb nb cb p3]) (rC rfl (A4 rfl rfl)) (by repeat (first | exact A0.nil | refine A0.cons Pk.here ?_ | refine A0.cons (Pk.there Pk.here) ?_ | apply A0.drop)) ?_
 exact ⟨p3, by omega, by omega, rfl, t3, _, rfl, hr3, by omega, ha3.le hd⟩
theorem B2A (br : Nat) (pb : Option Addr) (nb cb : Nat) (bs : List UInt8) (hnb : nb ≤ 2000) (p : Nat) (G : IM) (hb : Sl G pb nb cb 1 (N9 bs)) (hp : p + 31 < 1099511627776) :
  Fn Tryz.prog 120 [.pointer (some ⟨br, 0, none⟩)] [rd br pb nb cb p] G
   (A0e br pb nb cb p 31 (fun G' v => ∃ t cells, v = .agg ⟨cells⟩ ∧ C1 G' t cells ∧ J7 t ≤ 30)) :=
 (B2z br pb nb cb bs hnb p G hb hp).mono fun G' v outs _ ⟨p', h1, h2, h3, t, cells, h4, h5, h6, _⟩ => ⟨p', h1, h2, h3, t, cells, h4, h5, h6⟩
theorem B2B (k : Int) (ks : List Ty) (G : IM) (p : Option Addr) (c : Nat) (hts : (Ty.mk k ks).small) (hr : C1 G (.mk k ks) [.int .i64 k, .slice p ks.length c]) : Fn Tryz.prog 167 [.agg ⟨[.int .i64 k, .slice p ks.length c]⟩] [] G
  (fun G' v outs => ∃ p c es, v = .agg ⟨[.int .i64 k, .slice p ks.length c]⟩ ∧ outs = [.slc p c 25 2 ks.length es.flatten] ∧ C8 G' ks es) := by
 simp only [Ty.small] at hts
 obtain ⟨hsm, hks⟩ := hts
 obtain ⟨p', c', es, he, hk, hsl, hkl⟩ := hr.open
 simp only [Ty.k, Ty.ks, List.cons.injEq, Value.slice.injEq, true_and, and_true] at he hk hsl hkl
 obtain ⟨rfl, rfl⟩ := he
 have hn := hsl.le
 refine C0 Tryz.func167 rfl Tryz.ntmps167 Tryz.results167 rfl ?_
 intro w0
 refine tS (tR ?_)
 refine sE (C5 rfl rfl) rfl (fun b3 => ?_)
 refine sE (A6 rfl) rfl (fun b4 => ?_)
 refine B4 ?_
 refine sE (A6 rfl) rfl (fun b12 => ?_)
 refine E4 ?_
 refine B8 ?_
 (refine Q7 25 2 ?_; refine I2 (fun (x : Nat × Option Addr × Nat × List (List Value) × IM) => ⟨[(4, .int .i64 x.1), (3, .pointer (some ⟨b12, 0, none⟩)), (1, .pointer (some ⟨b3, 0, none⟩)), (2, .pointer (some ⟨b4, 0, none⟩))], [.blk b12 [.int .i64 k, .slice x.2.1 x.1 x.2.2.1], .slc x.2.1 x.2.2.1 25 2 x.1 x.2.2.2.1.flatten, .blk b4 [.int .i64 0, .slice none 0 0], .blk b3 [.int .i64 k, .slice p ks.length c]], x.2.2.2.2⟩) (fun x => x.1 ≤ ks.length ∧ B9 G x.2.2.2.2 ∧ C8 x.2.2.2.2 (ks.take x.1) x.2.2.2.1) (fun x => ks.length - x.1) (0, none, 0, [], G) ?_ ?_ ?_)
 (simp only [H6]; exact D3)
 exact ⟨by simp, B9.refl _, by simp [C8]⟩
 (rintro ⟨i, pn, cn, es', Gi⟩ ⟨hi, hle, hst⟩; simp only [] at hi hle hst ⊢; replace hsl := hsl.mono hle; replace hkl := hkl.mono hle)
 refine B4 ?_
 refine sB (I0 rfl rfl) rfl rfl (fun h34 => ?_) (fun h34 => ?_)
 refine A7 ?_
 refine B8 ?_
 (obtain ⟨b, o, p2, c2, rfl, hat, hre, hgb⟩ := hsl.kidTy hkl (i := i) (by omega) (by omega); refine E0 E1 rfl ?_)
 refine I8 (i := 0) (l' := [tt,ff,ff,ff,ff,ff,ff,ff,ff,ff,ff,ff]) rfl D2 (B7 rfl) rfl (by kernel_rfl) rfl rfl ?_
 refine aL 1 rfl (C7 rfl rfl) rfl ?_
 refine aP 2 rfl (B7 rfl) rfl ?_
 refine aL 3 rfl (C7 rfl rfl) rfl ?_
 refine aP 4 rfl (qM rfl) rfl ?_
 refine aP 5 rfl (B3 rfl rfl rfl (by omega)) rfl ?_
 refine aL 6 rfl (A2 rfl rfl (hat _) rfl) rfl ?_
 refine A3 7 ?_
 (refine H1 rfl rfl (P9 ks[i] _ _ (Ty.smallL_mem hks _ (List.getElem_mem (by omega))) hre) rfl rfl rfl (fun v G1 hle1 hh => ?_); obtain ⟨cells', F', rfl, hs', hnd'⟩ := hh; have hr' := hs'.R.mono (C4.le _ _); obtain ⟨p3, c3, es3, rfl, _⟩ := hr'.open)
 refine A3 8 ?_
 (refine E6 rfl (C9 rfl rfl rfl (by omega) (by unfold maxLen; omega) rfl) rfl rfl ?_; rintro _ ⟨b53, rfl⟩)
 refine A3 9 ?_
 refine R4 rfl rfl rfl rfl rfl rfl (fun _ _ => by repeat (first | exact Sw.here | apply Sw.there)) (M6 (by repeat first | exact mH | apply mT)) rfl (by simp [Value.oneCell']) (by unfold maxLen; omega) (by omega) rfl rfl (by repeat (first | exact B1.nil | apply B1.dep (by decide +kernel) | apply B1.blk (by decide +kernel) (by repeat (first | exact Pk.here | apply Pk.there)) (by repeat first | exact mH | apply mT))) (fun pn' cn' => ?_)
 refine aP 10 rfl (B7 rfl) rfl ?_
 refine A3 11 ?_
 refine R7 rfl rfl rfl rfl rfl rfl rfl rfl (by kernel_rfl) (by repeat first | exact Sw.here | apply Sw.there) (by rfl) ?_
 refine B0 ?_
 refine sP (H2 rfl rfl (by omega) (by omega)) rfl rfl ?_
 refine D7 ?_
 refine H9 (i + 1, pn', cn', es' ++ [[.int .i64 ks[i].k, .slice p3 ks[i].ks.length c3]], G1) ?_ ?_ ?_
 (simp only [H6]; exact D3)
 (dsimp only; exact ⟨by omega, hle.trans hle1, by rw [List.take_succ_eq_append_getElem (by omega)]; exact C8.snoc (hst.mono hle1) hr'⟩)
 (show ks.length - (i + 1) < ks.length - i; omega)
 refine I6 ?_
 (obtain rfl : i = ks.length := (by omega); refine H7 (outs := [.slc pn cn 25 2 ks.length es'.flatten]) (rC rfl (A4 rfl rfl)) (by repeat (first | exact A0.nil | refine A0.cons Pk.here ?_ | refine A0.cons (Pk.there Pk.here) ?_ | apply A0.drop)) ?_)
 (rw [List.take_length] at hst; exact ⟨pn, cn, es', rfl, rfl, hst⟩)
theorem A0M (G : IM) : C1 G P8 [.int .i64 1, .slice none 0 0] := by
 simp only [P8, C1]
 exact ⟨none, 0, [], rfl, ⟨by omega, by omega⟩, D1.of (Sl.nil _ _) rfl (by simp) (by simp), by simp [C8]⟩
theorem A55 : J7 P8 = 0 := rfl
theorem B2C (br : Nat) (pb : Option Addr) (nb cb : Nat) (bs : List UInt8) (hnb : nb ≤ 2000) (p : Nat) (G : IM) (hb : Sl G pb nb cb 1 (N9 bs)) (hp : p + 31 < 1099511627776) (t : Ty) (cells : List Value) (hr : C1 G t cells) (hsz : J7 t ≤ 30) :
  Fn Tryz.prog 119 [.pointer (some ⟨br, 0, none⟩), .agg ⟨cells⟩] [rd br pb nb cb p] G
   (A0e br pb nb cb p 2 (fun G' v => ∃ t cells, v = .agg ⟨cells⟩ ∧ C1 G' t cells ∧ J7 t ≤ 38)) := by
 have hts := A3H t (by omega)
 obtain ⟨k, ks⟩ := t
 rw [J7] at hsz
 have hsn := A1G ks
 obtain ⟨q0, c0, es0, rfl, hk, _⟩ := hr.open
 simp only [Ty.k, Ty.ks] at hk hr ⊢
 refine C0 Tryz.func119 rfl Tryz.ntmps119 Tryz.results119 rfl ?_
 intro w0
 refine tS (tR ?_)
 refine sE (C5 rfl rfl) rfl (fun b3 => ?_)
 refine sE (A6 rfl) rfl (fun b4 => ?_)
 refine B0 ?_
 (refine W0 rfl (B2B k ks G q0 c0 hts hr) rfl rfl (fun v G1 outs hle1 hh => ?_); obtain ⟨q, c, es, rfl, rfl, hst⟩ := hh)
 refine sE (A6 rfl) rfl (fun b11 => ?_)
 refine B4 ?_
 (refine I4 rfl (Y3 G1 br pb nb cb p bs 40 (hb.mono hle1) hnb (by omega)) (Pk.perm (by repeat (first | exact Pk.here | apply Pk.there))) rfl rfl (fun v G2 outs hle2 hh => ?_); obtain ⟨rfl, rfl, j, rfl, hj0, hj1⟩ := hh; replace hb := hb.mono hle1)
 refine sD (nS ?_)
 (show J1 _ _ (.block 0 _) _ _; refine A0g (fun (x : Ty × Option Addr × Nat × Nat × IM) => ⟨[(5, .pointer (some ⟨b11, 0, none⟩)), (4, .pointer (some ⟨b4, 0, none⟩))], [.blk b11 [.int .i64 x.1.k, .slice x.2.1 x.1.ks.length x.2.2.1], .blk b4 [.int .i64 0, .slice none 0 0], rd br pb nb cb x.2.2.2.1], x.2.2.2.2⟩) (fun x => B9 G2 x.2.2.2.2 ∧ C1 x.2.2.2.2 x.1 [.int .i64 x.1.k, .slice x.2.1 x.1.ks.length x.2.2.1] ∧ J7 x.1 ≤ 38 ∧ p ≤ x.2.2.2.1 ∧ x.2.2.2.1 ≤ p + 2) ?_ ?_)
 refine B8 (tS (tR (sB (qE rfl rfl) rfl rfl (fun h26 => ?_) (fun h26 => ?_))))
 refine A7 ?_
 (refine I1 (C9 rfl rfl rfl (by omega) (by unfold maxLen; omega) rfl) rfl ?_; rintro _ ⟨b33, rfl⟩)
 (refine R6 (by repeat (first | exact Pk.here | apply Pk.there)) (fun G3 hle3 hsl3 _ => ?_); refine R6 (by repeat (first | exact Pk.here | apply Pk.there)) (fun G4 hle4 hsl4 _ => ?_); refine I4 rfl (Y7 G4 br pb nb cb (p + 1) bs _ _ _ _ (hb.mono (hle3.trans hle4)) hnb (by omega) (hsl3.mono hle4) (by decide)) (Pk.perm (by repeat (first | exact Pk.here | apply Pk.there))) rfl rfl (fun v G5 outs hle5 hh => ?_); obtain ⟨rfl, rfl, hv⟩ := hh; obtain ⟨k', rfl, hk'⟩ : ∃ k', v = .int .i64 k' ∧ F8 k' := (by simp only [List.mem_cons, List.not_mem_nil, or_false] at hv; rcases hv with rfl | rfl | rfl | rfl | rfl <;> exact ⟨_, rfl, by unfold F8; omega⟩))
 refine B6 ?_
 refine Q0 (.mk k' ks, q, c, p + 2, G5) ?_ ?_
 (simp only [H6]; exact D3)
 (dsimp only; exact ⟨hle3.trans hle4, (hst.mono (hle3.trans hle4)).ty rfl hsl4 hk', by (rw [J7]; omega), by omega, by omega⟩)
 refine A7 ?_
 refine sB (qE rfl rfl) rfl rfl (fun h48 => ?_) (fun h48 => ?_)
 refine B6 ?_
 refine E0 E1 rfl ?_
 refine I8 (i := 0) (l' := [tt,ff,ff,ff,ff,ff,ff]) rfl D2 (B7 rfl) rfl (by kernel_rfl) rfl rfl ?_
 refine aL 1 rfl (C7 rfl rfl) rfl ?_
 refine A3 2 ?_
 refine O2 rfl rfl ((A1m _)) rfl rfl rfl ?_
 refine A3 3 ?_
 (refine E6 rfl (C9 rfl rfl rfl (by omega) (by unfold maxLen; omega) rfl) rfl rfl ?_; rintro _ ⟨b59, rfl⟩)
 refine A3 4 ?_
 refine R4 rfl rfl rfl rfl rfl rfl (fun _ _ => by repeat (first | exact Sw.here | apply Sw.there)) (M6 (by repeat first | exact mH | apply mT)) rfl (by simp [Value.oneCell']) (by unfold maxLen; omega) (by omega) rfl rfl (by repeat (first | exact B1.nil | apply B1.dep (by decide +kernel) | apply B1.blk (by decide +kernel) (by repeat (first | exact Pk.here | apply Pk.there)) (by repeat first | exact mH | apply mT))) (fun qn cn => ?_)
 (refine A4n (cs := es.flatten ++ [.int .i64 1, .slice none 0 0]) (by repeat (first | exact Pk.here | apply Pk.there)) (fun G6 hle6 hsl6 _ => ?_))
 refine aP 5 rfl (B7 rfl) rfl ?_
 refine A3 6 ?_
 refine R7 rfl rfl rfl rfl rfl rfl rfl rfl (by kernel_rfl) (by repeat first | exact Sw.here | apply Sw.there) (by rfl) ?_
 refine E8 (A5A ?_)
 refine Q0 (.mk k (ks ++ [P8]), qn, cn, p + 1, G6) (by rw [show (Ty.mk k (ks ++ [P8])).ks.length = ks.length + 1 from by simp [Ty.ks]]; exact D3) ?_
 (dsimp only; refine ⟨hle6, C8.ty (ts := ks ++ [P8]) (es := es ++ [[.int .i64 1, .slice none 0 0]]) (C8.snoc (hst.mono hle6) (A0M _)) rfl (by simpa [Ty.ks] using hsl6) hk, ?_, by omega, by omega⟩; rw [J7, A4M, A55, List.length_append]; simp only [List.length_singleton]; omega)
 refine A7 ?_
 refine sB (qE rfl rfl) rfl rfl (fun h76 => ?_) (fun h76 => ?_)
 refine E4 ?_
 refine B8 ?_
 (refine A1X (by repeat (first | exact Pk.here | apply Pk.there)) (fun G3 hle3 hsl3 _ => ?_); refine I2 (fun (x : Nat × Ty × Option Addr × Nat × IM) => ⟨[(6, .int .i64 x.1), (5, .pointer (some ⟨b11, 0, none⟩)), (4, .pointer (some ⟨b4, 0, none⟩))], [.blk b11 [.int .i64 x.2.1.k, .slice x.2.2.1 x.2.1.ks.length x.2.2.2.1], .blk b4 [.int .i64 0, .slice none 0 0], rd br pb nb cb (p + 1)], x.2.2.2.2⟩) (fun x => x.1 ≤ 4 ∧ B9 G3 x.2.2.2.2 ∧ C1 x.2.2.2.2 x.2.1 [.int .i64 x.2.1.k, .slice x.2.2.1 x.2.1.ks.length x.2.2.2.1] ∧ J7 x.2.1 ≤ 30 + 2 * x.1) (fun x => 4 - x.1) (0, .mk k ks, q, c, G3) ?_ ?_ ?_)
 (simp only [H6]; exact D3)
 (dsimp only; exact ⟨by omega, B9.refl _, (hst.mono hle3).ty rfl hsl3 hk, by (rw [J7]; omega)⟩)
 (rintro ⟨i, ⟨tk, tks⟩, qi, ci, Gi⟩ ⟨hi, hlei, hri, hsi⟩; simp only [Ty.k, Ty.ks] at hi hlei hri hsi ⊢)
 refine B6 ?_
 refine sB (I0 rfl rfl) rfl rfl (fun h95 => ?_) (fun h95 => ?_)
 refine A7 ?_
 refine B8 ?_
 refine E0 E1 rfl ?_
 refine L7 (i := 1) (l' := [ff,tt,ff,ff,ff]) rfl D2 (A4 rfl rfl) rfl (by kernel_rfl) rfl rfl ?_
 refine A3 0 ?_
 refine O2 rfl rfl ((A1m _)) rfl rfl rfl ?_
 refine A3 2 ?_
 (refine E6 rfl (C9 rfl rfl rfl (by omega) (by unfold maxLen; omega) rfl) rfl rfl ?_; rintro _ ⟨b108, rfl⟩)
 (refine A4n (cs := [.int .i64 1, .slice none 0 0, .int .i64 tk, .slice qi tks.length ci]) (by repeat (first | exact Pk.here | apply Pk.there)) (fun G7 hle7 hsl7 _ => ?_))
 refine aP 3 rfl (W4 rfl rfl) rfl ?_
 refine A3 4 ?_
 refine R7 rfl rfl rfl rfl rfl rfl rfl rfl (by kernel_rfl) (by repeat first | exact Sw.here | apply Sw.there) (by rfl) ?_
 refine B0 ?_
 refine sP (H2 rfl rfl (by omega) (by omega)) rfl rfl ?_
 refine D7 ?_
 refine H9 (i + 1, .mk 4 [P8, .mk tk tks], some ⟨b108, 0, none⟩, 2, G7) ?_ ?_ ?_
 (simp only [H6]; exact D3)
 (dsimp only; refine ⟨by omega, hlei.trans hle7, C8.ty (ts := [P8, .mk tk tks]) (es := [[.int .i64 1, .slice none 0 0], [.int .i64 tk, .slice qi tks.length ci]]) ⟨_, _, rfl, A0M _, _, _, rfl, hri.mono hle7, rfl⟩ rfl hsl7 ⟨by omega, by omega⟩, ?_⟩; rw [J7, O3, O3, O3, A55]; simp only [List.length_cons, List.length_nil]; omega)
 (show 4 - (i + 1) < 4 - i; omega)
 refine D6 ?_
 refine Q0 (.mk tk tks, qi, ci, p + 1, Gi) ?_ ?_
 (simp only [H6]; exact D3)
 (dsimp only; exact ⟨hle3.trans hlei, hri, by omega, by omega, by omega⟩)
 refine B6 ?_
 (refine A1X (by repeat (first | exact Pk.here | apply Pk.there)) (fun G8 hle8 hsl8 _ => ?_); refine tK ?_)
 refine A5A ?_
 refine Q0 (.mk k ks, q, c, p + 1, G8) ?_ ?_
 (simp only [H6]; exact D3)
 (dsimp only; exact ⟨hle8, (hst.mono hle8).ty rfl hsl8 hk, by (rw [J7]; omega), by omega, by omega⟩)
 (rintro ⟨t', q', c', p', G'⟩ ⟨hle9, hr9, hs9, hp9, hp9'⟩; simp only [] at hle9 hr9 hs9 hp9 hp9' ⊢)
 refine B4 ?_
 refine H7 (outs := [rd br pb nb cb p']) (rC rfl (A4 rfl rfl)) (by repeat (first | exact A0.nil | refine A0.cons Pk.here ?_ | refine A0.cons (Pk.there Pk.here) ?_ | apply A0.drop)) ?_
 (exact ⟨p', by omega, by omega, rfl, t', _, rfl, hr9, by omega⟩)
mutual
def A8y : Tm → Tm
 | .mk k nm num ty fr lb ks => if k = 13 ∨ k = 14 then (A56 ks).headD K1 else .mk k nm num (if k = 5 then P8 else B2) B2 0 (A56 ks)
def A56 : List Tm → List Tm
 | [] => []
 | t :: ts => A8y t :: A56 ts
end
def B6L : Tm → Tm
 | .mk k nm num ty fr lb ks => if k = 13 ∨ k = 14 then ks.headD K1 else if k = 5 then .mk k nm num P8 fr lb ks else .mk k nm num ty fr lb ks
def B6M : Tm → Prop
 | .mk k _ _ _ _ _ ks => k = 13 ∨ k = 14 → ks ≠ []
theorem A11 {t : Ty} (h : Y1 t = true) : t = B2 := by
 obtain ⟨k, ks⟩ := t
 obtain ⟨h1, h2⟩ : (Ty.mk k ks).k = 0 ∧ (Ty.mk k ks).ks.length = 0 := of_decide_eq_true h
 simp only [Ty.k, Ty.ks] at h1 h2
 have h3 : ks = [] := List.length_eq_zero_iff.1 (by omega)
 rw [h3, B2]
 congr
theorem A0A {D N : Int} {k : Int} {nm : ByteArray} {num : Int} {ty fr : Ty} {lb : Int} {ks : List Tm} {d : Int} (h : M5 D N (.mk k nm num ty fr lb ks) d = true) : d ≤ D ∧ k ≠ N ∧ V5 k nm num ty fr lb ks.length = true ∧ M3 D N ks (d + 1) = true := by
 rw [M5] at h
 simp only [Bool.and_eq_true, decide_eq_true_eq] at h
 exact ⟨h.1.1.1, h.1.1.2, h.1.2, h.2⟩
end Gw
end Go.Proofs.YtfpgncjeejickaaGreat
