/-
  The reference model's tests of types and nodes: they compute the same plain functions. Fresh data taken back into the call's own hands, and given up again; sizes. How high and how wide types are. The reference model's scans of types. The reference model's consistency of types. The reference model's tests of nodes. The reference model's scan of terms with casts. Types of terms with casts, in plain words over trees: what a node wants of its operands, and what it is. The laws' copies of types and terms. Copies of types and terms: the reference model's, the program's, the laws' of paths. Terms each node of which is changed, operands first; own copies. The reference model's count of nodes, its CastValid. The reference model's TermValid. slices.Clone of numbers, paths, AllPaths. AllPaths. append of a slice in memory that no longer changes, empty or not. The reference model's paths. The reference model's AllPaths. The law that AllPaths gives what the reference model gives: its walk. Nodes at paths, casts by their labels. The node of a term at a path. Where ways meet again. The reference model's drawn types: what they are made of, and how big they are. The reference model's drawn types, changed at random. The reference model's drawn types, changed at random. Terms without casts and types, in plain words.
-/
import Derived.Test.YtebfignffjhnhaaGreatDoorKj1
import Derived.Test.YtebfignffjhnhaaGreatDoorKj0
set_option linter.unusedVariables false
set_option linter.unusedSimpArgs false
set_option maxHeartbeats 0
set_option maxRecDepth 100000
set_option synthInstance.maxSize 4000
set_option synthInstance.maxHeartbeats 0
namespace Go.Proofs.YtebfignffjhnhaaGreatDoor
open Go Go.RowKit
namespace Gw
theorem A2F {Q : Prop} (h : Q := by exact ⟨rfl, by (first | rw [(A06 k).1 (by omega)] | rw [(A06 k).2.1 (by omega)] | rw [(A06 k).2.2 (by omega) (by omega) (by omega) (by omega) (by omega)]), rfl⟩) : Q := h
theorem A7Y (k : Int) (G : IM) : Fn Tryz.prog 168 [.int .i64 k] [] G (I3 (.int .i64 (T2 k)) G) := by
 refine C3 Tryz.func168 rfl Tryz.ntmps168 Tryz.results168 rfl ?_
 intro w0
 refine J4 ?_
 refine C1 ?_
 refine B6 ?_
 refine sB (qE rfl rfl) rfl rfl (fun h16 => ?_) (fun h16 => ?_)
 refine J9 ?_
 exact A2F
 refine A8 ?_
 refine sB (qE rfl rfl) rfl rfl (fun h40 => ?_) (fun h40 => ?_)
 refine J9 ?_
 exact A2F
 refine A9 ?_
 refine sB (qE rfl rfl) rfl rfl (fun h63 => ?_) (fun h63 => ?_)
 refine K5 ?_
 exact A2F
 refine B2 ?_
 refine sB (qE rfl rfl) rfl rfl (fun h85 => ?_) (fun h85 => ?_)
 refine J9 ?_
 exact A2F
 refine A9 ?_
 refine sB (qE rfl rfl) rfl rfl (fun h108 => ?_) (fun h108 => ?_)
 refine K5 ?_
 exact A2F
 refine J3 ?_
 exact A2F
theorem Z9 {Q : Prop} (h : Q := by exact ⟨rfl, by (unfold D9; first | rw [if_pos (by omega)] | rw [if_neg (by omega), if_pos (by omega)] | rw [if_neg (by omega), if_neg (by omega), if_pos (by omega)] | rw [if_neg (by omega), if_neg (by omega), if_neg (by omega), if_pos (by omega)] | rw [if_neg (by omega), if_neg (by omega), if_neg (by omega), if_neg (by omega)]), rfl⟩) : Q := h
theorem A4r (k : Int) (G : IM) : Fn Tryz.prog 209 [.int .i64 k] [] G (I3 (.int .i64 (D9 k)) G) := by
 refine C3 Tryz.func209 rfl Tryz.ntmps209 Tryz.results209 rfl ?_
 intro w0
 refine J4 ?_
 refine C1 ?_
 refine B6 ?_
 refine sB (qE rfl rfl) rfl rfl (fun h16 => ?_) (fun h16 => ?_)
 refine J9 ?_
 exact Z9
 refine A8 ?_
 refine sB (qE rfl rfl) rfl rfl (fun h40 => ?_) (fun h40 => ?_)
 refine J9 ?_
 exact Z9
 refine A8 ?_
 refine sB (qE rfl rfl) rfl rfl (fun h64 => ?_) (fun h64 => ?_)
 refine J9 ?_
 exact Z9
 refine A9 ?_
 refine sB (qE rfl rfl) rfl rfl (fun h87 => ?_) (fun h87 => ?_)
 refine K5 ?_
 exact Z9
 refine B2 ?_
 refine sB (qE rfl rfl) rfl rfl (fun h109 => ?_) (fun h109 => ?_)
 refine J9 ?_
 exact Z9
 refine A8 ?_
 refine sB (qE rfl rfl) rfl rfl (fun h133 => ?_) (fun h133 => ?_)
 refine J9 ?_
 exact Z9
 refine A8 ?_
 refine sB (qE rfl rfl) rfl rfl (fun h157 => ?_) (fun h157 => ?_)
 refine J9 ?_
 exact Z9
 refine A8 ?_
 refine sB (qE rfl rfl) rfl rfl (fun h181 => ?_) (fun h181 => ?_)
 refine J9 ?_
 exact Z9
 refine A9 ?_
 refine sB (qE rfl rfl) rfl rfl (fun h204 => ?_) (fun h204 => ?_)
 refine K5 ?_
 exact Z9
 refine B2 ?_
 refine sB (qE rfl rfl) rfl rfl (fun h226 => ?_) (fun h226 => ?_)
 refine J9 ?_
 exact Z9
 refine A8 ?_
 refine sB (qE rfl rfl) rfl rfl (fun h250 => ?_) (fun h250 => ?_)
 refine J9 ?_
 exact Z9
 refine A8 ?_
 refine sB (qE rfl rfl) rfl rfl (fun h274 => ?_) (fun h274 => ?_)
 refine J9 ?_
 exact Z9
 refine A9 ?_
 refine sB (qE rfl rfl) rfl rfl (fun h297 => ?_) (fun h297 => ?_)
 refine K5 ?_
 exact Z9
 refine A8 ?_
 refine sB (qE rfl rfl) rfl rfl (fun h318 => ?_) (fun h318 => ?_)
 refine K5 ?_
 exact Z9
 refine J3 ?_
 exact Z9
theorem B2s (s : ByteArray) (G : IM) : Fn Tryz.prog 219 [.string s] [] G (I3 (.bool (A0P s)) G) := by
 refine C3 Tryz.func219 rfl Tryz.ntmps219 Tryz.results219 rfl ?_
 intro w0
 refine D4 ?_
 refine sQ (A10 rfl rfl) rfl (sB (qE rfl rfl) rfl rfl (fun h10 => ?_) (fun h10 => ?_))
 refine A3 ?_
 refine sP (A4c rfl rfl rfl (by omega) (A4k (by omega))) rfl rfl ?_
 refine sB (A0L rfl rfl) rfl rfl (fun h14 => ?_) (fun h14 => ?_)
 refine B6 ?_
 refine sP (A4c rfl rfl rfl (by omega) (A4k (by omega))) rfl rfl ?_
 refine sB (Z4 rfl rfl) rfl rfl (fun h19 => ?_) (fun h19 => ?_)
 refine A8 ?_
 exact zq3
 refine A8 ?_
 exact zq3
 refine J4 ?_
 exact zq3
 refine I0 ?_
 exact zq3
theorem A7Z (t : Ty) (G : IM) (cells : List Value) (hr : B9 G t cells) : Fn Tryz.prog 236 [.agg ⟨cells⟩] [] G (I3 (.bool (A0t t)) G) := by
 obtain ⟨p, c, es, rfl, hk, hsl, hkl⟩ := hr.open
 refine C3 Tryz.func236 rfl Tryz.ntmps236 Tryz.results236 rfl ?_
 intro w0
 refine A3 ?_
 refine sE (C8 rfl rfl) rfl (fun b3 => ?_)
 refine B2 ?_
 refine sB (qE rfl rfl) rfl rfl (fun h11 => ?_) (fun h11 => ?_)
 refine B1 ?_
 refine sB (qE rfl rfl) rfl rfl (fun h16 => ?_) (fun h16 => ?_)
 refine A8 ?_
 exact zq2
 refine A8 ?_
 exact zq2
 refine J4 ?_
 exact zq2
def A0V (n : Int) : Int := if n < -99 ∨ n > 99 then 0 else if n < 0 then -n else n
theorem A4s {Q : Prop} (h : Q := by exact ⟨rfl, by (unfold A0V; first | rw [if_pos (by omega)] | rw [if_neg (by omega), if_pos (by omega)] | rw [if_neg (by omega), if_neg (by omega)]), rfl⟩) : Q := h
theorem B2t (n : Int) (G : IM) : Fn Tryz.prog 57 [.int .i64 n] [] G (I3 (.int .i64 (A0V n)) G) := by
 refine C3 Tryz.func57 rfl Tryz.ntmps57 Tryz.results57 rfl ?_
 intro w0
 refine E0 ?_
 refine sB (J1 rfl rfl) rfl rfl (fun h10 => ?_) (fun h10 => ?_)
 refine I0 ?_
 exact A4s
 refine A3 ?_
 refine sB (X5 rfl rfl) rfl rfl (fun h29 => ?_) (fun h29 => ?_)
 refine N0 ?_
 exact A4s
 refine J2 ?_
 refine sB (J1 rfl rfl) rfl rfl (fun h53 => ?_) (fun h53 => ?_)
 refine A8 ?_
 refine sP (A1Z rfl (by omega) (by omega)) rfl rfl ?_
 refine A8 ?_
 exact A4s
 refine K5 ?_
 exact A4s
theorem Sl.of_blk {G : IM} {b n c sz : Nat} {A C cs : List Value} (hl : cs.length = n * sz) (hc : n ≤ c) (hm : c ≤ maxLen) (hg : G b = some (A ++ (cs ++ C))) : Sl G (some ⟨b, A.length, none⟩) n c sz cs := by
 refine ⟨hl, hc, hm, .inr ⟨b, A.length, _, rfl, hg, fun j v hj => ?_⟩⟩
 have hlt : j < cs.length := (List.getElem?_eq_some_iff.1 hj).1
 rw [List.getElem?_append, if_neg (by omega), List.getElem?_append, if_pos (by omega), show A.length + j - A.length = j by omega]
 exact hj
def InG (G : IM) (bs : A0T) (F : List Nat) : Prop := (bs.map Prod.fst).Sublist F ∧ ∀ q ∈ bs, G q.1 = some q.2
mutual
theorem A3t : ∀ t : Ty, K0 t ≤ 4294967296 → t.small
 | .mk _ ks, h => by
  rw [K0] at h
  have := A1L ks
  simp only [Ty.small]
  exact ⟨by omega, A70 ks (by omega)⟩
theorem A70 : ∀ ts : List Ty, O1 ts ≤ 4294967296 → Ty.smallL ts
 | [], _ => by simp [Ty.smallL]
 | t :: ts, h => by
  rw [O1] at h
  have := A0U t
  have := A1L ts
  simp only [Ty.smallL]
  exact ⟨A3t t (by omega), A70 ts (by omega)⟩
end
mutual
theorem A71 : ∀ t : Tm, Z7 t ≤ 4294967296 → t.small
 | .mk _ nm _ ty fr _ ks, h => by
  rw [Z7] at h
  have := A4p ks
  have := A0U ty
  have := A0U fr
  simp only [Tm.small]
  exact ⟨by omega, A3t ty (by omega), A3t fr (by omega), by omega, A72 ks (by omega)⟩
theorem A72 : ∀ ts : List Tm, V8 ts ≤ 4294967296 → Tm.smallL ts
 | [], _ => by simp [Tm.smallL]
 | t :: ts, h => by
  rw [V8] at h
  have := A7N t
  have := A4p ts
  simp only [Tm.smallL]
  exact ⟨A71 t (by omega), A72 ts (by omega)⟩
end
mutual
theorem A5H : ∀ t : Tm, (D3 t : Int) ≤ Z7 t + 1
 | .mk _ nm _ ty fr _ ks => by
  have := A73 ks
  have := A0U ty
  have := A0U fr
  rw [Z7, D3]; omega
theorem A73 : ∀ ts : List Tm, (E4 ts : Int) ≤ ts.length + V8 ts
 | [] => by rw [V8, E4]; simp
 | t :: ts => by
  have := A5H t
  have := A73 ts
  rw [V8, E4, List.length_cons]; omega
end
def P9 : Ty := .mk 1 []
def Q0 : Nat → Ty → Prop
 | 0, .mk k ks => ks = [] ∧ k ≠ 4 ∧ k ≠ 5
 | n + 1, .mk k ks => (k = 4 ∨ k = 5 → ks.length = 2) ∧ (k ≠ 4 → k ≠ 5 → ks.length = 0) ∧ ∀ t ∈ ks, Q0 n t
mutual
def E5 : Ty → Prop
 | .mk k ks => (k = 4 ∨ k = 5 → ks.length = 2) ∧ (k ≠ 4 → k ≠ 5 → ks.length = 0) ∧ A0B ks
def A0B : List Ty → Prop
 | [] => True
 | t :: ts => E5 t ∧ A0B ts
end
theorem A1w : ∀ {ts : List Ty}, A0B ts ↔ ∀ t ∈ ts, E5 t
 | [] => by simp [A0B]
 | t :: ts => by simp only [A0B, A1w (ts := ts), List.forall_mem_cons]
theorem Q0.ar : ∀ {n : Nat} {t : Ty}, Q0 n t → E5 t
 | 0, .mk k ks, h => by
  obtain ⟨rfl, h1, h2⟩ := h
  rw [E5]
  exact ⟨fun h => by omega, fun _ _ => rfl, by rw [A0B]; trivial⟩
 | n + 1, .mk k ks, h => by
  obtain ⟨h1, h2, h3⟩ := h
  rw [E5]
  exact ⟨h1, h2, A1w.2 fun t ht => (h3 t ht).ar⟩
theorem Q0.up : ∀ {n : Nat} {t : Ty}, Q0 n t → Q0 (n + 1) t
 | 0, .mk k ks, h => by
  obtain ⟨rfl, h1, h2⟩ := h
  exact ⟨fun h => by omega, fun _ _ => rfl, by simp⟩
 | n + 1, .mk k ks, h => by
  obtain ⟨h1, h2, h3⟩ := h
  exact ⟨h1, h2, fun t ht => (h3 t ht).up⟩
theorem Q0.le {n m : Nat} {t : Ty} (h : Q0 n t) (hm : n ≤ m) : Q0 m t := by
 induction hm with
 | refl => exact h
 | step _ ih => exact ih.up
theorem B2u {d : Nat} {k : Int} {ts : List Ty} (h0 : d = 0 → k < 4) (hl : (ts.length : Int) = T2 k) (h1 : 1 ≤ k) (h5 : k ≤ 5) (ha : ∀ u ∈ ts, Q0 (d - 1) u) : Q0 d (.mk k ts) := by
 have hk : k = 1 ∨ k = 2 ∨ k = 3 ∨ k = 4 ∨ k = 5 := by omega
 cases d with
 | zero =>
  have hk4 := h0 rfl
  refine ⟨?_, by omega, by omega⟩
  have : T2 k = 0 := by
   rcases hk with rfl | rfl | rfl | rfl | rfl <;> first | rfl | omega
  exact List.length_eq_zero_iff.1 (by omega)
 | succ d =>
  refine ⟨?_, ?_, ha⟩
  ·rintro (rfl | rfl)
   ·have : T2 4 = 2 := rfl
    omega
   ·have : T2 5 = 2 := rfl
    omega
  ·intro h4 h5
   have : T2 k = 0 := by
    rcases hk with rfl | rfl | rfl | rfl | rfl <;> first | rfl | omega
   omega
theorem A74 (n : Nat) : Q0 n P9 := by
 refine Q0.le (n := 0) ⟨rfl, by decide, by decide⟩ (Nat.zero_le n)
theorem A2G (n : Nat) {k : Int} (h4 : k ≠ 4) (h5 : k ≠ 5) : Q0 n (.mk k []) := Q0.le (n := 0) ⟨rfl, h4, h5⟩ (Nat.zero_le n)
theorem A3u : E5 P9 := (A74 0).ar
mutual
theorem E5.small : ∀ {t : Ty}, E5 t → t.small
 | .mk k ks, h => by
  rw [E5] at h
  rw [Ty.small]
  exact ⟨by have h1 := h.1; have h2 := h.2.1; omega, A0B.small h.2.2⟩
theorem A0B.small : ∀ {ts : List Ty}, A0B ts → Ty.smallL ts
 | [], _ => by rw [Ty.smallL]; trivial
 | t :: ts, h => by
  rw [A0B] at h
  rw [Ty.smallL]
  exact ⟨h.1.small, A0B.small h.2⟩
end
theorem A4t : ∀ {n : Nat} {t : Ty}, Q0 n t → K0 t ≤ ((2 ^ (n + 1) - 2 : Nat) : Int)
 | 0, .mk k ks, h => by
  obtain ⟨rfl, h1, h2⟩ := h
  rw [K0, O1]; simp
 | n + 1, .mk k ks, h => by
  obtain ⟨h1, h2, h3⟩ := h
  have hp : 2 ≤ 2 ^ (n + 1) := by
   have := Nat.pow_le_pow_right (n := 2) (by omega) (show 1 ≤ n + 1 by omega)
   simpa using this
  have e : 2 ^ (n + 1 + 1) = 2 ^ (n + 1) * 2 := Nat.pow_succ ..
  have hl : ks.length = 0 ∨ ks.length = 2 := by omega
  rw [K0]
  match ks, hl, h3 with
  | [], _, _ => rw [O1]; simp
  | [a, b], _, h3 =>
   have := A4t (h3 a (by simp))
   have := A4t (h3 b (by simp))
   simp only [O1, List.length_cons, List.length_nil]; omega
theorem B2v {k : Int} {ks us : List Ty} : ∀ {n : Nat}, Q0 n (.mk k ks) → us.length = ks.length → (∀ u ∈ us, Q0 (n - 1) u) → Q0 n (.mk k us)
 | 0, h, hl, _ => by
  obtain ⟨rfl, h1, h2⟩ := h
  exact ⟨List.length_eq_zero_iff.1 (by simpa using hl), h1, h2⟩
 | n + 1, h, hl, hu => by
  obtain ⟨h1, h2, h3⟩ := h
  exact ⟨fun hk => by rw [hl]; exact h1 hk, fun a b => by rw [hl]; exact h2 a b, hu⟩
theorem A5I {k : Int} {ks : List Ty} {t : Ty} : ∀ {n : Nat}, Q0 n (.mk k ks) → t ∈ ks → Q0 (n - 1) t
 | 0, h, ht => by
  obtain ⟨rfl, h1, h2⟩ := h
  simp at ht
 | n + 1, h, ht => h.2.2 t ht
theorem A75 {k : Int} {ks : List Ty} {d : Int} (h : 4 < d ∨ T2 k ≠ ks.length) : P2 (.mk k ks) d = false := by
 rw [P2]
 rcases h with h | h
 ·rw [decide_eq_false (by omega)]; rfl
 ·rw [decide_eq_false (p := T2 k = ks.length) h, Bool.and_false]; rfl
theorem A76 {k : Int} {ks : List Ty} {d : Int} (h : d ≤ 4) (h2 : T2 k = ks.length) : P2 (.mk k ks) d = U1 ks (d + 1) := by
 rw [P2, decide_eq_true h, decide_eq_true h2]; rfl
theorem B2w {ks : List Ty} {d : Int} {i : Nat} (hi : i < ks.length) (h : P2 ks[i] d = false) : U1 ks d = false := by
 cases hx : U1 ks d with
 | false => rfl
 | true => rw [(A4j ks d).1 hx i hi] at h; cases h
theorem A4u {Q : Prop} (h : Q := by exact ⟨by omega, fun j hj hji => by (by_cases he : j = i; (subst he; assumption); exact hf j hj (by omega))⟩) : Q := h
theorem B2x : ∀ (t : Ty) (d : Int) (G : IM) (cells : List Value), 0 ≤ d ∧ d ≤ 4 → B9 G t cells →
  Fn Tryz.prog 187 [.agg ⟨cells⟩, .int .i64 d] [] G (I3 (.bool (P2 t (5 - d))) G) := by
 refine Ty.ind fun k ks ih d G cells hd hr => ?_
 obtain ⟨p, c, es, rfl, hk, hsl, hkl⟩ := hr.open
 simp only [Ty.k, Ty.ks] at hk hsl hkl ⊢
 have hn := hsl.le
 have hk1 := A7Y k G
 refine C3 Tryz.func187 rfl Tryz.ntmps187 Tryz.results187 rfl ?_
 intro w0
 refine A3 ?_
 refine sE (C8 rfl rfl) rfl (fun b3 => ?_)
 refine A9 ?_
 refine D7 D8 rfl ?_
 refine I9 (i := 0) (l' := [tt,ff,ff,ff,ff,ff,ff,ff,ff,ff,ff]) rfl D1 (qM rfl) rfl (by kernel_rfl) rfl rfl ?_
 refine A0y (i := 1) (l' := [tt,tt,ff,ff,ff,ff,ff,ff,ff,ff,ff]) rfl D1 (J1 rfl rfl) rfl (by kernel_rfl) rfl rfl (fun h11 => ?_) (fun h11 => ?_)
 refine aP 2 rfl (qM rfl) rfl ?_
 refine C2 3 rfl rfl rfl ?_
 refine C2 4 rfl rfl rfl ?_
 refine C2 6 rfl rfl rfl ?_
 refine C2 7 rfl rfl rfl ?_
 refine C2 8 rfl rfl rfl ?_
 refine C2 5 rfl rfl rfl ?_
 refine C2 9 rfl rfl rfl ?_
 refine aP 10 rfl (M5 rfl rfl) rfl ?_
 refine J4 ?_
 (rw [A75 (by omega)]; exact ⟨rfl, rfl, rfl⟩)
 refine aP 2 rfl (qM rfl) rfl ?_
 refine aP 3 rfl (B5 rfl) rfl ?_
 refine aL 4 rfl (C4 rfl rfl) rfl ?_
 refine aP 6 rfl (B5 rfl) rfl ?_
 refine aL 7 rfl (C4 rfl rfl) rfl ?_
 refine aP 8 rfl (pLn rfl rfl) rfl ?_
 refine A1 5 ?_
 refine M8 rfl rfl (hk1) rfl rfl rfl ?_
 refine A0y (i := 9) (l' := [tt,tt,tt,tt,tt,tt,tt,tt,tt,tt,ff]) rfl D1 (N9 rfl rfl) rfl (by kernel_rfl) rfl rfl (fun h41 => ?_) (fun h41 => ?_)
 refine aP 10 rfl (O7 rfl rfl) rfl ?_
 refine J4 ?_
 (rw [A75 (by omega)]; exact ⟨rfl, rfl, rfl⟩)
 refine aP 10 rfl (O7 rfl rfl) rfl ?_
 refine J4 ?_
 refine C1 ?_
 (refine J8 (fun (i : Nat) => ⟨[(5, .int .i64 i), (2, .pointer (some ⟨b3, 0, none⟩)), (1, .int .i64 d)], [.blk b3 [.int .i64 k, .slice p ks.length c]], G⟩) (fun i => i ≤ ks.length ∧ ∀ j (h : j < ks.length), j < i → P2 ks[j] (5 - d + 1) = true) (fun i => ks.length - i) 0 ?_ ?_ ?_)
 exact E2
 exact ⟨by omega, by omega⟩
 (rintro i ⟨hi, hf⟩)
 refine B2 ?_
 refine sB (J1 rfl rfl) rfl rfl (fun h79 => ?_) (fun h79 => ?_)
 refine A8 ?_
 refine C1 ?_
 refine A9 ?_
 (obtain ⟨b, o, p2, c2, rfl, hat, hre, hgb⟩ := hsl.kidTy hkl (i := i) (by omega) (by omega); refine sP (B4 rfl rfl rfl (by omega)) rfl rfl ?_)
 refine sL (A2 rfl rfl (hat _) rfl) rfl rfl ?_
 refine E6 ?_
 refine sP (O5 rfl rfl (by omega) (by omega)) rfl rfl ?_
 (have hih := ih ks[i] (List.getElem_mem (by omega)) (d - 1) G _ (by omega) hre; rw [show 5 - (d - 1) = 5 - d + 1 by omega] at hih; refine F8 rfl hih rfl rfl (fun h96 => ?_) (fun h96 => ?_))
 refine E0 ?_
 refine sP (J0 rfl rfl (by omega) (by omega)) rfl rfl ?_
 refine A3 ?_
 refine J6 (i + 1) ?_ ?_ ?_
 exact E2
 exact A4u
 omega
 refine J9 ?_
 (rw [A76 (by omega) (by omega), B2w (i := i) (by omega) (by assumption)]; exact ⟨rfl, rfl, rfl⟩)
 refine I0 ?_
 (rw [A76 (by omega) (by omega), (A4j ks _).2 (fun j hj => hf j hj (by omega))]; exact ⟨rfl, rfl, rfl⟩)
theorem A1x (t : Ty) (G : IM) (cells : List Value) (hr : B9 G t cells) : Fn Tryz.prog 137 [.agg ⟨cells⟩] [] G (I3 (.bool (E9 t)) G) := by
 have hl := hr.len
 have hv := B2x t 4 G cells (by omega) hr
 refine C3 Tryz.func137 rfl Tryz.ntmps137 Tryz.results137 rfl ?_
 intro w0
 refine A3 ?_
 refine sE (C8 rfl rfl) rfl (fun b3 => ?_)
 refine A9 ?_
 refine sL (A2 rfl rfl (B3 (by repeat first | exact mH | apply mT)) (by assumption)) rfl rfl ?_
 refine H6 rfl (hv) rfl rfl ?_
 refine A9 ?_
 exact ⟨rfl, rfl, rfl⟩
theorem A3v {k : Int} {ks : List Ty} {d : Int} (h : P2 (.mk k ks) d = true) : T2 k = ks.length ∧ ∀ i, (hi : i < ks.length) → P2 ks[i] (d + 1) = true := by
 rw [P2] at h
 simp only [Bool.and_eq_true, decide_eq_true_eq] at h
 exact ⟨h.1.2, (A4j ks _).1 h.2⟩
theorem B2y {k k' : Int} {ks ks' : List Ty} (h : k = 1 ∨ k' = 1) : K1 (.mk k ks) (.mk k' ks') = true := by
 rw [Y4]
 rcases h with h | h
 ·rw [decide_eq_true (p := k = 1) h]; rfl
 ·rw [decide_eq_true (p := k' = 1) h]; simp
theorem A77 {k k' : Int} {ks ks' : List Ty} (h : k ≠ 1) (h' : k' ≠ 1) (hk : k ≠ k') : K1 (.mk k ks) (.mk k' ks') = false := by
 rw [Y4, decide_eq_false h, decide_eq_false h', decide_eq_false hk]; rfl
theorem A78 {k k' : Int} {ks ks' : List Ty} (h : k ≠ 1) (h' : k' ≠ 1) (hk : k = k') : K1 (.mk k ks) (.mk k' ks') = P4 ks ks' := by
 rw [Y4, decide_eq_false h, decide_eq_false h', decide_eq_true hk]; rfl
theorem B2z {ks ks' : List Ty} {i : Nat} (hi : i < ks.length) (hi' : i < ks'.length) (h : K1 ks[i] ks'[i] = false) : P4 ks ks' = false := by
 cases hx : P4 ks ks' with
 | false => rfl
 | true => rw [((A17 ks ks').1 hx).2 i hi hi'] at h; cases h
theorem A4v {Q : Prop} (h : Q := by (rw [B2y (by omega)]; exact ⟨rfl, rfl, rfl⟩)) : Q := h
theorem A79 {Q : Prop} (h : Q := by exact ⟨by omega, fun j hj hj' hji => by (by_cases he : j = i; (subst he; assumption); exact hf j hj hj' (by omega))⟩) : Q := h
theorem A8a {Q : Prop} (h : Q := by (rw [A78 (by omega) (by omega) (by omega), B2z (i := i) (by omega) (by omega) (by assumption)]; exact ⟨rfl, rfl, rfl⟩)) : Q := h
theorem A8b {Q : Prop} (h : Q := by (rw [A78 (by omega) (by omega) (by omega), (A17 ks _).2 ⟨hll, fun j hj hj' => hf j hj hj' (by omega)⟩]; exact ⟨rfl, rfl, rfl⟩)) : Q := h
theorem B2A : ∀ (t t' : Ty) (G : IM) (cells cells' : List Value) (d d' : Int), P2 t d = true → P2 t' d' = true → B9 G t cells → B9 G t' cells' →
  Fn Tryz.prog 163 [.agg ⟨cells⟩, .agg ⟨cells'⟩] [] G (I3 (.bool (K1 t t')) G) := by
 refine Ty.ind fun k ks ih t' G cells cells' d d' hv hv' hr hr' => ?_
 obtain ⟨k', ks'⟩ := t'
 obtain ⟨p, c, es, rfl, hk, hsl, hkl⟩ := hr.open
 obtain ⟨p', c', es', rfl, hk', hsl', hkl'⟩ := hr'.open
 simp only [Ty.k, Ty.ks] at hk hsl hkl hk' hsl' hkl' ⊢
 have hn := hsl.le
 have hn' := hsl'.le
 obtain ⟨hv1, hv2⟩ := A3v hv
 obtain ⟨hv1', hv2'⟩ := A3v hv'
 have hle : k = k' → ks.length = ks'.length := by rintro rfl; omega
 refine C3 Tryz.func163 rfl Tryz.ntmps163 Tryz.results163 rfl ?_
 intro w0
 refine A3 ?_
 refine sE (C8 rfl rfl) rfl (fun b3 => ?_)
 refine sE (C8 rfl rfl) rfl (fun b4 => ?_)
 refine D4 ?_
 refine sB (qE rfl rfl) rfl rfl (fun h13 => ?_) (fun h13 => ?_)
 refine J9 ?_
 exact A4v
 refine B6 ?_
 refine sB (qE rfl rfl) rfl rfl (fun h34 => ?_) (fun h34 => ?_)
 refine N0 ?_
 exact A4v
 refine K5 ?_
 refine sB (N9 rfl rfl) rfl rfl (fun h61 => ?_) (fun h61 => ?_)
 refine J4 ?_
 (rw [A77 (by omega) (by omega) (by omega)]; exact ⟨rfl, rfl, rfl⟩)
 refine J4 ?_
 refine C1 ?_
 (have hll : ks.length = ks'.length := hle (by omega); refine J8 (fun (i : Nat) => ⟨[(5, .int .i64 i), (3, .pointer (some ⟨b4, 0, none⟩)), (2, .pointer (some ⟨b3, 0, none⟩))], [.blk b3 [.int .i64 k, .slice p ks.length c], .blk b4 [.int .i64 k', .slice p' ks'.length c']], G⟩) (fun i => i ≤ ks.length ∧ ∀ j (h : j < ks.length) (h' : j < ks'.length), j < i → K1 ks[j] ks'[j] = true) (fun i => ks.length - i) 0 ?_ ?_ ?_)
 exact E2
 exact ⟨by omega, by omega⟩
 (rintro i ⟨hi, hf⟩)
 refine B2 ?_
 refine sB (J1 rfl rfl) rfl rfl (fun h97 => ?_) (fun h97 => ?_)
 refine A8 ?_
 refine C1 ?_
 refine tS ?_
 (obtain ⟨b, o, p2, c2, rfl, hat, hre, hgb⟩ := hsl.kidTy hkl (i := i) (by omega) (by omega); obtain ⟨b', o', p2', c2', rfl, hat', hre', hgb'⟩ := hsl'.kidTy hkl' (i := i) (by omega) (by omega); refine D7 D8 rfl ?_)
 refine I9 (i := 0) (l' := [tt,ff,ff,ff,ff,ff,ff,ff,ff,ff,ff,ff]) rfl D1 (B5 rfl) rfl (by kernel_rfl) rfl rfl ?_
 refine aL 1 rfl (C4 rfl rfl) rfl ?_
 refine aP 2 rfl (qM rfl) rfl ?_
 refine aP 3 rfl (B4 rfl rfl rfl (by omega)) rfl ?_
 refine aL 4 rfl (A2 rfl rfl (hat _) rfl) rfl ?_
 refine aP 5 rfl (B5 rfl) rfl ?_
 refine aL 6 rfl (C4 rfl rfl) rfl ?_
 refine aP 7 rfl (qM rfl) rfl ?_
 refine aP 8 rfl (B4 rfl rfl rfl (by omega)) rfl ?_
 refine aL 9 rfl (A2 rfl rfl (hat' _) rfl) rfl ?_
 refine A1 10 ?_
 refine S6 rfl rfl (ih ks[i] (List.getElem_mem (by omega)) ks'[i] G _ _ _ _ (hv2 i (by omega)) (hv2' i (by omega)) hre hre') rfl rfl rfl (fun h118 => ?_) (fun h118 => ?_)
 refine aP 11 rfl (pNt rfl) rfl ?_
 refine D4 ?_
 refine sP (J0 rfl rfl (by omega) (by omega)) rfl rfl ?_
 refine A3 ?_
 refine J6 (i + 1) ?_ ?_ ?_
 exact E2
 exact A79
 omega
 refine aP 11 rfl (pNf rfl) rfl ?_
 refine I0 ?_
 exact A8a
 refine I0 ?_
 exact A8b
section blaws
variable {P : Program} {Γ : L6} {env : M0} {hp : List A5} {G : IM} {ty : TypeId}
theorem A3w {x y : Operand} {t t' : TypeId} {i : K4} [hI : H3 P t i] (hd : i.desc = .bool) {r : Bool} (hx : evo env x = some (.bool r)) (hy : evo env y = some (.bool r)) :
  H8 P Γ ⟨env, hp, G⟩ (.binOp .neq t x y t') ty (.bool false) := by
 have h := A5b (P := P) (Γ := Γ) (hp := hp) (G := G) (t := t) (t' := t') (ty := ty) hd hx hy
 rwa [decide_eq_false (by simp)] at h
theorem A8c {x y : Operand} {t t' : TypeId} {i : K4} [hI : H3 P t i] (hd : i.desc = .bool) (hx : evo env x = some (.bool true)) (hy : evo env y = some (.bool false)) :
  H8 P Γ ⟨env, hp, G⟩ (.binOp .neq t x y t') ty (.bool true) := A5b hd hx hy
theorem A5J {x y : Operand} {t t' : TypeId} {i : K4} [hI : H3 P t i] (hd : i.desc = .bool) (hx : evo env x = some (.bool false)) (hy : evo env y = some (.bool true)) :
  H8 P Γ ⟨env, hp, G⟩ (.binOp .neq t x y t') ty (.bool true) := A5b hd hx hy
end blaws
theorem B2B (n : Int) : ((1 ≤ A0V n ∧ A0V n ≤ 99) ↔ A0Q n = true) := by
 unfold A0V A0Q P1
 simp only [Bool.or_eq_true, decide_eq_true_eq]
 split
 ·omega
 ·split <;> omega
theorem A2a {Q : Prop} (h : Q := by exact ⟨rfl, by (cases R with | false => rfl | true => (exfalso; obtain ⟨i1, i2, i3, i4, i5, i6⟩ := hi.1 rfl; first | omega | (simp_all; done))), rfl⟩) : Q := h
theorem B2C (k : Int) (nm : ByteArray) (num : Int) (ty fr : Ty) (lb : Int) (ks : List Tm) (G : IM) (cells : List Value) (hr : B0 G (.mk k nm num ty fr lb ks) cells) (R : Bool)
  (hi : R = true ↔ nm = ⟨#[]⟩ ∧ num = 0 ∧ (1 ≤ A0V lb ∧ A0V lb ≤ 99) ∧ E9 ty = true ∧ E9 fr = true ∧ K1 fr ty = true) :
  Fn Tryz.prog 222 [.agg ⟨cells⟩] [] G (I3 (.bool R) G) := by
 obtain ⟨tk, tks⟩ := ty
 obtain ⟨fk, fks⟩ := fr
 obtain ⟨pt, ct, pf, cf, p, c, es, rfl, hk, hnum, hlb, hty, hfr, hsl, hkl⟩ := hr.open9
 clear hr
 have o3 := A1x _ G _ hty
 have o4 := A1x _ G _ hfr
 have o6 := B2t lb G
 refine C3 Tryz.func222 rfl Tryz.ntmps222 Tryz.results222 rfl ?_
 intro w0
 refine A3 ?_
 refine sE (C8 rfl rfl) rfl (fun b3 => ?_)
 refine B2 ?_
 refine H6 rfl (o6) rfl rfl ?_
 refine B2 ?_
 refine sB (A04 rfl rfl) rfl rfl (fun h19 => ?_) (fun h19 => ?_)
 refine B6 ?_
 refine sB (qE rfl rfl) rfl rfl (fun h23 => ?_) (fun h23 => ?_)
 refine B6 ?_
 refine sB (A0L rfl rfl) rfl rfl (fun h27 => ?_) (fun h27 => ?_)
 refine B6 ?_
 refine sB (Z4 rfl rfl) rfl rfl (fun h31 => ?_) (fun h31 => ?_)
 refine B1 ?_
 refine F8 rfl (o3) rfl rfl (fun h36 => ?_) (fun h36 => ?_)
 refine B1 ?_
 refine F8 rfl (o4) rfl rfl (fun h41 => ?_) (fun h41 => ?_)
 refine A8 ?_
 refine F8 rfl (B2A _ _ G _ _ _ _ (by assumption) (by assumption) hfr hty) rfl rfl (fun h48 => ?_) (fun h48 => ?_)
 refine A8 ?_
 exact ⟨rfl, by rw [hi.2 ⟨by (first | assumption | exact Classical.not_not.1 (by assumption)), by omega, by omega, by assumption, by assumption, by assumption⟩], rfl⟩
 refine A8 ?_
 exact A2a
 refine K5 ?_
 exact A2a
 refine U0 ?_
 exact A2a
 refine A0O ?_
 exact A2a
 refine A7p ?_
 exact A2a
 refine Y3 ?_
 refine E6 ?_
 exact A2a
 refine Y3 ?_
 refine A9 ?_
 exact A2a
theorem R5 {Q : Prop} (h : Q := by exact ⟨rfl, by (cases R with | false => rfl | true => (exfalso; obtain ⟨i1, i2, i3, i4, i5, i6, i7⟩ := hi.1 rfl; first | omega | (have j := i1 (by omega); simp_all; done) | (have j := he (i2 (by omega)); simp_all; done) | (have j := i2 (by omega); simp_all; done) | (have j := i3 (by omega); simp_all; done) | (have j := i4 (by omega); simp_all; done) | (have j := i5 (by omega); simp_all; done))), rfl⟩) : Q := h
theorem A2H {Q : Prop} (h : Q := by exact ⟨rfl, by rw [hi.2 ⟨fun _ => by (first | assumption | (exfalso; omega)), fun _ => by (first | assumption | (exfalso; omega) | exact Classical.not_not.1 (by assumption)), fun _ => by (first | assumption | (exfalso; omega)), fun _ => by (first | assumption | (exfalso; omega)), fun _ => ⟨by (first | assumption | (exfalso; omega)), by (first | assumption | omega)⟩, by omega, by omega⟩], rfl⟩) : Q := h
theorem A8d (k : Int) (nm : ByteArray) (num : Int) (ty fr : Ty) (lb : Int) (ks : List Tm) (G : IM) (cells : List Value) (hr : B0 G (.mk k nm num ty fr lb ks) cells) (R : Bool)
  (hi : R = true ↔ (k = 1 ∨ k = 5 → A0P nm = true) ∧ (¬(k = 1 ∨ k = 5) → nm = ⟨#[]⟩) ∧ (k = 5 ∨ k = 13 ∨ k = 14 → E9 ty = true) ∧ (¬(k = 5 ∨ k = 13 ∨ k = 14) → A0t ty = true) ∧ (k ≠ 14 → A0t fr = true ∧ lb = 0) ∧ (k = 2 → 0 ≤ num ∧ num ≤ 999) ∧ (k ≠ 2 → num = 0)) :
  Fn Tryz.prog 220 [.agg ⟨cells⟩] [] G (I3 (.bool R) G) := by
 have he : nm = ⟨#[]⟩ → A0P nm = false := by rintro rfl; rfl
 obtain ⟨tk, tks⟩ := ty
 obtain ⟨fk, fks⟩ := fr
 obtain ⟨pt, ct, pf, cf, p, c, es, rfl, hk, hnum, hlb, hty, hfr, hsl, hkl⟩ := hr.open9
 clear hr
 have o2 := B2s nm G
 have o3 := A1x _ G _ hty
 have o4 := A7Z _ G _ hty
 have o7 := A7Z _ G _ hfr
 refine C3 Tryz.func220 rfl Tryz.ntmps220 Tryz.results220 rfl ?_
 intro w0
 refine A3 ?_
 refine sE (C8 rfl rfl) rfl (fun b3 => ?_)
 refine B2 ?_
 refine sB (qE rfl rfl) rfl rfl (fun h11 => ?_) (fun h11 => ?_)
 refine N0 ?_
 refine sP (H9 rfl rfl (by omega)) rfl rfl ?_
 refine B6 ?_
 refine sP (H9 rfl rfl (by omega)) rfl rfl ?_
 refine B1 ?_
 refine sP (H9 rfl rfl (by omega)) rfl rfl ?_
 refine J2 ?_
 refine F8 rfl (o2) rfl rfl (fun h44 => ?_) (fun h44 => ?_)
 refine sQ (A3w rfl rfl rfl) rfl ?_
 refine A2D ?_
 refine F8 rfl (o4) rfl rfl (fun h70 => ?_) (fun h70 => ?_)
 refine K5 ?_
 refine sP (W6 rfl rfl (by omega)) rfl rfl ?_
 refine B6 ?_
 refine F8 rfl (o7) rfl rfl (fun h88 => ?_) (fun h88 => ?_)
 refine B1 ?_
 refine sB (N9 rfl rfl) rfl rfl (fun h93 => ?_) (fun h93 => ?_)
 refine K5 ?_
 exact R5
 refine N0 ?_
 refine sP (H9 rfl rfl (by omega)) rfl rfl ?_
 refine E0 ?_
 refine sB (qE rfl rfl) rfl rfl (fun h130 => ?_) (fun h130 => ?_)
 refine A9 ?_
 exact A2H
 refine A9 ?_
 exact R5
 refine U0 ?_
 exact R5
 refine J3 ?_
 exact R5
 refine sQ (A8c rfl rfl rfl) rfl ?_
 refine Y3 ?_
 refine E0 ?_
 exact R5
 refine B6 ?_
 refine sB (qE rfl rfl) rfl rfl (fun h221 => ?_) (fun h221 => ?_)
 refine D4 ?_
 refine sP (T8 rfl rfl (by omega)) rfl rfl ?_
 refine A0h ?_
 refine F8 rfl (o2) rfl rfl (fun h250 => ?_) (fun h250 => ?_)
 refine sQ (A3w rfl rfl rfl) rfl ?_
 refine J3 ?_
 refine F8 rfl (o3) rfl rfl (fun h266 => ?_) (fun h266 => ?_)
 refine A0O ?_
 refine sP (W6 rfl rfl (by omega)) rfl rfl ?_
 refine B6 ?_
 refine F8 rfl (o7) rfl rfl (fun h294 => ?_) (fun h294 => ?_)
 refine B1 ?_
 refine sB (N9 rfl rfl) rfl rfl (fun h299 => ?_) (fun h299 => ?_)
 refine K5 ?_
 exact R5
 refine N0 ?_
 refine sP (H9 rfl rfl (by omega)) rfl rfl ?_
 refine E0 ?_
 refine sB (qE rfl rfl) rfl rfl (fun h336 => ?_) (fun h336 => ?_)
 refine A9 ?_
 exact A2H
 refine A9 ?_
 exact R5
 refine U0 ?_
 exact R5
 refine A2D ?_
 exact R5
 refine sQ (A8c rfl rfl rfl) rfl ?_
 refine Y3 ?_
 refine E0 ?_
 exact R5
 refine D4 ?_
 refine sP (H9 rfl rfl (by omega)) rfl rfl ?_
 refine B6 ?_
 refine sB (qE rfl rfl) rfl rfl (fun h446 => ?_) (fun h446 => ?_)
 refine I0 ?_
 refine F8 rfl (o2) rfl rfl (fun h462 => ?_) (fun h462 => ?_)
 refine sQ (A5J rfl rfl rfl) rfl ?_
 refine Y3 ?_
 refine E0 ?_
 exact R5
 refine sQ (A3w rfl rfl rfl) rfl ?_
 refine A8 ?_
 refine sB (A1q rfl rfl) rfl rfl (fun h511 => ?_) (fun h511 => ?_)
 refine Y3 ?_
 refine A3 ?_
 exact R5
 refine B2 ?_
 refine F8 rfl (o3) rfl rfl (fun h552 => ?_) (fun h552 => ?_)
 refine A0O ?_
 refine sP (W6 rfl rfl (by omega)) rfl rfl ?_
 refine B6 ?_
 refine F8 rfl (o7) rfl rfl (fun h580 => ?_) (fun h580 => ?_)
 refine B1 ?_
 refine sB (N9 rfl rfl) rfl rfl (fun h585 => ?_) (fun h585 => ?_)
 refine K5 ?_
 exact R5
 refine N0 ?_
 refine sP (H9 rfl rfl (by omega)) rfl rfl ?_
 refine E0 ?_
 refine sB (qE rfl rfl) rfl rfl (fun h622 => ?_) (fun h622 => ?_)
 refine A9 ?_
 exact A2H
 refine A9 ?_
 exact R5
 refine U0 ?_
 exact R5
 refine A2D ?_
 exact R5
 refine B1 ?_
 refine sB (qE rfl rfl) rfl rfl (fun h683 => ?_) (fun h683 => ?_)
 refine J2 ?_
 refine F8 rfl (o2) rfl rfl (fun h694 => ?_) (fun h694 => ?_)
 refine sQ (A5J rfl rfl rfl) rfl ?_
 refine Y3 ?_
 refine E0 ?_
 exact R5
 refine sQ (A3w rfl rfl rfl) rfl ?_
 refine A8 ?_
 refine sB (A1q rfl rfl) rfl rfl (fun h743 => ?_) (fun h743 => ?_)
 refine Y3 ?_
 refine A3 ?_
 exact R5
 refine B2 ?_
 refine F8 rfl (o3) rfl rfl (fun h784 => ?_) (fun h784 => ?_)
 refine A0O ?_
 refine sP (A0N rfl rfl (by omega)) rfl rfl ?_
 refine A0r ?_
 refine sP (H9 rfl rfl (by omega)) rfl rfl ?_
 refine E0 ?_
 refine sB (qE rfl rfl) rfl rfl (fun h840 => ?_) (fun h840 => ?_)
 refine A9 ?_
 exact A2H
 refine A9 ?_
 exact R5
 refine A2D ?_
 exact R5
 refine J2 ?_
 refine F8 rfl (o2) rfl rfl (fun h888 => ?_) (fun h888 => ?_)
 refine sQ (A5J rfl rfl rfl) rfl ?_
 refine Y3 ?_
 refine E0 ?_
 exact R5
 refine sQ (A3w rfl rfl rfl) rfl ?_
 refine A8 ?_
 refine sB (A1q rfl rfl) rfl rfl (fun h937 => ?_) (fun h937 => ?_)
 refine Y3 ?_
 refine A3 ?_
 exact R5
 refine T1 ?_
 refine F8 rfl (o4) rfl rfl (fun h988 => ?_) (fun h988 => ?_)
 refine K5 ?_
 refine sP (W6 rfl rfl (by omega)) rfl rfl ?_
 refine B6 ?_
 refine F8 rfl (o7) rfl rfl (fun h1006 => ?_) (fun h1006 => ?_)
 refine B1 ?_
 refine sB (N9 rfl rfl) rfl rfl (fun h1011 => ?_) (fun h1011 => ?_)
 refine K5 ?_
 exact R5
 refine N0 ?_
 refine sB (qE rfl rfl) rfl rfl (fun h1038 => ?_) (fun h1038 => ?_)
 refine B2 ?_
 refine sB (A0L rfl rfl) rfl rfl (fun h1046 => ?_) (fun h1046 => ?_)
 refine B6 ?_
 refine sB (Z4 rfl rfl) rfl rfl (fun h1050 => ?_) (fun h1050 => ?_)
 refine B2 ?_
 exact A2H
 refine B2 ?_
 exact R5
 refine J4 ?_
 exact R5
 refine E0 ?_
 refine sB (qE rfl rfl) rfl rfl (fun h1088 => ?_) (fun h1088 => ?_)
 refine A9 ?_
 exact A2H
 refine A9 ?_
 exact R5
 refine U0 ?_
 exact R5
 refine J3 ?_
 exact R5
mutual
def N7 (D N : Int) : Tm → Int → Bool
 | .mk k nm num ty fr lb ks, deep => decide (deep ≤ D) && decide (k ≠ N) && U2 k nm num ty fr lb ks.length && N8 D N ks (deep + 1)
def N8 (D N : Int) : List Tm → Int → Bool
 | [], _ => true
 | t :: ts, deep => N7 D N t deep && N8 D N ts deep
end
theorem A09 (D N : Int) : ∀ (ts : List Tm) (d : Int), N8 D N ts d = true ↔ ∀ i, (h : i < ts.length) → N7 D N ts[i] d = true
 | [], d => by simp [N8]
 | t :: ts, d => by
  simp only [N8, Bool.and_eq_true, A09 D N ts d]
  constructor
  ·rintro ⟨h1, h2⟩ i hi
   cases i with
   | zero => exact h1
   | succ i => exact h2 i (by simpa using hi)
  ·intro h
   exact ⟨h 0 (by simp), fun i hi => h (i + 1) (by simpa using hi)⟩
theorem A8e {D N : Int} {k : Int} {nm : ByteArray} {num : Int} {ty fr : Ty} {lb : Int} {ks : List Tm} {d : Int} (h : D < d ∨ k = N ∨ U2 k nm num ty fr lb ks.length = false) : N7 D N (.mk k nm num ty fr lb ks) d = false := by
 rw [N7]
 rcases h with h | h | h
 ·rw [decide_eq_false (by omega)]; rfl
 ·rw [decide_eq_false (p := k ≠ N) (by omega), Bool.and_false]; rfl
 ·rw [h, Bool.and_false]; rfl
theorem A2b {D N : Int} {k : Int} {nm : ByteArray} {num : Int} {ty fr : Ty} {lb : Int} {ks : List Tm} {d : Int} (h1 : d ≤ D) (h2 : k ≠ N) (h3 : U2 k nm num ty fr lb ks.length = true) : N7 D N (.mk k nm num ty fr lb ks) d = N8 D N ks (d + 1) := by
 rw [N7, decide_eq_true h1, decide_eq_true h2, h3]; rfl
theorem B2D {D N : Int} {ks : List Tm} {d : Int} {i : Nat} (hi : i < ks.length) (h : N7 D N ks[i] d = false) : N8 D N ks d = false := by
 cases hx : N8 D N ks d with
 | false => rfl
 | true => rw [(A09 D N ks d).1 hx i hi] at h; cases h
theorem B2E {k : Int} {nm : ByteArray} {num : Int} {ty fr : Ty} {lb : Int} {n : Nat} (hk : k = 14) (ha : D9 k = n) : U2 k nm num ty fr lb n = true ↔ nm = ⟨#[]⟩ ∧ num = 0 ∧ (1 ≤ A0V lb ∧ A0V lb ≤ 99) ∧ E9 ty = true ∧ E9 fr = true ∧ K1 fr ty = true := by
 rw [U3, B2B]
 simp only [P1, A1J, decide_eq_true_eq, Bool.and_eq_true]
 constructor
 ·rintro ⟨_, _, h3, _, h5, h6, _, h8, _⟩
  have h8 := h8 hk
  exact ⟨h3 (by omega), by have := h5 (by omega); omega, h8.2, h6 (by omega), h8.1.1.1, h8.1.2⟩
 ·rintro ⟨h1, h2, h3, h4, h5, h6⟩
  exact ⟨ha, fun h => absurd h (by omega), fun _ => h1, fun h => absurd h (by omega), fun _ => by omega, fun _ => h4, fun h => absurd h (by omega), fun _ => ⟨⟨⟨h5, h4⟩, h6⟩, h3⟩, fun h => absurd hk h⟩
theorem A8f {k : Int} {nm : ByteArray} {num : Int} {ty fr : Ty} {lb : Int} {n : Nat} (hk : k ≠ 14) (ha : D9 k = n) : U2 k nm num ty fr lb n = true ↔
  (k = 1 ∨ k = 5 → A0P nm = true) ∧ (¬(k = 1 ∨ k = 5) → nm = ⟨#[]⟩) ∧ (k = 5 ∨ k = 13 ∨ k = 14 → E9 ty = true) ∧ (¬(k = 5 ∨ k = 13 ∨ k = 14) → A0t ty = true) ∧ (k ≠ 14 → A0t fr = true ∧ lb = 0) ∧ (k = 2 → 0 ≤ num ∧ num ≤ 999) ∧ (k ≠ 2 → num = 0) := by
 rw [U3]
 simp only [P1, decide_eq_true_eq]
 constructor
 ·rintro ⟨_, h2, h3, h4, h5, h6, h7, _, h9⟩
  exact ⟨h2, h3, h6, h7, h9, h4, fun h => by have := h5 h; omega⟩
 ·rintro ⟨h2, h3, h6, h7, h9, h4, h5⟩
  exact ⟨ha, h2, h3, h4, fun h => by have := h5 h; omega, h6, h7, fun h => absurd h hk, h9⟩
theorem A1y {Q : Prop} (h : Q := by (rw [A8e (by rw [hR]; first | omega | exact .inr (.inr (by assumption)) | exact .inr (.inr (by cases R with | false => rfl | true => exact absurd (har rfl) (by omega))))]; exact ⟨rfl, rfl, rfl⟩)) : Q := h
theorem A5K {Q : Prop} (h : Q := by (rw [A2b (by omega) (by omega) (hR.trans (by assumption)), B2D (i := i) (by omega) (by assumption)]; exact ⟨rfl, rfl, rfl⟩)) : Q := h
theorem A8g {Q : Prop} (h : Q := by (rw [A2b (by omega) (by omega) (hR.trans (by assumption)), (A09 40 13 ks _).2 (fun j hj => hf j hj (by omega))]; exact ⟨rfl, rfl, rfl⟩)) : Q := h
theorem B2F : ∀ (t : Tm) (d : Int) (G : IM) (cells : List Value), 0 ≤ d ∧ d ≤ 40 → B0 G t cells →
  Fn Tryz.prog 193 [.agg ⟨cells⟩, .int .i64 d] [] G (I3 (.bool (N7 40 13 t (41 - d))) G) := by
 refine Tm.ind fun k nm num ty fr lb ks ih d G cells hd hr => ?_
 have hr0 := hr
 have h14 := fun h : k = 14 => @B2E k nm num ty fr lb ks.length h
 have hne := fun h : k ≠ 14 => @A8f k nm num ty fr lb ks.length h
 have har := fun h : U2 k nm num ty fr lb ks.length = true => (U3.1 h).1
 obtain ⟨R, hR⟩ : ∃ R, U2 k nm num ty fr lb ks.length = R := ⟨_, rfl⟩
 rw [hR] at h14 hne har
 have hlo := B2C k nm num ty fr lb ks G cells hr0 R
 have hl2 := A8d k nm num ty fr lb ks G cells hr0 R
 have hk1 := A4r k G
 obtain ⟨tk, tks⟩ := ty
 obtain ⟨fk, fks⟩ := fr
 obtain ⟨pt, ct, pf, cf, p, c, es, rfl, hk, hnum, hlb, hty, hfr, hsl, hkl⟩ := hr.open9
 have hn := hsl.le
 clear hr hr0
 refine C3 Tryz.func193 rfl Tryz.ntmps193 Tryz.results193 rfl ?_
 intro w0
 refine A3 ?_
 refine sE (C8 rfl rfl) rfl (fun b3 => ?_)
 refine A9 ?_
 refine D7 D8 rfl ?_
 refine I9 (i := 0) (l' := [tt,ff,ff,ff,ff,ff,ff,ff,ff,ff,ff,ff,ff,ff,ff,ff,ff,ff,ff,ff,ff,ff,ff,ff,ff,ff,ff,ff,ff,ff,ff,ff,ff,ff,ff,ff]) rfl D1 (qM rfl) rfl (by kernel_rfl) rfl rfl ?_
 refine A0y (i := 1) (l' := [tt,tt,ff,ff,ff,ff,ff,ff,ff,ff,ff,ff,ff,ff,ff,ff,ff,ff,ff,ff,ff,ff,ff,ff,ff,ff,ff,ff,ff,ff,ff,ff,ff,ff,ff,ff]) rfl D1 (J1 rfl rfl) rfl (by kernel_rfl) rfl rfl (fun h11 => ?_) (fun h11 => ?_)
 refine aP 2 rfl (qM rfl) rfl ?_
 refine C2 3 rfl rfl rfl ?_
 refine C2 4 rfl rfl rfl ?_
 refine C2 6 rfl rfl rfl ?_
 refine C2 7 rfl rfl rfl ?_
 refine C2 8 rfl rfl rfl ?_
 refine C2 5 rfl rfl rfl ?_
 refine C2 9 rfl rfl rfl ?_
 refine aP 10 rfl (M5 rfl rfl) rfl ?_
 refine aP 11 rfl (qM rfl) rfl ?_
 refine C2 12 rfl rfl rfl ?_
 refine C2 13 rfl rfl rfl ?_
 refine C2 14 rfl rfl rfl ?_
 refine aP 15 rfl (M5 rfl rfl) rfl ?_
 refine aP 16 rfl (qM rfl) rfl ?_
 refine C2 17 rfl rfl rfl ?_
 refine C2 18 rfl rfl rfl ?_
 refine C2 19 rfl rfl rfl ?_
 refine C2 20 rfl rfl rfl ?_
 refine C2 21 rfl rfl rfl ?_
 refine C2 22 rfl rfl rfl ?_
 refine C2 23 rfl rfl rfl ?_
 refine C2 24 rfl rfl rfl ?_
 refine aP 25 rfl (M5 rfl rfl) rfl ?_
 refine aP 26 rfl (qM rfl) rfl ?_
 refine C2 27 rfl rfl rfl ?_
 refine C2 28 rfl rfl rfl ?_
 refine C2 29 rfl rfl rfl ?_
 refine C2 30 rfl rfl rfl ?_
 refine C2 31 rfl rfl rfl ?_
 refine C2 32 rfl rfl rfl ?_
 refine C2 33 rfl rfl rfl ?_
 refine C2 34 rfl rfl rfl ?_
 refine aP 35 rfl (M5 rfl rfl) rfl ?_
 refine J4 ?_
 exact A1y
 refine aP 2 rfl (qM rfl) rfl ?_
 refine aP 3 rfl (B5 rfl) rfl ?_
 refine aL 4 rfl (C4 rfl rfl) rfl ?_
 refine aP 6 rfl (B5 rfl) rfl ?_
 refine aL 7 rfl (C4 rfl rfl) rfl ?_
 refine aP 8 rfl (pLn rfl rfl) rfl ?_
 refine A1 5 ?_
 refine M8 rfl rfl (hk1) rfl rfl rfl ?_
 refine A0y (i := 9) (l' := [tt,tt,tt,tt,tt,tt,tt,tt,tt,tt,ff,ff,ff,ff,ff,ff,ff,ff,ff,ff,ff,ff,ff,ff,ff,ff,ff,ff,ff,ff,ff,ff,ff,ff,ff,ff]) rfl D1 (N9 rfl rfl) rfl (by kernel_rfl) rfl rfl (fun h66 => ?_) (fun h66 => ?_)
 refine aP 10 rfl (O7 rfl rfl) rfl ?_
 refine aP 11 rfl (qM rfl) rfl ?_
 refine C2 12 rfl rfl rfl ?_
 refine C2 13 rfl rfl rfl ?_
 refine C2 14 rfl rfl rfl ?_
 refine aP 15 rfl (M5 rfl rfl) rfl ?_
 refine aP 16 rfl (qM rfl) rfl ?_
 refine C2 17 rfl rfl rfl ?_
 refine C2 18 rfl rfl rfl ?_
 refine C2 19 rfl rfl rfl ?_
 refine C2 20 rfl rfl rfl ?_
 refine C2 21 rfl rfl rfl ?_
 refine C2 22 rfl rfl rfl ?_
 refine C2 23 rfl rfl rfl ?_
 refine C2 24 rfl rfl rfl ?_
 refine aP 25 rfl (M5 rfl rfl) rfl ?_
 refine aP 26 rfl (qM rfl) rfl ?_
 refine C2 27 rfl rfl rfl ?_
 refine C2 28 rfl rfl rfl ?_
 refine C2 29 rfl rfl rfl ?_
 refine C2 30 rfl rfl rfl ?_
 refine C2 31 rfl rfl rfl ?_
 refine C2 32 rfl rfl rfl ?_
 refine C2 33 rfl rfl rfl ?_
 refine C2 34 rfl rfl rfl ?_
 refine aP 35 rfl (M5 rfl rfl) rfl ?_
 refine J4 ?_
 exact A1y
 refine aP 10 rfl (O7 rfl rfl) rfl ?_
 refine aP 11 rfl (qM rfl) rfl ?_
 refine aP 12 rfl (B5 rfl) rfl ?_
 refine aL 13 rfl (C4 rfl rfl) rfl ?_
 refine A0y (i := 14) (l' := [tt,tt,tt,tt,tt,tt,tt,tt,tt,tt,tt,tt,tt,tt,tt,ff,ff,ff,ff,ff,ff,ff,ff,ff,ff,ff,ff,ff,ff,ff,ff,ff,ff,ff,ff,ff]) rfl D1 (qE rfl rfl) rfl (by kernel_rfl) rfl rfl (fun h109 => ?_) (fun h109 => ?_)
 refine aP 15 rfl (O7 rfl rfl) rfl ?_
 refine aP 16 rfl (qM rfl) rfl ?_
 refine C2 17 rfl rfl rfl ?_
 refine C2 18 rfl rfl rfl ?_
 refine C2 19 rfl rfl rfl ?_
 refine C2 20 rfl rfl rfl ?_
 refine C2 21 rfl rfl rfl ?_
 refine C2 22 rfl rfl rfl ?_
 refine C2 23 rfl rfl rfl ?_
 refine C2 24 rfl rfl rfl ?_
 refine aP 25 rfl (M5 rfl rfl) rfl ?_
 refine aP 26 rfl (qM rfl) rfl ?_
 refine C2 27 rfl rfl rfl ?_
 refine C2 28 rfl rfl rfl ?_
 refine C2 29 rfl rfl rfl ?_
 refine C2 30 rfl rfl rfl ?_
 refine C2 31 rfl rfl rfl ?_
 refine C2 32 rfl rfl rfl ?_
 refine C2 33 rfl rfl rfl ?_
 refine C2 34 rfl rfl rfl ?_
 refine aP 35 rfl (M5 rfl rfl) rfl ?_
 refine J4 ?_
 exact A1y
 refine aP 15 rfl (O7 rfl rfl) rfl ?_
 refine aP 16 rfl (qM rfl) rfl ?_
 refine aP 17 rfl (B5 rfl) rfl ?_
 refine aL 18 rfl (C4 rfl rfl) rfl ?_
 refine A0y (i := 19) (l' := [tt,tt,tt,tt,tt,tt,tt,tt,tt,tt,tt,tt,tt,tt,tt,tt,tt,tt,tt,tt,ff,ff,ff,ff,ff,ff,ff,ff,ff,ff,ff,ff,ff,ff,ff,ff]) rfl D1 (qE rfl rfl) rfl (by kernel_rfl) rfl rfl (fun h147 => ?_) (fun h147 => ?_)
 refine aP 20 rfl (qM rfl) rfl ?_
 refine aL 21 rfl (A4 rfl rfl) rfl ?_
 refine A1 22 ?_
 refine S6 rfl rfl (hlo (h14 (by omega) (by omega))) rfl rfl rfl (fun h151 => ?_) (fun h151 => ?_)
 refine aP 23 rfl (pNt rfl) rfl ?_
 refine aP 24 rfl (M5 rfl rfl) rfl ?_
 refine aP 25 rfl (O7 rfl rfl) rfl ?_
 refine aP 26 rfl (qM rfl) rfl ?_
 refine aP 27 rfl (B5 rfl) rfl ?_
 refine aL 28 rfl (C4 rfl rfl) rfl ?_
 refine aP 29 rfl (A0N rfl rfl (by omega)) rfl ?_
 refine aP 30 rfl (qM rfl) rfl ?_
 refine C2 31 rfl rfl rfl ?_
 refine C2 32 rfl rfl rfl ?_
 refine C2 33 rfl rfl rfl ?_
 refine aP 34 rfl (O7 rfl rfl) rfl ?_
 refine aP 35 rfl (O7 rfl rfl) rfl ?_
 refine J4 ?_
 refine C1 ?_
 (refine J8 (fun (i : Nat) => ⟨[(5, .int .i64 i), (2, .pointer (some ⟨b3, 0, none⟩)), (1, .int .i64 d)], [.blk b3 [.int .i64 k, .string nm, .int .i64 num, .int .i64 tk, .slice pt tks.length ct, .int .i64 fk, .slice pf fks.length cf, .int .i64 lb, .slice p ks.length c]], G⟩) (fun i => i ≤ ks.length ∧ ∀ j (h : j < ks.length), j < i → N7 40 13 ks[j] (41 - d + 1) = true) (fun i => ks.length - i) 0 ?_ ?_ ?_)
 exact E2
 exact ⟨by omega, by omega⟩
 (rintro i ⟨hi, hf⟩)
 refine B2 ?_
 refine sB (J1 rfl rfl) rfl rfl (fun h188 => ?_) (fun h188 => ?_)
 refine A8 ?_
 refine C1 ?_
 refine A9 ?_
 (obtain ⟨b, o, e, rfl, hl, hat, hre, hgb⟩ := hsl.kidTm hkl (i := i) (by omega) (by omega); refine sP (B4 rfl rfl rfl (by omega)) rfl rfl ?_)
 refine sL (A2 rfl rfl (hat _) hl) rfl rfl ?_
 refine E6 ?_
 refine sP (O5 rfl rfl (by omega) (by omega)) rfl rfl ?_
 (have hih := ih ks[i] (List.getElem_mem (by omega)) (d - 1) G _ (by omega) hre; rw [show 41 - (d - 1) = 41 - d + 1 by omega] at hih; refine F8 rfl hih rfl rfl (fun h205 => ?_) (fun h205 => ?_))
 refine E0 ?_
 refine sP (J0 rfl rfl (by omega) (by omega)) rfl rfl ?_
 refine A3 ?_
 refine J6 (i + 1) ?_ ?_ ?_
 exact E2
 exact A4u
 omega
 refine J9 ?_
 exact A5K
 refine I0 ?_
 exact A8g
 refine aP 23 rfl (pNf rfl) rfl ?_
 refine aP 24 rfl (M5 rfl rfl) rfl ?_
 refine aP 25 rfl (O7 rfl rfl) rfl ?_
 refine aP 26 rfl (qM rfl) rfl ?_
 refine C2 27 rfl rfl rfl ?_
 refine C2 28 rfl rfl rfl ?_
 refine C2 29 rfl rfl rfl ?_
 refine C2 30 rfl rfl rfl ?_
 refine C2 31 rfl rfl rfl ?_
 refine C2 32 rfl rfl rfl ?_
 refine C2 33 rfl rfl rfl ?_
 refine C2 34 rfl rfl rfl ?_
 refine aP 35 rfl (M5 rfl rfl) rfl ?_
 refine J4 ?_
 exact A1y
 refine aP 20 rfl (qM rfl) rfl ?_
 refine C2 21 rfl rfl rfl ?_
 refine C2 22 rfl rfl rfl ?_
 refine C2 23 rfl rfl rfl ?_
 refine aP 24 rfl (O7 rfl rfl) rfl ?_
 refine aP 25 rfl (O7 rfl rfl) rfl ?_
 refine aP 26 rfl (qM rfl) rfl ?_
 refine aP 27 rfl (B5 rfl) rfl ?_
 refine aL 28 rfl (C4 rfl rfl) rfl ?_
 refine aP 29 rfl (W6 rfl rfl (by omega)) rfl ?_
 refine aP 30 rfl (qM rfl) rfl ?_
 refine aL 31 rfl (A4 rfl rfl) rfl ?_
 refine A1 32 ?_
 refine S6 rfl rfl (hl2 (hne (by omega) (by omega))) rfl rfl rfl (fun h293 => ?_) (fun h293 => ?_)
 refine aP 33 rfl (pNt rfl) rfl ?_
 refine aP 34 rfl (M5 rfl rfl) rfl ?_
 refine aP 35 rfl (O7 rfl rfl) rfl ?_
 refine J4 ?_
 refine C1 ?_
 (refine J8 (fun (i : Nat) => ⟨[(5, .int .i64 i), (2, .pointer (some ⟨b3, 0, none⟩)), (1, .int .i64 d)], [.blk b3 [.int .i64 k, .string nm, .int .i64 num, .int .i64 tk, .slice pt tks.length ct, .int .i64 fk, .slice pf fks.length cf, .int .i64 lb, .slice p ks.length c]], G⟩) (fun i => i ≤ ks.length ∧ ∀ j (h : j < ks.length), j < i → N7 40 13 ks[j] (41 - d + 1) = true) (fun i => ks.length - i) 0 ?_ ?_ ?_)
 exact E2
 exact ⟨by omega, by omega⟩
 (rintro i ⟨hi, hf⟩)
 refine B2 ?_
 refine sB (J1 rfl rfl) rfl rfl (fun h320 => ?_) (fun h320 => ?_)
 refine A8 ?_
 refine C1 ?_
 refine A9 ?_
 (obtain ⟨b, o, e, rfl, hl, hat, hre, hgb⟩ := hsl.kidTm hkl (i := i) (by omega) (by omega); refine sP (B4 rfl rfl rfl (by omega)) rfl rfl ?_)
 refine sL (A2 rfl rfl (hat _) hl) rfl rfl ?_
 refine E6 ?_
 refine sP (O5 rfl rfl (by omega) (by omega)) rfl rfl ?_
 (have hih := ih ks[i] (List.getElem_mem (by omega)) (d - 1) G _ (by omega) hre; rw [show 41 - (d - 1) = 41 - d + 1 by omega] at hih; refine F8 rfl hih rfl rfl (fun h337 => ?_) (fun h337 => ?_))
 refine E0 ?_
 refine sP (J0 rfl rfl (by omega) (by omega)) rfl rfl ?_
 refine A3 ?_
 refine J6 (i + 1) ?_ ?_ ?_
 exact E2
 exact A4u
 omega
 refine J9 ?_
 exact A5K
 refine I0 ?_
 exact A8g
 refine aP 33 rfl (pNf rfl) rfl ?_
 refine aP 34 rfl (M5 rfl rfl) rfl ?_
 refine aP 35 rfl (O7 rfl rfl) rfl ?_
 refine J4 ?_
 exact A1y
def Q1 : Ty := .mk 2 []
def T3 : Ty := .mk 3 []
mutual
def N1 : Ty → Ty → Bool
 | .mk k ks, t => decide (k = t.k) && Y6 ks t.ks
def Y6 : List Ty → List Ty → Bool
 | [], [] => true
 | a :: xs, b :: ys => N1 a b && Y6 xs ys
 | _, _ => false
end
theorem A2I (k k' : Int) (ks ks' : List Ty) : N1 (.mk k ks) (.mk k' ks') = (decide (k = k') && Y6 ks ks') := by rw [N1]; rfl
mutual
theorem A0j : ∀ (a b : Ty), N1 a b = true ↔ a = b
 | .mk k ks, .mk k' ks' => by
  rw [A2I, Bool.and_eq_true, decide_eq_true_eq, A8h ks ks', Ty.mk.injEq]
theorem A8h : ∀ (xs ys : List Ty), Y6 xs ys = true ↔ xs = ys
 | [], [] => by simp [Y6]
 | [], b :: ys => by simp [Y6]
 | a :: xs, [] => by simp [Y6]
 | a :: xs, b :: ys => by
  rw [Y6, Bool.and_eq_true, A0j a b, A8h xs ys, List.cons.injEq]
end
theorem A5L (a : Ty) : N1 a a = true := (A0j a a).2 rfl
theorem A3x : ∀ (xs ys : List Ty), Y6 xs ys = true ↔ xs.length = ys.length ∧ ∀ i, (h : i < xs.length) → (h' : i < ys.length) → N1 xs[i] ys[i] = true
 | [], [] => by simp [Y6]
 | [], b :: ys => by simp [Y6]
 | a :: xs, [] => by simp [Y6]
 | a :: xs, b :: ys => by
  simp only [Y6, Bool.and_eq_true, A3x xs ys, List.length_cons]
  constructor
  ·rintro ⟨h1, h2, h3⟩
   refine ⟨by omega, fun i hi hi' => ?_⟩
   cases i with
   | zero => exact h1
   | succ i => exact h3 i (by simpa using hi) (by simpa using hi')
  ·rintro ⟨h1, h2⟩
   exact ⟨h2 0 (by simp) (by simp), by omega, fun i hi hi' => h2 (i + 1) (by simpa using hi) (by simpa using hi')⟩

abbrev Cx := List (ByteArray × Ty)
def U9 (cx : Cx) (nm : ByteArray) : Nat → Option Ty
 | 0 => none
 | n + 1 => match cx[n]? with
  | some b => if b.1 = nm then some b.2 else U9 cx nm n
  | none => U9 cx nm n
def O8 (cx : Cx) (nm : ByteArray) : Option Ty := U9 cx nm cx.length
theorem A3y {cx : Cx} {nm x : ByteArray} {n : Nat} {t : Ty} (h : cx[n]? = some (x, t)) (he : x = nm) : U9 cx nm (n + 1) = some t := by
 rw [U9, h]; simp only [he, if_true]
theorem A3z {cx : Cx} {nm x : ByteArray} {n : Nat} {t : Ty} (h : cx[n]? = some (x, t)) (he : ¬x = nm) : U9 cx nm (n + 1) = U9 cx nm n := by
 rw [U9, h]; simp only [he, if_false]

mutual
def U4 : Ty → Ty → Ty
 | .mk k ks, b => if k = 1 then b else if b.k = 1 then .mk k ks else .mk k (T4 ks b.ks)
def T4 : List Ty → List Ty → List Ty
 | a :: xs, b :: ys => U4 a b :: T4 xs ys
 | _, _ => []
end
theorem A2J (k k' : Int) (ks ks' : List Ty) : U4 (.mk k ks) (.mk k' ks') = if k = 1 then .mk k' ks' else if k' = 1 then .mk k ks else .mk k (T4 ks ks') := by rw [U4]; rfl
def R0 (kind : Int) (t : Ty) : Option (Ty × Ty) :=
 if t.k = kind then some (t.ks.getD 0 B7, t.ks.getD 1 B7) else if t.k = 1 then some (P9, P9) else none
def K8 (cx : Cx) (k : Int) (nm : ByteArray) (ty : Ty) (h : List Ty) : Option (List Ty × Ty) :=
 if k = 1 then (match O8 cx nm with | some t => some ([], t) | none => none)
 else if k = 2 then some ([], Q1)
 else if k = 3 ∨ k = 4 then some ([], T3)
 else if k = 5 then some ([], .mk 4 [ty, h.getD 0 B7])
 else if k = 6 then (match R0 4 (h.getD 0 B7) with | some (a, b) => if K1 (h.getD 1 B7) a = true then some ([.mk 4 [a, b], a], b) else none | none => none)
 else if k = 7 ∨ k = 8 then (if K1 (h.getD 0 B7) Q1 = true ∧ K1 (h.getD 1 B7) Q1 = true then some ([Q1, Q1], if k = 8 then T3 else Q1) else none)
 else if k = 9 then (if K1 (h.getD 0 B7) T3 = true ∧ K1 (h.getD 1 B7) (h.getD 2 B7) = true then some ([T3, U4 (h.getD 1 B7) (h.getD 2 B7), U4 (h.getD 1 B7) (h.getD 2 B7)], U4 (h.getD 1 B7) (h.getD 2 B7)) else none)
 else if k = 10 then some ([], .mk 5 [h.getD 0 B7, h.getD 1 B7])
 else if k = 13 then (if K1 (h.getD 0 B7) ty = true then some ([ty], ty) else none)
 else (match R0 5 (h.getD 0 B7) with | some (a, b) => some ([.mk 5 [a, b]], if k = 12 then b else a) | none => none)
def S4 (cx : Cx) (k : Int) (nm : ByteArray) (ty : Ty) (h : List Ty) : Option (List Ty × Ty) := match K8 cx k nm ty h with
 | some (w, t) => if E9 t = true then some (w, t) else none
 | none => none
def A0C : List Ty → List Ty → Bool
 | [], _ => true
 | a :: xs, b :: ys => N1 a b && A0C xs ys
 | _ :: _, [] => false
def K2 (cx : Cx) (k : Int) (nm : ByteArray) (ty : Ty) : Cx := if k = 5 then cx ++ [(nm, ty)] else cx
mutual
def H4 (cx : Cx) : Tm → Option Ty
 | .mk k nm num ty fr lb ks => match M1 (K2 cx k nm ty) ks with
  | none => none
  | some h => if k = 14 then (if N1 (h.getD 0 B7) fr = true then some ty else none)
   else match S4 cx k nm ty h with
    | none => none
    | some (w, t) => if A0C w h = true then some t else none
def M1 (cx : Cx) : List Tm → Option (List Ty)
 | [] => some []
 | t :: ts => match H4 cx t with
  | none => none
  | some u => match M1 cx ts with
   | none => none
   | some us => some (u :: us)
end
def B6C (e : Tm) : Option Ty := if M2 e = true then H4 [] e else none
theorem A8i {Q : Prop} (h : Q := by exact ⟨by omega, hle.trans hle1, N4.step hst hnd hle hle1 (by omega) hs' hnd'⟩) : Q := h
theorem A8j {Q : Prop} (h : Q := by (rw [List.take_length] at hst; obtain ⟨F2, hf1, hf2⟩ := Q3.fin hst hnd hle hle2 hsl2 hno2 hk; exact ⟨rfl, _, F2, rfl, hf1, hf2⟩)) : Q := h
theorem A2K : ∀ (t : Ty) (G : IM) (cells : List Value), t.small → B9 G t cells →
  Fn Tryz.prog 63 [.agg ⟨cells⟩] [] G (L8 fun G' v => ∃ cells' F, v = .agg ⟨cells'⟩ ∧ Q3 (C5 G' G) t cells' F ∧ F.Nodup) := by
 refine Ty.ind fun k ks ih G cells hts hr => ?_
 simp only [Ty.small] at hts
 obtain ⟨hsm, hks⟩ := hts
 obtain ⟨p, c, es, rfl, hk, hsl, hkl⟩ := hr.open
 simp only [Ty.k, Ty.ks] at hk hsl hkl ⊢
 have hn := hsl.le
 refine C3 Tryz.func63 rfl Tryz.ntmps63 Tryz.results63 rfl ?_
 intro w0
 refine A3 ?_
 refine sE (C8 rfl rfl) rfl (fun b3 => ?_)
 refine sE (A6 rfl) rfl (fun b4 => ?_)
 refine B2 ?_
 refine sE (A6 rfl) rfl (fun b12 => ?_)
 refine N0 ?_
 refine C1 ?_
 (refine S0 34 2 ?_; refine J8 (fun (x : Nat × Option Addr × Nat × List (List Value) × List Nat × IM) => ⟨[(12, .int .i64 x.1), (11, .int .i64 ks.length), (10, .slice p ks.length c), (3, .pointer (some ⟨b12, 0, none⟩)), (2, .pointer (some ⟨b4, 0, none⟩))], [.blk b12 [.int .i64 k, .slice x.2.1 x.1 x.2.2.1], .slc x.2.1 x.2.2.1 34 2 x.1 x.2.2.2.1.flatten, .blk b4 [.int .i64 0, .slice none 0 0]], x.2.2.2.2.2⟩) (fun x => x.1 ≤ ks.length ∧ C0 G x.2.2.2.2.2 ∧ N4 (C5 x.2.2.2.2.2 G) (ks.take x.1) x.2.2.2.1 x.2.2.2.2.1 ∧ x.2.2.2.2.1.Nodup) (fun x => ks.length - x.1) (0, none, 0, [], [], G) ?_ ?_ ?_)
 (simp only [I5]; exact L3 (by repeat (first | exact E1.nil | refine E1.cons rfl ?_)) (by repeat (first | exact A0.refl | exact A0.nil | refine A0.cons (by repeat (first | exact Pk.here | apply Pk.there)) ?_)))
 exact ⟨by simp, C0.refl _, by simp [N4], by simp⟩
 (rintro ⟨i, pn, cn, es', F, Gi⟩ ⟨hi, hle, hst, hnd⟩; simp only [] at hi hle hst hnd ⊢; replace hsl := hsl.mono hle; replace hkl := hkl.mono hle)
 refine A3 ?_
 refine sB (J1 rfl rfl) rfl rfl (fun h32 => ?_) (fun h32 => ?_)
 refine B2 ?_
 refine C1 ?_
 refine A3 ?_
 (obtain ⟨b, o, p2, c2, rfl, hat, hre, hgb⟩ := hsl.kidTy hkl (i := i) (by omega) (by omega); refine sP (B4 rfl rfl rfl (by omega)) rfl rfl ?_)
 refine sL (A2 rfl rfl (hat _) rfl) rfl rfl ?_
 refine sE (A6 rfl) rfl (fun b45 => ?_)
 refine B6 ?_
 refine D7 D8 rfl ?_
 refine I9 (i := 0) (l' := [tt,ff,ff,ff,ff,ff,ff,ff]) rfl D1 (B5 rfl) rfl (by kernel_rfl) rfl rfl ?_
 refine aL 1 rfl (C4 rfl rfl) rfl ?_
 refine aL 2 rfl (A4 rfl rfl) rfl ?_
 refine A1 3 ?_
 (refine H0 rfl rfl (ih _ (List.getElem_mem (by omega)) _ _ (Ty.smallL_mem hks _ (List.getElem_mem (by omega))) hre) rfl rfl rfl (fun v G1 hle1 hh => ?_); obtain ⟨cells', F', rfl, hs', hnd'⟩ := hh; obtain ⟨p3, c3, es3, rfl, _⟩ := hs'.R.open)
 refine A1 4 ?_
 (refine E3 rfl (C7 rfl rfl rfl (by omega) (by unfold maxLen; omega) rfl) rfl rfl ?_; rintro _ ⟨b56, rfl⟩)
 refine A1 5 ?_
 refine Q6 rfl rfl rfl rfl rfl rfl (fun _ _ => by repeat (first | exact Sw.here | apply Sw.there)) (M6 (by repeat first | exact mH | apply mT)) rfl (by simp [Value.oneCell']) (by unfold maxLen; omega) (by omega) rfl rfl (by repeat (first | exact A7.nil | apply A7.dep (by kernel_rfl) | apply A7.blk (by kernel_rfl) (by repeat (first | exact Pk.here | apply Pk.there)) (by repeat first | exact mH | apply mT))) (fun pn' cn' => ?_)
 refine aP 6 rfl (B5 rfl) rfl ?_
 refine A1 7 ?_
 refine Q8 rfl rfl rfl rfl rfl rfl rfl rfl (by kernel_rfl) (by repeat first | exact Sw.here | apply Sw.there) (by rfl) ?_
 refine B1 ?_
 refine sP (J0 rfl rfl (by omega) (by omega)) rfl rfl ?_
 refine A3 ?_
 refine J6 (i + 1, pn', cn', es' ++ [[.int .i64 ks[i].k, .slice p3 ks[i].ks.length c3]], F ++ F', G1) ?_ ?_ ?_
 (simp only [I5]; exact L3 (by repeat (first | exact E1.nil | refine E1.cons rfl ?_)) (by repeat (first | exact A0.refl | exact A0.nil | refine A0.cons (by repeat (first | exact Pk.here | apply Pk.there)) ?_)))
 exact A8i
 exact U8
 refine I0 ?_
 (refine F9 (by repeat (first | exact Pk.here | apply Pk.there)) (fun G2 hle2 hsl2 hno2 => ?_); obtain rfl : i = ks.length := by omega)
 refine tT ?_
 refine M7 (rC rfl (A4 rfl rfl)) ?_
 exact A8j
def B2G (t : Ty) (G : IM) : IM → Value → List A5 → Prop := L8 fun G' v => ∃ cells' F, v = .agg ⟨cells'⟩ ∧ Q3 (C5 G' G) t cells' F ∧ F.Nodup
def B6D (ks : List Ty) (G : IM) : IM → Value → List A5 → Prop := L8 fun G' v => ∃ p c F, v = .slice p ks.length c ∧ A7A (C5 G' G) ks p c F ∧ F.Nodup
def A5M (t : Tm) (G : IM) : IM → Value → List A5 → Prop := L8 fun G' v => ∃ cells' F, v = .agg ⟨cells'⟩ ∧ P8 (C5 G' G) t cells' F ∧ F.Nodup
def B6E (ks : List Tm) (G : IM) : IM → Value → List A5 → Prop := L8 fun G' v => ∃ p c F, v = .slice p ks.length c ∧ A18 (C5 G' G) ks p c F ∧ F.Nodup
theorem O9 : ∀ (t : Ty) (G : IM) (cells : List Value), t.small → B9 G t cells → Fn Tryz.prog 161 [.agg ⟨cells⟩] [] G (B2G t G) := by
 refine Ty.ind fun k ks ih G cells hts hr => ?_
 simp only [Ty.small] at hts
 obtain ⟨hsm, hks⟩ := hts
 obtain ⟨p, c, es, rfl, hk, hsl, hkl⟩ := hr.open
 simp only [Ty.k, Ty.ks] at hk hsl hkl ⊢
 have hn := hsl.le
 refine C3 Tryz.func161 rfl Tryz.ntmps161 Tryz.results161 rfl ?_
 intro w0
 refine A3 ?_
 refine sE (C8 rfl rfl) rfl (fun b3 => ?_)
 refine sE (A6 rfl) rfl (fun b4 => ?_)
 refine B2 ?_
 refine sE (A6 rfl) rfl (fun b12 => ?_)
 refine E0 ?_
 refine C1 ?_
 (refine S0 34 2 ?_; refine J8 (fun (x : Nat × Option Addr × Nat × List (List Value) × List Nat × IM) => ⟨[(4, .int .i64 x.1), (3, .pointer (some ⟨b12, 0, none⟩)), (1, .pointer (some ⟨b3, 0, none⟩)), (2, .pointer (some ⟨b4, 0, none⟩))], [.blk b12 [.int .i64 k, .slice x.2.1 x.1 x.2.2.1], .slc x.2.1 x.2.2.1 34 2 x.1 x.2.2.2.1.flatten, .blk b4 [.int .i64 0, .slice none 0 0], .blk b3 [.int .i64 k, .slice p ks.length c]], x.2.2.2.2.2⟩) (fun x => x.1 ≤ ks.length ∧ C0 G x.2.2.2.2.2 ∧ N4 (C5 x.2.2.2.2.2 G) (ks.take x.1) x.2.2.2.1 x.2.2.2.2.1 ∧ x.2.2.2.2.1.Nodup) (fun x => ks.length - x.1) (0, none, 0, [], [], G) ?_ ?_ ?_)
 (simp only [I5]; exact E2)
 exact ⟨by simp, C0.refl _, by simp [N4], by simp⟩
 (rintro ⟨i, pn, cn, es', F, Gi⟩ ⟨hi, hle, hst, hnd⟩; simp only [] at hi hle hst hnd ⊢; replace hsl := hsl.mono hle; replace hkl := hkl.mono hle)
 refine B2 ?_
 refine sB (J1 rfl rfl) rfl rfl (fun h34 => ?_) (fun h34 => ?_)
 refine A8 ?_
 refine C1 ?_
 (obtain ⟨b, o, p2, c2, rfl, hat, hre, hgb⟩ := hsl.kidTy hkl (i := i) (by omega) (by omega); refine D7 D8 rfl ?_)
 refine I9 (i := 0) (l' := [tt,ff,ff,ff,ff,ff,ff,ff,ff,ff,ff,ff]) rfl D1 (B5 rfl) rfl (by kernel_rfl) rfl rfl ?_
 refine aL 1 rfl (C4 rfl rfl) rfl ?_
 refine aP 2 rfl (B5 rfl) rfl ?_
 refine aL 3 rfl (C4 rfl rfl) rfl ?_
 refine aP 4 rfl (qM rfl) rfl ?_
 refine aP 5 rfl (B4 rfl rfl rfl (by omega)) rfl ?_
 refine aL 6 rfl (A2 rfl rfl (hat _) rfl) rfl ?_
 refine A1 7 ?_
 (refine H0 rfl rfl (ih ks[i] (List.getElem_mem (by omega)) _ _ (Ty.smallL_mem hks _ (List.getElem_mem (by omega))) hre) rfl rfl rfl (fun v G1 hle1 hh => ?_); obtain ⟨cells', F', rfl, hs', hnd'⟩ := hh; obtain ⟨p3, c3, es3, rfl, _⟩ := hs'.R.open)
 refine A1 8 ?_
 (refine E3 rfl (C7 rfl rfl rfl (by omega) (by unfold maxLen; omega) rfl) rfl rfl ?_; rintro _ ⟨b53, rfl⟩)
 refine A1 9 ?_
 refine Q6 rfl rfl rfl rfl rfl rfl (fun _ _ => by repeat (first | exact Sw.here | apply Sw.there)) (M6 (by repeat first | exact mH | apply mT)) rfl (by simp [Value.oneCell']) (by unfold maxLen; omega) (by omega) rfl rfl (by repeat (first | exact A7.nil | apply A7.dep (by decide +kernel) | apply A7.blk (by decide +kernel) (by repeat (first | exact Pk.here | apply Pk.there)) (by repeat first | exact mH | apply mT))) (fun pn' cn' => ?_)
 refine aP 10 rfl (B5 rfl) rfl ?_
 refine A1 11 ?_
 refine Q8 rfl rfl rfl rfl rfl rfl rfl rfl (by kernel_rfl) (by repeat first | exact Sw.here | apply Sw.there) (by rfl) ?_
 refine A9 ?_
 refine sP (J0 rfl rfl (by omega) (by omega)) rfl rfl ?_
 refine A3 ?_
 refine J6 (i + 1, pn', cn', es' ++ [[.int .i64 ks[i].k, .slice p3 ks[i].ks.length c3]], F ++ F', G1) ?_ ?_ ?_
 (simp only [I5]; exact E2)
 exact A8i
 exact U8
 refine J3 ?_
 (refine F9 (by repeat (first | exact Pk.here | apply Pk.there)) (fun G2 hle2 hsl2 hno2 => ?_); obtain rfl : i = ks.length := (by omega))
 refine tT ?_
 refine M7 (rC rfl (A4 rfl rfl)) ?_
 exact A8j
theorem A8k {Q : Prop} (h : Q := by exact ⟨by omega, hle.trans hle3, N5.step hst hnd hle hle3 (by omega) hs' hnd'⟩) : Q := h
theorem A2L : ∀ (t : Tm) (G : IM) (cells : List Value), t.small → B0 G t cells → Fn Tryz.prog 120 [.agg ⟨cells⟩] [] G (A5M t G) := by
 refine Tm.ind fun k nm num ty fr lb ks ih G cells hts hr => ?_
 have hone := hr.one
 simp only [Tm.small] at hts
 obtain ⟨hnm, hty', hfr', hsm, hks⟩ := hts
 obtain ⟨tk, tks⟩ := ty
 obtain ⟨fk, fks⟩ := fr
 obtain ⟨pt, ct, pf, cf, p, c, es, rfl, hk, hnum, hlb, hty, hfr, hsl, hkl⟩ := hr.open9
 have hn := hsl.le
 have hT := O9 (.mk tk tks) G _ hty' hty
 refine C3 Tryz.func120 rfl Tryz.ntmps120 Tryz.results120 rfl ?_
 intro w0
 refine A3 ?_
 refine sE (C8 rfl rfl) rfl (fun b3 => ?_)
 refine sE (A6 rfl) rfl (fun b4 => ?_)
 refine A9 ?_
 refine sE (A6 rfl) rfl (fun b10 => ?_)
 refine B2 ?_
 (refine E7 rfl hT rfl rfl (fun v G1 hle1 hh => ?_); obtain ⟨cs1, F1, rfl, hs1, hn1⟩ := hh; obtain ⟨p1, c1, rfl, _⟩ := hs1.open; have hF := O9 (.mk fk fks) G1 _ hfr' (hfr.mono hle1))
 refine D4 ?_
 (refine E7 rfl hF rfl rfl (fun v G2 hle2 hh => ?_); obtain ⟨cs2, F2, rfl, hs2, hn2⟩ := hh; obtain ⟨p2, c2, rfl, _⟩ := hs2.open; replace hsl := hsl.mono (hle1.trans hle2); replace hkl := hkl.mono (hle1.trans hle2))
 refine J9 ?_
 refine C1 ?_
 (refine S0 37 9 ?_; refine J8 (fun (x : Nat × Option Addr × Nat × List (List Value) × List Nat × IM) => ⟨[(4, .int .i64 x.1), (3, .pointer (some ⟨b10, 0, none⟩)), (1, .pointer (some ⟨b3, 0, none⟩)), (2, .pointer (some ⟨b4, 0, none⟩))], [.blk b10 [.int .i64 k, .string nm, .int .i64 num, .int .i64 tk, .slice p1 tks.length c1, .int .i64 fk, .slice p2 fks.length c2, .int .i64 lb, .slice x.2.1 x.1 x.2.2.1], .slc x.2.1 x.2.2.1 37 9 x.1 x.2.2.2.1.flatten, .blk b4 [.int .i64 0, .string ⟨⟨[]⟩⟩, .int .i64 0, .int .i64 0, .slice none 0 0, .int .i64 0, .slice none 0 0, .int .i64 0, .slice none 0 0], .blk b3 [.int .i64 k, .string nm, .int .i64 num, .int .i64 tk, .slice pt tks.length ct, .int .i64 fk, .slice pf fks.length cf, .int .i64 lb, .slice p ks.length c]], x.2.2.2.2.2⟩) (fun x => x.1 ≤ ks.length ∧ C0 G2 x.2.2.2.2.2 ∧ N5 (C5 x.2.2.2.2.2 G2) (ks.take x.1) x.2.2.2.1 x.2.2.2.2.1 ∧ x.2.2.2.2.1.Nodup) (fun x => ks.length - x.1) (0, none, 0, [], [], G2) ?_ ?_ ?_)
 (simp only [I5]; exact E2)
 exact ⟨by simp, C0.refl _, by simp [N5], by simp⟩
 (rintro ⟨i, pn, cn, es', F, Gi⟩ ⟨hi, hle, hst, hnd⟩; simp only [] at hi hle hst hnd ⊢; replace hsl := hsl.mono hle; replace hkl := hkl.mono hle)
 refine B2 ?_
 refine sB (J1 rfl rfl) rfl rfl (fun h56 => ?_) (fun h56 => ?_)
 refine A8 ?_
 refine C1 ?_
 (obtain ⟨b, o, e, rfl, hl, hat, hre, hgb⟩ := hsl.kidTm hkl (i := i) (by omega) (by omega); have hone := hre.one; refine D7 D8 rfl ?_)
 refine I9 (i := 0) (l' := [tt,ff,ff,ff,ff,ff,ff,ff,ff,ff,ff,ff]) rfl D1 (B5 rfl) rfl (by kernel_rfl) rfl rfl ?_
 refine aL 1 rfl (C4 rfl rfl) rfl ?_
 refine aP 2 rfl (B5 rfl) rfl ?_
 refine aL 3 rfl (C4 rfl rfl) rfl ?_
 refine aP 4 rfl (qM rfl) rfl ?_
 refine aP 5 rfl (B4 rfl rfl rfl (by omega)) rfl ?_
 refine aL 6 rfl (A2 rfl rfl (hat _) hl) rfl ?_
 refine A1 7 ?_
 (refine H0 rfl rfl (ih ks[i] (List.getElem_mem (by omega)) _ _ (Tm.smallL_mem hks _ (List.getElem_mem (by omega))) hre) rfl rfl rfl (fun v G3 hle3 hh => ?_); obtain ⟨cells', F', rfl, hs', hnd'⟩ := hh; obtain ⟨qt, dt, et', qf, df, ef', q3, d3, es3, rfl, _⟩ := hs'.R.open)
 refine A1 8 ?_
 (refine E3 rfl (C7 rfl rfl rfl (by omega) (by unfold maxLen; omega) rfl) rfl rfl ?_; rintro _ ⟨b75, rfl⟩)
 refine A1 9 ?_
 refine Q6 rfl rfl rfl rfl rfl rfl (fun _ _ => by repeat (first | exact Sw.here | apply Sw.there)) (M6 (by repeat first | exact mH | apply mT)) rfl (by simp [Value.oneCell']) (by unfold maxLen; omega) (by omega) rfl rfl (by repeat (first | exact A7.nil | apply A7.dep (by decide +kernel) | apply A7.blk (by decide +kernel) (by repeat (first | exact Pk.here | apply Pk.there)) (by repeat first | exact mH | apply mT))) (fun pn' cn' => ?_)
 refine aP 10 rfl (B5 rfl) rfl ?_
 refine A1 11 ?_
 refine Q8 rfl rfl rfl rfl rfl rfl rfl rfl (by kernel_rfl) (by repeat first | exact Sw.here | apply Sw.there) (by rfl) ?_
 refine A9 ?_
 refine sP (J0 rfl rfl (by omega) (by omega)) rfl rfl ?_
 refine A3 ?_
 refine J6 (i + 1, pn', cn', es' ++ [[.int .i64 ks[i].k, .string ks[i].nm, .int .i64 ks[i].num, .int .i64 ks[i].ty.k, .slice qt ks[i].ty.ks.length dt, .int .i64 ks[i].fr.k, .slice qf ks[i].fr.ks.length df, .int .i64 ks[i].lb, .slice q3 ks[i].ks.length d3]], F ++ F', G3) ?_ ?_ ?_
 (simp only [I5]; exact E2)
 exact A8k
 exact U8
 refine J3 ?_
 (refine F9 (by repeat (first | exact Pk.here | apply Pk.there)) (fun G4 hle4 hsl4 hno4 => ?_); obtain rfl : i = ks.length := (by omega))
 refine tT ?_
 refine M7 (rC rfl (A4 rfl rfl)) ?_
 (rw [List.take_length] at hst; obtain ⟨F3, hf1, hf2⟩ := A18.fin hst hnd hle hle4 hsl4 hno4; obtain ⟨F5, hg1, hg2⟩ := P8.mk3 (nm := nm) hk hnum hlb hle1 hle2 (hle.trans hle4) hs1 hn1 hs2 hn2 hf1 hf2; exact ⟨rfl, _, F5, rfl, hg1, hg2⟩)
mutual
def A2c (g : Tm → Tm) : Tm → Tm
 | .mk k nm num ty fr lb ks => g (.mk k nm num ty fr lb (A0W g ks))
def A0W (g : Tm → Tm) : List Tm → List Tm
 | [] => []
 | t :: ts => A2c g t :: A0W g ts
end
theorem A5N (g : Tm → Tm) : ∀ ks, A0W g ks = ks.map (A2c g)
 | [] => rfl
 | t :: ts => by rw [A0W, A5N g ts, List.map_cons]
mutual
theorem A8l : ∀ t, A2c id t = t
 | .mk k nm num ty fr lb ks => by rw [A2c, A8m ks]; rfl
theorem A8m : ∀ ks, A0W id ks = ks
 | [] => rfl
 | t :: ts => by rw [A0W, A8l t, A8m ts]
end
theorem P8.mk3k {G G1 G2 G3 : IM} {k : Int} {nm : ByteArray} {num : Int} {ty fr : Ty} {lb : Int} {ks : List Tm} {tc fc : List Value} {p : Option Addr} {c : Nat} {F1 F2 F3 : List Nat} (hk : E8 k) (hnum : E8 num) (hlb : E8 lb)
  (hl1 : C0 G G1) (hl2 : C0 G1 G2) (hl3 : C0 G2 G3) (h3 : A18 (C5 G1 G) ks p c F3) (n3 : F3.Nodup) (h1 : Q3 (C5 G2 G1) ty tc F1) (n1 : F1.Nodup) (h2 : Q3 (C5 G3 G2) fr fc F2) (n2 : F2.Nodup) :
  ∃ F, P8 (C5 G3 G) (.mk k nm num ty fr lb ks) ([.int .i64 k, .string nm, .int .i64 num] ++ tc ++ fc ++ [.int .i64 lb, .slice p ks.length c]) F ∧ F.Nodup := by
 obtain ⟨es, Fs, e1, e2, rfl, e4⟩ := h3
 have i3 : ∀ b ∈ I2 p ++ Fs, C5 G1 G b ≠ none := by
  intro b hb
  rcases List.mem_append.1 hb with hb | hb
  ·exact e4 b hb
  ·exact e2.inG b hb
 have a1 : C0 (C5 G1 G) (C5 G3 G) := C5.mono (hl2.trans hl3)
 have a2 : C0 (C5 G2 G1) (C5 G3 G) := fun b l h => C5.mono hl3 b l (C5.anti hl1 b l h)
 have a3 : C0 (C5 G3 G2) (C5 G3 G) := C5.anti (hl1.trans hl2)
 refine ⟨F1 ++ (F2 ++ (I2 p ++ Fs)), ?_, ?_⟩
 ·simp only [P8]
  exact ⟨tc, fc, p, c, es, F1, F2, Fs, rfl, hk, hnum, hlb, h1.mono a2, h2.mono a3, e1.mono a1, e2.mono a1, rfl, A2E a1 e4⟩
 ·rw [List.nodup_append, List.nodup_append]
  refine ⟨n1, ⟨n2, n3, ?_⟩, ?_⟩
  ·rintro x hx y hy rfl
   exact A19 (A2E (C5.mono hl2) i3) h2.inG x hy x hx rfl
  ·rintro x hx y hy rfl
   rcases List.mem_append.1 hy with hy | hy
   ·exact A19 (A2E (C5.anti hl1) h1.inG) h2.inG x hx x hy rfl
   ·exact A19 i3 h1.inG x hy x hx rfl
mutual
def mOk (Q : Tm → Prop) (g : Tm → Tm) : Tm → Prop
 | .mk k nm num ty fr lb ks => A2d Q g ks ∧ Q (.mk k nm num ty fr lb (A0W g ks))
def A2d (Q : Tm → Prop) (g : Tm → Tm) : List Tm → Prop
 | [] => True
 | t :: ts => mOk Q g t ∧ A2d Q g ts
end
theorem A8n {Q : Tm → Prop} {g : Tm → Tm} : ∀ {ts : List Tm}, A2d Q g ts → ∀ t ∈ ts, mOk Q g t
 | [], _, t, h => by simp at h
 | t' :: ts, h, t, ht => by
  simp only [A2d] at h
  rcases List.mem_cons.1 ht with rfl | ht
  ·exact h.1
  ·exact A8n h.2 t ht
mutual
theorem A8o (g : Tm → Tm) : ∀ t, mOk (fun _ => True) g t
 | .mk k nm num ty fr lb ks => by rw [mOk]; exact ⟨A8p g ks, trivial⟩
theorem A8p (g : Tm → Tm) : ∀ ts, A2d (fun _ => True) g ts
 | [] => by rw [A2d]; trivial
 | t :: ts => by rw [A2d]; exact ⟨A8o g t, A8p g ts⟩
end
def A8q (g : Tm → Tm) (Q : Tm → Prop) (fid : FuncId) (us cs : List Value) : Prop := ∀ (t : Tm) (G0 G1 : IM) (cells : List Value) (F : List Nat), Q t → C0 G0 G1 → P8 (C5 G1 G0) t cells F → F.Nodup →
 Fn Tryz.prog fid (us ++ [.agg ⟨cells⟩] ++ cs) [] G1 (L8 fun G2 v => ∃ cells' F', v = .agg ⟨cells'⟩ ∧ P8 (C5 G2 G0) (g t) cells' F' ∧ F'.Nodup)
theorem B2H (g : Tm → Tm) (Q : Tm → Prop) (fid : FuncId) [B8 Tryz.prog fid] (us cs : List Value) (hg : A8q g Q fid us cs) : ∀ (t : Tm) (G : IM) (cells : List Value), mOk Q g t → t.small → B0 G t cells →
  Fn Tryz.prog 75 [.agg ⟨cells⟩, .func (.func fid) ⟨us⟩ ⟨cs⟩] [] G (A5M (A2c g t) G) := by
 refine Tm.ind fun k nm num ty fr lb ks ih G cells hmo hts hr => ?_
 have hone := hr.one
 simp only [mOk] at hmo
 obtain ⟨hmoL, hQ⟩ := hmo
 simp only [Tm.small] at hts
 obtain ⟨hnm, hty', hfr', hsm, hks⟩ := hts
 obtain ⟨tk, tks⟩ := ty
 obtain ⟨fk, fks⟩ := fr
 obtain ⟨pt, ct, pf, cf, p, c, es, rfl, hk, hnum, hlb, hty, hfr, hsl, hkl⟩ := hr.open9
 have hn := hsl.le
 have hlen : (A0W g ks).length = ks.length := by rw [A5N, List.length_map]
 have hget : ∀ i (h : i < ks.length) (h' : i < (A0W g ks).length), (A0W g ks)[i] = A2c g ks[i] := fun i h h' => by simp [A5N]
 refine C3 Tryz.func75 rfl Tryz.ntmps75 Tryz.results75 rfl ?_
 intro w0
 refine A3 ?_
 refine sE (C8 rfl rfl) rfl (fun b3 => ?_)
 refine sE (A6 rfl) rfl (fun b4 => ?_)
 refine J9 ?_
 refine C1 ?_
 (refine S0 37 9 ?_; refine J8 (fun (x : Nat × Option Addr × Nat × List (List Value) × List Nat × IM) => ⟨[(11, .int .i64 x.1), (10, .int .i64 ks.length), (9, .slice p ks.length c), (5, .slice x.2.1 x.1 x.2.2.1), (2, .pointer (some ⟨b3, 0, none⟩)), (1, .func (.func fid) ⟨us⟩ ⟨cs⟩), (4, .pointer (some ⟨b4, 0, none⟩))], [.slc x.2.1 x.2.2.1 37 9 x.1 x.2.2.2.1.flatten, .blk b4 [.int .i64 0, .string ⟨⟨[]⟩⟩, .int .i64 0, .int .i64 0, .slice none 0 0, .int .i64 0, .slice none 0 0, .int .i64 0, .slice none 0 0], .blk b3 [.int .i64 k, .string nm, .int .i64 num, .int .i64 tk, .slice pt tks.length ct, .int .i64 fk, .slice pf fks.length cf, .int .i64 lb, .slice p ks.length c]], x.2.2.2.2.2⟩) (fun x => x.1 ≤ ks.length ∧ C0 G x.2.2.2.2.2 ∧ N5 (C5 x.2.2.2.2.2 G) ((A0W g ks).take x.1) x.2.2.2.1 x.2.2.2.2.1 ∧ x.2.2.2.2.1.Nodup) (fun x => ks.length - x.1) (0, none, 0, [], [], G) ?_ ?_ ?_)
 (simp only [I5]; exact E2)
 exact ⟨by simp, C0.refl _, by simp [N5], by simp⟩
 (rintro ⟨i, pn, cn, es', F, Gi⟩ ⟨hi, hle, hst, hnd⟩; simp only [] at hi hle hst hnd ⊢; replace hsl := hsl.mono hle; replace hkl := hkl.mono hle)
 refine A3 ?_
 refine sB (J1 rfl rfl) rfl rfl (fun h28 => ?_) (fun h28 => ?_)
 refine B2 ?_
 refine C1 ?_
 refine A3 ?_
 (obtain ⟨b, o, e, rfl, hl, hat, hre, hgb⟩ := hsl.kidTm hkl (i := i) (by omega) (by omega); have hone := hre.one; refine sP (B4 rfl rfl rfl (by omega)) rfl rfl ?_)
 refine sL (A2 rfl rfl (hat _) hl) rfl rfl ?_
 refine sE (A6 rfl) rfl (fun b41 => ?_)
 refine sS rfl rfl rfl hl hone rfl ?_ (hu := by exact D6 hl.symm)
 refine B1 ?_
 refine sL (A2 rfl rfl (B3 (by repeat first | exact mH | apply mT)) (by assumption)) rfl rfl ?_
 refine E6 ?_
 (refine E7 rfl (ih ks[i] (List.getElem_mem (by omega)) _ _ (A8n hmoL _ (List.getElem_mem (by omega))) (Tm.smallL_mem hks _ (List.getElem_mem (by omega))) hre) rfl rfl (fun v G3 hle3 hh => ?_); obtain ⟨cells', F', rfl, hs', hnd'⟩ := hh; rw [← hget i (by omega) (by omega)] at hs'; have hlc := hs'.R.len; have hoc := hs'.R.one)
 (obtain ⟨v1, v2, v3, v4, v5, v6, v7, v8, v9, rfl⟩ : ∃ v1 v2 v3 v4 v5 v6 v7 v8 v9, cells' = [v1, v2, v3, v4, v5, v6, v7, v8, v9] := by obtain ⟨_, _, _, _, _, _, _, _, _, rfl, _⟩ := hs'.R.open; exact ⟨_, _, _, _, _, _, _, _, _, rfl⟩)
 (refine I7 (C7 rfl rfl rfl (by omega) (by unfold maxLen; omega) rfl) rfl ?_; rintro _ ⟨b51, rfl⟩)
 refine A0z rfl rfl rfl rfl rfl (fun _ _ => by repeat (first | exact Sw.here | apply Sw.there)) (M6 (by repeat first | exact mH | apply mT)) rfl (fun u hu => List.all_eq_true.1 hoc u hu) (by unfold maxLen; omega) (by omega) rfl (fun pn' cn' => ?_)
 refine A9 ?_
 refine sP (J0 rfl rfl (by omega) (by omega)) rfl rfl ?_
 refine A3 ?_
 refine J6 (i + 1, pn', cn', es' ++ [[v1, v2, v3, v4, v5, v6, v7, v8, v9]], F ++ F', G3) ?_ ?_ ?_
 (simp only [I5]; exact E2)
 exact A8k
 exact U8
 refine J2 ?_
 (obtain rfl : i = ks.length := (by omega); refine A1I (by repeat (first | exact Pk.here | apply Pk.there)) (fun G2 hle2 hsl2 hno2 => ?_); rw [← hlen, List.take_length] at hst; rw [← hlen] at hsl2; obtain ⟨F3, hf1, hf2⟩ := A18.fin hst hnd hle hle2 hsl2 hno2; have hleG := hle.trans hle2; have hT := A2K (.mk tk tks) G2 _ hty' (hty.mono hleG); refine D7 D8 rfl ?_)
 refine I9 (i := 0) (l' := [tt,ff,ff,ff,ff,ff,ff,ff,ff,ff,ff,ff,ff]) rfl D1 (B5 rfl) rfl (by kernel_rfl) rfl rfl ?_
 refine aL 1 rfl (A4 rfl rfl) rfl ?_
 refine aP 3 rfl (B5 rfl) rfl ?_
 refine aL 4 rfl (A4 rfl rfl) rfl ?_
 refine aP 6 rfl (qM rfl) rfl ?_
 refine A1 2 ?_
 (refine H0 rfl rfl hT rfl rfl rfl (fun v G4 hle4 hh => ?_); obtain ⟨cs1, F1, rfl, hs1, hn1⟩ := hh; obtain ⟨p1, c1, rfl, _⟩ := hs1.open; have hF := A2K (.mk fk fks) G4 _ hfr' (hfr.mono (hleG.trans hle4)))
 refine aP 7 rfl (B5 rfl) rfl ?_
 refine A1 5 ?_
 (refine H0 rfl rfl hF rfl rfl rfl (fun v G5 hle5 hh => ?_); obtain ⟨cs2, F2, rfl, hs2, hn2⟩ := hh; obtain ⟨p2, c2, rfl, _⟩ := hs2.open; obtain ⟨F6, hg1, hg2⟩ := P8.mk3k (nm := nm) hk hnum hlb hleG hle4 hle5 hf1 hf2 hs1 hn1 hs2 hn2; rw [hlen] at hg1; have hch := hg _ G G5 _ F6 hQ (hleG.trans (hle4.trans hle5)) hg1 hg2)
 refine A1 8 ?_
 refine Q8 rfl rfl rfl rfl rfl rfl rfl rfl (by kernel_rfl) (by repeat first | exact Sw.here | apply Sw.there) (by rfl) ?_
 refine aP 9 rfl (B5 rfl) rfl ?_
 refine A1 10 ?_
 refine Q8 rfl rfl rfl rfl rfl rfl rfl rfl (by kernel_rfl) (by repeat first | exact Sw.here | apply Sw.there) (by rfl) ?_
 refine aP 11 rfl (B5 rfl) rfl ?_
 refine A1 12 ?_
 refine Q8 rfl rfl rfl rfl rfl rfl rfl rfl (by kernel_rfl) (by repeat first | exact Sw.here | apply Sw.there) (by rfl) ?_
 refine A8 ?_
 (refine I7 (A5f rfl rfl hch (List.Perm.refl _) rfl) rfl ?_; rintro _ ⟨v, G7, outs, rfl, hle7, rfl, cells7, F7, rfl, hs7, hn7⟩; have hl7 := hs7.R.len; have ho7 := hs7.R.one)
 refine sS rfl rfl rfl hl7 ho7 rfl ?_ (hu := by exact D6 hl7.symm)
 refine B6 ?_
 refine M7 (rC rfl (A2 rfl rfl (B3 (by repeat first | exact mH | apply mT)) hl7)) ?_
 (rw [A2c]; exact ⟨rfl, cells7, F7, rfl, hs7, hn7⟩)
theorem B2I (G : IM) (cells : List Value) (hl : cells.length = 9) (hone : cells.all (·.oneCell') = true) : Fn Tryz.prog 112 [.agg ⟨cells⟩] [] G (I3 (.agg ⟨cells⟩) G) := by
 refine C3 Tryz.func112 rfl Tryz.ntmps112 Tryz.results112 rfl ?_
 intro w0
 refine A3 ?_
 refine sE (C8 rfl rfl) rfl (fun b3 => ?_)
 refine sE (A6 rfl) rfl (fun b4 => ?_)
 refine B1 ?_
 refine sL (A2 rfl rfl (B3 (by repeat first | exact mH | apply mT)) (by assumption)) rfl rfl ?_
 refine sS rfl rfl rfl hl hone rfl ?_ (hu := by exact D6 hl.symm)
 refine B6 ?_
 refine M7 (rC rfl (A2 rfl rfl (B3 (by repeat first | exact mH | apply mT)) hl)) ?_
 exact ⟨rfl, rfl, rfl⟩
theorem B2J : A8q id (fun _ => True) 112 [] [] := fun t G0 G1 cells F _ hle hs hn =>
 (B2I G1 cells hs.R.len hs.R.one).mono fun G' v outs _ ⟨h1, h2, h3⟩ => ⟨h3, cells, F, h2, by rw [h1]; exact hs, hn⟩
theorem A5O (t : Tm) (G : IM) (cells : List Value) (hts : t.small) (hr : B0 G t cells) : Fn Tryz.prog 62 [.agg ⟨cells⟩] [] G (A5M t G) := by
 have hl := hr.len
 have hone := hr.one
 have hM := B2H id (fun _ => True) 112 [] [] B2J t G cells (A8o _ t) hts hr
 rw [A8l] at hM
 refine C3 Tryz.func62 rfl Tryz.ntmps62 Tryz.results62 rfl ?_
 intro w0
 refine A3 ?_
 refine sE (C8 rfl rfl) rfl (fun b3 => ?_)
 refine sE (A6 rfl) rfl (fun b4 => ?_)
 refine B1 ?_
 refine sL (A2 rfl rfl (B3 (by repeat first | exact mH | apply mT)) (by assumption)) rfl rfl ?_
 (refine E7 rfl hM rfl rfl (fun v G3 hle3 hh => ?_); obtain ⟨cells', F', rfl, hs', hnd'⟩ := hh; have hl' := hs'.R.len; have ho' := hs'.R.one)
 refine sS rfl rfl rfl hl' ho' rfl ?_ (hu := by exact D6 hl'.symm)
 refine B6 ?_
 refine M7 (rC rfl (A2 rfl rfl (B3 (by repeat first | exact mH | apply mT)) hl')) ?_
 exact ⟨rfl, cells', F', rfl, hs', hnd'⟩
theorem B2K {D N : Int} {k : Int} {nm : ByteArray} {num : Int} {ty fr : Ty} {lb : Int} {ks : List Tm} {d : Int} (h : N7 D N (.mk k nm num ty fr lb ks) d = true) : d ≤ D ∧ ∀ i, (hi : i < ks.length) → N7 D N ks[i] (d + 1) = true := by
 rw [N7] at h
 simp only [Bool.and_eq_true, decide_eq_true_eq] at h
 exact ⟨h.1.1.1, (A09 D N ks _).1 h.2⟩
mutual
theorem A5P (M D N : Int) : ∀ (t : Tm) (deep c : Int), c ≤ M → ((R4 M D N t deep c).1 = true ↔ N7 D N t deep = true ∧ c + D3 t ≤ M)
 | .mk k nm num ty fr lb ks, deep, c, hc => by
  rw [R4, D3]
  by_cases h : c + 1 > M ∨ deep > D ∨ k = N ∨ U2 k nm num ty fr lb ks.length = false
  ·rw [if_pos h]
   constructor
   ·intro h; cases h
   ·rintro ⟨h1, h2⟩
    rcases h with h | h
    ·omega
    ·rw [A8e h] at h1; cases h1
  ·rw [if_neg h]
   have hn : U2 k nm num ty fr lb ks.length = true := by
    cases hx : U2 k nm num ty fr lb ks.length with
    | true => rfl
    | false => exact absurd (Or.inr (Or.inr (Or.inr hx))) h
   rw [A2b (by omega) (by omega) hn, A8r M D N ks (deep + 1) (c + 1) (by omega)]
   constructor
   ·rintro ⟨a, b⟩; exact ⟨a, by omega⟩
   ·rintro ⟨a, b⟩; exact ⟨a, by omega⟩
theorem A8r (M D N : Int) : ∀ (ts : List Tm) (deep c : Int), c ≤ M → ((S7 M D N ts deep c).1 = true ↔ N8 D N ts deep = true ∧ c + E4 ts ≤ M)
 | [], deep, c, hc => by simp [S7, N8, E4]; omega
 | t :: ts, deep, c, hc => by
  have h0 := A5P M D N t deep c hc
  rw [S7, N8, E4, Bool.and_eq_true]
  by_cases h : (R4 M D N t deep c).1 = true
  ·rw [if_pos h, A5w M D N t deep c h, A8r M D N ts deep _ (h0.1 h).2]
   have := h0.1 h
   constructor
   ·rintro ⟨a, b⟩; exact ⟨⟨this.1, a⟩, by omega⟩
   ·rintro ⟨⟨_, a⟩, b⟩; exact ⟨a, by omega⟩
  ·rw [if_neg h]
   constructor
   ·intro h'; cases h'
   ·rintro ⟨⟨a, _⟩, b⟩
    exact absurd (h0.2 ⟨a, by omega⟩) h
end
theorem A5Q (t : Tm) : M2 t = true ↔ N7 40 13 t 1 = true ∧ D3 t ≤ 200 := by
 have := A5P 200 40 13 t 1 0 (by omega)
 rw [M2, this]
 constructor
 ·rintro ⟨a, b⟩; exact ⟨a, by omega⟩
 ·rintro ⟨a, b⟩; exact ⟨a, by omega⟩
theorem A8s (D N : Int) : ∀ (t : Tm) (d : Int) (G : IM) (cells : List Value), d ≤ 40 → N7 D N t (D + 1 - d) = true → D3 t ≤ 4294967296 → B0 G t cells →
  Fn Tryz.prog 186 [.agg ⟨cells⟩, .int .i64 d] [] G (I3 (.int .i64 (D3 t : Int)) G) := by
 refine Tm.ind fun k nm num ty fr lb ks ih d G cells hd hv hcnt hr => ?_
 have hone := hr.one
 obtain ⟨hv1, hv2⟩ := B2K hv
 obtain ⟨tk, tks⟩ := ty
 obtain ⟨fk, fks⟩ := fr
 obtain ⟨pt, ct, pf, cf, p, c, es, rfl, hk, hnum, hlb, hty, hfr, hsl, hkl⟩ := hr.open9
 have hn := hsl.le
 clear hr
 rw [D3] at hcnt ⊢
 refine C3 Tryz.func186 rfl Tryz.ntmps186 Tryz.results186 rfl ?_
 intro w0
 refine A3 ?_
 refine sE (C8 rfl rfl) rfl (fun b3 => ?_)
 refine J3 ?_
 refine C1 ?_
 (refine J8 (fun (i : Nat) => ⟨[(6, .int .i64 i), (5, .int .i64 ((E4 (ks.take i) + 1 : Nat) : Int)), (2, .pointer (some ⟨b3, 0, none⟩)), (1, .int .i64 d)], [.blk b3 [.int .i64 k, .string nm, .int .i64 num, .int .i64 tk, .slice pt tks.length ct, .int .i64 fk, .slice pf fks.length cf, .int .i64 lb, .slice p ks.length c]], G⟩) (fun i => i ≤ ks.length) (fun i => ks.length - i) 0 ?_ ?_ ?_)
 exact E2
 exact Nat.zero_le _
 (rintro i hi)
 refine B2 ?_
 refine sB (J1 rfl rfl) rfl rfl (fun h30 => ?_) (fun h30 => ?_)
 refine A3 ?_
 refine sP (A3h rfl rfl (by omega)) rfl rfl ?_
 refine B2 ?_
 refine C1 ?_
 refine A9 ?_
 (obtain ⟨b, o, e, rfl, hl, hat, hre, hgb⟩ := hsl.kidTm hkl (i := i) (by omega) (by omega); have htk := A0R (ks := ks) (i := i) (by omega); refine sP (B4 rfl rfl rfl (by omega)) rfl rfl ?_)
 refine sL (A2 rfl rfl (hat _) hl) rfl rfl ?_
 refine E6 ?_
 refine sP (O5 rfl rfl (by omega) (by omega)) rfl rfl ?_
 (have hvk := hv2 i (by omega); rw [show D + 1 - d + 1 = D + 1 - (d - 1) by omega] at hvk; refine H6 rfl (ih ks[i] (List.getElem_mem (by omega)) (d - 1) G _ (by omega) hvk (by omega) hre) rfl rfl ?_)
 refine sP (J0 rfl rfl (by omega) (by omega)) rfl rfl ?_
 refine A8 ?_
 refine sP (J0 rfl rfl (by omega) (by omega)) rfl rfl ?_
 refine A3 ?_
 (refine J6 (i + 1) ?_ ?_ ?_; rw [show ((E4 (ks.take (i + 1)) + 1 : Nat) : Int) = ((E4 (ks.take i) + 1 : Nat) : Int) + (D3 ks[i] : Int) from by rw [A0S (by omega)]; omega])
 exact E2
 omega
 omega
 refine Z5 ?_
 (obtain rfl : i = ks.length := (by omega); rw [List.take_length]; exact ⟨rfl, rfl, rfl⟩)
theorem A4w {Q : Prop} (h : Q := by exact ⟨rfl, by (cases R with | false => rfl | true => (exfalso; have h0 := hi.1 rfl; first | omega | simp_all)), rfl⟩) : Q := h
theorem A8t (t : Tm) (G : IM) (cells : List Value) (hcnt : D3 t ≤ 4294967296) (hr : B0 G t cells) :
  Fn Tryz.prog 144 [.agg ⟨cells⟩] [] G (I3 (.bool (M2 t)) G) := by
 have hl := hr.len
 have hv := B2F t 40 G cells (by omega) hr
 have hc := fun h => A8s 40 13 t 40 G cells (by omega) h hcnt hr
 have hi := A5Q t
 obtain ⟨R, hR⟩ : ∃ R, M2 t = R := ⟨_, rfl⟩
 rw [hR] at hi ⊢
 refine C3 Tryz.func144 rfl Tryz.ntmps144 Tryz.results144 rfl ?_
 intro w0
 refine A3 ?_
 refine sE (C8 rfl rfl) rfl (fun b3 => ?_)
 refine A9 ?_
 refine sL (A2 rfl rfl (B3 (by repeat first | exact mH | apply mT)) (by assumption)) rfl rfl ?_
 refine F8 rfl (hv) rfl rfl (fun h10 => ?_) (fun h10 => ?_)
 refine E6 ?_
 refine sL (A2 rfl rfl (B3 (by repeat first | exact mH | apply mT)) (by assumption)) rfl rfl ?_
 refine H6 rfl (hc (by assumption)) rfl rfl ?_
 refine sB (Z4 rfl rfl) rfl rfl (fun h14 => ?_) (fun h14 => ?_)
 refine A8 ?_
 exact ⟨rfl, by rw [hi.2 ⟨by assumption, by omega⟩], rfl⟩
 refine A8 ?_
 exact A4w
 refine J2 ?_
 exact A4w
theorem A1z (t : Tm) : S1 t = true ↔ N7 12 14 t 1 = true ∧ D3 t ≤ 30 := by
 have := A5P 30 12 14 t 1 0 (by omega)
 rw [S1, this]
 constructor
 ·rintro ⟨a, b⟩; exact ⟨a, by omega⟩
 ·rintro ⟨a, b⟩; exact ⟨a, by omega⟩
theorem B2L : ∀ (t : Tm) (d : Int) (G : IM) (cells : List Value), 0 ≤ d ∧ d ≤ 12 → B0 G t cells →
  Fn Tryz.prog 185 [.agg ⟨cells⟩, .int .i64 d] [] G (I3 (.bool (N7 12 14 t (13 - d))) G) := by
 refine Tm.ind fun k nm num ty fr lb ks ih d G cells hd hr => ?_
 have hr0 := hr
 have hne := fun h : k ≠ 14 => @A8f k nm num ty fr lb ks.length h
 have har := fun h : U2 k nm num ty fr lb ks.length = true => (U3.1 h).1
 obtain ⟨R, hR⟩ : ∃ R, U2 k nm num ty fr lb ks.length = R := ⟨_, rfl⟩
 rw [hR] at hne har
 have hl2 := A8d k nm num ty fr lb ks G cells hr0 R
 have hk1 := A4r k G
 obtain ⟨tk, tks⟩ := ty
 obtain ⟨fk, fks⟩ := fr
 obtain ⟨pt, ct, pf, cf, p, c, es, rfl, hk, hnum, hlb, hty, hfr, hsl, hkl⟩ := hr.open9
 have hn := hsl.le
 clear hr hr0
 refine C3 Tryz.func185 rfl Tryz.ntmps185 Tryz.results185 rfl ?_
 intro w0
 refine A3 ?_
 refine sE (C8 rfl rfl) rfl (fun b3 => ?_)
 refine A9 ?_
 refine D7 D8 rfl ?_
 refine I9 (i := 0) (l' := [tt,ff,ff,ff,ff,ff,ff,ff,ff,ff,ff,ff,ff,ff,ff,ff,ff,ff,ff,ff,ff]) rfl D1 (qM rfl) rfl (by kernel_rfl) rfl rfl ?_
 refine A0y (i := 1) (l' := [tt,tt,ff,ff,ff,ff,ff,ff,ff,ff,ff,ff,ff,ff,ff,ff,ff,ff,ff,ff,ff]) rfl D1 (J1 rfl rfl) rfl (by kernel_rfl) rfl rfl (fun h11 => ?_) (fun h11 => ?_)
 refine aP 2 rfl (qM rfl) rfl ?_
 refine C2 3 rfl rfl rfl ?_
 refine C2 4 rfl rfl rfl ?_
 refine C2 6 rfl rfl rfl ?_
 refine C2 7 rfl rfl rfl ?_
 refine C2 8 rfl rfl rfl ?_
 refine C2 5 rfl rfl rfl ?_
 refine C2 9 rfl rfl rfl ?_
 refine aP 10 rfl (M5 rfl rfl) rfl ?_
 refine aP 11 rfl (qM rfl) rfl ?_
 refine C2 12 rfl rfl rfl ?_
 refine C2 13 rfl rfl rfl ?_
 refine C2 14 rfl rfl rfl ?_
 refine aP 15 rfl (M5 rfl rfl) rfl ?_
 refine aP 16 rfl (qM rfl) rfl ?_
 refine C2 17 rfl rfl rfl ?_
 refine C2 18 rfl rfl rfl ?_
 refine C2 19 rfl rfl rfl ?_
 refine aP 20 rfl (M5 rfl rfl) rfl ?_
 refine J4 ?_
 exact A1y
 refine aP 2 rfl (qM rfl) rfl ?_
 refine aP 3 rfl (B5 rfl) rfl ?_
 refine aL 4 rfl (C4 rfl rfl) rfl ?_
 refine aP 6 rfl (B5 rfl) rfl ?_
 refine aL 7 rfl (C4 rfl rfl) rfl ?_
 refine aP 8 rfl (pLn rfl rfl) rfl ?_
 refine A1 5 ?_
 refine M8 rfl rfl (hk1) rfl rfl rfl ?_
 refine A0y (i := 9) (l' := [tt,tt,tt,tt,tt,tt,tt,tt,tt,tt,ff,ff,ff,ff,ff,ff,ff,ff,ff,ff,ff]) rfl D1 (N9 rfl rfl) rfl (by kernel_rfl) rfl rfl (fun h51 => ?_) (fun h51 => ?_)
 refine aP 10 rfl (O7 rfl rfl) rfl ?_
 refine aP 11 rfl (qM rfl) rfl ?_
 refine C2 12 rfl rfl rfl ?_
 refine C2 13 rfl rfl rfl ?_
 refine C2 14 rfl rfl rfl ?_
 refine aP 15 rfl (M5 rfl rfl) rfl ?_
 refine aP 16 rfl (qM rfl) rfl ?_
 refine C2 17 rfl rfl rfl ?_
 refine C2 18 rfl rfl rfl ?_
 refine C2 19 rfl rfl rfl ?_
 refine aP 20 rfl (M5 rfl rfl) rfl ?_
 refine J4 ?_
 exact A1y
 refine aP 10 rfl (O7 rfl rfl) rfl ?_
 refine aP 11 rfl (qM rfl) rfl ?_
 refine aP 12 rfl (B5 rfl) rfl ?_
 refine aL 13 rfl (C4 rfl rfl) rfl ?_
 refine A0y (i := 14) (l' := [tt,tt,tt,tt,tt,tt,tt,tt,tt,tt,tt,tt,tt,tt,tt,ff,ff,ff,ff,ff,ff]) rfl D1 (qE rfl rfl) rfl (by kernel_rfl) rfl rfl (fun h79 => ?_) (fun h79 => ?_)
 refine aP 15 rfl (O7 rfl rfl) rfl ?_
 refine aP 16 rfl (qM rfl) rfl ?_
 refine C2 17 rfl rfl rfl ?_
 refine C2 18 rfl rfl rfl ?_
 refine C2 19 rfl rfl rfl ?_
 refine aP 20 rfl (M5 rfl rfl) rfl ?_
 refine J4 ?_
 exact A1y
 refine aP 15 rfl (O7 rfl rfl) rfl ?_
 refine aP 16 rfl (qM rfl) rfl ?_
 refine aL 17 rfl (A4 rfl rfl) rfl ?_
 refine A1 18 ?_
 refine S6 rfl rfl (hl2 (hne (by omega) (by omega))) rfl rfl rfl (fun h102 => ?_) (fun h102 => ?_)
 refine aP 19 rfl (pNt rfl) rfl ?_
 refine aP 20 rfl (O7 rfl rfl) rfl ?_
 refine J4 ?_
 refine C1 ?_
 (refine J8 (fun (i : Nat) => ⟨[(5, .int .i64 i), (2, .pointer (some ⟨b3, 0, none⟩)), (1, .int .i64 d)], [.blk b3 [.int .i64 k, .string nm, .int .i64 num, .int .i64 tk, .slice pt tks.length ct, .int .i64 fk, .slice pf fks.length cf, .int .i64 lb, .slice p ks.length c]], G⟩) (fun i => i ≤ ks.length ∧ ∀ j (h : j < ks.length), j < i → N7 12 14 ks[j] (13 - d + 1) = true) (fun i => ks.length - i) 0 ?_ ?_ ?_)
 exact E2
 exact ⟨by omega, by omega⟩
 (rintro i ⟨hi, hf⟩)
 refine B2 ?_
 refine sB (J1 rfl rfl) rfl rfl (fun h128 => ?_) (fun h128 => ?_)
 refine A8 ?_
 refine C1 ?_
 refine A9 ?_
 (obtain ⟨b, o, e, rfl, hl, hat, hre, hgb⟩ := hsl.kidTm hkl (i := i) (by omega) (by omega); refine sP (B4 rfl rfl rfl (by omega)) rfl rfl ?_)
 refine sL (A2 rfl rfl (hat _) hl) rfl rfl ?_
 refine E6 ?_
 refine sP (O5 rfl rfl (by omega) (by omega)) rfl rfl ?_
 (have hih := ih ks[i] (List.getElem_mem (by omega)) (d - 1) G _ (by omega) hre; rw [show 13 - (d - 1) = 13 - d + 1 by omega] at hih; refine F8 rfl hih rfl rfl (fun h145 => ?_) (fun h145 => ?_))
 refine E0 ?_
 refine sP (J0 rfl rfl (by omega) (by omega)) rfl rfl ?_
 refine A3 ?_
 refine J6 (i + 1) ?_ ?_ ?_
 exact E2
 exact A4u
 omega
 refine J9 ?_
 exact A5K
 refine I0 ?_
 (rw [A2b (by omega) (by omega) (hR.trans (by assumption)), (A09 12 14 ks _).2 (fun j hj => hf j hj (by omega))]; exact ⟨rfl, rfl, rfl⟩)
 refine aP 19 rfl (pNf rfl) rfl ?_
 refine aP 20 rfl (O7 rfl rfl) rfl ?_
 refine J4 ?_
 exact A1y
theorem A4x (t : Tm) (G : IM) (cells : List Value) (hcnt : D3 t ≤ 4294967296) (hr : B0 G t cells) :
  Fn Tryz.prog 135 [.agg ⟨cells⟩] [] G (I3 (.bool (S1 t)) G) := by
 have hl := hr.len
 have hv := B2L t 12 G cells (by omega) hr
 have hc := fun h => A8s 12 14 t 12 G cells (by omega) h hcnt hr
 have hi := A1z t
 obtain ⟨R, hR⟩ : ∃ R, S1 t = R := ⟨_, rfl⟩
 rw [hR] at hi ⊢
 refine C3 Tryz.func135 rfl Tryz.ntmps135 Tryz.results135 rfl ?_
 intro w0
 refine A3 ?_
 refine sE (C8 rfl rfl) rfl (fun b3 => ?_)
 refine A9 ?_
 refine sL (A2 rfl rfl (B3 (by repeat first | exact mH | apply mT)) (by assumption)) rfl rfl ?_
 refine F8 rfl (hv) rfl rfl (fun h10 => ?_) (fun h10 => ?_)
 refine E6 ?_
 refine sL (A2 rfl rfl (B3 (by repeat first | exact mH | apply mT)) (by assumption)) rfl rfl ?_
 refine H6 rfl (hc (by assumption)) rfl rfl ?_
 refine sB (Z4 rfl rfl) rfl rfl (fun h14 => ?_) (fun h14 => ?_)
 refine A8 ?_
 exact ⟨rfl, by rw [hi.2 ⟨by assumption, by omega⟩], rfl⟩
 refine A8 ?_
 exact A4w
 refine J2 ?_
 exact A4w
theorem Sw.same {hp hp' : List A5} {e : A5} (h : Sw hp e e hp') : hp' = hp := by
 generalize he : e = e' at h
 have : ∀ {hp e e' hp'}, Sw hp e e' hp' → e = e' → hp' = hp := by
  intro hp e e' hp' h
  induction h with
  | here => rintro rfl; rfl
  | there _ ih => intro he; rw [ih he]
 subst he
 exact this h rfl
section
variable {P : Program} {Γ : L6} {env : M0} {hp : List A5} {G : IM} {ty : TypeId}
theorem A8u {d : Nat} {x y : Operand} {t el : TypeId} {i : K4} {sz by' : Nat} {zs : List Value} [hI : H3 P t i] {ie : K4} [hEl : H3 P el ie] (hd' : i.desc = .slice el) [hE : W5 P el sz by' zs] {p q : Option Addr} {c n m c2 : Nat} {cs news : List Value} {hp' : Option Addr → Nat → List A5}
  (hd : Nat.blt d Γ.n = true) (hx : evo env x = some (.slice p n c)) (hy : evo env y = some (.slice q m c2)) (hsz : Nat.blt 0 sz = true)
  (hm : ∀ p' c', Sw hp (.slc p c el sz n cs) (.slc p' c' el sz (n + m) (cs ++ news)) (hp' p' c'))
  (hS : Sl G q m c2 sz news) (h1 : ∀ u ∈ news, u.oneCell' = true) (hc : n ≤ c)
  (h63 : n + m ≤ maxLen) (hb : (n + m) * by' ≤ 140737488355328) :
  V5 P Γ ⟨env, hp, G⟩ (some d) (.call ⟨.builtin .append, ⟨[x, y]⟩, ⟨[t, t]⟩⟩) ty (I2 p) (fun σ' => ∃ p' c', σ' = ⟨(d, .slice p' (n + m) c') :: env, hp' p' c', G⟩) := by
 obtain ⟨hl, _, _, hat⟩ := hS
 rcases Nat.eq_zero_or_pos m with rfl | hm0
 ·obtain rfl : news = [] := List.length_eq_zero_iff.1 (by omega)
  have hpu := B1C (P := P) (Γ := Γ) (hp := hp) (G := G) (ty := ty) (t := t) (el := el) hd' hx hy hc
  refine ⟨fun a w hs pos af gd Q next hn => ?_⟩
  simp only [Oper.wp, hpu.run a w hs, Oper.upon]
  refine hn _ _ _ (hs.put d _ (by simpa using hd) hs.res) (Ext.refl _ _) ⟨p, c, ?_⟩
  have h0 := hm p c
  simp only [Nat.add_zero, List.append_nil] at h0 ⊢
  rw [h0.same]
 ·obtain ⟨b, o, full, rfl, hg, hv⟩ := hat.resolve_left (by omega)
  exact A5k hd' hd hx hy hsz hm (A4b hg hv) hl h1 h63 hb
variable {K : Po} {ops : Array Oper} {rest : List Oper} {pos : String} {af : Array Edge} {gd : Option (Nat × Bool)}
theorem A3A {d : Nat} {x y : Operand} {t el : TypeId} {i : K4} {sz by' : Nat} {zs : List Value} [hI : H3 P t i] {ie : K4} [hEl : H3 P el ie] [hE : W5 P el sz by' zs] {p q : Option Addr} {c n m c2 : Nat} {cs news : List Value} {hp' : Option Addr → Nat → List A5}
  (hd' : i.desc = .slice el) (hd : Nat.blt d Γ.n = true) (hx : evo env x = some (.slice p n c)) (hy : evo env y = some (.slice q m c2)) (hsz : Nat.blt 0 sz = true)
  (hm : ∀ p' c', Sw hp (.slc p c el sz n cs) (.slc p' c' el sz (n + m) (cs ++ news)) (hp' p' c'))
  (hS : Sl G q m c2 sz news) (h1 : ∀ u ∈ news, u.oneCell' = true) (hc : n ≤ c)
  (h63 : n + m ≤ maxLen) (hb : (n + m) * by' ≤ 140737488355328) (hw : L7 ops env gd = some true)
  (k : ∀ p' c', H5 P Γ ops rest K ⟨(d, .slice p' (n + m) c') :: env, hp' p' c', G⟩) : H5 P Γ ops (⟨some d, .call ⟨.builtin .append, ⟨[x, y]⟩, ⟨[t, t]⟩⟩, ty, pos, af, gd⟩ :: rest) K ⟨env, hp, G⟩ :=
 I7 (A8u hd' hd hx hy hsz hm hS h1 hc h63 hb) hw (by rintro _ ⟨p', c', rfl⟩; exact k p' c')
theorem A2M {H : List (Nat × Nat)} {fuel : Nat} {listed l' : List Bool} {j d : Nat} {cs : List Value} {x y : Operand} {t el : TypeId} {i : K4} {sz by' : Nat} {zs : List Value} [hI : H3 P t i] {ie : K4} [hEl : H3 P el ie] [hE : W5 P el sz by' zs] {p q : Option Addr} {c n m c2 : Nat} {news : List Value} {hp' : Option Addr → Nat → List A5} {H' : List (Nat × Nat)}
  (hi : ops[j]? = some ⟨some d, .call ⟨.builtin .append, ⟨[x, y]⟩, ⟨[t, t]⟩⟩, ty, pos, af, gd⟩) (hd' : i.desc = .slice el)
  (hd : Nat.blt d Γ.n = true) (hx : evo env x = some (.slice p n c)) (hy : evo env y = some (.slice q m c2)) (hsz : Nat.blt 0 sz = true)
  (hm : ∀ p' c', Sw hp (.slc p c el sz n cs) (.slc p' c' el sz (n + m) (cs ++ news)) (hp' p' c'))
  (hS : Sl G q m c2 sz news) (h1 : ∀ u ∈ news, u.oneCell' = true) (hc : n ≤ c)
  (h63 : n + m ≤ maxLen) (hb : (n + m) * by' ≤ 140737488355328) (hw : L7 ops env gd = some true) (hl : listed.set j true = l')
  (hok : A7 ops j hp G (.slc p c el sz n cs) H H')
  (k : ∀ p' c', M4 P Γ ops K H' fuel l' ⟨(d, .slice p' (n + m) c') :: env, hp' p' c', G⟩) : T7 P Γ ops K H fuel listed j ⟨env, hp, G⟩ :=
 A3l hi (A8u hd' hd hx hy hsz hm hS h1 hc h63 hb) hw hl (fun _ _ hs => hok.spec hs) hok.filter (by rintro _ ⟨p', c', rfl⟩; exact k p' c')
theorem V9 {H H' : List (Nat × Nat)} {fuel : Nat} {listed l' : List Bool} {j d : Nat} {f : FuncId} [hF : B8 P f] {xs : List Operand} {ats : Array TypeId} {vs : List Value} {e : A5} {rst : List A5} {post : IM → Value → List A5 → Prop}
  (hi : ops[j]? = some ⟨some d, .call ⟨.value (.func f), ⟨xs⟩, ats⟩, ty, pos, af, gd⟩) (hx : evl env xs = some vs) (h : Fn P f vs [e] G post) (hp' : hp.Perm ([e] ++ rst)) (hw : L7 ops env gd = some true) (hd : Nat.blt d Γ.n = true) (hl : listed.set j true = l')
  (hok : A7 ops j hp G e H H')
  (k : ∀ v G' outs, C0 G G' → post G' v outs → M4 P Γ ops K H' fuel l' ⟨(d, v) :: env, outs ++ rst, G'⟩) : T7 P Γ ops K H fuel listed j ⟨env, hp, G⟩ :=
 A3l hi (A4d hx h hp' hd) hw hl (fun _ _ hs => by simpa [Fp] using hok.spec hs) hok.filter (by rintro _ ⟨v, G', outs, rfl, hle, hq⟩; exact k v G' outs hle hq)
end
section forget
variable {P : Program} {Γ : L6} {env : M0} {hp : List A5} {G : IM} {K : Po} {ops : Array Oper} {rest : List Oper} {ty : TypeId} {pos : String} {af : Array Edge} {gd : Option (Nat × Bool)}
end forget
def tAt : Tm → List Int → Option Tm
 | t, [] => some t
 | .mk _ _ _ _ _ _ ks, i :: is => if h : 0 ≤ i ∧ i < ks.length then tAt (ks[i.toNat]'(by omega)) is else none
def z9 : List Value := [.int .i64 0, .string ⟨⟨[]⟩⟩, .int .i64 0, .int .i64 0, .slice none 0 0, .int .i64 0, .slice none 0 0, .int .i64 0, .slice none 0 0]
def AtP (t : Tm) (path : List Int) (G : IM) : IM → Value → List A5 → Prop := fun G' v outs => G' = G ∧ outs = [] ∧
 ((∃ x cells, tAt t path = some x ∧ B0 G x cells ∧ v = .tuple ⟨[.agg ⟨cells⟩, .bool true]⟩) ∨ (tAt t path = none ∧ v = .tuple ⟨[.agg ⟨z9⟩, .bool false]⟩))
def J5 : Tm := .mk 0 ⟨⟨[]⟩⟩ 0 (.mk 0 []) (.mk 0 []) 0 []
theorem P8.zero (G : IM) : P8 G J5 z9 [] := by
 simp only [J5, P8, Q3, N4, N5, z9]
 refine ⟨[.int .i64 0, .slice none 0 0], [.int .i64 0, .slice none 0 0], none, 0, [], [], [], [], rfl, ⟨by omega, by omega⟩, ⟨by omega, by omega⟩, ⟨by omega, by omega⟩, ?_, ?_, D5.nil _ _, ⟨rfl, rfl⟩, rfl, by simp [I2]⟩
 ·exact ⟨none, 0, [], [], rfl, ⟨by omega, by omega⟩, D5.nil _ _, ⟨rfl, rfl⟩, rfl, by simp [I2]⟩
 ·exact ⟨none, 0, [], [], rfl, ⟨by omega, by omega⟩, D5.nil _ _, ⟨rfl, rfl⟩, rfl, by simp [I2]⟩
def B6F (t : Tm) (path : List Int) : Tm × Bool := if M2 t = true then (match tAt t path with | some x => (x, true) | none => (J5, false)) else (J5, false)
def TbP (r : Tm × Bool) (G : IM) : IM → Value → List A5 → Prop := L8 fun G' v => ∃ cells F, v = .tuple ⟨[.agg ⟨cells⟩, .bool r.2]⟩ ∧ P8 (C5 G' G) r.1 cells F ∧ F.Nodup
structure A4y {ι : Type} (S : ι → Sy) (φ : ι → Prop) (e : Exit) (σ : Sy) : Prop where
 run : match e with
  | .normal => ∃ i, φ i ∧ Sub σ (S i)
  | _ => False
section cut
variable {P : Program} {Γ : L6} {K : Po} {σ : Sy} {ι : Type}
theorem Y7 {c y : Code} (S : ι → Sy) (φ : ι → Prop) (h : I4 P Γ c (A4y S φ) σ) (k : ∀ i, φ i → I4 P Γ y K (S i)) : I4 P Γ c (A0I P Γ y K) σ := by
 refine tri_post h ?_
 rintro e σ ⟨hk⟩
 cases e with
 | normal => obtain ⟨i, hi, hs⟩ := hk; exact ⟨A63 hs (k i hi)⟩
 | _ => exact hk.elim
where
 tri_post {c : Code} {K K' : Po} {σ : Sy} (h : I4 P Γ c K σ) (hk : ∀ e σ, K e σ → K' e σ) : I4 P Γ c K' σ := A48 h hk
theorem P0 {S : ι → Sy} {φ : ι → Prop} {σ : Sy} (i : ι) (hs : Sub σ (S i)) (h : φ i) : A4y S φ .normal σ := ⟨⟨i, h, hs⟩⟩
theorem B2M {S : ι → Sy} {φ : ι → Prop} : X2 (A4y S φ) := fun _ _ h => h.run
instance npC5 {S : ι → Sy} {φ : ι → Prop} : NpC (A4y S φ) := ⟨B2M⟩
end cut
section take
variable {P : Program} {Γ : L6} {env : M0} {hp : List A5} {G : IM} {K : Po} {ops : Array Oper} {rest : List Oper} {ty : TypeId} {pos : String} {af : Array Edge} {gd : Option (Nat × Bool)}
theorem I8 {d : Nat} {f : FuncId} [hF : B8 P f] {xs : List Operand} {ats : Array TypeId} {vs : List Value} {ins rst : List A5} {post : IM → Value → List A5 → Prop}
  (hx : evl env xs = some vs) (h : Fn P f vs ins G post) (hp' : hp.Perm (ins ++ rst)) (hw : L7 ops env gd = some true) (hd : Nat.blt d Γ.n = true)
  (k : ∀ v G' outs, C0 G G' → post G' v outs → H5 P Γ ops rest K ⟨(d, v) :: env, outs ++ rst, G'⟩) : H5 P Γ ops (⟨some d, .call ⟨.value (.func f), ⟨xs⟩, ats⟩, ty, pos, af, gd⟩ :: rest) K ⟨env, hp, G⟩ :=
 I7 (A4d hx h hp' hd) hw (by rintro _ ⟨v, G', outs, rfl, hle, hq⟩; exact k v G' outs hle hq)
end take
theorem Y8 (G : IM) (br : Nat) (pb : Option Addr) (nb cb p : Nat) (bs : List UInt8) (q : Option Addr) (n c : Nat) (xs : List Value) (hb : Sl G pb nb cb 1 (N6 bs)) (hnb : nb ≤ 2000) (hp : p < 1099511627776) (hx : Sl G q n c 1 xs) (hn : 0 < n) :
  Fn Tryz.prog 117 [.pointer (some ⟨br, 0, none⟩), .slice q n c] [rd br pb nb cb p] G (fun G' v outs => G' = G ∧ outs = [rd br pb nb cb (p + 1)] ∧ v ∈ xs) := by
 refine C3 Tryz.func117 rfl Tryz.ntmps117 Tryz.results117 rfl ?_
 intro w0
 refine J4 ?_
 (refine I8 rfl (W7 G br pb nb cb p bs (n : Int) hb hnb hp) (List.Perm.refl _) rfl rfl (fun v G1 outs hle1 hh => ?_); obtain ⟨rfl, rfl, k, rfl, hk0, hkn⟩ := hh; obtain ⟨j, rfl⟩ := Int.eq_ofNat_of_zero_le hk0)
 (obtain ⟨b, o, v, rfl, hv, hat, _⟩ := hx.kid (i := j) (by omega); refine sP (B4 rfl rfl rfl (by omega)) rfl rfl ?_)
 refine sL (A0p rfl rfl (hat _)) rfl rfl ?_
 refine B1 ?_
 refine H2 (rT rfl) A0.refl ?_
 exact ⟨rfl, rfl, List.mem_of_getElem? hv⟩
theorem A5R (G : IM) (br : Nat) (pb : Option Addr) (nb cb p : Nat) (bs : List UInt8) (q : Option Addr) (n c : Nat) (xs : List Value) (hb : Sl G pb nb cb 1 (N6 bs)) (hnb : nb ≤ 2000) (hp : p < 1099511627776) (hx : Sl G q n c 1 xs) (hn : 0 < n) :
  Fn Tryz.prog 121 [.pointer (some ⟨br, 0, none⟩), .slice q n c] [rd br pb nb cb p] G (fun G' v outs => G' = G ∧ outs = [rd br pb nb cb (p + 1)] ∧ v ∈ xs) := by
 refine C3 Tryz.func121 rfl Tryz.ntmps121 Tryz.results121 rfl ?_
 intro w0
 refine J4 ?_
 (refine I8 rfl (W7 G br pb nb cb p bs (n : Int) hb hnb hp) (List.Perm.refl _) rfl rfl (fun v G1 outs hle1 hh => ?_); obtain ⟨rfl, rfl, k, rfl, hk0, hkn⟩ := hh; obtain ⟨j, rfl⟩ := Int.eq_ofNat_of_zero_le hk0)
 (obtain ⟨b, o, v, rfl, hv, hat, _⟩ := hx.kid (i := j) (by omega); refine sP (B4 rfl rfl rfl (by omega)) rfl rfl ?_)
 refine sL (A0p rfl rfl (hat _)) rfl rfl ?_
 refine B1 ?_
 refine H2 (rT rfl) A0.refl ?_
 exact ⟨rfl, rfl, List.mem_of_getElem? hv⟩
theorem A1A (G : IM) : Fn Tryz.prog 94 [] [] G (I3 (.agg ⟨[.int .i64 1, .slice none 0 0]⟩) G) := by
 refine C3 Tryz.func94 rfl Tryz.ntmps94 Tryz.results94 rfl ?_
 intro w0
 refine A3 ?_
 refine sE (A6 rfl) rfl (fun b3 => ?_)
 refine E0 ?_
 refine M7 (rC rfl (A4 rfl rfl)) ?_
 exact ⟨rfl, rfl, rfl⟩
def dB : Nat → Nat
 | 0 => 0
 | d + 1 => 2 * dB d + 2
theorem B2N {d : Nat} (h : d ≤ 3) : dB (d + 1) ≤ 30 := by
 have : d = 0 ∨ d = 1 ∨ d = 2 ∨ d = 3 := by omega
 rcases this with rfl | rfl | rfl | rfl <;> decide
theorem B2O (k : Int) : T2 k ≤ 2 := by
 unfold T2; split <;> try split
 all_goals omega
theorem A4z : ∀ (ts : List Ty) (t : Ty), O1 (ts ++ [t]) = O1 ts + K0 t
 | [], t => by simp [O1]
 | a :: ts, t => by simp only [List.cons_append, O1, A4z ts t]; omega
theorem D2.ty {G : IM} {k : Int} {ts : List Ty} {es : List (List Value)} {p : Option Addr} {n c : Nat} (h : D2 G ts es) (hn : ts.length = n) (hs : Sl G p n c 2 es.flatten) (hk : E8 k) : B9 G (.mk k ts) [.int .i64 k, .slice p n c] := by
 subst hn
 simp only [B9]
 exact ⟨p, c, es, rfl, hk, D5.of hs h.len h.all (fun e he => (h.each e he).2), h⟩
theorem A3B (br : Nat) (pb : Option Addr) (nb cb : Nat) (bs : List UInt8) (hnb : nb ≤ 2000) : ∀ (d p : Nat) (G : IM), d ≤ 1000 → Sl G pb nb cb 1 (N6 bs) → p + dB (d + 1) < 1099511627776 →
  Fn Tryz.prog 125 [.pointer (some ⟨br, 0, none⟩), .int .i64 ((d + 1 : Nat) : Int)] [rd br pb nb cb p] G
   (Z8 br pb nb cb p (dB (d + 1)) (fun G' v => ∃ t cells, v = .agg ⟨cells⟩ ∧ B9 G' t cells ∧ K0 t ≤ ((dB (d + 1) : Nat) : Int) ∧ Q0 d t)) := by
 refine fun d => Nat.strongRecOn d fun d ih p G hd hb hp => ?_
 rw [dB] at hp ⊢
 refine C3 Tryz.func125 rfl Tryz.ntmps125 Tryz.results125 rfl ?_
 intro w0
 refine A3 ?_
 refine sE (A6 rfl) rfl (fun b3 => ?_)
 refine A9 ?_
 (refine I7 (C7 rfl rfl rfl (by omega) (by unfold maxLen; omega) rfl) rfl ?_; rintro _ ⟨b9, rfl⟩)
 (refine S9 (by repeat (first | exact Pk.here | apply Pk.there)) (fun G1 hle1 hsl1 _ => ?_); refine I8 rfl (Y8 G1 br pb nb cb p bs _ _ _ _ (hb.mono hle1) hnb (by omega) hsl1 (by decide)) (Pk.perm (by repeat (first | exact Pk.here | apply Pk.there))) rfl rfl (fun v G2 outs hle2 hh => ?_); obtain ⟨rfl, rfl, hv⟩ := hh; replace hb := hb.mono hle1; obtain ⟨k, rfl, hk1⟩ : ∃ k, v = .int .i64 k ∧ 1 ≤ k ∧ k ≤ 5 := (by simp only [List.mem_cons, List.not_mem_nil, or_false] at hv; rcases hv with rfl | rfl | rfl | rfl | rfl | rfl | rfl <;> exact ⟨_, rfl, by decide, by decide⟩))
 refine A9 ?_
 (have hv' := hv; refine Y7 (fun (x : Bool) => ⟨(16, .bool x) :: [(5, .int .i64 k), (4, .pointer (some ⟨b3, 0, none⟩)), (0, .pointer (some ⟨br, 0, none⟩)), (1, .int .i64 ((d + 1 : Nat) : Int))], [rd br pb nb cb (p + 1), .blk b3 [.int .i64 0, .slice none 0 0]], G2⟩) (fun x => x = false → d = 0 → k < 4) ?_ ?_)
 refine A3 ?_
 refine sB (J1 rfl rfl) rfl rfl (fun h19 => ?_) (fun h19 => ?_)
 refine A3 ?_
 refine sB (A0L rfl rfl) rfl rfl (fun h22 => ?_) (fun h22 => ?_)
 refine A3 ?_
 refine P0 true (L3 (by repeat (first | exact E1.nil | refine E1.cons rfl ?_)) (by repeat (first | exact A0.refl | exact A0.nil | refine A0.cons (by repeat (first | exact Pk.here | apply Pk.there)) ?_ | apply A0.drop))) ?_
 (show _ = false → d = 0 → k < 4; intro hf h0; first | exact absurd hf (by decide) | omega)
 refine A3 ?_
 refine P0 false (L3 (by repeat (first | exact E1.nil | refine E1.cons rfl ?_)) (by repeat (first | exact A0.refl | exact A0.nil | refine A0.cons (by repeat (first | exact Pk.here | apply Pk.there)) ?_ | apply A0.drop))) ?_
 (show _ = false → d = 0 → k < 4; intro hf h0; first | exact absurd hf (by decide) | omega)
 refine A9 ?_
 refine P0 false (L3 (by repeat (first | exact E1.nil | refine E1.cons rfl ?_)) (by repeat (first | exact A0.refl | exact A0.nil | refine A0.cons (by repeat (first | exact Pk.here | apply Pk.there)) ?_ | apply A0.drop))) ?_
 (show _ = false → d = 0 → k < 4; intro hf h0; first | exact absurd hf (by decide) | omega)
 (rintro x hx; clear hv)
 (show I4 _ _ (.cond (.tmp 16) _ _) _ _; refine Y7 (fun (x : Int) => ⟨[(5, .int .i64 x), (4, .pointer (some ⟨b3, 0, none⟩)), (0, .pointer (some ⟨br, 0, none⟩)), (1, .int .i64 ((d + 1 : Nat) : Int))], [rd br pb nb cb (p + 1), .blk b3 [.int .i64 0, .slice none 0 0]], G2⟩) (fun x => 1 ≤ x ∧ x ≤ 5 ∧ (d = 0 → x < 4)) (A3d rfl (fun hxt => ?_) (fun hxf => ?_)) ?_)
 refine B6 ?_
 refine P0 1 (L3 (by repeat (first | exact E1.nil | refine E1.cons rfl ?_)) (by repeat (first | exact A0.refl | exact A0.nil | refine A0.cons (by repeat (first | exact Pk.here | apply Pk.there)) ?_ | apply A0.drop))) ?_
 (first | exact ⟨by omega, by omega, by omega⟩ | exact ⟨by omega, by omega, fun h0 => by have := hx hxf h0; omega⟩)
 refine tK ?_
 refine P0 k (L3 (by repeat (first | exact E1.nil | refine E1.cons rfl ?_)) (by repeat (first | exact A0.refl | exact A0.nil | refine A0.cons (by repeat (first | exact Pk.here | apply Pk.there)) ?_ | apply A0.drop))) ?_
 (first | exact ⟨by omega, by omega, by omega⟩ | exact ⟨by omega, by omega, fun h0 => by have := hx hxf h0; omega⟩)
 (rintro kk ⟨hk2, hk3, hk4⟩; have hop := B2O kk; have hk5 := (A06 kk).1; have hk6 := (A06 kk).2.1; have hK := A7Y kk)
 refine B1 ?_
 refine sE (A6 rfl) rfl (fun b53 => ?_)
 refine E0 ?_
 refine C1 ?_
 (refine S0 34 2 ?_; refine J8 (fun (x : Nat × Option Addr × Nat × List Ty × List (List Value) × Nat × IM) => ⟨[(7, .int .i64 x.1), (5, .int .i64 kk), (6, .pointer (some ⟨b53, 0, none⟩)), (4, .pointer (some ⟨b3, 0, none⟩)), (0, .pointer (some ⟨br, 0, none⟩)), (1, .int .i64 ((d + 1 : Nat) : Int))], [.blk b53 [.int .i64 kk, .slice x.2.1 x.1 x.2.2.1], .slc x.2.1 x.2.2.1 34 2 x.1 x.2.2.2.2.1.flatten, rd br pb nb cb x.2.2.2.2.2.1, .blk b3 [.int .i64 0, .slice none 0 0]], x.2.2.2.2.2.2⟩) (fun x => (∀ u ∈ x.2.2.2.1, Q0 (d - 1) u) ∧ (x.1 : Int) ≤ T2 kk ∧ C0 G2 x.2.2.2.2.2.2 ∧ x.2.2.2.1.length = x.1 ∧ D2 x.2.2.2.2.2.2 x.2.2.2.1 x.2.2.2.2.1 ∧ O1 x.2.2.2.1 ≤ ((x.1 * dB d : Nat) : Int) ∧ p + 1 ≤ x.2.2.2.2.2.1 ∧ x.2.2.2.2.2.1 ≤ p + 1 + x.1 * dB d) (fun x => (T2 kk).toNat - x.1) (0, none, 0, [], [], p + 1, G2) ?_ ?_ ?_)
 (simp only [I5]; exact E2)
 (exact ⟨by simp, by dsimp only; omega, C0.refl _, rfl, by simp [D2], by simp [O1], by dsimp only; omega, by dsimp only; omega⟩)
 (rintro ⟨i, pn, cn, ts, es', p', Gi⟩ ⟨hah, hi, hle, hlt, hst, hsum, hq1, hq2⟩; simp only [] at hah hi hle hlt hst hsum hq1 hq2 ⊢; have hid : i * dB d ≤ 2 * dB d := Nat.mul_le_mul_right _ (by omega))
 refine A9 ?_
 refine H6 rfl ((hK _)) rfl rfl ?_
 refine sB (J1 rfl rfl) rfl rfl (fun h74 => ?_) (fun h74 => ?_)
 refine A8 ?_
 refine C1 ?_
 (obtain ⟨d', rfl⟩ : ∃ d', d = d' + 1 := ⟨d - 1, by omega⟩; have hih := ih d' (by omega) p' Gi (by omega) (hb.mono hle) (by have := Nat.mul_le_mul_right (dB (d' + 1)) (show i + 1 ≤ 2 by omega); rw [Nat.succ_mul] at this; omega); refine D7 D8 rfl ?_)
 refine I9 (i := 0) (l' := [tt,ff,ff,ff,ff,ff,ff,ff,ff,ff]) rfl D1 (B5 rfl) rfl (by kernel_rfl) rfl rfl ?_
 refine aL 1 rfl (C4 rfl rfl) rfl ?_
 refine aP 2 rfl (qM rfl) rfl ?_
 refine aP 3 rfl (qM rfl) rfl ?_
 refine aP 4 rfl (A4q rfl rfl (by omega)) rfl ?_
 refine A1 5 ?_
 (refine V9 (l' := [tt,tt,tt,tt,tt,tt,ff,ff,ff,ff]) rfl rfl hih (Pk.perm (by repeat (first | exact Pk.here | apply Pk.there))) rfl rfl rfl (by repeat (first | exact A7.nil | apply A7.dep (by decide +kernel) | apply A7.blk (by decide +kernel) (by repeat (first | exact Pk.here | apply Pk.there)) (by repeat first | exact mH | apply mT))) (fun v G3 outs hle3 hh => ?_); obtain ⟨p3, hp31, hp32, rfl, t3, cells3, rfl, hr3, hs3, ha3⟩ := hh; obtain ⟨q3, c3, es3, rfl, _⟩ := hr3.open)
 refine A1 6 ?_
 (refine E3 rfl (C7 rfl rfl rfl (by omega) (by unfold maxLen; omega) rfl) rfl rfl ?_; rintro _ ⟨b91, rfl⟩)
 refine A1 7 ?_
 refine Q6 rfl rfl rfl rfl rfl rfl (fun _ _ => by repeat (first | exact Sw.here | apply Sw.there)) (M6 (by repeat first | exact mH | apply mT)) rfl (by simp [Value.oneCell']) (by unfold maxLen; omega) (by omega) rfl rfl (by repeat (first | exact A7.nil | apply A7.dep (by decide +kernel) | apply A7.blk (by decide +kernel) (by repeat (first | exact Pk.here | apply Pk.there)) (by repeat first | exact mH | apply mT))) (fun pn' cn' => ?_)
 refine aP 8 rfl (B5 rfl) rfl ?_
 refine A1 9 ?_
 refine Q8 rfl rfl rfl rfl rfl rfl rfl rfl (by kernel_rfl) (by repeat first | exact Sw.here | apply Sw.there) (by rfl) ?_
 refine A9 ?_
 refine sP (J0 rfl rfl (by omega) (by omega)) rfl rfl ?_
 refine A3 ?_
 refine J6 (i + 1, pn', cn', ts ++ [t3], es' ++ [[.int .i64 t3.k, .slice q3 t3.ks.length c3]], p3, G3) ?_ ?_ ?_
 (simp only [I5]; exact E2)
 (dsimp only; have e1 : (i + 1) * dB (d' + 1) = i * dB (d' + 1) + dB (d' + 1) := Nat.succ_mul _ _; have e2 := A4z ts t3; exact ⟨by simp only [List.forall_mem_append, List.forall_mem_singleton]; exact ⟨hah, ha3⟩, by omega, hle.trans hle3, by simp [hlt], D2.snoc (hst.mono hle3) hr3, by omega, by omega, by omega⟩)
 (show (T2 kk).toNat - (i + 1) < (T2 kk).toNat - i; omega)
 refine J3 ?_
 (refine F9 (by repeat (first | exact Pk.here | apply Pk.there)) (fun G5 hle5 hsl5 hno5 => ?_))
 refine tT ?_
 refine H2 (outs := [rd br pb nb cb p']) (rC rfl (A4 rfl rfl)) (by repeat (first | exact A0.nil | refine A0.cons Pk.here ?_ | refine A0.cons (Pk.there Pk.here) ?_ | apply A0.drop)) ?_
 (refine ⟨p', by omega, by omega, rfl, .mk kk ts, _, rfl, (hst.mono hle5).ty hlt hsl5 ⟨by omega, by omega⟩, ?_, B2u hk4 (by omega) hk2 hk3 hah⟩; rw [K0]; omega)
theorem A8v (br : Nat) (pb : Option Addr) (nb cb : Nat) (bs : List UInt8) (hnb : nb ≤ 2000) (d p : Nat) (G : IM) (hd : d ≤ 1000) (hb : Sl G pb nb cb 1 (N6 bs)) (hp : p + dB (d + 1) < 1099511627776) :
  Fn Tryz.prog 125 [.pointer (some ⟨br, 0, none⟩), .int .i64 ((d + 1 : Nat) : Int)] [rd br pb nb cb p] G
   (Z8 br pb nb cb p (dB (d + 1)) (fun G' v => ∃ t cells, v = .agg ⟨cells⟩ ∧ B9 G' t cells ∧ K0 t ≤ ((dB (d + 1) : Nat) : Int))) :=
 (A3B br pb nb cb bs hnb d p G hd hb hp).mono fun G' v outs _ ⟨p', h1, h2, h3, t, cells, h4, h5, h6, _⟩ => ⟨p', h1, h2, h3, t, cells, h4, h5, h6⟩
theorem B2P (br : Nat) (pb : Option Addr) (nb cb : Nat) (bs : List UInt8) (hnb : nb ≤ 2000) (p : Nat) (G : IM) (hb : Sl G pb nb cb 1 (N6 bs)) (hp : p + 31 < 1099511627776) :
  Fn Tryz.prog 123 [.pointer (some ⟨br, 0, none⟩)] [rd br pb nb cb p] G
   (Z8 br pb nb cb p 31 (fun G' v => ∃ t cells, v = .agg ⟨cells⟩ ∧ B9 G' t cells ∧ K0 t ≤ 30 ∧ Q0 3 t)) := by
 refine C3 Tryz.func123 rfl Tryz.ntmps123 Tryz.results123 rfl ?_
 intro w0
 refine A3 ?_
 refine sE (A6 rfl) rfl (fun b3 => ?_)
 refine A8 ?_
 (refine I7 (C7 rfl rfl rfl (by omega) (by unfold maxLen; omega) rfl) rfl ?_; rintro _ ⟨b10, rfl⟩)
 (refine S9 (by repeat (first | exact Pk.here | apply Pk.there)) (fun G1 hle1 hsl1 _ => ?_); refine I8 rfl (Y8 G1 br pb nb cb p bs _ _ _ _ (hb.mono hle1) hnb (by omega) hsl1 (by decide)) (Pk.perm (by repeat (first | exact Pk.here | apply Pk.there))) rfl rfl (fun v G2 outs hle2 hh => ?_); obtain ⟨rfl, rfl, hv⟩ := hh; replace hb := hb.mono hle1; obtain ⟨d, rfl, hd⟩ : ∃ d : Nat, v = .int .i64 ((d + 1 : Nat) : Int) ∧ d ≤ 3 := (by simp only [List.mem_cons, List.not_mem_nil, or_false] at hv; rcases hv with rfl | rfl | rfl | rfl | rfl <;> first | exact ⟨0, rfl, by decide⟩ | exact ⟨1, rfl, by decide⟩ | exact ⟨2, rfl, by decide⟩ | exact ⟨3, rfl, by decide⟩))
 (have hdB := B2N hd; refine I8 rfl (A3B br pb nb cb bs hnb d (p + 1) G2 (by omega) hb (by omega)) (Pk.perm (by repeat (first | exact Pk.here | apply Pk.there))) rfl rfl (fun v G3 outs hle3 hh => ?_); obtain ⟨p3, hp31, hp32, rfl, t3, cells3, rfl, hr3, hs3, ha3⟩ := hh; obtain ⟨q3, c3, es3, rfl, _⟩ := hr3.open)
 refine B1 ?_
 refine H2 (outs := [rd br pb nb cb p3]) (rC rfl (A4 rfl rfl)) (by repeat (first | exact A0.nil | refine A0.cons Pk.here ?_ | refine A0.cons (Pk.there Pk.here) ?_ | apply A0.drop)) ?_
 exact ⟨p3, by omega, by omega, rfl, t3, _, rfl, hr3, by omega, ha3.le hd⟩
theorem B2Q (br : Nat) (pb : Option Addr) (nb cb : Nat) (bs : List UInt8) (hnb : nb ≤ 2000) (p : Nat) (G : IM) (hb : Sl G pb nb cb 1 (N6 bs)) (hp : p + 31 < 1099511627776) :
  Fn Tryz.prog 123 [.pointer (some ⟨br, 0, none⟩)] [rd br pb nb cb p] G
   (Z8 br pb nb cb p 31 (fun G' v => ∃ t cells, v = .agg ⟨cells⟩ ∧ B9 G' t cells ∧ K0 t ≤ 30)) :=
 (B2P br pb nb cb bs hnb p G hb hp).mono fun G' v outs _ ⟨p', h1, h2, h3, t, cells, h4, h5, h6, _⟩ => ⟨p', h1, h2, h3, t, cells, h4, h5, h6⟩
theorem B2R (k : Int) (ks : List Ty) (G : IM) (p : Option Addr) (c : Nat) (hts : (Ty.mk k ks).small) (hr : B9 G (.mk k ks) [.int .i64 k, .slice p ks.length c]) : Fn Tryz.prog 161 [.agg ⟨[.int .i64 k, .slice p ks.length c]⟩] [] G
  (fun G' v outs => ∃ p c es, v = .agg ⟨[.int .i64 k, .slice p ks.length c]⟩ ∧ outs = [.slc p c 34 2 ks.length es.flatten] ∧ D2 G' ks es) := by
 simp only [Ty.small] at hts
 obtain ⟨hsm, hks⟩ := hts
 obtain ⟨p', c', es, he, hk, hsl, hkl⟩ := hr.open
 simp only [Ty.k, Ty.ks, List.cons.injEq, Value.slice.injEq, true_and, and_true] at he hk hsl hkl
 obtain ⟨rfl, rfl⟩ := he
 have hn := hsl.le
 refine C3 Tryz.func161 rfl Tryz.ntmps161 Tryz.results161 rfl ?_
 intro w0
 refine A3 ?_
 refine sE (C8 rfl rfl) rfl (fun b3 => ?_)
 refine sE (A6 rfl) rfl (fun b4 => ?_)
 refine B2 ?_
 refine sE (A6 rfl) rfl (fun b12 => ?_)
 refine E0 ?_
 refine C1 ?_
 (refine S0 34 2 ?_; refine J8 (fun (x : Nat × Option Addr × Nat × List (List Value) × IM) => ⟨[(4, .int .i64 x.1), (3, .pointer (some ⟨b12, 0, none⟩)), (1, .pointer (some ⟨b3, 0, none⟩)), (2, .pointer (some ⟨b4, 0, none⟩))], [.blk b12 [.int .i64 k, .slice x.2.1 x.1 x.2.2.1], .slc x.2.1 x.2.2.1 34 2 x.1 x.2.2.2.1.flatten, .blk b4 [.int .i64 0, .slice none 0 0], .blk b3 [.int .i64 k, .slice p ks.length c]], x.2.2.2.2⟩) (fun x => x.1 ≤ ks.length ∧ C0 G x.2.2.2.2 ∧ D2 x.2.2.2.2 (ks.take x.1) x.2.2.2.1) (fun x => ks.length - x.1) (0, none, 0, [], G) ?_ ?_ ?_)
 (simp only [I5]; exact E2)
 exact ⟨by simp, C0.refl _, by simp [D2]⟩
 (rintro ⟨i, pn, cn, es', Gi⟩ ⟨hi, hle, hst⟩; simp only [] at hi hle hst ⊢; replace hsl := hsl.mono hle; replace hkl := hkl.mono hle)
 refine B2 ?_
 refine sB (J1 rfl rfl) rfl rfl (fun h34 => ?_) (fun h34 => ?_)
 refine A8 ?_
 refine C1 ?_
 (obtain ⟨b, o, p2, c2, rfl, hat, hre, hgb⟩ := hsl.kidTy hkl (i := i) (by omega) (by omega); refine D7 D8 rfl ?_)
 refine I9 (i := 0) (l' := [tt,ff,ff,ff,ff,ff,ff,ff,ff,ff,ff,ff]) rfl D1 (B5 rfl) rfl (by kernel_rfl) rfl rfl ?_
 refine aL 1 rfl (C4 rfl rfl) rfl ?_
 refine aP 2 rfl (B5 rfl) rfl ?_
 refine aL 3 rfl (C4 rfl rfl) rfl ?_
 refine aP 4 rfl (qM rfl) rfl ?_
 refine aP 5 rfl (B4 rfl rfl rfl (by omega)) rfl ?_
 refine aL 6 rfl (A2 rfl rfl (hat _) rfl) rfl ?_
 refine A1 7 ?_
 (refine H0 rfl rfl (O9 ks[i] _ _ (Ty.smallL_mem hks _ (List.getElem_mem (by omega))) hre) rfl rfl rfl (fun v G1 hle1 hh => ?_); obtain ⟨cells', F', rfl, hs', hnd'⟩ := hh; have hr' := hs'.R.mono (C5.le _ _); obtain ⟨p3, c3, es3, rfl, _⟩ := hr'.open)
 refine A1 8 ?_
 (refine E3 rfl (C7 rfl rfl rfl (by omega) (by unfold maxLen; omega) rfl) rfl rfl ?_; rintro _ ⟨b53, rfl⟩)
 refine A1 9 ?_
 refine Q6 rfl rfl rfl rfl rfl rfl (fun _ _ => by repeat (first | exact Sw.here | apply Sw.there)) (M6 (by repeat first | exact mH | apply mT)) rfl (by simp [Value.oneCell']) (by unfold maxLen; omega) (by omega) rfl rfl (by repeat (first | exact A7.nil | apply A7.dep (by decide +kernel) | apply A7.blk (by decide +kernel) (by repeat (first | exact Pk.here | apply Pk.there)) (by repeat first | exact mH | apply mT))) (fun pn' cn' => ?_)
 refine aP 10 rfl (B5 rfl) rfl ?_
 refine A1 11 ?_
 refine Q8 rfl rfl rfl rfl rfl rfl rfl rfl (by kernel_rfl) (by repeat first | exact Sw.here | apply Sw.there) (by rfl) ?_
 refine A9 ?_
 refine sP (J0 rfl rfl (by omega) (by omega)) rfl rfl ?_
 refine A3 ?_
 refine J6 (i + 1, pn', cn', es' ++ [[.int .i64 ks[i].k, .slice p3 ks[i].ks.length c3]], G1) ?_ ?_ ?_
 (simp only [I5]; exact E2)
 (dsimp only; exact ⟨by omega, hle.trans hle1, by rw [List.take_succ_eq_append_getElem (by omega)]; exact D2.snoc (hst.mono hle1) hr'⟩)
 exact U8
 refine I0 ?_
 (obtain rfl : i = ks.length := (by omega); refine H2 (outs := [.slc pn cn 34 2 ks.length es'.flatten]) (rC rfl (A4 rfl rfl)) (by repeat (first | exact A0.nil | refine A0.cons Pk.here ?_ | refine A0.cons (Pk.there Pk.here) ?_ | apply A0.drop)) ?_)
 (rw [List.take_length] at hst; exact ⟨pn, cn, es', rfl, rfl, hst⟩)
theorem A0u (G : IM) : B9 G P9 [.int .i64 1, .slice none 0 0] := by
 simp only [P9, B9]
 exact ⟨none, 0, [], rfl, ⟨by omega, by omega⟩, D5.of (Sl.nil _ _) rfl (by simp) (by simp), by simp [D2]⟩
theorem A5S : K0 P9 = 0 := rfl
theorem B2S (br : Nat) (pb : Option Addr) (nb cb : Nat) (bs : List UInt8) (hnb : nb ≤ 2000) (p : Nat) (G : IM) (hb : Sl G pb nb cb 1 (N6 bs)) (hp : p + 31 < 1099511627776) (t : Ty) (cells : List Value) (hr : B9 G t cells) (hsz : K0 t ≤ 30) :
  Fn Tryz.prog 122 [.pointer (some ⟨br, 0, none⟩), .agg ⟨cells⟩] [rd br pb nb cb p] G
   (Z8 br pb nb cb p 2 (fun G' v => ∃ t cells, v = .agg ⟨cells⟩ ∧ B9 G' t cells ∧ K0 t ≤ 38)) := by
 have hts := A3t t (by omega)
 obtain ⟨k, ks⟩ := t
 rw [K0] at hsz
 have hsn := A1L ks
 obtain ⟨q0, c0, es0, rfl, hk, _⟩ := hr.open
 simp only [Ty.k, Ty.ks] at hk hr ⊢
 refine C3 Tryz.func122 rfl Tryz.ntmps122 Tryz.results122 rfl ?_
 intro w0
 refine A3 ?_
 refine sE (C8 rfl rfl) rfl (fun b3 => ?_)
 refine sE (A6 rfl) rfl (fun b4 => ?_)
 refine A9 ?_
 (refine A05 rfl (B2R k ks G q0 c0 hts hr) rfl rfl (fun v G1 outs hle1 hh => ?_); obtain ⟨q, c, es, rfl, rfl, hst⟩ := hh)
 refine sE (A6 rfl) rfl (fun b11 => ?_)
 refine B2 ?_
 (refine I8 rfl (W7 G1 br pb nb cb p bs 40 (hb.mono hle1) hnb (by omega)) (Pk.perm (by repeat (first | exact Pk.here | apply Pk.there))) rfl rfl (fun v G2 outs hle2 hh => ?_); obtain ⟨rfl, rfl, j, rfl, hj0, hj1⟩ := hh; replace hb := hb.mono hle1)
 refine A3 ?_
 (show I4 _ _ (.block 0 _) _ _; refine Y7 (fun (x : Ty × Option Addr × Nat × Nat × IM) => ⟨[(5, .pointer (some ⟨b11, 0, none⟩)), (4, .pointer (some ⟨b4, 0, none⟩))], [.blk b11 [.int .i64 x.1.k, .slice x.2.1 x.1.ks.length x.2.2.1], .blk b4 [.int .i64 0, .slice none 0 0], rd br pb nb cb x.2.2.2.1], x.2.2.2.2⟩) (fun x => C0 G2 x.2.2.2.2 ∧ B9 x.2.2.2.2 x.1 [.int .i64 x.1.k, .slice x.2.1 x.1.ks.length x.2.2.1] ∧ K0 x.1 ≤ 38 ∧ p ≤ x.2.2.2.1 ∧ x.2.2.2.1 ≤ p + 2) ?_ ?_)
 refine C1 (tS (tR (sB (qE rfl rfl) rfl rfl (fun h26 => ?_) (fun h26 => ?_))))
 refine A8 ?_
 (refine I7 (C7 rfl rfl rfl (by omega) (by unfold maxLen; omega) rfl) rfl ?_; rintro _ ⟨b33, rfl⟩)
 (refine S9 (by repeat (first | exact Pk.here | apply Pk.there)) (fun G3 hle3 hsl3 _ => ?_); refine S9 (by repeat (first | exact Pk.here | apply Pk.there)) (fun G4 hle4 hsl4 _ => ?_); refine I8 rfl (Y8 G4 br pb nb cb (p + 1) bs _ _ _ _ (hb.mono (hle3.trans hle4)) hnb (by omega) (hsl3.mono hle4) (by decide)) (Pk.perm (by repeat (first | exact Pk.here | apply Pk.there))) rfl rfl (fun v G5 outs hle5 hh => ?_); obtain ⟨rfl, rfl, hv⟩ := hh; obtain ⟨k', rfl, hk'⟩ : ∃ k', v = .int .i64 k' ∧ E8 k' := (by simp only [List.mem_cons, List.not_mem_nil, or_false] at hv; rcases hv with rfl | rfl | rfl | rfl | rfl <;> exact ⟨_, rfl, by unfold E8; omega⟩))
 refine B1 ?_
 refine P0 (.mk k' ks, q, c, p + 2, G5) ?_ ?_
 (simp only [I5]; exact E2)
 (dsimp only; exact ⟨hle3.trans hle4, (hst.mono (hle3.trans hle4)).ty rfl hsl4 hk', by (rw [K0]; omega), by omega, by omega⟩)
 refine A8 ?_
 refine sB (qE rfl rfl) rfl rfl (fun h48 => ?_) (fun h48 => ?_)
 refine B1 ?_
 refine D7 D8 rfl ?_
 refine I9 (i := 0) (l' := [tt,ff,ff,ff,ff,ff,ff]) rfl D1 (B5 rfl) rfl (by kernel_rfl) rfl rfl ?_
 refine aL 1 rfl (C4 rfl rfl) rfl ?_
 refine A1 2 ?_
 refine M8 rfl rfl ((A1A _)) rfl rfl rfl ?_
 refine A1 3 ?_
 (refine E3 rfl (C7 rfl rfl rfl (by omega) (by unfold maxLen; omega) rfl) rfl rfl ?_; rintro _ ⟨b59, rfl⟩)
 refine A1 4 ?_
 refine Q6 rfl rfl rfl rfl rfl rfl (fun _ _ => by repeat (first | exact Sw.here | apply Sw.there)) (M6 (by repeat first | exact mH | apply mT)) rfl (by simp [Value.oneCell']) (by unfold maxLen; omega) (by omega) rfl rfl (by repeat (first | exact A7.nil | apply A7.dep (by decide +kernel) | apply A7.blk (by decide +kernel) (by repeat (first | exact Pk.here | apply Pk.there)) (by repeat first | exact mH | apply mT))) (fun qn cn => ?_)
 (refine A4g (cs := es.flatten ++ [.int .i64 1, .slice none 0 0]) (by repeat (first | exact Pk.here | apply Pk.there)) (fun G6 hle6 hsl6 _ => ?_))
 refine aP 5 rfl (B5 rfl) rfl ?_
 refine A1 6 ?_
 refine Q8 rfl rfl rfl rfl rfl rfl rfl rfl (by kernel_rfl) (by repeat first | exact Sw.here | apply Sw.there) (by rfl) ?_
 refine A3 ?_
 refine P0 (.mk k (ks ++ [P9]), qn, cn, p + 1, G6) (by rw [show (Ty.mk k (ks ++ [P9])).ks.length = ks.length + 1 from by simp [Ty.ks]]; exact E2) ?_
 (dsimp only; refine ⟨hle6, D2.ty (ts := ks ++ [P9]) (es := es ++ [[.int .i64 1, .slice none 0 0]]) (D2.snoc (hst.mono hle6) (A0u _)) rfl (by simpa [Ty.ks] using hsl6) hk, ?_, by omega, by omega⟩; rw [K0, A4z, A5S, List.length_append]; simp only [List.length_singleton]; omega)
 refine A8 ?_
 refine sB (qE rfl rfl) rfl rfl (fun h76 => ?_) (fun h76 => ?_)
 refine E0 ?_
 refine C1 ?_
 (refine A1I (by repeat (first | exact Pk.here | apply Pk.there)) (fun G3 hle3 hsl3 _ => ?_); refine J8 (fun (x : Nat × Ty × Option Addr × Nat × IM) => ⟨[(6, .int .i64 x.1), (5, .pointer (some ⟨b11, 0, none⟩)), (4, .pointer (some ⟨b4, 0, none⟩))], [.blk b11 [.int .i64 x.2.1.k, .slice x.2.2.1 x.2.1.ks.length x.2.2.2.1], .blk b4 [.int .i64 0, .slice none 0 0], rd br pb nb cb (p + 1)], x.2.2.2.2⟩) (fun x => x.1 ≤ 4 ∧ C0 G3 x.2.2.2.2 ∧ B9 x.2.2.2.2 x.2.1 [.int .i64 x.2.1.k, .slice x.2.2.1 x.2.1.ks.length x.2.2.2.1] ∧ K0 x.2.1 ≤ 30 + 2 * x.1) (fun x => 4 - x.1) (0, .mk k ks, q, c, G3) ?_ ?_ ?_)
 (simp only [I5]; exact E2)
 (dsimp only; exact ⟨by omega, C0.refl _, (hst.mono hle3).ty rfl hsl3 hk, by (rw [K0]; omega)⟩)
 (rintro ⟨i, ⟨tk, tks⟩, qi, ci, Gi⟩ ⟨hi, hlei, hri, hsi⟩; simp only [Ty.k, Ty.ks] at hi hlei hri hsi ⊢)
 refine B1 ?_
 refine sB (J1 rfl rfl) rfl rfl (fun h95 => ?_) (fun h95 => ?_)
 refine A8 ?_
 refine C1 ?_
 refine D7 D8 rfl ?_
 refine K7 (i := 1) (l' := [ff,tt,ff,ff,ff]) rfl D1 (A4 rfl rfl) rfl (by kernel_rfl) rfl rfl ?_
 refine A1 0 ?_
 refine M8 rfl rfl ((A1A _)) rfl rfl rfl ?_
 refine A1 2 ?_
 (refine E3 rfl (C7 rfl rfl rfl (by omega) (by unfold maxLen; omega) rfl) rfl rfl ?_; rintro _ ⟨b108, rfl⟩)
 (refine A4g (cs := [.int .i64 1, .slice none 0 0, .int .i64 tk, .slice qi tks.length ci]) (by repeat (first | exact Pk.here | apply Pk.there)) (fun G7 hle7 hsl7 _ => ?_))
 refine aP 3 rfl (V6 rfl rfl) rfl ?_
 refine A1 4 ?_
 refine Q8 rfl rfl rfl rfl rfl rfl rfl rfl (by kernel_rfl) (by repeat first | exact Sw.here | apply Sw.there) (by rfl) ?_
 refine A9 ?_
 refine sP (J0 rfl rfl (by omega) (by omega)) rfl rfl ?_
 refine A3 ?_
 refine J6 (i + 1, .mk 4 [P9, .mk tk tks], some ⟨b108, 0, none⟩, 2, G7) ?_ ?_ ?_
 (simp only [I5]; exact E2)
 (dsimp only; refine ⟨by omega, hlei.trans hle7, D2.ty (ts := [P9, .mk tk tks]) (es := [[.int .i64 1, .slice none 0 0], [.int .i64 tk, .slice qi tks.length ci]]) ⟨_, _, rfl, A0u _, _, _, rfl, hri.mono hle7, rfl⟩ rfl hsl7 ⟨by omega, by omega⟩, ?_⟩; rw [K0, O1, O1, O1, A5S]; simp only [List.length_cons, List.length_nil]; omega)
 (show 4 - (i + 1) < 4 - i; omega)
 refine D4 ?_
 refine P0 (.mk tk tks, qi, ci, p + 1, Gi) ?_ ?_
 (simp only [I5]; exact E2)
 (dsimp only; exact ⟨hle3.trans hlei, hri, by omega, by omega, by omega⟩)
 refine B1 ?_
 (refine A1I (by repeat (first | exact Pk.here | apply Pk.there)) (fun G8 hle8 hsl8 _ => ?_); refine tK ?_)
 refine E6 ?_
 refine P0 (.mk k ks, q, c, p + 1, G8) ?_ ?_
 (simp only [I5]; exact E2)
 (dsimp only; exact ⟨hle8, (hst.mono hle8).ty rfl hsl8 hk, by (rw [K0]; omega), by omega, by omega⟩)
 (rintro ⟨t', q', c', p', G'⟩ ⟨hle9, hr9, hs9, hp9, hp9'⟩; simp only [] at hle9 hr9 hs9 hp9 hp9' ⊢)
 refine B2 ?_
 refine H2 (outs := [rd br pb nb cb p']) (rC rfl (A4 rfl rfl)) (by repeat (first | exact A0.nil | refine A0.cons Pk.here ?_ | refine A0.cons (Pk.there Pk.here) ?_ | apply A0.drop)) ?_
 (exact ⟨p', by omega, by omega, rfl, t', _, rfl, hr9, by omega⟩)
mutual
def B2T : Tm → Tm
 | .mk k nm num ty fr lb ks => if k = 13 ∨ k = 14 then (A5T ks).headD J5 else .mk k nm num (if k = 5 then P9 else B7) B7 0 (A5T ks)
def A5T : List Tm → List Tm
 | [] => []
 | t :: ts => B2T t :: A5T ts
end
def B6G : Tm → Tm
 | .mk k nm num ty fr lb ks => if k = 13 ∨ k = 14 then ks.headD J5 else if k = 5 then .mk k nm num P9 fr lb ks else .mk k nm num ty fr lb ks
def B6H : Tm → Prop
 | .mk k _ _ _ _ _ ks => k = 13 ∨ k = 14 → ks ≠ []
theorem A2N {t : Ty} (h : A0t t = true) : t = B7 := by
 obtain ⟨k, ks⟩ := t
 obtain ⟨h1, h2⟩ : (Ty.mk k ks).k = 0 ∧ (Ty.mk k ks).ks.length = 0 := of_decide_eq_true h
 simp only [Ty.k, Ty.ks] at h1 h2
 have h3 : ks = [] := List.length_eq_zero_iff.1 (by omega)
 rw [h3, B7]
 congr
theorem A0D {D N : Int} {k : Int} {nm : ByteArray} {num : Int} {ty fr : Ty} {lb : Int} {ks : List Tm} {d : Int} (h : N7 D N (.mk k nm num ty fr lb ks) d = true) : d ≤ D ∧ k ≠ N ∧ U2 k nm num ty fr lb ks.length = true ∧ N8 D N ks (d + 1) = true := by
 rw [N7] at h
 simp only [Bool.and_eq_true, decide_eq_true_eq] at h
 exact ⟨h.1.1.1, h.1.1.2, h.1.2, h.2⟩
end Gw
end Go.Proofs.YtebfignffjhnhaaGreatDoor
