/-
  The scans of types: typeScan, TypeValid, consistent, Consistent.
-/
import Derived.Test.YtfpgncjeejickaaGreatKf1
import Init
set_option linter.unusedVariables false
set_option linter.unusedSimpArgs false
set_option maxHeartbeats 0
set_option maxRecDepth 100000
set_option synthInstance.maxSize 4000
set_option synthInstance.maxHeartbeats 0
namespace Go.Proofs.YtfpgncjeejickaaGreat
open Go Go.RowKit
namespace Gw
theorem A3a (G : IM) (e : List Value) (d : Int) (b : Bool) (bd : Nat) (hl : e.length = 2) (hd : 0 ≤ d ∧ d ≤ 5) (h : Fn Tryz.prog 137 [.agg ⟨e⟩, .int .i64 (d + 1)] [] G (E4 (.bool b) G)) :
  Fn Tryz.prog 191 [.agg ⟨e⟩, .pointer (some ⟨bd, 0, none⟩)] [.blk bd [.int .i64 d]] G (T1 (.bool (!b)) [.blk bd [.int .i64 d]] G) := by
 refine B4 Tryz.func191 rfl Tryz.ntmps191 Tryz.results191 rfl ?_
 intro w0
 refine tS (tR ?_)
 refine sE (C1 rfl rfl) rfl (fun b3 => ?_)
 refine sQ (qA rfl) rfl (sD (nS (tS (tR ?_))))
 refine sL (A0 rfl rfl (A9 (by repeat first | exact mH | apply mT)) (by assumption)) rfl rfl ?_
 refine sL (B9 rfl rfl) rfl rfl ?_
 refine sP (E8 rfl rfl (by omega) (by omega)) rfl rfl ?_
 refine F0 rfl (h) rfl rfl (fun h12 => ?_) (fun h12 => ?_)
 refine sQ (U0 rfl) rfl (sQ (qA rfl) rfl (sD (nS (tT ?_))))
 refine N9 (rT rfl) (A7.cons (Pk.there Pk.here) A7.nil) ?_
 exact ⟨rfl, by simp [*], rfl⟩
 refine sQ (pNf rfl) rfl (sQ (qA rfl) rfl (sD (nS (tT ?_))))
 refine N9 (rT rfl) (A7.cons (Pk.there Pk.here) A7.nil) ?_
 exact ⟨rfl, by simp [*], rfl⟩
theorem B1j : ∀ (t : Ty) (d : Int) (G : IM) (cells : List Value), 0 ≤ d ∧ d ≤ 5 → B6 G t cells →
  Fn Tryz.prog 137 [.agg ⟨cells⟩, .int .i64 d] [] G (E4 (.bool (K4 t d)) G) := by
 refine Ty.ind fun k ks ih d G cells hd hr => ?_
 obtain ⟨p, c, es, rfl, hk, hsl, hkl⟩ := hr.open
 simp only [Ty.k, Ty.ks] at hk hsl hkl ⊢
 have hn := hsl.le
 obtain ⟨A, hA⟩ : ∃ A, ks.all (K4 · (d + 1)) = A := ⟨_, rfl⟩
 refine B4 Tryz.func137 rfl Tryz.ntmps137 Tryz.results137 rfl ?_
 intro w0
 refine tS (tR ?_)
 refine sE (C1 rfl rfl) rfl (fun b3 => ?_)
 (refine K6 (A58 rfl rfl rfl) rfl ?_; rintro _ ⟨b4, rfl⟩)
 refine H3 ?_
 refine B3 (tS (tS (tR (sB (qE rfl rfl) rfl rfl (fun h24 => ?_) (fun h24 => ?_)))))
 refine H3 ?_
 refine sB (W9 rfl rfl) rfl rfl (fun h40 => ?_) (fun h40 => ?_)
 refine O8 ?_
 refine sB (qE rfl rfl) rfl rfl (fun h46 => ?_) (fun h46 => ?_)
 refine H8 ?_
 refine sQ (A2r rfl rfl) rfl (A21 rfl (A29 _ _ _ _ _ hsl _ [] _ [.blk b4 [.int .i64 d]] (K4 · (d + 1)) ks rfl hA (fun i e he => A3a _ _ _ _ _ (hsl.all e (List.mem_of_getElem? he)) hd (ih _ (hkl.inv he B5).1 _ _ _ (by omega) (hkl.inv he B5).2))) A0j rfl rfl (fun h52 => ?_) (fun h52 => ?_))
 simp only [Bool.not_eq_true', Bool.not_eq_false'] at h52
 refine C3 ?_
 exact ⟨rfl, by (rw [K4, T4, hA]; have := M3 k; first | (rw [decide_eq_true (by omega), decide_eq_true (by omega)]; simp only [*]; done) | (rw [decide_eq_true (by omega), decide_eq_true (by omega)]; simp only [*]; rfl) | (rw [decide_eq_false (by omega)]; rfl) | (rw [decide_eq_true (by omega), decide_eq_false (by omega)]; rfl)), rfl⟩
 simp only [Bool.not_eq_true', Bool.not_eq_false'] at h52
 refine C3 ?_
 exact ⟨rfl, by (rw [K4, T4, hA]; have := M3 k; first | (rw [decide_eq_true (by omega), decide_eq_true (by omega)]; simp only [*]; done) | (rw [decide_eq_true (by omega), decide_eq_true (by omega)]; simp only [*]; rfl) | (rw [decide_eq_false (by omega)]; rfl) | (rw [decide_eq_true (by omega), decide_eq_false (by omega)]; rfl)), rfl⟩
 refine K1 ?_
 exact ⟨rfl, by (rw [K4, T4, hA]; have := M3 k; first | (rw [decide_eq_true (by omega), decide_eq_true (by omega)]; simp only [*]; done) | (rw [decide_eq_true (by omega), decide_eq_true (by omega)]; simp only [*]; rfl) | (rw [decide_eq_false (by omega)]; rfl) | (rw [decide_eq_true (by omega), decide_eq_false (by omega)]; rfl)), rfl⟩
 refine A0k ?_
 exact ⟨rfl, by (rw [K4, T4, hA]; have := M3 k; first | (rw [decide_eq_true (by omega), decide_eq_true (by omega)]; simp only [*]; done) | (rw [decide_eq_true (by omega), decide_eq_true (by omega)]; simp only [*]; rfl) | (rw [decide_eq_false (by omega)]; rfl) | (rw [decide_eq_true (by omega), decide_eq_false (by omega)]; rfl)), rfl⟩
 refine sQ (qA rfl) rfl (sD (nS (cF rfl (tS (tR ?_)))))
 refine sB (qE rfl rfl) rfl rfl (fun h109 => ?_) (fun h109 => ?_)
 refine H3 ?_
 refine sB (W9 rfl rfl) rfl rfl (fun h125 => ?_) (fun h125 => ?_)
 refine O8 ?_
 refine sB (qE rfl rfl) rfl rfl (fun h131 => ?_) (fun h131 => ?_)
 refine H8 ?_
 refine sQ (A2r rfl rfl) rfl (A21 rfl (A29 _ _ _ _ _ hsl _ [] _ [.blk b4 [.int .i64 d]] (K4 · (d + 1)) ks rfl hA (fun i e he => A3a _ _ _ _ _ (hsl.all e (List.mem_of_getElem? he)) hd (ih _ (hkl.inv he B5).1 _ _ _ (by omega) (hkl.inv he B5).2))) A0j rfl rfl (fun h137 => ?_) (fun h137 => ?_))
 simp only [Bool.not_eq_true', Bool.not_eq_false'] at h137
 refine C3 ?_
 exact ⟨rfl, by (rw [K4, T4, hA]; have := M3 k; first | (rw [decide_eq_true (by omega), decide_eq_true (by omega)]; simp only [*]; done) | (rw [decide_eq_true (by omega), decide_eq_true (by omega)]; simp only [*]; rfl) | (rw [decide_eq_false (by omega)]; rfl) | (rw [decide_eq_true (by omega), decide_eq_false (by omega)]; rfl)), rfl⟩
 simp only [Bool.not_eq_true', Bool.not_eq_false'] at h137
 refine C3 ?_
 exact ⟨rfl, by (rw [K4, T4, hA]; have := M3 k; first | (rw [decide_eq_true (by omega), decide_eq_true (by omega)]; simp only [*]; done) | (rw [decide_eq_true (by omega), decide_eq_true (by omega)]; simp only [*]; rfl) | (rw [decide_eq_false (by omega)]; rfl) | (rw [decide_eq_true (by omega), decide_eq_false (by omega)]; rfl)), rfl⟩
 refine K1 ?_
 exact ⟨rfl, by (rw [K4, T4, hA]; have := M3 k; first | (rw [decide_eq_true (by omega), decide_eq_true (by omega)]; simp only [*]; done) | (rw [decide_eq_true (by omega), decide_eq_true (by omega)]; simp only [*]; rfl) | (rw [decide_eq_false (by omega)]; rfl) | (rw [decide_eq_true (by omega), decide_eq_false (by omega)]; rfl)), rfl⟩
 refine A0k ?_
 exact ⟨rfl, by (rw [K4, T4, hA]; have := M3 k; first | (rw [decide_eq_true (by omega), decide_eq_true (by omega)]; simp only [*]; done) | (rw [decide_eq_true (by omega), decide_eq_true (by omega)]; simp only [*]; rfl) | (rw [decide_eq_false (by omega)]; rfl) | (rw [decide_eq_true (by omega), decide_eq_false (by omega)]; rfl)), rfl⟩
 refine sQ (qA rfl) rfl (sD (nS (cF rfl (tR ?_))))
 refine sB (qE rfl rfl) rfl rfl (fun h193 => ?_) (fun h193 => ?_)
 refine J9 ?_
 refine sB (W9 rfl rfl) rfl rfl (fun h206 => ?_) (fun h206 => ?_)
 refine O8 ?_
 refine sB (qE rfl rfl) rfl rfl (fun h212 => ?_) (fun h212 => ?_)
 refine H8 ?_
 refine sQ (A2r rfl rfl) rfl (A21 rfl (A29 _ _ _ _ _ hsl _ [] _ [.blk b4 [.int .i64 d]] (K4 · (d + 1)) ks rfl hA (fun i e he => A3a _ _ _ _ _ (hsl.all e (List.mem_of_getElem? he)) hd (ih _ (hkl.inv he B5).1 _ _ _ (by omega) (hkl.inv he B5).2))) A0j rfl rfl (fun h218 => ?_) (fun h218 => ?_))
 simp only [Bool.not_eq_true', Bool.not_eq_false'] at h218
 refine C3 ?_
 exact ⟨rfl, by (rw [K4, T4, hA]; have := M3 k; first | (rw [decide_eq_true (by omega), decide_eq_true (by omega)]; simp only [*]; done) | (rw [decide_eq_true (by omega), decide_eq_true (by omega)]; simp only [*]; rfl) | (rw [decide_eq_false (by omega)]; rfl) | (rw [decide_eq_true (by omega), decide_eq_false (by omega)]; rfl)), rfl⟩
 simp only [Bool.not_eq_true', Bool.not_eq_false'] at h218
 refine C3 ?_
 exact ⟨rfl, by (rw [K4, T4, hA]; have := M3 k; first | (rw [decide_eq_true (by omega), decide_eq_true (by omega)]; simp only [*]; done) | (rw [decide_eq_true (by omega), decide_eq_true (by omega)]; simp only [*]; rfl) | (rw [decide_eq_false (by omega)]; rfl) | (rw [decide_eq_true (by omega), decide_eq_false (by omega)]; rfl)), rfl⟩
 refine K1 ?_
 exact ⟨rfl, by (rw [K4, T4, hA]; have := M3 k; first | (rw [decide_eq_true (by omega), decide_eq_true (by omega)]; simp only [*]; done) | (rw [decide_eq_true (by omega), decide_eq_true (by omega)]; simp only [*]; rfl) | (rw [decide_eq_false (by omega)]; rfl) | (rw [decide_eq_true (by omega), decide_eq_false (by omega)]; rfl)), rfl⟩
 refine A0k ?_
 exact ⟨rfl, by (rw [K4, T4, hA]; have := M3 k; first | (rw [decide_eq_true (by omega), decide_eq_true (by omega)]; simp only [*]; done) | (rw [decide_eq_true (by omega), decide_eq_true (by omega)]; simp only [*]; rfl) | (rw [decide_eq_false (by omega)]; rfl) | (rw [decide_eq_true (by omega), decide_eq_false (by omega)]; rfl)), rfl⟩
 refine sQ (qA rfl) rfl (sD (nS (cF rfl (tS (tS (tR ?_))))))
 refine sB (qE rfl rfl) rfl rfl (fun h276 => ?_) (fun h276 => ?_)
 refine H3 ?_
 refine sB (W9 rfl rfl) rfl rfl (fun h292 => ?_) (fun h292 => ?_)
 refine O8 ?_
 refine sB (qE rfl rfl) rfl rfl (fun h298 => ?_) (fun h298 => ?_)
 refine H8 ?_
 refine sQ (A2r rfl rfl) rfl (A21 rfl (A29 _ _ _ _ _ hsl _ [] _ [.blk b4 [.int .i64 d]] (K4 · (d + 1)) ks rfl hA (fun i e he => A3a _ _ _ _ _ (hsl.all e (List.mem_of_getElem? he)) hd (ih _ (hkl.inv he B5).1 _ _ _ (by omega) (hkl.inv he B5).2))) A0j rfl rfl (fun h304 => ?_) (fun h304 => ?_))
 simp only [Bool.not_eq_true', Bool.not_eq_false'] at h304
 refine C3 ?_
 exact ⟨rfl, by (rw [K4, T4, hA]; have := M3 k; first | (rw [decide_eq_true (by omega), decide_eq_true (by omega)]; simp only [*]; done) | (rw [decide_eq_true (by omega), decide_eq_true (by omega)]; simp only [*]; rfl) | (rw [decide_eq_false (by omega)]; rfl) | (rw [decide_eq_true (by omega), decide_eq_false (by omega)]; rfl)), rfl⟩
 simp only [Bool.not_eq_true', Bool.not_eq_false'] at h304
 refine C3 ?_
 exact ⟨rfl, by (rw [K4, T4, hA]; have := M3 k; first | (rw [decide_eq_true (by omega), decide_eq_true (by omega)]; simp only [*]; done) | (rw [decide_eq_true (by omega), decide_eq_true (by omega)]; simp only [*]; rfl) | (rw [decide_eq_false (by omega)]; rfl) | (rw [decide_eq_true (by omega), decide_eq_false (by omega)]; rfl)), rfl⟩
 refine K1 ?_
 exact ⟨rfl, by (rw [K4, T4, hA]; have := M3 k; first | (rw [decide_eq_true (by omega), decide_eq_true (by omega)]; simp only [*]; done) | (rw [decide_eq_true (by omega), decide_eq_true (by omega)]; simp only [*]; rfl) | (rw [decide_eq_false (by omega)]; rfl) | (rw [decide_eq_true (by omega), decide_eq_false (by omega)]; rfl)), rfl⟩
 refine A0k ?_
 exact ⟨rfl, by (rw [K4, T4, hA]; have := M3 k; first | (rw [decide_eq_true (by omega), decide_eq_true (by omega)]; simp only [*]; done) | (rw [decide_eq_true (by omega), decide_eq_true (by omega)]; simp only [*]; rfl) | (rw [decide_eq_false (by omega)]; rfl) | (rw [decide_eq_true (by omega), decide_eq_false (by omega)]; rfl)), rfl⟩
 refine sQ (qA rfl) rfl (sD (nS (cF rfl (tR ?_))))
 refine sB (qE rfl rfl) rfl rfl (fun h360 => ?_) (fun h360 => ?_)
 refine J9 ?_
 refine sB (W9 rfl rfl) rfl rfl (fun h373 => ?_) (fun h373 => ?_)
 refine O8 ?_
 refine sB (qE rfl rfl) rfl rfl (fun h379 => ?_) (fun h379 => ?_)
 refine H8 ?_
 refine sQ (A2r rfl rfl) rfl (A21 rfl (A29 _ _ _ _ _ hsl _ [] _ [.blk b4 [.int .i64 d]] (K4 · (d + 1)) ks rfl hA (fun i e he => A3a _ _ _ _ _ (hsl.all e (List.mem_of_getElem? he)) hd (ih _ (hkl.inv he B5).1 _ _ _ (by omega) (hkl.inv he B5).2))) A0j rfl rfl (fun h385 => ?_) (fun h385 => ?_))
 simp only [Bool.not_eq_true', Bool.not_eq_false'] at h385
 refine C3 ?_
 exact ⟨rfl, by (rw [K4, T4, hA]; have := M3 k; first | (rw [decide_eq_true (by omega), decide_eq_true (by omega)]; simp only [*]; done) | (rw [decide_eq_true (by omega), decide_eq_true (by omega)]; simp only [*]; rfl) | (rw [decide_eq_false (by omega)]; rfl) | (rw [decide_eq_true (by omega), decide_eq_false (by omega)]; rfl)), rfl⟩
 simp only [Bool.not_eq_true', Bool.not_eq_false'] at h385
 refine C3 ?_
 exact ⟨rfl, by (rw [K4, T4, hA]; have := M3 k; first | (rw [decide_eq_true (by omega), decide_eq_true (by omega)]; simp only [*]; done) | (rw [decide_eq_true (by omega), decide_eq_true (by omega)]; simp only [*]; rfl) | (rw [decide_eq_false (by omega)]; rfl) | (rw [decide_eq_true (by omega), decide_eq_false (by omega)]; rfl)), rfl⟩
 refine K1 ?_
 exact ⟨rfl, by (rw [K4, T4, hA]; have := M3 k; first | (rw [decide_eq_true (by omega), decide_eq_true (by omega)]; simp only [*]; done) | (rw [decide_eq_true (by omega), decide_eq_true (by omega)]; simp only [*]; rfl) | (rw [decide_eq_false (by omega)]; rfl) | (rw [decide_eq_true (by omega), decide_eq_false (by omega)]; rfl)), rfl⟩
 refine A0k ?_
 exact ⟨rfl, by (rw [K4, T4, hA]; have := M3 k; first | (rw [decide_eq_true (by omega), decide_eq_true (by omega)]; simp only [*]; done) | (rw [decide_eq_true (by omega), decide_eq_true (by omega)]; simp only [*]; rfl) | (rw [decide_eq_false (by omega)]; rfl) | (rw [decide_eq_true (by omega), decide_eq_false (by omega)]; rfl)), rfl⟩
 refine I8 ?_
 refine sB (W9 rfl rfl) rfl rfl (fun h446 => ?_) (fun h446 => ?_)
 refine O8 ?_
 refine sP (I6 rfl rfl (by omega)) rfl rfl ?_
 refine K1 ?_
 exact ⟨rfl, by (rw [K4, T4, hA]; have := M3 k; first | (rw [decide_eq_true (by omega), decide_eq_true (by omega)]; simp only [*]; done) | (rw [decide_eq_true (by omega), decide_eq_true (by omega)]; simp only [*]; rfl) | (rw [decide_eq_false (by omega)]; rfl) | (rw [decide_eq_true (by omega), decide_eq_false (by omega)]; rfl)), rfl⟩
 refine A0k ?_
 exact ⟨rfl, by (rw [K4, T4, hA]; have := M3 k; first | (rw [decide_eq_true (by omega), decide_eq_true (by omega)]; simp only [*]; done) | (rw [decide_eq_true (by omega), decide_eq_true (by omega)]; simp only [*]; rfl) | (rw [decide_eq_false (by omega)]; rfl) | (rw [decide_eq_true (by omega), decide_eq_false (by omega)]; rfl)), rfl⟩
theorem A3b (t : Ty) (G : IM) (cells : List Value) (hr : B6 G t cells) : Fn Tryz.prog 92 [.agg ⟨cells⟩] [] G (E4 (.bool (F4 t)) G) := by
 have hl := hr.len
 have hv := B1j t 1 G cells (by omega) hr
 refine B4 Tryz.func92 rfl Tryz.ntmps92 Tryz.results92 rfl ?_
 intro w0
 refine tS (tR ?_)
 refine sE (C1 rfl rfl) rfl (fun b3 => ?_)
 refine sQ (qA rfl) rfl (sD (nS (tS (tR ?_))))
 refine sL (A0 rfl rfl (A9 (by repeat first | exact mH | apply mT)) (by assumption)) rfl rfl ?_
 refine I3 rfl (hv) rfl rfl ?_
 refine sQ (qA rfl) rfl (sD (nS (tT (E1 (rT rfl) ?_))))
 exact ⟨rfl, rfl, rfl⟩
theorem Y7 : ∀ (t t' : Ty) (G : IM) (cells cells' : List Value), B6 G t cells → B6 G t' cells' →
  Fn Tryz.prog 135 [.agg ⟨cells⟩, .agg ⟨cells'⟩] [] G (E4 (.bool (J5 t t')) G) := by
 refine Ty.ind fun k ks ih t' G cells cells' hr hr' => ?_
 obtain ⟨k', ks'⟩ := t'
 obtain ⟨p, c, es, rfl, hk, hsl, hkl⟩ := hr.open
 obtain ⟨p', c', es', rfl, hk', hsl', hkl'⟩ := hr'.open
 simp only [Ty.k, Ty.ks] at hk hsl hkl hk' hsl' hkl' ⊢
 have hn := hsl.le
 have hn' := hsl'.le
 obtain ⟨A, hA⟩ : ∃ A, O9 ks ks' = A := ⟨_, rfl⟩
 have hA' : A = true ↔ ks.length = ks'.length ∧ ∀ i, i < ks.length → J5 (ks.getD i B5) (ks'.getD i B5) = true := by
  rw [← hA, A1v]
  constructor
  ·rintro ⟨h1, h2⟩
   refine ⟨h1, fun i hi => ?_⟩
   have := h2 i hi (by omega)
   simpa [List.getD_eq_getElem?_getD, List.getElem?_eq_getElem hi, List.getElem?_eq_getElem (show i < ks'.length by omega)] using this
  ·rintro ⟨h1, h2⟩
   refine ⟨h1, fun i hi hi' => ?_⟩
   have := h2 i hi
   simpa [List.getD_eq_getElem?_getD, List.getElem?_eq_getElem hi, List.getElem?_eq_getElem hi'] using this
 refine B4 Tryz.func135 rfl Tryz.ntmps135 Tryz.results135 rfl ?_
 intro w0
 refine tS (tR ?_)
 refine sE (C1 rfl rfl) rfl (fun b3 => ?_)
 refine sE (C1 rfl rfl) rfl (fun b4 => ?_)
 refine C3 ?_
 refine sB (qE rfl rfl) rfl rfl (fun h12 => ?_) (fun h12 => ?_)
 refine A2w ?_
 exact ⟨rfl, by (rw [W0, hA]; first | (rw [decide_eq_true (p := k = 1) (by omega)]; rfl) | (rw [decide_eq_false (p := k = 1) (by omega), decide_eq_true (p := k' = 1) (by omega)]; rfl) | (rw [decide_eq_false (p := k = 1) (by omega), decide_eq_false (p := k' = 1) (by omega), decide_eq_false (p := k = k') (by omega)]; rfl) | (rw [decide_eq_false (p := k = 1) (by omega), decide_eq_false (p := k' = 1) (by omega), decide_eq_true (p := k = k') (by omega)]; simp only [*]; rfl)), rfl⟩
 refine J2 ?_
 refine sB (qE rfl rfl) rfl rfl (fun h41 => ?_) (fun h41 => ?_)
 refine A0b ?_
 exact ⟨rfl, by (rw [W0, hA]; first | (rw [decide_eq_true (p := k = 1) (by omega)]; rfl) | (rw [decide_eq_false (p := k = 1) (by omega), decide_eq_true (p := k' = 1) (by omega)]; rfl) | (rw [decide_eq_false (p := k = 1) (by omega), decide_eq_false (p := k' = 1) (by omega), decide_eq_false (p := k = k') (by omega)]; rfl) | (rw [decide_eq_false (p := k = 1) (by omega), decide_eq_false (p := k' = 1) (by omega), decide_eq_true (p := k = k') (by omega)]; simp only [*]; rfl)), rfl⟩
 refine E2 ?_
 refine sB (qE rfl rfl) rfl rfl (fun h69 => ?_) (fun h69 => ?_)
 refine O8 ?_
 refine F0 rfl (A7d _ _ _ _ _ _ _ _ _ hsl hsl' _ [] [] [] (fun i => J5 (ks.getD i B5) (ks'.getD i B5)) A hA' (fun i e e' he he' => ih _ (hkl.inv he B5).1 _ _ _ _ (hkl.inv he B5).2 (hkl'.inv he' B5).2)) rfl rfl (fun h75 => ?_) (fun h75 => ?_)
 refine C3 ?_
 exact ⟨rfl, by (rw [W0, hA]; first | (rw [decide_eq_true (p := k = 1) (by omega)]; rfl) | (rw [decide_eq_false (p := k = 1) (by omega), decide_eq_true (p := k' = 1) (by omega)]; rfl) | (rw [decide_eq_false (p := k = 1) (by omega), decide_eq_false (p := k' = 1) (by omega), decide_eq_false (p := k = k') (by omega)]; rfl) | (rw [decide_eq_false (p := k = 1) (by omega), decide_eq_false (p := k' = 1) (by omega), decide_eq_true (p := k = k') (by omega)]; simp only [*]; rfl)), rfl⟩
 refine C3 ?_
 exact ⟨rfl, by (rw [W0, hA]; first | (rw [decide_eq_true (p := k = 1) (by omega)]; rfl) | (rw [decide_eq_false (p := k = 1) (by omega), decide_eq_true (p := k' = 1) (by omega)]; rfl) | (rw [decide_eq_false (p := k = 1) (by omega), decide_eq_false (p := k' = 1) (by omega), decide_eq_false (p := k = k') (by omega)]; rfl) | (rw [decide_eq_false (p := k = 1) (by omega), decide_eq_false (p := k' = 1) (by omega), decide_eq_true (p := k = k') (by omega)]; simp only [*]; rfl)), rfl⟩
 refine K1 ?_
 exact ⟨rfl, by (rw [W0, hA]; first | (rw [decide_eq_true (p := k = 1) (by omega)]; rfl) | (rw [decide_eq_false (p := k = 1) (by omega), decide_eq_true (p := k' = 1) (by omega)]; rfl) | (rw [decide_eq_false (p := k = 1) (by omega), decide_eq_false (p := k' = 1) (by omega), decide_eq_false (p := k = k') (by omega)]; rfl) | (rw [decide_eq_false (p := k = 1) (by omega), decide_eq_false (p := k' = 1) (by omega), decide_eq_true (p := k = k') (by omega)]; simp only [*]; rfl)), rfl⟩
theorem B1k (t t' : Ty) (G : IM) (cells cells' : List Value) (hr : B6 G t cells) (hr' : B6 G t' cells') :
  Fn Tryz.prog 188 [.agg ⟨cells⟩, .agg ⟨cells'⟩] [] G (E4 (.bool (A0L t t')) G) := by
 have hl := hr.len
 have hl' := hr'.len
 have hv := A3b t G cells hr
 have hv' := A3b t' G cells' hr'
 have hc := Y7 t t' G cells cells' hr hr'
 refine B4 Tryz.func188 rfl Tryz.ntmps188 Tryz.results188 rfl ?_
 intro w0
 refine tS (tR ?_)
 refine sE (C1 rfl rfl) rfl (fun b3 => ?_)
 refine sE (C1 rfl rfl) rfl (fun b4 => ?_)
 refine sQ (qA rfl) rfl (sD (nS (tS (tR ?_))))
 refine sL (A0 rfl rfl (A9 (by repeat first | exact mH | apply mT)) (by assumption)) rfl rfl ?_
 refine F0 rfl (hv) rfl rfl (fun h11 => ?_) (fun h11 => ?_)
 refine sQ (qM rfl) rfl ?_
 refine sL (A0 rfl rfl (A9 (by repeat first | exact mH | apply mT)) (by assumption)) rfl rfl ?_
 refine F0 rfl (hv') rfl rfl (fun h14 => ?_) (fun h14 => ?_)
 refine sQ (L4 rfl rfl) rfl (sQ (qM rfl) rfl ?_)
 refine sL (A0 rfl rfl (A9 (by repeat first | exact mH | apply mT)) (by assumption)) rfl rfl ?_
 refine sL (A0 rfl rfl (A9 (by repeat first | exact mH | apply mT)) (by assumption)) rfl rfl ?_
 refine F0 rfl (hc) rfl rfl (fun h19 => ?_) (fun h19 => ?_)
 refine E2 ?_
 exact ⟨rfl, by simp only [A0L]; simp only [*, Bool.true_and, Bool.false_and, Bool.and_true], rfl⟩
 refine E2 ?_
 exact ⟨rfl, by simp only [A0L]; simp only [*, Bool.true_and, Bool.false_and, Bool.and_true], rfl⟩
 refine F8 ?_
 exact ⟨rfl, by simp only [A0L]; simp only [*, Bool.true_and, Bool.false_and, Bool.and_true], rfl⟩
 refine L5 ?_
 exact ⟨rfl, by simp only [A0L]; simp only [*, Bool.true_and, Bool.false_and, Bool.and_true], rfl⟩
theorem B1l (k : Int) (G : IM) (hk : H1 k) : Fn Tryz.prog 185 [.int .i64 k] [] G (E4 (.int .i64 (D9 k)) G) := by
 unfold H1 at hk
 refine B4 Tryz.func185 rfl Tryz.ntmps185 Tryz.results185 rfl ?_
 intro w0
 refine D8 ?_
 refine F0 rfl (A0Z _ _ _ _) rfl rfl (fun h10 => ?_) (fun h10 => ?_)
 refine sQ (U0 rfl) rfl (sD (nS (cF rfl (tK (nS (tS (tR ?_)))))))
 (refine K6 (D7 rfl rfl rfl (by omega) (by unfold maxLen; omega) rfl) rfl ?_; rintro _ ⟨b19, rfl⟩)
 refine sQ (qM rfl) rfl ?_
 (have hkk : 1 ≤ k ∧ k ≤ 14 := A4L (by assumption); refine sP (W8 rfl rfl (by omega) (by omega)) rfl rfl ?_)
 refine sP (A52 rfl rfl rfl (by omega) (by omega)) rfl rfl ?_
 refine sL (A0g rfl rfl (A9N (by repeat first | exact mH | apply mT) (B0k (by rw [Nat.zero_add, Nat.mul_one]; exact B0j hkk)))) rfl rfl ?_
 refine sQ (qA rfl) rfl (sD (nS (tT (E1 (rT rfl) ?_))))
 exact ⟨rfl, rfl, rfl⟩
 refine J9 ?_
 exact ⟨rfl, by rw [A4M (A6u (by assumption))], rfl⟩
theorem B1m (k : Int) (nm : ByteArray) (num : Int) (ty fr : Ty) (lb : Int) (ks : List Tm) (G : IM) (cells : List Value) (hr : A6 G (.mk k nm num ty fr lb ks) cells) :
  Fn Tryz.prog 131 [.agg ⟨cells⟩] [] G (E4 (.bool (T5 k nm num ty fr lb ks.length)) G) := by
 obtain ⟨tk, tks⟩ := ty
 obtain ⟨fk, fks⟩ := fr
 obtain ⟨pt, ct, pf, cf, p, c, es, rfl, hk, hnum, hlb, hty, hfr, hsl, hkl⟩ := hr.open9
 have hi := @U3 k nm num (.mk tk tks) (.mk fk fks) lb ks.length
 obtain ⟨R, hR⟩ : ∃ R, T5 k nm num (.mk tk tks) (.mk fk fks) lb ks.length = R := ⟨_, rfl⟩
 rw [hR] at hi ⊢
 clear hR hr
 have o1 := B1l k G hk
 have o2 := B1i nm G
 have o3 := A3b _ G _ hty
 have o4 := A7e _ G _ hty
 have o5 := B1k _ _ G _ _ hfr hty
 have o6 := B1h lb G
 have o7 := A7e _ G _ hfr
 refine B4 Tryz.func131 rfl Tryz.ntmps131 Tryz.results131 rfl ?_
 intro w0
 refine tS (tR ?_)
 refine sE (C1 rfl rfl) rfl (fun b3 => ?_)
 refine sQ (qA rfl) rfl (sD (nS (tS (tS ?_))))
 refine D5 D6 rfl ?_
 refine J6 (i := 0) (l' := [tt,ff,ff,ff,ff,ff,ff]) rfl D0 (B0 rfl) rfl (by kernel_rfl) rfl rfl ?_
 refine aL 1 rfl (B9 rfl rfl) rfl ?_
 refine aP 3 rfl (B0 rfl) rfl ?_
 refine aL 4 rfl (B9 rfl rfl) rfl ?_
 refine aP 5 rfl (pLn rfl rfl) rfl ?_
 refine A2 2 ?_
 refine M6 rfl rfl (o1) rfl rfl rfl ?_
 refine A0n (i := 6) (l' := [tt,tt,tt,tt,tt,tt,tt]) rfl D0 (N7 rfl rfl) rfl (by kernel_rfl) rfl rfl (fun h17 => ?_) (fun h17 => ?_)
 refine F8 ?_
 exact ⟨rfl, by (cases R with | false => rfl | true => (exfalso; obtain ⟨i1, i2, i3, i4, i5, i6, i7, i8, i9⟩ := hi.1 rfl; first | omega | (have j := i2 (by omega); simp_all; done) | (have j := i3 (by omega); simp_all; done) | (have j := i4 (by omega); simp_all; done) | (have j := i5 (by omega); simp_all; done) | (have j := i6 (by omega); simp_all; done) | (have j := i7 (by omega); simp_all; done) | (have j := i8 (by omega); simp_all; done) | (have j := i9 (by omega); simp_all; done))), rfl⟩
 refine D8 ?_
 refine sB (qE rfl rfl) rfl rfl (fun h39 => ?_) (fun h39 => ?_)
 refine J9 ?_
 refine sP (I6 rfl rfl (by omega)) rfl rfl ?_
 refine J2 ?_
 refine sP (I6 rfl rfl (by omega)) rfl rfl ?_
 refine H8 ?_
 refine sP (I6 rfl rfl (by omega)) rfl rfl ?_
 refine D3 ?_
 refine sP (I6 rfl rfl (by omega)) rfl rfl ?_
 refine K1 ?_
 refine sP (I6 rfl rfl (by omega)) rfl rfl ?_
 refine sD (nS (cF rfl (tK (nS (tS ?_)))))
 refine B3 ?_
 refine C3 ?_
 refine F0 rfl (o2) rfl rfl (fun h99 => ?_) (fun h99 => ?_)
 refine A0Y ?_
 refine F0 rfl (A0Z _ _ _ _) rfl rfl (fun h123 => ?_) (fun h123 => ?_)
 refine A22 ?_
 refine F0 rfl (o4) rfl rfl (fun h149 => ?_) (fun h149 => ?_)
 refine Y1 ?_
 refine H8 ?_
 refine F0 rfl (o7) rfl rfl (fun h184 => ?_) (fun h184 => ?_)
 refine H8 ?_
 refine sB (N7 rfl rfl) rfl rfl (fun h189 => ?_) (fun h189 => ?_)
 refine H3 ?_
 exact ⟨rfl, by (cases R with | false => rfl | true => (exfalso; obtain ⟨i1, i2, i3, i4, i5, i6, i7, i8, i9⟩ := hi.1 rfl; first | omega | (have j := i2 (by omega); simp_all; done) | (have j := i3 (by omega); simp_all; done) | (have j := i4 (by omega); simp_all; done) | (have j := i5 (by omega); simp_all; done) | (have j := i6 (by omega); simp_all; done) | (have j := i7 (by omega); simp_all; done) | (have j := i8 (by omega); simp_all; done) | (have j := i9 (by omega); simp_all; done))), rfl⟩
 refine J1 ?_
 exact ⟨rfl, by rw [hi.2 ⟨by omega, fun _ => by (first | assumption | (exfalso; omega) | exact Classical.not_not.1 (by assumption)), fun _ => by (first | assumption | (exfalso; omega) | exact Classical.not_not.1 (by assumption)), fun _ => by (first | assumption | (exfalso; omega) | exact Classical.not_not.1 (by assumption)), fun _ => by (first | assumption | (exfalso; omega) | exact Classical.not_not.1 (by assumption)), fun _ => by (first | assumption | (exfalso; omega) | exact Classical.not_not.1 (by assumption)), fun _ => by (first | assumption | (exfalso; omega) | exact Classical.not_not.1 (by assumption)), fun _ => ⟨by (first | assumption | (exfalso; omega)), by (first | assumption | (exfalso; omega))⟩, fun _ => ⟨by (first | assumption | (exfalso; omega)), by (first | assumption | omega)⟩⟩], rfl⟩
 refine A0b ?_
 exact ⟨rfl, by (cases R with | false => rfl | true => (exfalso; obtain ⟨i1, i2, i3, i4, i5, i6, i7, i8, i9⟩ := hi.1 rfl; first | omega | (have j := i2 (by omega); simp_all; done) | (have j := i3 (by omega); simp_all; done) | (have j := i4 (by omega); simp_all; done) | (have j := i5 (by omega); simp_all; done) | (have j := i6 (by omega); simp_all; done) | (have j := i7 (by omega); simp_all; done) | (have j := i8 (by omega); simp_all; done) | (have j := i9 (by omega); simp_all; done))), rfl⟩
 refine H3 ?_
 exact ⟨rfl, by (cases R with | false => rfl | true => (exfalso; obtain ⟨i1, i2, i3, i4, i5, i6, i7, i8, i9⟩ := hi.1 rfl; first | omega | (have j := i2 (by omega); simp_all; done) | (have j := i3 (by omega); simp_all; done) | (have j := i4 (by omega); simp_all; done) | (have j := i5 (by omega); simp_all; done) | (have j := i6 (by omega); simp_all; done) | (have j := i7 (by omega); simp_all; done) | (have j := i8 (by omega); simp_all; done) | (have j := i9 (by omega); simp_all; done))), rfl⟩
 refine L5 ?_
 exact ⟨rfl, by (cases R with | false => rfl | true => (exfalso; obtain ⟨i1, i2, i3, i4, i5, i6, i7, i8, i9⟩ := hi.1 rfl; first | omega | (have j := i2 (by omega); simp_all; done) | (have j := i3 (by omega); simp_all; done) | (have j := i4 (by omega); simp_all; done) | (have j := i5 (by omega); simp_all; done) | (have j := i6 (by omega); simp_all; done) | (have j := i7 (by omega); simp_all; done) | (have j := i8 (by omega); simp_all; done) | (have j := i9 (by omega); simp_all; done))), rfl⟩
 refine T2 ?_
 exact ⟨rfl, by (cases R with | false => rfl | true => (exfalso; obtain ⟨i1, i2, i3, i4, i5, i6, i7, i8, i9⟩ := hi.1 rfl; first | omega | (have j := i2 (by omega); simp_all; done) | (have j := i3 (by omega); simp_all; done) | (have j := i4 (by omega); simp_all; done) | (have j := i5 (by omega); simp_all; done) | (have j := i6 (by omega); simp_all; done) | (have j := i7 (by omega); simp_all; done) | (have j := i8 (by omega); simp_all; done) | (have j := i9 (by omega); simp_all; done))), rfl⟩
 refine J2 ?_
 refine sB (qE rfl rfl) rfl rfl (fun h297 => ?_) (fun h297 => ?_)
 refine D3 ?_
 refine sP (A0o rfl rfl (by omega)) rfl rfl ?_
 refine S1 ?_
 refine sP (I6 rfl rfl (by omega)) rfl rfl ?_
 refine K1 ?_
 refine sP (I6 rfl rfl (by omega)) rfl rfl ?_
 refine sD (nS (cF rfl (tK (nS (tS ?_)))))
 refine B3 ?_
 refine C3 ?_
 refine F0 rfl (o2) rfl rfl (fun h353 => ?_) (fun h353 => ?_)
 refine A0Y ?_
 refine F0 rfl (A0Z _ _ _ _) rfl rfl (fun h377 => ?_) (fun h377 => ?_)
 refine J9 ?_
 refine F0 rfl (o3) rfl rfl (fun h390 => ?_) (fun h390 => ?_)
 refine Y1 ?_
 refine S1 ?_
 refine F0 rfl (o7) rfl rfl (fun h438 => ?_) (fun h438 => ?_)
 refine H8 ?_
 refine sB (N7 rfl rfl) rfl rfl (fun h443 => ?_) (fun h443 => ?_)
 refine H3 ?_
 exact ⟨rfl, by (cases R with | false => rfl | true => (exfalso; obtain ⟨i1, i2, i3, i4, i5, i6, i7, i8, i9⟩ := hi.1 rfl; first | omega | (have j := i2 (by omega); simp_all; done) | (have j := i3 (by omega); simp_all; done) | (have j := i4 (by omega); simp_all; done) | (have j := i5 (by omega); simp_all; done) | (have j := i6 (by omega); simp_all; done) | (have j := i7 (by omega); simp_all; done) | (have j := i8 (by omega); simp_all; done) | (have j := i9 (by omega); simp_all; done))), rfl⟩
 refine J1 ?_
 exact ⟨rfl, by rw [hi.2 ⟨by omega, fun _ => by (first | assumption | (exfalso; omega) | exact Classical.not_not.1 (by assumption)), fun _ => by (first | assumption | (exfalso; omega) | exact Classical.not_not.1 (by assumption)), fun _ => by (first | assumption | (exfalso; omega) | exact Classical.not_not.1 (by assumption)), fun _ => by (first | assumption | (exfalso; omega) | exact Classical.not_not.1 (by assumption)), fun _ => by (first | assumption | (exfalso; omega) | exact Classical.not_not.1 (by assumption)), fun _ => by (first | assumption | (exfalso; omega) | exact Classical.not_not.1 (by assumption)), fun _ => ⟨by (first | assumption | (exfalso; omega)), by (first | assumption | (exfalso; omega))⟩, fun _ => ⟨by (first | assumption | (exfalso; omega)), by (first | assumption | omega)⟩⟩], rfl⟩
 refine A0b ?_
 exact ⟨rfl, by (cases R with | false => rfl | true => (exfalso; obtain ⟨i1, i2, i3, i4, i5, i6, i7, i8, i9⟩ := hi.1 rfl; first | omega | (have j := i2 (by omega); simp_all; done) | (have j := i3 (by omega); simp_all; done) | (have j := i4 (by omega); simp_all; done) | (have j := i5 (by omega); simp_all; done) | (have j := i6 (by omega); simp_all; done) | (have j := i7 (by omega); simp_all; done) | (have j := i8 (by omega); simp_all; done) | (have j := i9 (by omega); simp_all; done))), rfl⟩
 refine T2 ?_
 exact ⟨rfl, by (cases R with | false => rfl | true => (exfalso; obtain ⟨i1, i2, i3, i4, i5, i6, i7, i8, i9⟩ := hi.1 rfl; first | omega | (have j := i2 (by omega); simp_all; done) | (have j := i3 (by omega); simp_all; done) | (have j := i4 (by omega); simp_all; done) | (have j := i5 (by omega); simp_all; done) | (have j := i6 (by omega); simp_all; done) | (have j := i7 (by omega); simp_all; done) | (have j := i8 (by omega); simp_all; done) | (have j := i9 (by omega); simp_all; done))), rfl⟩
 refine L5 ?_
 exact ⟨rfl, by (cases R with | false => rfl | true => (exfalso; obtain ⟨i1, i2, i3, i4, i5, i6, i7, i8, i9⟩ := hi.1 rfl; first | omega | (have j := i2 (by omega); simp_all; done) | (have j := i3 (by omega); simp_all; done) | (have j := i4 (by omega); simp_all; done) | (have j := i5 (by omega); simp_all; done) | (have j := i6 (by omega); simp_all; done) | (have j := i7 (by omega); simp_all; done) | (have j := i8 (by omega); simp_all; done) | (have j := i9 (by omega); simp_all; done))), rfl⟩
 refine T2 ?_
 exact ⟨rfl, by (cases R with | false => rfl | true => (exfalso; obtain ⟨i1, i2, i3, i4, i5, i6, i7, i8, i9⟩ := hi.1 rfl; first | omega | (have j := i2 (by omega); simp_all; done) | (have j := i3 (by omega); simp_all; done) | (have j := i4 (by omega); simp_all; done) | (have j := i5 (by omega); simp_all; done) | (have j := i6 (by omega); simp_all; done) | (have j := i7 (by omega); simp_all; done) | (have j := i8 (by omega); simp_all; done) | (have j := i9 (by omega); simp_all; done))), rfl⟩
 refine D3 ?_
 refine sP (I6 rfl rfl (by omega)) rfl rfl ?_
 refine J2 ?_
 refine sB (qE rfl rfl) rfl rfl (fun h563 => ?_) (fun h563 => ?_)
 refine K1 ?_
 refine sP (I6 rfl rfl (by omega)) rfl rfl ?_
 refine K1 ?_
 refine sP (I6 rfl rfl (by omega)) rfl rfl ?_
 refine sD (nS (cF rfl (tK (nS (tS ?_)))))
 refine B3 ?_
 refine A0p ?_
 refine sB (A1s rfl rfl) rfl rfl (fun h620 => ?_) (fun h620 => ?_)
 refine S1 ?_
 exact ⟨rfl, by (cases R with | false => rfl | true => (exfalso; obtain ⟨i1, i2, i3, i4, i5, i6, i7, i8, i9⟩ := hi.1 rfl; first | omega | (have j := i2 (by omega); simp_all; done) | (have j := i3 (by omega); simp_all; done) | (have j := i4 (by omega); simp_all; done) | (have j := i5 (by omega); simp_all; done) | (have j := i6 (by omega); simp_all; done) | (have j := i7 (by omega); simp_all; done) | (have j := i8 (by omega); simp_all; done) | (have j := i9 (by omega); simp_all; done))), rfl⟩
 refine D8 ?_
 refine F0 rfl (A0Z _ _ _ _) rfl rfl (fun h648 => ?_) (fun h648 => ?_)
 refine J9 ?_
 refine F0 rfl (o3) rfl rfl (fun h661 => ?_) (fun h661 => ?_)
 refine Y1 ?_
 refine S1 ?_
 refine F0 rfl (o7) rfl rfl (fun h709 => ?_) (fun h709 => ?_)
 refine H8 ?_
 refine sB (N7 rfl rfl) rfl rfl (fun h714 => ?_) (fun h714 => ?_)
 refine H3 ?_
 exact ⟨rfl, by (cases R with | false => rfl | true => (exfalso; obtain ⟨i1, i2, i3, i4, i5, i6, i7, i8, i9⟩ := hi.1 rfl; first | omega | (have j := i2 (by omega); simp_all; done) | (have j := i3 (by omega); simp_all; done) | (have j := i4 (by omega); simp_all; done) | (have j := i5 (by omega); simp_all; done) | (have j := i6 (by omega); simp_all; done) | (have j := i7 (by omega); simp_all; done) | (have j := i8 (by omega); simp_all; done) | (have j := i9 (by omega); simp_all; done))), rfl⟩
 refine J1 ?_
 exact ⟨rfl, by rw [hi.2 ⟨by omega, fun _ => by (first | assumption | (exfalso; omega) | exact Classical.not_not.1 (by assumption)), fun _ => by (first | assumption | (exfalso; omega) | exact Classical.not_not.1 (by assumption)), fun _ => by (first | assumption | (exfalso; omega) | exact Classical.not_not.1 (by assumption)), fun _ => by (first | assumption | (exfalso; omega) | exact Classical.not_not.1 (by assumption)), fun _ => by (first | assumption | (exfalso; omega) | exact Classical.not_not.1 (by assumption)), fun _ => by (first | assumption | (exfalso; omega) | exact Classical.not_not.1 (by assumption)), fun _ => ⟨by (first | assumption | (exfalso; omega)), by (first | assumption | (exfalso; omega))⟩, fun _ => ⟨by (first | assumption | (exfalso; omega)), by (first | assumption | omega)⟩⟩], rfl⟩
 refine A0b ?_
 exact ⟨rfl, by (cases R with | false => rfl | true => (exfalso; obtain ⟨i1, i2, i3, i4, i5, i6, i7, i8, i9⟩ := hi.1 rfl; first | omega | (have j := i2 (by omega); simp_all; done) | (have j := i3 (by omega); simp_all; done) | (have j := i4 (by omega); simp_all; done) | (have j := i5 (by omega); simp_all; done) | (have j := i6 (by omega); simp_all; done) | (have j := i7 (by omega); simp_all; done) | (have j := i8 (by omega); simp_all; done) | (have j := i9 (by omega); simp_all; done))), rfl⟩
 refine T2 ?_
 exact ⟨rfl, by (cases R with | false => rfl | true => (exfalso; obtain ⟨i1, i2, i3, i4, i5, i6, i7, i8, i9⟩ := hi.1 rfl; first | omega | (have j := i2 (by omega); simp_all; done) | (have j := i3 (by omega); simp_all; done) | (have j := i4 (by omega); simp_all; done) | (have j := i5 (by omega); simp_all; done) | (have j := i6 (by omega); simp_all; done) | (have j := i7 (by omega); simp_all; done) | (have j := i8 (by omega); simp_all; done) | (have j := i9 (by omega); simp_all; done))), rfl⟩
 refine L5 ?_
 exact ⟨rfl, by (cases R with | false => rfl | true => (exfalso; obtain ⟨i1, i2, i3, i4, i5, i6, i7, i8, i9⟩ := hi.1 rfl; first | omega | (have j := i2 (by omega); simp_all; done) | (have j := i3 (by omega); simp_all; done) | (have j := i4 (by omega); simp_all; done) | (have j := i5 (by omega); simp_all; done) | (have j := i6 (by omega); simp_all; done) | (have j := i7 (by omega); simp_all; done) | (have j := i8 (by omega); simp_all; done) | (have j := i9 (by omega); simp_all; done))), rfl⟩
 refine H8 ?_
 refine sB (qE rfl rfl) rfl rfl (fun h807 => ?_) (fun h807 => ?_)
 refine D3 ?_
 refine sP (A0o rfl rfl (by omega)) rfl rfl ?_
 refine K1 ?_
 refine sP (I6 rfl rfl (by omega)) rfl rfl ?_
 refine sD (nS (cF rfl (tK (nS (tS ?_)))))
 refine B3 ?_
 refine A0p ?_
 refine sB (A1s rfl rfl) rfl rfl (fun h859 => ?_) (fun h859 => ?_)
 refine S1 ?_
 exact ⟨rfl, by (cases R with | false => rfl | true => (exfalso; obtain ⟨i1, i2, i3, i4, i5, i6, i7, i8, i9⟩ := hi.1 rfl; first | omega | (have j := i2 (by omega); simp_all; done) | (have j := i3 (by omega); simp_all; done) | (have j := i4 (by omega); simp_all; done) | (have j := i5 (by omega); simp_all; done) | (have j := i6 (by omega); simp_all; done) | (have j := i7 (by omega); simp_all; done) | (have j := i8 (by omega); simp_all; done) | (have j := i9 (by omega); simp_all; done))), rfl⟩
 refine D8 ?_
 refine F0 rfl (A0Z _ _ _ _) rfl rfl (fun h887 => ?_) (fun h887 => ?_)
 refine J9 ?_
 refine F0 rfl (o3) rfl rfl (fun h900 => ?_) (fun h900 => ?_)
 refine A6o ?_
 refine F0 rfl (o5) rfl rfl (fun h929 => ?_) (fun h929 => ?_)
 refine H8 ?_
 refine F0 rfl (o6) rfl rfl (fun h934 => ?_) (fun h934 => ?_)
 refine Y1 ?_
 refine sQ (qA rfl) rfl (sD (nS (tT (E1 (rT rfl) ?_))))
 exact ⟨rfl, by rw [hi.2 ⟨by omega, fun _ => by (first | assumption | (exfalso; omega) | exact Classical.not_not.1 (by assumption)), fun _ => by (first | assumption | (exfalso; omega) | exact Classical.not_not.1 (by assumption)), fun _ => by (first | assumption | (exfalso; omega) | exact Classical.not_not.1 (by assumption)), fun _ => by (first | assumption | (exfalso; omega) | exact Classical.not_not.1 (by assumption)), fun _ => by (first | assumption | (exfalso; omega) | exact Classical.not_not.1 (by assumption)), fun _ => by (first | assumption | (exfalso; omega) | exact Classical.not_not.1 (by assumption)), fun _ => ⟨by (first | assumption | (exfalso; omega)), by (first | assumption | (exfalso; omega))⟩, fun _ => ⟨by (first | assumption | (exfalso; omega)), by (first | assumption | omega)⟩⟩], rfl⟩
 refine A0k ?_
 exact ⟨rfl, by (cases R with | false => rfl | true => (exfalso; obtain ⟨i1, i2, i3, i4, i5, i6, i7, i8, i9⟩ := hi.1 rfl; first | omega | (have j := i2 (by omega); simp_all; done) | (have j := i3 (by omega); simp_all; done) | (have j := i4 (by omega); simp_all; done) | (have j := i5 (by omega); simp_all; done) | (have j := i6 (by omega); simp_all; done) | (have j := i7 (by omega); simp_all; done) | (have j := i8 (by omega); simp_all; done) | (have j := i9 (by omega); simp_all; done))), rfl⟩
 refine A2w ?_
 exact ⟨rfl, by (cases R with | false => rfl | true => (exfalso; obtain ⟨i1, i2, i3, i4, i5, i6, i7, i8, i9⟩ := hi.1 rfl; first | omega | (have j := i2 (by omega); simp_all; done) | (have j := i3 (by omega); simp_all; done) | (have j := i4 (by omega); simp_all; done) | (have j := i5 (by omega); simp_all; done) | (have j := i6 (by omega); simp_all; done) | (have j := i7 (by omega); simp_all; done) | (have j := i8 (by omega); simp_all; done) | (have j := i9 (by omega); simp_all; done))), rfl⟩
 refine T2 ?_
 exact ⟨rfl, by (cases R with | false => rfl | true => (exfalso; obtain ⟨i1, i2, i3, i4, i5, i6, i7, i8, i9⟩ := hi.1 rfl; first | omega | (have j := i2 (by omega); simp_all; done) | (have j := i3 (by omega); simp_all; done) | (have j := i4 (by omega); simp_all; done) | (have j := i5 (by omega); simp_all; done) | (have j := i6 (by omega); simp_all; done) | (have j := i7 (by omega); simp_all; done) | (have j := i8 (by omega); simp_all; done) | (have j := i9 (by omega); simp_all; done))), rfl⟩
 refine L5 ?_
 exact ⟨rfl, by (cases R with | false => rfl | true => (exfalso; obtain ⟨i1, i2, i3, i4, i5, i6, i7, i8, i9⟩ := hi.1 rfl; first | omega | (have j := i2 (by omega); simp_all; done) | (have j := i3 (by omega); simp_all; done) | (have j := i4 (by omega); simp_all; done) | (have j := i5 (by omega); simp_all; done) | (have j := i6 (by omega); simp_all; done) | (have j := i7 (by omega); simp_all; done) | (have j := i8 (by omega); simp_all; done) | (have j := i9 (by omega); simp_all; done))), rfl⟩
 refine D3 ?_
 refine sP (I6 rfl rfl (by omega)) rfl rfl ?_
 refine K1 ?_
 refine sB (qE rfl rfl) rfl rfl (fun h1072 => ?_) (fun h1072 => ?_)
 refine sD (nS (qT rfl (tR (sQ (qA rfl) rfl (sD (nS (tS ?_)))))))
 refine B3 ?_
 refine A0p ?_
 refine sB (A1s rfl rfl) rfl rfl (fun h1103 => ?_) (fun h1103 => ?_)
 refine S1 ?_
 exact ⟨rfl, by (cases R with | false => rfl | true => (exfalso; obtain ⟨i1, i2, i3, i4, i5, i6, i7, i8, i9⟩ := hi.1 rfl; first | omega | (have j := i2 (by omega); simp_all; done) | (have j := i3 (by omega); simp_all; done) | (have j := i4 (by omega); simp_all; done) | (have j := i5 (by omega); simp_all; done) | (have j := i6 (by omega); simp_all; done) | (have j := i7 (by omega); simp_all; done) | (have j := i8 (by omega); simp_all; done) | (have j := i9 (by omega); simp_all; done))), rfl⟩
 refine D8 ?_
 refine F0 rfl (A0Z _ _ _ _) rfl rfl (fun h1131 => ?_) (fun h1131 => ?_)
 refine A22 ?_
 refine F0 rfl (o4) rfl rfl (fun h1157 => ?_) (fun h1157 => ?_)
 refine Y1 ?_
 refine H8 ?_
 refine F0 rfl (o7) rfl rfl (fun h1192 => ?_) (fun h1192 => ?_)
 refine H8 ?_
 refine sB (N7 rfl rfl) rfl rfl (fun h1197 => ?_) (fun h1197 => ?_)
 refine H3 ?_
 exact ⟨rfl, by (cases R with | false => rfl | true => (exfalso; obtain ⟨i1, i2, i3, i4, i5, i6, i7, i8, i9⟩ := hi.1 rfl; first | omega | (have j := i2 (by omega); simp_all; done) | (have j := i3 (by omega); simp_all; done) | (have j := i4 (by omega); simp_all; done) | (have j := i5 (by omega); simp_all; done) | (have j := i6 (by omega); simp_all; done) | (have j := i7 (by omega); simp_all; done) | (have j := i8 (by omega); simp_all; done) | (have j := i9 (by omega); simp_all; done))), rfl⟩
 refine J1 ?_
 exact ⟨rfl, by rw [hi.2 ⟨by omega, fun _ => by (first | assumption | (exfalso; omega) | exact Classical.not_not.1 (by assumption)), fun _ => by (first | assumption | (exfalso; omega) | exact Classical.not_not.1 (by assumption)), fun _ => by (first | assumption | (exfalso; omega) | exact Classical.not_not.1 (by assumption)), fun _ => by (first | assumption | (exfalso; omega) | exact Classical.not_not.1 (by assumption)), fun _ => by (first | assumption | (exfalso; omega) | exact Classical.not_not.1 (by assumption)), fun _ => by (first | assumption | (exfalso; omega) | exact Classical.not_not.1 (by assumption)), fun _ => ⟨by (first | assumption | (exfalso; omega)), by (first | assumption | (exfalso; omega))⟩, fun _ => ⟨by (first | assumption | (exfalso; omega)), by (first | assumption | omega)⟩⟩], rfl⟩
 refine A0b ?_
 exact ⟨rfl, by (cases R with | false => rfl | true => (exfalso; obtain ⟨i1, i2, i3, i4, i5, i6, i7, i8, i9⟩ := hi.1 rfl; first | omega | (have j := i2 (by omega); simp_all; done) | (have j := i3 (by omega); simp_all; done) | (have j := i4 (by omega); simp_all; done) | (have j := i5 (by omega); simp_all; done) | (have j := i6 (by omega); simp_all; done) | (have j := i7 (by omega); simp_all; done) | (have j := i8 (by omega); simp_all; done) | (have j := i9 (by omega); simp_all; done))), rfl⟩
 refine H3 ?_
 exact ⟨rfl, by (cases R with | false => rfl | true => (exfalso; obtain ⟨i1, i2, i3, i4, i5, i6, i7, i8, i9⟩ := hi.1 rfl; first | omega | (have j := i2 (by omega); simp_all; done) | (have j := i3 (by omega); simp_all; done) | (have j := i4 (by omega); simp_all; done) | (have j := i5 (by omega); simp_all; done) | (have j := i6 (by omega); simp_all; done) | (have j := i7 (by omega); simp_all; done) | (have j := i8 (by omega); simp_all; done) | (have j := i9 (by omega); simp_all; done))), rfl⟩
 refine L5 ?_
 exact ⟨rfl, by (cases R with | false => rfl | true => (exfalso; obtain ⟨i1, i2, i3, i4, i5, i6, i7, i8, i9⟩ := hi.1 rfl; first | omega | (have j := i2 (by omega); simp_all; done) | (have j := i3 (by omega); simp_all; done) | (have j := i4 (by omega); simp_all; done) | (have j := i5 (by omega); simp_all; done) | (have j := i6 (by omega); simp_all; done) | (have j := i7 (by omega); simp_all; done) | (have j := i8 (by omega); simp_all; done) | (have j := i9 (by omega); simp_all; done))), rfl⟩
 refine sD (nS (cF rfl (tK (nS (tS ?_)))))
 refine B3 ?_
 refine A0p ?_
 refine sB (A1s rfl rfl) rfl rfl (fun h1311 => ?_) (fun h1311 => ?_)
 refine S1 ?_
 exact ⟨rfl, by (cases R with | false => rfl | true => (exfalso; obtain ⟨i1, i2, i3, i4, i5, i6, i7, i8, i9⟩ := hi.1 rfl; first | omega | (have j := i2 (by omega); simp_all; done) | (have j := i3 (by omega); simp_all; done) | (have j := i4 (by omega); simp_all; done) | (have j := i5 (by omega); simp_all; done) | (have j := i6 (by omega); simp_all; done) | (have j := i7 (by omega); simp_all; done) | (have j := i8 (by omega); simp_all; done) | (have j := i9 (by omega); simp_all; done))), rfl⟩
 refine D8 ?_
 refine F0 rfl (A0Z _ _ _ _) rfl rfl (fun h1339 => ?_) (fun h1339 => ?_)
 refine A22 ?_
 refine F0 rfl (o4) rfl rfl (fun h1365 => ?_) (fun h1365 => ?_)
 refine Y1 ?_
 refine H8 ?_
 refine F0 rfl (o7) rfl rfl (fun h1400 => ?_) (fun h1400 => ?_)
 refine H8 ?_
 refine sB (N7 rfl rfl) rfl rfl (fun h1405 => ?_) (fun h1405 => ?_)
 refine H3 ?_
 exact ⟨rfl, by (cases R with | false => rfl | true => (exfalso; obtain ⟨i1, i2, i3, i4, i5, i6, i7, i8, i9⟩ := hi.1 rfl; first | omega | (have j := i2 (by omega); simp_all; done) | (have j := i3 (by omega); simp_all; done) | (have j := i4 (by omega); simp_all; done) | (have j := i5 (by omega); simp_all; done) | (have j := i6 (by omega); simp_all; done) | (have j := i7 (by omega); simp_all; done) | (have j := i8 (by omega); simp_all; done) | (have j := i9 (by omega); simp_all; done))), rfl⟩
 refine J1 ?_
 exact ⟨rfl, by rw [hi.2 ⟨by omega, fun _ => by (first | assumption | (exfalso; omega) | exact Classical.not_not.1 (by assumption)), fun _ => by (first | assumption | (exfalso; omega) | exact Classical.not_not.1 (by assumption)), fun _ => by (first | assumption | (exfalso; omega) | exact Classical.not_not.1 (by assumption)), fun _ => by (first | assumption | (exfalso; omega) | exact Classical.not_not.1 (by assumption)), fun _ => by (first | assumption | (exfalso; omega) | exact Classical.not_not.1 (by assumption)), fun _ => by (first | assumption | (exfalso; omega) | exact Classical.not_not.1 (by assumption)), fun _ => ⟨by (first | assumption | (exfalso; omega)), by (first | assumption | (exfalso; omega))⟩, fun _ => ⟨by (first | assumption | (exfalso; omega)), by (first | assumption | omega)⟩⟩], rfl⟩
 refine A0b ?_
 exact ⟨rfl, by (cases R with | false => rfl | true => (exfalso; obtain ⟨i1, i2, i3, i4, i5, i6, i7, i8, i9⟩ := hi.1 rfl; first | omega | (have j := i2 (by omega); simp_all; done) | (have j := i3 (by omega); simp_all; done) | (have j := i4 (by omega); simp_all; done) | (have j := i5 (by omega); simp_all; done) | (have j := i6 (by omega); simp_all; done) | (have j := i7 (by omega); simp_all; done) | (have j := i8 (by omega); simp_all; done) | (have j := i9 (by omega); simp_all; done))), rfl⟩
 refine H3 ?_
 exact ⟨rfl, by (cases R with | false => rfl | true => (exfalso; obtain ⟨i1, i2, i3, i4, i5, i6, i7, i8, i9⟩ := hi.1 rfl; first | omega | (have j := i2 (by omega); simp_all; done) | (have j := i3 (by omega); simp_all; done) | (have j := i4 (by omega); simp_all; done) | (have j := i5 (by omega); simp_all; done) | (have j := i6 (by omega); simp_all; done) | (have j := i7 (by omega); simp_all; done) | (have j := i8 (by omega); simp_all; done) | (have j := i9 (by omega); simp_all; done))), rfl⟩
 refine L5 ?_
 exact ⟨rfl, by (cases R with | false => rfl | true => (exfalso; obtain ⟨i1, i2, i3, i4, i5, i6, i7, i8, i9⟩ := hi.1 rfl; first | omega | (have j := i2 (by omega); simp_all; done) | (have j := i3 (by omega); simp_all; done) | (have j := i4 (by omega); simp_all; done) | (have j := i5 (by omega); simp_all; done) | (have j := i6 (by omega); simp_all; done) | (have j := i7 (by omega); simp_all; done) | (have j := i8 (by omega); simp_all; done) | (have j := i9 (by omega); simp_all; done))), rfl⟩
theorem A7f (M D N : Int) (hM : 0 ≤ M ∧ M ≤ 1000) (hD : 0 ≤ D ∧ D ≤ 1000) (bc : Nat) : ∀ (t : Tm) (deep c : Int) (G : IM) (cells : List Value), 0 ≤ deep ∧ deep ≤ D + 1 → 0 ≤ c ∧ c ≤ M → A6 G t cells →
  Fn Tryz.prog 89 [.agg ⟨cells⟩, .int .i64 deep, .int .i64 M, .int .i64 D, .int .i64 N, .pointer (some ⟨bc, 0, none⟩)] [.blk bc [.int .i64 c]] G
   (T1 (.bool (R5 M D N t deep c).1) [.blk bc [.int .i64 (R5 M D N t deep c).2]] G) := by
 refine Tm.ind fun k nm num ty fr lb ks ih deep c G cells hd hc hr => ?_
 have hno := B1m k nm num ty fr lb ks G cells hr
 obtain ⟨tk, tks⟩ := ty
 obtain ⟨fk, fks⟩ := fr
 obtain ⟨pt, ct, pf, cf, p, cp, es, rfl, hk, hnum, hlb, hty, hfr, hsl, hkl⟩ := hr.open9
 have hn := hsl.le
 obtain ⟨R, hR⟩ : ∃ R, T5 k nm num (.mk tk tks) (.mk fk fks) lb ks.length = R := ⟨_, rfl⟩
 rw [hR] at hno
 refine B4 Tryz.func89 rfl Tryz.ntmps89 Tryz.results89 rfl ?_
 intro w0
 refine tS (tR ?_)
 refine sE (C1 rfl rfl) rfl (fun b3 => ?_)
 refine sQ (qA rfl) rfl (sD (nS (tS (tR (sQ (qM rfl) rfl ?_)))))
 refine sQ (A2q rfl) rfl ?_
 refine sL (B9 rfl rfl) rfl rfl ?_
 refine sP (E8 rfl rfl (by omega) (by omega)) rfl rfl ?_
 refine sQ (A2q rfl) rfl ?_
 refine J7 ?_
 refine sD (nS (tS (tS (tR (sQ (qM rfl) rfl ?_)))))
 refine sQ (A2q rfl) rfl ?_
 refine sL (B9 rfl rfl) rfl rfl (sQ (qM rfl) rfl ?_)
 refine sB (A0W rfl rfl) rfl rfl (fun h24 => ?_) (fun h24 => ?_)
 refine A3L ?_
 refine N9 (outs := [.blk bc [.int .i64 _]]) (rT rfl) (A7.cons (by repeat (first | exact Pk.here | apply Pk.there)) A7.nil) ?_
 (rw [A3O (by rw [hR]; first | omega | exact Or.inr (Or.inr (Or.inr (by assumption)))) ]; exact ⟨rfl, rfl, rfl⟩)
 refine sQ (qM rfl) rfl (sQ (qM rfl) rfl (sQ (qM rfl) rfl ?_))
 refine sB (A0W rfl rfl) rfl rfl (fun h56 => ?_) (fun h56 => ?_)
 refine A99 ?_
 refine N9 (outs := [.blk bc [.int .i64 _]]) (rT rfl) (A7.cons (by repeat (first | exact Pk.here | apply Pk.there)) A7.nil) ?_
 (rw [A3O (by rw [hR]; first | omega | exact Or.inr (Or.inr (Or.inr (by assumption)))) ]; exact ⟨rfl, rfl, rfl⟩)
 refine O8 ?_
 refine sB (qE rfl rfl) rfl rfl (fun h86 => ?_) (fun h86 => ?_)
 refine J1 ?_
 refine N9 (outs := [.blk bc [.int .i64 _]]) (rT rfl) (A7.cons (by repeat (first | exact Pk.here | apply Pk.there)) A7.nil) ?_
 (rw [A3O (by rw [hR]; first | omega | exact Or.inr (Or.inr (Or.inr (by assumption)))) ]; exact ⟨rfl, rfl, rfl⟩)
 refine J2 ?_
 refine F0 rfl (hno) rfl rfl (fun h108 => ?_) (fun h108 => ?_)
 refine J1 ?_
 refine B3 ?_
 (have hmk := B0l (M := M) (D := D) (N := N) (deep := deep) (c := c) (by omega) (hR.trans (by assumption)); refine I1 (fun (x : Nat × Int) => ⟨[(44, .int .i64 x.1), (43, .int .i64 ks.length), (42, .slice p ks.length cp), (5, .pointer (some ⟨bc, 0, none⟩)), (4, .int .i64 N), (3, .int .i64 D), (2, .int .i64 M), (1, .int .i64 deep)], [.blk bc [.int .i64 x.2]], G⟩) (fun x => x.1 ≤ ks.length ∧ 0 ≤ x.2 ∧ x.2 ≤ M ∧ S4 M D N ks (deep + 1) (c + 1) = S4 M D N (ks.drop x.1) (deep + 1) x.2) (fun x => ks.length - x.1) (0, c + 1) ?_ ?_ ?_)
 (simp only [H5]; exact C9)
 exact ⟨by simp, by simp; omega, by simp; omega, by simp⟩
 (rintro ⟨i, ci⟩ ⟨hi, hc0, hc1, hst⟩; simp only [] at hi hc0 hc1 hst ⊢)
 refine tS (tR ?_)
 refine sB (I2 rfl rfl) rfl rfl (fun h132 => ?_) (fun h132 => ?_)
 refine sD (nS (tS (qT rfl (tK (nS (tS ?_))))))
 refine B3 ?_
 refine tS (tR ?_)
 (obtain ⟨b, o, e, rfl, hl, hat, hre, hgb⟩ := hsl.kidTm hkl (i := i) (by omega) (by omega); have hone := hre.one; have hle := A4N M D N ks[i] (deep + 1) ci hc0 hc1; refine sP (A8 rfl rfl rfl (by omega)) rfl rfl ?_)
 refine sL (A0 rfl rfl (hat _) hl) rfl rfl ?_
 refine sE (A5 rfl) rfl (fun b145 => ?_)
 refine S6 rfl rfl rfl (by assumption) (by assumption) rfl (by repeat first | exact Sw.here | apply Sw.there) (by exact D4 (by symm; assumption)) ?_
 refine sD (nS (tS (tR ?_)))
 refine sL (A0 rfl rfl (A9 (by repeat first | exact mH | apply mT)) (by assumption)) rfl rfl ?_
 refine sQ (qM rfl) rfl ?_
 refine sP (E8 rfl rfl (by omega) (by omega)) rfl rfl ?_
 refine H8 ?_
 refine A97 rfl (ih ks[i] (List.getElem_mem _) (deep + 1) ci G e (by omega) (by omega) hre) (Pk.perm (by repeat (first | exact Pk.here | apply Pk.there))) rfl rfl (fun h158 => ?_) (fun h158 => ?_)
 refine D3 ?_
 refine sP (E8 rfl rfl (by omega) (by omega)) rfl rfl ?_
 refine sQ (qM rfl) rfl (sD ?_)
 refine I4 (i + 1, (R5 M D N ks[i] (deep + 1) ci).2) ?_ ?_ ?_
 (simp only [H5]; exact C9)
 exact ⟨by omega, by omega, hle.2.2 (by assumption), by rw [hst, B0m (by omega) (by assumption)]⟩
 (show ks.length - (i + 1) < ks.length - i; omega)
 refine H3 ?_
 refine N9 (outs := [.blk bc [.int .i64 _]]) (rT rfl) (A7.cons (by repeat (first | exact Pk.here | apply Pk.there)) A7.nil) ?_
 (rw [hmk, hst, B0n (by omega) (by assumption)]; exact ⟨rfl, rfl, rfl⟩)
 refine H3 ?_
 refine N9 (outs := [.blk bc [.int .i64 _]]) (rT rfl) (A7.cons (by repeat (first | exact Pk.here | apply Pk.there)) A7.nil) ?_
 (rw [hmk, hst, B0o (by omega)]; exact ⟨rfl, rfl, rfl⟩)
 refine J9 ?_
 refine N9 (outs := [.blk bc [.int .i64 _]]) (rT rfl) (A7.cons (by repeat (first | exact Pk.here | apply Pk.there)) A7.nil) ?_
 (rw [A3O (by rw [hR]; first | omega | exact Or.inr (Or.inr (Or.inr (by assumption)))) ]; exact ⟨rfl, rfl, rfl⟩)
theorem A7g (t : Tm) (G : IM) (cells : List Value) (hr : A6 G t cells) : Fn Tryz.prog 77 [.agg ⟨cells⟩] [] G (E4 (.bool (P7 t)) G) := by
 have hl := hr.len
 refine B4 Tryz.func77 rfl Tryz.ntmps77 Tryz.results77 rfl ?_
 intro w0
 refine tS (tR ?_)
 refine sE (C1 rfl rfl) rfl (fun b3 => ?_)
 refine sQ (qA rfl) rfl (sD (nS (tS (tR ?_))))
 refine sE (A5 rfl) rfl (fun b9 => ?_)
 refine J7 ?_
 refine sD (nS (tS (tR ?_)))
 refine sL (A0 rfl rfl (A9 (by repeat first | exact mH | apply mT)) (by assumption)) rfl rfl ?_
 refine A3K rfl (A7f 200 40 13 (by omega) (by omega) _ t 1 0 G cells (by omega) (by omega) hr) A0j rfl rfl ?_
 refine sQ (qA rfl) rfl (sD (nS (tT (E1 (rT rfl) ?_))))
 exact ⟨rfl, rfl, rfl⟩
theorem A7h (t : Tm) (G : IM) (cells : List Value) (hr : A6 G t cells) : Fn Tryz.prog 40 [.agg ⟨cells⟩] [] G (E4 (.bool (P0 t)) G) := by
 have hl := hr.len
 refine B4 Tryz.func40 rfl Tryz.ntmps40 Tryz.results40 rfl ?_
 intro w0
 refine tS (tR ?_)
 refine sE (C1 rfl rfl) rfl (fun b3 => ?_)
 refine sQ (qA rfl) rfl (sD (nS (tS (tR ?_))))
 refine sE (A5 rfl) rfl (fun b9 => ?_)
 refine J7 ?_
 refine sD (nS (tS (tR ?_)))
 refine sL (A0 rfl rfl (A9 (by repeat first | exact mH | apply mT)) (by assumption)) rfl rfl ?_
 refine A3K rfl (A7f 30 12 14 (by omega) (by omega) _ t 1 0 G cells (by omega) (by omega) hr) A0j rfl rfl ?_
 refine sQ (qA rfl) rfl (sD (nS (tT (E1 (rT rfl) ?_))))
 exact ⟨rfl, rfl, rfl⟩
theorem B1n (k : Int) (G : IM) : Fn Tryz.prog 210 [.int .i64 k] [] G (E4 (.int .i64 (A0r k)) G) := by
 refine B4 Tryz.func210 rfl Tryz.ntmps210 Tryz.results210 rfl ?_
 intro w0
 refine F8 ?_
 refine B3 ?_
 refine tS (tS (tR ?_))
 refine sB (qE rfl rfl) rfl rfl (fun h16 => ?_) (fun h16 => ?_)
 refine J1 ?_
 exact ⟨rfl, by (first | rw [(M3 k).1 (by omega)] | rw [(M3 k).2.1 (by omega)] | rw [(M3 k).2.2 (by omega) (by omega) (by omega) (by omega) (by omega)]), rfl⟩
 refine sQ (qA rfl) rfl (sD (nS (cF rfl (tS (tR ?_)))))
 refine sB (qE rfl rfl) rfl rfl (fun h40 => ?_) (fun h40 => ?_)
 refine J1 ?_
 exact ⟨rfl, by (first | rw [(M3 k).1 (by omega)] | rw [(M3 k).2.1 (by omega)] | rw [(M3 k).2.2 (by omega) (by omega) (by omega) (by omega) (by omega)]), rfl⟩
 refine sQ (qA rfl) rfl (sD (nS (cF rfl (tR ?_))))
 refine sB (qE rfl rfl) rfl rfl (fun h63 => ?_) (fun h63 => ?_)
 refine K1 ?_
 exact ⟨rfl, by (first | rw [(M3 k).1 (by omega)] | rw [(M3 k).2.1 (by omega)] | rw [(M3 k).2.2 (by omega) (by omega) (by omega) (by omega) (by omega)]), rfl⟩
 refine sQ (qA rfl) rfl (sD (nS (cF rfl (tS (tS (tR ?_))))))
 refine sB (qE rfl rfl) rfl rfl (fun h85 => ?_) (fun h85 => ?_)
 refine J1 ?_
 exact ⟨rfl, by (first | rw [(M3 k).1 (by omega)] | rw [(M3 k).2.1 (by omega)] | rw [(M3 k).2.2 (by omega) (by omega) (by omega) (by omega) (by omega)]), rfl⟩
 refine sQ (qA rfl) rfl (sD (nS (cF rfl (tR ?_))))
 refine sB (qE rfl rfl) rfl rfl (fun h108 => ?_) (fun h108 => ?_)
 refine K1 ?_
 exact ⟨rfl, by (first | rw [(M3 k).1 (by omega)] | rw [(M3 k).2.1 (by omega)] | rw [(M3 k).2.2 (by omega) (by omega) (by omega) (by omega) (by omega)]), rfl⟩
 refine L5 ?_
 exact ⟨rfl, by (first | rw [(M3 k).1 (by omega)] | rw [(M3 k).2.1 (by omega)] | rw [(M3 k).2.2 (by omega) (by omega) (by omega) (by omega) (by omega)]), rfl⟩
theorem A7i (k : Int) (G : IM) : Fn Tryz.prog 219 [.int .i64 k] [] G (E4 (.int .i64 (D9 k)) G) := by
 refine B4 Tryz.func219 rfl Tryz.ntmps219 Tryz.results219 rfl ?_
 intro w0
 refine F8 ?_
 refine B3 ?_
 refine tS (tS (tR ?_))
 refine sB (qE rfl rfl) rfl rfl (fun h16 => ?_) (fun h16 => ?_)
 refine J1 ?_
 exact ⟨rfl, by (unfold D9; first | rw [if_pos (by omega)] | rw [if_neg (by omega), if_pos (by omega)] | rw [if_neg (by omega), if_neg (by omega), if_pos (by omega)] | rw [if_neg (by omega), if_neg (by omega), if_neg (by omega), if_pos (by omega)] | rw [if_neg (by omega), if_neg (by omega), if_neg (by omega), if_neg (by omega)]), rfl⟩
 refine sQ (qA rfl) rfl (sD (nS (cF rfl (tS (tR ?_)))))
 refine sB (qE rfl rfl) rfl rfl (fun h40 => ?_) (fun h40 => ?_)
 refine J1 ?_
 exact ⟨rfl, by (unfold D9; first | rw [if_pos (by omega)] | rw [if_neg (by omega), if_pos (by omega)] | rw [if_neg (by omega), if_neg (by omega), if_pos (by omega)] | rw [if_neg (by omega), if_neg (by omega), if_neg (by omega), if_pos (by omega)] | rw [if_neg (by omega), if_neg (by omega), if_neg (by omega), if_neg (by omega)]), rfl⟩
 refine sQ (qA rfl) rfl (sD (nS (cF rfl (tS (tR ?_)))))
 refine sB (qE rfl rfl) rfl rfl (fun h64 => ?_) (fun h64 => ?_)
 refine J1 ?_
 exact ⟨rfl, by (unfold D9; first | rw [if_pos (by omega)] | rw [if_neg (by omega), if_pos (by omega)] | rw [if_neg (by omega), if_neg (by omega), if_pos (by omega)] | rw [if_neg (by omega), if_neg (by omega), if_neg (by omega), if_pos (by omega)] | rw [if_neg (by omega), if_neg (by omega), if_neg (by omega), if_neg (by omega)]), rfl⟩
 refine sQ (qA rfl) rfl (sD (nS (cF rfl (tR ?_))))
 refine sB (qE rfl rfl) rfl rfl (fun h87 => ?_) (fun h87 => ?_)
 refine K1 ?_
 exact ⟨rfl, by (unfold D9; first | rw [if_pos (by omega)] | rw [if_neg (by omega), if_pos (by omega)] | rw [if_neg (by omega), if_neg (by omega), if_pos (by omega)] | rw [if_neg (by omega), if_neg (by omega), if_neg (by omega), if_pos (by omega)] | rw [if_neg (by omega), if_neg (by omega), if_neg (by omega), if_neg (by omega)]), rfl⟩
 refine sQ (qA rfl) rfl (sD (nS (cF rfl (tS (tS (tR ?_))))))
 refine sB (qE rfl rfl) rfl rfl (fun h109 => ?_) (fun h109 => ?_)
 refine J1 ?_
 exact ⟨rfl, by (unfold D9; first | rw [if_pos (by omega)] | rw [if_neg (by omega), if_pos (by omega)] | rw [if_neg (by omega), if_neg (by omega), if_pos (by omega)] | rw [if_neg (by omega), if_neg (by omega), if_neg (by omega), if_pos (by omega)] | rw [if_neg (by omega), if_neg (by omega), if_neg (by omega), if_neg (by omega)]), rfl⟩
 refine sQ (qA rfl) rfl (sD (nS (cF rfl (tS (tR ?_)))))
 refine sB (qE rfl rfl) rfl rfl (fun h133 => ?_) (fun h133 => ?_)
 refine J1 ?_
 exact ⟨rfl, by (unfold D9; first | rw [if_pos (by omega)] | rw [if_neg (by omega), if_pos (by omega)] | rw [if_neg (by omega), if_neg (by omega), if_pos (by omega)] | rw [if_neg (by omega), if_neg (by omega), if_neg (by omega), if_pos (by omega)] | rw [if_neg (by omega), if_neg (by omega), if_neg (by omega), if_neg (by omega)]), rfl⟩
 refine sQ (qA rfl) rfl (sD (nS (cF rfl (tS (tR ?_)))))
 refine sB (qE rfl rfl) rfl rfl (fun h157 => ?_) (fun h157 => ?_)
 refine J1 ?_
 exact ⟨rfl, by (unfold D9; first | rw [if_pos (by omega)] | rw [if_neg (by omega), if_pos (by omega)] | rw [if_neg (by omega), if_neg (by omega), if_pos (by omega)] | rw [if_neg (by omega), if_neg (by omega), if_neg (by omega), if_pos (by omega)] | rw [if_neg (by omega), if_neg (by omega), if_neg (by omega), if_neg (by omega)]), rfl⟩
 refine sQ (qA rfl) rfl (sD (nS (cF rfl (tS (tR ?_)))))
 refine sB (qE rfl rfl) rfl rfl (fun h181 => ?_) (fun h181 => ?_)
 refine J1 ?_
 exact ⟨rfl, by (unfold D9; first | rw [if_pos (by omega)] | rw [if_neg (by omega), if_pos (by omega)] | rw [if_neg (by omega), if_neg (by omega), if_pos (by omega)] | rw [if_neg (by omega), if_neg (by omega), if_neg (by omega), if_pos (by omega)] | rw [if_neg (by omega), if_neg (by omega), if_neg (by omega), if_neg (by omega)]), rfl⟩
 refine sQ (qA rfl) rfl (sD (nS (cF rfl (tR ?_))))
 refine sB (qE rfl rfl) rfl rfl (fun h204 => ?_) (fun h204 => ?_)
 refine K1 ?_
 exact ⟨rfl, by (unfold D9; first | rw [if_pos (by omega)] | rw [if_neg (by omega), if_pos (by omega)] | rw [if_neg (by omega), if_neg (by omega), if_pos (by omega)] | rw [if_neg (by omega), if_neg (by omega), if_neg (by omega), if_pos (by omega)] | rw [if_neg (by omega), if_neg (by omega), if_neg (by omega), if_neg (by omega)]), rfl⟩
 refine sQ (qA rfl) rfl (sD (nS (cF rfl (tS (tS (tR ?_))))))
 refine sB (qE rfl rfl) rfl rfl (fun h226 => ?_) (fun h226 => ?_)
 refine J1 ?_
 exact ⟨rfl, by (unfold D9; first | rw [if_pos (by omega)] | rw [if_neg (by omega), if_pos (by omega)] | rw [if_neg (by omega), if_neg (by omega), if_pos (by omega)] | rw [if_neg (by omega), if_neg (by omega), if_neg (by omega), if_pos (by omega)] | rw [if_neg (by omega), if_neg (by omega), if_neg (by omega), if_neg (by omega)]), rfl⟩
 refine sQ (qA rfl) rfl (sD (nS (cF rfl (tS (tR ?_)))))
 refine sB (qE rfl rfl) rfl rfl (fun h250 => ?_) (fun h250 => ?_)
 refine J1 ?_
 exact ⟨rfl, by (unfold D9; first | rw [if_pos (by omega)] | rw [if_neg (by omega), if_pos (by omega)] | rw [if_neg (by omega), if_neg (by omega), if_pos (by omega)] | rw [if_neg (by omega), if_neg (by omega), if_neg (by omega), if_pos (by omega)] | rw [if_neg (by omega), if_neg (by omega), if_neg (by omega), if_neg (by omega)]), rfl⟩
 refine sQ (qA rfl) rfl (sD (nS (cF rfl (tS (tR ?_)))))
 refine sB (qE rfl rfl) rfl rfl (fun h274 => ?_) (fun h274 => ?_)
 refine J1 ?_
 exact ⟨rfl, by (unfold D9; first | rw [if_pos (by omega)] | rw [if_neg (by omega), if_pos (by omega)] | rw [if_neg (by omega), if_neg (by omega), if_pos (by omega)] | rw [if_neg (by omega), if_neg (by omega), if_neg (by omega), if_pos (by omega)] | rw [if_neg (by omega), if_neg (by omega), if_neg (by omega), if_neg (by omega)]), rfl⟩
 refine sQ (qA rfl) rfl (sD (nS (cF rfl (tR ?_))))
 refine sB (qE rfl rfl) rfl rfl (fun h297 => ?_) (fun h297 => ?_)
 refine K1 ?_
 exact ⟨rfl, by (unfold D9; first | rw [if_pos (by omega)] | rw [if_neg (by omega), if_pos (by omega)] | rw [if_neg (by omega), if_neg (by omega), if_pos (by omega)] | rw [if_neg (by omega), if_neg (by omega), if_neg (by omega), if_pos (by omega)] | rw [if_neg (by omega), if_neg (by omega), if_neg (by omega), if_neg (by omega)]), rfl⟩
 refine sQ (qA rfl) rfl (sD (nS (cF rfl (tS (tR ?_)))))
 refine sB (qE rfl rfl) rfl rfl (fun h318 => ?_) (fun h318 => ?_)
 refine K1 ?_
 exact ⟨rfl, by (unfold D9; first | rw [if_pos (by omega)] | rw [if_neg (by omega), if_pos (by omega)] | rw [if_neg (by omega), if_neg (by omega), if_pos (by omega)] | rw [if_neg (by omega), if_neg (by omega), if_neg (by omega), if_pos (by omega)] | rw [if_neg (by omega), if_neg (by omega), if_neg (by omega), if_neg (by omega)]), rfl⟩
 refine L5 ?_
 exact ⟨rfl, by (unfold D9; first | rw [if_pos (by omega)] | rw [if_neg (by omega), if_pos (by omega)] | rw [if_neg (by omega), if_neg (by omega), if_pos (by omega)] | rw [if_neg (by omega), if_neg (by omega), if_neg (by omega), if_pos (by omega)] | rw [if_neg (by omega), if_neg (by omega), if_neg (by omega), if_neg (by omega)]), rfl⟩
theorem B1o (s : ByteArray) (G : IM) : Fn Tryz.prog 233 [.string s] [] G (E4 (.bool (X1 s)) G) := by
 refine B4 Tryz.func233 rfl Tryz.ntmps233 Tryz.results233 rfl ?_
 intro w0
 refine D3 ?_
 refine sQ (A4w rfl rfl) rfl (sB (qE rfl rfl) rfl rfl (fun h10 => ?_) (fun h10 => ?_))
 refine sQ (qM rfl) rfl (sQ (qM rfl) rfl ?_)
 refine sP (A3E rfl rfl rfl (by omega) (A3N (by omega))) rfl rfl ?_
 refine sB (A0X rfl rfl) rfl rfl (fun h14 => ?_) (fun h14 => ?_)
 refine sQ (L4 rfl rfl) rfl (sQ (qM rfl) rfl (sQ (qM rfl) rfl ?_))
 refine sP (A3E rfl rfl rfl (by omega) (A3N (by omega))) rfl rfl ?_
 refine sB (W9 rfl rfl) rfl rfl (fun h19 => ?_) (fun h19 => ?_)
 refine E2 ?_
 exact ⟨rfl, by simp only [X1]; (try simp only [Int.toNat_zero] at *); (first | rw [decide_eq_true (by omega)] | rw [decide_eq_false (by omega)]), rfl⟩
 refine E2 ?_
 exact ⟨rfl, by simp only [X1]; (try simp only [Int.toNat_zero] at *); (first | rw [decide_eq_true (by omega)] | rw [decide_eq_false (by omega)]), rfl⟩
 refine F8 ?_
 exact ⟨rfl, by simp only [X1]; (try simp only [Int.toNat_zero] at *); (first | rw [decide_eq_true (by omega)] | rw [decide_eq_false (by omega)]), rfl⟩
 refine H3 ?_
 exact ⟨rfl, by simp only [X1]; (try simp only [Int.toNat_zero] at *); (first | rw [decide_eq_true (by omega)] | rw [decide_eq_false (by omega)]), rfl⟩
theorem A7j (t : Ty) (G : IM) (cells : List Value) (hr : B6 G t cells) : Fn Tryz.prog 242 [.agg ⟨cells⟩] [] G (E4 (.bool (X0 t)) G) := by
 obtain ⟨p, c, es, rfl, hk, hsl, hkl⟩ := hr.open
 refine B4 Tryz.func242 rfl Tryz.ntmps242 Tryz.results242 rfl ?_
 intro w0
 refine tS (tR ?_)
 refine sE (C1 rfl rfl) rfl (fun b3 => ?_)
 refine C3 ?_
 refine sB (qE rfl rfl) rfl rfl (fun h11 => ?_) (fun h11 => ?_)
 refine H8 ?_
 refine sB (qE rfl rfl) rfl rfl (fun h16 => ?_) (fun h16 => ?_)
 refine E2 ?_
 exact ⟨rfl, by simp only [X0]; (first | rw [decide_eq_true (by omega)] | rw [decide_eq_false (by omega)]), rfl⟩
 refine E2 ?_
 exact ⟨rfl, by simp only [X0]; (first | rw [decide_eq_true (by omega)] | rw [decide_eq_false (by omega)]), rfl⟩
 refine F8 ?_
 exact ⟨rfl, by simp only [X0]; (first | rw [decide_eq_true (by omega)] | rw [decide_eq_false (by omega)]), rfl⟩
def A0A (n : Int) : Int := if n < -99 ∨ n > 99 then 0 else if n < 0 then -n else n
theorem B1p (n : Int) (G : IM) : Fn Tryz.prog 241 [.int .i64 n] [] G (E4 (.int .i64 (A0A n)) G) := by
 refine B4 Tryz.func241 rfl Tryz.ntmps241 Tryz.results241 rfl ?_
 intro w0
 refine D8 ?_
 refine sB (I2 rfl rfl) rfl rfl (fun h10 => ?_) (fun h10 => ?_)
 refine H3 ?_
 exact ⟨rfl, by (unfold A0A; first | rw [if_pos (by omega)] | rw [if_neg (by omega), if_pos (by omega)] | rw [if_neg (by omega), if_neg (by omega)]), rfl⟩
 refine sQ (qM rfl) rfl (sQ (qM rfl) rfl ?_)
 refine sB (A0W rfl rfl) rfl rfl (fun h29 => ?_) (fun h29 => ?_)
 refine J9 ?_
 exact ⟨rfl, by (unfold A0A; first | rw [if_pos (by omega)] | rw [if_neg (by omega), if_pos (by omega)] | rw [if_neg (by omega), if_neg (by omega)]), rfl⟩
 refine I8 ?_
 refine sB (I2 rfl rfl) rfl rfl (fun h53 => ?_) (fun h53 => ?_)
 refine sD (nS (qT rfl (tS (tR (sQ (qM rfl) rfl ?_)))))
 refine sP (A3C rfl (by omega) (by omega)) rfl rfl ?_
 refine sQ (qA rfl) rfl (sD (nS (tT (rS (E1 (rT rfl) ?_)))))
 exact ⟨rfl, by (unfold A0A; first | rw [if_pos (by omega)] | rw [if_neg (by omega), if_pos (by omega)] | rw [if_neg (by omega), if_neg (by omega)]), rfl⟩
 refine K1 ?_
 exact ⟨rfl, by (unfold A0A; first | rw [if_pos (by omega)] | rw [if_neg (by omega), if_pos (by omega)] | rw [if_neg (by omega), if_neg (by omega)]), rfl⟩
theorem A7k {k : Int} {ks : List Ty} {d : Int} (h : 4 < d ∨ A0r k ≠ ks.length) : K4 (.mk k ks) d = false := by
 rw [K4]
 rcases h with h | h
 ·rw [decide_eq_false (by omega)]; rfl
 ·rw [decide_eq_false (p := A0r k = ks.length) h, Bool.and_false]; rfl
theorem A7l {k : Int} {ks : List Ty} {d : Int} (h : d ≤ 4) (h2 : A0r k = ks.length) : K4 (.mk k ks) d = T3 ks (d + 1) := by
 rw [K4, decide_eq_true h, decide_eq_true h2]; rfl
theorem B1q {ks : List Ty} {d : Int} {i : Nat} (hi : i < ks.length) (h : K4 ks[i] d = false) : T3 ks d = false := by
 cases hx : T3 ks d with
 | false => rfl
 | true => rw [(A3M ks d).1 hx i hi] at h; cases h
theorem B1r : ∀ (t : Ty) (d : Int) (G : IM) (cells : List Value), 0 ≤ d ∧ d ≤ 4 → B6 G t cells →
  Fn Tryz.prog 196 [.agg ⟨cells⟩, .int .i64 d] [] G (E4 (.bool (K4 t (5 - d))) G) := by
 refine Ty.ind fun k ks ih d G cells hd hr => ?_
 obtain ⟨p, c, es, rfl, hk, hsl, hkl⟩ := hr.open
 simp only [Ty.k, Ty.ks] at hk hsl hkl ⊢
 have hn := hsl.le
 have hk1 := B1n k G
 refine B4 Tryz.func196 rfl Tryz.ntmps196 Tryz.results196 rfl ?_
 intro w0
 refine tS (tR ?_)
 refine sE (C1 rfl rfl) rfl (fun b3 => ?_)
 refine sQ (qA rfl) rfl (sD (nS (tS (tS ?_))))
 refine D5 D6 rfl ?_
 refine J6 (i := 0) (l' := [tt,ff,ff,ff,ff,ff,ff,ff,ff,ff,ff]) rfl D0 (qM rfl) rfl (by kernel_rfl) rfl rfl ?_
 refine A0n (i := 1) (l' := [tt,tt,ff,ff,ff,ff,ff,ff,ff,ff,ff]) rfl D0 (I2 rfl rfl) rfl (by kernel_rfl) rfl rfl (fun h11 => ?_) (fun h11 => ?_)
 refine aP 2 rfl (qM rfl) rfl ?_
 refine B8 3 rfl rfl rfl ?_
 refine B8 4 rfl rfl rfl ?_
 refine B8 6 rfl rfl rfl ?_
 refine B8 7 rfl rfl rfl ?_
 refine B8 8 rfl rfl rfl ?_
 refine B8 5 rfl rfl rfl ?_
 refine B8 9 rfl rfl rfl ?_
 refine aP 10 rfl (L4 rfl rfl) rfl ?_
 refine F8 ?_
 (rw [A7k (by omega)]; exact ⟨rfl, rfl, rfl⟩)
 refine aP 2 rfl (qM rfl) rfl ?_
 refine aP 3 rfl (B0 rfl) rfl ?_
 refine aL 4 rfl (B9 rfl rfl) rfl ?_
 refine aP 6 rfl (B0 rfl) rfl ?_
 refine aL 7 rfl (B9 rfl rfl) rfl ?_
 refine aP 8 rfl (pLn rfl rfl) rfl ?_
 refine A2 5 ?_
 refine M6 rfl rfl (hk1) rfl rfl rfl ?_
 refine A0n (i := 9) (l' := [tt,tt,tt,tt,tt,tt,tt,tt,tt,tt,ff]) rfl D0 (N7 rfl rfl) rfl (by kernel_rfl) rfl rfl (fun h41 => ?_) (fun h41 => ?_)
 refine aP 10 rfl (N4 rfl rfl) rfl ?_
 refine F8 ?_
 (rw [A7k (by omega)]; exact ⟨rfl, rfl, rfl⟩)
 refine aP 10 rfl (N4 rfl rfl) rfl ?_
 refine F8 ?_
 refine B3 ?_
 (refine I1 (fun (i : Nat) => ⟨[(5, .int .i64 i), (2, .pointer (some ⟨b3, 0, none⟩)), (1, .int .i64 d)], [.blk b3 [.int .i64 k, .slice p ks.length c]], G⟩) (fun i => i ≤ ks.length ∧ ∀ j (h : j < ks.length), j < i → K4 ks[j] (5 - d + 1) = true) (fun i => ks.length - i) 0 ?_ ?_ ?_)
 exact C9
 exact ⟨by omega, by omega⟩
 (rintro i ⟨hi, hf⟩)
 refine C3 ?_
 refine sB (I2 rfl rfl) rfl rfl (fun h79 => ?_) (fun h79 => ?_)
 refine sD (nS (qT rfl (tK (nS (tS ?_)))))
 refine B3 ?_
 refine O8 ?_
 (obtain ⟨b, o, p2, c2, rfl, hat, hre, hgb⟩ := hsl.kidTy hkl (i := i) (by omega) (by omega); refine sP (A8 rfl rfl rfl (by omega)) rfl rfl ?_)
 refine sL (A0 rfl rfl (hat _) rfl) rfl rfl ?_
 refine sQ (qM rfl) rfl ?_
 refine sP (W8 rfl rfl (by omega) (by omega)) rfl rfl ?_
 (have hih := ih ks[i] (List.getElem_mem (by omega)) (d - 1) G _ (by omega) hre; rw [show 5 - (d - 1) = 5 - d + 1 by omega] at hih; refine F0 rfl hih rfl rfl (fun h96 => ?_) (fun h96 => ?_))
 refine D8 ?_
 refine sP (E8 rfl rfl (by omega) (by omega)) rfl rfl ?_
 refine sQ (qA rfl) rfl (sD ?_)
 refine I4 (i + 1) ?_ ?_ ?_
 exact C9
 exact ⟨by omega, fun j hj hji => by (by_cases he : j = i; (subst he; assumption); exact hf j hj (by omega))⟩
 omega
 refine J1 ?_
 (rw [A7l (by omega) (by omega), B1q (i := i) (by omega) (by assumption)]; exact ⟨rfl, rfl, rfl⟩)
 refine H3 ?_
 (rw [A7l (by omega) (by omega), (A3M ks _).2 (fun j hj => hf j hj (by omega))]; exact ⟨rfl, rfl, rfl⟩)
theorem A1D (t : Ty) (G : IM) (cells : List Value) (hr : B6 G t cells) : Fn Tryz.prog 143 [.agg ⟨cells⟩] [] G (E4 (.bool (F4 t)) G) := by
 have hl := hr.len
 have hv := B1r t 4 G cells (by omega) hr
 refine B4 Tryz.func143 rfl Tryz.ntmps143 Tryz.results143 rfl ?_
 intro w0
 refine tS (tR ?_)
 refine sE (C1 rfl rfl) rfl (fun b3 => ?_)
 refine sQ (qA rfl) rfl (sD (nS (tS (tR ?_))))
 refine sL (A0 rfl rfl (A9 (by repeat first | exact mH | apply mT)) (by assumption)) rfl rfl ?_
 refine I3 rfl (hv) rfl rfl ?_
 refine sQ (qA rfl) rfl (sD (nS (tT (E1 (rT rfl) ?_))))
 exact ⟨rfl, rfl, rfl⟩
theorem A3c {k : Int} {ks : List Ty} {d : Int} (h : K4 (.mk k ks) d = true) : A0r k = ks.length ∧ ∀ i, (hi : i < ks.length) → K4 ks[i] (d + 1) = true := by
 rw [K4] at h
 simp only [Bool.and_eq_true, decide_eq_true_eq] at h
 exact ⟨h.1.2, (A3M ks _).1 h.2⟩
theorem A3X {k k' : Int} {ks ks' : List Ty} (h : k = 1 ∨ k' = 1) : J5 (.mk k ks) (.mk k' ks') = true := by
 rw [W0]
 rcases h with h | h
 ·rw [decide_eq_true (p := k = 1) h]; rfl
 ·rw [decide_eq_true (p := k' = 1) h]; simp
theorem A7m {k k' : Int} {ks ks' : List Ty} (h : k ≠ 1) (h' : k' ≠ 1) (hk : k ≠ k') : J5 (.mk k ks) (.mk k' ks') = false := by
 rw [W0, decide_eq_false h, decide_eq_false h', decide_eq_false hk]; rfl
theorem A3Y {k k' : Int} {ks ks' : List Ty} (h : k ≠ 1) (h' : k' ≠ 1) (hk : k = k') : J5 (.mk k ks) (.mk k' ks') = O9 ks ks' := by
 rw [W0, decide_eq_false h, decide_eq_false h', decide_eq_true hk]; rfl
theorem A7n {ks ks' : List Ty} {i : Nat} (hi : i < ks.length) (hi' : i < ks'.length) (h : J5 ks[i] ks'[i] = false) : O9 ks ks' = false := by
 cases hx : O9 ks ks' with
 | false => rfl
 | true => rw [((A1v ks ks').1 hx).2 i hi hi'] at h; cases h
theorem B1s : ∀ (t t' : Ty) (G : IM) (cells cells' : List Value) (d d' : Int), K4 t d = true → K4 t' d' = true → B6 G t cells → B6 G t' cells' →
  Fn Tryz.prog 206 [.agg ⟨cells⟩, .agg ⟨cells'⟩] [] G (E4 (.bool (J5 t t')) G) := by
 refine Ty.ind fun k ks ih t' G cells cells' d d' hv hv' hr hr' => ?_
 obtain ⟨k', ks'⟩ := t'
 obtain ⟨p, c, es, rfl, hk, hsl, hkl⟩ := hr.open
 obtain ⟨p', c', es', rfl, hk', hsl', hkl'⟩ := hr'.open
 simp only [Ty.k, Ty.ks] at hk hsl hkl hk' hsl' hkl' ⊢
 have hn := hsl.le
 have hn' := hsl'.le
 obtain ⟨hv1, hv2⟩ := A3c hv
 obtain ⟨hv1', hv2'⟩ := A3c hv'
 have hle : k = k' → ks.length = ks'.length := by rintro rfl; omega
 refine B4 Tryz.func206 rfl Tryz.ntmps206 Tryz.results206 rfl ?_
 intro w0
 refine tS (tR ?_)
 refine sE (C1 rfl rfl) rfl (fun b3 => ?_)
 refine sE (C1 rfl rfl) rfl (fun b4 => ?_)
 refine D3 ?_
 refine sB (qE rfl rfl) rfl rfl (fun h13 => ?_) (fun h13 => ?_)
 refine J1 ?_
 (rw [A3X (by omega)]; exact ⟨rfl, rfl, rfl⟩)
 refine J2 ?_
 refine sB (qE rfl rfl) rfl rfl (fun h34 => ?_) (fun h34 => ?_)
 refine J9 ?_
 (rw [A3X (by omega)]; exact ⟨rfl, rfl, rfl⟩)
 refine K1 ?_
 refine sB (N7 rfl rfl) rfl rfl (fun h61 => ?_) (fun h61 => ?_)
 refine F8 ?_
 (rw [A7m (by omega) (by omega) (by omega)]; exact ⟨rfl, rfl, rfl⟩)
 refine F8 ?_
 refine B3 ?_
 (have hll : ks.length = ks'.length := hle (by omega); refine I1 (fun (i : Nat) => ⟨[(5, .int .i64 i), (3, .pointer (some ⟨b4, 0, none⟩)), (2, .pointer (some ⟨b3, 0, none⟩))], [.blk b3 [.int .i64 k, .slice p ks.length c], .blk b4 [.int .i64 k', .slice p' ks'.length c']], G⟩) (fun i => i ≤ ks.length ∧ ∀ j (h : j < ks.length) (h' : j < ks'.length), j < i → J5 ks[j] ks'[j] = true) (fun i => ks.length - i) 0 ?_ ?_ ?_)
 exact C9
 exact ⟨by omega, by omega⟩
 (rintro i ⟨hi, hf⟩)
 refine C3 ?_
 refine sB (I2 rfl rfl) rfl rfl (fun h97 => ?_) (fun h97 => ?_)
 refine sD (nS (qT rfl (tK (nS (tS ?_)))))
 refine B3 ?_
 refine tS ?_
 (obtain ⟨b, o, p2, c2, rfl, hat, hre, hgb⟩ := hsl.kidTy hkl (i := i) (by omega) (by omega); obtain ⟨b', o', p2', c2', rfl, hat', hre', hgb'⟩ := hsl'.kidTy hkl' (i := i) (by omega) (by omega); refine D5 D6 rfl ?_)
 refine J6 (i := 0) (l' := [tt,ff,ff,ff,ff,ff,ff,ff,ff,ff,ff,ff]) rfl D0 (B0 rfl) rfl (by kernel_rfl) rfl rfl ?_
 refine aL 1 rfl (B9 rfl rfl) rfl ?_
 refine aP 2 rfl (qM rfl) rfl ?_
 refine aP 3 rfl (A8 rfl rfl rfl (by omega)) rfl ?_
 refine aL 4 rfl (A0 rfl rfl (hat _) rfl) rfl ?_
 refine aP 5 rfl (B0 rfl) rfl ?_
 refine aL 6 rfl (B9 rfl rfl) rfl ?_
 refine aP 7 rfl (qM rfl) rfl ?_
 refine aP 8 rfl (A8 rfl rfl rfl (by omega)) rfl ?_
 refine aL 9 rfl (A0 rfl rfl (hat' _) rfl) rfl ?_
 refine A2 10 ?_
 refine S3 rfl rfl (ih ks[i] (List.getElem_mem (by omega)) ks'[i] G _ _ _ _ (hv2 i (by omega)) (hv2' i (by omega)) hre hre') rfl rfl rfl (fun h118 => ?_) (fun h118 => ?_)
 refine aP 11 rfl (U0 rfl) rfl ?_
 refine D3 ?_
 refine sP (E8 rfl rfl (by omega) (by omega)) rfl rfl ?_
 refine sQ (qA rfl) rfl (sD ?_)
 refine I4 (i + 1) ?_ ?_ ?_
 exact C9
 exact ⟨by omega, fun j hj hj' hji => by (by_cases he : j = i; (subst he; assumption); exact hf j hj hj' (by omega))⟩
 omega
 refine aP 11 rfl (pNf rfl) rfl ?_
 refine H3 ?_
 (rw [A3Y (by omega) (by omega) (by omega), A7n (i := i) (by omega) (by omega) (by assumption)]; exact ⟨rfl, rfl, rfl⟩)
 refine H3 ?_
 (rw [A3Y (by omega) (by omega) (by omega), (A1v ks _).2 ⟨hll, fun j hj hj' => hf j hj hj' (by omega)⟩]; exact ⟨rfl, rfl, rfl⟩)
section blaws
variable {P : Program} {Γ : L7} {env : M0} {hp : List A4} {G : IM} {ty : TypeId}
theorem A1j {x y : Operand} {t t' : TypeId} {i : L0} [hI : H6 P t i] (hd : i.desc = .bool) {r : Bool} (hx : evo env x = some (.bool r)) (hy : evo env y = some (.bool r)) :
  I9 P Γ ⟨env, hp, G⟩ (.binOp .neq t x y t') ty (.bool false) := by
 have h := A4x (P := P) (Γ := Γ) (hp := hp) (G := G) (t := t) (t' := t') (ty := ty) hd hx hy
 rwa [decide_eq_false (by simp)] at h
theorem A7o {x y : Operand} {t t' : TypeId} {i : L0} [hI : H6 P t i] (hd : i.desc = .bool) (hx : evo env x = some (.bool true)) (hy : evo env y = some (.bool false)) :
  I9 P Γ ⟨env, hp, G⟩ (.binOp .neq t x y t') ty (.bool true) := A4x hd hx hy
theorem A45 {x y : Operand} {t t' : TypeId} {i : L0} [hI : H6 P t i] (hd : i.desc = .bool) (hx : evo env x = some (.bool false)) (hy : evo env y = some (.bool true)) :
  I9 P Γ ⟨env, hp, G⟩ (.binOp .neq t x y t') ty (.bool true) := A4x hd hx hy
end blaws
theorem B1t (n : Int) : ((1 ≤ A0A n ∧ A0A n ≤ 99) ↔ A0M n = true) := by
 unfold A0A A0M R4
 simp only [Bool.or_eq_true, decide_eq_true_eq]
 split
 ·omega
 ·split <;> omega
theorem B1u (k : Int) (nm : ByteArray) (num : Int) (ty fr : Ty) (lb : Int) (ks : List Tm) (G : IM) (cells : List Value) (hr : A6 G (.mk k nm num ty fr lb ks) cells) (R : Bool)
  (hi : R = true ↔ nm = ⟨#[]⟩ ∧ num = 0 ∧ (1 ≤ A0A lb ∧ A0A lb ≤ 99) ∧ F4 ty = true ∧ F4 fr = true ∧ J5 fr ty = true) :
  Fn Tryz.prog 228 [.agg ⟨cells⟩] [] G (E4 (.bool R) G) := by
 obtain ⟨tk, tks⟩ := ty
 obtain ⟨fk, fks⟩ := fr
 obtain ⟨pt, ct, pf, cf, p, c, es, rfl, hk, hnum, hlb, hty, hfr, hsl, hkl⟩ := hr.open9
 clear hr
 have o3 := A1D _ G _ hty
 have o4 := A1D _ G _ hfr
 have o6 := B1p lb G
 refine B4 Tryz.func228 rfl Tryz.ntmps228 Tryz.results228 rfl ?_
 intro w0
 refine tS (tR ?_)
 refine sE (C1 rfl rfl) rfl (fun b3 => ?_)
 refine C3 ?_
 refine I3 rfl (o6) rfl rfl ?_
 refine C3 ?_
 refine sB (A1R rfl rfl) rfl rfl (fun h19 => ?_) (fun h19 => ?_)
 refine J2 ?_
 refine sB (qE rfl rfl) rfl rfl (fun h23 => ?_) (fun h23 => ?_)
 refine sQ (L4 rfl rfl) rfl (sQ (qM rfl) rfl (sQ (qM rfl) rfl ?_))
 refine sB (A0X rfl rfl) rfl rfl (fun h27 => ?_) (fun h27 => ?_)
 refine sQ (L4 rfl rfl) rfl (sQ (qM rfl) rfl (sQ (qM rfl) rfl ?_))
 refine sB (W9 rfl rfl) rfl rfl (fun h31 => ?_) (fun h31 => ?_)
 refine H8 ?_
 refine F0 rfl (o3) rfl rfl (fun h36 => ?_) (fun h36 => ?_)
 refine H8 ?_
 refine F0 rfl (o4) rfl rfl (fun h41 => ?_) (fun h41 => ?_)
 refine E2 ?_
 refine F0 rfl (B1s _ _ G _ _ _ _ (by assumption) (by assumption) hfr hty) rfl rfl (fun h48 => ?_) (fun h48 => ?_)
 refine E2 ?_
 exact ⟨rfl, by rw [hi.2 ⟨by (first | assumption | exact Classical.not_not.1 (by assumption)), by omega, by omega, by assumption, by assumption, by assumption⟩], rfl⟩
 refine E2 ?_
 exact ⟨rfl, by (cases R with | false => rfl | true => (exfalso; obtain ⟨i1, i2, i3, i4, i5, i6⟩ := hi.1 rfl; first | omega | (simp_all; done))), rfl⟩
 refine K1 ?_
 exact ⟨rfl, by (cases R with | false => rfl | true => (exfalso; obtain ⟨i1, i2, i3, i4, i5, i6⟩ := hi.1 rfl; first | omega | (simp_all; done))), rfl⟩
 refine T2 ?_
 exact ⟨rfl, by (cases R with | false => rfl | true => (exfalso; obtain ⟨i1, i2, i3, i4, i5, i6⟩ := hi.1 rfl; first | omega | (simp_all; done))), rfl⟩
 refine A0Y ?_
 exact ⟨rfl, by (cases R with | false => rfl | true => (exfalso; obtain ⟨i1, i2, i3, i4, i5, i6⟩ := hi.1 rfl; first | omega | (simp_all; done))), rfl⟩
 refine A6n ?_
 exact ⟨rfl, by (cases R with | false => rfl | true => (exfalso; obtain ⟨i1, i2, i3, i4, i5, i6⟩ := hi.1 rfl; first | omega | (simp_all; done))), rfl⟩
 refine Y1 ?_
 refine E1 (rT rfl) ?_
 exact ⟨rfl, by (cases R with | false => rfl | true => (exfalso; obtain ⟨i1, i2, i3, i4, i5, i6⟩ := hi.1 rfl; first | omega | (simp_all; done))), rfl⟩
 refine Y1 ?_
 refine sQ (qA rfl) rfl (sD (nS (tT (E1 (rT rfl) ?_))))
 exact ⟨rfl, by (cases R with | false => rfl | true => (exfalso; obtain ⟨i1, i2, i3, i4, i5, i6⟩ := hi.1 rfl; first | omega | (simp_all; done))), rfl⟩
theorem A7p (k : Int) (nm : ByteArray) (num : Int) (ty fr : Ty) (lb : Int) (ks : List Tm) (G : IM) (cells : List Value) (hr : A6 G (.mk k nm num ty fr lb ks) cells) (R : Bool)
  (hi : R = true ↔ (k = 1 ∨ k = 5 → X1 nm = true) ∧ (¬(k = 1 ∨ k = 5) → nm = ⟨#[]⟩) ∧ (k = 5 ∨ k = 13 ∨ k = 14 → F4 ty = true) ∧ (¬(k = 5 ∨ k = 13 ∨ k = 14) → X0 ty = true) ∧ (k ≠ 14 → X0 fr = true ∧ lb = 0) ∧ (k = 2 → 0 ≤ num ∧ num ≤ 999) ∧ (k ≠ 2 → num = 0)) :
  Fn Tryz.prog 229 [.agg ⟨cells⟩] [] G (E4 (.bool R) G) := by
 have he : nm = ⟨#[]⟩ → X1 nm = false := by rintro rfl; rfl
 obtain ⟨tk, tks⟩ := ty
 obtain ⟨fk, fks⟩ := fr
 obtain ⟨pt, ct, pf, cf, p, c, es, rfl, hk, hnum, hlb, hty, hfr, hsl, hkl⟩ := hr.open9
 clear hr
 have o2 := B1o nm G
 have o3 := A1D _ G _ hty
 have o4 := A7j _ G _ hty
 have o7 := A7j _ G _ hfr
 refine B4 Tryz.func229 rfl Tryz.ntmps229 Tryz.results229 rfl ?_
 intro w0
 refine tS (tR ?_)
 refine sE (C1 rfl rfl) rfl (fun b3 => ?_)
 refine C3 ?_
 refine sB (qE rfl rfl) rfl rfl (fun h11 => ?_) (fun h11 => ?_)
 refine J9 ?_
 refine sP (I6 rfl rfl (by omega)) rfl rfl ?_
 refine J2 ?_
 refine sP (I6 rfl rfl (by omega)) rfl rfl ?_
 refine H8 ?_
 refine sP (I6 rfl rfl (by omega)) rfl rfl ?_
 refine I8 ?_
 refine F0 rfl (o2) rfl rfl (fun h44 => ?_) (fun h44 => ?_)
 refine sQ (A1j rfl rfl rfl) rfl ?_
 refine A2w ?_
 refine F0 rfl (o4) rfl rfl (fun h70 => ?_) (fun h70 => ?_)
 refine K1 ?_
 refine sP (A0i rfl rfl (by omega)) rfl rfl ?_
 refine J2 ?_
 refine F0 rfl (o7) rfl rfl (fun h88 => ?_) (fun h88 => ?_)
 refine H8 ?_
 refine sB (N7 rfl rfl) rfl rfl (fun h93 => ?_) (fun h93 => ?_)
 refine K1 ?_
 exact ⟨rfl, by (cases R with | false => rfl | true => (exfalso; obtain ⟨i1, i2, i3, i4, i5, i6, i7⟩ := hi.1 rfl; first | omega | (have j := i1 (by omega); simp_all; done) | (have j := he (i2 (by omega)); simp_all; done) | (have j := i2 (by omega); simp_all; done) | (have j := i3 (by omega); simp_all; done) | (have j := i4 (by omega); simp_all; done) | (have j := i5 (by omega); simp_all; done))), rfl⟩
 refine J9 ?_
 refine sP (I6 rfl rfl (by omega)) rfl rfl ?_
 refine D8 ?_
 refine sB (qE rfl rfl) rfl rfl (fun h130 => ?_) (fun h130 => ?_)
 refine sQ (qA rfl) rfl (sD (nS (tT (E1 (rT rfl) ?_))))
 exact ⟨rfl, by rw [hi.2 ⟨fun _ => by (first | assumption | (exfalso; omega)), fun _ => by (first | assumption | (exfalso; omega) | exact Classical.not_not.1 (by assumption)), fun _ => by (first | assumption | (exfalso; omega)), fun _ => by (first | assumption | (exfalso; omega)), fun _ => ⟨by (first | assumption | (exfalso; omega)), by (first | assumption | omega)⟩, by omega, by omega⟩], rfl⟩
 refine sQ (qA rfl) rfl (sD (nS (tT (E1 (rT rfl) ?_))))
 exact ⟨rfl, by (cases R with | false => rfl | true => (exfalso; obtain ⟨i1, i2, i3, i4, i5, i6, i7⟩ := hi.1 rfl; first | omega | (have j := i1 (by omega); simp_all; done) | (have j := he (i2 (by omega)); simp_all; done) | (have j := i2 (by omega); simp_all; done) | (have j := i3 (by omega); simp_all; done) | (have j := i4 (by omega); simp_all; done) | (have j := i5 (by omega); simp_all; done))), rfl⟩
 refine T2 ?_
 exact ⟨rfl, by (cases R with | false => rfl | true => (exfalso; obtain ⟨i1, i2, i3, i4, i5, i6, i7⟩ := hi.1 rfl; first | omega | (have j := i1 (by omega); simp_all; done) | (have j := he (i2 (by omega)); simp_all; done) | (have j := i2 (by omega); simp_all; done) | (have j := i3 (by omega); simp_all; done) | (have j := i4 (by omega); simp_all; done) | (have j := i5 (by omega); simp_all; done))), rfl⟩
 refine L5 ?_
 exact ⟨rfl, by (cases R with | false => rfl | true => (exfalso; obtain ⟨i1, i2, i3, i4, i5, i6, i7⟩ := hi.1 rfl; first | omega | (have j := i1 (by omega); simp_all; done) | (have j := he (i2 (by omega)); simp_all; done) | (have j := i2 (by omega); simp_all; done) | (have j := i3 (by omega); simp_all; done) | (have j := i4 (by omega); simp_all; done) | (have j := i5 (by omega); simp_all; done))), rfl⟩
 refine sQ (A7o rfl rfl rfl) rfl ?_
 refine Y1 ?_
 refine D8 ?_
 exact ⟨rfl, by (cases R with | false => rfl | true => (exfalso; obtain ⟨i1, i2, i3, i4, i5, i6, i7⟩ := hi.1 rfl; first | omega | (have j := i1 (by omega); simp_all; done) | (have j := he (i2 (by omega)); simp_all; done) | (have j := i2 (by omega); simp_all; done) | (have j := i3 (by omega); simp_all; done) | (have j := i4 (by omega); simp_all; done) | (have j := i5 (by omega); simp_all; done))), rfl⟩
 refine J2 ?_
 refine sB (qE rfl rfl) rfl rfl (fun h221 => ?_) (fun h221 => ?_)
 refine D3 ?_
 refine sP (A0o rfl rfl (by omega)) rfl rfl ?_
 refine A0k ?_
 refine F0 rfl (o2) rfl rfl (fun h250 => ?_) (fun h250 => ?_)
 refine sQ (A1j rfl rfl rfl) rfl ?_
 refine L5 ?_
 refine F0 rfl (o3) rfl rfl (fun h266 => ?_) (fun h266 => ?_)
 refine A0Y ?_
 refine sP (A0i rfl rfl (by omega)) rfl rfl ?_
 refine J2 ?_
 refine F0 rfl (o7) rfl rfl (fun h294 => ?_) (fun h294 => ?_)
 refine H8 ?_
 refine sB (N7 rfl rfl) rfl rfl (fun h299 => ?_) (fun h299 => ?_)
 refine K1 ?_
 exact ⟨rfl, by (cases R with | false => rfl | true => (exfalso; obtain ⟨i1, i2, i3, i4, i5, i6, i7⟩ := hi.1 rfl; first | omega | (have j := i1 (by omega); simp_all; done) | (have j := he (i2 (by omega)); simp_all; done) | (have j := i2 (by omega); simp_all; done) | (have j := i3 (by omega); simp_all; done) | (have j := i4 (by omega); simp_all; done) | (have j := i5 (by omega); simp_all; done))), rfl⟩
 refine J9 ?_
 refine sP (I6 rfl rfl (by omega)) rfl rfl ?_
 refine D8 ?_
 refine sB (qE rfl rfl) rfl rfl (fun h336 => ?_) (fun h336 => ?_)
 refine sQ (qA rfl) rfl (sD (nS (tT (E1 (rT rfl) ?_))))
 exact ⟨rfl, by rw [hi.2 ⟨fun _ => by (first | assumption | (exfalso; omega)), fun _ => by (first | assumption | (exfalso; omega) | exact Classical.not_not.1 (by assumption)), fun _ => by (first | assumption | (exfalso; omega)), fun _ => by (first | assumption | (exfalso; omega)), fun _ => ⟨by (first | assumption | (exfalso; omega)), by (first | assumption | omega)⟩, by omega, by omega⟩], rfl⟩
 refine sQ (qA rfl) rfl (sD (nS (tT (E1 (rT rfl) ?_))))
 exact ⟨rfl, by (cases R with | false => rfl | true => (exfalso; obtain ⟨i1, i2, i3, i4, i5, i6, i7⟩ := hi.1 rfl; first | omega | (have j := i1 (by omega); simp_all; done) | (have j := he (i2 (by omega)); simp_all; done) | (have j := i2 (by omega); simp_all; done) | (have j := i3 (by omega); simp_all; done) | (have j := i4 (by omega); simp_all; done) | (have j := i5 (by omega); simp_all; done))), rfl⟩
 refine T2 ?_
 exact ⟨rfl, by (cases R with | false => rfl | true => (exfalso; obtain ⟨i1, i2, i3, i4, i5, i6, i7⟩ := hi.1 rfl; first | omega | (have j := i1 (by omega); simp_all; done) | (have j := he (i2 (by omega)); simp_all; done) | (have j := i2 (by omega); simp_all; done) | (have j := i3 (by omega); simp_all; done) | (have j := i4 (by omega); simp_all; done) | (have j := i5 (by omega); simp_all; done))), rfl⟩
 refine A2w ?_
 exact ⟨rfl, by (cases R with | false => rfl | true => (exfalso; obtain ⟨i1, i2, i3, i4, i5, i6, i7⟩ := hi.1 rfl; first | omega | (have j := i1 (by omega); simp_all; done) | (have j := he (i2 (by omega)); simp_all; done) | (have j := i2 (by omega); simp_all; done) | (have j := i3 (by omega); simp_all; done) | (have j := i4 (by omega); simp_all; done) | (have j := i5 (by omega); simp_all; done))), rfl⟩
 refine sQ (A7o rfl rfl rfl) rfl ?_
 refine Y1 ?_
 refine D8 ?_
 exact ⟨rfl, by (cases R with | false => rfl | true => (exfalso; obtain ⟨i1, i2, i3, i4, i5, i6, i7⟩ := hi.1 rfl; first | omega | (have j := i1 (by omega); simp_all; done) | (have j := he (i2 (by omega)); simp_all; done) | (have j := i2 (by omega); simp_all; done) | (have j := i3 (by omega); simp_all; done) | (have j := i4 (by omega); simp_all; done) | (have j := i5 (by omega); simp_all; done))), rfl⟩
 refine D3 ?_
 refine sP (I6 rfl rfl (by omega)) rfl rfl ?_
 refine J2 ?_
 refine sB (qE rfl rfl) rfl rfl (fun h446 => ?_) (fun h446 => ?_)
 refine H3 ?_
 refine F0 rfl (o2) rfl rfl (fun h462 => ?_) (fun h462 => ?_)
 refine sQ (A45 rfl rfl rfl) rfl ?_
 refine Y1 ?_
 refine D8 ?_
 exact ⟨rfl, by (cases R with | false => rfl | true => (exfalso; obtain ⟨i1, i2, i3, i4, i5, i6, i7⟩ := hi.1 rfl; first | omega | (have j := i1 (by omega); simp_all; done) | (have j := he (i2 (by omega)); simp_all; done) | (have j := i2 (by omega); simp_all; done) | (have j := i3 (by omega); simp_all; done) | (have j := i4 (by omega); simp_all; done) | (have j := i5 (by omega); simp_all; done))), rfl⟩
 refine sQ (A1j rfl rfl rfl) rfl ?_
 refine E2 ?_
 refine sB (A1s rfl rfl) rfl rfl (fun h511 => ?_) (fun h511 => ?_)
 refine Y1 ?_
 refine rS (E1 (rT rfl) ?_)
 exact ⟨rfl, by (cases R with | false => rfl | true => (exfalso; obtain ⟨i1, i2, i3, i4, i5, i6, i7⟩ := hi.1 rfl; first | omega | (have j := i1 (by omega); simp_all; done) | (have j := he (i2 (by omega)); simp_all; done) | (have j := i2 (by omega); simp_all; done) | (have j := i3 (by omega); simp_all; done) | (have j := i4 (by omega); simp_all; done) | (have j := i5 (by omega); simp_all; done))), rfl⟩
 refine C3 ?_
 refine F0 rfl (o3) rfl rfl (fun h552 => ?_) (fun h552 => ?_)
 refine A0Y ?_
 refine sP (A0i rfl rfl (by omega)) rfl rfl ?_
 refine J2 ?_
 refine F0 rfl (o7) rfl rfl (fun h580 => ?_) (fun h580 => ?_)
 refine H8 ?_
 refine sB (N7 rfl rfl) rfl rfl (fun h585 => ?_) (fun h585 => ?_)
 refine K1 ?_
 exact ⟨rfl, by (cases R with | false => rfl | true => (exfalso; obtain ⟨i1, i2, i3, i4, i5, i6, i7⟩ := hi.1 rfl; first | omega | (have j := i1 (by omega); simp_all; done) | (have j := he (i2 (by omega)); simp_all; done) | (have j := i2 (by omega); simp_all; done) | (have j := i3 (by omega); simp_all; done) | (have j := i4 (by omega); simp_all; done) | (have j := i5 (by omega); simp_all; done))), rfl⟩
 refine J9 ?_
 refine sP (I6 rfl rfl (by omega)) rfl rfl ?_
 refine D8 ?_
 refine sB (qE rfl rfl) rfl rfl (fun h622 => ?_) (fun h622 => ?_)
 refine sQ (qA rfl) rfl (sD (nS (tT (E1 (rT rfl) ?_))))
 exact ⟨rfl, by rw [hi.2 ⟨fun _ => by (first | assumption | (exfalso; omega)), fun _ => by (first | assumption | (exfalso; omega) | exact Classical.not_not.1 (by assumption)), fun _ => by (first | assumption | (exfalso; omega)), fun _ => by (first | assumption | (exfalso; omega)), fun _ => ⟨by (first | assumption | (exfalso; omega)), by (first | assumption | omega)⟩, by omega, by omega⟩], rfl⟩
 refine sQ (qA rfl) rfl (sD (nS (tT (E1 (rT rfl) ?_))))
 exact ⟨rfl, by (cases R with | false => rfl | true => (exfalso; obtain ⟨i1, i2, i3, i4, i5, i6, i7⟩ := hi.1 rfl; first | omega | (have j := i1 (by omega); simp_all; done) | (have j := he (i2 (by omega)); simp_all; done) | (have j := i2 (by omega); simp_all; done) | (have j := i3 (by omega); simp_all; done) | (have j := i4 (by omega); simp_all; done) | (have j := i5 (by omega); simp_all; done))), rfl⟩
 refine T2 ?_
 exact ⟨rfl, by (cases R with | false => rfl | true => (exfalso; obtain ⟨i1, i2, i3, i4, i5, i6, i7⟩ := hi.1 rfl; first | omega | (have j := i1 (by omega); simp_all; done) | (have j := he (i2 (by omega)); simp_all; done) | (have j := i2 (by omega); simp_all; done) | (have j := i3 (by omega); simp_all; done) | (have j := i4 (by omega); simp_all; done) | (have j := i5 (by omega); simp_all; done))), rfl⟩
 refine A2w ?_
 exact ⟨rfl, by (cases R with | false => rfl | true => (exfalso; obtain ⟨i1, i2, i3, i4, i5, i6, i7⟩ := hi.1 rfl; first | omega | (have j := i1 (by omega); simp_all; done) | (have j := he (i2 (by omega)); simp_all; done) | (have j := i2 (by omega); simp_all; done) | (have j := i3 (by omega); simp_all; done) | (have j := i4 (by omega); simp_all; done) | (have j := i5 (by omega); simp_all; done))), rfl⟩
 refine H8 ?_
 refine sB (qE rfl rfl) rfl rfl (fun h683 => ?_) (fun h683 => ?_)
 refine I8 ?_
 refine F0 rfl (o2) rfl rfl (fun h694 => ?_) (fun h694 => ?_)
 refine sQ (A45 rfl rfl rfl) rfl ?_
 refine Y1 ?_
 refine D8 ?_
 exact ⟨rfl, by (cases R with | false => rfl | true => (exfalso; obtain ⟨i1, i2, i3, i4, i5, i6, i7⟩ := hi.1 rfl; first | omega | (have j := i1 (by omega); simp_all; done) | (have j := he (i2 (by omega)); simp_all; done) | (have j := i2 (by omega); simp_all; done) | (have j := i3 (by omega); simp_all; done) | (have j := i4 (by omega); simp_all; done) | (have j := i5 (by omega); simp_all; done))), rfl⟩
 refine sQ (A1j rfl rfl rfl) rfl ?_
 refine E2 ?_
 refine sB (A1s rfl rfl) rfl rfl (fun h743 => ?_) (fun h743 => ?_)
 refine Y1 ?_
 refine rS (E1 (rT rfl) ?_)
 exact ⟨rfl, by (cases R with | false => rfl | true => (exfalso; obtain ⟨i1, i2, i3, i4, i5, i6, i7⟩ := hi.1 rfl; first | omega | (have j := i1 (by omega); simp_all; done) | (have j := he (i2 (by omega)); simp_all; done) | (have j := i2 (by omega); simp_all; done) | (have j := i3 (by omega); simp_all; done) | (have j := i4 (by omega); simp_all; done) | (have j := i5 (by omega); simp_all; done))), rfl⟩
 refine C3 ?_
 refine F0 rfl (o3) rfl rfl (fun h784 => ?_) (fun h784 => ?_)
 refine A0Y ?_
 refine sP (X9 rfl rfl (by omega)) rfl rfl ?_
 refine A0p ?_
 refine sP (I6 rfl rfl (by omega)) rfl rfl ?_
 refine D8 ?_
 refine sB (qE rfl rfl) rfl rfl (fun h840 => ?_) (fun h840 => ?_)
 refine sQ (qA rfl) rfl (sD (nS (tT (E1 (rT rfl) ?_))))
 exact ⟨rfl, by rw [hi.2 ⟨fun _ => by (first | assumption | (exfalso; omega)), fun _ => by (first | assumption | (exfalso; omega) | exact Classical.not_not.1 (by assumption)), fun _ => by (first | assumption | (exfalso; omega)), fun _ => by (first | assumption | (exfalso; omega)), fun _ => ⟨by (first | assumption | (exfalso; omega)), by (first | assumption | omega)⟩, by omega, by omega⟩], rfl⟩
 refine sQ (qA rfl) rfl (sD (nS (tT (E1 (rT rfl) ?_))))
 exact ⟨rfl, by (cases R with | false => rfl | true => (exfalso; obtain ⟨i1, i2, i3, i4, i5, i6, i7⟩ := hi.1 rfl; first | omega | (have j := i1 (by omega); simp_all; done) | (have j := he (i2 (by omega)); simp_all; done) | (have j := i2 (by omega); simp_all; done) | (have j := i3 (by omega); simp_all; done) | (have j := i4 (by omega); simp_all; done) | (have j := i5 (by omega); simp_all; done))), rfl⟩
 refine A2w ?_
 exact ⟨rfl, by (cases R with | false => rfl | true => (exfalso; obtain ⟨i1, i2, i3, i4, i5, i6, i7⟩ := hi.1 rfl; first | omega | (have j := i1 (by omega); simp_all; done) | (have j := he (i2 (by omega)); simp_all; done) | (have j := i2 (by omega); simp_all; done) | (have j := i3 (by omega); simp_all; done) | (have j := i4 (by omega); simp_all; done) | (have j := i5 (by omega); simp_all; done))), rfl⟩
 refine I8 ?_
 refine F0 rfl (o2) rfl rfl (fun h888 => ?_) (fun h888 => ?_)
 refine sQ (A45 rfl rfl rfl) rfl ?_
 refine Y1 ?_
 refine D8 ?_
 exact ⟨rfl, by (cases R with | false => rfl | true => (exfalso; obtain ⟨i1, i2, i3, i4, i5, i6, i7⟩ := hi.1 rfl; first | omega | (have j := i1 (by omega); simp_all; done) | (have j := he (i2 (by omega)); simp_all; done) | (have j := i2 (by omega); simp_all; done) | (have j := i3 (by omega); simp_all; done) | (have j := i4 (by omega); simp_all; done) | (have j := i5 (by omega); simp_all; done))), rfl⟩
 refine sQ (A1j rfl rfl rfl) rfl ?_
 refine E2 ?_
 refine sB (A1s rfl rfl) rfl rfl (fun h937 => ?_) (fun h937 => ?_)
 refine Y1 ?_
 refine rS (E1 (rT rfl) ?_)
 exact ⟨rfl, by (cases R with | false => rfl | true => (exfalso; obtain ⟨i1, i2, i3, i4, i5, i6, i7⟩ := hi.1 rfl; first | omega | (have j := i1 (by omega); simp_all; done) | (have j := he (i2 (by omega)); simp_all; done) | (have j := i2 (by omega); simp_all; done) | (have j := i3 (by omega); simp_all; done) | (have j := i4 (by omega); simp_all; done) | (have j := i5 (by omega); simp_all; done))), rfl⟩
 refine S1 ?_
 refine F0 rfl (o4) rfl rfl (fun h988 => ?_) (fun h988 => ?_)
 refine K1 ?_
 refine sP (A0i rfl rfl (by omega)) rfl rfl ?_
 refine J2 ?_
 refine F0 rfl (o7) rfl rfl (fun h1006 => ?_) (fun h1006 => ?_)
 refine H8 ?_
 refine sB (N7 rfl rfl) rfl rfl (fun h1011 => ?_) (fun h1011 => ?_)
 refine K1 ?_
 exact ⟨rfl, by (cases R with | false => rfl | true => (exfalso; obtain ⟨i1, i2, i3, i4, i5, i6, i7⟩ := hi.1 rfl; first | omega | (have j := i1 (by omega); simp_all; done) | (have j := he (i2 (by omega)); simp_all; done) | (have j := i2 (by omega); simp_all; done) | (have j := i3 (by omega); simp_all; done) | (have j := i4 (by omega); simp_all; done) | (have j := i5 (by omega); simp_all; done))), rfl⟩
 refine J9 ?_
 refine sB (qE rfl rfl) rfl rfl (fun h1038 => ?_) (fun h1038 => ?_)
 refine C3 ?_
 refine sB (A0X rfl rfl) rfl rfl (fun h1046 => ?_) (fun h1046 => ?_)
 refine J2 ?_
 refine sB (W9 rfl rfl) rfl rfl (fun h1050 => ?_) (fun h1050 => ?_)
 refine C3 ?_
 exact ⟨rfl, by rw [hi.2 ⟨fun _ => by (first | assumption | (exfalso; omega)), fun _ => by (first | assumption | (exfalso; omega) | exact Classical.not_not.1 (by assumption)), fun _ => by (first | assumption | (exfalso; omega)), fun _ => by (first | assumption | (exfalso; omega)), fun _ => ⟨by (first | assumption | (exfalso; omega)), by (first | assumption | omega)⟩, by omega, by omega⟩], rfl⟩
 refine C3 ?_
 exact ⟨rfl, by (cases R with | false => rfl | true => (exfalso; obtain ⟨i1, i2, i3, i4, i5, i6, i7⟩ := hi.1 rfl; first | omega | (have j := i1 (by omega); simp_all; done) | (have j := he (i2 (by omega)); simp_all; done) | (have j := i2 (by omega); simp_all; done) | (have j := i3 (by omega); simp_all; done) | (have j := i4 (by omega); simp_all; done) | (have j := i5 (by omega); simp_all; done))), rfl⟩
 refine F8 ?_
 exact ⟨rfl, by (cases R with | false => rfl | true => (exfalso; obtain ⟨i1, i2, i3, i4, i5, i6, i7⟩ := hi.1 rfl; first | omega | (have j := i1 (by omega); simp_all; done) | (have j := he (i2 (by omega)); simp_all; done) | (have j := i2 (by omega); simp_all; done) | (have j := i3 (by omega); simp_all; done) | (have j := i4 (by omega); simp_all; done) | (have j := i5 (by omega); simp_all; done))), rfl⟩
 refine D8 ?_
 refine sB (qE rfl rfl) rfl rfl (fun h1088 => ?_) (fun h1088 => ?_)
 refine sQ (qA rfl) rfl (sD (nS (tT (E1 (rT rfl) ?_))))
 exact ⟨rfl, by rw [hi.2 ⟨fun _ => by (first | assumption | (exfalso; omega)), fun _ => by (first | assumption | (exfalso; omega) | exact Classical.not_not.1 (by assumption)), fun _ => by (first | assumption | (exfalso; omega)), fun _ => by (first | assumption | (exfalso; omega)), fun _ => ⟨by (first | assumption | (exfalso; omega)), by (first | assumption | omega)⟩, by omega, by omega⟩], rfl⟩
 refine sQ (qA rfl) rfl (sD (nS (tT (E1 (rT rfl) ?_))))
 exact ⟨rfl, by (cases R with | false => rfl | true => (exfalso; obtain ⟨i1, i2, i3, i4, i5, i6, i7⟩ := hi.1 rfl; first | omega | (have j := i1 (by omega); simp_all; done) | (have j := he (i2 (by omega)); simp_all; done) | (have j := i2 (by omega); simp_all; done) | (have j := i3 (by omega); simp_all; done) | (have j := i4 (by omega); simp_all; done) | (have j := i5 (by omega); simp_all; done))), rfl⟩
 refine T2 ?_
 exact ⟨rfl, by (cases R with | false => rfl | true => (exfalso; obtain ⟨i1, i2, i3, i4, i5, i6, i7⟩ := hi.1 rfl; first | omega | (have j := i1 (by omega); simp_all; done) | (have j := he (i2 (by omega)); simp_all; done) | (have j := i2 (by omega); simp_all; done) | (have j := i3 (by omega); simp_all; done) | (have j := i4 (by omega); simp_all; done) | (have j := i5 (by omega); simp_all; done))), rfl⟩
 refine L5 ?_
 exact ⟨rfl, by (cases R with | false => rfl | true => (exfalso; obtain ⟨i1, i2, i3, i4, i5, i6, i7⟩ := hi.1 rfl; first | omega | (have j := i1 (by omega); simp_all; done) | (have j := he (i2 (by omega)); simp_all; done) | (have j := i2 (by omega); simp_all; done) | (have j := i3 (by omega); simp_all; done) | (have j := i4 (by omega); simp_all; done) | (have j := i5 (by omega); simp_all; done))), rfl⟩
mutual
def N5 (D N : Int) : Tm → Int → Bool
 | .mk k nm num ty fr lb ks, deep => decide (deep ≤ D) && decide (k ≠ N) && T5 k nm num ty fr lb ks.length && N6 D N ks (deep + 1)
def N6 (D N : Int) : List Tm → Int → Bool
 | [], _ => true
 | t :: ts, deep => N5 D N t deep && N6 D N ts deep
end
theorem A0O (D N : Int) : ∀ (ts : List Tm) (d : Int), N6 D N ts d = true ↔ ∀ i, (h : i < ts.length) → N5 D N ts[i] d = true
 | [], d => by simp [N6]
 | t :: ts, d => by
  simp only [N6, Bool.and_eq_true, A0O D N ts d]
  constructor
  ·rintro ⟨h1, h2⟩ i hi
   cases i with
   | zero => exact h1
   | succ i => exact h2 i (by simpa using hi)
  ·intro h
   exact ⟨h 0 (by simp), fun i hi => h (i + 1) (by simpa using hi)⟩
theorem A01 {D N : Int} {k : Int} {nm : ByteArray} {num : Int} {ty fr : Ty} {lb : Int} {ks : List Tm} {d : Int} (h : D < d ∨ k = N ∨ T5 k nm num ty fr lb ks.length = false) : N5 D N (.mk k nm num ty fr lb ks) d = false := by
 rw [N5]
 rcases h with h | h | h
 ·rw [decide_eq_false (by omega)]; rfl
 ·rw [decide_eq_false (p := k ≠ N) (by omega), Bool.and_false]; rfl
 ·rw [h, Bool.and_false]; rfl
theorem A02 {D N : Int} {k : Int} {nm : ByteArray} {num : Int} {ty fr : Ty} {lb : Int} {ks : List Tm} {d : Int} (h1 : d ≤ D) (h2 : k ≠ N) (h3 : T5 k nm num ty fr lb ks.length = true) : N5 D N (.mk k nm num ty fr lb ks) d = N6 D N ks (d + 1) := by
 rw [N5, decide_eq_true h1, decide_eq_true h2, h3]; rfl
theorem A46 {D N : Int} {ks : List Tm} {d : Int} {i : Nat} (hi : i < ks.length) (h : N5 D N ks[i] d = false) : N6 D N ks d = false := by
 cases hx : N6 D N ks d with
 | false => rfl
 | true => rw [(A0O D N ks d).1 hx i hi] at h; cases h
theorem B1v {k : Int} {nm : ByteArray} {num : Int} {ty fr : Ty} {lb : Int} {n : Nat} (hk : k = 14) (ha : D9 k = n) : T5 k nm num ty fr lb n = true ↔ nm = ⟨#[]⟩ ∧ num = 0 ∧ (1 ≤ A0A lb ∧ A0A lb ≤ 99) ∧ F4 ty = true ∧ F4 fr = true ∧ J5 fr ty = true := by
 rw [U3, B1t]
 simp only [R4, A0L, decide_eq_true_eq, Bool.and_eq_true]
 constructor
 ·rintro ⟨_, _, h3, _, h5, h6, _, h8, _⟩
  have h8 := h8 hk
  exact ⟨h3 (by omega), by have := h5 (by omega); omega, h8.2, h6 (by omega), h8.1.1.1, h8.1.2⟩
 ·rintro ⟨h1, h2, h3, h4, h5, h6⟩
  exact ⟨ha, fun h => absurd h (by omega), fun _ => h1, fun h => absurd h (by omega), fun _ => by omega, fun _ => h4, fun h => absurd h (by omega), fun _ => ⟨⟨⟨h5, h4⟩, h6⟩, h3⟩, fun h => absurd hk h⟩
theorem A7q {k : Int} {nm : ByteArray} {num : Int} {ty fr : Ty} {lb : Int} {n : Nat} (hk : k ≠ 14) (ha : D9 k = n) : T5 k nm num ty fr lb n = true ↔
  (k = 1 ∨ k = 5 → X1 nm = true) ∧ (¬(k = 1 ∨ k = 5) → nm = ⟨#[]⟩) ∧ (k = 5 ∨ k = 13 ∨ k = 14 → F4 ty = true) ∧ (¬(k = 5 ∨ k = 13 ∨ k = 14) → X0 ty = true) ∧ (k ≠ 14 → X0 fr = true ∧ lb = 0) ∧ (k = 2 → 0 ≤ num ∧ num ≤ 999) ∧ (k ≠ 2 → num = 0) := by
 rw [U3]
 simp only [R4, decide_eq_true_eq]
 constructor
 ·rintro ⟨_, h2, h3, h4, h5, h6, h7, _, h9⟩
  exact ⟨h2, h3, h6, h7, h9, h4, fun h => by have := h5 h; omega⟩
 ·rintro ⟨h2, h3, h6, h7, h9, h4, h5⟩
  exact ⟨ha, h2, h3, h4, fun h => by have := h5 h; omega, h6, h7, fun h => absurd h hk, h9⟩
theorem B1w : ∀ (t : Tm) (d : Int) (G : IM) (cells : List Value), 0 ≤ d ∧ d ≤ 40 → A6 G t cells →
  Fn Tryz.prog 183 [.agg ⟨cells⟩, .int .i64 d] [] G (E4 (.bool (N5 40 13 t (41 - d))) G) := by
 refine Tm.ind fun k nm num ty fr lb ks ih d G cells hd hr => ?_
 have hr0 := hr
 have h14 := fun h : k = 14 => @B1v k nm num ty fr lb ks.length h
 have hne := fun h : k ≠ 14 => @A7q k nm num ty fr lb ks.length h
 have har := fun h : T5 k nm num ty fr lb ks.length = true => (U3.1 h).1
 obtain ⟨R, hR⟩ : ∃ R, T5 k nm num ty fr lb ks.length = R := ⟨_, rfl⟩
 rw [hR] at h14 hne har
 have hlo := B1u k nm num ty fr lb ks G cells hr0 R
 have hl2 := A7p k nm num ty fr lb ks G cells hr0 R
 have hk1 := A7i k G
 obtain ⟨tk, tks⟩ := ty
 obtain ⟨fk, fks⟩ := fr
 obtain ⟨pt, ct, pf, cf, p, c, es, rfl, hk, hnum, hlb, hty, hfr, hsl, hkl⟩ := hr.open9
 have hn := hsl.le
 clear hr hr0
 refine B4 Tryz.func183 rfl Tryz.ntmps183 Tryz.results183 rfl ?_
 intro w0
 refine tS (tR ?_)
 refine sE (C1 rfl rfl) rfl (fun b3 => ?_)
 refine sQ (qA rfl) rfl (sD (nS (tS (tS ?_))))
 refine D5 D6 rfl ?_
 refine J6 (i := 0) (l' := [tt,ff,ff,ff,ff,ff,ff,ff,ff,ff,ff,ff,ff,ff,ff,ff,ff,ff,ff,ff,ff,ff,ff,ff,ff,ff,ff,ff,ff,ff,ff,ff,ff,ff,ff,ff]) rfl D0 (qM rfl) rfl (by kernel_rfl) rfl rfl ?_
 refine A0n (i := 1) (l' := [tt,tt,ff,ff,ff,ff,ff,ff,ff,ff,ff,ff,ff,ff,ff,ff,ff,ff,ff,ff,ff,ff,ff,ff,ff,ff,ff,ff,ff,ff,ff,ff,ff,ff,ff,ff]) rfl D0 (I2 rfl rfl) rfl (by kernel_rfl) rfl rfl (fun h11 => ?_) (fun h11 => ?_)
 refine aP 2 rfl (qM rfl) rfl ?_
 refine B8 3 rfl rfl rfl ?_
 refine B8 4 rfl rfl rfl ?_
 refine B8 6 rfl rfl rfl ?_
 refine B8 7 rfl rfl rfl ?_
 refine B8 8 rfl rfl rfl ?_
 refine B8 5 rfl rfl rfl ?_
 refine B8 9 rfl rfl rfl ?_
 refine aP 10 rfl (L4 rfl rfl) rfl ?_
 refine aP 11 rfl (qM rfl) rfl ?_
 refine B8 12 rfl rfl rfl ?_
 refine B8 13 rfl rfl rfl ?_
 refine B8 14 rfl rfl rfl ?_
 refine aP 15 rfl (L4 rfl rfl) rfl ?_
 refine aP 16 rfl (qM rfl) rfl ?_
 refine B8 17 rfl rfl rfl ?_
 refine B8 18 rfl rfl rfl ?_
 refine B8 19 rfl rfl rfl ?_
 refine B8 20 rfl rfl rfl ?_
 refine B8 21 rfl rfl rfl ?_
 refine B8 22 rfl rfl rfl ?_
 refine B8 23 rfl rfl rfl ?_
 refine B8 24 rfl rfl rfl ?_
 refine aP 25 rfl (L4 rfl rfl) rfl ?_
 refine aP 26 rfl (qM rfl) rfl ?_
 refine B8 27 rfl rfl rfl ?_
 refine B8 28 rfl rfl rfl ?_
 refine B8 29 rfl rfl rfl ?_
 refine B8 30 rfl rfl rfl ?_
 refine B8 31 rfl rfl rfl ?_
 refine B8 32 rfl rfl rfl ?_
 refine B8 33 rfl rfl rfl ?_
 refine B8 34 rfl rfl rfl ?_
 refine aP 35 rfl (L4 rfl rfl) rfl ?_
 refine F8 ?_
 (rw [A01 (by rw [hR]; first | omega | exact .inr (.inr (by assumption)) | exact .inr (.inr (by cases R with | false => rfl | true => exact absurd (har rfl) (by omega))))]; exact ⟨rfl, rfl, rfl⟩)
 refine aP 2 rfl (qM rfl) rfl ?_
 refine aP 3 rfl (B0 rfl) rfl ?_
 refine aL 4 rfl (B9 rfl rfl) rfl ?_
 refine aP 6 rfl (B0 rfl) rfl ?_
 refine aL 7 rfl (B9 rfl rfl) rfl ?_
 refine aP 8 rfl (pLn rfl rfl) rfl ?_
 refine A2 5 ?_
 refine M6 rfl rfl (hk1) rfl rfl rfl ?_
 refine A0n (i := 9) (l' := [tt,tt,tt,tt,tt,tt,tt,tt,tt,tt,ff,ff,ff,ff,ff,ff,ff,ff,ff,ff,ff,ff,ff,ff,ff,ff,ff,ff,ff,ff,ff,ff,ff,ff,ff,ff]) rfl D0 (N7 rfl rfl) rfl (by kernel_rfl) rfl rfl (fun h66 => ?_) (fun h66 => ?_)
 refine aP 10 rfl (N4 rfl rfl) rfl ?_
 refine aP 11 rfl (qM rfl) rfl ?_
 refine B8 12 rfl rfl rfl ?_
 refine B8 13 rfl rfl rfl ?_
 refine B8 14 rfl rfl rfl ?_
 refine aP 15 rfl (L4 rfl rfl) rfl ?_
 refine aP 16 rfl (qM rfl) rfl ?_
 refine B8 17 rfl rfl rfl ?_
 refine B8 18 rfl rfl rfl ?_
 refine B8 19 rfl rfl rfl ?_
 refine B8 20 rfl rfl rfl ?_
 refine B8 21 rfl rfl rfl ?_
 refine B8 22 rfl rfl rfl ?_
 refine B8 23 rfl rfl rfl ?_
 refine B8 24 rfl rfl rfl ?_
 refine aP 25 rfl (L4 rfl rfl) rfl ?_
 refine aP 26 rfl (qM rfl) rfl ?_
 refine B8 27 rfl rfl rfl ?_
 refine B8 28 rfl rfl rfl ?_
 refine B8 29 rfl rfl rfl ?_
 refine B8 30 rfl rfl rfl ?_
 refine B8 31 rfl rfl rfl ?_
 refine B8 32 rfl rfl rfl ?_
 refine B8 33 rfl rfl rfl ?_
 refine B8 34 rfl rfl rfl ?_
 refine aP 35 rfl (L4 rfl rfl) rfl ?_
 refine F8 ?_
 (rw [A01 (by rw [hR]; first | omega | exact .inr (.inr (by assumption)) | exact .inr (.inr (by cases R with | false => rfl | true => exact absurd (har rfl) (by omega))))]; exact ⟨rfl, rfl, rfl⟩)
 refine aP 10 rfl (N4 rfl rfl) rfl ?_
 refine aP 11 rfl (qM rfl) rfl ?_
 refine aP 12 rfl (B0 rfl) rfl ?_
 refine aL 13 rfl (B9 rfl rfl) rfl ?_
 refine A0n (i := 14) (l' := [tt,tt,tt,tt,tt,tt,tt,tt,tt,tt,tt,tt,tt,tt,tt,ff,ff,ff,ff,ff,ff,ff,ff,ff,ff,ff,ff,ff,ff,ff,ff,ff,ff,ff,ff,ff]) rfl D0 (qE rfl rfl) rfl (by kernel_rfl) rfl rfl (fun h109 => ?_) (fun h109 => ?_)
 refine aP 15 rfl (N4 rfl rfl) rfl ?_
 refine aP 16 rfl (qM rfl) rfl ?_
 refine B8 17 rfl rfl rfl ?_
 refine B8 18 rfl rfl rfl ?_
 refine B8 19 rfl rfl rfl ?_
 refine B8 20 rfl rfl rfl ?_
 refine B8 21 rfl rfl rfl ?_
 refine B8 22 rfl rfl rfl ?_
 refine B8 23 rfl rfl rfl ?_
 refine B8 24 rfl rfl rfl ?_
 refine aP 25 rfl (L4 rfl rfl) rfl ?_
 refine aP 26 rfl (qM rfl) rfl ?_
 refine B8 27 rfl rfl rfl ?_
 refine B8 28 rfl rfl rfl ?_
 refine B8 29 rfl rfl rfl ?_
 refine B8 30 rfl rfl rfl ?_
 refine B8 31 rfl rfl rfl ?_
 refine B8 32 rfl rfl rfl ?_
 refine B8 33 rfl rfl rfl ?_
 refine B8 34 rfl rfl rfl ?_
 refine aP 35 rfl (L4 rfl rfl) rfl ?_
 refine F8 ?_
 (rw [A01 (by rw [hR]; first | omega | exact .inr (.inr (by assumption)) | exact .inr (.inr (by cases R with | false => rfl | true => exact absurd (har rfl) (by omega))))]; exact ⟨rfl, rfl, rfl⟩)
 refine aP 15 rfl (N4 rfl rfl) rfl ?_
 refine aP 16 rfl (qM rfl) rfl ?_
 refine aP 17 rfl (B0 rfl) rfl ?_
 refine aL 18 rfl (B9 rfl rfl) rfl ?_
 refine A0n (i := 19) (l' := [tt,tt,tt,tt,tt,tt,tt,tt,tt,tt,tt,tt,tt,tt,tt,tt,tt,tt,tt,tt,ff,ff,ff,ff,ff,ff,ff,ff,ff,ff,ff,ff,ff,ff,ff,ff]) rfl D0 (qE rfl rfl) rfl (by kernel_rfl) rfl rfl (fun h147 => ?_) (fun h147 => ?_)
 refine aP 20 rfl (qM rfl) rfl ?_
 refine aL 21 rfl (A3 rfl rfl) rfl ?_
 refine A2 22 ?_
 refine S3 rfl rfl (hlo (h14 (by omega) (by omega))) rfl rfl rfl (fun h151 => ?_) (fun h151 => ?_)
 refine aP 23 rfl (U0 rfl) rfl ?_
 refine aP 24 rfl (L4 rfl rfl) rfl ?_
 refine aP 25 rfl (N4 rfl rfl) rfl ?_
 refine aP 26 rfl (qM rfl) rfl ?_
 refine aP 27 rfl (B0 rfl) rfl ?_
 refine aL 28 rfl (B9 rfl rfl) rfl ?_
 refine aP 29 rfl (X9 rfl rfl (by omega)) rfl ?_
 refine aP 30 rfl (qM rfl) rfl ?_
 refine B8 31 rfl rfl rfl ?_
 refine B8 32 rfl rfl rfl ?_
 refine B8 33 rfl rfl rfl ?_
 refine aP 34 rfl (N4 rfl rfl) rfl ?_
 refine aP 35 rfl (N4 rfl rfl) rfl ?_
 refine F8 ?_
 refine B3 ?_
 (refine I1 (fun (i : Nat) => ⟨[(5, .int .i64 i), (2, .pointer (some ⟨b3, 0, none⟩)), (1, .int .i64 d)], [.blk b3 [.int .i64 k, .string nm, .int .i64 num, .int .i64 tk, .slice pt tks.length ct, .int .i64 fk, .slice pf fks.length cf, .int .i64 lb, .slice p ks.length c]], G⟩) (fun i => i ≤ ks.length ∧ ∀ j (h : j < ks.length), j < i → N5 40 13 ks[j] (41 - d + 1) = true) (fun i => ks.length - i) 0 ?_ ?_ ?_)
 exact C9
 exact ⟨by omega, by omega⟩
 (rintro i ⟨hi, hf⟩)
 refine C3 ?_
 refine sB (I2 rfl rfl) rfl rfl (fun h188 => ?_) (fun h188 => ?_)
 refine sD (nS (qT rfl (tK (nS (tS ?_)))))
 refine B3 ?_
 refine O8 ?_
 (obtain ⟨b, o, e, rfl, hl, hat, hre, hgb⟩ := hsl.kidTm hkl (i := i) (by omega) (by omega); refine sP (A8 rfl rfl rfl (by omega)) rfl rfl ?_)
 refine sL (A0 rfl rfl (hat _) hl) rfl rfl ?_
 refine sQ (qM rfl) rfl ?_
 refine sP (W8 rfl rfl (by omega) (by omega)) rfl rfl ?_
 (have hih := ih ks[i] (List.getElem_mem (by omega)) (d - 1) G _ (by omega) hre; rw [show 41 - (d - 1) = 41 - d + 1 by omega] at hih; refine F0 rfl hih rfl rfl (fun h205 => ?_) (fun h205 => ?_))
 refine D8 ?_
 refine sP (E8 rfl rfl (by omega) (by omega)) rfl rfl ?_
 refine sQ (qA rfl) rfl (sD ?_)
 refine I4 (i + 1) ?_ ?_ ?_
 exact C9
 exact ⟨by omega, fun j hj hji => by (by_cases he : j = i; (subst he; assumption); exact hf j hj (by omega))⟩
 omega
 refine J1 ?_
 (rw [A02 (by omega) (by omega) (hR.trans (by assumption)), A46 (i := i) (by omega) (by assumption)]; exact ⟨rfl, rfl, rfl⟩)
 refine H3 ?_
 (rw [A02 (by omega) (by omega) (hR.trans (by assumption)), (A0O 40 13 ks _).2 (fun j hj => hf j hj (by omega))]; exact ⟨rfl, rfl, rfl⟩)
 refine aP 23 rfl (pNf rfl) rfl ?_
 refine aP 24 rfl (L4 rfl rfl) rfl ?_
 refine aP 25 rfl (N4 rfl rfl) rfl ?_
 refine aP 26 rfl (qM rfl) rfl ?_
 refine B8 27 rfl rfl rfl ?_
 refine B8 28 rfl rfl rfl ?_
 refine B8 29 rfl rfl rfl ?_
 refine B8 30 rfl rfl rfl ?_
 refine B8 31 rfl rfl rfl ?_
 refine B8 32 rfl rfl rfl ?_
 refine B8 33 rfl rfl rfl ?_
 refine B8 34 rfl rfl rfl ?_
 refine aP 35 rfl (L4 rfl rfl) rfl ?_
 refine F8 ?_
 (rw [A01 (by rw [hR]; first | omega | exact .inr (.inr (by assumption)) | exact .inr (.inr (by cases R with | false => rfl | true => exact absurd (har rfl) (by omega))))]; exact ⟨rfl, rfl, rfl⟩)
 refine aP 20 rfl (qM rfl) rfl ?_
 refine B8 21 rfl rfl rfl ?_
 refine B8 22 rfl rfl rfl ?_
 refine B8 23 rfl rfl rfl ?_
 refine aP 24 rfl (N4 rfl rfl) rfl ?_
 refine aP 25 rfl (N4 rfl rfl) rfl ?_
 refine aP 26 rfl (qM rfl) rfl ?_
 refine aP 27 rfl (B0 rfl) rfl ?_
 refine aL 28 rfl (B9 rfl rfl) rfl ?_
 refine aP 29 rfl (A0i rfl rfl (by omega)) rfl ?_
 refine aP 30 rfl (qM rfl) rfl ?_
 refine aL 31 rfl (A3 rfl rfl) rfl ?_
 refine A2 32 ?_
 refine S3 rfl rfl (hl2 (hne (by omega) (by omega))) rfl rfl rfl (fun h293 => ?_) (fun h293 => ?_)
 refine aP 33 rfl (U0 rfl) rfl ?_
 refine aP 34 rfl (L4 rfl rfl) rfl ?_
 refine aP 35 rfl (N4 rfl rfl) rfl ?_
 refine F8 ?_
 refine B3 ?_
 (refine I1 (fun (i : Nat) => ⟨[(5, .int .i64 i), (2, .pointer (some ⟨b3, 0, none⟩)), (1, .int .i64 d)], [.blk b3 [.int .i64 k, .string nm, .int .i64 num, .int .i64 tk, .slice pt tks.length ct, .int .i64 fk, .slice pf fks.length cf, .int .i64 lb, .slice p ks.length c]], G⟩) (fun i => i ≤ ks.length ∧ ∀ j (h : j < ks.length), j < i → N5 40 13 ks[j] (41 - d + 1) = true) (fun i => ks.length - i) 0 ?_ ?_ ?_)
 exact C9
 exact ⟨by omega, by omega⟩
 (rintro i ⟨hi, hf⟩)
 refine C3 ?_
 refine sB (I2 rfl rfl) rfl rfl (fun h320 => ?_) (fun h320 => ?_)
 refine sD (nS (qT rfl (tK (nS (tS ?_)))))
 refine B3 ?_
 refine O8 ?_
 (obtain ⟨b, o, e, rfl, hl, hat, hre, hgb⟩ := hsl.kidTm hkl (i := i) (by omega) (by omega); refine sP (A8 rfl rfl rfl (by omega)) rfl rfl ?_)
 refine sL (A0 rfl rfl (hat _) hl) rfl rfl ?_
 refine sQ (qM rfl) rfl ?_
 refine sP (W8 rfl rfl (by omega) (by omega)) rfl rfl ?_
 (have hih := ih ks[i] (List.getElem_mem (by omega)) (d - 1) G _ (by omega) hre; rw [show 41 - (d - 1) = 41 - d + 1 by omega] at hih; refine F0 rfl hih rfl rfl (fun h337 => ?_) (fun h337 => ?_))
 refine D8 ?_
 refine sP (E8 rfl rfl (by omega) (by omega)) rfl rfl ?_
 refine sQ (qA rfl) rfl (sD ?_)
 refine I4 (i + 1) ?_ ?_ ?_
 exact C9
 exact ⟨by omega, fun j hj hji => by (by_cases he : j = i; (subst he; assumption); exact hf j hj (by omega))⟩
 omega
 refine J1 ?_
 (rw [A02 (by omega) (by omega) (hR.trans (by assumption)), A46 (i := i) (by omega) (by assumption)]; exact ⟨rfl, rfl, rfl⟩)
 refine H3 ?_
 (rw [A02 (by omega) (by omega) (hR.trans (by assumption)), (A0O 40 13 ks _).2 (fun j hj => hf j hj (by omega))]; exact ⟨rfl, rfl, rfl⟩)
 refine aP 33 rfl (pNf rfl) rfl ?_
 refine aP 34 rfl (L4 rfl rfl) rfl ?_
 refine aP 35 rfl (N4 rfl rfl) rfl ?_
 refine F8 ?_
 (rw [A01 (by rw [hR]; first | omega | exact .inr (.inr (by assumption)) | exact .inr (.inr (by cases R with | false => rfl | true => exact absurd (har rfl) (by omega))))]; exact ⟨rfl, rfl, rfl⟩)
theorem B1x {D N : Int} {k : Int} {nm : ByteArray} {num : Int} {ty fr : Ty} {lb : Int} {ks : List Tm} {d : Int} (h : N5 D N (.mk k nm num ty fr lb ks) d = true) : d ≤ D ∧ ∀ i, (hi : i < ks.length) → N5 D N ks[i] (d + 1) = true := by
 rw [N5] at h
 simp only [Bool.and_eq_true, decide_eq_true_eq] at h
 exact ⟨h.1.1.1, (A0O D N ks _).1 h.2⟩
mutual
theorem A47 (M D N : Int) : ∀ (t : Tm) (deep c : Int), c ≤ M → ((R5 M D N t deep c).1 = true ↔ N5 D N t deep = true ∧ c + D1 t ≤ M)
 | .mk k nm num ty fr lb ks, deep, c, hc => by
  rw [R5, D1]
  by_cases h : c + 1 > M ∨ deep > D ∨ k = N ∨ T5 k nm num ty fr lb ks.length = false
  ·rw [if_pos h]
   constructor
   ·intro h; cases h
   ·rintro ⟨h1, h2⟩
    rcases h with h | h
    ·omega
    ·rw [A01 h] at h1; cases h1
  ·rw [if_neg h]
   have hn : T5 k nm num ty fr lb ks.length = true := by
    cases hx : T5 k nm num ty fr lb ks.length with
    | true => rfl
    | false => exact absurd (Or.inr (Or.inr (Or.inr hx))) h
   rw [A02 (by omega) (by omega) hn, A7r M D N ks (deep + 1) (c + 1) (by omega)]
   constructor
   ·rintro ⟨a, b⟩; exact ⟨a, by omega⟩
   ·rintro ⟨a, b⟩; exact ⟨a, by omega⟩
theorem A7r (M D N : Int) : ∀ (ts : List Tm) (deep c : Int), c ≤ M → ((S4 M D N ts deep c).1 = true ↔ N6 D N ts deep = true ∧ c + E7 ts ≤ M)
 | [], deep, c, hc => by simp [S4, N6, E7]; omega
 | t :: ts, deep, c, hc => by
  have h0 := A47 M D N t deep c hc
  rw [S4, N6, E7, Bool.and_eq_true]
  by_cases h : (R5 M D N t deep c).1 = true
  ·rw [if_pos h, A4R M D N t deep c h, A7r M D N ts deep _ (h0.1 h).2]
   have := h0.1 h
   constructor
   ·rintro ⟨a, b⟩; exact ⟨⟨this.1, a⟩, by omega⟩
   ·rintro ⟨⟨_, a⟩, b⟩; exact ⟨a, by omega⟩
  ·rw [if_neg h]
   constructor
   ·intro h'; cases h'
   ·rintro ⟨⟨a, _⟩, b⟩
    exact absurd (h0.2 ⟨a, by omega⟩) h
end
theorem A48 (t : Tm) : P7 t = true ↔ N5 40 13 t 1 = true ∧ D1 t ≤ 200 := by
 have := A47 200 40 13 t 1 0 (by omega)
 rw [P7, this]
 constructor
 ·rintro ⟨a, b⟩; exact ⟨a, by omega⟩
 ·rintro ⟨a, b⟩; exact ⟨a, by omega⟩
theorem A7s (D N : Int) : ∀ (t : Tm) (d : Int) (G : IM) (cells : List Value), d ≤ 40 → N5 D N t (D + 1 - d) = true → D1 t ≤ 4294967296 → A6 G t cells →
  Fn Tryz.prog 184 [.agg ⟨cells⟩, .int .i64 d] [] G (E4 (.int .i64 (D1 t : Int)) G) := by
 refine Tm.ind fun k nm num ty fr lb ks ih d G cells hd hv hcnt hr => ?_
 have hone := hr.one
 obtain ⟨hv1, hv2⟩ := B1x hv
 obtain ⟨tk, tks⟩ := ty
 obtain ⟨fk, fks⟩ := fr
 obtain ⟨pt, ct, pf, cf, p, c, es, rfl, hk, hnum, hlb, hty, hfr, hsl, hkl⟩ := hr.open9
 have hn := hsl.le
 clear hr
 rw [D1] at hcnt ⊢
 refine B4 Tryz.func184 rfl Tryz.ntmps184 Tryz.results184 rfl ?_
 intro w0
 refine tS (tR ?_)
 refine sE (C1 rfl rfl) rfl (fun b3 => ?_)
 refine L5 ?_
 refine B3 ?_
 (refine I1 (fun (i : Nat) => ⟨[(6, .int .i64 i), (5, .int .i64 ((E7 (ks.take i) + 1 : Nat) : Int)), (2, .pointer (some ⟨b3, 0, none⟩)), (1, .int .i64 d)], [.blk b3 [.int .i64 k, .string nm, .int .i64 num, .int .i64 tk, .slice pt tks.length ct, .int .i64 fk, .slice pf fks.length cf, .int .i64 lb, .slice p ks.length c]], G⟩) (fun i => i ≤ ks.length) (fun i => ks.length - i) 0 ?_ ?_ ?_)
 exact C9
 exact Nat.zero_le _
 (rintro i hi)
 refine C3 ?_
 refine sB (I2 rfl rfl) rfl rfl (fun h30 => ?_) (fun h30 => ?_)
 refine sQ (qM rfl) rfl (sQ (qM rfl) rfl ?_)
 refine sP (A2Z rfl rfl (by omega)) rfl rfl ?_
 refine sQ (L4 rfl rfl) rfl (sD (nS (qT rfl (tK (nS (tS ?_))))))
 refine B3 ?_
 refine O8 ?_
 (obtain ⟨b, o, e, rfl, hl, hat, hre, hgb⟩ := hsl.kidTm hkl (i := i) (by omega) (by omega); have htk := A0s (ks := ks) (i := i) (by omega); refine sP (A8 rfl rfl rfl (by omega)) rfl rfl ?_)
 refine sL (A0 rfl rfl (hat _) hl) rfl rfl ?_
 refine sQ (qM rfl) rfl ?_
 refine sP (W8 rfl rfl (by omega) (by omega)) rfl rfl ?_
 (have hvk := hv2 i (by omega); rw [show D + 1 - d + 1 = D + 1 - (d - 1) by omega] at hvk; refine I3 rfl (ih ks[i] (List.getElem_mem (by omega)) (d - 1) G _ (by omega) hvk (by omega) hre) rfl rfl ?_)
 refine sP (E8 rfl rfl (by omega) (by omega)) rfl rfl ?_
 refine E2 ?_
 refine sP (E8 rfl rfl (by omega) (by omega)) rfl rfl ?_
 refine sQ (qA rfl) rfl (sD ?_)
 (refine I4 (i + 1) ?_ ?_ ?_; rw [show ((E7 (ks.take (i + 1)) + 1 : Nat) : Int) = ((E7 (ks.take i) + 1 : Nat) : Int) + (D1 ks[i] : Int) from by rw [A0t (by omega)]; omega])
 exact C9
 omega
 omega
 refine A0b ?_
 (obtain rfl : i = ks.length := (by omega); rw [List.take_length]; exact ⟨rfl, rfl, rfl⟩)
theorem A7t (t : Tm) (G : IM) (cells : List Value) (hcnt : D1 t ≤ 4294967296) (hr : A6 G t cells) :
  Fn Tryz.prog 130 [.agg ⟨cells⟩] [] G (E4 (.bool (P7 t)) G) := by
 have hl := hr.len
 have hv := B1w t 40 G cells (by omega) hr
 have hc := fun h => A7s 40 13 t 40 G cells (by omega) h hcnt hr
 have hi := A48 t
 obtain ⟨R, hR⟩ : ∃ R, P7 t = R := ⟨_, rfl⟩
 rw [hR] at hi ⊢
 refine B4 Tryz.func130 rfl Tryz.ntmps130 Tryz.results130 rfl ?_
 intro w0
 refine tS (tR ?_)
 refine sE (C1 rfl rfl) rfl (fun b3 => ?_)
 refine sQ (qA rfl) rfl (sD (nS (tS (tR ?_))))
 refine sL (A0 rfl rfl (A9 (by repeat first | exact mH | apply mT)) (by assumption)) rfl rfl ?_
 refine F0 rfl (hv) rfl rfl (fun h10 => ?_) (fun h10 => ?_)
 refine sQ (qM rfl) rfl ?_
 refine sL (A0 rfl rfl (A9 (by repeat first | exact mH | apply mT)) (by assumption)) rfl rfl ?_
 refine I3 rfl (hc (by assumption)) rfl rfl ?_
 refine sB (W9 rfl rfl) rfl rfl (fun h14 => ?_) (fun h14 => ?_)
 refine E2 ?_
 exact ⟨rfl, by rw [hi.2 ⟨by assumption, by omega⟩], rfl⟩
 refine E2 ?_
 exact ⟨rfl, by (cases R with | false => rfl | true => (exfalso; have h0 := hi.1 rfl; first | omega | simp_all)), rfl⟩
 refine I8 ?_
 exact ⟨rfl, by (cases R with | false => rfl | true => (exfalso; have h0 := hi.1 rfl; first | omega | simp_all)), rfl⟩
theorem Sw.same {hp hp' : List A4} {e : A4} (h : Sw hp e e hp') : hp' = hp := by
 generalize he : e = e' at h
 have : ∀ {hp e e' hp'}, Sw hp e e' hp' → e = e' → hp' = hp := by
  intro hp e e' hp' h
  induction h with
  | here => rintro rfl; rfl
  | there _ ih => intro he; rw [ih he]
 subst he
 exact this h rfl
section
variable {P : Program} {Γ : L7} {env : M0} {hp : List A4} {G : IM} {ty : TypeId}
theorem A7u {d : Nat} {x y : Operand} {t el : TypeId} {i : L0} {sz by' : Nat} {zs : List Value} [hI : H6 P t i] {ie : L0} [hEl : H6 P el ie] (hd' : i.desc = .slice el) [hE : T9 P el sz by' zs] {p q : Option Addr} {c n m c2 : Nat} {cs news : List Value} {hp' : Option Addr → Nat → List A4}
  (hd : Nat.blt d Γ.n = true) (hx : evo env x = some (.slice p n c)) (hy : evo env y = some (.slice q m c2)) (hsz : Nat.blt 0 sz = true)
  (hm : ∀ p' c', Sw hp (.slc p c el sz n cs) (.slc p' c' el sz (n + m) (cs ++ news)) (hp' p' c'))
  (hS : Sl G q m c2 sz news) (h1 : ∀ u ∈ news, u.oneCell' = true) (hc : n ≤ c)
  (h63 : n + m ≤ maxLen) (hb : (n + m) * by' ≤ 140737488355328) :
  U6 P Γ ⟨env, hp, G⟩ (some d) (.call ⟨.builtin .append, ⟨[x, y]⟩, ⟨[t, t]⟩⟩) ty (H4 p) (fun σ' => ∃ p' c', σ' = ⟨(d, .slice p' (n + m) c') :: env, hp' p' c', G⟩) := by
 obtain ⟨hl, _, _, hat⟩ := hS
 rcases Nat.eq_zero_or_pos m with rfl | hm0
 ·obtain rfl : news = [] := List.length_eq_zero_iff.1 (by omega)
  have hpu := A95 (P := P) (Γ := Γ) (hp := hp) (G := G) (ty := ty) (t := t) (el := el) hd' hx hy hc
  refine ⟨fun a w hs pos af gd Q next hn => ?_⟩
  simp only [Oper.wp, hpu.run a w hs, Oper.upon]
  refine hn _ _ _ (hs.put d _ (by simpa using hd) hs.res) (Z9.refl _ _) ⟨p, c, ?_⟩
  have h0 := hm p c
  simp only [Nat.add_zero, List.append_nil] at h0 ⊢
  rw [h0.same]
 ·obtain ⟨b, o, full, rfl, hg, hv⟩ := hat.resolve_left (by omega)
  exact A4F hd' hd hx hy hsz hm (A3D hg hv) hl h1 h63 hb
variable {K : Po} {ops : Array Oper} {rest : List Oper} {pos : String} {af : Array Edge} {gd : Option (Nat × Bool)}
theorem A3d {d : Nat} {x y : Operand} {t el : TypeId} {i : L0} {sz by' : Nat} {zs : List Value} [hI : H6 P t i] {ie : L0} [hEl : H6 P el ie] [hE : T9 P el sz by' zs] {p q : Option Addr} {c n m c2 : Nat} {cs news : List Value} {hp' : Option Addr → Nat → List A4}
  (hd' : i.desc = .slice el) (hd : Nat.blt d Γ.n = true) (hx : evo env x = some (.slice p n c)) (hy : evo env y = some (.slice q m c2)) (hsz : Nat.blt 0 sz = true)
  (hm : ∀ p' c', Sw hp (.slc p c el sz n cs) (.slc p' c' el sz (n + m) (cs ++ news)) (hp' p' c'))
  (hS : Sl G q m c2 sz news) (h1 : ∀ u ∈ news, u.oneCell' = true) (hc : n ≤ c)
  (h63 : n + m ≤ maxLen) (hb : (n + m) * by' ≤ 140737488355328) (hw : K3 ops env gd = some true)
  (k : ∀ p' c', E0 P Γ ops rest K ⟨(d, .slice p' (n + m) c') :: env, hp' p' c', G⟩) : E0 P Γ ops (⟨some d, .call ⟨.builtin .append, ⟨[x, y]⟩, ⟨[t, t]⟩⟩, ty, pos, af, gd⟩ :: rest) K ⟨env, hp, G⟩ :=
 K6 (A7u hd' hd hx hy hsz hm hS h1 hc h63 hb) hw (by rintro _ ⟨p', c', rfl⟩; exact k p' c')
theorem A49 {H : List (Nat × Nat)} {fuel : Nat} {listed l' : List Bool} {j d : Nat} {cs : List Value} {x y : Operand} {t el : TypeId} {i : L0} {sz by' : Nat} {zs : List Value} [hI : H6 P t i] {ie : L0} [hEl : H6 P el ie] [hE : T9 P el sz by' zs] {p q : Option Addr} {c n m c2 : Nat} {news : List Value} {hp' : Option Addr → Nat → List A4} {H' : List (Nat × Nat)}
  (hi : ops[j]? = some ⟨some d, .call ⟨.builtin .append, ⟨[x, y]⟩, ⟨[t, t]⟩⟩, ty, pos, af, gd⟩) (hd' : i.desc = .slice el)
  (hd : Nat.blt d Γ.n = true) (hx : evo env x = some (.slice p n c)) (hy : evo env y = some (.slice q m c2)) (hsz : Nat.blt 0 sz = true)
  (hm : ∀ p' c', Sw hp (.slc p c el sz n cs) (.slc p' c' el sz (n + m) (cs ++ news)) (hp' p' c'))
  (hS : Sl G q m c2 sz news) (h1 : ∀ u ∈ news, u.oneCell' = true) (hc : n ≤ c)
  (h63 : n + m ≤ maxLen) (hb : (n + m) * by' ≤ 140737488355328) (hw : K3 ops env gd = some true) (hl : listed.set j true = l')
  (hok : C6 ops j hp G (.slc p c el sz n cs) H H')
  (k : ∀ p' c', M2 P Γ ops K H' fuel l' ⟨(d, .slice p' (n + m) c') :: env, hp' p' c', G⟩) : S9 P Γ ops K H fuel listed j ⟨env, hp, G⟩ :=
 A23 hi (A7u hd' hd hx hy hsz hm hS h1 hc h63 hb) hw hl (fun _ _ hs => hok.spec hs) hok.filter (by rintro _ ⟨p', c', rfl⟩; exact k p' c')
theorem B1y {H H' : List (Nat × Nat)} {fuel : Nat} {listed l' : List Bool} {j d : Nat} {f : FuncId} [hF : B1 P f] {xs : List Operand} {ats : Array TypeId} {vs : List Value} {e : A4} {rst : List A4} {post : IM → Value → List A4 → Prop}
  (hi : ops[j]? = some ⟨some d, .call ⟨.value (.func f), ⟨xs⟩, ats⟩, ty, pos, af, gd⟩) (hx : evl env xs = some vs) (h : Fn P f vs [e] G post) (hp' : hp.Perm ([e] ++ rst)) (hw : K3 ops env gd = some true) (hd : Nat.blt d Γ.n = true) (hl : listed.set j true = l')
  (hok : C6 ops j hp G e H H')
  (k : ∀ v G' outs, B7 G G' → post G' v outs → M2 P Γ ops K H' fuel l' ⟨(d, v) :: env, outs ++ rst, G'⟩) : S9 P Γ ops K H fuel listed j ⟨env, hp, G⟩ :=
 A23 hi (A1T hx h hp' hd) hw hl (fun _ _ hs => by simpa [Fp] using hok.spec hs) hok.filter (by rintro _ ⟨v, G', outs, rfl, hle, hq⟩; exact k v G' outs hle hq)
end
theorem A16 {G G' : IM} (h : B7 G G') {b : Nat} (hb : G' b = none) : G b = none := by
 cases hg : G b with
 | none => rfl
 | some l => rw [h b l hg] at hb; cases hb
theorem B1z {G G' : IM} {b : Nat} (h : G b ≠ none) : B2 G' G b = none := by
 cases hd : B2 G' G b with
 | none => rfl
 | some l => exact absurd (B2.out (by rw [hd]; simp)) h
theorem A7v {G0 Ga Gb Gc : IM} {bs : K5} {F : List Nat} (hi : Y6 (B2 Gb Ga) bs F) (hn : F.Nodup) (h0 : B7 G0 Ga) (hc : B7 (B2 Gb Ga) Gc) :
  (bs.map Prod.fst).Nodup ∧ (∀ q ∈ bs, Gc q.1 = some q.2 ∧ G0 q.1 = none) ∧ (∀ b ∈ bs.map Prod.fst, Ga b = none ∧ Gb b ≠ none) := by
 have key : ∀ q ∈ bs, Ga q.1 = none ∧ Gb q.1 = some q.2 := fun q hq => ⟨B2.out (by rw [hi.2 q hq]; simp), B2.le _ _ _ _ (hi.2 q hq)⟩
 refine ⟨hn.sublist hi.1, fun q hq => ⟨hc _ _ (hi.2 q hq), A16 h0 (key q hq).1⟩, fun b hb => ?_⟩
 obtain ⟨q, hq, rfl⟩ := List.mem_map.1 hb
 exact ⟨(key q hq).1, by rw [(key q hq).2]; simp⟩
section forget
variable {P : Program} {Γ : L7} {env : M0} {hp : List A4} {G : IM} {K : Po} {ops : Array Oper} {rest : List Oper} {ty : TypeId} {pos : String} {af : Array Edge} {gd : Option (Nat × Bool)}
theorem B1A {A B : List A4} (k : E0 P Γ ops rest K ⟨env, B, G⟩) : E0 P Γ ops rest K ⟨env, A ++ B, G⟩ :=
 ⟨fun a w hs => k.run a w ⟨hs.size, hs.nod, hs.env, (hs.res.perm List.perm_append_comm).left⟩⟩
theorem B1B {d : Nat} {f : FuncId} [hF : B1 P f] {xs : List Operand} {ats : Array TypeId} {vs : List Value} {v0 : Value} {Φ : K5 → Prop} {bs : K5} (hn : (bs.map Prod.fst).Nodup) (hg : ∀ q ∈ bs, G q.1 = some q.2 ∧ Γ.G0 q.1 = none)
  (hx : evl env xs = some vs) (h : Fn P f vs (blks bs) (Wo G (bs.map Prod.fst)) (A1x v0 (Wo G (bs.map Prod.fst)) Φ)) (hw : K3 ops env gd = some true) (hd : Nat.blt d Γ.n = true)
  (k : E0 P Γ ops rest K ⟨(d, v0) :: env, hp, Wo G (bs.map Prod.fst)⟩) : E0 P Γ ops (⟨some d, .call ⟨.value (.func f), ⟨xs⟩, ats⟩, ty, pos, af, gd⟩ :: rest) K ⟨env, hp, G⟩ := by
 refine A6r bs hn hg ?_
 refine K6 (A1T hx h (List.Perm.refl _) hd) hw ?_
 rintro _ ⟨v, G', outs, rfl, _, rfl, rfl, bs', rfl, hΦ⟩
 exact B1A k
theorem B1C {d : Nat} {f : FuncId} [hF : B1 P f] {xs : List Operand} {ats : Array TypeId} {vs : List Value} {v0 : Value} {Φ : K5 → Prop} {bs : K5} (hn : (bs.map Prod.fst).Nodup) (hg : ∀ q ∈ bs, G q.1 = some q.2 ∧ Γ.G0 q.1 = none)
  (hx : evl env xs = some vs) (h : Fn P f vs (blks bs) (Wo G (bs.map Prod.fst)) (A1x v0 (Wo G (bs.map Prod.fst)) Φ)) (hw : K3 ops env gd = some true) (hd : Nat.blt d Γ.n = true)
  (k : ∀ bs' G', Φ bs' → B7 (Wo G (bs.map Prod.fst)) G' → (∀ q ∈ bs', G' q.1 = some q.2) → E0 P Γ ops rest K ⟨(d, v0) :: env, hp, G'⟩) : E0 P Γ ops (⟨some d, .call ⟨.value (.func f), ⟨xs⟩, ats⟩, ty, pos, af, gd⟩ :: rest) K ⟨env, hp, G⟩ := by
 refine A6r bs hn hg ?_
 refine K6 (A1T hx h (List.Perm.refl _) hd) hw ?_
 rintro _ ⟨v, G', outs, rfl, _, rfl, rfl, bs', rfl, hΦ⟩
 exact B0g (List.Perm.refl _) fun h1 h2 h3 => k bs' _ hΦ h3 fun q hq => Wi.in h1 hq
end forget
def tAt : Tm → List Int → Option Tm
 | t, [] => some t
 | .mk _ _ _ _ _ _ ks, i :: is => if h : 0 ≤ i ∧ i < ks.length then tAt (ks[i.toNat]'(by omega)) is else none
def z9 : List Value := [.int .i64 0, .string ⟨⟨[]⟩⟩, .int .i64 0, .int .i64 0, .slice none 0 0, .int .i64 0, .slice none 0 0, .int .i64 0, .slice none 0 0]
def AtP (t : Tm) (path : List Int) (G : IM) : IM → Value → List A4 → Prop := fun G' v outs => G' = G ∧ outs = [] ∧
 ((∃ x cells, tAt t path = some x ∧ A6 G x cells ∧ v = .tuple ⟨[.agg ⟨cells⟩, .bool true]⟩) ∨ (tAt t path = none ∧ v = .tuple ⟨[.agg ⟨z9⟩, .bool false]⟩))
theorem A7w {l : List Int} {i : Nat} {v : Value} (h : (N3 l)[i]? = some v) (hi : i < l.length) : v = .int .i64 l[i] := (A3S h).2
def pAt (t : Tm) (label : Int) (l : List Int) : Bool := match tAt t l with
 | some x => decide (x.k = 14 ∧ x.lb = label)
 | none => false
def A5a (t : Tm) (label : Int) : List Int × Bool := match (B0A t).find? (pAt t label) with
 | some l => (l, true)
 | none => ([], false)
def SP1 (G : IM) (l : List Int) (p : Option Addr) (c : Nat) : Prop := Sl G p l.length c 1 (N3 l) ∧ ∀ b ∈ H4 p, G b ≠ none
def CpP (t : Tm) (label : Int) (G : IM) : IM → Value → List A4 → Prop := J8 fun G' v => ∃ p c, v = .tuple ⟨[.slice p (A5a t label).1.length c, .bool (A5a t label).2]⟩ ∧ SP1 (B2 G' G) (A5a t label).1 p c
theorem SP1.nil (G : IM) : SP1 G [] none 0 := ⟨Sl.nil G 1, by simp [H4]⟩
theorem SP1.blks {G : IM} {l : List Int} {p : Option Addr} {c : Nat} (h : SP1 G l p c) : ∃ bs, OIs l p c bs ∧ Y6 G bs (H4 p) := by
 obtain ⟨h3, _⟩ := h
 have hc := h3.2.1
 have hm := h3.2.2.1
 cases l with
 | nil => exact ⟨[], ⟨hc, hm, .inl ⟨rfl, rfl⟩⟩, Y6.nil _ _⟩
 | cons x xs =>
  obtain ⟨b, A, C, rfl, hg⟩ := h3.blk (by simp [N3])
  exact ⟨[(b, A ++ (N3 (x :: xs) ++ C))], ⟨hc, hm, .inr ⟨b, A, C, rfl, rfl⟩⟩, by simp [H4], by simpa using hg⟩
end Gw
end Go.Proofs.YtfpgncjeejickaaGreat
namespace Go.Proofs.YtfpgncjeejickaaGreat
namespace Gw
inductive GT where
 | any | int | bool
 | fn (a b : GT)
 | pr (a b : GT)
inductive GE where
 | var (x : ByteArray)
 | num (n : Int)
 | tru (b : Bool)
 | lam (x : ByteArray) (A : GT) (e : GE)
 | app (f a : GE)
 | ar (s : Bool) (a b : GE)
 | ite (c a b : GE)
 | pair (a b : GE)
 | part (s : Bool) (e : GE)
 | cast (A B : GT) (l : Int) (e : GE)
def GT.gr : GT → GT
 | .any => .any
 | .int => .int
 | .bool => .bool
 | .fn _ _ => .fn .any .any
 | .pr _ _ => .pr .any .any
def GT.Gd (t : GT) : Prop := t ≠ .any ∧ t.gr = t
inductive Co : GT → GT → Prop
 | l {b} : Co .any b
 | r {a} : Co a .any
 | int : Co .int .int
 | bool : Co .bool .bool
 | fn {a b a' b'} : Co a a' → Co b b' → Co (.fn a b) (.fn a' b')
 | pr {a b a' b'} : Co a a' → Co b b' → Co (.pr a b) (.pr a' b')
inductive Le : GT → GT → Prop
 | any {a} : Le a .any
 | int : Le .int .int
 | bool : Le .bool .bool
 | fn {a b a' b'} : Le a a' → Le b b' → Le (.fn a b) (.fn a' b')
 | pr {a b a' b'} : Le a a' → Le b b' → Le (.pr a b) (.pr a' b')
def GE.sub : GE → ByteArray → GE → GE
 | .var y, x, v => if y = x then v else .var y
 | .num n, _, _ => .num n
 | .tru b, _, _ => .tru b
 | .lam y A e, x, v => if y = x then .lam y A e else .lam y A (e.sub x v)
 | .app f a, x, v => .app (f.sub x v) (a.sub x v)
 | .ar s a b, x, v => .ar s (a.sub x v) (b.sub x v)
 | .ite c a b, x, v => .ite (c.sub x v) (a.sub x v) (b.sub x v)
 | .pair a b, x, v => .pair (a.sub x v) (b.sub x v)
 | .part s e, x, v => .part s (e.sub x v)
 | .cast A B l e, x, v => .cast A B l (e.sub x v)
inductive GV : GE → Prop
 | num {n} : GV (.num n)
 | tru {b} : GV (.tru b)
 | lam {x A e} : GV (.lam x A e)
 | pair {a b} : GV a → GV b → GV (.pair a b)
 | pf {a b c d l e} : GV e → GV (.cast (.fn a b) (.fn c d) l e)
 | pp {a b c d l e} : GV e → GV (.cast (.pr a b) (.pr c d) l e)
 | inj {A l e} : GV e → A.Gd → GV (.cast A .any l e)
def B1D (s : Bool) (m n : Int) : GE := if s = true then .tru (decide (m < n)) else .num ((m + n) % 1000)
inductive GS : GE → GE → Prop
 | app1 {f f' a} : GS f f' → GS (.app f a) (.app f' a)
 | app2 {f a a'} : GV f → GS a a' → GS (.app f a) (.app f a')
 | ar1 {s a a' b} : GS a a' → GS (.ar s a b) (.ar s a' b)
 | ar2 {s a b b'} : GV a → GS b b' → GS (.ar s a b) (.ar s a b')
 | ite1 {c c' a b} : GS c c' → GS (.ite c a b) (.ite c' a b)
 | pair1 {a a' b} : GS a a' → GS (.pair a b) (.pair a' b)
 | pair2 {a b b'} : GV a → GS b b' → GS (.pair a b) (.pair a b')
 | part1 {s e e'} : GS e e' → GS (.part s e) (.part s e')
 | cast1 {A B l e e'} : GS e e' → GS (.cast A B l e) (.cast A B l e')
 | beta {x A b v} : GV v → GS (.app (.lam x A b) v) (b.sub x v)
 | appx {a b c d l f v} : GV f → GV v → GS (.app (.cast (.fn a b) (.fn c d) l f) v) (.cast b d l (.app f (.cast c a (-l) v)))
 | ar {s m n} : GS (.ar s (.num m) (.num n)) (B1D s m n)
 | ite {b x y} : GS (.ite (.tru b) x y) (if b = true then x else y)
 | part {s a b} : GV a → GV b → GS (.part s (.pair a b)) (if s = true then b else a)
 | partx {s a b c d l e} : GV e → GS (.part s (.cast (.pr a b) (.pr c d) l e)) (.cast (if s = true then b else a) (if s = true then d else c) l (.part s e))
 | cid {A l v} : GV v → (A = .any ∨ A = .int ∨ A = .bool) → GS (.cast A A l v) v
 | up {A l v} : GV v → A ≠ .any → A.gr ≠ A → GS (.cast A .any l v) (.cast A.gr .any l (.cast A A.gr l v))
 | down {B l v} : GV v → B ≠ .any → B.gr ≠ B → GS (.cast .any B l v) (.cast B.gr B l (.cast .any B.gr l v))
 | hit {G l m w} : GV w → G.Gd → GS (.cast .any G l (.cast G .any m w)) w
inductive Ss : GE → GE → Prop
 | refl {e} : Ss e e
 | step {a b c} : GS a b → Ss b c → Ss a c
abbrev GC := ByteArray → Option (GT × GT)
def emp : GC := fun _ => none
def gup (Γ : GC) (x : ByteArray) (A A' : GT) : GC := fun y => if x = y then some (A, A') else Γ y
inductive GP : GC → GE → GE → GT → GT → Prop
 | var {Γ x A A'} : Γ x = some (A, A') → Le A A' → GP Γ (.var x) (.var x) A A'
 | num {Γ n} : GP Γ (.num n) (.num n) .int .int
 | tru {Γ b} : GP Γ (.tru b) (.tru b) .bool .bool
 | lam {Γ x A A' B B' e e'} : Le A A' → GP (gup Γ x A A') e e' B B' → GP Γ (.lam x A e) (.lam x A' e') (.fn A B) (.fn A' B')
 | app {Γ f f' a a' A A' B B'} : GP Γ f f' (.fn A B) (.fn A' B') → GP Γ a a' A A' → GP Γ (.app f a) (.app f' a') B B'
 | ar {Γ s a a' b b'} : GP Γ a a' .int .int → GP Γ b b' .int .int → GP Γ (.ar s a b) (.ar s a' b') (if s = true then .bool else .int) (if s = true then .bool else .int)
 | ite {Γ c c' a a' b b' A A'} : GP Γ c c' .bool .bool → GP Γ a a' A A' → GP Γ b b' A A' → GP Γ (.ite c a b) (.ite c' a' b') A A'
 | pair {Γ a a' b b' A A' B B'} : GP Γ a a' A A' → GP Γ b b' B B' → GP Γ (.pair a b) (.pair a' b') (.pr A B) (.pr A' B')
 | part {Γ s e e' A A' B B'} : GP Γ e e' (.pr A B) (.pr A' B') → GP Γ (.part s e) (.part s e') (if s = true then B else A) (if s = true then B' else A')
 | castL {Γ e e' A B A' l} : GP Γ e e' A A' → Co A B → Le B A' → GP Γ (.cast A B l e) e' B A'
 | castR {Γ e e' A A' B' l} : GP Γ e e' A A' → Co A' B' → Le A B' → GP Γ e (.cast A' B' l e') A B'
 | castB {Γ e e' A B A' B' l l'} : GP Γ e e' A A' → Co A B → Co A' B' → Le B B' → GP Γ (.cast A B l e) (.cast A' B' l' e') B B'
inductive GX where
 | n (n : Int) | b (b : Bool) | p | f
def GE.tx : GE → GX
 | .num n => .n n
 | .tru b => .b b
 | .pair _ _ => .p
 | .cast _ (.fn _ _) _ _ => .f
 | .cast _ (.pr _ _) _ _ => .p
 | .cast _ _ _ e => e.tx
 | _ => .f
end Gw
end Go.Proofs.YtfpgncjeejickaaGreat
