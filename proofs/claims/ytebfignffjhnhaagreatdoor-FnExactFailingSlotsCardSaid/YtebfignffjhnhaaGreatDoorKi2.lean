/-
  The scans of types: typeScan, TypeValid, consistent, Consistent. The tests of terms. The scan of a term, CastValid, TermValid. slices.Clone of numbers, paths, AllPaths. AllPaths. The reference model's tests of types and nodes: they compute the same plain functions. The reference model's scans of types. The reference model's consistency of types. The reference model's tests of nodes. The reference model's scan of terms with casts. The reference model's count of nodes, its CastValid. append of a slice in memory that no longer changes, empty or not. The reference model's paths. The reference model's AllPaths. The law that AllPaths gives what the reference model gives: its walk. Nodes at paths, casts by their labels. The first cast with a label. The law that CastPath gives what the reference model gives: its walk. How high and how wide types are.
-/
import Derived.Test.YtebfignffjhnhaaGreatDoorKi1
set_option linter.unusedVariables false
set_option linter.unusedSimpArgs false
set_option maxHeartbeats 0
set_option maxRecDepth 100000
set_option synthInstance.maxSize 4000
set_option synthInstance.maxHeartbeats 0
namespace Go.Proofs.YtebfignffjhnhaaGreatDoor
open Go Go.RowKit
namespace Gw
theorem A3v (G : IM) (e : List Value) (d : Int) (b : Bool) (bd : Nat) (hl : e.length = 2) (hd : 0 ≤ d ∧ d ≤ 5) (h : Fn Tryz.prog 113 [.agg ⟨e⟩, .int .i64 (d + 1)] [] G (E5 (.bool b) G)) :
  Fn Tryz.prog 158 [.agg ⟨e⟩, .pointer (some ⟨bd, 0, none⟩)] [.blk bd [.int .i64 d]] G (T1 (.bool (!b)) [.blk bd [.int .i64 d]] G) := by
 refine B8 Tryz.func158 rfl Tryz.ntmps158 Tryz.results158 rfl ?_
 intro w0
 refine A2 ?_
 refine sE (C6 rfl rfl) rfl (fun b3 => ?_)
 refine B0 ?_
 refine sL (A0 rfl rfl (B1 (by repeat first | exact mH | apply mT)) (by assumption)) rfl rfl ?_
 refine E0 ?_
 refine sP (E7 rfl rfl (by omega) (by omega)) rfl rfl ?_
 refine E8 rfl (h) rfl rfl (fun h12 => ?_) (fun h12 => ?_)
 refine B0 ?_
 refine N4 (rT rfl) (A8.cons (Pk.there Pk.here) A8.nil) ?_
 exact ⟨rfl, by simp [*], rfl⟩
 refine B0 ?_
 refine N4 (rT rfl) (A8.cons (Pk.there Pk.here) A8.nil) ?_
 exact ⟨rfl, by simp [*], rfl⟩
theorem U1 {Q : Prop} (h : Q := by exact ⟨rfl, by (rw [O6, A7n, hA]; have := A16 k; first | (rw [decide_eq_true (by omega), decide_eq_true (by omega)]; simp only [*]; done) | (rw [decide_eq_true (by omega), decide_eq_true (by omega)]; simp only [*]; rfl) | (rw [decide_eq_false (by omega)]; rfl) | (rw [decide_eq_true (by omega), decide_eq_false (by omega)]; rfl)), rfl⟩) : Q := h
theorem B2P : ∀ (t : Ty) (d : Int) (G : IM) (cells : List Value), 0 ≤ d ∧ d ≤ 5 → C2 G t cells →
  Fn Tryz.prog 113 [.agg ⟨cells⟩, .int .i64 d] [] G (E5 (.bool (O6 t d)) G) := by
 refine Ty.ind fun k ks ih d G cells hd hr => ?_
 obtain ⟨p, c, es, rfl, hk, hsl, hkl⟩ := hr.open
 simp only [Ty.k, Ty.ks] at hk hsl hkl ⊢
 have hn := hsl.le
 obtain ⟨A, hA⟩ : ∃ A, ks.all (O6 · (d + 1)) = A := ⟨_, rfl⟩
 refine B8 Tryz.func113 rfl Tryz.ntmps113 Tryz.results113 rfl ?_
 intro w0
 refine A2 ?_
 refine sE (C6 rfl rfl) rfl (fun b3 => ?_)
 (refine J9 (A60 rfl rfl rfl) rfl ?_; rintro _ ⟨b4, rfl⟩)
 refine H1 ?_
 refine B7 (tS (tS (tR (sB (qE rfl rfl) rfl rfl (fun h24 => ?_) (fun h24 => ?_)))))
 refine H1 ?_
 refine sB (W9 rfl rfl) rfl rfl (fun h40 => ?_) (fun h40 => ?_)
 refine B0 ?_
 refine sB (qE rfl rfl) rfl rfl (fun h46 => ?_) (fun h46 => ?_)
 refine B6 ?_
 refine sQ (A1X rfl rfl) rfl (A3l rfl (A3u _ _ _ _ _ hsl _ [] _ [.blk b4 [.int .i64 d]] (O6 · (d + 1)) ks rfl hA (fun i e he => A3v _ _ _ _ _ (hsl.all e (List.mem_of_getElem? he)) hd (ih _ (hkl.inv he C1).1 _ _ _ (by omega) (hkl.inv he C1).2))) A0n rfl rfl (fun h52 => ?_) (fun h52 => ?_))
 simp only [Bool.not_eq_true', Bool.not_eq_false'] at h52
 refine A9 ?_
 exact U1
 simp only [Bool.not_eq_true', Bool.not_eq_false'] at h52
 refine A9 ?_
 exact U1
 refine J6 ?_
 exact U1
 refine A0o ?_
 exact U1
 refine A7 ?_
 refine sB (qE rfl rfl) rfl rfl (fun h109 => ?_) (fun h109 => ?_)
 refine H1 ?_
 refine sB (W9 rfl rfl) rfl rfl (fun h125 => ?_) (fun h125 => ?_)
 refine B0 ?_
 refine sB (qE rfl rfl) rfl rfl (fun h131 => ?_) (fun h131 => ?_)
 refine B6 ?_
 refine sQ (A1X rfl rfl) rfl (A3l rfl (A3u _ _ _ _ _ hsl _ [] _ [.blk b4 [.int .i64 d]] (O6 · (d + 1)) ks rfl hA (fun i e he => A3v _ _ _ _ _ (hsl.all e (List.mem_of_getElem? he)) hd (ih _ (hkl.inv he C1).1 _ _ _ (by omega) (hkl.inv he C1).2))) A0n rfl rfl (fun h137 => ?_) (fun h137 => ?_))
 simp only [Bool.not_eq_true', Bool.not_eq_false'] at h137
 refine A9 ?_
 exact U1
 simp only [Bool.not_eq_true', Bool.not_eq_false'] at h137
 refine A9 ?_
 exact U1
 refine J6 ?_
 exact U1
 refine A0o ?_
 exact U1
 refine B0 ?_
 refine sB (qE rfl rfl) rfl rfl (fun h193 => ?_) (fun h193 => ?_)
 refine J8 ?_
 refine sB (W9 rfl rfl) rfl rfl (fun h206 => ?_) (fun h206 => ?_)
 refine B0 ?_
 refine sB (qE rfl rfl) rfl rfl (fun h212 => ?_) (fun h212 => ?_)
 refine B6 ?_
 refine sQ (A1X rfl rfl) rfl (A3l rfl (A3u _ _ _ _ _ hsl _ [] _ [.blk b4 [.int .i64 d]] (O6 · (d + 1)) ks rfl hA (fun i e he => A3v _ _ _ _ _ (hsl.all e (List.mem_of_getElem? he)) hd (ih _ (hkl.inv he C1).1 _ _ _ (by omega) (hkl.inv he C1).2))) A0n rfl rfl (fun h218 => ?_) (fun h218 => ?_))
 simp only [Bool.not_eq_true', Bool.not_eq_false'] at h218
 refine A9 ?_
 exact U1
 simp only [Bool.not_eq_true', Bool.not_eq_false'] at h218
 refine A9 ?_
 exact U1
 refine J6 ?_
 exact U1
 refine A0o ?_
 exact U1
 refine A9 ?_
 refine sB (qE rfl rfl) rfl rfl (fun h276 => ?_) (fun h276 => ?_)
 refine H1 ?_
 refine sB (W9 rfl rfl) rfl rfl (fun h292 => ?_) (fun h292 => ?_)
 refine B0 ?_
 refine sB (qE rfl rfl) rfl rfl (fun h298 => ?_) (fun h298 => ?_)
 refine B6 ?_
 refine sQ (A1X rfl rfl) rfl (A3l rfl (A3u _ _ _ _ _ hsl _ [] _ [.blk b4 [.int .i64 d]] (O6 · (d + 1)) ks rfl hA (fun i e he => A3v _ _ _ _ _ (hsl.all e (List.mem_of_getElem? he)) hd (ih _ (hkl.inv he C1).1 _ _ _ (by omega) (hkl.inv he C1).2))) A0n rfl rfl (fun h304 => ?_) (fun h304 => ?_))
 simp only [Bool.not_eq_true', Bool.not_eq_false'] at h304
 refine A9 ?_
 exact U1
 simp only [Bool.not_eq_true', Bool.not_eq_false'] at h304
 refine A9 ?_
 exact U1
 refine J6 ?_
 exact U1
 refine A0o ?_
 exact U1
 refine B0 ?_
 refine sB (qE rfl rfl) rfl rfl (fun h360 => ?_) (fun h360 => ?_)
 refine J8 ?_
 refine sB (W9 rfl rfl) rfl rfl (fun h373 => ?_) (fun h373 => ?_)
 refine B0 ?_
 refine sB (qE rfl rfl) rfl rfl (fun h379 => ?_) (fun h379 => ?_)
 refine B6 ?_
 refine sQ (A1X rfl rfl) rfl (A3l rfl (A3u _ _ _ _ _ hsl _ [] _ [.blk b4 [.int .i64 d]] (O6 · (d + 1)) ks rfl hA (fun i e he => A3v _ _ _ _ _ (hsl.all e (List.mem_of_getElem? he)) hd (ih _ (hkl.inv he C1).1 _ _ _ (by omega) (hkl.inv he C1).2))) A0n rfl rfl (fun h385 => ?_) (fun h385 => ?_))
 simp only [Bool.not_eq_true', Bool.not_eq_false'] at h385
 refine A9 ?_
 exact U1
 simp only [Bool.not_eq_true', Bool.not_eq_false'] at h385
 refine A9 ?_
 exact U1
 refine J6 ?_
 exact U1
 refine A0o ?_
 exact U1
 refine I9 ?_
 refine sB (W9 rfl rfl) rfl rfl (fun h446 => ?_) (fun h446 => ?_)
 refine B0 ?_
 refine sP (J1 rfl rfl (by omega)) rfl rfl ?_
 refine J6 ?_
 exact U1
 refine A0o ?_
 exact U1
theorem A3w (t : Ty) (G : IM) (cells : List Value) (hr : C2 G t cells) : Fn Tryz.prog 66 [.agg ⟨cells⟩] [] G (E5 (.bool (H5 t)) G) := by
 have hl := hr.len
 have hv := B2P t 1 G cells (by omega) hr
 refine B8 Tryz.func66 rfl Tryz.ntmps66 Tryz.results66 rfl ?_
 intro w0
 refine A2 ?_
 refine sE (C6 rfl rfl) rfl (fun b3 => ?_)
 refine B0 ?_
 refine sL (A0 rfl rfl (B1 (by repeat first | exact mH | apply mT)) (by assumption)) rfl rfl ?_
 refine H4 rfl (hv) rfl rfl ?_
 refine B0 ?_
 exact ⟨rfl, rfl, rfl⟩
theorem zq9 {Q : Prop} (h : Q := by exact ⟨rfl, by (rw [A0c, hA]; first | (rw [decide_eq_true (p := k = 1) (by omega)]; rfl) | (rw [decide_eq_false (p := k = 1) (by omega), decide_eq_true (p := k' = 1) (by omega)]; rfl) | (rw [decide_eq_false (p := k = 1) (by omega), decide_eq_false (p := k' = 1) (by omega), decide_eq_false (p := k = k') (by omega)]; rfl) | (rw [decide_eq_false (p := k = 1) (by omega), decide_eq_false (p := k' = 1) (by omega), decide_eq_true (p := k = k') (by omega)]; simp only [*]; rfl)), rfl⟩) : Q := h
theorem Y3 : ∀ (t t' : Ty) (G : IM) (cells cells' : List Value), C2 G t cells → C2 G t' cells' →
  Fn Tryz.prog 154 [.agg ⟨cells⟩, .agg ⟨cells'⟩] [] G (E5 (.bool (K0 t t')) G) := by
 refine Ty.ind fun k ks ih t' G cells cells' hr hr' => ?_
 obtain ⟨k', ks'⟩ := t'
 obtain ⟨p, c, es, rfl, hk, hsl, hkl⟩ := hr.open
 obtain ⟨p', c', es', rfl, hk', hsl', hkl'⟩ := hr'.open
 simp only [Ty.k, Ty.ks] at hk hsl hkl hk' hsl' hkl' ⊢
 have hn := hsl.le
 have hn' := hsl'.le
 obtain ⟨A, hA⟩ : ∃ A, O8 ks ks' = A := ⟨_, rfl⟩
 have hA' : A = true ↔ ks.length = ks'.length ∧ ∀ i, i < ks.length → K0 (ks.getD i C1) (ks'.getD i C1) = true := by
  rw [← hA, A17]
  constructor
  ·rintro ⟨h1, h2⟩
   refine ⟨h1, fun i hi => ?_⟩
   have := h2 i hi (by omega)
   simpa [List.getD_eq_getElem?_getD, List.getElem?_eq_getElem hi, List.getElem?_eq_getElem (show i < ks'.length by omega)] using this
  ·rintro ⟨h1, h2⟩
   refine ⟨h1, fun i hi hi' => ?_⟩
   have := h2 i hi
   simpa [List.getD_eq_getElem?_getD, List.getElem?_eq_getElem hi, List.getElem?_eq_getElem hi'] using this
 refine B8 Tryz.func154 rfl Tryz.ntmps154 Tryz.results154 rfl ?_
 intro w0
 refine A2 ?_
 refine sE (C6 rfl rfl) rfl (fun b3 => ?_)
 refine sE (C6 rfl rfl) rfl (fun b4 => ?_)
 refine A9 ?_
 refine sB (qE rfl rfl) rfl rfl (fun h12 => ?_) (fun h12 => ?_)
 refine A2H ?_
 exact zq9
 refine B9 ?_
 refine sB (qE rfl rfl) rfl rfl (fun h41 => ?_) (fun h41 => ?_)
 refine A0b ?_
 exact zq9
 refine A7 ?_
 refine sB (qE rfl rfl) rfl rfl (fun h69 => ?_) (fun h69 => ?_)
 refine B0 ?_
 refine E8 rfl (A8b _ _ _ _ _ _ _ _ _ hsl hsl' _ [] [] [] (fun i => K0 (ks.getD i C1) (ks'.getD i C1)) A hA' (fun i e e' he he' => ih _ (hkl.inv he C1).1 _ _ _ _ (hkl.inv he C1).2 (hkl'.inv he' C1).2)) rfl rfl (fun h75 => ?_) (fun h75 => ?_)
 refine A9 ?_
 exact zq9
 refine A9 ?_
 exact zq9
 refine J6 ?_
 exact zq9
theorem A4f {Q : Prop} (h : Q := by exact ⟨rfl, by simp only [A1C]; simp only [*, Bool.true_and, Bool.false_and, Bool.and_true], rfl⟩) : Q := h
theorem B2Q (t t' : Ty) (G : IM) (cells cells' : List Value) (hr : C2 G t cells) (hr' : C2 G t' cells') :
  Fn Tryz.prog 201 [.agg ⟨cells⟩, .agg ⟨cells'⟩] [] G (E5 (.bool (A1C t t')) G) := by
 have hl := hr.len
 have hl' := hr'.len
 have hv := A3w t G cells hr
 have hv' := A3w t' G cells' hr'
 have hc := Y3 t t' G cells cells' hr hr'
 refine B8 Tryz.func201 rfl Tryz.ntmps201 Tryz.results201 rfl ?_
 intro w0
 refine A2 ?_
 refine sE (C6 rfl rfl) rfl (fun b3 => ?_)
 refine sE (C6 rfl rfl) rfl (fun b4 => ?_)
 refine B0 ?_
 refine sL (A0 rfl rfl (B1 (by repeat first | exact mH | apply mT)) (by assumption)) rfl rfl ?_
 refine E8 rfl (hv) rfl rfl (fun h11 => ?_) (fun h11 => ?_)
 refine E0 ?_
 refine sL (A0 rfl rfl (B1 (by repeat first | exact mH | apply mT)) (by assumption)) rfl rfl ?_
 refine E8 rfl (hv') rfl rfl (fun h14 => ?_) (fun h14 => ?_)
 refine A2 ?_
 refine sL (A0 rfl rfl (B1 (by repeat first | exact mH | apply mT)) (by assumption)) rfl rfl ?_
 refine sL (A0 rfl rfl (B1 (by repeat first | exact mH | apply mT)) (by assumption)) rfl rfl ?_
 refine E8 rfl (hc) rfl rfl (fun h19 => ?_) (fun h19 => ?_)
 refine A7 ?_
 exact A4f
 refine A7 ?_
 exact A4f
 refine H0 ?_
 exact A4f
 refine J7 ?_
 exact A4f
theorem B2R (k : Int) (G : IM) (hk : H3 k) : Fn Tryz.prog 198 [.int .i64 k] [] G (E5 (.int .i64 (F0 k)) G) := by
 unfold H3 at hk
 refine B8 Tryz.func198 rfl Tryz.ntmps198 Tryz.results198 rfl ?_
 intro w0
 refine D9 ?_
 refine E8 rfl (A03 _ _ _ _) rfl rfl (fun h10 => ?_) (fun h10 => ?_)
 refine D0 ?_
 (refine J9 (E2 rfl rfl rfl (by omega) (by unfold maxLen; omega) rfl) rfl ?_; rintro _ ⟨b19, rfl⟩)
 refine E0 ?_
 (have hkk : 1 ≤ k ∧ k ≤ 14 := A3o (by assumption); refine sP (V9 rfl rfl (by omega) (by omega)) rfl rfl ?_)
 refine sP (A6V rfl rfl rfl (by omega) (by omega)) rfl rfl ?_
 refine sL (A0j rfl rfl (B1k (by repeat first | exact mH | apply mT) (B1S (by rw [Nat.zero_add, Nat.mul_one]; exact B1R hkk)))) rfl rfl ?_
 refine B0 ?_
 exact ⟨rfl, rfl, rfl⟩
 refine J8 ?_
 exact ⟨rfl, by rw [A5n (A7k (by assumption))], rfl⟩
theorem P5 {Q : Prop} (h : Q := by exact ⟨rfl, by (cases R with | false => rfl | true => (exfalso; obtain ⟨i1, i2, i3, i4, i5, i6, i7, i8, i9⟩ := hi.1 rfl; first | omega | (have j := i2 (by omega); simp_all; done) | (have j := i3 (by omega); simp_all; done) | (have j := i4 (by omega); simp_all; done) | (have j := i5 (by omega); simp_all; done) | (have j := i6 (by omega); simp_all; done) | (have j := i7 (by omega); simp_all; done) | (have j := i8 (by omega); simp_all; done) | (have j := i9 (by omega); simp_all; done))), rfl⟩) : Q := h
theorem A2P {Q : Prop} (h : Q := by exact ⟨rfl, by rw [hi.2 ⟨by omega, fun _ => by (first | assumption | (exfalso; omega) | exact Classical.not_not.1 (by assumption)), fun _ => by (first | assumption | (exfalso; omega) | exact Classical.not_not.1 (by assumption)), fun _ => by (first | assumption | (exfalso; omega) | exact Classical.not_not.1 (by assumption)), fun _ => by (first | assumption | (exfalso; omega) | exact Classical.not_not.1 (by assumption)), fun _ => by (first | assumption | (exfalso; omega) | exact Classical.not_not.1 (by assumption)), fun _ => by (first | assumption | (exfalso; omega) | exact Classical.not_not.1 (by assumption)), fun _ => ⟨by (first | assumption | (exfalso; omega)), by (first | assumption | (exfalso; omega))⟩, fun _ => ⟨by (first | assumption | (exfalso; omega)), by (first | assumption | omega)⟩⟩], rfl⟩) : Q := h
theorem B2S (k : Int) (nm : ByteArray) (num : Int) (ty fr : Ty) (lb : Int) (ks : List Tm) (G : IM) (cells : List Value) (hr : B3 G (.mk k nm num ty fr lb ks) cells) :
  Fn Tryz.prog 150 [.agg ⟨cells⟩] [] G (E5 (.bool (T3 k nm num ty fr lb ks.length)) G) := by
 obtain ⟨tk, tks⟩ := ty
 obtain ⟨fk, fks⟩ := fr
 obtain ⟨pt, ct, pf, cf, p, c, es, rfl, hk, hnum, hlb, hty, hfr, hsl, hkl⟩ := hr.open9
 have hi := @U0 k nm num (.mk tk tks) (.mk fk fks) lb ks.length
 obtain ⟨R, hR⟩ : ∃ R, T3 k nm num (.mk tk tks) (.mk fk fks) lb ks.length = R := ⟨_, rfl⟩
 rw [hR] at hi ⊢
 clear hR hr
 have o1 := B2R k G hk
 have o2 := B2O nm G
 have o3 := A3w _ G _ hty
 have o4 := A8c _ G _ hty
 have o5 := B2Q _ _ G _ _ hfr hty
 have o6 := B2N lb G
 have o7 := A8c _ G _ hfr
 refine B8 Tryz.func150 rfl Tryz.ntmps150 Tryz.results150 rfl ?_
 intro w0
 refine A2 ?_
 refine sE (C6 rfl rfl) rfl (fun b3 => ?_)
 refine B0 ?_
 refine E1 E3 rfl ?_
 refine K2 (i := 0) (l' := [tt,ff,ff,ff,ff,ff,ff]) rfl D5 (C0 rfl) rfl (by kernel_rfl) rfl rfl ?_
 refine aL 1 rfl (C9 rfl rfl) rfl ?_
 refine aP 3 rfl (C0 rfl) rfl ?_
 refine aL 4 rfl (C9 rfl rfl) rfl ?_
 refine aP 5 rfl (pLn rfl rfl) rfl ?_
 refine A3 2 ?_
 refine M5 rfl rfl (o1) rfl rfl rfl ?_
 refine A0D (i := 6) (l' := [tt,tt,tt,tt,tt,tt,tt]) rfl D5 (M7 rfl rfl) rfl (by kernel_rfl) rfl rfl (fun h17 => ?_) (fun h17 => ?_)
 refine H0 ?_
 exact P5
 refine D9 ?_
 refine sB (qE rfl rfl) rfl rfl (fun h39 => ?_) (fun h39 => ?_)
 refine J8 ?_
 refine sP (J1 rfl rfl (by omega)) rfl rfl ?_
 refine B9 ?_
 refine sP (J1 rfl rfl (by omega)) rfl rfl ?_
 refine B6 ?_
 refine sP (J1 rfl rfl (by omega)) rfl rfl ?_
 refine D0 ?_
 refine sP (J1 rfl rfl (by omega)) rfl rfl ?_
 refine J6 ?_
 refine sP (J1 rfl rfl (by omega)) rfl rfl ?_
 refine A7 ?_
 refine B7 ?_
 refine A9 ?_
 refine E8 rfl (o2) rfl rfl (fun h99 => ?_) (fun h99 => ?_)
 refine A0O ?_
 refine E8 rfl (A03 _ _ _ _) rfl rfl (fun h123 => ?_) (fun h123 => ?_)
 refine A3m ?_
 refine E8 rfl (o4) rfl rfl (fun h149 => ?_) (fun h149 => ?_)
 refine X7 ?_
 refine B6 ?_
 refine E8 rfl (o7) rfl rfl (fun h184 => ?_) (fun h184 => ?_)
 refine B6 ?_
 refine sB (M7 rfl rfl) rfl rfl (fun h189 => ?_) (fun h189 => ?_)
 refine H1 ?_
 exact P5
 refine J3 ?_
 exact A2P
 refine A0b ?_
 exact P5
 refine H1 ?_
 exact P5
 refine J7 ?_
 exact P5
 refine U6 ?_
 exact P5
 refine B9 ?_
 refine sB (qE rfl rfl) rfl rfl (fun h297 => ?_) (fun h297 => ?_)
 refine D0 ?_
 refine sP (A0l rfl rfl (by omega)) rfl rfl ?_
 refine Q0 ?_
 refine sP (J1 rfl rfl (by omega)) rfl rfl ?_
 refine J6 ?_
 refine sP (J1 rfl rfl (by omega)) rfl rfl ?_
 refine A7 ?_
 refine B7 ?_
 refine A9 ?_
 refine E8 rfl (o2) rfl rfl (fun h353 => ?_) (fun h353 => ?_)
 refine A0O ?_
 refine E8 rfl (A03 _ _ _ _) rfl rfl (fun h377 => ?_) (fun h377 => ?_)
 refine J8 ?_
 refine E8 rfl (o3) rfl rfl (fun h390 => ?_) (fun h390 => ?_)
 refine X7 ?_
 refine Q0 ?_
 refine E8 rfl (o7) rfl rfl (fun h438 => ?_) (fun h438 => ?_)
 refine B6 ?_
 refine sB (M7 rfl rfl) rfl rfl (fun h443 => ?_) (fun h443 => ?_)
 refine H1 ?_
 exact P5
 refine J3 ?_
 exact A2P
 refine A0b ?_
 exact P5
 refine U6 ?_
 exact P5
 refine J7 ?_
 exact P5
 refine U6 ?_
 exact P5
 refine D0 ?_
 refine sP (J1 rfl rfl (by omega)) rfl rfl ?_
 refine B9 ?_
 refine sB (qE rfl rfl) rfl rfl (fun h563 => ?_) (fun h563 => ?_)
 refine J6 ?_
 refine sP (J1 rfl rfl (by omega)) rfl rfl ?_
 refine J6 ?_
 refine sP (J1 rfl rfl (by omega)) rfl rfl ?_
 refine A7 ?_
 refine B7 ?_
 refine A0p ?_
 refine sB (A1z rfl rfl) rfl rfl (fun h620 => ?_) (fun h620 => ?_)
 refine Q0 ?_
 exact P5
 refine D9 ?_
 refine E8 rfl (A03 _ _ _ _) rfl rfl (fun h648 => ?_) (fun h648 => ?_)
 refine J8 ?_
 refine E8 rfl (o3) rfl rfl (fun h661 => ?_) (fun h661 => ?_)
 refine X7 ?_
 refine Q0 ?_
 refine E8 rfl (o7) rfl rfl (fun h709 => ?_) (fun h709 => ?_)
 refine B6 ?_
 refine sB (M7 rfl rfl) rfl rfl (fun h714 => ?_) (fun h714 => ?_)
 refine H1 ?_
 exact P5
 refine J3 ?_
 exact A2P
 refine A0b ?_
 exact P5
 refine U6 ?_
 exact P5
 refine J7 ?_
 exact P5
 refine B6 ?_
 refine sB (qE rfl rfl) rfl rfl (fun h807 => ?_) (fun h807 => ?_)
 refine D0 ?_
 refine sP (A0l rfl rfl (by omega)) rfl rfl ?_
 refine J6 ?_
 refine sP (J1 rfl rfl (by omega)) rfl rfl ?_
 refine A7 ?_
 refine B7 ?_
 refine A0p ?_
 refine sB (A1z rfl rfl) rfl rfl (fun h859 => ?_) (fun h859 => ?_)
 refine Q0 ?_
 exact P5
 refine D9 ?_
 refine E8 rfl (A03 _ _ _ _) rfl rfl (fun h887 => ?_) (fun h887 => ?_)
 refine J8 ?_
 refine E8 rfl (o3) rfl rfl (fun h900 => ?_) (fun h900 => ?_)
 refine A5j ?_
 refine E8 rfl (o5) rfl rfl (fun h929 => ?_) (fun h929 => ?_)
 refine B6 ?_
 refine E8 rfl (o6) rfl rfl (fun h934 => ?_) (fun h934 => ?_)
 refine X7 ?_
 refine B0 ?_
 exact A2P
 refine A0o ?_
 exact P5
 refine A2H ?_
 exact P5
 refine U6 ?_
 exact P5
 refine J7 ?_
 exact P5
 refine D0 ?_
 refine sP (J1 rfl rfl (by omega)) rfl rfl ?_
 refine J6 ?_
 refine sB (qE rfl rfl) rfl rfl (fun h1072 => ?_) (fun h1072 => ?_)
 refine D0 ?_
 refine B7 ?_
 refine A0p ?_
 refine sB (A1z rfl rfl) rfl rfl (fun h1103 => ?_) (fun h1103 => ?_)
 refine Q0 ?_
 exact P5
 refine D9 ?_
 refine E8 rfl (A03 _ _ _ _) rfl rfl (fun h1131 => ?_) (fun h1131 => ?_)
 refine A3m ?_
 refine E8 rfl (o4) rfl rfl (fun h1157 => ?_) (fun h1157 => ?_)
 refine X7 ?_
 refine B6 ?_
 refine E8 rfl (o7) rfl rfl (fun h1192 => ?_) (fun h1192 => ?_)
 refine B6 ?_
 refine sB (M7 rfl rfl) rfl rfl (fun h1197 => ?_) (fun h1197 => ?_)
 refine H1 ?_
 exact P5
 refine J3 ?_
 exact A2P
 refine A0b ?_
 exact P5
 refine H1 ?_
 exact P5
 refine J7 ?_
 exact P5
 refine A7 ?_
 refine B7 ?_
 refine A0p ?_
 refine sB (A1z rfl rfl) rfl rfl (fun h1311 => ?_) (fun h1311 => ?_)
 refine Q0 ?_
 exact P5
 refine D9 ?_
 refine E8 rfl (A03 _ _ _ _) rfl rfl (fun h1339 => ?_) (fun h1339 => ?_)
 refine A3m ?_
 refine E8 rfl (o4) rfl rfl (fun h1365 => ?_) (fun h1365 => ?_)
 refine X7 ?_
 refine B6 ?_
 refine E8 rfl (o7) rfl rfl (fun h1400 => ?_) (fun h1400 => ?_)
 refine B6 ?_
 refine sB (M7 rfl rfl) rfl rfl (fun h1405 => ?_) (fun h1405 => ?_)
 refine H1 ?_
 exact P5
 refine J3 ?_
 exact A2P
 refine A0b ?_
 exact P5
 refine H1 ?_
 exact P5
 refine J7 ?_
 exact P5
theorem A4g {Q : Prop} (h : Q := by (rw [B1T (by rw [hR]; first | omega | exact Or.inr (Or.inr (Or.inr (by assumption)))) ]; exact ⟨rfl, rfl, rfl⟩)) : Q := h
theorem A8d (M D N : Int) (hM : 0 ≤ M ∧ M ≤ 1000) (hD : 0 ≤ D ∧ D ≤ 1000) (bc : Nat) : ∀ (t : Tm) (deep c : Int) (G : IM) (cells : List Value), 0 ≤ deep ∧ deep ≤ D + 1 → 0 ≤ c ∧ c ≤ M → B3 G t cells →
  Fn Tryz.prog 108 [.agg ⟨cells⟩, .int .i64 deep, .int .i64 M, .int .i64 D, .int .i64 N, .pointer (some ⟨bc, 0, none⟩)] [.blk bc [.int .i64 c]] G
   (T1 (.bool (R1 M D N t deep c).1) [.blk bc [.int .i64 (R1 M D N t deep c).2]] G) := by
 refine Tm.ind fun k nm num ty fr lb ks ih deep c G cells hd hc hr => ?_
 have hno := B2S k nm num ty fr lb ks G cells hr
 obtain ⟨tk, tks⟩ := ty
 obtain ⟨fk, fks⟩ := fr
 obtain ⟨pt, ct, pf, cf, p, cp, es, rfl, hk, hnum, hlb, hty, hfr, hsl, hkl⟩ := hr.open9
 have hn := hsl.le
 obtain ⟨R, hR⟩ : ∃ R, T3 k nm num (.mk tk tks) (.mk fk fks) lb ks.length = R := ⟨_, rfl⟩
 rw [hR] at hno
 refine B8 Tryz.func108 rfl Tryz.ntmps108 Tryz.results108 rfl ?_
 intro w0
 refine A2 ?_
 refine sE (C6 rfl rfl) rfl (fun b3 => ?_)
 refine A7 ?_
 refine sQ (A2C rfl) rfl ?_
 refine E0 ?_
 refine sP (E7 rfl rfl (by omega) (by omega)) rfl rfl ?_
 refine sQ (A2C rfl) rfl ?_
 refine A9 ?_
 refine sQ (A2C rfl) rfl ?_
 refine A2 ?_
 refine sB (A00 rfl rfl) rfl rfl (fun h24 => ?_) (fun h24 => ?_)
 refine A35 ?_
 refine N4 (outs := [.blk bc [.int .i64 _]]) (rT rfl) (A8.cons (by repeat (first | exact Pk.here | apply Pk.there)) A8.nil) ?_
 exact A4g
 refine B9 ?_
 refine sB (A00 rfl rfl) rfl rfl (fun h56 => ?_) (fun h56 => ?_)
 refine B1H ?_
 refine N4 (outs := [.blk bc [.int .i64 _]]) (rT rfl) (A8.cons (by repeat (first | exact Pk.here | apply Pk.there)) A8.nil) ?_
 exact A4g
 refine B0 ?_
 refine sB (qE rfl rfl) rfl rfl (fun h86 => ?_) (fun h86 => ?_)
 refine J3 ?_
 refine N4 (outs := [.blk bc [.int .i64 _]]) (rT rfl) (A8.cons (by repeat (first | exact Pk.here | apply Pk.there)) A8.nil) ?_
 exact A4g
 refine B9 ?_
 refine E8 rfl (hno) rfl rfl (fun h108 => ?_) (fun h108 => ?_)
 refine J3 ?_
 refine B7 ?_
 (have hmk := B1U (M := M) (D := D) (N := N) (deep := deep) (c := c) (by omega) (hR.trans (by assumption)); refine I3 (fun (x : Nat × Int) => ⟨[(44, .int .i64 x.1), (43, .int .i64 ks.length), (42, .slice p ks.length cp), (5, .pointer (some ⟨bc, 0, none⟩)), (4, .int .i64 N), (3, .int .i64 D), (2, .int .i64 M), (1, .int .i64 deep)], [.blk bc [.int .i64 x.2]], G⟩) (fun x => x.1 ≤ ks.length ∧ 0 ≤ x.2 ∧ x.2 ≤ M ∧ S0 M D N ks (deep + 1) (c + 1) = S0 M D N (ks.drop x.1) (deep + 1) x.2) (fun x => ks.length - x.1) (0, c + 1) ?_ ?_ ?_)
 (simp only [H9]; exact D3)
 exact ⟨by simp, by simp; omega, by simp; omega, by simp⟩
 (rintro ⟨i, ci⟩ ⟨hi, hc0, hc1, hst⟩; simp only [] at hi hc0 hc1 hst ⊢)
 refine A2 ?_
 refine sB (I8 rfl rfl) rfl rfl (fun h132 => ?_) (fun h132 => ?_)
 refine A9 ?_
 refine B7 ?_
 refine A2 ?_
 (obtain ⟨b, o, e, rfl, hl, hat, hre, hgb⟩ := hsl.kidTm hkl (i := i) (by omega) (by omega); have hone := hre.one; have hle := A5o M D N ks[i] (deep + 1) ci hc0 hc1; refine sP (B2 rfl rfl rfl (by omega)) rfl rfl ?_)
 refine sL (A0 rfl rfl (hat _) hl) rfl rfl ?_
 refine sE (A6 rfl) rfl (fun b145 => ?_)
 refine S9 rfl rfl rfl (by assumption) (by assumption) rfl (by repeat first | exact Sw.here | apply Sw.there) (by exact D8 (by symm; assumption)) ?_
 refine B6 ?_
 refine sL (A0 rfl rfl (B1 (by repeat first | exact mH | apply mT)) (by assumption)) rfl rfl ?_
 refine E0 ?_
 refine sP (E7 rfl rfl (by omega) (by omega)) rfl rfl ?_
 refine B6 ?_
 refine B1F rfl (ih ks[i] (List.getElem_mem _) (deep + 1) ci G e (by omega) (by omega) hre) (Pk.perm (by repeat (first | exact Pk.here | apply Pk.there))) rfl rfl (fun h158 => ?_) (fun h158 => ?_)
 refine D0 ?_
 refine sP (E7 rfl rfl (by omega) (by omega)) rfl rfl ?_
 refine A2 ?_
 refine I7 (i + 1, (R1 M D N ks[i] (deep + 1) ci).2) ?_ ?_ ?_
 (simp only [H9]; exact D3)
 exact ⟨by omega, by omega, hle.2.2 (by assumption), by rw [hst, B1V (by omega) (by assumption)]⟩
 exact R6
 refine H1 ?_
 refine N4 (outs := [.blk bc [.int .i64 _]]) (rT rfl) (A8.cons (by repeat (first | exact Pk.here | apply Pk.there)) A8.nil) ?_
 (rw [hmk, hst, B1W (by omega) (by assumption)]; exact ⟨rfl, rfl, rfl⟩)
 refine H1 ?_
 refine N4 (outs := [.blk bc [.int .i64 _]]) (rT rfl) (A8.cons (by repeat (first | exact Pk.here | apply Pk.there)) A8.nil) ?_
 (rw [hmk, hst, B1X (by omega)]; exact ⟨rfl, rfl, rfl⟩)
 refine J8 ?_
 refine N4 (outs := [.blk bc [.int .i64 _]]) (rT rfl) (A8.cons (by repeat (first | exact Pk.here | apply Pk.there)) A8.nil) ?_
 exact A4g
theorem A8e (t : Tm) (G : IM) (cells : List Value) (hr : B3 G t cells) : Fn Tryz.prog 64 [.agg ⟨cells⟩] [] G (E5 (.bool (O9 t)) G) := by
 have hl := hr.len
 refine B8 Tryz.func64 rfl Tryz.ntmps64 Tryz.results64 rfl ?_
 intro w0
 refine A2 ?_
 refine sE (C6 rfl rfl) rfl (fun b3 => ?_)
 refine B0 ?_
 refine sE (A6 rfl) rfl (fun b9 => ?_)
 refine B0 ?_
 refine sL (A0 rfl rfl (B1 (by repeat first | exact mH | apply mT)) (by assumption)) rfl rfl ?_
 refine A34 rfl (A8d 200 40 13 (by omega) (by omega) _ t 1 0 G cells (by omega) (by omega) hr) A0n rfl rfl ?_
 refine B0 ?_
 exact ⟨rfl, rfl, rfl⟩
theorem A8f (t : Tm) (G : IM) (cells : List Value) (hr : B3 G t cells) : Fn Tryz.prog 60 [.agg ⟨cells⟩] [] G (E5 (.bool (Q1 t)) G) := by
 have hl := hr.len
 refine B8 Tryz.func60 rfl Tryz.ntmps60 Tryz.results60 rfl ?_
 intro w0
 refine A2 ?_
 refine sE (C6 rfl rfl) rfl (fun b3 => ?_)
 refine B0 ?_
 refine sE (A6 rfl) rfl (fun b9 => ?_)
 refine B0 ?_
 refine sL (A0 rfl rfl (B1 (by repeat first | exact mH | apply mT)) (by assumption)) rfl rfl ?_
 refine A34 rfl (A8d 30 12 14 (by omega) (by omega) _ t 1 0 G cells (by omega) (by omega) hr) A0n rfl rfl ?_
 refine B0 ?_
 exact ⟨rfl, rfl, rfl⟩
theorem A2Q {Q : Prop} (h : Q := by exact ⟨rfl, by (first | rw [(A16 k).1 (by omega)] | rw [(A16 k).2.1 (by omega)] | rw [(A16 k).2.2 (by omega) (by omega) (by omega) (by omega) (by omega)]), rfl⟩) : Q := h
theorem B2T (k : Int) (G : IM) : Fn Tryz.prog 168 [.int .i64 k] [] G (E5 (.int .i64 (A0v k)) G) := by
 refine B8 Tryz.func168 rfl Tryz.ntmps168 Tryz.results168 rfl ?_
 intro w0
 refine H0 ?_
 refine B7 ?_
 refine B9 ?_
 refine sB (qE rfl rfl) rfl rfl (fun h16 => ?_) (fun h16 => ?_)
 refine J3 ?_
 exact A2Q
 refine A7 ?_
 refine sB (qE rfl rfl) rfl rfl (fun h40 => ?_) (fun h40 => ?_)
 refine J3 ?_
 exact A2Q
 refine B0 ?_
 refine sB (qE rfl rfl) rfl rfl (fun h63 => ?_) (fun h63 => ?_)
 refine J6 ?_
 exact A2Q
 refine A9 ?_
 refine sB (qE rfl rfl) rfl rfl (fun h85 => ?_) (fun h85 => ?_)
 refine J3 ?_
 exact A2Q
 refine B0 ?_
 refine sB (qE rfl rfl) rfl rfl (fun h108 => ?_) (fun h108 => ?_)
 refine J6 ?_
 exact A2Q
 refine J7 ?_
 exact A2Q
theorem A0e {Q : Prop} (h : Q := by exact ⟨rfl, by (unfold F0; first | rw [if_pos (by omega)] | rw [if_neg (by omega), if_pos (by omega)] | rw [if_neg (by omega), if_neg (by omega), if_pos (by omega)] | rw [if_neg (by omega), if_neg (by omega), if_neg (by omega), if_pos (by omega)] | rw [if_neg (by omega), if_neg (by omega), if_neg (by omega), if_neg (by omega)]), rfl⟩) : Q := h
theorem A8g (k : Int) (G : IM) : Fn Tryz.prog 209 [.int .i64 k] [] G (E5 (.int .i64 (F0 k)) G) := by
 refine B8 Tryz.func209 rfl Tryz.ntmps209 Tryz.results209 rfl ?_
 intro w0
 refine H0 ?_
 refine B7 ?_
 refine B9 ?_
 refine sB (qE rfl rfl) rfl rfl (fun h16 => ?_) (fun h16 => ?_)
 refine J3 ?_
 exact A0e
 refine A7 ?_
 refine sB (qE rfl rfl) rfl rfl (fun h40 => ?_) (fun h40 => ?_)
 refine J3 ?_
 exact A0e
 refine A7 ?_
 refine sB (qE rfl rfl) rfl rfl (fun h64 => ?_) (fun h64 => ?_)
 refine J3 ?_
 exact A0e
 refine B0 ?_
 refine sB (qE rfl rfl) rfl rfl (fun h87 => ?_) (fun h87 => ?_)
 refine J6 ?_
 exact A0e
 refine A9 ?_
 refine sB (qE rfl rfl) rfl rfl (fun h109 => ?_) (fun h109 => ?_)
 refine J3 ?_
 exact A0e
 refine A7 ?_
 refine sB (qE rfl rfl) rfl rfl (fun h133 => ?_) (fun h133 => ?_)
 refine J3 ?_
 exact A0e
 refine A7 ?_
 refine sB (qE rfl rfl) rfl rfl (fun h157 => ?_) (fun h157 => ?_)
 refine J3 ?_
 exact A0e
 refine A7 ?_
 refine sB (qE rfl rfl) rfl rfl (fun h181 => ?_) (fun h181 => ?_)
 refine J3 ?_
 exact A0e
 refine B0 ?_
 refine sB (qE rfl rfl) rfl rfl (fun h204 => ?_) (fun h204 => ?_)
 refine J6 ?_
 exact A0e
 refine A9 ?_
 refine sB (qE rfl rfl) rfl rfl (fun h226 => ?_) (fun h226 => ?_)
 refine J3 ?_
 exact A0e
 refine A7 ?_
 refine sB (qE rfl rfl) rfl rfl (fun h250 => ?_) (fun h250 => ?_)
 refine J3 ?_
 exact A0e
 refine A7 ?_
 refine sB (qE rfl rfl) rfl rfl (fun h274 => ?_) (fun h274 => ?_)
 refine J3 ?_
 exact A0e
 refine B0 ?_
 refine sB (qE rfl rfl) rfl rfl (fun h297 => ?_) (fun h297 => ?_)
 refine J6 ?_
 exact A0e
 refine A7 ?_
 refine sB (qE rfl rfl) rfl rfl (fun h318 => ?_) (fun h318 => ?_)
 refine J6 ?_
 exact A0e
 refine J7 ?_
 exact A0e
theorem B2U (s : ByteArray) (G : IM) : Fn Tryz.prog 219 [.string s] [] G (E5 (.bool (A0P s)) G) := by
 refine B8 Tryz.func219 rfl Tryz.ntmps219 Tryz.results219 rfl ?_
 intro w0
 refine D0 ?_
 refine sQ (A46 rfl rfl) rfl (sB (qE rfl rfl) rfl rfl (fun h10 => ?_) (fun h10 => ?_))
 refine A2 ?_
 refine sP (A3X rfl rfl rfl (by omega) (A37 (by omega))) rfl rfl ?_
 refine sB (A01 rfl rfl) rfl rfl (fun h14 => ?_) (fun h14 => ?_)
 refine B9 ?_
 refine sP (A3X rfl rfl rfl (by omega) (A37 (by omega))) rfl rfl ?_
 refine sB (W9 rfl rfl) rfl rfl (fun h19 => ?_) (fun h19 => ?_)
 refine A7 ?_
 exact zq7
 refine A7 ?_
 exact zq7
 refine H0 ?_
 exact zq7
 refine H1 ?_
 exact zq7
theorem A8h (t : Ty) (G : IM) (cells : List Value) (hr : C2 G t cells) : Fn Tryz.prog 236 [.agg ⟨cells⟩] [] G (E5 (.bool (A0w t)) G) := by
 obtain ⟨p, c, es, rfl, hk, hsl, hkl⟩ := hr.open
 refine B8 Tryz.func236 rfl Tryz.ntmps236 Tryz.results236 rfl ?_
 intro w0
 refine A2 ?_
 refine sE (C6 rfl rfl) rfl (fun b3 => ?_)
 refine A9 ?_
 refine sB (qE rfl rfl) rfl rfl (fun h11 => ?_) (fun h11 => ?_)
 refine B6 ?_
 refine sB (qE rfl rfl) rfl rfl (fun h16 => ?_) (fun h16 => ?_)
 refine A7 ?_
 exact zq6
 refine A7 ?_
 exact zq6
 refine H0 ?_
 exact zq6
def A1m (n : Int) : Int := if n < -99 ∨ n > 99 then 0 else if n < 0 then -n else n
theorem A4h {Q : Prop} (h : Q := by exact ⟨rfl, by (unfold A1m; first | rw [if_pos (by omega)] | rw [if_neg (by omega), if_pos (by omega)] | rw [if_neg (by omega), if_neg (by omega)]), rfl⟩) : Q := h
theorem B2V (n : Int) (G : IM) : Fn Tryz.prog 57 [.int .i64 n] [] G (E5 (.int .i64 (A1m n)) G) := by
 refine B8 Tryz.func57 rfl Tryz.ntmps57 Tryz.results57 rfl ?_
 intro w0
 refine D9 ?_
 refine sB (I8 rfl rfl) rfl rfl (fun h10 => ?_) (fun h10 => ?_)
 refine H1 ?_
 exact A4h
 refine A2 ?_
 refine sB (A00 rfl rfl) rfl rfl (fun h29 => ?_) (fun h29 => ?_)
 refine J8 ?_
 exact A4h
 refine I9 ?_
 refine sB (I8 rfl rfl) rfl rfl (fun h53 => ?_) (fun h53 => ?_)
 refine A7 ?_
 refine sP (A3V rfl (by omega) (by omega)) rfl rfl ?_
 refine A7 ?_
 exact A4h
 refine J6 ?_
 exact A4h
theorem A8i {k : Int} {ks : List Ty} {d : Int} (h : 4 < d ∨ A0v k ≠ ks.length) : O6 (.mk k ks) d = false := by
 rw [O6]
 rcases h with h | h
 ·rw [decide_eq_false (by omega)]; rfl
 ·rw [decide_eq_false (p := A0v k = ks.length) h, Bool.and_false]; rfl
theorem A8j {k : Int} {ks : List Ty} {d : Int} (h : d ≤ 4) (h2 : A0v k = ks.length) : O6 (.mk k ks) d = T2 ks (d + 1) := by
 rw [O6, decide_eq_true h, decide_eq_true h2]; rfl
theorem B2W {ks : List Ty} {d : Int} {i : Nat} (hi : i < ks.length) (h : O6 ks[i] d = false) : T2 ks d = false := by
 cases hx : T2 ks d with
 | false => rfl
 | true => rw [(A36 ks d).1 hx i hi] at h; cases h
theorem A4i {Q : Prop} (h : Q := by exact ⟨by omega, fun j hj hji => by (by_cases he : j = i; (subst he; assumption); exact hf j hj (by omega))⟩) : Q := h
theorem B2X : ∀ (t : Ty) (d : Int) (G : IM) (cells : List Value), 0 ≤ d ∧ d ≤ 4 → C2 G t cells →
  Fn Tryz.prog 187 [.agg ⟨cells⟩, .int .i64 d] [] G (E5 (.bool (O6 t (5 - d))) G) := by
 refine Ty.ind fun k ks ih d G cells hd hr => ?_
 obtain ⟨p, c, es, rfl, hk, hsl, hkl⟩ := hr.open
 simp only [Ty.k, Ty.ks] at hk hsl hkl ⊢
 have hn := hsl.le
 have hk1 := B2T k G
 refine B8 Tryz.func187 rfl Tryz.ntmps187 Tryz.results187 rfl ?_
 intro w0
 refine A2 ?_
 refine sE (C6 rfl rfl) rfl (fun b3 => ?_)
 refine B0 ?_
 refine E1 E3 rfl ?_
 refine K2 (i := 0) (l' := [tt,ff,ff,ff,ff,ff,ff,ff,ff,ff,ff]) rfl D5 (qM rfl) rfl (by kernel_rfl) rfl rfl ?_
 refine A0D (i := 1) (l' := [tt,tt,ff,ff,ff,ff,ff,ff,ff,ff,ff]) rfl D5 (I8 rfl rfl) rfl (by kernel_rfl) rfl rfl (fun h11 => ?_) (fun h11 => ?_)
 refine aP 2 rfl (qM rfl) rfl ?_
 refine C4 3 rfl rfl rfl ?_
 refine C4 4 rfl rfl rfl ?_
 refine C4 6 rfl rfl rfl ?_
 refine C4 7 rfl rfl rfl ?_
 refine C4 8 rfl rfl rfl ?_
 refine C4 5 rfl rfl rfl ?_
 refine C4 9 rfl rfl rfl ?_
 refine aP 10 rfl (M1 rfl rfl) rfl ?_
 refine H0 ?_
 (rw [A8i (by omega)]; exact ⟨rfl, rfl, rfl⟩)
 refine aP 2 rfl (qM rfl) rfl ?_
 refine aP 3 rfl (C0 rfl) rfl ?_
 refine aL 4 rfl (C9 rfl rfl) rfl ?_
 refine aP 6 rfl (C0 rfl) rfl ?_
 refine aL 7 rfl (C9 rfl rfl) rfl ?_
 refine aP 8 rfl (pLn rfl rfl) rfl ?_
 refine A3 5 ?_
 refine M5 rfl rfl (hk1) rfl rfl rfl ?_
 refine A0D (i := 9) (l' := [tt,tt,tt,tt,tt,tt,tt,tt,tt,tt,ff]) rfl D5 (M7 rfl rfl) rfl (by kernel_rfl) rfl rfl (fun h41 => ?_) (fun h41 => ?_)
 refine aP 10 rfl (O1 rfl rfl) rfl ?_
 refine H0 ?_
 (rw [A8i (by omega)]; exact ⟨rfl, rfl, rfl⟩)
 refine aP 10 rfl (O1 rfl rfl) rfl ?_
 refine H0 ?_
 refine B7 ?_
 (refine I3 (fun (i : Nat) => ⟨[(5, .int .i64 i), (2, .pointer (some ⟨b3, 0, none⟩)), (1, .int .i64 d)], [.blk b3 [.int .i64 k, .slice p ks.length c]], G⟩) (fun i => i ≤ ks.length ∧ ∀ j (h : j < ks.length), j < i → O6 ks[j] (5 - d + 1) = true) (fun i => ks.length - i) 0 ?_ ?_ ?_)
 exact D3
 exact ⟨by omega, by omega⟩
 (rintro i ⟨hi, hf⟩)
 refine A9 ?_
 refine sB (I8 rfl rfl) rfl rfl (fun h79 => ?_) (fun h79 => ?_)
 refine A7 ?_
 refine B7 ?_
 refine B0 ?_
 (obtain ⟨b, o, p2, c2, rfl, hat, hre, hgb⟩ := hsl.kidTy hkl (i := i) (by omega) (by omega); refine sP (B2 rfl rfl rfl (by omega)) rfl rfl ?_)
 refine sL (A0 rfl rfl (hat _) rfl) rfl rfl ?_
 refine E0 ?_
 refine sP (V9 rfl rfl (by omega) (by omega)) rfl rfl ?_
 (have hih := ih ks[i] (List.getElem_mem (by omega)) (d - 1) G _ (by omega) hre; rw [show 5 - (d - 1) = 5 - d + 1 by omega] at hih; refine E8 rfl hih rfl rfl (fun h96 => ?_) (fun h96 => ?_))
 refine D9 ?_
 refine sP (E7 rfl rfl (by omega) (by omega)) rfl rfl ?_
 refine A2 ?_
 refine I7 (i + 1) ?_ ?_ ?_
 exact D3
 exact A4i
 omega
 refine J3 ?_
 (rw [A8j (by omega) (by omega), B2W (i := i) (by omega) (by assumption)]; exact ⟨rfl, rfl, rfl⟩)
 refine H1 ?_
 (rw [A8j (by omega) (by omega), (A36 ks _).2 (fun j hj => hf j hj (by omega))]; exact ⟨rfl, rfl, rfl⟩)
theorem A1L (t : Ty) (G : IM) (cells : List Value) (hr : C2 G t cells) : Fn Tryz.prog 137 [.agg ⟨cells⟩] [] G (E5 (.bool (H5 t)) G) := by
 have hl := hr.len
 have hv := B2X t 4 G cells (by omega) hr
 refine B8 Tryz.func137 rfl Tryz.ntmps137 Tryz.results137 rfl ?_
 intro w0
 refine A2 ?_
 refine sE (C6 rfl rfl) rfl (fun b3 => ?_)
 refine B0 ?_
 refine sL (A0 rfl rfl (B1 (by repeat first | exact mH | apply mT)) (by assumption)) rfl rfl ?_
 refine H4 rfl (hv) rfl rfl ?_
 refine B0 ?_
 exact ⟨rfl, rfl, rfl⟩
theorem A3x {k : Int} {ks : List Ty} {d : Int} (h : O6 (.mk k ks) d = true) : A0v k = ks.length ∧ ∀ i, (hi : i < ks.length) → O6 ks[i] (d + 1) = true := by
 rw [O6] at h
 simp only [Bool.and_eq_true, decide_eq_true_eq] at h
 exact ⟨h.1.2, (A36 ks _).1 h.2⟩
theorem B2Y {k k' : Int} {ks ks' : List Ty} (h : k = 1 ∨ k' = 1) : K0 (.mk k ks) (.mk k' ks') = true := by
 rw [A0c]
 rcases h with h | h
 ·rw [decide_eq_true (p := k = 1) h]; rfl
 ·rw [decide_eq_true (p := k' = 1) h]; simp
theorem A8k {k k' : Int} {ks ks' : List Ty} (h : k ≠ 1) (h' : k' ≠ 1) (hk : k ≠ k') : K0 (.mk k ks) (.mk k' ks') = false := by
 rw [A0c, decide_eq_false h, decide_eq_false h', decide_eq_false hk]; rfl
theorem A8l {k k' : Int} {ks ks' : List Ty} (h : k ≠ 1) (h' : k' ≠ 1) (hk : k = k') : K0 (.mk k ks) (.mk k' ks') = O8 ks ks' := by
 rw [A0c, decide_eq_false h, decide_eq_false h', decide_eq_true hk]; rfl
theorem B2Z {ks ks' : List Ty} {i : Nat} (hi : i < ks.length) (hi' : i < ks'.length) (h : K0 ks[i] ks'[i] = false) : O8 ks ks' = false := by
 cases hx : O8 ks ks' with
 | false => rfl
 | true => rw [((A17 ks ks').1 hx).2 i hi hi'] at h; cases h
theorem A4j {Q : Prop} (h : Q := by (rw [B2Y (by omega)]; exact ⟨rfl, rfl, rfl⟩)) : Q := h
theorem A8m {Q : Prop} (h : Q := by exact ⟨by omega, fun j hj hj' hji => by (by_cases he : j = i; (subst he; assumption); exact hf j hj hj' (by omega))⟩) : Q := h
theorem A8n {Q : Prop} (h : Q := by (rw [A8l (by omega) (by omega) (by omega), B2Z (i := i) (by omega) (by omega) (by assumption)]; exact ⟨rfl, rfl, rfl⟩)) : Q := h
theorem A8o {Q : Prop} (h : Q := by (rw [A8l (by omega) (by omega) (by omega), (A17 ks _).2 ⟨hll, fun j hj hj' => hf j hj hj' (by omega)⟩]; exact ⟨rfl, rfl, rfl⟩)) : Q := h
theorem B20 : ∀ (t t' : Ty) (G : IM) (cells cells' : List Value) (d d' : Int), O6 t d = true → O6 t' d' = true → C2 G t cells → C2 G t' cells' →
  Fn Tryz.prog 163 [.agg ⟨cells⟩, .agg ⟨cells'⟩] [] G (E5 (.bool (K0 t t')) G) := by
 refine Ty.ind fun k ks ih t' G cells cells' d d' hv hv' hr hr' => ?_
 obtain ⟨k', ks'⟩ := t'
 obtain ⟨p, c, es, rfl, hk, hsl, hkl⟩ := hr.open
 obtain ⟨p', c', es', rfl, hk', hsl', hkl'⟩ := hr'.open
 simp only [Ty.k, Ty.ks] at hk hsl hkl hk' hsl' hkl' ⊢
 have hn := hsl.le
 have hn' := hsl'.le
 obtain ⟨hv1, hv2⟩ := A3x hv
 obtain ⟨hv1', hv2'⟩ := A3x hv'
 have hle : k = k' → ks.length = ks'.length := by rintro rfl; omega
 refine B8 Tryz.func163 rfl Tryz.ntmps163 Tryz.results163 rfl ?_
 intro w0
 refine A2 ?_
 refine sE (C6 rfl rfl) rfl (fun b3 => ?_)
 refine sE (C6 rfl rfl) rfl (fun b4 => ?_)
 refine D0 ?_
 refine sB (qE rfl rfl) rfl rfl (fun h13 => ?_) (fun h13 => ?_)
 refine J3 ?_
 exact A4j
 refine B9 ?_
 refine sB (qE rfl rfl) rfl rfl (fun h34 => ?_) (fun h34 => ?_)
 refine J8 ?_
 exact A4j
 refine J6 ?_
 refine sB (M7 rfl rfl) rfl rfl (fun h61 => ?_) (fun h61 => ?_)
 refine H0 ?_
 (rw [A8k (by omega) (by omega) (by omega)]; exact ⟨rfl, rfl, rfl⟩)
 refine H0 ?_
 refine B7 ?_
 (have hll : ks.length = ks'.length := hle (by omega); refine I3 (fun (i : Nat) => ⟨[(5, .int .i64 i), (3, .pointer (some ⟨b4, 0, none⟩)), (2, .pointer (some ⟨b3, 0, none⟩))], [.blk b3 [.int .i64 k, .slice p ks.length c], .blk b4 [.int .i64 k', .slice p' ks'.length c']], G⟩) (fun i => i ≤ ks.length ∧ ∀ j (h : j < ks.length) (h' : j < ks'.length), j < i → K0 ks[j] ks'[j] = true) (fun i => ks.length - i) 0 ?_ ?_ ?_)
 exact D3
 exact ⟨by omega, by omega⟩
 (rintro i ⟨hi, hf⟩)
 refine A9 ?_
 refine sB (I8 rfl rfl) rfl rfl (fun h97 => ?_) (fun h97 => ?_)
 refine A7 ?_
 refine B7 ?_
 refine tS ?_
 (obtain ⟨b, o, p2, c2, rfl, hat, hre, hgb⟩ := hsl.kidTy hkl (i := i) (by omega) (by omega); obtain ⟨b', o', p2', c2', rfl, hat', hre', hgb'⟩ := hsl'.kidTy hkl' (i := i) (by omega) (by omega); refine E1 E3 rfl ?_)
 refine K2 (i := 0) (l' := [tt,ff,ff,ff,ff,ff,ff,ff,ff,ff,ff,ff]) rfl D5 (C0 rfl) rfl (by kernel_rfl) rfl rfl ?_
 refine aL 1 rfl (C9 rfl rfl) rfl ?_
 refine aP 2 rfl (qM rfl) rfl ?_
 refine aP 3 rfl (B2 rfl rfl rfl (by omega)) rfl ?_
 refine aL 4 rfl (A0 rfl rfl (hat _) rfl) rfl ?_
 refine aP 5 rfl (C0 rfl) rfl ?_
 refine aL 6 rfl (C9 rfl rfl) rfl ?_
 refine aP 7 rfl (qM rfl) rfl ?_
 refine aP 8 rfl (B2 rfl rfl rfl (by omega)) rfl ?_
 refine aL 9 rfl (A0 rfl rfl (hat' _) rfl) rfl ?_
 refine A3 10 ?_
 refine R9 rfl rfl (ih ks[i] (List.getElem_mem (by omega)) ks'[i] G _ _ _ _ (hv2 i (by omega)) (hv2' i (by omega)) hre hre') rfl rfl rfl (fun h118 => ?_) (fun h118 => ?_)
 refine aP 11 rfl (pNt rfl) rfl ?_
 refine D0 ?_
 refine sP (E7 rfl rfl (by omega) (by omega)) rfl rfl ?_
 refine A2 ?_
 refine I7 (i + 1) ?_ ?_ ?_
 exact D3
 exact A8m
 omega
 refine aP 11 rfl (pNf rfl) rfl ?_
 refine H1 ?_
 exact A8n
 refine H1 ?_
 exact A8o
section blaws
variable {P : Program} {Γ : K8} {env : L6} {hp : List A5} {G : IM} {ty : TypeId}
theorem A0S {x y : Operand} {t t' : TypeId} {i : K7} [hI : I2 P t i] (hd : i.desc = .bool) {r : Bool} (hx : evo env x = some (.bool r)) (hy : evo env y = some (.bool r)) :
  J2 P Γ ⟨env, hp, G⟩ (.binOp .neq t x y t') ty (.bool false) := by
 have h := A47 (P := P) (Γ := Γ) (hp := hp) (G := G) (t := t) (t' := t') (ty := ty) hd hx hy
 rwa [decide_eq_false (by simp)] at h
theorem A8p {x y : Operand} {t t' : TypeId} {i : K7} [hI : I2 P t i] (hd : i.desc = .bool) (hx : evo env x = some (.bool true)) (hy : evo env y = some (.bool false)) :
  J2 P Γ ⟨env, hp, G⟩ (.binOp .neq t x y t') ty (.bool true) := A47 hd hx hy
theorem A5J {x y : Operand} {t t' : TypeId} {i : K7} [hI : I2 P t i] (hd : i.desc = .bool) (hx : evo env x = some (.bool false)) (hy : evo env y = some (.bool true)) :
  J2 P Γ ⟨env, hp, G⟩ (.binOp .neq t x y t') ty (.bool true) := A47 hd hx hy
end blaws
theorem B21 (n : Int) : ((1 ≤ A1m n ∧ A1m n ≤ 99) ↔ A0Q n = true) := by
 unfold A1m A0Q O2
 simp only [Bool.or_eq_true, decide_eq_true_eq]
 split
 ·omega
 ·split <;> omega
theorem A2d {Q : Prop} (h : Q := by exact ⟨rfl, by (cases R with | false => rfl | true => (exfalso; obtain ⟨i1, i2, i3, i4, i5, i6⟩ := hi.1 rfl; first | omega | (simp_all; done))), rfl⟩) : Q := h
theorem B22 (k : Int) (nm : ByteArray) (num : Int) (ty fr : Ty) (lb : Int) (ks : List Tm) (G : IM) (cells : List Value) (hr : B3 G (.mk k nm num ty fr lb ks) cells) (R : Bool)
  (hi : R = true ↔ nm = ⟨#[]⟩ ∧ num = 0 ∧ (1 ≤ A1m lb ∧ A1m lb ≤ 99) ∧ H5 ty = true ∧ H5 fr = true ∧ K0 fr ty = true) :
  Fn Tryz.prog 222 [.agg ⟨cells⟩] [] G (E5 (.bool R) G) := by
 obtain ⟨tk, tks⟩ := ty
 obtain ⟨fk, fks⟩ := fr
 obtain ⟨pt, ct, pf, cf, p, c, es, rfl, hk, hnum, hlb, hty, hfr, hsl, hkl⟩ := hr.open9
 clear hr
 have o3 := A1L _ G _ hty
 have o4 := A1L _ G _ hfr
 have o6 := B2V lb G
 refine B8 Tryz.func222 rfl Tryz.ntmps222 Tryz.results222 rfl ?_
 intro w0
 refine A2 ?_
 refine sE (C6 rfl rfl) rfl (fun b3 => ?_)
 refine A9 ?_
 refine H4 rfl (o6) rfl rfl ?_
 refine A9 ?_
 refine sB (A1Y rfl rfl) rfl rfl (fun h19 => ?_) (fun h19 => ?_)
 refine B9 ?_
 refine sB (qE rfl rfl) rfl rfl (fun h23 => ?_) (fun h23 => ?_)
 refine B9 ?_
 refine sB (A01 rfl rfl) rfl rfl (fun h27 => ?_) (fun h27 => ?_)
 refine B9 ?_
 refine sB (W9 rfl rfl) rfl rfl (fun h31 => ?_) (fun h31 => ?_)
 refine B6 ?_
 refine E8 rfl (o3) rfl rfl (fun h36 => ?_) (fun h36 => ?_)
 refine B6 ?_
 refine E8 rfl (o4) rfl rfl (fun h41 => ?_) (fun h41 => ?_)
 refine A7 ?_
 refine E8 rfl (B20 _ _ G _ _ _ _ (by assumption) (by assumption) hfr hty) rfl rfl (fun h48 => ?_) (fun h48 => ?_)
 refine A7 ?_
 exact ⟨rfl, by rw [hi.2 ⟨by (first | assumption | exact Classical.not_not.1 (by assumption)), by omega, by omega, by assumption, by assumption, by assumption⟩], rfl⟩
 refine A7 ?_
 exact A2d
 refine J6 ?_
 exact A2d
 refine U6 ?_
 exact A2d
 refine A0O ?_
 exact A2d
 refine A5i ?_
 exact A2d
 refine X7 ?_
 refine E0 ?_
 exact A2d
 refine X7 ?_
 refine B0 ?_
 exact A2d
theorem R2 {Q : Prop} (h : Q := by exact ⟨rfl, by (cases R with | false => rfl | true => (exfalso; obtain ⟨i1, i2, i3, i4, i5, i6, i7⟩ := hi.1 rfl; first | omega | (have j := i1 (by omega); simp_all; done) | (have j := he (i2 (by omega)); simp_all; done) | (have j := i2 (by omega); simp_all; done) | (have j := i3 (by omega); simp_all; done) | (have j := i4 (by omega); simp_all; done) | (have j := i5 (by omega); simp_all; done))), rfl⟩) : Q := h
theorem A2R {Q : Prop} (h : Q := by exact ⟨rfl, by rw [hi.2 ⟨fun _ => by (first | assumption | (exfalso; omega)), fun _ => by (first | assumption | (exfalso; omega) | exact Classical.not_not.1 (by assumption)), fun _ => by (first | assumption | (exfalso; omega)), fun _ => by (first | assumption | (exfalso; omega)), fun _ => ⟨by (first | assumption | (exfalso; omega)), by (first | assumption | omega)⟩, by omega, by omega⟩], rfl⟩) : Q := h
theorem A8q (k : Int) (nm : ByteArray) (num : Int) (ty fr : Ty) (lb : Int) (ks : List Tm) (G : IM) (cells : List Value) (hr : B3 G (.mk k nm num ty fr lb ks) cells) (R : Bool)
  (hi : R = true ↔ (k = 1 ∨ k = 5 → A0P nm = true) ∧ (¬(k = 1 ∨ k = 5) → nm = ⟨#[]⟩) ∧ (k = 5 ∨ k = 13 ∨ k = 14 → H5 ty = true) ∧ (¬(k = 5 ∨ k = 13 ∨ k = 14) → A0w ty = true) ∧ (k ≠ 14 → A0w fr = true ∧ lb = 0) ∧ (k = 2 → 0 ≤ num ∧ num ≤ 999) ∧ (k ≠ 2 → num = 0)) :
  Fn Tryz.prog 220 [.agg ⟨cells⟩] [] G (E5 (.bool R) G) := by
 have he : nm = ⟨#[]⟩ → A0P nm = false := by rintro rfl; rfl
 obtain ⟨tk, tks⟩ := ty
 obtain ⟨fk, fks⟩ := fr
 obtain ⟨pt, ct, pf, cf, p, c, es, rfl, hk, hnum, hlb, hty, hfr, hsl, hkl⟩ := hr.open9
 clear hr
 have o2 := B2U nm G
 have o3 := A1L _ G _ hty
 have o4 := A8h _ G _ hty
 have o7 := A8h _ G _ hfr
 refine B8 Tryz.func220 rfl Tryz.ntmps220 Tryz.results220 rfl ?_
 intro w0
 refine A2 ?_
 refine sE (C6 rfl rfl) rfl (fun b3 => ?_)
 refine A9 ?_
 refine sB (qE rfl rfl) rfl rfl (fun h11 => ?_) (fun h11 => ?_)
 refine J8 ?_
 refine sP (J1 rfl rfl (by omega)) rfl rfl ?_
 refine B9 ?_
 refine sP (J1 rfl rfl (by omega)) rfl rfl ?_
 refine B6 ?_
 refine sP (J1 rfl rfl (by omega)) rfl rfl ?_
 refine I9 ?_
 refine E8 rfl (o2) rfl rfl (fun h44 => ?_) (fun h44 => ?_)
 refine sQ (A0S rfl rfl rfl) rfl ?_
 refine A2H ?_
 refine E8 rfl (o4) rfl rfl (fun h70 => ?_) (fun h70 => ?_)
 refine J6 ?_
 refine sP (A0m rfl rfl (by omega)) rfl rfl ?_
 refine B9 ?_
 refine E8 rfl (o7) rfl rfl (fun h88 => ?_) (fun h88 => ?_)
 refine B6 ?_
 refine sB (M7 rfl rfl) rfl rfl (fun h93 => ?_) (fun h93 => ?_)
 refine J6 ?_
 exact R2
 refine J8 ?_
 refine sP (J1 rfl rfl (by omega)) rfl rfl ?_
 refine D9 ?_
 refine sB (qE rfl rfl) rfl rfl (fun h130 => ?_) (fun h130 => ?_)
 refine B0 ?_
 exact A2R
 refine B0 ?_
 exact R2
 refine U6 ?_
 exact R2
 refine J7 ?_
 exact R2
 refine sQ (A8p rfl rfl rfl) rfl ?_
 refine X7 ?_
 refine D9 ?_
 exact R2
 refine B9 ?_
 refine sB (qE rfl rfl) rfl rfl (fun h221 => ?_) (fun h221 => ?_)
 refine D0 ?_
 refine sP (A0l rfl rfl (by omega)) rfl rfl ?_
 refine A0o ?_
 refine E8 rfl (o2) rfl rfl (fun h250 => ?_) (fun h250 => ?_)
 refine sQ (A0S rfl rfl rfl) rfl ?_
 refine J7 ?_
 refine E8 rfl (o3) rfl rfl (fun h266 => ?_) (fun h266 => ?_)
 refine A0O ?_
 refine sP (A0m rfl rfl (by omega)) rfl rfl ?_
 refine B9 ?_
 refine E8 rfl (o7) rfl rfl (fun h294 => ?_) (fun h294 => ?_)
 refine B6 ?_
 refine sB (M7 rfl rfl) rfl rfl (fun h299 => ?_) (fun h299 => ?_)
 refine J6 ?_
 exact R2
 refine J8 ?_
 refine sP (J1 rfl rfl (by omega)) rfl rfl ?_
 refine D9 ?_
 refine sB (qE rfl rfl) rfl rfl (fun h336 => ?_) (fun h336 => ?_)
 refine B0 ?_
 exact A2R
 refine B0 ?_
 exact R2
 refine U6 ?_
 exact R2
 refine A2H ?_
 exact R2
 refine sQ (A8p rfl rfl rfl) rfl ?_
 refine X7 ?_
 refine D9 ?_
 exact R2
 refine D0 ?_
 refine sP (J1 rfl rfl (by omega)) rfl rfl ?_
 refine B9 ?_
 refine sB (qE rfl rfl) rfl rfl (fun h446 => ?_) (fun h446 => ?_)
 refine H1 ?_
 refine E8 rfl (o2) rfl rfl (fun h462 => ?_) (fun h462 => ?_)
 refine sQ (A5J rfl rfl rfl) rfl ?_
 refine X7 ?_
 refine D9 ?_
 exact R2
 refine sQ (A0S rfl rfl rfl) rfl ?_
 refine A7 ?_
 refine sB (A1z rfl rfl) rfl rfl (fun h511 => ?_) (fun h511 => ?_)
 refine X7 ?_
 refine A2 ?_
 exact R2
 refine A9 ?_
 refine E8 rfl (o3) rfl rfl (fun h552 => ?_) (fun h552 => ?_)
 refine A0O ?_
 refine sP (A0m rfl rfl (by omega)) rfl rfl ?_
 refine B9 ?_
 refine E8 rfl (o7) rfl rfl (fun h580 => ?_) (fun h580 => ?_)
 refine B6 ?_
 refine sB (M7 rfl rfl) rfl rfl (fun h585 => ?_) (fun h585 => ?_)
 refine J6 ?_
 exact R2
 refine J8 ?_
 refine sP (J1 rfl rfl (by omega)) rfl rfl ?_
 refine D9 ?_
 refine sB (qE rfl rfl) rfl rfl (fun h622 => ?_) (fun h622 => ?_)
 refine B0 ?_
 exact A2R
 refine B0 ?_
 exact R2
 refine U6 ?_
 exact R2
 refine A2H ?_
 exact R2
 refine B6 ?_
 refine sB (qE rfl rfl) rfl rfl (fun h683 => ?_) (fun h683 => ?_)
 refine I9 ?_
 refine E8 rfl (o2) rfl rfl (fun h694 => ?_) (fun h694 => ?_)
 refine sQ (A5J rfl rfl rfl) rfl ?_
 refine X7 ?_
 refine D9 ?_
 exact R2
 refine sQ (A0S rfl rfl rfl) rfl ?_
 refine A7 ?_
 refine sB (A1z rfl rfl) rfl rfl (fun h743 => ?_) (fun h743 => ?_)
 refine X7 ?_
 refine A2 ?_
 exact R2
 refine A9 ?_
 refine E8 rfl (o3) rfl rfl (fun h784 => ?_) (fun h784 => ?_)
 refine A0O ?_
 refine sP (X0 rfl rfl (by omega)) rfl rfl ?_
 refine A0p ?_
 refine sP (J1 rfl rfl (by omega)) rfl rfl ?_
 refine D9 ?_
 refine sB (qE rfl rfl) rfl rfl (fun h840 => ?_) (fun h840 => ?_)
 refine B0 ?_
 exact A2R
 refine B0 ?_
 exact R2
 refine A2H ?_
 exact R2
 refine I9 ?_
 refine E8 rfl (o2) rfl rfl (fun h888 => ?_) (fun h888 => ?_)
 refine sQ (A5J rfl rfl rfl) rfl ?_
 refine X7 ?_
 refine D9 ?_
 exact R2
 refine sQ (A0S rfl rfl rfl) rfl ?_
 refine A7 ?_
 refine sB (A1z rfl rfl) rfl rfl (fun h937 => ?_) (fun h937 => ?_)
 refine X7 ?_
 refine A2 ?_
 exact R2
 refine Q0 ?_
 refine E8 rfl (o4) rfl rfl (fun h988 => ?_) (fun h988 => ?_)
 refine J6 ?_
 refine sP (A0m rfl rfl (by omega)) rfl rfl ?_
 refine B9 ?_
 refine E8 rfl (o7) rfl rfl (fun h1006 => ?_) (fun h1006 => ?_)
 refine B6 ?_
 refine sB (M7 rfl rfl) rfl rfl (fun h1011 => ?_) (fun h1011 => ?_)
 refine J6 ?_
 exact R2
 refine J8 ?_
 refine sB (qE rfl rfl) rfl rfl (fun h1038 => ?_) (fun h1038 => ?_)
 refine A9 ?_
 refine sB (A01 rfl rfl) rfl rfl (fun h1046 => ?_) (fun h1046 => ?_)
 refine B9 ?_
 refine sB (W9 rfl rfl) rfl rfl (fun h1050 => ?_) (fun h1050 => ?_)
 refine A9 ?_
 exact A2R
 refine A9 ?_
 exact R2
 refine H0 ?_
 exact R2
 refine D9 ?_
 refine sB (qE rfl rfl) rfl rfl (fun h1088 => ?_) (fun h1088 => ?_)
 refine B0 ?_
 exact A2R
 refine B0 ?_
 exact R2
 refine U6 ?_
 exact R2
 refine J7 ?_
 exact R2
mutual
def N2 (D N : Int) : Tm → Int → Bool
 | .mk k nm num ty fr lb ks, deep => decide (deep ≤ D) && decide (k ≠ N) && T3 k nm num ty fr lb ks.length && N3 D N ks (deep + 1)
def N3 (D N : Int) : List Tm → Int → Bool
 | [], _ => true
 | t :: ts, deep => N2 D N t deep && N3 D N ts deep
end
theorem A05 (D N : Int) : ∀ (ts : List Tm) (d : Int), N3 D N ts d = true ↔ ∀ i, (h : i < ts.length) → N2 D N ts[i] d = true
 | [], d => by simp [N3]
 | t :: ts, d => by
  simp only [N3, Bool.and_eq_true, A05 D N ts d]
  constructor
  ·rintro ⟨h1, h2⟩ i hi
   cases i with
   | zero => exact h1
   | succ i => exact h2 i (by simpa using hi)
  ·intro h
   exact ⟨h 0 (by simp), fun i hi => h (i + 1) (by simpa using hi)⟩
theorem A8r {D N : Int} {k : Int} {nm : ByteArray} {num : Int} {ty fr : Ty} {lb : Int} {ks : List Tm} {d : Int} (h : D < d ∨ k = N ∨ T3 k nm num ty fr lb ks.length = false) : N2 D N (.mk k nm num ty fr lb ks) d = false := by
 rw [N2]
 rcases h with h | h | h
 ·rw [decide_eq_false (by omega)]; rfl
 ·rw [decide_eq_false (p := k ≠ N) (by omega), Bool.and_false]; rfl
 ·rw [h, Bool.and_false]; rfl
theorem A2e {D N : Int} {k : Int} {nm : ByteArray} {num : Int} {ty fr : Ty} {lb : Int} {ks : List Tm} {d : Int} (h1 : d ≤ D) (h2 : k ≠ N) (h3 : T3 k nm num ty fr lb ks.length = true) : N2 D N (.mk k nm num ty fr lb ks) d = N3 D N ks (d + 1) := by
 rw [N2, decide_eq_true h1, decide_eq_true h2, h3]; rfl
theorem B23 {D N : Int} {ks : List Tm} {d : Int} {i : Nat} (hi : i < ks.length) (h : N2 D N ks[i] d = false) : N3 D N ks d = false := by
 cases hx : N3 D N ks d with
 | false => rfl
 | true => rw [(A05 D N ks d).1 hx i hi] at h; cases h
theorem B24 {k : Int} {nm : ByteArray} {num : Int} {ty fr : Ty} {lb : Int} {n : Nat} (hk : k = 14) (ha : F0 k = n) : T3 k nm num ty fr lb n = true ↔ nm = ⟨#[]⟩ ∧ num = 0 ∧ (1 ≤ A1m lb ∧ A1m lb ≤ 99) ∧ H5 ty = true ∧ H5 fr = true ∧ K0 fr ty = true := by
 rw [U0, B21]
 simp only [O2, A1C, decide_eq_true_eq, Bool.and_eq_true]
 constructor
 ·rintro ⟨_, _, h3, _, h5, h6, _, h8, _⟩
  have h8 := h8 hk
  exact ⟨h3 (by omega), by have := h5 (by omega); omega, h8.2, h6 (by omega), h8.1.1.1, h8.1.2⟩
 ·rintro ⟨h1, h2, h3, h4, h5, h6⟩
  exact ⟨ha, fun h => absurd h (by omega), fun _ => h1, fun h => absurd h (by omega), fun _ => by omega, fun _ => h4, fun h => absurd h (by omega), fun _ => ⟨⟨⟨h5, h4⟩, h6⟩, h3⟩, fun h => absurd hk h⟩
theorem A8s {k : Int} {nm : ByteArray} {num : Int} {ty fr : Ty} {lb : Int} {n : Nat} (hk : k ≠ 14) (ha : F0 k = n) : T3 k nm num ty fr lb n = true ↔
  (k = 1 ∨ k = 5 → A0P nm = true) ∧ (¬(k = 1 ∨ k = 5) → nm = ⟨#[]⟩) ∧ (k = 5 ∨ k = 13 ∨ k = 14 → H5 ty = true) ∧ (¬(k = 5 ∨ k = 13 ∨ k = 14) → A0w ty = true) ∧ (k ≠ 14 → A0w fr = true ∧ lb = 0) ∧ (k = 2 → 0 ≤ num ∧ num ≤ 999) ∧ (k ≠ 2 → num = 0) := by
 rw [U0]
 simp only [O2, decide_eq_true_eq]
 constructor
 ·rintro ⟨_, h2, h3, h4, h5, h6, h7, _, h9⟩
  exact ⟨h2, h3, h6, h7, h9, h4, fun h => by have := h5 h; omega⟩
 ·rintro ⟨h2, h3, h6, h7, h9, h4, h5⟩
  exact ⟨ha, h2, h3, h4, fun h => by have := h5 h; omega, h6, h7, fun h => absurd h hk, h9⟩
theorem A1n {Q : Prop} (h : Q := by (rw [A8r (by rw [hR]; first | omega | exact .inr (.inr (by assumption)) | exact .inr (.inr (by cases R with | false => rfl | true => exact absurd (har rfl) (by omega))))]; exact ⟨rfl, rfl, rfl⟩)) : Q := h
theorem A5K {Q : Prop} (h : Q := by (rw [A2e (by omega) (by omega) (hR.trans (by assumption)), B23 (i := i) (by omega) (by assumption)]; exact ⟨rfl, rfl, rfl⟩)) : Q := h
theorem A8t {Q : Prop} (h : Q := by (rw [A2e (by omega) (by omega) (hR.trans (by assumption)), (A05 40 13 ks _).2 (fun j hj => hf j hj (by omega))]; exact ⟨rfl, rfl, rfl⟩)) : Q := h
theorem B25 : ∀ (t : Tm) (d : Int) (G : IM) (cells : List Value), 0 ≤ d ∧ d ≤ 40 → B3 G t cells →
  Fn Tryz.prog 193 [.agg ⟨cells⟩, .int .i64 d] [] G (E5 (.bool (N2 40 13 t (41 - d))) G) := by
 refine Tm.ind fun k nm num ty fr lb ks ih d G cells hd hr => ?_
 have hr0 := hr
 have h14 := fun h : k = 14 => @B24 k nm num ty fr lb ks.length h
 have hne := fun h : k ≠ 14 => @A8s k nm num ty fr lb ks.length h
 have har := fun h : T3 k nm num ty fr lb ks.length = true => (U0.1 h).1
 obtain ⟨R, hR⟩ : ∃ R, T3 k nm num ty fr lb ks.length = R := ⟨_, rfl⟩
 rw [hR] at h14 hne har
 have hlo := B22 k nm num ty fr lb ks G cells hr0 R
 have hl2 := A8q k nm num ty fr lb ks G cells hr0 R
 have hk1 := A8g k G
 obtain ⟨tk, tks⟩ := ty
 obtain ⟨fk, fks⟩ := fr
 obtain ⟨pt, ct, pf, cf, p, c, es, rfl, hk, hnum, hlb, hty, hfr, hsl, hkl⟩ := hr.open9
 have hn := hsl.le
 clear hr hr0
 refine B8 Tryz.func193 rfl Tryz.ntmps193 Tryz.results193 rfl ?_
 intro w0
 refine A2 ?_
 refine sE (C6 rfl rfl) rfl (fun b3 => ?_)
 refine B0 ?_
 refine E1 E3 rfl ?_
 refine K2 (i := 0) (l' := [tt,ff,ff,ff,ff,ff,ff,ff,ff,ff,ff,ff,ff,ff,ff,ff,ff,ff,ff,ff,ff,ff,ff,ff,ff,ff,ff,ff,ff,ff,ff,ff,ff,ff,ff,ff]) rfl D5 (qM rfl) rfl (by kernel_rfl) rfl rfl ?_
 refine A0D (i := 1) (l' := [tt,tt,ff,ff,ff,ff,ff,ff,ff,ff,ff,ff,ff,ff,ff,ff,ff,ff,ff,ff,ff,ff,ff,ff,ff,ff,ff,ff,ff,ff,ff,ff,ff,ff,ff,ff]) rfl D5 (I8 rfl rfl) rfl (by kernel_rfl) rfl rfl (fun h11 => ?_) (fun h11 => ?_)
 refine aP 2 rfl (qM rfl) rfl ?_
 refine C4 3 rfl rfl rfl ?_
 refine C4 4 rfl rfl rfl ?_
 refine C4 6 rfl rfl rfl ?_
 refine C4 7 rfl rfl rfl ?_
 refine C4 8 rfl rfl rfl ?_
 refine C4 5 rfl rfl rfl ?_
 refine C4 9 rfl rfl rfl ?_
 refine aP 10 rfl (M1 rfl rfl) rfl ?_
 refine aP 11 rfl (qM rfl) rfl ?_
 refine C4 12 rfl rfl rfl ?_
 refine C4 13 rfl rfl rfl ?_
 refine C4 14 rfl rfl rfl ?_
 refine aP 15 rfl (M1 rfl rfl) rfl ?_
 refine aP 16 rfl (qM rfl) rfl ?_
 refine C4 17 rfl rfl rfl ?_
 refine C4 18 rfl rfl rfl ?_
 refine C4 19 rfl rfl rfl ?_
 refine C4 20 rfl rfl rfl ?_
 refine C4 21 rfl rfl rfl ?_
 refine C4 22 rfl rfl rfl ?_
 refine C4 23 rfl rfl rfl ?_
 refine C4 24 rfl rfl rfl ?_
 refine aP 25 rfl (M1 rfl rfl) rfl ?_
 refine aP 26 rfl (qM rfl) rfl ?_
 refine C4 27 rfl rfl rfl ?_
 refine C4 28 rfl rfl rfl ?_
 refine C4 29 rfl rfl rfl ?_
 refine C4 30 rfl rfl rfl ?_
 refine C4 31 rfl rfl rfl ?_
 refine C4 32 rfl rfl rfl ?_
 refine C4 33 rfl rfl rfl ?_
 refine C4 34 rfl rfl rfl ?_
 refine aP 35 rfl (M1 rfl rfl) rfl ?_
 refine H0 ?_
 exact A1n
 refine aP 2 rfl (qM rfl) rfl ?_
 refine aP 3 rfl (C0 rfl) rfl ?_
 refine aL 4 rfl (C9 rfl rfl) rfl ?_
 refine aP 6 rfl (C0 rfl) rfl ?_
 refine aL 7 rfl (C9 rfl rfl) rfl ?_
 refine aP 8 rfl (pLn rfl rfl) rfl ?_
 refine A3 5 ?_
 refine M5 rfl rfl (hk1) rfl rfl rfl ?_
 refine A0D (i := 9) (l' := [tt,tt,tt,tt,tt,tt,tt,tt,tt,tt,ff,ff,ff,ff,ff,ff,ff,ff,ff,ff,ff,ff,ff,ff,ff,ff,ff,ff,ff,ff,ff,ff,ff,ff,ff,ff]) rfl D5 (M7 rfl rfl) rfl (by kernel_rfl) rfl rfl (fun h66 => ?_) (fun h66 => ?_)
 refine aP 10 rfl (O1 rfl rfl) rfl ?_
 refine aP 11 rfl (qM rfl) rfl ?_
 refine C4 12 rfl rfl rfl ?_
 refine C4 13 rfl rfl rfl ?_
 refine C4 14 rfl rfl rfl ?_
 refine aP 15 rfl (M1 rfl rfl) rfl ?_
 refine aP 16 rfl (qM rfl) rfl ?_
 refine C4 17 rfl rfl rfl ?_
 refine C4 18 rfl rfl rfl ?_
 refine C4 19 rfl rfl rfl ?_
 refine C4 20 rfl rfl rfl ?_
 refine C4 21 rfl rfl rfl ?_
 refine C4 22 rfl rfl rfl ?_
 refine C4 23 rfl rfl rfl ?_
 refine C4 24 rfl rfl rfl ?_
 refine aP 25 rfl (M1 rfl rfl) rfl ?_
 refine aP 26 rfl (qM rfl) rfl ?_
 refine C4 27 rfl rfl rfl ?_
 refine C4 28 rfl rfl rfl ?_
 refine C4 29 rfl rfl rfl ?_
 refine C4 30 rfl rfl rfl ?_
 refine C4 31 rfl rfl rfl ?_
 refine C4 32 rfl rfl rfl ?_
 refine C4 33 rfl rfl rfl ?_
 refine C4 34 rfl rfl rfl ?_
 refine aP 35 rfl (M1 rfl rfl) rfl ?_
 refine H0 ?_
 exact A1n
 refine aP 10 rfl (O1 rfl rfl) rfl ?_
 refine aP 11 rfl (qM rfl) rfl ?_
 refine aP 12 rfl (C0 rfl) rfl ?_
 refine aL 13 rfl (C9 rfl rfl) rfl ?_
 refine A0D (i := 14) (l' := [tt,tt,tt,tt,tt,tt,tt,tt,tt,tt,tt,tt,tt,tt,tt,ff,ff,ff,ff,ff,ff,ff,ff,ff,ff,ff,ff,ff,ff,ff,ff,ff,ff,ff,ff,ff]) rfl D5 (qE rfl rfl) rfl (by kernel_rfl) rfl rfl (fun h109 => ?_) (fun h109 => ?_)
 refine aP 15 rfl (O1 rfl rfl) rfl ?_
 refine aP 16 rfl (qM rfl) rfl ?_
 refine C4 17 rfl rfl rfl ?_
 refine C4 18 rfl rfl rfl ?_
 refine C4 19 rfl rfl rfl ?_
 refine C4 20 rfl rfl rfl ?_
 refine C4 21 rfl rfl rfl ?_
 refine C4 22 rfl rfl rfl ?_
 refine C4 23 rfl rfl rfl ?_
 refine C4 24 rfl rfl rfl ?_
 refine aP 25 rfl (M1 rfl rfl) rfl ?_
 refine aP 26 rfl (qM rfl) rfl ?_
 refine C4 27 rfl rfl rfl ?_
 refine C4 28 rfl rfl rfl ?_
 refine C4 29 rfl rfl rfl ?_
 refine C4 30 rfl rfl rfl ?_
 refine C4 31 rfl rfl rfl ?_
 refine C4 32 rfl rfl rfl ?_
 refine C4 33 rfl rfl rfl ?_
 refine C4 34 rfl rfl rfl ?_
 refine aP 35 rfl (M1 rfl rfl) rfl ?_
 refine H0 ?_
 exact A1n
 refine aP 15 rfl (O1 rfl rfl) rfl ?_
 refine aP 16 rfl (qM rfl) rfl ?_
 refine aP 17 rfl (C0 rfl) rfl ?_
 refine aL 18 rfl (C9 rfl rfl) rfl ?_
 refine A0D (i := 19) (l' := [tt,tt,tt,tt,tt,tt,tt,tt,tt,tt,tt,tt,tt,tt,tt,tt,tt,tt,tt,tt,ff,ff,ff,ff,ff,ff,ff,ff,ff,ff,ff,ff,ff,ff,ff,ff]) rfl D5 (qE rfl rfl) rfl (by kernel_rfl) rfl rfl (fun h147 => ?_) (fun h147 => ?_)
 refine aP 20 rfl (qM rfl) rfl ?_
 refine aL 21 rfl (A4 rfl rfl) rfl ?_
 refine A3 22 ?_
 refine R9 rfl rfl (hlo (h14 (by omega) (by omega))) rfl rfl rfl (fun h151 => ?_) (fun h151 => ?_)
 refine aP 23 rfl (pNt rfl) rfl ?_
 refine aP 24 rfl (M1 rfl rfl) rfl ?_
 refine aP 25 rfl (O1 rfl rfl) rfl ?_
 refine aP 26 rfl (qM rfl) rfl ?_
 refine aP 27 rfl (C0 rfl) rfl ?_
 refine aL 28 rfl (C9 rfl rfl) rfl ?_
 refine aP 29 rfl (X0 rfl rfl (by omega)) rfl ?_
 refine aP 30 rfl (qM rfl) rfl ?_
 refine C4 31 rfl rfl rfl ?_
 refine C4 32 rfl rfl rfl ?_
 refine C4 33 rfl rfl rfl ?_
 refine aP 34 rfl (O1 rfl rfl) rfl ?_
 refine aP 35 rfl (O1 rfl rfl) rfl ?_
 refine H0 ?_
 refine B7 ?_
 (refine I3 (fun (i : Nat) => ⟨[(5, .int .i64 i), (2, .pointer (some ⟨b3, 0, none⟩)), (1, .int .i64 d)], [.blk b3 [.int .i64 k, .string nm, .int .i64 num, .int .i64 tk, .slice pt tks.length ct, .int .i64 fk, .slice pf fks.length cf, .int .i64 lb, .slice p ks.length c]], G⟩) (fun i => i ≤ ks.length ∧ ∀ j (h : j < ks.length), j < i → N2 40 13 ks[j] (41 - d + 1) = true) (fun i => ks.length - i) 0 ?_ ?_ ?_)
 exact D3
 exact ⟨by omega, by omega⟩
 (rintro i ⟨hi, hf⟩)
 refine A9 ?_
 refine sB (I8 rfl rfl) rfl rfl (fun h188 => ?_) (fun h188 => ?_)
 refine A7 ?_
 refine B7 ?_
 refine B0 ?_
 (obtain ⟨b, o, e, rfl, hl, hat, hre, hgb⟩ := hsl.kidTm hkl (i := i) (by omega) (by omega); refine sP (B2 rfl rfl rfl (by omega)) rfl rfl ?_)
 refine sL (A0 rfl rfl (hat _) hl) rfl rfl ?_
 refine E0 ?_
 refine sP (V9 rfl rfl (by omega) (by omega)) rfl rfl ?_
 (have hih := ih ks[i] (List.getElem_mem (by omega)) (d - 1) G _ (by omega) hre; rw [show 41 - (d - 1) = 41 - d + 1 by omega] at hih; refine E8 rfl hih rfl rfl (fun h205 => ?_) (fun h205 => ?_))
 refine D9 ?_
 refine sP (E7 rfl rfl (by omega) (by omega)) rfl rfl ?_
 refine A2 ?_
 refine I7 (i + 1) ?_ ?_ ?_
 exact D3
 exact A4i
 omega
 refine J3 ?_
 exact A5K
 refine H1 ?_
 exact A8t
 refine aP 23 rfl (pNf rfl) rfl ?_
 refine aP 24 rfl (M1 rfl rfl) rfl ?_
 refine aP 25 rfl (O1 rfl rfl) rfl ?_
 refine aP 26 rfl (qM rfl) rfl ?_
 refine C4 27 rfl rfl rfl ?_
 refine C4 28 rfl rfl rfl ?_
 refine C4 29 rfl rfl rfl ?_
 refine C4 30 rfl rfl rfl ?_
 refine C4 31 rfl rfl rfl ?_
 refine C4 32 rfl rfl rfl ?_
 refine C4 33 rfl rfl rfl ?_
 refine C4 34 rfl rfl rfl ?_
 refine aP 35 rfl (M1 rfl rfl) rfl ?_
 refine H0 ?_
 exact A1n
 refine aP 20 rfl (qM rfl) rfl ?_
 refine C4 21 rfl rfl rfl ?_
 refine C4 22 rfl rfl rfl ?_
 refine C4 23 rfl rfl rfl ?_
 refine aP 24 rfl (O1 rfl rfl) rfl ?_
 refine aP 25 rfl (O1 rfl rfl) rfl ?_
 refine aP 26 rfl (qM rfl) rfl ?_
 refine aP 27 rfl (C0 rfl) rfl ?_
 refine aL 28 rfl (C9 rfl rfl) rfl ?_
 refine aP 29 rfl (A0m rfl rfl (by omega)) rfl ?_
 refine aP 30 rfl (qM rfl) rfl ?_
 refine aL 31 rfl (A4 rfl rfl) rfl ?_
 refine A3 32 ?_
 refine R9 rfl rfl (hl2 (hne (by omega) (by omega))) rfl rfl rfl (fun h293 => ?_) (fun h293 => ?_)
 refine aP 33 rfl (pNt rfl) rfl ?_
 refine aP 34 rfl (M1 rfl rfl) rfl ?_
 refine aP 35 rfl (O1 rfl rfl) rfl ?_
 refine H0 ?_
 refine B7 ?_
 (refine I3 (fun (i : Nat) => ⟨[(5, .int .i64 i), (2, .pointer (some ⟨b3, 0, none⟩)), (1, .int .i64 d)], [.blk b3 [.int .i64 k, .string nm, .int .i64 num, .int .i64 tk, .slice pt tks.length ct, .int .i64 fk, .slice pf fks.length cf, .int .i64 lb, .slice p ks.length c]], G⟩) (fun i => i ≤ ks.length ∧ ∀ j (h : j < ks.length), j < i → N2 40 13 ks[j] (41 - d + 1) = true) (fun i => ks.length - i) 0 ?_ ?_ ?_)
 exact D3
 exact ⟨by omega, by omega⟩
 (rintro i ⟨hi, hf⟩)
 refine A9 ?_
 refine sB (I8 rfl rfl) rfl rfl (fun h320 => ?_) (fun h320 => ?_)
 refine A7 ?_
 refine B7 ?_
 refine B0 ?_
 (obtain ⟨b, o, e, rfl, hl, hat, hre, hgb⟩ := hsl.kidTm hkl (i := i) (by omega) (by omega); refine sP (B2 rfl rfl rfl (by omega)) rfl rfl ?_)
 refine sL (A0 rfl rfl (hat _) hl) rfl rfl ?_
 refine E0 ?_
 refine sP (V9 rfl rfl (by omega) (by omega)) rfl rfl ?_
 (have hih := ih ks[i] (List.getElem_mem (by omega)) (d - 1) G _ (by omega) hre; rw [show 41 - (d - 1) = 41 - d + 1 by omega] at hih; refine E8 rfl hih rfl rfl (fun h337 => ?_) (fun h337 => ?_))
 refine D9 ?_
 refine sP (E7 rfl rfl (by omega) (by omega)) rfl rfl ?_
 refine A2 ?_
 refine I7 (i + 1) ?_ ?_ ?_
 exact D3
 exact A4i
 omega
 refine J3 ?_
 exact A5K
 refine H1 ?_
 exact A8t
 refine aP 33 rfl (pNf rfl) rfl ?_
 refine aP 34 rfl (M1 rfl rfl) rfl ?_
 refine aP 35 rfl (O1 rfl rfl) rfl ?_
 refine H0 ?_
 exact A1n
theorem B26 {D N : Int} {k : Int} {nm : ByteArray} {num : Int} {ty fr : Ty} {lb : Int} {ks : List Tm} {d : Int} (h : N2 D N (.mk k nm num ty fr lb ks) d = true) : d ≤ D ∧ ∀ i, (hi : i < ks.length) → N2 D N ks[i] (d + 1) = true := by
 rw [N2] at h
 simp only [Bool.and_eq_true, decide_eq_true_eq] at h
 exact ⟨h.1.1.1, (A05 D N ks _).1 h.2⟩
mutual
theorem A5L (M D N : Int) : ∀ (t : Tm) (deep c : Int), c ≤ M → ((R1 M D N t deep c).1 = true ↔ N2 D N t deep = true ∧ c + D6 t ≤ M)
 | .mk k nm num ty fr lb ks, deep, c, hc => by
  rw [R1, D6]
  by_cases h : c + 1 > M ∨ deep > D ∨ k = N ∨ T3 k nm num ty fr lb ks.length = false
  ·rw [if_pos h]
   constructor
   ·intro h; cases h
   ·rintro ⟨h1, h2⟩
    rcases h with h | h
    ·omega
    ·rw [A8r h] at h1; cases h1
  ·rw [if_neg h]
   have hn : T3 k nm num ty fr lb ks.length = true := by
    cases hx : T3 k nm num ty fr lb ks.length with
    | true => rfl
    | false => exact absurd (Or.inr (Or.inr (Or.inr hx))) h
   rw [A2e (by omega) (by omega) hn, A8u M D N ks (deep + 1) (c + 1) (by omega)]
   constructor
   ·rintro ⟨a, b⟩; exact ⟨a, by omega⟩
   ·rintro ⟨a, b⟩; exact ⟨a, by omega⟩
theorem A8u (M D N : Int) : ∀ (ts : List Tm) (deep c : Int), c ≤ M → ((S0 M D N ts deep c).1 = true ↔ N3 D N ts deep = true ∧ c + F4 ts ≤ M)
 | [], deep, c, hc => by simp [S0, N3, F4]; omega
 | t :: ts, deep, c, hc => by
  have h0 := A5L M D N t deep c hc
  rw [S0, N3, F4, Bool.and_eq_true]
  by_cases h : (R1 M D N t deep c).1 = true
  ·rw [if_pos h, A5u M D N t deep c h, A8u M D N ts deep _ (h0.1 h).2]
   have := h0.1 h
   constructor
   ·rintro ⟨a, b⟩; exact ⟨⟨this.1, a⟩, by omega⟩
   ·rintro ⟨⟨_, a⟩, b⟩; exact ⟨a, by omega⟩
  ·rw [if_neg h]
   constructor
   ·intro h'; cases h'
   ·rintro ⟨⟨a, _⟩, b⟩
    exact absurd (h0.2 ⟨a, by omega⟩) h
end
theorem A5M (t : Tm) : O9 t = true ↔ N2 40 13 t 1 = true ∧ D6 t ≤ 200 := by
 have := A5L 200 40 13 t 1 0 (by omega)
 rw [O9, this]
 constructor
 ·rintro ⟨a, b⟩; exact ⟨a, by omega⟩
 ·rintro ⟨a, b⟩; exact ⟨a, by omega⟩
theorem A8v (D N : Int) : ∀ (t : Tm) (d : Int) (G : IM) (cells : List Value), d ≤ 40 → N2 D N t (D + 1 - d) = true → D6 t ≤ 4294967296 → B3 G t cells →
  Fn Tryz.prog 186 [.agg ⟨cells⟩, .int .i64 d] [] G (E5 (.int .i64 (D6 t : Int)) G) := by
 refine Tm.ind fun k nm num ty fr lb ks ih d G cells hd hv hcnt hr => ?_
 have hone := hr.one
 obtain ⟨hv1, hv2⟩ := B26 hv
 obtain ⟨tk, tks⟩ := ty
 obtain ⟨fk, fks⟩ := fr
 obtain ⟨pt, ct, pf, cf, p, c, es, rfl, hk, hnum, hlb, hty, hfr, hsl, hkl⟩ := hr.open9
 have hn := hsl.le
 clear hr
 rw [D6] at hcnt ⊢
 refine B8 Tryz.func186 rfl Tryz.ntmps186 Tryz.results186 rfl ?_
 intro w0
 refine A2 ?_
 refine sE (C6 rfl rfl) rfl (fun b3 => ?_)
 refine J7 ?_
 refine B7 ?_
 (refine I3 (fun (i : Nat) => ⟨[(6, .int .i64 i), (5, .int .i64 ((F4 (ks.take i) + 1 : Nat) : Int)), (2, .pointer (some ⟨b3, 0, none⟩)), (1, .int .i64 d)], [.blk b3 [.int .i64 k, .string nm, .int .i64 num, .int .i64 tk, .slice pt tks.length ct, .int .i64 fk, .slice pf fks.length cf, .int .i64 lb, .slice p ks.length c]], G⟩) (fun i => i ≤ ks.length) (fun i => ks.length - i) 0 ?_ ?_ ?_)
 exact D3
 exact Nat.zero_le _
 (rintro i hi)
 refine A9 ?_
 refine sB (I8 rfl rfl) rfl rfl (fun h30 => ?_) (fun h30 => ?_)
 refine A2 ?_
 refine sP (A3j rfl rfl (by omega)) rfl rfl ?_
 refine A9 ?_
 refine B7 ?_
 refine B0 ?_
 (obtain ⟨b, o, e, rfl, hl, hat, hre, hgb⟩ := hsl.kidTm hkl (i := i) (by omega) (by omega); have htk := A0x (ks := ks) (i := i) (by omega); refine sP (B2 rfl rfl rfl (by omega)) rfl rfl ?_)
 refine sL (A0 rfl rfl (hat _) hl) rfl rfl ?_
 refine E0 ?_
 refine sP (V9 rfl rfl (by omega) (by omega)) rfl rfl ?_
 (have hvk := hv2 i (by omega); rw [show D + 1 - d + 1 = D + 1 - (d - 1) by omega] at hvk; refine H4 rfl (ih ks[i] (List.getElem_mem (by omega)) (d - 1) G _ (by omega) hvk (by omega) hre) rfl rfl ?_)
 refine sP (E7 rfl rfl (by omega) (by omega)) rfl rfl ?_
 refine A7 ?_
 refine sP (E7 rfl rfl (by omega) (by omega)) rfl rfl ?_
 refine A2 ?_
 (refine I7 (i + 1) ?_ ?_ ?_; rw [show ((F4 (ks.take (i + 1)) + 1 : Nat) : Int) = ((F4 (ks.take i) + 1 : Nat) : Int) + (D6 ks[i] : Int) from by rw [A0y (by omega)]; omega])
 exact D3
 omega
 omega
 refine A0b ?_
 (obtain rfl : i = ks.length := (by omega); rw [List.take_length]; exact ⟨rfl, rfl, rfl⟩)
theorem A4k {Q : Prop} (h : Q := by exact ⟨rfl, by (cases R with | false => rfl | true => (exfalso; have h0 := hi.1 rfl; first | omega | simp_all)), rfl⟩) : Q := h
theorem A8w (t : Tm) (G : IM) (cells : List Value) (hcnt : D6 t ≤ 4294967296) (hr : B3 G t cells) :
  Fn Tryz.prog 144 [.agg ⟨cells⟩] [] G (E5 (.bool (O9 t)) G) := by
 have hl := hr.len
 have hv := B25 t 40 G cells (by omega) hr
 have hc := fun h => A8v 40 13 t 40 G cells (by omega) h hcnt hr
 have hi := A5M t
 obtain ⟨R, hR⟩ : ∃ R, O9 t = R := ⟨_, rfl⟩
 rw [hR] at hi ⊢
 refine B8 Tryz.func144 rfl Tryz.ntmps144 Tryz.results144 rfl ?_
 intro w0
 refine A2 ?_
 refine sE (C6 rfl rfl) rfl (fun b3 => ?_)
 refine B0 ?_
 refine sL (A0 rfl rfl (B1 (by repeat first | exact mH | apply mT)) (by assumption)) rfl rfl ?_
 refine E8 rfl (hv) rfl rfl (fun h10 => ?_) (fun h10 => ?_)
 refine E0 ?_
 refine sL (A0 rfl rfl (B1 (by repeat first | exact mH | apply mT)) (by assumption)) rfl rfl ?_
 refine H4 rfl (hc (by assumption)) rfl rfl ?_
 refine sB (W9 rfl rfl) rfl rfl (fun h14 => ?_) (fun h14 => ?_)
 refine A7 ?_
 exact ⟨rfl, by rw [hi.2 ⟨by assumption, by omega⟩], rfl⟩
 refine A7 ?_
 exact A4k
 refine I9 ?_
 exact A4k
theorem Sw.same {hp hp' : List A5} {e : A5} (h : Sw hp e e hp') : hp' = hp := by
 generalize he : e = e' at h
 have : ∀ {hp e e' hp'}, Sw hp e e' hp' → e = e' → hp' = hp := by
  intro hp e e' hp' h
  induction h with
  | here => rintro rfl; rfl
  | there _ ih => intro he; rw [ih he]
 subst he
 exact this h rfl
section
variable {P : Program} {Γ : K8} {env : L6} {hp : List A5} {G : IM} {ty : TypeId}
theorem A8x {d : Nat} {x y : Operand} {t el : TypeId} {i : K7} {sz by' : Nat} {zs : List Value} [hI : I2 P t i] {ie : K7} [hEl : I2 P el ie] (hd' : i.desc = .slice el) [hE : T8 P el sz by' zs] {p q : Option Addr} {c n m c2 : Nat} {cs news : List Value} {hp' : Option Addr → Nat → List A5}
  (hd : Nat.blt d Γ.n = true) (hx : evo env x = some (.slice p n c)) (hy : evo env y = some (.slice q m c2)) (hsz : Nat.blt 0 sz = true)
  (hm : ∀ p' c', Sw hp (.slc p c el sz n cs) (.slc p' c' el sz (n + m) (cs ++ news)) (hp' p' c'))
  (hS : Sl G q m c2 sz news) (h1 : ∀ u ∈ news, u.oneCell' = true) (hc : n ≤ c)
  (h63 : n + m ≤ maxLen) (hb : (n + m) * by' ≤ 140737488355328) :
  U5 P Γ ⟨env, hp, G⟩ (some d) (.call ⟨.builtin .append, ⟨[x, y]⟩, ⟨[t, t]⟩⟩) ty (I0 p) (fun σ' => ∃ p' c', σ' = ⟨(d, .slice p' (n + m) c') :: env, hp' p' c', G⟩) := by
 obtain ⟨hl, _, _, hat⟩ := hS
 rcases Nat.eq_zero_or_pos m with rfl | hm0
 ·obtain rfl : news = [] := List.length_eq_zero_iff.1 (by omega)
  have hpu := B1D (P := P) (Γ := Γ) (hp := hp) (G := G) (ty := ty) (t := t) (el := el) hd' hx hy hc
  refine ⟨fun a w hs pos af gd Q next hn => ?_⟩
  simp only [Oper.wp, hpu.run a w hs, Oper.upon]
  refine hn _ _ _ (hs.put d _ (by simpa using hd) hs.res) (Ext.refl _ _) ⟨p, c, ?_⟩
  have h0 := hm p c
  simp only [Nat.add_zero, List.append_nil] at h0 ⊢
  rw [h0.same]
 ·obtain ⟨b, o, full, rfl, hg, hv⟩ := hat.resolve_left (by omega)
  exact A5f hd' hd hx hy hsz hm (A3W hg hv) hl h1 h63 hb
variable {K : Po} {ops : Array Oper} {rest : List Oper} {pos : String} {af : Array Edge} {gd : Option (Nat × Bool)}
theorem A3y {d : Nat} {x y : Operand} {t el : TypeId} {i : K7} {sz by' : Nat} {zs : List Value} [hI : I2 P t i] {ie : K7} [hEl : I2 P el ie] [hE : T8 P el sz by' zs] {p q : Option Addr} {c n m c2 : Nat} {cs news : List Value} {hp' : Option Addr → Nat → List A5}
  (hd' : i.desc = .slice el) (hd : Nat.blt d Γ.n = true) (hx : evo env x = some (.slice p n c)) (hy : evo env y = some (.slice q m c2)) (hsz : Nat.blt 0 sz = true)
  (hm : ∀ p' c', Sw hp (.slc p c el sz n cs) (.slc p' c' el sz (n + m) (cs ++ news)) (hp' p' c'))
  (hS : Sl G q m c2 sz news) (h1 : ∀ u ∈ news, u.oneCell' = true) (hc : n ≤ c)
  (h63 : n + m ≤ maxLen) (hb : (n + m) * by' ≤ 140737488355328) (hw : K4 ops env gd = some true)
  (k : ∀ p' c', E4 P Γ ops rest K ⟨(d, .slice p' (n + m) c') :: env, hp' p' c', G⟩) : E4 P Γ ops (⟨some d, .call ⟨.builtin .append, ⟨[x, y]⟩, ⟨[t, t]⟩⟩, ty, pos, af, gd⟩ :: rest) K ⟨env, hp, G⟩ :=
 J9 (A8x hd' hd hx hy hsz hm hS h1 hc h63 hb) hw (by rintro _ ⟨p', c', rfl⟩; exact k p' c')
theorem A5N {H : List (Nat × Nat)} {fuel : Nat} {listed l' : List Bool} {j d : Nat} {cs : List Value} {x y : Operand} {t el : TypeId} {i : K7} {sz by' : Nat} {zs : List Value} [hI : I2 P t i] {ie : K7} [hEl : I2 P el ie] [hE : T8 P el sz by' zs] {p q : Option Addr} {c n m c2 : Nat} {news : List Value} {hp' : Option Addr → Nat → List A5} {H' : List (Nat × Nat)}
  (hi : ops[j]? = some ⟨some d, .call ⟨.builtin .append, ⟨[x, y]⟩, ⟨[t, t]⟩⟩, ty, pos, af, gd⟩) (hd' : i.desc = .slice el)
  (hd : Nat.blt d Γ.n = true) (hx : evo env x = some (.slice p n c)) (hy : evo env y = some (.slice q m c2)) (hsz : Nat.blt 0 sz = true)
  (hm : ∀ p' c', Sw hp (.slc p c el sz n cs) (.slc p' c' el sz (n + m) (cs ++ news)) (hp' p' c'))
  (hS : Sl G q m c2 sz news) (h1 : ∀ u ∈ news, u.oneCell' = true) (hc : n ≤ c)
  (h63 : n + m ≤ maxLen) (hb : (n + m) * by' ≤ 140737488355328) (hw : K4 ops env gd = some true) (hl : listed.set j true = l')
  (hok : D1 ops j hp G (.slc p c el sz n cs) H H')
  (k : ∀ p' c', M0 P Γ ops K H' fuel l' ⟨(d, .slice p' (n + m) c') :: env, hp' p' c', G⟩) : S8 P Γ ops K H fuel listed j ⟨env, hp, G⟩ :=
 A3n hi (A8x hd' hd hx hy hsz hm hS h1 hc h63 hb) hw hl (fun _ _ hs => hok.spec hs) hok.filter (by rintro _ ⟨p', c', rfl⟩; exact k p' c')
theorem B27 {H H' : List (Nat × Nat)} {fuel : Nat} {listed l' : List Bool} {j d : Nat} {f : FuncId} [hF : B4 P f] {xs : List Operand} {ats : Array TypeId} {vs : List Value} {e : A5} {rst : List A5} {post : IM → Value → List A5 → Prop}
  (hi : ops[j]? = some ⟨some d, .call ⟨.value (.func f), ⟨xs⟩, ats⟩, ty, pos, af, gd⟩) (hx : evl env xs = some vs) (h : Fn P f vs [e] G post) (hp' : hp.Perm ([e] ++ rst)) (hw : K4 ops env gd = some true) (hd : Nat.blt d Γ.n = true) (hl : listed.set j true = l')
  (hok : D1 ops j hp G e H H')
  (k : ∀ v G' outs, C5 G G' → post G' v outs → M0 P Γ ops K H' fuel l' ⟨(d, v) :: env, outs ++ rst, G'⟩) : S8 P Γ ops K H fuel listed j ⟨env, hp, G⟩ :=
 A3n hi (A10 hx h hp' hd) hw hl (fun _ _ hs => by simpa [Fp] using hok.spec hs) hok.filter (by rintro _ ⟨v, G', outs, rfl, hle, hq⟩; exact k v G' outs hle hq)
end
theorem A0z {G G' : IM} (h : C5 G G') {b : Nat} (hb : G' b = none) : G b = none := by
 cases hg : G b with
 | none => rfl
 | some l => rw [h b l hg] at hb; cases hb
theorem A8y {G G' : IM} {b : Nat} (h : G b ≠ none) : B5 G' G b = none := by
 cases hd : B5 G' G b with
 | none => rfl
 | some l => exact absurd (B5.out (by rw [hd]; simp)) h
theorem A4l {G0 Ga Gb Gc : IM} {bs : K5} {F : List Nat} (hi : Y2 (B5 Gb Ga) bs F) (hn : F.Nodup) (h0 : C5 G0 Ga) (hc : C5 (B5 Gb Ga) Gc) :
  (bs.map Prod.fst).Nodup ∧ (∀ q ∈ bs, Gc q.1 = some q.2 ∧ G0 q.1 = none) ∧ (∀ b ∈ bs.map Prod.fst, Ga b = none ∧ Gb b ≠ none) := by
 have key : ∀ q ∈ bs, Ga q.1 = none ∧ Gb q.1 = some q.2 := fun q hq => ⟨B5.out (by rw [hi.2 q hq]; simp), B5.le _ _ _ _ (hi.2 q hq)⟩
 refine ⟨hn.sublist hi.1, fun q hq => ⟨hc _ _ (hi.2 q hq), A0z h0 (key q hq).1⟩, fun b hb => ?_⟩
 obtain ⟨q, hq, rfl⟩ := List.mem_map.1 hb
 exact ⟨(key q hq).1, by rw [(key q hq).2]; simp⟩
section forget
variable {P : Program} {Γ : K8} {env : L6} {hp : List A5} {G : IM} {K : Po} {ops : Array Oper} {rest : List Oper} {ty : TypeId} {pos : String} {af : Array Edge} {gd : Option (Nat × Bool)}
theorem B28 {A B : List A5} (k : E4 P Γ ops rest K ⟨env, B, G⟩) : E4 P Γ ops rest K ⟨env, A ++ B, G⟩ :=
 ⟨fun a w hs => k.run a w ⟨hs.size, hs.nod, hs.env, (hs.res.perm List.perm_append_comm).left⟩⟩
theorem A8z {d : Nat} {f : FuncId} [hF : B4 P f] {xs : List Operand} {ats : Array TypeId} {vs : List Value} {v0 : Value} {Φ : K5 → Prop} {bs : K5} (hn : (bs.map Prod.fst).Nodup) (hg : ∀ q ∈ bs, G q.1 = some q.2 ∧ Γ.G0 q.1 = none)
  (hx : evl env xs = some vs) (h : Fn P f vs (blks bs) (Wo G (bs.map Prod.fst)) (A1F v0 (Wo G (bs.map Prod.fst)) Φ)) (hw : K4 ops env gd = some true) (hd : Nat.blt d Γ.n = true)
  (k : E4 P Γ ops rest K ⟨(d, v0) :: env, hp, Wo G (bs.map Prod.fst)⟩) : E4 P Γ ops (⟨some d, .call ⟨.value (.func f), ⟨xs⟩, ats⟩, ty, pos, af, gd⟩ :: rest) K ⟨env, hp, G⟩ := by
 refine A7h bs hn hg ?_
 refine J9 (A10 hx h (List.Perm.refl _) hd) hw ?_
 rintro _ ⟨v, G', outs, rfl, _, rfl, rfl, bs', rfl, hΦ⟩
 exact B28 k
theorem A8A {d : Nat} {f : FuncId} [hF : B4 P f] {xs : List Operand} {ats : Array TypeId} {vs : List Value} {v0 : Value} {Φ : K5 → Prop} {bs : K5} (hn : (bs.map Prod.fst).Nodup) (hg : ∀ q ∈ bs, G q.1 = some q.2 ∧ Γ.G0 q.1 = none)
  (hx : evl env xs = some vs) (h : Fn P f vs (blks bs) (Wo G (bs.map Prod.fst)) (A1F v0 (Wo G (bs.map Prod.fst)) Φ)) (hw : K4 ops env gd = some true) (hd : Nat.blt d Γ.n = true)
  (k : ∀ bs' G', Φ bs' → C5 (Wo G (bs.map Prod.fst)) G' → (∀ q ∈ bs', G' q.1 = some q.2) → E4 P Γ ops rest K ⟨(d, v0) :: env, hp, G'⟩) : E4 P Γ ops (⟨some d, .call ⟨.value (.func f), ⟨xs⟩, ats⟩, ty, pos, af, gd⟩ :: rest) K ⟨env, hp, G⟩ := by
 refine A7h bs hn hg ?_
 refine J9 (A10 hx h (List.Perm.refl _) hd) hw ?_
 rintro _ ⟨v, G', outs, rfl, _, rfl, rfl, bs', rfl, hΦ⟩
 exact B1O (List.Perm.refl _) fun h1 h2 h3 => k bs' _ hΦ h3 fun q hq => Wi.in h1 hq
end forget
def tAt : Tm → List Int → Option Tm
 | t, [] => some t
 | .mk _ _ _ _ _ _ ks, i :: is => if h : 0 ≤ i ∧ i < ks.length then tAt (ks[i.toNat]'(by omega)) is else none
def z9 : List Value := [.int .i64 0, .string ⟨⟨[]⟩⟩, .int .i64 0, .int .i64 0, .slice none 0 0, .int .i64 0, .slice none 0 0, .int .i64 0, .slice none 0 0]
def AtP (t : Tm) (path : List Int) (G : IM) : IM → Value → List A5 → Prop := fun G' v outs => G' = G ∧ outs = [] ∧
 ((∃ x cells, tAt t path = some x ∧ B3 G x cells ∧ v = .tuple ⟨[.agg ⟨cells⟩, .bool true]⟩) ∨ (tAt t path = none ∧ v = .tuple ⟨[.agg ⟨z9⟩, .bool false]⟩))
def pAt (t : Tm) (label : Int) (l : List Int) : Bool := match tAt t l with
 | some x => decide (x.k = 14 ∧ x.lb = label)
 | none => false
def A5O (t : Tm) (label : Int) : List Int × Bool := match (B14 t).find? (pAt t label) with
 | some l => (l, true)
 | none => ([], false)
def SP1 (G : IM) (l : List Int) (p : Option Addr) (c : Nat) : Prop := Sl G p l.length c 1 (N6 l) ∧ ∀ b ∈ I0 p, G b ≠ none
def CpP (t : Tm) (label : Int) (G : IM) : IM → Value → List A5 → Prop := L5 fun G' v => ∃ p c, v = .tuple ⟨[.slice p (A5O t label).1.length c, .bool (A5O t label).2]⟩ ∧ SP1 (B5 G' G) (A5O t label).1 p c
theorem SP1.nil (G : IM) : SP1 G [] none 0 := ⟨Sl.nil G 1, by simp [I0]⟩
theorem SP1.blks {G : IM} {l : List Int} {p : Option Addr} {c : Nat} (h : SP1 G l p c) : ∃ bs, OIs l p c bs ∧ Y2 G bs (I0 p) := by
 obtain ⟨h3, _⟩ := h
 have hc := h3.2.1
 have hm := h3.2.2.1
 cases l with
 | nil => exact ⟨[], ⟨hc, hm, .inl ⟨rfl, rfl⟩⟩, Y2.nil _ _⟩
 | cons x xs =>
  obtain ⟨b, A, C, rfl, hg⟩ := h3.blk (by simp [N6])
  exact ⟨[(b, A ++ (N6 (x :: xs) ++ C))], ⟨hc, hm, .inr ⟨b, A, C, rfl, rfl⟩⟩, by simp [I0], by simpa using hg⟩
def R7 : Ty := .mk 1 []
def Y4 : Nat → Ty → Prop
 | 0, .mk k ks => ks = [] ∧ k ≠ 4 ∧ k ≠ 5
 | n + 1, .mk k ks => (k = 4 ∨ k = 5 → ks.length = 2) ∧ (k ≠ 4 → k ≠ 5 → ks.length = 0) ∧ ∀ t ∈ ks, Y4 n t
mutual
def F8 : Ty → Prop
 | .mk k ks => (k = 4 ∨ k = 5 → ks.length = 2) ∧ (k ≠ 4 → k ≠ 5 → ks.length = 0) ∧ A0F ks
def A0F : List Ty → Prop
 | [] => True
 | t :: ts => F8 t ∧ A0F ts
end
theorem A1o : ∀ {ts : List Ty}, A0F ts ↔ ∀ t ∈ ts, F8 t
 | [] => by simp [A0F]
 | t :: ts => by simp only [A0F, A1o (ts := ts), List.forall_mem_cons]
theorem Y4.ar : ∀ {n : Nat} {t : Ty}, Y4 n t → F8 t
 | 0, .mk k ks, h => by
  obtain ⟨rfl, h1, h2⟩ := h
  rw [F8]
  exact ⟨fun h => by omega, fun _ _ => rfl, by rw [A0F]; trivial⟩
 | n + 1, .mk k ks, h => by
  obtain ⟨h1, h2, h3⟩ := h
  rw [F8]
  exact ⟨h1, h2, A1o.2 fun t ht => (h3 t ht).ar⟩
theorem Y4.up : ∀ {n : Nat} {t : Ty}, Y4 n t → Y4 (n + 1) t
 | 0, .mk k ks, h => by
  obtain ⟨rfl, h1, h2⟩ := h
  exact ⟨fun h => by omega, fun _ _ => rfl, by simp⟩
 | n + 1, .mk k ks, h => by
  obtain ⟨h1, h2, h3⟩ := h
  exact ⟨h1, h2, fun t ht => (h3 t ht).up⟩
theorem Y4.le {n m : Nat} {t : Ty} (h : Y4 n t) (hm : n ≤ m) : Y4 m t := by
 induction hm with
 | refl => exact h
 | step _ ih => exact ih.up
theorem B29 (n : Nat) : Y4 n R7 := by
 refine Y4.le (n := 0) ⟨rfl, by decide, by decide⟩ (Nat.zero_le n)
theorem B3a (n : Nat) {k : Int} (h4 : k ≠ 4) (h5 : k ≠ 5) : Y4 n (.mk k []) := Y4.le (n := 0) ⟨rfl, h4, h5⟩ (Nat.zero_le n)
theorem A4m : F8 R7 := (B29 0).ar
mutual
theorem F8.small : ∀ {t : Ty}, F8 t → t.small
 | .mk k ks, h => by
  rw [F8] at h
  rw [Ty.small]
  exact ⟨by have h1 := h.1; have h2 := h.2.1; omega, A0F.small h.2.2⟩
theorem A0F.small : ∀ {ts : List Ty}, A0F ts → Ty.smallL ts
 | [], _ => by rw [Ty.smallL]; trivial
 | t :: ts, h => by
  rw [A0F] at h
  rw [Ty.smallL]
  exact ⟨h.1.small, A0F.small h.2⟩
end
theorem A5P : ∀ {n : Nat} {t : Ty}, Y4 n t → P2 t ≤ ((2 ^ (n + 1) - 2 : Nat) : Int)
 | 0, .mk k ks, h => by
  obtain ⟨rfl, h1, h2⟩ := h
  rw [P2, Q2]; simp
 | n + 1, .mk k ks, h => by
  obtain ⟨h1, h2, h3⟩ := h
  have hp : 2 ≤ 2 ^ (n + 1) := by
   have := Nat.pow_le_pow_right (n := 2) (by omega) (show 1 ≤ n + 1 by omega)
   simpa using this
  have e : 2 ^ (n + 1 + 1) = 2 ^ (n + 1) * 2 := Nat.pow_succ ..
  have hl : ks.length = 0 ∨ ks.length = 2 := by omega
  rw [P2]
  match ks, hl, h3 with
  | [], _, _ => rw [Q2]; simp
  | [a, b], _, h3 =>
   have := A5P (h3 a (by simp))
   have := A5P (h3 b (by simp))
   simp only [Q2, List.length_cons, List.length_nil]; omega
end Gw
end Go.Proofs.YtebfignffjhnhaaGreatDoor
