/-
  The scans of types: typeScan, TypeValid, consistent, Consistent.
-/
import Derived.Test.YtmceanphadildaaGreatDoorKc1
set_option linter.unusedVariables false
set_option linter.unusedSimpArgs false
set_option linter.ambiguousOpen false
set_option maxHeartbeats 0
set_option maxRecDepth 100000
set_option synthInstance.maxSize 4000
set_option synthInstance.maxHeartbeats 0
namespace Go.Proofs.YtmceanphadildaaGreatDoor
open Go Go.RowKit Tryz Go.Proofs.Tryz
namespace Gw
variable {p : Prop}
theorem y1 (h : p := by
  refine I6 (outs := [.blk bc [.int .i64 _]]) (rT rfl) (A1.cons zB0 A1.nil) ?_
  (rw [A5A (by rw [hR]; first | omega | exact Or.inr (Or.inr (Or.inr zL0))) ]; exact ⟨rfl, rfl, rfl⟩)
) : p := h
theorem y2 (h : p := by
  refine B5 ?_
  refine E2 false (D6 zA0 zQ) ⟨fun h => absurd h zN0, fun h => by exfalso; omega⟩
) : p := h
theorem y3 (h : p := by
  refine V0 ?_
  refine E2 true (D6 zA0 zQ) (.inr ⟨rfl, by rw [A1R zO]⟩)
) : p := h
theorem y4 (h : p := by
  refine L9 ?_
  exact ⟨rfl, zG, rfl⟩
) : p := h
theorem y5 (h : p := by
  refine B5 ?_
  refine E2 true (D6 zA0 zQ) ⟨fun _ => by omega, fun _ => rfl⟩
) : p := h
theorem y6 (h : p := by
  refine A5 ?_
  refine zf2 (fun b3 => ?_)
  refine B1 ?_
  refine sL (A3 rfl rfl (B9 zG0) zL0) rfl rfl ?_
  refine F0 rfl (hv) rfl rfl ?_
  refine B1 ?_
  exact ⟨rfl, rfl, rfl⟩
) : p := h
theorem y7 (h : p := by
  refine B5 ?_
  refine E2 false (D6 zA0 zQ) (.inl ⟨rfl, fun _ => zY, fun _ => zY, fun h => by have q := hx6.1 h; subst q; assumption, fun h => by have q := hx6.2 h; subst q; assumption⟩)
) : p := h
theorem y8 (h : p := by
  refine tT ?_
  refine zf9 ?_
  (rw [List.take_length] at hst; obtain ⟨F2, hf1, hf2⟩ := R5.fin hst hnd hle hle2 hsl2 hno2 hk; exact ⟨rfl, _, F2, rfl, hf1, hf2⟩)
) : p := h
theorem y9 (h : p := by
  refine A5v ?_
  refine E2 true (D6 zA0 zQ) (.inr ⟨rfl, zD⟩)
) : p := h
theorem y10 (h : p := by
  refine A7 ?_
  exact ⟨rfl, by simp only [Z0]; (try simp only [Int.toNat_zero] at *); (first | rw [decide_eq_true zO0] | rw [decide_eq_false zO0]), rfl⟩
) : p := h
theorem y11 (h : p := by
  refine J3 ?_
  (rw [A1R zO]; exact ⟨rfl, rfl, rfl⟩)
) : p := h
theorem y12 (h : p := by
  refine B1 ?_
  exact ⟨rfl, by rw [hi.2 ⟨a1, a2, a3, a4, fun _ => ⟨zF0, by (first | assumption | omega)⟩, by omega, by omega⟩], rfl⟩
) : p := h
theorem B5G (G : IM) (e : List Value) (d : Int) (b : Bool) (bd : Nat) (hl : e.length = 2) (hd : 0 ≤ d ∧ d ≤ 5) (h : Fn prog 118 [.agg ⟨e⟩, .int .i64 (d + 1)] [] G (I1 (.bool b) G)) :
  Fn prog 161 [.agg ⟨e⟩, .pointer (some ⟨bd, 0, none⟩)] [.blk bd [.int .i64 d]] G (S5 (.bool (!b)) [.blk bd [.int .i64 d]] G) := by
 refine C4 func161 rfl ntmps161 results161 rfl ?_
 intro w0
 refine A5 ?_
 refine zf2 (fun b3 => ?_)
 refine B1 ?_
 refine sL (A3 rfl rfl (B9 zG0) zL0) rfl rfl ?_
 refine I0 ?_
 refine zf4 ?_
 refine L4 rfl (h) rfl rfl (fun h12 => ?_) (fun h12 => ?_)
 refine B1 ?_
 refine I6 (rT rfl) (A1.cons (Pk.there Pk.here) A1.nil) ?_
 exact ⟨rfl, by simp [*], rfl⟩
 refine B1 ?_
 refine I6 (rT rfl) (A1.cons (Pk.there Pk.here) A1.nil) ?_
 exact ⟨rfl, by simp [*], rfl⟩
theorem B5H : ∀ (t : Ty) (d : Int) (G : IM) (cells : List Value), 0 ≤ d ∧ d ≤ 5 → C6 G t cells →
  Fn prog 118 [.agg ⟨cells⟩, .int .i64 d] [] G (I1 (.bool (Q9 t d)) G) := by
 refine Ty.ind fun k ks ih d G cells hd hr => ?_
 obtain ⟨p, c, es, rfl, hk, hsl, hkl⟩ := hr.open
 simp only [Ty.k, Ty.ks] at hk hsl hkl ⊢
 have hn := hsl.le
 obtain ⟨A, hA⟩ : ∃ A, ks.all (Q9 · (d + 1)) = A := ⟨_, rfl⟩
 refine C4 func118 rfl ntmps118 results118 rfl ?_
 intro w0
 have hm0 : True := trivial
 refine tS ?_
 (have hz := hm0; refine tR ?_)
 refine zf2 (fun b3 => ?_)
 (refine J0 (B4i rfl rfl rfl) rfl ?_; rintro _ ⟨b4, rfl⟩)
 refine B6 ?_
 (have hz := hm0; refine tR ?_)
 refine B1 ?_
 (have hz := hm0; refine tR ?_)
 refine B6 ?_
 (clear hm0; have hm1 : True := trivial; refine P4 (fun (x : Int) => ⟨[(5, .int .i64 x), (3, .pointer (some ⟨b4, 0, none⟩)), (2, .pointer (some ⟨b3, 0, none⟩))], [.blk b4 [.int .i64 d], .blk b3 [.int .i64 k, .slice p ks.length c]], G⟩) (fun x => x = -1 ∧ ¬(1 ≤ k ∧ k ≤ 5) ∨ x = 0 ∧ 1 ≤ k ∧ k ≤ 3 ∨ x = 2 ∧ 4 ≤ k ∧ k ≤ 5) (C2 ?_) ?_)
 refine B5 ?_
 refine zf0 (fun h24 => ?_) (fun h24 => ?_)
 refine J3 ?_
 refine E2 _ (D6 zA0 zQ) zO0
 refine A7 ?_
 refine zf0 (fun h43 => ?_) (fun h43 => ?_)
 refine J3 ?_
 refine E2 _ (D6 zA0 zQ) zO0
 refine B1 ?_
 refine zf0 (fun h61 => ?_) (fun h61 => ?_)
 refine D4 ?_
 refine E2 _ (D6 zA0 zQ) zO0
 refine B8 ?_
 refine zf0 (fun h78 => ?_) (fun h78 => ?_)
 refine J3 ?_
 refine E2 _ (D6 zA0 zQ) zO0
 refine B1 ?_
 refine zf0 (fun h96 => ?_) (fun h96 => ?_)
 refine D4 ?_
 refine E2 _ (D6 zA0 zQ) zO0
 refine A7 ?_
 refine E2 _ (D6 zA0 zQ) zO0
 (clear hm1; rintro x hx)
 refine B5 ?_
 refine sB (A1y rfl rfl) rfl rfl (fun h117 => ?_) (fun h117 => ?_)
 refine B1 ?_
 refine zf0 (fun h123 => ?_) (fun h123 => ?_)
 refine B6 ?_
 refine sQ (A8Z rfl rfl) rfl (B4D rfl (B5D _ _ _ _ _ hsl _ [] _ [.blk b4 [.int .i64 d]] (Q9 · (d + 1)) ks rfl hA (fun i e he => B5G _ _ _ _ _ (hsl.all e (List.mem_of_getElem? he)) hd (ih _ (hkl.inv he C5).1 _ _ _ zO0 (hkl.inv he C5).2))) A04 rfl rfl (fun h129 => ?_) (fun h129 => ?_))
 simp only [Bool.not_eq_true', Bool.not_eq_false'] at h129
 refine B8 ?_
 exact ⟨rfl, zH, rfl⟩
 simp only [Bool.not_eq_true', Bool.not_eq_false'] at h129
 refine B8 ?_
 exact ⟨rfl, zH, rfl⟩
 refine K7 ?_
 exact ⟨rfl, zH, rfl⟩
 refine A2G ?_
 exact ⟨rfl, zH, rfl⟩
theorem A4E (t : Ty) (G : IM) (cells : List Value) (hr : C6 G t cells) : Fn prog 64 [.agg ⟨cells⟩] [] G (I1 (.bool (H7 t)) G) := by
 have hl := hr.len
 have hv := B5H t 1 G cells zO0 hr
 refine C4 func64 rfl ntmps64 results64 rfl ?_
 intro w0
 exact y6
theorem A0y : ∀ (t t' : Ty) (G : IM) (cells cells' : List Value), C6 G t cells → C6 G t' cells' →
  Fn prog 116 [.agg ⟨cells⟩, .agg ⟨cells'⟩] [] G (I1 (.bool (K8 t t')) G) := by
 refine Ty.ind fun k ks ih t' G cells cells' hr hr' => ?_
 obtain ⟨k', ks'⟩ := t'
 obtain ⟨p, c, es, rfl, hk, hsl, hkl⟩ := hr.open
 obtain ⟨p', c', es', rfl, hk', hsl', hkl'⟩ := hr'.open
 simp only [Ty.k, Ty.ks] at hk hsl hkl hk' hsl' hkl' ⊢
 have hn := hsl.le
 have hn' := hsl'.le
 obtain ⟨A, hA⟩ : ∃ A, O0 ks ks' = A := ⟨_, rfl⟩
 have hA' : A = true ↔ ks.length = ks'.length ∧ ∀ i, i < ks.length → K8 (ks.getD i C5) (ks'.getD i C5) = true := by
  rw [← hA, A2K]
  constructor
  ·rintro ⟨h1, h2⟩
   refine ⟨h1, fun i hi => ?_⟩
   have := h2 i hi zO0
   simpa [List.getD_eq_getElem?_getD, List.getElem?_eq_getElem hi, List.getElem?_eq_getElem (show i < ks'.length by omega)] using this
  ·rintro ⟨h1, h2⟩
   refine ⟨h1, fun i hi hi' => ?_⟩
   have := h2 i hi
   simpa [List.getD_eq_getElem?_getD, List.getElem?_eq_getElem hi, List.getElem?_eq_getElem hi'] using this
 refine C4 func116 rfl ntmps116 results116 rfl ?_
 intro w0
 refine A5 ?_
 refine zf2 (fun b3 => ?_)
 refine zf2 (fun b4 => ?_)
 refine B8 ?_
 refine zf0 (fun h12 => ?_) (fun h12 => ?_)
 refine A9e ?_
 exact ⟨rfl, zB, rfl⟩
 refine B5 ?_
 refine zf0 (fun h41 => ?_) (fun h41 => ?_)
 refine A1A ?_
 exact ⟨rfl, zB, rfl⟩
 refine A7 ?_
 refine zf0 (fun h69 => ?_) (fun h69 => ?_)
 refine B1 ?_
 refine L4 rfl (A95 _ _ _ _ _ _ _ _ _ hsl hsl' _ [] [] [] (fun i => K8 (ks.getD i C5) (ks'.getD i C5)) A hA' (fun i e e' he he' => ih _ (hkl.inv he C5).1 _ _ _ _ (hkl.inv he C5).2 (hkl'.inv he' C5).2)) rfl rfl (fun h75 => ?_) (fun h75 => ?_)
 refine B8 ?_
 exact ⟨rfl, zB, rfl⟩
 refine B8 ?_
 exact ⟨rfl, zB, rfl⟩
 refine K7 ?_
 exact ⟨rfl, zB, rfl⟩
theorem B5I (t t' : Ty) (G : IM) (cells cells' : List Value) (hr : C6 G t cells) (hr' : C6 G t' cells') :
  Fn prog 154 [.agg ⟨cells⟩, .agg ⟨cells'⟩] [] G (I1 (.bool (A0R t t')) G) := by
 have hl := hr.len
 have hl' := hr'.len
 have hv := A4E t G cells hr
 have hv' := A4E t' G cells' hr'
 have hc := A0y t t' G cells cells' hr hr'
 refine C4 func154 rfl ntmps154 results154 rfl ?_
 intro w0
 refine A5 ?_
 refine zf2 (fun b3 => ?_)
 refine zf2 (fun b4 => ?_)
 refine B1 ?_
 refine sL (A3 rfl rfl (B9 zG0) zL0) rfl rfl ?_
 refine L4 rfl (hv) rfl rfl (fun h11 => ?_) (fun h11 => ?_)
 refine I0 ?_
 refine sL (A3 rfl rfl (B9 zG0) zL0) rfl rfl ?_
 refine L4 rfl (hv') rfl rfl (fun h14 => ?_) (fun h14 => ?_)
 refine A5 ?_
 refine sL (A3 rfl rfl (B9 zG0) zL0) rfl rfl ?_
 refine sL (A3 rfl rfl (B9 zG0) zL0) rfl rfl ?_
 refine L4 rfl (hc) rfl rfl (fun h19 => ?_) (fun h19 => ?_)
 refine A7 ?_
 exact ⟨rfl, by simp only [A0R]; simp only [*, Bool.true_and, Bool.false_and, Bool.and_true], rfl⟩
 refine A7 ?_
 exact ⟨rfl, by simp only [A0R]; simp only [*, Bool.true_and, Bool.false_and, Bool.and_true], rfl⟩
 refine J3 ?_
 exact ⟨rfl, by simp only [A0R]; simp only [*, Bool.true_and, Bool.false_and, Bool.and_true], rfl⟩
 refine K5 ?_
 exact ⟨rfl, by simp only [A0R]; simp only [*, Bool.true_and, Bool.false_and, Bool.and_true], rfl⟩
theorem B5J (k : Int) (G : IM) (hk : F8 k) : Fn prog 151 [.int .i64 k] [] G (I1 (.int .i64 (E4 k)) G) := by
 unfold F8 at hk
 refine C4 func151 rfl ntmps151 results151 rfl ?_
 intro w0
 refine E1 ?_
 refine L4 rfl (A3S _ _ _ _) rfl rfl (fun h10 => ?_) (fun h10 => ?_)
 refine D4 ?_
 refine zf7 (fun b19 => ?_)
 refine I0 ?_
 (have hkk : 1 ≤ k ∧ k ≤ 14 := A2J zL0; refine sP (N7 rfl rfl zO0 zO0) rfl rfl ?_)
 refine sP (A8Y rfl rfl rfl zO0 zO0) rfl rfl ?_
 refine sL (A0t rfl rfl (A80 zG0 (B4P (by rw [Nat.zero_add, Nat.mul_one]; exact B4O hkk)))) rfl rfl ?_
 refine B1 ?_
 exact ⟨rfl, rfl, rfl⟩
 refine P3 ?_
 exact ⟨rfl, by rw [A5z (A67 zL0)], rfl⟩
theorem B5K (k : Int) (nm : ByteArray) (num : Int) (ty fr : Ty) (lb : Int) (ks : List Tm) (G : IM) (cells : List Value) (hr : B7 G (.mk k nm num ty fr lb ks) cells) :
  Fn prog 108 [.agg ⟨cells⟩] [] G (I1 (.bool (X0 k nm num ty fr lb ks.length)) G) := by
 obtain ⟨tk, tks⟩ := ty
 obtain ⟨fk, fks⟩ := fr
 obtain ⟨pt, ct, pf, cf, p, c, es, rfl, hk, hnum, hlb, hty, hfr, hsl, hkl⟩ := hr.open9
 have hi := @W0 k nm num (.mk tk tks) (.mk fk fks) lb ks.length
 obtain ⟨R, hR⟩ : ∃ R, X0 k nm num (.mk tk tks) (.mk fk fks) lb ks.length = R := ⟨_, rfl⟩
 rw [hR] at hi ⊢
 clear hR hr
 have o1 := B5J k G hk
 have o2 := B5F nm G
 have o3 := A4E _ G _ hty
 have o4 := A96 _ G _ hty
 have o5 := B5I _ _ G _ _ hfr hty
 have o6 := B5E lb G
 have o7 := A96 _ G _ hfr
 refine C4 func108 rfl ntmps108 results108 rfl ?_
 intro w0
 have hm0 : True := trivial
 refine A5 ?_
 refine zf2 (fun b3 => ?_)
 refine B1 ?_
 refine zf6 ?_
 refine xx5 0 1 3 4 5 ?_
 refine A2 2 ?_
 refine M9 rfl rfl (o1) rfl rfl rfl ?_
 refine A0r (i := 6) (l' := [tt,tt,tt,tt,tt,tt,tt]) rfl C7 (R7 rfl rfl) rfl zM0 rfl rfl (fun h17 => ?_) (fun h17 => ?_)
 refine J3 ?_
 exact ⟨rfl, zA, rfl⟩
 refine A7 ?_
 (clear hm0; have hops : E4 k = (ks.length : Int) := zO0; have hm1 : True := trivial; refine P4 (fun (x : Bool) => ⟨[(3, .bool x), (2, .bool false), (1, .pointer (some ⟨b3, 0, none⟩))], [.blk b3 [.int .i64 k, .string nm, .int .i64 num, .int .i64 tk, .slice pt tks.length ct, .int .i64 fk, .slice pf fks.length cf, .int .i64 lb, .slice p ks.length c]], G⟩) (fun x => x = true ↔ (k = 1 ∨ k = 5)) ?_ ?_)
 refine B5 ?_
 refine zf0 (fun h40 => ?_) (fun h40 => ?_)
 refine B8 ?_
 refine E2 true (D6 zA0 zQ) ⟨fun _ => by omega, fun _ => rfl⟩
 refine B5 ?_
 refine zf0 (fun h52 => ?_) (fun h52 => ?_)
 exact y5
 exact y2
 (clear hm1; rintro x3 hx3; have hm2 : True := trivial)
 refine tS ?_
 (clear hm2; have hm3 : True := trivial; refine P4 (fun (x : Bool) => ⟨[(4, .bool x), (3, .bool x3), (2, .bool false), (1, .pointer (some ⟨b3, 0, none⟩))], [.blk b3 [.int .i64 k, .string nm, .int .i64 num, .int .i64 tk, .slice pt tks.length ct, .int .i64 fk, .slice pf fks.length cf, .int .i64 lb, .slice p ks.length c]], G⟩) (fun x => x = true ↔ (k = 5 ∨ k = 13 ∨ k = 14)) ?_ ?_)
 refine B5 ?_
 refine zf0 (fun h67 => ?_) (fun h67 => ?_)
 refine P3 ?_
 refine E2 true (D6 zA0 zQ) ⟨fun _ => by omega, fun _ => rfl⟩
 refine B5 ?_
 refine zf0 (fun h84 => ?_) (fun h84 => ?_)
 refine D4 ?_
 refine E2 true (D6 zA0 zQ) ⟨fun _ => by omega, fun _ => rfl⟩
 refine B6 ?_
 refine zf0 (fun h98 => ?_) (fun h98 => ?_)
 exact y5
 exact y2
 (clear hm3; rintro x4 hx4; have hm4 : True := trivial)
 refine tS ?_
 (clear hm4; have hm5 : True := trivial; refine P4 (fun (x : Bool) => ⟨[(5, .bool x), (4, .bool x4), (3, .bool x3), (2, .bool false), (1, .pointer (some ⟨b3, 0, none⟩))], [.blk b3 [.int .i64 k, .string nm, .int .i64 num, .int .i64 tk, .slice pt tks.length ct, .int .i64 fk, .slice pf fks.length cf, .int .i64 lb, .slice p ks.length c]], G⟩) (fun x => x = true ↔ k = 14) ?_ ?_)
 refine B5 ?_
 refine zf0 (fun h113 => ?_) (fun h113 => ?_)
 refine A5 ?_
 refine E2 true (D6 zA0 zQ) ⟨fun _ => by omega, fun _ => rfl⟩
 refine A5 ?_
 refine E2 false (D6 zA0 zQ) ⟨fun h => absurd h zN0, fun h => by exfalso; omega⟩
 (clear hm5; rintro x5 hx5; have hm6 : True := trivial)
 refine tS ?_
 (clear hm6; have hm7 : True := trivial; refine tR ?_)
 refine B5 ?_
 (clear hm7; have hm8 : True := trivial; refine tS ?_; refine P4 (fun (x : Int) => ⟨[(6, .int .i64 x), (5, .bool x5), (4, .bool x4), (3, .bool x3), (2, .bool false), (1, .pointer (some ⟨b3, 0, none⟩))], [.blk b3 [.int .i64 k, .string nm, .int .i64 num, .int .i64 tk, .slice pt tks.length ct, .int .i64 fk, .slice pf fks.length cf, .int .i64 lb, .slice p ks.length c]], G⟩) (fun x => (k = 2 → x = 999) ∧ (k ≠ 2 → x = 0)) ?_ ?_)
 refine B6 ?_
 refine zf0 (fun h131 => ?_) (fun h131 => ?_)
 refine A7 ?_
 refine E2 999 (D6 zA0 zQ) ⟨fun _ => rfl, fun h => by omega⟩
 refine B6 ?_
 refine E2 0 (D6 zA0 zQ) ⟨fun h => by omega, fun _ => rfl⟩
 (clear hm8; rintro x6 hx6; have hm9 : True := trivial)
 refine tS ?_
 (clear hm9; have hm10 : True := trivial; refine C2 ?_)
 (clear hm10; have hm11 : True := trivial; refine tS ?_; refine P4 (fun (x : Bool) => ⟨[(41, .bool x), (6, .int .i64 x6), (5, .bool x5), (4, .bool x4), (3, .bool x3), (2, .bool false), (1, .pointer (some ⟨b3, 0, none⟩))], [.blk b3 [.int .i64 k, .string nm, .int .i64 num, .int .i64 tk, .slice pt tks.length ct, .int .i64 fk, .slice pf fks.length cf, .int .i64 lb, .slice p ks.length c]], G⟩) (fun x => (x = false ∧ (k = 1 ∨ k = 5 → Z0 nm = true) ∧ (¬(k = 1 ∨ k = 5) → nm = ⟨#[]⟩) ∧ (k = 2 → Q5 num 0 999 = true) ∧ (k ≠ 2 → Q5 num 0 0 = true)) ∨ (x = true ∧ R = false)) ?_ ?_; rcases A2O hx3 with ⟨rfl, hp⟩ | ⟨rfl, hp⟩)
 refine A7 ?_
 refine L4 rfl (o2) rfl rfl (fun h154 => ?_) (fun h154 => ?_)
 refine A2I ?_
 refine L4 rfl (A3S _ _ _ _) rfl rfl (fun h178 => ?_) (fun h178 => ?_)
 exact y7
 refine B5 ?_
 refine E2 true (D6 zA0 zQ) (.inr ⟨rfl, zA⟩)
 refine B8 ?_
 refine E2 true (D6 zA0 zQ) (.inr ⟨rfl, zA⟩)
 refine A1A ?_
 refine sB (A5o rfl rfl) rfl rfl (fun h215 => ?_) (fun h215 => ?_)
 refine A7 ?_
 refine E2 true (D6 zA0 zQ) (.inr ⟨rfl, zA⟩)
 refine E1 ?_
 refine L4 rfl (A3S _ _ _ _) rfl rfl (fun h232 => ?_) (fun h232 => ?_)
 exact y7
 refine B5 ?_
 refine E2 true (D6 zA0 zQ) (.inr ⟨rfl, zA⟩)
 (clear hm11; rintro x41 hx41; rcases hx41 with ⟨rfl, a1, a2, a3, a4⟩ | ⟨rfl, hR⟩; have hm12 : True := trivial)
 refine I0 ?_
 (clear hm12; have hm13 : True := trivial; refine tS ?_; refine P4 (fun (x : Bool) => ⟨[(61, .bool x), (5, .bool x5), (4, .bool x4), (2, .bool false), (1, .pointer (some ⟨b3, 0, none⟩))], [.blk b3 [.int .i64 k, .string nm, .int .i64 num, .int .i64 tk, .slice pt tks.length ct, .int .i64 fk, .slice pf fks.length cf, .int .i64 lb, .slice p ks.length c]], G⟩) (fun x => (x = false ∧ (k = 5 ∨ k = 13 ∨ k = 14 → H7 (.mk tk tks) = true) ∧ (¬(k = 5 ∨ k = 13 ∨ k = 14) → Y4 (.mk tk tks) = true)) ∨ (x = true ∧ R = false)) ?_ ?_; rcases A2O hx4 with ⟨rfl, hp⟩ | ⟨rfl, hp⟩)
 refine A7 ?_
 refine L4 rfl (o3) rfl rfl (fun h250 => ?_) (fun h250 => ?_)
 refine W8 ?_
 refine E2 false (D6 zA0 zQ) (.inl ⟨rfl, fun _ => zY, fun _ => zY⟩)
 refine B8 ?_
 refine E2 true (D6 zA0 zQ) (.inr ⟨rfl, zA⟩)
 refine A2G ?_
 refine L4 rfl (o4) rfl rfl (fun h296 => ?_) (fun h296 => ?_)
 refine B6 ?_
 refine E2 false (D6 zA0 zQ) (.inl ⟨rfl, fun _ => zY, fun _ => zY⟩)
 refine B6 ?_
 refine E2 true (D6 zA0 zQ) (.inr ⟨rfl, zA⟩)
 (clear hm13; rintro x61 hx61; rcases hx61 with ⟨rfl, a5, a6⟩ | ⟨rfl, hR⟩; have hm14 : True := trivial)
 refine I0 ?_
 (clear hm14; have hm15 : True := trivial; refine tS ?_; refine P4 (fun (x : Bool) => ⟨[(77, .bool x), (5, .bool x5), (2, .bool false), (1, .pointer (some ⟨b3, 0, none⟩))], [.blk b3 [.int .i64 k, .string nm, .int .i64 num, .int .i64 tk, .slice pt tks.length ct, .int .i64 fk, .slice pf fks.length cf, .int .i64 lb, .slice p ks.length c]], G⟩) (fun x => (x = false ∧ (k = 14 → A0R (.mk fk fks) (.mk tk tks) = true ∧ A0C lb = true) ∧ (k ≠ 14 → Y4 (.mk fk fks) = true ∧ lb = 0)) ∨ (x = true ∧ R = false)) ?_ ?_; rcases A2O hx5 with ⟨rfl, hp⟩ | ⟨rfl, hp⟩)
 refine D4 ?_
 refine L4 rfl (o5) rfl rfl (fun h318 => ?_) (fun h318 => ?_)
 refine B6 ?_
 refine L4 rfl (o6) rfl rfl (fun h323 => ?_) (fun h323 => ?_)
 refine A2I ?_
 refine E2 false (D6 zA0 zQ) (.inl ⟨rfl, fun _ => ⟨zF0, zF0⟩, fun _ => ⟨zF0, by (first | assumption | omega)⟩⟩)
 refine D4 ?_
 refine E2 true (D6 zA0 zQ) (.inr ⟨rfl, zA⟩)
 refine K7 ?_
 refine E2 true (D6 zA0 zQ) (.inr ⟨rfl, zA⟩)
 refine A64 ?_
 refine L4 rfl (o7) rfl rfl (fun h398 => ?_) (fun h398 => ?_)
 refine B6 ?_
 refine zf16 (fun h403 => ?_) (fun h403 => ?_)
 refine B6 ?_
 refine E2 true (D6 zA0 zQ) (.inr ⟨rfl, zA⟩)
 refine B6 ?_
 refine E2 false (D6 zA0 zQ) (.inl ⟨rfl, fun _ => ⟨zF0, zF0⟩, fun _ => ⟨zF0, by (first | assumption | omega)⟩⟩)
 refine E1 ?_
 refine E2 true (D6 zA0 zQ) (.inr ⟨rfl, zA⟩)
 (clear hm15; rintro x77 hx77; rcases hx77 with ⟨rfl, a7, a8⟩ | ⟨rfl, hR⟩)
 refine J3 ?_
 exact ⟨rfl, by rw [hi.2 ⟨hops, a1, a2, a3, a4, a5, a6, a7, a8⟩], rfl⟩
 refine I9 ?_
 exact ⟨rfl, by rw [hR], rfl⟩
 refine I9 ?_
 exact ⟨rfl, by rw [hR], rfl⟩
 refine I9 ?_
 exact ⟨rfl, by rw [hR], rfl⟩
theorem A97 (M D N : Int) (hM : 0 ≤ M ∧ M ≤ 1000) (hD : 0 ≤ D ∧ D ≤ 1000) (bc : Nat) : ∀ (t : Tm) (deep c : Int) (G : IM) (cells : List Value), 0 ≤ deep ∧ deep ≤ D + 1 → 0 ≤ c ∧ c ≤ M → B7 G t cells →
  Fn prog 56 [.agg ⟨cells⟩, .int .i64 deep, .int .i64 M, .int .i64 D, .int .i64 N, .pointer (some ⟨bc, 0, none⟩)] [.blk bc [.int .i64 c]] G
   (S5 (.bool (T7 M D N t deep c).1) [.blk bc [.int .i64 (T7 M D N t deep c).2]] G) := by
 refine Tm.ind fun k nm num ty fr lb ks ih deep c G cells hd hc hr => ?_
 have hno := B5K k nm num ty fr lb ks G cells hr
 obtain ⟨tk, tks⟩ := ty
 obtain ⟨fk, fks⟩ := fr
 obtain ⟨pt, ct, pf, cf, p, cp, es, rfl, hk, hnum, hlb, hty, hfr, hsl, hkl⟩ := hr.open9
 have hn := hsl.le
 obtain ⟨R, hR⟩ : ∃ R, X0 k nm num (.mk tk tks) (.mk fk fks) lb ks.length = R := ⟨_, rfl⟩
 rw [hR] at hno
 refine C4 func56 rfl ntmps56 results56 rfl ?_
 intro w0
 refine A5 ?_
 refine zf2 (fun b3 => ?_)
 refine A7 ?_
 refine sQ (A0s rfl) rfl ?_
 refine I0 ?_
 refine zf4 ?_
 refine sQ (A0s rfl) rfl ?_
 refine B8 ?_
 refine sQ (A0s rfl) rfl ?_
 refine A5 ?_
 refine zf17 (fun h24 => ?_) (fun h24 => ?_)
 refine A63 ?_
 exact y1
 refine B5 ?_
 refine zf17 (fun h56 => ?_) (fun h56 => ?_)
 refine A2H ?_
 exact y1
 refine B1 ?_
 refine zf0 (fun h86 => ?_) (fun h86 => ?_)
 refine L9 ?_
 exact y1
 refine B5 ?_
 refine L4 rfl (hno) rfl rfl (fun h108 => ?_) (fun h108 => ?_)
 refine L9 ?_
 refine C2 ?_
 (have hmk := B4Q (M := M) (D := D) (N := N) (deep := deep) (c := c) zO0 (hR.trans zL0); refine K2 (fun (x : Nat × Int) => ⟨[(44, .int .i64 x.1), (43, .int .i64 ks.length), (42, .slice p ks.length cp), (5, .pointer (some ⟨bc, 0, none⟩)), (4, .int .i64 N), (3, .int .i64 D), (2, .int .i64 M), (1, .int .i64 deep)], [.blk bc [.int .i64 x.2]], G⟩) (fun x => x.1 ≤ ks.length ∧ 0 ≤ x.2 ∧ x.2 ≤ M ∧ V3 M D N ks (deep + 1) (c + 1) = V3 M D N (ks.drop x.1) (deep + 1) x.2) (fun x => ks.length - x.1) (0, c + 1) ?_ ?_ ?_)
 (simp only [J5]; exact E3)
 exact ⟨by simp, by simp; omega, by simp; omega, by simp⟩
 (rintro ⟨i, ci⟩ ⟨hi, hc0, hc1, hst⟩; simp only [] at hi hc0 hc1 hst ⊢)
 refine A5 ?_
 refine zf8 (fun h132 => ?_) (fun h132 => ?_)
 refine B8 ?_
 refine C2 ?_
 refine A5 ?_
 (obtain ⟨b, o, e, rfl, hl, hat, hre, hgb⟩ := hsl.kidTm hkl (i := i) zO0 zO0; have hone := hre.one; have hle := A9l M D N ks[i] (deep + 1) ci hc0 hc1; refine sP (B2 rfl rfl rfl zO0) rfl rfl ?_)
 refine sL (A3 rfl rfl (hat _) hl) rfl rfl ?_
 refine zf1 (fun b145 => ?_)
 refine Y2 rfl rfl rfl zL0 zL0 rfl zC0 (by exact E0 (by symm; assumption)) ?_
 refine B6 ?_
 refine sL (A3 rfl rfl (B9 zG0) zL0) rfl rfl ?_
 refine I0 ?_
 refine zf4 ?_
 refine B6 ?_
 refine B4E rfl (ih ks[i] (List.getElem_mem _) (deep + 1) ci G e zO0 zO0 hre) (Pk.perm zB0) rfl rfl (fun h158 => ?_) (fun h158 => ?_)
 refine D4 ?_
 refine zf4 ?_
 refine A5 ?_
 refine J7 (i + 1, (T7 M D N ks[i] (deep + 1) ci).2) ?_ ?_ ?_
 (simp only [J5]; exact E3)
 exact ⟨by omega, by omega, hle.2.2 zL0, by rw [hst, B4R zO0 zL0]⟩
 (show ks.length - (i + 1) < ks.length - i; omega)
 refine K1 ?_
 refine I6 (outs := [.blk bc [.int .i64 _]]) (rT rfl) (A1.cons zB0 A1.nil) ?_
 (rw [hmk, hst, B4S zO0 zL0]; exact ⟨rfl, rfl, rfl⟩)
 refine K1 ?_
 refine I6 (outs := [.blk bc [.int .i64 _]]) (rT rfl) (A1.cons zB0 A1.nil) ?_
 (rw [hmk, hst, B4T zO0]; exact ⟨rfl, rfl, rfl⟩)
 refine P3 ?_
 exact y1
theorem A7q (t : Tm) (G : IM) (cells : List Value) (hr : B7 G t cells) : Fn prog 22 [.agg ⟨cells⟩] [] G (I1 (.bool (P7 t)) G) := by
 have hl := hr.len
 refine C4 func22 rfl ntmps22 results22 rfl ?_
 intro w0
 refine A5 ?_
 refine zf2 (fun b3 => ?_)
 refine B1 ?_
 refine zf1 (fun b9 => ?_)
 refine B1 ?_
 refine sL (A3 rfl rfl (B9 zG0) zL0) rfl rfl ?_
 refine A5u rfl (A97 200 40 13 zO0 zO0 _ t 1 0 G cells zO0 zO0 hr) A04 rfl rfl ?_
 refine B1 ?_
 exact ⟨rfl, rfl, rfl⟩
theorem B5L (t : Tm) (G : IM) (cells : List Value) (hr : B7 G t cells) : Fn prog 87 [.agg ⟨cells⟩] [] G (I1 (.bool (S6 t)) G) := by
 have hl := hr.len
 refine C4 func87 rfl ntmps87 results87 rfl ?_
 intro w0
 refine A5 ?_
 refine zf2 (fun b3 => ?_)
 refine B1 ?_
 refine zf1 (fun b9 => ?_)
 refine B1 ?_
 refine sL (A3 rfl rfl (B9 zG0) zL0) rfl rfl ?_
 refine A5u rfl (A97 30 12 14 zO0 zO0 _ t 1 0 G cells zO0 zO0 hr) A04 rfl rfl ?_
 refine B1 ?_
 exact ⟨rfl, rfl, rfl⟩
theorem A98 (k : Int) (G : IM) : Fn prog 184 [.int .i64 k] [] G (I1 (.int .i64 (V9 k)) G) := by
 refine C4 func184 rfl ntmps184 results184 rfl ?_
 intro w0
 refine J3 ?_
 refine C2 ?_
 refine B5 ?_
 refine zf0 (fun h16 => ?_) (fun h16 => ?_)
 refine L9 ?_
 exact ⟨rfl, zR, rfl⟩
 refine A7 ?_
 refine zf0 (fun h40 => ?_) (fun h40 => ?_)
 refine L9 ?_
 exact ⟨rfl, zR, rfl⟩
 refine B1 ?_
 refine zf0 (fun h63 => ?_) (fun h63 => ?_)
 refine K7 ?_
 exact ⟨rfl, zR, rfl⟩
 refine B8 ?_
 refine zf0 (fun h85 => ?_) (fun h85 => ?_)
 refine L9 ?_
 exact ⟨rfl, zR, rfl⟩
 refine B1 ?_
 refine zf0 (fun h108 => ?_) (fun h108 => ?_)
 refine K7 ?_
 exact ⟨rfl, zR, rfl⟩
 refine K5 ?_
 exact ⟨rfl, zR, rfl⟩
theorem A5O (k : Int) (G : IM) : Fn prog 109 [.int .i64 k] [] G (I1 (.int .i64 (E4 k)) G) := by
 refine C4 func109 rfl ntmps109 results109 rfl ?_
 intro w0
 refine J3 ?_
 refine C2 ?_
 refine B5 ?_
 refine zf0 (fun h16 => ?_) (fun h16 => ?_)
 exact y4
 refine A7 ?_
 refine zf0 (fun h40 => ?_) (fun h40 => ?_)
 exact y4
 refine A7 ?_
 refine zf0 (fun h64 => ?_) (fun h64 => ?_)
 exact y4
 refine B1 ?_
 refine zf0 (fun h87 => ?_) (fun h87 => ?_)
 refine K7 ?_
 exact ⟨rfl, zG, rfl⟩
 refine B8 ?_
 refine zf0 (fun h109 => ?_) (fun h109 => ?_)
 exact y4
 refine A7 ?_
 refine zf0 (fun h133 => ?_) (fun h133 => ?_)
 exact y4
 refine A7 ?_
 refine zf0 (fun h157 => ?_) (fun h157 => ?_)
 exact y4
 refine A7 ?_
 refine zf0 (fun h181 => ?_) (fun h181 => ?_)
 exact y4
 refine B1 ?_
 refine zf0 (fun h204 => ?_) (fun h204 => ?_)
 refine K7 ?_
 exact ⟨rfl, zG, rfl⟩
 refine B8 ?_
 refine zf0 (fun h226 => ?_) (fun h226 => ?_)
 exact y4
 refine A7 ?_
 refine zf0 (fun h250 => ?_) (fun h250 => ?_)
 exact y4
 refine A7 ?_
 refine zf0 (fun h274 => ?_) (fun h274 => ?_)
 exact y4
 refine B1 ?_
 refine zf0 (fun h297 => ?_) (fun h297 => ?_)
 refine K7 ?_
 exact ⟨rfl, zG, rfl⟩
 refine A7 ?_
 refine zf0 (fun h318 => ?_) (fun h318 => ?_)
 refine K7 ?_
 exact ⟨rfl, zG, rfl⟩
 refine K5 ?_
 exact ⟨rfl, zG, rfl⟩
theorem B5M (s : ByteArray) (G : IM) : Fn prog 158 [.string s] [] G (I1 (.bool (Z0 s)) G) := by
 refine C4 func158 rfl ntmps158 results158 rfl ?_
 intro w0
 refine D4 ?_
 refine sQ (A28 rfl rfl) rfl (sB (qE rfl rfl) rfl rfl (fun h10 => ?_) (fun h10 => ?_))
 refine A5 ?_
 refine sP (A5n rfl rfl rfl zO0 (A5y zO0)) rfl rfl ?_
 refine sB (A1g rfl rfl) rfl rfl (fun h14 => ?_) (fun h14 => ?_)
 refine B5 ?_
 refine sP (A5n rfl rfl rfl zO0 (A5y zO0)) rfl rfl ?_
 refine sB (A1y rfl rfl) rfl rfl (fun h19 => ?_) (fun h19 => ?_)
 exact y10
 exact y10
 refine J3 ?_
 exact ⟨rfl, by simp only [Z0]; (try simp only [Int.toNat_zero] at *); (first | rw [decide_eq_true zO0] | rw [decide_eq_false zO0]), rfl⟩
 refine K1 ?_
 exact ⟨rfl, by simp only [Z0]; (try simp only [Int.toNat_zero] at *); (first | rw [decide_eq_true zO0] | rw [decide_eq_false zO0]), rfl⟩
theorem A99 (t : Ty) (G : IM) (cells : List Value) (hr : C6 G t cells) : Fn prog 159 [.agg ⟨cells⟩] [] G (I1 (.bool (Y4 t)) G) := by
 obtain ⟨p, c, es, rfl, hk, hsl, hkl⟩ := hr.open
 refine C4 func159 rfl ntmps159 results159 rfl ?_
 intro w0
 refine A5 ?_
 refine zf2 (fun b3 => ?_)
 refine B8 ?_
 refine zf0 (fun h11 => ?_) (fun h11 => ?_)
 refine B6 ?_
 refine zf0 (fun h16 => ?_) (fun h16 => ?_)
 refine A7 ?_
 exact ⟨rfl, by simp only [Y4]; (first | rw [decide_eq_true zO0] | rw [decide_eq_false zO0]), rfl⟩
 refine A7 ?_
 exact ⟨rfl, by simp only [Y4]; (first | rw [decide_eq_true zO0] | rw [decide_eq_false zO0]), rfl⟩
 refine J3 ?_
 exact ⟨rfl, by simp only [Y4]; (first | rw [decide_eq_true zO0] | rw [decide_eq_false zO0]), rfl⟩
def A0W (n : Int) : Int := if n < -99 ∨ n > 99 then 0 else if n < 0 then -n else n
theorem B5N (n : Int) (G : IM) : Fn prog 156 [.int .i64 n] [] G (I1 (.int .i64 (A0W n)) G) := by
 refine C4 func156 rfl ntmps156 results156 rfl ?_
 intro w0
 refine E1 ?_
 refine zf8 (fun h10 => ?_) (fun h10 => ?_)
 refine K1 ?_
 exact ⟨rfl, zS, rfl⟩
 refine A5 ?_
 refine zf17 (fun h29 => ?_) (fun h29 => ?_)
 refine P3 ?_
 exact ⟨rfl, zS, rfl⟩
 refine I9 ?_
 refine zf8 (fun h53 => ?_) (fun h53 => ?_)
 refine A7 ?_
 refine sP (A3B rfl zO0 zO0) rfl rfl ?_
 refine A7 ?_
 exact ⟨rfl, zS, rfl⟩
 refine K7 ?_
 exact ⟨rfl, zS, rfl⟩
variable {n : Nat}
theorem Sl.of_blk {G : IM} {b c sz : Nat} {A C cs : List Value} (hl : cs.length = n * sz) (hc : n ≤ c) (hm : c ≤ maxLen) (hg : G b = some (A ++ (cs ++ C))) : Sl G (some ⟨b, A.length, none⟩) n c sz cs := by
 refine ⟨hl, hc, hm, .inr ⟨b, A.length, _, rfl, hg, fun j v hj => ?_⟩⟩
 have hlt : j < cs.length := (List.getElem?_eq_some_iff.1 hj).1
 rw [List.getElem?_append, if_neg zO0, List.getElem?_append, if_pos zO0, show A.length + j - A.length = j by omega]
 exact hj
def InG (G : IM) (bs : A1B) (F : List Nat) : Prop := (bs.map Prod.fst).Sublist F ∧ ∀ q ∈ bs, G q.1 = some q.2
mutual
theorem A4F : ∀ t : Ty, L3 t ≤ 4294967296 → t.small
 | .mk _ ks, h => by
  rw [L3] at h
  have := A2M ks
  simp only [Ty.small]
  exact ⟨by omega, B0a ks zO0⟩
theorem B0a : ∀ ts : List Ty, P8 ts ≤ 4294967296 → Ty.smallL ts
 | [], _ => by simp [Ty.smallL]
 | t :: ts, h => by
  rw [P8] at h
  have := A1C t
  have := A2M ts
  simp only [Ty.smallL]
  exact ⟨A4F t zO0, B0a ts zO0⟩
end
mutual
theorem B0b : ∀ t : Tm, A0I t ≤ 4294967296 → t.small
 | .mk _ nm _ ty fr _ ks, h => by
  rw [A0I] at h
  have := A5D ks
  have := A1C ty
  have := A1C fr
  simp only [Tm.small]
  exact ⟨by omega, A4F ty zO0, A4F fr zO0, by omega, B0c ks zO0⟩
theorem B0c : ∀ ts : List Tm, Z8 ts ≤ 4294967296 → Tm.smallL ts
 | [], _ => by simp [Tm.smallL]
 | t :: ts, h => by
  rw [Z8] at h
  have := A9B t
  have := A5D ts
  simp only [Tm.smallL]
  exact ⟨B0b t zO0, B0c ts zO0⟩
end
mutual
theorem A7r : ∀ t : Tm, (H9 t : Int) ≤ A0I t + 1
 | .mk _ nm _ ty fr _ ks => by
  have := B0d ks
  have := A1C ty
  have := A1C fr
  rw [A0I, H9]; omega
theorem B0d : ∀ ts : List Tm, (I3 ts : Int) ≤ ts.length + Z8 ts
 | [] => by rw [Z8, I3]; simp
 | t :: ts => by
  have := A7r t
  have := B0d ts
  rw [Z8, I3, List.length_cons]; omega
end
def R1 : Ty := .mk 1 []
def R6 : Nat → Ty → Prop
 | 0, .mk k ks => ks = [] ∧ k ≠ 4 ∧ k ≠ 5
 | n + 1, .mk k ks => (k = 4 ∨ k = 5 → ks.length = 2) ∧ (k ≠ 4 → k ≠ 5 → ks.length = 0) ∧ ∀ t ∈ ks, R6 n t
mutual
def H8 : Ty → Prop
 | .mk k ks => (k = 4 ∨ k = 5 → ks.length = 2) ∧ (k ≠ 4 → k ≠ 5 → ks.length = 0) ∧ A0m ks
def A0m : List Ty → Prop
 | [] => True
 | t :: ts => H8 t ∧ A0m ts
end
theorem A4G : ∀ {ts : List Ty}, A0m ts ↔ ∀ t ∈ ts, H8 t
 | [] => by simp [A0m]
 | t :: ts => by simp only [A0m, A4G (ts := ts), List.forall_mem_cons]
theorem R6.ar : ∀ {n : Nat} {t : Ty}, R6 n t → H8 t
 | 0, .mk k ks, h => by
  obtain ⟨rfl, h1, h2⟩ := h
  rw [H8]
  exact ⟨fun h => by omega, fun _ _ => rfl, by rw [A0m]; trivial⟩
 | n + 1, .mk k ks, h => by
  obtain ⟨h1, h2, h3⟩ := h
  rw [H8]
  exact ⟨h1, h2, A4G.2 fun t ht => (h3 t ht).ar⟩
theorem R6.up : ∀ {n : Nat} {t : Ty}, R6 n t → R6 (n + 1) t
 | 0, .mk k ks, h => by
  obtain ⟨rfl, h1, h2⟩ := h
  exact ⟨fun h => by omega, fun _ _ => rfl, by simp⟩
 | n + 1, .mk k ks, h => by
  obtain ⟨h1, h2, h3⟩ := h
  exact ⟨h1, h2, fun t ht => (h3 t ht).up⟩
theorem R6.le {m : Nat} {t : Ty} (h : R6 n t) (hm : n ≤ m) : R6 m t := by
 induction hm with
 | refl => exact h
 | step _ ih => exact ih.up
theorem B5O {d : Nat} {k : Int} {ts : List Ty} (h0 : d = 0 → k < 4) (hl : (ts.length : Int) = V9 k) (h1 : 1 ≤ k) (h5 : k ≤ 5) (ha : ∀ u ∈ ts, R6 (d - 1) u) : R6 d (.mk k ts) := by
 have hk : k = 1 ∨ k = 2 ∨ k = 3 ∨ k = 4 ∨ k = 5 := by omega
 cases d with
 | zero =>
  have hk4 := h0 rfl
  refine ⟨?_, by omega, by omega⟩
  have : V9 k = 0 := by
   rcases hk with rfl | rfl | rfl | rfl | rfl <;> first | rfl | omega
  exact List.length_eq_zero_iff.1 zO0
 | succ d =>
  refine ⟨?_, ?_, ha⟩
  ·rintro (rfl | rfl)
   ·have : V9 4 = 2 := rfl
    omega
   ·have : V9 5 = 2 := rfl
    omega
  ·intro h4 h5
   have : V9 k = 0 := by
    rcases hk with rfl | rfl | rfl | rfl | rfl <;> first | rfl | omega
   omega
theorem B0e (n : Nat) : R6 n R1 := by
 refine R6.le (n := 0) ⟨rfl, by decide, by decide⟩ (Nat.zero_le n)
theorem A3T (n : Nat) {k : Int} (h4 : k ≠ 4) (h5 : k ≠ 5) : R6 n (.mk k []) := R6.le (n := 0) ⟨rfl, h4, h5⟩ (Nat.zero_le n)
theorem A4H : H8 R1 := (B0e 0).ar
mutual
theorem H8.small : ∀ {t : Ty}, H8 t → t.small
 | .mk k ks, h => by
  rw [H8] at h
  rw [Ty.small]
  exact ⟨by have h1 := h.1; have h2 := h.2.1; omega, A0m.small h.2.2⟩
theorem A0m.small : ∀ {ts : List Ty}, A0m ts → Ty.smallL ts
 | [], _ => by rw [Ty.smallL]; trivial
 | t :: ts, h => by
  rw [A0m] at h
  rw [Ty.smallL]
  exact ⟨h.1.small, A0m.small h.2⟩
end
theorem A5P : ∀ {n : Nat} {t : Ty}, R6 n t → L3 t ≤ ((2 ^ (n + 1) - 2 : Nat) : Int)
 | 0, .mk k ks, h => by
  obtain ⟨rfl, h1, h2⟩ := h
  rw [L3, P8]; simp
 | n + 1, .mk k ks, h => by
  obtain ⟨h1, h2, h3⟩ := h
  have hp : 2 ≤ 2 ^ (n + 1) := by
   have := Nat.pow_le_pow_right (n := 2) zO0 (show 1 ≤ n + 1 by omega)
   simpa using this
  have e : 2 ^ (n + 1 + 1) = 2 ^ (n + 1) * 2 := Nat.pow_succ ..
  have hl : ks.length = 0 ∨ ks.length = 2 := by omega
  rw [L3]
  match ks, hl, h3 with
  | [], _, _ => rw [P8]; simp
  | [a, b], _, h3 =>
   have := A5P (h3 a zP0)
   have := A5P (h3 b zP0)
   simp only [P8, List.length_cons, List.length_nil]; omega
theorem B5P {k : Int} {ks us : List Ty} : ∀ {n : Nat}, R6 n (.mk k ks) → us.length = ks.length → (∀ u ∈ us, R6 (n - 1) u) → R6 n (.mk k us)
 | 0, h, hl, _ => by
  obtain ⟨rfl, h1, h2⟩ := h
  exact ⟨List.length_eq_zero_iff.1 (by simpa using hl), h1, h2⟩
 | n + 1, h, hl, hu => by
  obtain ⟨h1, h2, h3⟩ := h
  exact ⟨fun hk => by rw [hl]; exact h1 hk, fun a b => by rw [hl]; exact h2 a b, hu⟩
theorem A7s {k : Int} {ks : List Ty} {t : Ty} : ∀ {n : Nat}, R6 n (.mk k ks) → t ∈ ks → R6 (n - 1) t
 | 0, h, ht => by
  obtain ⟨rfl, h1, h2⟩ := h
  simp at ht
 | n + 1, h, ht => h.2.2 t ht
variable {d : Int}
theorem B0f {k : Int} {ks : List Ty} (h : 4 < d ∨ V9 k ≠ ks.length) : Q9 (.mk k ks) d = false := by
 rw [Q9]
 rcases h with h | h
 ·rw [decide_eq_false zO0]; rfl
 ·rw [decide_eq_false (p := V9 k = ks.length) h, Bool.and_false]; rfl
theorem B0g {k : Int} {ks : List Ty} (h : d ≤ 4) (h2 : V9 k = ks.length) : Q9 (.mk k ks) d = W9 ks (d + 1) := by
 rw [Q9, decide_eq_true h, decide_eq_true h2]; rfl
variable {i : Nat}
theorem B5Q {ks : List Ty} (hi : i < ks.length) (h : Q9 ks[i] d = false) : W9 ks d = false := by
 cases hx : W9 ks d with
 | false => rfl
 | true => rw [(A5x ks d).1 hx i hi] at h; cases h
theorem B5R : ∀ (t : Ty) (d : Int) (G : IM) (cells : List Value), 0 ≤ d ∧ d ≤ 4 → C6 G t cells →
  Fn prog 190 [.agg ⟨cells⟩, .int .i64 d] [] G (I1 (.bool (Q9 t (5 - d))) G) := by
 refine Ty.ind fun k ks ih d G cells hd hr => ?_
 obtain ⟨p, c, es, rfl, hk, hsl, hkl⟩ := hr.open
 simp only [Ty.k, Ty.ks] at hk hsl hkl ⊢
 have hn := hsl.le
 have hk1 := A98 k G
 refine C4 func190 rfl ntmps190 results190 rfl ?_
 intro w0
 refine A5 ?_
 refine zf2 (fun b3 => ?_)
 refine B1 ?_
 refine zf6 ?_
 refine xx1 0 ?_
 refine A0r (i := 1) (l' := [tt,tt,ff,ff,ff,ff,ff,ff,ff,ff,ff]) rfl C7 (J8 rfl rfl) rfl zM0 rfl rfl (fun h11 => ?_) (fun h11 => ?_)
 refine xx9 2 3 4 6 7 8 5 9 10 ?_
 refine J3 ?_
 (rw [B0f zO0]; exact ⟨rfl, rfl, rfl⟩)
 refine xx6 2 3 4 6 7 8 ?_
 refine A2 5 ?_
 refine M9 rfl rfl (hk1) rfl rfl rfl ?_
 refine A0r (i := 9) (l' := [tt,tt,tt,tt,tt,tt,tt,tt,tt,tt,ff]) rfl C7 (R7 rfl rfl) rfl zM0 rfl rfl (fun h41 => ?_) (fun h41 => ?_)
 refine xx1 10 ?_
 refine J3 ?_
 (rw [B0f zO0]; exact ⟨rfl, rfl, rfl⟩)
 refine xx1 10 ?_
 refine J3 ?_
 refine C2 ?_
 (refine K2 (fun (i : Nat) => ⟨[(5, .int .i64 i), (2, .pointer (some ⟨b3, 0, none⟩)), (1, .int .i64 d)], [.blk b3 [.int .i64 k, .slice p ks.length c]], G⟩) (fun i => i ≤ ks.length ∧ ∀ j (h : j < ks.length), j < i → Q9 ks[j] (5 - d + 1) = true) (fun i => ks.length - i) 0 ?_ ?_ ?_)
 exact E3
 exact ⟨by omega, by omega⟩
 (rintro i ⟨hi, hf⟩)
 refine B8 ?_
 refine zf8 (fun h79 => ?_) (fun h79 => ?_)
 refine A7 ?_
 refine C2 ?_
 refine B1 ?_
 (obtain ⟨b, o, p2, c2, rfl, hat, hre, hgb⟩ := hsl.kidTy hkl (i := i) zO0 zO0; refine sP (B2 rfl rfl rfl zO0) rfl rfl ?_)
 refine sL (A3 rfl rfl (hat _) rfl) rfl rfl ?_
 refine I0 ?_
 refine zf14 ?_
 (have hih := ih ks[i] (List.getElem_mem zO0) (d - 1) G _ zO0 hre; rw [show 5 - (d - 1) = 5 - d + 1 by omega] at hih; refine L4 rfl hih rfl rfl (fun h96 => ?_) (fun h96 => ?_))
 refine E1 ?_
 refine zf4 ?_
 refine A5 ?_
 refine J7 (i + 1) ?_ ?_ ?_
 exact E3
 exact ⟨by omega, fun j hj hji => by (by_cases he : j = i; (subst he; assumption); exact hf j hj zO0)⟩
 omega
 refine L9 ?_
 (rw [B0g zO0 zO0, B5Q (i := i) zO0 zL0]; exact ⟨rfl, rfl, rfl⟩)
 refine K1 ?_
 (rw [B0g zO0 zO0, (A5x ks _).2 (fun j hj => hf j hj zO0)]; exact ⟨rfl, rfl, rfl⟩)
theorem A2l (t : Ty) (G : IM) (cells : List Value) (hr : C6 G t cells) : Fn prog 157 [.agg ⟨cells⟩] [] G (I1 (.bool (H7 t)) G) := by
 have hl := hr.len
 have hv := B5R t 4 G cells zO0 hr
 refine C4 func157 rfl ntmps157 results157 rfl ?_
 intro w0
 exact y6
theorem A4I {k : Int} {ks : List Ty} (h : Q9 (.mk k ks) d = true) : V9 k = ks.length ∧ ∀ i, (hi : i < ks.length) → Q9 ks[i] (d + 1) = true := by
 rw [Q9] at h
 simp only [Bool.and_eq_true, decide_eq_true_eq] at h
 exact ⟨h.1.2, (A5x ks _).1 h.2⟩
variable {ks' : List Ty} {k' : Int}
theorem A5Q {k : Int} {ks : List Ty} (h : k = 1 ∨ k' = 1) : K8 (.mk k ks) (.mk k' ks') = true := by
 rw [T6]
 rcases h with h | h
 ·rw [decide_eq_true (p := k = 1) h]; rfl
 ·rw [decide_eq_true (p := k' = 1) h]; simp
theorem B0h {k : Int} {ks : List Ty} (h : k ≠ 1) (h' : k' ≠ 1) (hk : k ≠ k') : K8 (.mk k ks) (.mk k' ks') = false := by
 rw [T6, decide_eq_false h, decide_eq_false h', decide_eq_false hk]; rfl
theorem A5R {k : Int} {ks : List Ty} (h : k ≠ 1) (h' : k' ≠ 1) (hk : k = k') : K8 (.mk k ks) (.mk k' ks') = O0 ks ks' := by
 rw [T6, decide_eq_false h, decide_eq_false h', decide_eq_true hk]; rfl
theorem B0i {ks : List Ty} (hi : i < ks.length) (hi' : i < ks'.length) (h : K8 ks[i] ks'[i] = false) : O0 ks ks' = false := by
 cases hx : O0 ks ks' with
 | false => rfl
 | true => rw [((A2K ks ks').1 hx).2 i hi hi'] at h; cases h
theorem B5S : ∀ (t t' : Ty) (G : IM) (cells cells' : List Value) (d d' : Int), Q9 t d = true → Q9 t' d' = true → C6 G t cells → C6 G t' cells' →
  Fn prog 101 [.agg ⟨cells⟩, .agg ⟨cells'⟩] [] G (I1 (.bool (K8 t t')) G) := by
 refine Ty.ind fun k ks ih t' G cells cells' d d' hv hv' hr hr' => ?_
 obtain ⟨k', ks'⟩ := t'
 obtain ⟨p, c, es, rfl, hk, hsl, hkl⟩ := hr.open
 obtain ⟨p', c', es', rfl, hk', hsl', hkl'⟩ := hr'.open
 simp only [Ty.k, Ty.ks] at hk hsl hkl hk' hsl' hkl' ⊢
 have hn := hsl.le
 have hn' := hsl'.le
 obtain ⟨hv1, hv2⟩ := A4I hv
 obtain ⟨hv1', hv2'⟩ := A4I hv'
 have hle : k = k' → ks.length = ks'.length := by rintro rfl; omega
 refine C4 func101 rfl ntmps101 results101 rfl ?_
 intro w0
 refine A5 ?_
 refine zf2 (fun b3 => ?_)
 refine zf2 (fun b4 => ?_)
 refine D4 ?_
 refine zf0 (fun h13 => ?_) (fun h13 => ?_)
 refine L9 ?_
 (rw [A5Q zO0]; exact ⟨rfl, rfl, rfl⟩)
 refine B5 ?_
 refine zf0 (fun h34 => ?_) (fun h34 => ?_)
 refine P3 ?_
 (rw [A5Q zO0]; exact ⟨rfl, rfl, rfl⟩)
 refine K7 ?_
 refine zf16 (fun h61 => ?_) (fun h61 => ?_)
 refine J3 ?_
 (rw [B0h zO0 zO0 zO0]; exact ⟨rfl, rfl, rfl⟩)
 refine J3 ?_
 refine C2 ?_
 (have hll : ks.length = ks'.length := hle zO0; refine K2 (fun (i : Nat) => ⟨[(5, .int .i64 i), (3, .pointer (some ⟨b4, 0, none⟩)), (2, .pointer (some ⟨b3, 0, none⟩))], [.blk b3 [.int .i64 k, .slice p ks.length c], .blk b4 [.int .i64 k', .slice p' ks'.length c']], G⟩) (fun i => i ≤ ks.length ∧ ∀ j (h : j < ks.length) (h' : j < ks'.length), j < i → K8 ks[j] ks'[j] = true) (fun i => ks.length - i) 0 ?_ ?_ ?_)
 exact E3
 exact ⟨by omega, by omega⟩
 (rintro i ⟨hi, hf⟩)
 refine B8 ?_
 refine zf8 (fun h97 => ?_) (fun h97 => ?_)
 refine A7 ?_
 refine C2 ?_
 refine tS ?_
 (obtain ⟨b, o, p2, c2, rfl, hat, hre, hgb⟩ := hsl.kidTy hkl (i := i) zO0 zO0; obtain ⟨b', o', p2', c2', rfl, hat', hre', hgb'⟩ := hsl'.kidTy hkl' (i := i) zO0 zO0; refine zdd D9 rfl ?_)
 refine xx3 0 1 2 ?_
 refine aP 3 rfl (B2 rfl rfl rfl zO0) rfl ?_
 refine aL 4 rfl (A3 rfl rfl (hat _) rfl) rfl ?_
 refine xx3 5 6 7 ?_
 refine aP 8 rfl (B2 rfl rfl rfl zO0) rfl ?_
 refine aL 9 rfl (A3 rfl rfl (hat' _) rfl) rfl ?_
 refine A2 10 ?_
 refine V2 rfl rfl (ih ks[i] (List.getElem_mem zO0) ks'[i] G _ _ _ _ (hv2 i zO0) (hv2' i zO0) hre hre') rfl rfl rfl (fun h118 => ?_) (fun h118 => ?_)
 refine xx1 11 ?_
 refine D4 ?_
 refine zf4 ?_
 refine A5 ?_
 refine J7 (i + 1) ?_ ?_ ?_
 exact E3
 exact ⟨by omega, fun j hj hj' hji => by (by_cases he : j = i; (subst he; assumption); exact hf j hj hj' zO0)⟩
 omega
 refine xx1 11 ?_
 refine K1 ?_
 (rw [A5R zO0 zO0 zO0, B0i (i := i) zO0 zO0 zL0]; exact ⟨rfl, rfl, rfl⟩)
 refine K1 ?_
 (rw [A5R zO0 zO0 zO0, (A2K ks _).2 ⟨hll, fun j hj hj' => hf j hj hj' zO0⟩]; exact ⟨rfl, rfl, rfl⟩)
section blaws
variable {P : Program} {Γ : M5} {env : M8} {hp : List A9} {G : IM} {ty : TypeId}
variable {t t' : TypeId} {x y : Operand}
theorem A5S {i : L8} [hI : I4 P t i] (hd : i.desc = .bool) {r : Bool} (hx : evo env x = some (.bool r)) (hy : evo env y = some (.bool r)) :
  J6 P Γ ⟨env, hp, G⟩ (.binOp .neq t x y t') ty (.bool false) := by
 have h := A6S (P := P) (Γ := Γ) (hp := hp) (G := G) (t := t) (t' := t') (ty := ty) hd hx hy
 rwa [decide_eq_false zP0] at h
theorem B0j {i : L8} [hI : I4 P t i] (hd : i.desc = .bool) (hx : evo env x = some (.bool true)) (hy : evo env y = some (.bool false)) :
  J6 P Γ ⟨env, hp, G⟩ (.binOp .neq t x y t') ty (.bool true) := A6S hd hx hy
theorem B0k {i : L8} [hI : I4 P t i] (hd : i.desc = .bool) (hx : evo env x = some (.bool false)) (hy : evo env y = some (.bool true)) :
  J6 P Γ ⟨env, hp, G⟩ (.binOp .neq t x y t') ty (.bool true) := A6S hd hx hy
end blaws
theorem B5T (n : Int) : ((1 ≤ A0W n ∧ A0W n ≤ 99) ↔ A0C n = true) := by
 unfold A0W A0C Q5
 simp only [Bool.or_eq_true, decide_eq_true_eq]
 split
 ·omega
 ·split <;> omega
theorem B5U (k : Int) (nm : ByteArray) (num : Int) (ty fr : Ty) (lb : Int) (ks : List Tm) (G : IM) (cells : List Value) (hr : B7 G (.mk k nm num ty fr lb ks) cells) (R : Bool)
  (hi : R = true ↔ nm = ⟨#[]⟩ ∧ num = 0 ∧ (1 ≤ A0W lb ∧ A0W lb ≤ 99) ∧ H7 ty = true ∧ H7 fr = true ∧ K8 fr ty = true) :
  Fn prog 110 [.agg ⟨cells⟩] [] G (I1 (.bool R) G) := by
 obtain ⟨tk, tks⟩ := ty
 obtain ⟨fk, fks⟩ := fr
 obtain ⟨pt, ct, pf, cf, p, c, es, rfl, hk, hnum, hlb, hty, hfr, hsl, hkl⟩ := hr.open9
 clear hr
 have o3 := A2l _ G _ hty
 have o4 := A2l _ G _ hfr
 have o6 := B5N lb G
 refine C4 func110 rfl ntmps110 results110 rfl ?_
 intro w0
 refine A5 ?_
 refine zf2 (fun b3 => ?_)
 refine B8 ?_
 refine F0 rfl (o6) rfl rfl ?_
 refine B8 ?_
 refine sB (A1h rfl rfl) rfl rfl (fun h19 => ?_) (fun h19 => ?_)
 refine B5 ?_
 refine zf0 (fun h23 => ?_) (fun h23 => ?_)
 refine B5 ?_
 refine sB (A1g rfl rfl) rfl rfl (fun h27 => ?_) (fun h27 => ?_)
 refine B5 ?_
 refine sB (A1y rfl rfl) rfl rfl (fun h31 => ?_) (fun h31 => ?_)
 refine B6 ?_
 refine L4 rfl (o3) rfl rfl (fun h36 => ?_) (fun h36 => ?_)
 refine B6 ?_
 refine L4 rfl (o4) rfl rfl (fun h41 => ?_) (fun h41 => ?_)
 refine A7 ?_
 refine L4 rfl (B5S _ _ G _ _ _ _ zL0 zL0 hfr hty) rfl rfl (fun h48 => ?_) (fun h48 => ?_)
 refine A7 ?_
 exact ⟨rfl, by rw [hi.2 ⟨by (first | assumption | exact Classical.not_not.1 zL0), by omega, by omega, by assumption, by assumption, by assumption⟩], rfl⟩
 refine A7 ?_
 exact ⟨rfl, zT, rfl⟩
 refine K7 ?_
 exact ⟨rfl, zT, rfl⟩
 refine A0H ?_
 exact ⟨rfl, zT, rfl⟩
 refine A2I ?_
 exact ⟨rfl, zT, rfl⟩
 refine A64 ?_
 exact ⟨rfl, zT, rfl⟩
 refine A9f ?_
 refine I0 ?_
 exact ⟨rfl, zT, rfl⟩
 refine A9f ?_
 refine B1 ?_
 exact ⟨rfl, zT, rfl⟩
theorem B0l (k : Int) (nm : ByteArray) (num : Int) (ty fr : Ty) (lb : Int) (ks : List Tm) (G : IM) (cells : List Value) (hr : B7 G (.mk k nm num ty fr lb ks) cells) (R : Bool)
  (hi : R = true ↔ (k = 1 ∨ k = 5 → Z0 nm = true) ∧ (¬(k = 1 ∨ k = 5) → nm = ⟨#[]⟩) ∧ (k = 5 ∨ k = 13 ∨ k = 14 → H7 ty = true) ∧ (¬(k = 5 ∨ k = 13 ∨ k = 14) → Y4 ty = true) ∧ (k ≠ 14 → Y4 fr = true ∧ lb = 0) ∧ (k = 2 → 0 ≤ num ∧ num ≤ 999) ∧ (k ≠ 2 → num = 0)) :
  Fn prog 111 [.agg ⟨cells⟩] [] G (I1 (.bool R) G) := by
 have he : nm = ⟨#[]⟩ → Z0 nm = false := by rintro rfl; rfl
 obtain ⟨tk, tks⟩ := ty
 obtain ⟨fk, fks⟩ := fr
 obtain ⟨pt, ct, pf, cf, p, c, es, rfl, hk, hnum, hlb, hty, hfr, hsl, hkl⟩ := hr.open9
 clear hr
 have o2 := B5M nm G
 have o3 := A2l _ G _ hty
 have o4 := A99 _ G _ hty
 have o7 := A99 _ G _ hfr
 refine C4 func111 rfl ntmps111 results111 rfl ?_
 intro w0
 have hm0 : True := trivial
 refine A5 ?_
 refine zf2 (fun b3 => ?_)
 refine B6 ?_
 (clear hm0; have hm1 : True := trivial; refine P4 (fun (x : Bool) => ⟨[(3, .bool x), (2, .bool false), (1, .pointer (some ⟨b3, 0, none⟩))], [.blk b3 [.int .i64 k, .string nm, .int .i64 num, .int .i64 tk, .slice pt tks.length ct, .int .i64 fk, .slice pf fks.length cf, .int .i64 lb, .slice p ks.length c]], G⟩) (fun x => x = true ↔ (k = 1 ∨ k = 5)) ?_ ?_)
 refine B5 ?_
 refine zf0 (fun h12 => ?_) (fun h12 => ?_)
 refine B8 ?_
 refine E2 true (D6 zA0 zQ) ⟨fun _ => by omega, fun _ => rfl⟩
 refine B5 ?_
 refine zf0 (fun h24 => ?_) (fun h24 => ?_)
 exact y5
 exact y2
 (clear hm1; rintro x3 hx3; have hm2 : True := trivial)
 refine tS ?_
 (clear hm2; have hm3 : True := trivial; refine P4 (fun (x : Bool) => ⟨[(4, .bool x), (3, .bool x3), (2, .bool false), (1, .pointer (some ⟨b3, 0, none⟩))], [.blk b3 [.int .i64 k, .string nm, .int .i64 num, .int .i64 tk, .slice pt tks.length ct, .int .i64 fk, .slice pf fks.length cf, .int .i64 lb, .slice p ks.length c]], G⟩) (fun x => x = true ↔ (k = 5 ∨ k = 13 ∨ k = 14)) ?_ ?_)
 refine B5 ?_
 refine zf0 (fun h39 => ?_) (fun h39 => ?_)
 refine P3 ?_
 refine E2 true (D6 zA0 zQ) ⟨fun _ => by omega, fun _ => rfl⟩
 refine B5 ?_
 refine zf0 (fun h56 => ?_) (fun h56 => ?_)
 refine D4 ?_
 refine E2 true (D6 zA0 zQ) ⟨fun _ => by omega, fun _ => rfl⟩
 refine B6 ?_
 refine zf0 (fun h70 => ?_) (fun h70 => ?_)
 exact y5
 exact y2
 (clear hm3; rintro x4 hx4; have hm4 : True := trivial)
 refine A5 ?_
 focus (clear hm4; have hm5 : True := trivial; refine P4 (fun (x : Bool) => ⟨[(58, .bool x), (2, .bool false), (1, .pointer (some ⟨b3, 0, none⟩))], [.blk b3 [.int .i64 k, .string nm, .int .i64 num, .int .i64 tk, .slice pt tks.length ct, .int .i64 fk, .slice pf fks.length cf, .int .i64 lb, .slice p ks.length c]], G⟩) (fun x => (x = false ∧ (k = 1 ∨ k = 5 → Z0 nm = true) ∧ (¬(k = 1 ∨ k = 5) → nm = ⟨#[]⟩) ∧ (k = 5 ∨ k = 13 ∨ k = 14 → H7 (.mk tk tks) = true) ∧ (¬(k = 5 ∨ k = 13 ∨ k = 14) → Y4 (.mk tk tks) = true)) ∨ (x = true ∧ R = false)) ?_ ?_; rcases A2O hx3 with ⟨rfl, hp⟩ | ⟨rfl, hp⟩; rcases A2O hx4 with ⟨rfl, hq⟩ | ⟨rfl, hq⟩; rotate_left 2; rcases A2O hx4 with ⟨rfl, hq⟩ | ⟨rfl, hq⟩)
 refine B6 ?_
 refine L4 rfl (o2) rfl rfl (fun h87 => ?_) (fun h87 => ?_)
 refine sQ (B0k rfl rfl rfl) rfl ?_
 exact y9
 refine sQ (A5S rfl rfl rfl) rfl ?_
 refine A7 ?_
 refine sB (A5o rfl rfl) rfl rfl (fun h126 => ?_) (fun h126 => ?_)
 refine A2H ?_
 refine E2 true (D6 zA0 zQ) (.inr ⟨rfl, zD⟩)
 refine B8 ?_
 refine L4 rfl (o3) rfl rfl (fun h157 => ?_) (fun h157 => ?_)
 refine K5 ?_
 refine E2 false (D6 zA0 zQ) (.inl ⟨rfl, fun _ => zF0, fun _ => zY, fun _ => zF0, fun _ => zF0⟩)
 refine K5 ?_
 refine E2 true (D6 zA0 zQ) (.inr ⟨rfl, zD⟩)
 refine B6 ?_
 refine L4 rfl (o2) rfl rfl (fun h192 => ?_) (fun h192 => ?_)
 refine sQ (B0k rfl rfl rfl) rfl ?_
 exact y9
 refine sQ (A5S rfl rfl rfl) rfl ?_
 refine A7 ?_
 refine sB (A5o rfl rfl) rfl rfl (fun h231 => ?_) (fun h231 => ?_)
 refine A2H ?_
 refine E2 true (D6 zA0 zQ) (.inr ⟨rfl, zD⟩)
 refine W8 ?_
 refine L4 rfl (o4) rfl rfl (fun h272 => ?_) (fun h272 => ?_)
 refine B6 ?_
 refine E2 false (D6 zA0 zQ) (.inl ⟨rfl, fun _ => zF0, fun _ => zY, fun _ => zF0, fun _ => zF0⟩)
 refine B6 ?_
 refine E2 true (D6 zA0 zQ) (.inr ⟨rfl, zD⟩)
 (clear hm5; rintro x58 hx58; rcases hx58 with ⟨rfl, a1, a2, a3, a4⟩ | ⟨rfl, hR⟩)
 refine D4 ?_
 refine zf16 (fun h292 => ?_) (fun h292 => ?_)
 refine B5 ?_
 refine L4 rfl (o7) rfl rfl (fun h296 => ?_) (fun h296 => ?_)
 refine B6 ?_
 refine zf16 (fun h301 => ?_) (fun h301 => ?_)
 refine K7 ?_
 exact ⟨rfl, zD, rfl⟩
 refine P3 ?_
 refine zf0 (fun h328 => ?_) (fun h328 => ?_)
 refine B8 ?_
 refine sB (A1g rfl rfl) rfl rfl (fun h336 => ?_) (fun h336 => ?_)
 refine B5 ?_
 refine sB (A1y rfl rfl) rfl rfl (fun h340 => ?_) (fun h340 => ?_)
 refine B8 ?_
 exact ⟨rfl, by rw [hi.2 ⟨a1, a2, a3, a4, fun _ => ⟨zF0, by (first | assumption | omega)⟩, by omega, by omega⟩], rfl⟩
 refine B8 ?_
 exact ⟨rfl, zD, rfl⟩
 refine J3 ?_
 exact ⟨rfl, zD, rfl⟩
 refine E1 ?_
 refine zf0 (fun h378 => ?_) (fun h378 => ?_)
 exact y12
 refine B1 ?_
 exact ⟨rfl, zD, rfl⟩
 refine A0H ?_
 exact ⟨rfl, zD, rfl⟩
 refine A1i ?_
 refine zf11 ?_
 refine E1 ?_
 refine zf0 (fun h441 => ?_) (fun h441 => ?_)
 exact y12
 refine B1 ?_
 exact ⟨rfl, zD, rfl⟩
 refine E1 ?_
 exact ⟨rfl, by rw [hR], rfl⟩
 refine B6 ?_
 refine L4 rfl (o2) rfl rfl (fun h468 => ?_) (fun h468 => ?_)
 refine sQ (A5S rfl rfl rfl) rfl ?_
 refine K5 ?_
 refine L4 rfl (o3) rfl rfl (fun h484 => ?_) (fun h484 => ?_)
 refine K5 ?_
 refine E2 false (D6 zA0 zQ) (.inl ⟨rfl, fun _ => zF0, fun _ => zY, fun _ => zF0, fun _ => zF0⟩)
 refine K5 ?_
 refine E2 true (D6 zA0 zQ) (.inr ⟨rfl, zD⟩)
 refine sQ (B0j rfl rfl rfl) rfl ?_
 exact y9
 refine B6 ?_
 refine L4 rfl (o2) rfl rfl (fun h550 => ?_) (fun h550 => ?_)
 refine sQ (A5S rfl rfl rfl) rfl ?_
 refine A9e ?_
 refine L4 rfl (o4) rfl rfl (fun h576 => ?_) (fun h576 => ?_)
 refine B6 ?_
 refine E2 false (D6 zA0 zQ) (.inl ⟨rfl, fun _ => zF0, fun _ => zY, fun _ => zF0, fun _ => zF0⟩)
 refine B6 ?_
 refine E2 true (D6 zA0 zQ) (.inr ⟨rfl, zD⟩)
 refine sQ (B0j rfl rfl rfl) rfl ?_
 exact y9
mutual
def O9 (D N : Int) : Tm → Int → Bool
 | .mk k nm num ty fr lb ks, deep => decide (deep ≤ D) && decide (k ≠ N) && X0 k nm num ty fr lb ks.length && P0 D N ks (deep + 1)
def P0 (D N : Int) : List Tm → Int → Bool
 | [], _ => true
 | t :: ts, deep => O9 D N t deep && P0 D N ts deep
end
theorem A1Q (D N : Int) : ∀ (ts : List Tm) (d : Int), P0 D N ts d = true ↔ ∀ i, (h : i < ts.length) → O9 D N ts[i] d = true
 | [], d => by simp [P0]
 | t :: ts, d => by
  simp only [P0, Bool.and_eq_true, A1Q D N ts d]
  constructor
  ·rintro ⟨h1, h2⟩ i hi
   cases i with
   | zero => exact h1
   | succ i => exact h2 i (by simpa using hi)
  ·intro h
   exact ⟨h 0 zP0, fun i hi => h (i + 1) (by simpa using hi)⟩
variable {D N : Int}
theorem A1R {k : Int} {nm : ByteArray} {num : Int} {ty fr : Ty} {lb : Int} {ks : List Tm} (h : D < d ∨ k = N ∨ X0 k nm num ty fr lb ks.length = false) : O9 D N (.mk k nm num ty fr lb ks) d = false := by
 rw [O9]
 rcases h with h | h | h
 ·rw [decide_eq_false zO0]; rfl
 ·rw [decide_eq_false (p := k ≠ N) zO0, Bool.and_false]; rfl
 ·rw [h, Bool.and_false]; rfl
theorem A2P {k : Int} {nm : ByteArray} {num : Int} {ty fr : Ty} {lb : Int} {ks : List Tm} (h1 : d ≤ D) (h2 : k ≠ N) (h3 : X0 k nm num ty fr lb ks.length = true) : O9 D N (.mk k nm num ty fr lb ks) d = P0 D N ks (d + 1) := by
 rw [O9, decide_eq_true h1, decide_eq_true h2, h3]; rfl
theorem B0m {ks : List Tm} (hi : i < ks.length) (h : O9 D N ks[i] d = false) : P0 D N ks d = false := by
 cases hx : P0 D N ks d with
 | false => rfl
 | true => rw [(A1Q D N ks d).1 hx i hi] at h; cases h
theorem B5V {k : Int} {nm : ByteArray} {num : Int} {ty fr : Ty} {lb : Int} {n : Nat} (hk : k = 14) (ha : E4 k = n) : X0 k nm num ty fr lb n = true ↔ nm = ⟨#[]⟩ ∧ num = 0 ∧ (1 ≤ A0W lb ∧ A0W lb ≤ 99) ∧ H7 ty = true ∧ H7 fr = true ∧ K8 fr ty = true := by
 rw [W0, B5T]
 simp only [Q5, A0R, decide_eq_true_eq, Bool.and_eq_true]
 constructor
 ·rintro ⟨_, _, h3, _, h5, h6, _, h8, _⟩
  have h8 := h8 hk
  exact ⟨h3 zO0, by have := h5 zO0; omega, h8.2, h6 zO0, h8.1.1.1, h8.1.2⟩
 ·rintro ⟨h1, h2, h3, h4, h5, h6⟩
  exact ⟨ha, fun h => absurd h zO0, fun _ => h1, fun h => absurd h zO0, fun _ => by omega, fun _ => h4, fun h => absurd h zO0, fun _ => ⟨⟨⟨h5, h4⟩, h6⟩, h3⟩, fun h => absurd hk h⟩
theorem B0n {k : Int} {nm : ByteArray} {num : Int} {ty fr : Ty} {lb : Int} {n : Nat} (hk : k ≠ 14) (ha : E4 k = n) : X0 k nm num ty fr lb n = true ↔
  (k = 1 ∨ k = 5 → Z0 nm = true) ∧ (¬(k = 1 ∨ k = 5) → nm = ⟨#[]⟩) ∧ (k = 5 ∨ k = 13 ∨ k = 14 → H7 ty = true) ∧ (¬(k = 5 ∨ k = 13 ∨ k = 14) → Y4 ty = true) ∧ (k ≠ 14 → Y4 fr = true ∧ lb = 0) ∧ (k = 2 → 0 ≤ num ∧ num ≤ 999) ∧ (k ≠ 2 → num = 0) := by
 rw [W0]
 simp only [Q5, decide_eq_true_eq]
 constructor
 ·rintro ⟨_, h2, h3, h4, h5, h6, h7, _, h9⟩
  exact ⟨h2, h3, h6, h7, h9, h4, fun h => by have := h5 h; omega⟩
 ·rintro ⟨h2, h3, h6, h7, h9, h4, h5⟩
  exact ⟨ha, h2, h3, h4, fun h => by have := h5 h; omega, h6, h7, fun h => absurd h hk, h9⟩
theorem B5W : ∀ (t : Tm) (d : Int) (G : IM) (cells : List Value), 0 ≤ d ∧ d ≤ 40 → B7 G t cells →
  Fn prog 57 [.agg ⟨cells⟩, .int .i64 d] [] G (I1 (.bool (O9 40 13 t (41 - d))) G) := by
 refine Tm.ind fun k nm num ty fr lb ks ih d G cells hd hr => ?_
 have hr0 := hr
 have h14 := fun h : k = 14 => @B5V k nm num ty fr lb ks.length h
 have hne := fun h : k ≠ 14 => @B0n k nm num ty fr lb ks.length h
 have har := fun h : X0 k nm num ty fr lb ks.length = true => (W0.1 h).1
 obtain ⟨R, hR⟩ : ∃ R, X0 k nm num ty fr lb ks.length = R := ⟨_, rfl⟩
 rw [hR] at h14 hne har
 have hlo := B5U k nm num ty fr lb ks G cells hr0 R
 have hl2 := B0l k nm num ty fr lb ks G cells hr0 R
 have hk1 := A5O k G
 obtain ⟨tk, tks⟩ := ty
 obtain ⟨fk, fks⟩ := fr
 obtain ⟨pt, ct, pf, cf, p, c, es, rfl, hk, hnum, hlb, hty, hfr, hsl, hkl⟩ := hr.open9
 have hn := hsl.le
 clear hr hr0
 refine C4 func57 rfl ntmps57 results57 rfl ?_
 intro w0
 have hm0 : True := trivial
 refine tS ?_
 (clear hm0; have hm1 : True := trivial; refine tR ?_)
 refine zf2 (fun b3 => ?_)
 refine B1 ?_
 (clear hm1; have hm2 : True := trivial; refine P4 (fun (x : Bool) => ⟨[(41, .bool x), (2, .pointer (some ⟨b3, 0, none⟩)), (1, .int .i64 d)], [.blk b3 [.int .i64 k, .string nm, .int .i64 num, .int .i64 tk, .slice pt tks.length ct, .int .i64 fk, .slice pf fks.length cf, .int .i64 lb, .slice p ks.length c]], G⟩) (fun x => (x = false ∧ 1 ≤ d ∧ k ≠ 13 ∧ E4 k = ks.length ∧ R = true) ∨ (x = true ∧ O9 40 13 (.mk k nm num (.mk tk tks) (.mk fk fks) lb ks) (41 - d) = false)) ?_ ?_)
 refine zf6 ?_
 refine xx1 0 ?_
 refine A0r (i := 1) (l' := [tt,tt,ff,ff,ff,ff,ff,ff,ff,ff,ff,ff,ff,ff,ff,ff,ff,ff,ff,ff,ff,ff,ff,ff,ff,ff,ff,ff,ff,ff,ff,ff,ff,ff,ff,ff]) rfl C7 (J8 rfl rfl) rfl zM0 rfl rfl (fun h12 => ?_) (fun h12 => ?_)
 refine xx20 2 3 4 6 7 8 5 9 10 11 12 13 14 15 16 17 18 19 20 21 ?_
 refine xx14 22 23 24 25 26 27 28 29 30 31 32 33 34 35 ?_
 exact y3
 refine xx6 2 3 4 6 7 8 ?_
 refine A2 5 ?_
 refine M9 rfl rfl (hk1) rfl rfl rfl ?_
 refine A0r (i := 9) (l' := [tt,tt,tt,tt,tt,tt,tt,tt,tt,tt,ff,ff,ff,ff,ff,ff,ff,ff,ff,ff,ff,ff,ff,ff,ff,ff,ff,ff,ff,ff,ff,ff,ff,ff,ff,ff]) rfl C7 (R7 rfl rfl) rfl zM0 rfl rfl (fun h57 => ?_) (fun h57 => ?_)
 refine xx20 10 11 12 13 14 15 16 17 18 19 20 21 22 23 24 25 26 27 28 29 ?_
 refine xx6 30 31 32 33 34 35 ?_
 exact y3
 refine xx4 10 11 12 13 ?_
 refine A0r (i := 14) (l' := [tt,tt,tt,tt,tt,tt,tt,tt,tt,tt,tt,tt,tt,tt,tt,ff,ff,ff,ff,ff,ff,ff,ff,ff,ff,ff,ff,ff,ff,ff,ff,ff,ff,ff,ff,ff]) rfl C7 (qE rfl rfl) rfl zM0 rfl rfl (fun h90 => ?_) (fun h90 => ?_)
 refine xx20 15 16 17 18 19 20 21 22 23 24 25 26 27 28 29 30 31 32 33 34 ?_
 refine xx1 35 ?_
 exact y3
 refine xx4 15 16 17 18 ?_
 refine A0r (i := 19) (l' := [tt,tt,tt,tt,tt,tt,tt,tt,tt,tt,tt,tt,tt,tt,tt,tt,tt,tt,tt,tt,ff,ff,ff,ff,ff,ff,ff,ff,ff,ff,ff,ff,ff,ff,ff,ff]) rfl C7 (qE rfl rfl) rfl zM0 rfl rfl (fun h118 => ?_) (fun h118 => ?_)
 refine xx2 20 21 ?_
 refine A2 22 ?_
 refine V2 rfl rfl (hlo (h14 zO0 zO0)) rfl rfl rfl (fun h122 => ?_) (fun h122 => ?_)
 refine xx6 23 24 25 26 27 28 ?_
 refine aP 29 rfl (A2D rfl rfl zO0) rfl ?_
 refine xx6 30 31 32 33 34 35 ?_
 refine V0 ?_
 refine E2 false (D6 zA0 zQ) (.inl ⟨rfl, by omega, by omega, by omega, by assumption⟩)
 refine xx13 23 24 25 26 27 28 29 30 31 32 33 34 35 ?_
 exact y3
 refine xx9 20 21 22 23 24 25 26 27 28 ?_
 refine aP 29 rfl (A2c rfl rfl zO0) rfl ?_
 refine xx2 30 31 ?_
 refine A2 32 ?_
 refine V2 rfl rfl (hl2 (hne zO0 zO0)) rfl rfl rfl (fun h166 => ?_) (fun h166 => ?_)
 refine xx3 33 34 35 ?_
 refine V0 ?_
 refine E2 false (D6 zA0 zQ) (.inl ⟨rfl, by omega, by omega, by omega, by assumption⟩)
 refine xx3 33 34 35 ?_
 exact y3
 (clear hm2; rintro x hx; rcases hx with ⟨rfl, hd1, hk13, hop, hR1⟩ | ⟨rfl, hx⟩)
 refine E1 ?_
 refine C2 ?_
 (refine K2 (fun (i : Nat) => ⟨[(5, .int .i64 i), (2, .pointer (some ⟨b3, 0, none⟩)), (1, .int .i64 d)], [.blk b3 [.int .i64 k, .string nm, .int .i64 num, .int .i64 tk, .slice pt tks.length ct, .int .i64 fk, .slice pf fks.length cf, .int .i64 lb, .slice p ks.length c]], G⟩) (fun i => i ≤ ks.length ∧ ∀ j (h : j < ks.length), j < i → O9 40 13 ks[j] (41 - d + 1) = true) (fun i => ks.length - i) 0 ?_ ?_ ?_)
 exact E3
 exact ⟨by omega, by omega⟩
 (rintro i ⟨hi, hf⟩)
 refine B8 ?_
 refine zf8 (fun h199 => ?_) (fun h199 => ?_)
 refine A7 ?_
 refine C2 ?_
 refine B1 ?_
 (obtain ⟨b, o, e, rfl, hl, hat, hre, hgb⟩ := hsl.kidTm hkl (i := i) zO0 zO0; refine sP (B2 rfl rfl rfl zO0) rfl rfl ?_)
 refine sL (A3 rfl rfl (hat _) hl) rfl rfl ?_
 refine I0 ?_
 refine zf14 ?_
 (have hih := ih ks[i] (List.getElem_mem zO0) (d - 1) G _ zO0 hre; rw [show 41 - (d - 1) = 41 - d + 1 by omega] at hih; refine L4 rfl hih rfl rfl (fun h216 => ?_) (fun h216 => ?_))
 refine E1 ?_
 refine zf4 ?_
 refine A5 ?_
 refine J7 (i + 1) ?_ ?_ ?_
 exact E3
 exact ⟨by omega, fun j hj hji => by (by_cases he : j = i; (subst he; assumption); exact hf j hj zO0)⟩
 omega
 refine L9 ?_
 (rw [A2P zO0 zO0 (hR.trans zL0), B0m (i := i) zO0 zL0]; exact ⟨rfl, rfl, rfl⟩)
 refine K1 ?_
 (rw [A2P zO0 zO0 (hR.trans zL0), (A1Q 40 13 ks _).2 (fun j hj => hf j hj zO0)]; exact ⟨rfl, rfl, rfl⟩)
 refine E1 ?_
 (rw [hx]; exact ⟨rfl, rfl, rfl⟩)
def Q7 : Ty := .mk 2 []
def V4 : Ty := .mk 3 []
mutual
def N1 : Ty → Ty → Bool
 | .mk k ks, t => decide (k = t.k) && A0E ks t.ks
def A0E : List Ty → List Ty → Bool
 | [], [] => true
 | a :: xs, b :: ys => N1 a b && A0E xs ys
 | _, _ => false
end
theorem A3e (k k' : Int) (ks ks' : List Ty) : N1 (.mk k ks) (.mk k' ks') = (decide (k = k') && A0E ks ks') := by rw [N1]; rfl
mutual
theorem A0M : ∀ (a b : Ty), N1 a b = true ↔ a = b
 | .mk k ks, .mk k' ks' => by
  rw [A3e, Bool.and_eq_true, decide_eq_true_eq, B0o ks ks', Ty.mk.injEq]
theorem B0o : ∀ (xs ys : List Ty), A0E xs ys = true ↔ xs = ys
 | [], [] => by simp [A0E]
 | [], b :: ys => by simp [A0E]
 | a :: xs, [] => by simp [A0E]
 | a :: xs, b :: ys => by
  rw [A0E, Bool.and_eq_true, A0M a b, B0o xs ys, List.cons.injEq]
end
theorem A7t (a : Ty) : N1 a a = true := (A0M a a).2 rfl
theorem A4J : ∀ (xs ys : List Ty), A0E xs ys = true ↔ xs.length = ys.length ∧ ∀ i, (h : i < xs.length) → (h' : i < ys.length) → N1 xs[i] ys[i] = true
 | [], [] => by simp [A0E]
 | [], b :: ys => by simp [A0E]
 | a :: xs, [] => by simp [A0E]
 | a :: xs, b :: ys => by
  simp only [A0E, Bool.and_eq_true, A4J xs ys, List.length_cons]
  constructor
  ·rintro ⟨h1, h2, h3⟩
   refine ⟨by omega, fun i hi hi' => ?_⟩
   cases i with
   | zero => exact h1
   | succ i => exact h3 i (by simpa using hi) (by simpa using hi')
  ·rintro ⟨h1, h2⟩
   exact ⟨h2 0 zP0 zP0, by omega, fun i hi hi' => h2 (i + 1) (by simpa using hi) (by simpa using hi')⟩

abbrev Cx := List (ByteArray × Ty)
def X1 (cx : Cx) (nm : ByteArray) : Nat → Option Ty
 | 0 => none
 | n + 1 => match cx[n]? with
  | some b => if b.1 = nm then some b.2 else X1 cx nm n
  | none => X1 cx nm n
def Q0 (cx : Cx) (nm : ByteArray) : Option Ty := X1 cx nm cx.length
theorem A4K {cx : Cx} {nm x : ByteArray} {t : Ty} (h : cx[n]? = some (x, t)) (he : x = nm) : X1 cx nm (n + 1) = some t := by
 rw [X1, h]; simp only [he, if_true]
theorem A4L {cx : Cx} {nm x : ByteArray} {t : Ty} (h : cx[n]? = some (x, t)) (he : ¬x = nm) : X1 cx nm (n + 1) = X1 cx nm n := by
 rw [X1, h]; simp only [he, if_false]

mutual
def X2 : Ty → Ty → Ty
 | .mk k ks, b => if k = 1 then b else if b.k = 1 then .mk k ks else .mk k (W2 ks b.ks)
def W2 : List Ty → List Ty → List Ty
 | a :: xs, b :: ys => X2 a b :: W2 xs ys
 | _, _ => []
end
theorem A3U (k k' : Int) (ks ks' : List Ty) : X2 (.mk k ks) (.mk k' ks') = if k = 1 then .mk k' ks' else if k' = 1 then .mk k ks else .mk k (W2 ks ks') := by rw [X2]; rfl
def S7 (kind : Int) (t : Ty) : Option (Ty × Ty) :=
 if t.k = kind then some (t.ks.getD 0 C5, t.ks.getD 1 C5) else if t.k = 1 then some (R1, R1) else none
def M0 (cx : Cx) (k : Int) (nm : ByteArray) (ty : Ty) (h : List Ty) : Option (List Ty × Ty) :=
 if k = 1 then (match Q0 cx nm with | some t => some ([], t) | none => none)
 else if k = 2 then some ([], Q7)
 else if k = 3 ∨ k = 4 then some ([], V4)
 else if k = 5 then some ([], .mk 4 [ty, h.getD 0 C5])
 else if k = 6 then (match S7 4 (h.getD 0 C5) with | some (a, b) => if K8 (h.getD 1 C5) a = true then some ([.mk 4 [a, b], a], b) else none | none => none)
 else if k = 7 ∨ k = 8 then (if K8 (h.getD 0 C5) Q7 = true ∧ K8 (h.getD 1 C5) Q7 = true then some ([Q7, Q7], if k = 8 then V4 else Q7) else none)
 else if k = 9 then (if K8 (h.getD 0 C5) V4 = true ∧ K8 (h.getD 1 C5) (h.getD 2 C5) = true then some ([V4, X2 (h.getD 1 C5) (h.getD 2 C5), X2 (h.getD 1 C5) (h.getD 2 C5)], X2 (h.getD 1 C5) (h.getD 2 C5)) else none)
 else if k = 10 then some ([], .mk 5 [h.getD 0 C5, h.getD 1 C5])
 else if k = 13 then (if K8 (h.getD 0 C5) ty = true then some ([ty], ty) else none)
 else (match S7 5 (h.getD 0 C5) with | some (a, b) => some ([.mk 5 [a, b]], if k = 12 then b else a) | none => none)
def U6 (cx : Cx) (k : Int) (nm : ByteArray) (ty : Ty) (h : List Ty) : Option (List Ty × Ty) := match M0 cx k nm ty h with
 | some (w, t) => if H7 t = true then some (w, t) else none
 | none => none
def A1m : List Ty → List Ty → Bool
 | [], _ => true
 | a :: xs, b :: ys => N1 a b && A1m xs ys
 | _ :: _, [] => false
def L5 (cx : Cx) (k : Int) (nm : ByteArray) (ty : Ty) : Cx := if k = 5 then cx ++ [(nm, ty)] else cx
mutual
def I7 (cx : Cx) : Tm → Option Ty
 | .mk k nm num ty fr lb ks => match N0 (L5 cx k nm ty) ks with
  | none => none
  | some h => if k = 14 then (if N1 (h.getD 0 C5) fr = true then some ty else none)
   else match U6 cx k nm ty h with
    | none => none
    | some (w, t) => if A1m w h = true then some t else none
def N0 (cx : Cx) : List Tm → Option (List Ty)
 | [] => some []
 | t :: ts => match I7 cx t with
  | none => none
  | some u => match N0 cx ts with
   | none => none
   | some us => some (u :: us)
end
def C0u (e : Tm) : Option Ty := if P7 e = true then I7 [] e else none
theorem A3V : ∀ (t : Ty) (G : IM) (cells : List Value), t.small → C6 G t cells →
  Fn prog 28 [.agg ⟨cells⟩] [] G (M3 fun G' v => ∃ cells' F, v = .agg ⟨cells'⟩ ∧ R5 (E8 G' G) t cells' F ∧ F.Nodup) := by
 refine Ty.ind fun k ks ih G cells hts hr => ?_
 simp only [Ty.small] at hts
 obtain ⟨hsm, hks⟩ := hts
 obtain ⟨p, c, es, rfl, hk, hsl, hkl⟩ := hr.open
 simp only [Ty.k, Ty.ks] at hk hsl hkl ⊢
 have hn := hsl.le
 refine C4 func28 rfl ntmps28 results28 rfl ?_
 intro w0
 refine A5 ?_
 refine zf2 (fun b3 => ?_)
 refine zf1 (fun b4 => ?_)
 refine B8 ?_
 refine zf1 (fun b12 => ?_)
 refine P3 ?_
 refine C2 ?_
 (refine V1 25 2 ?_; refine K2 (fun (x : Nat × Option Addr × Nat × List (List Value) × List Nat × IM) => ⟨[(12, .int .i64 x.1), (11, .int .i64 ks.length), (10, .slice p ks.length c), (3, .pointer (some ⟨b12, 0, none⟩)), (2, .pointer (some ⟨b4, 0, none⟩))], [.blk b12 [.int .i64 k, .slice x.2.1 x.1 x.2.2.1], .slc x.2.1 x.2.2.1 25 2 x.1 x.2.2.2.1.flatten, .blk b4 [.int .i64 0, .slice none 0 0]], x.2.2.2.2.2⟩) (fun x => x.1 ≤ ks.length ∧ C3 G x.2.2.2.2.2 ∧ O5 (E8 x.2.2.2.2.2 G) (ks.take x.1) x.2.2.2.1 x.2.2.2.2.1 ∧ x.2.2.2.2.1.Nodup) (fun x => ks.length - x.1) (0, none, 0, [], [], G) ?_ ?_ ?_)
 (simp only [J5]; exact D6 zA0 zV)
 exact ⟨by simp, C3.refl _, by simp [O5], by simp⟩
 (rintro ⟨i, pn, cn, es', F, Gi⟩ ⟨hi, hle, hst, hnd⟩; simp only [] at hi hle hst hnd ⊢; replace hsl := hsl.mono hle; replace hkl := hkl.mono hle)
 refine A5 ?_
 refine zf8 (fun h32 => ?_) (fun h32 => ?_)
 refine B8 ?_
 refine C2 ?_
 refine A5 ?_
 (obtain ⟨b, o, p2, c2, rfl, hat, hre, hgb⟩ := hsl.kidTy hkl (i := i) zO0 zO0; refine sP (B2 rfl rfl rfl zO0) rfl rfl ?_)
 refine sL (A3 rfl rfl (hat _) rfl) rfl rfl ?_
 refine zf1 (fun b45 => ?_)
 refine B5 ?_
 refine zf6 ?_
 refine xx3 0 1 2 ?_
 refine A2 3 ?_
 (refine E6 rfl rfl (ih _ (List.getElem_mem zO0) _ _ (Ty.smallL_mem hks _ (List.getElem_mem zO0)) hre) rfl rfl rfl (fun v G1 hle1 hh => ?_); obtain ⟨cells', F', rfl, hs', hnd'⟩ := hh; obtain ⟨p3, c3, es3, rfl, _⟩ := hs'.R.open)
 refine A2 4 ?_
 refine zf3 (fun b56 => ?_)
 refine A2 5 ?_
 refine R4 rfl rfl rfl rfl rfl rfl (fun _ _ => by repeat (first | exact Sw.here | apply Sw.there)) (O4 zG0) rfl zI0 zJ0 zO0 rfl rfl (by repeat (first | exact B3.nil | apply B3.dep zM0 | apply B3.blk zM0 zB0 zG0)) (fun pn' cn' => ?_)
 refine xx1 6 ?_
 refine A2 7 ?_
 refine R8 rfl rfl rfl rfl rfl rfl rfl rfl zM0 zC0 (by rfl) ?_
 refine B6 ?_
 refine zf4 ?_
 refine A5 ?_
 refine J7 (i + 1, pn', cn', es' ++ [[.int .i64 ks[i].k, .slice p3 ks[i].ks.length c3]], F ++ F', G1) ?_ ?_ ?_
 (simp only [J5]; exact D6 zA0 zV)
 exact ⟨by omega, hle.trans hle1, O5.step hst hnd hle hle1 zO0 hs' hnd'⟩
 (show ks.length - (i + 1) < ks.length - i; omega)
 refine K1 ?_
 (refine H1 zB0 (fun G2 hle2 hsl2 hno2 => ?_); obtain rfl : i = ks.length := by omega)
 exact y8
def B5X (t : Ty) (G : IM) : IM → Value → List A9 → Prop := M3 fun G' v => ∃ cells' F, v = .agg ⟨cells'⟩ ∧ R5 (E8 G' G) t cells' F ∧ F.Nodup
def C0v (ks : List Ty) (G : IM) : IM → Value → List A9 → Prop := M3 fun G' v => ∃ p c F, v = .slice p ks.length c ∧ A9n (E8 G' G) ks p c F ∧ F.Nodup
def A7u (t : Tm) (G : IM) : IM → Value → List A9 → Prop := M3 fun G' v => ∃ cells' F, v = .agg ⟨cells'⟩ ∧ Q6 (E8 G' G) t cells' F ∧ F.Nodup
def C0w (ks : List Tm) (G : IM) : IM → Value → List A9 → Prop := M3 fun G' v => ∃ p c F, v = .slice p ks.length c ∧ A3b (E8 G' G) ks p c F ∧ F.Nodup
theorem W3 : ∀ (t : Ty) (G : IM) (cells : List Value), t.small → C6 G t cells → Fn prog 105 [.agg ⟨cells⟩] [] G (B5X t G) := by
 refine Ty.ind fun k ks ih G cells hts hr => ?_
 simp only [Ty.small] at hts
 obtain ⟨hsm, hks⟩ := hts
 obtain ⟨p, c, es, rfl, hk, hsl, hkl⟩ := hr.open
 simp only [Ty.k, Ty.ks] at hk hsl hkl ⊢
 have hn := hsl.le
 refine C4 func105 rfl ntmps105 results105 rfl ?_
 intro w0
 refine A5 ?_
 refine zf2 (fun b3 => ?_)
 refine zf1 (fun b4 => ?_)
 refine B8 ?_
 refine zf1 (fun b12 => ?_)
 refine E1 ?_
 refine C2 ?_
 (refine V1 25 2 ?_; refine K2 (fun (x : Nat × Option Addr × Nat × List (List Value) × List Nat × IM) => ⟨[(4, .int .i64 x.1), (3, .pointer (some ⟨b12, 0, none⟩)), (1, .pointer (some ⟨b3, 0, none⟩)), (2, .pointer (some ⟨b4, 0, none⟩))], [.blk b12 [.int .i64 k, .slice x.2.1 x.1 x.2.2.1], .slc x.2.1 x.2.2.1 25 2 x.1 x.2.2.2.1.flatten, .blk b4 [.int .i64 0, .slice none 0 0], .blk b3 [.int .i64 k, .slice p ks.length c]], x.2.2.2.2.2⟩) (fun x => x.1 ≤ ks.length ∧ C3 G x.2.2.2.2.2 ∧ O5 (E8 x.2.2.2.2.2 G) (ks.take x.1) x.2.2.2.1 x.2.2.2.2.1 ∧ x.2.2.2.2.1.Nodup) (fun x => ks.length - x.1) (0, none, 0, [], [], G) ?_ ?_ ?_)
 (simp only [J5]; exact E3)
 exact ⟨by simp, C3.refl _, by simp [O5], by simp⟩
 (rintro ⟨i, pn, cn, es', F, Gi⟩ ⟨hi, hle, hst, hnd⟩; simp only [] at hi hle hst hnd ⊢; replace hsl := hsl.mono hle; replace hkl := hkl.mono hle)
 refine B8 ?_
 refine zf8 (fun h34 => ?_) (fun h34 => ?_)
 refine A7 ?_
 refine C2 ?_
 (obtain ⟨b, o, p2, c2, rfl, hat, hre, hgb⟩ := hsl.kidTy hkl (i := i) zO0 zO0; refine zdd D9 rfl ?_)
 refine xx5 0 1 2 3 4 ?_
 refine aP 5 rfl (B2 rfl rfl rfl zO0) rfl ?_
 refine aL 6 rfl (A3 rfl rfl (hat _) rfl) rfl ?_
 refine A2 7 ?_
 (refine E6 rfl rfl (ih ks[i] (List.getElem_mem zO0) _ _ (Ty.smallL_mem hks _ (List.getElem_mem zO0)) hre) rfl rfl rfl (fun v G1 hle1 hh => ?_); obtain ⟨cells', F', rfl, hs', hnd'⟩ := hh; obtain ⟨p3, c3, es3, rfl, _⟩ := hs'.R.open)
 refine A2 8 ?_
 refine zf3 (fun b53 => ?_)
 refine A2 9 ?_
 refine R4 rfl rfl rfl rfl rfl rfl (fun _ _ => by repeat (first | exact Sw.here | apply Sw.there)) (O4 zG0) rfl zI0 zJ0 zO0 rfl rfl zK (fun pn' cn' => ?_)
 refine xx1 10 ?_
 refine A2 11 ?_
 refine R8 rfl rfl rfl rfl rfl rfl rfl rfl zM0 zC0 (by rfl) ?_
 refine B1 ?_
 refine zf4 ?_
 refine A5 ?_
 refine J7 (i + 1, pn', cn', es' ++ [[.int .i64 ks[i].k, .slice p3 ks[i].ks.length c3]], F ++ F', G1) ?_ ?_ ?_
 (simp only [J5]; exact E3)
 exact ⟨by omega, hle.trans hle1, O5.step hst hnd hle hle1 zO0 hs' hnd'⟩
 (show ks.length - (i + 1) < ks.length - i; omega)
 refine K5 ?_
 (refine H1 zB0 (fun G2 hle2 hsl2 hno2 => ?_); obtain rfl : i = ks.length := zO0)
 exact y8
theorem B0p : ∀ (t : Tm) (G : IM) (cells : List Value), t.small → B7 G t cells → Fn prog 59 [.agg ⟨cells⟩] [] G (A7u t G) := by
 refine Tm.ind fun k nm num ty fr lb ks ih G cells hts hr => ?_
 have hone := hr.one
 simp only [Tm.small] at hts
 obtain ⟨hnm, hty', hfr', hsm, hks⟩ := hts
 obtain ⟨tk, tks⟩ := ty
 obtain ⟨fk, fks⟩ := fr
 obtain ⟨pt, ct, pf, cf, p, c, es, rfl, hk, hnum, hlb, hty, hfr, hsl, hkl⟩ := hr.open9
 have hn := hsl.le
 have hT := W3 (.mk tk tks) G _ hty' hty
 refine C4 func59 rfl ntmps59 results59 rfl ?_
 intro w0
 refine A5 ?_
 refine zf2 (fun b3 => ?_)
 refine zf1 (fun b4 => ?_)
 refine B1 ?_
 refine zf1 (fun b10 => ?_)
 refine B8 ?_
 (refine H6 rfl hT rfl rfl (fun v G1 hle1 hh => ?_); obtain ⟨cs1, F1, rfl, hs1, hn1⟩ := hh; obtain ⟨p1, c1, rfl, _⟩ := hs1.open; have hF := W3 (.mk fk fks) G1 _ hfr' (hfr.mono hle1))
 refine D4 ?_
 (refine H6 rfl hF rfl rfl (fun v G2 hle2 hh => ?_); obtain ⟨cs2, F2, rfl, hs2, hn2⟩ := hh; obtain ⟨p2, c2, rfl, _⟩ := hs2.open; replace hsl := hsl.mono (hle1.trans hle2); replace hkl := hkl.mono (hle1.trans hle2))
 refine L9 ?_
 refine C2 ?_
 (refine V1 28 9 ?_; refine K2 (fun (x : Nat × Option Addr × Nat × List (List Value) × List Nat × IM) => ⟨[(4, .int .i64 x.1), (3, .pointer (some ⟨b10, 0, none⟩)), (1, .pointer (some ⟨b3, 0, none⟩)), (2, .pointer (some ⟨b4, 0, none⟩))], [.blk b10 [.int .i64 k, .string nm, .int .i64 num, .int .i64 tk, .slice p1 tks.length c1, .int .i64 fk, .slice p2 fks.length c2, .int .i64 lb, .slice x.2.1 x.1 x.2.2.1], .slc x.2.1 x.2.2.1 28 9 x.1 x.2.2.2.1.flatten, .blk b4 zq9, .blk b3 [.int .i64 k, .string nm, .int .i64 num, .int .i64 tk, .slice pt tks.length ct, .int .i64 fk, .slice pf fks.length cf, .int .i64 lb, .slice p ks.length c]], x.2.2.2.2.2⟩) (fun x => x.1 ≤ ks.length ∧ C3 G2 x.2.2.2.2.2 ∧ O6 (E8 x.2.2.2.2.2 G2) (ks.take x.1) x.2.2.2.1 x.2.2.2.2.1 ∧ x.2.2.2.2.1.Nodup) (fun x => ks.length - x.1) (0, none, 0, [], [], G2) ?_ ?_ ?_)
 (simp only [J5]; exact E3)
 exact ⟨by simp, C3.refl _, by simp [O6], by simp⟩
 (rintro ⟨i, pn, cn, es', F, Gi⟩ ⟨hi, hle, hst, hnd⟩; simp only [] at hi hle hst hnd ⊢; replace hsl := hsl.mono hle; replace hkl := hkl.mono hle)
 refine B8 ?_
 refine zf8 (fun h56 => ?_) (fun h56 => ?_)
 refine A7 ?_
 refine C2 ?_
 (obtain ⟨b, o, e, rfl, hl, hat, hre, hgb⟩ := hsl.kidTm hkl (i := i) zO0 zO0; have hone := hre.one; refine zdd D9 rfl ?_)
 refine xx5 0 1 2 3 4 ?_
 refine aP 5 rfl (B2 rfl rfl rfl zO0) rfl ?_
 refine aL 6 rfl (A3 rfl rfl (hat _) hl) rfl ?_
 refine A2 7 ?_
 (refine E6 rfl rfl (ih ks[i] (List.getElem_mem zO0) _ _ (Tm.smallL_mem hks _ (List.getElem_mem zO0)) hre) rfl rfl rfl (fun v G3 hle3 hh => ?_); obtain ⟨cells', F', rfl, hs', hnd'⟩ := hh; obtain ⟨qt, dt, et', qf, df, ef', q3, d3, es3, rfl, _⟩ := hs'.R.open)
 refine A2 8 ?_
 refine zf3 (fun b75 => ?_)
 refine A2 9 ?_
 refine R4 rfl rfl rfl rfl rfl rfl (fun _ _ => by repeat (first | exact Sw.here | apply Sw.there)) (O4 zG0) rfl zI0 zJ0 zO0 rfl rfl zK (fun pn' cn' => ?_)
 refine xx1 10 ?_
 refine A2 11 ?_
 refine R8 rfl rfl rfl rfl rfl rfl rfl rfl zM0 zC0 (by rfl) ?_
 refine B1 ?_
 refine zf4 ?_
 refine A5 ?_
 refine J7 (i + 1, pn', cn', es' ++ [[.int .i64 ks[i].k, .string ks[i].nm, .int .i64 ks[i].num, .int .i64 ks[i].ty.k, .slice qt ks[i].ty.ks.length dt, .int .i64 ks[i].fr.k, .slice qf ks[i].fr.ks.length df, .int .i64 ks[i].lb, .slice q3 ks[i].ks.length d3]], F ++ F', G3) ?_ ?_ ?_
 (simp only [J5]; exact E3)
 exact ⟨by omega, hle.trans hle3, O6.step hst hnd hle hle3 zO0 hs' hnd'⟩
 (show ks.length - (i + 1) < ks.length - i; omega)
 refine K5 ?_
 (refine H1 zB0 (fun G4 hle4 hsl4 hno4 => ?_); obtain rfl : i = ks.length := zO0)
 refine tT ?_
 refine zf9 ?_
 (rw [List.take_length] at hst; obtain ⟨F3, hf1, hf2⟩ := A3b.fin hst hnd hle hle4 hsl4 hno4; obtain ⟨F5, hg1, hg2⟩ := Q6.mk3 (nm := nm) hk hnum hlb hle1 hle2 (hle.trans hle4) hs1 hn1 hs2 hn2 hf1 hf2; exact ⟨rfl, _, F5, rfl, hg1, hg2⟩)
mutual
def A2Q (g : Tm → Tm) : Tm → Tm
 | .mk k nm num ty fr lb ks => g (.mk k nm num ty fr lb (A1F g ks))
def A1F (g : Tm → Tm) : List Tm → List Tm
 | [] => []
 | t :: ts => A2Q g t :: A1F g ts
end
theorem A7v (g : Tm → Tm) : ∀ ks, A1F g ks = ks.map (A2Q g)
 | [] => rfl
 | t :: ts => by rw [A1F, A7v g ts, List.map_cons]
mutual
theorem B0q : ∀ t, A2Q id t = t
 | .mk k nm num ty fr lb ks => by rw [A2Q, B0r ks]; rfl
theorem B0r : ∀ ks, A1F id ks = ks
 | [] => rfl
 | t :: ts => by rw [A1F, B0q t, B0r ts]
end
theorem Q6.mk3k {G G1 G2 G3 : IM} {k : Int} {nm : ByteArray} {num : Int} {ty fr : Ty} {lb : Int} {ks : List Tm} {tc fc : List Value} {p : Option Addr} {c : Nat} {F1 F2 F3 : List Nat} (hk : F8 k) (hnum : F8 num) (hlb : F8 lb)
  (hl1 : C3 G G1) (hl2 : C3 G1 G2) (hl3 : C3 G2 G3) (h3 : A3b (E8 G1 G) ks p c F3) (n3 : F3.Nodup) (h1 : R5 (E8 G2 G1) ty tc F1) (n1 : F1.Nodup) (h2 : R5 (E8 G3 G2) fr fc F2) (n2 : F2.Nodup) :
  ∃ F, Q6 (E8 G3 G) (.mk k nm num ty fr lb ks) ([.int .i64 k, .string nm, .int .i64 num] ++ tc ++ fc ++ [.int .i64 lb, .slice p ks.length c]) F ∧ F.Nodup := by
 obtain ⟨es, Fs, e1, e2, rfl, e4⟩ := h3
 have i3 : ∀ b ∈ K0 p ++ Fs, E8 G1 G b ≠ none := by
  intro b hb
  rcases List.mem_append.1 hb with hb | hb
  ·exact e4 b hb
  ·exact e2.inG b hb
 have a1 : C3 (E8 G1 G) (E8 G3 G) := E8.mono (hl2.trans hl3)
 have a2 : C3 (E8 G2 G1) (E8 G3 G) := fun b l h => E8.mono hl3 b l (E8.anti hl1 b l h)
 have a3 : C3 (E8 G3 G2) (E8 G3 G) := E8.anti (hl1.trans hl2)
 refine ⟨F1 ++ (F2 ++ (K0 p ++ Fs)), ?_, ?_⟩
 ·simp only [Q6]
  exact ⟨tc, fc, p, c, es, F1, F2, Fs, rfl, hk, hnum, hlb, h1.mono a2, h2.mono a3, e1.mono a1, e2.mono a1, rfl, A3J a1 e4⟩
 ·rw [List.nodup_append, List.nodup_append]
  refine ⟨n1, ⟨n2, n3, ?_⟩, ?_⟩
  ·rintro x hx y hy rfl
   exact A3c (A3J (E8.mono hl2) i3) h2.inG x hy x hx rfl
  ·rintro x hx y hy rfl
   rcases List.mem_append.1 hy with hy | hy
   ·exact A3c (A3J (E8.anti hl1) h1.inG) h2.inG x hx x hy rfl
   ·exact A3c i3 h1.inG x hy x hx rfl
mutual
def mOk (Q : Tm → Prop) (g : Tm → Tm) : Tm → Prop
 | .mk k nm num ty fr lb ks => A3f Q g ks ∧ Q (.mk k nm num ty fr lb (A1F g ks))
def A3f (Q : Tm → Prop) (g : Tm → Tm) : List Tm → Prop
 | [] => True
 | t :: ts => mOk Q g t ∧ A3f Q g ts
end
theorem B0s {Q : Tm → Prop} {g : Tm → Tm} : ∀ {ts : List Tm}, A3f Q g ts → ∀ t ∈ ts, mOk Q g t
 | [], _, t, h => by simp at h
 | t' :: ts, h, t, ht => by
  simp only [A3f] at h
  rcases List.mem_cons.1 ht with rfl | ht
  ·exact h.1
  ·exact B0s h.2 t ht
mutual
theorem B0t (g : Tm → Tm) : ∀ t, mOk (fun _ => True) g t
 | .mk k nm num ty fr lb ks => by rw [mOk]; exact ⟨B0u g ks, trivial⟩
theorem B0u (g : Tm → Tm) : ∀ ts, A3f (fun _ => True) g ts
 | [] => by rw [A3f]; trivial
 | t :: ts => by rw [A3f]; exact ⟨B0t g t, B0u g ts⟩
end
def B0v (g : Tm → Tm) (Q : Tm → Prop) (fid : FuncId) (us cs : List Value) : Prop := ∀ (t : Tm) (G0 G1 : IM) (cells : List Value) (F : List Nat), Q t → C3 G0 G1 → Q6 (E8 G1 G0) t cells F → F.Nodup →
 Fn prog fid (us ++ [.agg ⟨cells⟩] ++ cs) [] G1 (M3 fun G2 v => ∃ cells' F', v = .agg ⟨cells'⟩ ∧ Q6 (E8 G2 G0) (g t) cells' F' ∧ F'.Nodup)
theorem B5Y (g : Tm → Tm) (Q : Tm → Prop) (fid : FuncId) [C1 prog fid] (us cs : List Value) (hg : B0v g Q fid us cs) : ∀ (t : Tm) (G : IM) (cells : List Value), mOk Q g t → t.small → B7 G t cells →
  Fn prog 23 [.agg ⟨cells⟩, .func (.func fid) ⟨us⟩ ⟨cs⟩] [] G (A7u (A2Q g t) G) := by
 refine Tm.ind fun k nm num ty fr lb ks ih G cells hmo hts hr => ?_
 have hone := hr.one
 simp only [mOk] at hmo
 obtain ⟨hmoL, hQ⟩ := hmo
 simp only [Tm.small] at hts
 obtain ⟨hnm, hty', hfr', hsm, hks⟩ := hts
 obtain ⟨tk, tks⟩ := ty
 obtain ⟨fk, fks⟩ := fr
 obtain ⟨pt, ct, pf, cf, p, c, es, rfl, hk, hnum, hlb, hty, hfr, hsl, hkl⟩ := hr.open9
 have hn := hsl.le
 have hlen : (A1F g ks).length = ks.length := by rw [A7v, List.length_map]
 have hget : ∀ i (h : i < ks.length) (h' : i < (A1F g ks).length), (A1F g ks)[i] = A2Q g ks[i] := fun i h h' => by simp [A7v]
 refine C4 func23 rfl ntmps23 results23 rfl ?_
 intro w0
 refine A5 ?_
 refine zf2 (fun b3 => ?_)
 refine zf1 (fun b4 => ?_)
 refine L9 ?_
 refine C2 ?_
 (refine V1 28 9 ?_; refine K2 (fun (x : Nat × Option Addr × Nat × List (List Value) × List Nat × IM) => ⟨[(11, .int .i64 x.1), (10, .int .i64 ks.length), (9, .slice p ks.length c), (5, .slice x.2.1 x.1 x.2.2.1), (2, .pointer (some ⟨b3, 0, none⟩)), (1, .func (.func fid) ⟨us⟩ ⟨cs⟩), (4, .pointer (some ⟨b4, 0, none⟩))], [.slc x.2.1 x.2.2.1 28 9 x.1 x.2.2.2.1.flatten, .blk b4 zq9, .blk b3 [.int .i64 k, .string nm, .int .i64 num, .int .i64 tk, .slice pt tks.length ct, .int .i64 fk, .slice pf fks.length cf, .int .i64 lb, .slice p ks.length c]], x.2.2.2.2.2⟩) (fun x => x.1 ≤ ks.length ∧ C3 G x.2.2.2.2.2 ∧ O6 (E8 x.2.2.2.2.2 G) ((A1F g ks).take x.1) x.2.2.2.1 x.2.2.2.2.1 ∧ x.2.2.2.2.1.Nodup) (fun x => ks.length - x.1) (0, none, 0, [], [], G) ?_ ?_ ?_)
 (simp only [J5]; exact E3)
 exact ⟨by simp, C3.refl _, by simp [O6], by simp⟩
 (rintro ⟨i, pn, cn, es', F, Gi⟩ ⟨hi, hle, hst, hnd⟩; simp only [] at hi hle hst hnd ⊢; replace hsl := hsl.mono hle; replace hkl := hkl.mono hle)
 refine A5 ?_
 refine zf8 (fun h28 => ?_) (fun h28 => ?_)
 refine B8 ?_
 refine C2 ?_
 refine A5 ?_
 (obtain ⟨b, o, e, rfl, hl, hat, hre, hgb⟩ := hsl.kidTm hkl (i := i) zO0 zO0; have hone := hre.one; refine sP (B2 rfl rfl rfl zO0) rfl rfl ?_)
 refine sL (A3 rfl rfl (hat _) hl) rfl rfl ?_
 refine zf1 (fun b41 => ?_)
 refine sS rfl rfl rfl hl hone rfl ?_ (hu := by exact E0 hl.symm)
 refine B6 ?_
 refine sL (A3 rfl rfl (B9 zG0) zL0) rfl rfl ?_
 refine I0 ?_
 (refine H6 rfl (ih ks[i] (List.getElem_mem zO0) _ _ (B0s hmoL _ (List.getElem_mem zO0)) (Tm.smallL_mem hks _ (List.getElem_mem zO0)) hre) rfl rfl (fun v G3 hle3 hh => ?_); obtain ⟨cells', F', rfl, hs', hnd'⟩ := hh; rw [← hget i zO0 zO0] at hs'; have hlc := hs'.R.len; have hoc := hs'.R.one)
 (obtain ⟨v1, v2, v3, v4, v5, v6, v7, v8, v9, rfl⟩ : ∃ v1 v2 v3 v4 v5 v6 v7 v8 v9, cells' = [v1, v2, v3, v4, v5, v6, v7, v8, v9] := by obtain ⟨_, _, _, _, _, _, _, _, _, rfl, _⟩ := hs'.R.open; exact ⟨_, _, _, _, _, _, _, _, _, rfl⟩)
 refine zf7 (fun b51 => ?_)
 refine A2g rfl rfl rfl rfl rfl (fun _ _ => by repeat (first | exact Sw.here | apply Sw.there)) (O4 zG0) rfl (fun u hu => List.all_eq_true.1 hoc u hu) zJ0 zO0 rfl (fun pn' cn' => ?_)
 refine B1 ?_
 refine zf4 ?_
 refine A5 ?_
 refine J7 (i + 1, pn', cn', es' ++ [[v1, v2, v3, v4, v5, v6, v7, v8, v9]], F ++ F', G3) ?_ ?_ ?_
 (simp only [J5]; exact E3)
 exact ⟨by omega, hle.trans hle3, O6.step hst hnd hle hle3 zO0 hs' hnd'⟩
 (show ks.length - (i + 1) < ks.length - i; omega)
 refine I9 ?_
 (obtain rfl : i = ks.length := zO0; refine A2F zB0 (fun G2 hle2 hsl2 hno2 => ?_); rw [← hlen, List.take_length] at hst; rw [← hlen] at hsl2; obtain ⟨F3, hf1, hf2⟩ := A3b.fin hst hnd hle hle2 hsl2 hno2; have hleG := hle.trans hle2; have hT := A3V (.mk tk tks) G2 _ hty' (hty.mono hleG); refine zdd D9 rfl ?_)
 refine xx5 0 1 3 4 6 ?_
 refine A2 2 ?_
 (refine E6 rfl rfl hT rfl rfl rfl (fun v G4 hle4 hh => ?_); obtain ⟨cs1, F1, rfl, hs1, hn1⟩ := hh; obtain ⟨p1, c1, rfl, _⟩ := hs1.open; have hF := A3V (.mk fk fks) G4 _ hfr' (hfr.mono (hleG.trans hle4)))
 refine xx1 7 ?_
 refine A2 5 ?_
 (refine E6 rfl rfl hF rfl rfl rfl (fun v G5 hle5 hh => ?_); obtain ⟨cs2, F2, rfl, hs2, hn2⟩ := hh; obtain ⟨p2, c2, rfl, _⟩ := hs2.open; obtain ⟨F6, hg1, hg2⟩ := Q6.mk3k (nm := nm) hk hnum hlb hleG hle4 hle5 hf1 hf2 hs1 hn1 hs2 hn2; rw [hlen] at hg1; have hch := hg _ G G5 _ F6 hQ (hleG.trans (hle4.trans hle5)) hg1 hg2)
 refine A2 8 ?_
 refine R8 rfl rfl rfl rfl rfl rfl rfl rfl zM0 zC0 (by rfl) ?_
 refine xx1 9 ?_
 refine A2 10 ?_
 refine R8 rfl rfl rfl rfl rfl rfl rfl rfl zM0 zC0 (by rfl) ?_
 refine xx1 11 ?_
 refine A2 12 ?_
 refine R8 rfl rfl rfl rfl rfl rfl rfl rfl zM0 zC0 (by rfl) ?_
 refine A7 ?_
 (refine J0 (A6X rfl rfl hch (List.Perm.refl _) rfl) rfl ?_; rintro _ ⟨v, G7, outs, rfl, hle7, rfl, cells7, F7, rfl, hs7, hn7⟩; have hl7 := hs7.R.len; have ho7 := hs7.R.one)
 refine sS rfl rfl rfl hl7 ho7 rfl ?_ (hu := by exact E0 hl7.symm)
 refine B5 ?_
 refine K6 (rC rfl (A3 rfl rfl (B9 zG0) hl7)) ?_
 (rw [A2Q]; exact ⟨rfl, cells7, F7, rfl, hs7, hn7⟩)
theorem B5Z (G : IM) (cells : List Value) (hl : cells.length = 9) (hone : cells.all (·.oneCell') = true) : Fn prog 141 [.agg ⟨cells⟩] [] G (I1 (.agg ⟨cells⟩) G) := by
 refine C4 func141 rfl ntmps141 results141 rfl ?_
 intro w0
 refine A5 ?_
 refine zf2 (fun b3 => ?_)
 refine zf1 (fun b4 => ?_)
 refine B6 ?_
 refine sL (A3 rfl rfl (B9 zG0) zL0) rfl rfl ?_
 refine sS rfl rfl rfl hl hone rfl ?_ (hu := by exact E0 hl.symm)
 refine B5 ?_
 refine K6 (rC rfl (A3 rfl rfl (B9 zG0) hl)) ?_
 exact ⟨rfl, rfl, rfl⟩
theorem B50 : B0v id (fun _ => True) 141 [] [] := fun t G0 G1 cells F _ hle hs hn =>
 (B5Z G1 cells hs.R.len hs.R.one).mono fun G' v outs _ ⟨h1, h2, h3⟩ => ⟨h3, cells, F, h2, by rw [h1]; exact hs, hn⟩
theorem A7w (t : Tm) (G : IM) (cells : List Value) (hts : t.small) (hr : B7 G t cells) : Fn prog 89 [.agg ⟨cells⟩] [] G (A7u t G) := by
 have hl := hr.len
 have hone := hr.one
 have hM := B5Y id (fun _ => True) 141 [] [] B50 t G cells (B0t _ t) hts hr
 rw [B0q] at hM
 refine C4 func89 rfl ntmps89 results89 rfl ?_
 intro w0
 refine A5 ?_
 refine zf2 (fun b3 => ?_)
 refine zf1 (fun b4 => ?_)
 refine B6 ?_
 refine sL (A3 rfl rfl (B9 zG0) zL0) rfl rfl ?_
 (refine H6 rfl hM rfl rfl (fun v G3 hle3 hh => ?_); obtain ⟨cells', F', rfl, hs', hnd'⟩ := hh; have hl' := hs'.R.len; have ho' := hs'.R.one)
 refine sS rfl rfl rfl hl' ho' rfl ?_ (hu := by exact E0 hl'.symm)
 refine B5 ?_
 refine K6 (rC rfl (A3 rfl rfl (B9 zG0) hl')) ?_
 exact ⟨rfl, cells', F', rfl, hs', hnd'⟩
theorem B51 {k : Int} {nm : ByteArray} {num : Int} {ty fr : Ty} {lb : Int} {ks : List Tm} (h : O9 D N (.mk k nm num ty fr lb ks) d = true) : d ≤ D ∧ ∀ i, (hi : i < ks.length) → O9 D N ks[i] (d + 1) = true := by
 rw [O9] at h
 simp only [Bool.and_eq_true, decide_eq_true_eq] at h
 exact ⟨h.1.1.1, (A1Q D N ks _).1 h.2⟩
mutual
theorem A7x (M D N : Int) : ∀ (t : Tm) (deep c : Int), c ≤ M → ((T7 M D N t deep c).1 = true ↔ O9 D N t deep = true ∧ c + H9 t ≤ M)
 | .mk k nm num ty fr lb ks, deep, c, hc => by
  rw [T7, H9]
  by_cases h : c + 1 > M ∨ deep > D ∨ k = N ∨ X0 k nm num ty fr lb ks.length = false
  ·rw [if_pos h]
   constructor
   ·intro h; cases h
   ·rintro ⟨h1, h2⟩
    rcases h with h | h
    ·omega
    ·rw [A1R h] at h1; cases h1
  ·rw [if_neg h]
   have hn : X0 k nm num ty fr lb ks.length = true := by
    cases hx : X0 k nm num ty fr lb ks.length with
    | true => rfl
    | false => exact absurd (Or.inr (Or.inr (Or.inr hx))) h
   rw [A2P zO0 zO0 hn, B0w M D N ks (deep + 1) (c + 1) zO0]
   constructor
   ·rintro ⟨a, b⟩; exact ⟨a, by omega⟩
   ·rintro ⟨a, b⟩; exact ⟨a, by omega⟩
theorem B0w (M D N : Int) : ∀ (ts : List Tm) (deep c : Int), c ≤ M → ((V3 M D N ts deep c).1 = true ↔ P0 D N ts deep = true ∧ c + I3 ts ≤ M)
 | [], deep, c, hc => by simp [V3, P0, I3]; omega
 | t :: ts, deep, c, hc => by
  have h0 := A7x M D N t deep c hc
  rw [V3, P0, I3, Bool.and_eq_true]
  by_cases h : (T7 M D N t deep c).1 = true
  ·rw [if_pos h, A9u M D N t deep c h, B0w M D N ts deep _ (h0.1 h).2]
   have := h0.1 h
   constructor
   ·rintro ⟨a, b⟩; exact ⟨⟨this.1, a⟩, by omega⟩
   ·rintro ⟨⟨_, a⟩, b⟩; exact ⟨a, by omega⟩
  ·rw [if_neg h]
   constructor
   ·intro h'; cases h'
   ·rintro ⟨⟨a, _⟩, b⟩
    exact absurd (h0.2 ⟨a, by omega⟩) h
end
theorem A5T (t : Tm) : P7 t = true ↔ O9 40 13 t 1 = true ∧ H9 t ≤ 200 := by
 have := A7x 200 40 13 t 1 0 zO0
 rw [P7, this]
 constructor
 ·rintro ⟨a, b⟩; exact ⟨a, by omega⟩
 ·rintro ⟨a, b⟩; exact ⟨a, by omega⟩
theorem B0x (D N : Int) : ∀ (t : Tm) (d : Int) (G : IM) (cells : List Value), d ≤ 40 → O9 D N t (D + 1 - d) = true → H9 t ≤ 4294967296 → B7 G t cells →
  Fn prog 58 [.agg ⟨cells⟩, .int .i64 d] [] G (I1 (.int .i64 (H9 t : Int)) G) := by
 refine Tm.ind fun k nm num ty fr lb ks ih d G cells hd hv hcnt hr => ?_
 have hone := hr.one
 obtain ⟨hv1, hv2⟩ := B51 hv
 obtain ⟨tk, tks⟩ := ty
 obtain ⟨fk, fks⟩ := fr
 obtain ⟨pt, ct, pf, cf, p, c, es, rfl, hk, hnum, hlb, hty, hfr, hsl, hkl⟩ := hr.open9
 have hn := hsl.le
 clear hr
 rw [H9] at hcnt ⊢
 refine C4 func58 rfl ntmps58 results58 rfl ?_
 intro w0
 refine A5 ?_
 refine zf2 (fun b3 => ?_)
 refine K5 ?_
 refine C2 ?_
 (refine K2 (fun (i : Nat) => ⟨[(6, .int .i64 i), (5, .int .i64 ((I3 (ks.take i) + 1 : Nat) : Int)), (2, .pointer (some ⟨b3, 0, none⟩)), (1, .int .i64 d)], [.blk b3 [.int .i64 k, .string nm, .int .i64 num, .int .i64 tk, .slice pt tks.length ct, .int .i64 fk, .slice pf fks.length cf, .int .i64 lb, .slice p ks.length c]], G⟩) (fun i => i ≤ ks.length) (fun i => ks.length - i) 0 ?_ ?_ ?_)
 exact E3
 exact Nat.zero_le _
 (rintro i hi)
 refine B8 ?_
 refine zf8 (fun h30 => ?_) (fun h30 => ?_)
 refine A5 ?_
 refine sP (A3I rfl rfl zO0) rfl rfl ?_
 refine B8 ?_
 refine C2 ?_
 refine B1 ?_
 (obtain ⟨b, o, e, rfl, hl, hat, hre, hgb⟩ := hsl.kidTm hkl (i := i) zO0 zO0; have htk := A3K (ks := ks) (i := i) zO0; refine sP (B2 rfl rfl rfl zO0) rfl rfl ?_)
 refine sL (A3 rfl rfl (hat _) hl) rfl rfl ?_
 refine I0 ?_
 refine zf14 ?_
 (have hvk := hv2 i zO0; rw [show D + 1 - d + 1 = D + 1 - (d - 1) by omega] at hvk; refine F0 rfl (ih ks[i] (List.getElem_mem zO0) (d - 1) G _ zO0 hvk zO0 hre) rfl rfl ?_)
 refine zf4 ?_
 refine A7 ?_
 refine zf4 ?_
 refine A5 ?_
 (refine J7 (i + 1) ?_ ?_ ?_; rw [show ((I3 (ks.take (i + 1)) + 1 : Nat) : Int) = ((I3 (ks.take i) + 1 : Nat) : Int) + (H9 ks[i] : Int) from by rw [A3L zO0]; omega])
 exact E3
 omega
 omega
 refine A1A ?_
 (obtain rfl : i = ks.length := zO0; rw [List.take_length]; exact ⟨rfl, rfl, rfl⟩)
theorem B52 (t : Tm) (G : IM) (cells : List Value) (hcnt : H9 t ≤ 4294967296) (hr : B7 G t cells) :
  Fn prog 25 [.agg ⟨cells⟩] [] G (I1 (.bool (P7 t)) G) := by
 have hl := hr.len
 have hv := B5W t 40 G cells zO0 hr
 have hc := fun h => B0x 40 13 t 40 G cells zO0 h hcnt hr
 have hi := A5T t
 obtain ⟨R, hR⟩ : ∃ R, P7 t = R := ⟨_, rfl⟩
 rw [hR] at hi ⊢
 refine C4 func25 rfl ntmps25 results25 rfl ?_
 intro w0
 refine A5 ?_
 refine zf2 (fun b3 => ?_)
 refine B1 ?_
 refine sL (A3 rfl rfl (B9 zG0) zL0) rfl rfl ?_
 refine L4 rfl (hv) rfl rfl (fun h10 => ?_) (fun h10 => ?_)
 refine I0 ?_
 refine sL (A3 rfl rfl (B9 zG0) zL0) rfl rfl ?_
 refine F0 rfl (hc zL0) rfl rfl ?_
 refine sB (A1y rfl rfl) rfl rfl (fun h14 => ?_) (fun h14 => ?_)
 refine A7 ?_
 exact ⟨rfl, by rw [hi.2 ⟨by assumption, by omega⟩], rfl⟩
 refine A7 ?_
 exact ⟨rfl, zX, rfl⟩
 refine I9 ?_
 exact ⟨rfl, zX, rfl⟩
theorem A2R (t : Tm) : S6 t = true ↔ O9 12 14 t 1 = true ∧ H9 t ≤ 30 := by
 have := A7x 30 12 14 t 1 0 zO0
 rw [S6, this]
 constructor
 ·rintro ⟨a, b⟩; exact ⟨a, by omega⟩
 ·rintro ⟨a, b⟩; exact ⟨a, by omega⟩
theorem B53 : ∀ (t : Tm) (d : Int) (G : IM) (cells : List Value), 0 ≤ d ∧ d ≤ 12 → B7 G t cells →
  Fn prog 193 [.agg ⟨cells⟩, .int .i64 d] [] G (I1 (.bool (O9 12 14 t (13 - d))) G) := by
 refine Tm.ind fun k nm num ty fr lb ks ih d G cells hd hr => ?_
 have hr0 := hr
 have hne := fun h : k ≠ 14 => @B0n k nm num ty fr lb ks.length h
 have har := fun h : X0 k nm num ty fr lb ks.length = true => (W0.1 h).1
 obtain ⟨R, hR⟩ : ∃ R, X0 k nm num ty fr lb ks.length = R := ⟨_, rfl⟩
 rw [hR] at hne har
 have hl2 := B0l k nm num ty fr lb ks G cells hr0 R
 have hk1 := A5O k G
 obtain ⟨tk, tks⟩ := ty
 obtain ⟨fk, fks⟩ := fr
 obtain ⟨pt, ct, pf, cf, p, c, es, rfl, hk, hnum, hlb, hty, hfr, hsl, hkl⟩ := hr.open9
 have hn := hsl.le
 clear hr hr0
 refine C4 func193 rfl ntmps193 results193 rfl ?_
 intro w0
 refine A5 ?_
 refine zf2 (fun b3 => ?_)
 refine B1 ?_
 refine zf6 ?_
 refine xx1 0 ?_
 refine A0r (i := 1) (l' := [tt,tt,ff,ff,ff,ff,ff,ff,ff,ff,ff,ff,ff,ff,ff,ff,ff,ff,ff,ff,ff]) rfl C7 (J8 rfl rfl) rfl zM0 rfl rfl (fun h11 => ?_) (fun h11 => ?_)
 refine xx19 2 3 4 6 7 8 5 9 10 11 12 13 14 15 16 17 18 19 20 ?_
 exact y11
 refine xx6 2 3 4 6 7 8 ?_
 refine A2 5 ?_
 refine M9 rfl rfl (hk1) rfl rfl rfl ?_
 refine A0r (i := 9) (l' := [tt,tt,tt,tt,tt,tt,tt,tt,tt,tt,ff,ff,ff,ff,ff,ff,ff,ff,ff,ff,ff]) rfl C7 (R7 rfl rfl) rfl zM0 rfl rfl (fun h51 => ?_) (fun h51 => ?_)
 refine xx11 10 11 12 13 14 15 16 17 18 19 20 ?_
 exact y11
 refine xx4 10 11 12 13 ?_
 refine A0r (i := 14) (l' := [tt,tt,tt,tt,tt,tt,tt,tt,tt,tt,tt,tt,tt,tt,tt,ff,ff,ff,ff,ff,ff]) rfl C7 (qE rfl rfl) rfl zM0 rfl rfl (fun h79 => ?_) (fun h79 => ?_)
 refine xx6 15 16 17 18 19 20 ?_
 exact y11
 refine xx3 15 16 17 ?_
 refine A2 18 ?_
 refine V2 rfl rfl (hl2 (hne zO0 zO0)) rfl rfl rfl (fun h102 => ?_) (fun h102 => ?_)
 refine xx2 19 20 ?_
 refine J3 ?_
 refine C2 ?_
 (refine K2 (fun (i : Nat) => ⟨[(5, .int .i64 i), (2, .pointer (some ⟨b3, 0, none⟩)), (1, .int .i64 d)], [.blk b3 [.int .i64 k, .string nm, .int .i64 num, .int .i64 tk, .slice pt tks.length ct, .int .i64 fk, .slice pf fks.length cf, .int .i64 lb, .slice p ks.length c]], G⟩) (fun i => i ≤ ks.length ∧ ∀ j (h : j < ks.length), j < i → O9 12 14 ks[j] (13 - d + 1) = true) (fun i => ks.length - i) 0 ?_ ?_ ?_)
 exact E3
 exact ⟨by omega, by omega⟩
 (rintro i ⟨hi, hf⟩)
 refine B8 ?_
 refine zf8 (fun h128 => ?_) (fun h128 => ?_)
 refine A7 ?_
 refine C2 ?_
 refine B1 ?_
 (obtain ⟨b, o, e, rfl, hl, hat, hre, hgb⟩ := hsl.kidTm hkl (i := i) zO0 zO0; refine sP (B2 rfl rfl rfl zO0) rfl rfl ?_)
 refine sL (A3 rfl rfl (hat _) hl) rfl rfl ?_
 refine I0 ?_
 refine zf14 ?_
 (have hih := ih ks[i] (List.getElem_mem zO0) (d - 1) G _ zO0 hre; rw [show 13 - (d - 1) = 13 - d + 1 by omega] at hih; refine L4 rfl hih rfl rfl (fun h145 => ?_) (fun h145 => ?_))
 refine E1 ?_
 refine zf4 ?_
 refine A5 ?_
 refine J7 (i + 1) ?_ ?_ ?_
 exact E3
 exact ⟨by omega, fun j hj hji => by (by_cases he : j = i; (subst he; assumption); exact hf j hj zO0)⟩
 omega
 refine L9 ?_
 (rw [A2P zO0 zO0 (hR.trans zL0), B0m (i := i) zO0 zL0]; exact ⟨rfl, rfl, rfl⟩)
 refine K1 ?_
 (rw [A2P zO0 zO0 (hR.trans zL0), (A1Q 12 14 ks _).2 (fun j hj => hf j hj zO0)]; exact ⟨rfl, rfl, rfl⟩)
 refine xx2 19 20 ?_
 exact y11
theorem A5U (t : Tm) (G : IM) (cells : List Value) (hcnt : H9 t ≤ 4294967296) (hr : B7 G t cells) :
  Fn prog 170 [.agg ⟨cells⟩] [] G (I1 (.bool (S6 t)) G) := by
 have hl := hr.len
 have hv := B53 t 12 G cells zO0 hr
 have hc := fun h => B0x 12 14 t 12 G cells zO0 h hcnt hr
 have hi := A2R t
 obtain ⟨R, hR⟩ : ∃ R, S6 t = R := ⟨_, rfl⟩
 rw [hR] at hi ⊢
 refine C4 func170 rfl ntmps170 results170 rfl ?_
 intro w0
 refine A5 ?_
 refine zf2 (fun b3 => ?_)
 refine B1 ?_
 refine sL (A3 rfl rfl (B9 zG0) zL0) rfl rfl ?_
 refine L4 rfl (hv) rfl rfl (fun h10 => ?_) (fun h10 => ?_)
 refine I0 ?_
 refine sL (A3 rfl rfl (B9 zG0) zL0) rfl rfl ?_
 refine F0 rfl (hc zL0) rfl rfl ?_
 refine sB (A1y rfl rfl) rfl rfl (fun h14 => ?_) (fun h14 => ?_)
 refine A7 ?_
 exact ⟨rfl, by rw [hi.2 ⟨by assumption, by omega⟩], rfl⟩
 refine A7 ?_
 exact ⟨rfl, zX, rfl⟩
 refine I9 ?_
 exact ⟨rfl, zX, rfl⟩
end Gw
end Go.Proofs.YtmceanphadildaaGreatDoor
