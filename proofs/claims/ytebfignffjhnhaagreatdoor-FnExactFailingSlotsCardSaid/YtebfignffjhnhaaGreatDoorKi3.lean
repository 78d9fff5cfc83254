/-
  Types of terms with casts, in plain words over trees: what a node wants of its operands, and what it is. Copies of types and terms: the reference model's, the program's, the laws' of paths. Terms each node of which is changed, operands first; own copies. The reference model's TermValid. The node of a term at a path. The reference model's source of numbers: each draw stays in its bounds. Where ways meet again. The reference model's drawn types: what they are made of, and how big they are. The reference model's drawn types, changed at random. The reference model's drawn types, changed at random. Terms without casts and types, in plain words. Strings: cut, put together, compared. The reference model's drawn terms: what they are made of, and how big they are. The reference model's drawn terms. The reference model's source is opened; drawn closed terms and valid terms. The reference model's functions on types: they end, and what they give has operands as it must. The laws' reading of marks in types and terms. Contexts of bindings: looked up, made longer. The reference model's typing: it ends, and what it gives is a type whose nodes have their operands, not wider than the term is big. The reference model's terms that are sometimes made invalid; drawn arguments. Slices of slices; slices of the call's own opened as blocks; one element of a slice of terms replaced. Casts put in: one cast, the types that are asked for. InsertCasts of the reference model: it ends, and what it gives is not much bigger than what it is given. Which names are free, at which place a name is bound: what comes out is small. Evaluation of terms with casts, in plain words. The types that a term's text holds, and terms with other types: the plain words. Terms that hold a type. Own slices and their capacity; data of terms one after the other. The types that a term's text holds: the program's list. The types that a term's text holds: the reference's list. TermTypes and CountSlots of the reference. Terms with other types: the program's. Terms with other types: the reference's. WithTypes of the reference. Shifts and masks of small numbers; writing into an own slice. Terms some of whose types become the unknown type: the program's.
-/
import Derived.Test.YtebfignffjhnhaaGreatDoorKi1
import Derived.Test.YtebfignffjhnhaaGreatDoorKi2
import Derived.Test.YtebfignffjhnhaaGreatDoorKi0
import Derived.Laws.Slices
set_option linter.unusedVariables false
set_option linter.unusedSimpArgs false
set_option maxHeartbeats 0
set_option maxRecDepth 100000
set_option synthInstance.maxSize 4000
set_option synthInstance.maxHeartbeats 0
namespace Go.Proofs.YtebfignffjhnhaaGreatDoor
open Go Go.RowKit
namespace Gw
def S1 : Ty := .mk 2 []
def Y5 : Ty := .mk 3 []
mutual
def M2 : Ty → Ty → Bool
 | .mk k ks, t => decide (k = t.k) && Z6 ks t.ks
def Z6 : List Ty → List Ty → Bool
 | [], [] => true
 | a :: xs, b :: ys => M2 a b && Z6 xs ys
 | _, _ => false
end
theorem A2S (k k' : Int) (ks ks' : List Ty) : M2 (.mk k ks) (.mk k' ks') = (decide (k = k') && Z6 ks ks') := by rw [M2]; rfl
mutual
theorem A2T : ∀ (a b : Ty), M2 a b = true ↔ a = b
 | .mk k ks, .mk k' ks' => by
  rw [A2S, Bool.and_eq_true, decide_eq_true_eq, A8B ks ks', Ty.mk.injEq]
theorem A8B : ∀ (xs ys : List Ty), Z6 xs ys = true ↔ xs = ys
 | [], [] => by simp [Z6]
 | [], b :: ys => by simp [Z6]
 | a :: xs, [] => by simp [Z6]
 | a :: xs, b :: ys => by
  rw [Z6, Bool.and_eq_true, A2T a b, A8B xs ys, List.cons.injEq]
end
theorem A5Q (a : Ty) : M2 a a = true := (A2T a a).2 rfl
theorem A3z : ∀ (xs ys : List Ty), Z6 xs ys = true ↔ xs.length = ys.length ∧ ∀ i, (h : i < xs.length) → (h' : i < ys.length) → M2 xs[i] ys[i] = true
 | [], [] => by simp [Z6]
 | [], b :: ys => by simp [Z6]
 | a :: xs, [] => by simp [Z6]
 | a :: xs, b :: ys => by
  simp only [Z6, Bool.and_eq_true, A3z xs ys, List.length_cons]
  constructor
  ·rintro ⟨h1, h2, h3⟩
   refine ⟨by omega, fun i hi hi' => ?_⟩
   cases i with
   | zero => exact h1
   | succ i => exact h3 i (by simpa using hi) (by simpa using hi')
  ·rintro ⟨h1, h2⟩
   exact ⟨h2 0 (by simp) (by simp), by omega, fun i hi hi' => h2 (i + 1) (by simpa using hi) (by simpa using hi')⟩

abbrev Cx := List (ByteArray × Ty)
def A0r (cx : Cx) (nm : ByteArray) : Nat → Option Ty
 | 0 => none
 | n + 1 => match cx[n]? with
  | some b => if b.1 = nm then some b.2 else A0r cx nm n
  | none => A0r cx nm n
def A0G (cx : Cx) (nm : ByteArray) : Option Ty := A0r cx nm cx.length
theorem A8C {cx : Cx} {nm x : ByteArray} {n : Nat} {t : Ty} (h : cx[n]? = some (x, t)) (he : x = nm) : A0r cx nm (n + 1) = some t := by
 rw [A0r, h]; simp only [he, if_true]
theorem A8D {cx : Cx} {nm x : ByteArray} {n : Nat} {t : Ty} (h : cx[n]? = some (x, t)) (he : ¬x = nm) : A0r cx nm (n + 1) = A0r cx nm n := by
 rw [A0r, h]; simp only [he, if_false]

mutual
def T4 : Ty → Ty → Ty
 | .mk k ks, b => if k = 1 then b else if b.k = 1 then .mk k ks else .mk k (S6 ks b.ks)
def S6 : List Ty → List Ty → List Ty
 | a :: xs, b :: ys => T4 a b :: S6 xs ys
 | _, _ => []
end
theorem A2U (k k' : Int) (ks ks' : List Ty) : T4 (.mk k ks) (.mk k' ks') = if k = 1 then .mk k' ks' else if k' = 1 then .mk k ks else .mk k (S6 ks ks') := by rw [T4]; rfl
def Q7 (kind : Int) (t : Ty) : Option (Ty × Ty) :=
 if t.k = kind then some (t.ks.getD 0 C1, t.ks.getD 1 C1) else if t.k = 1 then some (R7, R7) else none
def N7 (cx : Cx) (k : Int) (nm : ByteArray) (ty : Ty) (h : List Ty) : Option (List Ty × Ty) :=
 if k = 1 then (match A0G cx nm with | some t => some ([], t) | none => none)
 else if k = 2 then some ([], S1)
 else if k = 3 ∨ k = 4 then some ([], Y5)
 else if k = 5 then some ([], .mk 4 [ty, h.getD 0 C1])
 else if k = 6 then (match Q7 4 (h.getD 0 C1) with | some (a, b) => if K0 (h.getD 1 C1) a = true then some ([.mk 4 [a, b], a], b) else none | none => none)
 else if k = 7 ∨ k = 8 then (if K0 (h.getD 0 C1) S1 = true ∧ K0 (h.getD 1 C1) S1 = true then some ([S1, S1], if k = 8 then Y5 else S1) else none)
 else if k = 9 then (if K0 (h.getD 0 C1) Y5 = true ∧ K0 (h.getD 1 C1) (h.getD 2 C1) = true then some ([Y5, T4 (h.getD 1 C1) (h.getD 2 C1), T4 (h.getD 1 C1) (h.getD 2 C1)], T4 (h.getD 1 C1) (h.getD 2 C1)) else none)
 else if k = 10 then some ([], .mk 5 [h.getD 0 C1, h.getD 1 C1])
 else if k = 13 then (if K0 (h.getD 0 C1) ty = true then some ([ty], ty) else none)
 else (match Q7 5 (h.getD 0 C1) with | some (a, b) => some ([.mk 5 [a, b]], if k = 12 then b else a) | none => none)
def Y6 (cx : Cx) (k : Int) (nm : ByteArray) (ty : Ty) (h : List Ty) : Option (List Ty × Ty) := match N7 cx k nm ty h with
 | some (w, t) => if H5 t = true then some (w, t) else none
 | none => none
def A3A : List Ty → List Ty → Bool
 | [], _ => true
 | a :: xs, b :: ys => M2 a b && A3A xs ys
 | _ :: _, [] => false
def O7 (cx : Cx) (k : Int) (nm : ByteArray) (ty : Ty) : Cx := if k = 5 then cx ++ [(nm, ty)] else cx
mutual
def A0H (cx : Cx) : Tm → Option Ty
 | .mk k nm num ty fr lb ks => match X4 (O7 cx k nm ty) ks with
  | none => none
  | some h => if k = 14 then (if M2 (h.getD 0 C1) fr = true then some ty else none)
   else match Y6 cx k nm ty h with
    | none => none
    | some (w, t) => if A3A w h = true then some t else none
def X4 (cx : Cx) : List Tm → Option (List Ty)
 | [] => some []
 | t :: ts => match A0H cx t with
  | none => none
  | some u => match X4 cx ts with
   | none => none
   | some us => some (u :: us)
end
def B6q (e : Tm) : Option Ty := if O9 e = true then A0H [] e else none
theorem A8E {Q : Prop} (h : Q := by (rw [List.take_length] at hst; obtain ⟨F2, hf1, hf2⟩ := N0.fin hst hnd hle hle2 hsl2 hno2 hk; exact ⟨rfl, _, F2, rfl, hf1, hf2⟩)) : Q := h
theorem A1p : ∀ (t : Ty) (G : IM) (cells : List Value), t.small → C2 G t cells →
  Fn Tryz.prog 63 [.agg ⟨cells⟩] [] G (L5 fun G' v => ∃ cells' F, v = .agg ⟨cells'⟩ ∧ N0 (B5 G' G) t cells' F ∧ F.Nodup) := by
 refine Ty.ind fun k ks ih G cells hts hr => ?_
 simp only [Ty.small] at hts
 obtain ⟨hsm, hks⟩ := hts
 obtain ⟨p, c, es, rfl, hk, hsl, hkl⟩ := hr.open
 simp only [Ty.k, Ty.ks] at hk hsl hkl ⊢
 have hn := hsl.le
 refine B8 Tryz.func63 rfl Tryz.ntmps63 Tryz.results63 rfl ?_
 intro w0
 refine A2 ?_
 refine sE (C6 rfl rfl) rfl (fun b3 => ?_)
 refine sE (A6 rfl) rfl (fun b4 => ?_)
 refine A9 ?_
 refine sE (A6 rfl) rfl (fun b12 => ?_)
 refine J8 ?_
 refine B7 ?_
 (refine R5 34 2 ?_; refine I3 (fun (x : Nat × Option Addr × Nat × List (List Value) × List Nat × IM) => ⟨[(12, .int .i64 x.1), (11, .int .i64 ks.length), (10, .slice p ks.length c), (3, .pointer (some ⟨b12, 0, none⟩)), (2, .pointer (some ⟨b4, 0, none⟩))], [.blk b12 [.int .i64 k, .slice x.2.1 x.1 x.2.2.1], .slc x.2.1 x.2.2.1 34 2 x.1 x.2.2.2.1.flatten, .blk b4 [.int .i64 0, .slice none 0 0]], x.2.2.2.2.2⟩) (fun x => x.1 ≤ ks.length ∧ C5 G x.2.2.2.2.2 ∧ L7 (B5 x.2.2.2.2.2 G) (ks.take x.1) x.2.2.2.1 x.2.2.2.2.1 ∧ x.2.2.2.2.1.Nodup) (fun x => ks.length - x.1) (0, none, 0, [], [], G) ?_ ?_ ?_)
 (simp only [H9]; exact O5 (by repeat (first | exact I1.nil | refine I1.cons rfl ?_)) (by repeat (first | exact A8.refl | exact A8.nil | refine A8.cons (by repeat (first | exact Pk.here | apply Pk.there)) ?_)))
 exact zq2
 (rintro ⟨i, pn, cn, es', F, Gi⟩ ⟨hi, hle, hst, hnd⟩; simp only [] at hi hle hst hnd ⊢; replace hsl := hsl.mono hle; replace hkl := hkl.mono hle)
 refine A2 ?_
 refine sB (I8 rfl rfl) rfl rfl (fun h32 => ?_) (fun h32 => ?_)
 refine A9 ?_
 refine B7 ?_
 refine A2 ?_
 (obtain ⟨b, o, p2, c2, rfl, hat, hre, hgb⟩ := hsl.kidTy hkl (i := i) (by omega) (by omega); refine sP (B2 rfl rfl rfl (by omega)) rfl rfl ?_)
 refine sL (A0 rfl rfl (hat _) rfl) rfl rfl ?_
 refine sE (A6 rfl) rfl (fun b45 => ?_)
 refine B9 ?_
 refine E1 E3 rfl ?_
 refine K2 (i := 0) (l' := [tt,ff,ff,ff,ff,ff,ff,ff]) rfl D5 (C0 rfl) rfl (by kernel_rfl) rfl rfl ?_
 refine aL 1 rfl (C9 rfl rfl) rfl ?_
 refine aL 2 rfl (A4 rfl rfl) rfl ?_
 refine A3 3 ?_
 (refine H2 rfl rfl (ih _ (List.getElem_mem (by omega)) _ _ (Ty.smallL_mem hks _ (List.getElem_mem (by omega))) hre) rfl rfl rfl (fun v G1 hle1 hh => ?_); obtain ⟨cells', F', rfl, hs', hnd'⟩ := hh; obtain ⟨p3, c3, es3, rfl, _⟩ := hs'.R.open)
 refine A3 4 ?_
 (refine E6 rfl (E2 rfl rfl rfl (by omega) (by unfold maxLen; omega) rfl) rfl rfl ?_; rintro _ ⟨b56, rfl⟩)
 refine A3 5 ?_
 refine T9 rfl rfl rfl rfl rfl rfl (fun _ _ => by repeat (first | exact Sw.here | apply Sw.there)) (M4 (by repeat first | exact mH | apply mT)) rfl (by simp [Value.oneCell']) (by unfold maxLen; omega) (by omega) rfl rfl (by repeat (first | exact D1.nil | apply D1.dep (by kernel_rfl) | apply D1.blk (by kernel_rfl) (by repeat (first | exact Pk.here | apply Pk.there)) (by repeat first | exact mH | apply mT))) (fun pn' cn' => ?_)
 refine aP 6 rfl (C0 rfl) rfl ?_
 refine A3 7 ?_
 refine X8 rfl rfl rfl rfl rfl rfl rfl rfl (by kernel_rfl) (by repeat first | exact Sw.here | apply Sw.there) (by rfl) ?_
 refine B6 ?_
 refine sP (E7 rfl rfl (by omega) (by omega)) rfl rfl ?_
 refine A2 ?_
 refine I7 (i + 1, pn', cn', es' ++ [[.int .i64 ks[i].k, .slice p3 ks[i].ks.length c3]], F ++ F', G1) ?_ ?_ ?_
 (simp only [H9]; exact O5 (by repeat (first | exact I1.nil | refine I1.cons rfl ?_)) (by repeat (first | exact A8.refl | exact A8.nil | refine A8.cons (by repeat (first | exact Pk.here | apply Pk.there)) ?_)))
 exact zq3
 exact R6
 refine H1 ?_
 (refine H8 (by repeat (first | exact Pk.here | apply Pk.there)) (fun G2 hle2 hsl2 hno2 => ?_); obtain rfl : i = ks.length := by omega)
 refine tT ?_
 refine L9 (rC rfl (A4 rfl rfl)) ?_
 exact A8E
theorem P4 : ∀ (t : Ty) (G : IM) (cells : List Value), t.small → C2 G t cells → Fn Tryz.prog 161 [.agg ⟨cells⟩] [] G (A5I t G) := by
 refine Ty.ind fun k ks ih G cells hts hr => ?_
 simp only [Ty.small] at hts
 obtain ⟨hsm, hks⟩ := hts
 obtain ⟨p, c, es, rfl, hk, hsl, hkl⟩ := hr.open
 simp only [Ty.k, Ty.ks] at hk hsl hkl ⊢
 have hn := hsl.le
 refine B8 Tryz.func161 rfl Tryz.ntmps161 Tryz.results161 rfl ?_
 intro w0
 refine A2 ?_
 refine sE (C6 rfl rfl) rfl (fun b3 => ?_)
 refine sE (A6 rfl) rfl (fun b4 => ?_)
 refine A9 ?_
 refine sE (A6 rfl) rfl (fun b12 => ?_)
 refine D9 ?_
 refine B7 ?_
 (refine R5 34 2 ?_; refine I3 (fun (x : Nat × Option Addr × Nat × List (List Value) × List Nat × IM) => ⟨[(4, .int .i64 x.1), (3, .pointer (some ⟨b12, 0, none⟩)), (1, .pointer (some ⟨b3, 0, none⟩)), (2, .pointer (some ⟨b4, 0, none⟩))], [.blk b12 [.int .i64 k, .slice x.2.1 x.1 x.2.2.1], .slc x.2.1 x.2.2.1 34 2 x.1 x.2.2.2.1.flatten, .blk b4 [.int .i64 0, .slice none 0 0], .blk b3 [.int .i64 k, .slice p ks.length c]], x.2.2.2.2.2⟩) (fun x => x.1 ≤ ks.length ∧ C5 G x.2.2.2.2.2 ∧ L7 (B5 x.2.2.2.2.2 G) (ks.take x.1) x.2.2.2.1 x.2.2.2.2.1 ∧ x.2.2.2.2.1.Nodup) (fun x => ks.length - x.1) (0, none, 0, [], [], G) ?_ ?_ ?_)
 (simp only [H9]; exact D3)
 exact zq2
 (rintro ⟨i, pn, cn, es', F, Gi⟩ ⟨hi, hle, hst, hnd⟩; simp only [] at hi hle hst hnd ⊢; replace hsl := hsl.mono hle; replace hkl := hkl.mono hle)
 refine A9 ?_
 refine sB (I8 rfl rfl) rfl rfl (fun h34 => ?_) (fun h34 => ?_)
 refine A7 ?_
 refine B7 ?_
 (obtain ⟨b, o, p2, c2, rfl, hat, hre, hgb⟩ := hsl.kidTy hkl (i := i) (by omega) (by omega); refine E1 E3 rfl ?_)
 refine K2 (i := 0) (l' := [tt,ff,ff,ff,ff,ff,ff,ff,ff,ff,ff,ff]) rfl D5 (C0 rfl) rfl (by kernel_rfl) rfl rfl ?_
 refine aL 1 rfl (C9 rfl rfl) rfl ?_
 refine aP 2 rfl (C0 rfl) rfl ?_
 refine aL 3 rfl (C9 rfl rfl) rfl ?_
 refine aP 4 rfl (qM rfl) rfl ?_
 refine aP 5 rfl (B2 rfl rfl rfl (by omega)) rfl ?_
 refine aL 6 rfl (A0 rfl rfl (hat _) rfl) rfl ?_
 refine A3 7 ?_
 (refine H2 rfl rfl (ih ks[i] (List.getElem_mem (by omega)) _ _ (Ty.smallL_mem hks _ (List.getElem_mem (by omega))) hre) rfl rfl rfl (fun v G1 hle1 hh => ?_); obtain ⟨cells', F', rfl, hs', hnd'⟩ := hh; obtain ⟨p3, c3, es3, rfl, _⟩ := hs'.R.open)
 refine A3 8 ?_
 (refine E6 rfl (E2 rfl rfl rfl (by omega) (by unfold maxLen; omega) rfl) rfl rfl ?_; rintro _ ⟨b53, rfl⟩)
 refine A3 9 ?_
 refine T9 rfl rfl rfl rfl rfl rfl (fun _ _ => by repeat (first | exact Sw.here | apply Sw.there)) (M4 (by repeat first | exact mH | apply mT)) rfl (by simp [Value.oneCell']) (by unfold maxLen; omega) (by omega) rfl rfl (by repeat (first | exact D1.nil | apply D1.dep (by decide +kernel) | apply D1.blk (by decide +kernel) (by repeat (first | exact Pk.here | apply Pk.there)) (by repeat first | exact mH | apply mT))) (fun pn' cn' => ?_)
 refine aP 10 rfl (C0 rfl) rfl ?_
 refine A3 11 ?_
 refine X8 rfl rfl rfl rfl rfl rfl rfl rfl (by kernel_rfl) (by repeat first | exact Sw.here | apply Sw.there) (by rfl) ?_
 refine B0 ?_
 refine sP (E7 rfl rfl (by omega) (by omega)) rfl rfl ?_
 refine A2 ?_
 refine I7 (i + 1, pn', cn', es' ++ [[.int .i64 ks[i].k, .slice p3 ks[i].ks.length c3]], F ++ F', G1) ?_ ?_ ?_
 (simp only [H9]; exact D3)
 exact zq3
 exact R6
 refine J7 ?_
 (refine H8 (by repeat (first | exact Pk.here | apply Pk.there)) (fun G2 hle2 hsl2 hno2 => ?_); obtain rfl : i = ks.length := (by omega))
 refine tT ?_
 refine L9 (rC rfl (A4 rfl rfl)) ?_
 exact A8E
theorem A8F {Q : Prop} (h : Q := by exact ⟨by omega, hle.trans hle3, L8.step hst hnd hle hle3 (by omega) hs' hnd'⟩) : Q := h
theorem A3B : ∀ (t : Tm) (G : IM) (cells : List Value), t.small → B3 G t cells → Fn Tryz.prog 120 [.agg ⟨cells⟩] [] G (A3t t G) := by
 refine Tm.ind fun k nm num ty fr lb ks ih G cells hts hr => ?_
 have hone := hr.one
 simp only [Tm.small] at hts
 obtain ⟨hnm, hty', hfr', hsm, hks⟩ := hts
 obtain ⟨tk, tks⟩ := ty
 obtain ⟨fk, fks⟩ := fr
 obtain ⟨pt, ct, pf, cf, p, c, es, rfl, hk, hnum, hlb, hty, hfr, hsl, hkl⟩ := hr.open9
 have hn := hsl.le
 have hT := P4 (.mk tk tks) G _ hty' hty
 refine B8 Tryz.func120 rfl Tryz.ntmps120 Tryz.results120 rfl ?_
 intro w0
 refine A2 ?_
 refine sE (C6 rfl rfl) rfl (fun b3 => ?_)
 refine sE (A6 rfl) rfl (fun b4 => ?_)
 refine B0 ?_
 refine sE (A6 rfl) rfl (fun b10 => ?_)
 refine A9 ?_
 (refine D4 rfl hT rfl rfl (fun v G1 hle1 hh => ?_); obtain ⟨cs1, F1, rfl, hs1, hn1⟩ := hh; obtain ⟨p1, c1, rfl, _⟩ := hs1.open; have hF := P4 (.mk fk fks) G1 _ hfr' (hfr.mono hle1))
 refine D0 ?_
 (refine D4 rfl hF rfl rfl (fun v G2 hle2 hh => ?_); obtain ⟨cs2, F2, rfl, hs2, hn2⟩ := hh; obtain ⟨p2, c2, rfl, _⟩ := hs2.open; replace hsl := hsl.mono (hle1.trans hle2); replace hkl := hkl.mono (hle1.trans hle2))
 refine J3 ?_
 refine B7 ?_
 (refine R5 37 9 ?_; refine I3 (fun (x : Nat × Option Addr × Nat × List (List Value) × List Nat × IM) => ⟨[(4, .int .i64 x.1), (3, .pointer (some ⟨b10, 0, none⟩)), (1, .pointer (some ⟨b3, 0, none⟩)), (2, .pointer (some ⟨b4, 0, none⟩))], [.blk b10 [.int .i64 k, .string nm, .int .i64 num, .int .i64 tk, .slice p1 tks.length c1, .int .i64 fk, .slice p2 fks.length c2, .int .i64 lb, .slice x.2.1 x.1 x.2.2.1], .slc x.2.1 x.2.2.1 37 9 x.1 x.2.2.2.1.flatten, .blk b4 [.int .i64 0, .string ⟨⟨[]⟩⟩, .int .i64 0, .int .i64 0, .slice none 0 0, .int .i64 0, .slice none 0 0, .int .i64 0, .slice none 0 0], .blk b3 [.int .i64 k, .string nm, .int .i64 num, .int .i64 tk, .slice pt tks.length ct, .int .i64 fk, .slice pf fks.length cf, .int .i64 lb, .slice p ks.length c]], x.2.2.2.2.2⟩) (fun x => x.1 ≤ ks.length ∧ C5 G2 x.2.2.2.2.2 ∧ L8 (B5 x.2.2.2.2.2 G2) (ks.take x.1) x.2.2.2.1 x.2.2.2.2.1 ∧ x.2.2.2.2.1.Nodup) (fun x => ks.length - x.1) (0, none, 0, [], [], G2) ?_ ?_ ?_)
 (simp only [H9]; exact D3)
 exact zq4
 (rintro ⟨i, pn, cn, es', F, Gi⟩ ⟨hi, hle, hst, hnd⟩; simp only [] at hi hle hst hnd ⊢; replace hsl := hsl.mono hle; replace hkl := hkl.mono hle)
 refine A9 ?_
 refine sB (I8 rfl rfl) rfl rfl (fun h56 => ?_) (fun h56 => ?_)
 refine A7 ?_
 refine B7 ?_
 (obtain ⟨b, o, e, rfl, hl, hat, hre, hgb⟩ := hsl.kidTm hkl (i := i) (by omega) (by omega); have hone := hre.one; refine E1 E3 rfl ?_)
 refine K2 (i := 0) (l' := [tt,ff,ff,ff,ff,ff,ff,ff,ff,ff,ff,ff]) rfl D5 (C0 rfl) rfl (by kernel_rfl) rfl rfl ?_
 refine aL 1 rfl (C9 rfl rfl) rfl ?_
 refine aP 2 rfl (C0 rfl) rfl ?_
 refine aL 3 rfl (C9 rfl rfl) rfl ?_
 refine aP 4 rfl (qM rfl) rfl ?_
 refine aP 5 rfl (B2 rfl rfl rfl (by omega)) rfl ?_
 refine aL 6 rfl (A0 rfl rfl (hat _) hl) rfl ?_
 refine A3 7 ?_
 (refine H2 rfl rfl (ih ks[i] (List.getElem_mem (by omega)) _ _ (Tm.smallL_mem hks _ (List.getElem_mem (by omega))) hre) rfl rfl rfl (fun v G3 hle3 hh => ?_); obtain ⟨cells', F', rfl, hs', hnd'⟩ := hh; obtain ⟨qt, dt, et', qf, df, ef', q3, d3, es3, rfl, _⟩ := hs'.R.open)
 refine A3 8 ?_
 (refine E6 rfl (E2 rfl rfl rfl (by omega) (by unfold maxLen; omega) rfl) rfl rfl ?_; rintro _ ⟨b75, rfl⟩)
 refine A3 9 ?_
 refine T9 rfl rfl rfl rfl rfl rfl (fun _ _ => by repeat (first | exact Sw.here | apply Sw.there)) (M4 (by repeat first | exact mH | apply mT)) rfl (by simp [Value.oneCell']) (by unfold maxLen; omega) (by omega) rfl rfl (by repeat (first | exact D1.nil | apply D1.dep (by decide +kernel) | apply D1.blk (by decide +kernel) (by repeat (first | exact Pk.here | apply Pk.there)) (by repeat first | exact mH | apply mT))) (fun pn' cn' => ?_)
 refine aP 10 rfl (C0 rfl) rfl ?_
 refine A3 11 ?_
 refine X8 rfl rfl rfl rfl rfl rfl rfl rfl (by kernel_rfl) (by repeat first | exact Sw.here | apply Sw.there) (by rfl) ?_
 refine B0 ?_
 refine sP (E7 rfl rfl (by omega) (by omega)) rfl rfl ?_
 refine A2 ?_
 refine I7 (i + 1, pn', cn', es' ++ [[.int .i64 ks[i].k, .string ks[i].nm, .int .i64 ks[i].num, .int .i64 ks[i].ty.k, .slice qt ks[i].ty.ks.length dt, .int .i64 ks[i].fr.k, .slice qf ks[i].fr.ks.length df, .int .i64 ks[i].lb, .slice q3 ks[i].ks.length d3]], F ++ F', G3) ?_ ?_ ?_
 (simp only [H9]; exact D3)
 exact A8F
 exact R6
 refine J7 ?_
 (refine H8 (by repeat (first | exact Pk.here | apply Pk.there)) (fun G4 hle4 hsl4 hno4 => ?_); obtain rfl : i = ks.length := (by omega))
 refine tT ?_
 refine L9 (rC rfl (A4 rfl rfl)) ?_
 (rw [List.take_length] at hst; obtain ⟨F3, hf1, hf2⟩ := A1D.fin hst hnd hle hle4 hsl4 hno4; obtain ⟨F5, hg1, hg2⟩ := N5.mk3 (nm := nm) hk hnum hlb hle1 hle2 (hle.trans hle4) hs1 hn1 hs2 hn2 hf1 hf2; exact ⟨rfl, _, F5, rfl, hg1, hg2⟩)
mutual
def A2f (g : Tm → Tm) : Tm → Tm
 | .mk k nm num ty fr lb ks => g (.mk k nm num ty fr lb (A0T g ks))
def A0T (g : Tm → Tm) : List Tm → List Tm
 | [] => []
 | t :: ts => A2f g t :: A0T g ts
end
theorem A5R (g : Tm → Tm) : ∀ ks, A0T g ks = ks.map (A2f g)
 | [] => rfl
 | t :: ts => by rw [A0T, A5R g ts, List.map_cons]
mutual
theorem A8G : ∀ t, A2f id t = t
 | .mk k nm num ty fr lb ks => by rw [A2f, A8H ks]; rfl
theorem A8H : ∀ ks, A0T id ks = ks
 | [] => rfl
 | t :: ts => by rw [A0T, A8G t, A8H ts]
end
theorem N5.mk3k {G G1 G2 G3 : IM} {k : Int} {nm : ByteArray} {num : Int} {ty fr : Ty} {lb : Int} {ks : List Tm} {tc fc : List Value} {p : Option Addr} {c : Nat} {F1 F2 F3 : List Nat} (hk : H3 k) (hnum : H3 num) (hlb : H3 lb)
  (hl1 : C5 G G1) (hl2 : C5 G1 G2) (hl3 : C5 G2 G3) (h3 : A1D (B5 G1 G) ks p c F3) (n3 : F3.Nodup) (h1 : N0 (B5 G2 G1) ty tc F1) (n1 : F1.Nodup) (h2 : N0 (B5 G3 G2) fr fc F2) (n2 : F2.Nodup) :
  ∃ F, N5 (B5 G3 G) (.mk k nm num ty fr lb ks) ([.int .i64 k, .string nm, .int .i64 num] ++ tc ++ fc ++ [.int .i64 lb, .slice p ks.length c]) F ∧ F.Nodup := by
 obtain ⟨es, Fs, e1, e2, rfl, e4⟩ := h3
 have i3 : ∀ b ∈ I0 p ++ Fs, B5 G1 G b ≠ none := by
  intro b hb
  rcases List.mem_append.1 hb with hb | hb
  ·exact e4 b hb
  ·exact e2.inG b hb
 have a1 : C5 (B5 G1 G) (B5 G3 G) := B5.mono (hl2.trans hl3)
 have a2 : C5 (B5 G2 G1) (B5 G3 G) := fun b l h => B5.mono hl3 b l (B5.anti hl1 b l h)
 have a3 : C5 (B5 G3 G2) (B5 G3 G) := B5.anti (hl1.trans hl2)
 refine ⟨F1 ++ (F2 ++ (I0 p ++ Fs)), ?_, ?_⟩
 ·simp only [N5]
  exact ⟨tc, fc, p, c, es, F1, F2, Fs, rfl, hk, hnum, hlb, h1.mono a2, h2.mono a3, e1.mono a1, e2.mono a1, rfl, A2I a1 e4⟩
 ·rw [List.nodup_append, List.nodup_append]
  refine ⟨n1, ⟨n2, n3, ?_⟩, ?_⟩
  ·rintro x hx y hy rfl
   exact A19 (A2I (B5.mono hl2) i3) h2.inG x hy x hx rfl
  ·rintro x hx y hy rfl
   rcases List.mem_append.1 hy with hy | hy
   ·exact A19 (A2I (B5.anti hl1) h1.inG) h2.inG x hx x hy rfl
   ·exact A19 i3 h1.inG x hy x hx rfl
mutual
def mOk (Q : Tm → Prop) (g : Tm → Tm) : Tm → Prop
 | .mk k nm num ty fr lb ks => A2g Q g ks ∧ Q (.mk k nm num ty fr lb (A0T g ks))
def A2g (Q : Tm → Prop) (g : Tm → Tm) : List Tm → Prop
 | [] => True
 | t :: ts => mOk Q g t ∧ A2g Q g ts
end
theorem A8I {Q : Tm → Prop} {g : Tm → Tm} : ∀ {ts : List Tm}, A2g Q g ts → ∀ t ∈ ts, mOk Q g t
 | [], _, t, h => by simp at h
 | t' :: ts, h, t, ht => by
  simp only [A2g] at h
  rcases List.mem_cons.1 ht with rfl | ht
  ·exact h.1
  ·exact A8I h.2 t ht
mutual
theorem A8J (g : Tm → Tm) : ∀ t, mOk (fun _ => True) g t
 | .mk k nm num ty fr lb ks => by rw [mOk]; exact ⟨A8K g ks, trivial⟩
theorem A8K (g : Tm → Tm) : ∀ ts, A2g (fun _ => True) g ts
 | [] => by rw [A2g]; trivial
 | t :: ts => by rw [A2g]; exact ⟨A8J g t, A8K g ts⟩
end
def A8L (g : Tm → Tm) (Q : Tm → Prop) (fid : FuncId) (us cs : List Value) : Prop := ∀ (t : Tm) (G0 G1 : IM) (cells : List Value) (F : List Nat), Q t → C5 G0 G1 → N5 (B5 G1 G0) t cells F → F.Nodup →
 Fn Tryz.prog fid (us ++ [.agg ⟨cells⟩] ++ cs) [] G1 (L5 fun G2 v => ∃ cells' F', v = .agg ⟨cells'⟩ ∧ N5 (B5 G2 G0) (g t) cells' F' ∧ F'.Nodup)
theorem B3b (g : Tm → Tm) (Q : Tm → Prop) (fid : FuncId) [B4 Tryz.prog fid] (us cs : List Value) (hg : A8L g Q fid us cs) : ∀ (t : Tm) (G : IM) (cells : List Value), mOk Q g t → t.small → B3 G t cells →
  Fn Tryz.prog 75 [.agg ⟨cells⟩, .func (.func fid) ⟨us⟩ ⟨cs⟩] [] G (A3t (A2f g t) G) := by
 refine Tm.ind fun k nm num ty fr lb ks ih G cells hmo hts hr => ?_
 have hone := hr.one
 simp only [mOk] at hmo
 obtain ⟨hmoL, hQ⟩ := hmo
 simp only [Tm.small] at hts
 obtain ⟨hnm, hty', hfr', hsm, hks⟩ := hts
 obtain ⟨tk, tks⟩ := ty
 obtain ⟨fk, fks⟩ := fr
 obtain ⟨pt, ct, pf, cf, p, c, es, rfl, hk, hnum, hlb, hty, hfr, hsl, hkl⟩ := hr.open9
 have hn := hsl.le
 have hlen : (A0T g ks).length = ks.length := by rw [A5R, List.length_map]
 have hget : ∀ i (h : i < ks.length) (h' : i < (A0T g ks).length), (A0T g ks)[i] = A2f g ks[i] := fun i h h' => by simp [A5R]
 refine B8 Tryz.func75 rfl Tryz.ntmps75 Tryz.results75 rfl ?_
 intro w0
 refine A2 ?_
 refine sE (C6 rfl rfl) rfl (fun b3 => ?_)
 refine sE (A6 rfl) rfl (fun b4 => ?_)
 refine J3 ?_
 refine B7 ?_
 (refine R5 37 9 ?_; refine I3 (fun (x : Nat × Option Addr × Nat × List (List Value) × List Nat × IM) => ⟨[(11, .int .i64 x.1), (10, .int .i64 ks.length), (9, .slice p ks.length c), (5, .slice x.2.1 x.1 x.2.2.1), (2, .pointer (some ⟨b3, 0, none⟩)), (1, .func (.func fid) ⟨us⟩ ⟨cs⟩), (4, .pointer (some ⟨b4, 0, none⟩))], [.slc x.2.1 x.2.2.1 37 9 x.1 x.2.2.2.1.flatten, .blk b4 [.int .i64 0, .string ⟨⟨[]⟩⟩, .int .i64 0, .int .i64 0, .slice none 0 0, .int .i64 0, .slice none 0 0, .int .i64 0, .slice none 0 0], .blk b3 [.int .i64 k, .string nm, .int .i64 num, .int .i64 tk, .slice pt tks.length ct, .int .i64 fk, .slice pf fks.length cf, .int .i64 lb, .slice p ks.length c]], x.2.2.2.2.2⟩) (fun x => x.1 ≤ ks.length ∧ C5 G x.2.2.2.2.2 ∧ L8 (B5 x.2.2.2.2.2 G) ((A0T g ks).take x.1) x.2.2.2.1 x.2.2.2.2.1 ∧ x.2.2.2.2.1.Nodup) (fun x => ks.length - x.1) (0, none, 0, [], [], G) ?_ ?_ ?_)
 (simp only [H9]; exact D3)
 exact zq4
 (rintro ⟨i, pn, cn, es', F, Gi⟩ ⟨hi, hle, hst, hnd⟩; simp only [] at hi hle hst hnd ⊢; replace hsl := hsl.mono hle; replace hkl := hkl.mono hle)
 refine A2 ?_
 refine sB (I8 rfl rfl) rfl rfl (fun h28 => ?_) (fun h28 => ?_)
 refine A9 ?_
 refine B7 ?_
 refine A2 ?_
 (obtain ⟨b, o, e, rfl, hl, hat, hre, hgb⟩ := hsl.kidTm hkl (i := i) (by omega) (by omega); have hone := hre.one; refine sP (B2 rfl rfl rfl (by omega)) rfl rfl ?_)
 refine sL (A0 rfl rfl (hat _) hl) rfl rfl ?_
 refine sE (A6 rfl) rfl (fun b41 => ?_)
 refine sS rfl rfl rfl hl hone rfl ?_ (hu := by exact D8 hl.symm)
 refine B6 ?_
 refine sL (A0 rfl rfl (B1 (by repeat first | exact mH | apply mT)) (by assumption)) rfl rfl ?_
 refine E0 ?_
 (refine D4 rfl (ih ks[i] (List.getElem_mem (by omega)) _ _ (A8I hmoL _ (List.getElem_mem (by omega))) (Tm.smallL_mem hks _ (List.getElem_mem (by omega))) hre) rfl rfl (fun v G3 hle3 hh => ?_); obtain ⟨cells', F', rfl, hs', hnd'⟩ := hh; rw [← hget i (by omega) (by omega)] at hs'; have hlc := hs'.R.len; have hoc := hs'.R.one)
 (obtain ⟨v1, v2, v3, v4, v5, v6, v7, v8, v9, rfl⟩ : ∃ v1 v2 v3 v4 v5 v6 v7 v8 v9, cells' = [v1, v2, v3, v4, v5, v6, v7, v8, v9] := by obtain ⟨_, _, _, _, _, _, _, _, _, rfl, _⟩ := hs'.R.open; exact ⟨_, _, _, _, _, _, _, _, _, rfl⟩)
 (refine J9 (E2 rfl rfl rfl (by omega) (by unfold maxLen; omega) rfl) rfl ?_; rintro _ ⟨b51, rfl⟩)
 refine X1 rfl rfl rfl rfl rfl (fun _ _ => by repeat (first | exact Sw.here | apply Sw.there)) (M4 (by repeat first | exact mH | apply mT)) rfl (fun u hu => List.all_eq_true.1 hoc u hu) (by unfold maxLen; omega) (by omega) rfl (fun pn' cn' => ?_)
 refine B0 ?_
 refine sP (E7 rfl rfl (by omega) (by omega)) rfl rfl ?_
 refine A2 ?_
 refine I7 (i + 1, pn', cn', es' ++ [[v1, v2, v3, v4, v5, v6, v7, v8, v9]], F ++ F', G3) ?_ ?_ ?_
 (simp only [H9]; exact D3)
 exact A8F
 exact R6
 refine I9 ?_
 (obtain rfl : i = ks.length := (by omega); refine A2G (by repeat (first | exact Pk.here | apply Pk.there)) (fun G2 hle2 hsl2 hno2 => ?_); rw [← hlen, List.take_length] at hst; rw [← hlen] at hsl2; obtain ⟨F3, hf1, hf2⟩ := A1D.fin hst hnd hle hle2 hsl2 hno2; have hleG := hle.trans hle2; have hT := A1p (.mk tk tks) G2 _ hty' (hty.mono hleG); refine E1 E3 rfl ?_)
 refine K2 (i := 0) (l' := [tt,ff,ff,ff,ff,ff,ff,ff,ff,ff,ff,ff,ff]) rfl D5 (C0 rfl) rfl (by kernel_rfl) rfl rfl ?_
 refine aL 1 rfl (A4 rfl rfl) rfl ?_
 refine aP 3 rfl (C0 rfl) rfl ?_
 refine aL 4 rfl (A4 rfl rfl) rfl ?_
 refine aP 6 rfl (qM rfl) rfl ?_
 refine A3 2 ?_
 (refine H2 rfl rfl hT rfl rfl rfl (fun v G4 hle4 hh => ?_); obtain ⟨cs1, F1, rfl, hs1, hn1⟩ := hh; obtain ⟨p1, c1, rfl, _⟩ := hs1.open; have hF := A1p (.mk fk fks) G4 _ hfr' (hfr.mono (hleG.trans hle4)))
 refine aP 7 rfl (C0 rfl) rfl ?_
 refine A3 5 ?_
 (refine H2 rfl rfl hF rfl rfl rfl (fun v G5 hle5 hh => ?_); obtain ⟨cs2, F2, rfl, hs2, hn2⟩ := hh; obtain ⟨p2, c2, rfl, _⟩ := hs2.open; obtain ⟨F6, hg1, hg2⟩ := N5.mk3k (nm := nm) hk hnum hlb hleG hle4 hle5 hf1 hf2 hs1 hn1 hs2 hn2; rw [hlen] at hg1; have hch := hg _ G G5 _ F6 hQ (hleG.trans (hle4.trans hle5)) hg1 hg2)
 refine A3 8 ?_
 refine X8 rfl rfl rfl rfl rfl rfl rfl rfl (by kernel_rfl) (by repeat first | exact Sw.here | apply Sw.there) (by rfl) ?_
 refine aP 9 rfl (C0 rfl) rfl ?_
 refine A3 10 ?_
 refine X8 rfl rfl rfl rfl rfl rfl rfl rfl (by kernel_rfl) (by repeat first | exact Sw.here | apply Sw.there) (by rfl) ?_
 refine aP 11 rfl (C0 rfl) rfl ?_
 refine A3 12 ?_
 refine X8 rfl rfl rfl rfl rfl rfl rfl rfl (by kernel_rfl) (by repeat first | exact Sw.here | apply Sw.there) (by rfl) ?_
 refine A7 ?_
 (refine J9 (A3Z rfl rfl hch (List.Perm.refl _) rfl) rfl ?_; rintro _ ⟨v, G7, outs, rfl, hle7, rfl, cells7, F7, rfl, hs7, hn7⟩; have hl7 := hs7.R.len; have ho7 := hs7.R.one)
 refine sS rfl rfl rfl hl7 ho7 rfl ?_ (hu := by exact D8 hl7.symm)
 refine B9 ?_
 refine L9 (rC rfl (A0 rfl rfl (B1 (by repeat first | exact mH | apply mT)) hl7)) ?_
 (rw [A2f]; exact ⟨rfl, cells7, F7, rfl, hs7, hn7⟩)
theorem B3c (G : IM) (cells : List Value) (hl : cells.length = 9) (hone : cells.all (·.oneCell') = true) : Fn Tryz.prog 112 [.agg ⟨cells⟩] [] G (E5 (.agg ⟨cells⟩) G) := by
 refine B8 Tryz.func112 rfl Tryz.ntmps112 Tryz.results112 rfl ?_
 intro w0
 refine A2 ?_
 refine sE (C6 rfl rfl) rfl (fun b3 => ?_)
 refine sE (A6 rfl) rfl (fun b4 => ?_)
 refine B6 ?_
 refine sL (A0 rfl rfl (B1 (by repeat first | exact mH | apply mT)) (by assumption)) rfl rfl ?_
 refine sS rfl rfl rfl hl hone rfl ?_ (hu := by exact D8 hl.symm)
 refine B9 ?_
 refine L9 (rC rfl (A0 rfl rfl (B1 (by repeat first | exact mH | apply mT)) hl)) ?_
 exact ⟨rfl, rfl, rfl⟩
theorem B3d : A8L id (fun _ => True) 112 [] [] := fun t G0 G1 cells F _ hle hs hn =>
 (B3c G1 cells hs.R.len hs.R.one).mono fun G' v outs _ ⟨h1, h2, h3⟩ => ⟨h3, cells, F, h2, by rw [h1]; exact hs, hn⟩
theorem A5S (t : Tm) (G : IM) (cells : List Value) (hts : t.small) (hr : B3 G t cells) : Fn Tryz.prog 62 [.agg ⟨cells⟩] [] G (A3t t G) := by
 have hl := hr.len
 have hone := hr.one
 have hM := B3b id (fun _ => True) 112 [] [] B3d t G cells (A8J _ t) hts hr
 rw [A8G] at hM
 refine B8 Tryz.func62 rfl Tryz.ntmps62 Tryz.results62 rfl ?_
 intro w0
 refine A2 ?_
 refine sE (C6 rfl rfl) rfl (fun b3 => ?_)
 refine sE (A6 rfl) rfl (fun b4 => ?_)
 refine B6 ?_
 refine sL (A0 rfl rfl (B1 (by repeat first | exact mH | apply mT)) (by assumption)) rfl rfl ?_
 (refine D4 rfl hM rfl rfl (fun v G3 hle3 hh => ?_); obtain ⟨cells', F', rfl, hs', hnd'⟩ := hh; have hl' := hs'.R.len; have ho' := hs'.R.one)
 refine sS rfl rfl rfl hl' ho' rfl ?_ (hu := by exact D8 hl'.symm)
 refine B9 ?_
 refine L9 (rC rfl (A0 rfl rfl (B1 (by repeat first | exact mH | apply mT)) hl')) ?_
 exact ⟨rfl, cells', F', rfl, hs', hnd'⟩
theorem A1q (t : Tm) : Q1 t = true ↔ N2 12 14 t 1 = true ∧ D6 t ≤ 30 := by
 have := A5L 30 12 14 t 1 0 (by omega)
 rw [Q1, this]
 constructor
 ·rintro ⟨a, b⟩; exact ⟨a, by omega⟩
 ·rintro ⟨a, b⟩; exact ⟨a, by omega⟩
theorem B3e : ∀ (t : Tm) (d : Int) (G : IM) (cells : List Value), 0 ≤ d ∧ d ≤ 12 → B3 G t cells →
  Fn Tryz.prog 185 [.agg ⟨cells⟩, .int .i64 d] [] G (E5 (.bool (N2 12 14 t (13 - d))) G) := by
 refine Tm.ind fun k nm num ty fr lb ks ih d G cells hd hr => ?_
 have hr0 := hr
 have hne := fun h : k ≠ 14 => @A8s k nm num ty fr lb ks.length h
 have har := fun h : T3 k nm num ty fr lb ks.length = true => (U0.1 h).1
 obtain ⟨R, hR⟩ : ∃ R, T3 k nm num ty fr lb ks.length = R := ⟨_, rfl⟩
 rw [hR] at hne har
 have hl2 := A8q k nm num ty fr lb ks G cells hr0 R
 have hk1 := A8g k G
 obtain ⟨tk, tks⟩ := ty
 obtain ⟨fk, fks⟩ := fr
 obtain ⟨pt, ct, pf, cf, p, c, es, rfl, hk, hnum, hlb, hty, hfr, hsl, hkl⟩ := hr.open9
 have hn := hsl.le
 clear hr hr0
 refine B8 Tryz.func185 rfl Tryz.ntmps185 Tryz.results185 rfl ?_
 intro w0
 refine A2 ?_
 refine sE (C6 rfl rfl) rfl (fun b3 => ?_)
 refine B0 ?_
 refine E1 E3 rfl ?_
 refine K2 (i := 0) (l' := [tt,ff,ff,ff,ff,ff,ff,ff,ff,ff,ff,ff,ff,ff,ff,ff,ff,ff,ff,ff,ff]) rfl D5 (qM rfl) rfl (by kernel_rfl) rfl rfl ?_
 refine A0D (i := 1) (l' := [tt,tt,ff,ff,ff,ff,ff,ff,ff,ff,ff,ff,ff,ff,ff,ff,ff,ff,ff,ff,ff]) rfl D5 (I8 rfl rfl) rfl (by kernel_rfl) rfl rfl (fun h11 => ?_) (fun h11 => ?_)
 refine aP 2 rfl (qM rfl) rfl ?_
 refine C4 3 rfl rfl rfl ?_
 refine C4 4 rfl rfl rfl ?_
 refine C4 6 rfl rfl rfl ?_
 refine C4 7 rfl rfl rfl ?_
 refine C4 8 rfl rfl rfl ?_
 refine C4 5 rfl rfl rfl ?_
 refine C4 9 rfl rfl rfl ?_
 refine aP 10 rfl (M1 rfl rfl) rfl ?_
 refine aP 11 rfl (qM rfl) rfl ?_
 refine C4 12 rfl rfl rfl ?_
 refine C4 13 rfl rfl rfl ?_
 refine C4 14 rfl rfl rfl ?_
 refine aP 15 rfl (M1 rfl rfl) rfl ?_
 refine aP 16 rfl (qM rfl) rfl ?_
 refine C4 17 rfl rfl rfl ?_
 refine C4 18 rfl rfl rfl ?_
 refine C4 19 rfl rfl rfl ?_
 refine aP 20 rfl (M1 rfl rfl) rfl ?_
 refine H0 ?_
 exact A1n
 refine aP 2 rfl (qM rfl) rfl ?_
 refine aP 3 rfl (C0 rfl) rfl ?_
 refine aL 4 rfl (C9 rfl rfl) rfl ?_
 refine aP 6 rfl (C0 rfl) rfl ?_
 refine aL 7 rfl (C9 rfl rfl) rfl ?_
 refine aP 8 rfl (pLn rfl rfl) rfl ?_
 refine A3 5 ?_
 refine M5 rfl rfl (hk1) rfl rfl rfl ?_
 refine A0D (i := 9) (l' := [tt,tt,tt,tt,tt,tt,tt,tt,tt,tt,ff,ff,ff,ff,ff,ff,ff,ff,ff,ff,ff]) rfl D5 (M7 rfl rfl) rfl (by kernel_rfl) rfl rfl (fun h51 => ?_) (fun h51 => ?_)
 refine aP 10 rfl (O1 rfl rfl) rfl ?_
 refine aP 11 rfl (qM rfl) rfl ?_
 refine C4 12 rfl rfl rfl ?_
 refine C4 13 rfl rfl rfl ?_
 refine C4 14 rfl rfl rfl ?_
 refine aP 15 rfl (M1 rfl rfl) rfl ?_
 refine aP 16 rfl (qM rfl) rfl ?_
 refine C4 17 rfl rfl rfl ?_
 refine C4 18 rfl rfl rfl ?_
 refine C4 19 rfl rfl rfl ?_
 refine aP 20 rfl (M1 rfl rfl) rfl ?_
 refine H0 ?_
 exact A1n
 refine aP 10 rfl (O1 rfl rfl) rfl ?_
 refine aP 11 rfl (qM rfl) rfl ?_
 refine aP 12 rfl (C0 rfl) rfl ?_
 refine aL 13 rfl (C9 rfl rfl) rfl ?_
 refine A0D (i := 14) (l' := [tt,tt,tt,tt,tt,tt,tt,tt,tt,tt,tt,tt,tt,tt,tt,ff,ff,ff,ff,ff,ff]) rfl D5 (qE rfl rfl) rfl (by kernel_rfl) rfl rfl (fun h79 => ?_) (fun h79 => ?_)
 refine aP 15 rfl (O1 rfl rfl) rfl ?_
 refine aP 16 rfl (qM rfl) rfl ?_
 refine C4 17 rfl rfl rfl ?_
 refine C4 18 rfl rfl rfl ?_
 refine C4 19 rfl rfl rfl ?_
 refine aP 20 rfl (M1 rfl rfl) rfl ?_
 refine H0 ?_
 exact A1n
 refine aP 15 rfl (O1 rfl rfl) rfl ?_
 refine aP 16 rfl (qM rfl) rfl ?_
 refine aL 17 rfl (A4 rfl rfl) rfl ?_
 refine A3 18 ?_
 refine R9 rfl rfl (hl2 (hne (by omega) (by omega))) rfl rfl rfl (fun h102 => ?_) (fun h102 => ?_)
 refine aP 19 rfl (pNt rfl) rfl ?_
 refine aP 20 rfl (O1 rfl rfl) rfl ?_
 refine H0 ?_
 refine B7 ?_
 (refine I3 (fun (i : Nat) => ⟨[(5, .int .i64 i), (2, .pointer (some ⟨b3, 0, none⟩)), (1, .int .i64 d)], [.blk b3 [.int .i64 k, .string nm, .int .i64 num, .int .i64 tk, .slice pt tks.length ct, .int .i64 fk, .slice pf fks.length cf, .int .i64 lb, .slice p ks.length c]], G⟩) (fun i => i ≤ ks.length ∧ ∀ j (h : j < ks.length), j < i → N2 12 14 ks[j] (13 - d + 1) = true) (fun i => ks.length - i) 0 ?_ ?_ ?_)
 exact D3
 exact ⟨by omega, by omega⟩
 (rintro i ⟨hi, hf⟩)
 refine A9 ?_
 refine sB (I8 rfl rfl) rfl rfl (fun h128 => ?_) (fun h128 => ?_)
 refine A7 ?_
 refine B7 ?_
 refine B0 ?_
 (obtain ⟨b, o, e, rfl, hl, hat, hre, hgb⟩ := hsl.kidTm hkl (i := i) (by omega) (by omega); refine sP (B2 rfl rfl rfl (by omega)) rfl rfl ?_)
 refine sL (A0 rfl rfl (hat _) hl) rfl rfl ?_
 refine E0 ?_
 refine sP (V9 rfl rfl (by omega) (by omega)) rfl rfl ?_
 (have hih := ih ks[i] (List.getElem_mem (by omega)) (d - 1) G _ (by omega) hre; rw [show 13 - (d - 1) = 13 - d + 1 by omega] at hih; refine E8 rfl hih rfl rfl (fun h145 => ?_) (fun h145 => ?_))
 refine D9 ?_
 refine sP (E7 rfl rfl (by omega) (by omega)) rfl rfl ?_
 refine A2 ?_
 refine I7 (i + 1) ?_ ?_ ?_
 exact D3
 exact A4i
 omega
 refine J3 ?_
 exact A5K
 refine H1 ?_
 (rw [A2e (by omega) (by omega) (hR.trans (by assumption)), (A05 12 14 ks _).2 (fun j hj => hf j hj (by omega))]; exact ⟨rfl, rfl, rfl⟩)
 refine aP 19 rfl (pNf rfl) rfl ?_
 refine aP 20 rfl (O1 rfl rfl) rfl ?_
 refine H0 ?_
 exact A1n
theorem A5T (t : Tm) (G : IM) (cells : List Value) (hcnt : D6 t ≤ 4294967296) (hr : B3 G t cells) :
  Fn Tryz.prog 135 [.agg ⟨cells⟩] [] G (E5 (.bool (Q1 t)) G) := by
 have hl := hr.len
 have hv := B3e t 12 G cells (by omega) hr
 have hc := fun h => A8v 12 14 t 12 G cells (by omega) h hcnt hr
 have hi := A1q t
 obtain ⟨R, hR⟩ : ∃ R, Q1 t = R := ⟨_, rfl⟩
 rw [hR] at hi ⊢
 refine B8 Tryz.func135 rfl Tryz.ntmps135 Tryz.results135 rfl ?_
 intro w0
 refine A2 ?_
 refine sE (C6 rfl rfl) rfl (fun b3 => ?_)
 refine B0 ?_
 refine sL (A0 rfl rfl (B1 (by repeat first | exact mH | apply mT)) (by assumption)) rfl rfl ?_
 refine E8 rfl (hv) rfl rfl (fun h10 => ?_) (fun h10 => ?_)
 refine E0 ?_
 refine sL (A0 rfl rfl (B1 (by repeat first | exact mH | apply mT)) (by assumption)) rfl rfl ?_
 refine H4 rfl (hc (by assumption)) rfl rfl ?_
 refine sB (W9 rfl rfl) rfl rfl (fun h14 => ?_) (fun h14 => ?_)
 refine A7 ?_
 exact ⟨rfl, by rw [hi.2 ⟨by assumption, by omega⟩], rfl⟩
 refine A7 ?_
 exact A4k
 refine I9 ?_
 exact A4k
def L0 : Tm := .mk 0 ⟨⟨[]⟩⟩ 0 (.mk 0 []) (.mk 0 []) 0 []
theorem N5.zero (G : IM) : N5 G L0 z9 [] := by
 simp only [L0, N5, N0, L7, L8, z9]
 refine ⟨[.int .i64 0, .slice none 0 0], [.int .i64 0, .slice none 0 0], none, 0, [], [], [], [], rfl, ⟨by omega, by omega⟩, ⟨by omega, by omega⟩, ⟨by omega, by omega⟩, ?_, ?_, C8.nil _ _, ⟨rfl, rfl⟩, rfl, by simp [I0]⟩
 ·exact ⟨none, 0, [], [], rfl, ⟨by omega, by omega⟩, C8.nil _ _, ⟨rfl, rfl⟩, rfl, by simp [I0]⟩
 ·exact ⟨none, 0, [], [], rfl, ⟨by omega, by omega⟩, C8.nil _ _, ⟨rfl, rfl⟩, rfl, by simp [I0]⟩
def B6r (t : Tm) (path : List Int) : Tm × Bool := if O9 t = true then (match tAt t path with | some x => (x, true) | none => (L0, false)) else (L0, false)
def TbP (r : Tm × Bool) (G : IM) : IM → Value → List A5 → Prop := L5 fun G' v => ∃ cells F, v = .tuple ⟨[.agg ⟨cells⟩, .bool r.2]⟩ ∧ N5 (B5 G' G) r.1 cells F ∧ F.Nodup
section rlaws
variable {P : Program} {Γ : K8} {env : L6} {hp : List A5} {G : IM} {ty : TypeId}
theorem B3f {x y : Operand} {t el : TypeId} {i : K7} {sz by' : Nat} {zs : List Value} [hI : I2 P t i] (hd' : i.desc = .slice el) [hE : T8 P el sz by' zs] {p : Option Addr} {n c l : Nat}
  (hx : evo env x = some (.slice p n c)) (hy : evo env y = some (.int .i64 (l : Int))) (hl : l ≤ c) :
  J2 P Γ ⟨env, hp, G⟩ (.slice t x none (some y) none) ty (.slice p l c) := by
 refine ⟨fun a _ hs _ _ _ _ w => ?_⟩
 have hu := hI.und
 rw [hd'] at hu
 obtain ⟨d, hE⟩ := hE.ok
 obtain ⟨inf, z, t1, t2, t3, _⟩ := A13 (P := P) (t := el)
 have e1 : a.eval x = _ := hs.evo hx
 have e2 : a.eval y = _ := hs.evo hy
 have hb : ∀ code, (Instr.sliceBound (.int .i64 (l : Int)) c code).run P w = .ok l w := fun code => by
  unfold Instr.sliceBound
  simp only [asIntOf, Sem.run_bind, Sem.run_pure, Result.andThen_ok]
  rw [if_pos ⟨by omega, by omega⟩]
  simp
 simp only [execOp, Option.map, e1, e2, Instr.sliceAt, Sem.run_bind, run_underlying hu, Result.andThen_ok, Instr.slice, Instr.sliceBounds, Sem.run_pure, hb, t3]
 by_cases h : c = 0
 ·subst h; simp
 ·rw [if_neg h]; simp; cases p <;> simp [Addr.add]
end rlaws
def A8M (bs : List UInt8) : List Value := bs.map fun b => .int .u8 (b.toNat : Int)
def rd (br : Nat) (pb : Option Addr) (nb cb p : Nat) : A5 := .blk br [.slice pb nb cb, .int .i64 (p : Int)]
def B3g (br : Nat) (pb : Option Addr) (nb cb p B : Nat) (Φ : IM → Value → Prop) : IM → Value → List A5 → Prop := fun G' v outs => ∃ p', p ≤ p' ∧ p' ≤ p + B ∧ outs = [rd br pb nb cb p'] ∧ Φ G' v
structure A4n {ι : Type} (S : ι → Sy) (φ : ι → Prop) (e : Exit) (σ : Sy) : Prop where
 run : match e with
  | .normal => ∃ i, φ i ∧ Sub σ (S i)
  | _ => False
section cut
variable {P : Program} {Γ : K8} {K : Po} {σ : Sy} {ι : Type}
theorem A3C {c y : Code} (S : ι → Sy) (φ : ι → Prop) (h : K3 P Γ c (A4n S φ) σ) (k : ∀ i, φ i → K3 P Γ y K (S i)) : K3 P Γ c (A0Y P Γ y K) σ := by
 refine tri_post h ?_
 rintro e σ ⟨hk⟩
 cases e with
 | normal => obtain ⟨i, hi, hs⟩ := hk; exact ⟨B05 hs (k i hi)⟩
 | _ => exact hk.elim
where
 tri_post {c : Code} {K K' : Po} {σ : Sy} (h : K3 P Γ c K σ) (hk : ∀ e σ, K e σ → K' e σ) : K3 P Γ c K' σ := A6R h hk
theorem A1r {S : ι → Sy} {φ : ι → Prop} {σ : Sy} (i : ι) (hs : Sub σ (S i)) (h : φ i) : A4n S φ .normal σ := ⟨⟨i, h, hs⟩⟩
theorem B3h {S : ι → Sy} {φ : ι → Prop} : A0a (A4n S φ) := fun _ _ h => h.run
instance npC5 {S : ι → Sy} {φ : ι → Prop} : NpC (A4n S φ) := ⟨B3h⟩
end cut
section take
variable {P : Program} {Γ : K8} {env : L6} {hp : List A5} {G : IM} {K : Po} {ops : Array Oper} {rest : List Oper} {ty : TypeId} {pos : String} {af : Array Edge} {gd : Option (Nat × Bool)}
theorem A1M {d : Nat} {f : FuncId} [hF : B4 P f] {xs : List Operand} {ats : Array TypeId} {vs : List Value} {ins rst : List A5} {post : IM → Value → List A5 → Prop}
  (hx : evl env xs = some vs) (h : Fn P f vs ins G post) (hp' : hp.Perm (ins ++ rst)) (hw : K4 ops env gd = some true) (hd : Nat.blt d Γ.n = true)
  (k : ∀ v G' outs, C5 G G' → post G' v outs → E4 P Γ ops rest K ⟨(d, v) :: env, outs ++ rst, G'⟩) : E4 P Γ ops (⟨some d, .call ⟨.value (.func f), ⟨xs⟩, ats⟩, ty, pos, af, gd⟩ :: rest) K ⟨env, hp, G⟩ :=
 J9 (A10 hx h hp' hd) hw (by rintro _ ⟨v, G', outs, rfl, hle, hq⟩; exact k v G' outs hle hq)
end take
theorem A4o (G : IM) : Fn Tryz.prog 94 [] [] G (E5 (.agg ⟨[.int .i64 1, .slice none 0 0]⟩) G) := by
 refine B8 Tryz.func94 rfl Tryz.ntmps94 Tryz.results94 rfl ?_
 intro w0
 refine A2 ?_
 refine sE (A6 rfl) rfl (fun b3 => ?_)
 refine D9 ?_
 refine L9 (rC rfl (A4 rfl rfl)) ?_
 exact ⟨rfl, rfl, rfl⟩
def dB : Nat → Nat
 | 0 => 0
 | d + 1 => 2 * dB d + 2
theorem C7.ty {G : IM} {k : Int} {ts : List Ty} {es : List (List Value)} {p : Option Addr} {n c : Nat} (h : C7 G ts es) (hn : ts.length = n) (hs : Sl G p n c 2 es.flatten) (hk : H3 k) : C2 G (.mk k ts) [.int .i64 k, .slice p n c] := by
 subst hn
 simp only [C2]
 exact ⟨p, c, es, rfl, hk, C8.of hs h.len h.all (fun e he => (h.each e he).2), h⟩
theorem A2h (G : IM) : C2 G R7 [.int .i64 1, .slice none 0 0] := by
 simp only [R7, C2]
 exact ⟨none, 0, [], rfl, ⟨by omega, by omega⟩, C8.of (Sl.nil _ _) rfl (by simp) (by simp), by simp [C7]⟩
mutual
def B3i : Tm → Tm
 | .mk k nm num ty fr lb ks => if k = 13 ∨ k = 14 then (A5U ks).headD L0 else .mk k nm num (if k = 5 then R7 else C1) C1 0 (A5U ks)
def A5U : List Tm → List Tm
 | [] => []
 | t :: ts => B3i t :: A5U ts
end
def B6s : Tm → Tm
 | .mk k nm num ty fr lb ks => if k = 13 ∨ k = 14 then ks.headD L0 else if k = 5 then .mk k nm num R7 fr lb ks else .mk k nm num ty fr lb ks
def B6t : Tm → Prop
 | .mk k _ _ _ _ _ ks => k = 13 ∨ k = 14 → ks ≠ []
theorem A2V {t : Ty} (h : A0w t = true) : t = C1 := by
 obtain ⟨k, ks⟩ := t
 obtain ⟨h1, h2⟩ : (Ty.mk k ks).k = 0 ∧ (Ty.mk k ks).ks.length = 0 := of_decide_eq_true h
 simp only [Ty.k, Ty.ks] at h1 h2
 have h3 : ks = [] := List.length_eq_zero_iff.1 (by omega)
 rw [h3, C1]
 congr
theorem A0U {D N : Int} {k : Int} {nm : ByteArray} {num : Int} {ty fr : Ty} {lb : Int} {ks : List Tm} {d : Int} (h : N2 D N (.mk k nm num ty fr lb ks) d = true) : d ≤ D ∧ k ≠ N ∧ T3 k nm num ty fr lb ks.length = true ∧ N3 D N ks (d + 1) = true := by
 rw [N2] at h
 simp only [Bool.and_eq_true, decide_eq_true_eq] at h
 exact ⟨h.1.1.1, h.1.1.2, h.1.2, h.2⟩
section slaws
variable {P : Program} {Γ : K8} {env : L6} {hp : List A5} {G : IM} {ty : TypeId}
end slaws
theorem A2W (G : IM) : C2 G C1 [.int .i64 0, .slice none 0 0] := by
 simp only [C1, C2]
 exact ⟨none, 0, [], rfl, ⟨by omega, by omega⟩, C8.of (Sl.nil _ _) rfl (by simp) (by simp), by simp [C7]⟩
theorem A1N (k : Int) : F0 k ≤ 3 := by
 unfold F0; repeat (split; omega)
 omega
theorem B3j (n : Int) (G : IM) : Fn Tryz.prog 159 [.int .i64 n] [] G (E5 (.agg ⟨[.int .i64 2, .string ⟨⟨[]⟩⟩, .int .i64 n, .int .i64 0, .slice none 0 0, .int .i64 0, .slice none 0 0, .int .i64 0, .slice none 0 0]⟩) G) := by
 refine B8 Tryz.func159 rfl Tryz.ntmps159 Tryz.results159 rfl ?_
 intro w0
 refine A2 ?_
 refine sE (A6 rfl) rfl (fun b3 => ?_)
 refine I9 ?_
 refine L9 (rC rfl (A4 rfl rfl)) ?_
 exact ⟨rfl, rfl, rfl⟩
def tB : Nat → Nat
 | 0 => 3
 | d + 1 => 3 * tB d + 20
def B6u (G : IM) : IM → Value → List A5 → Prop := fun G' v outs => G' = G ∧ ∃ br pb nb cb bs, v = .pointer (some ⟨br, 0, none⟩) ∧ outs = [rd br pb nb cb 0] ∧ nb ≤ 2000 ∧ Sl G pb nb cb 1 (A8M bs)
theorem A06 (G : IM) : Fn Tryz.prog 167 [] [] G (E5 (.agg ⟨[.int .i64 2, .slice none 0 0]⟩) G) := by
 refine B8 Tryz.func167 rfl Tryz.ntmps167 Tryz.results167 rfl ?_
 intro w0
 refine A2 ?_
 refine sE (A6 rfl) rfl (fun b3 => ?_)
 refine D9 ?_
 refine L9 (rC rfl (A4 rfl rfl)) ?_
 exact ⟨rfl, rfl, rfl⟩
theorem A3D (G : IM) : Fn Tryz.prog 165 [] [] G (E5 (.agg ⟨[.int .i64 3, .slice none 0 0]⟩) G) := by
 refine B8 Tryz.func165 rfl Tryz.ntmps165 Tryz.results165 rfl ?_
 intro w0
 refine A2 ?_
 refine sE (A6 rfl) rfl (fun b3 => ?_)
 refine D9 ?_
 refine L9 (rC rfl (A4 rfl rfl)) ?_
 exact ⟨rfl, rfl, rfl⟩
theorem A2i (G : IM) (k : Int) (p : Option Addr) (n c : Nat) : Fn Tryz.prog 164 [.int .i64 k, .slice p n c] [] G (E5 (.agg ⟨[.int .i64 k, .string ⟨⟨[]⟩⟩, .int .i64 0, .int .i64 0, .slice none 0 0, .int .i64 0, .slice none 0 0, .int .i64 0, .slice p n c]⟩) G) := by
 refine B8 Tryz.func164 rfl Tryz.ntmps164 Tryz.results164 rfl ?_
 intro w0
 refine A2 ?_
 refine sE (A6 rfl) rfl (fun b3 => ?_)
 refine H0 ?_
 refine L9 (rC rfl (A4 rfl rfl)) ?_
 exact ⟨rfl, rfl, rfl⟩
theorem Q3 (G : IM) {k : Int} (hk : H3 k) : C2 G (.mk k []) [.int .i64 k, .slice none 0 0] := by
 simp only [C2]
 exact ⟨none, 0, [], rfl, hk, C8.of (Sl.nil _ _) rfl (by simp) (by simp), by simp [C7]⟩
theorem B3k (k : Int) : P2 (.mk k []) = 0 := rfl
def TyB (B : Int) (G : IM) : IM → Value → List A5 → Prop := L5 fun G' v => ∃ t cells b, v = .tuple ⟨[.agg ⟨cells⟩, .bool b]⟩ ∧ C2 G' t cells ∧ F8 t ∧ P2 t ≤ B
theorem A8N {k : Int} {a b : Ty} (hk : k = 4 ∨ k = 5) (ha : F8 a) (hb : F8 b) : F8 (.mk k [a, b]) := by
 rw [F8]
 exact ⟨fun _ => rfl, fun h4 h5 => by omega, by simp [A0F, ha, hb]⟩
theorem W2 {k : Int} (h4 : k ≠ 4) (h5 : k ≠ 5) : F8 (.mk k []) := (B3a 0 h4 h5).ar
theorem F8.kid {k : Int} {ks : List Ty} (h : F8 (.mk k ks)) : ∀ t ∈ ks, F8 t := by
 rw [F8] at h; exact A1o.1 h.2.2
theorem F8.two {k : Int} {ks : List Ty} (h : F8 (.mk k ks)) : ks.length ≤ 2 := by
 rw [F8] at h
 have h1 := h.1
 have h2 := h.2.1
 omega
def B6v (B : Int) (G : IM) : IM → Value → List A5 → Prop := L5 fun G' v => ∃ a ca b cb x, v = .tuple ⟨[.agg ⟨ca⟩, .agg ⟨cb⟩, .bool x]⟩ ∧ C2 G' a ca ∧ F8 a ∧ P2 a ≤ B ∧ C2 G' b cb ∧ F8 b ∧ P2 b ≤ B
def TyP (B : Int) (Q : Ty → Prop) (G : IM) : IM → Value → List A5 → Prop := L5 fun G' v => ∃ t cells, v = .agg ⟨cells⟩ ∧ C2 G' t cells ∧ F8 t ∧ P2 t ≤ B ∧ Q t
theorem B3l {k : Int} {ks us : List Ty} (h : F8 (.mk k ks)) (hl : us.length = ks.length) (hu : ∀ u ∈ us, F8 u) : F8 (.mk k us) := by
 rw [F8] at h ⊢
 exact ⟨fun hk => by rw [hl]; exact h.1 hk, fun a b => by rw [hl]; exact h.2.1 a b, A1o.2 hu⟩
theorem A4p {P : Ty → Prop} {us : List Ty} {u : Ty} (h : ∀ x ∈ us, P x) (hu : P u) : ∀ x ∈ us ++ [u], P x := by
 simp only [List.forall_mem_append, List.forall_mem_singleton]; exact ⟨h, hu⟩
theorem A1O : ∀ (t t' : Ty) (G : IM) (cells cells' : List Value), F8 t → F8 t' → C2 G t cells → C2 G t' cells' →
  Fn Tryz.prog 163 [.agg ⟨cells⟩, .agg ⟨cells'⟩] [] G (E5 (.bool (K0 t t')) G) := by
 refine Ty.ind fun k ks ih t' G cells cells' ha ha' hr hr' => ?_
 obtain ⟨k', ks'⟩ := t'
 obtain ⟨p, c, es, rfl, hk, hsl, hkl⟩ := hr.open
 obtain ⟨p', c', es', rfl, hk', hsl', hkl'⟩ := hr'.open
 simp only [Ty.k, Ty.ks] at hk hsl hkl hk' hsl' hkl' ⊢
 have hn := hsl.le
 have hn' := hsl'.le
 have hv2 := ha.kid
 have hv2' := ha'.kid
 rw [F8] at ha ha'
 have hle : k = k' → ks.length = ks'.length := by
  rintro rfl
  have h1 := ha.1
  have h2 := ha.2.1
  have h3 := ha'.1
  have h4 := ha'.2.1
  omega
 refine B8 Tryz.func163 rfl Tryz.ntmps163 Tryz.results163 rfl ?_
 intro w0
 refine A2 ?_
 refine sE (C6 rfl rfl) rfl (fun b3 => ?_)
 refine sE (C6 rfl rfl) rfl (fun b4 => ?_)
 refine D0 ?_
 refine sB (qE rfl rfl) rfl rfl (fun h13 => ?_) (fun h13 => ?_)
 refine J3 ?_
 exact A4j
 refine B9 ?_
 refine sB (qE rfl rfl) rfl rfl (fun h34 => ?_) (fun h34 => ?_)
 refine J8 ?_
 exact A4j
 refine J6 ?_
 refine sB (M7 rfl rfl) rfl rfl (fun h61 => ?_) (fun h61 => ?_)
 refine H0 ?_
 (rw [A8k (by omega) (by omega) (by omega)]; exact ⟨rfl, rfl, rfl⟩)
 refine H0 ?_
 refine B7 ?_
 (have hll : ks.length = ks'.length := hle (by omega); refine I3 (fun (i : Nat) => ⟨[(5, .int .i64 i), (3, .pointer (some ⟨b4, 0, none⟩)), (2, .pointer (some ⟨b3, 0, none⟩))], [.blk b3 [.int .i64 k, .slice p ks.length c], .blk b4 [.int .i64 k', .slice p' ks'.length c']], G⟩) (fun i => i ≤ ks.length ∧ ∀ j (h : j < ks.length) (h' : j < ks'.length), j < i → K0 ks[j] ks'[j] = true) (fun i => ks.length - i) 0 ?_ ?_ ?_)
 exact D3
 exact ⟨by omega, by omega⟩
 (rintro i ⟨hi, hf⟩)
 refine A9 ?_
 refine sB (I8 rfl rfl) rfl rfl (fun h97 => ?_) (fun h97 => ?_)
 refine A7 ?_
 refine B7 ?_
 refine tS ?_
 (obtain ⟨b, o, p2, c2, rfl, hat, hre, hgb⟩ := hsl.kidTy hkl (i := i) (by omega) (by omega); obtain ⟨b', o', p2', c2', rfl, hat', hre', hgb'⟩ := hsl'.kidTy hkl' (i := i) (by omega) (by omega); refine E1 E3 rfl ?_)
 refine K2 (i := 0) (l' := [tt,ff,ff,ff,ff,ff,ff,ff,ff,ff,ff,ff]) rfl D5 (C0 rfl) rfl (by kernel_rfl) rfl rfl ?_
 refine aL 1 rfl (C9 rfl rfl) rfl ?_
 refine aP 2 rfl (qM rfl) rfl ?_
 refine aP 3 rfl (B2 rfl rfl rfl (by omega)) rfl ?_
 refine aL 4 rfl (A0 rfl rfl (hat _) rfl) rfl ?_
 refine aP 5 rfl (C0 rfl) rfl ?_
 refine aL 6 rfl (C9 rfl rfl) rfl ?_
 refine aP 7 rfl (qM rfl) rfl ?_
 refine aP 8 rfl (B2 rfl rfl rfl (by omega)) rfl ?_
 refine aL 9 rfl (A0 rfl rfl (hat' _) rfl) rfl ?_
 refine A3 10 ?_
 refine R9 rfl rfl (ih ks[i] (List.getElem_mem (by omega)) ks'[i] G _ _ (hv2 _ (List.getElem_mem (by omega))) (hv2' _ (List.getElem_mem (by omega))) hre hre') rfl rfl rfl (fun h118 => ?_) (fun h118 => ?_)
 refine aP 11 rfl (pNt rfl) rfl ?_
 refine D0 ?_
 refine sP (E7 rfl rfl (by omega) (by omega)) rfl rfl ?_
 refine A2 ?_
 refine I7 (i + 1) ?_ ?_ ?_
 exact D3
 exact A8m
 omega
 refine aP 11 rfl (pNf rfl) rfl ?_
 refine H1 ?_
 exact A8n
 refine H1 ?_
 exact A8o
theorem At.sub {hp : List A5} {G : IM} {b o j : Nat} {vs : List Value} {v : Value} (h : At hp G b o vs) (hj : vs[j]? = some v) : At hp G b (o + j) [v] := by
 have key : ∀ {cs : List Value}, (∀ i u, vs[i]? = some u → cs[o + i]? = some u) → ∀ i u, [v][i]? = some u → cs[o + j + i]? = some u := by
  intro cs hc i u hu
  cases i with
  | zero => simp at hu; subst hu; simpa using hc j v hj
  | succ i => simp at hu
 rcases h with ⟨cs, hm, hv⟩ | ⟨n, c, el, sz, cs, hm, hv⟩ | ⟨full, hg, hv⟩
 ·exact .inl ⟨cs, hm, key hv⟩
 ·exact .inr (.inl ⟨n, c, el, sz, cs, hm, key hv⟩)
 ·exact .inr (.inr ⟨full, hg, key hv⟩)
def HTm (G : IM) (t : Tm) (k : Int) (cells : List Value) : Prop := ∃ pt ct et pf cf ef p c es,
 cells = [.int .i64 t.k, .string t.nm, .int .i64 t.num, .int .i64 t.ty.k, .slice pt t.ty.ks.length ct, .int .i64 t.fr.k, .slice pf t.fr.ks.length cf, .int .i64 t.lb, .slice p t.ks.length c] ∧
 C8 G pt t.ty.ks.length ct 2 et ∧ C7 G (P3 t.ty.ks k) et ∧ C8 G pf t.fr.ks.length cf 2 ef ∧ C7 G (P3 t.fr.ks (k + I4 t.ty.ks)) ef ∧ C8 G p t.ks.length c 9 es ∧ D7 G (V0 t.ks (k + I4 t.ty.ks + I4 t.fr.ks)) es
theorem B3m {nm : ByteArray} (h : A0P nm = true) : nm.size = 1 := by
 unfold A0P at h
 simp at h
 omega
theorem A8O {k : Int} {nm : ByteArray} {num : Int} {ty fr : Ty} {lb : Int} {n : Nat} (h : T3 k nm num ty fr lb n = true) : nm.size ≤ 1 := by
 obtain ⟨_, h2, h3, _⟩ := U0.1 h
 by_cases hk : k = 1 ∨ k = 5
 ·rw [B3m (h2 hk)]; omega
 ·rw [h3 hk]; decide
def RBd (G : IM) (e : List Value) : Prop := ∃ nm t q d, e = [.string nm, .int .i64 t.k, .slice q t.ks.length d] ∧ C2 G t [.int .i64 t.k, .slice q t.ks.length d] ∧ F8 t ∧ P2 t ≤ 30 ∧ nm.size ≤ 1
def GCx (G : IM) (p : Option Addr) (n c : Nat) : Prop := ∃ es, es.length = n ∧ C8 G p n c 3 es ∧ ∀ e ∈ es, RBd G e
theorem At.drop {hp : List A5} {G : IM} {b o : Nat} {v : Value} {vs : List Value} (h : At hp G b o (v :: vs)) : At hp G b (o + 1) vs := by
 have key : ∀ {cs : List Value}, (∀ i u, (v :: vs)[i]? = some u → cs[o + i]? = some u) → ∀ i u, vs[i]? = some u → cs[o + 1 + i]? = some u := by
  intro cs hc i u hu
  have := hc (i + 1) u (by simpa using hu)
  rwa [show o + 1 + i = o + (i + 1) by omega]
 rcases h with ⟨cs, hm, hv⟩ | ⟨n, c, el, sz, cs, hm, hv⟩ | ⟨full, hg, hv⟩
 ·exact .inl ⟨cs, hm, key hv⟩
 ·exact .inr (.inl ⟨n, c, el, sz, cs, hm, key hv⟩)
 ·exact .inr (.inr ⟨full, hg, key hv⟩)
theorem B3n (G : IM) : Fn Tryz.prog 183 [.slice none 0 0] [] G (E5 (.bool true) G) := by
 refine B8 Tryz.func183 rfl Tryz.ntmps183 Tryz.results183 rfl ?_
 intro w0
 refine H0 ?_
 refine B7 ?_
 (refine I3 (fun (_ : Nat) => ⟨[(3, .int .i64 0), (0, .slice none 0 0)], [], G⟩) (fun _ => True) (fun i => i) 0 ?_ ?_ ?_)
 ·exact D3
 ·trivial
 ·(rintro i _)
  refine A7 ?_
  refine sP (S5 rfl rfl (by omega)) rfl rfl ?_
  refine J8 ?_
  refine sP (A64 rfl rfl (by omega)) rfl rfl ?_
  refine B0 ?_
  trivial
theorem A2X {k : Int} {n : Nat} (h : F0 k = n) : (k = 6 ∨ k = 7 ∨ k = 8 ∨ k = 10 → n = 2) ∧ (k = 9 → n = 3) ∧ (k = 5 ∨ k = 11 ∨ k = 12 ∨ k = 13 → n = 1) := by
 refine ⟨?_, ?_, ?_⟩
 ·rintro (rfl | rfl | rfl | rfl)
  ·rw [show F0 6 = 2 from rfl] at h; omega
  ·rw [show F0 7 = 2 from rfl] at h; omega
  ·rw [show F0 8 = 2 from rfl] at h; omega
  ·rw [show F0 10 = 2 from rfl] at h; omega
 ·rintro rfl
  rw [show F0 9 = 3 from rfl] at h; omega
 ·rintro (rfl | rfl | rfl | rfl)
  ·rw [show F0 5 = 1 from rfl] at h; omega
  ·rw [show F0 11 = 1 from rfl] at h; omega
  ·rw [show F0 12 = 1 from rfl] at h; omega
  ·rw [show F0 13 = 1 from rfl] at h; omega
theorem B3o : ∀ (t : Ty) (d : Int), O6 t d = true → F8 t := by
 refine Ty.ind fun k ks ih d h => ?_
 obtain ⟨h1, h2⟩ := A3x h
 rw [F8]
 refine ⟨fun hk => ?_, fun h4 h5 => ?_, A1o.2 fun t ht => ?_⟩
 ·have := (A16 k).2.1 hk
  omega
 ·have h5' := A16 k
  have h6 := h5'.1
  have h7 := h5'.2.2
  omega
 ·obtain ⟨i, hi, rfl⟩ := List.getElem_of_mem ht
  exact ih _ ht _ (h2 i hi)
theorem B3p : ∀ (n : Nat) (t : Ty) (d : Int), O6 t d = true → 4 - d ≤ n → Y4 n t := by
 intro n
 induction n with
 | zero =>
  rintro ⟨k, ks⟩ d h hd
  obtain ⟨h1, h2⟩ := A3x h
  have hks : ks.length = 0 := by
   rcases Nat.eq_zero_or_pos ks.length with h0 | h0
   ·exact h0
   ·have h3 := h2 0 h0
    obtain ⟨k', ks'⟩ : Ty := ks[0]
    have h4 : ∀ (u : Ty) (d : Int), O6 u d = true → d ≤ 4 := by
     rintro ⟨a, b⟩ d hu
     rw [O6] at hu
     simp only [Bool.and_eq_true, decide_eq_true_eq] at hu
     exact hu.1.1
    have := h4 _ _ h3
    omega
  have h5 := A16 k
  have h6 := h5.2.1
  exact ⟨List.length_eq_zero_iff.1 hks, by intro h; have := h6 (.inl h); omega, by intro h; have := h6 (.inr h); omega⟩
 | succ n ih =>
  rintro ⟨k, ks⟩ d h hd
  have ha := B3o _ _ h
  rw [F8] at ha
  obtain ⟨h1, h2⟩ := A3x h
  refine ⟨ha.1, ha.2.1, fun t ht => ?_⟩
  obtain ⟨i, hi, rfl⟩ := List.getElem_of_mem ht
  exact ih _ _ (h2 i hi) (by omega)
theorem A4q {t : Ty} (h : H5 t = true) : F8 t ∧ P2 t ≤ 30 := by
 have h1 := B3p 3 t 1 h (by omega)
 have h2 := A5P h1
 have h3 : ((2 ^ (3 + 1) - 2 : Nat) : Int) = 14 := rfl
 exact ⟨h1.ar, by omega⟩
theorem B3q {t : Ty} (h : A0w t = true) : F8 t ∧ P2 t ≤ 30 := by
 rw [A2V h]
 exact ⟨W2 (by decide) (by decide), by rw [C1, B3k]; omega⟩
theorem A2Y {k : Int} {nm : ByteArray} {num : Int} {ty fr : Ty} {lb : Int} {n : Nat} (h : T3 k nm num ty fr lb n = true) : F8 ty ∧ P2 ty ≤ 30 := by
 have hn := U0.1 h
 by_cases hk : k = 5 ∨ k = 13 ∨ k = 14
 ·exact A4q (hn.2.2.2.2.2.1 hk)
 ·exact B3q (hn.2.2.2.2.2.2.1 hk)
theorem B3.of9 {G : IM} {k : Int} {nm : ByteArray} {num tk fk : Int} {tks fks : List Ty} {lb : Int} {ks : List Tm} {q1 q2 q3 : Option Addr} {c1 c2 c3 : Nat} {es : List (List Value)} (hk : H3 k) (hnum : H3 num) (hlb : H3 lb) (hty : C2 G (.mk tk tks) [.int .i64 tk, .slice q1 tks.length c1])
  (hfr : C2 G (.mk fk fks) [.int .i64 fk, .slice q2 fks.length c2]) (hsl : C8 G q3 ks.length c3 9 es) (hkl : D7 G ks es) :
  B3 G (.mk k nm num (.mk tk tks) (.mk fk fks) lb ks) [.int .i64 k, .string nm, .int .i64 num, .int .i64 tk, .slice q1 tks.length c1, .int .i64 fk, .slice q2 fks.length c2, .int .i64 lb, .slice q3 ks.length c3] := by
 simp only [B3]
 exact ⟨_, _, q3, c3, es, rfl, hk, hnum, hlb, hty, hfr, hsl, hkl⟩
def Tm.fit (t : Tm) (N : Nat) : Prop := t.small ∧ D6 t ≤ N
section slaw
variable {P : Program} {Γ : K8} {env : L6} {hp : List A5} {G : IM} {ty : TypeId} {K : Po} {ops : Array Oper} {rest : List Oper}
theorem B3r {x y : Operand} {t el : TypeId} {i : K7} {sz by' : Nat} {zs : List Value} [hI : I2 P t i] (hd' : i.desc = .slice el) [hE : T8 P el sz by' zs] {b o n c l : Nat}
  (hx : evo env x = some (.slice (some ⟨b, o, none⟩) n c)) (hy : evo env y = some (.int .i64 (l : Int))) (hl : l ≤ n) :
  J2 P Γ ⟨env, hp, G⟩ (.slice t x (some y) none none) ty (.slice (some ⟨b, if c = l then o else o + l * sz, none⟩) (n - l) (c - l)) := by
 refine ⟨fun a _ hs _ _ _ _ w => ?_⟩
 have hu := hI.und
 rw [hd'] at hu
 obtain ⟨d, hE⟩ := hE.ok
 obtain ⟨inf, z, t1, t2, t3, _⟩ := A13 (P := P) (t := el)
 have e1 : a.eval x = _ := hs.evo hx
 have e2 : a.eval y = _ := hs.evo hy
 have hb : ∀ code, (Instr.sliceBound (.int .i64 (l : Int)) n code).run P w = .ok l w := fun code => by
  have := run_sliceBound (P := P) w .i64 (l : Int) n code (by omega) (by omega)
  simpa using this
 simp only [execOp, Option.map, e1, e2, Instr.sliceAt, Sem.run_bind, run_underlying hu, Result.andThen_ok, Instr.slice, Instr.sliceBounds, Sem.run_pure, hb, t3]
 by_cases h : c = l
 ·simp [h]
 ·simp [h, A1W]
theorem Sl.from {G : IM} {b o n c l sz : Nat} {cs : List Value} (h : Sl G (some ⟨b, o, none⟩) n c sz cs) (hl : l ≤ n) : Sl G (some ⟨b, if c = l then o else o + l * sz, none⟩) (n - l) (c - l) sz (cs.drop (l * sz)) := by
 obtain ⟨h1, h2, h3, h4⟩ := h
 refine ⟨by rw [List.length_drop, h1, Nat.sub_mul], by omega, by omega, ?_⟩
 by_cases h : c = l
 ·left; omega
 ·rcases h4 with h0 | ⟨b', o', full, he, hg, hv⟩
  ·left; omega
  ·right
   cases he
   rw [if_neg h]
   refine ⟨b, _, full, rfl, hg, fun j v hj => ?_⟩
   rw [List.getElem?_drop] at hj
   have := hv _ v hj
   rw [Nat.add_assoc]; exact this
theorem St.slc_open {a : Act} {w : World} {p : Option Addr} {c el sz n : Nat} {cs : List Value} {hp' : List A5} (hs : St Γ ⟨env, hp, G⟩ a w) (hk : Pk hp (.slc p c el sz n cs) hp') (h0 : 0 < n) :
  ∃ b C, p = some ⟨b, 0, none⟩ ∧ n ≤ c ∧ c ≤ maxLen ∧ St Γ ⟨env, .blk b (cs ++ C) :: hp', G⟩ a w := by
 have hown : R0 [.slc p c el sz n cs] G w := hs.res.own.of_mem hk.perm
 obtain ⟨hl, h⟩ := hown.ok _ List.mem_cons_self
 rcases h with ⟨hv, hn⟩ | ⟨g, cap, cur, hv, _, hg, hnc, hcm, hsz, ht⟩
 ·omega
 ·cases hv
  refine ⟨g, cur.toList.drop cs.length, rfl, hnc, hcm, ?_⟩
  have hcur : cur.toList = cs ++ cur.toList.drop cs.length := by
   have e : cs.length = n * sz := hl
   rw [e]
   conv => lhs; rw [← List.take_append_drop (n * sz) cur.toList, ht]
  have hr : O3 [.slc (some ⟨g, 0, none⟩) c el sz n cs] G w [.blk g (cs ++ cur.toList.drop cs.length)] G w := by
   refine ⟨⟨hown.inn, ?_, by simp [Fp, A5.fp], ?_⟩, Ext.refl _ _, C5.refl _, fun _ _ h => .inl h, ?_, fun b l h h0 => absurd h (by rw [h0]; simp)⟩
   ·intro e he
    simp at he; subst he
    refine ⟨el, ?_⟩
    rw [← hcur]; simpa using hg
   ·intro b' hb; exact hown.disj b' (by simpa [Fp, A5.fp, I0] using hb)
   ·intro b' hb; exact .inr (by simpa [Fp, A5.fp, I0] using hb)
  exact ⟨hs.size, hs.nod, hs.env, by have := (hs.res.perm hk.perm).frame hr; simpa using this⟩
theorem A3E {p : Option Addr} {c el sz n : Nat} {cs : List Value} {hp' : List A5} (hk : Pk hp (.slc p c el sz n cs) hp') (h0 : 0 < n)
  (h : ∀ b C, p = some ⟨b, 0, none⟩ → n ≤ c → c ≤ maxLen → E4 P Γ ops rest K ⟨env, .blk b (cs ++ C) :: hp', G⟩) : E4 P Γ ops rest K ⟨env, hp, G⟩ :=
 ⟨fun a w hs => let ⟨b, C, h1, h2, h3, h4⟩ := hs.slc_open hk h0; (h b C h1 h2 h3).run a w h4⟩
end slaw
theorem B3s {es : List (List Value)} {j : Nat} {vs : List Value} (hj : j < es.length) : (es.set j vs).flatten = (es.take j).flatten ++ (vs ++ (es.drop (j + 1)).flatten) := by
 rw [List.set_eq_take_append_cons_drop, if_pos hj]; simp
theorem A8P {es : List (List Value)} {j : Nat} (hj : j < es.length) : es.flatten = (es.take j).flatten ++ (es[j] ++ (es.drop (j + 1)).flatten) := by
 have h := congrArg List.flatten (List.take_append_drop j es).symm
 rw [List.drop_eq_getElem_cons hj, List.flatten_append, List.flatten_cons] at h
 exact h
theorem A3F {es : List (List Value)} {C vs : List Value} {j sz : Nat} (hj : j < es.length) (ha : ∀ e ∈ es, e.length = sz) (hv : vs.length = sz) : O4 (es.flatten ++ C) (0 + j * sz) vs = some ((es.set j vs).flatten ++ C) := by
 have := A3p (A := (es.take j).flatten) (B := es[j]) (C := (es.drop (j + 1)).flatten ++ C) (V := vs) (o := 0 + j * sz)
  (by rw [Z4 (fun e he => ha e (List.mem_of_mem_take he)), List.length_take]; rw [Nat.min_eq_left (by omega)]; omega) (by rw [ha _ (List.getElem_mem hj), hv])
 rw [A8P hj, B3s hj]
 simp only [List.append_assoc] at this ⊢
 exact this
theorem D7.set {G : IM} : ∀ {ks : List Tm} {es : List (List Value)} {j : Nat} {y : Tm} {v : List Value}, D7 G ks es → B3 G y v → D7 G (ks.set j y) (es.set j v)
 | [], es, j, y, v, h, h2 => by simp only [D7] at h; subst h; simp [D7]
 | t :: ts, es, 0, y, v, h, h2 => by
  simp only [D7] at h
  obtain ⟨a, r, rfl, h3, h4⟩ := h
  simp only [List.set_cons_zero, D7]
  exact ⟨v, r, rfl, h2, h4⟩
 | t :: ts, es, j + 1, y, v, h, h2 => by
  simp only [D7] at h
  obtain ⟨a, r, rfl, h3, h4⟩ := h
  simp only [List.set_cons_succ, D7]
  exact ⟨a, r.set j v, rfl, h3, D7.set h4 h2⟩
def A8Q : Tm → List Int → Tm → Tm
 | _, [], x => x
 | .mk k nm num ty fr lb ks, i :: is, x => if h : 0 ≤ i ∧ i < ks.length then .mk k nm num ty fr lb (ks.set i.toNat (A8Q (ks[i.toNat]'(by omega)) is x)) else .mk k nm num ty fr lb ks
def TyV (e : Tm) (G : IM) : IM → Value → List A5 → Prop := L5 fun G' v => ∃ t cells b, v = .tuple ⟨[.agg ⟨cells⟩, .bool b]⟩ ∧ C2 G' t cells ∧ F8 t ∧ P2 t ≤ 960 ∧ (b = true → Q1 e = true)
theorem A2Z {G : IM} {e : Tm} {ce : List Value} {p : Option Addr} {c : Nat} (hr : B3 G e ce) (hs : Sl G p 1 c 9 ce) : C8 G p [e].length c 9 [ce] ∧ D7 G [e] [ce] := by
 refine ⟨C8.of (by simpa using hs) rfl (fun x hx => by simp only [List.mem_singleton] at hx; subst hx; exact hr.len) (fun x hx => by simp only [List.mem_singleton] at hx; subst hx; exact hr.one), ?_⟩
 simp only [D7]
 exact ⟨ce, [], rfl, hr, rfl⟩
def B6w (e : Tm) (label : Int) (G : IM) : IM → Value → List A5 → Prop := L5 fun G' v => ∃ u cu l', v = .tuple ⟨[.agg ⟨cu⟩, .int .i64 l']⟩ ∧ B3 G' u cu ∧ (e.small → u.small) ∧ D6 u ≤ D6 e + 1 ∧ label ≤ l' ∧ l' ≤ label + 1
def B6x (n : Nat) (G : IM) : IM → Value → List A5 → Prop := L5 fun G' v => ∃ p c es ws, v = .slice p n c ∧ ws.length = n ∧ C8 G' p n c 2 es ∧ C7 G' ws es ∧ ∀ w ∈ ws, F8 w
theorem D7.at2 {G : IM} {ts : List Tm} {es : List (List Value)} {i : Nat} (h : D7 G ts es) (h1 : i < ts.length) (h2 : i < es.length) : i < es.length ∧ B3 G ts[i] es[i] := by
 have := (h.inv (List.getElem?_eq_getElem h2) L0).2
 rw [List.getD_eq_getElem?_getD, List.getElem?_eq_getElem h1] at this
 exact ⟨h2, this⟩
mutual
theorem A8R : ∀ (t : Tm) (d : Int), N2 12 14 t d = true → t.small
 | .mk k nm num ty fr lb ks, d, h => by
  obtain ⟨h1, h2, h3, h4⟩ := A0U h
  have hn := U0.1 h3
  rw [Tm.small]
  refine ⟨?_, (A2Y h3).1.small, ?_, ?_, A8S ks _ h4⟩
  ·by_cases hk : k = 1 ∨ k = 5
   ·have := hn.2.1 hk
    simp only [A0P, decide_eq_true_eq] at this
    omega
   ·rw [hn.2.2.1 hk]; decide
  ·rw [A2V (hn.2.2.2.2.2.2.2.2 (by omega)).1]
   simp [C1, Ty.small, Ty.smallL]
  ·have := A1N k
   omega
theorem A8S : ∀ (ts : List Tm) (d : Int), N3 12 14 ts d = true → Tm.smallL ts
 | [], d, h => by rw [Tm.smallL]; trivial
 | t :: ts, d, h => by
  rw [N3, Bool.and_eq_true] at h
  rw [Tm.smallL]
  exact ⟨A8R t d h.1, A8S ts d h.2⟩
end
theorem A4r {hp : List A5} {G : IM} {b sz i : Nat} {es : List (List Value)} {C : List Value} (hm : A5.blk b (es.flatten ++ C) ∈ hp) (hi : i < es.length) (ha : ∀ e ∈ es, e.length = sz) : At hp G b (0 + i * sz) es[i] := by
 refine .inl ⟨_, hm, fun j u hu => ?_⟩
 rw [A8P hi, List.append_assoc, List.append_assoc]
 have hl : (es.take i).flatten.length = i * sz := by
  rw [Z4 (fun e he => ha e (List.mem_of_mem_take he)), List.length_take, Nat.min_eq_left (by omega)]
 have hj : j < es[i].length := (List.getElem?_eq_some_iff.1 hu).1
 rw [List.getElem?_append_right (by omega), show 0 + i * sz + j - (es.take i).flatten.length = j by omega, List.getElem?_append_left hj]
 exact hu
def B6y (e : Tm) (label : Int) (G : IM) : IM → Value → List A5 → Prop := L5 fun G' v => ∃ u cu t ct l', v = .tuple ⟨[.agg ⟨cu⟩, .agg ⟨ct⟩, .int .i64 l']⟩ ∧ B3 G' u cu ∧ u.small ∧ D6 u + 1 ≤ 2 * D6 e ∧ C2 G' t ct ∧ F8 t ∧ P2 t ≤ 32 * (D6 e : Int) ∧ label ≤ l' ∧ l' + 1 ≤ label + 2 * (D6 e : Int)
def T5 (t : Ty) : Ty := if t.k = 4 ∨ t.k = 5 then .mk t.k [R7, R7] else .mk t.k []
def V5 (t : Ty) : Bool := decide (t.k ≠ 1) && M2 t (T5 t)
def P6 (t : Tm) : Bool := decide (t.k = 14 ∧ t.fr.k = t.ty.k ∧ (t.ty.k = 4 ∨ t.ty.k = 5))
def inj (t : Tm) : Bool := decide (t.k = 14 ∧ t.ty.k = 1) && V5 t.fr
mutual
def J4 : Tm → Bool
 | .mk k nm num ty fr lb ks => if k = 10 ∨ (k = 14 ∧ fr.k = ty.k ∧ (ty.k = 4 ∨ ty.k = 5)) ∨ (k = 14 ∧ ty.k = 1 ∧ V5 fr = true) then A4s ks else decide (k = 2 ∨ k = 3 ∨ k = 4 ∨ k = 5)
def A4s : List Tm → Bool
 | [] => true
 | t :: ts => J4 t && A4s ts
end
mutual
def A0s (x : ByteArray) (v : Tm) : Tm → Tm
 | .mk k nm num ty fr lb ks => if k = 1 ∧ nm = x then v else if k = 5 ∧ nm = x then .mk k nm num ty fr lb ks else .mk k nm num ty fr lb (Y7 x v ks)
def Y7 (x : ByteArray) (v : Tm) : List Tm → List Tm
 | [] => []
 | t :: ts => A0s x v t :: Y7 x v ts
end
theorem A4t (x : ByteArray) (v : Tm) : ∀ ks, Y7 x v ks = ks.map (A0s x v)
 | [] => rfl
 | t :: ts => by rw [Y7, A4t x v ts, List.map_cons]
def K6 (e : Tm) (fr to : Ty) (lb : Int) : Tm := .mk 14 ⟨#[]⟩ 0 to fr lb [e]
def A0f (k : Int) (ks : List Tm) : Tm := .mk k ⟨#[]⟩ 0 C1 C1 0 ks
def A2j (n : Int) : Tm := .mk 2 ⟨#[]⟩ n C1 C1 0 []
def A0g (b : Prop) [Decidable b] : Tm := A0f (if b then 3 else 4) []
abbrev Stp := Tm × Int × Int
def P7 : Stp := (L0, 3, 0)
def kd (ks : List Tm) (i : Nat) : Tm := ks.getD i L0
def kt (ks : List Ty) (i : Nat) : Ty := ks.getD i C1
def N9 (k : Int) (ty fr : Ty) (lb : Int) (ks : List Tm) : Stp :=
 if k = 6 then
  (if (kd ks 0).k = 5 then (A0s (kd ks 0).nm (kd ks 1) (kd (kd ks 0).ks 0), 1, 0)
   else if P6 (kd ks 0) = true ∧ (kd ks 0).ty.k = 4 then (K6 (A0f 6 [kd (kd ks 0).ks 0, K6 (kd ks 1) (kt (kd ks 0).ty.ks 0) (kt (kd ks 0).fr.ks 0) (-(kd ks 0).lb)]) (kt (kd ks 0).fr.ks 1) (kt (kd ks 0).ty.ks 1) (kd ks 0).lb, 1, 0)
   else P7)
 else if k = 7 ∨ k = 8 then
  (if (kd ks 0).k = 2 ∧ (kd ks 1).k = 2 then (if k = 7 then A2j (((kd ks 0).num + (kd ks 1).num) % 1000) else A0g ((kd ks 0).num < (kd ks 1).num), 1, 0) else P7)
 else if k = 9 then (if (kd ks 0).k = 3 then (kd ks 1, 1, 0) else if (kd ks 0).k = 4 then (kd ks 2, 1, 0) else P7)
 else if k = 11 ∨ k = 12 then
  (if (kd ks 0).k = 10 then (kd (kd ks 0).ks (k - 11).toNat, 1, 0)
   else if P6 (kd ks 0) = true ∧ (kd ks 0).ty.k = 5 then (K6 (A0f k [kd (kd ks 0).ks 0]) (kt (kd ks 0).fr.ks (k - 11).toNat) (kt (kd ks 0).ty.ks (k - 11).toNat) (kd ks 0).lb, 1, 0)
   else P7)
 else if k = 14 then
  (if fr.k = ty.k then (kd ks 0, 1, 0)
   else if ty.k = 1 then (K6 (K6 (kd ks 0) fr (T5 fr) lb) (T5 fr) ty lb, 1, 0)
   else if V5 ty = false then (K6 (K6 (kd ks 0) fr (T5 ty) lb) (T5 ty) ty lb, 1, 0)
   else if inj (kd ks 0) = false then P7
   else if (kd ks 0).fr.k = ty.k then (kd (kd ks 0).ks 0, 1, 0)
   else (L0, 2, lb))
 else P7
mutual
def J5 : Tm → Stp
 | .mk k nm num ty fr lb ks => match Z7 (if k = 9 then 1 else ks.length) ks with
  | some (ks', c, l) => if c = 1 then (.mk k nm num ty fr lb ks', 1, 0) else (L0, c, l)
  | none => N9 k ty fr lb ks
def Z7 : Nat → List Tm → Option (List Tm × Int × Int)
 | _, [] => none
 | n, t :: ts => match n with
  | 0 => none
  | n + 1 => if J4 t = true then (match Z7 n ts with
    | some (us, c, l) => some (t :: us, c, l)
    | none => none)
   else some ((J5 t).1 :: ts, (J5 t).2.1, (J5 t).2.2)
end
def J0 (e : Tm) : Stp :=
 if O9 e = false then P7 else if J4 e = true then (e, 0, 0)
 else if (J5 e).2.1 ≠ 1 then (L0, (J5 e).2.1, (J5 e).2.2)
 else if O9 (J5 e).1 = false then (L0, 4, 0) else ((J5 e).1, 1, 0)
def Q4 : Nat → Tm → Tm × Int × Int × Nat
 | 0, e => if (J0 e).2.1 = 1 then (L0, 5, 0, 0) else ((J0 e).1, (J0 e).2.1, (J0 e).2.2, 0)
 | n + 1, e => if (J0 e).2.1 = 1 then ((Q4 n (J0 e).1).1, (Q4 n (J0 e).1).2.1, (Q4 n (J0 e).1).2.2.1, (Q4 n (J0 e).1).2.2.2 + 1)
  else ((J0 e).1, (J0 e).2.1, (J0 e).2.2, 0)
def S2 (e : Tm) (fuel : Int) : Stp := if 0 ≤ fuel ∧ fuel ≤ 300 then ((Q4 fuel.toNat e).1, (Q4 fuel.toNat e).2.1, (Q4 fuel.toNat e).2.2.1) else P7
def B6z (e : Tm) (fuel : Int) : Int := if 0 ≤ fuel ∧ fuel ≤ 300 then ((Q4 fuel.toNat e).2.2.2 : Int) else 0
structure CvN (k : Int) (nm : ByteArray) (num : Int) (ty fr : Ty) (lb : Int) (ks : List Tm) : Prop where
 ops : F0 k = ks.length
 ne : k ≠ 13
 nm1 : nm.size ≤ 1
 num0 : 0 ≤ num ∧ num ≤ 999
 tyA : F8 ty
 frA : F8 fr
 lbB : -99 ≤ lb ∧ lb ≤ 99
 c14 : k = 14 → K0 fr ty = true ∧ H5 ty = true ∧ H5 fr = true
 ty5 : ¬(k = 5 ∨ k = 14) → ty = C1
 fr14 : k ≠ 14 → fr = C1 ∧ lb = 0
def cv (t : Tm) : Prop := ∃ d, N2 40 13 t d = true
theorem A20 {n lo hi : Int} : O2 n lo hi = true ↔ lo ≤ n ∧ n ≤ hi := by unfold O2; rw [decide_eq_true_eq]
theorem cv.node {k : Int} {nm : ByteArray} {num : Int} {ty fr : Ty} {lb : Int} {ks : List Tm} (h : cv (.mk k nm num ty fr lb ks)) : CvN k nm num ty fr lb ks ∧ ∀ t ∈ ks, cv t := by
 obtain ⟨d, h⟩ := h
 obtain ⟨_, h2, h3, h4⟩ := A0U h
 obtain ⟨n1, n2, n3, n4, n5, n6, n7, n8, n9⟩ := U0.1 h3
 refine ⟨⟨n1, h2, A8O h3, ?_, (A2Y h3).1, ?_, ?_, ?_, ?_, ?_⟩, fun t ht => ?_⟩
 ·by_cases hk : k = 2
  ·exact A20.1 (n4 hk)
  ·have := A20.1 (n5 hk); omega
 ·by_cases hk : k = 14
  ·have := (n8 hk).1
   simp only [A1C, Bool.and_eq_true] at this
   exact (A4q this.1.1).1
  ·rw [A2V (n9 hk).1]; exact W2 (by decide) (by decide)
 ·by_cases hk : k = 14
  ·have := (n8 hk).2
   simp only [A0Q, Bool.or_eq_true, A20] at this
   omega
  ·have := (n9 hk).2; omega
 ·intro hk
  have := (n8 hk).1
  simp only [A1C, Bool.and_eq_true] at this
  exact ⟨this.2, this.1.2, this.1.1⟩
 ·intro hk
  exact A2V (n7 (by omega))
 ·intro hk
  exact ⟨A2V (n9 hk).1, (n9 hk).2⟩
 ·obtain ⟨i, hi, rfl⟩ := List.mem_iff_getElem.1 ht
  exact ⟨_, (A05 40 13 ks _).1 h4 i hi⟩
theorem A2k {t : Tm} (h : O9 t = true) : cv t ∧ D6 t ≤ 200 := by
 obtain ⟨h1, h2⟩ := (A5M t).1 h
 exact ⟨⟨1, h1⟩, h2⟩
mutual
theorem A2l : ∀ (t : Tm), cv t → t.small
 | .mk k nm num ty fr lb ks, h => by
  obtain ⟨hn, hk⟩ := h.node
  rw [Tm.small]
  refine ⟨by have := hn.nm1; omega, hn.tyA.small, hn.frA.small, ?_, A8T ks hk⟩
  have := A1N k
  have := hn.ops
  omega
theorem A8T : ∀ (ts : List Tm), (∀ t ∈ ts, cv t) → Tm.smallL ts
 | [], _ => by rw [Tm.smallL]; trivial
 | t :: ts, h => by
  rw [Tm.smallL]
  exact ⟨A2l t (h t List.mem_cons_self), A8T ts fun u hu => h u (List.mem_cons_of_mem _ hu)⟩
end
theorem Y8 (k : Int) (nm : ByteArray) (num : Int) (ty fr : Ty) (lb : Int) (ks : List Tm) : D6 (.mk k nm num ty fr lb ks) = F4 ks + 1 := by rw [D6]
theorem A0h {k : Int} {nm : ByteArray} {num : Int} {ty fr : Ty} {lb : Int} {ks : List Tm} : (Tm.mk k nm num ty fr lb ks).small ↔ nm.size ≤ 4294967296 ∧ ty.small ∧ fr.small ∧ ks.length ≤ 4294967296 ∧ Tm.smallL ks := by rw [Tm.small]
theorem A4u : L0.small := by simp [L0, Tm.small, Ty.small, Ty.smallL, Tm.smallL, ByteArray.size]
theorem A2m : C1.small := by simp [C1, Ty.small, Ty.smallL]
mutual
theorem A8U {x : ByteArray} {v : Tm} (hv : v.small) : ∀ (t : Tm), t.small → (A0s x v t).small ∧ D6 (A0s x v t) ≤ D6 t * D6 v
 | .mk k nm num ty fr lb ks, h => by
  obtain ⟨h1, h2, h3, h4, h5⟩ := A0h.1 h
  obtain ⟨s1, s2⟩ := A8V hv ks h5
  have hp : 1 ≤ D6 v := by cases v; rw [D6]; omega
  rw [A0s]
  split
  ·refine ⟨hv, ?_⟩
   rw [Y8]
   exact Nat.le_mul_of_pos_left _ (by omega)
  ·split
   ·exact ⟨h, Nat.le_mul_of_pos_right _ hp⟩
   ·refine ⟨A0h.2 ⟨h1, h2, h3, by rw [A4t, List.length_map]; exact h4, s1⟩, ?_⟩
    rw [Y8, Y8, Nat.add_mul]
    omega
theorem A8V {x : ByteArray} {v : Tm} (hv : v.small) : ∀ (ts : List Tm), Tm.smallL ts → Tm.smallL (Y7 x v ts) ∧ F4 (Y7 x v ts) ≤ F4 ts * D6 v
 | [], _ => by simp [Y7, Tm.smallL, F4]
 | t :: ts, h => by
  simp only [Tm.smallL] at h
  obtain ⟨a1, a2⟩ := A8U hv t h.1
  obtain ⟨b1, b2⟩ := A8V hv ts h.2
  simp only [Y7, Tm.smallL, F4, Nat.add_mul]
  exact ⟨⟨a1, b1⟩, by omega⟩
end
theorem A1P {ks : List Tm} (h : Tm.smallL ks) (i : Nat) : (kd ks i).small := by
 unfold kd
 rw [List.getD_eq_getElem?_getD]
 cases hi : ks[i]? with
 | none => exact A4u
 | some t => exact Tm.smallL_mem h t (List.mem_of_getElem? hi)
theorem A4v {ks : List Tm} (i : Nat) : D6 (kd ks i) ≤ F4 ks + 1 := by
 unfold kd
 rw [List.getD_eq_getElem?_getD]
 cases hi : ks[i]? with
 | none => simp [L0, D6, F4]
 | some t =>
  have := A5t (List.mem_of_getElem? hi)
  simp only [Option.getD_some]; omega
mutual
def I5 : Tm → List Ty
 | .mk k _ _ ty _ _ ks => (if k = 5 ∨ k = 13 then [ty] else []) ++ H7 ks
def H7 : List Tm → List Ty
 | [] => []
 | t :: ts => I5 t ++ H7 ts
end
theorem A5V : ∀ (a b : List Tm), H7 (a ++ b) = H7 a ++ H7 b
 | [], b => by simp [H7]
 | t :: a, b => by simp [H7, A5V a b]
theorem A0V {ks : List Tm} {i : Nat} (hi : i < ks.length) : H7 (ks.take (i + 1)) = H7 (ks.take i) ++ I5 ks[i] := by
 rw [List.take_succ_eq_append_getElem hi, A5V, H7, H7, List.append_nil]
mutual
theorem A4w : ∀ t : Tm, (I5 t).length ≤ D6 t
 | .mk k nm num ty fr lb ks => by
  have := A0I ks
  rw [I5, D6, List.length_append]
  split <;> simp <;> omega
theorem A0I : ∀ ts : List Tm, (H7 ts).length ≤ F4 ts
 | [] => by simp [H7]
 | t :: ts => by
  have := A4w t
  have := A0I ts
  rw [H7, F4, List.length_append]; omega
end
mutual
def W3 : Tm → List Ty → Tm
 | .mk k nm num ty fr lb ks, l => .mk k nm num (if k = 5 ∨ k = 13 then l.getD 0 C1 else ty) fr lb (Q8 ks (if k = 5 ∨ k = 13 then l.drop 1 else l))
def Q8 : List Tm → List Ty → List Tm
 | [], _ => []
 | t :: ts, l => W3 t l :: Q8 ts (l.drop (I5 t).length)
end
theorem A2n : ∀ (ts : List Tm) (l : List Ty), (Q8 ts l).length = ts.length
 | [], _ => rfl
 | t :: ts, l => by rw [Q8, List.length_cons, A2n ts, List.length_cons]
theorem A8W : ∀ (a b : List Tm) (l : List Ty), Q8 (a ++ b) l = Q8 a l ++ Q8 b (l.drop (H7 a).length)
 | [], b, l => by simp [Q8, H7]
 | t :: a, b, l => by simp [Q8, H7, A8W a b, List.drop_drop]
theorem A3G {ks : List Tm} {i : Nat} (hi : i < ks.length) (l : List Ty) : Q8 (ks.take (i + 1)) l = Q8 (ks.take i) l ++ [W3 ks[i] (l.drop (H7 (ks.take i)).length)] := by
 rw [List.take_succ_eq_append_getElem hi, A8W, Q8, Q8]
def R3 (mask : Nat) : Nat → List Ty → List Ty
 | _, [] => []
 | i, t :: ts => (if (mask / 2 ^ i) % 2 = 1 then .mk 1 [] else t) :: R3 mask (i + 1) ts
theorem A2o (mask : Nat) : ∀ (l : List Ty) (i : Nat), (R3 mask i l).length = l.length
 | [], _ => rfl
 | t :: ts, i => by rw [R3, List.length_cons, A2o mask ts, List.length_cons]
theorem A8X (mask : Nat) : ∀ (a b : List Ty) (j : Nat), R3 mask j (a ++ b) = R3 mask j a ++ R3 mask (j + a.length) b
 | [], b, j => by simp [R3]
 | t :: a, b, j => by rw [List.cons_append, R3, A8X mask a b (j + 1), R3, List.cons_append, List.length_cons, show j + 1 + a.length = j + (a.length + 1) from by omega]
theorem A8Y {α : Type} : ∀ (A : List α) (x y : α) (B : List α) (i : Nat), A.length = i → (A ++ x :: B).set i y = A ++ y :: B
 | [], x, y, B, i, h => by subst h; rfl
 | a :: A, x, y, B, i, h => by
  subst h
  rw [List.cons_append, List.length_cons, List.set_cons_succ, A8Y A x y B _ rfl, List.cons_append]
theorem A8Z (mask : Nat) (L : List Ty) (i : Nat) (hi : i < L.length) :
  R3 mask 0 (L.take (i + 1)) ++ L.drop (i + 1) = if (mask / 2 ^ i) % 2 = 1 then (R3 mask 0 (L.take i) ++ L.drop i).set i (.mk 1 []) else R3 mask 0 (L.take i) ++ L.drop i := by
 have hl : (R3 mask 0 (L.take i)).length = i := by rw [A2o, List.length_take]; omega
 rw [List.take_succ_eq_append_getElem hi, A8X, List.drop_eq_getElem_cons hi, List.length_take, show 0 + min i L.length = i from by omega, R3, R3]
 split
 ·rw [A8Y _ _ _ _ _ hl]; simp
 ·simp
theorem A3H (mask : Nat) : ∀ (l : List Ty) (j : Nat) (u : Ty), u ∈ R3 mask j l → u = .mk 1 [] ∨ u ∈ l
 | [], j, u, h => by simp [R3] at h
 | t :: l, j, u, h => by
  rw [R3] at h
  rcases List.mem_cons.1 h with h | h
  ·split at h
   ·exact .inl h
   ·exact .inr (by rw [h]; simp)
  ·rcases A3H mask l (j + 1) u h with h | h
   ·exact .inl h
   ·exact .inr (List.mem_cons_of_mem _ h)
def V1 (e : Tm) (mask : Nat) : Tm := W3 e (R3 mask 0 (I5 e))
def Y9 (e : Tm) : List Tm := (List.range (2 ^ (I5 e).length)).map (V1 e)
theorem A3I {ks : List Tm} {i : Nat} (hi : i < ks.length) : (H7 (ks.take i)).length + (I5 ks[i]).length ≤ (H7 ks).length := by
 have h : ks = ks.take (i + 1) ++ ks.drop (i + 1) := (List.take_append_drop _ _).symm
 conv => rhs; rw [h]
 rw [A5V, A0V hi]
 simp only [List.length_append]; omega
def A1s (k : Int) : Bool := decide (k = 5 ∨ k = 13)
theorem A5W {Q : Prop} (h : Q := by exact ⟨rfl, by (show _ = Value.bool (decide (k = 5 ∨ k = 13)); first | rw [decide_eq_true (by omega)] | rw [decide_eq_false (by omega)]), rfl⟩) : Q := h
theorem A80 (t : Tm) (G : IM) (cells : List Value) (hr : B3 G t cells) : Fn Tryz.prog 77 [.agg ⟨cells⟩] [] G (E5 (.bool (A1s t.k)) G) := by
 obtain ⟨k, nm, num, ⟨tk, tks⟩, ⟨fk, fks⟩, lb, ks⟩ := t
 obtain ⟨pt, ct, pf, cf, p, c, es, rfl, hk, hnum, hlb, hty, hfr, hsl, hkl⟩ := hr.open9
 refine B8 Tryz.func77 rfl Tryz.ntmps77 Tryz.results77 rfl ?_
 intro w0
 refine A2 ?_
 refine sE (C6 rfl rfl) rfl (fun b3 => ?_)
 refine A9 ?_
 refine sB (qE rfl rfl) rfl rfl (fun h11 => ?_) (fun h11 => ?_)
 refine I9 ?_
 exact A5W
 refine B9 ?_
 refine sB (qE rfl rfl) rfl rfl (fun h26 => ?_) (fun h26 => ?_)
 refine A7 ?_
 exact A5W
 refine A7 ?_
 exact A5W
section cap
variable {P : Program} {Γ : K8} {env : L6} {hp : List A5} {G : IM} {K : Po} {ops : Array Oper} {rest : List Oper}
theorem St.slc_cap {a : Act} {w : World} {p : Option Addr} {c el sz n : Nat} {cs : List Value} {hp' : List A5} (hs : St Γ ⟨env, hp, G⟩ a w) (hk : Pk hp (.slc p c el sz n cs) hp') : n ≤ c := by
 have hown : R0 [.slc p c el sz n cs] G w := hs.res.own.of_mem hk.perm
 obtain ⟨hl, h⟩ := hown.ok _ List.mem_cons_self
 rcases h with ⟨hv, hn⟩ | ⟨g, cap, cur, hv, _, hg, hnc, hcm, hsz, ht⟩
 ·omega
 ·cases hv; exact hnc
theorem A81 {p : Option Addr} {c el sz n : Nat} {cs : List Value} {hp' : List A5} (hk : Pk hp (.slc p c el sz n cs) hp') (h : n ≤ c → E4 P Γ ops rest K ⟨env, hp, G⟩) : E4 P Γ ops rest K ⟨env, hp, G⟩ :=
 ⟨fun a w hs => (h (hs.slc_cap hk)).run a w hs⟩
end cap
theorem C7.append {G : IM} : ∀ {a b : List Ty} {es fs : List (List Value)}, C7 G a es → C7 G b fs → C7 G (a ++ b) (es ++ fs)
 | [], b, es, fs, h, h2 => by simp only [C7] at h; subst h; simpa using h2
 | t :: a, b, es, fs, h, h2 => by
  simp only [C7] at h
  obtain ⟨x, r, rfl, h3, h4⟩ := h
  simp only [List.cons_append, C7]
  exact ⟨x, r ++ fs, rfl, h3, C7.append h4 h2⟩
theorem C7.ones {G : IM} {ts : List Ty} {es : List (List Value)} (h : C7 G ts es) : ∀ u ∈ es.flatten, u.oneCell' = true := by
 intro u hu
 obtain ⟨e, he, hue⟩ := List.mem_flatten.1 hu
 exact List.all_eq_true.1 (h.each e he).2 u hue
theorem C7.one1 {G : IM} {t : Ty} {c : List Value} (h : C2 G t c) : C7 G [t] [c] := by
 simp only [C7]; exact ⟨c, [], rfl, h, rfl⟩
def Z0 (ts : List Ty) : IM → Value → List A5 → Prop := fun G' v outs => ∃ p c es, v = .slice p ts.length c ∧ outs = [.slc p c 34 2 ts.length es.flatten] ∧ C7 G' ts es
theorem Z0.mk {ts : List Ty} {n : Nat} {G' : IM} {p : Option Addr} {c : Nat} {es : List (List Value)} (hn : ts.length = n) (hr : C7 G' ts es) : Z0 ts G' (.slice p n c) [.slc p c 34 2 n es.flatten] := by
 subst hn
 exact ⟨p, c, es, rfl, rfl, hr⟩
theorem A82 {Q : Prop} (h : Q := by (dsimp only; exact ⟨by omega, hle.trans (hle3.trans hle4), by rw [A0V (by omega), ← List.append_assoc]; exact hap, by rw [A0V (by omega)]; simp only [List.length_append, List.length_singleton, List.length_nil]; omega⟩)) : Q := h
theorem A83 {Q : Prop} (h : Q := by (rw [h14]; rw [List.take_length] at hst hlen; exact Z0.mk (by simp only [List.length_append, List.length_singleton, List.length_nil]; omega) hst)) : Q := h
theorem A5X : ∀ (t : Tm) (G : IM) (cells : List Value), t.small → D6 t ≤ 4000000 → B3 G t cells → Fn Tryz.prog 74 [.agg ⟨cells⟩] [] G (Z0 (I5 t)) := by
 refine Tm.ind fun k nm num ty fr lb ks ih G cells hts hcnt hr => ?_
 have hT := A80 _ G cells hr
 have hone := hr.one
 simp only [Tm.small] at hts
 obtain ⟨_, hty', _, hsm, hks⟩ := hts
 have hcy : A1s k = true → I5 (.mk k nm num ty fr lb ks) = [ty] ++ H7 ks := fun h => by rw [I5, if_pos (of_decide_eq_true h)]
 have hcn : A1s k = false → I5 (.mk k nm num ty fr lb ks) = [] ++ H7 ks := fun h => by rw [I5, if_neg (of_decide_eq_false h)]
 rw [D6] at hcnt
 obtain ⟨tk, tks⟩ := ty
 obtain ⟨fk, fks⟩ := fr
 have hT' : Fn Tryz.prog 77 _ [] G (E5 (.bool (A1s k)) G) := hT
 obtain ⟨pt, ct, pf, cf, q, cq, ek, rfl, hk, hnum, hlb, hty, hfr, hsl, hkl⟩ := hr.open9
 have hn := hsl.le
 refine B8 Tryz.func74 rfl Tryz.ntmps74 Tryz.results74 rfl ?_
 intro w0
 refine A2 ?_
 refine sE (C6 rfl rfl) rfl (fun b3 => ?_)
 refine J8 ?_
 refine E8 rfl (hT') rfl rfl (fun h16 => ?_) (fun h16 => ?_)
 refine B9 ?_
 (show K3 _ _ (.region 3 ..) _ _; refine R5 34 2 ?_; refine tR ?_)
 refine B9 ?_
 (refine D4 rfl (A1p (.mk tk tks) G _ hty' hty) rfl rfl (fun v G1 hle1 hh => ?_); obtain ⟨cs1, F1, rfl, hs1, hn1⟩ := hh; have hr1 := hs1.R.mono (B5.le _ _); obtain ⟨p1, c1, rfl, _⟩ := hs1.open)
 (refine J9 (E2 rfl rfl rfl (by omega) (by unfold maxLen; omega) rfl) rfl ?_; rintro _ ⟨b25, rfl⟩)
 (refine X1 rfl rfl rfl rfl rfl (fun _ _ => by repeat (first | exact Sw.here | apply Sw.there)) (M4 (by repeat first | exact mH | apply mT)) rfl (by simp [Value.oneCell']) (by unfold maxLen; omega) (by omega) rfl (fun pn0 cn0 => ?_))
 refine J8 ?_
 refine B7 ?_
 (have h14 := hcy (by assumption); have hinit := C7.one1 hr1; refine I3 (fun (x : Nat × Nat × Option Addr × Nat × List (List Value) × IM) => ⟨[(17, .int .i64 x.1), (16, .int .i64 ks.length), (15, .slice q ks.length cq), (3, .slice x.2.2.1 x.2.1 x.2.2.2.1)], [.slc x.2.2.1 x.2.2.2.1 34 2 x.2.1 x.2.2.2.2.1.flatten], x.2.2.2.2.2⟩) (fun x => x.1 ≤ ks.length ∧ C5 G x.2.2.2.2.2 ∧ C7 x.2.2.2.2.2 ([Ty.mk tk tks] ++ H7 (ks.take x.1)) x.2.2.2.2.1 ∧ ([Ty.mk tk tks] ++ H7 (ks.take x.1)).length = x.2.1) (fun x => ks.length - x.1) (0, 1, pn0, cn0, [[.int .i64 tk, .slice p1 tks.length c1]], G1) ?_ ?_ ?_)
 (simp only [H9]; exact D3)
 (exact ⟨Nat.zero_le _, hle1, (by show C7 G1 ([Ty.mk tk tks] ++ H7 (ks.take 0)) _; rw [List.take_zero, H7, List.append_nil]; exact hinit), by simp [H7]⟩)
 (rintro ⟨(i : Nat), (m : Nat), pn, cn, es, Gi⟩ ⟨hi, hle, hst, hlen⟩; simp only [] at hi hle hst hlen ⊢; replace hsl := hsl.mono hle; replace hkl := hkl.mono hle; have hb1 := A0I (ks.take i); have hb2 := A0I ks; simp only [List.length_append, List.length_singleton, List.length_nil] at hlen)
 refine A2 ?_
 refine sB (I8 rfl rfl) rfl rfl (fun h46 => ?_) (fun h46 => ?_)
 refine A9 ?_
 refine B7 ?_
 refine A2 ?_
 (obtain ⟨b, o, e, rfl, hl, hat, hre, hgb⟩ := hsl.kidTm hkl (i := i) (by omega) (by omega); have hone9 := hre.one; have hsc := A0y (ks := ks) (i := i) (by omega); have hsk := A0x (ks := ks) (i := i) (by omega); refine sP (B2 rfl rfl rfl (by omega)) rfl rfl ?_)
 refine sL (A0 rfl rfl (hat _) hl) rfl rfl ?_
 refine sE (A6 rfl) rfl (fun b59 => ?_)
 refine sS rfl rfl rfl hl hone9 rfl ?_ (hu := by exact D8 hl.symm)
 refine B6 ?_
 refine sL (A0 rfl rfl (B1 (by repeat first | exact mH | apply mT)) hl) rfl rfl ?_
 (refine W1 rfl (ih ks[i] (List.getElem_mem (by omega)) _ _ (Tm.smallL_mem hks _ (List.getElem_mem (by omega))) (by omega) hre) rfl rfl (fun v G3 outs hle3 hh => ?_); obtain ⟨p3, c3, e3, rfl, rfl, hr3⟩ := hh; have hlk := A4w ks[i]; refine A14 (cs := e3.flatten) Pk.here (fun G4 hle4 hsl4 hno4 => ?_); refine A81 (cs := es.flatten) (by repeat (first | exact Pk.here | apply Pk.there)) (fun hcap => ?_))
 (refine A3y rfl rfl rfl rfl rfl (fun _ _ => by repeat (first | exact Sw.here | apply Sw.there)) hsl4 hr3.ones hcap (by unfold maxLen; omega) (by omega) rfl (fun p4 c4 => ?_))
 refine B0 ?_
 refine sP (E7 rfl rfl (by omega) (by omega)) rfl rfl ?_
 refine A2 ?_
 (have hap := C7.append (hst.mono (hle3.trans hle4)) (hr3.mono hle4); refine I7 (i + 1, m + (I5 ks[i]).length, p4, c4, es ++ e3, G4) (by simp only [List.flatten_append]; exact (O5 (by repeat (first | exact I1.nil | refine I1.cons rfl ?_)) (by repeat (first | exact A8.refl | exact A8.nil | refine A8.cons (by repeat (first | exact Pk.here | apply Pk.there)) ?_ | apply A8.drop)))) ?_ ?_)
 exact A82
 exact R6
 refine H1 ?_
 (obtain rfl : i = ks.length := (by omega))
 refine tT ?_
 refine N4 (outs := [.slc pn cn 34 2 m es.flatten]) (rT rfl) (A8.cons (by repeat (first | exact Pk.here | apply Pk.there)) A8.nil) ?_
 exact A83
 refine J7 ?_
 refine B7 ?_
 (have h14 := hcn (by assumption); refine R5 34 2 ?_; refine I3 (fun (x : Nat × Nat × Option Addr × Nat × List (List Value) × IM) => ⟨[(17, .int .i64 x.1), (16, .int .i64 ks.length), (15, .slice q ks.length cq), (3, .slice x.2.2.1 x.2.1 x.2.2.2.1)], [.slc x.2.2.1 x.2.2.2.1 34 2 x.2.1 x.2.2.2.2.1.flatten], x.2.2.2.2.2⟩) (fun x => x.1 ≤ ks.length ∧ C5 G x.2.2.2.2.2 ∧ C7 x.2.2.2.2.2 ([] ++ H7 (ks.take x.1)) x.2.2.2.2.1 ∧ ([] ++ H7 (ks.take x.1)).length = x.2.1) (fun x => ks.length - x.1) (0, 0, none, 0, [], G) ?_ ?_ ?_)
 (simp only [H9]; exact D3)
 (exact ⟨Nat.zero_le _, C5.refl _, by simp [H7, C7], by simp [H7]⟩)
 (rintro ⟨(i : Nat), (m : Nat), pn, cn, es, Gi⟩ ⟨hi, hle, hst, hlen⟩; simp only [] at hi hle hst hlen ⊢; replace hsl := hsl.mono hle; replace hkl := hkl.mono hle; have hb1 := A0I (ks.take i); have hb2 := A0I ks; simp only [List.length_append, List.length_singleton, List.length_nil] at hlen)
 refine A2 ?_
 refine sB (I8 rfl rfl) rfl rfl (fun h119 => ?_) (fun h119 => ?_)
 refine A9 ?_
 refine B7 ?_
 refine A2 ?_
 (obtain ⟨b, o, e, rfl, hl, hat, hre, hgb⟩ := hsl.kidTm hkl (i := i) (by omega) (by omega); have hone9 := hre.one; have hsc := A0y (ks := ks) (i := i) (by omega); have hsk := A0x (ks := ks) (i := i) (by omega); refine sP (B2 rfl rfl rfl (by omega)) rfl rfl ?_)
 refine sL (A0 rfl rfl (hat _) hl) rfl rfl ?_
 refine sE (A6 rfl) rfl (fun b132 => ?_)
 refine sS rfl rfl rfl hl hone9 rfl ?_ (hu := by exact D8 hl.symm)
 refine B6 ?_
 refine sL (A0 rfl rfl (B1 (by repeat first | exact mH | apply mT)) hl) rfl rfl ?_
 (refine W1 rfl (ih ks[i] (List.getElem_mem (by omega)) _ _ (Tm.smallL_mem hks _ (List.getElem_mem (by omega))) (by omega) hre) rfl rfl (fun v G3 outs hle3 hh => ?_); obtain ⟨p3, c3, e3, rfl, rfl, hr3⟩ := hh; have hlk := A4w ks[i]; refine A14 (cs := e3.flatten) Pk.here (fun G4 hle4 hsl4 hno4 => ?_); refine A81 (cs := es.flatten) (by repeat (first | exact Pk.here | apply Pk.there)) (fun hcap => ?_))
 (refine A3y rfl rfl rfl rfl rfl (fun _ _ => by repeat (first | exact Sw.here | apply Sw.there)) hsl4 hr3.ones hcap (by unfold maxLen; omega) (by omega) rfl (fun p4 c4 => ?_))
 refine B0 ?_
 refine sP (E7 rfl rfl (by omega) (by omega)) rfl rfl ?_
 refine A2 ?_
 (have hap := C7.append (hst.mono (hle3.trans hle4)) (hr3.mono hle4); refine I7 (i + 1, m + (I5 ks[i]).length, p4, c4, es ++ e3, G4) (by simp only [List.flatten_append]; exact (O5 (by repeat (first | exact I1.nil | refine I1.cons rfl ?_)) (by repeat (first | exact A8.refl | exact A8.nil | refine A8.cons (by repeat (first | exact Pk.here | apply Pk.there)) ?_ | apply A8.drop)))) ?_ ?_)
 exact A82
 exact R6
 refine H1 ?_
 (obtain rfl : i = ks.length := (by omega))
 refine tT ?_
 refine N4 (outs := [.slc pn cn 34 2 m es.flatten]) (rT rfl) (A8.cons (by repeat (first | exact Pk.here | apply Pk.there)) A8.nil) ?_
 exact A83
theorem Z0.openA {a b : List Ty} {G' : IM} {v : Value} {outs : List A5} {m : Nat} (h : Z0 (a ++ b) G' v outs) (hm : a.length = m) :
  ∃ p c es, v = .slice p (m + b.length) c ∧ outs = [.slc p c 34 2 (m + b.length) es.flatten] ∧ C7 G' (a ++ b) es := by
 subst hm
 rw [← List.length_append]
 exact h
theorem A84 {Q : Prop} (h : Q := by (exact ⟨Nat.zero_le _, hle1, (by show C7 G1 ((l ++ [Ty.mk tk tks]) ++ H7 (ks.take 0)) _; rw [List.take_zero, H7, List.append_nil]; exact hinit), by simp [H7]⟩)) : Q := h
theorem A5Y {Q : Prop} (h : Q := by (dsimp only; exact ⟨by omega, hle.trans hle3, by rw [A0V (by omega), ← List.append_assoc]; exact hr3, by rw [A0V (by omega), ← List.append_assoc, List.length_append, hlen0]⟩)) : Q := h
theorem B3t : ∀ (t : Tm) (l : List Ty) (G : IM) (cells : List Value) (p : Option Addr) (c : Nat) (es : List (List Value)), t.small → l.length + D6 t ≤ 4000000 → B3 G t cells → C7 G l es →
  Fn Tryz.prog 136 [.slice p l.length c, .agg ⟨cells⟩] [.slc p c 34 2 l.length es.flatten] G (Z0 (l ++ I5 t)) := by
 refine Tm.ind fun k nm num ty fr lb ks ih l G cells p c es0 hts hcnt hr hl0 => ?_
 have hone := hr.one
 simp only [Tm.small] at hts
 obtain ⟨_, hty', _, hsm, hks⟩ := hts
 have hcy : k = 5 ∨ k = 13 → I5 (.mk k nm num ty fr lb ks) = [ty] ++ H7 ks := fun h => by rw [I5, if_pos h]
 have hcn : ¬ (k = 5 ∨ k = 13) → I5 (.mk k nm num ty fr lb ks) = H7 ks := fun h => by rw [I5, if_neg h, List.nil_append]
 rw [D6] at hcnt
 obtain ⟨tk, tks⟩ := ty
 obtain ⟨fk, fks⟩ := fr
 obtain ⟨pt, ct, pf, cf, q, cq, ek, rfl, hk, hnum, hlb, hty, hfr, hsl, hkl⟩ := hr.open9
 have hn := hsl.le
 refine B8 Tryz.func136 rfl Tryz.ntmps136 Tryz.results136 rfl ?_
 intro w0
 refine A2 ?_
 refine sE (C6 rfl rfl) rfl (fun b3 => ?_)
 refine D0 ?_
 refine sB (qE rfl rfl) rfl rfl (fun h12 => ?_) (fun h12 => ?_)
 refine J8 ?_
 (refine D4 rfl (P4 (.mk tk tks) G _ hty' hty) rfl rfl (fun v G1 hle1 hh => ?_); obtain ⟨cs1, F1, rfl, hs1, hn1⟩ := hh; have hr1 := hs1.R.mono (B5.le _ _); obtain ⟨p1, c1, rfl, _⟩ := hs1.open)
 (refine J9 (E2 rfl rfl rfl (by omega) (by unfold maxLen; omega) rfl) rfl ?_; rintro _ ⟨b26, rfl⟩)
 (refine X1 rfl rfl rfl rfl rfl (fun _ _ => by repeat (first | exact Sw.here | apply Sw.there)) (M4 (by repeat first | exact mH | apply mT)) rfl (by simp [Value.oneCell']) (by unfold maxLen; omega) (by omega) rfl (fun pn0 cn0 => ?_))
 refine D9 ?_
 refine B7 ?_
 (have h14 := hcy (by omega); have hinit := C7.append (hl0.mono hle1) (C7.one1 hr1); refine I3 (fun (x : Nat × Nat × Option Addr × Nat × List (List Value) × IM) => ⟨[(5, .int .i64 x.1), (3, .pointer (some ⟨b3, 0, none⟩)), (0, .slice x.2.2.1 x.2.1 x.2.2.2.1)], [.slc x.2.2.1 x.2.2.2.1 34 2 x.2.1 x.2.2.2.2.1.flatten, .blk b3 [.int .i64 k, .string nm, .int .i64 num, .int .i64 tk, .slice pt tks.length ct, .int .i64 fk, .slice pf fks.length cf, .int .i64 lb, .slice q ks.length cq]], x.2.2.2.2.2⟩) (fun x => x.1 ≤ ks.length ∧ C5 G x.2.2.2.2.2 ∧ C7 x.2.2.2.2.2 ((l ++ [Ty.mk tk tks]) ++ H7 (ks.take x.1)) x.2.2.2.2.1 ∧ ((l ++ [Ty.mk tk tks]) ++ H7 (ks.take x.1)).length = x.2.1) (fun x => ks.length - x.1) (0, l.length + 1, pn0, cn0, es0 ++ [[.int .i64 tk, .slice p1 tks.length c1]], G1) (by simp only [List.flatten_append, List.flatten_cons, List.flatten_nil, List.append_nil]; exact (O5 (by repeat (first | exact I1.nil | refine I1.cons rfl ?_)) (by repeat (first | exact A8.refl | exact A8.nil | refine A8.cons (by repeat (first | exact Pk.here | apply Pk.there)) ?_ | apply A8.drop)))) ?_ ?_)
 exact A84
 (rintro ⟨(i : Nat), (m : Nat), pn, cn, es, Gi⟩ ⟨hi, hle, hst, hlen⟩; simp only [] at hi hle hst hlen ⊢; replace hsl := hsl.mono hle; replace hkl := hkl.mono hle; have hb1 := A0I (ks.take i); have hb2 := A0I ks; have hlen0 := hlen; simp only [List.length_append, List.length_singleton, List.length_nil] at hlen)
 refine A9 ?_
 refine sB (I8 rfl rfl) rfl rfl (fun h48 => ?_) (fun h48 => ?_)
 refine A7 ?_
 refine B7 ?_
 refine B0 ?_
 (obtain ⟨b, o, e, rfl, hl, hat, hre, hgb⟩ := hsl.kidTm hkl (i := i) (by omega) (by omega); have hone9 := hre.one; have hsc := A0y (ks := ks) (i := i) (by omega); have hsk := A0x (ks := ks) (i := i) (by omega); refine sP (B2 rfl rfl rfl (by omega)) rfl rfl ?_)
 refine sL (A0 rfl rfl (hat _) hl) rfl rfl ?_
 (have hih := ih ks[i] (List.getElem_mem (by omega)) _ Gi e pn cn es (Tm.smallL_mem hks _ (List.getElem_mem (by omega))) (by simp only [List.length_append, List.length_singleton]; omega) hre hst; rw [hlen0] at hih; refine A1M rfl hih (Pk.perm (by repeat (first | exact Pk.here | apply Pk.there))) rfl rfl (fun v3 G3 outs hle3 hh => ?_); obtain ⟨p3, c3, e3, rfl, rfl, hr3⟩ := Z0.openA hh hlen0)
 refine A7 ?_
 refine sP (E7 rfl rfl (by omega) (by omega)) rfl rfl ?_
 refine A2 ?_
 (refine I7 (i + 1, m + (I5 ks[i]).length, p3, c3, e3, G3) ?_ ?_ ?_)
 (simp only [H9]; exact D3)
 exact A5Y
 exact R6
 refine J7 ?_
 (obtain rfl : i = ks.length := (by omega))
 refine tT ?_
 refine N4 (outs := [.slc pn cn 34 2 m es.flatten]) (rT rfl) (A8.cons (by repeat (first | exact Pk.here | apply Pk.there)) A8.nil) ?_
 (rw [h14]; rw [List.take_length] at hst hlen; first | exact Z0.mk (by simp only [List.length_append, List.length_singleton, List.length_nil]; omega) hst | (rw [← List.append_assoc]; exact Z0.mk (by simp only [List.length_append, List.length_singleton, List.length_nil]; omega) hst))
 refine B9 ?_
 refine sB (qE rfl rfl) rfl rfl (fun h98 => ?_) (fun h98 => ?_)
 refine D0 ?_
 (refine D4 rfl (P4 (.mk tk tks) G _ hty' hty) rfl rfl (fun v G1 hle1 hh => ?_); obtain ⟨cs1, F1, rfl, hs1, hn1⟩ := hh; have hr1 := hs1.R.mono (B5.le _ _); obtain ⟨p1, c1, rfl, _⟩ := hs1.open)
 (refine J9 (E2 rfl rfl rfl (by omega) (by unfold maxLen; omega) rfl) rfl ?_; rintro _ ⟨b108, rfl⟩)
 (refine X1 rfl rfl rfl rfl rfl (fun _ _ => by repeat (first | exact Sw.here | apply Sw.there)) (M4 (by repeat first | exact mH | apply mT)) rfl (by simp [Value.oneCell']) (by unfold maxLen; omega) (by omega) rfl (fun pn0 cn0 => ?_))
 refine D9 ?_
 refine B7 ?_
 (have h14 := hcy (by omega); have hinit := C7.append (hl0.mono hle1) (C7.one1 hr1); refine I3 (fun (x : Nat × Nat × Option Addr × Nat × List (List Value) × IM) => ⟨[(5, .int .i64 x.1), (3, .pointer (some ⟨b3, 0, none⟩)), (0, .slice x.2.2.1 x.2.1 x.2.2.2.1)], [.slc x.2.2.1 x.2.2.2.1 34 2 x.2.1 x.2.2.2.2.1.flatten, .blk b3 [.int .i64 k, .string nm, .int .i64 num, .int .i64 tk, .slice pt tks.length ct, .int .i64 fk, .slice pf fks.length cf, .int .i64 lb, .slice q ks.length cq]], x.2.2.2.2.2⟩) (fun x => x.1 ≤ ks.length ∧ C5 G x.2.2.2.2.2 ∧ C7 x.2.2.2.2.2 ((l ++ [Ty.mk tk tks]) ++ H7 (ks.take x.1)) x.2.2.2.2.1 ∧ ((l ++ [Ty.mk tk tks]) ++ H7 (ks.take x.1)).length = x.2.1) (fun x => ks.length - x.1) (0, l.length + 1, pn0, cn0, es0 ++ [[.int .i64 tk, .slice p1 tks.length c1]], G1) (by simp only [List.flatten_append, List.flatten_cons, List.flatten_nil, List.append_nil]; exact (O5 (by repeat (first | exact I1.nil | refine I1.cons rfl ?_)) (by repeat (first | exact A8.refl | exact A8.nil | refine A8.cons (by repeat (first | exact Pk.here | apply Pk.there)) ?_ | apply A8.drop)))) ?_ ?_)
 exact A84
 (rintro ⟨(i : Nat), (m : Nat), pn, cn, es, Gi⟩ ⟨hi, hle, hst, hlen⟩; simp only [] at hi hle hst hlen ⊢; replace hsl := hsl.mono hle; replace hkl := hkl.mono hle; have hb1 := A0I (ks.take i); have hb2 := A0I ks; have hlen0 := hlen; simp only [List.length_append, List.length_singleton, List.length_nil] at hlen)
 refine A9 ?_
 refine sB (I8 rfl rfl) rfl rfl (fun h130 => ?_) (fun h130 => ?_)
 refine A7 ?_
 refine B7 ?_
 refine B0 ?_
 (obtain ⟨b, o, e, rfl, hl, hat, hre, hgb⟩ := hsl.kidTm hkl (i := i) (by omega) (by omega); have hone9 := hre.one; have hsc := A0y (ks := ks) (i := i) (by omega); have hsk := A0x (ks := ks) (i := i) (by omega); refine sP (B2 rfl rfl rfl (by omega)) rfl rfl ?_)
 refine sL (A0 rfl rfl (hat _) hl) rfl rfl ?_
 (have hih := ih ks[i] (List.getElem_mem (by omega)) _ Gi e pn cn es (Tm.smallL_mem hks _ (List.getElem_mem (by omega))) (by simp only [List.length_append, List.length_singleton]; omega) hre hst; rw [hlen0] at hih; refine A1M rfl hih (Pk.perm (by repeat (first | exact Pk.here | apply Pk.there))) rfl rfl (fun v3 G3 outs hle3 hh => ?_); obtain ⟨p3, c3, e3, rfl, rfl, hr3⟩ := Z0.openA hh hlen0)
 refine A7 ?_
 refine sP (E7 rfl rfl (by omega) (by omega)) rfl rfl ?_
 refine A2 ?_
 (refine I7 (i + 1, m + (I5 ks[i]).length, p3, c3, e3, G3) ?_ ?_ ?_)
 (simp only [H9]; exact D3)
 exact A5Y
 exact R6
 refine J7 ?_
 (obtain rfl : i = ks.length := (by omega))
 refine tT ?_
 refine N4 (outs := [.slc pn cn 34 2 m es.flatten]) (rT rfl) (A8.cons (by repeat (first | exact Pk.here | apply Pk.there)) A8.nil) ?_
 (rw [h14]; rw [List.take_length] at hst hlen; first | exact Z0.mk (by simp only [List.length_append, List.length_singleton, List.length_nil]; omega) hst | (rw [← List.append_assoc]; exact Z0.mk (by simp only [List.length_append, List.length_singleton, List.length_nil]; omega) hst))
 refine J8 ?_
 refine B7 ?_
 (have h14 := hcn (by omega); refine I3 (fun (x : Nat × Nat × Option Addr × Nat × List (List Value) × IM) => ⟨[(5, .int .i64 x.1), (3, .pointer (some ⟨b3, 0, none⟩)), (0, .slice x.2.2.1 x.2.1 x.2.2.2.1)], [.slc x.2.2.1 x.2.2.2.1 34 2 x.2.1 x.2.2.2.2.1.flatten, .blk b3 [.int .i64 k, .string nm, .int .i64 num, .int .i64 tk, .slice pt tks.length ct, .int .i64 fk, .slice pf fks.length cf, .int .i64 lb, .slice q ks.length cq]], x.2.2.2.2.2⟩) (fun x => x.1 ≤ ks.length ∧ C5 G x.2.2.2.2.2 ∧ C7 x.2.2.2.2.2 (l ++ H7 (ks.take x.1)) x.2.2.2.2.1 ∧ (l ++ H7 (ks.take x.1)).length = x.2.1) (fun x => ks.length - x.1) (0, l.length, p, c, es0, G) ?_ ?_ ?_)
 (simp only [H9]; exact D3)
 (exact ⟨Nat.zero_le _, C5.refl _, by simpa [H7] using hl0, by simp [H7]⟩)
 (rintro ⟨(i : Nat), (m : Nat), pn, cn, es, Gi⟩ ⟨hi, hle, hst, hlen⟩; simp only [] at hi hle hst hlen ⊢; replace hsl := hsl.mono hle; replace hkl := hkl.mono hle; have hb1 := A0I (ks.take i); have hb2 := A0I ks; have hlen0 := hlen; simp only [List.length_append, List.length_singleton, List.length_nil] at hlen)
 refine A9 ?_
 refine sB (I8 rfl rfl) rfl rfl (fun h201 => ?_) (fun h201 => ?_)
 refine A7 ?_
 refine B7 ?_
 refine B0 ?_
 (obtain ⟨b, o, e, rfl, hl, hat, hre, hgb⟩ := hsl.kidTm hkl (i := i) (by omega) (by omega); have hone9 := hre.one; have hsc := A0y (ks := ks) (i := i) (by omega); have hsk := A0x (ks := ks) (i := i) (by omega); refine sP (B2 rfl rfl rfl (by omega)) rfl rfl ?_)
 refine sL (A0 rfl rfl (hat _) hl) rfl rfl ?_
 (have hih := ih ks[i] (List.getElem_mem (by omega)) _ Gi e pn cn es (Tm.smallL_mem hks _ (List.getElem_mem (by omega))) (by simp only [List.length_append, List.length_singleton]; omega) hre hst; rw [hlen0] at hih; refine A1M rfl hih (Pk.perm (by repeat (first | exact Pk.here | apply Pk.there))) rfl rfl (fun v3 G3 outs hle3 hh => ?_); obtain ⟨p3, c3, e3, rfl, rfl, hr3⟩ := Z0.openA hh hlen0)
 refine A7 ?_
 refine sP (E7 rfl rfl (by omega) (by omega)) rfl rfl ?_
 refine A2 ?_
 (refine I7 (i + 1, m + (I5 ks[i]).length, p3, c3, e3, G3) ?_ ?_ ?_)
 (simp only [H9]; exact D3)
 exact A5Y
 exact R6
 refine J7 ?_
 (obtain rfl : i = ks.length := (by omega))
 refine tT ?_
 refine N4 (outs := [.slc pn cn 34 2 m es.flatten]) (rT rfl) (A8.cons (by repeat (first | exact Pk.here | apply Pk.there)) A8.nil) ?_
 (rw [h14]; rw [List.take_length] at hst hlen; first | exact Z0.mk (by simp only [List.length_append, List.length_singleton, List.length_nil]; omega) hst | (rw [← List.append_assoc]; exact Z0.mk (by simp only [List.length_append, List.length_singleton, List.length_nil]; omega) hst))
def V6 (t : Tm) : List Ty := if Q1 t = true then I5 t else []
theorem A5Z (t : Tm) (G : IM) (cells : List Value) (hts : t.small) (hcnt : D6 t ≤ 4000000) (hr : B3 G t cells) : Fn Tryz.prog 93 [.agg ⟨cells⟩] [] G (Z0 (V6 t)) := by
 have hl := hr.len
 have hone := hr.one
 have hv := A5T t G cells (by omega) hr
 have hno : Q1 t = false → V6 t = [] := fun h => by unfold V6; rw [h]; rfl
 have hyes : Q1 t = true → V6 t = I5 t := fun h => by unfold V6; rw [h]; rfl
 refine B8 Tryz.func93 rfl Tryz.ntmps93 Tryz.results93 rfl ?_
 intro w0
 refine A2 ?_
 refine sE (C6 rfl rfl) rfl (fun b3 => ?_)
 refine A7 ?_
 refine sL (A0 rfl rfl (B1 (by repeat first | exact mH | apply mT)) (by assumption)) rfl rfl ?_
 refine E8 rfl (hv) rfl rfl (fun h11 => ?_) (fun h11 => ?_)
 refine D0 ?_
 (refine J9 (E2 rfl rfl rfl (by omega) (by unfold maxLen; omega) rfl) rfl ?_; rintro _ ⟨b20, rfl⟩)
 refine sL (A0 rfl rfl (B1 (by repeat first | exact mH | apply mT)) (by assumption)) rfl rfl ?_
 (refine A1M rfl (B3t t [] G cells _ 0 [] hts (by simp; omega) hr (by simp [C7])) (Pk.perm (by repeat (first | exact Pk.here | apply Pk.there))) rfl rfl (fun v3 G3 outs hle3 hh => ?_); obtain ⟨p3, c3, e3, rfl, rfl, hr3⟩ := hh)
 refine B6 ?_
 refine N4 (outs := [.slc p3 c3 34 2 ([] ++ I5 t).length e3.flatten]) (rT rfl) (A8.cons (by repeat (first | exact Pk.here | apply Pk.there)) A8.nil) ?_
 (rw [hyes (by assumption)]; exact ⟨p3, c3, e3, rfl, rfl, hr3⟩)
 refine A7 ?_
 (refine J9 (E2 rfl rfl rfl (by omega) (by unfold maxLen; omega) rfl) rfl ?_; rintro _ ⟨b35, rfl⟩)
 refine B0 ?_
 refine N4 (rT rfl) (A8.cons Pk.here A8.nil) ?_
 (rw [hno (by assumption)]; exact ⟨_, _, [], rfl, rfl, by simp [C7]⟩)
theorem A85 (t : Tm) (G : IM) (cells : List Value) (hts : t.small) (hcnt : D6 t ≤ 4000000) (hr : B3 G t cells) : Fn Tryz.prog 42 [.agg ⟨cells⟩] [] G (L5 fun _ v => v = .int .i64 ((V6 t).length : Int)) := by
 have hl := hr.len
 have hone := hr.one
 refine B8 Tryz.func42 rfl Tryz.ntmps42 Tryz.results42 rfl ?_
 intro w0
 refine A2 ?_
 refine sE (C6 rfl rfl) rfl (fun b3 => ?_)
 refine B0 ?_
 refine sL (A0 rfl rfl (B1 (by repeat first | exact mH | apply mT)) (by assumption)) rfl rfl ?_
 (refine W1 rfl (A5Z t G cells hts hcnt hr) rfl rfl (fun v G1 outs hle1 hh => ?_); obtain ⟨p1, c1, e1, rfl, rfl, hr1⟩ := hh)
 refine A7 ?_
 exact ⟨rfl, rfl⟩
theorem A86 {sz : Nat} : ∀ {es : List (List Value)} (l : Nat), (∀ e ∈ es, e.length = sz) → es.flatten.drop (l * sz) = (es.drop l).flatten
 | [], l, _ => by simp
 | e :: es, 0, _ => by simp
 | e :: es, l + 1, h => by
  rw [List.flatten_cons, List.drop_succ_cons, ← A86 l (fun x hx => h x (List.mem_cons_of_mem _ hx)), Nat.add_mul, Nat.one_mul]
  have he := h e List.mem_cons_self
  rw [List.drop_append, List.drop_eq_nil_of_le (by omega), List.nil_append]
  congr 1; omega
theorem C8.from2 {G : IM} {b o n c l sz : Nat} {es : List (List Value)} (h : C8 G (some ⟨b, o, none⟩) n c sz es) (hl : l ≤ n) : C8 G (some ⟨b, if c = l then o else o + l * sz, none⟩) (n - l) (c - l) sz (es.drop l) := by
 have h1 := h.sl.from hl
 rw [A86 l h.all] at h1
 exact C8.of h1 (by rw [List.length_drop, h.len]) (fun e he => h.all e (List.mem_of_mem_drop he)) (fun e he => h.one e (List.mem_of_mem_drop he))
theorem C7.drop {G : IM} : ∀ {l : List Ty} {es : List (List Value)} (n : Nat), C7 G l es → C7 G (l.drop n) (es.drop n)
 | [], es, n, h => by simp only [C7] at h; subst h; simp [C7]
 | t :: l, es, 0, h => by simpa using h
 | t :: l, es, n + 1, h => by
  simp only [C7] at h
  obtain ⟨a, r, rfl, h1, h2⟩ := h
  simpa using C7.drop n h2
def RtP (u : Tm) (l : List Ty) : IM → Value → List A5 → Prop := fun G' v outs => outs = [] ∧ ∃ cu p c el, v = .tuple ⟨[.agg ⟨cu⟩, .slice p l.length c]⟩ ∧ B3 G' u cu ∧ C8 G' p l.length c 2 el ∧ C7 G' l el
theorem RtP.mk {G' : IM} {k : Int} {nm : ByteArray} {num : Int} {ty fr : Ty} {lb : Int} {ks : List Tm} {tk fk : Int} {pt pf : Option Addr} {nt ct nf cf : Nat} {p q : Option Addr} {m c cq n : Nat} {es el : List (List Value)} {l : List Ty}
  (hk : H3 k) (hnum : H3 num) (hlb : H3 lb) (hty : C2 G' ty [.int .i64 tk, .slice pt nt ct]) (hfr : C2 G' fr [.int .i64 fk, .slice pf nf cf]) (hm : m = ks.length) (hs : Sl G' p m c 9 es.flatten) (hr : D7 G' ks es)
  (hn : n = l.length) (hq : C8 G' q n cq 2 el) (hl : C7 G' l el) :
  RtP (.mk k nm num ty fr lb ks) l G' (.tuple ⟨[.agg ⟨[.int .i64 k, .string nm, .int .i64 num, .int .i64 tk, .slice pt nt ct, .int .i64 fk, .slice pf nf cf, .int .i64 lb, .slice p m c]⟩, .slice q n cq]⟩) [] := by
 subst hm hn
 refine ⟨rfl, _, q, cq, el, rfl, ?_, hq, hl⟩
 simp only [B3]
 exact ⟨_, _, p, c, es, rfl, hk, hnum, hlb, hty, hfr, C8.of hs hr.len hr.all (fun e he => by obtain ⟨j, hj⟩ := List.getElem?_of_mem he; exact (hr.inv hj L0).2.one), hr⟩
theorem A87 {Q : Prop} (h : Q := by (dsimp only; exact ⟨by omega, hle.trans hle3, hsn, by rw [A0V (by omega), List.length_append]; simp only [List.length_drop]; omega, by simpa only [A0V (show i < ks.length by omega), List.length_append, List.drop_drop] using hs3, by simpa only [A0V (show i < ks.length by omega), List.length_append, List.drop_drop, Nat.add_assoc] using hr3⟩)) : Q := h
theorem B3u : ∀ (t : Tm) (l : List Ty) (G : IM) (cells : List Value) (p : Option Addr) (c : Nat) (el : List (List Value)), (I5 t).length ≤ l.length → (∀ u ∈ l, u.small) → D6 t ≤ 4000000 → B3 G t cells → C8 G p l.length c 2 el → C7 G l el →
  Fn Tryz.prog 119 [.agg ⟨cells⟩, .slice p l.length c] [] G (RtP (W3 t l) (l.drop (I5 t).length)) := by
 refine Tm.ind fun k nm num ty fr lb ks ih l G cells p c el hlen hsm hcnt hr hse hel => ?_
 have hT := A80 _ G cells hr
 have hone := hr.one
 have hcy : A1s k = true → I5 (.mk k nm num ty fr lb ks) = [ty] ++ H7 ks := fun h => by rw [I5, if_pos (of_decide_eq_true h)]
 have hcn : A1s k = false → I5 (.mk k nm num ty fr lb ks) = [] ++ H7 ks := fun h => by rw [I5, if_neg (of_decide_eq_false h)]
 have hwy : A1s k = true → W3 (.mk k nm num ty fr lb ks) l = .mk k nm num (l.getD 0 C1) fr lb (Q8 ks (l.drop 1)) := fun h => by rw [W3, if_pos (of_decide_eq_true h), if_pos (of_decide_eq_true h)]
 have hwn : A1s k = false → W3 (.mk k nm num ty fr lb ks) l = .mk k nm num ty fr lb (Q8 ks l) := fun h => by rw [W3, if_neg (of_decide_eq_false h), if_neg (of_decide_eq_false h)]
 rw [D6] at hcnt
 obtain ⟨tk, tks⟩ := ty
 obtain ⟨fk, fks⟩ := fr
 have hT' : Fn Tryz.prog 77 _ [] G (E5 (.bool (A1s k)) G) := hT
 obtain ⟨pt, ct, pf, cf, q, cq, ek, rfl, hk, hnum, hlb, hty, hfr, hsl, hkl⟩ := hr.open9
 have hn := hsl.le
 have hkn := A4a ks
 refine B8 Tryz.func119 rfl Tryz.ntmps119 Tryz.results119 rfl ?_
 intro w0
 refine A2 ?_
 refine sE (C6 rfl rfl) rfl (fun b3 => ?_)
 refine sE (A6 rfl) rfl (fun b4 => ?_)
 refine A7 ?_
 refine sE (A6 rfl) rfl (fun b11 => ?_)
 refine J6 ?_
 refine E8 rfl (hT') rfl rfl (fun h25 => ?_) (fun h25 => ?_)
 refine B9 ?_
 (have hL1 := hcy (by assumption); have h1 : 1 + (H7 ks).length ≤ l.length := (by rw [hL1] at hlen; simp only [List.length_append, List.length_singleton] at hlen; omega); obtain ⟨b0, o0, p20, c20, rfl, hat0, hre0, hgb0⟩ := hse.kidTy hel (i := 0) (by omega) (by omega); obtain ⟨T0, hT0⟩ : ∃ T, T = l[0]'(by omega) := ⟨_, rfl⟩; have hs0 := hsm _ (List.getElem_mem (show 0 < l.length by omega)); rw [← hT0] at hre0 hat0 hs0; have hO := A1p T0 G _ hs0 hre0; refine E1 E3 rfl ?_)
 refine K2 (i := 0) (l' := [tt,ff,ff,ff,ff,ff,ff,ff,ff]) rfl D5 (qM rfl) rfl (by kernel_rfl) rfl rfl ?_
 refine aP 1 rfl (B2 (j := 0) rfl rfl rfl (by omega)) rfl ?_
 refine aL 2 rfl (A0 rfl rfl (hat0 _) rfl) rfl ?_
 refine aP 4 rfl (qM rfl) rfl ?_
 refine aP 5 rfl (B3r (l := 1) rfl rfl rfl (by omega)) rfl ?_
 refine A3 3 ?_
 (refine H2 rfl rfl hO rfl rfl rfl (fun v G1 hle1 hh => ?_); obtain ⟨cs1, F1, rfl, hs1, hn1⟩ := hh; have hr1 := hs1.R.mono (B5.le _ _); obtain ⟨p1, c1, rfl, _⟩ := hs1.open)
 refine aP 6 rfl (C0 rfl) rfl ?_
 refine A3 7 ?_
 refine H6 rfl ?_
 refine aP 8 rfl (qA rfl) rfl ?_
 refine H0 ?_
 refine B7 ?_
 (have hL2 := hcy (by assumption); have hW2 := hwy (by assumption); have hse1 := (hse.from2 (l := 1) (by omega)).mono hle1; have hel1 := (hel.drop 1).mono hle1; refine R5 37 9 ?_; refine I3 (fun (x : Nat × Option Addr × Nat × List (List Value) × Option Addr × Nat × Nat × List (List Value) × IM) => ⟨[(25, .int .i64 x.1), (24, .int .i64 ks.length), (23, .slice q ks.length cq), (1, .slice x.2.2.2.2.1 x.2.2.2.2.2.1 x.2.2.2.2.2.2.1), (6, .pointer (some ⟨b11, 0, none⟩)), (4, .pointer (some ⟨b4, 0, none⟩))], [.blk b11 [.int .i64 k, .string nm, .int .i64 num, .int .i64 T0.k, .slice p1 T0.ks.length c1, .int .i64 fk, .slice pf fks.length cf, .int .i64 lb, .slice x.2.1 x.1 x.2.2.1], .slc x.2.1 x.2.2.1 37 9 x.1 x.2.2.2.1.flatten, .blk b4 [.int .i64 0, .string ⟨⟨[]⟩⟩, .int .i64 0, .int .i64 0, .slice none 0 0, .int .i64 0, .slice none 0 0, .int .i64 0, .slice none 0 0]], x.2.2.2.2.2.2.2.2⟩) (fun x => x.1 ≤ ks.length ∧ C5 G1 x.2.2.2.2.2.2.2.2 ∧ D7 x.2.2.2.2.2.2.2.2 (Q8 (ks.take x.1) (l.drop 1)) x.2.2.2.1 ∧ x.2.2.2.2.2.1 = ((l.drop 1).drop (H7 (ks.take x.1)).length).length ∧ C8 x.2.2.2.2.2.2.2.2 x.2.2.2.2.1 x.2.2.2.2.2.1 x.2.2.2.2.2.2.1 2 x.2.2.2.2.2.2.2.1 ∧ C7 x.2.2.2.2.2.2.2.2 ((l.drop 1).drop (H7 (ks.take x.1)).length) x.2.2.2.2.2.2.2.1) (fun x => ks.length - x.1) (0, none, 0, [], some ⟨b0, if c = 1 then o0 else o0 + 1 * 2, none⟩, l.length - 1, c - 1, el.drop 1, G1) ?_ ?_ ?_)
 (simp only [H9]; exact D3)
 (exact ⟨Nat.zero_le _, C5.refl _, by simp [Q8, D7], by simp [H7], by simpa using hse1, by simpa [H7] using hel1⟩)
 (rintro ⟨(i : Nat), pn, cn, es, pl, nl, cl, eL, Gi⟩ ⟨hi, hle, hst, hnl, hsL, heL⟩; simp only [] at hi hle hst hnl hsL heL ⊢)
 refine A2 ?_
 refine sB (I8 rfl rfl) rfl rfl (fun h59 => ?_) (fun h59 => ?_)
 refine A9 ?_
 refine B7 ?_
 refine A2 ?_
 (obtain ⟨b, o, e, rfl, hl, hat, hre, hgb⟩ := (hsl.mono (by first | exact hle | exact hle1.trans hle)).kidTm (hkl.mono (by first | exact hle | exact hle1.trans hle)) (i := i) (by omega) (by omega); have hone9 := hre.one; have hsc := A0y (ks := ks) (i := i) (by omega); have hsk := A0x (ks := ks) (i := i) (by omega); have hts1 := A3I (ks := ks) (i := i) (by omega); refine sP (B2 rfl rfl rfl (by omega)) rfl rfl ?_)
 refine sL (A0 rfl rfl (hat _) hl) rfl rfl ?_
 refine sE (A6 rfl) rfl (fun b72 => ?_)
 refine sS rfl rfl rfl hl hone9 rfl ?_ (hu := by exact D8 hl.symm)
 refine B6 ?_
 refine sL (A0 rfl rfl (B1 (by repeat first | exact mH | apply mT)) hl) rfl rfl ?_
 refine E0 ?_
 (subst hnl; refine W1 rfl (ih ks[i] (List.getElem_mem (by omega)) _ _ _ _ _ _ (by simp only [List.length_drop]; rw [hL2] at hlen; simp only [List.length_append, List.length_singleton, List.length_nil] at hlen; omega) (fun u hu => hsm u (by first | exact List.mem_of_mem_drop hu | exact List.mem_of_mem_drop (List.mem_of_mem_drop hu))) (by omega) hre hsL heL) rfl rfl (fun v G3 outs hle3 hh => ?_); obtain ⟨rfl, cu, p3, c3, e3, rfl, hru, hs3, hr3⟩ := hh; have hsn := D7.snoc (hst.mono hle3) hru; obtain ⟨u1, u2, u3, u4, u5, u6, u7, u8, u9, rfl⟩ : ∃ u1 u2 u3 u4 u5 u6 u7 u8 u9, cu = [u1, u2, u3, u4, u5, u6, u7, u8, u9] := (by obtain ⟨_, _, _, _, _, _, _, _, _, rfl, _⟩ := hru.open; exact ⟨_, _, _, _, _, _, _, _, _, rfl⟩); have huo := hru.one)
 refine B9 ?_
 refine sE (A6 rfl) rfl (fun b84 => ?_)
 refine sS rfl rfl rfl rfl huo rfl ?_
 refine A9 ?_
 (refine J9 (E2 rfl rfl rfl (by omega) (by unfold maxLen; omega) rfl) rfl ?_; rintro _ ⟨b93, rfl⟩)
 (refine X1 rfl rfl rfl rfl rfl (fun _ _ => by repeat (first | exact Sw.here | apply Sw.there)) (M4 (by repeat first | exact mH | apply mT)) rfl (fun u hu => List.all_eq_true.1 huo u hu) (by unfold maxLen; omega) (by omega) rfl (fun p4 c4 => ?_))
 refine D0 ?_
 refine sP (E7 rfl rfl (by omega) (by omega)) rfl rfl ?_
 refine A2 ?_
 (rw [← A3G (by omega)] at hsn; refine I7 (i + 1, p4, c4, es ++ [[u1, u2, u3, u4, u5, u6, u7, u8, u9]], p3, _, c3, e3, G3) (by simp only [List.flatten_append, List.flatten_cons, List.flatten_nil, List.append_nil]; exact (O5 (by repeat (first | exact I1.nil | refine I1.cons rfl ?_)) (by repeat (first | exact A8.refl | exact A8.nil | refine A8.cons (by repeat (first | exact Pk.here | apply Pk.there)) ?_ | apply A8.drop)))) ?_ ?_)
 exact A87
 exact R6
 refine Q0 ?_
 (refine H8 (cs := es.flatten) (by repeat (first | exact Pk.here | apply Pk.there)) (fun G5 hle5 hsl5 hno5 => ?_); obtain rfl : i = ks.length := (by omega); rw [List.take_length] at hst hnl heL)
 refine tT ?_
 refine E9 (rC rfl (A4 rfl rfl)) (rT rfl) ?_
 (rw [hW2, hL2]; exact RtP.mk hk hnum hlb (by first | (rw [List.getD_eq_getElem?_getD, List.getElem?_eq_getElem (by omega), Option.getD_some, ← hT0]; exact hr1.mono (hle.trans hle5)) | exact hty.mono (hle.trans hle5) | (rw [List.getD_eq_getElem?_getD, List.getElem?_eq_getElem (by omega), Option.getD_some, ← hT0]; exact hr1.mono (hle.trans hle5))) (hfr.mono (by first | exact hle.trans hle5 | exact hle1.trans (hle.trans hle5))) (by rw [A2n]) hsl5 (hst.mono hle5) (by simp only [List.length_append, List.length_singleton, List.length_nil, List.length_drop] at hnl ⊢; omega) (hsL.mono hle5) (by simpa [List.drop_drop, Nat.add_comm] using heL.mono hle5))
 refine J7 ?_
 refine B7 ?_
 (have hL2 := hcn (by assumption); have hW2 := hwn (by assumption); refine R5 37 9 ?_; refine I3 (fun (x : Nat × Option Addr × Nat × List (List Value) × Option Addr × Nat × Nat × List (List Value) × IM) => ⟨[(25, .int .i64 x.1), (24, .int .i64 ks.length), (23, .slice q ks.length cq), (1, .slice x.2.2.2.2.1 x.2.2.2.2.2.1 x.2.2.2.2.2.2.1), (6, .pointer (some ⟨b11, 0, none⟩)), (4, .pointer (some ⟨b4, 0, none⟩))], [.blk b11 [.int .i64 k, .string nm, .int .i64 num, .int .i64 tk, .slice pt tks.length ct, .int .i64 fk, .slice pf fks.length cf, .int .i64 lb, .slice x.2.1 x.1 x.2.2.1], .slc x.2.1 x.2.2.1 37 9 x.1 x.2.2.2.1.flatten, .blk b4 [.int .i64 0, .string ⟨⟨[]⟩⟩, .int .i64 0, .int .i64 0, .slice none 0 0, .int .i64 0, .slice none 0 0, .int .i64 0, .slice none 0 0]], x.2.2.2.2.2.2.2.2⟩) (fun x => x.1 ≤ ks.length ∧ C5 G x.2.2.2.2.2.2.2.2 ∧ D7 x.2.2.2.2.2.2.2.2 (Q8 (ks.take x.1) l) x.2.2.2.1 ∧ x.2.2.2.2.2.1 = (l.drop (H7 (ks.take x.1)).length).length ∧ C8 x.2.2.2.2.2.2.2.2 x.2.2.2.2.1 x.2.2.2.2.2.1 x.2.2.2.2.2.2.1 2 x.2.2.2.2.2.2.2.1 ∧ C7 x.2.2.2.2.2.2.2.2 (l.drop (H7 (ks.take x.1)).length) x.2.2.2.2.2.2.2.1) (fun x => ks.length - x.1) (0, none, 0, [], p, l.length, c, el, G) ?_ ?_ ?_)
 (simp only [H9]; exact D3)
 (exact ⟨Nat.zero_le _, C5.refl _, by simp [Q8, D7], by simp [H7], hse, by simpa [H7] using hel⟩)
 (rintro ⟨(i : Nat), pn, cn, es, pl, nl, cl, eL, Gi⟩ ⟨hi, hle, hst, hnl, hsL, heL⟩; simp only [] at hi hle hst hnl hsL heL ⊢)
 refine A2 ?_
 refine sB (I8 rfl rfl) rfl rfl (fun h151 => ?_) (fun h151 => ?_)
 refine A9 ?_
 refine B7 ?_
 refine A2 ?_
 (obtain ⟨b, o, e, rfl, hl, hat, hre, hgb⟩ := (hsl.mono (by first | exact hle | exact hle1.trans hle)).kidTm (hkl.mono (by first | exact hle | exact hle1.trans hle)) (i := i) (by omega) (by omega); have hone9 := hre.one; have hsc := A0y (ks := ks) (i := i) (by omega); have hsk := A0x (ks := ks) (i := i) (by omega); have hts1 := A3I (ks := ks) (i := i) (by omega); refine sP (B2 rfl rfl rfl (by omega)) rfl rfl ?_)
 refine sL (A0 rfl rfl (hat _) hl) rfl rfl ?_
 refine sE (A6 rfl) rfl (fun b164 => ?_)
 refine sS rfl rfl rfl hl hone9 rfl ?_ (hu := by exact D8 hl.symm)
 refine B6 ?_
 refine sL (A0 rfl rfl (B1 (by repeat first | exact mH | apply mT)) hl) rfl rfl ?_
 refine E0 ?_
 (subst hnl; refine W1 rfl (ih ks[i] (List.getElem_mem (by omega)) _ _ _ _ _ _ (by simp only [List.length_drop]; rw [hL2] at hlen; simp only [List.length_append, List.length_singleton, List.length_nil] at hlen; omega) (fun u hu => hsm u (by first | exact List.mem_of_mem_drop hu | exact List.mem_of_mem_drop (List.mem_of_mem_drop hu))) (by omega) hre hsL heL) rfl rfl (fun v G3 outs hle3 hh => ?_); obtain ⟨rfl, cu, p3, c3, e3, rfl, hru, hs3, hr3⟩ := hh; have hsn := D7.snoc (hst.mono hle3) hru; obtain ⟨u1, u2, u3, u4, u5, u6, u7, u8, u9, rfl⟩ : ∃ u1 u2 u3 u4 u5 u6 u7 u8 u9, cu = [u1, u2, u3, u4, u5, u6, u7, u8, u9] := (by obtain ⟨_, _, _, _, _, _, _, _, _, rfl, _⟩ := hru.open; exact ⟨_, _, _, _, _, _, _, _, _, rfl⟩); have huo := hru.one)
 refine B9 ?_
 refine sE (A6 rfl) rfl (fun b176 => ?_)
 refine sS rfl rfl rfl rfl huo rfl ?_
 refine A9 ?_
 (refine J9 (E2 rfl rfl rfl (by omega) (by unfold maxLen; omega) rfl) rfl ?_; rintro _ ⟨b185, rfl⟩)
 (refine X1 rfl rfl rfl rfl rfl (fun _ _ => by repeat (first | exact Sw.here | apply Sw.there)) (M4 (by repeat first | exact mH | apply mT)) rfl (fun u hu => List.all_eq_true.1 huo u hu) (by unfold maxLen; omega) (by omega) rfl (fun p4 c4 => ?_))
 refine D0 ?_
 refine sP (E7 rfl rfl (by omega) (by omega)) rfl rfl ?_
 refine A2 ?_
 (rw [← A3G (by omega)] at hsn; refine I7 (i + 1, p4, c4, es ++ [[u1, u2, u3, u4, u5, u6, u7, u8, u9]], p3, _, c3, e3, G3) (by simp only [List.flatten_append, List.flatten_cons, List.flatten_nil, List.append_nil]; exact (O5 (by repeat (first | exact I1.nil | refine I1.cons rfl ?_)) (by repeat (first | exact A8.refl | exact A8.nil | refine A8.cons (by repeat (first | exact Pk.here | apply Pk.there)) ?_ | apply A8.drop)))) ?_ ?_)
 exact A87
 exact R6
 refine Q0 ?_
 (refine H8 (cs := es.flatten) (by repeat (first | exact Pk.here | apply Pk.there)) (fun G5 hle5 hsl5 hno5 => ?_); obtain rfl : i = ks.length := (by omega); rw [List.take_length] at hst hnl heL)
 refine tT ?_
 refine E9 (rC rfl (A4 rfl rfl)) (rT rfl) ?_
 (rw [hW2, hL2]; exact RtP.mk hk hnum hlb (by first | (rw [List.getD_eq_getElem?_getD, List.getElem?_eq_getElem (by omega), Option.getD_some, ← hT0]; exact hr1.mono (hle.trans hle5)) | exact hty.mono (hle.trans hle5) | (rw [List.getD_eq_getElem?_getD, List.getElem?_eq_getElem (by omega), Option.getD_some, ← hT0]; exact hr1.mono (hle.trans hle5))) (hfr.mono (by first | exact hle.trans hle5 | exact hle1.trans (hle.trans hle5))) (by rw [A2n]) hsl5 (hst.mono hle5) (by simp only [List.length_append, List.length_singleton, List.length_nil, List.length_drop] at hnl ⊢; omega) (hsL.mono hle5) (by simpa [List.drop_drop, Nat.add_comm] using heL.mono hle5))
def A21 (u : Tm) (n : Int) : IM → Value → List A5 → Prop := fun G' v outs => outs = [] ∧ ∃ cu, v = .tuple ⟨[.agg ⟨cu⟩, .int .i64 n]⟩ ∧ B3 G' u cu
theorem A21.mk {G' : IM} {k : Int} {nm : ByteArray} {num : Int} {ty fr : Ty} {lb : Int} {ks : List Tm} {tk fk : Int} {pt pf : Option Addr} {nt ct nf cf : Nat} {p : Option Addr} {m c : Nat} {es : List (List Value)} {a n : Int}
  (hk : H3 k) (hnum : H3 num) (hlb : H3 lb) (hty : C2 G' ty [.int .i64 tk, .slice pt nt ct]) (hfr : C2 G' fr [.int .i64 fk, .slice pf nf cf]) (hm : m = ks.length) (hs : Sl G' p m c 9 es.flatten) (hr : D7 G' ks es) (ha : a = n) :
  A21 (.mk k nm num ty fr lb ks) n G' (.tuple ⟨[.agg ⟨[.int .i64 k, .string nm, .int .i64 num, .int .i64 tk, .slice pt nt ct, .int .i64 fk, .slice pf nf cf, .int .i64 lb, .slice p m c]⟩, .int .i64 a]⟩) [] := by
 subst hm ha
 refine ⟨rfl, _, rfl, ?_⟩
 simp only [B3]
 exact ⟨_, _, p, c, es, rfl, hk, hnum, hlb, hty, hfr, C8.of hs hr.len hr.all (fun e he => by obtain ⟨j, hj⟩ := List.getElem?_of_mem he; exact (hr.inv hj L0).2.one), hr⟩
theorem A50 {Q : Prop} (h : Q := by (exact ⟨Nat.zero_le _, C5.refl _, by simp [Q8, D7]⟩)) : Q := h
theorem A51 {Q : Prop} (h : Q := by (dsimp only; exact ⟨by omega, hle.trans hle7, hsn⟩)) : Q := h
theorem B3v (L : List Ty) (p : Option Addr) (c : Nat) (hsmL : ∀ u ∈ L, u.small) : ∀ (t : Tm) (a : Nat) (G : IM) (cells : List Value) (el : List (List Value)), a + (I5 t).length ≤ L.length → L.length ≤ 4000000 → t.small → D6 t ≤ 4000000 → B3 G t cells → C8 G p L.length c 2 el → C7 G L el →
  Fn Tryz.prog 138 [.agg ⟨cells⟩, .slice p L.length c, .int .i64 (a : Int)] [] G (A21 (W3 t (L.drop a)) ((a + (I5 t).length : Nat) : Int)) := by
 refine Tm.ind fun k nm num ty fr lb ks ih a G cells el hlen hLb hts hcnt hr hse hel => ?_
 have hone := hr.one
 have hlen9 := hr.len
 simp only [Tm.small] at hts
 obtain ⟨_, hty', hfr', hsm, hks⟩ := hts
 have hcy : k = 5 ∨ k = 13 → I5 (.mk k nm num ty fr lb ks) = [ty] ++ H7 ks := fun h => by rw [I5, if_pos h]
 have hcn : ¬ (k = 5 ∨ k = 13) → I5 (.mk k nm num ty fr lb ks) = H7 ks := fun h => by rw [I5, if_neg h, List.nil_append]
 have hwy : k = 5 ∨ k = 13 → W3 (.mk k nm num ty fr lb ks) (L.drop a) = .mk k nm num ((L.drop a).getD 0 C1) fr lb (Q8 ks (L.drop (a + 1))) := fun h => by rw [W3, if_pos h, if_pos h, List.drop_drop]
 have hwn : ¬ (k = 5 ∨ k = 13) → W3 (.mk k nm num ty fr lb ks) (L.drop a) = .mk k nm num ty fr lb (Q8 ks (L.drop a)) := fun h => by rw [W3, if_neg h, if_neg h]
 rw [D6] at hcnt
 obtain ⟨tk, tks⟩ := ty
 obtain ⟨fk, fks⟩ := fr
 obtain ⟨pt, ct, pf, cf, q, cq, ek, rfl, hk, hnum, hlb, hty, hfr, hsl, hkl⟩ := hr.open9
 have hn := hsl.le
 have hkn := A4a ks
 have hT := P4 (.mk tk tks) G _ hty' hty
 refine B8 Tryz.func138 rfl Tryz.ntmps138 Tryz.results138 rfl ?_
 intro w0
 refine A2 ?_
 refine sE (C6 rfl rfl) rfl (fun b3 => ?_)
 refine sE (A6 rfl) rfl (fun b4 => ?_)
 refine A7 ?_
 refine sE (A6 rfl) rfl (fun b11 => ?_)
 refine A9 ?_
 (refine D4 rfl hT rfl rfl (fun v G1 hle1 hh => ?_); obtain ⟨cs1, F1, rfl, hs1, hn1⟩ := hh; have hr1 := hs1.R.mono (B5.le _ _); obtain ⟨p1, c1, rfl, _⟩ := hs1.open; have hF := P4 (.mk fk fks) G1 _ hfr' (hfr.mono hle1))
 refine D0 ?_
 (refine D4 rfl hF rfl rfl (fun v G2 hle2 hh => ?_); obtain ⟨cs2, F2, rfl, hs2, hn2⟩ := hh; have hr2 := hs2.R.mono (B5.le _ _); obtain ⟨p2, c2, rfl, _⟩ := hs2.open; have hle12 := hle1.trans hle2; replace hsl := hsl.mono hle12; replace hkl := hkl.mono hle12; replace hse := hse.mono hle12; replace hel := hel.mono hle12)
 refine H1 ?_
 refine sB (qE rfl rfl) rfl rfl (fun h44 => ?_) (fun h44 => ?_)
 refine J8 ?_
 (have hL1 := hcy (by omega); have h1 : a + (1 + (H7 ks).length) ≤ L.length := (by rw [hL1] at hlen; simp only [List.length_append, List.length_singleton] at hlen; omega); obtain ⟨b0, o0, p20, c20, rfl, hat0, hre0, hgb0⟩ := hse.kidTy hel (i := a) (by omega) (by omega); obtain ⟨T0, hT0⟩ : ∃ T, T = L[a]'(by omega) := ⟨_, rfl⟩; have hs0 := hsmL _ (List.getElem_mem (show a < L.length by omega)); rw [← hT0] at hre0 hat0 hs0; have hO := P4 T0 G2 _ hs0 hre0; refine sP (B2 rfl rfl rfl (by omega)) rfl rfl ?_)
 refine sL (A0 rfl rfl (hat0 _) rfl) rfl rfl ?_
 (refine D4 rfl hO rfl rfl (fun v G3 hle3 hh => ?_); obtain ⟨cs3, F3, rfl, hs3, hn3⟩ := hh; have hr3 := hs3.R.mono (B5.le _ _); obtain ⟨p3, c3, rfl, _⟩ := hs3.open)
 refine A7 ?_
 refine sP (E7 rfl rfl (by omega) (by omega)) rfl rfl ?_
 refine D9 ?_
 refine B7 ?_
 (have hL2 := hcy (by omega); have hW2 := hwy (by omega); refine R5 37 9 ?_; refine I3 (fun (x : Nat × Option Addr × Nat × List (List Value) × IM) => ⟨[(9, .int .i64 x.1), (2, .int .i64 ((a + 1 + (H7 (ks.take x.1)).length : Nat) : Int)), (1, .slice (some ⟨b0, o0, none⟩) L.length c), (3, .pointer (some ⟨b3, 0, none⟩)), (8, .pointer (some ⟨b11, 0, none⟩)), (6, .pointer (some ⟨b4, 0, none⟩))], [.blk b11 [.int .i64 k, .string nm, .int .i64 num, .int .i64 T0.k, .slice p3 T0.ks.length c3, .int .i64 fk, .slice p2 fks.length c2, .int .i64 lb, .slice x.2.1 x.1 x.2.2.1], .slc x.2.1 x.2.2.1 37 9 x.1 x.2.2.2.1.flatten, .blk b4 [.int .i64 0, .string ⟨⟨[]⟩⟩, .int .i64 0, .int .i64 0, .slice none 0 0, .int .i64 0, .slice none 0 0, .int .i64 0, .slice none 0 0], .blk b3 [.int .i64 k, .string nm, .int .i64 num, .int .i64 tk, .slice pt tks.length ct, .int .i64 fk, .slice pf fks.length cf, .int .i64 lb, .slice q ks.length cq]], x.2.2.2.2⟩) (fun x => x.1 ≤ ks.length ∧ C5 G3 x.2.2.2.2 ∧ D7 x.2.2.2.2 (Q8 (ks.take x.1) (L.drop (a + 1))) x.2.2.2.1) (fun x => ks.length - x.1) (0, none, 0, [], G3) ?_ ?_ ?_)
 (simp only [H9]; exact D3)
 exact A50
 (rintro ⟨(i : Nat), pn, cn, es, Gi⟩ ⟨hi, hle, hst⟩; simp only [] at hi hle hst ⊢)
 refine A9 ?_
 refine sB (I8 rfl rfl) rfl rfl (fun h88 => ?_) (fun h88 => ?_)
 refine A7 ?_
 refine B7 ?_
 refine B9 ?_
 refine sE (A6 rfl) rfl (fun b99 => ?_)
 refine D0 ?_
 (obtain ⟨b, o, e, rfl, hl, hat, hre, hgb⟩ := (hsl.mono (by first | exact hle | exact hle3.trans hle)).kidTm (hkl.mono (by first | exact hle | exact hle3.trans hle)) (i := i) (by omega) (by omega); have hone9 := hre.one; have hsc := A0y (ks := ks) (i := i) (by omega); have hsk := A0x (ks := ks) (i := i) (by omega); have hts1 := A3I (ks := ks) (i := i) (by omega); have e9 : (H7 (ks.take (i + 1))).length = (H7 (ks.take i)).length + (I5 ks[i]).length := (by rw [A0V (by omega), List.length_append]); refine sP (B2 rfl rfl rfl (by omega)) rfl rfl ?_)
 refine sL (A0 rfl rfl (hat _) hl) rfl rfl ?_
 refine A2 ?_
 (have hih := ih ks[i] (List.getElem_mem (by omega)) _ Gi e el (by rw [hL2] at hlen; (try simp only [List.length_append, List.length_singleton] at hlen); first | exact (show a + 1 + (H7 (ks.take i)).length + (I5 ks[i]).length ≤ L.length by omega) | exact (show a + (H7 (ks.take i)).length + (I5 ks[i]).length ≤ L.length by omega)) hLb (Tm.smallL_mem hks _ (List.getElem_mem (by omega))) (by omega) hre (hse.mono (by first | exact hle | exact hle3.trans hle)) (hel.mono (by first | exact hle | exact hle3.trans hle)); refine W1 rfl hih rfl rfl (fun v G7 outs hle7 hh => ?_); obtain ⟨rfl, cu, rfl, hru⟩ := hh; rw [← List.drop_drop] at hru; have hsn := D7.snoc (hst.mono hle7) hru; obtain ⟨u1, u2, u3, u4, u5, u6, u7, u8, u9, rfl⟩ : ∃ u1 u2 u3 u4 u5 u6 u7 u8 u9, cu = [u1, u2, u3, u4, u5, u6, u7, u8, u9] := (by obtain ⟨_, _, _, _, _, _, _, _, _, rfl, _⟩ := hru.open; exact ⟨_, _, _, _, _, _, _, _, _, rfl⟩); have huo := hru.one)
 refine B9 ?_
 refine sS rfl rfl rfl rfl huo rfl ?_
 refine A9 ?_
 (refine J9 (E2 rfl rfl rfl (by omega) (by unfold maxLen; omega) rfl) rfl ?_; rintro _ ⟨b124, rfl⟩)
 (refine X1 rfl rfl rfl rfl rfl (fun _ _ => by repeat (first | exact Sw.here | apply Sw.there)) (M4 (by repeat first | exact mH | apply mT)) rfl (fun u hu => List.all_eq_true.1 huo u hu) (by unfold maxLen; omega) (by omega) rfl (fun p4 c4 => ?_))
 refine A9 ?_
 refine sP (E7 rfl rfl (by omega) (by omega)) rfl rfl ?_
 refine A2 ?_
 (rw [← A3G (by omega)] at hsn; refine I7 (i + 1, p4, c4, es ++ [[u1, u2, u3, u4, u5, u6, u7, u8, u9]], G7) (by simp only [List.flatten_append, List.flatten_cons, List.flatten_nil, List.append_nil, e9, ← Nat.add_assoc]; exact (O5 (by repeat (first | exact I1.nil | refine I1.cons rfl ?_)) (by repeat (first | exact A8.refl | exact A8.nil | refine A8.cons (by repeat (first | exact Pk.here | apply Pk.there)) ?_ | apply A8.drop)))) ?_ ?_)
 exact A51
 exact R6
 refine J3 ?_
 (refine H8 (cs := es.flatten) (by repeat (first | exact Pk.here | apply Pk.there)) (fun G9 hle9 hsl9 hno9 => ?_); obtain rfl : i = ks.length := (by omega); rw [List.take_length] at hst)
 refine tT ?_
 refine E9 (rC rfl (A4 rfl rfl)) (rT rfl) ?_
 (rw [hW2, hL2]; exact A21.mk hk hnum hlb (by first | (rw [List.getD_eq_getElem?_getD, List.getElem?_drop, Nat.add_zero, List.getElem?_eq_getElem (by omega), Option.getD_some, ← hT0]; exact hr3.mono (hle.trans hle9)) | exact hr1.mono (hle2.trans (hle.trans hle9))) (by first | exact hr2.mono (hle3.trans (hle.trans hle9)) | exact hr2.mono (hle.trans hle9)) (by rw [A2n]) hsl9 (hst.mono hle9) (by (simp only [List.take_length, List.length_append, List.length_singleton]) <;> omega))
 refine B9 ?_
 refine sB (qE rfl rfl) rfl rfl (fun h162 => ?_) (fun h162 => ?_)
 refine D0 ?_
 (have hL1 := hcy (by omega); have h1 : a + (1 + (H7 ks).length) ≤ L.length := (by rw [hL1] at hlen; simp only [List.length_append, List.length_singleton] at hlen; omega); obtain ⟨b0, o0, p20, c20, rfl, hat0, hre0, hgb0⟩ := hse.kidTy hel (i := a) (by omega) (by omega); obtain ⟨T0, hT0⟩ : ∃ T, T = L[a]'(by omega) := ⟨_, rfl⟩; have hs0 := hsmL _ (List.getElem_mem (show a < L.length by omega)); rw [← hT0] at hre0 hat0 hs0; have hO := P4 T0 G2 _ hs0 hre0; refine sP (B2 rfl rfl rfl (by omega)) rfl rfl ?_)
 refine sL (A0 rfl rfl (hat0 _) rfl) rfl rfl ?_
 (refine D4 rfl hO rfl rfl (fun v G3 hle3 hh => ?_); obtain ⟨cs3, F3, rfl, hs3, hn3⟩ := hh; have hr3 := hs3.R.mono (B5.le _ _); obtain ⟨p3, c3, rfl, _⟩ := hs3.open)
 refine A7 ?_
 refine sP (E7 rfl rfl (by omega) (by omega)) rfl rfl ?_
 refine D9 ?_
 refine B7 ?_
 (have hL2 := hcy (by omega); have hW2 := hwy (by omega); refine R5 37 9 ?_; refine I3 (fun (x : Nat × Option Addr × Nat × List (List Value) × IM) => ⟨[(9, .int .i64 x.1), (2, .int .i64 ((a + 1 + (H7 (ks.take x.1)).length : Nat) : Int)), (1, .slice (some ⟨b0, o0, none⟩) L.length c), (3, .pointer (some ⟨b3, 0, none⟩)), (8, .pointer (some ⟨b11, 0, none⟩)), (6, .pointer (some ⟨b4, 0, none⟩))], [.blk b11 [.int .i64 k, .string nm, .int .i64 num, .int .i64 T0.k, .slice p3 T0.ks.length c3, .int .i64 fk, .slice p2 fks.length c2, .int .i64 lb, .slice x.2.1 x.1 x.2.2.1], .slc x.2.1 x.2.2.1 37 9 x.1 x.2.2.2.1.flatten, .blk b4 [.int .i64 0, .string ⟨⟨[]⟩⟩, .int .i64 0, .int .i64 0, .slice none 0 0, .int .i64 0, .slice none 0 0, .int .i64 0, .slice none 0 0], .blk b3 [.int .i64 k, .string nm, .int .i64 num, .int .i64 tk, .slice pt tks.length ct, .int .i64 fk, .slice pf fks.length cf, .int .i64 lb, .slice q ks.length cq]], x.2.2.2.2⟩) (fun x => x.1 ≤ ks.length ∧ C5 G3 x.2.2.2.2 ∧ D7 x.2.2.2.2 (Q8 (ks.take x.1) (L.drop (a + 1))) x.2.2.2.1) (fun x => ks.length - x.1) (0, none, 0, [], G3) ?_ ?_ ?_)
 (simp only [H9]; exact D3)
 exact A50
 (rintro ⟨(i : Nat), pn, cn, es, Gi⟩ ⟨hi, hle, hst⟩; simp only [] at hi hle hst ⊢)
 refine A9 ?_
 refine sB (I8 rfl rfl) rfl rfl (fun h202 => ?_) (fun h202 => ?_)
 refine A7 ?_
 refine B7 ?_
 refine B9 ?_
 refine sE (A6 rfl) rfl (fun b213 => ?_)
 refine D0 ?_
 (obtain ⟨b, o, e, rfl, hl, hat, hre, hgb⟩ := (hsl.mono (by first | exact hle | exact hle3.trans hle)).kidTm (hkl.mono (by first | exact hle | exact hle3.trans hle)) (i := i) (by omega) (by omega); have hone9 := hre.one; have hsc := A0y (ks := ks) (i := i) (by omega); have hsk := A0x (ks := ks) (i := i) (by omega); have hts1 := A3I (ks := ks) (i := i) (by omega); have e9 : (H7 (ks.take (i + 1))).length = (H7 (ks.take i)).length + (I5 ks[i]).length := (by rw [A0V (by omega), List.length_append]); refine sP (B2 rfl rfl rfl (by omega)) rfl rfl ?_)
 refine sL (A0 rfl rfl (hat _) hl) rfl rfl ?_
 refine A2 ?_
 (have hih := ih ks[i] (List.getElem_mem (by omega)) _ Gi e el (by rw [hL2] at hlen; (try simp only [List.length_append, List.length_singleton] at hlen); first | exact (show a + 1 + (H7 (ks.take i)).length + (I5 ks[i]).length ≤ L.length by omega) | exact (show a + (H7 (ks.take i)).length + (I5 ks[i]).length ≤ L.length by omega)) hLb (Tm.smallL_mem hks _ (List.getElem_mem (by omega))) (by omega) hre (hse.mono (by first | exact hle | exact hle3.trans hle)) (hel.mono (by first | exact hle | exact hle3.trans hle)); refine W1 rfl hih rfl rfl (fun v G7 outs hle7 hh => ?_); obtain ⟨rfl, cu, rfl, hru⟩ := hh; rw [← List.drop_drop] at hru; have hsn := D7.snoc (hst.mono hle7) hru; obtain ⟨u1, u2, u3, u4, u5, u6, u7, u8, u9, rfl⟩ : ∃ u1 u2 u3 u4 u5 u6 u7 u8 u9, cu = [u1, u2, u3, u4, u5, u6, u7, u8, u9] := (by obtain ⟨_, _, _, _, _, _, _, _, _, rfl, _⟩ := hru.open; exact ⟨_, _, _, _, _, _, _, _, _, rfl⟩); have huo := hru.one)
 refine B9 ?_
 refine sS rfl rfl rfl rfl huo rfl ?_
 refine A9 ?_
 (refine J9 (E2 rfl rfl rfl (by omega) (by unfold maxLen; omega) rfl) rfl ?_; rintro _ ⟨b238, rfl⟩)
 (refine X1 rfl rfl rfl rfl rfl (fun _ _ => by repeat (first | exact Sw.here | apply Sw.there)) (M4 (by repeat first | exact mH | apply mT)) rfl (fun u hu => List.all_eq_true.1 huo u hu) (by unfold maxLen; omega) (by omega) rfl (fun p4 c4 => ?_))
 refine A9 ?_
 refine sP (E7 rfl rfl (by omega) (by omega)) rfl rfl ?_
 refine A2 ?_
 (rw [← A3G (by omega)] at hsn; refine I7 (i + 1, p4, c4, es ++ [[u1, u2, u3, u4, u5, u6, u7, u8, u9]], G7) (by simp only [List.flatten_append, List.flatten_cons, List.flatten_nil, List.append_nil, e9, ← Nat.add_assoc]; exact (O5 (by repeat (first | exact I1.nil | refine I1.cons rfl ?_)) (by repeat (first | exact A8.refl | exact A8.nil | refine A8.cons (by repeat (first | exact Pk.here | apply Pk.there)) ?_ | apply A8.drop)))) ?_ ?_)
 exact A51
 exact R6
 refine J3 ?_
 (refine H8 (cs := es.flatten) (by repeat (first | exact Pk.here | apply Pk.there)) (fun G9 hle9 hsl9 hno9 => ?_); obtain rfl : i = ks.length := (by omega); rw [List.take_length] at hst)
 refine tT ?_
 refine E9 (rC rfl (A4 rfl rfl)) (rT rfl) ?_
 (rw [hW2, hL2]; exact A21.mk hk hnum hlb (by first | (rw [List.getD_eq_getElem?_getD, List.getElem?_drop, Nat.add_zero, List.getElem?_eq_getElem (by omega), Option.getD_some, ← hT0]; exact hr3.mono (hle.trans hle9)) | exact hr1.mono (hle2.trans (hle.trans hle9))) (by first | exact hr2.mono (hle3.trans (hle.trans hle9)) | exact hr2.mono (hle.trans hle9)) (by rw [A2n]) hsl9 (hst.mono hle9) (by (simp only [List.take_length, List.length_append, List.length_singleton]) <;> omega))
 refine J8 ?_
 refine B7 ?_
 (have hL2 := hcn (by omega); have hW2 := hwn (by omega); refine R5 37 9 ?_; refine I3 (fun (x : Nat × Option Addr × Nat × List (List Value) × IM) => ⟨[(9, .int .i64 x.1), (2, .int .i64 ((a + (H7 (ks.take x.1)).length : Nat) : Int)), (1, .slice p L.length c), (3, .pointer (some ⟨b3, 0, none⟩)), (8, .pointer (some ⟨b11, 0, none⟩)), (6, .pointer (some ⟨b4, 0, none⟩))], [.blk b11 [.int .i64 k, .string nm, .int .i64 num, .int .i64 tk, .slice p1 tks.length c1, .int .i64 fk, .slice p2 fks.length c2, .int .i64 lb, .slice x.2.1 x.1 x.2.2.1], .slc x.2.1 x.2.2.1 37 9 x.1 x.2.2.2.1.flatten, .blk b4 [.int .i64 0, .string ⟨⟨[]⟩⟩, .int .i64 0, .int .i64 0, .slice none 0 0, .int .i64 0, .slice none 0 0, .int .i64 0, .slice none 0 0], .blk b3 [.int .i64 k, .string nm, .int .i64 num, .int .i64 tk, .slice pt tks.length ct, .int .i64 fk, .slice pf fks.length cf, .int .i64 lb, .slice q ks.length cq]], x.2.2.2.2⟩) (fun x => x.1 ≤ ks.length ∧ C5 G2 x.2.2.2.2 ∧ D7 x.2.2.2.2 (Q8 (ks.take x.1) (L.drop a)) x.2.2.2.1) (fun x => ks.length - x.1) (0, none, 0, [], G2) ?_ ?_ ?_)
 (simp only [H9]; exact D3)
 exact A50
 (rintro ⟨(i : Nat), pn, cn, es, Gi⟩ ⟨hi, hle, hst⟩; simp only [] at hi hle hst ⊢)
 refine A9 ?_
 refine sB (I8 rfl rfl) rfl rfl (fun h297 => ?_) (fun h297 => ?_)
 refine A7 ?_
 refine B7 ?_
 refine B9 ?_
 refine sE (A6 rfl) rfl (fun b308 => ?_)
 refine D0 ?_
 (obtain ⟨b, o, e, rfl, hl, hat, hre, hgb⟩ := (hsl.mono (by first | exact hle | exact hle3.trans hle)).kidTm (hkl.mono (by first | exact hle | exact hle3.trans hle)) (i := i) (by omega) (by omega); have hone9 := hre.one; have hsc := A0y (ks := ks) (i := i) (by omega); have hsk := A0x (ks := ks) (i := i) (by omega); have hts1 := A3I (ks := ks) (i := i) (by omega); have e9 : (H7 (ks.take (i + 1))).length = (H7 (ks.take i)).length + (I5 ks[i]).length := (by rw [A0V (by omega), List.length_append]); refine sP (B2 rfl rfl rfl (by omega)) rfl rfl ?_)
 refine sL (A0 rfl rfl (hat _) hl) rfl rfl ?_
 refine A2 ?_
 (have hih := ih ks[i] (List.getElem_mem (by omega)) _ Gi e el (by rw [hL2] at hlen; (try simp only [List.length_append, List.length_singleton] at hlen); first | exact (show a + 1 + (H7 (ks.take i)).length + (I5 ks[i]).length ≤ L.length by omega) | exact (show a + (H7 (ks.take i)).length + (I5 ks[i]).length ≤ L.length by omega)) hLb (Tm.smallL_mem hks _ (List.getElem_mem (by omega))) (by omega) hre (hse.mono (by first | exact hle | exact hle3.trans hle)) (hel.mono (by first | exact hle | exact hle3.trans hle)); refine W1 rfl hih rfl rfl (fun v G7 outs hle7 hh => ?_); obtain ⟨rfl, cu, rfl, hru⟩ := hh; rw [← List.drop_drop] at hru; have hsn := D7.snoc (hst.mono hle7) hru; obtain ⟨u1, u2, u3, u4, u5, u6, u7, u8, u9, rfl⟩ : ∃ u1 u2 u3 u4 u5 u6 u7 u8 u9, cu = [u1, u2, u3, u4, u5, u6, u7, u8, u9] := (by obtain ⟨_, _, _, _, _, _, _, _, _, rfl, _⟩ := hru.open; exact ⟨_, _, _, _, _, _, _, _, _, rfl⟩); have huo := hru.one)
 refine B9 ?_
 refine sS rfl rfl rfl rfl huo rfl ?_
 refine A9 ?_
 (refine J9 (E2 rfl rfl rfl (by omega) (by unfold maxLen; omega) rfl) rfl ?_; rintro _ ⟨b333, rfl⟩)
 (refine X1 rfl rfl rfl rfl rfl (fun _ _ => by repeat (first | exact Sw.here | apply Sw.there)) (M4 (by repeat first | exact mH | apply mT)) rfl (fun u hu => List.all_eq_true.1 huo u hu) (by unfold maxLen; omega) (by omega) rfl (fun p4 c4 => ?_))
 refine A9 ?_
 refine sP (E7 rfl rfl (by omega) (by omega)) rfl rfl ?_
 refine A2 ?_
 (rw [← A3G (by omega)] at hsn; refine I7 (i + 1, p4, c4, es ++ [[u1, u2, u3, u4, u5, u6, u7, u8, u9]], G7) (by simp only [List.flatten_append, List.flatten_cons, List.flatten_nil, List.append_nil, e9, ← Nat.add_assoc]; exact (O5 (by repeat (first | exact I1.nil | refine I1.cons rfl ?_)) (by repeat (first | exact A8.refl | exact A8.nil | refine A8.cons (by repeat (first | exact Pk.here | apply Pk.there)) ?_ | apply A8.drop)))) ?_ ?_)
 exact A51
 exact R6
 refine J3 ?_
 (refine H8 (cs := es.flatten) (by repeat (first | exact Pk.here | apply Pk.there)) (fun G9 hle9 hsl9 hno9 => ?_); obtain rfl : i = ks.length := (by omega); rw [List.take_length] at hst)
 refine tT ?_
 refine E9 (rC rfl (A4 rfl rfl)) (rT rfl) ?_
 (rw [hW2, hL2]; exact A21.mk hk hnum hlb (by first | (rw [List.getD_eq_getElem?_getD, List.getElem?_drop, Nat.add_zero, List.getElem?_eq_getElem (by omega), Option.getD_some, ← hT0]; exact hr3.mono (hle.trans hle9)) | exact hr1.mono (hle2.trans (hle.trans hle9))) (by first | exact hr2.mono (hle3.trans (hle.trans hle9)) | exact hr2.mono (hle.trans hle9)) (by rw [A2n]) hsl9 (hst.mono hle9) (by (simp only [List.take_length, List.length_append, List.length_singleton]) <;> omega))
def A2p (t : Tm) (L : List Ty) : Option Tm := if Q1 t = true ∧ (V6 t).length = L.length ∧ ∀ u ∈ L, H5 u = true then some (W3 t L) else none
theorem A88 {t : Tm} {L : List Ty} (h : Q1 t = true) (hl : (V6 t).length = L.length) (ha : ∀ j, j < L.length → (h : j < L.length) → H5 L[j] = true) : A2p t L = some (W3 t L) := by
 unfold A2p
 rw [if_pos ⟨h, hl, fun u hu => by obtain ⟨i, hi, rfl⟩ := List.mem_iff_getElem.1 hu; exact ha i hi hi⟩]
theorem B3w {t : Tm} {L : List Ty} (h : ¬(Q1 t = true ∧ (V6 t).length = L.length ∧ ∀ u ∈ L, H5 u = true)) : A2p t L = none := by
 unfold A2p; rw [if_neg h]
def TmB (o : Option Tm) : IM → Value → List A5 → Prop := L5 fun G' v => ∃ cu, v = .tuple ⟨[.agg ⟨cu⟩, .bool o.isSome]⟩ ∧ B3 G' (o.getD L0) cu
theorem A2q {t : Tm} (h : Q1 t = true) : V6 t = I5 t := by unfold V6; rw [if_pos h]
theorem A52 {Q : Prop} (h : Q := by (rw [hno (fun hc => by first | omega | exact Bool.noConfusion (hc.1.symm.trans (show Q1 t = false by assumption)) | exact Bool.noConfusion ((hc.2.2 _ (List.getElem_mem (show i < L.length by omega))).symm.trans (by assumption)))]; exact ⟨rfl, _, rfl, (N5.zero _).R⟩)) : Q := h
theorem B3x (t : Tm) (L : List Ty) (G : IM) (cells : List Value) (p : Option Addr) (c : Nat) (es : List (List Value)) (hts : t.small) (hcnt : D6 t ≤ 4000000) (hLb : L.length ≤ 4000000) (hsm : ∀ u ∈ L, u.small) (hr : B3 G t cells) (hse : C8 G p L.length c 2 es) (hel : C7 G L es) :
  Fn Tryz.prog 95 [.agg ⟨cells⟩, .slice p L.length c] [] G (TmB (A2p t L)) := by
 have hl := hr.len
 have hone := hr.one
 have hyes := @A88 t L
 have hno := @B3w t L
 have htv := @A2q t
 have hT := A5Z t G cells hts hcnt hr
 generalize A2p t L = R at hyes hno ⊢
 obtain ⟨TT, hTT⟩ : ∃ TT, V6 t = TT := ⟨_, rfl⟩
 rw [hTT] at hyes hno htv hT
 refine B8 Tryz.func95 rfl Tryz.ntmps95 Tryz.results95 rfl ?_
 intro w0
 refine A2 ?_
 refine sE (C6 rfl rfl) rfl (fun b3 => ?_)
 refine sE (A6 rfl) rfl (fun b4 => ?_)
 refine A7 ?_
 refine sL (A0 rfl rfl (B1 (by repeat first | exact mH | apply mT)) hl) rfl rfl ?_
 (refine W1 rfl hT rfl rfl (fun v G1 outs hle1 hh => ?_); obtain ⟨p1, c1, e1, rfl, rfl, hr1⟩ := hh; replace hr := hr.mono hle1; replace hse := hse.mono hle1; replace hel := hel.mono hle1; have hv := A5T t G1 cells (by omega) hr)
 refine B9 ?_
 refine sB (M7 rfl rfl) rfl rfl (fun h16 => ?_) (fun h16 => ?_)
 refine Q0 ?_
 refine E9 (rC rfl (A4 rfl rfl)) (rT rfl) ?_
 exact A52
 refine E0 ?_
 refine sL (A0 rfl rfl (B1 (by repeat first | exact mH | apply mT)) hl) rfl rfl ?_
 refine E8 rfl (hv) rfl rfl (fun h38 => ?_) (fun h38 => ?_)
 refine J6 ?_
 refine B7 ?_
 (refine I3 (fun (x : Nat) => ⟨[(6, .int .i64 x), (1, .slice p L.length c), (2, .pointer (some ⟨b3, 0, none⟩)), (4, .pointer (some ⟨b4, 0, none⟩))], [.blk b4 [.int .i64 0, .string ⟨⟨[]⟩⟩, .int .i64 0, .int .i64 0, .slice none 0 0, .int .i64 0, .slice none 0 0, .int .i64 0, .slice none 0 0], .blk b3 cells], G1⟩) (fun x => x ≤ L.length ∧ ∀ j, j < x → (h : j < L.length) → H5 L[j] = true) (fun x => L.length - x) 0 ?_ ?_ ?_)
 exact D3
 (exact ⟨Nat.zero_le _, fun j hj => absurd hj (by omega)⟩)
 (rintro (i : Nat) ⟨hi, hval⟩)
 refine A7 ?_
 refine sB (I8 rfl rfl) rfl rfl (fun h63 => ?_) (fun h63 => ?_)
 refine A7 ?_
 refine B7 ?_
 refine B6 ?_
 (obtain ⟨b0, o0, p20, c20, rfl, hat0, hre0, hgb0⟩ := hse.kidTy hel (i := i) (by omega) (by omega); have hV := A1L _ G1 _ hre0; refine sP (B2 rfl rfl rfl (by omega)) rfl rfl ?_)
 refine sL (A0 rfl rfl (hat0 _) rfl) rfl rfl ?_
 refine E8 rfl (hV) rfl rfl (fun h77 => ?_) (fun h77 => ?_)
 refine D9 ?_
 refine sP (E7 rfl rfl (by omega) (by omega)) rfl rfl ?_
 refine A2 ?_
 refine I7 (i + 1) ?_ ?_ ?_
 exact D3
 (exact ⟨by omega, fun j hj hl => by rcases Nat.lt_succ_iff_lt_or_eq.1 hj with h | h; exact hval j h hl; subst h; assumption⟩)
 (show L.length - (i + 1) < L.length - i; omega)
 refine Q0 ?_
 refine E9 (rC rfl (A4 rfl rfl)) (rT rfl) ?_
 exact A52
 refine I9 ?_
 refine sL (A0 rfl rfl (B1 (by repeat first | exact mH | apply mT)) hl) rfl rfl ?_
 refine E0 ?_
 (have hTv := htv (by assumption); refine W1 rfl (B3v L p c hsm t 0 G1 cells es (by rw [← hTv]; omega) hLb hts hcnt hr hse hel) rfl rfl (fun v G3 outs hle3 hh => ?_); obtain ⟨rfl, cu, rfl, hru⟩ := hh; rw [List.drop_zero] at hru; have hul := hru.len; have huo := hru.one)
 refine B9 ?_
 refine sE (A6 rfl) rfl (fun b129 => ?_)
 refine sS rfl rfl rfl hul huo rfl ?_ (hu := by exact D8 hul.symm)
 refine B0 ?_
 refine sL (A0 rfl rfl (B1 (by repeat first | exact mH | apply mT)) hul) rfl rfl ?_
 refine sS rfl rfl rfl hul huo rfl ?_ (hu := by exact D8 hul.symm)
 refine B6 ?_
 refine E9 (rC rfl (A0 rfl rfl (B1 (by repeat first | exact mH | apply mT)) hul)) (rT rfl) ?_
 (rw [hyes (by assumption) (by omega) (fun j hj => hval j (by omega))]; exact ⟨rfl, _, rfl, hru⟩)
 refine J7 ?_
 refine E9 (rC rfl (A4 rfl rfl)) (rT rfl) ?_
 exact A52
section bits
variable {P : Program} {Γ : K8} {env : L6} {hp : List A5} {G : IM} {ty : TypeId}
theorem A89 {x y : Operand} {t t' : TypeId} {m i : Nat} (hx : evo env x = some (.int .i64 (m : Int))) (hy : evo env y = some (.int .i64 (i : Int))) (hi : i ≤ 63) :
  J2 P Γ ⟨env, hp, G⟩ (.binOp .shr t x y t') ty (.int .i64 ((m / 2 ^ i : Nat) : Int)) := by
 refine ⟨fun a _ hs _ _ _ _ w => ?_⟩
 have h1 : min ((i : Int)).toNat (IntKind.bits .i64) = i := by
  have : IntKind.bits .i64 = 64 := rfl
  rw [this, Int.toNat_natCast]; omega
 have h2 : ¬ ((i : Int) < 0) := by omega
 simp only [execOp, eqGuard, binOp, Op.shift, (hs.evo hx : a.eval x = _), (hs.evo hy : a.eval y = _), h1, if_neg h2]
 have h3 : (m : Int).fdiv (2 ^ i) = ((m / 2 ^ i : Nat) : Int) := by
  rw [Int.fdiv_eq_ediv_of_nonneg _ (Int.le_of_lt (Int.pow_pos (by decide)))]
  norm_cast
 rw [h3]; rfl
theorem A9a {x y : Operand} {t t' : TypeId} {m : Nat} (hx : evo env x = some (.int .i64 (m : Int))) (hy : evo env y = some (.int .i64 1)) :
  J2 P Γ ⟨env, hp, G⟩ (.binOp .and t x y t') ty (.int .i64 ((m % 2 : Nat) : Int)) := by
 refine ⟨fun a _ hs _ _ _ _ w => ?_⟩
 have h1 : (BitVec.ofInt (IntKind.bits .i64) (m : Int) &&& BitVec.ofInt (IntKind.bits .i64) 1).toNat = m % 2 := by
  have hb : IntKind.bits .i64 = 64 := rfl
  rw [hb, BitVec.toNat_and]
  have e1 : (BitVec.ofInt 64 (m : Int)).toNat = m % 2 ^ 64 := by rw [BitVec.ofInt_natCast, BitVec.toNat_ofNat]
  have e2 : (BitVec.ofInt 64 1).toNat = 1 := rfl
  rw [e1, e2, Nat.and_one_is_mod]; omega
 have h2 : IntKind.wrap .i64 ((m % 2 : Nat) : Int) = ((m % 2 : Nat) : Int) := A1y _ rfl (by omega) (by omega)
 simp only [execOp, eqGuard, binOp, Op.intBits, (hs.evo hx : a.eval x = _), (hs.evo hy : a.eval y = _), ne_eq, not_true_eq_false, if_false, h1, h2]
 rfl
theorem A22 {x y : Operand} {t t' : TypeId} {n : Nat} (hx : evo env x = some (.int .i64 1)) (hy : evo env y = some (.int .i64 (n : Int))) (hn : n ≤ 62) :
  J2 P Γ ⟨env, hp, G⟩ (.binOp .shl t x y t') ty (.int .i64 ((2 ^ n : Nat) : Int)) := by
 refine ⟨fun a _ hs _ _ _ _ w => ?_⟩
 have h1 : min ((n : Int)).toNat (IntKind.bits .i64) = n := by
  have : IntKind.bits .i64 = 64 := rfl
  rw [this, Int.toNat_natCast]; omega
 have h2 : ¬ ((n : Int) < 0) := by omega
 have hp : (2 : Nat) ^ n ≤ 2 ^ 62 := Nat.pow_le_pow_right (by decide) hn
 have h3 : (1 : Int) * 2 ^ n = ((2 ^ n : Nat) : Int) := by push_cast; rw [Int.one_mul]
 have h4 : IntKind.wrap .i64 ((2 ^ n : Nat) : Int) = ((2 ^ n : Nat) : Int) := A1y _ rfl (Int.le_trans (by decide) (Int.natCast_nonneg _)) (Int.le_trans (Int.ofNat_le.2 hp) (by decide))
 simp only [execOp, eqGuard, binOp, Op.shift, (hs.evo hx : a.eval x = _), (hs.evo hy : a.eval y = _), h1, if_neg h2, h3, h4]
 rfl
end bits
theorem B3y {cs vs cs' C : List Value} {o : Nat} (h : O4 cs o vs = some cs') : cs' ++ C = (cs ++ C).take o ++ vs ++ (cs ++ C).drop (o + vs.length) := by
 obtain ⟨h1, h2⟩ := A1Z h
 rw [h1, List.take_append_of_le_length (by omega), List.drop_append_of_le_length (by omega)]
 simp
section wr
variable {P : Program} {Γ : K8} {env : L6} {hp : List A5} {G : IM} {ty : TypeId} {K : Po} {ops : Array Oper} {rest : List Oper}
theorem B3z {d : Option Nat} {x y : Operand} {t : TypeId} {i : K7} [hI : I2 P t i] {b o c el sz n : Nat} {v : Value} {vs cs cs' : List Value} {hp' : List A5}
  (hx : evo env x = some (.pointer (some ⟨b, o, none⟩))) (hy : evo env y = some v) (hv : v.cells = ⟨vs⟩) (hsz : vs.length = i.size) (h1 : vs.all (·.oneCell') = true)
  (hu : O4 cs o vs = some cs') (hm : Sw hp (.slc (some ⟨b, 0, none⟩) c el sz n cs) (.slc (some ⟨b, 0, none⟩) c el sz n cs') hp') (hd : dok Γ.n d = true) :
  U5 P Γ ⟨env, hp, G⟩ d (.store t x y) ty [b] (fun σ' => σ' = ⟨dpu d undef env, hp', G⟩) := by
 refine ⟨fun a w hs pos af gd Q next hn => ?_⟩
 obtain ⟨rest, p1, p2⟩ := hm.perm
 have hown : R0 [.slc (some ⟨b, 0, none⟩) c el sz n cs] G w := hs.res.own.of_mem p1
 obtain ⟨hl, h⟩ := hown.ok _ List.mem_cons_self
 rcases h with ⟨hv', _⟩ | ⟨g, cap, cur, hv', hbg, hg, hnc, hcm, hcs, ht⟩
 ·cases hv'
 cases hv'
 obtain ⟨u1, u2⟩ := A1Z hu
 have hcur : cur.toList = cs ++ cur.toList.drop (n * sz) := by
  conv => lhs; rw [← List.take_append_drop (n * sz) cur.toList, ht]
 have hlen : cs.length ≤ cur.size := by
  rw [hl, hcs]; exact Nat.mul_le_mul_right _ hnc
 have hst := run_storeCells_at P b o el vs 0 cur w hg (by omega) (by simpa using h1)
 obtain ⟨cur', hcur'⟩ : ∃ l : List Value, l = cs' ++ cur.toList.drop (n * sz) := ⟨_, rfl⟩
 have hcc : cur.toList.take (o + 0) ++ vs ++ cur.toList.drop (o + 0 + vs.length) = cur' := by
  rw [hcur', Nat.add_zero, B3y hu, ← hcur]
 rw [hcc] at hst
 have hl' : cs'.length = cs.length := by rw [u1]; simp; omega
 have hsz' : cur'.length = cur.size := by
  have := congrArg List.length hcur
  rw [hcur', List.length_append, hl']
  simpa using this.symm
 obtain ⟨inf, g1, g2, _⟩ := hI.info
 have hrun : (execOp a.eval ⟨d, .store t x y, ty, pos, af, gd⟩).run P w = .ok .skip (w.setRow b cur'.toArray) := by
  simp [execOp, Instr.storeAt, Instr.sureAddr, (hs.evo hx : a.eval x = _), (hs.evo hy : a.eval y = _), storeVar, sizeOf, typeInfo, g1, g2, hv, hsz, hst]
 simp only [Oper.wp, hrun, Oper.upon]
 have hr' : O3 [.slc (some ⟨b, 0, none⟩) c el sz n cs] G w [.slc (some ⟨b, 0, none⟩) c el sz n cs'] G (w.setRow b cur'.toArray) := by
  refine ⟨⟨?_, ?_, by simp [Fp, A5.fp, I0], ?_⟩, ⟨rfl, rfl, rfl, by simp [World.setRow], fun k _ hk => setRow_other w b k _ (by rintro rfl; simp [Fp, A5.fp, I0] at hk)⟩, C5.refl _, fun _ _ h => .inl h, ?_, fun b l h h0 => absurd h (by rw [h0]; simp)⟩
  ·intro k l hg'
   obtain ⟨e', f', h'⟩ := hown.inn k l hg'
   refine ⟨e', f', ?_⟩
   rw [setRow_other w b k _ ?_]
   ·exact h'
   ·rintro rfl
    have := hown.disj k (by simp [Fp, A5.fp, I0])
    rw [this] at hg'; cases hg'
  ·intro x hx
   simp at hx; subst hx
   refine ⟨by rw [hl', hl], .inr ⟨b, _, cur'.toArray, rfl, hbg, setRow_heap w b cur cur'.toArray el (0, 0) hg, hnc, hcm, by rw [List.size_toArray, hsz', hcs], ?_⟩⟩
   rw [hcur', List.take_left' (by rw [hl', hl])]
  ·intro k hk
   exact hown.disj k (by simpa [Fp, A5.fp, I0] using hk)
  ·intro k hk
   exact .inr (by simpa [Fp, A5.fp, I0] using hk)
 exact hn _ _ _ (hs.step p1 hr' p2 hd) (by simpa [Fp, A5.fp, I0] using hr'.ext) rfl
variable {pos : String} {af : Array Edge} {gd : Option (Nat × Bool)}
theorem A9b {c el sz n : Nat} {cs vs : List Value} {x y : Operand} {t : TypeId} {i : K7} [hI : I2 P t i] {bb o : Nat} {v : Value} {cs' : List Value} {hp' : List A5}
  (hx : evo env x = some (.pointer (some ⟨bb, o, none⟩))) (hy : evo env y = some v) (hv : v.cells = ⟨vs⟩) (hsz : vs.length = i.size) (h1 : vs.all (·.oneCell') = true)
  (hw : K4 ops env gd = some true) (hsw : Sw hp (.slc (some ⟨bb, 0, none⟩) c el sz n cs) (.slc (some ⟨bb, 0, none⟩) c el sz n cs') hp') (hu : O4 cs o vs = some cs')
  (k : E4 P Γ ops rest K ⟨env, hp', G⟩) : E4 P Γ ops (⟨none, .store t x y, ty, pos, af, gd⟩ :: rest) K ⟨env, hp, G⟩ :=
 J9 (B3z hx hy hv hsz h1 hu hsw rfl) hw (by rintro _ rfl; exact k)
theorem St.slc_ptT {p : Option Addr} {c el sz n : Nat} {cs : List Value} {a : Act} {w : World} (hs : St Γ ⟨env, hp, G⟩ a w) (hm : A5.slc p c el sz n cs ∈ hp) :
  (p = none ∧ n = 0 ∧ c = 0) ∨ ∃ g, p = some ⟨g, 0, none⟩ ∧ n ≤ c := by
 obtain ⟨_, h⟩ := hs.res.own.ok _ hm
 rcases h with ⟨hv, hn⟩ | ⟨g, cap, cur, hv, _, _, hnc, _⟩
 ·cases hv; exact .inl ⟨rfl, hn, rfl⟩
 ·cases hv; exact .inr ⟨g, rfl, hnc⟩
end wr
theorem A9c {es : List (List Value)} {i sz : Nat} {vs : List Value} (hi : i < es.length) (ha : ∀ e ∈ es, e.length = sz) (hv : vs.length = sz) : O4 es.flatten (0 + i * sz) vs = some (es.set i vs).flatten := by
 have h1 : es.flatten = (es.take i).flatten ++ (es[i] ++ (es.drop (i + 1)).flatten) := by
  conv => lhs; rw [← List.take_append_drop i es, List.drop_eq_getElem_cons hi]
  rw [List.flatten_append, List.flatten_cons]
 have h2 : (es.set i vs).flatten = (es.take i).flatten ++ (vs ++ (es.drop (i + 1)).flatten) := by rw [List.set_eq_take_append_cons_drop, if_pos hi, List.flatten_append, List.flatten_cons]
 have hA : ((es.take i).flatten).length = 0 + i * sz := by rw [Z4 (fun e he => ha e (List.mem_of_mem_take he)), List.length_take, Nat.min_eq_left (by omega)]; omega
 rw [h1, h2]
 exact A3p hA (by rw [ha _ (List.getElem_mem hi), hv])
theorem C7.set {G : IM} : ∀ {l : List Ty} {es : List (List Value)} (i : Nat) {u : Ty} {c : List Value}, C7 G l es → C2 G u c → C7 G (l.set i u) (es.set i c)
 | [], es, i, u, c, h, _ => by simp only [C7] at h; subst h; simp [C7]
 | t :: l, es, 0, u, c, h, h2 => by
  simp only [C7] at h
  obtain ⟨a, r, rfl, _, h3⟩ := h
  simp only [List.set_cons_zero, C7]
  exact ⟨c, r, rfl, h2, h3⟩
 | t :: l, es, i + 1, u, c, h, h2 => by
  simp only [C7] at h
  obtain ⟨a, r, rfl, h4, h3⟩ := h
  simp only [List.set_cons_succ, C7]
  exact ⟨a, _, rfl, h4, C7.set i h3 h2⟩
mutual
theorem A4x : ∀ t : Tm, t.small → ∀ u ∈ I5 t, u.small
 | .mk k nm num ty fr lb ks, h, u, hu => by
  simp only [Tm.small] at h
  rw [I5] at hu
  rcases List.mem_append.1 hu with hu | hu
  ·split at hu
   ·simp only [List.mem_singleton] at hu; subst hu; exact h.2.1
   ·cases hu
  ·exact A9d ks h.2.2.2.2 u hu
theorem A9d : ∀ ts : List Tm, Tm.smallL ts → ∀ u ∈ H7 ts, u.small
 | [], _, u, hu => by simp [H7] at hu
 | t :: ts, h, u, hu => by
  simp only [Tm.smallL] at h
  rw [H7] at hu
  rcases List.mem_append.1 hu with hu | hu
  ·exact A4x t h.1 u hu
  ·exact A9d ts h.2 u hu
end
theorem A53 : (Ty.mk 1 []).small := by simp [Ty.small, Ty.smallL]
theorem B3A (G : IM) : C2 G (.mk 1 []) [.int .i64 1, .slice none 0 0] := by
 simp only [C2]; exact ⟨none, 0, [], rfl, ⟨by decide, by decide⟩, C8.nil G 2, by simp [C7]⟩
theorem A4y {Q : Prop} (h : Q := by (dsimp only; exact ⟨by omega, by rw [hstep (by omega)]; first | exact hst.set i (B3A _) | exact hst⟩)) : Q := h
theorem B3B (t : Tm) (m : Nat) (G : IM) (cells : List Value) (hts : t.small) (hcnt : D6 t ≤ 4000000) (h6 : (I5 t).length ≤ 60) (hm : m ≤ 4294967296) (hr : B3 G t cells) :
  Fn Tryz.prog 80 [.agg ⟨cells⟩, .int .i64 (m : Int)] [] G (L5 fun G' v => ∃ cu, v = .agg ⟨cu⟩ ∧ B3 G' (V1 t m) cu) := by
 have hlen9 := hr.len
 have hone9 := hr.one
 have hTy := A5X t G cells hts hcnt hr
 have hst0 := A4x t hts
 obtain ⟨L, hL⟩ : ∃ L, I5 t = L := ⟨_, rfl⟩
 have hB : V1 t m = W3 t (R3 m 0 L) := by unfold V1; rw [hL]
 have hml := A2o m L 0
 have hRt := fun G cells p c el hr => B3u t (R3 m 0 L) G cells p c el (Nat.le_of_eq (by rw [hL, hml])) (fun u hu => by rcases A3H m L 0 u hu with rfl | hu; exact A53; exact hst0 u (by rw [hL]; exact hu)) hcnt hr
 rw [hml] at hRt
 rw [hL] at hTy h6
 refine B8 Tryz.func80 rfl Tryz.ntmps80 Tryz.results80 rfl ?_
 intro w0
 refine A2 ?_
 refine sE (C6 rfl rfl) rfl (fun b3 => ?_)
 refine sE (A6 rfl) rfl (fun b4 => ?_)
 refine B6 ?_
 refine sL (A0 rfl rfl (B1 (by repeat first | exact mH | apply mT)) hlen9) rfl rfl ?_
 (refine W1 rfl hTy rfl rfl (fun v G1 outs hle1 hh => ?_); obtain ⟨p, c, es0, rfl, rfl, hr1⟩ := hh; have hel := hr1.len)
 refine H0 ?_
 refine B7 ?_
 (refine A7b (fun a w hs => hs.slc_ptT (p := p) (c := c) (el := 34) (sz := 2) (n := L.length) (cs := es0.flatten) (by repeat first | exact mH | apply mT)) (fun hq => ?_); refine I3 (fun (x : Nat × List (List Value)) => ⟨[(13, .int .i64 x.1), (12, .int .i64 L.length), (5, .slice p L.length c), (1, .int .i64 (m : Int)), (2, .pointer (some ⟨b3, 0, none⟩)), (4, .pointer (some ⟨b4, 0, none⟩))], [.slc p c 34 2 L.length x.2.flatten, .blk b4 [.int .i64 0, .string ⟨⟨[]⟩⟩, .int .i64 0, .int .i64 0, .slice none 0 0, .int .i64 0, .slice none 0 0, .int .i64 0, .slice none 0 0], .blk b3 cells], G1⟩) (fun x => x.1 ≤ L.length ∧ C7 G1 (R3 m 0 (L.take x.1) ++ L.drop x.1) x.2) (fun x => L.length - x.1) (0, es0) ?_ ?_ ?_)
 (simp only [H9]; exact D3)
 (exact ⟨Nat.zero_le _, by simpa [R3] using hr1⟩)
 (rintro ⟨(i : Nat), es⟩ ⟨hi, hst⟩; simp only [] at hi hst ⊢; have hesl : es.length = L.length := (by have h0 := hst.len; simp only [List.length_append, A2o, List.length_take, List.length_drop] at h0; omega); have hstep := A8Z m L i)
 refine A2 ?_
 refine sB (I8 rfl rfl) rfl rfl (fun h29 => ?_) (fun h29 => ?_)
 refine A9 ?_
 refine B7 ?_
 refine I9 ?_
 refine sP (A89 rfl rfl (by omega)) rfl rfl ?_
 refine sQ (A9a rfl rfl) rfl (sB (qE rfl rfl) rfl rfl (fun h50 => ?_) (fun h50 => ?_))
 refine A7 ?_
 refine H4 rfl (A04 1 _) rfl rfl ?_
 (obtain ⟨g, rfl, hgc⟩ := hq.resolve_left (by omega); refine sP (B2 (j := i) rfl rfl rfl (by omega)) rfl rfl ?_)
 refine A9b rfl rfl rfl rfl rfl rfl (by repeat first | exact Sw.here | apply Sw.there) (A9c (by omega) (fun e he => (hst.each e he).1) rfl) ?_
 refine B6 ?_
 refine sP (E7 rfl rfl (by omega) (by omega)) rfl rfl ?_
 refine A2 ?_
 (rw [if_pos (by omega)] at hstep; refine I7 (i + 1, es.set i [.int .i64 1, .slice none 0 0]) ?_ ?_ ?_)
 (simp only [H9]; exact D3)
 exact A4y
 (show L.length - (i + 1) < L.length - i; omega)
 refine A9 ?_
 refine sP (E7 rfl rfl (by omega) (by omega)) rfl rfl ?_
 refine A2 ?_
 (rw [if_neg (by omega)] at hstep; refine I7 (i + 1, es) ?_ ?_ ?_)
 (simp only [H9]; exact D3)
 exact A4y
 (show L.length - (i + 1) < L.length - i; omega)
 refine H0 ?_
 refine sL (A0 rfl rfl (B1 (by repeat first | exact mH | apply mT)) hlen9) rfl rfl ?_
 refine E0 ?_
 (obtain rfl : i = L.length := (by omega); rw [List.take_length, List.drop_length, List.append_nil] at hst; refine A14 (cs := es.flatten) (by repeat (first | exact Pk.here | apply Pk.there)) (fun G2 hle2 hsl2 hno2 => ?_); refine W1 rfl (hRt G2 cells p c es ((hr.mono hle1).mono hle2) (C8.of hsl2 hesl hst.all (fun e he => (hst.each e he).2)) (hst.mono hle2)) rfl rfl (fun v G3 outs hle3 hh => ?_); obtain ⟨rfl, cu, p3, c3, e3, rfl, hru, hs3, hr3⟩ := hh; rw [← hB] at hru; have hul := hru.len; have huo := hru.one)
 refine B9 ?_
 refine sE (A6 rfl) rfl (fun b102 => ?_)
 refine sS rfl rfl rfl hul huo rfl ?_ (hu := by exact D8 hul.symm)
 refine B0 ?_
 refine sL (A0 rfl rfl (B1 (by repeat first | exact mH | apply mT)) hul) rfl rfl ?_
 refine sS rfl rfl rfl hul huo rfl ?_ (hu := by exact D8 hul.symm)
 refine B9 ?_
 refine L9 (rC rfl (A0 rfl rfl (B1 (by repeat first | exact mH | apply mT)) hul)) ?_
 (exact ⟨rfl, cu, rfl, hru⟩)
end Gw
end Go.Proofs.YtebfignffjhnhaaGreatDoor
