/-
  How high and how wide types are.
-/
import Derived.Test.YtfpgncjeejickaaGreatKf2
import Derived.Test.YtfpgncjeejickaaGreatKf1
import Derived.Test.YtfpgncjeejickaaGreatKf0
import Derived.Laws.Slices
set_option linter.unusedVariables false
set_option linter.unusedSimpArgs false
set_option maxHeartbeats 0
set_option maxRecDepth 100000
set_option synthInstance.maxSize 4000
set_option synthInstance.maxHeartbeats 0
namespace Go.Proofs.YtfpgncjeejickaaGreat
open Go Go.RowKit
namespace Gw
def R8 : Ty := .mk 1 []
def Y8 : Nat → Ty → Prop
 | 0, .mk k ks => ks = [] ∧ k ≠ 4 ∧ k ≠ 5
 | n + 1, .mk k ks => (k = 4 ∨ k = 5 → ks.length = 2) ∧ (k ≠ 4 → k ≠ 5 → ks.length = 0) ∧ ∀ t ∈ ks, Y8 n t
mutual
def E6 : Ty → Prop
 | .mk k ks => (k = 4 ∨ k = 5 → ks.length = 2) ∧ (k ≠ 4 → k ≠ 5 → ks.length = 0) ∧ A0B ks
def A0B : List Ty → Prop
 | [] => True
 | t :: ts => E6 t ∧ A0B ts
end
theorem A1k : ∀ {ts : List Ty}, A0B ts ↔ ∀ t ∈ ts, E6 t
 | [] => by simp [A0B]
 | t :: ts => by simp only [A0B, A1k (ts := ts), List.forall_mem_cons]
theorem Y8.ar : ∀ {n : Nat} {t : Ty}, Y8 n t → E6 t
 | 0, .mk k ks, h => by
  obtain ⟨rfl, h1, h2⟩ := h
  rw [E6]
  exact ⟨fun h => by omega, fun _ _ => rfl, by rw [A0B]; trivial⟩
 | n + 1, .mk k ks, h => by
  obtain ⟨h1, h2, h3⟩ := h
  rw [E6]
  exact ⟨h1, h2, A1k.2 fun t ht => (h3 t ht).ar⟩
theorem Y8.up : ∀ {n : Nat} {t : Ty}, Y8 n t → Y8 (n + 1) t
 | 0, .mk k ks, h => by
  obtain ⟨rfl, h1, h2⟩ := h
  exact ⟨fun h => by omega, fun _ _ => rfl, by simp⟩
 | n + 1, .mk k ks, h => by
  obtain ⟨h1, h2, h3⟩ := h
  exact ⟨h1, h2, fun t ht => (h3 t ht).up⟩
theorem Y8.le {n m : Nat} {t : Ty} (h : Y8 n t) (hm : n ≤ m) : Y8 m t := by
 induction hm with
 | refl => exact h
 | step _ ih => exact ih.up
theorem B1E (n : Nat) : Y8 n R8 := by
 refine Y8.le (n := 0) ⟨rfl, by decide, by decide⟩ (Nat.zero_le n)
theorem B1F (n : Nat) {k : Int} (h4 : k ≠ 4) (h5 : k ≠ 5) : Y8 n (.mk k []) := Y8.le (n := 0) ⟨rfl, h4, h5⟩ (Nat.zero_le n)
theorem A3Z : E6 R8 := (B1E 0).ar
mutual
theorem E6.small : ∀ {t : Ty}, E6 t → t.small
 | .mk k ks, h => by
  rw [E6] at h
  rw [Ty.small]
  exact ⟨by have h1 := h.1; have h2 := h.2.1; omega, A0B.small h.2.2⟩
theorem A0B.small : ∀ {ts : List Ty}, A0B ts → Ty.smallL ts
 | [], _ => by rw [Ty.smallL]; trivial
 | t :: ts, h => by
  rw [A0B] at h
  rw [Ty.smallL]
  exact ⟨h.1.small, A0B.small h.2⟩
end
theorem A5b : ∀ {n : Nat} {t : Ty}, Y8 n t → P2 t ≤ ((2 ^ (n + 1) - 2 : Nat) : Int)
 | 0, .mk k ks, h => by
  obtain ⟨rfl, h1, h2⟩ := h
  rw [P2, Q2]; simp
 | n + 1, .mk k ks, h => by
  obtain ⟨h1, h2, h3⟩ := h
  have hp : 2 ≤ 2 ^ (n + 1) := by
   have := Nat.pow_le_pow_right (n := 2) (by omega) (show 1 ≤ n + 1 by omega)
   simpa using this
  have e : 2 ^ (n + 1 + 1) = 2 ^ (n + 1) * 2 := Nat.pow_succ ..
  have hl : ks.length = 0 ∨ ks.length = 2 := by omega
  rw [P2]
  match ks, hl, h3 with
  | [], _, _ => rw [Q2]; simp
  | [a, b], _, h3 =>
   have := A5b (h3 a (by simp))
   have := A5b (h3 b (by simp))
   simp only [Q2, List.length_cons, List.length_nil]; omega
def R9 : Ty := .mk 2 []
def X3 : Ty := .mk 3 []
mutual
def M4 : Ty → Ty → Bool
 | .mk k ks, t => decide (k = t.k) && Z7 ks t.ks
def Z7 : List Ty → List Ty → Bool
 | [], [] => true
 | a :: xs, b :: ys => M4 a b && Z7 xs ys
 | _, _ => false
end
theorem A17 (k k' : Int) (ks ks' : List Ty) : M4 (.mk k ks) (.mk k' ks') = (decide (k = k') && Z7 ks ks') := by rw [M4]; rfl
mutual
theorem A2z : ∀ (a b : Ty), M4 a b = true ↔ a = b
 | .mk k ks, .mk k' ks' => by
  rw [A17, Bool.and_eq_true, decide_eq_true_eq, A7x ks ks', Ty.mk.injEq]
theorem A7x : ∀ (xs ys : List Ty), Z7 xs ys = true ↔ xs = ys
 | [], [] => by simp [Z7]
 | [], b :: ys => by simp [Z7]
 | a :: xs, [] => by simp [Z7]
 | a :: xs, b :: ys => by
  rw [Z7, Bool.and_eq_true, A2z a b, A7x xs ys, List.cons.injEq]
end
theorem A5c (a : Ty) : M4 a a = true := (A2z a a).2 rfl
theorem A3e : ∀ (xs ys : List Ty), Z7 xs ys = true ↔ xs.length = ys.length ∧ ∀ i, (h : i < xs.length) → (h' : i < ys.length) → M4 xs[i] ys[i] = true
 | [], [] => by simp [Z7]
 | [], b :: ys => by simp [Z7]
 | a :: xs, [] => by simp [Z7]
 | a :: xs, b :: ys => by
  simp only [Z7, Bool.and_eq_true, A3e xs ys, List.length_cons]
  constructor
  ·rintro ⟨h1, h2, h3⟩
   refine ⟨by omega, fun i hi hi' => ?_⟩
   cases i with
   | zero => exact h1
   | succ i => exact h3 i (by simpa using hi) (by simpa using hi')
  ·rintro ⟨h1, h2⟩
   exact ⟨h2 0 (by simp) (by simp), by omega, fun i hi hi' => h2 (i + 1) (by simpa using hi) (by simpa using hi')⟩

abbrev Cx := List (ByteArray × Ty)
def A0l (cx : Cx) (nm : ByteArray) : Nat → Option Ty
 | 0 => none
 | n + 1 => match cx[n]? with
  | some b => if b.1 = nm then some b.2 else A0l cx nm n
  | none => A0l cx nm n
def A0C (cx : Cx) (nm : ByteArray) : Option Ty := A0l cx nm cx.length
theorem A7y {cx : Cx} {nm x : ByteArray} {n : Nat} {t : Ty} (h : cx[n]? = some (x, t)) (he : x = nm) : A0l cx nm (n + 1) = some t := by
 rw [A0l, h]; simp only [he, if_true]
theorem A7z {cx : Cx} {nm x : ByteArray} {n : Nat} {t : Ty} (h : cx[n]? = some (x, t)) (he : ¬x = nm) : A0l cx nm (n + 1) = A0l cx nm n := by
 rw [A0l, h]; simp only [he, if_false]

mutual
def T6 : Ty → Ty → Ty
 | .mk k ks, b => if k = 1 then b else if b.k = 1 then .mk k ks else .mk k (S7 ks b.ks)
def S7 : List Ty → List Ty → List Ty
 | a :: xs, b :: ys => T6 a b :: S7 xs ys
 | _, _ => []
end
theorem A2A (k k' : Int) (ks ks' : List Ty) : T6 (.mk k ks) (.mk k' ks') = if k = 1 then .mk k' ks' else if k' = 1 then .mk k ks else .mk k (S7 ks ks') := by rw [T6]; rfl
def R1 (kind : Int) (t : Ty) : Option (Ty × Ty) :=
 if t.k = kind then some (t.ks.getD 0 B5, t.ks.getD 1 B5) else if t.k = 1 then some (R8, R8) else none
def O0 (cx : Cx) (k : Int) (nm : ByteArray) (ty : Ty) (h : List Ty) : Option (List Ty × Ty) :=
 if k = 1 then (match A0C cx nm with | some t => some ([], t) | none => none)
 else if k = 2 then some ([], R9)
 else if k = 3 ∨ k = 4 then some ([], X3)
 else if k = 5 then some ([], .mk 4 [ty, h.getD 0 B5])
 else if k = 6 then (match R1 4 (h.getD 0 B5) with | some (a, b) => if J5 (h.getD 1 B5) a = true then some ([.mk 4 [a, b], a], b) else none | none => none)
 else if k = 7 ∨ k = 8 then (if J5 (h.getD 0 B5) R9 = true ∧ J5 (h.getD 1 B5) R9 = true then some ([R9, R9], if k = 8 then X3 else R9) else none)
 else if k = 9 then (if J5 (h.getD 0 B5) X3 = true ∧ J5 (h.getD 1 B5) (h.getD 2 B5) = true then some ([X3, T6 (h.getD 1 B5) (h.getD 2 B5), T6 (h.getD 1 B5) (h.getD 2 B5)], T6 (h.getD 1 B5) (h.getD 2 B5)) else none)
 else if k = 10 then some ([], .mk 5 [h.getD 0 B5, h.getD 1 B5])
 else if k = 13 then (if J5 (h.getD 0 B5) ty = true then some ([ty], ty) else none)
 else (match R1 5 (h.getD 0 B5) with | some (a, b) => some ([.mk 5 [a, b]], if k = 12 then b else a) | none => none)
def Y9 (cx : Cx) (k : Int) (nm : ByteArray) (ty : Ty) (h : List Ty) : Option (List Ty × Ty) := match O0 cx k nm ty h with
 | some (w, t) => if F4 t = true then some (w, t) else none
 | none => none
def A3f : List Ty → List Ty → Bool
 | [], _ => true
 | a :: xs, b :: ys => M4 a b && A3f xs ys
 | _ :: _, [] => false
def O6 (cx : Cx) (k : Int) (nm : ByteArray) (ty : Ty) : Cx := if k = 5 then cx ++ [(nm, ty)] else cx
mutual
def A0D (cx : Cx) : Tm → Option Ty
 | .mk k nm num ty fr lb ks => match X4 (O6 cx k nm ty) ks with
  | none => none
  | some h => if k = 14 then (if M4 (h.getD 0 B5) fr = true then some ty else none)
   else match Y9 cx k nm ty h with
    | none => none
    | some (w, t) => if A3f w h = true then some t else none
def X4 (cx : Cx) : List Tm → Option (List Ty)
 | [] => some []
 | t :: ts => match A0D cx t with
  | none => none
  | some u => match X4 cx ts with
   | none => none
   | some us => some (u :: us)
end
def B4P (e : Tm) : Option Ty := if P7 e = true then A0D [] e else none
theorem A1l : ∀ (t : Ty) (G : IM) (cells : List Value), t.small → B6 G t cells →
  Fn Tryz.prog 48 [.agg ⟨cells⟩] [] G (J8 fun G' v => ∃ cells' F, v = .agg ⟨cells'⟩ ∧ N0 (B2 G' G) t cells' F ∧ F.Nodup) := by
 refine Ty.ind fun k ks ih G cells hts hr => ?_
 simp only [Ty.small] at hts
 obtain ⟨hsm, hks⟩ := hts
 obtain ⟨p, c, es, rfl, hk, hsl, hkl⟩ := hr.open
 simp only [Ty.k, Ty.ks] at hk hsl hkl ⊢
 have hn := hsl.le
 refine B4 Tryz.func48 rfl Tryz.ntmps48 Tryz.results48 rfl ?_
 intro w0
 refine tS (tR ?_)
 refine sE (C1 rfl rfl) rfl (fun b3 => ?_)
 refine sE (A5 rfl) rfl (fun b4 => ?_)
 refine C3 ?_
 refine sE (A5 rfl) rfl (fun b12 => ?_)
 refine J9 ?_
 refine B3 ?_
 (refine S2 25 2 ?_; refine I1 (fun (x : Nat × Option Addr × Nat × List (List Value) × List Nat × IM) => ⟨[(12, .int .i64 x.1), (11, .int .i64 ks.length), (10, .slice p ks.length c), (3, .pointer (some ⟨b12, 0, none⟩)), (2, .pointer (some ⟨b4, 0, none⟩))], [.blk b12 [.int .i64 k, .slice x.2.1 x.1 x.2.2.1], .slc x.2.1 x.2.2.1 25 2 x.1 x.2.2.2.1.flatten, .blk b4 [.int .i64 0, .slice none 0 0]], x.2.2.2.2.2⟩) (fun x => x.1 ≤ ks.length ∧ B7 G x.2.2.2.2.2 ∧ L8 (B2 x.2.2.2.2.2 G) (ks.take x.1) x.2.2.2.1 x.2.2.2.2.1 ∧ x.2.2.2.2.1.Nodup) (fun x => ks.length - x.1) (0, none, 0, [], [], G) ?_ ?_ ?_)
 (simp only [H5]; exact Q1 (by repeat (first | exact I7.nil | refine I7.cons rfl ?_)) (by repeat (first | exact A7.refl | exact A7.nil | refine A7.cons (by repeat (first | exact Pk.here | apply Pk.there)) ?_)))
 exact ⟨by simp, B7.refl _, by simp [L8], by simp⟩
 (rintro ⟨i, pn, cn, es', F, Gi⟩ ⟨hi, hle, hst, hnd⟩; simp only [] at hi hle hst hnd ⊢; replace hsl := hsl.mono hle; replace hkl := hkl.mono hle)
 refine tS (tR ?_)
 refine sB (I2 rfl rfl) rfl rfl (fun h32 => ?_) (fun h32 => ?_)
 refine sD (nS (tS (qT rfl (tK (nS (tS ?_))))))
 refine B3 ?_
 refine tS (tR ?_)
 (obtain ⟨b, o, p2, c2, rfl, hat, hre, hgb⟩ := hsl.kidTy hkl (i := i) (by omega) (by omega); refine sP (A8 rfl rfl rfl (by omega)) rfl rfl ?_)
 refine sL (A0 rfl rfl (hat _) rfl) rfl rfl ?_
 refine sE (A5 rfl) rfl (fun b45 => ?_)
 refine J7 ?_
 refine sD (nS ?_)
 refine D5 D6 rfl ?_
 refine J6 (i := 0) (l' := [tt,ff,ff,ff,ff,ff,ff,ff]) rfl D0 (B0 rfl) rfl (by kernel_rfl) rfl rfl ?_
 refine aL 1 rfl (B9 rfl rfl) rfl ?_
 refine aL 2 rfl (A3 rfl rfl) rfl ?_
 refine A2 3 ?_
 (refine E9 rfl rfl (ih _ (List.getElem_mem (by omega)) _ _ (Ty.smallL_mem hks _ (List.getElem_mem (by omega))) hre) rfl rfl rfl (fun v G1 hle1 hh => ?_); obtain ⟨cells', F', rfl, hs', hnd'⟩ := hh; obtain ⟨p3, c3, es3, rfl, _⟩ := hs'.R.open)
 refine A2 4 ?_
 (refine E3 rfl (D7 rfl rfl rfl (by omega) (by unfold maxLen; omega) rfl) rfl rfl ?_; rintro _ ⟨b56, rfl⟩)
 refine A2 5 ?_
 refine U2 rfl rfl rfl rfl rfl rfl (fun _ _ => by repeat (first | exact Sw.here | apply Sw.there)) (N8 (by repeat first | exact mH | apply mT)) rfl (by simp [Value.oneCell']) (by unfold maxLen; omega) (by omega) rfl rfl (by repeat (first | exact C6.nil | apply C6.dep (by kernel_rfl) | apply C6.blk (by kernel_rfl) (by repeat (first | exact Pk.here | apply Pk.there)) (by repeat first | exact mH | apply mT))) (fun pn' cn' => ?_)
 refine aP 6 rfl (B0 rfl) rfl ?_
 refine A2 7 ?_
 refine Y2 rfl rfl rfl rfl rfl rfl rfl rfl (by kernel_rfl) (by repeat first | exact Sw.here | apply Sw.there) (by rfl) ?_
 refine C5 (P4 (nS (tR ?_)))
 refine sP (E8 rfl rfl (by omega) (by omega)) rfl rfl ?_
 refine sQ (qM rfl) rfl (sD ?_)
 refine I4 (i + 1, pn', cn', es' ++ [[.int .i64 ks[i].k, .slice p3 ks[i].ks.length c3]], F ++ F', G1) ?_ ?_ ?_
 (simp only [H5]; exact Q1 (by repeat (first | exact I7.nil | refine I7.cons rfl ?_)) (by repeat (first | exact A7.refl | exact A7.nil | refine A7.cons (by repeat (first | exact Pk.here | apply Pk.there)) ?_)))
 exact ⟨by omega, hle.trans hle1, L8.step hst hnd hle hle1 (by omega) hs' hnd'⟩
 (show ks.length - (i + 1) < ks.length - i; omega)
 refine H3 ?_
 (refine H7 (by repeat (first | exact Pk.here | apply Pk.there)) (fun G2 hle2 hsl2 hno2 => ?_); obtain rfl : i = ks.length := by omega)
 refine tT ?_
 refine E1 (rC rfl (A3 rfl rfl)) ?_
 (rw [List.take_length] at hst; obtain ⟨F2, hf1, hf2⟩ := N0.fin hst hnd hle hle2 hsl2 hno2 hk; exact ⟨rfl, _, F2, rfl, hf1, hf2⟩)
theorem P6 : ∀ (t : Ty) (G : IM) (cells : List Value), t.small → B6 G t cells → Fn Tryz.prog 167 [.agg ⟨cells⟩] [] G (A44 t G) := by
 refine Ty.ind fun k ks ih G cells hts hr => ?_
 simp only [Ty.small] at hts
 obtain ⟨hsm, hks⟩ := hts
 obtain ⟨p, c, es, rfl, hk, hsl, hkl⟩ := hr.open
 simp only [Ty.k, Ty.ks] at hk hsl hkl ⊢
 have hn := hsl.le
 refine B4 Tryz.func167 rfl Tryz.ntmps167 Tryz.results167 rfl ?_
 intro w0
 refine tS (tR ?_)
 refine sE (C1 rfl rfl) rfl (fun b3 => ?_)
 refine sE (A5 rfl) rfl (fun b4 => ?_)
 refine C3 ?_
 refine sE (A5 rfl) rfl (fun b12 => ?_)
 refine J7 ?_
 refine sD (nS (tS (tS (tR (sQ (qA rfl) rfl (sD (nS ?_)))))))
 refine B3 ?_
 (refine S2 25 2 ?_; refine I1 (fun (x : Nat × Option Addr × Nat × List (List Value) × List Nat × IM) => ⟨[(4, .int .i64 x.1), (3, .pointer (some ⟨b12, 0, none⟩)), (1, .pointer (some ⟨b3, 0, none⟩)), (2, .pointer (some ⟨b4, 0, none⟩))], [.blk b12 [.int .i64 k, .slice x.2.1 x.1 x.2.2.1], .slc x.2.1 x.2.2.1 25 2 x.1 x.2.2.2.1.flatten, .blk b4 [.int .i64 0, .slice none 0 0], .blk b3 [.int .i64 k, .slice p ks.length c]], x.2.2.2.2.2⟩) (fun x => x.1 ≤ ks.length ∧ B7 G x.2.2.2.2.2 ∧ L8 (B2 x.2.2.2.2.2 G) (ks.take x.1) x.2.2.2.1 x.2.2.2.2.1 ∧ x.2.2.2.2.1.Nodup) (fun x => ks.length - x.1) (0, none, 0, [], [], G) ?_ ?_ ?_)
 (simp only [H5]; exact C9)
 exact ⟨by simp, B7.refl _, by simp [L8], by simp⟩
 (rintro ⟨i, pn, cn, es', F, Gi⟩ ⟨hi, hle, hst, hnd⟩; simp only [] at hi hle hst hnd ⊢; replace hsl := hsl.mono hle; replace hkl := hkl.mono hle)
 refine C3 ?_
 refine sB (I2 rfl rfl) rfl rfl (fun h34 => ?_) (fun h34 => ?_)
 refine sD (nS (qT rfl (tK (nS (tS ?_)))))
 refine B3 ?_
 (obtain ⟨b, o, p2, c2, rfl, hat, hre, hgb⟩ := hsl.kidTy hkl (i := i) (by omega) (by omega); refine D5 D6 rfl ?_)
 refine J6 (i := 0) (l' := [tt,ff,ff,ff,ff,ff,ff,ff,ff,ff,ff,ff]) rfl D0 (B0 rfl) rfl (by kernel_rfl) rfl rfl ?_
 refine aL 1 rfl (B9 rfl rfl) rfl ?_
 refine aP 2 rfl (B0 rfl) rfl ?_
 refine aL 3 rfl (B9 rfl rfl) rfl ?_
 refine aP 4 rfl (qM rfl) rfl ?_
 refine aP 5 rfl (A8 rfl rfl rfl (by omega)) rfl ?_
 refine aL 6 rfl (A0 rfl rfl (hat _) rfl) rfl ?_
 refine A2 7 ?_
 (refine E9 rfl rfl (ih ks[i] (List.getElem_mem (by omega)) _ _ (Ty.smallL_mem hks _ (List.getElem_mem (by omega))) hre) rfl rfl rfl (fun v G1 hle1 hh => ?_); obtain ⟨cells', F', rfl, hs', hnd'⟩ := hh; obtain ⟨p3, c3, es3, rfl, _⟩ := hs'.R.open)
 refine A2 8 ?_
 (refine E3 rfl (D7 rfl rfl rfl (by omega) (by unfold maxLen; omega) rfl) rfl rfl ?_; rintro _ ⟨b53, rfl⟩)
 refine A2 9 ?_
 refine U2 rfl rfl rfl rfl rfl rfl (fun _ _ => by repeat (first | exact Sw.here | apply Sw.there)) (N8 (by repeat first | exact mH | apply mT)) rfl (by simp [Value.oneCell']) (by unfold maxLen; omega) (by omega) rfl rfl (by repeat (first | exact C6.nil | apply C6.dep (by decide +kernel) | apply C6.blk (by decide +kernel) (by repeat (first | exact Pk.here | apply Pk.there)) (by repeat first | exact mH | apply mT))) (fun pn' cn' => ?_)
 refine aP 10 rfl (B0 rfl) rfl ?_
 refine A2 11 ?_
 refine Y2 rfl rfl rfl rfl rfl rfl rfl rfl (by kernel_rfl) (by repeat first | exact Sw.here | apply Sw.there) (by rfl) ?_
 refine C5 (P4 (nS (tR (sQ (qM rfl) rfl ?_))))
 refine sP (E8 rfl rfl (by omega) (by omega)) rfl rfl ?_
 refine sQ (qA rfl) rfl (sD ?_)
 refine I4 (i + 1, pn', cn', es' ++ [[.int .i64 ks[i].k, .slice p3 ks[i].ks.length c3]], F ++ F', G1) ?_ ?_ ?_
 (simp only [H5]; exact C9)
 exact ⟨by omega, hle.trans hle1, L8.step hst hnd hle hle1 (by omega) hs' hnd'⟩
 (show ks.length - (i + 1) < ks.length - i; omega)
 refine L5 ?_
 (refine H7 (by repeat (first | exact Pk.here | apply Pk.there)) (fun G2 hle2 hsl2 hno2 => ?_); obtain rfl : i = ks.length := (by omega))
 refine tT ?_
 refine E1 (rC rfl (A3 rfl rfl)) ?_
 (rw [List.take_length] at hst; obtain ⟨F2, hf1, hf2⟩ := N0.fin hst hnd hle hle2 hsl2 hno2 hk; exact ⟨rfl, _, F2, rfl, hf1, hf2⟩)
theorem A3g : ∀ (t : Tm) (G : IM) (cells : List Value), t.small → A6 G t cells → Fn Tryz.prog 128 [.agg ⟨cells⟩] [] G (A28 t G) := by
 refine Tm.ind fun k nm num ty fr lb ks ih G cells hts hr => ?_
 have hone := hr.one
 simp only [Tm.small] at hts
 obtain ⟨hnm, hty', hfr', hsm, hks⟩ := hts
 obtain ⟨tk, tks⟩ := ty
 obtain ⟨fk, fks⟩ := fr
 obtain ⟨pt, ct, pf, cf, p, c, es, rfl, hk, hnum, hlb, hty, hfr, hsl, hkl⟩ := hr.open9
 have hn := hsl.le
 have hT := P6 (.mk tk tks) G _ hty' hty
 refine B4 Tryz.func128 rfl Tryz.ntmps128 Tryz.results128 rfl ?_
 intro w0
 refine tS (tR ?_)
 refine sE (C1 rfl rfl) rfl (fun b3 => ?_)
 refine sE (A5 rfl) rfl (fun b4 => ?_)
 refine sD (nS (tS (tR (sL (A3 rfl rfl) rfl rfl ?_))))
 refine sE (A5 rfl) rfl (fun b10 => ?_)
 refine C3 ?_
 (refine D2 rfl hT rfl rfl (fun v G1 hle1 hh => ?_); obtain ⟨cs1, F1, rfl, hs1, hn1⟩ := hh; obtain ⟨p1, c1, rfl, _⟩ := hs1.open; have hF := P6 (.mk fk fks) G1 _ hfr' (hfr.mono hle1))
 refine D3 ?_
 (refine D2 rfl hF rfl rfl (fun v G2 hle2 hh => ?_); obtain ⟨cs2, F2, rfl, hs2, hn2⟩ := hh; obtain ⟨p2, c2, rfl, _⟩ := hs2.open; replace hsl := hsl.mono (hle1.trans hle2); replace hkl := hkl.mono (hle1.trans hle2))
 refine J1 ?_
 refine B3 ?_
 (refine S2 28 9 ?_; refine I1 (fun (x : Nat × Option Addr × Nat × List (List Value) × List Nat × IM) => ⟨[(4, .int .i64 x.1), (3, .pointer (some ⟨b10, 0, none⟩)), (1, .pointer (some ⟨b3, 0, none⟩)), (2, .pointer (some ⟨b4, 0, none⟩))], [.blk b10 [.int .i64 k, .string nm, .int .i64 num, .int .i64 tk, .slice p1 tks.length c1, .int .i64 fk, .slice p2 fks.length c2, .int .i64 lb, .slice x.2.1 x.1 x.2.2.1], .slc x.2.1 x.2.2.1 28 9 x.1 x.2.2.2.1.flatten, .blk b4 [.int .i64 0, .string ⟨⟨[]⟩⟩, .int .i64 0, .int .i64 0, .slice none 0 0, .int .i64 0, .slice none 0 0, .int .i64 0, .slice none 0 0], .blk b3 [.int .i64 k, .string nm, .int .i64 num, .int .i64 tk, .slice pt tks.length ct, .int .i64 fk, .slice pf fks.length cf, .int .i64 lb, .slice p ks.length c]], x.2.2.2.2.2⟩) (fun x => x.1 ≤ ks.length ∧ B7 G2 x.2.2.2.2.2 ∧ L9 (B2 x.2.2.2.2.2 G2) (ks.take x.1) x.2.2.2.1 x.2.2.2.2.1 ∧ x.2.2.2.2.1.Nodup) (fun x => ks.length - x.1) (0, none, 0, [], [], G2) ?_ ?_ ?_)
 (simp only [H5]; exact C9)
 exact ⟨by simp, B7.refl _, by simp [L9], by simp⟩
 (rintro ⟨i, pn, cn, es', F, Gi⟩ ⟨hi, hle, hst, hnd⟩; simp only [] at hi hle hst hnd ⊢; replace hsl := hsl.mono hle; replace hkl := hkl.mono hle)
 refine C3 ?_
 refine sB (I2 rfl rfl) rfl rfl (fun h56 => ?_) (fun h56 => ?_)
 refine sD (nS (qT rfl (tK (nS (tS ?_)))))
 refine B3 ?_
 (obtain ⟨b, o, e, rfl, hl, hat, hre, hgb⟩ := hsl.kidTm hkl (i := i) (by omega) (by omega); have hone := hre.one; refine D5 D6 rfl ?_)
 refine J6 (i := 0) (l' := [tt,ff,ff,ff,ff,ff,ff,ff,ff,ff,ff,ff]) rfl D0 (B0 rfl) rfl (by kernel_rfl) rfl rfl ?_
 refine aL 1 rfl (B9 rfl rfl) rfl ?_
 refine aP 2 rfl (B0 rfl) rfl ?_
 refine aL 3 rfl (B9 rfl rfl) rfl ?_
 refine aP 4 rfl (qM rfl) rfl ?_
 refine aP 5 rfl (A8 rfl rfl rfl (by omega)) rfl ?_
 refine aL 6 rfl (A0 rfl rfl (hat _) hl) rfl ?_
 refine A2 7 ?_
 (refine E9 rfl rfl (ih ks[i] (List.getElem_mem (by omega)) _ _ (Tm.smallL_mem hks _ (List.getElem_mem (by omega))) hre) rfl rfl rfl (fun v G3 hle3 hh => ?_); obtain ⟨cells', F', rfl, hs', hnd'⟩ := hh; obtain ⟨qt, dt, et', qf, df, ef', q3, d3, es3, rfl, _⟩ := hs'.R.open)
 refine A2 8 ?_
 (refine E3 rfl (D7 rfl rfl rfl (by omega) (by unfold maxLen; omega) rfl) rfl rfl ?_; rintro _ ⟨b75, rfl⟩)
 refine A2 9 ?_
 refine U2 rfl rfl rfl rfl rfl rfl (fun _ _ => by repeat (first | exact Sw.here | apply Sw.there)) (N8 (by repeat first | exact mH | apply mT)) rfl (by simp [Value.oneCell']) (by unfold maxLen; omega) (by omega) rfl rfl (by repeat (first | exact C6.nil | apply C6.dep (by decide +kernel) | apply C6.blk (by decide +kernel) (by repeat (first | exact Pk.here | apply Pk.there)) (by repeat first | exact mH | apply mT))) (fun pn' cn' => ?_)
 refine aP 10 rfl (B0 rfl) rfl ?_
 refine A2 11 ?_
 refine Y2 rfl rfl rfl rfl rfl rfl rfl rfl (by kernel_rfl) (by repeat first | exact Sw.here | apply Sw.there) (by rfl) ?_
 refine C5 (P4 (nS (tR (sQ (qM rfl) rfl ?_))))
 refine sP (E8 rfl rfl (by omega) (by omega)) rfl rfl ?_
 refine sQ (qA rfl) rfl (sD ?_)
 refine I4 (i + 1, pn', cn', es' ++ [[.int .i64 ks[i].k, .string ks[i].nm, .int .i64 ks[i].num, .int .i64 ks[i].ty.k, .slice qt ks[i].ty.ks.length dt, .int .i64 ks[i].fr.k, .slice qf ks[i].fr.ks.length df, .int .i64 ks[i].lb, .slice q3 ks[i].ks.length d3]], F ++ F', G3) ?_ ?_ ?_
 (simp only [H5]; exact C9)
 exact ⟨by omega, hle.trans hle3, L9.step hst hnd hle hle3 (by omega) hs' hnd'⟩
 (show ks.length - (i + 1) < ks.length - i; omega)
 refine L5 ?_
 (refine H7 (by repeat (first | exact Pk.here | apply Pk.there)) (fun G4 hle4 hsl4 hno4 => ?_); obtain rfl : i = ks.length := (by omega))
 refine tT ?_
 refine E1 (rC rfl (A3 rfl rfl)) ?_
 (rw [List.take_length] at hst; obtain ⟨F3, hf1, hf2⟩ := A1w.fin hst hnd hle hle4 hsl4 hno4; obtain ⟨F5, hg1, hg2⟩ := N2.mk3 (nm := nm) hk hnum hlb hle1 hle2 (hle.trans hle4) hs1 hn1 hs2 hn2 hf1 hf2; exact ⟨rfl, _, F5, rfl, hg1, hg2⟩)
mutual
def A1E (g : Tm → Tm) : Tm → Tm
 | .mk k nm num ty fr lb ks => g (.mk k nm num ty fr lb (A0P g ks))
def A0P (g : Tm → Tm) : List Tm → List Tm
 | [] => []
 | t :: ts => A1E g t :: A0P g ts
end
theorem A5d (g : Tm → Tm) : ∀ ks, A0P g ks = ks.map (A1E g)
 | [] => rfl
 | t :: ts => by rw [A0P, A5d g ts, List.map_cons]
mutual
theorem A7A : ∀ t, A1E id t = t
 | .mk k nm num ty fr lb ks => by rw [A1E, A7B ks]; rfl
theorem A7B : ∀ ks, A0P id ks = ks
 | [] => rfl
 | t :: ts => by rw [A0P, A7A t, A7B ts]
end
theorem N2.mk3k {G G1 G2 G3 : IM} {k : Int} {nm : ByteArray} {num : Int} {ty fr : Ty} {lb : Int} {ks : List Tm} {tc fc : List Value} {p : Option Addr} {c : Nat} {F1 F2 F3 : List Nat} (hk : H1 k) (hnum : H1 num) (hlb : H1 lb)
  (hl1 : B7 G G1) (hl2 : B7 G1 G2) (hl3 : B7 G2 G3) (h3 : A1w (B2 G1 G) ks p c F3) (n3 : F3.Nodup) (h1 : N0 (B2 G2 G1) ty tc F1) (n1 : F1.Nodup) (h2 : N0 (B2 G3 G2) fr fc F2) (n2 : F2.Nodup) :
  ∃ F, N2 (B2 G3 G) (.mk k nm num ty fr lb ks) ([.int .i64 k, .string nm, .int .i64 num] ++ tc ++ fc ++ [.int .i64 lb, .slice p ks.length c]) F ∧ F.Nodup := by
 obtain ⟨es, Fs, e1, e2, rfl, e4⟩ := h3
 have i3 : ∀ b ∈ H4 p ++ Fs, B2 G1 G b ≠ none := by
  intro b hb
  rcases List.mem_append.1 hb with hb | hb
  ·exact e4 b hb
  ·exact e2.inG b hb
 have a1 : B7 (B2 G1 G) (B2 G3 G) := B2.mono (hl2.trans hl3)
 have a2 : B7 (B2 G2 G1) (B2 G3 G) := fun b l h => B2.mono hl3 b l (B2.anti hl1 b l h)
 have a3 : B7 (B2 G3 G2) (B2 G3 G) := B2.anti (hl1.trans hl2)
 refine ⟨F1 ++ (F2 ++ (H4 p ++ Fs)), ?_, ?_⟩
 ·simp only [N2]
  exact ⟨tc, fc, p, c, es, F1, F2, Fs, rfl, hk, hnum, hlb, h1.mono a2, h2.mono a3, e1.mono a1, e2.mono a1, rfl, A2x a1 e4⟩
 ·rw [List.nodup_append, List.nodup_append]
  refine ⟨n1, ⟨n2, n3, ?_⟩, ?_⟩
  ·rintro x hx y hy rfl
   exact A10 (A2x (B2.mono hl2) i3) h2.inG x hy x hx rfl
  ·rintro x hx y hy rfl
   rcases List.mem_append.1 hy with hy | hy
   ·exact A10 (A2x (B2.anti hl1) h1.inG) h2.inG x hx x hy rfl
   ·exact A10 i3 h1.inG x hy x hx rfl
mutual
def mOk (Q : Tm → Prop) (g : Tm → Tm) : Tm → Prop
 | .mk k nm num ty fr lb ks => A18 Q g ks ∧ Q (.mk k nm num ty fr lb (A0P g ks))
def A18 (Q : Tm → Prop) (g : Tm → Tm) : List Tm → Prop
 | [] => True
 | t :: ts => mOk Q g t ∧ A18 Q g ts
end
theorem A7C {Q : Tm → Prop} {g : Tm → Tm} : ∀ {ts : List Tm}, A18 Q g ts → ∀ t ∈ ts, mOk Q g t
 | [], _, t, h => by simp at h
 | t' :: ts, h, t, ht => by
  simp only [A18] at h
  rcases List.mem_cons.1 ht with rfl | ht
  ·exact h.1
  ·exact A7C h.2 t ht
mutual
theorem A7D (g : Tm → Tm) : ∀ t, mOk (fun _ => True) g t
 | .mk k nm num ty fr lb ks => by rw [mOk]; exact ⟨A7E g ks, trivial⟩
theorem A7E (g : Tm → Tm) : ∀ ts, A18 (fun _ => True) g ts
 | [] => by rw [A18]; trivial
 | t :: ts => by rw [A18]; exact ⟨A7D g t, A7E g ts⟩
end
def A7F (g : Tm → Tm) (Q : Tm → Prop) (fid : FuncId) (us cs : List Value) : Prop := ∀ (t : Tm) (G0 G1 : IM) (cells : List Value) (F : List Nat), Q t → B7 G0 G1 → N2 (B2 G1 G0) t cells F → F.Nodup →
 Fn Tryz.prog fid (us ++ [.agg ⟨cells⟩] ++ cs) [] G1 (J8 fun G2 v => ∃ cells' F', v = .agg ⟨cells'⟩ ∧ N2 (B2 G2 G0) (g t) cells' F' ∧ F'.Nodup)
theorem B1G (g : Tm → Tm) (Q : Tm → Prop) (fid : FuncId) [B1 Tryz.prog fid] (us cs : List Value) (hg : A7F g Q fid us cs) : ∀ (t : Tm) (G : IM) (cells : List Value), mOk Q g t → t.small → A6 G t cells →
  Fn Tryz.prog 42 [.agg ⟨cells⟩, .func (.func fid) ⟨us⟩ ⟨cs⟩] [] G (A28 (A1E g t) G) := by
 refine Tm.ind fun k nm num ty fr lb ks ih G cells hmo hts hr => ?_
 have hone := hr.one
 simp only [mOk] at hmo
 obtain ⟨hmoL, hQ⟩ := hmo
 simp only [Tm.small] at hts
 obtain ⟨hnm, hty', hfr', hsm, hks⟩ := hts
 obtain ⟨tk, tks⟩ := ty
 obtain ⟨fk, fks⟩ := fr
 obtain ⟨pt, ct, pf, cf, p, c, es, rfl, hk, hnum, hlb, hty, hfr, hsl, hkl⟩ := hr.open9
 have hn := hsl.le
 have hlen : (A0P g ks).length = ks.length := by rw [A5d, List.length_map]
 have hget : ∀ i (h : i < ks.length) (h' : i < (A0P g ks).length), (A0P g ks)[i] = A1E g ks[i] := fun i h h' => by simp [A5d]
 refine B4 Tryz.func42 rfl Tryz.ntmps42 Tryz.results42 rfl ?_
 intro w0
 refine tS (tR ?_)
 refine sE (C1 rfl rfl) rfl (fun b3 => ?_)
 refine sE (A5 rfl) rfl (fun b4 => ?_)
 refine J1 ?_
 refine B3 ?_
 (refine S2 28 9 ?_; refine I1 (fun (x : Nat × Option Addr × Nat × List (List Value) × List Nat × IM) => ⟨[(11, .int .i64 x.1), (10, .int .i64 ks.length), (9, .slice p ks.length c), (5, .slice x.2.1 x.1 x.2.2.1), (2, .pointer (some ⟨b3, 0, none⟩)), (1, .func (.func fid) ⟨us⟩ ⟨cs⟩), (4, .pointer (some ⟨b4, 0, none⟩))], [.slc x.2.1 x.2.2.1 28 9 x.1 x.2.2.2.1.flatten, .blk b4 [.int .i64 0, .string ⟨⟨[]⟩⟩, .int .i64 0, .int .i64 0, .slice none 0 0, .int .i64 0, .slice none 0 0, .int .i64 0, .slice none 0 0], .blk b3 [.int .i64 k, .string nm, .int .i64 num, .int .i64 tk, .slice pt tks.length ct, .int .i64 fk, .slice pf fks.length cf, .int .i64 lb, .slice p ks.length c]], x.2.2.2.2.2⟩) (fun x => x.1 ≤ ks.length ∧ B7 G x.2.2.2.2.2 ∧ L9 (B2 x.2.2.2.2.2 G) ((A0P g ks).take x.1) x.2.2.2.1 x.2.2.2.2.1 ∧ x.2.2.2.2.1.Nodup) (fun x => ks.length - x.1) (0, none, 0, [], [], G) ?_ ?_ ?_)
 (simp only [H5]; exact C9)
 exact ⟨by simp, B7.refl _, by simp [L9], by simp⟩
 (rintro ⟨i, pn, cn, es', F, Gi⟩ ⟨hi, hle, hst, hnd⟩; simp only [] at hi hle hst hnd ⊢; replace hsl := hsl.mono hle; replace hkl := hkl.mono hle)
 refine tS (tR ?_)
 refine sB (I2 rfl rfl) rfl rfl (fun h28 => ?_) (fun h28 => ?_)
 refine sD (nS (tS (qT rfl (tK (nS (tS ?_))))))
 refine B3 ?_
 refine tS (tR ?_)
 (obtain ⟨b, o, e, rfl, hl, hat, hre, hgb⟩ := hsl.kidTm hkl (i := i) (by omega) (by omega); have hone := hre.one; refine sP (A8 rfl rfl rfl (by omega)) rfl rfl ?_)
 refine sL (A0 rfl rfl (hat _) hl) rfl rfl ?_
 refine sE (A5 rfl) rfl (fun b41 => ?_)
 refine sS rfl rfl rfl hl hone rfl ?_ (hu := by exact D4 hl.symm)
 refine sD (nS (tR (sQ (qM rfl) rfl ?_)))
 refine sL (A0 rfl rfl (A9 (by repeat first | exact mH | apply mT)) (by assumption)) rfl rfl ?_
 refine sQ (qM rfl) rfl ?_
 (refine D2 rfl (ih ks[i] (List.getElem_mem (by omega)) _ _ (A7C hmoL _ (List.getElem_mem (by omega))) (Tm.smallL_mem hks _ (List.getElem_mem (by omega))) hre) rfl rfl (fun v G3 hle3 hh => ?_); obtain ⟨cells', F', rfl, hs', hnd'⟩ := hh; rw [← hget i (by omega) (by omega)] at hs'; have hlc := hs'.R.len; have hoc := hs'.R.one)
 (obtain ⟨v1, v2, v3, v4, v5, v6, v7, v8, v9, rfl⟩ : ∃ v1 v2 v3 v4 v5 v6 v7 v8 v9, cells' = [v1, v2, v3, v4, v5, v6, v7, v8, v9] := by obtain ⟨_, _, _, _, _, _, _, _, _, rfl, _⟩ := hs'.R.open; exact ⟨_, _, _, _, _, _, _, _, _, rfl⟩)
 (refine K6 (D7 rfl rfl rfl (by omega) (by unfold maxLen; omega) rfl) rfl ?_; rintro _ ⟨b51, rfl⟩)
 refine Z5 rfl rfl rfl rfl rfl (fun _ _ => by repeat (first | exact Sw.here | apply Sw.there)) (N8 (by repeat first | exact mH | apply mT)) rfl (fun u hu => List.all_eq_true.1 hoc u hu) (by unfold maxLen; omega) (by omega) rfl (fun pn' cn' => ?_)
 refine sQ (qA rfl) rfl (sD (P4 (nS (tR ?_))))
 refine sP (E8 rfl rfl (by omega) (by omega)) rfl rfl ?_
 refine sQ (qM rfl) rfl (sD ?_)
 refine I4 (i + 1, pn', cn', es' ++ [[v1, v2, v3, v4, v5, v6, v7, v8, v9]], F ++ F', G3) ?_ ?_ ?_
 (simp only [H5]; exact C9)
 exact ⟨by omega, hle.trans hle3, L9.step hst hnd hle hle3 (by omega) hs' hnd'⟩
 (show ks.length - (i + 1) < ks.length - i; omega)
 refine I8 ?_
 (obtain rfl : i = ks.length := (by omega); refine A2v (by repeat (first | exact Pk.here | apply Pk.there)) (fun G2 hle2 hsl2 hno2 => ?_); rw [← hlen, List.take_length] at hst; rw [← hlen] at hsl2; obtain ⟨F3, hf1, hf2⟩ := A1w.fin hst hnd hle hle2 hsl2 hno2; have hleG := hle.trans hle2; have hT := A1l (.mk tk tks) G2 _ hty' (hty.mono hleG); refine D5 D6 rfl ?_)
 refine J6 (i := 0) (l' := [tt,ff,ff,ff,ff,ff,ff,ff,ff,ff,ff,ff,ff]) rfl D0 (B0 rfl) rfl (by kernel_rfl) rfl rfl ?_
 refine aL 1 rfl (A3 rfl rfl) rfl ?_
 refine aP 3 rfl (B0 rfl) rfl ?_
 refine aL 4 rfl (A3 rfl rfl) rfl ?_
 refine aP 6 rfl (qM rfl) rfl ?_
 refine A2 2 ?_
 (refine E9 rfl rfl hT rfl rfl rfl (fun v G4 hle4 hh => ?_); obtain ⟨cs1, F1, rfl, hs1, hn1⟩ := hh; obtain ⟨p1, c1, rfl, _⟩ := hs1.open; have hF := A1l (.mk fk fks) G4 _ hfr' (hfr.mono (hleG.trans hle4)))
 refine aP 7 rfl (B0 rfl) rfl ?_
 refine A2 5 ?_
 (refine E9 rfl rfl hF rfl rfl rfl (fun v G5 hle5 hh => ?_); obtain ⟨cs2, F2, rfl, hs2, hn2⟩ := hh; obtain ⟨p2, c2, rfl, _⟩ := hs2.open; obtain ⟨F6, hg1, hg2⟩ := N2.mk3k (nm := nm) hk hnum hlb hleG hle4 hle5 hf1 hf2 hs1 hn1 hs2 hn2; rw [hlen] at hg1; have hch := hg _ G G5 _ F6 hQ (hleG.trans (hle4.trans hle5)) hg1 hg2)
 refine A2 8 ?_
 refine Y2 rfl rfl rfl rfl rfl rfl rfl rfl (by kernel_rfl) (by repeat first | exact Sw.here | apply Sw.there) (by rfl) ?_
 refine aP 9 rfl (B0 rfl) rfl ?_
 refine A2 10 ?_
 refine Y2 rfl rfl rfl rfl rfl rfl rfl rfl (by kernel_rfl) (by repeat first | exact Sw.here | apply Sw.there) (by rfl) ?_
 refine aP 11 rfl (B0 rfl) rfl ?_
 refine A2 12 ?_
 refine Y2 rfl rfl rfl rfl rfl rfl rfl rfl (by kernel_rfl) (by repeat first | exact Sw.here | apply Sw.there) (by rfl) ?_
 refine E2 ?_
 (refine K6 (A3F rfl rfl hch (List.Perm.refl _) rfl) rfl ?_; rintro _ ⟨v, G7, outs, rfl, hle7, rfl, cells7, F7, rfl, hs7, hn7⟩; have hl7 := hs7.R.len; have ho7 := hs7.R.one)
 refine sS rfl rfl rfl hl7 ho7 rfl ?_ (hu := by exact D4 hl7.symm)
 refine sD (nS (tT ?_))
 refine E1 (rC rfl (A0 rfl rfl (A9 (by repeat first | exact mH | apply mT)) hl7)) ?_
 (rw [A1E]; exact ⟨rfl, cells7, F7, rfl, hs7, hn7⟩)
theorem B1H (G : IM) (cells : List Value) (hl : cells.length = 9) (hone : cells.all (·.oneCell') = true) : Fn Tryz.prog 94 [.agg ⟨cells⟩] [] G (E4 (.agg ⟨cells⟩) G) := by
 refine B4 Tryz.func94 rfl Tryz.ntmps94 Tryz.results94 rfl ?_
 intro w0
 refine tS (tR ?_)
 refine sE (C1 rfl rfl) rfl (fun b3 => ?_)
 refine sE (A5 rfl) rfl (fun b4 => ?_)
 refine sD (nS (tS (tR ?_)))
 refine sL (A0 rfl rfl (A9 (by repeat first | exact mH | apply mT)) (by assumption)) rfl rfl ?_
 refine sS rfl rfl rfl hl hone rfl ?_ (hu := by exact D4 hl.symm)
 refine sD (nS (tT ?_))
 refine E1 (rC rfl (A0 rfl rfl (A9 (by repeat first | exact mH | apply mT)) hl)) ?_
 exact ⟨rfl, rfl, rfl⟩
theorem B1I : A7F id (fun _ => True) 94 [] [] := fun t G0 G1 cells F _ hle hs hn =>
 (B1H G1 cells hs.R.len hs.R.one).mono fun G' v outs _ ⟨h1, h2, h3⟩ => ⟨h3, cells, F, h2, by rw [h1]; exact hs, hn⟩
theorem A5e (t : Tm) (G : IM) (cells : List Value) (hts : t.small) (hr : A6 G t cells) : Fn Tryz.prog 47 [.agg ⟨cells⟩] [] G (A28 t G) := by
 have hl := hr.len
 have hone := hr.one
 have hM := B1G id (fun _ => True) 94 [] [] B1I t G cells (A7D _ t) hts hr
 rw [A7A] at hM
 refine B4 Tryz.func47 rfl Tryz.ntmps47 Tryz.results47 rfl ?_
 intro w0
 refine tS (tR ?_)
 refine sE (C1 rfl rfl) rfl (fun b3 => ?_)
 refine sE (A5 rfl) rfl (fun b4 => ?_)
 refine sD (nS (tS (tR ?_)))
 refine sL (A0 rfl rfl (A9 (by repeat first | exact mH | apply mT)) (by assumption)) rfl rfl ?_
 (refine D2 rfl hM rfl rfl (fun v G3 hle3 hh => ?_); obtain ⟨cells', F', rfl, hs', hnd'⟩ := hh; have hl' := hs'.R.len; have ho' := hs'.R.one)
 refine sS rfl rfl rfl hl' ho' rfl ?_ (hu := by exact D4 hl'.symm)
 refine sD (nS (tT ?_))
 refine E1 (rC rfl (A0 rfl rfl (A9 (by repeat first | exact mH | apply mT)) hl')) ?_
 exact ⟨rfl, cells', F', rfl, hs', hnd'⟩
theorem A1m (t : Tm) : P0 t = true ↔ N5 12 14 t 1 = true ∧ D1 t ≤ 30 := by
 have := A47 30 12 14 t 1 0 (by omega)
 rw [P0, this]
 constructor
 ·rintro ⟨a, b⟩; exact ⟨a, by omega⟩
 ·rintro ⟨a, b⟩; exact ⟨a, by omega⟩
theorem B1J : ∀ (t : Tm) (d : Int) (G : IM) (cells : List Value), 0 ≤ d ∧ d ≤ 12 → A6 G t cells →
  Fn Tryz.prog 195 [.agg ⟨cells⟩, .int .i64 d] [] G (E4 (.bool (N5 12 14 t (13 - d))) G) := by
 refine Tm.ind fun k nm num ty fr lb ks ih d G cells hd hr => ?_
 have hr0 := hr
 have hne := fun h : k ≠ 14 => @A7q k nm num ty fr lb ks.length h
 have har := fun h : T5 k nm num ty fr lb ks.length = true => (U3.1 h).1
 obtain ⟨R, hR⟩ : ∃ R, T5 k nm num ty fr lb ks.length = R := ⟨_, rfl⟩
 rw [hR] at hne har
 have hl2 := A7p k nm num ty fr lb ks G cells hr0 R
 have hk1 := A7i k G
 obtain ⟨tk, tks⟩ := ty
 obtain ⟨fk, fks⟩ := fr
 obtain ⟨pt, ct, pf, cf, p, c, es, rfl, hk, hnum, hlb, hty, hfr, hsl, hkl⟩ := hr.open9
 have hn := hsl.le
 clear hr hr0
 refine B4 Tryz.func195 rfl Tryz.ntmps195 Tryz.results195 rfl ?_
 intro w0
 refine tS (tR ?_)
 refine sE (C1 rfl rfl) rfl (fun b3 => ?_)
 refine sQ (qA rfl) rfl (sD (nS (tS (tS ?_))))
 refine D5 D6 rfl ?_
 refine J6 (i := 0) (l' := [tt,ff,ff,ff,ff,ff,ff,ff,ff,ff,ff,ff,ff,ff,ff,ff,ff,ff,ff,ff,ff]) rfl D0 (qM rfl) rfl (by kernel_rfl) rfl rfl ?_
 refine A0n (i := 1) (l' := [tt,tt,ff,ff,ff,ff,ff,ff,ff,ff,ff,ff,ff,ff,ff,ff,ff,ff,ff,ff,ff]) rfl D0 (I2 rfl rfl) rfl (by kernel_rfl) rfl rfl (fun h11 => ?_) (fun h11 => ?_)
 refine aP 2 rfl (qM rfl) rfl ?_
 refine B8 3 rfl rfl rfl ?_
 refine B8 4 rfl rfl rfl ?_
 refine B8 6 rfl rfl rfl ?_
 refine B8 7 rfl rfl rfl ?_
 refine B8 8 rfl rfl rfl ?_
 refine B8 5 rfl rfl rfl ?_
 refine B8 9 rfl rfl rfl ?_
 refine aP 10 rfl (L4 rfl rfl) rfl ?_
 refine aP 11 rfl (qM rfl) rfl ?_
 refine B8 12 rfl rfl rfl ?_
 refine B8 13 rfl rfl rfl ?_
 refine B8 14 rfl rfl rfl ?_
 refine aP 15 rfl (L4 rfl rfl) rfl ?_
 refine aP 16 rfl (qM rfl) rfl ?_
 refine B8 17 rfl rfl rfl ?_
 refine B8 18 rfl rfl rfl ?_
 refine B8 19 rfl rfl rfl ?_
 refine aP 20 rfl (L4 rfl rfl) rfl ?_
 refine F8 ?_
 (rw [A01 (by rw [hR]; first | omega | exact .inr (.inr (by assumption)) | exact .inr (.inr (by cases R with | false => rfl | true => exact absurd (har rfl) (by omega))))]; exact ⟨rfl, rfl, rfl⟩)
 refine aP 2 rfl (qM rfl) rfl ?_
 refine aP 3 rfl (B0 rfl) rfl ?_
 refine aL 4 rfl (B9 rfl rfl) rfl ?_
 refine aP 6 rfl (B0 rfl) rfl ?_
 refine aL 7 rfl (B9 rfl rfl) rfl ?_
 refine aP 8 rfl (pLn rfl rfl) rfl ?_
 refine A2 5 ?_
 refine M6 rfl rfl (hk1) rfl rfl rfl ?_
 refine A0n (i := 9) (l' := [tt,tt,tt,tt,tt,tt,tt,tt,tt,tt,ff,ff,ff,ff,ff,ff,ff,ff,ff,ff,ff]) rfl D0 (N7 rfl rfl) rfl (by kernel_rfl) rfl rfl (fun h51 => ?_) (fun h51 => ?_)
 refine aP 10 rfl (N4 rfl rfl) rfl ?_
 refine aP 11 rfl (qM rfl) rfl ?_
 refine B8 12 rfl rfl rfl ?_
 refine B8 13 rfl rfl rfl ?_
 refine B8 14 rfl rfl rfl ?_
 refine aP 15 rfl (L4 rfl rfl) rfl ?_
 refine aP 16 rfl (qM rfl) rfl ?_
 refine B8 17 rfl rfl rfl ?_
 refine B8 18 rfl rfl rfl ?_
 refine B8 19 rfl rfl rfl ?_
 refine aP 20 rfl (L4 rfl rfl) rfl ?_
 refine F8 ?_
 (rw [A01 (by rw [hR]; first | omega | exact .inr (.inr (by assumption)) | exact .inr (.inr (by cases R with | false => rfl | true => exact absurd (har rfl) (by omega))))]; exact ⟨rfl, rfl, rfl⟩)
 refine aP 10 rfl (N4 rfl rfl) rfl ?_
 refine aP 11 rfl (qM rfl) rfl ?_
 refine aP 12 rfl (B0 rfl) rfl ?_
 refine aL 13 rfl (B9 rfl rfl) rfl ?_
 refine A0n (i := 14) (l' := [tt,tt,tt,tt,tt,tt,tt,tt,tt,tt,tt,tt,tt,tt,tt,ff,ff,ff,ff,ff,ff]) rfl D0 (qE rfl rfl) rfl (by kernel_rfl) rfl rfl (fun h79 => ?_) (fun h79 => ?_)
 refine aP 15 rfl (N4 rfl rfl) rfl ?_
 refine aP 16 rfl (qM rfl) rfl ?_
 refine B8 17 rfl rfl rfl ?_
 refine B8 18 rfl rfl rfl ?_
 refine B8 19 rfl rfl rfl ?_
 refine aP 20 rfl (L4 rfl rfl) rfl ?_
 refine F8 ?_
 (rw [A01 (by rw [hR]; first | omega | exact .inr (.inr (by assumption)) | exact .inr (.inr (by cases R with | false => rfl | true => exact absurd (har rfl) (by omega))))]; exact ⟨rfl, rfl, rfl⟩)
 refine aP 15 rfl (N4 rfl rfl) rfl ?_
 refine aP 16 rfl (qM rfl) rfl ?_
 refine aL 17 rfl (A3 rfl rfl) rfl ?_
 refine A2 18 ?_
 refine S3 rfl rfl (hl2 (hne (by omega) (by omega))) rfl rfl rfl (fun h102 => ?_) (fun h102 => ?_)
 refine aP 19 rfl (U0 rfl) rfl ?_
 refine aP 20 rfl (N4 rfl rfl) rfl ?_
 refine F8 ?_
 refine B3 ?_
 (refine I1 (fun (i : Nat) => ⟨[(5, .int .i64 i), (2, .pointer (some ⟨b3, 0, none⟩)), (1, .int .i64 d)], [.blk b3 [.int .i64 k, .string nm, .int .i64 num, .int .i64 tk, .slice pt tks.length ct, .int .i64 fk, .slice pf fks.length cf, .int .i64 lb, .slice p ks.length c]], G⟩) (fun i => i ≤ ks.length ∧ ∀ j (h : j < ks.length), j < i → N5 12 14 ks[j] (13 - d + 1) = true) (fun i => ks.length - i) 0 ?_ ?_ ?_)
 exact C9
 exact ⟨by omega, by omega⟩
 (rintro i ⟨hi, hf⟩)
 refine C3 ?_
 refine sB (I2 rfl rfl) rfl rfl (fun h128 => ?_) (fun h128 => ?_)
 refine sD (nS (qT rfl (tK (nS (tS ?_)))))
 refine B3 ?_
 refine O8 ?_
 (obtain ⟨b, o, e, rfl, hl, hat, hre, hgb⟩ := hsl.kidTm hkl (i := i) (by omega) (by omega); refine sP (A8 rfl rfl rfl (by omega)) rfl rfl ?_)
 refine sL (A0 rfl rfl (hat _) hl) rfl rfl ?_
 refine sQ (qM rfl) rfl ?_
 refine sP (W8 rfl rfl (by omega) (by omega)) rfl rfl ?_
 (have hih := ih ks[i] (List.getElem_mem (by omega)) (d - 1) G _ (by omega) hre; rw [show 13 - (d - 1) = 13 - d + 1 by omega] at hih; refine F0 rfl hih rfl rfl (fun h145 => ?_) (fun h145 => ?_))
 refine D8 ?_
 refine sP (E8 rfl rfl (by omega) (by omega)) rfl rfl ?_
 refine sQ (qA rfl) rfl (sD ?_)
 refine I4 (i + 1) ?_ ?_ ?_
 exact C9
 exact ⟨by omega, fun j hj hji => by (by_cases he : j = i; (subst he; assumption); exact hf j hj (by omega))⟩
 omega
 refine J1 ?_
 (rw [A02 (by omega) (by omega) (hR.trans (by assumption)), A46 (i := i) (by omega) (by assumption)]; exact ⟨rfl, rfl, rfl⟩)
 refine H3 ?_
 (rw [A02 (by omega) (by omega) (hR.trans (by assumption)), (A0O 12 14 ks _).2 (fun j hj => hf j hj (by omega))]; exact ⟨rfl, rfl, rfl⟩)
 refine aP 19 rfl (pNf rfl) rfl ?_
 refine aP 20 rfl (N4 rfl rfl) rfl ?_
 refine F8 ?_
 (rw [A01 (by rw [hR]; first | omega | exact .inr (.inr (by assumption)) | exact .inr (.inr (by cases R with | false => rfl | true => exact absurd (har rfl) (by omega))))]; exact ⟨rfl, rfl, rfl⟩)
theorem A5f (t : Tm) (G : IM) (cells : List Value) (hcnt : D1 t ≤ 4294967296) (hr : A6 G t cells) :
  Fn Tryz.prog 141 [.agg ⟨cells⟩] [] G (E4 (.bool (P0 t)) G) := by
 have hl := hr.len
 have hv := B1J t 12 G cells (by omega) hr
 have hc := fun h => A7s 12 14 t 12 G cells (by omega) h hcnt hr
 have hi := A1m t
 obtain ⟨R, hR⟩ : ∃ R, P0 t = R := ⟨_, rfl⟩
 rw [hR] at hi ⊢
 refine B4 Tryz.func141 rfl Tryz.ntmps141 Tryz.results141 rfl ?_
 intro w0
 refine tS (tR ?_)
 refine sE (C1 rfl rfl) rfl (fun b3 => ?_)
 refine sQ (qA rfl) rfl (sD (nS (tS (tR ?_))))
 refine sL (A0 rfl rfl (A9 (by repeat first | exact mH | apply mT)) (by assumption)) rfl rfl ?_
 refine F0 rfl (hv) rfl rfl (fun h10 => ?_) (fun h10 => ?_)
 refine sQ (qM rfl) rfl ?_
 refine sL (A0 rfl rfl (A9 (by repeat first | exact mH | apply mT)) (by assumption)) rfl rfl ?_
 refine I3 rfl (hc (by assumption)) rfl rfl ?_
 refine sB (W9 rfl rfl) rfl rfl (fun h14 => ?_) (fun h14 => ?_)
 refine E2 ?_
 exact ⟨rfl, by rw [hi.2 ⟨by assumption, by omega⟩], rfl⟩
 refine E2 ?_
 exact ⟨rfl, by (cases R with | false => rfl | true => (exfalso; have h0 := hi.1 rfl; first | omega | simp_all)), rfl⟩
 refine I8 ?_
 exact ⟨rfl, by (cases R with | false => rfl | true => (exfalso; have h0 := hi.1 rfl; first | omega | simp_all)), rfl⟩
def K7 : Tm := .mk 0 ⟨⟨[]⟩⟩ 0 (.mk 0 []) (.mk 0 []) 0 []
theorem N2.zero (G : IM) : N2 G K7 z9 [] := by
 simp only [K7, N2, N0, L8, L9, z9]
 refine ⟨[.int .i64 0, .slice none 0 0], [.int .i64 0, .slice none 0 0], none, 0, [], [], [], [], rfl, ⟨by omega, by omega⟩, ⟨by omega, by omega⟩, ⟨by omega, by omega⟩, ?_, ?_, C4.nil _ _, ⟨rfl, rfl⟩, rfl, by simp [H4]⟩
 ·exact ⟨none, 0, [], [], rfl, ⟨by omega, by omega⟩, C4.nil _ _, ⟨rfl, rfl⟩, rfl, by simp [H4]⟩
 ·exact ⟨none, 0, [], [], rfl, ⟨by omega, by omega⟩, C4.nil _ _, ⟨rfl, rfl⟩, rfl, by simp [H4]⟩
def B4Q (t : Tm) (path : List Int) : Tm × Bool := if P7 t = true then (match tAt t path with | some x => (x, true) | none => (K7, false)) else (K7, false)
def TbP (r : Tm × Bool) (G : IM) : IM → Value → List A4 → Prop := J8 fun G' v => ∃ cells F, v = .tuple ⟨[.agg ⟨cells⟩, .bool r.2]⟩ ∧ N2 (B2 G' G) r.1 cells F ∧ F.Nodup
section rlaws
variable {P : Program} {Γ : L7} {env : M0} {hp : List A4} {G : IM} {ty : TypeId}
theorem B1K {x y : Operand} {t el : TypeId} {i : L0} {sz by' : Nat} {zs : List Value} [hI : H6 P t i] (hd' : i.desc = .slice el) [hE : T9 P el sz by' zs] {p : Option Addr} {n c l : Nat}
  (hx : evo env x = some (.slice p n c)) (hy : evo env y = some (.int .i64 (l : Int))) (hl : l ≤ c) :
  I9 P Γ ⟨env, hp, G⟩ (.slice t x none (some y) none) ty (.slice p l c) := by
 refine ⟨fun a _ hs _ _ _ _ w => ?_⟩
 have hu := hI.und
 rw [hd'] at hu
 obtain ⟨d, hE⟩ := hE.ok
 obtain ⟨inf, z, t1, t2, t3, _⟩ := A1W (P := P) (t := el)
 have e1 : a.eval x = _ := hs.evo hx
 have e2 : a.eval y = _ := hs.evo hy
 have hb : ∀ code, (Instr.sliceBound (.int .i64 (l : Int)) c code).run P w = .ok l w := fun code => by
  unfold Instr.sliceBound
  simp only [asIntOf, Sem.run_bind, Sem.run_pure, Result.andThen_ok]
  rw [if_pos ⟨by omega, by omega⟩]
  simp
 simp only [execOp, Option.map, e1, e2, Instr.sliceAt, Sem.run_bind, run_underlying hu, Result.andThen_ok, Instr.slice, Instr.sliceBounds, Sem.run_pure, hb, t3]
 by_cases h : c = 0
 ·subst h; simp
 ·rw [if_neg h]; simp; cases p <;> simp [Addr.add]
end rlaws
def A7G (bs : List UInt8) : List Value := bs.map fun b => .int .u8 (b.toNat : Int)
def rd (br : Nat) (pb : Option Addr) (nb cb p : Nat) : A4 := .blk br [.slice pb nb cb, .int .i64 (p : Int)]
def B1L (br : Nat) (pb : Option Addr) (nb cb p B : Nat) (Φ : IM → Value → Prop) : IM → Value → List A4 → Prop := fun G' v outs => ∃ p', p ≤ p' ∧ p' ≤ p + B ∧ outs = [rd br pb nb cb p'] ∧ Φ G' v
structure A30 {ι : Type} (S : ι → Sy) (φ : ι → Prop) (e : Exit) (σ : Sy) : Prop where
 run : match e with
  | .normal => ∃ i, φ i ∧ Sub σ (S i)
  | _ => False
section cut
variable {P : Program} {Γ : L7} {K : Po} {σ : Sy} {ι : Type}
theorem A3h {c y : Code} (S : ι → Sy) (φ : ι → Prop) (h : K2 P Γ c (A30 S φ) σ) (k : ∀ i, φ i → K2 P Γ y K (S i)) : K2 P Γ c (A0U P Γ y K) σ := by
 refine tri_post h ?_
 rintro e σ ⟨hk⟩
 cases e with
 | normal => obtain ⟨i, hi, hs⟩ := hk; exact ⟨A9z hs (k i hi)⟩
 | _ => exact hk.elim
where
 tri_post {c : Code} {K K' : Po} {σ : Sy} (h : K2 P Γ c K σ) (hk : ∀ e σ, K e σ → K' e σ) : K2 P Γ c K' σ := A5Y h hk
theorem A1n {S : ι → Sy} {φ : ι → Prop} {σ : Sy} (i : ι) (hs : Sub σ (S i)) (h : φ i) : A30 S φ .normal σ := ⟨⟨i, h, hs⟩⟩
theorem B1M {S : ι → Sy} {φ : ι → Prop} : A0a (A30 S φ) := fun _ _ h => h.run
instance npC5 {S : ι → Sy} {φ : ι → Prop} : NpC (A30 S φ) := ⟨B1M⟩
end cut
section take
variable {P : Program} {Γ : L7} {env : M0} {hp : List A4} {G : IM} {K : Po} {ops : Array Oper} {rest : List Oper} {ty : TypeId} {pos : String} {af : Array Edge} {gd : Option (Nat × Bool)}
theorem A1F {d : Nat} {f : FuncId} [hF : B1 P f] {xs : List Operand} {ats : Array TypeId} {vs : List Value} {ins rst : List A4} {post : IM → Value → List A4 → Prop}
  (hx : evl env xs = some vs) (h : Fn P f vs ins G post) (hp' : hp.Perm (ins ++ rst)) (hw : K3 ops env gd = some true) (hd : Nat.blt d Γ.n = true)
  (k : ∀ v G' outs, B7 G G' → post G' v outs → E0 P Γ ops rest K ⟨(d, v) :: env, outs ++ rst, G'⟩) : E0 P Γ ops (⟨some d, .call ⟨.value (.func f), ⟨xs⟩, ats⟩, ty, pos, af, gd⟩ :: rest) K ⟨env, hp, G⟩ :=
 K6 (A1T hx h hp' hd) hw (by rintro _ ⟨v, G', outs, rfl, hle, hq⟩; exact k v G' outs hle hq)
end take
theorem A31 (G : IM) : Fn Tryz.prog 101 [] [] G (E4 (.agg ⟨[.int .i64 1, .slice none 0 0]⟩) G) := by
 refine B4 Tryz.func101 rfl Tryz.ntmps101 Tryz.results101 rfl ?_
 intro w0
 refine tS (tR ?_)
 refine sE (A5 rfl) rfl (fun b3 => ?_)
 refine D8 ?_
 refine E1 (rC rfl (A3 rfl rfl)) ?_
 exact ⟨rfl, rfl, rfl⟩
def dB : Nat → Nat
 | 0 => 0
 | d + 1 => 2 * dB d + 2
theorem C2.ty {G : IM} {k : Int} {ts : List Ty} {es : List (List Value)} {p : Option Addr} {n c : Nat} (h : C2 G ts es) (hn : ts.length = n) (hs : Sl G p n c 2 es.flatten) (hk : H1 k) : B6 G (.mk k ts) [.int .i64 k, .slice p n c] := by
 subst hn
 simp only [B6]
 exact ⟨p, c, es, rfl, hk, C4.of hs h.len h.all (fun e he => (h.each e he).2), h⟩
theorem A19 (G : IM) : B6 G R8 [.int .i64 1, .slice none 0 0] := by
 simp only [R8, B6]
 exact ⟨none, 0, [], rfl, ⟨by omega, by omega⟩, C4.of (Sl.nil _ _) rfl (by simp) (by simp), by simp [C2]⟩
mutual
def A7H : Tm → Tm
 | .mk k nm num ty fr lb ks => if k = 13 ∨ k = 14 then (A5g ks).headD K7 else .mk k nm num (if k = 5 then R8 else B5) B5 0 (A5g ks)
def A5g : List Tm → List Tm
 | [] => []
 | t :: ts => A7H t :: A5g ts
end
def B4R : Tm → Tm
 | .mk k nm num ty fr lb ks => if k = 13 ∨ k = 14 then ks.headD K7 else if k = 5 then .mk k nm num R8 fr lb ks else .mk k nm num ty fr lb ks
def B4S : Tm → Prop
 | .mk k _ _ _ _ _ ks => k = 13 ∨ k = 14 → ks ≠ []
theorem A2B {t : Ty} (h : X0 t = true) : t = B5 := by
 obtain ⟨k, ks⟩ := t
 obtain ⟨h1, h2⟩ : (Ty.mk k ks).k = 0 ∧ (Ty.mk k ks).ks.length = 0 := of_decide_eq_true h
 simp only [Ty.k, Ty.ks] at h1 h2
 have h3 : ks = [] := List.length_eq_zero_iff.1 (by omega)
 rw [h3, B5]
 congr
theorem A0Q {D N : Int} {k : Int} {nm : ByteArray} {num : Int} {ty fr : Ty} {lb : Int} {ks : List Tm} {d : Int} (h : N5 D N (.mk k nm num ty fr lb ks) d = true) : d ≤ D ∧ k ≠ N ∧ T5 k nm num ty fr lb ks.length = true ∧ N6 D N ks (d + 1) = true := by
 rw [N5] at h
 simp only [Bool.and_eq_true, decide_eq_true_eq] at h
 exact ⟨h.1.1.1, h.1.1.2, h.1.2, h.2⟩
section slaws
variable {P : Program} {Γ : L7} {env : M0} {hp : List A4} {G : IM} {ty : TypeId}
end slaws
theorem A2C (G : IM) : B6 G B5 [.int .i64 0, .slice none 0 0] := by
 simp only [B5, B6]
 exact ⟨none, 0, [], rfl, ⟨by omega, by omega⟩, C4.of (Sl.nil _ _) rfl (by simp) (by simp), by simp [C2]⟩
theorem A1G (k : Int) : D9 k ≤ 3 := by
 unfold D9; repeat (split; omega)
 omega
theorem B1N (n : Int) (G : IM) : Fn Tryz.prog 153 [.int .i64 n] [] G (E4 (.agg ⟨[.int .i64 2, .string ⟨⟨[]⟩⟩, .int .i64 n, .int .i64 0, .slice none 0 0, .int .i64 0, .slice none 0 0, .int .i64 0, .slice none 0 0]⟩) G) := by
 refine B4 Tryz.func153 rfl Tryz.ntmps153 Tryz.results153 rfl ?_
 intro w0
 refine tS (tR ?_)
 refine sE (A5 rfl) rfl (fun b3 => ?_)
 refine I8 ?_
 refine E1 (rC rfl (A3 rfl rfl)) ?_
 exact ⟨rfl, rfl, rfl⟩
def tB : Nat → Nat
 | 0 => 3
 | d + 1 => 3 * tB d + 20
def B4T (G : IM) : IM → Value → List A4 → Prop := fun G' v outs => G' = G ∧ ∃ br pb nb cb bs, v = .pointer (some ⟨br, 0, none⟩) ∧ outs = [rd br pb nb cb 0] ∧ nb ≤ 2000 ∧ Sl G pb nb cb 1 (A7G bs)
theorem A03 (G : IM) : Fn Tryz.prog 198 [] [] G (E4 (.agg ⟨[.int .i64 2, .slice none 0 0]⟩) G) := by
 refine B4 Tryz.func198 rfl Tryz.ntmps198 Tryz.results198 rfl ?_
 intro w0
 refine tS (tR ?_)
 refine sE (A5 rfl) rfl (fun b3 => ?_)
 refine D8 ?_
 refine E1 (rC rfl (A3 rfl rfl)) ?_
 exact ⟨rfl, rfl, rfl⟩
theorem A3i (G : IM) : Fn Tryz.prog 199 [] [] G (E4 (.agg ⟨[.int .i64 3, .slice none 0 0]⟩) G) := by
 refine B4 Tryz.func199 rfl Tryz.ntmps199 Tryz.results199 rfl ?_
 intro w0
 refine tS (tR ?_)
 refine sE (A5 rfl) rfl (fun b3 => ?_)
 refine D8 ?_
 refine E1 (rC rfl (A3 rfl rfl)) ?_
 exact ⟨rfl, rfl, rfl⟩
theorem A2a (G : IM) (k : Int) (p : Option Addr) (n c : Nat) : Fn Tryz.prog 208 [.int .i64 k, .slice p n c] [] G (E4 (.agg ⟨[.int .i64 k, .string ⟨⟨[]⟩⟩, .int .i64 0, .int .i64 0, .slice none 0 0, .int .i64 0, .slice none 0 0, .int .i64 0, .slice p n c]⟩) G) := by
 refine B4 Tryz.func208 rfl Tryz.ntmps208 Tryz.results208 rfl ?_
 intro w0
 refine tS (tR ?_)
 refine sE (A5 rfl) rfl (fun b3 => ?_)
 refine F8 ?_
 refine E1 (rC rfl (A3 rfl rfl)) ?_
 exact ⟨rfl, rfl, rfl⟩
theorem O4 (G : IM) {k : Int} (hk : H1 k) : B6 G (.mk k []) [.int .i64 k, .slice none 0 0] := by
 simp only [B6]
 exact ⟨none, 0, [], rfl, hk, C4.of (Sl.nil _ _) rfl (by simp) (by simp), by simp [C2]⟩
theorem B1O (k : Int) : P2 (.mk k []) = 0 := rfl
def TyB (B : Int) (G : IM) : IM → Value → List A4 → Prop := J8 fun G' v => ∃ t cells b, v = .tuple ⟨[.agg ⟨cells⟩, .bool b]⟩ ∧ B6 G' t cells ∧ E6 t ∧ P2 t ≤ B
theorem A32 {k : Int} {a b : Ty} (hk : k = 4 ∨ k = 5) (ha : E6 a) (hb : E6 b) : E6 (.mk k [a, b]) := by
 rw [E6]
 exact ⟨fun _ => rfl, fun h4 h5 => by omega, by simp [A0B, ha, hb]⟩
theorem S8 {k : Int} (h4 : k ≠ 4) (h5 : k ≠ 5) : E6 (.mk k []) := (B1F 0 h4 h5).ar
theorem E6.kid {k : Int} {ks : List Ty} (h : E6 (.mk k ks)) : ∀ t ∈ ks, E6 t := by
 rw [E6] at h; exact A1k.1 h.2.2
theorem E6.two {k : Int} {ks : List Ty} (h : E6 (.mk k ks)) : ks.length ≤ 2 := by
 rw [E6] at h
 have h1 := h.1
 have h2 := h.2.1
 omega
def B4U (B : Int) (G : IM) : IM → Value → List A4 → Prop := J8 fun G' v => ∃ a ca b cb x, v = .tuple ⟨[.agg ⟨ca⟩, .agg ⟨cb⟩, .bool x]⟩ ∧ B6 G' a ca ∧ E6 a ∧ P2 a ≤ B ∧ B6 G' b cb ∧ E6 b ∧ P2 b ≤ B
def TyP (B : Int) (Q : Ty → Prop) (G : IM) : IM → Value → List A4 → Prop := J8 fun G' v => ∃ t cells, v = .agg ⟨cells⟩ ∧ B6 G' t cells ∧ E6 t ∧ P2 t ≤ B ∧ Q t
theorem B1P {k : Int} {ks us : List Ty} (h : E6 (.mk k ks)) (hl : us.length = ks.length) (hu : ∀ u ∈ us, E6 u) : E6 (.mk k us) := by
 rw [E6] at h ⊢
 exact ⟨fun hk => by rw [hl]; exact h.1 hk, fun a b => by rw [hl]; exact h.2.1 a b, A1k.2 hu⟩
theorem A33 {P : Ty → Prop} {us : List Ty} {u : Ty} (h : ∀ x ∈ us, P x) (hu : P u) : ∀ x ∈ us ++ [u], P x := by
 simp only [List.forall_mem_append, List.forall_mem_singleton]; exact ⟨h, hu⟩
theorem A1H : ∀ (t t' : Ty) (G : IM) (cells cells' : List Value), E6 t → E6 t' → B6 G t cells → B6 G t' cells' →
  Fn Tryz.prog 206 [.agg ⟨cells⟩, .agg ⟨cells'⟩] [] G (E4 (.bool (J5 t t')) G) := by
 refine Ty.ind fun k ks ih t' G cells cells' ha ha' hr hr' => ?_
 obtain ⟨k', ks'⟩ := t'
 obtain ⟨p, c, es, rfl, hk, hsl, hkl⟩ := hr.open
 obtain ⟨p', c', es', rfl, hk', hsl', hkl'⟩ := hr'.open
 simp only [Ty.k, Ty.ks] at hk hsl hkl hk' hsl' hkl' ⊢
 have hn := hsl.le
 have hn' := hsl'.le
 have hv2 := ha.kid
 have hv2' := ha'.kid
 rw [E6] at ha ha'
 have hle : k = k' → ks.length = ks'.length := by
  rintro rfl
  have h1 := ha.1
  have h2 := ha.2.1
  have h3 := ha'.1
  have h4 := ha'.2.1
  omega
 refine B4 Tryz.func206 rfl Tryz.ntmps206 Tryz.results206 rfl ?_
 intro w0
 refine tS (tR ?_)
 refine sE (C1 rfl rfl) rfl (fun b3 => ?_)
 refine sE (C1 rfl rfl) rfl (fun b4 => ?_)
 refine D3 ?_
 refine sB (qE rfl rfl) rfl rfl (fun h13 => ?_) (fun h13 => ?_)
 refine J1 ?_
 (rw [A3X (by omega)]; exact ⟨rfl, rfl, rfl⟩)
 refine J2 ?_
 refine sB (qE rfl rfl) rfl rfl (fun h34 => ?_) (fun h34 => ?_)
 refine J9 ?_
 (rw [A3X (by omega)]; exact ⟨rfl, rfl, rfl⟩)
 refine K1 ?_
 refine sB (N7 rfl rfl) rfl rfl (fun h61 => ?_) (fun h61 => ?_)
 refine F8 ?_
 (rw [A7m (by omega) (by omega) (by omega)]; exact ⟨rfl, rfl, rfl⟩)
 refine F8 ?_
 refine B3 ?_
 (have hll : ks.length = ks'.length := hle (by omega); refine I1 (fun (i : Nat) => ⟨[(5, .int .i64 i), (3, .pointer (some ⟨b4, 0, none⟩)), (2, .pointer (some ⟨b3, 0, none⟩))], [.blk b3 [.int .i64 k, .slice p ks.length c], .blk b4 [.int .i64 k', .slice p' ks'.length c']], G⟩) (fun i => i ≤ ks.length ∧ ∀ j (h : j < ks.length) (h' : j < ks'.length), j < i → J5 ks[j] ks'[j] = true) (fun i => ks.length - i) 0 ?_ ?_ ?_)
 exact C9
 exact ⟨by omega, by omega⟩
 (rintro i ⟨hi, hf⟩)
 refine C3 ?_
 refine sB (I2 rfl rfl) rfl rfl (fun h97 => ?_) (fun h97 => ?_)
 refine sD (nS (qT rfl (tK (nS (tS ?_)))))
 refine B3 ?_
 refine tS ?_
 (obtain ⟨b, o, p2, c2, rfl, hat, hre, hgb⟩ := hsl.kidTy hkl (i := i) (by omega) (by omega); obtain ⟨b', o', p2', c2', rfl, hat', hre', hgb'⟩ := hsl'.kidTy hkl' (i := i) (by omega) (by omega); refine D5 D6 rfl ?_)
 refine J6 (i := 0) (l' := [tt,ff,ff,ff,ff,ff,ff,ff,ff,ff,ff,ff]) rfl D0 (B0 rfl) rfl (by kernel_rfl) rfl rfl ?_
 refine aL 1 rfl (B9 rfl rfl) rfl ?_
 refine aP 2 rfl (qM rfl) rfl ?_
 refine aP 3 rfl (A8 rfl rfl rfl (by omega)) rfl ?_
 refine aL 4 rfl (A0 rfl rfl (hat _) rfl) rfl ?_
 refine aP 5 rfl (B0 rfl) rfl ?_
 refine aL 6 rfl (B9 rfl rfl) rfl ?_
 refine aP 7 rfl (qM rfl) rfl ?_
 refine aP 8 rfl (A8 rfl rfl rfl (by omega)) rfl ?_
 refine aL 9 rfl (A0 rfl rfl (hat' _) rfl) rfl ?_
 refine A2 10 ?_
 refine S3 rfl rfl (ih ks[i] (List.getElem_mem (by omega)) ks'[i] G _ _ (hv2 _ (List.getElem_mem (by omega))) (hv2' _ (List.getElem_mem (by omega))) hre hre') rfl rfl rfl (fun h118 => ?_) (fun h118 => ?_)
 refine aP 11 rfl (U0 rfl) rfl ?_
 refine D3 ?_
 refine sP (E8 rfl rfl (by omega) (by omega)) rfl rfl ?_
 refine sQ (qA rfl) rfl (sD ?_)
 refine I4 (i + 1) ?_ ?_ ?_
 exact C9
 exact ⟨by omega, fun j hj hj' hji => by (by_cases he : j = i; (subst he; assumption); exact hf j hj hj' (by omega))⟩
 omega
 refine aP 11 rfl (pNf rfl) rfl ?_
 refine H3 ?_
 (rw [A3Y (by omega) (by omega) (by omega), A7n (i := i) (by omega) (by omega) (by assumption)]; exact ⟨rfl, rfl, rfl⟩)
 refine H3 ?_
 (rw [A3Y (by omega) (by omega) (by omega), (A1v ks _).2 ⟨hll, fun j hj hj' => hf j hj hj' (by omega)⟩]; exact ⟨rfl, rfl, rfl⟩)
theorem At.sub {hp : List A4} {G : IM} {b o j : Nat} {vs : List Value} {v : Value} (h : At hp G b o vs) (hj : vs[j]? = some v) : At hp G b (o + j) [v] := by
 have key : ∀ {cs : List Value}, (∀ i u, vs[i]? = some u → cs[o + i]? = some u) → ∀ i u, [v][i]? = some u → cs[o + j + i]? = some u := by
  intro cs hc i u hu
  cases i with
  | zero => simp at hu; subst hu; simpa using hc j v hj
  | succ i => simp at hu
 rcases h with ⟨cs, hm, hv⟩ | ⟨n, c, el, sz, cs, hm, hv⟩ | ⟨full, hg, hv⟩
 ·exact .inl ⟨cs, hm, key hv⟩
 ·exact .inr (.inl ⟨n, c, el, sz, cs, hm, key hv⟩)
 ·exact .inr (.inr ⟨full, hg, key hv⟩)
def HTm (G : IM) (t : Tm) (k : Int) (cells : List Value) : Prop := ∃ pt ct et pf cf ef p c es,
 cells = [.int .i64 t.k, .string t.nm, .int .i64 t.num, .int .i64 t.ty.k, .slice pt t.ty.ks.length ct, .int .i64 t.fr.k, .slice pf t.fr.ks.length cf, .int .i64 t.lb, .slice p t.ks.length c] ∧
 C4 G pt t.ty.ks.length ct 2 et ∧ C2 G (P5 t.ty.ks k) et ∧ C4 G pf t.fr.ks.length cf 2 ef ∧ C2 G (P5 t.fr.ks (k + H9 t.ty.ks)) ef ∧ C4 G p t.ks.length c 9 es ∧ C7 G (V0 t.ks (k + H9 t.ty.ks + H9 t.fr.ks)) es
theorem B1Q {nm : ByteArray} (h : X1 nm = true) : nm.size = 1 := by
 unfold X1 at h
 simp at h
 omega
theorem A7I {k : Int} {nm : ByteArray} {num : Int} {ty fr : Ty} {lb : Int} {n : Nat} (h : T5 k nm num ty fr lb n = true) : nm.size ≤ 1 := by
 obtain ⟨_, h2, h3, _⟩ := U3.1 h
 by_cases hk : k = 1 ∨ k = 5
 ·rw [B1Q (h2 hk)]; omega
 ·rw [h3 hk]; decide
def RBd (G : IM) (e : List Value) : Prop := ∃ nm t q d, e = [.string nm, .int .i64 t.k, .slice q t.ks.length d] ∧ B6 G t [.int .i64 t.k, .slice q t.ks.length d] ∧ E6 t ∧ P2 t ≤ 30 ∧ nm.size ≤ 1
def GCx (G : IM) (p : Option Addr) (n c : Nat) : Prop := ∃ es, es.length = n ∧ C4 G p n c 3 es ∧ ∀ e ∈ es, RBd G e
theorem At.drop {hp : List A4} {G : IM} {b o : Nat} {v : Value} {vs : List Value} (h : At hp G b o (v :: vs)) : At hp G b (o + 1) vs := by
 have key : ∀ {cs : List Value}, (∀ i u, (v :: vs)[i]? = some u → cs[o + i]? = some u) → ∀ i u, vs[i]? = some u → cs[o + 1 + i]? = some u := by
  intro cs hc i u hu
  have := hc (i + 1) u (by simpa using hu)
  rwa [show o + 1 + i = o + (i + 1) by omega]
 rcases h with ⟨cs, hm, hv⟩ | ⟨n, c, el, sz, cs, hm, hv⟩ | ⟨full, hg, hv⟩
 ·exact .inl ⟨cs, hm, key hv⟩
 ·exact .inr (.inl ⟨n, c, el, sz, cs, hm, key hv⟩)
 ·exact .inr (.inr ⟨full, hg, key hv⟩)
theorem B1R (G : IM) : Fn Tryz.prog 193 [.slice none 0 0] [] G (E4 (.bool true) G) := by
 refine B4 Tryz.func193 rfl Tryz.ntmps193 Tryz.results193 rfl ?_
 intro w0
 refine F8 ?_
 refine B3 ?_
 (refine I1 (fun (_ : Nat) => ⟨[(3, .int .i64 0), (0, .slice none 0 0)], [], G⟩) (fun _ => True) (fun i => i) 0 ?_ ?_ ?_)
 ·exact C9
 ·trivial
 ·(rintro i _)
  refine E2 ?_
  refine sP (V1 rfl rfl (by omega)) rfl rfl ?_
  refine J9 ?_
  refine sP (A6c rfl rfl (by omega)) rfl rfl ?_
  refine sQ (qA rfl) rfl (sD (nS (tT (E1 (rT rfl) ?_))))
  trivial
theorem A2D {k : Int} {n : Nat} (h : D9 k = n) : (k = 6 ∨ k = 7 ∨ k = 8 ∨ k = 10 → n = 2) ∧ (k = 9 → n = 3) ∧ (k = 5 ∨ k = 11 ∨ k = 12 ∨ k = 13 → n = 1) := by
 refine ⟨?_, ?_, ?_⟩
 ·rintro (rfl | rfl | rfl | rfl)
  ·rw [show D9 6 = 2 from rfl] at h; omega
  ·rw [show D9 7 = 2 from rfl] at h; omega
  ·rw [show D9 8 = 2 from rfl] at h; omega
  ·rw [show D9 10 = 2 from rfl] at h; omega
 ·rintro rfl
  rw [show D9 9 = 3 from rfl] at h; omega
 ·rintro (rfl | rfl | rfl | rfl)
  ·rw [show D9 5 = 1 from rfl] at h; omega
  ·rw [show D9 11 = 1 from rfl] at h; omega
  ·rw [show D9 12 = 1 from rfl] at h; omega
  ·rw [show D9 13 = 1 from rfl] at h; omega
theorem B1S : ∀ (t : Ty) (d : Int), K4 t d = true → E6 t := by
 refine Ty.ind fun k ks ih d h => ?_
 obtain ⟨h1, h2⟩ := A3c h
 rw [E6]
 refine ⟨fun hk => ?_, fun h4 h5 => ?_, A1k.2 fun t ht => ?_⟩
 ·have := (M3 k).2.1 hk
  omega
 ·have h5' := M3 k
  have h6 := h5'.1
  have h7 := h5'.2.2
  omega
 ·obtain ⟨i, hi, rfl⟩ := List.getElem_of_mem ht
  exact ih _ ht _ (h2 i hi)
theorem B1T : ∀ (n : Nat) (t : Ty) (d : Int), K4 t d = true → 4 - d ≤ n → Y8 n t := by
 intro n
 induction n with
 | zero =>
  rintro ⟨k, ks⟩ d h hd
  obtain ⟨h1, h2⟩ := A3c h
  have hks : ks.length = 0 := by
   rcases Nat.eq_zero_or_pos ks.length with h0 | h0
   ·exact h0
   ·have h3 := h2 0 h0
    obtain ⟨k', ks'⟩ : Ty := ks[0]
    have h4 : ∀ (u : Ty) (d : Int), K4 u d = true → d ≤ 4 := by
     rintro ⟨a, b⟩ d hu
     rw [K4] at hu
     simp only [Bool.and_eq_true, decide_eq_true_eq] at hu
     exact hu.1.1
    have := h4 _ _ h3
    omega
  have h5 := M3 k
  have h6 := h5.2.1
  exact ⟨List.length_eq_zero_iff.1 hks, by intro h; have := h6 (.inl h); omega, by intro h; have := h6 (.inr h); omega⟩
 | succ n ih =>
  rintro ⟨k, ks⟩ d h hd
  have ha := B1S _ _ h
  rw [E6] at ha
  obtain ⟨h1, h2⟩ := A3c h
  refine ⟨ha.1, ha.2.1, fun t ht => ?_⟩
  obtain ⟨i, hi, rfl⟩ := List.getElem_of_mem ht
  exact ih _ _ (h2 i hi) (by omega)
theorem A34 {t : Ty} (h : F4 t = true) : E6 t ∧ P2 t ≤ 30 := by
 have h1 := B1T 3 t 1 h (by omega)
 have h2 := A5b h1
 have h3 : ((2 ^ (3 + 1) - 2 : Nat) : Int) = 14 := rfl
 exact ⟨h1.ar, by omega⟩
theorem B1U {t : Ty} (h : X0 t = true) : E6 t ∧ P2 t ≤ 30 := by
 rw [A2B h]
 exact ⟨S8 (by decide) (by decide), by rw [B5, B1O]; omega⟩
theorem A2E {k : Int} {nm : ByteArray} {num : Int} {ty fr : Ty} {lb : Int} {n : Nat} (h : T5 k nm num ty fr lb n = true) : E6 ty ∧ P2 ty ≤ 30 := by
 have hn := U3.1 h
 by_cases hk : k = 5 ∨ k = 13 ∨ k = 14
 ·exact A34 (hn.2.2.2.2.2.1 hk)
 ·exact B1U (hn.2.2.2.2.2.2.1 hk)
theorem A6.of9 {G : IM} {k : Int} {nm : ByteArray} {num tk fk : Int} {tks fks : List Ty} {lb : Int} {ks : List Tm} {q1 q2 q3 : Option Addr} {c1 c2 c3 : Nat} {es : List (List Value)} (hk : H1 k) (hnum : H1 num) (hlb : H1 lb) (hty : B6 G (.mk tk tks) [.int .i64 tk, .slice q1 tks.length c1])
  (hfr : B6 G (.mk fk fks) [.int .i64 fk, .slice q2 fks.length c2]) (hsl : C4 G q3 ks.length c3 9 es) (hkl : C7 G ks es) :
  A6 G (.mk k nm num (.mk tk tks) (.mk fk fks) lb ks) [.int .i64 k, .string nm, .int .i64 num, .int .i64 tk, .slice q1 tks.length c1, .int .i64 fk, .slice q2 fks.length c2, .int .i64 lb, .slice q3 ks.length c3] := by
 simp only [A6]
 exact ⟨_, _, q3, c3, es, rfl, hk, hnum, hlb, hty, hfr, hsl, hkl⟩
def Tm.fit (t : Tm) (N : Nat) : Prop := t.small ∧ D1 t ≤ N
section slaw
variable {P : Program} {Γ : L7} {env : M0} {hp : List A4} {G : IM} {ty : TypeId} {K : Po} {ops : Array Oper} {rest : List Oper}
theorem B1V {x y : Operand} {t el : TypeId} {i : L0} {sz by' : Nat} {zs : List Value} [hI : H6 P t i] (hd' : i.desc = .slice el) [hE : T9 P el sz by' zs] {b o n c l : Nat}
  (hx : evo env x = some (.slice (some ⟨b, o, none⟩) n c)) (hy : evo env y = some (.int .i64 (l : Int))) (hl : l ≤ n) :
  I9 P Γ ⟨env, hp, G⟩ (.slice t x (some y) none none) ty (.slice (some ⟨b, if c = l then o else o + l * sz, none⟩) (n - l) (c - l)) := by
 refine ⟨fun a _ hs _ _ _ _ w => ?_⟩
 have hu := hI.und
 rw [hd'] at hu
 obtain ⟨d, hE⟩ := hE.ok
 obtain ⟨inf, z, t1, t2, t3, _⟩ := A1W (P := P) (t := el)
 have e1 : a.eval x = _ := hs.evo hx
 have e2 : a.eval y = _ := hs.evo hy
 have hb : ∀ code, (Instr.sliceBound (.int .i64 (l : Int)) n code).run P w = .ok l w := fun code => by
  have := run_sliceBound (P := P) w .i64 (l : Int) n code (by omega) (by omega)
  simpa using this
 simp only [execOp, Option.map, e1, e2, Instr.sliceAt, Sem.run_bind, run_underlying hu, Result.andThen_ok, Instr.slice, Instr.sliceBounds, Sem.run_pure, hb, t3]
 by_cases h : c = l
 ·simp [h]
 ·simp [h, A1P]
theorem Sl.from {G : IM} {b o n c l sz : Nat} {cs : List Value} (h : Sl G (some ⟨b, o, none⟩) n c sz cs) (hl : l ≤ n) : Sl G (some ⟨b, if c = l then o else o + l * sz, none⟩) (n - l) (c - l) sz (cs.drop (l * sz)) := by
 obtain ⟨h1, h2, h3, h4⟩ := h
 refine ⟨by rw [List.length_drop, h1, Nat.sub_mul], by omega, by omega, ?_⟩
 by_cases h : c = l
 ·left; omega
 ·rcases h4 with h0 | ⟨b', o', full, he, hg, hv⟩
  ·left; omega
  ·right
   cases he
   rw [if_neg h]
   refine ⟨b, _, full, rfl, hg, fun j v hj => ?_⟩
   rw [List.getElem?_drop] at hj
   have := hv _ v hj
   rw [Nat.add_assoc]; exact this
theorem St.slc_open {a : Act} {w : World} {p : Option Addr} {c el sz n : Nat} {cs : List Value} {hp' : List A4} (hs : St Γ ⟨env, hp, G⟩ a w) (hk : Pk hp (.slc p c el sz n cs) hp') (h0 : 0 < n) :
  ∃ b C, p = some ⟨b, 0, none⟩ ∧ n ≤ c ∧ c ≤ maxLen ∧ St Γ ⟨env, .blk b (cs ++ C) :: hp', G⟩ a w := by
 have hown : R7 [.slc p c el sz n cs] G w := hs.res.own.of_mem hk.perm
 obtain ⟨hl, h⟩ := hown.ok _ List.mem_cons_self
 rcases h with ⟨hv, hn⟩ | ⟨g, cap, cur, hv, _, hg, hnc, hcm, hsz, ht⟩
 ·omega
 ·cases hv
  refine ⟨g, cur.toList.drop cs.length, rfl, hnc, hcm, ?_⟩
  have hcur : cur.toList = cs ++ cur.toList.drop cs.length := by
   have e : cs.length = n * sz := hl
   rw [e]
   conv => lhs; rw [← List.take_append_drop (n * sz) cur.toList, ht]
  have hr : O3 [.slc (some ⟨g, 0, none⟩) c el sz n cs] G w [.blk g (cs ++ cur.toList.drop cs.length)] G w := by
   refine ⟨⟨hown.inn, ?_, by simp [Fp, A4.fp], ?_⟩, Z9.refl _ _, B7.refl _, fun _ _ h => .inl h, ?_, fun b l h h0 => absurd h (by rw [h0]; simp)⟩
   ·intro e he
    simp at he; subst he
    refine ⟨el, ?_⟩
    rw [← hcur]; simpa using hg
   ·intro b' hb; exact hown.disj b' (by simpa [Fp, A4.fp, H4] using hb)
   ·intro b' hb; exact .inr (by simpa [Fp, A4.fp, H4] using hb)
  exact ⟨hs.size, hs.nod, hs.env, by have := (hs.res.perm hk.perm).frame hr; simpa using this⟩
theorem A3j {p : Option Addr} {c el sz n : Nat} {cs : List Value} {hp' : List A4} (hk : Pk hp (.slc p c el sz n cs) hp') (h0 : 0 < n)
  (h : ∀ b C, p = some ⟨b, 0, none⟩ → n ≤ c → c ≤ maxLen → E0 P Γ ops rest K ⟨env, .blk b (cs ++ C) :: hp', G⟩) : E0 P Γ ops rest K ⟨env, hp, G⟩ :=
 ⟨fun a w hs => let ⟨b, C, h1, h2, h3, h4⟩ := hs.slc_open hk h0; (h b C h1 h2 h3).run a w h4⟩
end slaw
theorem B1W {es : List (List Value)} {j : Nat} {vs : List Value} (hj : j < es.length) : (es.set j vs).flatten = (es.take j).flatten ++ (vs ++ (es.drop (j + 1)).flatten) := by
 rw [List.set_eq_take_append_cons_drop, if_pos hj]; simp
theorem A7J {es : List (List Value)} {j : Nat} (hj : j < es.length) : es.flatten = (es.take j).flatten ++ (es[j] ++ (es.drop (j + 1)).flatten) := by
 have h := congrArg List.flatten (List.take_append_drop j es).symm
 rw [List.drop_eq_getElem_cons hj, List.flatten_append, List.flatten_cons] at h
 exact h
theorem A3k {es : List (List Value)} {C vs : List Value} {j sz : Nat} (hj : j < es.length) (ha : ∀ e ∈ es, e.length = sz) (hv : vs.length = sz) : O5 (es.flatten ++ C) (0 + j * sz) vs = some ((es.set j vs).flatten ++ C) := by
 have := A24 (A := (es.take j).flatten) (B := es[j]) (C := (es.drop (j + 1)).flatten ++ C) (V := vs) (o := 0 + j * sz)
  (by rw [Z6 (fun e he => ha e (List.mem_of_mem_take he)), List.length_take]; rw [Nat.min_eq_left (by omega)]; omega) (by rw [ha _ (List.getElem_mem hj), hv])
 rw [A7J hj, B1W hj]
 simp only [List.append_assoc] at this ⊢
 exact this
theorem C7.set {G : IM} : ∀ {ks : List Tm} {es : List (List Value)} {j : Nat} {y : Tm} {v : List Value}, C7 G ks es → A6 G y v → C7 G (ks.set j y) (es.set j v)
 | [], es, j, y, v, h, h2 => by simp only [C7] at h; subst h; simp [C7]
 | t :: ts, es, 0, y, v, h, h2 => by
  simp only [C7] at h
  obtain ⟨a, r, rfl, h3, h4⟩ := h
  simp only [List.set_cons_zero, C7]
  exact ⟨v, r, rfl, h2, h4⟩
 | t :: ts, es, j + 1, y, v, h, h2 => by
  simp only [C7] at h
  obtain ⟨a, r, rfl, h3, h4⟩ := h
  simp only [List.set_cons_succ, C7]
  exact ⟨a, r.set j v, rfl, h3, C7.set h4 h2⟩
def A7K : Tm → List Int → Tm → Tm
 | _, [], x => x
 | .mk k nm num ty fr lb ks, i :: is, x => if h : 0 ≤ i ∧ i < ks.length then .mk k nm num ty fr lb (ks.set i.toNat (A7K (ks[i.toNat]'(by omega)) is x)) else .mk k nm num ty fr lb ks
def TyV (e : Tm) (G : IM) : IM → Value → List A4 → Prop := J8 fun G' v => ∃ t cells b, v = .tuple ⟨[.agg ⟨cells⟩, .bool b]⟩ ∧ B6 G' t cells ∧ E6 t ∧ P2 t ≤ 960 ∧ (b = true → P0 e = true)
theorem A2F {G : IM} {e : Tm} {ce : List Value} {p : Option Addr} {c : Nat} (hr : A6 G e ce) (hs : Sl G p 1 c 9 ce) : C4 G p [e].length c 9 [ce] ∧ C7 G [e] [ce] := by
 refine ⟨C4.of (by simpa using hs) rfl (fun x hx => by simp only [List.mem_singleton] at hx; subst hx; exact hr.len) (fun x hx => by simp only [List.mem_singleton] at hx; subst hx; exact hr.one), ?_⟩
 simp only [C7]
 exact ⟨ce, [], rfl, hr, rfl⟩
def B4V (e : Tm) (label : Int) (G : IM) : IM → Value → List A4 → Prop := J8 fun G' v => ∃ u cu l', v = .tuple ⟨[.agg ⟨cu⟩, .int .i64 l']⟩ ∧ A6 G' u cu ∧ (e.small → u.small) ∧ D1 u ≤ D1 e + 1 ∧ label ≤ l' ∧ l' ≤ label + 1
def B4W (n : Nat) (G : IM) : IM → Value → List A4 → Prop := J8 fun G' v => ∃ p c es ws, v = .slice p n c ∧ ws.length = n ∧ C4 G' p n c 2 es ∧ C2 G' ws es ∧ ∀ w ∈ ws, E6 w
theorem C7.at2 {G : IM} {ts : List Tm} {es : List (List Value)} {i : Nat} (h : C7 G ts es) (h1 : i < ts.length) (h2 : i < es.length) : i < es.length ∧ A6 G ts[i] es[i] := by
 have := (h.inv (List.getElem?_eq_getElem h2) K7).2
 rw [List.getD_eq_getElem?_getD, List.getElem?_eq_getElem h1] at this
 exact ⟨h2, this⟩
mutual
theorem A7L : ∀ (t : Tm) (d : Int), N5 12 14 t d = true → t.small
 | .mk k nm num ty fr lb ks, d, h => by
  obtain ⟨h1, h2, h3, h4⟩ := A0Q h
  have hn := U3.1 h3
  rw [Tm.small]
  refine ⟨?_, (A2E h3).1.small, ?_, ?_, A7M ks _ h4⟩
  ·by_cases hk : k = 1 ∨ k = 5
   ·have := hn.2.1 hk
    simp only [X1, decide_eq_true_eq] at this
    omega
   ·rw [hn.2.2.1 hk]; decide
  ·rw [A2B (hn.2.2.2.2.2.2.2.2 (by omega)).1]
   simp [B5, Ty.small, Ty.smallL]
  ·have := A1G k
   omega
theorem A7M : ∀ (ts : List Tm) (d : Int), N6 12 14 ts d = true → Tm.smallL ts
 | [], d, h => by rw [Tm.smallL]; trivial
 | t :: ts, d, h => by
  rw [N6, Bool.and_eq_true] at h
  rw [Tm.smallL]
  exact ⟨A7L t d h.1, A7M ts d h.2⟩
end
theorem A35 {hp : List A4} {G : IM} {b sz i : Nat} {es : List (List Value)} {C : List Value} (hm : A4.blk b (es.flatten ++ C) ∈ hp) (hi : i < es.length) (ha : ∀ e ∈ es, e.length = sz) : At hp G b (0 + i * sz) es[i] := by
 refine .inl ⟨_, hm, fun j u hu => ?_⟩
 rw [A7J hi, List.append_assoc, List.append_assoc]
 have hl : (es.take i).flatten.length = i * sz := by
  rw [Z6 (fun e he => ha e (List.mem_of_mem_take he)), List.length_take, Nat.min_eq_left (by omega)]
 have hj : j < es[i].length := (List.getElem?_eq_some_iff.1 hu).1
 rw [List.getElem?_append_right (by omega), show 0 + i * sz + j - (es.take i).flatten.length = j by omega, List.getElem?_append_left hj]
 exact hu
def B4X (e : Tm) (label : Int) (G : IM) : IM → Value → List A4 → Prop := J8 fun G' v => ∃ u cu t ct l', v = .tuple ⟨[.agg ⟨cu⟩, .agg ⟨ct⟩, .int .i64 l']⟩ ∧ A6 G' u cu ∧ u.small ∧ D1 u + 1 ≤ 2 * D1 e ∧ B6 G' t ct ∧ E6 t ∧ P2 t ≤ 32 * (D1 e : Int) ∧ label ≤ l' ∧ l' + 1 ≤ label + 2 * (D1 e : Int)
def T7 (t : Ty) : Ty := if t.k = 4 ∨ t.k = 5 then .mk t.k [R8, R8] else .mk t.k []
def V3 (t : Ty) : Bool := decide (t.k ≠ 1) && M4 t (T7 t)
def W1 (t : Tm) : Bool := decide (t.k = 14 ∧ t.fr.k = t.ty.k ∧ (t.ty.k = 4 ∨ t.ty.k = 5))
def inj (t : Tm) : Bool := decide (t.k = 14 ∧ t.ty.k = 1) && V3 t.fr
mutual
def K0 : Tm → Bool
 | .mk k nm num ty fr lb ks => if k = 10 ∨ (k = 14 ∧ fr.k = ty.k ∧ (ty.k = 4 ∨ ty.k = 5)) ∨ (k = 14 ∧ ty.k = 1 ∧ V3 fr = true) then A36 ks else decide (k = 2 ∨ k = 3 ∨ k = 4 ∨ k = 5)
def A36 : List Tm → Bool
 | [] => true
 | t :: ts => K0 t && A36 ts
end
mutual
def A0m (x : ByteArray) (v : Tm) : Tm → Tm
 | .mk k nm num ty fr lb ks => if k = 1 ∧ nm = x then v else if k = 5 ∧ nm = x then .mk k nm num ty fr lb ks else .mk k nm num ty fr lb (Z0 x v ks)
def Z0 (x : ByteArray) (v : Tm) : List Tm → List Tm
 | [] => []
 | t :: ts => A0m x v t :: Z0 x v ts
end
theorem A37 (x : ByteArray) (v : Tm) : ∀ ks, Z0 x v ks = ks.map (A0m x v)
 | [] => rfl
 | t :: ts => by rw [Z0, A37 x v ts, List.map_cons]
def K8 (e : Tm) (fr to : Ty) (lb : Int) : Tm := .mk 14 ⟨#[]⟩ 0 to fr lb [e]
def A0c (k : Int) (ks : List Tm) : Tm := .mk k ⟨#[]⟩ 0 B5 B5 0 ks
def A2b (n : Int) : Tm := .mk 2 ⟨#[]⟩ n B5 B5 0 []
def A0d (b : Prop) [Decidable b] : Tm := A0c (if b then 3 else 4) []
abbrev Stp := Tm × Int × Int
def Q3 : Stp := (K7, 3, 0)
def kd (ks : List Tm) (i : Nat) : Tm := ks.getD i K7
def kt (ks : List Ty) (i : Nat) : Ty := ks.getD i B5
def O7 (k : Int) (ty fr : Ty) (lb : Int) (ks : List Tm) : Stp :=
 if k = 6 then
  (if (kd ks 0).k = 5 then (A0m (kd ks 0).nm (kd ks 1) (kd (kd ks 0).ks 0), 1, 0)
   else if W1 (kd ks 0) = true ∧ (kd ks 0).ty.k = 4 then (K8 (A0c 6 [kd (kd ks 0).ks 0, K8 (kd ks 1) (kt (kd ks 0).ty.ks 0) (kt (kd ks 0).fr.ks 0) (-(kd ks 0).lb)]) (kt (kd ks 0).fr.ks 1) (kt (kd ks 0).ty.ks 1) (kd ks 0).lb, 1, 0)
   else Q3)
 else if k = 7 ∨ k = 8 then
  (if (kd ks 0).k = 2 ∧ (kd ks 1).k = 2 then (if k = 7 then A2b (((kd ks 0).num + (kd ks 1).num) % 1000) else A0d ((kd ks 0).num < (kd ks 1).num), 1, 0) else Q3)
 else if k = 9 then (if (kd ks 0).k = 3 then (kd ks 1, 1, 0) else if (kd ks 0).k = 4 then (kd ks 2, 1, 0) else Q3)
 else if k = 11 ∨ k = 12 then
  (if (kd ks 0).k = 10 then (kd (kd ks 0).ks (k - 11).toNat, 1, 0)
   else if W1 (kd ks 0) = true ∧ (kd ks 0).ty.k = 5 then (K8 (A0c k [kd (kd ks 0).ks 0]) (kt (kd ks 0).fr.ks (k - 11).toNat) (kt (kd ks 0).ty.ks (k - 11).toNat) (kd ks 0).lb, 1, 0)
   else Q3)
 else if k = 14 then
  (if fr.k = ty.k then (kd ks 0, 1, 0)
   else if ty.k = 1 then (K8 (K8 (kd ks 0) fr (T7 fr) lb) (T7 fr) ty lb, 1, 0)
   else if V3 ty = false then (K8 (K8 (kd ks 0) fr (T7 ty) lb) (T7 ty) ty lb, 1, 0)
   else if inj (kd ks 0) = false then Q3
   else if (kd ks 0).fr.k = ty.k then (kd (kd ks 0).ks 0, 1, 0)
   else (K7, 2, lb))
 else Q3
mutual
def J3 : Tm → Stp
 | .mk k nm num ty fr lb ks => match A0E (if k = 9 then 1 else ks.length) ks with
  | some (ks', c, l) => if c = 1 then (.mk k nm num ty fr lb ks', 1, 0) else (K7, c, l)
  | none => O7 k ty fr lb ks
def A0E : Nat → List Tm → Option (List Tm × Int × Int)
 | _, [] => none
 | n, t :: ts => match n with
  | 0 => none
  | n + 1 => if K0 t = true then (match A0E n ts with
    | some (us, c, l) => some (t :: us, c, l)
    | none => none)
   else some ((J3 t).1 :: ts, (J3 t).2.1, (J3 t).2.2)
end
def J0 (e : Tm) : Stp :=
 if P7 e = false then Q3 else if K0 e = true then (e, 0, 0)
 else if (J3 e).2.1 ≠ 1 then (K7, (J3 e).2.1, (J3 e).2.2)
 else if P7 (J3 e).1 = false then (K7, 4, 0) else ((J3 e).1, 1, 0)
def R2 : Nat → Tm → Tm × Int × Int × Nat
 | 0, e => if (J0 e).2.1 = 1 then (K7, 5, 0, 0) else ((J0 e).1, (J0 e).2.1, (J0 e).2.2, 0)
 | n + 1, e => if (J0 e).2.1 = 1 then ((R2 n (J0 e).1).1, (R2 n (J0 e).1).2.1, (R2 n (J0 e).1).2.2.1, (R2 n (J0 e).1).2.2.2 + 1)
  else ((J0 e).1, (J0 e).2.1, (J0 e).2.2, 0)
def A38 (e : Tm) (fuel : Int) : Stp := if 0 ≤ fuel ∧ fuel ≤ 300 then ((R2 fuel.toNat e).1, (R2 fuel.toNat e).2.1, (R2 fuel.toNat e).2.2.1) else Q3
def A0R (e : Tm) (fuel : Int) : Int := if 0 ≤ fuel ∧ fuel ≤ 300 then ((R2 fuel.toNat e).2.2.2 : Int) else 0
structure CvN (k : Int) (nm : ByteArray) (num : Int) (ty fr : Ty) (lb : Int) (ks : List Tm) : Prop where
 ops : D9 k = ks.length
 ne : k ≠ 13
 nm1 : nm.size ≤ 1
 num0 : 0 ≤ num ∧ num ≤ 999
 tyA : E6 ty
 frA : E6 fr
 lbB : -99 ≤ lb ∧ lb ≤ 99
 c14 : k = 14 → J5 fr ty = true ∧ F4 ty = true ∧ F4 fr = true
 ty5 : ¬(k = 5 ∨ k = 14) → ty = B5
 fr14 : k ≠ 14 → fr = B5 ∧ lb = 0
def cv (t : Tm) : Prop := ∃ d, N5 40 13 t d = true
theorem A2G {n lo hi : Int} : R4 n lo hi = true ↔ lo ≤ n ∧ n ≤ hi := by unfold R4; rw [decide_eq_true_eq]
theorem cv.node {k : Int} {nm : ByteArray} {num : Int} {ty fr : Ty} {lb : Int} {ks : List Tm} (h : cv (.mk k nm num ty fr lb ks)) : CvN k nm num ty fr lb ks ∧ ∀ t ∈ ks, cv t := by
 obtain ⟨d, h⟩ := h
 obtain ⟨_, h2, h3, h4⟩ := A0Q h
 obtain ⟨n1, n2, n3, n4, n5, n6, n7, n8, n9⟩ := U3.1 h3
 refine ⟨⟨n1, h2, A7I h3, ?_, (A2E h3).1, ?_, ?_, ?_, ?_, ?_⟩, fun t ht => ?_⟩
 ·by_cases hk : k = 2
  ·exact A2G.1 (n4 hk)
  ·have := A2G.1 (n5 hk); omega
 ·by_cases hk : k = 14
  ·have := (n8 hk).1
   simp only [A0L, Bool.and_eq_true] at this
   exact (A34 this.1.1).1
  ·rw [A2B (n9 hk).1]; exact S8 (by decide) (by decide)
 ·by_cases hk : k = 14
  ·have := (n8 hk).2
   simp only [A0M, Bool.or_eq_true, A2G] at this
   omega
  ·have := (n9 hk).2; omega
 ·intro hk
  have := (n8 hk).1
  simp only [A0L, Bool.and_eq_true] at this
  exact ⟨this.2, this.1.2, this.1.1⟩
 ·intro hk
  exact A2B (n7 (by omega))
 ·intro hk
  exact ⟨A2B (n9 hk).1, (n9 hk).2⟩
 ·obtain ⟨i, hi, rfl⟩ := List.mem_iff_getElem.1 ht
  exact ⟨_, (A0O 40 13 ks _).1 h4 i hi⟩
theorem A2H {t : Tm} (h : P7 t = true) : cv t ∧ D1 t ≤ 200 := by
 obtain ⟨h1, h2⟩ := (A48 t).1 h
 exact ⟨⟨1, h1⟩, h2⟩
mutual
theorem A2c : ∀ (t : Tm), cv t → t.small
 | .mk k nm num ty fr lb ks, h => by
  obtain ⟨hn, hk⟩ := h.node
  rw [Tm.small]
  refine ⟨by have := hn.nm1; omega, hn.tyA.small, hn.frA.small, ?_, A7N ks hk⟩
  have := A1G k
  have := hn.ops
  omega
theorem A7N : ∀ (ts : List Tm), (∀ t ∈ ts, cv t) → Tm.smallL ts
 | [], _ => by rw [Tm.smallL]; trivial
 | t :: ts, h => by
  rw [Tm.smallL]
  exact ⟨A2c t (h t List.mem_cons_self), A7N ts fun u hu => h u (List.mem_cons_of_mem _ hu)⟩
end
theorem Z1 (k : Int) (nm : ByteArray) (num : Int) (ty fr : Ty) (lb : Int) (ks : List Tm) : D1 (.mk k nm num ty fr lb ks) = E7 ks + 1 := by rw [D1]
theorem A0e {k : Int} {nm : ByteArray} {num : Int} {ty fr : Ty} {lb : Int} {ks : List Tm} : (Tm.mk k nm num ty fr lb ks).small ↔ nm.size ≤ 4294967296 ∧ ty.small ∧ fr.small ∧ ks.length ≤ 4294967296 ∧ Tm.smallL ks := by rw [Tm.small]
theorem A39 : K7.small := by simp [K7, Tm.small, Ty.small, Ty.smallL, Tm.smallL, ByteArray.size]
theorem A2d : B5.small := by simp [B5, Ty.small, Ty.smallL]
mutual
theorem A7O {x : ByteArray} {v : Tm} (hv : v.small) : ∀ (t : Tm), t.small → (A0m x v t).small ∧ D1 (A0m x v t) ≤ D1 t * D1 v
 | .mk k nm num ty fr lb ks, h => by
  obtain ⟨h1, h2, h3, h4, h5⟩ := A0e.1 h
  obtain ⟨s1, s2⟩ := A7P hv ks h5
  have hp : 1 ≤ D1 v := by cases v; rw [D1]; omega
  rw [A0m]
  split
  ·refine ⟨hv, ?_⟩
   rw [Z1]
   exact Nat.le_mul_of_pos_left _ (by omega)
  ·split
   ·exact ⟨h, Nat.le_mul_of_pos_right _ hp⟩
   ·refine ⟨A0e.2 ⟨h1, h2, h3, by rw [A37, List.length_map]; exact h4, s1⟩, ?_⟩
    rw [Z1, Z1, Nat.add_mul]
    omega
theorem A7P {x : ByteArray} {v : Tm} (hv : v.small) : ∀ (ts : List Tm), Tm.smallL ts → Tm.smallL (Z0 x v ts) ∧ E7 (Z0 x v ts) ≤ E7 ts * D1 v
 | [], _ => by simp [Z0, Tm.smallL, E7]
 | t :: ts, h => by
  simp only [Tm.smallL] at h
  obtain ⟨a1, a2⟩ := A7O hv t h.1
  obtain ⟨b1, b2⟩ := A7P hv ts h.2
  simp only [Z0, Tm.smallL, E7, Nat.add_mul]
  exact ⟨⟨a1, b1⟩, by omega⟩
end
theorem A1I {ks : List Tm} (h : Tm.smallL ks) (i : Nat) : (kd ks i).small := by
 unfold kd
 rw [List.getD_eq_getElem?_getD]
 cases hi : ks[i]? with
 | none => exact A39
 | some t => exact Tm.smallL_mem h t (List.mem_of_getElem? hi)
theorem A4a {ks : List Tm} (i : Nat) : D1 (kd ks i) ≤ E7 ks + 1 := by
 unfold kd
 rw [List.getD_eq_getElem?_getD]
 cases hi : ks[i]? with
 | none => simp [K7, D1, E7]
 | some t =>
  have := A4P (List.mem_of_getElem? hi)
  simp only [Option.getD_some]; omega
def GT.ty : GT → Ty
 | .any => .mk 1 []
 | .int => .mk 2 []
 | .bool => .mk 3 []
 | .fn a b => .mk 4 [a.ty, b.ty]
 | .pr a b => .mk 5 [a.ty, b.ty]
def GE.tm : GE → Tm
 | .var x => .mk 1 x 0 B5 B5 0 []
 | .num n => .mk 2 ⟨#[]⟩ n B5 B5 0 []
 | .tru b => .mk (if b = true then 3 else 4) ⟨#[]⟩ 0 B5 B5 0 []
 | .lam x A e => .mk 5 x 0 A.ty B5 0 [e.tm]
 | .app f a => .mk 6 ⟨#[]⟩ 0 B5 B5 0 [f.tm, a.tm]
 | .ar s a b => .mk (if s = true then 8 else 7) ⟨#[]⟩ 0 B5 B5 0 [a.tm, b.tm]
 | .ite c a b => .mk 9 ⟨#[]⟩ 0 B5 B5 0 [c.tm, a.tm, b.tm]
 | .pair a b => .mk 10 ⟨#[]⟩ 0 B5 B5 0 [a.tm, b.tm]
 | .part s e => .mk (if s = true then 12 else 11) ⟨#[]⟩ 0 B5 B5 0 [e.tm]
 | .cast A B l e => .mk 14 ⟨#[]⟩ 0 B.ty A.ty l [e.tm]
section
variable {k : Int} {nm : ByteArray} {num : Int} {ty fr : Ty} {lb : Int} {a b c : Tm} {t : Tm} {l : Int}
end
def Bd (e : GE) : Prop := K0 e.tm = false ∧ (J3 e.tm).2.1 = 2
theorem B1X {t : Tm} (h : t.small) : t.nm.size ≤ 4294967296 ∧ t.ty.small ∧ t.fr.small ∧ t.ks.length ≤ 4294967296 ∧ Tm.smallL t.ks := by
 cases t; exact A0e.1 h
theorem A7Q {ks : List Ty} (h : Ty.smallL ks) (i : Nat) : (kt ks i).small := by
 unfold kt
 rw [List.getD_eq_getElem?_getD]
 cases hi : ks[i]? with
 | none => exact A2d
 | some t => exact Ty.smallL_mem h t (List.mem_of_getElem? hi)
theorem A7R {t : Ty} (h : t.small) : Ty.smallL t.ks := by cases t; simp only [Ty.small] at h; exact h.2
theorem A2I (t : Ty) : (T7 t).small := by
 unfold T7; split <;> simp [R8, Ty.small, Ty.smallL]
theorem A2e {e : Tm} {a b : Ty} {l : Int} (h : e.small) (ha : a.small) (hb : b.small) : (K8 e a b l).small := A0e.2 ⟨by decide, hb, ha, by simp, by simp [Tm.smallL, h]⟩
theorem A1J (e : Tm) (a b : Ty) (l : Int) : D1 (K8 e a b l) = D1 e + 1 := by rw [K8, Z1, E7, E7]
theorem A5h {k : Int} {ks : List Tm} (h : Tm.smallL ks) (hl : ks.length ≤ 4294967296) : (A0c k ks).small := A0e.2 ⟨by decide, A2d, A2d, hl, h⟩
theorem A5i (k : Int) (ks : List Tm) : D1 (A0c k ks) = E7 ks + 1 := by rw [A0c, Z1]
theorem B1Y {a : Tm} (h : a.small) : Tm.smallL [a] := by simp [Tm.smallL, h]
theorem B1Z {a b : Tm} (h : a.small) (h2 : b.small) : Tm.smallL [a, b] := by simp [Tm.smallL, h, h2]
theorem B10 : D1 K7 = 1 := by simp [K7, D1, E7]
theorem B11 (t : Tm) : D1 t = E7 t.ks + 1 := by cases t; rw [Z1]; rfl
theorem B12 {k : Int} {ty fr : Ty} {lb : Int} {ks : List Tm} (hk : Tm.smallL ks) (hc : E7 ks ≤ 199) (ht : ty.small) (hf : fr.small) : (O7 k ty fr lb ks).1.small ∧ D1 (O7 k ty fr lb ks).1 ≤ 40100 := by
 have a0 := A1I hk 0
 have a1 := A1I hk 1
 have a2 := A1I hk 2
 have n0 := A4a (ks := ks) 0
 have n1 := A4a (ks := ks) 1
 have n2 := A4a (ks := ks) 2
 obtain ⟨_, b2, b3, _, b5⟩ := B1X a0
 have e0 := B11 (kd ks 0)
 have m := fun i => A4a (ks := (kd ks 0).ks) i
 have st : Q3.1.small ∧ D1 Q3.1 ≤ 40100 := ⟨A39, by simp [Q3, K7, D1, E7]⟩
 have hty := fun i => A7Q (A7R b2) i
 have hfr := fun i => A7Q (A7R b3) i
 unfold O7
 split
 ·split
  ·obtain ⟨s1, s2⟩ := A7O (x := (kd ks 0).nm) a1 (kd (kd ks 0).ks 0) (A1I b5 0)
   refine ⟨s1, Nat.le_trans s2 ?_⟩
   have : D1 (kd (kd ks 0).ks 0) * D1 (kd ks 1) ≤ 200 * 200 := Nat.mul_le_mul (by have := m 0; omega) (by omega)
   omega
  ·split
   ·refine ⟨A2e (A5h (B1Z (A1I b5 0) (A2e a1 (hty 0) (hfr 0))) (by simp)) (hfr 1) (hty 1), ?_⟩
    have := m 0
    show D1 (K8 _ _ _ _) ≤ 40100
    rw [A1J, A5i, E7, E7, E7, A1J]
    omega
   ·exact st
 ·split
  ·split
   ·split
    ·exact ⟨A0e.2 ⟨by decide, A2d, A2d, by simp, by simp [Tm.smallL]⟩, by simp [A2b, D1, E7]⟩
    ·exact ⟨A5h (by simp [Tm.smallL]) (by simp), by simp [A0d, A5i, E7]⟩
   ·exact st
  ·split
   ·split
    ·exact ⟨a1, by show D1 (kd ks 1) ≤ _; omega⟩
    ·split
     ·exact ⟨a2, by show D1 (kd ks 2) ≤ _; omega⟩
     ·exact st
   ·split
    ·split
     ·exact ⟨A1I b5 _, by have := m (k - 11).toNat; show D1 (kd _ _) ≤ _; omega⟩
     ·split
      ·refine ⟨A2e (A5h (B1Y (A1I b5 0)) (by simp)) (hfr _) (hty _), ?_⟩
       have := m 0
       show D1 (K8 _ _ _ _) ≤ 40100
       rw [A1J, A5i, E7, E7]
       omega
      ·exact st
    ·split
     ·split
      ·exact ⟨a0, by show D1 (kd ks 0) ≤ _; omega⟩
      ·split
       ·refine ⟨A2e (A2e a0 hf (A2I fr)) (A2I fr) ht, ?_⟩
        show D1 (K8 _ _ _ _) ≤ 40100
        rw [A1J, A1J]; omega
       ·split
        ·refine ⟨A2e (A2e a0 hf (A2I ty)) (A2I ty) ht, ?_⟩
         show D1 (K8 _ _ _ _) ≤ 40100
         rw [A1J, A1J]; omega
        ·split
         ·exact st
         ·split
          ·exact ⟨A1I b5 0, by have := m 0; show D1 (kd _ _) ≤ _; omega⟩
          ·exact ⟨A39, by simp [K7, D1, E7]⟩
     ·exact st
theorem B13 (ks : List Tm) (ih : ∀ t ∈ ks, t.small → D1 t ≤ 200 → (J3 t).1.small ∧ D1 (J3 t).1 ≤ D1 t + 40100) : ∀ (n : Nat), Tm.smallL ks → E7 ks ≤ 199 → ∀ us c l, A0E n ks = some (us, c, l) → Tm.smallL us ∧ us.length = ks.length ∧ E7 us ≤ E7 ks + 40100 := by
 induction ks with
 | nil => intro n _ _ us c l h; simp [A0E] at h
 | cons t ts ihl =>
  intro n hs hc us c l h
  simp only [Tm.smallL] at hs
  simp only [E7] at hc ⊢
  cases n with
  | zero => simp [A0E] at h
  | succ n =>
   rw [A0E] at h
   split at h
   ·split at h
    ·rename_i us' c' l' hs'
     cases h
     obtain ⟨l1, l2, l3⟩ := ihl (fun u hu => ih u (List.mem_cons_of_mem _ hu)) n hs.2 (by omega) us' c l hs'
     exact ⟨by simp only [Tm.smallL]; exact ⟨hs.1, l1⟩, by simp [l2], by simp only [E7]; omega⟩
    ·cases h
   ·cases h
    obtain ⟨s1, s2⟩ := ih t List.mem_cons_self hs.1 (by omega)
    exact ⟨by simp only [Tm.smallL]; exact ⟨s1, hs.2⟩, by simp, by simp only [E7]; omega⟩
theorem B14 : ∀ (t : Tm), t.small → D1 t ≤ 200 → (J3 t).1.small ∧ D1 (J3 t).1 ≤ D1 t + 40100 := by
 refine Tm.ind fun k nm num ty fr lb ks ih h hc => ?_
 obtain ⟨h1, h2, h3, h4, h5⟩ := A0e.1 h
 rw [Z1] at hc
 have hL := B13 ks ih (if k = 9 then 1 else ks.length) h5 (by omega)
 rw [J3]
 split
 ·rename_i us c l hs
  obtain ⟨l1, l2, l3⟩ := hL us c l hs
  split
  ·refine ⟨A0e.2 ⟨h1, h2, h3, by omega, l1⟩, ?_⟩
   show D1 (.mk k nm num ty fr lb us) ≤ _
   rw [Z1, Z1]; omega
  ·exact ⟨A39, by show D1 K7 ≤ _; rw [B10]; omega⟩
 ·have := B12 (k := k) (lb := lb) h5 (by omega) h2 h3
  rw [Z1]
  exact ⟨this.1, by omega⟩
def A5j (u : Ty) (G : IM) : IM → Value → List A4 → Prop := J8 fun G' v => ∃ cells, v = .agg ⟨cells⟩ ∧ B6 G' u cells
def W2 (r : Option Ty) (G : IM) : IM → Value → List A4 → Prop := J8 fun G' v => ∃ cells u, v = .tuple ⟨[.agg ⟨cells⟩, .bool r.isSome]⟩ ∧ B6 G' u cells ∧ ∀ t, r = some t → u = t
theorem B15 {G : IM} {k : Int} {a b : Ty} {ca cb : List Value} {p : Option Addr} {c : Nat} (hk : H1 k) (ha : B6 G a ca) (hb : B6 G b cb) (hs : Sl G p 2 c 2 (ca ++ cb)) : B6 G (.mk k [a, b]) [.int .i64 k, .slice p 2 c] := by
 have hL : C2 G [a, b] [ca, cb] := by simp only [C2]; exact ⟨ca, [cb], rfl, ha, cb, [], rfl, hb, rfl⟩
 exact C2.ty (ts := [a, b]) (es := [ca, cb]) hL rfl (by simpa using hs) hk
theorem A5k : ∀ (t t' : Ty) (G : IM) (cells cells' : List Value), B6 G t cells → B6 G t' cells' → Fn Tryz.prog 138 [.agg ⟨cells⟩, .agg ⟨cells'⟩] [] G (E4 (.bool (M4 t t')) G) := by
 refine Ty.ind fun k ks ih t' G cells cells' hr hr' => ?_
 obtain ⟨k', ks'⟩ := t'
 obtain ⟨p, c, es, rfl, hk, hsl, hkl⟩ := hr.open
 obtain ⟨p', c', es', rfl, hk', hsl', hkl'⟩ := hr'.open
 simp only [Ty.k, Ty.ks] at hk hsl hkl hk' hsl' hkl' ⊢
 obtain ⟨A, hA⟩ : ∃ A, Z7 ks ks' = A := ⟨_, rfl⟩
 have hA' : A = true ↔ ks.length = ks'.length ∧ ∀ i, i < ks.length → M4 (ks.getD i B5) (ks'.getD i B5) = true := by
  rw [← hA, A3e]
  constructor
  ·rintro ⟨h1, h2⟩
   refine ⟨h1, fun i hi => ?_⟩
   have := h2 i hi (by omega)
   simpa [List.getD_eq_getElem?_getD, List.getElem?_eq_getElem hi, List.getElem?_eq_getElem (show i < ks'.length by omega)] using this
  ·rintro ⟨h1, h2⟩
   refine ⟨h1, fun i hi hi' => ?_⟩
   have := h2 i hi
   simpa [List.getD_eq_getElem?_getD, List.getElem?_eq_getElem hi, List.getElem?_eq_getElem hi'] using this
 refine B4 Tryz.func138 rfl Tryz.ntmps138 Tryz.results138 rfl ?_
 intro w0
 refine tS (tR ?_)
 refine sE (C1 rfl rfl) rfl (fun b3 => ?_)
 refine sE (C1 rfl rfl) rfl (fun b4 => ?_)
 refine D8 ?_
 refine sB (qE rfl rfl) rfl rfl (fun h14 => ?_) (fun h14 => ?_)
 refine O8 ?_
 refine I3 rfl (A7d _ _ _ _ _ _ _ _ _ hsl hsl' _ [] [] [] (fun i => M4 (ks.getD i B5) (ks'.getD i B5)) A hA' (fun i e e' he he' => ih _ (hkl.inv he B5).1 _ _ _ _ (hkl.inv he B5).2 (hkl'.inv he' B5).2)) rfl rfl ?_
 refine E2 ?_
 exact ⟨rfl, by rw [A17, hA]; first | (rw [decide_eq_true (p := k = k') (by omega)]; rfl) | (rw [decide_eq_false (p := k = k') (by omega)]; rfl), rfl⟩
 refine J9 ?_
 exact ⟨rfl, by rw [A17, hA]; first | (rw [decide_eq_true (p := k = k') (by omega)]; rfl) | (rw [decide_eq_false (p := k = k') (by omega)]; rfl), rfl⟩
theorem A1K (k : Int) (a b : Ty) (G : IM) (ca cb : List Value) (hk : H1 k) (hra : B6 G a ca) (hrb : B6 G b cb) :
  Fn Tryz.prog 133 [.int .i64 k, .agg ⟨ca⟩, .agg ⟨cb⟩] [] G (A5j (.mk k [a, b]) G) := by
 obtain ⟨pa, cca, ea, rfl, _⟩ := hra.open
 obtain ⟨pb, ccb, eb, rfl, _⟩ := hrb.open
 refine B4 Tryz.func133 rfl Tryz.ntmps133 Tryz.results133 rfl ?_
 intro w0
 refine tS (tR ?_)
 refine sE (C1 rfl rfl) rfl (fun b3 => ?_)
 refine sE (C1 rfl rfl) rfl (fun b4 => ?_)
 refine sE (A5 rfl) rfl (fun b5 => ?_)
 refine C3 ?_
 (refine K6 (D7 rfl rfl rfl (by omega) (by unfold maxLen; omega) rfl) rfl ?_; rintro _ ⟨b13, rfl⟩)
 refine sQ (U1 rfl rfl) rfl (J7 ?_)
 refine sD (nS ?_)
 (refine H7 (by repeat (first | exact Pk.here | apply Pk.there)) (fun G5 hle5 hsl5 hno5 => ?_))
 refine tT ?_
 refine E1 (rC rfl (A3 rfl rfl)) ?_
 exact ⟨rfl, _, rfl, B15 hk (hra.mono hle5) (hrb.mono hle5) hsl5⟩
theorem A1o (k tk : Int) (ks : List Ty) : R1 k (.mk tk ks) = if tk = k then some (ks.getD 0 B5, ks.getD 1 B5) else if tk = 1 then some (R8, R8) else none := rfl
def A7S (k : Int) (t : Ty) (G : IM) : IM → Value → List A4 → Prop := J8 fun G' v => ∃ a ca b cb, v = .tuple ⟨[.agg ⟨ca⟩, .agg ⟨cb⟩, .bool (R1 k t).isSome]⟩ ∧ B6 G' a ca ∧ B6 G' b cb ∧ E6 a ∧ E6 b ∧ ∀ p, R1 k t = some p → p = (a, b)
theorem A7T (k : Int) (t : Ty) (G : IM) (cells : List Value) (hk : k = 4 ∨ k = 5) (ha : E6 t) (hr : B6 G t cells) :
  Fn Tryz.prog 134 [.agg ⟨cells⟩, .int .i64 k] [] G (A7S k t G) := by
 obtain ⟨tk, ks⟩ := t
 have ha2 := ha
 rw [E6] at ha2
 have hkid := ha.kid
 obtain ⟨p, c, es, rfl, htk, hsl, hkl⟩ := hr.open
 simp only [Ty.k, Ty.ks] at htk hsl hkl ⊢
 refine B4 Tryz.func134 rfl Tryz.ntmps134 Tryz.results134 rfl ?_
 intro w0
 refine tS (tR ?_)
 refine sE (C1 rfl rfl) rfl (fun b3 => ?_)
 refine sE (A5 rfl) rfl (fun b4 => ?_)
 refine sE (A5 rfl) rfl (fun b5 => ?_)
 refine I8 ?_
 refine B3 (tS (tR (sQ (qM rfl) rfl (sB (qE rfl rfl) rfl rfl (fun h20 => ?_) (fun h20 => ?_)))))
 refine sQ (qA rfl) rfl (sD (nS (qT rfl (tS ?_))))
 (have hlen : ks.length = 2 := ha2.1 (by omega); obtain ⟨b, o, q0, d0, hp0, hat0, hre0, hg0⟩ := hsl.kidTy hkl (i := 0) (by omega) (by omega); obtain ⟨b', o', q1, d1, hp1, hat1, hre1, hg1⟩ := hsl.kidTy hkl (i := 1) (by omega) (by omega); subst hp0; cases hp1; refine D5 D6 rfl ?_)
 refine J6 (i := 0) (l' := [tt,ff,ff,ff,ff,ff,ff,ff,ff,ff,ff]) rfl D0 (B0 rfl) rfl (by kernel_rfl) rfl rfl ?_
 refine aL 1 rfl (B9 rfl rfl) rfl ?_
 refine aP 2 rfl (A8 (j := 0) rfl rfl rfl (by omega)) rfl ?_
 refine aL 3 rfl (A0 rfl rfl (hat0 _) rfl) rfl ?_
 refine aP 4 rfl (B0 rfl) rfl ?_
 refine aL 5 rfl (B9 rfl rfl) rfl ?_
 refine aP 6 rfl (A8 (j := 1) rfl rfl rfl (by omega)) rfl ?_
 refine aL 7 rfl (A0 rfl rfl (hat1 _) rfl) rfl ?_
 refine A2 8 ?_
 refine H0 rfl ?_
 refine A2 9 ?_
 refine H0 rfl ?_
 refine aP 10 rfl (qA rfl) rfl ?_
 refine C5 (nS (tT (rB (rS ?_))))
 refine C8 (rC rfl (A3 rfl rfl)) (rC rfl (A3 rfl rfl)) (rT rfl) ?_
 (refine ⟨rfl, _, _, _, _, ?_, hre0, hre1, hkid _ (List.getElem_mem (by omega)), hkid _ (List.getElem_mem (by omega)), ?_⟩ <;> rw [A1o, if_pos (by omega)] <;> first | rfl | (intro p hp; cases hp; simp [hlen]))
 refine sQ (qA rfl) rfl (sD (nS (cF rfl (tS (tR ?_)))))
 refine sB (qE rfl rfl) rfl rfl (fun h53 => ?_) (fun h53 => ?_)
 refine sQ (qA rfl) rfl (sD (nS (qT rfl (tS (tR ?_)))))
 refine I3 rfl ((A00 _ _)) rfl rfl ?_
 refine I3 rfl ((A00 _ _)) rfl rfl ?_
 refine J7 ?_
 refine J7 ?_
 refine sQ (qA rfl) rfl (sD (nS (tT (rB (rS ?_)))))
 refine C8 (rC rfl (A3 rfl rfl)) (rC rfl (A3 rfl rfl)) (rT rfl) ?_
 (refine ⟨rfl, _, _, _, _, ?_, A19 _, A19 _, A3Z, A3Z, ?_⟩ <;> rw [A1o, if_neg (by omega), if_pos (by omega)] <;> first | rfl | (intro p hp; cases hp; rfl))
 refine S1 ?_
 refine C8 (rC rfl (A3 rfl rfl)) (rC rfl (A3 rfl rfl)) (rT rfl) ?_
 (refine ⟨rfl, B5, _, B5, _, ?_, O4 _ ⟨by omega, by omega⟩, O4 _ ⟨by omega, by omega⟩, S8 (by omega) (by omega), S8 (by omega) (by omega), ?_⟩ <;> rw [A1o, if_neg (by omega), if_neg (by omega)] <;> first | rfl | (intro p hp; cases hp))
def A2J (G : IM) (b : ByteArray × Ty) (e : List Value) : Prop := ∃ q d, e = [.string b.1, .int .i64 b.2.k, .slice q b.2.ks.length d] ∧ B6 G b.2 [.int .i64 b.2.k, .slice q b.2.ks.length d]
theorem A2J.mono {G G' : IM} {b : ByteArray × Ty} {e : List Value} (h : A2J G b e) (hg : B7 G G') : A2J G' b e := by
 obtain ⟨q, d, h1, h2⟩ := h
 exact ⟨q, d, h1, h2.mono hg⟩
def Q4 (G : IM) (cx : Cx) (p : Option Addr) (n c : Nat) : Prop := n = cx.length ∧ ∃ es : List (List Value), C4 G p n c 3 es ∧ ∀ (i : Nat) (b : ByteArray × Ty), cx[i]? = some b → ∃ e, es[i]? = some e ∧ A2J G b e
theorem Q4.mono {G G' : IM} {cx : Cx} {p : Option Addr} {n c : Nat} (h : Q4 G cx p n c) (hg : B7 G G') : Q4 G' cx p n c := by
 obtain ⟨h1, es, h2, h3⟩ := h
 refine ⟨h1, es, h2.mono hg, fun i b hb => ?_⟩
 obtain ⟨e, he, hr⟩ := h3 i b hb
 exact ⟨e, he, hr.mono hg⟩
theorem Q4.nil (G : IM) : Q4 G [] none 0 0 := ⟨rfl, [], C4.nil _ _, by simp⟩
theorem Q4.le {G : IM} {cx : Cx} {p : Option Addr} {n c : Nat} (h : Q4 G cx p n c) : n ≤ 9223372036854775807 := by
 obtain ⟨h1, es, h2, h3⟩ := h
 exact h2.le
theorem Q4.get {G : IM} {cx : Cx} {p : Option Addr} {n c : Nat} (h : Q4 G cx p n c) {i : Nat} (hi : i < n) :
  ∃ b o nm t q d, cx[i]? = some (nm, t) ∧ p = some ⟨b, o, none⟩ ∧ (∀ hp, At hp G b (o + i * 3) [.string nm, .int .i64 t.k, .slice q t.ks.length d]) ∧ B6 G t [.int .i64 t.k, .slice q t.ks.length d] ∧ G b ≠ none := by
 obtain ⟨h1, es, h2, h3⟩ := h
 obtain ⟨e, b, o, he, rfl, hl, _, hat, hgb⟩ := h2.get (i := i) (by omega)
 have hx : cx[i]? = some cx[i] := List.getElem?_eq_getElem (by omega)
 obtain ⟨e', he', q, d, h4, h5⟩ := h3 i _ hx
 rw [he] at he'
 obtain rfl := Option.some.inj he'
 rw [h4] at hat
 exact ⟨b, o, cx[i].1, cx[i].2, q, d, hx, rfl, hat, h5, hgb⟩
theorem B16 (G : IM) (cx : Cx) (p : Option Addr) (n c : Nat) (nm : ByteArray) (hx : Q4 G cx p n c) :
  Fn Tryz.prog 132 [.slice p n c, .string nm] [] G (W2 (A0C cx nm) G) := by
 have hn := hx.le
 have hn1 := hx.1
 refine B4 Tryz.func132 rfl Tryz.ntmps132 Tryz.results132 rfl ?_
 intro w0
 refine tS (tR ?_)
 refine sE (A5 rfl) rfl (fun b3 => ?_)
 refine D3 ?_
 refine sP (W8 rfl rfl (by omega) (by omega)) rfl rfl ?_
 refine sQ (qA rfl) rfl (sD (nS ?_))
 refine B3 ?_
 (refine I1 (fun (i : Nat) => ⟨[(6, .int .i64 ((i : Int) - 1)), (0, .slice p n c), (1, .string nm), (4, .pointer (some ⟨b3, 0, none⟩))], [.blk b3 [.int .i64 0, .slice none 0 0]], G⟩) (fun i => i ≤ n ∧ A0l cx nm i = A0C cx nm) (fun i => i) n ?_ ?_ ?_)
 exact C9
 exact ⟨Nat.le_refl _, by rw [hn1]; rfl⟩
 (rintro i ⟨hi, hlk⟩)
 refine tS (tS (tR (sQ (qM rfl) rfl ?_)))
 refine sB (A0X rfl rfl) rfl rfl (fun h25 => ?_) (fun h25 => ?_)
 refine sD (nS (qT rfl (tK (nS (tS ?_)))))
 (show K2 _ _ (.block 1 _) _ _; obtain ⟨j, rfl⟩ : ∃ j, i = j + 1 := ⟨i - 1, by omega⟩; rw [show ((j + 1 : Nat) : Int) - 1 = (j : Int) from by omega]; obtain ⟨b, o, nm1, t1, q1, d1, hcx, rfl, hat, hr1, hgb⟩ := hx.get (i := j) (by omega); refine B3 ?_)
 refine tS (tR (sQ (qM rfl) rfl (sQ (qM rfl) rfl ?_)))
 refine sP (A8 rfl rfl rfl (by omega)) rfl rfl ?_
 refine sQ (qF rfl) rfl ?_
 refine sL (A0g rfl rfl ((hat _).sub (j := 0) rfl)) rfl rfl ?_
 refine sQ (qM rfl) rfl ?_
 refine sB (A1R rfl rfl) rfl rfl (fun h41 => ?_) (fun h41 => ?_)
 refine C3 ?_
 refine sP (A8 rfl rfl rfl (by omega)) rfl rfl ?_
 refine sQ (qF rfl) rfl ?_
 refine sL (A0 rfl rfl (hat _).drop rfl) rfl rfl ?_
 refine I8 ?_
 refine E5 (rC rfl (A3 rfl rfl)) (rT rfl) ?_
 (rw [A7y hcx (by assumption)] at hlk; rw [← hlk]; exact ⟨rfl, _, _, rfl, hr1, fun t ht => by cases ht; rfl⟩)
 refine D3 ?_
 refine sP (W8 rfl rfl (by omega) (by omega)) rfl rfl ?_
 refine sQ (qA rfl) rfl (sD ?_)
 refine I4 j ?_ ?_ ?_
 exact C9
 (rw [A7z hcx (by assumption)] at hlk; exact ⟨by omega, hlk⟩)
 (show _ < _ + 1; omega)
 refine J1 ?_
 refine E5 (rC rfl (A3 rfl rfl)) (rT rfl) ?_
 (obtain rfl : i = 0 := (by omega); rw [A0l] at hlk; rw [← hlk]; exact ⟨rfl, _, B5, rfl, O4 _ ⟨by omega, by omega⟩, fun t ht => by cases ht⟩)
theorem B17 {xs ys : List Ty} (h : xs.length = 2) (h' : ys.length = 2) : S7 xs ys = [T6 (xs[0]'(by omega)) (ys[0]'(by omega)), T6 (xs[1]'(by omega)) (ys[1]'(by omega))] := by
 match xs, ys, h, h' with
 | [a, b], [c, d], _, _ => rfl
theorem B18 {k k' : Int} {ks bs : List Ty} (h : J5 (.mk k ks) (.mk k' bs) = true) (hk : k ≠ 1) (hk' : k' ≠ 1) : k = k' ∧ O9 ks bs = true := by
 rw [W0] at h
 simpa [hk, hk'] using h
theorem A7U : ∀ (a b : Ty) (G : IM) (ca cb : List Value), J5 a b = true → E6 a → E6 b → B6 G a ca → B6 G b cb →
  Fn Tryz.prog 136 [.agg ⟨ca⟩, .agg ⟨cb⟩] [] G (A5j (T6 a b) G) := by
 refine Ty.ind fun k ks ih b G ca cb hc haa hab hra hrb => ?_
 have hsa := haa.small
 have hsb := hab.small
 obtain ⟨bk, bks⟩ := b
 have hra0 := hra
 have hrb0 := hrb
 have ha2 := haa
 have hb2 := hab
 rw [E6] at ha2 hb2
 have hkida := haa.kid
 have hkidb := hab.kid
 obtain ⟨p, c, es, rfl, hk, hsl, hkl⟩ := hra.open
 obtain ⟨p', c', es', rfl, hk', hsl', hkl'⟩ := hrb.open
 simp only [Ty.k, Ty.ks] at hk hsl hkl hk' hsl' hkl' ⊢
 have hn := hsl.le
 rw [A2A]
 refine B4 Tryz.func136 rfl Tryz.ntmps136 Tryz.results136 rfl ?_
 intro w0
 refine tS (tR ?_)
 refine sE (C1 rfl rfl) rfl (fun b3 => ?_)
 refine sE (C1 rfl rfl) rfl (fun b4 => ?_)
 refine sE (A5 rfl) rfl (fun b5 => ?_)
 refine sD (nS (tS ?_))
 refine B3 ?_
 refine tS (tR (sQ (B0 rfl) rfl (sL (B9 rfl rfl) rfl rfl ?_)))
 refine sB (qE rfl rfl) rfl rfl (fun h14 => ?_) (fun h14 => ?_)
 refine C3 ?_
 (refine D2 rfl (A1l _ _ _ hsb hrb0) rfl rfl (fun v G1 hle1 hh => ?_); obtain ⟨cs1, F1, rfl, hs1, hn1⟩ := hh; obtain ⟨p1, c1, rfl, _⟩ := hs1.open; have hr1 := hs1.R.mono (B2.le G1 _))
 refine J7 ?_
 refine sD (nS (tT (rB (rS ?_))))
 refine E1 (rC rfl (A3 rfl rfl)) ?_
 (rw [if_pos (by omega)]; exact ⟨rfl, _, rfl, hr1⟩)
 refine D3 ?_
 refine sB (qE rfl rfl) rfl rfl (fun h39 => ?_) (fun h39 => ?_)
 refine K1 ?_
 (refine D2 rfl (A1l _ _ _ hsa hra0) rfl rfl (fun v G1 hle1 hh => ?_); obtain ⟨cs1, F1, rfl, hs1, hn1⟩ := hh; obtain ⟨p1, c1, rfl, _⟩ := hs1.open; have hr1 := hs1.R.mono (B2.le G1 _))
 refine J7 ?_
 refine sD (nS (tT (rB (rS ?_))))
 refine E1 (rC rfl (A3 rfl rfl)) ?_
 (rw [if_neg (by omega)]; split <;> first | exact ⟨rfl, _, rfl, hr1⟩ | (obtain rfl : ks = [] := List.length_eq_zero_iff.1 (by omega); rw [S7]; exact ⟨rfl, _, rfl, hr1⟩; simp))
 refine H8 ?_
 refine sB (qE rfl rfl) rfl rfl (fun h66 => ?_) (fun h66 => ?_)
 refine D3 ?_
 (refine D2 rfl (A1l _ _ _ hsa hra0) rfl rfl (fun v G1 hle1 hh => ?_); obtain ⟨cs1, F1, rfl, hs1, hn1⟩ := hh; obtain ⟨p1, c1, rfl, _⟩ := hs1.open; have hr1 := hs1.R.mono (B2.le G1 _))
 refine J7 ?_
 refine sD (nS (tT (rB (rS ?_))))
 refine E1 (rC rfl (A3 rfl rfl)) ?_
 (rw [if_neg (by omega)]; split <;> first | exact ⟨rfl, _, rfl, hr1⟩ | (obtain rfl : ks = [] := List.length_eq_zero_iff.1 (by omega); rw [S7]; exact ⟨rfl, _, rfl, hr1⟩; simp))
 refine D8 ?_
 (obtain ⟨hkk, hcl0⟩ := B18 hc (by omega) (by omega); subst hkk; have hcl := (A1v _ _).1 hcl0; have hlen : ks.length = 2 := (by have := ha2.2.1; have := ha2.1; omega); have hlen' : bks.length = 2 := (by omega); obtain ⟨b0, o0, q0, d0, hp0, hat0, hre0, hg0⟩ := hsl.kidTy hkl (i := 0) (by omega) (by omega); obtain ⟨b1, o1, q1, d1, hp1, hat1, hre1, hg1⟩ := hsl.kidTy hkl (i := 1) (by omega) (by omega); subst hp0; cases hp1; obtain ⟨b2, o2, q2, d2, hp2, hat2, hre2, hg2⟩ := hsl'.kidTy hkl' (i := 0) (by omega) (by omega); obtain ⟨b3, o3, q3, d3, hp3, hat3, hre3, hg3⟩ := hsl'.kidTy hkl' (i := 1) (by omega) (by omega); subst hp2; cases hp3; have hM1 := ih ks[0] (List.getElem_mem (by omega)) bks[0] G _ _ (hcl.2 0 (by omega) (by omega)) (hkida _ (List.getElem_mem (by omega))) (hkidb _ (List.getElem_mem (by omega))) hre0 hre2; refine D5 D6 rfl ?_)
 refine J6 (i := 0) (l' := [tt,ff,ff,ff,ff,ff,ff,ff,ff,ff,ff,ff,ff,ff,ff,ff,ff,ff,ff,ff,ff,ff]) rfl D0 (B0 rfl) rfl (by kernel_rfl) rfl rfl ?_
 refine aL 1 rfl (B9 rfl rfl) rfl ?_
 refine aP 2 rfl (B0 rfl) rfl ?_
 refine aL 3 rfl (B9 rfl rfl) rfl ?_
 refine aP 4 rfl (A8 (j := 0) rfl rfl rfl (by omega)) rfl ?_
 refine aL 5 rfl (A0 rfl rfl (hat0 _) rfl) rfl ?_
 refine aP 6 rfl (B0 rfl) rfl ?_
 refine aL 7 rfl (B9 rfl rfl) rfl ?_
 refine aP 8 rfl (A8 (j := 0) rfl rfl rfl (by omega)) rfl ?_
 refine aL 9 rfl (A0 rfl rfl (hat2 _) rfl) rfl ?_
 refine aP 11 rfl (B0 rfl) rfl ?_
 refine aL 12 rfl (B9 rfl rfl) rfl ?_
 refine aP 13 rfl (A8 (j := 1) rfl rfl rfl (by omega)) rfl ?_
 refine aL 14 rfl (A0 rfl rfl (hat1 _) rfl) rfl ?_
 refine aP 15 rfl (B0 rfl) rfl ?_
 refine aL 16 rfl (B9 rfl rfl) rfl ?_
 refine aP 17 rfl (A8 (j := 1) rfl rfl rfl (by omega)) rfl ?_
 refine aL 18 rfl (A0 rfl rfl (hat3 _) rfl) rfl ?_
 refine A2 10 ?_
 (refine E9 rfl rfl hM1 rfl rfl rfl (fun v G1 hle1 hh => ?_); obtain ⟨cm1, rfl, hm1⟩ := hh; have hM2 := ih ks[1] (List.getElem_mem (by omega)) bks[1] G1 _ _ (hcl.2 1 (by omega) (by omega)) (hkida _ (List.getElem_mem (by omega))) (hkidb _ (List.getElem_mem (by omega))) (hre1.mono hle1) (hre3.mono hle1))
 refine A2 19 ?_
 (refine E9 rfl rfl hM2 rfl rfl rfl (fun v G2 hle2 hh => ?_); obtain ⟨cm2, rfl, hm2⟩ := hh; have hB := A1K k _ _ G2 _ _ hk (hm1.mono hle2) hm2)
 refine A2 20 ?_
 (refine E9 rfl rfl hB rfl rfl rfl (fun v G3 hle3 hh => ?_); obtain ⟨cm3, rfl, hm3⟩ := hh; obtain ⟨p5, c5, e5, rfl, _⟩ := hm3.open)
 refine A2 21 ?_
 refine H0 rfl ?_
 refine C5 (nS (tT ?_))
 refine E1 (rC rfl (A3 rfl rfl)) ?_
 (rw [if_neg (by omega), if_neg (by omega)]; rw [B17 hlen hlen']; exact ⟨rfl, _, rfl, hm3⟩)
theorem B19 (G : IM) (p : Option Addr) (n c : Nat) (es : List (List Value)) (h : C4 G p n c 9 es) (h0 : 0 < n) (hn : n ≤ 4294967296) :
  Fn Tryz.prog 176 [.slice p n c] [] G (fun G' v outs => G' = G ∧ ∃ p' c', v = .slice p' n c' ∧ outs = [.slc p' c' 28 9 n es.flatten]) := by
 obtain ⟨hl, hc, hm, hat⟩ := h.sl
 obtain ⟨b, o, full, rfl, hg, hv⟩ := hat.resolve_left (by omega)
 have ho : ∀ u ∈ es.flatten, u.oneCell' = true := by
  intro u hu
  obtain ⟨e, he, hue⟩ := List.mem_flatten.1 hu
  exact List.all_eq_true.1 (h.one e he) u hue
 refine B4 Tryz.func176 rfl Tryz.ntmps176 Tryz.results176 rfl ?_
 intro w0
 refine D8 ?_
 refine sQ (A56 rfl rfl rfl) rfl ?_
 refine sD (nS (cF rfl (tK (nS (tS (tR ?_))))))
 (refine K6 (D7 rfl rfl rfl (by omega) (by unfold maxLen; omega) rfl) rfl ?_; rintro _ ⟨b18, rfl⟩)
 refine sQ (qM rfl) rfl ?_
 refine Z5 rfl rfl rfl rfl rfl (fun _ _ => by repeat (first | exact Sw.here | apply Sw.there)) (A3D hg hv) hl ho (by unfold maxLen; omega) (by omega) rfl (fun pn cn => ?_)
 refine sQ (qA rfl) rfl (sD (nS (tT ?_)))
 refine N9 (rT rfl) A7.refl ?_
 exact ⟨rfl, _, _, by rw [Nat.zero_add], by rw [Nat.zero_add]; rfl⟩
theorem At.mono' {hp : List A4} {G G' : IM} {b o : Nat} {vs : List Value} (hg : B7 G G') (h : At [] G b o vs) : At hp G' b o vs := by
 rcases h with ⟨cs, hm, hv⟩ | ⟨n, c, el, sz, cs, hm, hv⟩ | ⟨full, hx, hv⟩
 ·cases hm
 ·cases hm
 ·exact .inr (.inr ⟨full, hg _ _ hx, hv⟩)
theorem C4.kidD {G : IM} {p : Option Addr} {n c : Nat} {es : List (List Value)} {ks : List Ty} (h : C4 G p n c 2 es) (hk : C2 G ks es) {i : Nat} (hi : i < n) (hn : i < ks.length) :
  ∃ b o q d, p = some ⟨b, o, none⟩ ∧ (∀ hp, At hp G b (o + i * 2) [.int .i64 (ks.getD i B5).k, .slice q (ks.getD i B5).ks.length d]) ∧ B6 G (ks.getD i B5) [.int .i64 (ks.getD i B5).k, .slice q (ks.getD i B5).ks.length d] ∧ G b ≠ none := by
 obtain ⟨b, o, q, d, h1, h2, h3, h4⟩ := h.kidTy hk hi hn
 rw [List.getD_eq_getElem?_getD, List.getElem?_eq_getElem hn, Option.getD_some]
 exact ⟨b, o, q, d, h1, h2, h3, h4⟩
theorem A2K {hs : List Ty} (h : ∀ t ∈ hs, E6 t) {i : Nat} (hi : i < hs.length) : E6 (hs.getD i B5) := by
 rw [List.getD_eq_getElem?_getD, List.getElem?_eq_getElem hi, Option.getD_some]
 exact h _ (List.getElem_mem hi)
def K9 (r : Option (List Ty × Ty)) (G : IM) : IM → Value → List A4 → Prop := J8 fun G' v => ∃ p n c es w cu u, v = .tuple ⟨[.slice p n c, .agg ⟨cu⟩, .bool r.isSome]⟩ ∧ n = w.length ∧ C4 G' p n c 2 es ∧ C2 G' w es ∧ B6 G' u cu ∧ ∀ q, r = some q → q = (w, u)
theorem K9.mk {r : Option (List Ty × Ty)} {G G' : IM} {p : Option Addr} {n c : Nat} {es : List (List Value)} {w : List Ty} {cu : List Value} {u : Ty} {b : Bool} (hl : n = w.length) (hs : Sl G' p n c 2 es.flatten) (hw : C2 G' w es) (hu : B6 G' u cu) (h : r = if b = true then some (w, u) else none) :
  K9 r G G' (.tuple ⟨[.slice p n c, .agg ⟨cu⟩, .bool b]⟩) [] := by
 refine ⟨rfl, p, n, c, es, w, cu, u, ?_, hl, C4.of hs (by rw [hw.len, hl]) hw.all (fun e he => (hw.each e he).2), hw, hu, ?_⟩
 ·subst h; cases b <;> rfl
 ·subst h; cases b
  ·simp
  ·intro q hq; simpa using hq.symm
theorem K9.nil {r : Option (List Ty × Ty)} {G G' : IM} {cu : List Value} {u : Ty} {b : Bool} (hu : B6 G' u cu) (h : r = if b = true then some ([], u) else none) :
  K9 r G G' (.tuple ⟨[.slice none 0 0, .agg ⟨cu⟩, .bool b]⟩) [] := K9.mk (es := []) rfl (Sl.nil _ _) (by simp [C2]) hu h
theorem K9.one {r : Option (List Ty × Ty)} {G G' : IM} {p : Option Addr} {c : Nat} {a : Ty} {ca : List Value} {cu : List Value} {u : Ty} {b : Bool} (hs : Sl G' p 1 c 2 ca) (ha : B6 G' a ca) (hu : B6 G' u cu) (h : r = if b = true then some ([a], u) else none) :
  K9 r G G' (.tuple ⟨[.slice p 1 c, .agg ⟨cu⟩, .bool b]⟩) [] := K9.mk (es := [ca]) (w := [a]) rfl (by simpa using hs) ⟨_, _, rfl, ha, rfl⟩ hu h
theorem K9.two {r : Option (List Ty × Ty)} {G G' : IM} {p : Option Addr} {c : Nat} {a a2 : Ty} {ca ca2 : List Value} {cu : List Value} {u : Ty} {b : Bool} (hs : Sl G' p 2 c 2 (ca ++ ca2)) (ha : B6 G' a ca) (ha2 : B6 G' a2 ca2) (hu : B6 G' u cu) (h : r = if b = true then some ([a, a2], u) else none) :
  K9 r G G' (.tuple ⟨[.slice p 2 c, .agg ⟨cu⟩, .bool b]⟩) [] := K9.mk (es := [ca, ca2]) (w := [a, a2]) rfl (by simpa using hs) ⟨_, _, rfl, ha, _, _, rfl, ha2, rfl⟩ hu h
theorem K9.three {r : Option (List Ty × Ty)} {G G' : IM} {p : Option Addr} {c : Nat} {a a2 a3 : Ty} {ca ca2 ca3 : List Value} {cu : List Value} {u : Ty} {b : Bool} (hs : Sl G' p 3 c 2 (ca ++ (ca2 ++ ca3))) (ha : B6 G' a ca) (ha2 : B6 G' a2 ca2) (ha3 : B6 G' a3 ca3) (hu : B6 G' u cu) (h : r = if b = true then some ([a, a2, a3], u) else none) :
  K9 r G G' (.tuple ⟨[.slice p 3 c, .agg ⟨cu⟩, .bool b]⟩) [] := K9.mk (es := [ca, ca2, ca3]) (w := [a, a2, a3]) rfl (by simpa using hs) ⟨_, _, rfl, ha, _, _, rfl, ha2, _, _, rfl, ha3, rfl⟩ hu h
section
variable {cx : Cx} {nm : ByteArray} {ty : Ty} {h : List Ty}
theorem mW1 : O0 cx 1 nm ty h = match A0C cx nm with | some t => some ([], t) | none => none := rfl
theorem mW2 : O0 cx 2 nm ty h = some ([], R9) := rfl
theorem A3l {k : Int} (hk : k = 3 ∨ k = 4) : O0 cx k nm ty h = some ([], X3) := by rcases hk with rfl | rfl <;> rfl
theorem mW5 : O0 cx 5 nm ty h = some ([], .mk 4 [ty, h.getD 0 B5]) := rfl
theorem mW6 : O0 cx 6 nm ty h = match R1 4 (h.getD 0 B5) with | some (a, b) => if J5 (h.getD 1 B5) a = true then some ([.mk 4 [a, b], a], b) else none | none => none := rfl
theorem U4 {k : Int} (hk : k = 7 ∨ k = 8) : O0 cx k nm ty h = if J5 (h.getD 0 B5) R9 = true ∧ J5 (h.getD 1 B5) R9 = true then some ([R9, R9], if k = 8 then X3 else R9) else none := by rcases hk with rfl | rfl <;> rfl
theorem mW9 : O0 cx 9 nm ty h = if J5 (h.getD 0 B5) X3 = true ∧ J5 (h.getD 1 B5) (h.getD 2 B5) = true then some ([X3, T6 (h.getD 1 B5) (h.getD 2 B5), T6 (h.getD 1 B5) (h.getD 2 B5)], T6 (h.getD 1 B5) (h.getD 2 B5)) else none := rfl
theorem A4b : O0 cx 10 nm ty h = some ([], .mk 5 [h.getD 0 B5, h.getD 1 B5]) := rfl
theorem A2f : O0 cx 13 nm ty h = if J5 (h.getD 0 B5) ty = true then some ([ty], ty) else none := rfl
theorem A2L {k : Int} (hk : k = 11 ∨ k = 12) : O0 cx k nm ty h = match R1 5 (h.getD 0 B5) with | some (a, b) => some ([.mk 5 [a, b]], if k = 12 then b else a) | none => none := by rcases hk with rfl | rfl <;> rfl
end
theorem J4 (G : IM) : B6 G R9 [.int .i64 2, .slice none 0 0] := O4 G ⟨by omega, by omega⟩
theorem Z2 (G : IM) : B6 G X3 [.int .i64 3, .slice none 0 0] := O4 G ⟨by omega, by omega⟩
theorem B2a (cx : Cx) (k : Int) (nm : ByteArray) (num : Int) (ty fr : Ty) (lb : Int) (ks : List Tm) (h : List Ty) (G : IM) (pc : Option Addr) (nc cc : Nat) (cells : List Value) (p : Option Addr) (n c : Nat) (es : List (List Value))
  (hx : Q4 G cx pc nc cc) (hops : D9 k = n) (hnl : n = h.length) (hk14 : k ≠ 14) (hta : E6 ty) (hr : A6 G (.mk k nm num ty fr lb ks) cells) (hsl : C4 G p n c 2 es) (hkl : C2 G h es) (har : ∀ t ∈ h, E6 t) :
  Fn Tryz.prog 91 [.slice pc nc cc, .agg ⟨cells⟩, .slice p n c] [] G (K9 (O0 cx k nm ty h) G) := by
 have hone := hr.one
 have hop := A2D hops
 have hkr : 1 ≤ k ∧ k ≤ 14 := by
  apply Classical.byContradiction
  intro hc
  rw [A4M hc] at hops; omega
 obtain ⟨tyk, tyks⟩ := ty
 obtain ⟨fk, fks⟩ := fr
 obtain ⟨pt, ct, pf, cf, pk, ck, ek, rfl, hk, hnum, hlb, hrty, hrfr, _, _⟩ := hr.open9
 refine B4 Tryz.func91 rfl Tryz.ntmps91 Tryz.results91 rfl ?_
 intro w0
 refine tS (tR ?_)
 refine sE (C1 rfl rfl) rfl (fun b3 => ?_)
 refine sQ (qA rfl) rfl ?_
 refine sE (A5 rfl) rfl (fun b5 => ?_)
 refine sQ (qA rfl) rfl (sD (nS (tS (tR ?_))))
 refine I3 rfl ((A00 _ _)) rfl rfl ?_
 refine I3 rfl ((A00 _ _)) rfl rfl ?_
 refine sE (A5 rfl) rfl (fun b13 => ?_)
 refine sE (A5 rfl) rfl (fun b14 => ?_)
 refine F8 ?_
 refine B3 (tS (tR (sB (qE rfl rfl) rfl rfl (fun h29 => ?_) (fun h29 => ?_))))
 refine D8 ?_
 (refine D2 rfl (B16 G cx pc nc cc nm hx) rfl rfl (fun v G1 hle1 hh => ?_); obtain ⟨cu, u, rfl, hru, hu⟩ := hh; obtain ⟨p1, c1, e1, rfl, _⟩ := hru.open)
 refine J2 ?_
 refine sE (A5 rfl) rfl (fun b43 => ?_)
 refine J7 ?_
 refine sQ (qA rfl) rfl (sD (nS (tS ?_)))
 refine D5 D6 rfl ?_
 refine L3 (i := 0) (l' := [tt,ff,ff,ff,ff]) rfl D0 (A3 rfl rfl) rfl (by kernel_rfl) rfl rfl ?_
 refine aP 1 rfl (qM rfl) rfl ?_
 refine aP 2 rfl (qA rfl) rfl ?_
 refine A2 3 ?_
 refine H0 rfl ?_
 refine aP 4 rfl (qA rfl) rfl ?_
 refine C5 (nS (tT (rB (rS ?_))))
 refine C8 (rT rfl) (rC rfl (A3 rfl rfl)) (rT rfl) ?_
 (have hk1 : k = 1 := (by omega); subst hk1; rw [mW1]; refine K9.nil hru ?_; generalize A0C cx nm = r at hu ⊢; cases r with | none => rfl | some t => (rw [hu t rfl]; rfl))
 refine sQ (qA rfl) rfl (sD (nS (cF rfl (tS (tR ?_)))))
 refine sB (qE rfl rfl) rfl rfl (fun h69 => ?_) (fun h69 => ?_)
 refine sQ (qA rfl) rfl (sD (nS (qT rfl (tS ?_))))
 refine D5 D6 rfl ?_
 refine L3 (i := 0) (l' := [tt,ff,ff,ff]) rfl D0 (A3 rfl rfl) rfl (by kernel_rfl) rfl rfl ?_
 refine aP 1 rfl (qA rfl) rfl ?_
 refine A2 2 ?_
 refine H0 rfl ?_
 refine aP 3 rfl (qA rfl) rfl ?_
 refine C5 (nS (tT (rB (rS ?_))))
 refine C8 (rT rfl) (rC rfl (A3 rfl rfl)) (rT rfl) ?_
 (have hk1 : k = 2 := (by omega); subst hk1; exact K9.nil (J4 _) mW2)
 refine sQ (qA rfl) rfl (sD (nS (cF rfl (tS (tS (tR ?_))))))
 refine sB (qE rfl rfl) rfl rfl (fun h95 => ?_) (fun h95 => ?_)
 refine D3 ?_
 refine D5 D6 rfl ?_
 refine L3 (i := 0) (l' := [tt,ff,ff,ff]) rfl D0 (A3 rfl rfl) rfl (by kernel_rfl) rfl rfl ?_
 refine aP 1 rfl (qA rfl) rfl ?_
 refine A2 2 ?_
 refine H0 rfl ?_
 refine aP 3 rfl (qA rfl) rfl ?_
 refine C5 (nS (tT (rB (rS ?_))))
 refine C8 (rT rfl) (rC rfl (A3 rfl rfl)) (rT rfl) ?_
 (exact K9.nil (Z2 _) (by rw [A3l (by omega)]; rfl))
 refine sQ (qA rfl) rfl (sD (nS (cF rfl (tR ?_))))
 refine sB (qE rfl rfl) rfl rfl (fun h122 => ?_) (fun h122 => ?_)
 refine sQ (qA rfl) rfl (sD (nS (qT rfl (tS ?_))))
 refine D5 D6 rfl ?_
 refine L3 (i := 0) (l' := [tt,ff,ff,ff]) rfl D0 (A3 rfl rfl) rfl (by kernel_rfl) rfl rfl ?_
 refine aP 1 rfl (qA rfl) rfl ?_
 refine A2 2 ?_
 refine H0 rfl ?_
 refine aP 3 rfl (qA rfl) rfl ?_
 refine C5 (nS (tT (rB (rS ?_))))
 refine C8 (rT rfl) (rC rfl (A3 rfl rfl)) (rT rfl) ?_
 (exact K9.nil (Z2 _) (by rw [A3l (by omega)]; rfl))
 refine sQ (qA rfl) rfl (sD (nS (cF rfl (tS (tR ?_)))))
 refine sB (qE rfl rfl) rfl rfl (fun h147 => ?_) (fun h147 => ?_)
 refine sQ (qA rfl) rfl (sD (nS (qT rfl (tS ?_))))
 (have hl1 : n = 1 := hop.2.2 (by omega); obtain ⟨b0, o0, q0, d0, hp0, hat0, hre0, hg0⟩ := hsl.kidD hkl (i := 0) (by omega) (by omega); cases hp0; refine D5 D6 rfl ?_)
 refine J6 (i := 0) (l' := [tt,ff,ff,ff,ff,ff,ff,ff,ff]) rfl D0 (B0 rfl) rfl (by kernel_rfl) rfl rfl ?_
 refine aL 1 rfl (A3 rfl rfl) rfl ?_
 refine aP 2 rfl (qM rfl) rfl ?_
 refine aP 3 rfl (A8 (j := 0) rfl rfl rfl (by omega)) rfl ?_
 refine aL 4 rfl (A0 rfl rfl (hat0 _) rfl) rfl ?_
 refine A2 5 ?_
 (refine E9 rfl rfl (A1K 4 _ _ _ _ _ ⟨by omega, by omega⟩ hrty hre0) rfl rfl rfl (fun v GB hleB hh => ?_); obtain ⟨cB, rfl, hrB⟩ := hh; obtain ⟨p7, c7, e7, rfl, _⟩ := hrB.open)
 refine aP 6 rfl (qA rfl) rfl ?_
 refine A2 7 ?_
 refine H0 rfl ?_
 refine aP 8 rfl (qA rfl) rfl ?_
 refine C5 (nS (tT (rB (rS ?_))))
 refine C8 (rT rfl) (rC rfl (A3 rfl rfl)) (rT rfl) ?_
 (have hk1 : k = 5 := (by omega); subst hk1; exact K9.nil hrB mW5)
 refine sQ (qA rfl) rfl (sD (nS (cF rfl (tS (tR ?_)))))
 refine sB (qE rfl rfl) rfl rfl (fun h178 => ?_) (fun h178 => ?_)
 refine C3 ?_
 (have hl2 : n = 2 := hop.1 (by omega); obtain ⟨b0, o0, q0, d0, hp0, hat0, hre0, hg0⟩ := hsl.kidD hkl (i := 0) (by omega) (by omega); cases hp0; refine sP (A8 (j := 0) rfl rfl rfl (by omega)) rfl rfl ?_)
 refine sL (A0 rfl rfl (hat0 _) rfl) rfl rfl ?_
 (refine D2 rfl (A7T 4 (h.getD 0 B5) G _ (.inl rfl) (A2K har (by omega)) hre0) rfl rfl (fun v G1 hle1 hh => ?_); obtain ⟨ma, mca, mb, mcb, rfl, hma, hmb, hma2, hmb2, hmm⟩ := hh; obtain ⟨p1, c1, e1, rfl, _⟩ := hma.open; obtain ⟨p2, c2, e2, rfl, _⟩ := hmb.open; replace hsl := hsl.mono hle1; replace hkl := hkl.mono hle1; generalize hmi : (R1 4 (h.getD 0 B5)).isSome = mi; cases mi)
 refine H8 ?_
 refine sE (A5 rfl) rfl (fun b193 => ?_)
 refine sE (A5 rfl) rfl (fun b194 => ?_)
 refine J7 ?_
 refine J7 ?_
 refine sQ (qA rfl) rfl (sD (nS (tS ?_)))
 (have hl2 : n = 2 := hop.1 (by omega); obtain ⟨b0, o0, q0, d0, hp0, hat0, hre0, hg0⟩ := hsl.kidD hkl (i := 0) (by omega) (by omega); obtain ⟨b1, o1, q1, d1, hp1, hat1, hre1, hg1⟩ := hsl.kidD hkl (i := 1) (by omega) (by omega); cases hp0; cases hp1; refine D5 D6 rfl ?_)
 refine L3 (i := 0) (l' := [tt,ff,ff,ff,ff,ff,ff,ff,ff,ff,ff,ff,ff,ff,ff,ff,ff]) rfl D0 (A3 rfl rfl) rfl (by kernel_rfl) rfl rfl ?_
 refine aL 1 rfl (A3 rfl rfl) rfl ?_
 refine aL 3 rfl (A3 rfl rfl) rfl ?_
 refine aL 5 rfl (A3 rfl rfl) rfl ?_
 refine aP 6 rfl (qM rfl) rfl ?_
 refine A2 2 ?_
 (refine E9 rfl rfl (A1K _ ma mb _ _ _ ⟨by omega, by omega⟩ hma hmb) rfl rfl rfl (fun v GB hleB hh => ?_); obtain ⟨cB, rfl, hrB⟩ := hh; obtain ⟨p7, c7, e7, rfl, _⟩ := hrB.open; have hma' := hma.mono hleB; have hmb' := hmb.mono hleB)
 refine aP 7 rfl (qM rfl) rfl ?_
 refine B8 8 rfl rfl rfl ?_
 refine B8 9 rfl rfl rfl ?_
 refine B8 10 rfl rfl rfl ?_
 refine B8 11 rfl rfl rfl ?_
 refine Q0 (j := 4) (j' := 12) (by kernel_rfl) ?_ ?_
 (refine E3 rfl (D7 rfl rfl rfl (by omega) (by unfold maxLen; omega) rfl) rfl rfl ?_; rintro _ ⟨b215, rfl⟩)
 refine B8 12 rfl rfl rfl ?_
 refine aP 13 rfl (N4 rfl rfl) rfl ?_
 refine aP 14 rfl (qA rfl) rfl ?_
 refine A2 15 ?_
 refine H0 rfl ?_
 refine aP 16 rfl (qA rfl) rfl ?_
 refine C5 (nS ?_)
 (refine H7 Pk.here (fun G5 hle5 hsl5 hno5 => ?_))
 refine tT (rB (rS ?_))
 refine C8 (rT rfl) (rC rfl (A3 rfl rfl)) (rT rfl) ?_
 (have hk1 : k = 6 := (by omega); subst hk1; refine K9.two hsl5 (hrB.mono hle5) (hma'.mono hle5) (hmb'.mono hle5) ?_; rw [mW6]; cases hq : R1 4 (h.getD 0 B5) with | none => rfl | some q => (rw [hq] at hmi; cases hmi))
 refine A4I (l' := [tt,tt,tt,tt,ff,tt,tt,tt,tt,tt,tt,tt,tt,ff,ff,ff,ff]) rfl rfl rfl rfl ?_
 refine aP 13 rfl (N4 rfl rfl) rfl ?_
 refine A2 4 ?_
 (refine E3 rfl (D7 rfl rfl rfl (by omega) (by unfold maxLen; omega) rfl) rfl rfl ?_; rintro _ ⟨b233, rfl⟩)
 refine aP 14 rfl (qA rfl) rfl ?_
 refine A2 15 ?_
 refine H0 rfl ?_
 refine aP 16 rfl (qA rfl) rfl ?_
 refine C5 (nS ?_)
 (refine H7 Pk.here (fun G5 hle5 hsl5 hno5 => ?_))
 refine tT (rB (rS ?_))
 refine C8 (rT rfl) (rC rfl (A3 rfl rfl)) (rT rfl) ?_
 (have hk1 : k = 6 := (by omega); subst hk1; refine K9.two hsl5 (hrB.mono hle5) (hma'.mono hle5) (hmb'.mono hle5) ?_; rw [mW6]; cases hq : R1 4 (h.getD 0 B5) with | none => rfl | some q => (rw [hq] at hmi; cases hmi))
 refine H8 ?_
 refine sE (A5 rfl) rfl (fun b250 => ?_)
 refine sE (A5 rfl) rfl (fun b251 => ?_)
 refine J7 ?_
 refine J7 ?_
 refine sQ (qA rfl) rfl (sD (nS (tS ?_)))
 (have hl2 : n = 2 := hop.1 (by omega); obtain ⟨b0, o0, q0, d0, hp0, hat0, hre0, hg0⟩ := hsl.kidD hkl (i := 0) (by omega) (by omega); obtain ⟨b1, o1, q1, d1, hp1, hat1, hre1, hg1⟩ := hsl.kidD hkl (i := 1) (by omega) (by omega); cases hp0; cases hp1; refine D5 D6 rfl ?_)
 refine L3 (i := 0) (l' := [tt,ff,ff,ff,ff,ff,ff,ff,ff,ff,ff,ff,ff,ff,ff,ff,ff]) rfl D0 (A3 rfl rfl) rfl (by kernel_rfl) rfl rfl ?_
 refine aL 1 rfl (A3 rfl rfl) rfl ?_
 refine aL 3 rfl (A3 rfl rfl) rfl ?_
 refine aL 5 rfl (A3 rfl rfl) rfl ?_
 refine aP 6 rfl (qM rfl) rfl ?_
 refine A2 2 ?_
 (refine E9 rfl rfl (A1K _ ma mb _ _ _ ⟨by omega, by omega⟩ hma hmb) rfl rfl rfl (fun v GB hleB hh => ?_); obtain ⟨cB, rfl, hrB⟩ := hh; obtain ⟨p7, c7, e7, rfl, _⟩ := hrB.open; have hma' := hma.mono hleB; have hmb' := hmb.mono hleB)
 refine aP 7 rfl (qM rfl) rfl ?_
 refine aP 8 rfl (qM rfl) rfl ?_
 refine aP 9 rfl (A8 (j := 1) rfl rfl rfl (by omega)) rfl ?_
 refine aL 10 rfl (A0 rfl rfl (At.mono' hleB (hat1 _)) rfl) rfl ?_
 refine aL 11 rfl (A3 rfl rfl) rfl ?_
 refine Q0 (j := 4) (j' := 12) (by kernel_rfl) ?_ ?_
 (refine E3 rfl (D7 rfl rfl rfl (by omega) (by unfold maxLen; omega) rfl) rfl rfl ?_; rintro _ ⟨b272, rfl⟩)
 refine A2 12 ?_
 refine S3 rfl rfl ((Y7 _ _ _ _ _ (hre1.mono hleB) hma')) rfl rfl rfl (fun h274 => ?_) (fun h274 => ?_)
 refine aP 13 rfl (L4 rfl rfl) rfl ?_
 refine aP 14 rfl (qA rfl) rfl ?_
 refine A2 15 ?_
 refine H0 rfl ?_
 refine aP 16 rfl (qA rfl) rfl ?_
 refine C5 (nS ?_)
 (refine H7 Pk.here (fun G5 hle5 hsl5 hno5 => ?_))
 refine tT (rB (rS ?_))
 refine C8 (rT rfl) (rC rfl (A3 rfl rfl)) (rT rfl) ?_
 (have hk1 : k = 6 := (by omega); subst hk1; refine K9.two hsl5 (hrB.mono hle5) (hma'.mono hle5) (hmb'.mono hle5) ?_; rw [mW6]; cases hq : R1 4 (h.getD 0 B5) with | none => (rw [hq] at hmi; cases hmi) | some q => (have hq2 := hmm q hq; subst hq2; dsimp only; split <;> first | rfl | (exfalso; simp_all; done)))
 refine aP 13 rfl (L4 rfl rfl) rfl ?_
 refine aP 14 rfl (qA rfl) rfl ?_
 refine A2 15 ?_
 refine H0 rfl ?_
 refine aP 16 rfl (qA rfl) rfl ?_
 refine C5 (nS ?_)
 (refine H7 Pk.here (fun G5 hle5 hsl5 hno5 => ?_))
 refine tT (rB (rS ?_))
 refine C8 (rT rfl) (rC rfl (A3 rfl rfl)) (rT rfl) ?_
 (have hk1 : k = 6 := (by omega); subst hk1; refine K9.two hsl5 (hrB.mono hle5) (hma'.mono hle5) (hmb'.mono hle5) ?_; rw [mW6]; cases hq : R1 4 (h.getD 0 B5) with | none => (rw [hq] at hmi; cases hmi) | some q => (have hq2 := hmm q hq; subst hq2; dsimp only; split <;> first | rfl | (exfalso; simp_all; done)))
 refine S3 rfl rfl ((Y7 _ _ _ _ _ (hre1.mono hleB) hma')) rfl rfl rfl (fun h301 => ?_) (fun h301 => ?_)
 refine aP 13 rfl (L4 rfl rfl) rfl ?_
 refine A2 4 ?_
 (refine E3 rfl (D7 rfl rfl rfl (by omega) (by unfold maxLen; omega) rfl) rfl rfl ?_; rintro _ ⟨b304, rfl⟩)
 refine aP 14 rfl (qA rfl) rfl ?_
 refine A2 15 ?_
 refine H0 rfl ?_
 refine aP 16 rfl (qA rfl) rfl ?_
 refine C5 (nS ?_)
 (refine H7 Pk.here (fun G5 hle5 hsl5 hno5 => ?_))
 refine tT (rB (rS ?_))
 refine C8 (rT rfl) (rC rfl (A3 rfl rfl)) (rT rfl) ?_
 (have hk1 : k = 6 := (by omega); subst hk1; refine K9.two hsl5 (hrB.mono hle5) (hma'.mono hle5) (hmb'.mono hle5) ?_; rw [mW6]; cases hq : R1 4 (h.getD 0 B5) with | none => (rw [hq] at hmi; cases hmi) | some q => (have hq2 := hmm q hq; subst hq2; dsimp only; split <;> first | rfl | (exfalso; simp_all; done)))
 refine aP 13 rfl (L4 rfl rfl) rfl ?_
 refine A2 4 ?_
 (refine E3 rfl (D7 rfl rfl rfl (by omega) (by unfold maxLen; omega) rfl) rfl rfl ?_; rintro _ ⟨b319, rfl⟩)
 refine aP 14 rfl (qA rfl) rfl ?_
 refine A2 15 ?_
 refine H0 rfl ?_
 refine aP 16 rfl (qA rfl) rfl ?_
 refine C5 (nS ?_)
 (refine H7 Pk.here (fun G5 hle5 hsl5 hno5 => ?_))
 refine tT (rB (rS ?_))
 refine C8 (rT rfl) (rC rfl (A3 rfl rfl)) (rT rfl) ?_
 (have hk1 : k = 6 := (by omega); subst hk1; refine K9.two hsl5 (hrB.mono hle5) (hma'.mono hle5) (hmb'.mono hle5) ?_; rw [mW6]; cases hq : R1 4 (h.getD 0 B5) with | none => (rw [hq] at hmi; cases hmi) | some q => (have hq2 := hmm q hq; subst hq2; dsimp only; split <;> first | rfl | (exfalso; simp_all; done)))
 refine sQ (qA rfl) rfl (sD (nS (cF rfl (tS (tS (tR ?_))))))
 refine sB (qE rfl rfl) rfl rfl (fun h339 => ?_) (fun h339 => ?_)
 refine I8 ?_
 refine sE (A5 rfl) rfl (fun b350 => ?_)
 refine D3 ?_
 refine sP (I6 rfl rfl (by omega)) rfl rfl ?_
 refine sD (nS (cF rfl (tK (nS (tS ?_)))))
 (have hl2 : n = 2 := hop.1 (by omega); obtain ⟨b0, o0, q0, d0, hp0, hat0, hre0, hg0⟩ := hsl.kidD hkl (i := 0) (by omega) (by omega); obtain ⟨b1, o1, q1, d1, hp1, hat1, hre1, hg1⟩ := hsl.kidD hkl (i := 1) (by omega) (by omega); cases hp0; cases hp1; refine D5 D6 rfl ?_)
 refine L3 (i := 0) (l' := [tt,ff,ff,ff,ff,ff,ff,ff,ff,ff,ff,ff,ff,ff,ff,ff,ff,ff,ff]) rfl D0 (A3 rfl rfl) rfl (by kernel_rfl) rfl rfl ?_
 refine aL 1 rfl (A3 rfl rfl) rfl ?_
 refine aL 3 rfl (A3 rfl rfl) rfl ?_
 refine aP 4 rfl (qM rfl) rfl ?_
 refine aP 5 rfl (A8 (j := 0) rfl rfl rfl (by omega)) rfl ?_
 refine aL 6 rfl (A0 rfl rfl (hat0 _) rfl) rfl ?_
 refine aL 7 rfl (A3 rfl rfl) rfl ?_
 refine Q0 (j := 2) (j' := 8) (by kernel_rfl) ?_ ?_
 (refine E3 rfl (D7 rfl rfl rfl (by omega) (by unfold maxLen; omega) rfl) rfl rfl ?_; rintro _ ⟨b375, rfl⟩)
 refine A2 8 ?_
 refine S3 rfl rfl ((Y7 _ _ _ _ _ hre0 (J4 _))) rfl rfl rfl (fun h377 => ?_) (fun h377 => ?_)
 refine aP 9 rfl (qM rfl) rfl ?_
 refine aP 10 rfl (qM rfl) rfl ?_
 refine aP 11 rfl (A8 (j := 1) rfl rfl rfl (by omega)) rfl ?_
 refine aL 12 rfl (A0 rfl rfl (hat1 _) rfl) rfl ?_
 refine aL 13 rfl (A3 rfl rfl) rfl ?_
 refine A2 14 ?_
 refine S3 rfl rfl ((Y7 _ _ _ _ _ hre1 (J4 _))) rfl rfl rfl (fun h384 => ?_) (fun h384 => ?_)
 refine aP 15 rfl (L4 rfl rfl) rfl ?_
 refine aP 16 rfl (qA rfl) rfl ?_
 refine A2 17 ?_
 refine H0 rfl ?_
 refine aP 18 rfl (qA rfl) rfl ?_
 refine C5 (nS ?_)
 (refine H7 Pk.here (fun G5 hle5 hsl5 hno5 => ?_))
 refine tT (rB (rS ?_))
 refine C8 (rT rfl) (rC rfl (A3 rfl rfl)) (rT rfl) ?_
 (refine K9.two hsl5 (J4 _) (J4 _) (J4 _) ?_; rw [U4 (by omega)]; first | (rw [if_pos ⟨by assumption, by assumption⟩, if_neg (by omega)]; rfl) | (rw [if_neg (fun hc => by first | exact Bool.noConfusion (hc.1.symm.trans (by assumption)) | exact Bool.noConfusion (hc.2.symm.trans (by assumption)) | exact Bool.noConfusion (hc.symm.trans (by assumption)))]; rfl))
 refine aP 15 rfl (L4 rfl rfl) rfl ?_
 refine aP 16 rfl (qA rfl) rfl ?_
 refine A2 17 ?_
 refine H0 rfl ?_
 refine aP 18 rfl (qA rfl) rfl ?_
 refine C5 (nS ?_)
 (refine H7 Pk.here (fun G5 hle5 hsl5 hno5 => ?_))
 refine tT (rB (rS ?_))
 refine C8 (rT rfl) (rC rfl (A3 rfl rfl)) (rT rfl) ?_
 (refine K9.two hsl5 (J4 _) (J4 _) (J4 _) ?_; rw [U4 (by omega)]; first | (rw [if_pos ⟨by assumption, by assumption⟩, if_neg (by omega)]; rfl) | (rw [if_neg (fun hc => by first | exact Bool.noConfusion (hc.1.symm.trans (by assumption)) | exact Bool.noConfusion (hc.2.symm.trans (by assumption)) | exact Bool.noConfusion (hc.symm.trans (by assumption)))]; rfl))
 refine aP 9 rfl (qM rfl) rfl ?_
 refine B8 10 rfl rfl rfl ?_
 refine B8 11 rfl rfl rfl ?_
 refine B8 12 rfl rfl rfl ?_
 refine B8 13 rfl rfl rfl ?_
 refine B8 14 rfl rfl rfl ?_
 refine aP 15 rfl (N4 rfl rfl) rfl ?_
 refine aP 16 rfl (qA rfl) rfl ?_
 refine A2 17 ?_
 refine H0 rfl ?_
 refine aP 18 rfl (qA rfl) rfl ?_
 refine C5 (nS ?_)
 (refine H7 Pk.here (fun G5 hle5 hsl5 hno5 => ?_))
 refine tT (rB (rS ?_))
 refine C8 (rT rfl) (rC rfl (A3 rfl rfl)) (rT rfl) ?_
 (refine K9.two hsl5 (J4 _) (J4 _) (J4 _) ?_; rw [U4 (by omega)]; first | (rw [if_pos ⟨by assumption, by assumption⟩, if_neg (by omega)]; rfl) | (rw [if_neg (fun hc => by first | exact Bool.noConfusion (hc.1.symm.trans (by assumption)) | exact Bool.noConfusion (hc.2.symm.trans (by assumption)) | exact Bool.noConfusion (hc.symm.trans (by assumption)))]; rfl))
 refine S3 rfl rfl ((Y7 _ _ _ _ _ hre0 (J4 _))) rfl rfl rfl (fun h430 => ?_) (fun h430 => ?_)
 refine aP 9 rfl (qM rfl) rfl ?_
 refine aP 10 rfl (qM rfl) rfl ?_
 refine aP 11 rfl (A8 (j := 1) rfl rfl rfl (by omega)) rfl ?_
 refine aL 12 rfl (A0 rfl rfl (hat1 _) rfl) rfl ?_
 refine aL 13 rfl (A3 rfl rfl) rfl ?_
 refine Q0 (j := 2) (j' := 14) (by kernel_rfl) ?_ ?_
 (refine E3 rfl (D7 rfl rfl rfl (by omega) (by unfold maxLen; omega) rfl) rfl rfl ?_; rintro _ ⟨b437, rfl⟩)
 refine A2 14 ?_
 refine S3 rfl rfl ((Y7 _ _ _ _ _ hre1 (J4 _))) rfl rfl rfl (fun h439 => ?_) (fun h439 => ?_)
 refine aP 15 rfl (L4 rfl rfl) rfl ?_
 refine aP 16 rfl (qA rfl) rfl ?_
 refine A2 17 ?_
 refine H0 rfl ?_
 refine aP 18 rfl (qA rfl) rfl ?_
 refine C5 (nS ?_)
 (refine H7 Pk.here (fun G5 hle5 hsl5 hno5 => ?_))
 refine tT (rB (rS ?_))
 refine C8 (rT rfl) (rC rfl (A3 rfl rfl)) (rT rfl) ?_
 (refine K9.two hsl5 (J4 _) (J4 _) (J4 _) ?_; rw [U4 (by omega)]; first | (rw [if_pos ⟨by assumption, by assumption⟩, if_neg (by omega)]; rfl) | (rw [if_neg (fun hc => by first | exact Bool.noConfusion (hc.1.symm.trans (by assumption)) | exact Bool.noConfusion (hc.2.symm.trans (by assumption)) | exact Bool.noConfusion (hc.symm.trans (by assumption)))]; rfl))
 refine aP 15 rfl (L4 rfl rfl) rfl ?_
 refine aP 16 rfl (qA rfl) rfl ?_
 refine A2 17 ?_
 refine H0 rfl ?_
 refine aP 18 rfl (qA rfl) rfl ?_
 refine C5 (nS ?_)
 (refine H7 Pk.here (fun G5 hle5 hsl5 hno5 => ?_))
 refine tT (rB (rS ?_))
 refine C8 (rT rfl) (rC rfl (A3 rfl rfl)) (rT rfl) ?_
 (refine K9.two hsl5 (J4 _) (J4 _) (J4 _) ?_; rw [U4 (by omega)]; first | (rw [if_pos ⟨by assumption, by assumption⟩, if_neg (by omega)]; rfl) | (rw [if_neg (fun hc => by first | exact Bool.noConfusion (hc.1.symm.trans (by assumption)) | exact Bool.noConfusion (hc.2.symm.trans (by assumption)) | exact Bool.noConfusion (hc.symm.trans (by assumption)))]; rfl))
 refine S3 rfl rfl ((Y7 _ _ _ _ _ hre1 (J4 _))) rfl rfl rfl (fun h466 => ?_) (fun h466 => ?_)
 refine aP 15 rfl (L4 rfl rfl) rfl ?_
 refine A2 2 ?_
 (refine E3 rfl (D7 rfl rfl rfl (by omega) (by unfold maxLen; omega) rfl) rfl rfl ?_; rintro _ ⟨b469, rfl⟩)
 refine aP 16 rfl (qA rfl) rfl ?_
 refine A2 17 ?_
 refine H0 rfl ?_
 refine aP 18 rfl (qA rfl) rfl ?_
 refine C5 (nS ?_)
 (refine H7 Pk.here (fun G5 hle5 hsl5 hno5 => ?_))
 refine tT (rB (rS ?_))
 refine C8 (rT rfl) (rC rfl (A3 rfl rfl)) (rT rfl) ?_
 (refine K9.two hsl5 (J4 _) (J4 _) (J4 _) ?_; rw [U4 (by omega)]; first | (rw [if_pos ⟨by assumption, by assumption⟩, if_neg (by omega)]; rfl) | (rw [if_neg (fun hc => by first | exact Bool.noConfusion (hc.1.symm.trans (by assumption)) | exact Bool.noConfusion (hc.2.symm.trans (by assumption)) | exact Bool.noConfusion (hc.symm.trans (by assumption)))]; rfl))
 refine aP 15 rfl (L4 rfl rfl) rfl ?_
 refine A2 2 ?_
 (refine E3 rfl (D7 rfl rfl rfl (by omega) (by unfold maxLen; omega) rfl) rfl rfl ?_; rintro _ ⟨b484, rfl⟩)
 refine aP 16 rfl (qA rfl) rfl ?_
 refine A2 17 ?_
 refine H0 rfl ?_
 refine aP 18 rfl (qA rfl) rfl ?_
 refine C5 (nS ?_)
 (refine H7 Pk.here (fun G5 hle5 hsl5 hno5 => ?_))
 refine tT (rB (rS ?_))
 refine C8 (rT rfl) (rC rfl (A3 rfl rfl)) (rT rfl) ?_
 (refine K9.two hsl5 (J4 _) (J4 _) (J4 _) ?_; rw [U4 (by omega)]; first | (rw [if_pos ⟨by assumption, by assumption⟩, if_neg (by omega)]; rfl) | (rw [if_neg (fun hc => by first | exact Bool.noConfusion (hc.1.symm.trans (by assumption)) | exact Bool.noConfusion (hc.2.symm.trans (by assumption)) | exact Bool.noConfusion (hc.symm.trans (by assumption)))]; rfl))
 refine aP 9 rfl (qM rfl) rfl ?_
 refine B8 10 rfl rfl rfl ?_
 refine B8 11 rfl rfl rfl ?_
 refine B8 12 rfl rfl rfl ?_
 refine B8 13 rfl rfl rfl ?_
 refine Q0 (j := 2) (j' := 14) (by kernel_rfl) ?_ ?_
 (refine E3 rfl (D7 rfl rfl rfl (by omega) (by unfold maxLen; omega) rfl) rfl rfl ?_; rintro _ ⟨b503, rfl⟩)
 refine B8 14 rfl rfl rfl ?_
 refine aP 15 rfl (N4 rfl rfl) rfl ?_
 refine aP 16 rfl (qA rfl) rfl ?_
 refine A2 17 ?_
 refine H0 rfl ?_
 refine aP 18 rfl (qA rfl) rfl ?_
 refine C5 (nS ?_)
 (refine H7 Pk.here (fun G5 hle5 hsl5 hno5 => ?_))
 refine tT (rB (rS ?_))
 refine C8 (rT rfl) (rC rfl (A3 rfl rfl)) (rT rfl) ?_
 (refine K9.two hsl5 (J4 _) (J4 _) (J4 _) ?_; rw [U4 (by omega)]; first | (rw [if_pos ⟨by assumption, by assumption⟩, if_neg (by omega)]; rfl) | (rw [if_neg (fun hc => by first | exact Bool.noConfusion (hc.1.symm.trans (by assumption)) | exact Bool.noConfusion (hc.2.symm.trans (by assumption)) | exact Bool.noConfusion (hc.symm.trans (by assumption)))]; rfl))
 refine A4I (l' := [tt,tt,ff,tt,tt,tt,tt,tt,tt,tt,tt,tt,tt,tt,tt,ff,ff,ff,ff]) rfl rfl rfl rfl ?_
 refine aP 15 rfl (N4 rfl rfl) rfl ?_
 refine A2 2 ?_
 (refine E3 rfl (D7 rfl rfl rfl (by omega) (by unfold maxLen; omega) rfl) rfl rfl ?_; rintro _ ⟨b521, rfl⟩)
 refine aP 16 rfl (qA rfl) rfl ?_
 refine A2 17 ?_
 refine H0 rfl ?_
 refine aP 18 rfl (qA rfl) rfl ?_
 refine C5 (nS ?_)
 (refine H7 Pk.here (fun G5 hle5 hsl5 hno5 => ?_))
 refine tT (rB (rS ?_))
 refine C8 (rT rfl) (rC rfl (A3 rfl rfl)) (rT rfl) ?_
 (refine K9.two hsl5 (J4 _) (J4 _) (J4 _) ?_; rw [U4 (by omega)]; first | (rw [if_pos ⟨by assumption, by assumption⟩, if_neg (by omega)]; rfl) | (rw [if_neg (fun hc => by first | exact Bool.noConfusion (hc.1.symm.trans (by assumption)) | exact Bool.noConfusion (hc.2.symm.trans (by assumption)) | exact Bool.noConfusion (hc.symm.trans (by assumption)))]; rfl))
 refine sQ (qA rfl) rfl (sD (nS (cF rfl (tR ?_))))
 refine sB (qE rfl rfl) rfl rfl (fun h539 => ?_) (fun h539 => ?_)
 refine C3 ?_
 refine sE (A5 rfl) rfl (fun b547 => ?_)
 refine D3 ?_
 refine sP (A0o rfl rfl (by omega)) rfl rfl ?_
 refine D8 ?_
 (have hl2 : n = 2 := hop.1 (by omega); obtain ⟨b0, o0, q0, d0, hp0, hat0, hre0, hg0⟩ := hsl.kidD hkl (i := 0) (by omega) (by omega); obtain ⟨b1, o1, q1, d1, hp1, hat1, hre1, hg1⟩ := hsl.kidD hkl (i := 1) (by omega) (by omega); cases hp0; cases hp1; refine D5 D6 rfl ?_)
 refine L3 (i := 0) (l' := [tt,ff,ff,ff,ff,ff,ff,ff,ff,ff,ff,ff,ff,ff,ff,ff,ff,ff,ff]) rfl D0 (A3 rfl rfl) rfl (by kernel_rfl) rfl rfl ?_
 refine aL 1 rfl (A3 rfl rfl) rfl ?_
 refine aL 3 rfl (A3 rfl rfl) rfl ?_
 refine aP 4 rfl (qM rfl) rfl ?_
 refine aP 5 rfl (A8 (j := 0) rfl rfl rfl (by omega)) rfl ?_
 refine aL 6 rfl (A0 rfl rfl (hat0 _) rfl) rfl ?_
 refine aL 7 rfl (A3 rfl rfl) rfl ?_
 refine Q0 (j := 2) (j' := 8) (by kernel_rfl) ?_ ?_
 (refine E3 rfl (D7 rfl rfl rfl (by omega) (by unfold maxLen; omega) rfl) rfl rfl ?_; rintro _ ⟨b575, rfl⟩)
 refine A2 8 ?_
 refine S3 rfl rfl ((Y7 _ _ _ _ _ hre0 (J4 _))) rfl rfl rfl (fun h577 => ?_) (fun h577 => ?_)
 refine aP 9 rfl (qM rfl) rfl ?_
 refine aP 10 rfl (qM rfl) rfl ?_
 refine aP 11 rfl (A8 (j := 1) rfl rfl rfl (by omega)) rfl ?_
 refine aL 12 rfl (A0 rfl rfl (hat1 _) rfl) rfl ?_
 refine aL 13 rfl (A3 rfl rfl) rfl ?_
 refine A2 14 ?_
 refine S3 rfl rfl ((Y7 _ _ _ _ _ hre1 (J4 _))) rfl rfl rfl (fun h584 => ?_) (fun h584 => ?_)
 refine aP 15 rfl (L4 rfl rfl) rfl ?_
 refine aP 16 rfl (qA rfl) rfl ?_
 refine A2 17 ?_
 refine H0 rfl ?_
 refine aP 18 rfl (qA rfl) rfl ?_
 refine C5 (nS ?_)
 (refine H7 Pk.here (fun G5 hle5 hsl5 hno5 => ?_))
 refine tT (rB (rS ?_))
 refine C8 (rT rfl) (rC rfl (A3 rfl rfl)) (rT rfl) ?_
 (refine K9.two hsl5 (J4 _) (J4 _) (Z2 _) ?_; rw [U4 (by omega)]; first | (rw [if_pos ⟨by assumption, by assumption⟩, if_pos (by omega)]; rfl) | (rw [if_neg (fun hc => by first | exact Bool.noConfusion (hc.1.symm.trans (by assumption)) | exact Bool.noConfusion (hc.2.symm.trans (by assumption)) | exact Bool.noConfusion (hc.symm.trans (by assumption)))]; rfl))
 refine aP 15 rfl (L4 rfl rfl) rfl ?_
 refine aP 16 rfl (qA rfl) rfl ?_
 refine A2 17 ?_
 refine H0 rfl ?_
 refine aP 18 rfl (qA rfl) rfl ?_
 refine C5 (nS ?_)
 (refine H7 Pk.here (fun G5 hle5 hsl5 hno5 => ?_))
 refine tT (rB (rS ?_))
 refine C8 (rT rfl) (rC rfl (A3 rfl rfl)) (rT rfl) ?_
 (refine K9.two hsl5 (J4 _) (J4 _) (Z2 _) ?_; rw [U4 (by omega)]; first | (rw [if_pos ⟨by assumption, by assumption⟩, if_pos (by omega)]; rfl) | (rw [if_neg (fun hc => by first | exact Bool.noConfusion (hc.1.symm.trans (by assumption)) | exact Bool.noConfusion (hc.2.symm.trans (by assumption)) | exact Bool.noConfusion (hc.symm.trans (by assumption)))]; rfl))
 refine aP 9 rfl (qM rfl) rfl ?_
 refine B8 10 rfl rfl rfl ?_
 refine B8 11 rfl rfl rfl ?_
 refine B8 12 rfl rfl rfl ?_
 refine B8 13 rfl rfl rfl ?_
 refine B8 14 rfl rfl rfl ?_
 refine aP 15 rfl (N4 rfl rfl) rfl ?_
 refine aP 16 rfl (qA rfl) rfl ?_
 refine A2 17 ?_
 refine H0 rfl ?_
 refine aP 18 rfl (qA rfl) rfl ?_
 refine C5 (nS ?_)
 (refine H7 Pk.here (fun G5 hle5 hsl5 hno5 => ?_))
 refine tT (rB (rS ?_))
 refine C8 (rT rfl) (rC rfl (A3 rfl rfl)) (rT rfl) ?_
 (refine K9.two hsl5 (J4 _) (J4 _) (Z2 _) ?_; rw [U4 (by omega)]; first | (rw [if_pos ⟨by assumption, by assumption⟩, if_pos (by omega)]; rfl) | (rw [if_neg (fun hc => by first | exact Bool.noConfusion (hc.1.symm.trans (by assumption)) | exact Bool.noConfusion (hc.2.symm.trans (by assumption)) | exact Bool.noConfusion (hc.symm.trans (by assumption)))]; rfl))
 refine S3 rfl rfl ((Y7 _ _ _ _ _ hre0 (J4 _))) rfl rfl rfl (fun h630 => ?_) (fun h630 => ?_)
 refine aP 9 rfl (qM rfl) rfl ?_
 refine aP 10 rfl (qM rfl) rfl ?_
 refine aP 11 rfl (A8 (j := 1) rfl rfl rfl (by omega)) rfl ?_
 refine aL 12 rfl (A0 rfl rfl (hat1 _) rfl) rfl ?_
 refine aL 13 rfl (A3 rfl rfl) rfl ?_
 refine Q0 (j := 2) (j' := 14) (by kernel_rfl) ?_ ?_
 (refine E3 rfl (D7 rfl rfl rfl (by omega) (by unfold maxLen; omega) rfl) rfl rfl ?_; rintro _ ⟨b637, rfl⟩)
 refine A2 14 ?_
 refine S3 rfl rfl ((Y7 _ _ _ _ _ hre1 (J4 _))) rfl rfl rfl (fun h639 => ?_) (fun h639 => ?_)
 refine aP 15 rfl (L4 rfl rfl) rfl ?_
 refine aP 16 rfl (qA rfl) rfl ?_
 refine A2 17 ?_
 refine H0 rfl ?_
 refine aP 18 rfl (qA rfl) rfl ?_
 refine C5 (nS ?_)
 (refine H7 Pk.here (fun G5 hle5 hsl5 hno5 => ?_))
 refine tT (rB (rS ?_))
 refine C8 (rT rfl) (rC rfl (A3 rfl rfl)) (rT rfl) ?_
 (refine K9.two hsl5 (J4 _) (J4 _) (Z2 _) ?_; rw [U4 (by omega)]; first | (rw [if_pos ⟨by assumption, by assumption⟩, if_pos (by omega)]; rfl) | (rw [if_neg (fun hc => by first | exact Bool.noConfusion (hc.1.symm.trans (by assumption)) | exact Bool.noConfusion (hc.2.symm.trans (by assumption)) | exact Bool.noConfusion (hc.symm.trans (by assumption)))]; rfl))
 refine aP 15 rfl (L4 rfl rfl) rfl ?_
 refine aP 16 rfl (qA rfl) rfl ?_
 refine A2 17 ?_
 refine H0 rfl ?_
 refine aP 18 rfl (qA rfl) rfl ?_
 refine C5 (nS ?_)
 (refine H7 Pk.here (fun G5 hle5 hsl5 hno5 => ?_))
 refine tT (rB (rS ?_))
 refine C8 (rT rfl) (rC rfl (A3 rfl rfl)) (rT rfl) ?_
 (refine K9.two hsl5 (J4 _) (J4 _) (Z2 _) ?_; rw [U4 (by omega)]; first | (rw [if_pos ⟨by assumption, by assumption⟩, if_pos (by omega)]; rfl) | (rw [if_neg (fun hc => by first | exact Bool.noConfusion (hc.1.symm.trans (by assumption)) | exact Bool.noConfusion (hc.2.symm.trans (by assumption)) | exact Bool.noConfusion (hc.symm.trans (by assumption)))]; rfl))
 refine S3 rfl rfl ((Y7 _ _ _ _ _ hre1 (J4 _))) rfl rfl rfl (fun h666 => ?_) (fun h666 => ?_)
 refine aP 15 rfl (L4 rfl rfl) rfl ?_
 refine A2 2 ?_
 (refine E3 rfl (D7 rfl rfl rfl (by omega) (by unfold maxLen; omega) rfl) rfl rfl ?_; rintro _ ⟨b669, rfl⟩)
 refine aP 16 rfl (qA rfl) rfl ?_
 refine A2 17 ?_
 refine H0 rfl ?_
 refine aP 18 rfl (qA rfl) rfl ?_
 refine C5 (nS ?_)
 (refine H7 Pk.here (fun G5 hle5 hsl5 hno5 => ?_))
 refine tT (rB (rS ?_))
 refine C8 (rT rfl) (rC rfl (A3 rfl rfl)) (rT rfl) ?_
 (refine K9.two hsl5 (J4 _) (J4 _) (Z2 _) ?_; rw [U4 (by omega)]; first | (rw [if_pos ⟨by assumption, by assumption⟩, if_pos (by omega)]; rfl) | (rw [if_neg (fun hc => by first | exact Bool.noConfusion (hc.1.symm.trans (by assumption)) | exact Bool.noConfusion (hc.2.symm.trans (by assumption)) | exact Bool.noConfusion (hc.symm.trans (by assumption)))]; rfl))
 refine aP 15 rfl (L4 rfl rfl) rfl ?_
 refine A2 2 ?_
 (refine E3 rfl (D7 rfl rfl rfl (by omega) (by unfold maxLen; omega) rfl) rfl rfl ?_; rintro _ ⟨b684, rfl⟩)
 refine aP 16 rfl (qA rfl) rfl ?_
 refine A2 17 ?_
 refine H0 rfl ?_
 refine aP 18 rfl (qA rfl) rfl ?_
 refine C5 (nS ?_)
 (refine H7 Pk.here (fun G5 hle5 hsl5 hno5 => ?_))
 refine tT (rB (rS ?_))
 refine C8 (rT rfl) (rC rfl (A3 rfl rfl)) (rT rfl) ?_
 (refine K9.two hsl5 (J4 _) (J4 _) (Z2 _) ?_; rw [U4 (by omega)]; first | (rw [if_pos ⟨by assumption, by assumption⟩, if_pos (by omega)]; rfl) | (rw [if_neg (fun hc => by first | exact Bool.noConfusion (hc.1.symm.trans (by assumption)) | exact Bool.noConfusion (hc.2.symm.trans (by assumption)) | exact Bool.noConfusion (hc.symm.trans (by assumption)))]; rfl))
 refine aP 9 rfl (qM rfl) rfl ?_
 refine B8 10 rfl rfl rfl ?_
 refine B8 11 rfl rfl rfl ?_
 refine B8 12 rfl rfl rfl ?_
 refine B8 13 rfl rfl rfl ?_
 refine Q0 (j := 2) (j' := 14) (by kernel_rfl) ?_ ?_
 (refine E3 rfl (D7 rfl rfl rfl (by omega) (by unfold maxLen; omega) rfl) rfl rfl ?_; rintro _ ⟨b703, rfl⟩)
 refine B8 14 rfl rfl rfl ?_
 refine aP 15 rfl (N4 rfl rfl) rfl ?_
 refine aP 16 rfl (qA rfl) rfl ?_
 refine A2 17 ?_
 refine H0 rfl ?_
 refine aP 18 rfl (qA rfl) rfl ?_
 refine C5 (nS ?_)
 (refine H7 Pk.here (fun G5 hle5 hsl5 hno5 => ?_))
 refine tT (rB (rS ?_))
 refine C8 (rT rfl) (rC rfl (A3 rfl rfl)) (rT rfl) ?_
 (refine K9.two hsl5 (J4 _) (J4 _) (Z2 _) ?_; rw [U4 (by omega)]; first | (rw [if_pos ⟨by assumption, by assumption⟩, if_pos (by omega)]; rfl) | (rw [if_neg (fun hc => by first | exact Bool.noConfusion (hc.1.symm.trans (by assumption)) | exact Bool.noConfusion (hc.2.symm.trans (by assumption)) | exact Bool.noConfusion (hc.symm.trans (by assumption)))]; rfl))
 refine A4I (l' := [tt,tt,ff,tt,tt,tt,tt,tt,tt,tt,tt,tt,tt,tt,tt,ff,ff,ff,ff]) rfl rfl rfl rfl ?_
 refine aP 15 rfl (N4 rfl rfl) rfl ?_
 refine A2 2 ?_
 (refine E3 rfl (D7 rfl rfl rfl (by omega) (by unfold maxLen; omega) rfl) rfl rfl ?_; rintro _ ⟨b721, rfl⟩)
 refine aP 16 rfl (qA rfl) rfl ?_
 refine A2 17 ?_
 refine H0 rfl ?_
 refine aP 18 rfl (qA rfl) rfl ?_
 refine C5 (nS ?_)
 (refine H7 Pk.here (fun G5 hle5 hsl5 hno5 => ?_))
 refine tT (rB (rS ?_))
 refine C8 (rT rfl) (rC rfl (A3 rfl rfl)) (rT rfl) ?_
 (refine K9.two hsl5 (J4 _) (J4 _) (Z2 _) ?_; rw [U4 (by omega)]; first | (rw [if_pos ⟨by assumption, by assumption⟩, if_pos (by omega)]; rfl) | (rw [if_neg (fun hc => by first | exact Bool.noConfusion (hc.1.symm.trans (by assumption)) | exact Bool.noConfusion (hc.2.symm.trans (by assumption)) | exact Bool.noConfusion (hc.symm.trans (by assumption)))]; rfl))
 refine sQ (qA rfl) rfl (sD (nS (cF rfl (tS (tR ?_)))))
 refine sB (qE rfl rfl) rfl rfl (fun h740 => ?_) (fun h740 => ?_)
 refine sQ (qA rfl) rfl (sD (nS (qT rfl (tS (tS ?_)))))
 (have hl3 : n = 3 := hop.2.1 (by omega); obtain ⟨b0, o0, q0, d0, hp0, hat0, hre0, hg0⟩ := hsl.kidD hkl (i := 0) (by omega) (by omega); obtain ⟨b1, o1, q1, d1, hp1, hat1, hre1, hg1⟩ := hsl.kidD hkl (i := 1) (by omega) (by omega); cases hp0; cases hp1; obtain ⟨b2, o2, q2, d2, hp2, hat2, hre2, hg2⟩ := hsl.kidD hkl (i := 2) (by omega) (by omega); cases hp2; refine D5 D6 rfl ?_)
 refine J6 (i := 0) (l' := [tt,ff,ff,ff,ff,ff,ff,ff,ff,ff,ff,ff,ff,ff,ff,ff]) rfl D0 (qM rfl) rfl (by kernel_rfl) rfl rfl ?_
 refine aP 1 rfl (A8 (j := 0) rfl rfl rfl (by omega)) rfl ?_
 refine aL 2 rfl (A0 rfl rfl (hat0 _) rfl) rfl ?_
 refine aL 3 rfl (A3 rfl rfl) rfl ?_
 refine A2 4 ?_
 refine S3 rfl rfl ((Y7 _ _ _ _ _ hre0 (Z2 _))) rfl rfl rfl (fun h753 => ?_) (fun h753 => ?_)
 refine aP 5 rfl (U0 rfl) rfl ?_
 refine aP 6 rfl (qM rfl) rfl ?_
 refine aP 7 rfl (qM rfl) rfl ?_
 refine aP 8 rfl (A8 (j := 1) rfl rfl rfl (by omega)) rfl ?_
 refine aL 9 rfl (A0 rfl rfl (hat1 _) rfl) rfl ?_
 refine aP 10 rfl (qM rfl) rfl ?_
 refine aP 11 rfl (A8 (j := 2) rfl rfl rfl (by omega)) rfl ?_
 refine aL 12 rfl (A0 rfl rfl (hat2 _) rfl) rfl ?_
 refine A2 13 ?_
 refine S3 rfl rfl ((Y7 _ _ _ _ _ hre1 hre2)) rfl rfl rfl (fun h763 => ?_) (fun h763 => ?_)
 refine aP 14 rfl (U0 rfl) rfl ?_
 refine aP 15 rfl (N4 rfl rfl) rfl ?_
 refine C5 (nS (cF rfl (tK (nS (tS ?_)))))
 (have hl3 : n = 3 := hop.2.1 (by omega); obtain ⟨b0, o0, q0, d0, hp0, hat0, hre0, hg0⟩ := hsl.kidD hkl (i := 0) (by omega) (by omega); obtain ⟨b1, o1, q1, d1, hp1, hat1, hre1, hg1⟩ := hsl.kidD hkl (i := 1) (by omega) (by omega); cases hp0; cases hp1; obtain ⟨b2, o2, q2, d2, hp2, hat2, hre2, hg2⟩ := hsl.kidD hkl (i := 2) (by omega) (by omega); cases hp2; refine D5 D6 rfl ?_)
 refine J6 (i := 0) (l' := [tt,ff,ff,ff,ff,ff,ff,ff,ff]) rfl D0 (qM rfl) rfl (by kernel_rfl) rfl rfl ?_
 refine aP 1 rfl (A8 (j := 1) rfl rfl rfl (by omega)) rfl ?_
 refine aL 2 rfl (A0 rfl rfl (hat1 _) rfl) rfl ?_
 refine aP 3 rfl (qM rfl) rfl ?_
 refine aP 4 rfl (A8 (j := 2) rfl rfl rfl (by omega)) rfl ?_
 refine aL 5 rfl (A0 rfl rfl (hat2 _) rfl) rfl ?_
 refine Q0 (j := 6) (j' := 7) (by kernel_rfl) ?_ ?_
 (refine E9 rfl rfl (A7U _ _ _ _ _ (by assumption) (A2K har (by omega)) (A2K har (by omega)) hre1 hre2) rfl rfl rfl (fun v GM hleM hh => ?_); obtain ⟨cM, rfl, hrM⟩ := hh; obtain ⟨p7, c7, e7, rfl, _⟩ := hrM.open)
 refine A2 7 ?_
 (refine E3 rfl (A5 rfl) rfl rfl ?_; rintro _ ⟨b782, rfl⟩)
 refine A2 8 ?_
 refine H0 rfl ?_
 refine C5 (nS (tS ?_))
 (have hl3 : n = 3 := hop.2.1 (by omega); obtain ⟨b0, o0, q0, d0, hp0, hat0, hre0, hg0⟩ := hsl.kidD hkl (i := 0) (by omega) (by omega); obtain ⟨b1, o1, q1, d1, hp1, hat1, hre1, hg1⟩ := hsl.kidD hkl (i := 1) (by omega) (by omega); cases hp0; cases hp1; obtain ⟨b2, o2, q2, d2, hp2, hat2, hre2, hg2⟩ := hsl.kidD hkl (i := 2) (by omega) (by omega); cases hp2; refine D5 D6 rfl ?_)
 refine L3 (i := 0) (l' := [tt,ff,ff,ff,ff,ff,ff,ff]) rfl D0 (A3 rfl rfl) rfl (by kernel_rfl) rfl rfl ?_
 refine aL 1 rfl (A3 rfl rfl) rfl ?_
 refine aL 2 rfl (A3 rfl rfl) rfl ?_
 refine aL 4 rfl (A3 rfl rfl) rfl ?_
 refine A2 3 ?_
 (refine E3 rfl (D7 rfl rfl rfl (by omega) (by unfold maxLen; omega) rfl) rfl rfl ?_; rintro _ ⟨b794, rfl⟩)
 refine aP 5 rfl (qA rfl) rfl ?_
 refine A2 6 ?_
 refine H0 rfl ?_
 refine aP 7 rfl (qA rfl) rfl ?_
 refine C5 (nS ?_)
 (refine H7 Pk.here (fun G5 hle5 hsl5 hno5 => ?_))
 refine tT (rB (rS ?_))
 refine C8 (rT rfl) (rC rfl (A3 rfl rfl)) (rT rfl) ?_
 (have hk1 : k = 9 := (by omega); subst hk1; exact K9.three hsl5 (Z2 _) (hrM.mono hle5) (hrM.mono hle5) (hrM.mono hle5) (by rw [mW9, if_pos ⟨by assumption, by assumption⟩]; rfl))
 (refine E3 rfl (A5 rfl) rfl rfl ?_; rintro _ ⟨b807, rfl⟩)
 refine A2 6 ?_
 (refine E9 rfl rfl (A7U _ _ _ _ _ (by assumption) (A2K har (by omega)) (A2K har (by omega)) hre1 hre2) rfl rfl rfl (fun v GM hleM hh => ?_); obtain ⟨cM, rfl, hrM⟩ := hh; obtain ⟨p7, c7, e7, rfl, _⟩ := hrM.open)
 refine A2 8 ?_
 refine H0 rfl ?_
 refine C5 (nS (tS ?_))
 (have hl3 : n = 3 := hop.2.1 (by omega); obtain ⟨b0, o0, q0, d0, hp0, hat0, hre0, hg0⟩ := hsl.kidD hkl (i := 0) (by omega) (by omega); obtain ⟨b1, o1, q1, d1, hp1, hat1, hre1, hg1⟩ := hsl.kidD hkl (i := 1) (by omega) (by omega); cases hp0; cases hp1; obtain ⟨b2, o2, q2, d2, hp2, hat2, hre2, hg2⟩ := hsl.kidD hkl (i := 2) (by omega) (by omega); cases hp2; refine D5 D6 rfl ?_)
 refine L3 (i := 0) (l' := [tt,ff,ff,ff,ff,ff,ff,ff]) rfl D0 (A3 rfl rfl) rfl (by kernel_rfl) rfl rfl ?_
 refine aL 1 rfl (A3 rfl rfl) rfl ?_
 refine aL 2 rfl (A3 rfl rfl) rfl ?_
 refine aL 4 rfl (A3 rfl rfl) rfl ?_
 refine A2 3 ?_
 (refine E3 rfl (D7 rfl rfl rfl (by omega) (by unfold maxLen; omega) rfl) rfl rfl ?_; rintro _ ⟨b821, rfl⟩)
 refine aP 5 rfl (qA rfl) rfl ?_
 refine A2 6 ?_
 refine H0 rfl ?_
 refine aP 7 rfl (qA rfl) rfl ?_
 refine C5 (nS ?_)
 (refine H7 Pk.here (fun G5 hle5 hsl5 hno5 => ?_))
 refine tT (rB (rS ?_))
 refine C8 (rT rfl) (rC rfl (A3 rfl rfl)) (rT rfl) ?_
 (have hk1 : k = 9 := (by omega); subst hk1; exact K9.three hsl5 (Z2 _) (hrM.mono hle5) (hrM.mono hle5) (hrM.mono hle5) (by rw [mW9, if_pos ⟨by assumption, by assumption⟩]; rfl))
 refine aP 14 rfl (pNf rfl) rfl ?_
 refine aP 15 rfl (N4 rfl rfl) rfl ?_
 refine H3 ?_
 refine C8 (rT rfl) (rC rfl (A3 rfl rfl)) (rT rfl) ?_
 (have hk1 : k = 9 := (by omega); subst hk1; exact K9.nil (u := B5) (O4 _ ⟨by omega, by omega⟩) (by rw [mW9, if_neg (fun hc => by first | exact Bool.noConfusion (hc.1.symm.trans (by assumption)) | exact Bool.noConfusion (hc.2.symm.trans (by assumption)) | exact Bool.noConfusion (hc.symm.trans (by assumption)))]; rfl))
 refine aP 5 rfl (pNf rfl) rfl ?_
 refine aP 6 rfl (qM rfl) rfl ?_
 refine B8 7 rfl rfl rfl ?_
 refine B8 8 rfl rfl rfl ?_
 refine B8 9 rfl rfl rfl ?_
 refine B8 10 rfl rfl rfl ?_
 refine B8 11 rfl rfl rfl ?_
 refine B8 12 rfl rfl rfl ?_
 refine B8 13 rfl rfl rfl ?_
 refine B8 14 rfl rfl rfl ?_
 refine aP 15 rfl (L4 rfl rfl) rfl ?_
 refine H3 ?_
 refine C8 (rT rfl) (rC rfl (A3 rfl rfl)) (rT rfl) ?_
 (have hk1 : k = 9 := (by omega); subst hk1; exact K9.nil (u := B5) (O4 _ ⟨by omega, by omega⟩) (by rw [mW9, if_neg (fun hc => by first | exact Bool.noConfusion (hc.1.symm.trans (by assumption)) | exact Bool.noConfusion (hc.2.symm.trans (by assumption)) | exact Bool.noConfusion (hc.symm.trans (by assumption)))]; rfl))
 refine sQ (qA rfl) rfl (sD (nS (cF rfl (tS (tR ?_)))))
 refine sB (qE rfl rfl) rfl rfl (fun h887 => ?_) (fun h887 => ?_)
 refine sQ (qA rfl) rfl (sD (nS (qT rfl (tS ?_))))
 (have hl2 : n = 2 := hop.1 (by omega); obtain ⟨b0, o0, q0, d0, hp0, hat0, hre0, hg0⟩ := hsl.kidD hkl (i := 0) (by omega) (by omega); obtain ⟨b1, o1, q1, d1, hp1, hat1, hre1, hg1⟩ := hsl.kidD hkl (i := 1) (by omega) (by omega); cases hp0; cases hp1; refine D5 D6 rfl ?_)
 refine J6 (i := 0) (l' := [tt,ff,ff,ff,ff,ff,ff,ff,ff,ff]) rfl D0 (qM rfl) rfl (by kernel_rfl) rfl rfl ?_
 refine aP 1 rfl (A8 (j := 0) rfl rfl rfl (by omega)) rfl ?_
 refine aL 2 rfl (A0 rfl rfl (hat0 _) rfl) rfl ?_
 refine aP 3 rfl (qM rfl) rfl ?_
 refine aP 4 rfl (A8 (j := 1) rfl rfl rfl (by omega)) rfl ?_
 refine aL 5 rfl (A0 rfl rfl (hat1 _) rfl) rfl ?_
 refine A2 6 ?_
 (refine E9 rfl rfl (A1K 5 _ _ _ _ _ ⟨by omega, by omega⟩ hre0 hre1) rfl rfl rfl (fun v GB hleB hh => ?_); obtain ⟨cB, rfl, hrB⟩ := hh; obtain ⟨p7, c7, e7, rfl, _⟩ := hrB.open)
 refine aP 7 rfl (qA rfl) rfl ?_
 refine A2 8 ?_
 refine H0 rfl ?_
 refine aP 9 rfl (qA rfl) rfl ?_
 refine C5 (nS (tT (rB (rS ?_))))
 refine C8 (rT rfl) (rC rfl (A3 rfl rfl)) (rT rfl) ?_
 (have hk1 : k = 10 := (by omega); subst hk1; exact K9.nil hrB A4b)
 refine sQ (qA rfl) rfl (sD (nS (cF rfl (tS (tR ?_)))))
 refine sB (qE rfl rfl) rfl rfl (fun h919 => ?_) (fun h919 => ?_)
 refine sQ (qA rfl) rfl (sD (nS (qT rfl (tS ?_))))
 (have hl1 : n = 1 := hop.2.2 (by omega); obtain ⟨b0, o0, q0, d0, hp0, hat0, hre0, hg0⟩ := hsl.kidD hkl (i := 0) (by omega) (by omega); cases hp0; refine D5 D6 rfl ?_)
 refine J6 (i := 0) (l' := [tt,ff,ff,ff,ff,ff,ff,ff,ff,ff,ff,ff,ff,ff]) rfl D0 (B0 rfl) rfl (by kernel_rfl) rfl rfl ?_
 refine aL 1 rfl (A3 rfl rfl) rfl ?_
 refine aP 3 rfl (B0 rfl) rfl ?_
 refine aL 4 rfl (A3 rfl rfl) rfl ?_
 refine aP 5 rfl (qM rfl) rfl ?_
 refine aP 6 rfl (A8 (j := 0) rfl rfl rfl (by omega)) rfl ?_
 refine aL 7 rfl (A0 rfl rfl (hat0 _) rfl) rfl ?_
 refine aP 8 rfl (B0 rfl) rfl ?_
 refine aL 9 rfl (A3 rfl rfl) rfl ?_
 refine Q0 (j := 2) (j' := 10) (by kernel_rfl) ?_ ?_
 (refine E3 rfl (D7 rfl rfl rfl (by omega) (by unfold maxLen; omega) rfl) rfl rfl ?_; rintro _ ⟨b936, rfl⟩)
 refine A2 10 ?_
 refine S3 rfl rfl ((Y7 _ _ _ _ _ hre0 hrty)) rfl rfl rfl (fun h938 => ?_) (fun h938 => ?_)
 refine aP 11 rfl (qA rfl) rfl ?_
 refine A2 12 ?_
 refine H0 rfl ?_
 refine aP 13 rfl (qA rfl) rfl ?_
 refine C5 (nS ?_)
 (refine H7 Pk.here (fun G5 hle5 hsl5 hno5 => ?_))
 refine tT (rB (rS ?_))
 refine C8 (rT rfl) (rC rfl (A3 rfl rfl)) (rT rfl) ?_
 (have hk1 : k = 13 := (by omega); subst hk1; refine K9.one hsl5 (hrty.mono hle5) (hrty.mono hle5) ?_; rw [A2f]; split <;> first | rfl | (exfalso; simp_all; done))
 refine aP 11 rfl (qA rfl) rfl ?_
 refine A2 12 ?_
 refine H0 rfl ?_
 refine aP 13 rfl (qA rfl) rfl ?_
 refine C5 (nS ?_)
 (refine H7 Pk.here (fun G5 hle5 hsl5 hno5 => ?_))
 refine tT (rB (rS ?_))
 refine C8 (rT rfl) (rC rfl (A3 rfl rfl)) (rT rfl) ?_
 (have hk1 : k = 13 := (by omega); subst hk1; refine K9.one hsl5 (hrty.mono hle5) (hrty.mono hle5) ?_; rw [A2f]; split <;> first | rfl | (exfalso; simp_all; done))
 refine S3 rfl rfl ((Y7 _ _ _ _ _ hre0 hrty)) rfl rfl rfl (fun h963 => ?_) (fun h963 => ?_)
 refine A2 2 ?_
 (refine E3 rfl (D7 rfl rfl rfl (by omega) (by unfold maxLen; omega) rfl) rfl rfl ?_; rintro _ ⟨b965, rfl⟩)
 refine aP 11 rfl (qA rfl) rfl ?_
 refine A2 12 ?_
 refine H0 rfl ?_
 refine aP 13 rfl (qA rfl) rfl ?_
 refine C5 (nS ?_)
 (refine H7 Pk.here (fun G5 hle5 hsl5 hno5 => ?_))
 refine tT (rB (rS ?_))
 refine C8 (rT rfl) (rC rfl (A3 rfl rfl)) (rT rfl) ?_
 (have hk1 : k = 13 := (by omega); subst hk1; refine K9.one hsl5 (hrty.mono hle5) (hrty.mono hle5) ?_; rw [A2f]; split <;> first | rfl | (exfalso; simp_all; done))
 refine A2 2 ?_
 (refine E3 rfl (D7 rfl rfl rfl (by omega) (by unfold maxLen; omega) rfl) rfl rfl ?_; rintro _ ⟨b979, rfl⟩)
 refine aP 11 rfl (qA rfl) rfl ?_
 refine A2 12 ?_
 refine H0 rfl ?_
 refine aP 13 rfl (qA rfl) rfl ?_
 refine C5 (nS ?_)
 (refine H7 Pk.here (fun G5 hle5 hsl5 hno5 => ?_))
 refine tT (rB (rS ?_))
 refine C8 (rT rfl) (rC rfl (A3 rfl rfl)) (rT rfl) ?_
 (have hk1 : k = 13 := (by omega); subst hk1; refine K9.one hsl5 (hrty.mono hle5) (hrty.mono hle5) ?_; rw [A2f]; split <;> first | rfl | (exfalso; simp_all; done))
 refine I8 ?_
 (have hk11 : k = 11 ∨ k = 12 := (by omega); have hl1 : n = 1 := hop.2.2 (by omega); obtain ⟨b0, o0, q0, d0, hp0, hat0, hre0, hg0⟩ := hsl.kidD hkl (i := 0) (by omega) (by omega); cases hp0; refine sP (A8 (j := 0) rfl rfl rfl (by omega)) rfl rfl ?_)
 refine sL (A0 rfl rfl (hat0 _) rfl) rfl rfl ?_
 (refine D2 rfl (A7T 5 (h.getD 0 B5) G _ (.inr rfl) (A2K har (by omega)) hre0) rfl rfl (fun v G1 hle1 hh => ?_); obtain ⟨ma, mca, mb, mcb, rfl, hma, hmb, hma2, hmb2, hmm⟩ := hh; obtain ⟨p1, c1, e1, rfl, _⟩ := hma.open; obtain ⟨p2, c2, e2, rfl, _⟩ := hmb.open)
 refine H8 ?_
 refine sE (A5 rfl) rfl (fun b1009 => ?_)
 refine sE (A5 rfl) rfl (fun b1010 => ?_)
 refine D3 ?_
 refine sE (A5 rfl) rfl (fun b1019 => ?_)
 refine D3 ?_
 refine sB (qE rfl rfl) rfl rfl (fun h1028 => ?_) (fun h1028 => ?_)
 refine D8 ?_
 (have hl1 : n = 1 := hop.2.2 (by omega); obtain ⟨b0, o0, q0, d0, hp0, hat0, hre0, hg0⟩ := hsl.kidD hkl (i := 0) (by omega) (by omega); cases hp0; refine D5 D6 rfl ?_)
 refine L3 (i := 0) (l' := [tt,ff,ff,ff,ff,ff,ff,ff,ff]) rfl D0 (A3 rfl rfl) rfl (by kernel_rfl) rfl rfl ?_
 refine aL 1 rfl (A3 rfl rfl) rfl ?_
 refine aL 4 rfl (A3 rfl rfl) rfl ?_
 refine aP 5 rfl (qM rfl) rfl ?_
 refine A2 2 ?_
 (refine E9 rfl rfl (A1K _ ma mb _ _ _ ⟨by omega, by omega⟩ hma hmb) rfl rfl rfl (fun v GB hleB hh => ?_); obtain ⟨cB, rfl, hrB⟩ := hh; obtain ⟨p7, c7, e7, rfl, _⟩ := hrB.open; have hma' := hma.mono hleB; have hmb' := hmb.mono hleB)
 refine A2 3 ?_
 (refine E3 rfl (D7 rfl rfl rfl (by omega) (by unfold maxLen; omega) rfl) rfl rfl ?_; rintro _ ⟨b1046, rfl⟩)
 refine aP 6 rfl (qA rfl) rfl ?_
 refine A2 7 ?_
 refine H0 rfl ?_
 refine aP 8 rfl (qA rfl) rfl ?_
 refine C5 (nS ?_)
 (refine H7 Pk.here (fun G5 hle5 hsl5 hno5 => ?_))
 refine tT ?_
 refine C8 (rT rfl) (rC rfl (A3 rfl rfl)) (rT rfl) ?_
 (refine K9.one hsl5 (hrB.mono hle5) (hmb'.mono hle5) ?_; rw [A2L (by omega)]; cases hq : R1 5 (h.getD 0 B5) with | none => rfl | some q => (have hq2 := hmm q hq; subst hq2; dsimp only; rw [if_pos (by omega)]; rfl))
 refine sD (nS (cF rfl (tK (nS (tS ?_)))))
 (have hl1 : n = 1 := hop.2.2 (by omega); obtain ⟨b0, o0, q0, d0, hp0, hat0, hre0, hg0⟩ := hsl.kidD hkl (i := 0) (by omega) (by omega); cases hp0; refine D5 D6 rfl ?_)
 refine L3 (i := 0) (l' := [tt,ff,ff,ff,ff,ff,ff,ff,ff]) rfl D0 (A3 rfl rfl) rfl (by kernel_rfl) rfl rfl ?_
 refine aL 1 rfl (A3 rfl rfl) rfl ?_
 refine aL 4 rfl (A3 rfl rfl) rfl ?_
 refine aP 5 rfl (qM rfl) rfl ?_
 refine A2 2 ?_
 (refine E9 rfl rfl (A1K _ ma mb _ _ _ ⟨by omega, by omega⟩ hma hmb) rfl rfl rfl (fun v GB hleB hh => ?_); obtain ⟨cB, rfl, hrB⟩ := hh; obtain ⟨p7, c7, e7, rfl, _⟩ := hrB.open; have hma' := hma.mono hleB; have hmb' := hmb.mono hleB)
 refine A2 3 ?_
 (refine E3 rfl (D7 rfl rfl rfl (by omega) (by unfold maxLen; omega) rfl) rfl rfl ?_; rintro _ ⟨b1071, rfl⟩)
 refine aP 6 rfl (qA rfl) rfl ?_
 refine A2 7 ?_
 refine H0 rfl ?_
 refine aP 8 rfl (qA rfl) rfl ?_
 refine C5 (nS ?_)
 (refine H7 Pk.here (fun G5 hle5 hsl5 hno5 => ?_))
 refine tT ?_
 refine C8 (rT rfl) (rC rfl (A3 rfl rfl)) (rT rfl) ?_
 (refine K9.one hsl5 (hrB.mono hle5) (hma'.mono hle5) ?_; rw [A2L (by omega)]; cases hq : R1 5 (h.getD 0 B5) with | none => rfl | some q => (have hq2 := hmm q hq; subst hq2; dsimp only; rw [if_neg (by omega)]; rfl))
theorem A7V {cx : Cx} {k : Int} {nm : ByteArray} {ty : Ty} {h w : List Ty} {t : Ty} (he : Y9 cx k nm ty h = some (w, t)) : F4 t = true ∧ O0 cx k nm ty h = some (w, t) := by
 unfold Y9 at he
 split at he
 ·rename_i w' t' hw
  split at he
  ·cases he; exact ⟨by assumption, hw⟩
  ·cases he
 ·cases he
theorem B2b {cx : Cx} {k : Int} {nm : ByteArray} {ty : Ty} {h w : List Ty} {t : Ty} (hop : (k = 6 ∨ k = 7 ∨ k = 8 ∨ k = 10 → h.length = 2) ∧ (k = 9 → h.length = 3) ∧ (k = 5 ∨ k = 11 ∨ k = 12 ∨ k = 13 → h.length = 1)) (hk : 1 ≤ k ∧ k ≤ 14) (h14 : k ≠ 14) (he : O0 cx k nm ty h = some (w, t)) : w.length ≤ h.length := by
 have hkk : k = 1 ∨ k = 2 ∨ (k = 3 ∨ k = 4) ∨ k = 5 ∨ k = 6 ∨ (k = 7 ∨ k = 8) ∨ k = 9 ∨ k = 10 ∨ (k = 11 ∨ k = 12) ∨ k = 13 := by omega
 rcases hkk with rfl | rfl | hk | rfl | rfl | hk | rfl | rfl | hk | rfl
 ·rw [mW1] at he; split at he <;> cases he; simp
 ·rw [mW2] at he; cases he; simp
 ·rw [A3l hk] at he; cases he; simp
 ·rw [mW5] at he; cases he; simp
 ·rw [mW6] at he
  split at he
  ·split at he <;> cases he
   have := hop.1 (by omega); simp [this]
  ·cases he
 ·rw [U4 hk] at he
  split at he <;> cases he
  have := hop.1 (by omega); simp [this]
 ·rw [mW9] at he
  split at he <;> cases he
  have := hop.2.1 (by omega); simp [this]
 ·rw [A4b] at he; cases he; simp
 ·rw [A2L hk] at he
  split at he
  ·cases he; have := hop.2.2 (by omega); simp [this]
  ·cases he
 ·rw [A2f] at he
  split at he <;> cases he
  have := hop.2.2 (by omega); simp [this]
theorem Q4.snoc {G G' : IM} {cx : Cx} {n : Nat} {p' : Option Addr} {c' : Nat} {es : List (List Value)} {e : List Value} {nm : ByteArray} {t : Ty} (h1 : n = cx.length) (hl : es.length = n) (h2 : ∀ x ∈ es, x.length = 3) (h3 : ∀ x ∈ es, x.all (·.oneCell') = true)
  (h4 : ∀ (i : Nat) (b : ByteArray × Ty), cx[i]? = some b → ∃ e, es[i]? = some e ∧ A2J G b e) (hg : B7 G G') (he : A2J G' (nm, t) e) (hs : Sl G' p' (n + 1) c' 3 (es.flatten ++ e)) : Q4 G' (cx ++ [(nm, t)]) p' (n + 1) c' := by
 have hel : e.length = 3 ∧ e.all (·.oneCell') = true := by obtain ⟨q, d, rfl, _⟩ := he; exact ⟨rfl, rfl⟩
 refine ⟨by simp [h1], es ++ [e], C4.of (by simpa using hs) (by simp [hl]) ?_ ?_, ?_⟩
 ·simp only [List.forall_mem_append, List.forall_mem_singleton]; exact ⟨h2, hel.1⟩
 ·simp only [List.forall_mem_append, List.forall_mem_singleton]; exact ⟨h3, hel.2⟩
 ·intro i b hb
  rw [List.getElem?_append] at hb ⊢
  split at hb
  ·rename_i hi
   obtain ⟨e', he', hr⟩ := h4 i b hb
   rw [if_pos (by omega)]
   exact ⟨e', he', hr.mono hg⟩
  ·rename_i hi
   have : i - cx.length = 0 := by
    apply Classical.byContradiction; intro hc
    rw [List.getElem?_eq_none (by simp; omega)] at hb; cases hb
   rw [this] at hb
   simp only [List.getElem?_cons_zero, Option.some.injEq] at hb
   subst hb
   rw [if_neg (by omega)]
   exact ⟨e, by rw [show i - es.length = 0 by omega]; rfl, he⟩
theorem B2c (G : IM) (p : Option Addr) (n c : Nat) (es : List (List Value)) (h : C4 G p n c 3 es) (hn : n ≤ 4294967296) :
  Fn Tryz.prog 90 [.slice p n c] [] G (fun G' v outs => G' = G ∧ ∃ p' c', v = .slice p' n c' ∧ outs = [.slc p' c' 106 3 n es.flatten]) := by
 have hp := h.sl.nn
 have hS := h.sl
 have hone : ∀ u ∈ es.flatten, u.oneCell' = true := by
  intro u hu
  obtain ⟨e, he, hue⟩ := List.mem_flatten.1 hu
  exact List.all_eq_true.1 (h.one e he) u hue
 refine B4 Tryz.func90 rfl Tryz.ntmps90 Tryz.results90 rfl ?_
 intro w0
 cases p with
 | none =>
  obtain rfl := hp rfl
  obtain rfl : es = [] := List.length_eq_zero_iff.1 h.len
  refine S2 106 3 ?_
  refine D8 ?_
  refine sQ (A9Q rfl rfl rfl) rfl ?_
  refine I8 ?_
  refine N9 (rT rfl) A7.refl ?_
  exact ⟨rfl, _, _, rfl, rfl⟩
 | some a =>
  refine D8 ?_
  refine sQ (A56 rfl rfl rfl) rfl ?_
  refine sD (nS (cF rfl (tK (nS (tS (tR ?_))))))
  (refine K6 (D7 rfl rfl rfl (by omega) (by unfold maxLen; omega) rfl) rfl ?_; rintro _ ⟨b18, rfl⟩)
  refine sQ (qM rfl) rfl ?_
  refine A3d rfl rfl rfl rfl rfl (fun _ _ => by repeat (first | exact Sw.here | apply Sw.there)) hS hone (Nat.zero_le _) (by unfold maxLen; omega) (by omega) rfl (fun pn cn => ?_)
  refine sQ (qA rfl) rfl (sD (nS (tT ?_)))
  refine N9 (rT rfl) A7.refl ?_
  exact ⟨rfl, _, _, by rw [Nat.zero_add], by rw [Nat.zero_add]; rfl⟩
theorem W2.no {r : Option Ty} {G G' : IM} {cu : List Value} {u : Ty} {b : Bool} (hu : B6 G' u cu) (hb : b = false) (h : r = none) : W2 r G G' (.tuple ⟨[.agg ⟨cu⟩, .bool b]⟩) [] := by
 subst hb h
 exact ⟨rfl, cu, u, rfl, hu, by simp⟩
theorem W2.yes {r : Option Ty} {G G' : IM} {cu : List Value} {u : Ty} {b : Bool} (hu : B6 G' u cu) (hb : b = true) (h : r = some u) : W2 r G G' (.tuple ⟨[.agg ⟨cu⟩, .bool b]⟩) [] := by
 subst hb h
 exact ⟨rfl, cu, u, rfl, hu, fun t ht => by cases ht; rfl⟩
section
variable {cx : Cx} {k : Int} {nm : ByteArray} {num : Int} {ty fr : Ty} {lb : Int} {ks : List Tm}
theorem A3m {us w : List Ty} {t : Ty} (h : O0 cx k nm ty us = some (w, t)) {b : Bool} (hb : F4 t = b) : Y9 cx k nm ty us = if b = true then some (w, t) else none := by
 unfold Y9; rw [h]; simp only [hb]
theorem B2d {us : List Ty} (h : O0 cx k nm ty us = none) : Y9 cx k nm ty us = none := by
 unfold Y9; rw [h]
end
def B2e (r : Tm) : Tm × Bool := if P7 r = true then (r, true) else (K7, false)
def B4Y (t : Tm) (path : List Int) (x : Tm) : Tm × Bool := if P7 t = true ∧ P7 x = true ∧ tAt t path ≠ none then B2e (A7K t path x) else (K7, false)
mutual
theorem A5l (D N : Int) : ∀ (t : Tm) (d d' : Int), d' ≤ d → N5 D N t d = true → N5 D N t d' = true
 | .mk k nm num ty fr lb ks, d, d', hd, h => by
  obtain ⟨h1, h2, h3, h4⟩ := A0Q h
  rw [A02 (by omega) h2 h3]
  exact A4c D N ks _ _ (by omega) h4
theorem A4c (D N : Int) : ∀ (ts : List Tm) (d d' : Int), d' ≤ d → N6 D N ts d = true → N6 D N ts d' = true
 | [], d, d', hd, h => by rw [N6]
 | t :: ts, d, d', hd, h => by
  rw [N6, Bool.and_eq_true] at h ⊢
  exact ⟨A5l D N t d d' hd h.1, A4c D N ts d d' hd h.2⟩
end
def I0 : List Tm → List Ty → List Ty → Int → List Tm × Int
 | u :: us, a :: h, b :: w, l => if M4 a b = true then (u :: (I0 us h w l).1, (I0 us h w l).2) else (K8 u a b (l + 1) :: (I0 us h w (l + 1)).1, (I0 us h w (l + 1)).2)
 | us, _, _, l => (us, l)
def A1p (cx : Cx) (k : Int) (nm : ByteArray) (num : Int) (ty fr : Ty) (lb : Int) (us : List Tm) (h : List Ty) (l : Int) : Option (Tm × Ty × Int) :=
 match Y9 cx k nm ty h with
 | none => none
 | some (w, t) => some (if k = 13 then (I0 us h w l).1.getD 0 K7 else .mk k nm num ty fr lb (I0 us h w l).1, t, (I0 us h w l).2)
mutual
def M7 (cx : Cx) : Tm → Int → Option (Tm × Ty × Int)
 | .mk k nm num ty fr lb ks, l => match M5 (O6 cx k nm ty) ks l with
  | none => none
  | some (us, h, l') => A1p cx k nm num ty fr lb us h l'
def M5 (cx : Cx) : List Tm → Int → Option (List Tm × List Ty × Int)
 | [], l => some ([], [], l)
 | t :: ts, l => match M7 cx t l with
  | none => none
  | some (u, a, l') => match M5 cx ts l' with
   | none => none
   | some (us, h, l'') => some (u :: us, a :: h, l'')
end
def V4 (e : Tm) : Option (Tm × Ty) := if P0 e = true then (match M7 [] e 0 with | some (u, t, _) => some (u, t) | none => none) else none
def V5 (cx : Cx) (k : Int) (nm : ByteArray) (ty : Ty) (h : List Ty) : Option Ty := match O0 cx k nm ty h with
 | some (_, t) => if (k = 5 ∨ k = 10) ∧ F4 t = false then none else some t
 | none => none
mutual
def P3 (cx : Cx) : Tm → Option Ty
 | .mk k nm num ty fr lb ks => match U5 (O6 cx k nm ty) ks with
  | none => none
  | some h => V5 cx k nm ty h
def U5 (cx : Cx) : List Tm → Option (List Ty)
 | [] => some []
 | t :: ts => match P3 cx t with
  | none => none
  | some a => match U5 cx ts with
   | none => none
   | some h => some (a :: h)
end
theorem A4d (k : Int) (ks : List Ty) (d : Int) : K4 (.mk k ks) d = (decide (d ≤ 4) && decide (A0r k = ks.length) && T3 ks (d + 1)) := by rw [K4]
mutual
theorem A3n : ∀ (t : Ty) (d e : Int), e ≤ d → K4 t d = true → K4 t e = true
 | .mk k ks, d, e, h, hs => by
  rw [A4d, Bool.and_eq_true, Bool.and_eq_true, decide_eq_true_eq, decide_eq_true_eq] at hs ⊢
  exact ⟨⟨by omega, hs.1.2⟩, A7W ks (d + 1) (e + 1) (by omega) hs.2⟩
theorem A7W : ∀ (ts : List Ty) (d e : Int), e ≤ d → T3 ts d = true → T3 ts e = true
 | [], d, e, h, hs => by rw [T3]
 | t :: ts, d, e, h, hs => by
  rw [T3, Bool.and_eq_true] at hs ⊢
  exact ⟨A3n t d e h hs.1, A7W ts d e h hs.2⟩
end
mutual
theorem A5m : ∀ (a b : Ty) (d : Int), J5 a b = true → K4 a d = true → K4 b d = true → K4 (T6 a b) d = true
 | .mk k ks, .mk k' ks', d, hc, ha, hb => by
  rw [A2A]
  split
  ·exact hb
  ·split
   ·exact ha
   ·rw [W0] at hc
    rw [A4d, Bool.and_eq_true, Bool.and_eq_true, decide_eq_true_eq, decide_eq_true_eq] at ha hb ⊢
    simp only [Bool.or_eq_true, Bool.and_eq_true, decide_eq_true_eq] at hc
    obtain ⟨hk, hl⟩ : k = k' ∧ O9 ks ks' = true := by
     rcases hc with (h | h) | h
     ·contradiction
     ·contradiction
     ·exact h
    subst hk
    obtain ⟨m1, m2⟩ := A7X ks ks' (d + 1) hl ha.2 hb.2
    exact ⟨⟨ha.1.1, by rw [m2]; exact ha.1.2⟩, m1⟩
theorem A7X : ∀ (xs ys : List Ty) (d : Int), O9 xs ys = true → T3 xs d = true → T3 ys d = true → T3 (S7 xs ys) d = true ∧ (S7 xs ys).length = xs.length
 | [], [], d, _, _, _ => by simp [S7, T3]
 | [], b :: ys, d, hc, _, _ => by simp [O9] at hc
 | a :: xs, [], d, hc, _, _ => by simp [O9] at hc
 | a :: xs, b :: ys, d, hc, ha, hb => by
  rw [O9, Bool.and_eq_true] at hc
  rw [T3, Bool.and_eq_true] at ha hb
  obtain ⟨m1, m2⟩ := A7X xs ys d hc.2 ha.2 hb.2
  rw [S7, T3, Bool.and_eq_true]
  exact ⟨⟨A5m a b d hc.1 ha.1 hb.1, m1⟩, by simp [m2]⟩
end
theorem A5n {cx : Cx} (h : ∀ b ∈ cx, F4 b.2 = true) {nm : ByteArray} {t : Ty} : ∀ {n : Nat}, A0l cx nm n = some t → F4 t = true
 | 0, hl => by simp [A0l] at hl
 | n + 1, hl => by
  rw [A0l] at hl
  split at hl
  ·rename_i b hb
   split at hl
   ·cases hl; exact h b (List.mem_of_getElem? hb)
   ·exact A5n h hl
  ·exact A5n h hl
theorem A7Y {k : Int} {t a b : Ty} (hk : k = 4 ∨ k = 5) (ht : F4 t = true) (h : R1 k t = some (a, b)) : F4 a = true ∧ F4 b = true := by
 obtain ⟨tk, ks⟩ := t
 rw [show R1 k (.mk tk ks) = (if tk = k then some (ks.getD 0 B5, ks.getD 1 B5) else if tk = 1 then some (R8, R8) else none) from rfl] at h
 by_cases he : tk = k
 ·rw [if_pos he] at h
  cases h
  unfold F4 at ht ⊢
  rw [A4d, Bool.and_eq_true, Bool.and_eq_true, decide_eq_true_eq, decide_eq_true_eq] at ht
  have h2 : ks.length = 2 := by
   have : A0r tk = 2 := by rw [he]; rcases hk with rfl | rfl <;> rfl
   omega
  match ks, h2, ht.2 with
  | [x, y], _, hL =>
   simp only [T3, Bool.and_eq_true] at hL
   exact ⟨A3n _ 2 1 (by omega) hL.1, A3n _ 2 1 (by omega) hL.2.1⟩
 ·rw [if_neg he] at h
  by_cases h1 : tk = 1
  ·rw [if_pos h1] at h
   cases h
   exact ⟨by decide, by decide⟩
  ·rw [if_neg h1] at h; cases h
theorem B2f {l : List Ty} {i : Nat} (h : i < l.length) : l.getD i B5 ∈ l := by
 rw [List.getD_eq_getElem?_getD, List.getElem?_eq_getElem h, Option.getD_some]; exact List.getElem_mem h
theorem B2g {cx : Cx} {k : Int} {nm : ByteArray} {ty : Ty} {h w : List Ty} {t : Ty} (hcx : ∀ b ∈ cx, F4 b.2 = true) (hh : ∀ a ∈ h, F4 a = true) (hd : F4 (h.getD 0 B5) = true ∨ h = []) (hty : k = 13 → F4 ty = true) (hn : D9 k = (h.length : Int)) (hw : O0 cx k nm ty h = some (w, t)) (h510 : k ≠ 5 ∧ k ≠ 10) : F4 t = true := by
 have hg : ∀ i, i < h.length → F4 (h.getD i B5) = true := fun i hi => hh _ (B2f hi)
 unfold O0 at hw
 split at hw
 ·split at hw
  ·rename_i u hu; cases hw; exact A5n hcx hu
  ·cases hw
 split at hw
 ·cases hw; decide
 split at hw
 ·cases hw; decide
 split at hw
 ·exact absurd (by assumption) h510.1
 split at hw
 ·rename_i hk6
  have hl : h.length = 2 := by have : D9 k = 2 := (by rw [hk6]; rfl); omega
  split at hw
  ·rename_i a b hm
   split at hw
   ·cases hw; exact (A7Y (.inl rfl) (hg 0 (by omega)) hm).2
   ·cases hw
  ·cases hw
 split at hw
 ·split at hw
  ·cases hw; split <;> decide
  ·cases hw
 split at hw
 ·rename_i hk9
  have hl : h.length = 3 := by have : D9 k = 3 := (by rw [hk9]; rfl); omega
  split at hw
  ·rename_i hc
   cases hw
   exact A5m _ _ 1 hc.2 (hg 1 (by omega)) (hg 2 (by omega))
  ·cases hw
 split at hw
 ·exact absurd (by assumption) h510.2
 split at hw
 ·split at hw
  ·cases hw; exact hty (by assumption)
  ·cases hw
 ·split at hw
  ·rename_i a b hm
   have hl : h.length ≠ 0 := by
    intro h0
    rw [List.length_eq_zero_iff] at h0
    subst h0
    rw [show R1 5 (([] : List Ty).getD 0 B5) = none from rfl] at hm
    cases hm
   cases hw
   have := A7Y (.inr rfl) (hg 0 (by omega)) hm
   split
   ·exact this.2
   ·exact this.1
  ·cases hw
end Gw
end Go.Proofs.YtfpgncjeejickaaGreat
