/-
  The program's InsertCasts, TypeOf.
-/
import Derived.Test.YtgodjiieijekiaaGreatDoorKb4
import Derived.Test.YtgodjiieijekiaaGreatDoorKb3
import Derived.Test.YtgodjiieijekiaaGreatDoorKb2
import Derived.Test.YtgodjiieijekiaaGreatDoorKb1
set_option linter.unusedVariables false
set_option linter.unusedSimpArgs false
set_option maxHeartbeats 0
set_option maxRecDepth 100000
set_option synthInstance.maxSize 4000
set_option synthInstance.maxHeartbeats 0
namespace Go.Proofs.YtgodjiieijekiaaGreatDoor
open Go Go.RowKit
namespace Gw
def B7i (r : Option (Tm × Ty)) : IM → Value → List A4 → Prop := I9 fun G' v => ∃ cu ct, v = .tuple ⟨[.agg ⟨cu⟩, .agg ⟨ct⟩, .bool r.isSome]⟩ ∧ B1 G' (r.getD (H7, B8)).1 cu ∧ C3 G' (r.getD (H7, B8)).2 ct
theorem B4k {e : Tm} (h : M5 e = false) : A1Y e = none := by unfold A1Y; rw [if_neg (by rw [h]; decide)]
theorem B4l {e : Tm} (h : M5 e = true) (h2 : mEl [] e 0 = none) : A1Y e = none := by unfold A1Y; rw [if_pos h, h2]
theorem B4m {e u : Tm} {t : Ty} {l : Int} (h : M5 e = true) (h2 : mEl [] e 0 = some (u, t, l)) : A1Y e = some (u, t) := by unfold A1Y; rw [if_pos h, h2]
def A1i (e : Tm) : Option Ty := match A1Y e with | some (_, t) => some t | none => none
theorem B4n {e : Tm} (h : M5 e = false) : A1i e = none := by unfold A1i; rw [B4k h]
def A9w (e : Tm) (fuel : Int) : ByteArray × Int × Int := match A1Y e with
 | none => (⟨⟨[]⟩⟩, 3, 0)
 | some (u, _) => if (A0d u fuel).2.1 = 0 then (Y3 (A0d u fuel).1, 0, 0) else (⟨⟨[]⟩⟩, (A0d u fuel).2.1, (A0d u fuel).2.2)
def B4o (r : ByteArray × Int × Int) (G : IM) : IM → Value → List A4 → Prop := I9 fun _ v => v = .tuple ⟨[.string r.1, .int .i64 r.2.1, .int .i64 r.2.2]⟩
def B4p (r s : ByteArray × Int × Int) : Int := if r.2.1 = 2 then 2 else if r.2.1 ≠ 0 ∨ s.2.1 = 4 ∨ s.2.1 = 5 then 3 else if s.2.1 = 0 ∧ r.1 = s.1 then 1 else 4
def B7j (a b : Tm) (fuel : Int) : Int := if (A1i a).isSome = true ∧ B3U a b = true ∧ P4 fuel 0 300 = true then B4p (A9w a fuel) (A9w b fuel) else 0
def gxT : GX → ByteArray
 | .n n => A9v n
 | .b b => if b = true then txT else txF
 | .p => A6C
 | .f => A6D
def GE.er : GE → GE
 | .var x => .var x
 | .num n => .num n
 | .tru b => .tru b
 | .lam x _ e => .lam x .any e.er
 | .app f a => .app f.er a.er
 | .ar s a b => .ar s a.er b.er
 | .ite c a b => .ite c.er a.er b.er
 | .pair a b => .pair a.er b.er
 | .part s e => .part s e.er
 | .cast _ _ _ e => e.er
def GE.nt : GE → Prop
 | .var _ => True
 | .num _ => True
 | .tru _ => True
 | .lam _ A e => A = .any ∧ e.nt
 | .app f a => f.nt ∧ a.nt
 | .ar _ a b => a.nt ∧ b.nt
 | .ite c a b => c.nt ∧ a.nt ∧ b.nt
 | .pair a b => a.nt ∧ b.nt
 | .part _ e => e.nt
 | .cast _ _ _ _ => False
inductive Sn : Nat → GE → GE → Prop
 | refl {e} : Sn 0 e e
 | step {n a b c} : GS a b → Sn n b c → Sn (n + 1) a c
def A3a (k : Int) : Int := if k = 6 then 1 else if k = 7 ∨ k = 8 then 2 else if k = 9 then 3 else if k = 11 ∨ k = 12 then 4 else 5
def X5 (k : Int) (ks : List Tm) : Z0 := match R7 k ks with
 | some u => (u, 1, 0)
 | none => (H7, 2, A3a k)
mutual
def K1 : Tm → Z0
 | .mk k nm num ty fr lb ks => match Y4 (if k = 9 then 1 else ks.length) ks with
  | some (ks', c, l) => if c = 1 then (.mk k nm num ty fr lb ks', 1, 0) else (H7, c, l)
  | none => X5 k ks
def Y4 : Nat → List Tm → Option (List Tm × Int × Int)
 | _, [] => none
 | n, t :: ts => match n with
  | 0 => none
  | n + 1 => if I8 t = true then (match Y4 n ts with
    | some (us, c, l) => some (t :: us, c, l)
    | none => none)
   else some ((K1 t).1 :: ts, (K1 t).2.1, (K1 t).2.2)
end
mutual
def W0 : Tm → Bool
 | .mk k _ _ ty _ _ ks => decide (k ≠ 14 ∧ (k ≠ 5 ∨ ty.k = 1)) && A4N ks
def A4N : List Tm → Bool
 | [] => true
 | t :: ts => W0 t && A4N ts
end
theorem A6E : ∀ ks, A4N ks = ks.all W0
 | [] => rfl
 | t :: ts => by rw [A4N, A6E ts, List.all_cons]
theorem A1j {k : Int} {nm : ByteArray} {num : Int} {ty fr : Ty} {lb : Int} {ks : List Tm} : W0 (.mk k nm num ty fr lb ks) = true ↔ (k ≠ 14 ∧ (k ≠ 5 ∨ ty.k = 1)) ∧ ∀ t ∈ ks, W0 t = true := by
 rw [W0, Bool.and_eq_true, decide_eq_true_eq, A6E, List.all_eq_true]
def Q1 (e : Tm) : Bool := N0 e && W0 e
def H8 (e : Tm) : Z0 :=
 if Q1 e = false then (H7, 3, 0) else if I8 e = true then (e, 0, 0)
 else if (K1 e).2.1 ≠ 1 then (H7, (K1 e).2.1, (K1 e).2.2)
 else if Q1 (K1 e).1 = false then (H7, 4, 0) else ((K1 e).1, 1, 0)
def P7 : Nat → Tm → Tm × Int × Int × Nat
 | 0, e => ((H8 e).1, (H8 e).2.1, (H8 e).2.2, 0)
 | n + 1, e => if (H8 e).2.1 = 1 then ((P7 n (H8 e).1).1, (P7 n (H8 e).1).2.1, (P7 n (H8 e).1).2.2.1, (P7 n (H8 e).1).2.2.2 + 1)
  else ((H8 e).1, (H8 e).2.1, (H8 e).2.2, 0)
def J4 : Nat → Tm → Tm × Int × Int × Nat
 | 0, e => if (H8 e).2.1 = 1 then (H7, 5, 0, 0) else ((H8 e).1, (H8 e).2.1, (H8 e).2.2, 0)
 | n + 1, e => if (H8 e).2.1 = 1 then ((J4 n (H8 e).1).1, (J4 n (H8 e).1).2.1, (J4 n (H8 e).1).2.2.1, (J4 n (H8 e).1).2.2.2 + 1)
  else ((H8 e).1, (H8 e).2.1, (H8 e).2.2, 0)
theorem A9x (e : Tm) : P7 0 e = ((H8 e).1, (H8 e).2.1, (H8 e).2.2, 0) := by rw [P7]
theorem A9y {n : Nat} {e : Tm} (h : (H8 e).2.1 = 1) : P7 (n + 1) e = ((P7 n (H8 e).1).1, (P7 n (H8 e).1).2.1, (P7 n (H8 e).1).2.2.1, (P7 n (H8 e).1).2.2.2 + 1) := by rw [P7, if_pos h]
theorem A9z {n : Nat} {e : Tm} (h : (H8 e).2.1 ≠ 1) : P7 (n + 1) e = ((H8 e).1, (H8 e).2.1, (H8 e).2.2, 0) := by rw [P7, if_neg h]
theorem A9A : ∀ (n : Nat) (e : Tm), (P7 n e).2.1 = 1 → J4 n e = (H7, 5, 0, (P7 n e).2.2.2)
 | 0, e, h => by rw [A9x] at h ⊢; rw [J4, if_pos h]
 | n + 1, e, h => by
  by_cases h1 : (H8 e).2.1 = 1
  ·rw [A9y h1] at h ⊢
   rw [J4, if_pos h1, A9A n _ h]
  ·rw [A9z h1] at h; exact absurd h h1
theorem A9B : ∀ (n : Nat) (e : Tm), (P7 n e).2.1 ≠ 1 → J4 n e = P7 n e
 | 0, e, h => by rw [A9x] at h ⊢; rw [J4, if_neg h]
 | n + 1, e, h => by
  by_cases h1 : (H8 e).2.1 = 1
  ·rw [A9y h1] at h ⊢
   rw [J4, if_pos h1, A9B n _ h]
  ·rw [A9z h1]; rw [J4, if_neg h1]
theorem B4q {m i : Nat} {e : Tm} (h : (H8 e).2.1 ≠ 1 ∨ m = 0) : A2A i (P7 m e) = ((H8 e).1, (H8 e).2.1, (H8 e).2.2, i) := by
 cases m with
 | zero => simp [A2A, P7]
 | succ m =>
  rcases h with h | h
  ·simp only [A2A, P7]; rw [if_neg h]; simp
  ·cases h
theorem B4r {m i : Nat} {e : Tm} (h : (H8 e).2.1 = 1) (hm : 0 < m) : A2A i (P7 m e) = A2A (i + 1) (P7 (m - 1) (H8 e).1) := by
 obtain ⟨k, rfl⟩ : ∃ k, m = k + 1 := ⟨m - 1, by omega⟩
 simp only [A2A, P7]; rw [if_pos h]; simp only [Nat.add_sub_cancel, Nat.add_assoc, Nat.add_comm 1 i]
def U1 (e : Tm) (fuel : Int) : Z0 := if 0 ≤ fuel ∧ fuel ≤ 300 then ((J4 fuel.toNat e).1, (J4 fuel.toNat e).2.1, (J4 fuel.toNat e).2.2.1) else (H7, 3, 0)
def B7k (e : Tm) (fuel : Int) : Int := if 0 ≤ fuel ∧ fuel ≤ 300 then ((J4 fuel.toNat e).2.2.2 : Int) else 0
theorem A6F (n : Nat) (t : Tm) (ts : List Tm) : Y4 (n + 1) (t :: ts) = if I8 t = true then (match Y4 n ts with | some (us, c, l) => some (t :: us, c, l) | none => none) else some ((K1 t).1 :: ts, (K1 t).2.1, (K1 t).2.2) := by
 rw [Y4]
theorem A9C : ∀ (n : Nat) (ks : List Tm), (∀ i, i < n → (h : i < ks.length) → I8 ks[i] = true) → Y4 n ks = none
 | n, [], _ => by cases n <;> rfl
 | 0, t :: ts, _ => rfl
 | n + 1, t :: ts, h => by
  rw [A6F, if_pos (show I8 t = true from h 0 (by omega) (by simp)), A9C n ts (fun i hi hl => h (i + 1) (by omega) (by simpa using hl))]
theorem A9D : ∀ (n : Nat) (ks : List Tm) (i : Nat) (hi : i < ks.length), i < n → (∀ j, j < i → (h : j < ks.length) → I8 ks[j] = true) → I8 ks[i] = false → Y4 n ks = some (ks.set i (K1 ks[i]).1, (K1 ks[i]).2.1, (K1 ks[i]).2.2)
 | n, [], i, hi, _, _, _ => by simp at hi
 | 0, t :: ts, i, _, hn, _, _ => by omega
 | n + 1, t :: ts, 0, _, _, _, hv => by
  rw [A6F, if_neg (by rw [show I8 t = false from hv]; decide)]; rfl
 | n + 1, t :: ts, i + 1, hi, hn, hj, hv => by
  rw [A6F, if_pos (show I8 t = true from hj 0 (by omega) (by simp)), A9D n ts i (by simpa using hi) (by omega) (fun j hji hl => hj (j + 1) (by omega) (by simpa using hl)) hv]
  rfl
theorem B4s {k : Int} {nm : ByteArray} {num : Int} {ty fr : Ty} {lb : Int} {ks : List Tm} (h : (K1 (.mk k nm num ty fr lb ks)).2.1 = 1) : (K1 (.mk k nm num ty fr lb ks)).2.2 = 0 := by
 rw [K1] at h ⊢
 cases hL : Y4 (if k = 9 then 1 else ks.length) ks with
 | none =>
  rw [hL] at h
  simp only [X5] at h ⊢
  cases hr : R7 k ks with
  | none => rw [hr] at h; cases h
  | some u => rfl
 | some p =>
  obtain ⟨us, c, l⟩ := p
  rw [hL] at h
  simp only at h ⊢
  by_cases hc : c = 1
  ·rw [if_pos hc]
  ·rw [if_neg hc] at h; exact absurd h hc
theorem B4t {t : Tm} (h : (K1 t).2.1 = 1) : (K1 t).2.2 = 0 := by cases t; exact B4s h
theorem A6G {k : Int} {nm : ByteArray} {num : Int} {ty fr : Ty} {lb : Int} {ks : List Tm} {i : Nat} (hi : i < ks.length) (hn : i < (if k = 9 then 1 else ks.length)) (hj : ∀ j, j < i → (h : j < ks.length) → I8 ks[j] = true) (hv : I8 ks[i] = false) :
  (K1 (.mk k nm num ty fr lb ks)).2.1 = (K1 ks[i]).2.1 ∧ (K1 (.mk k nm num ty fr lb ks)).2.2 = (K1 ks[i]).2.2 ∧ ((K1 ks[i]).2.1 = 1 → (K1 (.mk k nm num ty fr lb ks)).1 = .mk k nm num ty fr lb (ks.set i (K1 ks[i]).1)) := by
 rw [K1, A9D _ ks i hi hn hj hv]
 simp only
 by_cases hc : (K1 ks[i]).2.1 = 1
 ·rw [if_pos hc]
  exact ⟨hc.symm, (B4t hc).symm, fun _ => rfl⟩
 ·rw [if_neg hc]
  exact ⟨rfl, rfl, fun h => absurd h hc⟩
theorem B4u {k : Int} {nm : ByteArray} {num : Int} {ty fr : Ty} {lb : Int} {ks : List Tm} (h : ∀ i, i < (if k = 9 then 1 else ks.length) → (hl : i < ks.length) → I8 ks[i] = true) : K1 (.mk k nm num ty fr lb ks) = X5 k ks := by
 rw [K1, A9C _ _ h]
theorem A4O {k : Int} {ks : List Tm} {u : Tm} (h : R7 k ks = some u) : X5 k ks = (u, 1, 0) := by unfold X5; rw [h]
theorem A2B {k : Int} {ks : List Tm} (h : R7 k ks = none) : X5 k ks = (H7, 2, A3a k) := by unfold X5; rw [h]
theorem B4v {e : Tm} (h : Q1 e = false) : H8 e = (H7, 3, 0) := by unfold H8; rw [if_pos h]
theorem A9E {e : Tm} (h : Q1 e = true) (h2 : I8 e = true) : H8 e = (e, 0, 0) := by unfold H8; rw [if_neg (by rw [h]; decide), if_pos h2]
theorem A9F {e : Tm} (h : Q1 e = true) (h2 : I8 e = false) (h3 : (K1 e).2.1 ≠ 1) : H8 e = (H7, (K1 e).2.1, (K1 e).2.2) := by
 unfold H8; rw [if_neg (by rw [h]; decide), if_neg (by rw [h2]; decide), if_pos h3]
theorem A6H {e : Tm} (h : Q1 e = true) (h2 : I8 e = false) (h3 : (K1 e).2.1 = 1) (h4 : Q1 (K1 e).1 = false) : H8 e = (H7, 4, 0) := by
 unfold H8; rw [if_neg (by rw [h]; decide), if_neg (by rw [h2]; decide), if_neg (by omega), if_pos h4]
theorem A6I {e : Tm} (h : Q1 e = true) (h2 : I8 e = false) (h3 : (K1 e).2.1 = 1) (h4 : Q1 (K1 e).1 = true) : H8 e = ((K1 e).1, 1, 0) := by
 unfold H8; rw [if_neg (by rw [h]; decide), if_neg (by rw [h2]; decide), if_neg (by omega), if_neg (by rw [h4]; decide)]
theorem A4P {e : Tm} (h : Q1 e = true) : N0 e = true ∧ W0 e = true := by
 unfold Q1 at h; rwa [Bool.and_eq_true] at h
section
variable {k : Int} {nm : ByteArray} {num : Int} {ty fr : Ty} {lb : Int} {a b c : Tm} {t : Tm} {l : Int}
theorem A3W (h : I8 a = false) (ks : List Tm) (r : Tm) (hs : K1 a = (r, 1, 0)) : K1 (.mk k nm num ty fr lb (a :: ks)) = (.mk k nm num ty fr lb (r :: ks), 1, 0) := by
 have : ∃ n, (if k = 9 then 1 else (a :: ks).length) = n + 1 := ⟨if k = 9 then 0 else ks.length, by split <;> simp⟩
 obtain ⟨n, hn⟩ := this
 rw [K1, hn, Y4, if_neg (by rw [h]; decide), hs]
 simp
theorem A6J (h0 : I8 a = true) (h : I8 b = false) (hk : k ≠ 9) (r : Tm) (hs : K1 b = (r, 1, 0)) : K1 (.mk k nm num ty fr lb [a, b]) = (.mk k nm num ty fr lb [a, r], 1, 0) := by
 rw [K1, if_neg hk]
 simp only [List.length_cons, List.length_nil, Y4, h0, h, if_true, hs]
 simp
theorem A9G (h : I8 a = true) : K1 (.mk k nm num ty fr lb [a]) = X5 k [a] := by
 rw [K1, show (if k = 9 then 1 else [a].length) = 1 by split <;> rfl, Y4, h]
 simp [Y4]
theorem A6K (h : I8 a = true) (h2 : I8 b = true) (hk : k ≠ 9) : K1 (.mk k nm num ty fr lb [a, b]) = X5 k [a, b] := by
 rw [K1, if_neg hk]
 simp [Y4, h, h2]
theorem A9H (h : I8 a = true) : K1 (.mk 9 nm num ty fr lb [a, b, c]) = X5 9 [a, b, c] := by
 rw [K1, if_pos rfl]
 simp [Y4, h]
end
theorem A9I {x : ByteArray} {v : GE} (hv : v.nt) : ∀ e : GE, e.nt → (e.sub x v).nt := by
 intro e
 induction e with
 | var y => intro _; rw [GE.sub]; split; exact hv; trivial
 | num n => intro h; exact h
 | tru b => intro h; exact h
 | lam y A e i => intro h; rw [GE.sub]; split; exact h; exact ⟨h.1, i h.2⟩
 | app f a i j => intro h; exact ⟨i h.1, j h.2⟩
 | ar s a b i j => intro h; exact ⟨i h.1, j h.2⟩
 | ite c a b i j k => intro h; exact ⟨i h.1, j h.2.1, k h.2.2⟩
 | pair a b i j => intro h; exact ⟨i h.1, j h.2⟩
 | part s e i => intro h; exact i h
 | cast A B l e i => intro h; exact h.elim
theorem A9J {e r : GE} (h : GS e r) : e.nt → K1 e.tm = (r.tm, 1, 0) ∧ r.nt := by
 induction h with
 | app1 s i => exact fun h => ⟨by rw [GE.tm, A3W (nv s) _ _ (i h.1).1, GE.tm], (i h.1).2, h.2⟩
 | app2 v s i => exact fun h => ⟨by rw [GE.tm, A6J ((A0k _).2 v) (nv s) (by decide) _ (i h.2).1, GE.tm], h.1, (i h.2).2⟩
 | ar1 s i => exact fun h => ⟨by rw [GE.tm, A3W (nv s) _ _ (i h.1).1, GE.tm], (i h.1).2, h.2⟩
 | @ar2 t _ _ _ v s i => exact fun h => ⟨by rw [GE.tm, A6J ((A0k _).2 v) (nv s) (by cases t <;> decide) _ (i h.2).1, GE.tm], h.1, (i h.2).2⟩
 | ite1 s i => exact fun h => ⟨by rw [GE.tm, A3W (nv s) _ _ (i h.1).1, GE.tm], (i h.1).2, h.2⟩
 | pair1 s i => exact fun h => ⟨by rw [GE.tm, A3W (nv s) _ _ (i h.1).1, GE.tm], (i h.1).2, h.2⟩
 | pair2 v s i => exact fun h => ⟨by rw [GE.tm, A6J ((A0k _).2 v) (nv s) (by decide) _ (i h.2).1, GE.tm], h.1, (i h.2).2⟩
 | part1 s i => exact fun h => ⟨by rw [GE.tm, A3W (nv s) _ _ (i h).1, GE.tm], (i h).2⟩
 | cast1 s i => exact fun h => h.elim
 | @beta x A b v hv =>
  intro h
  refine ⟨?_, A9I h.2 _ h.1.2⟩
  rw [GE.tm, A6K ((A0k _).2 .lam) ((A0k _).2 hv) (by decide), A4O (u := (b.sub x v).tm) (by rw [B3H]; rfl)]
 | appx _ _ => exact fun h => h.1.elim
 | @ar s m n =>
  intro h
  refine ⟨?_, by unfold A1V; split <;> trivial⟩
  rw [GE.tm, A6K rfl rfl (by cases s <;> decide)]
  cases s
  ·rfl
  ·by_cases hmn : m < n
   ·simp only [A1V, if_true, decide_eq_true hmn, GE.tm]
    refine A4O ?_
    simp only [R7, kd, List.getD_cons_zero, List.getD_cons_succ, Tm.k, Tm.num]
    simp [A1x, A0H, hmn]
   ·simp only [A1V, if_true, decide_eq_false hmn, GE.tm]
    refine A4O ?_
    simp only [R7, kd, List.getD_cons_zero, List.getD_cons_succ, Tm.k, Tm.num]
    simp [A1x, A0H, hmn]
 | @ite b x y =>
  intro h
  refine ⟨?_, by cases b; exact h.2.2; exact h.2.1⟩
  rw [GE.tm, A9H ((A0k _).2 .tru)]
  cases b <;> rfl
 | @part s a b v v2 =>
  intro h
  refine ⟨?_, by cases s; exact h.1; exact h.2⟩
  rw [GE.tm, A9G ((A0k _).2 (.pair v v2))]
  cases s <;> rfl
 | partx _ => exact fun h => h.elim
 | cid _ _ => exact fun h => h.elim
 | up _ _ _ => exact fun h => h.elim
 | down _ _ _ => exact fun h => h.elim
 | hit _ _ => exact fun h => h.elim
theorem A3b : ∀ e : GE, W0 e.tm = true ↔ e.nt := by
 intro e
 induction e with
 | var x => rw [GE.tm, A1j]; simp [GE.nt]
 | num n => rw [GE.tm, A1j]; simp [GE.nt]
 | tru b => rw [GE.tm, A1j]; cases b <;> simp [GE.nt]
 | lam x A e i => rw [GE.tm, A1j, A6r]; simp [GE.nt, i]
 | app f a i j => rw [GE.tm, A1j]; simp [GE.nt, i, j]
 | ar s a b i j => rw [GE.tm, A1j]; cases s <;> simp [GE.nt, i, j]
 | ite c a b i j k => rw [GE.tm, A1j]; simp [GE.nt, i, j, k]
 | pair a b i j => rw [GE.tm, A1j]; simp [GE.nt, i, j]
 | part s e i => rw [GE.tm, A1j]; cases s <;> simp [GE.nt, i]
 | cast A B l e i => rw [GE.tm, A1j]; simp [GE.nt]
theorem A9K {n : Nat} {e : Tm} (h : (H8 e).2.1 = 1) : J4 (n + 1) e = ((J4 n (H8 e).1).1, (J4 n (H8 e).1).2.1, (J4 n (H8 e).1).2.2.1, (J4 n (H8 e).1).2.2.2 + 1) := by rw [J4, if_pos h]
theorem B4w : ∀ {m : Nat} {e w : GE}, Sn m e w → GV w → e.nt → ∀ (n : Nat), N0 e.tm = true → ((J4 n e.tm).2.1 = 0 ∧ (J4 n e.tm).1 = w.tm ∧ (J4 n e.tm).2.2.2 = m ∧ (J4 n e.tm).2.2.1 = 0) ∨ (J4 n e.tm).2.1 = 4 ∨ ((J4 n e.tm).2.1 = 5 ∧ n < m) := by
 intro m e w h
 induction h with
 | @refl e =>
  intro hv hn n hc
  have hb : Q1 e.tm = true := by unfold Q1; rw [hc, (A3b e).2 hn]; rfl
  have : H8 e.tm = (e.tm, 0, 0) := A9E hb ((A0k _).2 hv)
  cases n with
  | zero => rw [J4, this]; exact .inl ⟨rfl, rfl, rfl, rfl⟩
  | succ n => rw [J4, this]; exact .inl ⟨rfl, rfl, rfl, rfl⟩
 | @step m a b c s _ ih =>
  intro hv hn n hc
  obtain ⟨hs, hnb⟩ := A9J s hn
  have hb : Q1 a.tm = true := by unfold Q1; rw [hc, (A3b a).2 hn]; rfl
  have hbb : Q1 b.tm = N0 b.tm := by unfold Q1; rw [(A3b b).2 hnb, Bool.and_true]
  cases hcb : N0 b.tm with
  | false =>
   have : H8 a.tm = (H7, 4, 0) := A6H hb (nv s) (by rw [hs]) (by rw [hs]; show Q1 b.tm = false; rw [hbb, hcb])
   cases n with
   | zero => rw [J4, this]; exact .inr (.inl rfl)
   | succ n => rw [J4, this]; exact .inr (.inl rfl)
  | true =>
   have : H8 a.tm = (b.tm, 1, 0) := by
    have h5 := A6I hb (nv s) (by rw [hs]) (by rw [hs]; show Q1 b.tm = true; rw [hbb, hcb])
    rw [h5, hs]
   cases n with
   | zero => rw [J4, this]; exact .inr (.inr ⟨rfl, Nat.succ_pos _⟩)
   | succ n =>
    rw [A9K (by rw [this]), this]
    rcases ih hv hnb n hcb with ⟨h1, h2, h3, h4⟩ | h1 | ⟨h1, h2⟩
    ·exact .inl ⟨h1, h2, by show (J4 n b.tm).2.2.2 + 1 = _; rw [h3], h4⟩
    ·exact .inr (.inl h1)
    ·exact .inr (.inr ⟨h1, by omega⟩)
def pAt (t : Tm) (label : Int) (l : List Int) : Bool := match tAt t l with
 | some x => decide (x.k = 14 ∧ x.lb = label)
 | none => false
def A6L (t : Tm) (label : Int) : List Int × Bool := match (B10 t).find? (pAt t label) with
 | some l => (l, true)
 | none => ([], false)
def SP1 (G : IM) (l : List Int) (p : Option Addr) (c : Nat) : Prop := Sl G p l.length c 1 (A3A l) ∧ ∀ b ∈ H5 p, G b ≠ none
def CpP (t : Tm) (label : Int) (G : IM) : IM → Value → List A4 → Prop := I9 fun G' v => ∃ p c, v = .tuple ⟨[.slice p (A6L t label).1.length c, .bool (A6L t label).2]⟩ ∧ SP1 (C4 G' G) (A6L t label).1 p c
mutual
def A2C : Tm → List Tm
 | .mk k nm num ty fr lb ks => (if k = 14 then [.mk k nm num ty fr lb ks] else []) ++ A6M ks
def A6M : List Tm → List Tm
 | [] => []
 | t :: ts => A2C t ++ A6M ts
end
def A9L (label : Int) (x : Tm) : Bool := decide (x.lb = label)
def B7l (t : Tm) (label : Int) : Prop := ((A2C t).find? (A9L label) = none → (A4j t []).find? (pAt t label) = none) ∧ (∀ x, (A2C t).find? (A9L label) = some x → ∃ l, (A4j t []).find? (pAt t label) = some l ∧ tAt t l = some x)
def A9M (label : Int) : List Tm → List Ty
 | [] => []
 | c :: cs => (if c.lb = label then [c.fr, c.ty] else []) ++ A9M label cs
def B7m (t : Tm) (label : Int) : List Ty := if N0 t = true then A9M label (A2C t) else []
mutual
def A3c : GT → GT → Bool
 | _, .any => true
 | .fn a b, .fn c d => A2f c a && A3c b d
 | .pr a b, .pr c d => A3c a c && A3c b d
 | .int, .int => true
 | .bool, .bool => true
 | _, _ => false
termination_by a b => SizeOf.sizeOf a + SizeOf.sizeOf b
def A2f : GT → GT → Bool
 | .any, _ => true
 | .fn a b, .any => A3c .any a && A2f b .any
 | .pr a b, .any => A2f a .any && A2f b .any
 | .int, .any => true
 | .bool, .any => true
 | .fn a b, .fn c d => A3c c a && A2f b d
 | .pr a b, .pr c d => A2f a c && A2f b d
 | .int, .int => true
 | .bool, .bool => true
 | _, _ => false
termination_by a b => SizeOf.sizeOf a + SizeOf.sizeOf b
end
def GQ (Q : GT → GT → Int → Prop) : GE → Prop
 | .var _ => True
 | .num _ => True
 | .tru _ => True
 | .lam _ _ e => GQ Q e
 | .app f a => GQ Q f ∧ GQ Q a
 | .ar _ a b => GQ Q a ∧ GQ Q b
 | .ite c a b => GQ Q c ∧ GQ Q a ∧ GQ Q b
 | .pair a b => GQ Q a ∧ GQ Q b
 | .part _ e => GQ Q e
 | .cast A B l e => Q A B l ∧ GQ Q e
structure Clo (Q : GT → GT → Int → Prop) : Prop where
 fn : ∀ {a b c d l}, Q (.fn a b) (.fn c d) l → Q c a (-l) ∧ Q b d l
 pr : ∀ {a b c d l}, Q (.pr a b) (.pr c d) l → Q a c l ∧ Q b d l
 up : ∀ {A l}, A ≠ .any → Q A .any l → Q A.gr .any l ∧ Q A A.gr l
 down : ∀ {B l}, B ≠ .any → Q .any B l → Q B.gr B l ∧ Q .any B.gr l
def QL (m : Int) : GT → GT → Int → Prop := fun A B l => (l = m → A3c A B = true) ∧ (l = -m → A2f A B = true)
mutual
def A2D : Tm → List Ty
 | .mk k _ _ ty _ _ ks => (if k = 5 ∨ k = 13 then [ty] else []) ++ A9N ks
def A9N : List Tm → List Ty
 | [] => []
 | t :: ts => A2D t ++ A9N ts
end
mutual
def A6N : Tm → List Ty → Tm
 | .mk k nm num ty fr lb ks, l => .mk k nm num (if k = 5 ∨ k = 13 then l.getD 0 B8 else ty) fr lb (A9O ks (if k = 5 ∨ k = 13 then l.drop 1 else l))
def A9O : List Tm → List Ty → List Tm
 | [], _ => []
 | t :: ts, l => A6N t l :: A9O ts (l.drop (A2D t).length)
end
def A9P (mask : Nat) : Nat → List Ty → List Ty
 | _, [] => []
 | i, t :: ts => (if (mask / 2 ^ i) % 2 = 1 then .mk 1 [] else t) :: A9P mask (i + 1) ts
def B4x (e : Tm) (mask : Nat) : Tm := A6N e (A9P mask 0 (A2D e))
def B4y (e : Tm) : List Tm := (List.range (2 ^ (A2D e).length)).map (B4x e)
section cap
variable {P : Program} {Γ : J1} {env : J5} {hp : List A4} {G : IM} {K : Po} {ops : Array Oper} {rest : List Oper}
theorem St.slc_cap {a : Act} {w : World} {p : Option Addr} {c el sz n : Nat} {cs : List Value} {hp' : List A4} (hs : St Γ ⟨env, hp, G⟩ a w) (hk : Pk hp (.slc p c el sz n cs) hp') : n ≤ c := by
 have hown : S0 [.slc p c el sz n cs] G w := hs.res.own.of_mem hk.perm
 obtain ⟨hl, h⟩ := hown.ok _ List.mem_cons_self
 rcases h with ⟨hv, hn⟩ | ⟨g, cap, cur, hv, _, hg, hnc, hcm, hsz, ht⟩
 ·omega
 ·cases hv; exact hnc
theorem B4z {p : Option Addr} {c el sz n : Nat} {cs : List Value} {hp' : List A4} (hk : Pk hp (.slc p c el sz n cs) hp') (h : n ≤ c → F9 P Γ ops rest K ⟨env, hp, G⟩) : F9 P Γ ops rest K ⟨env, hp, G⟩ :=
 ⟨fun a w hs => (h (hs.slc_cap hk)).run a w hs⟩
end cap
def B7n (ts : List Ty) : IM → Value → List A4 → Prop := fun G' v outs => ∃ p c es, v = .slice p ts.length c ∧ outs = [.slc p c 25 2 ts.length es.flatten] ∧ F8 G' ts es
def RtP (u : Tm) (l : List Ty) : IM → Value → List A4 → Prop := fun G' v outs => outs = [] ∧ ∃ cu p c el, v = .tuple ⟨[.agg ⟨cu⟩, .slice p l.length c]⟩ ∧ B1 G' u cu ∧ C5 G' p l.length c 2 el ∧ F8 G' l el
section bits
variable {P : Program} {Γ : J1} {env : J5} {hp : List A4} {G : IM} {ty : TypeId}
end bits
section wr
variable {P : Program} {Γ : J1} {env : J5} {hp : List A4} {G : IM} {ty : TypeId} {K : Po} {ops : Array Oper} {rest : List Oper}
variable {pos : String} {af : Array Edge} {gd : Option (Nat × Bool)}
end wr
def B7o (e : Tm) : Option (List Tm) := if (A1i e).isSome = true ∧ (A2D e).length ≤ 6 then some (B4y e) else none
def CfP (r : Option (List Tm)) : IM → Value → List A4 → Prop := fun G' v outs => outs = [] ∧ ∃ p c es, v = .tuple ⟨[.slice p (r.getD []).length c, .bool r.isSome]⟩ ∧ C5 G' p (r.getD []).length c 9 es ∧ E3 G' (r.getD []) es
def MsP (r : Option (List Int)) (e : A4) (G : IM) : IM → Value → List A4 → Prop := fun G' v outs => outs = [e] ∧ ∃ p c, v = .tuple ⟨[.slice p (r.getD []).length c, .bool r.isSome]⟩ ∧ SP1 (C4 G' G) (r.getD []) p c
def IsP (l : List Int) (b : Bool) (G : IM) : IM → Value → List A4 → Prop := I9 fun G' v => ∃ p c, v = .tuple ⟨[.slice p l.length c, .bool b]⟩ ∧ SP1 (C4 G' G) l p c
theorem B1.nine {G : IM} {t : Tm} {cells : List Value} (h : B1 G t cells) : ∃ v1 v2 v3 v4 v5 v6 v7 v8 v9, cells = [v1, v2, v3, v4, v5, v6, v7, v8, v9] := by
 obtain ⟨_, _, _, _, _, _, _, _, _, rfl, _⟩ := h.open
 exact ⟨_, _, _, _, _, _, _, _, _, rfl⟩
theorem A3X {G : IM} {e : Tm} {ce : List Value} {k : Int} {nm : ByteArray} {tk : Int} {tks : List Ty} {q p : Option Addr} {d c : Nat} (hk : C6 k) (ht : C3 G (.mk tk tks) [.int .i64 tk, .slice q tks.length d]) (h1 : B1 G e ce) (hs : Sl G p 1 c 9 ce) :
  B1 G (.mk k nm 0 (.mk tk tks) B8 0 [e]) [.int .i64 k, .string nm, .int .i64 0, .int .i64 tk, .slice q tks.length d, .int .i64 0, .slice none 0 0, .int .i64 0, .slice p 1 c] := by
 obtain ⟨a1, a2⟩ := B3i h1 hs
 exact B1.of9 (ks := [e]) hk ⟨by omega, by omega⟩ ⟨by omega, by omega⟩ ht (P1 _ ⟨by omega, by omega⟩) a1 a2
theorem A3Y {G : IM} {e f : Tm} {ce cf : List Value} {k : Int} {nm : ByteArray} {p : Option Addr} {c : Nat} (hk : C6 k) (h1 : B1 G e ce) (h2 : B1 G f cf) (hs : Sl G p 2 c 9 (ce ++ cf)) :
  B1 G (.mk k nm 0 B8 B8 0 [e, f]) [.int .i64 k, .string nm, .int .i64 0, .int .i64 0, .slice none 0 0, .int .i64 0, .slice none 0 0, .int .i64 0, .slice p 2 c] := by
 have hL : E3 G [e, f] [ce, cf] := by simp only [E3]; exact ⟨ce, [cf], rfl, h1, cf, [], rfl, h2, rfl⟩
 exact B1.of9 (ks := [e, f]) hk ⟨by omega, by omega⟩ ⟨by omega, by omega⟩ (P1 _ ⟨by omega, by omega⟩) (P1 _ ⟨by omega, by omega⟩)
  (C5.of (by simpa using hs) rfl hL.all (fun x hx => by obtain ⟨q, hq⟩ := List.getElem?_of_mem hx; exact (hL.inv hq H7).2.one)) hL
theorem B4A {G : IM} {e f g : Tm} {ce cf cg : List Value} {k : Int} {nm : ByteArray} {p : Option Addr} {c : Nat} (hk : C6 k) (h1 : B1 G e ce) (h2 : B1 G f cf) (h3 : B1 G g cg) (hs : Sl G p 3 c 9 (ce ++ (cf ++ cg))) :
  B1 G (.mk k nm 0 B8 B8 0 [e, f, g]) [.int .i64 k, .string nm, .int .i64 0, .int .i64 0, .slice none 0 0, .int .i64 0, .slice none 0 0, .int .i64 0, .slice p 3 c] := by
 have hL : E3 G [e, f, g] [ce, cf, cg] := by simp only [E3]; exact ⟨ce, [cf, cg], rfl, h1, cf, [cg], rfl, h2, cg, [], rfl, h3, rfl⟩
 exact B1.of9 (ks := [e, f, g]) hk ⟨by omega, by omega⟩ ⟨by omega, by omega⟩ (P1 _ ⟨by omega, by omega⟩) (P1 _ ⟨by omega, by omega⟩)
  (C5.of (by simpa using hs) rfl hL.all (fun x hx => by obtain ⟨q, hq⟩ := List.getElem?_of_mem hx; exact (hL.inv hq H7).2.one)) hL
def mB : Nat → Nat
 | 0 => 200
 | n + 1 => 3 * mB n + 200
theorem A1y (n : Nat) : 200 ≤ mB n := by cases n <;> simp only [mB] <;> omega
def A1z (n : Nat) (depth : Int) (t : Ty) : Prop := P6 4 t ∧ (n : Int) - 1000 ≤ depth ∧ depth ≤ 1000 ∧ ((depth ≤ 1 ∧ P6 n t) ∨ (2 ≤ depth ∧ depth + 3 ≤ n))
theorem A1z.sub {n : Nat} {depth : Int} {t t' : Ty} (h : A1z (n + 1) depth t) (hd : 1 < depth) (h4 : P6 4 t') : A1z n (depth - 1) t' := by
 obtain ⟨h1, h2, h3, h5⟩ := h
 refine ⟨h4, by omega, by omega, ?_⟩
 rcases h5 with ⟨h5, _⟩ | ⟨h5, h6⟩
 ·omega
 ·by_cases h7 : 3 ≤ depth
  ·exact .inr ⟨by omega, by omega⟩
  ·exact .inl ⟨by omega, h4.le (by omega)⟩
theorem A1z.kid {n : Nat} {depth : Int} {k : Int} {ks : List Ty} {t' : Ty} (h : A1z (n + 1) depth (.mk k ks)) (ht : t' ∈ ks) : A1z n (depth - 1) t' := by
 have h4 : P6 4 t' := (A55 h.1 ht).up
 by_cases hd : 1 < depth
 ·exact h.sub hd h4
 ·obtain ⟨h1, h2, h3, h5⟩ := h
  refine ⟨h4, by omega, by omega, .inl ⟨by omega, ?_⟩⟩
  rcases h5 with ⟨_, h5⟩ | ⟨h5, _⟩
  ·exact A55 h5 ht
  ·omega
theorem A1z.pos {n : Nat} {depth : Int} {k : Int} {ks : List Ty} (h : A1z n depth (.mk k ks)) (hd : 1 < depth ∨ k = 4 ∨ k = 5) : ∃ m, n = m + 1 := by
 cases n with
 | succ m => exact ⟨m, rfl⟩
 | zero =>
  obtain ⟨h1, h2, h3, h5⟩ := h
  rcases h5 with ⟨h5, h6⟩ | ⟨h5, h6⟩
  ·have := h6.2
   omega
  ·omega
theorem O9 : B8.small := by simp [B8, Ty.small, Ty.smallL]
theorem N2 {k : Int} {nm : ByteArray} {num : Int} (h : nm.size ≤ 1) : (Tm.mk k nm num B8 B8 0 []).small := by
 simp only [Tm.small, Tm.smallL]; exact ⟨by omega, O9, O9, by simp, trivial⟩
theorem K2 {k : Int} {nm : ByteArray} {num : Int} {ty : Ty} {a : Tm} (h : nm.size ≤ 1) (ht : ty.small) (ha : a.small) : (Tm.mk k nm num ty B8 0 [a]).small := by
 simp only [Tm.small, Tm.smallL]; exact ⟨by omega, ht, O9, by simp, ha, trivial⟩
theorem S7 {k : Int} {nm : ByteArray} {num : Int} {a b : Tm} (h : nm.size ≤ 1) (ha : a.small) (hb : b.small) : (Tm.mk k nm num B8 B8 0 [a, b]).small := by
 simp only [Tm.small, Tm.smallL]; exact ⟨by omega, O9, O9, by simp, ha, hb, trivial⟩
theorem A0y {k : Int} {nm : ByteArray} {num : Int} {a b c : Tm} (h : nm.size ≤ 1) (ha : a.small) (hb : b.small) (hc : c.small) : (Tm.mk k nm num B8 B8 0 [a, b, c]).small := by
 simp only [Tm.small, Tm.smallL]; exact ⟨by omega, O9, O9, by simp, ha, hb, hc, trivial⟩
theorem A0z : (Ty.mk 1 []).small := by simp [Ty.small, Ty.smallL]
def A9Q (br : Nat) (pb : Option Addr) (nb cb : Nat) (bs : List UInt8) (n : Nat) : Prop := ∀ (depth : Int) (t : Ty) (p : Nat) (G : IM) (pc : Option Addr) (nc cc : Nat) (cells : List Value), A1z n depth t → (n : Int) - 1000 ≤ depth → depth ≤ 1000 → nc + n ≤ 40 → W4 G pc nc cc → C3 G t cells → Sl G pb nb cb 1 (N1 bs) → p + mB n < 1099511627776 →
 Fn Tryz.prog 110 [.pointer (some ⟨br, 0, none⟩), .slice pc nc cc, .agg ⟨cells⟩, .int .i64 depth] [rd br pb nb cb p] G
  (A0q br pb nb cb p (mB n) (fun G' v => ∃ e cells, v = .agg ⟨cells⟩ ∧ B1 G' e cells ∧ e.small ∧ E6 e ≤ mB n))
theorem A9R (br : Nat) (pb : Option Addr) (nb cb : Nat) (bs : List UInt8) (hnb : nb ≤ 2000) (m : Nat) (hM : A9Q br pb nb cb bs m) (depth : Int) (a t : Ty) (p : Nat) (G : IM) (pc : Option Addr) (nc cc : Nat) (ca cells : List Value)
  (hfu : A1z m depth t) (hd0 : (m : Int) - 1000 ≤ depth) (hd1 : depth ≤ 1000) (hnc : nc + 1 + m ≤ 40) (hx : W4 G pc nc cc) (hra : C3 G a ca) (haa : H4 a ∧ K0 a ≤ 30) (hrt : C3 G t cells) (hb : Sl G pb nb cb 1 (N1 bs)) (hp : p + 1 + mB m < 1099511627776) :
  Fn Tryz.prog 173 [.pointer (some ⟨br, 0, none⟩), .slice pc nc cc, .agg ⟨ca⟩, .agg ⟨cells⟩, .int .i64 depth] [rd br pb nb cb p] G
   (A0q br pb nb cb p (1 + mB m) (fun G' v => ∃ e cells, v = .agg ⟨cells⟩ ∧ B1 G' e cells ∧ e.small ∧ E6 e ≤ 1 + mB m)) := by
 obtain ⟨ak, aks⟩ := a
 obtain ⟨tk, tks⟩ := t
 obtain ⟨pa, cca, ea, rfl, _⟩ := hra.open
 obtain ⟨pt, cct, et, rfl, _⟩ := hrt.open
 simp only [Ty.k, Ty.ks] at hra hrt ⊢
 refine B7 Tryz.func173 rfl Tryz.ntmps173 Tryz.results173 rfl ?_
 intro w0
 refine tS (tR ?_)
 refine sE (D5 rfl rfl) rfl (fun b3 => ?_)
 refine sE (D5 rfl rfl) rfl (fun b4 => ?_)
 refine sE (B6 rfl) rfl (fun b5 => ?_)
 refine sD (nS (tS (tR (sQ (qM rfl) rfl ?_))))
 (refine E0 (D0 rfl rfl rfl (by omega) (by unfold maxLen; omega) rfl) rfl ?_; rintro _ ⟨b11, rfl⟩)
 (refine Q8 (by repeat (first | exact Pk.here | apply Pk.there)) (fun G4 hle4 hsl4 _ => ?_); refine D2 rfl (A56 G4 br pb nb cb p bs _ _ _ _ (hb.mono hle4) hnb (by omega) hsl4 (by decide)) (Pk.perm (by repeat (first | exact Pk.here | apply Pk.there))) rfl rfl (fun v G5 outs hle5 hh => ?_); obtain ⟨rfl, rfl, hv⟩ := hh; obtain ⟨nm, rfl, hnm⟩ : ∃ nm : ByteArray, v = .string nm ∧ nm.size ≤ 1 := (by simp only [List.mem_cons, List.not_mem_nil, or_false] at hv; rcases hv with rfl | rfl | rfl | rfl <;> exact ⟨_, rfl, by decide⟩); replace hra := hra.mono hle4; replace hx := hx.mono hle4; replace hb := hb.mono hle4; replace hrt := hrt.mono hle4;)
 refine sQ (qA rfl) rfl (sD (nS (tS ?_)))
 refine I0 I1 rfl ?_
 refine J2 (i := 0) (l' := [tt,ff,ff,ff,ff,ff,ff,ff,ff,ff,ff,ff,ff,ff]) rfl F4 (qM rfl) rfl (by kernel_rfl) rfl rfl ?_
 refine aL 1 rfl (A7 rfl rfl) rfl ?_
 refine aP 3 rfl (qM rfl) rfl ?_
 refine aP 4 rfl (qM rfl) rfl ?_
 refine aP 5 rfl (qM rfl) rfl ?_
 refine aL 6 rfl (A7 rfl rfl) rfl ?_
 refine aL 8 rfl (A7 rfl rfl) rfl ?_
 refine aP 9 rfl (qM rfl) rfl ?_
 refine A8 2 ?_
 (refine Q0 rfl rfl (Z9 _ _ _ haa.1.small hra) rfl rfl rfl (fun v G6 hle6 hh => ?_); obtain ⟨Z4, F1, rfl, hs1, hn1⟩ := hh; obtain ⟨p1, c1, rfl, _⟩ := hs1.open; have hr1 := hs1.R.mono (C4.le G6 _); replace hra := hra.mono hle6; replace hx := hx.mono hle6; replace hb := hb.mono hle6; replace hrt := hrt.mono hle6;)
 refine A8 7 ?_
 (refine Q0 rfl rfl (B3d _ pc nc cc nm (.mk ak aks) _ hx (by omega) hra haa.1 haa.2 hnm) rfl rfl rfl (fun v G7 hle7 hh => ?_); obtain ⟨pm, cm, rfl, hxm⟩ := hh; replace hr1 := hr1.mono hle7; replace hx := hx.mono hle7; replace hb := hb.mono hle7; replace hrt := hrt.mono hle7; have hcall := hM depth (.mk tk tks) (p + 1) _ pm (nc + 1) cm _ hfu hd0 hd1 (by omega) hxm hrt hb (by omega))
 refine A8 10 ?_
 (refine A0a (l' := [tt,tt,tt,tt,tt,tt,tt,tt,tt,tt,tt,ff,ff,ff]) rfl rfl hcall (Pk.perm (by repeat (first | exact Pk.here | apply Pk.there))) rfl rfl rfl (by repeat (first | exact B0.nil | apply B0.dep (by decide +kernel) | apply B0.blk (by decide +kernel) (by repeat (first | exact Pk.here | apply Pk.there)) (by repeat first | exact mH | apply mT))) (fun v G8 outs hle8 hh => ?_); obtain ⟨p8, hp81, hp82, rfl, e8, c8, rfl, hr8, hs8, hc8⟩ := hh; obtain ⟨a1, a2, a3, a4, a5, a6, a7, a8, a9, rfl⟩ := hr8.nine; replace hr1 := hr1.mono hle8)
 refine A8 11 ?_
 (refine J9 rfl (D0 rfl rfl rfl (by omega) (by unfold maxLen; omega) rfl) rfl rfl ?_; rintro _ ⟨b33, rfl⟩)
 refine aP 12 rfl (D9 rfl rfl) rfl ?_
 refine A8 13 ?_
 refine P3 rfl rfl rfl rfl rfl rfl rfl rfl (by decide +kernel) (by repeat first | exact Sw.here | apply Sw.there) (by rfl) ?_
 refine D6 (nS ?_)
 (refine Q4 (cs := [a1, a2, a3, a4, a5, a6, a7, a8, a9]) (by repeat (first | exact Pk.here | apply Pk.there)) (fun G9 hle9 hsl9 hno9 => ?_); have hN := A3X (k := 5) (nm := nm) ⟨by omega, by omega⟩ (hr1.mono hle9) (hr8.mono hle9) hsl9)
 refine tT ?_
 refine E5 (outs := [rd br pb nb cb p8]) (rC rfl (A7 rfl rfl)) (by repeat (first | exact A0.nil | refine A0.cons Pk.here ?_ | refine A0.cons (Pk.there Pk.here) ?_ | refine A0.cons (Pk.there (Pk.there Pk.here)) ?_ | apply A0.drop)) ?_
 (exact ⟨p8, by omega, by omega, rfl, _, _, rfl, hN, K2 hnm haa.1.small hs8, by simp only [E6, I2]; omega⟩)
structure A3Z {ι : Type} (S : ι → Sy) (φ : ι → Prop) (K : Po) (e : Exit) (σ : Sy) : Prop where
 run : match e with
  | .normal => ∃ i, φ i ∧ Sub σ (S i)
  | e => K e σ
section cut
variable {P : Program} {Γ : J1} {K : Po} {σ : Sy} {ι : Type}
theorem A9S {c y : Code} (S : ι → Sy) (φ : ι → Prop) (h : I6 P Γ c (A3Z S φ K) σ) (k : ∀ i, φ i → I6 P Γ y K (S i)) : I6 P Γ c (A01 P Γ y K) σ := by
 refine A5c h ?_
 rintro e σ ⟨hk⟩
 cases e with
 | normal => obtain ⟨i, hi, hs⟩ := hk; exact ⟨A7a hs (k i hi)⟩
 | _ => exact ⟨hk⟩
theorem A30 {S : ι → Sy} {φ : ι → Prop} {σ : Sy} (i : ι) (hs : Sub σ (S i)) (h : φ i) : A3Z S φ K .normal σ := ⟨⟨i, h, hs⟩⟩
theorem A0X {S : ι → Sy} {φ : ι → Prop} {σ : Sy} (h : K .ret σ) : A3Z S φ K .ret σ := ⟨h⟩
theorem B4B {S : ι → Sy} {φ : ι → Prop} (h : Y6 K) : Y6 (A3Z S φ K) := fun c σ hk => h c σ hk.run
instance npC6 {S : ι → Sy} {φ : ι → Prop} [h : NpC K] : NpC (A3Z S φ K) := ⟨B4B h.h⟩
end cut
theorem A2g (G : IM) (nm : ByteArray) (num : Int) {k : Int} (hk : C6 k) (hn : C6 num) : B1 G (.mk k nm num B8 B8 0 []) [.int .i64 k, .string nm, .int .i64 num, .int .i64 0, .slice none 0 0, .int .i64 0, .slice none 0 0, .int .i64 0, .slice none 0 0] := A1u hk hn
theorem C3.kidsM {G : IM} {k : Int} {ks : List Ty} {q : Option Addr} {c : Nat} (h : C3 G (.mk k ks) [.int .i64 k, .slice q ks.length c]) : ∃ es, C5 G q ks.length c 2 es ∧ F8 G ks es := by
 obtain ⟨q', c', es, he, _, h1, h2⟩ := h.open
 cases he
 exact ⟨es, h1, h2⟩
theorem B4C (br : Nat) (pb : Option Addr) (nb cb : Nat) (bs : List UInt8) (hnb : nb ≤ 2000) : ∀ n, A9Q br pb nb cb bs n := by
 refine fun n => Nat.strongRecOn n fun n ih depth t p G pc nc cc cells hfu hd0 hd1 hnc hx hrt hb hp => ?_
 have hge := A1y n
 have har := hfu.1.ar
 have hszt := A4v hfu.1
 have hnn := A1d t
 have hncl := hx.le
 obtain ⟨k, ks⟩ := t
 obtain ⟨q, c, es, rfl, hk, _, _⟩ := hrt.open
 simp only [Ty.k, Ty.ks] at hk hrt ⊢
 have hsz30 : K0 (.mk k ks) ≤ 30 := hszt
 have hops : k = 4 ∨ k = 5 → ks.length = 2 := by have h2 := har; rw [H4] at h2; exact h2.1
 refine B7 Tryz.func110 rfl Tryz.ntmps110 Tryz.results110 rfl ?_
 intro w0
 refine tS (tR ?_)
 refine sE (D5 rfl rfl) rfl (fun b3 => ?_)
 refine sE (B6 rfl) rfl (fun b4 => ?_)
 refine sD (nS (tS (tS (tR (sQ (qM rfl) rfl (sQ (D8 rfl rfl) rfl ?_))))))
 refine sP (L7 rfl rfl (by omega) (by omega)) rfl rfl ?_
 refine sQ (qA rfl) rfl (sD (nS ?_))
 refine B5 ?_
 (refine K4 (fun (x : Nat × Nat × IM) => ⟨(9, .int .i64 ((x.1 : Int) - 1)) :: [(0, .pointer (some ⟨br, 0, none⟩)), (1, .slice pc nc cc), (3, .int .i64 depth), (6, .pointer (some ⟨b3, 0, none⟩)), (8, .pointer (some ⟨b4, 0, none⟩))], [rd br pb nb cb x.2.1, .blk b4 [.int .i64 0, .string ⟨⟨[]⟩⟩, .int .i64 0, .int .i64 0, .slice none 0 0, .int .i64 0, .slice none 0 0, .int .i64 0, .slice none 0 0], .blk b3 [.int .i64 k, .slice q ks.length c]], x.2.2⟩) (fun x => x.1 ≤ nc ∧ B4 G x.2.2 ∧ p ≤ x.2.1 ∧ x.2.1 + x.1 ≤ p + nc) (fun x => x.1) (nc, p, G) ?_ ?_ ?_)
 (simp only [E2]; exact C9)
 (exact ⟨Nat.le_refl _, B4.refl _, Nat.le_refl _, Nat.le_refl _⟩)
 (rintro ⟨(i : Nat), (p1 : Nat), G1⟩ ⟨hi, hleL, hpL, hpL2⟩; simp only [] at hi hleL hpL hpL2 ⊢; replace hx := hx.mono hleL; replace hb := hb.mono hleL; replace hrt := hrt.mono hleL;)
 refine tS (tS (tR (sQ (qM rfl) rfl ?_)))
 refine sB (Y0 rfl rfl) rfl rfl (fun h25 => ?_) (fun h25 => ?_)
 refine sD (nS (qT rfl (tK (nS (tS ?_)))))
 (show I6 _ _ (.block 1 ..) _ _; obtain ⟨j, rfl⟩ : ∃ j, i = j + 1 := ⟨i - 1, by omega⟩; rw [show ((j + 1 : Nat) : Int) - 1 = (j : Int) from by omega]; obtain ⟨b, o, nm1, t1, qq1, dd1, rfl, hat, hr1, ha1, hs1, hgb, hns1⟩ := hx.get (i := j) (by omega); refine B5 ?_)
 refine tS (tR (sQ (qM rfl) rfl (sQ (qM rfl) rfl (sQ (qM rfl) rfl ?_))))
 refine sP (C2 (j := j) rfl rfl rfl (by omega)) rfl rfl ?_
 refine sQ (qF rfl) rfl ?_
 refine sL (Q2 rfl rfl ((hat _).sub (j := 0) rfl)) rfl rfl ?_
 (refine I5 rfl (B3c _ _ nc cc nm1 hx) rfl rfl (fun v G2 hle2 hh => ?_); obtain ⟨ts, tcs, xs, rfl, hrs, has, hss⟩ := hh; obtain ⟨ps, cs, ess, rfl, _⟩ := hrs.open; obtain ⟨b, o, nm1, t1, qq1, dd1, hpp, hat, hr1, ha1, hs1, hgb, hns1⟩ := (hx.mono hle2).get (i := j) (by omega); cases hpp; replace hx := hx.mono hle2; replace hb := hb.mono hle2; replace hrt := hrt.mono hle2;)
 refine sQ (qM rfl) rfl (sQ (pX rfl rfl) rfl (sQ (pX rfl rfl) rfl ?_))
 refine sE (B6 rfl) rfl (fun b45 => ?_)
 refine B9 ?_
 refine sQ (qA rfl) rfl (sD (nS (tS (tR (sQ (qM rfl) rfl ?_)))))
 (have hinloop := hrs; refine D2 rfl (X2 _ br pb nb cb (p1) bs 3 hb hnb (by omega)) (Pk.perm (by repeat (first | exact Pk.here | apply Pk.there))) rfl rfl (fun v Gp outs hle53 hh => ?_); obtain ⟨rfl, rfl, j53, rfl, hj53, hk53⟩ := hh; have hinl := hj53)
 replace hrs := hrs.mono hle53
 replace hr1 := hr1.mono hle53
 replace hb := hb.mono hle53
 replace hrt := hrt.mono hle53
 replace hinloop := hinloop.mono hle53
 refine sB (qE rfl rfl) rfl rfl (fun h54 => ?_) (fun h54 => ?_)
 refine sQ (qM rfl) rfl (sL (A7 rfl rfl) rfl rfl ?_)
 refine H1 rfl ((A2Z ts _ _ hrs)) rfl rfl (fun h57 => ?_) (fun h57 => ?_)
 refine sQ (C1 rfl rfl) rfl (sQ (qM rfl) rfl (sL (A7 rfl rfl) rfl rfl (sL (A7 rfl rfl) rfl rfl ?_)))
 refine H1 rfl ((A1T ts (.mk k ks) _ _ _ has har hrs hrt)) rfl rfl (fun h62 => ?_) (fun h62 => ?_)
 refine sQ (C1 rfl rfl) rfl (sD (nS (qT rfl (tS (tR (sQ (qM rfl) rfl (sQ (qM rfl) rfl ?_)))))))
 refine sP (C2 (j := j) rfl rfl rfl (by omega)) rfl rfl ?_
 refine sQ (qF rfl) rfl ?_
 refine sL (Q2 rfl rfl ((hat _).sub (j := 0) rfl)) rfl rfl ?_
 refine sQ (D9 rfl rfl) rfl (B9 ?_)
 refine sD (nS (tT (rB (rS (U2 (rB (rS ?_)))))))
 refine E5 (outs := [rd br pb nb cb (p1 + 1)]) (rC rfl (A7 rfl rfl)) (by repeat (first | exact A0.nil | refine A0.cons Pk.here ?_ | refine A0.cons (Pk.there Pk.here) ?_ | refine A0.cons (Pk.there (Pk.there Pk.here)) ?_ | apply A0.drop)) ?_
 (exact ⟨(p1 + 1), by omega, by omega, rfl, _, _, rfl, A2g _ _ _ ⟨by omega, by omega⟩ (by first | exact ⟨by omega, by omega⟩ | exact hkn), by first | exact N2 (by first | assumption | decide) | exact A0y (by decide) (by assumption) (by assumption) (by assumption) | exact S7 (by decide) (by assumption) (by assumption) | exact K2 (by decide) O9 (by assumption) | exact K2 (by decide) har.small (by assumption) | exact K2 (by decide) O9 (S7 (by decide) (by assumption) (N2 (by decide))) | exact K2 (by decide) A0z (N2 (by decide)) | assumption, by simp only [E6, I2]; omega⟩)
 refine sQ (C1 rfl rfl) rfl (sD (nS (cF rfl (tK (C8 (nS (tR (sQ (qM rfl) rfl ?_))))))))
 refine sP (L7 rfl rfl (by omega) (by omega)) rfl rfl ?_
 refine sQ (qA rfl) rfl (sD ?_)
 (have hinloop := hrs; refine K3 (j, p1 + 1, Gp) ?_ ?_ ?_)
 (simp only [E2]; exact C9)
 (dsimp only; exact ⟨by omega, hleL.trans hle2, by omega, by omega⟩)
 (show _ < _ + 1; omega)
 refine Y8 ?_
 refine sP (L7 rfl rfl (by omega) (by omega)) rfl rfl ?_
 refine sQ (qA rfl) rfl (sD ?_)
 (have hinloop := hrs; refine K3 (j, p1 + 1, Gp) ?_ ?_ ?_)
 (simp only [E2]; exact C9)
 (dsimp only; exact ⟨by omega, hleL.trans hle2, by omega, by omega⟩)
 (show _ < _ + 1; omega)
 refine R6 ?_
 refine sP (L7 rfl rfl (by omega) (by omega)) rfl rfl ?_
 refine sQ (qA rfl) rfl (sD ?_)
 (have hinloop := hrs; refine K3 (j, p1 + 1, Gp) ?_ ?_ ?_)
 (simp only [E2]; exact C9)
 (dsimp only; exact ⟨by omega, hleL.trans hle2, by omega, by omega⟩)
 (show _ < _ + 1; omega)
 refine sD (nS (cF rfl (M7 (M8 (N3 (M9 (nS (tS (tS ?_)))))))))
 (show I6 _ _ (.region 7 ..) _ _; refine A0i (fun (x : Bool) => ⟨(49, .bool x) :: [(0, .pointer (some ⟨br, 0, none⟩)), (1, .slice pc nc cc), (3, .int .i64 depth), (6, .pointer (some ⟨b3, 0, none⟩)), (8, .pointer (some ⟨b4, 0, none⟩))], [rd br pb nb cb p1, .blk b4 [.int .i64 0, .string ⟨⟨[]⟩⟩, .int .i64 0, .int .i64 0, .slice none 0 0, .int .i64 0, .slice none 0 0, .int .i64 0, .slice none 0 0], .blk b3 [.int .i64 k, .slice q ks.length c]], G1⟩) (fun x => x = true → 1 < depth) ?_ ?_)
 refine tR (sQ (qM rfl) rfl ?_)
 refine sB (Y7 rfl rfl) rfl rfl (fun h160 => ?_) (fun h160 => ?_)
 refine sD ?_
 refine P0 true (O2 (by repeat (first | exact E4.nil | refine E4.cons rfl ?_)) (by repeat (first | exact A0.refl | exact A0.nil | refine A0.cons (by repeat (first | exact Pk.here | apply Pk.there)) ?_ | apply A0.drop))) (fun _ => by omega)
 refine sD ?_
 refine P0 false (O2 (by repeat (first | exact E4.nil | refine E4.cons rfl ?_)) (by repeat (first | exact A0.refl | exact A0.nil | refine A0.cons (by repeat (first | exact Pk.here | apply Pk.there)) ?_ | apply A0.drop))) (fun h => absurd h (by decide))
 (rintro (x49 : Bool) hx49)
 (show I6 _ _ (.cond (.tmp 49) _ _) _ _; refine A9S (fun (x : Nat × IM) => ⟨[(0, .pointer (some ⟨br, 0, none⟩)), (1, .slice pc nc cc), (3, .int .i64 depth), (6, .pointer (some ⟨b3, 0, none⟩)), (8, .pointer (some ⟨b4, 0, none⟩))], [rd br pb nb cb x.1, .blk b4 [.int .i64 0, .string ⟨⟨[]⟩⟩, .int .i64 0, .int .i64 0, .slice none 0 0, .int .i64 0, .slice none 0 0, .int .i64 0, .slice none 0 0], .blk b3 [.int .i64 k, .slice q ks.length c]], x.2⟩) (fun x => B4 G1 x.2 ∧ p1 ≤ x.1 ∧ x.1 ≤ p1 + 1) (A3l rfl (fun hxt => ?_) (fun hxf => ?_)) ?_)
 refine tS (tR (sQ (qM rfl) rfl ?_))
 (have hx49b := hx49 hxt; refine D2 rfl (X2 _ br pb nb cb (p1) bs 9 hb hnb (by omega)) (Pk.perm (by repeat (first | exact Pk.here | apply Pk.there))) rfl rfl (fun v Gp outs hle170 hh => ?_); obtain ⟨rfl, rfl, j170, rfl, hj170, hk170⟩ := hh; have hpk9 := hj170)
 replace hb := hb.mono hle170
 replace hrt := hrt.mono hle170
 refine sD (nS ?_)
 refine B5 (tS (tR (sB (qE rfl rfl) rfl rfl (fun h176 => ?_) (fun h176 => ?_))))
 refine sQ (qA rfl) rfl (sD (nS (qT rfl (tS ?_))))
 (obtain ⟨m, rfl⟩ := hfu.pos (.inl (by omega)); have hmB : mB (m + 1) = 3 * mB m + 200 := rfl; have hgm := A1y m; refine I0 I1 rfl ?_)
 refine A0M (i := 0) (l' := [tt,ff,ff,ff,ff,ff,ff,ff,ff,ff,ff,ff,ff]) rfl F4 (A7 rfl rfl) rfl (by kernel_rfl) rfl rfl ?_
 refine aP 2 rfl (qM rfl) rfl ?_
 refine aP 3 rfl (qM rfl) rfl ?_
 refine aP 4 rfl (qM rfl) rfl ?_
 refine aL 5 rfl (A7 rfl rfl) rfl ?_
 refine aP 7 rfl (qM rfl) rfl ?_
 refine aP 8 rfl (L7 rfl rfl (by omega) (by omega)) rfl ?_
 refine A8 1 ?_
 (refine Q0 rfl rfl (Z9 _ _ _ har.small hrt) rfl rfl rfl (fun v G6 hle6 hh => ?_); obtain ⟨Z4, F1, rfl, hs1, hn1⟩ := hh; obtain ⟨pz, cz, rfl, _⟩ := hs1.open; have hrz := hs1.R.mono (C4.le G6 _); replace hx := hx.mono hle6; replace hb := hb.mono hle6; replace hrt := hrt.mono hle6;)
 refine A8 6 ?_
 (have hcall := A6e br pb nb cb bs hnb (.mk k ks) (p1 + 1) _ _ har hrt hb (by omega); refine A0a (l' := [tt,tt,tt,tt,tt,tt,tt,tt,tt,ff,ff,ff,ff]) rfl rfl hcall (Pk.perm (by repeat (first | exact Pk.here | apply Pk.there))) rfl rfl rfl (by repeat (first | exact B0.nil | apply B0.dep (by decide +kernel) | apply B0.im (by decide +kernel) hg0 (by repeat first | exact mH | apply mT) | apply B0.im (by decide +kernel) hg1 (by repeat first | exact mH | apply mT) | apply B0.blk (by decide +kernel) (by repeat (first | exact Pk.here | apply Pk.there)) (by repeat first | exact mH | apply mT))) (fun v Gn outs hleA hh => ?_); obtain ⟨pA, hpA1, hpA2, rfl, uA, cuA, rfl, hruA, huaA, husA, huhA⟩ := hh; obtain ⟨quA, duA, euA, rfl, _⟩ := hruA.open; replace hrz := hrz.mono hleA; replace hx := hx.mono hleA; replace hb := hb.mono hleA; replace hrt := hrt.mono hleA;)
 refine A8 9 ?_
 (have hcall := ih m (by omega) (depth - 1) uA pA _ pc nc cc _ (hfu.sub (by omega) (huhA 4 hfu.1)) (by omega) (by omega) (by omega) hx hruA hb (by omega); refine A0a (l' := [tt,tt,tt,tt,tt,tt,tt,tt,tt,tt,ff,ff,ff]) rfl rfl hcall (Pk.perm (by repeat (first | exact Pk.here | apply Pk.there))) rfl rfl rfl (by repeat (first | exact B0.nil | apply B0.dep (by decide +kernel) | apply B0.im (by decide +kernel) hg0 (by repeat first | exact mH | apply mT) | apply B0.im (by decide +kernel) hg1 (by repeat first | exact mH | apply mT) | apply B0.blk (by decide +kernel) (by repeat (first | exact Pk.here | apply Pk.there)) (by repeat first | exact mH | apply mT))) (fun v Gn outs hlea hh => ?_); obtain ⟨pa, hpa1, hpa2, rfl, ea, ca, rfl, hra, hsma, hca⟩ := hh; obtain ⟨a1, a2, a3, a4, a5, a6, a7, a8, a9, rfl⟩ := hra.nine; replace hrz := hrz.mono hlea; replace hx := hx.mono hlea; replace hb := hb.mono hlea; replace hrt := hrt.mono hlea;)
 refine A8 10 ?_
 (refine J9 rfl (D0 rfl rfl rfl (by omega) (by unfold maxLen; omega) rfl) rfl rfl ?_; rintro _ ⟨b197, rfl⟩)
 refine aP 11 rfl (D9 rfl rfl) rfl ?_
 refine A8 12 ?_
 refine P3 rfl rfl rfl rfl rfl rfl rfl rfl (by decide +kernel) (by repeat first | exact Sw.here | apply Sw.there) (by rfl) ?_
 refine D6 (nS ?_)
 (refine Q4 (cs := [a1, a2, a3, a4, a5, a6, a7, a8, a9]) (by repeat (first | exact Pk.here | apply Pk.there)) (fun G9 hle9 hsl9 hno9 => ?_); have hN := A3X (k := 13) (nm := ⟨⟨[]⟩⟩) ⟨by omega, by omega⟩ (hrz.mono hle9) (hra.mono hle9) hsl9)
 refine tT (rB ?_)
 refine A0X ?_
 refine E5 (outs := [rd br pb nb cb pa]) (rC rfl (A7 rfl rfl)) (by repeat (first | exact A0.nil | refine A0.cons Pk.here ?_ | refine A0.cons (Pk.there Pk.here) ?_ | refine A0.cons (Pk.there (Pk.there Pk.here)) ?_ | apply A0.drop)) ?_
 (exact ⟨pa, by omega, by omega, rfl, _, _, rfl, hN, by first | exact N2 (by first | assumption | decide) | exact A0y (by decide) (by assumption) (by assumption) (by assumption) | exact S7 (by decide) (by assumption) (by assumption) | exact K2 (by decide) O9 (by assumption) | exact K2 (by decide) har.small (by assumption) | exact K2 (by decide) O9 (S7 (by decide) (by assumption) (N2 (by decide))) | exact K2 (by decide) A0z (N2 (by decide)) | assumption, by simp only [E6, I2]; omega⟩)
 refine sQ (qA rfl) rfl (sD (nS (cF rfl (tS (tR ?_)))))
 refine sB (qE rfl rfl) rfl rfl (fun h215 => ?_) (fun h215 => ?_)
 refine sQ (qA rfl) rfl (sD (nS (qT rfl (tS ?_))))
 (obtain ⟨m, rfl⟩ := hfu.pos (.inl (by omega)); have hmB : mB (m + 1) = 3 * mB m + 200 := rfl; have hgm := A1y m; refine I0 I1 rfl ?_)
 refine J2 (i := 0) (l' := [tt,ff,ff,ff,ff,ff,ff,ff,ff,ff,ff,ff,ff,ff,ff,ff,ff,ff,ff,ff,ff]) rfl F4 (qM rfl) rfl (by kernel_rfl) rfl rfl ?_
 refine aP 1 rfl (qM rfl) rfl ?_
 refine aP 3 rfl (qM rfl) rfl ?_
 refine aP 4 rfl (L7 rfl rfl (by omega) (by omega)) rfl ?_
 refine aP 6 rfl (qM rfl) rfl ?_
 refine aP 7 rfl (qM rfl) rfl ?_
 refine aL 8 rfl (A7 rfl rfl) rfl ?_
 refine aP 9 rfl (qM rfl) rfl ?_
 refine aP 10 rfl (L7 rfl rfl (by omega) (by omega)) rfl ?_
 refine aP 12 rfl (qM rfl) rfl ?_
 refine aP 13 rfl (qM rfl) rfl ?_
 refine aL 14 rfl (A7 rfl rfl) rfl ?_
 refine aP 15 rfl (qM rfl) rfl ?_
 refine aP 16 rfl (L7 rfl rfl (by omega) (by omega)) rfl ?_
 refine A8 2 ?_
 refine Q5 rfl rfl ((A3T _)) rfl rfl rfl ?_
 refine A8 5 ?_
 (have hcall := ih m (by omega) (depth - 1) (.mk 3 []) (p1 + 1) _ pc nc cc _ (hfu.sub (by omega) (A22 4 (by decide) (by decide))) (by omega) (by omega) (by omega) hx (P1 _ ⟨by omega, by omega⟩) hb (by omega); refine A0a (l' := [tt,tt,tt,tt,tt,tt,tt,tt,tt,tt,tt,ff,tt,tt,tt,tt,tt,ff,ff,ff,ff]) rfl rfl hcall (Pk.perm (by repeat (first | exact Pk.here | apply Pk.there))) rfl rfl rfl (by repeat (first | exact B0.nil | apply B0.dep (by decide +kernel) | apply B0.im (by decide +kernel) hg0 (by repeat first | exact mH | apply mT) | apply B0.im (by decide +kernel) hg1 (by repeat first | exact mH | apply mT) | apply B0.blk (by decide +kernel) (by repeat (first | exact Pk.here | apply Pk.there)) (by repeat first | exact mH | apply mT))) (fun v Gn outs hlef hh => ?_); obtain ⟨pf, hpf1, hpf2, rfl, ef, cf, rfl, hrf, hsmf, hcf⟩ := hh; obtain ⟨f1, f2, f3, f4, f5, f6, f7, f8, f9, rfl⟩ := hrf.nine; replace hx := hx.mono hlef; replace hb := hb.mono hlef; replace hrt := hrt.mono hlef;)
 refine A8 11 ?_
 (have hcall := ih m (by omega) (depth - 1) (.mk k ks) pf _ pc nc cc _ (hfu.sub (by omega) hfu.1) (by omega) (by omega) (by omega) hx hrt hb (by omega); refine A0a (l' := [tt,tt,tt,tt,tt,tt,tt,tt,tt,tt,tt,tt,tt,tt,tt,tt,tt,ff,ff,ff,ff]) rfl rfl hcall (Pk.perm (by repeat (first | exact Pk.here | apply Pk.there))) rfl rfl rfl (by repeat (first | exact B0.nil | apply B0.dep (by decide +kernel) | apply B0.im (by decide +kernel) hg0 (by repeat first | exact mH | apply mT) | apply B0.im (by decide +kernel) hg1 (by repeat first | exact mH | apply mT) | apply B0.blk (by decide +kernel) (by repeat (first | exact Pk.here | apply Pk.there)) (by repeat first | exact mH | apply mT))) (fun v Gn outs hleg hh => ?_); obtain ⟨pg, hpg1, hpg2, rfl, eg, cg, rfl, hrg, hsmg, hcg⟩ := hh; obtain ⟨g1, g2, g3, g4, g5, g6, g7, g8, g9, rfl⟩ := hrg.nine; replace hrf := hrf.mono hleg; replace hx := hx.mono hleg; replace hb := hb.mono hleg; replace hrt := hrt.mono hleg;)
 refine A8 17 ?_
 (have hcall := ih m (by omega) (depth - 1) (.mk k ks) pg _ pc nc cc _ (hfu.sub (by omega) hfu.1) (by omega) (by omega) (by omega) hx hrt hb (by omega); refine A0a (l' := [tt,tt,tt,tt,tt,tt,tt,tt,tt,tt,tt,tt,tt,tt,tt,tt,tt,tt,ff,ff,ff]) rfl rfl hcall (Pk.perm (by repeat (first | exact Pk.here | apply Pk.there))) rfl rfl rfl (by repeat (first | exact B0.nil | apply B0.dep (by decide +kernel) | apply B0.im (by decide +kernel) hg0 (by repeat first | exact mH | apply mT) | apply B0.im (by decide +kernel) hg1 (by repeat first | exact mH | apply mT) | apply B0.blk (by decide +kernel) (by repeat (first | exact Pk.here | apply Pk.there)) (by repeat first | exact mH | apply mT))) (fun v Gn outs hlei hh => ?_); obtain ⟨pi, hpi1, hpi2, rfl, ei, ci, rfl, hri, hsmi, hci⟩ := hh; obtain ⟨i1, i2, i3, i4, i5, i6, i7, i8, i9, rfl⟩ := hri.nine; replace hrf := hrf.mono hlei; replace hrg := hrg.mono hlei; replace hx := hx.mono hlei; replace hb := hb.mono hlei; replace hrt := hrt.mono hlei;)
 refine A8 18 ?_
 (refine J9 rfl (D0 rfl rfl rfl (by omega) (by unfold maxLen; omega) rfl) rfl rfl ?_; rintro _ ⟨b245, rfl⟩)
 refine A8 19 ?_
 refine Q5 rfl rfl ((A2w _ _ _ _ _)) rfl rfl rfl ?_
 refine A8 20 ?_
 refine P3 rfl rfl rfl rfl rfl rfl rfl rfl (by decide +kernel) (by repeat first | exact Sw.here | apply Sw.there) (by rfl) ?_
 refine D6 (nS ?_)
 (refine Q4 (cs := [f1, f2, f3, f4, f5, f6, f7, f8, f9] ++ ([g1, g2, g3, g4, g5, g6, g7, g8, g9] ++ [i1, i2, i3, i4, i5, i6, i7, i8, i9])) (by repeat (first | exact Pk.here | apply Pk.there)) (fun G9 hle9 hsl9 hno9 => ?_); have hN := B4A (k := 9) (nm := ⟨⟨[]⟩⟩) ⟨by omega, by omega⟩ (hrf.mono hle9) (hrg.mono hle9) (hri.mono hle9) hsl9)
 refine tT (rB ?_)
 refine A0X ?_
 refine E5 (outs := [rd br pb nb cb pi]) (rC rfl (A7 rfl rfl)) (by repeat (first | exact A0.nil | refine A0.cons Pk.here ?_ | refine A0.cons (Pk.there Pk.here) ?_ | refine A0.cons (Pk.there (Pk.there Pk.here)) ?_ | apply A0.drop)) ?_
 (exact ⟨pi, by omega, by omega, rfl, _, _, rfl, hN, by first | exact N2 (by first | assumption | decide) | exact A0y (by decide) (by assumption) (by assumption) (by assumption) | exact S7 (by decide) (by assumption) (by assumption) | exact K2 (by decide) O9 (by assumption) | exact K2 (by decide) har.small (by assumption) | exact K2 (by decide) O9 (S7 (by decide) (by assumption) (N2 (by decide))) | exact K2 (by decide) A0z (N2 (by decide)) | assumption, by simp only [E6, I2]; omega⟩)
 refine sQ (qA rfl) rfl (sD (nS (cF rfl (tS (tR ?_)))))
 refine sB (qE rfl rfl) rfl rfl (fun h264 => ?_) (fun h264 => ?_)
 refine sQ (qA rfl) rfl (sD (nS (qT rfl (tS (tR (sQ (qM rfl) rfl ?_))))))
 (have hcall := A3N br pb nb cb bs hnb 0 (p1 + 1) _ (by omega) hb (by have : dB (0 + 1) ≤ 6 := (by decide); omega); refine D2 rfl hcall (Pk.perm (by repeat (first | exact Pk.here | apply Pk.there))) rfl rfl (fun v Gn outs hleD hh => ?_); obtain ⟨pD, hpD1, hpD2, rfl, uD, cuD, rfl, hruD, husD, huhD⟩ := hh; have huaD := huhD.ar; obtain ⟨quD, duD, euD, rfl, _⟩ := hruD.open; have hdBD : dB (0 + 1) ≤ 6 := (by decide); replace hx := hx.mono hleD; replace hb := hb.mono hleD; replace hrt := hrt.mono hleD;)
 refine sE (B6 rfl) rfl (fun b273 => ?_)
 refine B9 ?_
 refine sD (nS (tS ?_))
 (obtain ⟨m, rfl⟩ := hfu.pos (.inl (by omega)); have hmB : mB (m + 1) = 3 * mB m + 200 := rfl; have hgm := A1y m; refine I0 I1 rfl ?_)
 refine J2 (i := 0) (l' := [tt,ff,ff,ff,ff,ff,ff,ff,ff,ff,ff,ff,ff,ff,ff,ff,ff,ff]) rfl F4 (qM rfl) rfl (by kernel_rfl) rfl rfl ?_
 refine aP 1 rfl (qM rfl) rfl ?_
 refine aL 2 rfl (A7 rfl rfl) rfl ?_
 refine aL 3 rfl (A7 rfl rfl) rfl ?_
 refine aP 4 rfl (qM rfl) rfl ?_
 refine aP 5 rfl (L7 rfl rfl (by omega) (by omega)) rfl ?_
 refine aP 7 rfl (qM rfl) rfl ?_
 refine aP 8 rfl (qM rfl) rfl ?_
 refine aP 9 rfl (qM rfl) rfl ?_
 refine aL 10 rfl (A7 rfl rfl) rfl ?_
 refine aP 12 rfl (qM rfl) rfl ?_
 refine aP 13 rfl (L7 rfl rfl (by omega) (by omega)) rfl ?_
 refine A8 6 ?_
 (have hcall := A9R br pb nb cb bs hnb m (ih m (by omega)) (depth - 1) uD (.mk k ks) (pD) _ pc nc cc _ _ (hfu.sub (by omega) hfu.1) (by omega) (by omega) (by omega) hx hruD ⟨huaD, by omega⟩ hrt hb (by omega); refine A0a (l' := [tt,tt,tt,tt,tt,tt,tt,tt,tt,tt,tt,ff,tt,tt,ff,ff,ff,ff]) rfl rfl hcall (Pk.perm (by repeat (first | exact Pk.here | apply Pk.there))) rfl rfl rfl (by repeat (first | exact B0.nil | apply B0.dep (by decide +kernel) | apply B0.im (by decide +kernel) hg0 (by repeat first | exact mH | apply mT) | apply B0.im (by decide +kernel) hg1 (by repeat first | exact mH | apply mT) | apply B0.blk (by decide +kernel) (by repeat (first | exact Pk.here | apply Pk.there)) (by repeat first | exact mH | apply mT))) (fun v Gn outs hlel hh => ?_); obtain ⟨pl, hpl1, hpl2, rfl, el, cl, rfl, hrl, hsml, hcl⟩ := hh; obtain ⟨l1, l2, l3, l4, l5, l6, l7, l8, l9, rfl⟩ := hrl.nine; replace hruD := hruD.mono hlel; replace hx := hx.mono hlel; replace hb := hb.mono hlel; replace hrt := hrt.mono hlel;)
 refine A8 11 ?_
 (have hcall := A6e br pb nb cb bs hnb uD (pl) _ _ huaD hruD hb (by omega); refine A0a (l' := [tt,tt,tt,tt,tt,tt,tt,tt,tt,tt,tt,tt,tt,tt,ff,ff,ff,ff]) rfl rfl hcall (Pk.perm (by repeat (first | exact Pk.here | apply Pk.there))) rfl rfl rfl (by repeat (first | exact B0.nil | apply B0.dep (by decide +kernel) | apply B0.im (by decide +kernel) hg0 (by repeat first | exact mH | apply mT) | apply B0.im (by decide +kernel) hg1 (by repeat first | exact mH | apply mT) | apply B0.blk (by decide +kernel) (by repeat (first | exact Pk.here | apply Pk.there)) (by repeat first | exact mH | apply mT))) (fun v Gn outs hleE hh => ?_); obtain ⟨pE, hpE1, hpE2, rfl, uE, cuE, rfl, hruE, huaE, husE, huhE⟩ := hh; obtain ⟨quE, duE, euE, rfl, _⟩ := hruE.open; replace hrl := hrl.mono hleE; replace hx := hx.mono hleE; replace hb := hb.mono hleE; replace hrt := hrt.mono hleE;)
 refine A8 14 ?_
 (have hcall := ih m (by omega) (depth - 1) uE pE _ pc nc cc _ (hfu.sub (by omega) (huhE 4 (huhD.le (by omega)))) (by omega) (by omega) (by omega) hx hruE hb (by omega); refine A0a (l' := [tt,tt,tt,tt,tt,tt,tt,tt,tt,tt,tt,tt,tt,tt,tt,ff,ff,ff]) rfl rfl hcall (Pk.perm (by repeat (first | exact Pk.here | apply Pk.there))) rfl rfl rfl (by repeat (first | exact B0.nil | apply B0.dep (by decide +kernel) | apply B0.im (by decide +kernel) hg0 (by repeat first | exact mH | apply mT) | apply B0.im (by decide +kernel) hg1 (by repeat first | exact mH | apply mT) | apply B0.blk (by decide +kernel) (by repeat (first | exact Pk.here | apply Pk.there)) (by repeat first | exact mH | apply mT))) (fun v Gn outs hled hh => ?_); obtain ⟨pd, hpd1, hpd2, rfl, ed, cd, rfl, hrd, hsmd, hcd⟩ := hh; obtain ⟨d1, d2, d3, d4, d5, d6, d7, d8, d9, rfl⟩ := hrd.nine; replace hrl := hrl.mono hled; replace hx := hx.mono hled; replace hb := hb.mono hled; replace hrt := hrt.mono hled;)
 refine A8 15 ?_
 (refine J9 rfl (D0 rfl rfl rfl (by omega) (by unfold maxLen; omega) rfl) rfl rfl ?_; rintro _ ⟨b298, rfl⟩)
 refine A8 16 ?_
 refine Q5 rfl rfl ((A2w _ _ _ _ _)) rfl rfl rfl ?_
 refine A8 17 ?_
 refine P3 rfl rfl rfl rfl rfl rfl rfl rfl (by decide +kernel) (by repeat first | exact Sw.here | apply Sw.there) (by rfl) ?_
 refine D6 (nS ?_)
 (refine Q4 (cs := [l1, l2, l3, l4, l5, l6, l7, l8, l9] ++ [d1, d2, d3, d4, d5, d6, d7, d8, d9]) (by repeat (first | exact Pk.here | apply Pk.there)) (fun G9 hle9 hsl9 hno9 => ?_); have hN := A3Y (k := 6) (nm := ⟨⟨[]⟩⟩) ⟨by omega, by omega⟩ (hrl.mono hle9) (hrd.mono hle9) hsl9)
 refine tT (rB ?_)
 refine A0X ?_
 refine E5 (outs := [rd br pb nb cb pd]) (rC rfl (A7 rfl rfl)) (by repeat (first | exact A0.nil | refine A0.cons Pk.here ?_ | refine A0.cons (Pk.there Pk.here) ?_ | refine A0.cons (Pk.there (Pk.there Pk.here)) ?_ | apply A0.drop)) ?_
 (exact ⟨pd, by omega, by omega, rfl, _, _, rfl, hN, by first | exact N2 (by first | assumption | decide) | exact A0y (by decide) (by assumption) (by assumption) (by assumption) | exact S7 (by decide) (by assumption) (by assumption) | exact K2 (by decide) O9 (by assumption) | exact K2 (by decide) har.small (by assumption) | exact K2 (by decide) O9 (S7 (by decide) (by assumption) (N2 (by decide))) | exact K2 (by decide) A0z (N2 (by decide)) | assumption, by simp only [E6, I2]; omega⟩)
 refine sQ (qA rfl) rfl (sD (nS (cF rfl (tS (tR ?_)))))
 refine sB (qE rfl rfl) rfl rfl (fun h317 => ?_) (fun h317 => ?_)
 refine sQ (qA rfl) rfl (sD (nS (qT rfl (tS (tR (sQ (qM rfl) rfl (sQ (qM rfl) rfl (sL (A7 rfl rfl) rfl rfl (sQ (qM rfl) rfl ?_)))))))))
 refine sP (L7 rfl rfl (by omega) (by omega)) rfl rfl ?_
 (have hpkq := hpk9; obtain ⟨m, rfl⟩ := hfu.pos (.inl (by omega)); have hmB : mB (m + 1) = 3 * mB m + 200 := rfl; have hgm := A1y m; have hcall := ih m (by omega) (depth - 1) (.mk k ks) (p1 + 1) _ pc nc cc _ (hfu.sub (by omega) hfu.1) (by omega) (by omega) (by omega) hx hrt hb (by omega); refine D2 rfl hcall (Pk.perm (by repeat (first | exact Pk.here | apply Pk.there))) rfl rfl (fun v Gn outs hleh hh => ?_); obtain ⟨ph, hph1, hph2, rfl, eh, ch, rfl, hrh, hsmh, hch⟩ := hh; obtain ⟨h1, h2, h3, h4, h5, h6, h7, h8, h9, rfl⟩ := hrh.nine; replace hx := hx.mono hleh; replace hb := hb.mono hleh; replace hrt := hrt.mono hleh;)
 refine F0 rfl ((A2v _ _)) rfl rfl ?_
 (refine E0 (D0 rfl rfl rfl (by omega) (by unfold maxLen; omega) rfl) rfl ?_; rintro _ ⟨b331, rfl⟩)
 refine F0 rfl ((A2w _ _ _ _ _)) rfl rfl ?_
 (refine E0 (D0 rfl rfl rfl (by omega) (by unfold maxLen; omega) rfl) rfl ?_; rintro _ ⟨b333, rfl⟩)
 refine F0 rfl ((A2w _ _ _ _ _)) rfl rfl ?_
 refine B9 ?_
 refine sD (nS ?_)
 (refine Q4 (cs := [h1, h2, h3, h4, h5, h6, h7, h8, h9] ++ [.int .i64 2, .string ⟨⟨[]⟩⟩, .int .i64 1, .int .i64 0, .slice none 0 0, .int .i64 0, .slice none 0 0, .int .i64 0, .slice none 0 0]) (by repeat (first | exact Pk.here | apply Pk.there)) (fun G8 hle8 hsl8 hno8 => ?_); have hNi := A3Y (k := 10) (nm := ⟨⟨[]⟩⟩) ⟨by omega, by omega⟩ (hrh.mono hle8) (A2g G8 ⟨⟨[]⟩⟩ 1 (k := 2) ⟨by omega, by omega⟩ ⟨by omega, by omega⟩) hsl8; refine Q4 (by repeat (first | exact Pk.here | apply Pk.there)) (fun G9 hle9 hsl9 hno9 => ?_); have hN := A3X (k := 11) (nm := ⟨⟨[]⟩⟩) ⟨by omega, by omega⟩ (P1 G9 (k := 0) ⟨by omega, by omega⟩) (hNi.mono hle9) hsl9)
 refine tT (rB ?_)
 refine A0X ?_
 refine E5 (outs := [rd br pb nb cb ph]) (rC rfl (A7 rfl rfl)) (by repeat (first | exact A0.nil | refine A0.cons Pk.here ?_ | refine A0.cons (Pk.there Pk.here) ?_ | refine A0.cons (Pk.there (Pk.there Pk.here)) ?_ | apply A0.drop)) ?_
 (exact ⟨ph, by omega, by omega, rfl, _, _, rfl, hN, by first | exact N2 (by first | assumption | decide) | exact A0y (by decide) (by assumption) (by assumption) (by assumption) | exact S7 (by decide) (by assumption) (by assumption) | exact K2 (by decide) O9 (by assumption) | exact K2 (by decide) har.small (by assumption) | exact K2 (by decide) O9 (S7 (by decide) (by assumption) (N2 (by decide))) | exact K2 (by decide) A0z (N2 (by decide)) | assumption, by simp only [E6, I2]; omega⟩)
 refine sQ (qA rfl) rfl (sD (nS (cF rfl (tK (C8 ?_)))))
 refine A30 (p1 + 1, Gp) (O2 (by repeat (first | exact E4.nil | refine E4.cons rfl ?_)) (by repeat (first | exact A0.refl | exact A0.nil | refine A0.cons (by repeat (first | exact Pk.here | apply Pk.there)) ?_ | apply A0.drop))) ⟨B4.refl _, by dsimp only; omega, by dsimp only; omega⟩
 refine tK ?_
 refine A30 (p1, G1) (O2 (by repeat (first | exact E4.nil | refine E4.cons rfl ?_)) (by repeat (first | exact A0.refl | exact A0.nil | refine A0.cons (by repeat (first | exact Pk.here | apply Pk.there)) ?_ | apply A0.drop))) ⟨B4.refl _, by dsimp only; omega, by dsimp only; omega⟩
 (rintro ⟨(p2 : Nat), G2⟩ ⟨hle2c, hp2a, hp2b⟩; simp only [] at hle2c hp2a hp2b ⊢; have hcut1 := hp2a; replace hx := hx.mono hle2c; replace hb := hb.mono hle2c; replace hrt := hrt.mono hle2c;)
 refine tS (tS (tR (sQ (A3 rfl) rfl (sL (A5 rfl rfl) rfl rfl (sD (nS ?_))))))
 (show I6 _ _ (.block 3 ..) _ _; refine A9S (fun (x : Nat × IM) => ⟨[(0, .pointer (some ⟨br, 0, none⟩)), (1, .slice pc nc cc), (3, .int .i64 depth), (6, .pointer (some ⟨b3, 0, none⟩)), (8, .pointer (some ⟨b4, 0, none⟩))], [rd br pb nb cb x.1, .blk b4 [.int .i64 0, .string ⟨⟨[]⟩⟩, .int .i64 0, .int .i64 0, .slice none 0 0, .int .i64 0, .slice none 0 0, .int .i64 0, .slice none 0 0], .blk b3 [.int .i64 k, .slice q ks.length c]], x.2⟩) (fun x => B4 G2 x.2 ∧ p2 ≤ x.1 ∧ x.1 ≤ p2 + 2) ?_ ?_)
 refine B5 (tS (tR (sB (qE rfl rfl) rfl rfl (fun h365 => ?_) (fun h365 => ?_))))
 refine sQ (qA rfl) rfl (sD (nS (qT rfl (tS (tS (tR (sQ (qM rfl) rfl ?_)))))))
 refine sB (Y7 rfl rfl) rfl rfl (fun h374 => ?_) (fun h374 => ?_)
 refine sQ (qM rfl) rfl (sQ (qM rfl) rfl ?_)
 (have hkk3 : k = 3 := (by omega); refine D2 rfl (X2 _ br pb nb cb (p2) bs 2 hb hnb (by omega)) (Pk.perm (by repeat (first | exact Pk.here | apply Pk.there))) rfl rfl (fun v Gp outs hle377 hh => ?_); obtain ⟨rfl, rfl, j377, rfl, hj377, hk377⟩ := hh; have hpk22 := hj377)
 replace hb := hb.mono hle377
 replace hrt := hrt.mono hle377
 refine sB (qE rfl rfl) rfl rfl (fun h378 => ?_) (fun h378 => ?_)
 refine sQ (C1 rfl rfl) rfl (sD (nS (qT rfl (tS (tR (sQ (qM rfl) rfl (sQ (qM rfl) rfl ?_)))))))
 refine F0 rfl ((A1v _)) rfl rfl ?_
 refine sQ (qM rfl) rfl ?_
 refine sP (L7 rfl rfl (by omega) (by omega)) rfl rfl ?_
 (have hkk3q := hkk3; obtain ⟨m, rfl⟩ := hfu.pos (.inl (by omega)); have hmB : mB (m + 1) = 3 * mB m + 200 := rfl; have hgm := A1y m; have hcall := ih m (by omega) (depth - 1) (.mk 2 []) (p2 + 1) _ pc nc cc _ (hfu.sub (by omega) (A22 4 (by decide) (by decide))) (by omega) (by omega) (by omega) hx (P1 _ ⟨by omega, by omega⟩) hb (by omega); refine D2 rfl hcall (Pk.perm (by repeat (first | exact Pk.here | apply Pk.there))) rfl rfl (fun v Gn outs hlen hh => ?_); obtain ⟨pn, hpn1, hpn2, rfl, en, cn, rfl, hrn, hsmn, hcn⟩ := hh; obtain ⟨n1, n2, n3, n4, n5, n6, n7, n8, n9, rfl⟩ := hrn.nine; replace hx := hx.mono hlen; replace hb := hb.mono hlen; replace hrt := hrt.mono hlen;)
 refine sQ (qM rfl) rfl (sQ (qM rfl) rfl ?_)
 refine F0 rfl ((A1v _)) rfl rfl ?_
 refine sQ (qM rfl) rfl ?_
 refine sP (L7 rfl rfl (by omega) (by omega)) rfl rfl ?_
 (have hcall := ih m (by omega) (depth - 1) (.mk 2 []) pn _ pc nc cc _ (hfu.sub (by omega) (A22 4 (by decide) (by decide))) (by omega) (by omega) (by omega) hx (P1 _ ⟨by omega, by omega⟩) hb (by omega); refine D2 rfl hcall (Pk.perm (by repeat (first | exact Pk.here | apply Pk.there))) rfl rfl (fun v Gn outs hleo hh => ?_); obtain ⟨po, hpo1, hpo2, rfl, eo, co, rfl, hro, hsmo, hco⟩ := hh; obtain ⟨o1, o2, o3, o4, o5, o6, o7, o8, o9, rfl⟩ := hro.nine; replace hrn := hrn.mono hleo; replace hx := hx.mono hleo; replace hb := hb.mono hleo; replace hrt := hrt.mono hleo;)
 (refine E0 (D0 rfl rfl rfl (by omega) (by unfold maxLen; omega) rfl) rfl ?_; rintro _ ⟨b397, rfl⟩)
 refine F0 rfl ((A2w _ _ _ _ _)) rfl rfl ?_
 refine B9 ?_
 refine sD (nS ?_)
 (refine Q4 (cs := [n1, n2, n3, n4, n5, n6, n7, n8, n9] ++ [o1, o2, o3, o4, o5, o6, o7, o8, o9]) (by repeat (first | exact Pk.here | apply Pk.there)) (fun G9 hle9 hsl9 hno9 => ?_); have hN := A3Y (k := 8) (nm := ⟨⟨[]⟩⟩) ⟨by omega, by omega⟩ (hrn.mono hle9) (hro.mono hle9) hsl9)
 refine tT (rS (rB ?_))
 refine A0X ?_
 refine E5 (outs := [rd br pb nb cb po]) (rC rfl (A7 rfl rfl)) (by repeat (first | exact A0.nil | refine A0.cons Pk.here ?_ | refine A0.cons (Pk.there Pk.here) ?_ | refine A0.cons (Pk.there (Pk.there Pk.here)) ?_ | apply A0.drop)) ?_
 (exact ⟨po, by omega, by omega, rfl, _, _, rfl, hN, by first | exact N2 (by first | assumption | decide) | exact A0y (by decide) (by assumption) (by assumption) (by assumption) | exact S7 (by decide) (by assumption) (by assumption) | exact K2 (by decide) O9 (by assumption) | exact K2 (by decide) har.small (by assumption) | exact K2 (by decide) O9 (S7 (by decide) (by assumption) (N2 (by decide))) | exact K2 (by decide) A0z (N2 (by decide)) | assumption, by simp only [E6, I2]; omega⟩)
 refine sQ (C1 rfl rfl) rfl (sD (nS (cF rfl (tK (nS (tS (tR (sQ (D9 rfl rfl) rfl (B9 ?_)))))))))
 refine sD (nS (tT (rB ?_)))
 refine A0X ?_
 refine E5 (outs := [rd br pb nb cb (p2 + 1)]) (rC rfl (A7 rfl rfl)) (by repeat (first | exact A0.nil | refine A0.cons Pk.here ?_ | refine A0.cons (Pk.there Pk.here) ?_ | refine A0.cons (Pk.there (Pk.there Pk.here)) ?_ | apply A0.drop)) ?_
 (exact ⟨(p2 + 1), by omega, by omega, rfl, _, _, rfl, A2g _ _ _ ⟨by omega, by omega⟩ (by first | exact ⟨by omega, by omega⟩ | exact hkn), by first | exact N2 (by first | assumption | decide) | exact A0y (by decide) (by assumption) (by assumption) (by assumption) | exact S7 (by decide) (by assumption) (by assumption) | exact K2 (by decide) O9 (by assumption) | exact K2 (by decide) har.small (by assumption) | exact K2 (by decide) O9 (S7 (by decide) (by assumption) (N2 (by decide))) | exact K2 (by decide) A0z (N2 (by decide)) | assumption, by simp only [E6, I2]; omega⟩)
 refine V6 ?_
 refine A0X ?_
 refine E5 (outs := [rd br pb nb cb p2]) (rC rfl (A7 rfl rfl)) (by repeat (first | exact A0.nil | refine A0.cons Pk.here ?_ | refine A0.cons (Pk.there Pk.here) ?_ | refine A0.cons (Pk.there (Pk.there Pk.here)) ?_ | apply A0.drop)) ?_
 (exact ⟨p2, by omega, by omega, rfl, _, _, rfl, A2g _ _ _ ⟨by omega, by omega⟩ (by first | exact ⟨by omega, by omega⟩ | exact hkn), by first | exact N2 (by first | assumption | decide) | exact A0y (by decide) (by assumption) (by assumption) (by assumption) | exact S7 (by decide) (by assumption) (by assumption) | exact K2 (by decide) O9 (by assumption) | exact K2 (by decide) har.small (by assumption) | exact K2 (by decide) O9 (S7 (by decide) (by assumption) (N2 (by decide))) | exact K2 (by decide) A0z (N2 (by decide)) | assumption, by simp only [E6, I2]; omega⟩)
 refine sQ (qA rfl) rfl (sD (nS (cF rfl (tS (tR ?_)))))
 refine sB (qE rfl rfl) rfl rfl (fun h453 => ?_) (fun h453 => ?_)
 refine sQ (qA rfl) rfl (sD (nS (qT rfl (tS ?_))))
 (have hk45 : k = 4 ∨ k = 5 := (by omega); have hl2 := hops hk45; obtain ⟨m, rfl⟩ := hfu.pos (.inr hk45); have hmB : mB (m + 1) = 3 * mB m + 200 := rfl; have hgm := A1y m; obtain ⟨es9, hsl, hkl⟩ := hrt.kidsM; obtain ⟨b0, o0, q0, d0, hp0, hat0, hre0, hg0⟩ := hsl.kidTy hkl (i := 0) (by omega) (by omega); obtain ⟨b1, o1, q1, d1, hp1, hat1, hre1, hg1⟩ := hsl.kidTy hkl (i := 1) (by omega) (by omega); cases hp0; cases hp1; have hmem0 := List.getElem_mem (l := ks) (n := 0) (by omega); have hmem1 := List.getElem_mem (l := ks) (n := 1) (by omega); refine I0 I1 rfl ?_)
 refine J2 (i := 0) (l' := [tt,ff,ff,ff,ff,ff,ff,ff,ff,ff,ff,ff,ff,ff]) rfl F4 (qM rfl) rfl (by kernel_rfl) rfl rfl ?_
 refine aP 1 rfl (qM rfl) rfl ?_
 refine aP 2 rfl (A3 rfl) rfl ?_
 refine aL 3 rfl (A5 rfl rfl) rfl ?_
 refine aP 4 rfl (C2 (j := 0) rfl rfl rfl (by omega)) rfl ?_
 refine aL 5 rfl (A9 rfl rfl (hat0 _) rfl) rfl ?_
 refine aP 6 rfl (A3 rfl) rfl ?_
 refine aL 7 rfl (A5 rfl rfl) rfl ?_
 refine aP 8 rfl (C2 (j := 1) rfl rfl rfl (by omega)) rfl ?_
 refine aL 9 rfl (A9 rfl rfl (hat1 _) rfl) rfl ?_
 refine aP 10 rfl (qM rfl) rfl ?_
 refine aP 11 rfl (L7 rfl rfl (by omega) (by omega)) rfl ?_
 refine A8 12 ?_
 (have hcall := A9R br pb nb cb bs hnb m (ih m (by omega)) (depth - 1) ks[0] ks[1] (p2) _ pc nc cc _ _ (hfu.kid hmem1) (by omega) (by omega) (by omega) hx hre0 ⟨har.kid _ hmem0, by have := B3a (k := k) hmem0; omega⟩ hre1 hb (by omega); refine A0a (l' := [tt,tt,tt,tt,tt,tt,tt,tt,tt,tt,tt,tt,tt,ff]) rfl rfl hcall (Pk.perm (by repeat (first | exact Pk.here | apply Pk.there))) rfl rfl rfl (by repeat (first | exact B0.nil | apply B0.dep (by decide +kernel) | apply B0.im (by decide +kernel) hg0 (by repeat first | exact mH | apply mT) | apply B0.im (by decide +kernel) hg1 (by repeat first | exact mH | apply mT) | apply B0.blk (by decide +kernel) (by repeat (first | exact Pk.here | apply Pk.there)) (by repeat first | exact mH | apply mT))) (fun v Gn outs hlek hh => ?_); obtain ⟨pk, hpk1, hpk2, rfl, ek, ck, rfl, hrk, hsmk, hck⟩ := hh; obtain ⟨k1, k2, k3, k4, k5, k6, k7, k8, k9, rfl⟩ := hrk.nine; replace hx := hx.mono hlek; replace hb := hb.mono hlek; replace hrt := hrt.mono hlek;)
 refine A8 13 ?_
 refine P3 rfl rfl rfl rfl rfl hrk.one rfl rfl (by kernel_rfl) (by repeat first | exact Sw.here | apply Sw.there) (by rfl) ?_
 refine D6 (nS (tT (rB ?_)))
 refine A0X ?_
 refine E5 (outs := [rd br pb nb cb pk]) (rC rfl (A7 rfl rfl)) (by repeat (first | exact A0.nil | refine A0.cons Pk.here ?_ | refine A0.cons (Pk.there Pk.here) ?_ | refine A0.cons (Pk.there (Pk.there Pk.here)) ?_ | apply A0.drop)) ?_
 (exact ⟨pk, by omega, by omega, rfl, _, _, rfl, hrk, hsmk, by omega⟩)
 refine sQ (qA rfl) rfl (sD (nS (cF rfl (tS (tR ?_)))))
 refine sB (qE rfl rfl) rfl rfl (fun h489 => ?_) (fun h489 => ?_)
 refine sQ (qA rfl) rfl (sD (nS (qT rfl (tS ?_))))
 (have hk45 : k = 4 ∨ k = 5 := (by omega); have hl2 := hops hk45; obtain ⟨m, rfl⟩ := hfu.pos (.inr hk45); have hmB : mB (m + 1) = 3 * mB m + 200 := rfl; have hgm := A1y m; obtain ⟨es9, hsl, hkl⟩ := hrt.kidsM; obtain ⟨b0, o0, q0, d0, hp0, hat0, hre0, hg0⟩ := hsl.kidTy hkl (i := 0) (by omega) (by omega); obtain ⟨b1, o1, q1, d1, hp1, hat1, hre1, hg1⟩ := hsl.kidTy hkl (i := 1) (by omega) (by omega); cases hp0; cases hp1; have hmem0 := List.getElem_mem (l := ks) (n := 0) (by omega); have hmem1 := List.getElem_mem (l := ks) (n := 1) (by omega); refine I0 I1 rfl ?_)
 refine J2 (i := 0) (l' := [tt,ff,ff,ff,ff,ff,ff,ff,ff,ff,ff,ff,ff,ff,ff,ff,ff,ff,ff,ff,ff]) rfl F4 (qM rfl) rfl (by kernel_rfl) rfl rfl ?_
 refine aP 1 rfl (qM rfl) rfl ?_
 refine aP 2 rfl (A3 rfl) rfl ?_
 refine aL 3 rfl (A5 rfl rfl) rfl ?_
 refine aP 4 rfl (C2 (j := 0) rfl rfl rfl (by omega)) rfl ?_
 refine aL 5 rfl (A9 rfl rfl (hat0 _) rfl) rfl ?_
 refine aP 6 rfl (qM rfl) rfl ?_
 refine aP 7 rfl (L7 rfl rfl (by omega) (by omega)) rfl ?_
 refine aP 9 rfl (qM rfl) rfl ?_
 refine aP 10 rfl (qM rfl) rfl ?_
 refine aP 11 rfl (A3 rfl) rfl ?_
 refine aL 12 rfl (A5 rfl rfl) rfl ?_
 refine aP 13 rfl (C2 (j := 1) rfl rfl rfl (by omega)) rfl ?_
 refine aL 14 rfl (A9 rfl rfl (hat1 _) rfl) rfl ?_
 refine aP 15 rfl (qM rfl) rfl ?_
 refine aP 16 rfl (L7 rfl rfl (by omega) (by omega)) rfl ?_
 refine A8 8 ?_
 (have hcall := ih m (by omega) (depth - 1) ks[0] p2 _ pc nc cc _ (hfu.kid hmem0) (by omega) (by omega) (by omega) hx hre0 hb (by omega); refine A0a (l' := [tt,tt,tt,tt,tt,tt,tt,tt,tt,tt,tt,tt,tt,tt,tt,tt,tt,ff,ff,ff,ff]) rfl rfl hcall (Pk.perm (by repeat (first | exact Pk.here | apply Pk.there))) rfl rfl rfl (by repeat (first | exact B0.nil | apply B0.dep (by decide +kernel) | apply B0.im (by decide +kernel) hg0 (by repeat first | exact mH | apply mT) | apply B0.im (by decide +kernel) hg1 (by repeat first | exact mH | apply mT) | apply B0.blk (by decide +kernel) (by repeat (first | exact Pk.here | apply Pk.there)) (by repeat first | exact mH | apply mT))) (fun v Gn outs hles hh => ?_); obtain ⟨ps, hps1, hps2, rfl, es, cs, rfl, hrs, hsms, hcs⟩ := hh; obtain ⟨s1, s2, s3, s4, s5, s6, s7, s8, s9, rfl⟩ := hrs.nine; replace hre1 := hre1.mono hles; replace hx := hx.mono hles; replace hb := hb.mono hles; replace hrt := hrt.mono hles;)
 refine A8 17 ?_
 (have hcall := ih m (by omega) (depth - 1) ks[1] ps _ pc nc cc _ (hfu.kid hmem1) (by omega) (by omega) (by omega) hx hre1 hb (by omega); refine A0a (l' := [tt,tt,tt,tt,tt,tt,tt,tt,tt,tt,tt,tt,tt,tt,tt,tt,tt,tt,ff,ff,ff]) rfl rfl hcall (Pk.perm (by repeat (first | exact Pk.here | apply Pk.there))) rfl rfl rfl (by repeat (first | exact B0.nil | apply B0.dep (by decide +kernel) | apply B0.im (by decide +kernel) hg0 (by repeat first | exact mH | apply mT) | apply B0.im (by decide +kernel) hg1 (by repeat first | exact mH | apply mT) | apply B0.blk (by decide +kernel) (by repeat (first | exact Pk.here | apply Pk.there)) (by repeat first | exact mH | apply mT))) (fun v Gn outs hlew hh => ?_); obtain ⟨pw, hpw1, hpw2, rfl, ew, cw, rfl, hrw, hsmw, hcw⟩ := hh; obtain ⟨w1, w2, w3, w4, w5, w6, w7, w8, w9, rfl⟩ := hrw.nine; replace hrs := hrs.mono hlew; replace hx := hx.mono hlew; replace hb := hb.mono hlew; replace hrt := hrt.mono hlew;)
 refine A8 18 ?_
 (refine J9 rfl (D0 rfl rfl rfl (by omega) (by unfold maxLen; omega) rfl) rfl rfl ?_; rintro _ ⟨b517, rfl⟩)
 refine A8 19 ?_
 refine Q5 rfl rfl ((A2w _ _ _ _ _)) rfl rfl rfl ?_
 refine A8 20 ?_
 refine P3 rfl rfl rfl rfl rfl rfl rfl rfl (by decide +kernel) (by repeat first | exact Sw.here | apply Sw.there) (by rfl) ?_
 refine D6 (nS ?_)
 (refine Q4 (cs := [s1, s2, s3, s4, s5, s6, s7, s8, s9] ++ [w1, w2, w3, w4, w5, w6, w7, w8, w9]) (by repeat (first | exact Pk.here | apply Pk.there)) (fun G9 hle9 hsl9 hno9 => ?_); have hN := A3Y (k := 10) (nm := ⟨⟨[]⟩⟩) ⟨by omega, by omega⟩ (hrs.mono hle9) (hrw.mono hle9) hsl9)
 refine tT (rB ?_)
 refine A0X ?_
 refine E5 (outs := [rd br pb nb cb pw]) (rC rfl (A7 rfl rfl)) (by repeat (first | exact A0.nil | refine A0.cons Pk.here ?_ | refine A0.cons (Pk.there Pk.here) ?_ | refine A0.cons (Pk.there (Pk.there Pk.here)) ?_ | apply A0.drop)) ?_
 (exact ⟨pw, by omega, by omega, rfl, _, _, rfl, hN, by first | exact N2 (by first | assumption | decide) | exact A0y (by decide) (by assumption) (by assumption) (by assumption) | exact S7 (by decide) (by assumption) (by assumption) | exact K2 (by decide) O9 (by assumption) | exact K2 (by decide) har.small (by assumption) | exact K2 (by decide) O9 (S7 (by decide) (by assumption) (N2 (by decide))) | exact K2 (by decide) A0z (N2 (by decide)) | assumption, by simp only [E6, I2]; omega⟩)
 refine sQ (qA rfl) rfl (sD (nS (cF rfl (tS (tR ?_)))))
 refine sB (qE rfl rfl) rfl rfl (fun h536 => ?_) (fun h536 => ?_)
 refine sQ (qA rfl) rfl (sD (nS (qT rfl (tS (tS (tR (sQ (qM rfl) rfl ?_)))))))
 refine sB (Y7 rfl rfl) rfl rfl (fun h545 => ?_) (fun h545 => ?_)
 refine sQ (qM rfl) rfl (sQ (qM rfl) rfl ?_)
 (have hkk1 : k = 1 := (by omega); refine D2 rfl (X2 _ br pb nb cb (p2) bs 3 hb hnb (by omega)) (Pk.perm (by repeat (first | exact Pk.here | apply Pk.there))) rfl rfl (fun v Gp outs hle548 hh => ?_); obtain ⟨rfl, rfl, j548, rfl, hj548, hk548⟩ := hh; have hpk23 := hj548)
 replace hb := hb.mono hle548
 replace hrt := hrt.mono hle548
 refine sB (qE rfl rfl) rfl rfl (fun h549 => ?_) (fun h549 => ?_)
 refine sQ (C1 rfl rfl) rfl (sD (nS (qT rfl (tS (tR (sQ (qM rfl) rfl (sQ (qM rfl) rfl (sQ (qM rfl) rfl ?_))))))))
 (have hcall := A3N br pb nb cb bs hnb 1 (p2 + 1) _ (by omega) hb (by have : dB (1 + 1) ≤ 6 := (by decide); omega); refine D2 rfl hcall (Pk.perm (by repeat (first | exact Pk.here | apply Pk.there))) rfl rfl (fun v Gn outs hleF hh => ?_); obtain ⟨pF, hpF1, hpF2, rfl, uF, cuF, rfl, hruF, husF, huhF⟩ := hh; have huaF := huhF.ar; obtain ⟨quF, duF, euF, rfl, _⟩ := hruF.open; have hdBF : dB (1 + 1) ≤ 6 := (by decide); replace hx := hx.mono hleF; replace hb := hb.mono hleF; replace hrt := hrt.mono hleF;)
 refine sQ (qM rfl) rfl ?_
 refine sP (L7 rfl rfl (by omega) (by omega)) rfl rfl ?_
 (obtain ⟨m, rfl⟩ := hfu.pos (.inl (by omega)); have hmB : mB (m + 1) = 3 * mB m + 200 := rfl; have hgm := A1y m; have hcall := ih m (by omega) (depth - 1) uF pF _ pc nc cc _ (hfu.sub (by omega) (huhF.le (by omega))) (by omega) (by omega) (by omega) hx hruF hb (by omega); refine D2 rfl hcall (Pk.perm (by repeat (first | exact Pk.here | apply Pk.there))) rfl rfl (fun v Gn outs hlex hh => ?_); obtain ⟨px, hpx1, hpx2, rfl, ex, cx, rfl, hrx, hsmx, hcx⟩ := hh; obtain ⟨x1, x2, x3, x4, x5, x6, x7, x8, x9, rfl⟩ := hrx.nine; replace hx := hx.mono hlex; replace hb := hb.mono hlex; replace hrt := hrt.mono hlex;)
 refine sS rfl rfl rfl rfl hrx.one rfl ?_
 refine sD (nS (tT (rS (rB ?_))))
 refine A0X ?_
 refine E5 (outs := [rd br pb nb cb px]) (rC rfl (A7 rfl rfl)) (by repeat (first | exact A0.nil | refine A0.cons Pk.here ?_ | refine A0.cons (Pk.there Pk.here) ?_ | refine A0.cons (Pk.there (Pk.there Pk.here)) ?_ | apply A0.drop)) ?_
 (exact ⟨px, by omega, by omega, rfl, _, _, rfl, hrx, hsmx, by omega⟩)
 refine sQ (C1 rfl rfl) rfl (sD (nS (cF rfl (tK (nS (tS (tR (sQ (qM rfl) rfl ?_))))))))
 (refine D2 rfl (X2 _ br pb nb cb (p2 + 1) bs 3 hb hnb (by omega)) (Pk.perm (by repeat (first | exact Pk.here | apply Pk.there))) rfl rfl (fun v Gp outs hle581 hh => ?_); obtain ⟨rfl, rfl, j581, rfl, hj581, hk581⟩ := hh; have hpk21 := hj581)
 replace hb := hb.mono hle581
 replace hrt := hrt.mono hle581
 refine sB (qE rfl rfl) rfl rfl (fun h582 => ?_) (fun h582 => ?_)
 refine sD (nS (qT rfl (tS (tR ?_))))
 refine F0 rfl ((A1Q _)) rfl rfl ?_
 refine sQ (D9 rfl rfl) rfl ?_
 (refine E0 (D0 rfl rfl rfl (by omega) (by unfold maxLen; omega) rfl) rfl ?_; rintro _ ⟨b590, rfl⟩)
 refine sQ (D9 rfl rfl) rfl (B9 ?_)
 refine sD (nS ?_)
 (refine Q4 (cs := [.int .i64 4, .string ⟨⟨[]⟩⟩, .int .i64 0, .int .i64 0, .slice none 0 0, .int .i64 0, .slice none 0 0, .int .i64 0, .slice none 0 0]) (by repeat (first | exact Pk.here | apply Pk.there)) (fun G9 hle9 hsl9 hno9 => ?_); have hN := A3X (k := 13) (nm := ⟨⟨[]⟩⟩) ⟨by omega, by omega⟩ (A1t _) (A2g G9 ⟨⟨[]⟩⟩ 0 (k := 4) ⟨by omega, by omega⟩ ⟨by omega, by omega⟩) hsl9)
 refine tT (rB ?_)
 refine A0X ?_
 refine E5 (outs := [rd br pb nb cb (p2 + 1 + 1)]) (rC rfl (A7 rfl rfl)) (by repeat (first | exact A0.nil | refine A0.cons Pk.here ?_ | refine A0.cons (Pk.there Pk.here) ?_ | refine A0.cons (Pk.there (Pk.there Pk.here)) ?_ | apply A0.drop)) ?_
 (exact ⟨(p2 + 1 + 1), by omega, by omega, rfl, _, _, rfl, hN, by first | exact N2 (by first | assumption | decide) | exact A0y (by decide) (by assumption) (by assumption) (by assumption) | exact S7 (by decide) (by assumption) (by assumption) | exact K2 (by decide) O9 (by assumption) | exact K2 (by decide) har.small (by assumption) | exact K2 (by decide) O9 (S7 (by decide) (by assumption) (N2 (by decide))) | exact K2 (by decide) A0z (N2 (by decide)) | assumption, by simp only [E6, I2]; omega⟩)
 refine sD (nS (cF rfl (tK (C8 ?_))))
 refine A30 (p2 + 1 + 1, Gp) (O2 (by repeat (first | exact E4.nil | refine E4.cons rfl ?_)) (by repeat (first | exact A0.refl | exact A0.nil | refine A0.cons (by repeat (first | exact Pk.here | apply Pk.there)) ?_ | apply A0.drop))) ⟨B4.refl _, by dsimp only; omega, by dsimp only; omega⟩
 refine W2 ?_
 (have hkk1 : k = 1 := (by omega); refine D2 rfl (X2 _ br pb nb cb (p2) bs 3 hb hnb (by omega)) (Pk.perm (by repeat (first | exact Pk.here | apply Pk.there))) rfl rfl (fun v Gp outs hle620 hh => ?_); obtain ⟨rfl, rfl, j620, rfl, hj620, hk620⟩ := hh; have hpk23 := hj620)
 replace hb := hb.mono hle620
 replace hrt := hrt.mono hle620
 refine sB (qE rfl rfl) rfl rfl (fun h621 => ?_) (fun h621 => ?_)
 refine sD (nS (qT rfl (tS (tR ?_))))
 refine F0 rfl ((A1Q _)) rfl rfl ?_
 refine sQ (D9 rfl rfl) rfl ?_
 (refine E0 (D0 rfl rfl rfl (by omega) (by unfold maxLen; omega) rfl) rfl ?_; rintro _ ⟨b629, rfl⟩)
 refine sQ (D9 rfl rfl) rfl (B9 ?_)
 refine sD (nS ?_)
 (refine Q4 (cs := [.int .i64 4, .string ⟨⟨[]⟩⟩, .int .i64 0, .int .i64 0, .slice none 0 0, .int .i64 0, .slice none 0 0, .int .i64 0, .slice none 0 0]) (by repeat (first | exact Pk.here | apply Pk.there)) (fun G9 hle9 hsl9 hno9 => ?_); have hN := A3X (k := 13) (nm := ⟨⟨[]⟩⟩) ⟨by omega, by omega⟩ (A1t _) (A2g G9 ⟨⟨[]⟩⟩ 0 (k := 4) ⟨by omega, by omega⟩ ⟨by omega, by omega⟩) hsl9)
 refine tT (rB ?_)
 refine A0X ?_
 refine E5 (outs := [rd br pb nb cb (p2 + 1)]) (rC rfl (A7 rfl rfl)) (by repeat (first | exact A0.nil | refine A0.cons Pk.here ?_ | refine A0.cons (Pk.there Pk.here) ?_ | refine A0.cons (Pk.there (Pk.there Pk.here)) ?_ | apply A0.drop)) ?_
 (exact ⟨(p2 + 1), by omega, by omega, rfl, _, _, rfl, hN, by first | exact N2 (by first | assumption | decide) | exact A0y (by decide) (by assumption) (by assumption) (by assumption) | exact S7 (by decide) (by assumption) (by assumption) | exact K2 (by decide) O9 (by assumption) | exact K2 (by decide) har.small (by assumption) | exact K2 (by decide) O9 (S7 (by decide) (by assumption) (N2 (by decide))) | exact K2 (by decide) A0z (N2 (by decide)) | assumption, by simp only [E6, I2]; omega⟩)
 refine sD (nS (cF rfl (tK (C8 ?_))))
 refine A30 (p2 + 1, Gp) (O2 (by repeat (first | exact E4.nil | refine E4.cons rfl ?_)) (by repeat (first | exact A0.refl | exact A0.nil | refine A0.cons (by repeat (first | exact Pk.here | apply Pk.there)) ?_ | apply A0.drop))) ⟨B4.refl _, by dsimp only; omega, by dsimp only; omega⟩
 refine sQ (qA rfl) rfl (sD (nS (cF rfl (tK (C8 ?_)))))
 refine A30 (p2, G2) (O2 (by repeat (first | exact E4.nil | refine E4.cons rfl ?_)) (by repeat (first | exact A0.refl | exact A0.nil | refine A0.cons (by repeat (first | exact Pk.here | apply Pk.there)) ?_ | apply A0.drop))) ⟨B4.refl _, by dsimp only; omega, by dsimp only; omega⟩
 (have hq := hcut1; rintro ⟨(p5 : Nat), G5⟩ ⟨hle5c, hp5a, hp5b⟩; simp only [] at hle5c hp5a hp5b ⊢; have hcut2 := hp5a; replace hx := hx.mono hle5c; replace hb := hb.mono hle5c; replace hrt := hrt.mono hle5c;)
 refine tS (tS (tR (sQ (qM rfl) rfl ?_)))
 refine sB (Y7 rfl rfl) rfl rfl (fun h658 => ?_) (fun h658 => ?_)
 refine sQ (qM rfl) rfl (sQ (qM rfl) rfl ?_)
 (refine D2 rfl (X2 _ br pb nb cb (p5) bs 2 hb hnb (by omega)) (Pk.perm (by repeat (first | exact Pk.here | apply Pk.there))) rfl rfl (fun v Gp outs hle661 hh => ?_); obtain ⟨rfl, rfl, j661, rfl, hj661, hk661⟩ := hh; have hpk5 := hj661)
 replace hb := hb.mono hle661
 replace hrt := hrt.mono hle661
 refine sB (qE rfl rfl) rfl rfl (fun h662 => ?_) (fun h662 => ?_)
 refine sQ (C1 rfl rfl) rfl (sD (nS (qT rfl (tS (tR (sQ (qM rfl) rfl (sQ (qM rfl) rfl (sQ (qM rfl) rfl ?_))))))))
 refine F0 rfl ((A1v _)) rfl rfl ?_
 (have hz2 : K0 (.mk 2 []) = 0 := rfl; have hcall := A6e br pb nb cb bs hnb (.mk 2 []) (p5 + 1) _ _ (U0 (by decide) (by decide)) (P1 _ ⟨by omega, by omega⟩) hb (by omega); refine D2 rfl hcall (Pk.perm (by repeat (first | exact Pk.here | apply Pk.there))) rfl rfl (fun v Gn outs hleG hh => ?_); obtain ⟨pG, hpG1, hpG2, rfl, uG, cuG, rfl, hruG, huaG, husG, huhG⟩ := hh; obtain ⟨quG, duG, euG, rfl, _⟩ := hruG.open; replace hx := hx.mono hleG; replace hb := hb.mono hleG; replace hrt := hrt.mono hleG;)
 refine sQ (qM rfl) rfl ?_
 refine sP (L7 rfl rfl (by omega) (by omega)) rfl rfl ?_
 (obtain ⟨m, rfl⟩ := hfu.pos (.inl (by omega)); have hmB : mB (m + 1) = 3 * mB m + 200 := rfl; have hgm := A1y m; have hcall := ih m (by omega) (depth - 1) uG pG _ pc nc cc _ (hfu.sub (by omega) (huhG 4 (A22 4 (by decide) (by decide)))) (by omega) (by omega) (by omega) hx hruG hb (by omega); refine D2 rfl hcall (Pk.perm (by repeat (first | exact Pk.here | apply Pk.there))) rfl rfl (fun v Gn outs hley hh => ?_); obtain ⟨py, hpy1, hpy2, rfl, ey, cy, rfl, hry, hsmy, hcy⟩ := hh; obtain ⟨y1, y2, y3, y4, y5, y6, y7, y8, y9, rfl⟩ := hry.nine; replace hx := hx.mono hley; replace hb := hb.mono hley; replace hrt := hrt.mono hley;)
 refine sQ (qM rfl) rfl (sQ (qM rfl) rfl ?_)
 refine F0 rfl ((A1v _)) rfl rfl ?_
 refine sQ (qM rfl) rfl ?_
 refine sP (L7 rfl rfl (by omega) (by omega)) rfl rfl ?_
 (have hcall := ih m (by omega) (depth - 1) (.mk 2 []) py _ pc nc cc _ (hfu.sub (by omega) (A22 4 (by decide) (by decide))) (by omega) (by omega) (by omega) hx (P1 _ ⟨by omega, by omega⟩) hb (by omega); refine D2 rfl hcall (Pk.perm (by repeat (first | exact Pk.here | apply Pk.there))) rfl rfl (fun v Gn outs hlec hh => ?_); obtain ⟨pc, hpc1, hpc2, rfl, ec, cc, rfl, hrc, hsmc, hcc⟩ := hh; obtain ⟨c1, c2, c3, c4, c5, c6, c7, c8, c9, rfl⟩ := hrc.nine; replace hry := hry.mono hlec; replace hx := hx.mono hlec; replace hb := hb.mono hlec; replace hrt := hrt.mono hlec;)
 (refine E0 (D0 rfl rfl rfl (by omega) (by unfold maxLen; omega) rfl) rfl ?_; rintro _ ⟨b683, rfl⟩)
 refine F0 rfl ((A2w _ _ _ _ _)) rfl rfl ?_
 refine B9 ?_
 refine sD (nS ?_)
 (refine Q4 (cs := [y1, y2, y3, y4, y5, y6, y7, y8, y9] ++ [c1, c2, c3, c4, c5, c6, c7, c8, c9]) (by repeat (first | exact Pk.here | apply Pk.there)) (fun G9 hle9 hsl9 hno9 => ?_); have hN := A3Y (k := 7) (nm := ⟨⟨[]⟩⟩) ⟨by omega, by omega⟩ (hry.mono hle9) (hrc.mono hle9) hsl9)
 refine tT (rS ?_)
 refine E5 (outs := [rd br pb nb cb pc]) (rC rfl (A7 rfl rfl)) (by repeat (first | exact A0.nil | refine A0.cons Pk.here ?_ | refine A0.cons (Pk.there Pk.here) ?_ | refine A0.cons (Pk.there (Pk.there Pk.here)) ?_ | apply A0.drop)) ?_
 (exact ⟨pc, by omega, by omega, rfl, _, _, rfl, hN, by first | exact N2 (by first | assumption | decide) | exact A0y (by decide) (by assumption) (by assumption) (by assumption) | exact S7 (by decide) (by assumption) (by assumption) | exact K2 (by decide) O9 (by assumption) | exact K2 (by decide) har.small (by assumption) | exact K2 (by decide) O9 (S7 (by decide) (by assumption) (N2 (by decide))) | exact K2 (by decide) A0z (N2 (by decide)) | assumption, by simp only [E6, I2]; omega⟩)
 refine sQ (C1 rfl rfl) rfl (sD (nS (cF rfl (tK (nS (tS (tR (sQ (qM rfl) rfl ?_))))))))
 (refine E0 (D0 rfl rfl rfl (by omega) (by unfold maxLen; omega) rfl) rfl ?_; rintro _ ⟨b702, rfl⟩)
 (refine Q8 (by repeat (first | exact Pk.here | apply Pk.there)) (fun G4 hle4 hsl4 _ => ?_); refine D2 rfl (A0b G4 br pb nb cb (p5 + 1) bs _ _ _ _ (hb.mono hle4) hnb (by omega) hsl4 (by decide)) (Pk.perm (by repeat (first | exact Pk.here | apply Pk.there))) rfl rfl (fun v G7 outs hle7 hh => ?_); obtain ⟨rfl, rfl, hv⟩ := hh; obtain ⟨kn, rfl, hkn⟩ : ∃ k, v = .int .i64 k ∧ C6 k := (by simp only [List.mem_cons, List.not_mem_nil, or_false] at hv; rcases hv with rfl | rfl | rfl | rfl | rfl <;> exact ⟨_, rfl, by unfold C6; omega⟩))
 refine F0 rfl ((A2v _ _)) rfl rfl ?_
 refine B9 ?_
 refine sD (nS (tT ?_))
 refine E5 (outs := [rd br pb nb cb (p5 + 1 + 1)]) (rC rfl (A7 rfl rfl)) (by repeat (first | exact A0.nil | refine A0.cons Pk.here ?_ | refine A0.cons (Pk.there Pk.here) ?_ | refine A0.cons (Pk.there (Pk.there Pk.here)) ?_ | apply A0.drop)) ?_
 (exact ⟨(p5 + 1 + 1), by omega, by omega, rfl, _, _, rfl, A2g _ _ _ ⟨by omega, by omega⟩ (by first | exact ⟨by omega, by omega⟩ | exact hkn), by first | exact N2 (by first | assumption | decide) | exact A0y (by decide) (by assumption) (by assumption) (by assumption) | exact S7 (by decide) (by assumption) (by assumption) | exact K2 (by decide) O9 (by assumption) | exact K2 (by decide) har.small (by assumption) | exact K2 (by decide) O9 (S7 (by decide) (by assumption) (N2 (by decide))) | exact K2 (by decide) A0z (N2 (by decide)) | assumption, by simp only [E6, I2]; omega⟩)
 refine W2 ?_
 (refine E0 (D0 rfl rfl rfl (by omega) (by unfold maxLen; omega) rfl) rfl ?_; rintro _ ⟨b724, rfl⟩)
 (refine Q8 (by repeat (first | exact Pk.here | apply Pk.there)) (fun G4 hle4 hsl4 _ => ?_); refine D2 rfl (A0b G4 br pb nb cb p5 bs _ _ _ _ (hb.mono hle4) hnb (by omega) hsl4 (by decide)) (Pk.perm (by repeat (first | exact Pk.here | apply Pk.there))) rfl rfl (fun v G7 outs hle7 hh => ?_); obtain ⟨rfl, rfl, hv⟩ := hh; obtain ⟨kn, rfl, hkn⟩ : ∃ k, v = .int .i64 k ∧ C6 k := (by simp only [List.mem_cons, List.not_mem_nil, or_false] at hv; rcases hv with rfl | rfl | rfl | rfl | rfl <;> exact ⟨_, rfl, by unfold C6; omega⟩))
 refine F0 rfl ((A2v _ _)) rfl rfl ?_
 refine B9 ?_
 refine sD (nS (tT ?_))
 refine E5 (outs := [rd br pb nb cb (p5 + 1)]) (rC rfl (A7 rfl rfl)) (by repeat (first | exact A0.nil | refine A0.cons Pk.here ?_ | refine A0.cons (Pk.there Pk.here) ?_ | refine A0.cons (Pk.there (Pk.there Pk.here)) ?_ | apply A0.drop)) ?_
 (exact ⟨(p5 + 1), by omega, by omega, rfl, _, _, rfl, A2g _ _ _ ⟨by omega, by omega⟩ (by first | exact ⟨by omega, by omega⟩ | exact hkn), by first | exact N2 (by first | assumption | decide) | exact A0y (by decide) (by assumption) (by assumption) (by assumption) | exact S7 (by decide) (by assumption) (by assumption) | exact K2 (by decide) O9 (by assumption) | exact K2 (by decide) har.small (by assumption) | exact K2 (by decide) O9 (S7 (by decide) (by assumption) (N2 (by decide))) | exact K2 (by decide) A0z (N2 (by decide)) | assumption, by simp only [E6, I2]; omega⟩)
def O7 (o : Option Ty) (G : IM) : IM → Value → List A4 → Prop := I9 fun G' v => ∃ t cells, v = .tuple ⟨[.agg ⟨cells⟩, .bool o.isSome]⟩ ∧ C3 G' t cells ∧ H4 t ∧ ∀ u, o = some u → u = t
theorem O7.yes {G G' : IM} {o : Option Ty} {t : Ty} {cells : List Value} (h : o = some t) (hr : C3 G' t cells) (ha : H4 t) : O7 o G G' (.tuple ⟨[.agg ⟨cells⟩, .bool true]⟩) [] := by
 subst h; exact ⟨rfl, t, cells, rfl, hr, ha, fun u h => (by cases h; rfl)⟩
theorem O7.no {G G' : IM} {o : Option Ty} {t : Ty} {cells : List Value} (h : o = none) (hr : C3 G' t cells) (ha : H4 t) : O7 o G G' (.tuple ⟨[.agg ⟨cells⟩, .bool false]⟩) [] := by
 subst h; exact ⟨rfl, t, cells, rfl, hr, ha, fun u h => (by cases h)⟩
theorem O7.mk {G G' : IM} {o : Option Ty} {b : Bool} {t : Ty} {cells : List Value} (h : o = if b = true then some t else none) (hr : C3 G' t cells) (ha : H4 t) : O7 o G G' (.tuple ⟨[.agg ⟨cells⟩, .bool b]⟩) [] := by
 cases b
 ·exact O7.no h hr ha
 ·exact O7.yes h hr ha
theorem B4D {t : Ty} (h : M0 t = true) : H4 t := (A6g h).1
theorem A4Q (k : Int) (a b : Ty) (G : IM) (ca cb : List Value) (hk : k = 4 ∨ k = 5) (ha : H4 a) (hb : H4 b) (hra : C3 G a ca) (hrb : C3 G b cb) :
  Fn Tryz.prog 218 [.int .i64 k, .agg ⟨ca⟩, .agg ⟨cb⟩] [] G (I9 fun G' v => ∃ cells, v = .tuple ⟨[.agg ⟨cells⟩, .bool (M0 (.mk k [a, b]))]⟩ ∧ C3 G' (.mk k [a, b]) cells) := by
 obtain ⟨ak, aks⟩ := a
 obtain ⟨bk, bks⟩ := b
 obtain ⟨pa, cca, ea, rfl, _⟩ := hra.open
 obtain ⟨pb, ccb, eb, rfl, _⟩ := hrb.open
 have hki : C6 k := ⟨by omega, by omega⟩
 refine B7 Tryz.func218 rfl Tryz.ntmps218 Tryz.results218 rfl ?_
 intro w0
 refine tS (tR ?_)
 refine sE (D5 rfl rfl) rfl (fun b3 => ?_)
 refine sE (D5 rfl rfl) rfl (fun b4 => ?_)
 refine sE (B6 rfl) rfl (fun b5 => ?_)
 refine sQ (qA rfl) rfl (sD (nS (tS ?_)))
 refine I0 I1 rfl ?_
 refine J2 (i := 0) (l' := [tt,ff,ff,ff,ff,ff,ff,ff,ff]) rfl F4 (qM rfl) rfl (by kernel_rfl) rfl rfl ?_
 refine aL 1 rfl (A7 rfl rfl) rfl ?_
 refine aL 3 rfl (A7 rfl rfl) rfl ?_
 refine A0N (j := 2) (j' := 7) (by kernel_rfl) ?_ ?_
 (refine Q0 rfl rfl (Z9 _ G _ ha.small hra) rfl rfl rfl (fun v G1 hle1 hh => ?_); obtain ⟨Z4, F1, rfl, hs1, hn1⟩ := hh; obtain ⟨p1, c1, rfl, _⟩ := hs1.open; have hC2 := Z9 _ G1 _ hb.small (hrb.mono hle1))
 refine A0N (j := 4) (j' := 7) (by kernel_rfl) ?_ ?_
 (refine Q0 rfl rfl hC2 rfl rfl rfl (fun v G2 hle2 hh => ?_); obtain ⟨cs2, F2, rfl, hs2, hn2⟩ := hh; obtain ⟨p2, c2, rfl, _⟩ := hs2.open; have hr1 := hs1.R.mono ((C4.le G1 G).trans hle2); have hr2 := hs2.R.mono (C4.le G2 G1))
 refine A0N (j := 5) (j' := 7) (by kernel_rfl) ?_ ?_
 (refine J9 rfl (D0 rfl rfl rfl (by omega) (by unfold maxLen; omega) rfl) rfl rfl ?_; rintro _ ⟨b19, rfl⟩)
 refine aP 6 rfl (D9 rfl rfl) rfl ?_
 refine A8 7 ?_
 (refine J9 rfl (B6 rfl) rfl rfl ?_; rintro _ ⟨b22, rfl⟩)
 refine A8 8 ?_
 refine S3 rfl ?_
 refine D6 (nS (tS ?_))
 (have hr1' := hr1; refine A1p (by repeat (first | exact Pk.here | apply Pk.there)) (fun G5 hle5 hsl5 hno5 => ?_); have hRT : C3 G5 (.mk k [.mk ak aks, .mk bk bks]) _ := F8.ty (ts := [.mk ak aks, .mk bk bks]) (es := [[.int .i64 ak, .slice p1 aks.length c1], [.int .i64 bk, .slice p2 bks.length c2]]) ⟨_, _, rfl, hr1.mono hle5, _, _, rfl, hr2.mono hle5, rfl⟩ rfl hsl5 hki; have hV := A2Z _ G5 _ hRT; refine I0 I1 rfl ?_)
 refine A0M (i := 0) (l' := [tt,ff,ff,ff,ff]) rfl F4 (A7 rfl rfl) rfl (by kernel_rfl) rfl rfl ?_
 refine aL 1 rfl (A7 rfl rfl) rfl ?_
 refine A8 2 ?_
 refine Q5 rfl rfl (hV) rfl rfl rfl ?_
 refine A8 3 ?_
 refine S3 rfl ?_
 refine aP 4 rfl (qA rfl) rfl ?_
 refine D6 (nS (tT ?_))
 refine H9 (rC rfl (A7 rfl rfl)) (rT rfl) ?_
 (exact ⟨rfl, _, rfl, hRT⟩)
 (refine J9 rfl (B6 rfl) rfl rfl ?_; rintro _ ⟨b41, rfl⟩)
 refine A8 5 ?_
 (refine J9 rfl (D0 rfl rfl rfl (by omega) (by unfold maxLen; omega) rfl) rfl rfl ?_; rintro _ ⟨b43, rfl⟩)
 refine aP 6 rfl (D9 rfl rfl) rfl ?_
 refine A8 8 ?_
 refine S3 rfl ?_
 refine D6 (nS (tS ?_))
 (have hr1' := hr1; refine A1p (by repeat (first | exact Pk.here | apply Pk.there)) (fun G5 hle5 hsl5 hno5 => ?_); have hRT : C3 G5 (.mk k [.mk ak aks, .mk bk bks]) _ := F8.ty (ts := [.mk ak aks, .mk bk bks]) (es := [[.int .i64 ak, .slice p1 aks.length c1], [.int .i64 bk, .slice p2 bks.length c2]]) ⟨_, _, rfl, hr1.mono hle5, _, _, rfl, hr2.mono hle5, rfl⟩ rfl hsl5 hki; have hV := A2Z _ G5 _ hRT; refine I0 I1 rfl ?_)
 refine A0M (i := 0) (l' := [tt,ff,ff,ff,ff]) rfl F4 (A7 rfl rfl) rfl (by kernel_rfl) rfl rfl ?_
 refine aL 1 rfl (A7 rfl rfl) rfl ?_
 refine A8 2 ?_
 refine Q5 rfl rfl (hV) rfl rfl rfl ?_
 refine A8 3 ?_
 refine S3 rfl ?_
 refine aP 4 rfl (qA rfl) rfl ?_
 refine D6 (nS (tT ?_))
 refine H9 (rC rfl (A7 rfl rfl)) (rT rfl) ?_
 (exact ⟨rfl, _, rfl, hRT⟩)
 (refine J9 rfl (B6 rfl) rfl rfl ?_; rintro _ ⟨b63, rfl⟩)
 refine A8 4 ?_
 (refine Q0 rfl rfl hC2 rfl rfl rfl (fun v G2 hle2 hh => ?_); obtain ⟨cs2, F2, rfl, hs2, hn2⟩ := hh; obtain ⟨p2, c2, rfl, _⟩ := hs2.open; have hr1 := hs1.R.mono ((C4.le G1 G).trans hle2); have hr2 := hs2.R.mono (C4.le G2 G1))
 refine A8 5 ?_
 (refine J9 rfl (D0 rfl rfl rfl (by omega) (by unfold maxLen; omega) rfl) rfl rfl ?_; rintro _ ⟨b67, rfl⟩)
 refine aP 6 rfl (D9 rfl rfl) rfl ?_
 refine A8 8 ?_
 refine S3 rfl ?_
 refine D6 (nS (tS ?_))
 (have hr1' := hr1; refine A1p (by repeat (first | exact Pk.here | apply Pk.there)) (fun G5 hle5 hsl5 hno5 => ?_); have hRT : C3 G5 (.mk k [.mk ak aks, .mk bk bks]) _ := F8.ty (ts := [.mk ak aks, .mk bk bks]) (es := [[.int .i64 ak, .slice p1 aks.length c1], [.int .i64 bk, .slice p2 bks.length c2]]) ⟨_, _, rfl, hr1.mono hle5, _, _, rfl, hr2.mono hle5, rfl⟩ rfl hsl5 hki; have hV := A2Z _ G5 _ hRT; refine I0 I1 rfl ?_)
 refine A0M (i := 0) (l' := [tt,ff,ff,ff,ff]) rfl F4 (A7 rfl rfl) rfl (by kernel_rfl) rfl rfl ?_
 refine aL 1 rfl (A7 rfl rfl) rfl ?_
 refine A8 2 ?_
 refine Q5 rfl rfl (hV) rfl rfl rfl ?_
 refine A8 3 ?_
 refine S3 rfl ?_
 refine aP 4 rfl (qA rfl) rfl ?_
 refine D6 (nS (tT ?_))
 refine H9 (rC rfl (A7 rfl rfl)) (rT rfl) ?_
 (exact ⟨rfl, _, rfl, hRT⟩)
 (refine J9 rfl (B6 rfl) rfl rfl ?_; rintro _ ⟨b87, rfl⟩)
 refine A8 2 ?_
 (refine Q0 rfl rfl (Z9 _ G _ ha.small hra) rfl rfl rfl (fun v G1 hle1 hh => ?_); obtain ⟨Z4, F1, rfl, hs1, hn1⟩ := hh; obtain ⟨p1, c1, rfl, _⟩ := hs1.open; have hC2 := Z9 _ G1 _ hb.small (hrb.mono hle1))
 refine A8 4 ?_
 (refine Q0 rfl rfl hC2 rfl rfl rfl (fun v G2 hle2 hh => ?_); obtain ⟨cs2, F2, rfl, hs2, hn2⟩ := hh; obtain ⟨p2, c2, rfl, _⟩ := hs2.open; have hr1 := hs1.R.mono ((C4.le G1 G).trans hle2); have hr2 := hs2.R.mono (C4.le G2 G1))
 refine A8 5 ?_
 (refine J9 rfl (D0 rfl rfl rfl (by omega) (by unfold maxLen; omega) rfl) rfl rfl ?_; rintro _ ⟨b93, rfl⟩)
 refine aP 6 rfl (D9 rfl rfl) rfl ?_
 refine A8 8 ?_
 refine S3 rfl ?_
 refine D6 (nS (tS ?_))
 (have hr1' := hr1; refine A1p (by repeat (first | exact Pk.here | apply Pk.there)) (fun G5 hle5 hsl5 hno5 => ?_); have hRT : C3 G5 (.mk k [.mk ak aks, .mk bk bks]) _ := F8.ty (ts := [.mk ak aks, .mk bk bks]) (es := [[.int .i64 ak, .slice p1 aks.length c1], [.int .i64 bk, .slice p2 bks.length c2]]) ⟨_, _, rfl, hr1.mono hle5, _, _, rfl, hr2.mono hle5, rfl⟩ rfl hsl5 hki; have hV := A2Z _ G5 _ hRT; refine I0 I1 rfl ?_)
 refine A0M (i := 0) (l' := [tt,ff,ff,ff,ff]) rfl F4 (A7 rfl rfl) rfl (by kernel_rfl) rfl rfl ?_
 refine aL 1 rfl (A7 rfl rfl) rfl ?_
 refine A8 2 ?_
 refine Q5 rfl rfl (hV) rfl rfl rfl ?_
 refine A8 3 ?_
 refine S3 rfl ?_
 refine aP 4 rfl (qA rfl) rfl ?_
 refine D6 (nS (tT ?_))
 refine H9 (rC rfl (A7 rfl rfl)) (rT rfl) ?_
 (exact ⟨rfl, _, rfl, hRT⟩)
theorem A6O (k : Int) (t : Ty) (G : IM) (cells : List Value) (hk : k = 4 ∨ k = 5) (ha : H4 t) (hr : C3 G t cells) :
  Fn Tryz.prog 234 [.int .i64 k, .agg ⟨cells⟩] [] G (B3M k t G) := by
 obtain ⟨tk, ks⟩ := t
 have ha2 := ha
 rw [H4] at ha2
 have hkid := ha.kid
 obtain ⟨p, c, es, rfl, htk, hsl, hkl⟩ := hr.open
 simp only [Ty.k, Ty.ks] at htk hsl hkl ⊢
 refine B7 Tryz.func234 rfl Tryz.ntmps234 Tryz.results234 rfl ?_
 intro w0
 refine tS (tR ?_)
 refine sE (D5 rfl rfl) rfl (fun b3 => ?_)
 refine sE (B6 rfl) rfl (fun b4 => ?_)
 refine sE (B6 rfl) rfl (fun b5 => ?_)
 refine sQ (qA rfl) rfl (sD (nS (tS (tS (tR (sQ (A3 rfl) rfl (sL (A5 rfl rfl) rfl rfl ?_)))))))
 refine sB (qE rfl rfl) rfl rfl (fun h14 => ?_) (fun h14 => ?_)
 refine sD (nS (qT rfl (tS (tR ?_))))
 refine F0 rfl ((A1Q _)) rfl rfl ?_
 refine F0 rfl ((A1Q _)) rfl rfl ?_
 refine B9 ?_
 refine B9 ?_
 refine sQ (qA rfl) rfl (sD (nS (tT (rS ?_))))
 refine T9 (rC rfl (A7 rfl rfl)) (rC rfl (A7 rfl rfl)) (rT rfl) ?_
 (refine ⟨rfl, _, _, _, _, ?_, A1t _, A1t _, A54, A54, ?_⟩ <;> rw [A6s, if_neg (by omega), if_pos (by omega)] <;> first | rfl | (intro p hp; cases hp; rfl))
 refine sD (nS (cF rfl (tK (nS (tS (tS (tR (sQ (A3 rfl) rfl (sL (A5 rfl rfl) rfl rfl (sQ (qM rfl) rfl ?_))))))))))
 refine sB (P9 rfl rfl) rfl rfl (fun h42 => ?_) (fun h42 => ?_)
 refine sD (nS (qT rfl (tS (tR (sQ (D9 rfl rfl) rfl (sQ (D9 rfl rfl) rfl (B9 ?_)))))))
 refine B9 ?_
 refine sQ (qA rfl) rfl (sD (nS (tT (rS ?_))))
 refine T9 (rC rfl (A7 rfl rfl)) (rC rfl (A7 rfl rfl)) (rT rfl) ?_
 (refine ⟨rfl, B8, _, B8, _, ?_, P1 _ ⟨by omega, by omega⟩, P1 _ ⟨by omega, by omega⟩, U0 (by omega) (by omega), U0 (by omega) (by omega), ?_⟩ <;> rw [A6s, if_neg (by omega), if_neg (by omega)] <;> first | rfl | (intro p hp; cases hp))
 refine sD (nS (cF rfl (tK (nS (tS ?_)))))
 (have hlen : ks.length = 2 := ha2.1 (by omega); obtain ⟨b, o, q0, d0, hp0, hat0, hre0, hg0⟩ := hsl.kidTy hkl (i := 0) (by omega) (by omega); obtain ⟨b', o', q1, d1, hp1, hat1, hre1, hg1⟩ := hsl.kidTy hkl (i := 1) (by omega) (by omega); subst hp0; cases hp1; have hC1 := Z9 _ G _ (hkid _ (List.getElem_mem (by omega))).small hre0; refine I0 I1 rfl ?_)
 refine J2 (i := 0) (l' := [tt,ff,ff,ff,ff,ff,ff,ff,ff,ff,ff,ff,ff]) rfl F4 (A3 rfl) rfl (by kernel_rfl) rfl rfl ?_
 refine aL 1 rfl (A5 rfl rfl) rfl ?_
 refine aP 2 rfl (C2 (j := 0) rfl rfl rfl (by omega)) rfl ?_
 refine aL 3 rfl (A9 rfl rfl (hat0 _) rfl) rfl ?_
 refine aP 5 rfl (A3 rfl) rfl ?_
 refine aL 6 rfl (A5 rfl rfl) rfl ?_
 refine aP 7 rfl (C2 (j := 1) rfl rfl rfl (by omega)) rfl ?_
 refine aL 8 rfl (A9 rfl rfl (hat1 _) rfl) rfl ?_
 refine A8 4 ?_
 (refine Q0 rfl rfl hC1 rfl rfl rfl (fun v G1 hle1 hh => ?_); obtain ⟨Z4, F1, rfl, hs1, hn1⟩ := hh; obtain ⟨p1, c1, rfl, _⟩ := hs1.open; have hC2 := Z9 _ G1 _ (hkid _ (List.getElem_mem (by omega))).small (hre1.mono hle1))
 refine A8 9 ?_
 (refine Q0 rfl rfl hC2 rfl rfl rfl (fun v G2 hle2 hh => ?_); obtain ⟨cs2, F2, rfl, hs2, hn2⟩ := hh; obtain ⟨p2, c2, rfl, _⟩ := hs2.open; have hr1 := hs1.R.mono ((C4.le G1 G).trans hle2); have hr2 := hs2.R.mono (C4.le G2 G1))
 refine A8 10 ?_
 refine S3 rfl ?_
 refine A8 11 ?_
 refine P3 rfl rfl rfl rfl rfl rfl rfl rfl (by decide +kernel) (by repeat first | exact Sw.here | apply Sw.there) (by rfl) ?_
 refine aP 12 rfl (qA rfl) rfl ?_
 refine D6 (nS (tT ?_))
 refine T9 (rC rfl (A7 rfl rfl)) (rC rfl (A7 rfl rfl)) (rT rfl) ?_
 (refine ⟨rfl, _, _, _, _, ?_, hr1, hr2, hkid _ (List.getElem_mem (by omega)), hkid _ (List.getElem_mem (by omega)), ?_⟩ <;> rw [A6s, if_pos (by omega)] <;> first | rfl | (intro p hp; cases hp; simp [hlen]))
theorem B4E (G : IM) (cx : Cx) (hv : cxV cx) (p : Option Addr) (n c : Nat) (nm : ByteArray) (hx : X4 G cx p n c) :
  Fn Tryz.prog 169 [.slice p n c, .string nm] [] G (O7 (A2d cx nm) G) := by
 have hn := hx.le
 refine B7 Tryz.func169 rfl Tryz.ntmps169 Tryz.results169 rfl ?_
 intro w0
 refine tS (tR ?_)
 refine sE (B6 rfl) rfl (fun b3 => ?_)
 refine sQ (qA rfl) rfl (sD (nS (tS (tS (tR (sQ (qM rfl) rfl (sQ (D8 rfl rfl) rfl ?_)))))))
 refine sP (L7 rfl rfl (by omega) (by omega)) rfl rfl ?_
 refine sQ (qA rfl) rfl (sD (nS ?_))
 refine B5 ?_
 (refine K4 (fun (i : Nat) => ⟨[(6, .int .i64 ((i : Int) - 1)), (0, .slice p n c), (1, .string nm), (4, .pointer (some ⟨b3, 0, none⟩))], [.blk b3 [.int .i64 0, .slice none 0 0]], G⟩) (fun i => i ≤ n ∧ A2d cx nm = A0S cx nm i) (fun i => i) n ?_ ?_ ?_)
 exact C9
 (exact ⟨Nat.le_refl _, by unfold A2d; rw [hx.1]⟩)
 (rintro i ⟨hi, hlk⟩)
 refine tS (tS (tR (sQ (qM rfl) rfl ?_)))
 refine sB (Y0 rfl rfl) rfl rfl (fun h25 => ?_) (fun h25 => ?_)
 refine sD (nS (qT rfl (tK (nS (tS ?_)))))
 (show I6 _ _ (.block 1 _) _ _; obtain ⟨j, rfl⟩ : ∃ j, i = j + 1 := ⟨i - 1, by omega⟩; rw [show ((j + 1 : Nat) : Int) - 1 = (j : Int) from by omega]; obtain ⟨b, o, nm1, t1, q1, d1, hcx, rfl, hat, hr1, hgb⟩ := hx.get (i := j) (by omega); have ha1 := B4D (hv _ (List.mem_of_getElem? hcx)); refine B5 ?_)
 refine tS (tR (sQ (qM rfl) rfl (sQ (qM rfl) rfl ?_)))
 refine sP (C2 rfl rfl rfl (by omega)) rfl rfl ?_
 refine sQ (qF rfl) rfl ?_
 refine sL (Q2 rfl rfl ((hat _).sub (j := 0) rfl)) rfl rfl ?_
 refine sQ (qM rfl) rfl ?_
 refine sB (A1J rfl rfl) rfl rfl (fun h41 => ?_) (fun h41 => ?_)
 refine sD (nS (qT rfl (tS (tR (sQ (qM rfl) rfl (sQ (qM rfl) rfl ?_))))))
 refine sP (C2 rfl rfl rfl (by omega)) rfl rfl ?_
 refine sQ (qF rfl) rfl ?_
 refine sL (A9 rfl rfl (hat _).drop rfl) rfl rfl ?_
 (refine I5 rfl (Z9 _ G _ ha1.small hr1) rfl rfl (fun v G1 hle1 hh => ?_); obtain ⟨Z4, F1, rfl, hs1', hn1⟩ := hh; obtain ⟨p1, c1, rfl, _⟩ := hs1'.open; have hrr := hs1'.R.mono (C4.le G1 G))
 refine B9 ?_
 refine sQ (qA rfl) rfl (sD (nS (tT (rB (rS (U2 (rB (rS ?_))))))))
 refine H9 (rC rfl (A7 rfl rfl)) (rT rfl) ?_
 (exact O7.yes (by rw [hlk]; exact B3B hcx (by assumption)) hrr ha1)
 refine sD (nS (cF rfl (tK (C8 (nS (tR (sQ (qM rfl) rfl ?_)))))))
 refine sP (L7 rfl rfl (by omega) (by omega)) rfl rfl ?_
 refine sQ (qA rfl) rfl (sD ?_)
 refine K3 j ?_ ?_ ?_
 exact C9
 (exact ⟨by omega, by rw [hlk]; exact B3C hcx (by assumption)⟩)
 (show _ < _ + 1; omega)
 refine Q9 ?_
 refine H9 (rC rfl (A7 rfl rfl)) (rT rfl) ?_
 (obtain rfl : i = 0 := (by omega); exact O7.no (by rw [hlk]; rfl) (P1 _ ⟨by omega, by omega⟩) (U0 (by omega) (by omega)))
theorem A4R : ∀ (xs ys : List Ty), xs.length = ys.length → (A0c xs ys).length = xs.length
 | [], [], _ => rfl
 | a :: xs, b :: ys, h => by simp only [A0c, List.length_cons]; rw [A4R xs ys (by simpa using h)]
 | [], b :: ys, h => by simp at h
 | a :: xs, [], h => by simp at h
theorem A6P : ∀ (xs ys : List Ty) (i : Nat) (h : i < xs.length) (h' : i < ys.length) (hl : i < (A0c xs ys).length), (A0c xs ys)[i] = A0x xs[i] ys[i]
 | [], _, i, h, _, _ => by simp at h
 | a :: xs, [], i, _, h', _ => by simp at h'
 | a :: xs, b :: ys, 0, _, _, _ => by simp [A0c]
 | a :: xs, b :: ys, i + 1, h, h', hl => by
  simp only [A0c, List.getElem_cons_succ]
  exact A6P xs ys i (by simpa using h) (by simpa using h') _
theorem B4F {xs ys : List Ty} {i : Nat} (hl : xs.length = ys.length) (h : i < xs.length) : (A0c xs ys).take (i + 1) = (A0c xs ys).take i ++ [A0x xs[i] (ys[i]'(by omega))] := by
 rw [List.take_succ_eq_append_getElem (by rw [A4R _ _ hl]; exact h), A6P _ _ i h (by omega)]
theorem B4G : ∀ (a b : Ty) (G : IM) (ca cb : List Value), O3 a b = true → H4 a → H4 b → C3 G a ca → C3 G b cb → Fn Tryz.prog 246 [.agg ⟨ca⟩, .agg ⟨cb⟩] [] G (I9 fun G' v => ∃ cells, v = .agg ⟨cells⟩ ∧ C3 G' (A0x a b) cells) := by
 refine Ty.ind fun ak aks ih b G ca cb hc ha hb hra hrb => ?_
 obtain ⟨bk, bks⟩ := b
 have hka := ha.kid
 have hkb := hb.kid
 have hca := Z9 _ G _ ha.small hra
 have hcb := Z9 _ G _ hb.small hrb
 have hcc : ak ≠ 1 → bk ≠ 1 → aks.length = bks.length ∧ ∀ i, (h : i < aks.length) → (h' : i < bks.length) → O3 aks[i] bks[i] = true := by
  intro h1 h2
  rw [A1a, decide_eq_false h1, decide_eq_false h2] at hc
  simp only [Bool.false_or, Bool.and_eq_true, decide_eq_true_eq] at hc
  exact (A2V _ _).1 hc.2
 rw [A6n]
 obtain ⟨pa, cca, ea, rfl, hak, hsla, hkla⟩ := hra.open
 obtain ⟨pb, ccb, eb, rfl, hbk, hslb, hklb⟩ := hrb.open
 simp only [Ty.k, Ty.ks] at hak hsla hkla hbk hslb hklb ⊢
 have hna := hsla.le
 have hnb := hslb.le
 have hl2 := ha.two
 refine B7 Tryz.func246 rfl Tryz.ntmps246 Tryz.results246 rfl ?_
 intro w0
 refine tS (tR ?_)
 refine sE (D5 rfl rfl) rfl (fun b3 => ?_)
 refine sE (D5 rfl rfl) rfl (fun b4 => ?_)
 refine sE (B6 rfl) rfl (fun b5 => ?_)
 refine sD (nS (tS (tS (tR (sQ (A3 rfl) rfl (sL (A5 rfl rfl) rfl rfl ?_))))))
 refine sB (qE rfl rfl) rfl rfl (fun h13 => ?_) (fun h13 => ?_)
 refine sD (nS (qT rfl (tS (tR (sL (A7 rfl rfl) rfl rfl ?_)))))
 (refine I5 rfl (by first | exact hcb | exact hca) rfl rfl (fun v G1 hle1 hh => ?_); obtain ⟨Z4, F1, rfl, hs1, hn1⟩ := hh; obtain ⟨p1, c1, rfl, _⟩ := hs1.open; have hr1 := hs1.R.mono (C4.le G1 G))
 refine B9 ?_
 refine sD (nS (tT (rS ?_)))
 refine A6 (rC rfl (A7 rfl rfl)) ?_
 (rw [if_pos (by omega)]; exact ⟨rfl, _, rfl, hr1⟩)
 refine sD (nS (cF rfl (tK (nS (tS (tS (tR (sQ (A3 rfl) rfl (sL (A5 rfl rfl) rfl rfl ?_)))))))))
 refine sB (qE rfl rfl) rfl rfl (fun h38 => ?_) (fun h38 => ?_)
 refine sD (nS (qT rfl (tS (tR (sL (A7 rfl rfl) rfl rfl ?_)))))
 (refine I5 rfl (by first | exact hcb | exact hca) rfl rfl (fun v G1 hle1 hh => ?_); obtain ⟨Z4, F1, rfl, hs1, hn1⟩ := hh; obtain ⟨p1, c1, rfl, _⟩ := hs1.open; have hr1 := hs1.R.mono (C4.le G1 G))
 refine B9 ?_
 refine sD (nS (tT (rS ?_)))
 refine A6 (rC rfl (A7 rfl rfl)) ?_
 (rw [if_neg (by omega), if_pos (by omega)]; exact ⟨rfl, _, rfl, hr1⟩)
 refine sD (nS (cF rfl (tK (nS (tS (tR (sQ (A3 rfl) rfl (sL (A5 rfl rfl) rfl rfl (sQ (D9 rfl rfl) rfl ?_)))))))))
 refine sE (B6 rfl) rfl (fun b63 => ?_)
 refine B9 ?_
 refine sD (nS (tS (tS (tR (sQ (qA rfl) rfl (sD (nS ?_)))))))
 refine B5 ?_
 (obtain ⟨hlab, hcab⟩ := hcc (by omega) (by omega); refine W1 25 2 ?_; refine K4 (fun (x : Nat × Option Addr × Nat × List Ty × List (List Value) × IM) => ⟨[(6, .int .i64 x.1), (5, .pointer (some ⟨b63, 0, none⟩)), (4, .pointer (some ⟨b5, 0, none⟩)), (2, .pointer (some ⟨b3, 0, none⟩)), (3, .pointer (some ⟨b4, 0, none⟩))], [.blk b63 [.int .i64 ak, .slice x.2.1 x.1 x.2.2.1], .slc x.2.1 x.2.2.1 25 2 x.1 x.2.2.2.2.1.flatten, .blk b5 [.int .i64 0, .slice none 0 0], .blk b4 [.int .i64 bk, .slice pb bks.length ccb], .blk b3 [.int .i64 ak, .slice pa aks.length cca]], x.2.2.2.2.2⟩) (fun x => x.1 ≤ aks.length ∧ B4 G x.2.2.2.2.2 ∧ x.2.2.2.1.length = x.1 ∧ F8 x.2.2.2.2.2 x.2.2.2.1 x.2.2.2.2.1 ∧ x.2.2.2.1 = (A0c aks bks).take x.1) (fun x => aks.length - x.1) (0, none, 0, [], [], G) ?_ ?_ ?_)
 (simp only [E2]; exact C9)
 (exact ⟨by simp, B4.refl _, rfl, by simp [F8], rfl⟩)
 (rintro ⟨i, pn, cn, us, es', Gi⟩ ⟨hi, hle, hlu, hst, hus⟩; simp only [] at hi hle hlu hst hus ⊢; replace hsla := hsla.mono hle; replace hkla := hkla.mono hle; replace hslb := hslb.mono hle; replace hklb := hklb.mono hle)
 refine tS (tS (tR (sQ (qM rfl) rfl (sQ (A3 rfl) rfl (sL (A5 rfl rfl) rfl rfl (sQ (D8 rfl rfl) rfl ?_))))))
 refine sB (J3 rfl rfl) rfl rfl (fun h85 => ?_) (fun h85 => ?_)
 refine sD (nS (qT rfl (tK (nS (tS ?_)))))
 refine B5 ?_
 (obtain ⟨b, o, q0, d0, hp0, hat0, hre0, hg0⟩ := hsla.kidTy hkla (i := i) (by omega) (by omega); obtain ⟨b', o', q1, d1, hp1, hat1, hre1, hg1⟩ := hslb.kidTy hklb (i := i) (by omega) (by omega); subst hp0; subst hp1; have hih := ih aks[i] (List.getElem_mem (by omega)) bks[i] Gi _ _ (hcab i (by omega) (by omega)) (hka _ (List.getElem_mem (by omega))) (hkb _ (List.getElem_mem (by omega))) hre0 hre1; refine I0 I1 rfl ?_)
 refine J2 (i := 0) (l' := [tt,ff,ff,ff,ff,ff,ff,ff,ff,ff,ff,ff,ff,ff,ff,ff,ff]) rfl F4 (A3 rfl) rfl (by kernel_rfl) rfl rfl ?_
 refine aL 1 rfl (A5 rfl rfl) rfl ?_
 refine aP 2 rfl (A3 rfl) rfl ?_
 refine aL 3 rfl (A5 rfl rfl) rfl ?_
 refine aP 4 rfl (qM rfl) rfl ?_
 refine aP 5 rfl (C2 rfl rfl rfl (by omega)) rfl ?_
 refine aL 6 rfl (A9 rfl rfl (hat0 _) rfl) rfl ?_
 refine aP 7 rfl (A3 rfl) rfl ?_
 refine aL 8 rfl (A5 rfl rfl) rfl ?_
 refine aP 9 rfl (qM rfl) rfl ?_
 refine aP 10 rfl (C2 rfl rfl rfl (by omega)) rfl ?_
 refine aL 11 rfl (A9 rfl rfl (hat1 _) rfl) rfl ?_
 refine A8 12 ?_
 (refine Q0 rfl rfl hih rfl rfl rfl (fun v G1 hle1 hh => ?_); obtain ⟨cells', rfl, hru⟩ := hh; generalize hu : A0x aks[i] bks[i] = u at hru; obtain ⟨p3, c3, es3, rfl, _⟩ := hru.open)
 refine A8 13 ?_
 (refine J9 rfl (D0 rfl rfl rfl (by omega) (by unfold maxLen; omega) rfl) rfl rfl ?_; rintro _ ⟨b109, rfl⟩)
 refine A8 14 ?_
 refine S9 rfl rfl rfl rfl rfl rfl (fun _ _ => by repeat (first | exact Sw.here | apply Sw.there)) (K9 (by repeat first | exact mH | apply mT)) rfl (by simp [Value.oneCell']) (by unfold maxLen; omega) (by omega) rfl rfl (by repeat (first | exact B0.nil | apply B0.dep (by decide +kernel) | apply B0.blk (by decide +kernel) (by repeat (first | exact Pk.here | apply Pk.there)) (by repeat first | exact mH | apply mT))) (fun pn' cn' => ?_)
 refine aP 15 rfl (A3 rfl) rfl ?_
 refine A8 16 ?_
 refine P3 rfl rfl rfl rfl rfl rfl rfl rfl (by decide +kernel) (by repeat first | exact Sw.here | apply Sw.there) (by rfl) ?_
 refine D6 (C8 (nS (tR (sQ (qM rfl) rfl ?_))))
 refine sP (H6 rfl rfl (by omega) (by omega)) rfl rfl ?_
 refine sQ (qA rfl) rfl (sD ?_)
 refine K3 (i + 1, pn', cn', us ++ [u], es' ++ [[.int .i64 u.k, .slice p3 u.ks.length c3]], G1) ?_ ?_ ?_
 (simp only [E2]; exact C9)
 (dsimp only; exact ⟨by omega, hle.trans hle1, by simp [hlu], F8.snoc (hst.mono hle1) hru, by rw [B4F hlab (by omega), ← hus, hu]⟩)
 (show aks.length - (i + 1) < aks.length - i; omega)
 refine sD (nS (cF rfl (M7 (M8 (N3 (M9 (nS (tS (tR (sL (A7 rfl rfl) rfl rfl (B9 ?_)))))))))))
 refine sD (nS ?_)
 (refine Q4 (by repeat (first | exact Pk.here | apply Pk.there)) (fun G2 hle2 hsl2 hno2 => ?_); obtain rfl : i = aks.length := (by omega))
 refine tT ?_
 refine A6 (rC rfl (A7 rfl rfl)) ?_
 (rw [List.take_of_length_le (by rw [A4R _ _ hlab]; omega)] at hus; rw [if_neg (by omega), if_neg (by omega), ← hus]; exact ⟨rfl, _, rfl, (hst.mono hle2).ty hlu hsl2 hak⟩)
theorem gD {ts : List Ty} {i : Nat} (h : i < ts.length) : ts.getD i B8 = ts[i] := by rw [List.getD_eq_getElem?_getD, List.getElem?_eq_getElem h, Option.getD_some]
section
variable {cx : Cx} {k : Int} {nm : ByteArray} {ty : Ty} {ts : List Ty}
theorem A9T (h : 1 < ts.length) : W7 cx 6 nm ty ts = match A0j 4 ts[0] with | some (a, b) => if O3 ts[1] a = true then some b else none | none => none := by
 unfold W7 A0G
 rw [gD (i := 0) (by omega), gD (i := 1) h]
 simp only [show ¬((6 : Int) = 1) by decide, show ¬((6 : Int) = 2) by decide, show ¬((6 : Int) = 3 ∨ (6 : Int) = 4) by decide, show ¬((6 : Int) = 5) by decide, if_false, if_true]
 cases A0j 4 ts[0] with
 | none => rfl
 | some p =>
  obtain ⟨a, b⟩ := p
  by_cases hc : O3 ts[1] a = true
  ·simp [hc]
  ·simp [hc]
theorem A4S (hk : k = 7 ∨ k = 8) (h : 1 < ts.length) : W7 cx k nm ty ts = if O3 ts[0] Y9 = true ∧ O3 ts[1] Y9 = true then some (if k = 8 then A0R else Y9) else none := by
 unfold W7 A0G
 rw [gD (i := 0) (by omega), gD (i := 1) h, if_neg (by omega), if_neg (by omega), if_neg (by omega), if_neg (by omega), if_neg (by omega), if_pos hk]
 by_cases hc : O3 ts[0] Y9 = true ∧ O3 ts[1] Y9 = true
 ·rw [if_pos hc, if_pos hc]; simp only; rw [if_neg (by omega)]
 ·rw [if_neg hc, if_neg hc]
theorem A9U (h : 2 < ts.length) : W7 cx 9 nm ty ts = if O3 ts[0] A0R = true ∧ O3 ts[1] ts[2] = true then some (A0x ts[1] ts[2]) else none := by
 unfold W7 A0G
 rw [gD (i := 0) (by omega), gD (i := 1) (by omega), gD (i := 2) h, if_neg (by omega), if_neg (by omega), if_neg (by omega), if_neg (by omega), if_neg (by omega), if_neg (by omega), if_pos rfl]
 by_cases hc : O3 ts[0] A0R = true ∧ O3 ts[1] ts[2] = true
 ·rw [if_pos hc, if_pos hc]; simp
 ·rw [if_neg hc, if_neg hc]
theorem B4H (h : 1 < ts.length) : W7 cx 10 nm ty ts = if M0 (.mk 5 [ts[0], ts[1]]) = true then some (.mk 5 [ts[0], ts[1]]) else none := by
 unfold W7 A0G
 rw [gD (i := 0) (by omega), gD (i := 1) h, if_neg (by omega), if_neg (by omega), if_neg (by omega), if_neg (by omega), if_neg (by omega), if_neg (by omega), if_neg (by omega), if_pos rfl]
 cases hv : M0 (.mk 5 [ts[0], ts[1]]) <;> simp [hv]
theorem B4I (h : 0 < ts.length) : W7 cx 13 nm ty ts = if O3 ts[0] ty = true then some ty else none := by
 unfold W7 A0G
 rw [gD (i := 0) h, if_neg (by omega), if_neg (by omega), if_neg (by omega), if_neg (by omega), if_neg (by omega), if_neg (by omega), if_neg (by omega), if_neg (by omega), if_pos rfl]
 by_cases hc : O3 ts[0] ty = true
 ·rw [if_pos hc, if_pos hc]; simp
 ·rw [if_neg hc, if_neg hc]
theorem A4T (hk : k = 11 ∨ k = 12) (h : 0 < ts.length) : W7 cx k nm ty ts = match A0j 5 ts[0] with | some (a, b) => some (if k = 12 then b else a) | none => none := by
 unfold W7 A0G
 rw [gD (i := 0) h, if_neg (by omega), if_neg (by omega), if_neg (by omega), if_neg (by omega), if_neg (by omega), if_neg (by omega), if_neg (by omega), if_neg (by omega), if_neg (by omega)]
 cases A0j 5 ts[0] with
 | none => rfl
 | some p =>
  obtain ⟨a, b⟩ := p
  simp only
  rw [if_neg (by omega)]
end
theorem B4J : ∀ (a b : Ty), O3 a b = true → H4 a → H4 b → H4 (A0x a b) := by
 refine Ty.ind fun k ks ih b hc ha hb => ?_
 obtain ⟨k', ks'⟩ := b
 rw [A6n]
 split
 ·exact hb
 ·split
  ·exact ha
  ·rw [A1a] at hc
   simp only [Bool.or_eq_true, Bool.and_eq_true, decide_eq_true_eq] at hc
   obtain ⟨hk, hl⟩ : k = k' ∧ Y2 ks ks' = true := by
    rcases hc with (h | h) | h
    ·contradiction
    ·contradiction
    ·exact h
   obtain ⟨hll, hcc⟩ := (A2V _ _).1 hl
   have hlen := A4R ks ks' hll
   refine A8O ha hlen fun u hu => ?_
   obtain ⟨i, hi, rfl⟩ := List.mem_iff_getElem.1 hu
   rw [A6P ks ks' i (by omega) (by omega)]
   exact ih _ (List.getElem_mem _) _ (hcc i (by omega) (by omega)) (ha.kid _ (List.getElem_mem _)) (hb.kid _ (List.getElem_mem _))
theorem B4K (cx : Cx) (k : Int) (nm : ByteArray) (num : Int) (ty fr : Ty) (lb : Int) (ks : List Tm) (ts : List Ty) (G : IM) (cells : List Value) (p : Option Addr) (c : Nat) (es : List (List Value))
  (hops : E7 k = ts.length) (hk6 : 6 ≤ k ∧ k ≤ 13) (hty : H4 ty) (hr : B1 G (.mk k nm num ty fr lb ks) cells) (hsl : C5 G p ts.length c 2 es) (hkl : F8 G ts es) (har : ∀ t ∈ ts, H4 t) :
  Fn Tryz.prog 219 [.agg ⟨cells⟩, .slice p ts.length c] [] G (O7 (W7 cx k nm ty ts) G) := by
 have hone := hr.one
 have hop := A8P hops
 have ha0 := fun h : 0 < ts.length => har _ (List.getElem_mem h)
 have ha1 := fun h : 1 < ts.length => har _ (List.getElem_mem h)
 have ha2 := fun h : 2 < ts.length => har _ (List.getElem_mem h)
 obtain ⟨tk, tks⟩ := ty
 obtain ⟨fk, fks⟩ := fr
 obtain ⟨pt, ct, pf, cf, pk, ck, ek, rfl, hk, hnum, hlb, hrty, hrfr, _, _⟩ := hr.open9
 refine B7 Tryz.func219 rfl Tryz.ntmps219 Tryz.results219 rfl ?_
 intro w0
 refine tS (tR ?_)
 refine sE (D5 rfl rfl) rfl (fun b3 => ?_)
 refine sE (B6 rfl) rfl (fun b4 => ?_)
 refine sQ (qA rfl) rfl (sD (nS (tS (tS (tR (sQ (A3 rfl) rfl (sL (A5 rfl rfl) rfl rfl (sD (nS ?_)))))))))
 refine B5 (tS (tR (sB (qE rfl rfl) rfl rfl (fun h18 => ?_) (fun h18 => ?_))))
 refine sQ (qA rfl) rfl (sD (nS (qT rfl (tS (tR (sQ (qM rfl) rfl ?_))))))
 (have hl2 : ts.length = 2 := hop.1 (by omega); obtain ⟨b0, o0, q0, d0, hp0, hat0, hre0, hg0⟩ := hsl.kidTy hkl (i := 0) (by omega) (by omega); obtain ⟨b1, o1, q1, d1, hp1, hat1, hre1, hg1⟩ := hsl.kidTy hkl (i := 1) (by omega) (by omega); cases hp0; cases hp1; refine sP (C2 (j := 0) rfl rfl rfl (by omega)) rfl rfl ?_)
 refine sL (A9 rfl rfl (hat0 _) rfl) rfl rfl ?_
 focus (refine I5 rfl (A6O 4 ts[0] G _ (.inl rfl) (ha0 (by omega)) hre0) rfl rfl (fun v G1 hle1 hh => ?_); obtain ⟨ma, mca, mb, mcb, rfl, hma, hmb, hma2, hmb2, hpp⟩ := hh; obtain ⟨p1, c1, e1, rfl, _⟩ := hma.open; obtain ⟨p2, c2, e2, rfl, _⟩ := hmb.open; replace hsl := hsl.mono hle1; replace hkl := hkl.mono hle1; rcases hm : A0j 4 ts[0] with _ | pr; rotate_left; obtain rfl := hpp _ hm; rotate_left; all_goals simp only [Option.isSome])
 refine sQ (qM rfl) rfl (sQ (pX rfl rfl) rfl (sQ (pX rfl rfl) rfl (sQ (pX rfl rfl) rfl ?_)))
 refine sE (B6 rfl) rfl (fun b33 => ?_)
 refine sE (B6 rfl) rfl (fun b34 => ?_)
 refine B9 ?_
 refine B9 ?_
 refine sQ (qA rfl) rfl (sD (nS (tS ?_)))
 (have hl2 : ts.length = 2 := hop.1 (by omega); obtain ⟨b0, o0, q0, d0, hp0, hat0, hre0, hg0⟩ := hsl.kidTy hkl (i := 0) (by omega) (by omega); obtain ⟨b1, o1, q1, d1, hp1, hat1, hre1, hg1⟩ := hsl.kidTy hkl (i := 1) (by omega) (by omega); cases hp0; cases hp1; refine I0 I1 rfl ?_)
 refine A0M (i := 0) (l' := [tt,ff,ff,ff,ff,ff,ff,ff,ff,ff,ff]) rfl F4 (A7 rfl rfl) rfl (by kernel_rfl) rfl rfl ?_
 refine aP 1 rfl (qM rfl) rfl ?_
 refine aP 2 rfl (qM rfl) rfl ?_
 refine J7 3 rfl rfl rfl ?_
 refine J7 4 rfl rfl rfl ?_
 refine J7 5 rfl rfl rfl ?_
 refine J7 6 rfl rfl rfl ?_
 refine J7 7 rfl rfl rfl ?_
 refine aP 8 rfl (D7 rfl rfl) rfl ?_
 refine A8 9 ?_
 refine S3 rfl ?_
 refine aP 10 rfl (qA rfl) rfl ?_
 refine D6 (nS (tT (rB (rS ?_))))
 refine H9 (rC rfl (A7 rfl rfl)) (rT rfl) ?_
 (obtain rfl : k = 6 := (by omega); exact O7.no (by rw [A9T (by omega), hm]) hmb hmb2)
 refine sQ (qM rfl) rfl (sQ (pX rfl rfl) rfl (sQ (pX rfl rfl) rfl (sQ (pX rfl rfl) rfl ?_)))
 refine sE (B6 rfl) rfl (fun b65 => ?_)
 refine sE (B6 rfl) rfl (fun b66 => ?_)
 refine B9 ?_
 refine B9 ?_
 refine sQ (qA rfl) rfl (sD (nS (tS ?_)))
 (have hl2 : ts.length = 2 := hop.1 (by omega); obtain ⟨b0, o0, q0, d0, hp0, hat0, hre0, hg0⟩ := hsl.kidTy hkl (i := 0) (by omega) (by omega); obtain ⟨b1, o1, q1, d1, hp1, hat1, hre1, hg1⟩ := hsl.kidTy hkl (i := 1) (by omega) (by omega); cases hp0; cases hp1; refine I0 I1 rfl ?_)
 refine A0M (i := 0) (l' := [tt,ff,ff,ff,ff,ff,ff,ff,ff,ff,ff]) rfl F4 (A7 rfl rfl) rfl (by kernel_rfl) rfl rfl ?_
 refine aP 1 rfl (qM rfl) rfl ?_
 refine aP 2 rfl (qM rfl) rfl ?_
 refine aP 3 rfl (qM rfl) rfl ?_
 refine aP 4 rfl (C2 (j := 1) rfl rfl rfl (by omega)) rfl ?_
 refine aL 5 rfl (A9 rfl rfl (hat1 _) rfl) rfl ?_
 refine aL 6 rfl (A7 rfl rfl) rfl ?_
 refine A8 7 ?_
 refine Q5 rfl rfl ((A1T ts[1] ma _ _ _ (ha1 (by omega)) hma2 hre1 hma)) rfl rfl rfl ?_
 refine aP 8 rfl (C1 rfl rfl) rfl ?_
 refine A8 9 ?_
 refine S3 rfl ?_
 refine aP 10 rfl (qA rfl) rfl ?_
 refine D6 (nS (tT (rB (rS ?_))))
 refine H9 (rC rfl (A7 rfl rfl)) (rT rfl) ?_
 (obtain rfl : k = 6 := (by omega); exact O7.mk (by rw [A9T (by omega), hm]) hmb hmb2)
 refine sQ (qA rfl) rfl (sD (nS (cF rfl (tS (tR ?_)))))
 refine sB (qE rfl rfl) rfl rfl (fun h100 => ?_) (fun h100 => ?_)
 refine sQ (qA rfl) rfl (sD (nS (qT rfl (tS ?_))))
 (have hl2 : ts.length = 2 := hop.1 (by omega); obtain ⟨b0, o0, q0, d0, hp0, hat0, hre0, hg0⟩ := hsl.kidTy hkl (i := 0) (by omega) (by omega); obtain ⟨b1, o1, q1, d1, hp1, hat1, hre1, hg1⟩ := hsl.kidTy hkl (i := 1) (by omega) (by omega); cases hp0; cases hp1; refine I0 I1 rfl ?_)
 refine J2 (i := 1) (l' := [ff,tt,ff,ff,ff,ff,ff,ff,ff,ff,ff,ff,ff,ff,ff]) rfl F4 (qM rfl) rfl (by kernel_rfl) rfl rfl ?_
 refine aP 2 rfl (C2 (j := 0) rfl rfl rfl (by omega)) rfl ?_
 refine aL 3 rfl (A9 rfl rfl (hat0 _) rfl) rfl ?_
 refine A8 0 ?_
 refine Q5 rfl rfl ((A1v _)) rfl rfl rfl ?_
 refine A8 4 ?_
 refine Q5 rfl rfl ((A1v _)) rfl rfl rfl ?_
 refine A8 5 ?_
 refine A2p rfl rfl ((A1T ts[0] (.mk 2 []) _ _ _ (ha0 (by omega)) (U0 (by decide) (by decide)) hre0 (P1 _ ⟨by omega, by omega⟩))) rfl rfl rfl (fun h115 => ?_) (fun h115 => ?_)
 refine aP 6 rfl (qM rfl) rfl ?_
 refine aP 7 rfl (qM rfl) rfl ?_
 refine aP 8 rfl (C2 (j := 1) rfl rfl rfl (by omega)) rfl ?_
 refine aL 9 rfl (A9 rfl rfl (hat1 _) rfl) rfl ?_
 refine A8 10 ?_
 refine Q5 rfl rfl ((A1v _)) rfl rfl rfl ?_
 refine A8 11 ?_
 refine Q5 rfl rfl ((A1T ts[1] (.mk 2 []) _ _ _ (ha1 (by omega)) (U0 (by decide) (by decide)) hre1 (P1 _ ⟨by omega, by omega⟩))) rfl rfl rfl ?_
 refine aP 12 rfl (C1 rfl rfl) rfl ?_
 refine A8 13 ?_
 refine S3 rfl ?_
 refine aP 14 rfl (qA rfl) rfl ?_
 refine D6 (nS (tT (rB (rS ?_))))
 refine H9 (rC rfl (A7 rfl rfl)) (rT rfl) ?_
 (have hk7 : k = 7 := (by omega); exact O7.mk (by rw [A4S (.inl hk7) (by omega)]; simp_all [Y9]) (P1 _ ⟨by omega, by omega⟩) (U0 (by omega) (by omega)))
 refine aP 6 rfl (qM rfl) rfl ?_
 refine J7 7 rfl rfl rfl ?_
 refine J7 8 rfl rfl rfl ?_
 refine J7 9 rfl rfl rfl ?_
 refine J7 10 rfl rfl rfl ?_
 refine J7 11 rfl rfl rfl ?_
 refine aP 12 rfl (D7 rfl rfl) rfl ?_
 refine A8 13 ?_
 refine S3 rfl ?_
 refine aP 14 rfl (qA rfl) rfl ?_
 refine D6 (nS (tT (rB (rS ?_))))
 refine H9 (rC rfl (A7 rfl rfl)) (rT rfl) ?_
 (have hk7 : k = 7 := (by omega); exact O7.mk (by rw [A4S (.inl hk7) (by omega)]; simp_all [Y9]) (P1 _ ⟨by omega, by omega⟩) (U0 (by omega) (by omega)))
 refine sQ (qA rfl) rfl (sD (nS (cF rfl (tS (tR ?_)))))
 refine sB (qE rfl rfl) rfl rfl (fun h158 => ?_) (fun h158 => ?_)
 refine sQ (qA rfl) rfl (sD (nS (qT rfl (tS ?_))))
 (have hl2 : ts.length = 2 := hop.1 (by omega); obtain ⟨b0, o0, q0, d0, hp0, hat0, hre0, hg0⟩ := hsl.kidTy hkl (i := 0) (by omega) (by omega); obtain ⟨b1, o1, q1, d1, hp1, hat1, hre1, hg1⟩ := hsl.kidTy hkl (i := 1) (by omega) (by omega); cases hp0; cases hp1; refine I0 I1 rfl ?_)
 refine J2 (i := 1) (l' := [ff,tt,ff,ff,ff,ff,ff,ff,ff,ff,ff,ff,ff,ff,ff]) rfl F4 (qM rfl) rfl (by kernel_rfl) rfl rfl ?_
 refine aP 2 rfl (C2 (j := 0) rfl rfl rfl (by omega)) rfl ?_
 refine aL 3 rfl (A9 rfl rfl (hat0 _) rfl) rfl ?_
 refine A8 0 ?_
 refine Q5 rfl rfl ((A3T _)) rfl rfl rfl ?_
 refine A8 4 ?_
 refine Q5 rfl rfl ((A1v _)) rfl rfl rfl ?_
 refine A8 5 ?_
 refine A2p rfl rfl ((A1T ts[0] (.mk 2 []) _ _ _ (ha0 (by omega)) (U0 (by decide) (by decide)) hre0 (P1 _ ⟨by omega, by omega⟩))) rfl rfl rfl (fun h173 => ?_) (fun h173 => ?_)
 refine aP 6 rfl (qM rfl) rfl ?_
 refine aP 7 rfl (qM rfl) rfl ?_
 refine aP 8 rfl (C2 (j := 1) rfl rfl rfl (by omega)) rfl ?_
 refine aL 9 rfl (A9 rfl rfl (hat1 _) rfl) rfl ?_
 refine A8 10 ?_
 refine Q5 rfl rfl ((A1v _)) rfl rfl rfl ?_
 refine A8 11 ?_
 refine Q5 rfl rfl ((A1T ts[1] (.mk 2 []) _ _ _ (ha1 (by omega)) (U0 (by decide) (by decide)) hre1 (P1 _ ⟨by omega, by omega⟩))) rfl rfl rfl ?_
 refine aP 12 rfl (C1 rfl rfl) rfl ?_
 refine A8 13 ?_
 refine S3 rfl ?_
 refine aP 14 rfl (qA rfl) rfl ?_
 refine D6 (nS (tT (rB (rS ?_))))
 refine H9 (rC rfl (A7 rfl rfl)) (rT rfl) ?_
 (have hk8 : k = 8 := (by omega); exact O7.mk (by rw [A4S (.inr hk8) (by omega)]; simp_all [Y9, A0R]) (P1 _ ⟨by omega, by omega⟩) (U0 (by omega) (by omega)))
 refine aP 6 rfl (qM rfl) rfl ?_
 refine J7 7 rfl rfl rfl ?_
 refine J7 8 rfl rfl rfl ?_
 refine J7 9 rfl rfl rfl ?_
 refine J7 10 rfl rfl rfl ?_
 refine J7 11 rfl rfl rfl ?_
 refine aP 12 rfl (D7 rfl rfl) rfl ?_
 refine A8 13 ?_
 refine S3 rfl ?_
 refine aP 14 rfl (qA rfl) rfl ?_
 refine D6 (nS (tT (rB (rS ?_))))
 refine H9 (rC rfl (A7 rfl rfl)) (rT rfl) ?_
 (have hk8 : k = 8 := (by omega); exact O7.mk (by rw [A4S (.inr hk8) (by omega)]; simp_all [Y9, A0R]) (P1 _ ⟨by omega, by omega⟩) (U0 (by omega) (by omega)))
 refine sQ (qA rfl) rfl (sD (nS (cF rfl (tS (tR ?_)))))
 refine sB (qE rfl rfl) rfl rfl (fun h216 => ?_) (fun h216 => ?_)
 refine sQ (qA rfl) rfl (sD (nS (qT rfl (tS (tS ?_)))))
 (have hl3 : ts.length = 3 := hop.2.1 (by omega); obtain ⟨b0, o0, q0, d0, hp0, hat0, hre0, hg0⟩ := hsl.kidTy hkl (i := 0) (by omega) (by omega); obtain ⟨b1, o1, q1, d1, hp1, hat1, hre1, hg1⟩ := hsl.kidTy hkl (i := 1) (by omega) (by omega); obtain ⟨b2, o2, q2, d2, hp2, hat2, hre2, hg2⟩ := hsl.kidTy hkl (i := 2) (by omega) (by omega); cases hp0; cases hp1; cases hp2; refine I0 I1 rfl ?_)
 refine J2 (i := 0) (l' := [tt,ff,ff,ff,ff,ff,ff,ff]) rfl F4 (qM rfl) rfl (by kernel_rfl) rfl rfl ?_
 refine aP 1 rfl (C2 (j := 1) rfl rfl rfl (by omega)) rfl ?_
 refine aL 2 rfl (A9 rfl rfl (hat1 _) rfl) rfl ?_
 refine aP 3 rfl (qM rfl) rfl ?_
 refine aP 4 rfl (C2 (j := 2) rfl rfl rfl (by omega)) rfl ?_
 refine aL 5 rfl (A9 rfl rfl (hat2 _) rfl) rfl ?_
 refine A8 6 ?_
 refine A2p rfl rfl ((A1T ts[1] ts[2] _ _ _ (ha1 (by omega)) (ha2 (by omega)) hre1 hre2)) rfl rfl rfl (fun h231 => ?_) (fun h231 => ?_)
 refine aP 7 rfl (M4 rfl) rfl ?_
 refine D6 (nS (cF rfl (tK (nS (tS ?_)))))
 (have hl3 : ts.length = 3 := hop.2.1 (by omega); obtain ⟨b0, o0, q0, d0, hp0, hat0, hre0, hg0⟩ := hsl.kidTy hkl (i := 0) (by omega) (by omega); obtain ⟨b1, o1, q1, d1, hp1, hat1, hre1, hg1⟩ := hsl.kidTy hkl (i := 1) (by omega) (by omega); obtain ⟨b2, o2, q2, d2, hp2, hat2, hre2, hg2⟩ := hsl.kidTy hkl (i := 2) (by omega) (by omega); cases hp0; cases hp1; cases hp2; refine I0 I1 rfl ?_)
 refine J2 (i := 0) (l' := [tt,ff,ff,ff,ff,ff,ff,ff,ff,ff,ff,ff,ff,ff]) rfl F4 (qM rfl) rfl (by kernel_rfl) rfl rfl ?_
 refine aP 1 rfl (C2 (j := 1) rfl rfl rfl (by omega)) rfl ?_
 refine aL 2 rfl (A9 rfl rfl (hat1 _) rfl) rfl ?_
 refine aP 3 rfl (qM rfl) rfl ?_
 refine aP 4 rfl (C2 (j := 2) rfl rfl rfl (by omega)) rfl ?_
 refine aL 5 rfl (A9 rfl rfl (hat2 _) rfl) rfl ?_
 refine aP 7 rfl (qM rfl) rfl ?_
 refine aP 8 rfl (C2 (j := 0) rfl rfl rfl (by omega)) rfl ?_
 refine aL 9 rfl (A9 rfl rfl (hat0 _) rfl) rfl ?_
 refine A8 6 ?_
 (refine Q0 rfl rfl (B4G ts[1] ts[2] G _ _ (by assumption) (ha1 (by omega)) (ha2 (by omega)) hre1 hre2) rfl rfl rfl (fun v G1 hle1 hh => ?_); obtain ⟨mc, rfl, hmr⟩ := hh; obtain ⟨mt, hmt⟩ : ∃ mt, A0x ts[1] ts[2] = mt := ⟨_, rfl⟩; rw [hmt] at hmr; have hma : H4 mt := (hmt ▸ B4J ts[1] ts[2] (by assumption) (ha1 (by omega)) (ha2 (by omega))); obtain ⟨p1, c1, e1, rfl, _⟩ := hmr.open; have hre0q := hre0.mono hle1)
 refine A8 10 ?_
 refine Q5 rfl rfl ((A3T _)) rfl rfl rfl ?_
 refine A8 11 ?_
 refine Q5 rfl rfl ((A1T ts[0] (.mk 3 []) _ _ _ (ha0 (by omega)) (U0 (by decide) (by decide)) hre0q (P1 _ ⟨by omega, by omega⟩))) rfl rfl rfl ?_
 refine A8 12 ?_
 refine S3 rfl ?_
 refine aP 13 rfl (qA rfl) rfl ?_
 refine D6 (nS (tT (rB (rS ?_))))
 refine H9 (rC rfl (A7 rfl rfl)) (rT rfl) ?_
 (obtain rfl : k = 9 := (by omega); exact O7.mk (by rw [A9U (by omega), hmt]; simp_all [A0R]) hmr hma)
 refine aP 7 rfl (O5 rfl) rfl ?_
 refine D6 (nS (qT rfl (tS (tR (sQ (D9 rfl rfl) rfl (B9 ?_))))))
 refine sQ (qA rfl) rfl (sD (nS (tT (rS (rB (rS ?_))))))
 refine H9 (rC rfl (A7 rfl rfl)) (rT rfl) ?_
 (obtain rfl : k = 9 := (by omega); exact O7.no (by rw [A9U (by omega)]; simp_all) (P1 _ ⟨by omega, by omega⟩) (U0 (by omega) (by omega)))
 refine sQ (qA rfl) rfl (sD (nS (cF rfl (tS (tR ?_)))))
 refine sB (qE rfl rfl) rfl rfl (fun h288 => ?_) (fun h288 => ?_)
 refine sQ (qA rfl) rfl (sD (nS (qT rfl (tS ?_))))
 (have hl2 : ts.length = 2 := hop.1 (by omega); obtain ⟨b0, o0, q0, d0, hp0, hat0, hre0, hg0⟩ := hsl.kidTy hkl (i := 0) (by omega) (by omega); obtain ⟨b1, o1, q1, d1, hp1, hat1, hre1, hg1⟩ := hsl.kidTy hkl (i := 1) (by omega) (by omega); cases hp0; cases hp1; refine I0 I1 rfl ?_)
 refine J2 (i := 0) (l' := [tt,ff,ff,ff,ff,ff,ff,ff,ff,ff,ff]) rfl F4 (qM rfl) rfl (by kernel_rfl) rfl rfl ?_
 refine aP 1 rfl (C2 (j := 0) rfl rfl rfl (by omega)) rfl ?_
 refine aL 2 rfl (A9 rfl rfl (hat0 _) rfl) rfl ?_
 refine aP 3 rfl (qM rfl) rfl ?_
 refine aP 4 rfl (C2 (j := 1) rfl rfl rfl (by omega)) rfl ?_
 refine aL 5 rfl (A9 rfl rfl (hat1 _) rfl) rfl ?_
 refine A8 6 ?_
 (refine Q0 rfl rfl (A4Q 5 ts[0] ts[1] G _ _ (.inr rfl) (ha0 (by omega)) (ha1 (by omega)) hre0 hre1) rfl rfl rfl (fun v G1 hle1 hh => ?_); obtain ⟨mc, rfl, hmr⟩ := hh; have hma := A4B (.inr rfl) (ha0 (by omega)) (ha1 (by omega)); obtain ⟨p1, c1, e1, rfl, _⟩ := hmr.open)
 refine aP 7 rfl (pX rfl rfl) rfl ?_
 refine aP 8 rfl (pX rfl rfl) rfl ?_
 refine A8 9 ?_
 refine S3 rfl ?_
 refine aP 10 rfl (qA rfl) rfl ?_
 refine D6 (nS (tT (rB (rS ?_))))
 refine H9 (rC rfl (A7 rfl rfl)) (rT rfl) ?_
 (obtain rfl : k = 10 := (by omega); exact O7.mk (by rw [B4H (by omega)]) hmr hma)
 refine sQ (qA rfl) rfl (sD (nS (cF rfl (tS (tR ?_)))))
 refine sB (qE rfl rfl) rfl rfl (fun h321 => ?_) (fun h321 => ?_)
 refine sQ (qA rfl) rfl (sD (nS (qT rfl (tS (tR (sQ (qM rfl) rfl ?_))))))
 (have hl1 : ts.length = 1 := hop.2.2 (by omega); obtain ⟨b0, o0, q0, d0, hp0, hat0, hre0, hg0⟩ := hsl.kidTy hkl (i := 0) (by omega) (by omega); cases hp0; refine sP (C2 (j := 0) rfl rfl rfl (by omega)) rfl rfl ?_)
 refine sL (A9 rfl rfl (hat0 _) rfl) rfl rfl ?_
 focus (refine I5 rfl (A6O 5 ts[0] G _ (.inr rfl) (ha0 (by omega)) hre0) rfl rfl (fun v G1 hle1 hh => ?_); obtain ⟨ma, mca, mb, mcb, rfl, hma, hmb, hma2, hmb2, hpp⟩ := hh; obtain ⟨p1, c1, e1, rfl, _⟩ := hma.open; obtain ⟨p2, c2, e2, rfl, _⟩ := hmb.open; rcases hm : A0j 5 ts[0] with _ | pr; rotate_left; obtain rfl := hpp _ hm; rotate_left; all_goals simp only [Option.isSome])
 refine sQ (qM rfl) rfl (sQ (pX rfl rfl) rfl (sQ (pX rfl rfl) rfl (sQ (pX rfl rfl) rfl ?_)))
 refine sE (B6 rfl) rfl (fun b336 => ?_)
 refine sE (B6 rfl) rfl (fun b337 => ?_)
 refine Q9 ?_
 refine H9 (rC rfl (A7 rfl rfl)) (rT rfl) ?_
 (have hk11 : k = 11 := (by omega); exact O7.no (by rw [A4T (.inl hk11) (by omega), hm]) hma hma2)
 refine sQ (qM rfl) rfl (sQ (pX rfl rfl) rfl (sQ (pX rfl rfl) rfl (sQ (pX rfl rfl) rfl ?_)))
 refine sE (B6 rfl) rfl (fun b360 => ?_)
 refine sE (B6 rfl) rfl (fun b361 => ?_)
 refine Q9 ?_
 refine H9 (rC rfl (A7 rfl rfl)) (rT rfl) ?_
 (have hk11 : k = 11 := (by omega); exact O7.yes (by rw [A4T (.inl hk11) (by omega), hm]; simp only; rw [if_neg (by omega)]) hma hma2)
 refine sQ (qA rfl) rfl (sD (nS (cF rfl (tS (tR ?_)))))
 refine sB (qE rfl rfl) rfl rfl (fun h386 => ?_) (fun h386 => ?_)
 refine sQ (qA rfl) rfl (sD (nS (qT rfl (tS (tR (sQ (qM rfl) rfl ?_))))))
 (have hl1 : ts.length = 1 := hop.2.2 (by omega); obtain ⟨b0, o0, q0, d0, hp0, hat0, hre0, hg0⟩ := hsl.kidTy hkl (i := 0) (by omega) (by omega); cases hp0; refine sP (C2 (j := 0) rfl rfl rfl (by omega)) rfl rfl ?_)
 refine sL (A9 rfl rfl (hat0 _) rfl) rfl rfl ?_
 focus (refine I5 rfl (A6O 5 ts[0] G _ (.inr rfl) (ha0 (by omega)) hre0) rfl rfl (fun v G1 hle1 hh => ?_); obtain ⟨ma, mca, mb, mcb, rfl, hma, hmb, hma2, hmb2, hpp⟩ := hh; obtain ⟨p1, c1, e1, rfl, _⟩ := hma.open; obtain ⟨p2, c2, e2, rfl, _⟩ := hmb.open; rcases hm : A0j 5 ts[0] with _ | pr; rotate_left; obtain rfl := hpp _ hm; rotate_left; all_goals simp only [Option.isSome])
 refine sQ (qM rfl) rfl (sQ (pX rfl rfl) rfl (sQ (pX rfl rfl) rfl (sQ (pX rfl rfl) rfl ?_)))
 refine sE (B6 rfl) rfl (fun b401 => ?_)
 refine sE (B6 rfl) rfl (fun b402 => ?_)
 refine Q9 ?_
 refine H9 (rC rfl (A7 rfl rfl)) (rT rfl) ?_
 (have hk12 : k = 12 := (by omega); exact O7.no (by rw [A4T (.inr hk12) (by omega), hm]) hmb hmb2)
 refine sQ (qM rfl) rfl (sQ (pX rfl rfl) rfl (sQ (pX rfl rfl) rfl (sQ (pX rfl rfl) rfl ?_)))
 refine sE (B6 rfl) rfl (fun b425 => ?_)
 refine sE (B6 rfl) rfl (fun b426 => ?_)
 refine Q9 ?_
 refine H9 (rC rfl (A7 rfl rfl)) (rT rfl) ?_
 (have hk12 : k = 12 := (by omega); exact O7.yes (by rw [A4T (.inr hk12) (by omega), hm]; simp only; rw [if_pos (by omega)]) hmb hmb2)
 refine sQ (qA rfl) rfl (sD (nS (cF rfl (tS (tR ?_)))))
 refine sP (W9 rfl rfl (by omega)) rfl rfl ?_
 refine sQ (qA rfl) rfl (sD (nS (qT rfl (tS ?_))))
 (have hl1 : ts.length = 1 := hop.2.2 (by omega); obtain ⟨b0, o0, q0, d0, hp0, hat0, hre0, hg0⟩ := hsl.kidTy hkl (i := 0) (by omega) (by omega); cases hp0; refine I0 I1 rfl ?_)
 refine J2 (i := 0) (l' := [tt,ff,ff,ff,ff,ff,ff,ff,ff,ff,ff]) rfl F4 (A3 rfl) rfl (by kernel_rfl) rfl rfl ?_
 refine aL 1 rfl (A7 rfl rfl) rfl ?_
 refine aP 3 rfl (qM rfl) rfl ?_
 refine aP 4 rfl (C2 (j := 0) rfl rfl rfl (by omega)) rfl ?_
 refine aL 5 rfl (A9 rfl rfl (hat0 _) rfl) rfl ?_
 refine aP 6 rfl (A3 rfl) rfl ?_
 refine aL 7 rfl (A7 rfl rfl) rfl ?_
 refine A8 2 ?_
 (refine Q0 rfl rfl (Z9 (.mk tk tks) G _ hty.small hrty) rfl rfl rfl (fun v G1 hle1 hh => ?_); obtain ⟨Z4, F1, rfl, hs1, hn1⟩ := hh; obtain ⟨p1, c1, rfl, _⟩ := hs1.open; have hmr := hs1.R.mono (C4.le G1 G); have hre0q := hre0.mono hle1; have hrtyq := hrty.mono hle1)
 refine A8 8 ?_
 refine Q5 rfl rfl ((A1T ts[0] (.mk tk tks) _ _ _ (ha0 (by omega)) hty hre0q hrtyq)) rfl rfl rfl ?_
 refine A8 9 ?_
 refine S3 rfl ?_
 refine aP 10 rfl (qA rfl) rfl ?_
 refine D6 (nS (tT (rB (rS ?_))))
 refine H9 (rC rfl (A7 rfl rfl)) (rT rfl) ?_
 (obtain rfl : k = 13 := (by omega); exact O7.mk (by rw [B4I (by omega)]) hmr hty)
section
variable {ak bk : Int} {aks bks : List Ty}
end
theorem B4L (G : IM) (cx : Cx) (p : Option Addr) (n c : Nat) (nm : ByteArray) (t : Ty) (cells : List Value) (hx : X4 G cx p n c) (hn : n ≤ 1000) (hr : C3 G t cells) :
  Fn Tryz.prog 195 [.slice p n c, .string nm, .agg ⟨cells⟩] [] G (I9 fun G' v => ∃ p' c', v = .slice p' (n + 1) c' ∧ X4 G' (cx ++ [(nm, t)]) p' (n + 1) c') := by
 obtain ⟨k, ks⟩ := t
 obtain ⟨q, d, es0, rfl, _⟩ := hr.open
 simp only [Ty.k, Ty.ks] at hr ⊢
 obtain ⟨hx1, es, h2, h3⟩ := id hx
 have hSl : Sl G p n c 3 es.flatten := h2.1
 have h1c : ∀ u ∈ es.flatten, u.oneCell' = true := by
  intro u hu
  obtain ⟨e, he, hue⟩ := List.mem_flatten.1 hu
  exact List.all_eq_true.1 (h2.one e he) u hue
 refine B7 Tryz.func195 rfl Tryz.ntmps195 Tryz.results195 rfl ?_
 intro w0
 refine tS (tR ?_)
 refine sE (D5 rfl rfl) rfl (fun b3 => ?_)
 refine sQ (qA rfl) rfl (sD (nS (tS ?_)))
 refine I0 I1 rfl ?_
 refine J2 (i := 1) (l' := [ff,tt,ff,ff,ff,ff,ff,ff,ff]) rfl F4 (qM rfl) rfl (by kernel_rfl) rfl rfl ?_
 refine aP 3 rfl (qM rfl) rfl ?_
 refine aL 4 rfl (A7 rfl rfl) rfl ?_
 refine aP 5 rfl (D9 rfl rfl) rfl ?_
 refine A0N (j := 0) (j' := 6) (by kernel_rfl) ?_ ?_
 (refine J9 rfl (D0 rfl rfl rfl (by omega) (by unfold maxLen; omega) rfl) rfl rfl ?_; rintro _ ⟨b14, rfl⟩)
 refine A0N (j := 2) (j' := 6) (by kernel_rfl) ?_ ?_
 (refine A20 rfl rfl rfl rfl rfl rfl (fun _ _ => by repeat (first | exact Sw.here | apply Sw.there)) hSl h1c (Nat.zero_le _) (by unfold maxLen; omega) (by omega) rfl rfl (by repeat (first | exact B0.nil | apply B0.dep (by decide +kernel) | apply B0.blk (by decide +kernel) (by repeat (first | exact Pk.here | apply Pk.there)) (by repeat first | exact mH | apply mT))) (fun p4 c4 => ?_); simp only [Nat.zero_add, List.nil_append])
 refine A8 6 ?_
 (refine J9 rfl (D0 rfl rfl rfl (by omega) (by unfold maxLen; omega) rfl) rfl rfl ?_; rintro _ ⟨b18, rfl⟩)
 refine A8 7 ?_
 (refine S9 rfl rfl rfl rfl rfl rfl (fun _ _ => by repeat (first | exact Sw.here | apply Sw.there)) (K9 (by repeat first | exact mH | apply mT)) rfl (by simp [Value.oneCell']) (by unfold maxLen; omega) (by omega) rfl rfl (by repeat (first | exact B0.nil | apply B0.dep (by decide +kernel) | apply B0.blk (by decide +kernel) (by repeat (first | exact Pk.here | apply Pk.there)) (by repeat first | exact mH | apply mT))) (fun p5 c5 => ?_))
 refine aP 8 rfl (qA rfl) rfl ?_
 refine D6 (nS ?_)
 (refine Q4 (cs := es.flatten ++ [.string nm, .int .i64 k, .slice q ks.length d]) (by repeat (first | exact Pk.here | apply Pk.there)) (fun G5 hle5 hsl5 hno5 => ?_))
 refine tT (A6 (rT rfl) ?_)
 (exact ⟨rfl, _, _, rfl, X4.snoc (nm := nm) (t := .mk k ks) hx1 h2.len h2.all h2.one h3 hle5 ⟨_, _, rfl, hr.mono hle5⟩ hsl5⟩)
 (refine J9 rfl (D0 rfl rfl rfl (by omega) (by unfold maxLen; omega) rfl) rfl rfl ?_; rintro _ ⟨b28, rfl⟩)
 refine A8 2 ?_
 (refine A20 rfl rfl rfl rfl rfl rfl (fun _ _ => by repeat (first | exact Sw.here | apply Sw.there)) hSl h1c (Nat.zero_le _) (by unfold maxLen; omega) (by omega) rfl rfl (by repeat (first | exact B0.nil | apply B0.dep (by decide +kernel) | apply B0.blk (by decide +kernel) (by repeat (first | exact Pk.here | apply Pk.there)) (by repeat first | exact mH | apply mT))) (fun p4 c4 => ?_); simp only [Nat.zero_add, List.nil_append])
 refine A8 7 ?_
 (refine S9 rfl rfl rfl rfl rfl rfl (fun _ _ => by repeat (first | exact Sw.here | apply Sw.there)) (K9 (by repeat first | exact mH | apply mT)) rfl (by simp [Value.oneCell']) (by unfold maxLen; omega) (by omega) rfl rfl (by repeat (first | exact B0.nil | apply B0.dep (by decide +kernel) | apply B0.blk (by decide +kernel) (by repeat (first | exact Pk.here | apply Pk.there)) (by repeat first | exact mH | apply mT))) (fun p5 c5 => ?_))
 refine aP 8 rfl (qA rfl) rfl ?_
 refine D6 (nS ?_)
 (refine Q4 (cs := es.flatten ++ [.string nm, .int .i64 k, .slice q ks.length d]) (by repeat (first | exact Pk.here | apply Pk.there)) (fun G5 hle5 hsl5 hno5 => ?_))
 refine tT (A6 (rT rfl) ?_)
 (exact ⟨rfl, _, _, rfl, X4.snoc (nm := nm) (t := .mk k ks) hx1 h2.len h2.all h2.one h3 hle5 ⟨_, _, rfl, hr.mono hle5⟩ hsl5⟩)
 (refine J9 rfl (D0 rfl rfl rfl (by omega) (by unfold maxLen; omega) rfl) rfl rfl ?_; rintro _ ⟨b40, rfl⟩)
 refine A8 0 ?_
 (refine J9 rfl (D0 rfl rfl rfl (by omega) (by unfold maxLen; omega) rfl) rfl rfl ?_; rintro _ ⟨b42, rfl⟩)
 refine A8 2 ?_
 (refine A20 rfl rfl rfl rfl rfl rfl (fun _ _ => by repeat (first | exact Sw.here | apply Sw.there)) hSl h1c (Nat.zero_le _) (by unfold maxLen; omega) (by omega) rfl rfl (by repeat (first | exact B0.nil | apply B0.dep (by decide +kernel) | apply B0.blk (by decide +kernel) (by repeat (first | exact Pk.here | apply Pk.there)) (by repeat first | exact mH | apply mT))) (fun p4 c4 => ?_); simp only [Nat.zero_add, List.nil_append])
 refine A8 7 ?_
 (refine S9 rfl rfl rfl rfl rfl rfl (fun _ _ => by repeat (first | exact Sw.here | apply Sw.there)) (K9 (by repeat first | exact mH | apply mT)) rfl (by simp [Value.oneCell']) (by unfold maxLen; omega) (by omega) rfl rfl (by repeat (first | exact B0.nil | apply B0.dep (by decide +kernel) | apply B0.blk (by decide +kernel) (by repeat (first | exact Pk.here | apply Pk.there)) (by repeat first | exact mH | apply mT))) (fun p5 c5 => ?_))
 refine aP 8 rfl (qA rfl) rfl ?_
 refine D6 (nS ?_)
 (refine Q4 (cs := es.flatten ++ [.string nm, .int .i64 k, .slice q ks.length d]) (by repeat (first | exact Pk.here | apply Pk.there)) (fun G5 hle5 hsl5 hno5 => ?_))
 refine tT (A6 (rT rfl) ?_)
 (exact ⟨rfl, _, _, rfl, X4.snoc (nm := nm) (t := .mk k ks) hx1 h2.len h2.all h2.one h3 hle5 ⟨_, _, rfl, hr.mono hle5⟩ hsl5⟩)
theorem A9V {cx : Cx} : ∀ {ks : List Tm} {i : Nat} {us : List Ty} {u : Ty} (hi : i < ks.length), V2 cx (ks.take i) = some us → P2 cx ks[i] = some u → V2 cx (ks.take (i + 1)) = some (us ++ [u])
 | [], i, us, u, hi, _, _ => by simp at hi
 | t :: ts, 0, us, u, _, h1, h2 => by
  simp only [List.take_zero, V2, Option.some.injEq] at h1
  subst h1
  simp only [List.getElem_cons_zero] at h2
  simp [V2, h2]
 | t :: ts, i + 1, us, u, hi, h1, h2 => by
  simp only [List.take_succ_cons, V2] at h1 ⊢
  split at h1
  ·cases h1
  ·rename_i a ha
   split at h1
   ·cases h1
   ·rename_i bs has
    simp only [Option.some.injEq] at h1
    subst h1
    simp only [List.getElem_cons_succ] at h2
    have := A9V (ks := ts) (i := i) (by simpa using hi) has h2
    simp only [this, List.cons_append]
theorem A9W {cx : Cx} : ∀ {ks : List Tm} {i : Nat} (hi : i < ks.length), P2 cx ks[i] = none → V2 cx ks = none
 | [], i, hi, _ => by simp at hi
 | t :: ts, 0, _, h => by simp only [List.getElem_cons_zero] at h; rw [V2, h]
 | t :: ts, i + 1, hi, h => by
  simp only [List.getElem_cons_succ] at h
  have := A9W (ks := ts) (i := i) (by simpa using hi) h
  rw [V2, this]
  cases P2 cx t <;> rfl
section
variable {cx : Cx} {k : Int} {nm : ByteArray} {num : Int} {ty fr : Ty} {lb : Int} {ks : List Tm}
theorem B4M (hk : k = 1) (h0 : ks = []) : P2 cx (.mk k nm num ty fr lb ks) = A2d cx nm := by
 subst hk h0
 rw [P2, V2]
 simp only [W7, mW1]
 cases A2d cx nm with
 | none => rfl
 | some t => simp
theorem B4N (hk : k = 2) (h0 : ks = []) : P2 cx (.mk k nm num ty fr lb ks) = some Y9 := by subst hk h0; rfl
theorem B4O (hk : k = 3 ∨ k = 4) (h0 : ks = []) : P2 cx (.mk k nm num ty fr lb ks) = some A0R := by subst h0; rcases hk with rfl | rfl <;> rfl
theorem B4P {b : Tm} (hk : k = 5) (h : P2 (cx ++ [(nm, ty)]) b = none) : P2 cx (.mk k nm num ty fr lb [b]) = none := by
 subst hk; rw [P2, A0T, if_pos rfl, V2, h]
theorem B4Q {b : Tm} {t : Ty} (hk : k = 5) (h : P2 (cx ++ [(nm, ty)]) b = some t) : P2 cx (.mk k nm num ty fr lb [b]) = if M0 (.mk 4 [ty, t]) = true then some (.mk 4 [ty, t]) else none := by
 subst hk
 rw [P2, A0T, if_pos rfl, V2, h]
 simp only [V2, W7, mW5, List.getD_cons_zero]
 cases M0 (.mk 4 [ty, t]) <;> simp
theorem B4R (hk : k ≠ 5) (h : V2 cx ks = none) : P2 cx (.mk k nm num ty fr lb ks) = none := by rw [P2, A0T, if_neg hk, h]
theorem B4S {ts : List Ty} (hk : k ≠ 5) (h : V2 cx ks = some ts) : P2 cx (.mk k nm num ty fr lb ks) = W7 cx k nm ty ts := by rw [P2, A0T, if_neg hk, h]
end
theorem B4T : ∀ (e : Tm) (d : Int) (cx : Cx) (G : IM) (p : Option Addr) (n c : Nat) (cells : List Value), M1 12 14 e d = true → (n : Int) ≤ d → cxV cx → X4 G cx p n c → B1 G e cells →
  Fn Tryz.prog 198 [.slice p n c, .agg ⟨cells⟩] [] G (O7 (P2 cx e) G) := by
 refine Tm.ind fun k nm num ty fr lb ks ih d cx G p n c cells hv hnd hcv hx hr => ?_
 have hr0 := hr
 have hone := hr.one
 obtain ⟨hv1, hv2, hv3, hv4⟩ := V7 hv
 have hvk := (A0B 12 14 ks _).1 hv4
 have har := (U9.1 hv3).1
 have hop := A8P har
 obtain ⟨hta, hts⟩ := A6h hv3
 have hkr : 1 ≤ k ∧ k ≤ 14 := A9r (by rw [har]; omega)
 have hcv5 : k = 5 → cxV (cx ++ [(nm, ty)]) := fun hk => by have := A9c (k := k) (nm := nm) (ty := ty) hcv fun hk => (U9.1 hv3).2.2.2.2.2.1 (.inl hk); rwa [A0T, if_pos hk] at this
 have h0 : k ≤ 4 → ks = [] := fun h => List.length_eq_zero_iff.1 (by
  have hk : k = 1 ∨ k = 2 ∨ k = 3 ∨ k = 4 := by omega
  rcases hk with rfl | rfl | rfl | rfl
  ·have : E7 1 = 0 := rfl; omega
  ·have : E7 2 = 0 := rfl; omega
  ·have : E7 3 = 0 := rfl; omega
  ·have : E7 4 = 0 := rfl; omega)
 have f1 := fun hk => @B4M cx k nm num ty fr lb ks hk (h0 (by omega))
 have f2 := fun hk => @B4N cx k nm num ty fr lb ks hk (h0 (by omega))
 have f3 := fun hk => @B4O cx k nm num ty fr lb ks hk (h0 (by omega))
 have f4 : ∀ (hk : k = 5) (hl : 0 < ks.length), P2 (cx ++ [(nm, ty)]) ks[0] = none → P2 cx (.mk k nm num ty fr lb ks) = none := fun hk hl h => by
  obtain ⟨b, rfl⟩ := ks1 (hop.2.2 (.inl hk)); exact B4P hk h
 have f5 : ∀ (t : Ty) (hk : k = 5) (hl : 0 < ks.length), P2 (cx ++ [(nm, ty)]) ks[0] = some t → P2 cx (.mk k nm num ty fr lb ks) = if M0 (.mk 4 [ty, t]) = true then some (.mk 4 [ty, t]) else none := fun t hk hl h => by
  obtain ⟨b, rfl⟩ := ks1 (hop.2.2 (.inl hk)); exact B4Q hk h
 have f6 := @B4R cx k nm num ty fr lb ks
 have f7 := fun ts => @B4S cx k nm num ty fr lb ks ts
 generalize P2 cx (.mk k nm num ty fr lb ks) = R at f1 f2 f3 f4 f5 f6 f7 ⊢
 obtain ⟨tk, tks⟩ := ty
 obtain ⟨fk, fks⟩ := fr
 obtain ⟨pt, ct, pf, cf, q, cq, es, rfl, hk, hnum, hlb, hty, hfr, hsl, hkl⟩ := hr.open9
 have hlen : ks.length ≤ 3 := by have := A23 k; omega
 refine B7 Tryz.func198 rfl Tryz.ntmps198 Tryz.results198 rfl ?_
 intro w0
 refine tS (tR ?_)
 refine sE (D5 rfl rfl) rfl (fun b3 => ?_)
 refine sE (B6 rfl) rfl (fun b4 => ?_)
 refine sQ (qA rfl) rfl (sD (nS (tS (tS (tR (sQ (A3 rfl) rfl (sL (A5 rfl rfl) rfl rfl (sD (nS ?_)))))))))
 refine B5 (tS (tR (sB (qE rfl rfl) rfl rfl (fun h18 => ?_) (fun h18 => ?_))))
 refine sQ (qA rfl) rfl (sD (nS (qT rfl (tS (tR (sQ (qM rfl) rfl (sQ (A3 rfl) rfl (sL (A5 rfl rfl) rfl rfl ?_))))))))
 (refine I5 rfl (B4E G cx hcv p n c nm hx) rfl rfl (fun v G1 hle1 hh => ?_); obtain ⟨mt, mc, rfl, hmr, hma, hmu⟩ := hh; obtain ⟨p1, c1, e1, rfl, _⟩ := hmr.open)
 refine sQ (pX rfl rfl) rfl (sQ (pX rfl rfl) rfl (B9 ?_))
 refine sQ (qA rfl) rfl (sD (nS (tT (rB (rS ?_)))))
 refine H9 (rC rfl (A7 rfl rfl)) (rT rfl) ?_
 (rw [f1 (by omega)]; exact ⟨rfl, _, _, rfl, hmr, hma, hmu⟩)
 refine sQ (qA rfl) rfl (sD (nS (cF rfl (tS (tR ?_)))))
 refine sB (qE rfl rfl) rfl rfl (fun h46 => ?_) (fun h46 => ?_)
 refine sQ (qA rfl) rfl (sD (nS (qT rfl (tS (tR ?_)))))
 refine F0 rfl ((A1v _)) rfl rfl ?_
 refine B9 ?_
 refine sQ (qA rfl) rfl (sD (nS (tT (rB (rS ?_)))))
 refine H9 (rC rfl (A7 rfl rfl)) (rT rfl) ?_
 (rw [f2 (by omega)]; exact O7.yes rfl (B3O _) (U0 (by omega) (by omega)))
 refine sQ (qA rfl) rfl (sD (nS (cF rfl (tS (tS (tR ?_))))))
 refine sB (qE rfl rfl) rfl rfl (fun h70 => ?_) (fun h70 => ?_)
 refine sQ (qA rfl) rfl (sD (nS (qT rfl (tK (nS (qT rfl (tS (tR ?_))))))))
 refine F0 rfl ((A3T _)) rfl rfl ?_
 refine B9 ?_
 refine sQ (qA rfl) rfl (sD (nS (tT (rB (rS ?_)))))
 refine H9 (rC rfl (A7 rfl rfl)) (rT rfl) ?_
 (rw [f3 (by omega)]; exact O7.yes rfl (A85 _) (U0 (by omega) (by omega)))
 refine sQ (qA rfl) rfl (sD (nS (cF rfl (tR ?_))))
 refine sB (qE rfl rfl) rfl rfl (fun h95 => ?_) (fun h95 => ?_)
 refine sQ (qA rfl) rfl (sD (nS (qT rfl (tS (tR ?_)))))
 refine F0 rfl ((A3T _)) rfl rfl ?_
 refine B9 ?_
 refine sQ (qA rfl) rfl (sD (nS (tT (rB (rS ?_)))))
 refine H9 (rC rfl (A7 rfl rfl)) (rT rfl) ?_
 (rw [f3 (by omega)]; exact O7.yes rfl (A85 _) (U0 (by omega) (by omega)))
 refine sQ (qA rfl) rfl (sD (nS (cF rfl (tS (tR ?_)))))
 refine sB (qE rfl rfl) rfl rfl (fun h118 => ?_) (fun h118 => ?_)
 refine sQ (qA rfl) rfl (sD (nS (qT rfl (tS ?_))))
 (have hl1 : ks.length = 1 := hop.2.2 (by omega); obtain ⟨b, o, e, rfl, hl, hat, hre, hgb⟩ := hsl.kidTm hkl (i := 0) (by omega) (by omega); have hMore := B4L G cx p n c nm (.mk tk tks) _ hx (by omega) hty; refine I0 I1 rfl ?_)
 refine J2 (i := 0) (l' := [tt,ff,ff,ff,ff,ff,ff,ff,ff,ff,ff,ff,ff,ff,ff,ff,ff]) rfl F4 (qM rfl) rfl (by kernel_rfl) rfl rfl ?_
 refine aP 1 rfl (A3 rfl) rfl ?_
 refine aL 2 rfl (A5 rfl rfl) rfl ?_
 refine aP 3 rfl (A3 rfl) rfl ?_
 refine aL 4 rfl (A7 rfl rfl) rfl ?_
 refine aP 6 rfl (A3 rfl) rfl ?_
 refine aL 7 rfl (A5 rfl rfl) rfl ?_
 refine aP 8 rfl (C2 (j := 0) rfl rfl rfl (by omega)) rfl ?_
 refine aL 9 rfl (A9 rfl rfl (hat _) hl) rfl ?_
 refine A0N (j := 5) (j' := 14) (by kernel_rfl) ?_ ?_
 (refine Q0 rfl rfl hMore rfl rfl rfl (fun v G1 hle1 hh => ?_); obtain ⟨pm, cm, rfl, hxm⟩ := hh; have hreM := hre.mono hle1; have hLam := ih ks[0] (List.getElem_mem (by omega)) (d + 1) _ G1 pm (n + 1) cm _ (hvk 0 (by omega)) (by omega) (hcv5 (by omega)) hxm hreM; have htyM := hty.mono hle1)
 refine A0N (j := 10) (j' := 14) (by kernel_rfl) ?_ ?_
 focus (refine Q0 rfl rfl hLam rfl rfl rfl (fun v G2 hle2 hh => ?_); obtain ⟨mt, mc, rfl, hmr, hma, hmu⟩ := hh; obtain ⟨p1, c1, e1, rfl, _⟩ := hmr.open; have htyN := htyM.mono hle2; rcases hE : P2 (cx ++ [(nm, Ty.mk tk tks)]) ks[0] with _ | mt2; rotate_left; obtain rfl := hmu _ hE; rotate_left; all_goals simp only [Option.isSome])
 refine aP 11 rfl (qM rfl) rfl ?_
 refine aP 12 rfl (pX rfl rfl) rfl ?_
 refine aP 13 rfl (pX rfl rfl) rfl ?_
 refine A8 14 ?_
 (refine J9 rfl (B6 rfl) rfl rfl ?_; rintro _ ⟨b142, rfl⟩)
 refine A8 15 ?_
 refine S3 rfl ?_
 refine aP 16 rfl (qA rfl) rfl ?_
 refine A08 ?_
 refine H9 (rC rfl (A7 rfl rfl)) (rT rfl) ?_
 (rw [f4 (by omega) (by omega) (by first | exact hE | assumption)]; exact O7.no rfl (P1 _ ⟨by omega, by omega⟩) (U0 (by omega) (by omega)))
 refine aP 11 rfl (qM rfl) rfl ?_
 refine aP 12 rfl (pX rfl rfl) rfl ?_
 refine aP 13 rfl (pX rfl rfl) rfl ?_
 refine A8 14 ?_
 (refine J9 rfl (B6 rfl) rfl rfl ?_; rintro _ ⟨b173, rfl⟩)
 refine A8 15 ?_
 refine S3 rfl ?_
 refine aP 16 rfl (qA rfl) rfl ?_
 refine R6 ?_
 (refine I5 rfl (A4Q 4 (.mk tk tks) _ _ _ _ (.inl rfl) hta hma htyN hmr) rfl rfl (fun v G3 hle3 hh => ?_); obtain ⟨mc2, rfl, hmr2⟩ := hh; obtain ⟨p2, c2, e2, rfl, _⟩ := hmr2.open)
 refine sQ (pX rfl rfl) rfl (sQ (pX rfl rfl) rfl (B9 ?_))
 refine sQ (qA rfl) rfl (sD (nS (tT (rB (rS ?_)))))
 refine H9 (rC rfl (A7 rfl rfl)) (rT rfl) ?_
 (rw [f5 _ (by omega) (by omega) (by first | exact hE | assumption)]; exact O7.mk rfl hmr2 (A4B (.inl rfl) hta hma))
 (refine J9 rfl (B6 rfl) rfl rfl ?_; rintro _ ⟨b206, rfl⟩)
 refine A8 10 ?_
 focus (refine Q0 rfl rfl hLam rfl rfl rfl (fun v G2 hle2 hh => ?_); obtain ⟨mt, mc, rfl, hmr, hma, hmu⟩ := hh; obtain ⟨p1, c1, e1, rfl, _⟩ := hmr.open; have htyN := htyM.mono hle2; rcases hE : P2 (cx ++ [(nm, Ty.mk tk tks)]) ks[0] with _ | mt2; rotate_left; obtain rfl := hmu _ hE; rotate_left; all_goals simp only [Option.isSome])
 refine aP 11 rfl (qM rfl) rfl ?_
 refine aP 12 rfl (pX rfl rfl) rfl ?_
 refine aP 13 rfl (pX rfl rfl) rfl ?_
 refine A8 15 ?_
 refine S3 rfl ?_
 refine aP 16 rfl (qA rfl) rfl ?_
 refine A08 ?_
 refine H9 (rC rfl (A7 rfl rfl)) (rT rfl) ?_
 (rw [f4 (by omega) (by omega) (by first | exact hE | assumption)]; exact O7.no rfl (P1 _ ⟨by omega, by omega⟩) (U0 (by omega) (by omega)))
 refine aP 11 rfl (qM rfl) rfl ?_
 refine aP 12 rfl (pX rfl rfl) rfl ?_
 refine aP 13 rfl (pX rfl rfl) rfl ?_
 refine A8 15 ?_
 refine S3 rfl ?_
 refine aP 16 rfl (qA rfl) rfl ?_
 refine R6 ?_
 (refine I5 rfl (A4Q 4 (.mk tk tks) _ _ _ _ (.inl rfl) hta hma htyN hmr) rfl rfl (fun v G3 hle3 hh => ?_); obtain ⟨mc2, rfl, hmr2⟩ := hh; obtain ⟨p2, c2, e2, rfl, _⟩ := hmr2.open)
 refine sQ (pX rfl rfl) rfl (sQ (pX rfl rfl) rfl (B9 ?_))
 refine sQ (qA rfl) rfl (sD (nS (tT (rB (rS ?_)))))
 refine H9 (rC rfl (A7 rfl rfl)) (rT rfl) ?_
 (rw [f5 _ (by omega) (by omega) (by first | exact hE | assumption)]; exact O7.mk rfl hmr2 (A4B (.inl rfl) hta hma))
 (refine J9 rfl (B6 rfl) rfl rfl ?_; rintro _ ⟨b273, rfl⟩)
 refine A8 5 ?_
 (refine Q0 rfl rfl hMore rfl rfl rfl (fun v G1 hle1 hh => ?_); obtain ⟨pm, cm, rfl, hxm⟩ := hh; have hreM := hre.mono hle1; have hLam := ih ks[0] (List.getElem_mem (by omega)) (d + 1) _ G1 pm (n + 1) cm _ (hvk 0 (by omega)) (by omega) (hcv5 (by omega)) hxm hreM; have htyM := hty.mono hle1)
 refine A8 10 ?_
 focus (refine Q0 rfl rfl hLam rfl rfl rfl (fun v G2 hle2 hh => ?_); obtain ⟨mt, mc, rfl, hmr, hma, hmu⟩ := hh; obtain ⟨p1, c1, e1, rfl, _⟩ := hmr.open; have htyN := htyM.mono hle2; rcases hE : P2 (cx ++ [(nm, Ty.mk tk tks)]) ks[0] with _ | mt2; rotate_left; obtain rfl := hmu _ hE; rotate_left; all_goals simp only [Option.isSome])
 refine aP 11 rfl (qM rfl) rfl ?_
 refine aP 12 rfl (pX rfl rfl) rfl ?_
 refine aP 13 rfl (pX rfl rfl) rfl ?_
 refine A8 15 ?_
 refine S3 rfl ?_
 refine aP 16 rfl (qA rfl) rfl ?_
 refine A08 ?_
 refine H9 (rC rfl (A7 rfl rfl)) (rT rfl) ?_
 (rw [f4 (by omega) (by omega) (by first | exact hE | assumption)]; exact O7.no rfl (P1 _ ⟨by omega, by omega⟩) (U0 (by omega) (by omega)))
 refine aP 11 rfl (qM rfl) rfl ?_
 refine aP 12 rfl (pX rfl rfl) rfl ?_
 refine aP 13 rfl (pX rfl rfl) rfl ?_
 refine A8 15 ?_
 refine S3 rfl ?_
 refine aP 16 rfl (qA rfl) rfl ?_
 refine R6 ?_
 (refine I5 rfl (A4Q 4 (.mk tk tks) _ _ _ _ (.inl rfl) hta hma htyN hmr) rfl rfl (fun v G3 hle3 hh => ?_); obtain ⟨mc2, rfl, hmr2⟩ := hh; obtain ⟨p2, c2, e2, rfl, _⟩ := hmr2.open)
 refine sQ (pX rfl rfl) rfl (sQ (pX rfl rfl) rfl (B9 ?_))
 refine sQ (qA rfl) rfl (sD (nS (tT (rB (rS ?_)))))
 refine H9 (rC rfl (A7 rfl rfl)) (rT rfl) ?_
 (rw [f5 _ (by omega) (by omega) (by first | exact hE | assumption)]; exact O7.mk rfl hmr2 (A4B (.inl rfl) hta hma))
 refine sQ (qA rfl) rfl (sD (nS (cF rfl (tK (C8 (nS (tS (tR ?_))))))))
 (refine E0 (D0 rfl rfl rfl (by omega) (by unfold maxLen; omega) rfl) rfl ?_; rintro _ ⟨b351, rfl⟩)
 refine sQ (qA rfl) rfl (sD (nS (tS (tS (tR (sQ (qA rfl) rfl (sD (nS ?_))))))))
 refine B5 ?_
 (refine K4 (fun (x : Nat × Option Addr × Nat × List Ty × List (List Value) × IM) => ⟨[(9, .int .i64 x.1), (8, .slice x.2.1 x.1 x.2.2.1), (3, .pointer (some ⟨b3, 0, none⟩)), (4, .pointer (some ⟨b4, 0, none⟩)), (0, .slice p n c)], [.slc x.2.1 x.2.2.1 25 2 x.1 x.2.2.2.2.1.flatten, .blk b4 [.int .i64 0, .slice none 0 0], .blk b3 [.int .i64 k, .string nm, .int .i64 num, .int .i64 tk, .slice pt tks.length ct, .int .i64 fk, .slice pf fks.length cf, .int .i64 lb, .slice q ks.length cq]], x.2.2.2.2.2⟩) (fun x => x.1 ≤ ks.length ∧ B4 G x.2.2.2.2.2 ∧ x.2.2.2.1.length = x.1 ∧ F8 x.2.2.2.2.2 x.2.2.2.1 x.2.2.2.2.1 ∧ (∀ u ∈ x.2.2.2.1, H4 u) ∧ V2 cx (ks.take x.1) = some x.2.2.2.1) (fun x => ks.length - x.1) (0, some ⟨b351, 0, none⟩, 0, [], [], G) ?_ ?_ ?_)
 (simp only [E2]; exact C9)
 (exact ⟨by simp, B4.refl _, rfl, by simp [F8], by simp, by simp [V2]⟩)
 (rintro ⟨i, pn, cn, us, es', Gi⟩ ⟨hi, hle, hlu, hst, hau, hsu⟩; simp only [] at hi hle hlu hst hau hsu ⊢; replace hsl := hsl.mono hle; replace hkl := hkl.mono hle; replace hx := hx.mono hle; replace hr0 := hr0.mono hle)
 refine tS (tS (tR (sQ (qM rfl) rfl (sQ (A3 rfl) rfl (sL (A5 rfl rfl) rfl rfl (sQ (D8 rfl rfl) rfl ?_))))))
 refine sB (J3 rfl rfl) rfl rfl (fun h373 => ?_) (fun h373 => ?_)
 refine sD (nS (qT rfl (tK (nS (tS ?_)))))
 refine B5 ?_
 refine tS (tR (sQ (qM rfl) rfl (sQ (A3 rfl) rfl (sL (A5 rfl rfl) rfl rfl (sQ (qM rfl) rfl ?_)))))
 (obtain ⟨b, o, e, rfl, hl, hat, hre, hgb⟩ := hsl.kidTm hkl (i := i) (by omega) (by omega); refine sP (C2 rfl rfl rfl (by omega)) rfl rfl ?_)
 refine sL (A9 rfl rfl (hat _) hl) rfl rfl ?_
 focus (refine I5 rfl (ih ks[i] (List.getElem_mem (by omega)) (d + 1) cx Gi p n c _ (hvk i (by omega)) (by omega) hcv hx hre) rfl rfl (fun v G2 hle2 hh => ?_); obtain ⟨u, uc, rfl, hru, hua, huu⟩ := hh; obtain ⟨p3, c3, e3, rfl, _⟩ := hru.open; rcases hE : P2 cx ks[i] with _ | u2; rotate_left; obtain rfl := huu _ hE; rotate_left; all_goals simp only [Option.isSome])
 refine sQ (qM rfl) rfl (sQ (pX rfl rfl) rfl (sQ (pX rfl rfl) rfl ?_))
 refine sE (B6 rfl) rfl (fun b393 => ?_)
 refine A5t ?_
 refine H9 (rC rfl (A7 rfl rfl)) (rT rfl) ?_
 (rw [f6 (by omega) (A9W (by omega) hE)]; exact O7.no rfl (P1 _ ⟨by omega, by omega⟩) (U0 (by omega) (by omega)))
 refine sQ (qM rfl) rfl (sQ (pX rfl rfl) rfl (sQ (pX rfl rfl) rfl ?_))
 refine sE (B6 rfl) rfl (fun b425 => ?_)
 refine R6 ?_
 (refine E0 (D0 rfl rfl rfl (by omega) (by unfold maxLen; omega) rfl) rfl ?_; rintro _ ⟨b443, rfl⟩)
 refine T1 rfl rfl rfl rfl rfl (fun _ _ => by repeat (first | exact Sw.here | apply Sw.there)) (K9 (by repeat first | exact mH | apply mT)) rfl (by simp [Value.oneCell']) (by unfold maxLen; omega) (by omega) rfl (fun pn' cn' => ?_)
 refine sQ (qA rfl) rfl (sD (C8 (nS (tR (sQ (qM rfl) rfl ?_)))))
 refine sP (H6 rfl rfl (by omega) (by omega)) rfl rfl ?_
 refine sQ (qA rfl) rfl (sD ?_)
 refine K3 (i + 1, pn', cn', us ++ [u2], es' ++ [[.int .i64 u2.k, .slice p3 u2.ks.length c3]], G2) ?_ ?_ ?_
 (simp only [E2]; exact C9)
 (dsimp only; exact ⟨by omega, hle.trans hle2, by simp [hlu], F8.snoc (hst.mono hle2) hru, A6d hau hua, A9V (by omega) hsu hE⟩)
 (show ks.length - (i + 1) < ks.length - i; omega)
 refine sD (nS (cF rfl (M7 (M8 (N3 (M9 (nS (tS (tR (sL (A7 rfl rfl) rfl rfl (sQ (qM rfl) rfl ?_)))))))))))
 (obtain rfl : i = ks.length := (by omega); rw [List.take_length] at hsu; refine Q8 (cs := es'.flatten) (by repeat (first | exact Pk.here | apply Pk.there)) (fun G3 hle3 hsl3 hno3 => ?_); have hst3 := hst.mono hle3; have hRes := B4K cx k nm num (.mk tk tks) (.mk fk fks) lb ks us G3 _ pn cn es' (by rw [hlu]; exact har) (by omega) hta (hr0.mono hle3) (by rw [hlu]; exact C5.of hsl3 (by rw [hst3.len, hlu]) hst3.all (fun e he => (hst3.each e he).2)) hst3 hau; rw [hlu] at hRes; refine I5 rfl hRes rfl rfl (fun v G4 hle4 hh => ?_); obtain ⟨mt, mc, rfl, hmr, hma, hmu⟩ := hh; obtain ⟨p1, c1, e1, rfl, _⟩ := hmr.open)
 refine sQ (pX rfl rfl) rfl (sQ (pX rfl rfl) rfl (B9 ?_))
 refine sQ (qA rfl) rfl (sD (nS (tT ?_)))
 refine H9 (rC rfl (A7 rfl rfl)) (rT rfl) ?_
 (rw [f7 us (by omega) hsu]; exact ⟨rfl, _, _, rfl, hmr, hma, hmu⟩)
theorem B4U {e : Tm} (h : M5 e = true) : A1i e = P2 [] e := by
 have hs := ((A0E e).1 h).1
 obtain ⟨h1, h2⟩ := B3T e 1 [] 0 hs A9b
 unfold A1i
 cases hE : mEl [] e 0 with
 | none => rw [B4l h hE, h2 hE]
 | some r =>
  obtain ⟨u, a, l⟩ := r
  rw [B4m h hE, (h1 u a l hE).1]
def A6Q (t : Ty) (x : Bool) (G : IM) : IM → Value → List A4 → Prop := I9 fun G' v => ∃ cells, v = .tuple ⟨[.agg ⟨cells⟩, .bool x]⟩ ∧ C3 G' (if x = true then t else B8) cells
theorem B4V (t : Ty) (G : IM) (cells : List Value) (hr : C3 G t cells) : Fn Tryz.prog 197 [.agg ⟨cells⟩, .bool true] [] G (A6Q t true G) := by
 obtain ⟨p, c, e, rfl, _⟩ := hr.open
 refine B7 Tryz.func197 rfl Tryz.ntmps197 Tryz.results197 rfl ?_
 intro w0
 refine tS (tR ?_)
 refine sE (D5 rfl rfl) rfl (fun b3 => ?_)
 refine sE (B6 rfl) rfl (fun b4 => ?_)
 refine A08 ?_
 refine H9 (rC rfl (A7 rfl rfl)) (rT rfl) ?_
 (exact ⟨rfl, _, rfl, hr⟩)
theorem B4W (t : Ty) (G : IM) (cells : List Value) (hr : C3 G t cells) : Fn Tryz.prog 197 [.agg ⟨cells⟩, .bool false] [] G (A6Q t false G) := by
 obtain ⟨p, c, e, rfl, _⟩ := hr.open
 refine B7 Tryz.func197 rfl Tryz.ntmps197 Tryz.results197 rfl ?_
 intro w0
 refine tS (tR ?_)
 refine sE (D5 rfl rfl) rfl (fun b3 => ?_)
 refine sE (B6 rfl) rfl (fun b4 => ?_)
 refine A07 ?_
 refine H9 (rC rfl (A7 rfl rfl)) (rT rfl) ?_
 (exact ⟨rfl, _, rfl, P1 _ ⟨by omega, by omega⟩⟩)
theorem B4X (t : Ty) (x : Bool) (G : IM) (cells : List Value) (hr : C3 G t cells) : Fn Tryz.prog 197 [.agg ⟨cells⟩, .bool x] [] G (A6Q t x G) := by
 cases x
 ·exact B4W t G cells hr
 ·exact B4V t G cells hr
theorem A2e.sure {o : Option Ty} {t : Ty} {G G' : IM} {cells : List Value} (h : ∀ u, o = some u → u = t) (hr : C3 G' (if o.isSome = true then t else B8) cells) : A2e o G G' (.tuple ⟨[.agg ⟨cells⟩, .bool o.isSome]⟩) [] := by
 cases o with
 | none => exact ⟨rfl, cells, B8, rfl, hr, by simp⟩
 | some u => exact ⟨rfl, cells, t, rfl, hr, fun x hx => by cases hx; exact (h _ rfl).symm⟩
theorem B4Y (e : Tm) (G : IM) (cells : List Value) (hcnt : E6 e ≤ 4294967296) (hr : B1 G e cells) :
  Fn Tryz.prog 176 [.slice none 0 0, .agg ⟨cells⟩] [] G (A2e (A1i e) G) := by
 have hl := hr.len
 have hone := hr.one
 have hw := A4x e G cells hcnt hr
 have hT := fun h : M5 e = true => B4T e 1 [] G none 0 0 cells ((A0E e).1 h).1 (by omega) A9b (X4.nil G) hr
 have hts := fun h => @B4U e h
 have hno := @B4n e
 refine B7 Tryz.func176 rfl Tryz.ntmps176 Tryz.results176 rfl ?_
 intro w0
 refine tS (tR ?_)
 refine sE (D5 rfl rfl) rfl (fun b3 => ?_)
 refine sE (B6 rfl) rfl (fun b4 => ?_)
 refine sQ (qA rfl) rfl (sD (nS (tS (tS (tR (sQ (qM rfl) rfl ?_))))))
 refine F0 rfl ((B3e _)) rfl rfl ?_
 refine sQ (M4 rfl) rfl (sQ (qM rfl) rfl ?_)
 refine sL (A9 rfl rfl (C7 (by repeat first | exact mH | apply mT)) (by assumption)) rfl rfl ?_
 refine H1 rfl (hw) rfl rfl (fun h16 => ?_) (fun h16 => ?_)
 refine sQ (M4 rfl) rfl (sQ (D7 rfl rfl) rfl (sD (nS (cF rfl (tK (nS (tS (tR (sQ (qM rfl) rfl ?_)))))))))
 refine sL (A9 rfl rfl (C7 (by repeat first | exact mH | apply mT)) (by assumption)) rfl rfl ?_
 (refine I5 rfl (hT (by assumption)) rfl rfl (fun v G1 hle1 hh => ?_); obtain ⟨mt, mc, rfl, hmr, hma, hmu⟩ := hh; obtain ⟨p1, c1, e1, rfl, _⟩ := hmr.open; have hmo := hts (by assumption))
 refine sQ (pX rfl rfl) rfl (sQ (pX rfl rfl) rfl ?_)
 (refine I5 rfl (B4X mt _ _ _ hmr) rfl rfl (fun v G2 hle2 hh => ?_); obtain ⟨mc2, rfl, hmr2⟩ := hh; obtain ⟨p2, c2, e2, rfl, _⟩ := hmr2.open)
 refine sQ (pX rfl rfl) rfl (sQ (pX rfl rfl) rfl (B9 ?_))
 refine sQ (qA rfl) rfl (sD (nS (tT ?_)))
 refine H9 (rC rfl (A7 rfl rfl)) (rT rfl) ?_
 (rw [hmo]; exact A2e.sure hmu hmr2)
 refine Y8 ?_
 refine H9 (rC rfl (A7 rfl rfl)) (rT rfl) ?_
 (exact A2e.no (u := B8) (P1 _ ⟨by omega, by omega⟩) rfl (hno (by assumption)))
theorem B4Z (e : Tm) (G : IM) (cells : List Value) (hcnt : E6 e ≤ 4294967296) (hr : B1 G e cells) :
  Fn Tryz.prog 112 [.agg ⟨cells⟩] [] G (A2e (A1i e) G) := by
 have hl := hr.len
 have hone := hr.one
 refine B7 Tryz.func112 rfl Tryz.ntmps112 Tryz.results112 rfl ?_
 intro w0
 refine tS (tR ?_)
 refine sE (D5 rfl rfl) rfl (fun b3 => ?_)
 refine sE (B6 rfl) rfl (fun b4 => ?_)
 refine sQ (qA rfl) rfl (sD (nS (tS (tR ?_))))
 refine sL (A9 rfl rfl (C7 (by repeat first | exact mH | apply mT)) (by assumption)) rfl rfl ?_
 (refine I5 rfl (B4Y e G cells hcnt hr) rfl rfl (fun v G1 hle1 hh => ?_); obtain ⟨cu, u, rfl, hru, hu⟩ := hh; obtain ⟨p1, c1, e1, rfl, _⟩ := hru.open)
 refine sQ (pX rfl rfl) rfl (sQ (pX rfl rfl) rfl (B9 ?_))
 refine sQ (qA rfl) rfl (sD (nS (tT ?_)))
 refine H9 (rC rfl (A7 rfl rfl)) (rT rfl) ?_
 (exact ⟨rfl, _, u, rfl, hru, hu⟩)
def B7p (e : Tm) (a b : Ty) (l : Int) : IM → Value → List A4 → Prop := I9 fun G' v => ∃ cells, v = .tuple ⟨[.agg ⟨cells⟩, .int .i64 (if V1 a b = true then l else l + 1)]⟩ ∧ B1 G' (if V1 a b = true then e else V9 e a b l) cells
def B7q (w ts : List Ty) : List Ty := if w = [] then ts else w
def B7r (ws : List Ty) (n : Nat) (G : IM) : IM → Value → List A4 → Prop := I9 fun G' v => ∃ p c es, v = .slice p n c ∧ ws.length = n ∧ C5 G' p n c 2 es ∧ F8 G' ws es
section
variable {cx : Cx} {k : Int} {nm : ByteArray} {ty : Ty} {ts w : List Ty} {t : Ty}
end
def B7s (u : Tm) (t : Ty) (l : Int) (G : IM) : IM → Value → List A4 → Prop := I9 fun G' v => ∃ cu ct, v = .tuple ⟨[.agg ⟨cu⟩, .agg ⟨ct⟩, .int .i64 (l + 1)]⟩ ∧ B1 G' u cu ∧ C3 G' t ct
def B40 (t : Tm) : List Ty := if M5 t = true then A2D t else []
def B7t (u : Tm) (n : Int) : IM → Value → List A4 → Prop := fun G' v outs => outs = [] ∧ ∃ cu, v = .tuple ⟨[.agg ⟨cu⟩, .int .i64 n]⟩ ∧ B1 G' u cu
def B7u (t : Tm) (L : List Ty) : Option Tm := if M5 t = true ∧ (B40 t).length = L.length ∧ ∀ u ∈ L, M0 u = true then some (A6N t L) else none
def TmB (o : Option Tm) : IM → Value → List A4 → Prop := I9 fun G' v => ∃ cu, v = .tuple ⟨[.agg ⟨cu⟩, .bool o.isSome]⟩ ∧ B1 G' (o.getD H7) cu
theorem B41 {e : Tm} (h : (A1i e).isSome = true) : M5 e = true := by
 unfold A1i A1Y at h
 split at h
 ·rename_i u t hx
  split at hx
  ·assumption
  ·cases hx
 ·cases h
mutual
theorem A9X : ∀ (t : Tm) (d : Int), M1 12 14 t d = true → t.small
 | .mk k nm num ty fr lb ks, d, h => by
  obtain ⟨_, h2, h3, h4⟩ := V7 h
  obtain ⟨n1, n2, n3, n4, n5, n6, n7, n8, n9⟩ := U9.1 h3
  rw [Tm.small]
  refine ⟨by have := A4C h3; omega, (A6h h3).1.small, by rw [A2u (n9 h2).1]; exact B3F, ?_, A9Y ks _ h4⟩
  have := A23 k; omega
theorem A9Y : ∀ (ts : List Tm) (d : Int), N6 12 14 ts d = true → Tm.smallL ts
 | [], _, _ => by rw [Tm.smallL]; trivial
 | t :: ts, d, h => by
  rw [N6, Bool.and_eq_true] at h
  rw [Tm.smallL]
  exact ⟨A9X t d h.1, A9Y ts d h.2⟩
end
theorem A9Z {e : Tm} (h : M5 e = true) : e.fit 30 := by
 obtain ⟨h1, h2⟩ := (A0E e).1 h
 exact ⟨A9X e 1 h1, h2⟩
theorem Tm.fit.le {e : Tm} {n m : Nat} (h : e.fit n) (hm : n ≤ m) : e.fit m := ⟨h.1, Nat.le_trans h.2 hm⟩
theorem B42 (br : Nat) (pb : Option Addr) (nb cb : Nat) (bs : List UInt8) (hnb : nb ≤ 2000) (p : Nat) (G : IM) (hb : Sl G pb nb cb 1 (N1 bs)) (hp : p + 9000000 < 1099511627776) :
  Fn Tryz.prog 58 [.pointer (some ⟨br, 0, none⟩)] [rd br pb nb cb p] G
   (A0q br pb nb cb p 9000000 (fun G' v => ∃ e cells, v = .agg ⟨cells⟩ ∧ B1 G' e cells ∧ e.fit 1100)) := by
 have hm8 : mB 8 = 1968200 := by decide
 refine B7 Tryz.func58 rfl Tryz.ntmps58 Tryz.results58 rfl ?_
 intro w0
 refine tS (tR ?_)
 refine sE (B6 rfl) rfl (fun b3 => ?_)
 refine sD (nS (tS (tS (tR (sQ (qA rfl) rfl (sD (nS ?_)))))))
 refine B5 ?_
 (refine K4 (fun (x : Nat × Nat × IM) => ⟨[(3, .int .i64 x.1), (0, .pointer (some ⟨br, 0, none⟩)), (2, .pointer (some ⟨b3, 0, none⟩))], [rd br pb nb cb x.2.1, .blk b3 [.int .i64 0, .string ⟨⟨[]⟩⟩, .int .i64 0, .int .i64 0, .slice none 0 0, .int .i64 0, .slice none 0 0, .int .i64 0, .slice none 0 0]], x.2.2⟩) (fun x => x.1 ≤ 4 ∧ B4 G x.2.2 ∧ p ≤ x.2.1 ∧ x.2.1 ≤ p + x.1 * 2000000) (fun x => 4 - x.1) (0, p, G) ?_ ?_ ?_)
 (simp only [E2]; exact C9)
 (exact ⟨by omega, B4.refl _, Nat.le_refl _, by dsimp only; omega⟩)
 (rintro ⟨(i : Nat), (p1 : Nat), G1⟩ ⟨hi, hleL, hpL, hpL2⟩; simp only [] at hi hleL hpL hpL2 ⊢; replace hb := hb.mono hleL)
 refine tS (tS (tR (sQ (qM rfl) rfl ?_)))
 refine sB (J3 rfl rfl) rfl rfl (fun h21 => ?_) (fun h21 => ?_)
 refine sD (nS (qT rfl (tK (nS (tS ?_)))))
 refine B5 ?_
 refine tS (tR (sQ (qM rfl) rfl (sQ (qM rfl) rfl (sQ (qM rfl) rfl ?_))))
 (refine E0 (D0 rfl rfl rfl (by omega) (by unfold maxLen; omega) rfl) rfl ?_; rintro _ ⟨b34, rfl⟩)
 (refine Q8 (by repeat (first | exact Pk.here | apply Pk.there)) (fun Gf hlef hslf _ => ?_); refine D2 rfl (A0b Gf br pb nb cb (p1) bs _ _ _ _ (hb.mono hlef) hnb (by omega) hslf (by decide)) (Pk.perm (by repeat (first | exact Pk.here | apply Pk.there))) rfl rfl (fun v Gm outs hlen hh => ?_); obtain ⟨rfl, rfl, hv⟩ := hh; replace hb := hb.mono hlef; obtain ⟨dd, rfl, hdd⟩ : ∃ d : Nat, v = .int .i64 ((d + 1 : Nat) : Int) ∧ d ≤ 2 := (by simp only [List.mem_cons, List.not_mem_nil, or_false] at hv; rcases hv with rfl | rfl | rfl | rfl <;> first | exact ⟨0, rfl, by decide⟩ | exact ⟨1, rfl, by decide⟩ | exact ⟨2, rfl, by decide⟩); have hdB := A6c hdd; replace hleL := hleL.trans hlef)
 (have hcall := A3N br pb nb cb bs hnb dd (p1 + 1) _ (by omega) hb (by omega); refine D2 rfl hcall (Pk.perm (by repeat (first | exact Pk.here | apply Pk.there))) rfl rfl (fun v Gn outs hleD hh => ?_); obtain ⟨pD, hpD1, hpD2, rfl, uD, cD, rfl, hrD, hsD, haD⟩ := hh; obtain ⟨qD, dD, eD, rfl, _⟩ := hrD.open; replace hb := hb.mono hleD; replace hleL := hleL.trans hleD)
 refine sQ (qM rfl) rfl ?_
 (refine E0 (D0 rfl rfl rfl (by omega) (by unfold maxLen; omega) rfl) rfl ?_; rintro _ ⟨b38, rfl⟩)
 (refine Q8 (by repeat (first | exact Pk.here | apply Pk.there)) (fun Gf hlef hslf _ => ?_); refine D2 rfl (A0b Gf br pb nb cb (pD) bs _ _ _ _ (hb.mono hlef) hnb (by omega) hslf (by decide)) (Pk.perm (by repeat (first | exact Pk.here | apply Pk.there))) rfl rfl (fun v Gm outs hlen hh => ?_); obtain ⟨rfl, rfl, hv⟩ := hh; replace hb := hb.mono hlef; replace hleL := hleL.trans hlef; replace hrD := hrD.mono hlef; obtain ⟨dp, rfl, hdp1, hdp2⟩ : ∃ d : Int, v = .int .i64 d ∧ 3 ≤ d ∧ d ≤ 5 := (by simp only [List.mem_cons, List.not_mem_nil, or_false] at hv; rcases hv with rfl | rfl | rfl | rfl <;> exact ⟨_, rfl, by decide, by decide⟩))
 (have hcall := B4C br pb nb cb bs hnb 8 dp uD (pD + 1) _ none 0 0 _ ⟨haD.le (by omega), by omega, by omega, .inr ⟨by omega, by omega⟩⟩ (by omega) (by omega) (by omega) (W4.nil _) hrD hb (by omega); refine D2 rfl hcall (Pk.perm (by repeat (first | exact Pk.here | apply Pk.there))) rfl rfl (fun v Gn outs hleM hh => ?_); obtain ⟨pM, hpM1, hpM2, rfl, eM, cM, rfl, hrM, hsmM, hcM⟩ := hh; have hlM := hrM.len; have hoM := hrM.one; replace hb := hb.mono hleM; replace hleL := hleL.trans hleM)
 refine sE (B6 rfl) rfl (fun b41 => ?_)
 refine A0h rfl rfl rfl hlM hoM rfl (by repeat first | exact Sw.here | apply Sw.there) (by exact I4 (by first | exact hlM.symm | omega)) ?_
 refine sD (nS (tS (tR ?_)))
 refine sL (A9 rfl rfl (C7 (by repeat first | exact mH | apply mT)) hlM) rfl rfl ?_
 (refine I5 rfl (B4Z eM _ _ (by omega) hrM) rfl rfl (fun v G9 hle9 hh => ?_); have hmv := @B41 eM; obtain ⟨mc, mt, rfl, hmr, hmu⟩ := hh; obtain ⟨pt, ct, et, rfl, _⟩ := hmr.open; replace hb := hb.mono hle9; replace hleL := hleL.trans hle9; replace hrM := hrM.mono hle9; generalize (A1i eM).isSome = mx at *; cases mx)
 refine sQ (qM rfl) rfl (sQ (pX rfl rfl) rfl (sQ (pX rfl rfl) rfl ?_))
 refine sE (B6 rfl) rfl (fun b52 => ?_)
 refine B9 ?_
 refine sQ (qA rfl) rfl (sD (nS (tS (tR (sQ (qM rfl) rfl (sD (nS (cF rfl (tK (C8 (nS (tR (sQ (qM rfl) rfl ?_)))))))))))))
 refine sP (H6 rfl rfl (by omega) (by omega)) rfl rfl ?_
 refine sQ (qA rfl) rfl (sD ?_)
 refine K3 (i + 1, pM, G9) ?_ ?_ ?_
 (simp only [E2]; exact C9)
 (dsimp only; exact ⟨by omega, hleL, by omega, by omega⟩)
 (show 4 - (i + 1) < 4 - i; omega)
 refine sQ (qM rfl) rfl (sQ (pX rfl rfl) rfl (sQ (pX rfl rfl) rfl ?_))
 refine sE (B6 rfl) rfl (fun b78 => ?_)
 refine B9 ?_
 refine sQ (qA rfl) rfl (sD (nS (tS (tR (sQ (qM rfl) rfl (sD (nS (qT rfl (tS (tR ?_))))))))))
 refine sL (A9 rfl rfl (C7 (by repeat first | exact mH | apply mT)) hlM) rfl rfl ?_
 refine A0h rfl rfl rfl hlM hoM rfl (by repeat first | exact Sw.here | apply Sw.there) (by exact I4 (by first | exact hlM.symm | omega)) ?_
 refine sD (nS (tT (rB (rS (U2 (rB (rS ?_)))))))
 refine E5 (outs := [rd br pb nb cb pM]) (rC rfl (A9 rfl rfl (C7 (by repeat first | exact mH | apply mT)) hlM)) (by repeat (first | exact A0.nil | refine A0.cons Pk.here ?_ | refine A0.cons (Pk.there Pk.here) ?_ | refine A0.cons (Pk.there (Pk.there Pk.here)) ?_ | apply A0.drop)) ?_
 (exact ⟨pM, by omega, by omega, rfl, eM, _, rfl, hrM, (A9Z (hmv rfl)).le (by omega)⟩)
 refine sD (nS (cF rfl (M7 (M8 (N3 (M9 (nS (tS (tR (sQ (qM rfl) rfl ?_))))))))))
 (have hcall := A8L br pb nb cb bs hnb p1 _ hb (by omega); refine D2 rfl hcall (Pk.perm (by repeat (first | exact Pk.here | apply Pk.there))) rfl rfl (fun v Gn outs hleC hh => ?_); obtain ⟨pC, hpC1, hpC2, rfl, eC, cC, rfl, hrC, hcC⟩ := hh; have hlC := hrC.len; have hoC := hrC.one; have hcnt := A3E eC)
 refine A0h rfl rfl rfl hlC hoC rfl (by repeat first | exact Sw.here | apply Sw.there) (by exact I4 (by first | exact hlC.symm | omega)) ?_
 refine sD (nS (tT ?_))
 refine E5 (outs := [rd br pb nb cb pC]) (rC rfl (A9 rfl rfl (C7 (by repeat first | exact mH | apply mT)) hlC)) (by repeat (first | exact A0.nil | refine A0.cons Pk.here ?_ | refine A0.cons (Pk.there Pk.here) ?_ | refine A0.cons (Pk.there (Pk.there Pk.here)) ?_ | apply A0.drop)) ?_
 (exact ⟨pC, by omega, by omega, rfl, eC, _, rfl, hrC, A5I _ (by omega), by omega⟩)
def PLe (l l' : List Ty) : Prop := ∀ i, A6x (l.getD i B8) (l'.getD i B8) = true
section masks
variable {P : Program} {Γ : J1} {env : J5} {hp : List A4} {G : IM} {ty : TypeId}
end masks
def mLb (t : Tm) : List Int := (A2C t).map Tm.lb
def B7v (ts : List Tm) : List Int := (A6M ts).map Tm.lb
structure Lbs (ls : List Int) (l l' : Int) : Prop where
 le : l ≤ l'
 nd : ls.Nodup
 len : (ls.length : Int) = l' - l
 mem : ∀ m ∈ ls, l < m ∧ m ≤ l'
mutual
theorem A6R : ∀ (t : Tm) (d d' : Int), d' ≤ d → M1 12 14 t d = true → M1 12 14 (D3 t) d' = true
 | .mk k nm num ty fr lb ks, d, d', hd, h => by
  obtain ⟨h1, h2, h3, h4⟩ := V7 h
  obtain ⟨n1, n2, n3, n4, n5, n6, n7, n8, n9⟩ := U9.1 h3
  rw [D3]
  by_cases hk : k = 13 ∨ k = 14
  ·rw [if_pos hk]
   have hk13 : k = 13 := by omega
   subst hk13
   have hl : ks.length = 1 := by rw [show E7 13 = 1 from rfl] at n1; omega
   match ks, hl, h4 with
   | [x], _, h4 =>
    rw [N6, Bool.and_eq_true] at h4
    rw [I3]
    exact A6R x (d + 1) d' (by omega) h4.1
  ·rw [if_neg hk, A3I (by omega) h2]
   ·exact A90 ks (d + 1) (d' + 1) (by omega) h4
   ·have hlen : (I3 ks).length = ks.length := by rw [A1R, List.length_map]
    rw [hlen]
    obtain ⟨hf, hl⟩ := n9 h2
    refine U9.2 ⟨n1, n2, n3, n4, n5, fun h5 => ?_, fun h5 => ?_, fun h14 => absurd h14 h2, fun _ => ⟨by decide, rfl⟩⟩
    ·rw [if_pos (by omega)]; decide
    ·rw [if_neg (by omega)]; decide
theorem A90 : ∀ (ts : List Tm) (d d' : Int), d' ≤ d → N6 12 14 ts d = true → N6 12 14 (I3 ts) d' = true
 | [], _, _, _, _ => by rw [I3]; rfl
 | t :: ts, d, d', hd, h => by
  rw [N6, Bool.and_eq_true] at h
  rw [I3, N6, A6R t d d' hd h.1, A90 ts d d' hd h.2]; rfl
end
theorem A91 {e : Tm} (h : M5 e = true) : N0 (D3 e) = true := by
 obtain ⟨h1, h2⟩ := (A0E e).1 h
 refine B21 ((A0E _).2 ⟨A6R e 1 1 (Int.le_refl _) h1, ?_⟩)
 have := (A3O e (A9Z h).1).2
 omega
def GE.lt : GE → Prop
 | .var _ => True
 | .num _ => True
 | .tru _ => True
 | .lam _ A e => M0 A.ty = true ∧ e.lt
 | .app f a => f.lt ∧ a.lt
 | .ar _ a b => a.lt ∧ b.lt
 | .ite c a b => c.lt ∧ a.lt ∧ b.lt
 | .pair a b => a.lt ∧ b.lt
 | .part _ e => e.lt
 | .cast _ _ _ _ => False
end Gw
end Go.Proofs.YtgodjiieijekiaaGreatDoor
