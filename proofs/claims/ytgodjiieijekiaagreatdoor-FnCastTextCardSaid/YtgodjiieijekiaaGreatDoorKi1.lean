/-
  What the functions of the program compute, in plain words over trees.
-/
import Derived.Test.YtgodjiieijekiaaGreatDoorKi0
import Derived.Laws.BytesArg
import Derived.WalkKit
import Derived.ProofKit
import Derived.OpenShut
import Derived.Carry
import Derived.Test.YtgodjiieijekiaaGreatDoorShelf
import Derived.Lib.ItoaNum
import Derived.Lib.LaidTab
import Derived.Test.YtgodjiieijekiaaGreatDoorRows
import Derived.Deep.DeepHandedRow
import Derived.Stop.LaidErr
set_option linter.unusedVariables false
set_option linter.unusedSimpArgs false
set_option maxHeartbeats 0
set_option maxRecDepth 100000
set_option synthInstance.maxSize 4000
set_option synthInstance.maxHeartbeats 0
namespace Go.Proofs.YtgodjiieijekiaaGreatDoor
open Go Go.RowKit
namespace Gw

def X0 (n lo hi : Int) : Bool := decide (lo ≤ n ∧ n ≤ hi)
theorem A1k {n lo hi : Int} (h : X0 n lo hi = true) : lo ≤ n ∧ n ≤ hi := by simpa [X0] using h
theorem A7x {n lo hi : Int} (h : X0 n lo hi = false) : ¬(lo ≤ n ∧ n ≤ hi) := by simpa [X0] using h
def Q5 (k : Int) : Int := if k = 1 ∨ k = 2 ∨ k = 3 then 0 else if k = 4 ∨ k = 5 then 2 else -1
theorem N5 (k : Int) : (k = 1 ∨ k = 2 ∨ k = 3 → Q5 k = 0) ∧ (k = 4 ∨ k = 5 → Q5 k = 2) ∧ (k ≠ 1 → k ≠ 2 → k ≠ 3 → k ≠ 4 → k ≠ 5 → Q5 k = -1) := by
 unfold Q5; split <;> try split
 all_goals omega
def H6 (k : Int) : Int := if k = 1 ∨ k = 2 ∨ k = 3 ∨ k = 4 then 0 else if k = 5 ∨ k = 11 ∨ k = 12 ∨ k = 13 ∨ k = 14 then 1 else if k = 6 ∨ k = 7 ∨ k = 8 ∨ k = 10 then 2 else if k = 9 then 3 else -1

mutual
def H8 : Ty → Int → Bool
 | .mk k ks, d => decide (d ≤ 4) && decide (Q5 k = ks.length) && T1 ks (d + 1)
def T1 : List Ty → Int → Bool
 | [], _ => true
 | t :: ts, d => H8 t d && T1 ts d
end
theorem A3w : ∀ (ts : List Ty) (d : Int), T1 ts d = true ↔ ∀ i, (h : i < ts.length) → H8 ts[i] d = true
 | [], d => by simp [T1]
 | t :: ts, d => by
  simp only [T1, Bool.and_eq_true, A3w ts d]
  constructor
  ·rintro ⟨h1, h2⟩ i hi
   cases i with
   | zero => exact h1
   | succ i => exact h2 i (by simpa using hi)
  ·intro h
   exact ⟨h 0 (by simp), fun i hi => h (i + 1) (by simpa using hi)⟩
def H3 (t : Ty) : Bool := H8 t 1
def X1 (t : Ty) : Bool := decide (t.k = 0 ∧ t.ks.length = 0)

mutual
def K2 : Ty → Ty → Bool
 | .mk k ks, t => decide (k = 1) || decide (t.k = 1) || (decide (k = t.k) && R1 ks t.ks)
def R1 : List Ty → List Ty → Bool
 | [], [] => true
 | a :: xs, b :: ys => K2 a b && R1 xs ys
 | _, _ => false
end
theorem Y9 (k k' : Int) (ks ks' : List Ty) : K2 (.mk k ks) (.mk k' ks') = (decide (k = 1) || decide (k' = 1) || (decide (k = k') && R1 ks ks')) := by rw [K2]; rfl
theorem A1U : ∀ (xs ys : List Ty), R1 xs ys = true ↔ xs.length = ys.length ∧ ∀ i, (h : i < xs.length) → (h' : i < ys.length) → K2 xs[i] ys[i] = true
 | [], [] => by simp [R1]
 | [], b :: ys => by simp [R1]
 | a :: xs, [] => by simp [R1]
 | a :: xs, b :: ys => by
  simp only [R1, Bool.and_eq_true, A1U xs ys, List.length_cons]
  constructor
  ·rintro ⟨h1, h2, h3⟩
   refine ⟨by omega, fun i hi hi' => ?_⟩
   cases i with
   | zero => exact h1
   | succ i => exact h3 i (by simpa using hi) (by simpa using hi')
  ·rintro ⟨h1, h2⟩
   exact ⟨h2 0 (by simp) (by simp), by omega, fun i hi hi' => h2 (i + 1) (by simpa using hi) (by simpa using hi')⟩
def A0C (a b : Ty) : Bool := H3 a && H3 b && K2 a b
def V5 (s : ByteArray) : Bool := decide (s.size = 1 ∧ 97 ≤ (s.data.getD 0 0).toNat ∧ (s.data.getD 0 0).toNat ≤ 122)
def Z0 (n : Int) : Bool := X0 n 1 99 || X0 n (-99) (-1)

theorem A4k {s : ByteArray} {j : Int} (h : j.toNat < s.size) : s[j.toNat]? = some (s.data.getD j.toNat 0) := by
 rw [getElem?_pos s j.toNat h]
 show some (s.data[j.toNat]'h) = _
 rw [Array.getD_eq_getD_getElem?, getElem?_pos s.data j.toNat h]
 rfl
theorem B1L {q : Nat → Bool} {n : Nat} : A06 q n < 0 ↔ ∀ j, j < n → q j = false := by
 constructor
 ·intro h j hj
  unfold A06 at h
  split at h
  ·omega
  ·rename_i hf
   have := List.find?_eq_none.1 hf j (List.mem_range.2 hj)
   simpa using this
 ·intro h; rw [A7w h]; omega
theorem A7y {q : Nat → Bool} {n : Nat} : 0 ≤ A06 q n ↔ ∃ j, j < n ∧ q j = true := by
 have h := @B1L q n
 constructor
 ·intro h0
  apply Classical.byContradiction
  intro hn
  have : A06 q n < 0 := h.2 fun j hj => by cases hq : q j with | false => rfl | true => exact absurd ⟨j, hj, hq⟩ hn
  omega
 ·rintro ⟨j, hj, hq⟩
  apply Classical.byContradiction
  intro hn
  rw [h.1 (by omega) j hj] at hq
  exact absurd hq (by simp)
theorem B1M {α : Type} (f : α → Bool) (ks : List α) (a : α) : decide (0 ≤ A06 (fun i => !f (ks.getD i a)) ks.length) = !ks.all f := by
 cases h : ks.all f with
 | true =>
  rw [List.all_eq_true] at h
  apply decide_eq_false
  rw [A7y]
  rintro ⟨j, hj, hq⟩
  rw [List.getD_eq_getElem?_getD, List.getElem?_eq_getElem hj, Option.getD_some, h _ (List.getElem_mem hj)] at hq
  exact absurd hq (by simp)
 | false =>
  apply decide_eq_true
  rw [A7y]
  apply Classical.byContradiction
  intro hn
  have : ks.all f = true := by
   rw [List.all_eq_true]
   intro x hx
   obtain ⟨j, hj, rfl⟩ := List.getElem_of_mem hx
   cases hf : f ks[j] with
   | true => rfl
   | false => exact absurd ⟨j, hj, by rw [List.getD_eq_getElem?_getD, List.getElem?_eq_getElem hj, Option.getD_some, hf]; rfl⟩ hn
  rw [h] at this
  exact absurd this (by simp)
theorem U7 : ∀ (ks : List Ty) (d : Int), T1 ks d = ks.all (H8 · d)
 | [], d => rfl
 | t :: ts, d => by simp [T1, U7 ts d]
theorem E1.inv {G : IM} : ∀ {ts : List Ty} {es : List (List Value)}, E1 G ts es → ∀ {i : Nat} {e : List Value}, es[i]? = some e → ∀ a, ts.getD i a ∈ ts ∧ B3 G (ts.getD i a) e
 | [], es, h, i, e, he, a => by
  have := h.len
  simp only [List.length_nil, List.length_eq_zero_iff] at this
  subst this; simp at he
 | t :: ts, es, h, i, e, he, a => by
  have hi : i < es.length := by
   apply Classical.byContradiction; intro hn; rw [List.getElem?_eq_none (by omega)] at he; simp at he
  have hl := h.len
  obtain ⟨e', he', hr⟩ := h.get (i := i) (t := (t :: ts)[i]'(by omega)) (by rw [List.getElem?_eq_getElem])
  rw [he] at he'
  obtain rfl := Option.some.inj he'
  rw [List.getD_eq_getElem?_getD, List.getElem?_eq_getElem (by omega), Option.getD_some]
  exact ⟨List.getElem_mem _, hr⟩
theorem E5.inv {G : IM} : ∀ {ts : List Tm} {es : List (List Value)}, E5 G ts es → ∀ {i : Nat} {e : List Value}, es[i]? = some e → ∀ a, ts.getD i a ∈ ts ∧ B5 G (ts.getD i a) e
 | [], es, h, i, e, he, a => by
  have := h.len
  simp only [List.length_nil, List.length_eq_zero_iff] at this
  subst this; simp at he
 | t :: ts, es, h, i, e, he, a => by
  have hi : i < es.length := by
   apply Classical.byContradiction; intro hn; rw [List.getElem?_eq_none (by omega)] at he; simp at he
  have hl := h.len
  obtain ⟨e', he', hr⟩ := h.get (i := i) (t := (t :: ts)[i]'(by omega)) (by rw [List.getElem?_eq_getElem])
  rw [he] at he'
  obtain rfl := Option.some.inj he'
  rw [List.getD_eq_getElem?_getD, List.getElem?_eq_getElem (by omega), Option.getD_some]
  exact ⟨List.getElem_mem _, hr⟩
def A7 : Ty := .mk 0 []
theorem B1N {p : Prop} [Decidable p] {x y : Bool} : ((if p then x else y) = true) ↔ ((p → x = true) ∧ (¬p → y = true)) := by by_cases h : p <;> simp [h]
theorem B1O {k : Int} (h : 1 ≤ k ∧ k ≤ 14) : ([Value.int .i64 0, .int .i64 0, .int .i64 0, .int .i64 0, .int .i64 1, .int .i64 2, .int .i64 2, .int .i64 2, .int .i64 3, .int .i64 2, .int .i64 1, .int .i64 1, .int .i64 1, .int .i64 1])[(k - 1).toNat]? = some (.int .i64 (H6 k)) := by
 have : k = 1 ∨ k = 2 ∨ k = 3 ∨ k = 4 ∨ k = 5 ∨ k = 6 ∨ k = 7 ∨ k = 8 ∨ k = 9 ∨ k = 10 ∨ k = 11 ∨ k = 12 ∨ k = 13 ∨ k = 14 := by omega
 rcases this with rfl | rfl | rfl | rfl | rfl | rfl | rfl | rfl | rfl | rfl | rfl | rfl | rfl | rfl <;> rfl
theorem A7z {k : Int} (h : ¬(1 ≤ k ∧ k ≤ 14)) : H6 k = -1 := by
 unfold H6; repeat (split; omega)
 rfl
theorem A2u {cs : List Value} {o : Nat} {v : Value} (h : cs[o]? = some v) : ∀ j u, [v][j]? = some u → cs[o + j]? = some u := by
 intro j u hj
 cases j with
 | zero => simpa using hj ▸ h
 | succ j => simp at hj
def U3 (k : Int) (nm : ByteArray) (num : Int) (ty fr : Ty) (lb : Int) (n : Nat) : Bool :=
 decide (H6 k = n) && (if k = 1 ∨ k = 5 then V5 nm else decide (nm = ⟨#[]⟩)) && (if k = 2 then X0 num 0 999 else X0 num 0 0) &&
 (if k = 5 ∨ k = 13 ∨ k = 14 then H3 ty else X1 ty) && (if k = 14 then A0C fr ty && Z0 lb else X1 fr && decide (lb = 0))
theorem U8 {k : Int} {nm : ByteArray} {num : Int} {ty fr : Ty} {lb : Int} {n : Nat} : U3 k nm num ty fr lb n = true ↔
  H6 k = n ∧ (k = 1 ∨ k = 5 → V5 nm = true) ∧ (¬(k = 1 ∨ k = 5) → nm = ⟨#[]⟩) ∧ (k = 2 → X0 num 0 999 = true) ∧ (k ≠ 2 → X0 num 0 0 = true) ∧
  (k = 5 ∨ k = 13 ∨ k = 14 → H3 ty = true) ∧ (¬(k = 5 ∨ k = 13 ∨ k = 14) → X1 ty = true) ∧ (k = 14 → A0C fr ty = true ∧ Z0 lb = true) ∧ (k ≠ 14 → X1 fr = true ∧ lb = 0) := by
 simp only [U3, Bool.and_eq_true, B1N, decide_eq_true_eq, and_assoc, ne_eq]
mutual
def S7 (M D N : Int) : Tm → Int → Int → Bool × Int
 | .mk k nm num ty fr lb ks, deep, c => if c + 1 > M ∨ deep > D ∨ k = N ∨ U3 k nm num ty fr lb ks.length = false then (false, c + 1) else T6 M D N ks (deep + 1) (c + 1)
def T6 (M D N : Int) : List Tm → Int → Int → Bool × Int
 | [], _, c => (true, c)
 | t :: ts, deep, c => if (S7 M D N t deep c).1 = true then T6 M D N ts deep (S7 M D N t deep c).2 else (false, (S7 M D N t deep c).2)
end
mutual
theorem A7A (M D N : Int) : ∀ (t : Tm) (deep c : Int), 0 ≤ c → c ≤ M → c < (S7 M D N t deep c).2 ∧ (S7 M D N t deep c).2 ≤ M + 1 ∧ ((S7 M D N t deep c).1 = true → (S7 M D N t deep c).2 ≤ M)
 | .mk k nm num ty fr lb ks, deep, c, h0, h1 => by
  rw [S7]
  split
  ·simp; omega
  ·rename_i h
   have := A7B M D N ks (deep + 1) (c + 1) (by omega) (by omega)
   exact ⟨by omega, this.2⟩
theorem A7B (M D N : Int) : ∀ (ts : List Tm) (deep c : Int), 0 ≤ c → c ≤ M → c ≤ (T6 M D N ts deep c).2 ∧ (T6 M D N ts deep c).2 ≤ M + 1 ∧ ((T6 M D N ts deep c).1 = true → (T6 M D N ts deep c).2 ≤ M)
 | [], deep, c, h0, h1 => by rw [T6]; simp; omega
 | t :: ts, deep, c, h0, h1 => by
  have := A7A M D N t deep c h0 h1
  rw [T6]
  split
  ·rename_i h
   have h2 := A7B M D N ts deep (S7 M D N t deep c).2 (by omega) (this.2.2 h)
   exact ⟨by omega, h2.2⟩
  ·simp; omega
end
def R2 (t : Tm) : Bool := (S7 200 40 13 t 1 0).1
def T7 (t : Tm) : Bool := (S7 30 12 14 t 1 0).1
theorem D5.kidTm {G : IM} {p : Option Addr} {n c : Nat} {es : List (List Value)} {ks : List Tm} (h : D5 G p n c 9 es) (hk : E5 G ks es) {i : Nat} (hi : i < n) (hn : i < ks.length) :
  ∃ b o e, p = some ⟨b, o, none⟩ ∧ e.length = 9 ∧ (∀ hp, At hp G b (o + i * 9) e) ∧ B5 G ks[i] e ∧ G b ≠ none := by
 obtain ⟨e, b, o, he, hp, hl, _, hat, hg⟩ := h.get hi
 have := (hk.inv he (ks[i])).2
 rw [List.getD_eq_getElem?_getD, List.getElem?_eq_getElem hn, Option.getD_some] at this
 exact ⟨b, o, e, hp, hl, hat, this, hg⟩
theorem A4l {M D N : Int} {k : Int} {nm : ByteArray} {num : Int} {ty fr : Ty} {lb : Int} {ks : List Tm} {deep c : Int} (h : c + 1 > M ∨ deep > D ∨ k = N ∨ U3 k nm num ty fr lb ks.length = false) :
  S7 M D N (.mk k nm num ty fr lb ks) deep c = (false, c + 1) := by rw [S7, if_pos h]
theorem B1P {M D N : Int} {k : Int} {nm : ByteArray} {num : Int} {ty fr : Ty} {lb : Int} {ks : List Tm} {deep c : Int} (h1 : ¬(c + 1 > M ∨ deep > D ∨ k = N)) (h2 : U3 k nm num ty fr lb ks.length = true) :
  S7 M D N (.mk k nm num ty fr lb ks) deep c = T6 M D N ks (deep + 1) (c + 1) := by
 rw [S7, if_neg]
 rw [h2]
 intro h
 apply h1
 rcases h with h | h | h | h
 ·exact .inl h
 ·exact .inr (.inl h)
 ·exact .inr (.inr h)
 ·cases h
theorem B1Q {M D N : Int} {ks : List Tm} {i : Nat} {deep c : Int} (hi : i < ks.length) (h : (S7 M D N ks[i] deep c).1 = true) : T6 M D N (ks.drop i) deep c = T6 M D N (ks.drop (i + 1)) deep (S7 M D N ks[i] deep c).2 := by
 rw [List.drop_eq_getElem_cons hi, T6, if_pos h]
theorem B1R {M D N : Int} {ks : List Tm} {i : Nat} {deep c : Int} (hi : i < ks.length) (h : (S7 M D N ks[i] deep c).1 = false) : T6 M D N (ks.drop i) deep c = (false, (S7 M D N ks[i] deep c).2) := by
 rw [List.drop_eq_getElem_cons hi, T6, if_neg (by rw [h]; simp)]
theorem B1S {M D N : Int} {ks : List Tm} {i : Nat} {deep c : Int} (hi : i = ks.length) : T6 M D N (ks.drop i) deep c = (true, c) := by
 rw [hi, List.drop_length, T6]
section blk
variable {P : Program} {Γ : K0} {env : K3} {hp : List A4} {G : IM} {K : Po} {ops : Array Oper} {rest : List Oper}
end blk

theorem A7C : ∀ {A B C V : List Value} {o : Nat}, A.length = o → B.length = V.length → U2 (A ++ (B ++ C)) o V = some (A ++ (V ++ C))
 | [], B, C, V, o, h, hv => by
  simp at h; subst h
  simp only [List.nil_append]
  induction B generalizing V with
  | nil => cases V with
   | nil => cases C <;> rfl
   | cons v V => simp at hv
  | cons b B ih => cases V with
   | nil => simp at hv
   | cons v V =>
    simp only [List.cons_append, U2, ih (V := V) (by simpa using hv)]
 | a :: A, B, C, V, o, h, hv => by
  simp at h; subst h
  simp only [List.cons_append, U2, A7C (A := A) (B := B) (C := C) rfl hv]
theorem A2v {sz : Nat} : ∀ {es : List (List Value)}, (∀ e ∈ es, e.length = sz) → es.flatten.length = es.length * sz
 | [], _ => by simp
 | e :: es, h => by
  rw [List.flatten_cons, List.length_append, h e List.mem_cons_self, A2v (es := es) fun x hx => h x (List.mem_cons_of_mem _ hx), List.length_cons, Nat.succ_mul]; omega
def A7D (G : IM) (ks : List Ty) (p : Option Addr) (c : Nat) (F : List Nat) : Prop := ∃ es Fs, D5 G p ks.length c 2 es ∧ N8 G ks es Fs ∧ F = I8 p ++ Fs ∧ (∀ b ∈ I8 p, G b ≠ none)
theorem O4.open {G : IM} {t : Ty} {cells : List Value} {F : List Nat} (h : O4 G t cells F) : ∃ p c, cells = [.int .i64 t.k, .slice p t.ks.length c] ∧ H4 t.k ∧ A7D G t.ks p c F := by
 cases t
 simp only [O4] at h
 obtain ⟨p, c, es, Fs, h0, hk, h1, h2, h3, h4⟩ := h
 exact ⟨p, c, h0, hk, es, Fs, h1, h2, h3, h4⟩
mutual
def P0 (G : IM) : Tm → List Value → List Nat → Prop
 | .mk k nm num ty fr lb ks, cells, F => ∃ tc fc p c es Ft Ff Fs, cells = [.int .i64 k, .string nm, .int .i64 num] ++ tc ++ fc ++ [.int .i64 lb, .slice p ks.length c] ∧ H4 k ∧ H4 num ∧ H4 lb ∧ O4 G ty tc Ft ∧ O4 G fr fc Ff ∧
   D5 G p ks.length c 9 es ∧ N9 G ks es Fs ∧ F = Ft ++ (Ff ++ (I8 p ++ Fs)) ∧ (∀ b ∈ I8 p, G b ≠ none)
def N9 (G : IM) : List Tm → List (List Value) → List Nat → Prop
 | [], es, F => es = [] ∧ F = []
 | t :: ts, es, F => ∃ a r Fa Fr, es = a :: r ∧ P0 G t a Fa ∧ N9 G ts r Fr ∧ F = Fa ++ Fr
end
def A3x (G : IM) (ks : List Tm) (p : Option Addr) (c : Nat) (F : List Nat) : Prop := ∃ es Fs, D5 G p ks.length c 9 es ∧ N9 G ks es Fs ∧ F = I8 p ++ Fs ∧ (∀ b ∈ I8 p, G b ≠ none)
mutual
theorem P0.R {G : IM} : ∀ {t : Tm} {cells : List Value} {F : List Nat}, P0 G t cells F → B5 G t cells
 | .mk k nm num ty fr lb ks, cells, F, h => by
  simp only [P0] at h
  obtain ⟨tc, fc, p, c, es, Ft, Ff, Fs, h1, h2, h3, h4, h5, h6, h7, h8, _⟩ := h
  simp only [B5]
  exact ⟨tc, fc, p, c, es, h1, h2, h3, h4, h5.R, h6.R, h7, N9.R h8⟩
theorem N9.R {G : IM} : ∀ {ts : List Tm} {es : List (List Value)} {F : List Nat}, N9 G ts es F → E5 G ts es
 | [], es, F, h => by simp only [N9] at h; simp only [E5]; exact h.1
 | t :: ts, es, F, h => by
  simp only [N9] at h
  obtain ⟨a, r, Fa, Fr, h1, h2, h3, _⟩ := h
  simp only [E5]
  exact ⟨a, r, h1, P0.R h2, N9.R h3⟩
end
theorem A4m {G G' : IM} (hg : B2 G G') {F : List Nat} (h : ∀ b ∈ F, G b ≠ none) : ∀ b ∈ F, G' b ≠ none := fun b hb => by
 cases hgb : G b with
 | none => exact absurd hgb (h b hb)
 | some l => rw [hg b l hgb]; simp
mutual
theorem P0.mono {G G' : IM} (hg : B2 G G') : ∀ {t : Tm} {cells : List Value} {F : List Nat}, P0 G t cells F → P0 G' t cells F
 | .mk k nm num ty fr lb ks, cells, F, h => by
  simp only [P0] at h ⊢
  obtain ⟨tc, fc, p, c, es, Ft, Ff, Fs, h1, h2, h3, h4, h5, h6, h7, h8, h9, h10⟩ := h
  exact ⟨tc, fc, p, c, es, Ft, Ff, Fs, h1, h2, h3, h4, h5.mono hg, h6.mono hg, h7.mono hg, N9.mono hg h8, h9, A4m hg h10⟩
theorem N9.mono {G G' : IM} (hg : B2 G G') : ∀ {ts : List Tm} {es : List (List Value)} {F : List Nat}, N9 G ts es F → N9 G' ts es F
 | [], es, F, h => by simpa only [N9] using h
 | t :: ts, es, F, h => by
  simp only [N9] at h ⊢
  obtain ⟨a, r, Fa, Fr, h1, h2, h3, h4⟩ := h
  exact ⟨a, r, Fa, Fr, h1, P0.mono hg h2, N9.mono hg h3, h4⟩
end
mutual
theorem P0.inG {G : IM} : ∀ {t : Tm} {cells : List Value} {F : List Nat}, P0 G t cells F → ∀ b ∈ F, G b ≠ none
 | .mk k nm num ty fr lb ks, cells, F, h => by
  simp only [P0] at h
  obtain ⟨tc, fc, p, c, es, Ft, Ff, Fs, h1, h2, h3, h4, h5, h6, h7, h8, rfl, h10⟩ := h
  intro b hb
  simp only [List.mem_append] at hb
  rcases hb with hb | hb | hb | hb
  ·exact h5.inG b hb
  ·exact h6.inG b hb
  ·exact h10 b hb
  ·exact N9.inG h8 b hb
theorem N9.inG {G : IM} : ∀ {ts : List Tm} {es : List (List Value)} {F : List Nat}, N9 G ts es F → ∀ b ∈ F, G b ≠ none
 | [], es, F, h => by simp only [N9] at h; rw [h.2]; simp
 | t :: ts, es, F, h => by
  simp only [N9] at h
  obtain ⟨a, r, Fa, Fr, h1, h2, h3, rfl⟩ := h
  intro b hb
  rcases List.mem_append.1 hb with hb | hb
  ·exact P0.inG h2 b hb
  ·exact N9.inG h3 b hb
end
theorem N9.snoc {G : IM} : ∀ {ts : List Tm} {es : List (List Value)} {F : List Nat} {t : Tm} {a : List Value} {Fa : List Nat}, N9 G ts es F → P0 G t a Fa → N9 G (ts ++ [t]) (es ++ [a]) (F ++ Fa)
 | [], es, F, t, a, Fa, h, h2 => by
  simp only [N9] at h
  obtain ⟨rfl, rfl⟩ := h
  simp only [List.nil_append, N9]
  exact ⟨a, [], Fa, [], rfl, h2, ⟨rfl, rfl⟩, by simp⟩
 | t' :: ts, es, F, t, a, Fa, h, h2 => by
  simp only [N9] at h
  obtain ⟨a', r, Fa', Fr, rfl, h3, h4, rfl⟩ := h
  simp only [List.cons_append, N9]
  exact ⟨a', r ++ [a], Fa', Fr ++ Fa, rfl, h3, N9.snoc h4 h2, by simp⟩
theorem A1l {G Gi : IM} {F F' : List Nat} {G1 : IM} (h : ∀ b ∈ F, B6 Gi G b ≠ none) (h' : ∀ b ∈ F', B6 G1 Gi b ≠ none) : ∀ x ∈ F, ∀ y ∈ F', x ≠ y := by
 rintro x hx y hy rfl
 have h1 := h x hx
 have h2 := B6.out (h' x hy)
 apply h1
 cases hd : B6 Gi G x with
 | none => rfl
 | some l => rw [B6.le _ _ x l hd] at h2; cases h2
theorem N9.step {G Gi G1 : IM} {ks : List Tm} {i : Nat} {es : List (List Value)} {F F' : List Nat} {a : List Value} (h : N9 (B6 Gi G) (ks.take i) es F) (hn : F.Nodup) (hle : B2 G Gi) (hle1 : B2 Gi G1) (hi : i < ks.length)
  (ha : P0 (B6 G1 Gi) ks[i] a F') (hn' : F'.Nodup) : N9 (B6 G1 G) (ks.take (i + 1)) (es ++ [a]) (F ++ F') ∧ (F ++ F').Nodup := by
 constructor
 ·rw [List.take_succ_eq_append_getElem hi]
  exact N9.snoc (h.mono (B6.mono hle1)) (ha.mono (B6.anti hle))
 ·rw [List.nodup_append]
  exact ⟨hn, hn', A1l h.inG ha.inG⟩
theorem A7E (p : Option Addr) : (I8 p).Nodup := by cases p <;> simp [I8]
theorem A3x.fin {G Gi G2 : IM} {ks : List Tm} {es : List (List Value)} {F : List Nat} {p : Option Addr} {c : Nat} (h : N9 (B6 Gi G) ks es F) (hn : F.Nodup) (hle : B2 G Gi) (hle2 : B2 Gi G2)
  (hsl : Sl G2 p ks.length c 9 es.flatten) (hnn : ∀ b ∈ I8 p, Gi b = none ∧ G2 b ≠ none) :
  ∃ F', A3x (B6 G2 G) ks p c F' ∧ F'.Nodup := by
 have hR := h.R
 have hin : ∀ b ∈ I8 p, B6 G2 G b ≠ none := by
  intro b hb
  have h0 := (hnn b hb).1
  cases hg : G b with
  | none => simpa [B6, hg] using (hnn b hb).2
  | some l => rw [hle b l hg] at h0; cases h0
 refine ⟨I8 p ++ F, ⟨es, F, D5.of (hsl.dif (fun b hb => (hnn b hb).1) hle) hR.len hR.all ?_, h.mono (B6.mono hle2), rfl, hin⟩, ?_⟩
 ·intro e he
  obtain ⟨i, hi⟩ := List.getElem?_of_mem he
  have hlt : i < ks.length := by have := (List.getElem?_eq_some_iff.1 hi).1; rw [hR.len] at this; exact this
  obtain ⟨e', he', hr⟩ := hR.get (i := i) (t := ks[i]) (by simp [hlt])
  rw [hi] at he'; cases he'; exact hr.one
 ·rw [List.nodup_append]
  refine ⟨A7E p, hn, ?_⟩
  rintro x hx y hy rfl
  have h1 := h.inG x hy
  have h2 := (hnn x hx).1
  apply h1
  cases hd : B6 Gi G x with
  | none => rfl
  | some l => rw [B6.le _ _ x l hd] at h2; cases h2
theorem P0.mk3 {G G1 G2 G3 : IM} {k : Int} {nm : ByteArray} {num : Int} {ty fr : Ty} {lb : Int} {ks : List Tm} {tc fc : List Value} {p : Option Addr} {c : Nat} {F1 F2 F3 : List Nat} (hk : H4 k) (hnum : H4 num) (hlb : H4 lb)
  (hl1 : B2 G G1) (hl2 : B2 G1 G2) (hl3 : B2 G2 G3) (h1 : O4 (B6 G1 G) ty tc F1) (n1 : F1.Nodup) (h2 : O4 (B6 G2 G1) fr fc F2) (n2 : F2.Nodup) (h3 : A3x (B6 G3 G2) ks p c F3) (n3 : F3.Nodup) :
  ∃ F, P0 (B6 G3 G) (.mk k nm num ty fr lb ks) ([.int .i64 k, .string nm, .int .i64 num] ++ tc ++ fc ++ [.int .i64 lb, .slice p ks.length c]) F ∧ F.Nodup := by
 obtain ⟨es, Fs, e1, e2, rfl, e4⟩ := h3
 have i3 : ∀ b ∈ I8 p ++ Fs, B6 G3 G2 b ≠ none := by
  intro b hb
  rcases List.mem_append.1 hb with hb | hb
  ·exact e4 b hb
  ·exact e2.inG b hb
 have a2 : B2 (B6 G2 G1) (B6 G3 G) := fun b l h => B6.mono hl3 b l (B6.anti hl1 b l h)
 have a3 : B2 (B6 G3 G2) (B6 G3 G) := B6.anti (hl1.trans hl2)
 refine ⟨F1 ++ (F2 ++ (I8 p ++ Fs)), ?_, ?_⟩
 ·simp only [P0]
  exact ⟨tc, fc, p, c, es, F1, F2, Fs, rfl, hk, hnum, hlb, h1.mono (B6.mono (hl2.trans hl3)), h2.mono a2, e1.mono a3, e2.mono a3, rfl, A4m a3 e4⟩
 ·rw [List.nodup_append, List.nodup_append]
  refine ⟨n1, ⟨n2, n3, A1l h2.inG i3⟩, ?_⟩
  rintro x hx y hy rfl
  rcases List.mem_append.1 hy with hy | hy
  ·exact A1l h1.inG h2.inG x hx x hy rfl
  ·have h1' : ∀ b ∈ F1, B6 G2 G b ≠ none := A4m (B6.mono hl2) h1.inG
   exact A1l h1' i3 x hx x hy rfl
section clawss
variable {P : Program} {Γ : K0} {env : K3} {hp : List A4} {G : IM} {ty : TypeId}
theorem A7F {s d : TypeId} {is id : M5} [hS : I0 P s is] [hD : I0 P d id] (hd : id.desc = .int .u8) {k : IntKind} (hs : is.desc = .int k) {x : Operand} {n : Int} (hx : evo env x = some (.int k n)) (h0 : 0 ≤ n) (h1 : n ≤ 255) :
  H5 P Γ ⟨env, hp, G⟩ (.convert s d x) ty (.int .u8 n) := by
 refine ⟨fun a _ hst _ _ _ _ w => ?_⟩
 have hu := hD.und
 rw [hd] at hu
 have hus := hS.und
 rw [hs] at hus
 have hw : IntKind.u8.wrap n = n := IntWalk.u8_in n ⟨h0, h1⟩
 simp [execOp, convert, run_underlying hus, run_underlying hu, (hst.evo hx : a.eval x = _), Conv.intToInt, hw]
theorem A4n {s d e : TypeId} {is id ie : M5} [hS : I0 P s is] [hD : I0 P d id] [hE : I0 P e ie] (hs : is.desc = .slice e) (he : ie.desc = .int .u8) (hd : id.desc = .string) {x : Operand} {b o n c : Nat} {xs : List Int}
  (hx : evo env x = some (.slice (some ⟨b, o, none⟩) n c)) (hl : xs.length = n) (hv : At hp G b o (xs.map (Value.int .u8))) : A1A P Γ ⟨env, hp, G⟩ (.convert s d x) ty b (.string (strOfNums xs)) := by
 refine ⟨fun a w hst => ?_⟩
 obtain ⟨full, e', f, hb, hf⟩ := hv.read hst
 refine ⟨A0z hb, fun w' hw' d' pos af gd => ?_⟩
 have hus := hS.und
 rw [hs] at hus
 have hue := hE.und
 rw [he] at hue
 have hud := hD.und
 rw [hd] at hud
 have hc := run_convert_bytes_arg (P := P) w' s e hus hue b o n c xs hl (fun i hi => by
  have := hf i (.int .u8 (xs.getD i 0)) (by simp [List.getD, List.getElem?_eq_getElem (show i < xs.length by omega)])
  simp [World.cell?, hw', hb, this]) d hud
 have hx' : a.eval x = _ := hst.evo hx
 simp only [execOp, hx', Sem.run_bind]
 rw [hc]
 rfl
theorem A5H {x y : Operand} {t t' : TypeId} {m n : Nat} (hx : evo env x = some (.int .i64 (m : Int))) (hy : evo env y = some (.int .i64 (n : Int))) (hn : 0 < n) :
  H5 P Γ ⟨env, hp, G⟩ (.binOp .rem t x y t') ty (.int .i64 ((m % n : Nat) : Int)) := by
 have h := A5q (P := P) (Γ := Γ) (hp := hp) (G := G) (ty := ty) (t := t) (t' := t') hx hy (by omega)
 rwa [show ((m : Int).tmod n) = ((m % n : Nat) : Int) from rfl] at h
theorem A5I {x y : Operand} {t t' : TypeId} {m n : Nat} (hx : evo env x = some (.int .i64 (m : Int))) (hy : evo env y = some (.int .i64 (n : Int))) (hn : 0 < n) (hm : m ≤ 9223372036854775807) :
  H5 P Γ ⟨env, hp, G⟩ (.binOp .quo t x y t') ty (.int .i64 ((m / n : Nat) : Int)) := by
 have hd : m / n ≤ m := Nat.div_le_self _ _
 have e : ((m : Int).tdiv n) = ((m / n : Nat) : Int) := rfl
 have h := B1c (P := P) (Γ := Γ) (hp := hp) (G := G) (ty := ty) (t := t) (t' := t') hx hy (by omega) (by rw [e]; generalize m / n = q at *; omega) (by rw [e]; generalize m / n = q at *; omega)
 rwa [e] at h
end clawss
def dgi (k : Nat) : Int := 48 + ((k % 10 : Nat) : Int)
def A7G : Nat → Nat → ByteArray → ByteArray
 | 0, _, out => out
 | f + 1, k, out => if 0 < k then A7G f (k / 10) (strOfNums [dgi k] ++ out) else out
def B1T (k : Nat) : ByteArray := ⟨#[109]⟩ ++ A7G 20 k ⟨⟨[]⟩⟩
def A3y (l : List Int) : List Value := l.map (Value.int .i64 ·)
mutual
def C3 : Tm → Nat
 | .mk _ _ _ _ _ _ ks => C9 ks + 1
def C9 : List Tm → Nat
 | [] => 0
 | t :: ts => C3 t + C9 ts
end
mutual
def A4o : Tm → List Int → List (List Int)
 | .mk _ _ _ _ _ _ ks, path => path :: A7H ks 0 path
def A7H : List Tm → Nat → List Int → List (List Int)
 | [], _, _ => []
 | t :: ts, i, path => A4o t (path ++ [(i : Int)]) ++ A7H ts (i + 1) path
end
theorem A7I : ∀ {ks : List Tm} {t : Tm}, t ∈ ks → C3 t ≤ C9 ks
 | [], t, h => by simp at h
 | t' :: ts, t, h => by
  rw [C9]
  rcases List.mem_cons.1 h with rfl | h
  ·omega
  ·have := A7I h; omega
theorem A4p : ∀ (a b : List Tm), C9 (a ++ b) = C9 a + C9 b
 | [], b => by simp [C9]
 | t :: a, b => by rw [List.cons_append, C9, C9, A4p a b]; omega
theorem A4q {ks : List Tm} {i : Nat} (hi : i < ks.length) : C9 (ks.take i) + C3 ks[i] ≤ C9 ks := by
 have h := A4p (ks.take (i + 1)) (ks.drop (i + 1))
 rw [List.take_append_drop, List.take_succ_eq_append_getElem hi, A4p] at h
 simp only [C9] at h
 omega
theorem A3z {ks : List Tm} {i : Nat} (hi : i < ks.length) : C9 (ks.take (i + 1)) = C9 (ks.take i) + C3 ks[i] := by
 rw [List.take_succ_eq_append_getElem hi, A4p]
 simp only [C9]; omega
theorem B1U (t : Tm) : 0 < C3 t := by cases t; rw [C3]; omega
def SPs (G : IM) : List (List Int) → List Value → List Nat → Prop
 | [], es, F => es = [] ∧ F = []
 | l :: ls, es, F => ∃ p c r Fr, es = .slice p l.length c :: r ∧ F = I8 p ++ Fr ∧ Sl G p l.length c 1 (A3y l) ∧ (∀ b ∈ I8 p, G b ≠ none) ∧ (p = none → l.length = 0) ∧ SPs G ls r Fr
def RPs (G : IM) (ls : List (List Int)) (p : Option Addr) (c : Nat) : Prop := ∃ es F, Sl G p ls.length c 1 es ∧ (∀ b ∈ I8 p, G b ≠ none) ∧ SPs G ls es F ∧ (I8 p ++ F).Nodup
mutual
theorem A7J (M D N : Int) : ∀ (t : Tm) (deep c : Int), (S7 M D N t deep c).1 = true → (S7 M D N t deep c).2 = c + C3 t
 | .mk k nm num ty fr lb ks, deep, c, h => by
  rw [S7] at h ⊢
  split at h
  ·cases h
  ·rename_i hc
   rw [if_neg hc, A7K M D N ks (deep + 1) (c + 1) h, C3]
   omega
theorem A7K (M D N : Int) : ∀ (ts : List Tm) (deep c : Int), (T6 M D N ts deep c).1 = true → (T6 M D N ts deep c).2 = c + C9 ts
 | [], deep, c, h => by rw [T6, C9]; simp
 | t :: ts, deep, c, h => by
  rw [T6] at h ⊢
  split at h
  ·rename_i h1
   rw [if_pos h1, A7K M D N ts deep _ h, A7J M D N t deep c h1, C9]
   omega
  ·cases h
end
def B1V (t : Tm) : List (List Int) := if R2 t = true then A4o t [] else []
section slaws
variable {P : Program} {Γ : K0} {env : K3} {hp : List A4} {G : IM} {ty : TypeId}
theorem A7L {x y : Operand} {t t' : TypeId} {r : ByteArray} (hx : evo env x = some (.string r)) (hy : evo env y = some (.string r)) :
  H5 P Γ ⟨env, hp, G⟩ (.binOp .neq t x y t') ty (.bool false) := by
 have h := A1i (P := P) (Γ := Γ) (hp := hp) (G := G) (t := t) (t' := t') (ty := ty) hx hy
 rwa [decide_eq_false (by simp)] at h
end slaws
theorem Sl.kid {G : IM} {p : Option Addr} {n c : Nat} {cs : List Value} (h : Sl G p n c 1 cs) {i : Nat} (hi : i < n) :
  ∃ b o v, p = some ⟨b, o, none⟩ ∧ cs[i]? = some v ∧ (∀ hp, At hp G b (o + i * 1) [v]) ∧ G b ≠ none := by
 obtain ⟨h1, h2, h3, h4⟩ := h
 obtain ⟨b, o, full, rfl, hg, hv⟩ := h4.resolve_left (by omega)
 have hlt : i < cs.length := by omega
 refine ⟨b, o, cs[i], rfl, List.getElem?_eq_getElem hlt, fun hp => Q3 hg ?_, by rw [hg]; simp⟩
 intro j v hj
 cases j with
 | zero => simp at hj; subst hj; simpa using hv i _ (List.getElem?_eq_getElem hlt)
 | succ j => simp at hj
theorem Sl.le {G : IM} {p : Option Addr} {n c sz : Nat} {cs : List Value} (h : Sl G p n c sz cs) : n ≤ 9223372036854775807 := by
 have h1 := h.2.1; have h2 := h.2.2.1; unfold maxLen at h2; omega


abbrev A07 := List (Nat × List Value)

mutual
def OTy : Ty → List Value → A07 → Prop
 | .mk k ks, cells, bs => ∃ p c, cells = [.int .i64 k, .slice p ks.length c] ∧ H4 k ∧ ks.length ≤ c ∧ c ≤ maxLen ∧ ((ks = [] ∧ bs = []) ∨ ∃ b A C es r, p = some ⟨b, A.length, none⟩ ∧ bs = (b, A ++ (es.flatten ++ C)) :: r ∧ A5J ks es r)
def A5J : List Ty → List (List Value) → A07 → Prop
 | [], es, bs => es = [] ∧ bs = []
 | t :: ts, es, bs => ∃ e e' r1 r2, es = e :: e' ∧ bs = r1 ++ r2 ∧ OTy t e r1 ∧ A5J ts e' r2
end
def A7M (ks : List Ty) (p : Option Addr) (c : Nat) (bs : A07) : Prop :=
 ks.length ≤ c ∧ c ≤ maxLen ∧ ((ks = [] ∧ bs = []) ∨ ∃ b A C es r, p = some ⟨b, A.length, none⟩ ∧ bs = (b, A ++ (es.flatten ++ C)) :: r ∧ A5J ks es r)
mutual
def OTm : Tm → List Value → A07 → Prop
 | .mk k nm num ty fr lb ks, cells, bs => ∃ tc fc p c bt bf bk, cells = [.int .i64 k, .string nm, .int .i64 num] ++ tc ++ fc ++ [.int .i64 lb, .slice p ks.length c] ∧ H4 k ∧ H4 num ∧ H4 lb ∧ OTy ty tc bt ∧ OTy fr fc bf ∧
   ks.length ≤ c ∧ c ≤ maxLen ∧ ((ks = [] ∧ bk = []) ∨ ∃ b A C es r, p = some ⟨b, A.length, none⟩ ∧ bk = (b, A ++ (es.flatten ++ C)) :: r ∧ A5K ks es r) ∧ bs = bt ++ (bf ++ bk)
def A5K : List Tm → List (List Value) → A07 → Prop
 | [], es, bs => es = [] ∧ bs = []
 | t :: ts, es, bs => ∃ e e' r1 r2, es = e :: e' ∧ bs = r1 ++ r2 ∧ OTm t e r1 ∧ A5K ts e' r2
end
def B1W (ks : List Tm) (p : Option Addr) (c : Nat) (bs : A07) : Prop :=
 ks.length ≤ c ∧ c ≤ maxLen ∧ ((ks = [] ∧ bs = []) ∨ ∃ b A C es r, p = some ⟨b, A.length, none⟩ ∧ bs = (b, A ++ (es.flatten ++ C)) :: r ∧ A5K ks es r)
mutual
def A7N : Ty → Int
 | .mk _ ks => 1 + A0l ks
def A0l : List Ty → Int
 | [] => 0
 | t :: ts => A7N t + A0l ts
end
mutual
def B1X : Ty → Int → Ty
 | .mk _ ks, k => .mk k (A1V ks (k + 1))
def A1V : List Ty → Int → List Ty
 | [], _ => []
 | t :: ts, k => B1X t k :: A1V ts (k + A7N t)
end
mutual
def A7O : Tm → Int
 | .mk _ _ _ ty fr _ ks => 6 + A0l ty.ks + A0l fr.ks + A7P ks
def A7P : List Tm → Int
 | [] => 0
 | t :: ts => A7O t + A7P ts
end
mutual
def B1Y : Tm → Int → Tm
 | .mk _ _ _ ty fr _ ks, k => .mk k (B1T (k + 1).toNat) (k + 1 + 1) (.mk (k + 1 + 1 + 1) (A1V ty.ks (k + 1 + 1 + 1 + 1))) (.mk (k + 1 + 1 + 1 + 1 + A0l ty.ks) (A1V fr.ks (k + 1 + 1 + 1 + 1 + A0l ty.ks + 1))) (k + 1 + 1 + 1 + 1 + A0l ty.ks + 1 + A0l fr.ks) (A4r ks (k + 1 + 1 + 1 + 1 + A0l ty.ks + 1 + A0l fr.ks + 1))
def A4r : List Tm → Int → List Tm
 | [], _ => []
 | t :: ts, k => B1Y t k :: A4r ts (k + A7O t)
end
section lend
variable {P : Program} {Γ : K0} {env : K3} {hp : List A4} {G : IM} {K : Po} {ops : Array Oper} {rest : List Oper} {ty : TypeId} {pos : String} {af : Array Edge} {gd : Option (Nat × Bool)}
def B6G (v0 : Value) (G : IM) (Φ : A07 → Prop) : IM → Value → List A4 → Prop := fun G' v outs => G' = G ∧ v = v0 ∧ ∃ bs', outs = A1F bs' ∧ Φ bs'
end lend
def MTm (t : Tm) (k : Int) (cells : List Value) (bs : A07) : Prop := ∃ pt ct pf cf p c bt bf bk,
 cells = [.int .i64 t.k, .string t.nm, .int .i64 t.num, .int .i64 t.ty.k, .slice pt t.ty.ks.length ct, .int .i64 t.fr.k, .slice pf t.fr.ks.length cf, .int .i64 t.lb, .slice p t.ks.length c] ∧
 A7M (A1V t.ty.ks k) pt ct bt ∧ A7M (A1V t.fr.ks (k + A0l t.ty.ks)) pf cf bf ∧ B1W (A4r t.ks (k + A0l t.ty.ks + A0l t.fr.ks)) p c bk ∧ bs = bt ++ (bf ++ bk)
def A7Q : Nat → Int → List Int
 | 0, _ => []
 | n + 1, k => k :: A7Q n (k + 1)
def OIs (l : List Int) (p : Option Addr) (c : Nat) (bs : A07) : Prop :=
 l.length ≤ c ∧ c ≤ maxLen ∧ ((l = [] ∧ bs = []) ∨ ∃ b A C, p = some ⟨b, A.length, none⟩ ∧ bs = [(b, A ++ (A3y l ++ C))])
def OPs : List (List Int) → List Value → A07 → Prop
 | [], es, bs => es = [] ∧ bs = []
 | l :: ls, es, bs => ∃ p c e' r1 r2, es = .slice p l.length c :: e' ∧ bs = r1 ++ r2 ∧ OIs l p c r1 ∧ OPs ls e' r2
def B1Z : List (List Int) → Int
 | [] => 0
 | l :: ls => l.length + B1Z ls
def B10 : List (List Int) → Int → List (List Int)
 | [], _ => []
 | l :: ls, k => A7Q l.length k :: B10 ls (k + l.length)
section lend0
variable {P : Program} {Γ : K0} {env : K3} {G : IM} {K : Po} {ops : Array Oper} {rest : List Oper} {ty : TypeId} {pos : String} {af : Array Edge} {gd : Option (Nat × Bool)}
end lend0
def QPs (G : IM) : List (List Int) → List Value → Prop
 | [], es => es = []
 | l :: ls, es => ∃ p c r, es = .slice p l.length c :: r ∧ Sl G p l.length c 1 (A3y l) ∧ QPs G ls r
mutual
def F4 : Ty → Int
 | .mk _ ks => ks.length + K1 ks
def K1 : List Ty → Int
 | [] => 0
 | t :: ts => F4 t + K1 ts
end
mutual
def A0r : Tm → Int
 | .mk _ nm _ ty fr _ ks => nm.size + F4 ty + F4 fr + (ks.length + Y3 ks)
def Y3 : List Tm → Int
 | [] => 0
 | t :: ts => A0r t + Y3 ts
end
mutual
theorem A0a : ∀ t : Ty, 0 ≤ F4 t
 | .mk _ ks => by have := A08 ks; rw [F4]; omega
theorem A08 : ∀ ts : List Ty, 0 ≤ K1 ts
 | [] => by rw [K1]; omega
 | t :: ts => by have := A0a t; have := A08 ts; rw [K1]; omega
end
mutual
theorem A7R : ∀ t : Tm, 0 ≤ A0r t
 | .mk _ _ _ ty fr _ ks => by have := A4s ks; have := A0a ty; have := A0a fr; rw [A0r]; omega
theorem A4s : ∀ ts : List Tm, 0 ≤ Y3 ts
 | [] => by rw [Y3]; omega
 | t :: ts => by have := A7R t; have := A4s ts; rw [Y3]; omega
end
theorem A5L : ∀ a b : List Ty, K1 (a ++ b) = K1 a + K1 b
 | [], b => by simp [K1]
 | t :: a, b => by rw [List.cons_append, K1, K1, A5L a b]; omega
theorem A2U {ks : List Ty} {i : Nat} (hi : i < ks.length) : K1 (ks.take (i + 1)) = K1 (ks.take i) + F4 ks[i] := by
 rw [List.take_succ_eq_append_getElem hi, A5L, K1, K1]; omega
theorem A2V (ks : List Ty) (i : Nat) : K1 (ks.take i) ≤ K1 ks := by
 have h := A5L (ks.take i) (ks.drop i)
 rw [List.take_append_drop] at h
 have := A08 (ks.drop i); omega
mutual
def Tm.nok : Tm → Prop
 | .mk _ nm _ _ _ _ ks => nm.size ≤ 9223372036854775807 ∧ Tm.nokL ks
def Tm.nokL : List Tm → Prop
 | [] => True
 | t :: ts => t.nok ∧ Tm.nokL ts
end
def B6H (left s : Int) : Int := if s ≤ left then left - s else -1
end Gw
end Go.Proofs.YtgodjiieijekiaaGreatDoor
namespace Go.Proofs.YtgodjiieijekiaaGreatDoor
open Go Go.RowKit Go.ChangeShapes Go.WideShapes Go.ChangeAt
namespace Gw
def GW (w : World) : IM := fun b => match w.heap[b]? with
 | some (.cells c _ _) => some c.toList
 | _ => none
theorem B11 (w : World) : T0 [] (GW w) w := by
 refine ⟨?_, by simp, by simp [Fp], by simp [Fp]⟩
 intro b l h
 unfold GW at h
 split at h
 ·rename_i c e f hb; cases h; exact ⟨e, f, by simpa using hb⟩
 ·cases h
theorem A7S {w : World} {b o : Nat} {v : Value} (h : w.cell? ⟨b, o, none⟩ = some v) : ∃ full, GW w b = some full ∧ full[o]? = some v := by
 unfold World.cell? at h
 simp only at h
 split at h
 ·rename_i c e f hb
  exact ⟨c.toList, by simp [GW, hb], by simpa using h⟩
 ·cases h
theorem A7T {sz : Nat} : ∀ {es : List (List Value)}, (∀ e ∈ es, e.length = sz) → ∀ {j : Nat} {v : Value}, es.flatten[j]? = some v → ∃ i e r, es[i]? = some e ∧ e[r]? = some v ∧ j = i * sz + r
 | [], _, j, v, h => by simp at h
 | a :: es, hall, j, v, h => by
  have ha := hall a List.mem_cons_self
  rw [List.flatten_cons, List.getElem?_append] at h
  split at h
  ·exact ⟨0, a, j, rfl, h, by simp⟩
  ·rename_i hj
   obtain ⟨i, e, r, h1, h2, h3⟩ := A7T (fun x hx => hall x (List.mem_cons_of_mem _ hx)) h
   exact ⟨i + 1, e, r, by simpa using h1, h2, by rw [Nat.succ_mul]; omega⟩
theorem B12 {w : World} {a : Addr} {n c sz : Nat} {es : List (List Value)} (hl : es.length = n) (hsz : 0 < sz) (hc : n ≤ c) (hm : c ≤ maxLen) (h : ∀ i e, es[i]? = some e → w.cells? 0 (a.add (i * sz)) sz = some e) : Sl (GW w) (some a) n c sz es.flatten := by
 have hall : ∀ e ∈ es, e.length = sz := by
  intro e he
  obtain ⟨i, hi⟩ := List.getElem?_of_mem he
  exact (World.cells?_some (h i e hi)).2.1
 refine ⟨by rw [A2v hall, hl], hc, hm, ?_⟩
 rcases Nat.eq_zero_or_pos n with h0 | h0
 ·exact .inl h0
 ·right
  obtain ⟨b, o, s⟩ := a
  have hs : s = none := by
   have h1 := (World.cells?_some (h 0 es[0] (List.getElem?_eq_getElem (by omega)))).2
   have h2 := h1.2 0 hsz
   rw [List.getElem?_eq_getElem (by omega)] at h2
   simp only [Nat.zero_mul, Addr.add, if_true] at h2
   unfold World.cell? at h2
   split at h2
   ·split at h2
    ·cases h2
    ·rename_i hn; cases s with
     | none => rfl
     | some x => simp at hn
   ·cases h2
  subst hs
  have key : ∀ j v, es.flatten[j]? = some v → w.cell? ⟨b, o + j, none⟩ = some v := by
   intro j v hj
   obtain ⟨i, e, r, h1, h2, rfl⟩ := A7T hall hj
   have h3 := (World.cells?_some (h i e h1)).2
   have hr : r < e.length := (List.getElem?_eq_some_iff.1 h2).1
   have h4 := h3.2 r (by omega)
   rw [h2, A2N, A2N] at h4
   rw [← Nat.add_assoc]; exact h4
  have hpos : 0 < es.flatten.length := by rw [A2v hall, hl]; exact Nat.mul_pos h0 hsz
  obtain ⟨full, hg, _⟩ := A7S (key 0 es.flatten[0] (List.getElem?_eq_getElem hpos))
  refine ⟨b, o, full, rfl, hg, fun j v hj => ?_⟩
  obtain ⟨full', hg', hv⟩ := A7S (key j v hj)
  rw [hg] at hg'; cases hg'; exact hv
theorem E1.snoc {G : IM} : ∀ {ts : List Ty} {es : List (List Value)} {t : Ty} {e : List Value}, E1 G ts es → B3 G t e → E1 G (ts ++ [t]) (es ++ [e])
 | [], es, t, e, h, h2 => by
  simp only [E1] at h; subst h
  simp only [List.nil_append, E1]
  exact ⟨e, [], rfl, h2, rfl⟩
 | t' :: ts, es, t, e, h, h2 => by
  simp only [E1] at h
  obtain ⟨a, r, rfl, h3, h4⟩ := h
  simp only [List.cons_append, E1]
  exact ⟨a, r ++ [e], rfl, h3, E1.snoc h4 h2⟩
theorem E5.snoc {G : IM} : ∀ {ts : List Tm} {es : List (List Value)} {t : Tm} {e : List Value}, E5 G ts es → B5 G t e → E5 G (ts ++ [t]) (es ++ [e])
 | [], es, t, e, h, h2 => by
  simp only [E5] at h; subst h
  simp only [List.nil_append, E5]
  exact ⟨e, [], rfl, h2, rfl⟩
 | t' :: ts, es, t, e, h, h2 => by
  simp only [E5] at h
  obtain ⟨a, r, rfl, h3, h4⟩ := h
  simp only [List.cons_append, E5]
  exact ⟨a, r ++ [e], rfl, h3, E5.snoc h4 h2⟩
theorem E1.each {G : IM} {ts : List Ty} {es : List (List Value)} (h : E1 G ts es) : ∀ e ∈ es, e.length = 2 ∧ e.all (·.oneCell') = true := by
 intro e he
 obtain ⟨i, hi⟩ := List.getElem?_of_mem he
 have := (h.inv hi A7).2
 exact ⟨this.len, this.one⟩
theorem E5.each {G : IM} {ts : List Tm} {es : List (List Value)} (h : E5 G ts es) : ∀ e ∈ es, e.length = 9 ∧ e.all (·.oneCell') = true := by
 intro e he
 obtain ⟨i, hi⟩ := List.getElem?_of_mem he
 have := (h.inv hi (.mk 0 ⟨#[]⟩ 0 A7 A7 0 [])).2
 exact ⟨this.len, this.one⟩
section read
variable {H : Type} {enc : TypeId × Value → H} {w : World} {sp : Nat → Bool} {held : Bool}
end read
theorem Ext.below {w w' : World} (h : Ext (Fp []) w w') : Below w.heap.size w w' := ⟨h.os, h.tape, h.output, h.size, fun k hk => h.block k hk (by simp [Fp])⟩
section post
variable {H : Type} {enc : TypeId × Value → H} {P : Program}
theorem B13 {f : Func} {s : ChangeSpec} {apart fresh handsOn again : Bool} {W W' : World} {args : Array Value} {v : Value} {ds gs : List (DataW H)} {before : List MemPlace}
  (hW : DataW.Whole enc P f.params.toList s.vars apart W args.toList ds gs before) (hb : Below W.heap.size W W') (hgs : s.vars = [])
  (hres : ∀ (b : Nat) (sp : Nat → Bool) (hd : Bool), DataW.TrodAll enc P W' b sp hd f.resultTypes.toList (v.resultList f.resultTypes.size) (s.fn H (ds ++ gs)).results [])
  (hargs : ∀ sp : Nat → Bool, (∀ p ∈ before, sp p.block = true) → DataW.TrodAll enc P W' 0 sp true f.params.toList args.toList (s.fn H (ds ++ gs)).args before)
  (hv : (s.fn H (ds ++ gs)).vars = [])
  (hok : ∀ (j : Nat) (t : TypeId) (r : Value), f.resultTypes[j]? = some t → (v.resultList f.resultTypes.size)[j]? = some r → Value.okWide P W' .any 0 t r) :
  s.post enc P f apart fresh handsOn again W args v W' := by
 have hold : ∀ p ∈ before, (fun b => decide (b < W.heap.size)) p.block = true := fun p hp => by simpa using hW.lt p hp
 have hvars : ∀ sp : Nat → Bool, DataW.TrodVars enc P W' sp s.vars (s.fn H (ds ++ gs)).vars [] := fun sp => by rw [hgs, hv]; rfl
 have hkept : W.keptBut W' (fun _ => False) := by
  refine ⟨hb.os, hb.output, fun i hi => ?_⟩
  rw [hb.block i hi]
  split
  ·rename_i h1 h2; cases h1.symm.trans h2; exact ⟨rfl, rfl, rfl, fun _ _ => rfl⟩
  ·rename_i h1 h2; cases h1.symm.trans h2; exact .inr ⟨rfl, rfl⟩
  ·rfl
 refine ⟨ds, gs, before, [], before, [], hW, hres _ _ _, hargs _ hold, hvars _, World.keptBut_mono (fun p hp => hp.elim) hkept, fun _ => ?_⟩
 obtain ⟨_, _, _, _, _, hz, hn⟩ := hW
 refine ⟨hok, _, _, ([] ++ before) ++ [], ⟨[] ++ before, [], trodAll_append (hargs _ (fun _ _ => rfl)) (hres _ _ _), hvars _, rfl, ?_, ?_⟩, ?_⟩
 ·intro b off hp
  have hp' : MemPlace.cell b off ∈ before := by simpa using hp
  have hlt : b < W.heap.size := of_decide_eq_true (hold _ hp')
  have := hz b off hp'
  unfold World.frozen? at this ⊢
  simp only [hb.block b hlt]
  exact this
 ·intro ha; simpa using hn ha
 ·intro p hp _; simpa using hp
end post
def A1m (G : IM) : Prop := ∃ g, Tryz.prog.globalNamed "internal/strconv.uint64pow10" = some g ∧ G g = some (Lib.pow10Tab.map fun z => Value.int .u64 z)
theorem A1m.mono {G G' : IM} (h : A1m G) (hg : B2 G G') : A1m G' := by
 obtain ⟨g, h1, h2⟩ := h
 exact ⟨g, h1, hg g _ h2⟩
theorem B14 {G : IM} {w : World} (hw : T0 [] G w) (k : Nat) (os : Array Obj) : R7 [] G w [] G (Sort.grow (w.drewN k) os) := by
 have hb : ∀ b, b < w.heap.size → (Sort.grow (w.drewN k) os).heap[b]? = w.heap[b]? := by
  intro b h
  show (w.heap ++ os)[b]? = _
  rw [Array.getElem?_append_left h]
 refine ⟨⟨?_, by simp, by simp [Fp], by simp [Fp]⟩, ⟨rfl, rfl, rfl, ?_, fun b h _ => hb b h⟩, B2.refl _, fun _ _ h => .inl h, by simp [Fp], fun b l h h0 => absurd h (by rw [h0]; simp)⟩
 ·intro b l h
  obtain ⟨e, f, hh⟩ := hw.inn b l h
  exact ⟨e, f, by rw [hb b (A0z hh)]; exact hh⟩
 ·show w.heap.size ≤ (w.heap ++ os).size
  simp
end Gw
end Go.Proofs.YtgodjiieijekiaaGreatDoor
namespace Go.Proofs.YtgodjiieijekiaaGreatDoor
open Go Go.RowKit Go.ChangeShapes Go.WideShapes Go.ChangeAt
namespace Gw
theorem A5M : Tryz.prog.globalNamed "internal/strconv.uint64pow10" = some 1 := by kernel_rfl
theorem B15 : (Tryz.prog.globals[1]?).map (·.type) = some 212 := by kernel_rfl
theorem B16 : Tryz.prog.cellsOf 212 = 20 := by kernel_rfl
theorem B17 : Tryz.prog.cellsOf 194 = 1 := by kernel_rfl
def B6I : List (String × DataW Unit) := [("math/bits.deBruijn32tab", Rows.laid_math_bits_deBruijn32tab), ("math/bits.deBruijn64tab", Rows.laid_math_bits_deBruijn64tab), ("internal/strconv.uint64pow10", Rows.laid_internal_strconv_uint64pow10)]
def A2W : DataW Unit → Array Value
 | .agg xs => (xs.map fun | .lit (.int k n) => Value.int k n | _ => .int .i64 0).toArray
 | _ => #[]
def A1W (xs : Array Value) : Obj → Obj
 | .cells _ t f => .cells xs t f
 | o => o
noncomputable def B6J (os : Os) : World :=
 { World.holding Tryz.prog os ⟨#[], #[], []⟩ with heap := (((World.holding Tryz.prog os ⟨#[], #[], []⟩).heap.modify 1 (A1W (A2W Rows.laid_internal_strconv_uint64pow10))).modify 4 (A1W (A2W Rows.laid_math_bits_deBruijn32tab))).modify 5 (A1W (A2W Rows.laid_math_bits_deBruijn64tab)) }
theorem B18 (G : IM) (p : Option Addr) (n c : Nat) (es : List (List Value)) (hsl : D5 G p n c 2 es) (fid : FuncId) [B9 Tryz.prog fid] (us cs : List Value) (ins : List A4) (q : Nat → Bool)
  (hq : ∀ i e, es[i]? = some e → Fn Tryz.prog fid (us ++ [.agg ⟨e⟩] ++ cs) ins G (Z9 (.bool (q i)) ins G)) :
  Fn Tryz.prog 136 [.slice p n c, .func (.func fid) ⟨us⟩ ⟨cs⟩] ins G (Z9 (.int .i64 (A06 q n)) ins G) := by
 have hn := hsl.le
 refine B8 Tryz.func136 rfl Tryz.ntmps136 Tryz.results136 rfl ?_
 intro w0
 refine I5 ?_
 refine C6 ?_
 refine N4 (fun i : Nat => ⟨[(8, .int .i64 i), (7, .int .i64 n), (1, .func (.func fid) ⟨us⟩ ⟨cs⟩), (0, .slice p n c)], ins, G⟩) (fun i => i ≤ n ∧ ∀ j, j < i → q j = false) (fun i => n - i) 0 ?_ ?_ ?_
 exact E0
 exact ⟨by omega, by omega⟩
 rintro i ⟨hi, hf⟩
 refine tS (tR ?_)
 refine sB (L9 rfl rfl) rfl rfl (fun h21 => ?_) (fun h21 => ?_)
 refine sD (nS (tS (qT rfl (tK (nS (tS ?_))))))
 refine C6 ?_
 refine I6 ?_
 (obtain ⟨e, b, o, he, rfl, hl, _, hat, _⟩ := hsl.get (i := i) (by omega); refine sP (D0 rfl rfl rfl (by omega)) rfl rfl ?_)
 refine sL (A6 rfl rfl (hat _) hl) rfl rfl ?_
 refine A5E rfl rfl (hq i e he) A1Q rfl rfl (fun h43 => ?_) (fun h43 => ?_)
 refine M3 ?_
 refine C4 (rT rfl) A0.refl ?_
 exact ⟨rfl, by rw [B1K (by omega) hf (by assumption)], rfl⟩
 refine sD (nS (cF rfl (tK (O3 (nS (tR ?_))))))
 refine sP (N0 rfl rfl (by omega) (by omega)) rfl rfl ?_
 refine sQ (qM rfl) rfl (sD ?_)
 refine K5 (i + 1) ?_ ?_ ?_
 exact E0
 exact ⟨by omega, fun j hj => by by_cases hji : j = i; (subst hji; assumption); exact hf j (by omega)⟩
 omega
 refine M3 ?_
 refine C4 (rT rfl) A0.refl ?_
 exact ⟨rfl, by rw [A7w (fun j hj => hf j (by omega))], rfl⟩
theorem B19 (G : IM) (p : Option Addr) (n c : Nat) (es : List (List Value)) (hsl : D5 G p n c 2 es) (fid : FuncId) [B9 Tryz.prog fid] (us cs : List Value) (ins : List A4) (q : Nat → Bool)
  (hq : ∀ i e, es[i]? = some e → Fn Tryz.prog fid (us ++ [.agg ⟨e⟩] ++ cs) ins G (Z9 (.bool (q i)) ins G)) :
  Fn Tryz.prog 73 [.slice p n c, .func (.func fid) ⟨us⟩ ⟨cs⟩] ins G (Z9 (.bool (decide (0 ≤ A06 q n))) ins G) := by
 refine B8 Tryz.func73 rfl Tryz.ntmps73 Tryz.results73 rfl ?_
 intro w0
 refine C7 ?_
 refine A5D rfl (B18 G p n c es hsl fid us cs ins q hq) A1Q rfl rfl ?_
 refine sQ (S4 rfl rfl) rfl ?_
 refine sQ (qA rfl) rfl (sD (nS (tT ?_)))
 refine C4 (rT rfl) A0.refl ?_
 exact ⟨rfl, rfl, rfl⟩
theorem A3A (G : IM) (p : Option Addr) (n c : Nat) (es : List (List Value)) (hsl : D5 G p n c 2 es) (fid : FuncId) [B9 Tryz.prog fid] (us cs : List Value) (ins : List A4) (f : Ty → Bool) (ks : List Ty)
  (hn : ks.length = n) {A : Bool} (hA : ks.all f = A) (hq : ∀ i e, es[i]? = some e → Fn Tryz.prog fid (us ++ [.agg ⟨e⟩] ++ cs) ins G (Z9 (.bool (!f (ks.getD i A7))) ins G)) :
  Fn Tryz.prog 73 [.slice p n c, .func (.func fid) ⟨us⟩ ⟨cs⟩] ins G (Z9 (.bool (!A)) ins G) := by
 subst hn hA
 rw [← B1M f ks A7]
 exact B19 G p _ c es hsl fid us cs ins _ hq
theorem A7U (G : IM) (p p' : Option Addr) (n c n' c' : Nat) (es es' : List (List Value)) (hsl : D5 G p n c 2 es) (hsl' : D5 G p' n' c' 2 es') (fid : FuncId) [B9 Tryz.prog fid] (us cs : List Value) (ins : List A4) (q : Nat → Bool)
  (A : Bool) (hA : A = true ↔ n = n' ∧ ∀ i, i < n → q i = true)
  (hq : ∀ i e e', es[i]? = some e → es'[i]? = some e' → Fn Tryz.prog fid (us ++ [.agg ⟨e⟩, .agg ⟨e'⟩] ++ cs) ins G (Z9 (.bool (q i)) ins G)) :
  Fn Tryz.prog 95 [.slice p n c, .slice p' n' c', .func (.func fid) ⟨us⟩ ⟨cs⟩] ins G (Z9 (.bool A) ins G) := by
 have hn := hsl.le
 have hn' := hsl'.le
 refine B8 Tryz.func95 rfl Tryz.ntmps95 Tryz.results95 rfl ?_
 intro w0
 refine Q4 ?_
 refine sB (P5 rfl rfl) rfl rfl (fun h13 => ?_) (fun h13 => ?_)
 refine M2 ?_
 refine C4 (outs := ins) (rT rfl) (by first | exact A0.refl | exact A0.drop (A0.drop A0.refl)) ?_
 exact ⟨rfl, by (cases A with | false => rfl | true => exact absurd (hA.1 rfl).1 (by omega)), rfl⟩
 refine I5 ?_
 refine C6 (N4 (fun i : Nat => ⟨[(17, .int .i64 i), (16, .int .i64 n), (15, .slice p n c), (2, .func (.func fid) ⟨us⟩ ⟨cs⟩), (1, .slice p' n' c'), (0, .slice p n c)], ins, G⟩) (fun i => i ≤ n ∧ ∀ j, j < i → q j = true) (fun i => n - i) 0 ?_ ?_ ?_)
 exact E0
 exact ⟨by omega, by omega⟩
 rintro i ⟨hi, hf⟩
 refine tS (tR ?_)
 refine sB (L9 rfl rfl) rfl rfl (fun h46 => ?_) (fun h46 => ?_)
 refine sD (nS (tS (qT rfl (tK (nS (tS ?_))))))
 refine C6 ?_
 refine tS (tR (sQ (qM rfl) rfl ?_))
 (obtain ⟨e, b, o, he, rfl, hl, _, hat, _⟩ := hsl.get (i := i) (by omega); refine sP (D0 rfl rfl rfl (by omega)) rfl rfl ?_)
 refine sL (A6 rfl rfl (hat _) hl) rfl rfl ?_
 refine sE (A8 rfl) rfl (fun b60 => ?_)
 refine sQ (qA rfl) rfl ?_
 refine M0 rfl rfl rfl (by assumption) (by assumption) rfl (by repeat first | exact Sw.here | apply Sw.there) (by exact I4 (by symm; assumption)) ?_
 refine sD (nS (tS (tR (sQ (qM rfl) rfl (sQ (qM rfl) rfl ?_)))))
 (obtain ⟨e', b', o', he', rfl, hl', _, hat', _⟩ := hsl'.get (i := i) (by omega); refine sP (D0 rfl rfl rfl (by omega)) rfl rfl ?_)
 refine sL (A6 rfl rfl (hat' _) hl') rfl rfl ?_
 refine sE (A8 rfl) rfl (fun b71 => ?_)
 refine M0 rfl rfl rfl (by assumption) (by assumption) rfl (by repeat first | exact Sw.here | apply Sw.there) (by exact I4 (by symm; assumption)) ?_
 refine sD (nS (tS (tR (sQ (qM rfl) rfl ?_))))
 refine sL (A6 rfl rfl (C8 (by repeat first | exact mH | apply mT)) (by assumption)) rfl rfl ?_
 refine sL (A6 rfl rfl (C8 (by repeat first | exact mH | apply mT)) (by assumption)) rfl rfl ?_
 refine A5E rfl rfl (hq i e e' he he') A7t rfl rfl (fun h80 => ?_) (fun h80 => ?_)
 refine F8 ?_
 refine sP (N0 rfl rfl (by omega) (by omega)) rfl rfl ?_
 refine sQ (qM rfl) rfl (sD ?_)
 refine K5 (i + 1) ?_ ?_ ?_
 exact E0
 exact ⟨by omega, fun j hj => by by_cases hji : j = i; (subst hji; assumption); exact hf j (by omega)⟩
 omega
 refine M3 ?_
 refine C4 (outs := ins) (rT rfl) (by first | exact A0.refl | exact A0.drop (A0.drop A0.refl)) ?_
 exact ⟨rfl, by (cases A with | false => rfl | true => have h0 := (hA.1 rfl).2 i (by omega); simp_all), rfl⟩
 refine M3 ?_
 refine C4 (outs := ins) (rT rfl) (by first | exact A0.refl | exact A0.drop (A0.drop A0.refl)) ?_
 exact ⟨rfl, by rw [hA.2 ⟨by omega, fun j hj => hf j (by omega)⟩], rfl⟩
theorem A1n (n lo hi : Int) (G : IM) : Fn Tryz.prog 69 [.int .i64 n, .int .i64 lo, .int .i64 hi] [] G (L6 (.bool (X0 n lo hi)) G) := by
 refine B8 Tryz.func69 rfl Tryz.ntmps69 Tryz.results69 rfl ?_
 intro w0
 refine C7 ?_
 refine sB (W8 rfl rfl) rfl rfl (fun h10 => ?_) (fun h10 => ?_)
 refine sQ (qM rfl) rfl (sQ (qM rfl) rfl (sQ (qM rfl) rfl ?_))
 refine sB (W8 rfl rfl) rfl rfl (fun h14 => ?_) (fun h14 => ?_)
 refine K4 ?_
 exact ⟨rfl, by simp [X0]; omega, rfl⟩
 refine K4 ?_
 exact ⟨rfl, by simp [X0]; omega, rfl⟩
 refine M2 ?_
 exact ⟨rfl, by simp [X0]; omega, rfl⟩
theorem A7V (k : Int) (G : IM) : Fn Tryz.prog 123 [.int .i64 k] [] G (L6 (.agg ⟨[.int .i64 k, .slice none 0 0]⟩) G) := by
 refine B8 Tryz.func123 rfl Tryz.ntmps123 Tryz.results123 rfl ?_
 intro w0
 refine tS (tR ?_)
 refine sE (A8 rfl) rfl (fun b3 => ?_)
 refine M2 ?_
 refine E9 (rC rfl (A2 rfl rfl)) ?_
 exact ⟨rfl, rfl, rfl⟩
theorem B2a (n : Int) (G : IM) : Fn Tryz.prog 162 [.int .i64 n] [] G (L6 (.bool (Z0 n)) G) := by
 refine B8 Tryz.func162 rfl Tryz.ntmps162 Tryz.results162 rfl ?_
 intro w0
 refine F8 ?_
 refine J4 rfl (A1n _ _ _ _) rfl rfl (fun h9 => ?_) (fun h9 => ?_)
 refine C7 ?_
 exact ⟨rfl, by simp [Z0, *], rfl⟩
 refine sQ (qM rfl) rfl (sQ (qM rfl) rfl ?_)
 refine J4 rfl (A1n _ _ _ _) rfl rfl (fun h22 => ?_) (fun h22 => ?_)
 refine K4 ?_
 exact ⟨rfl, by simp [Z0, *], rfl⟩
 refine K4 ?_
 exact ⟨rfl, by simp [Z0, *], rfl⟩
theorem A7W (t : Ty) (G : IM) (cells : List Value) (hr : B3 G t cells) : Fn Tryz.prog 160 [.agg ⟨cells⟩] [] G (L6 (.bool (X1 t)) G) := by
 obtain ⟨p, c, es, rfl, hk, hsl, hkl⟩ := hr.open
 refine B8 Tryz.func160 rfl Tryz.ntmps160 Tryz.results160 rfl ?_
 intro w0
 refine tS (tR ?_)
 refine sE (E7 rfl rfl) rfl (fun b3 => ?_)
 refine B7 ?_
 refine sB (qE rfl rfl) rfl rfl (fun h11 => ?_) (fun h11 => ?_)
 refine H9 ?_
 refine sB (qE rfl rfl) rfl rfl (fun h16 => ?_) (fun h16 => ?_)
 refine K4 ?_
 exact ⟨rfl, by simp only [X1]; (first | rw [decide_eq_true (by omega)] | rw [decide_eq_false (by omega)]), rfl⟩
 refine K4 ?_
 exact ⟨rfl, by simp only [X1]; (first | rw [decide_eq_true (by omega)] | rw [decide_eq_false (by omega)]), rfl⟩
 refine I6 ?_
 exact ⟨rfl, by simp only [X1]; (first | rw [decide_eq_true (by omega)] | rw [decide_eq_false (by omega)]), rfl⟩
theorem B2b (s : ByteArray) (G : IM) : Fn Tryz.prog 158 [.string s] [] G (L6 (.bool (V5 s)) G) := by
 refine B8 Tryz.func158 rfl Tryz.ntmps158 Tryz.results158 rfl ?_
 intro w0
 refine F8 ?_
 refine sQ (P9 rfl rfl) rfl (sB (qE rfl rfl) rfl rfl (fun h10 => ?_) (fun h10 => ?_))
 refine sQ (qM rfl) rfl (sQ (qM rfl) rfl ?_)
 refine sP (R8 rfl rfl rfl (by omega) (A4k (by omega))) rfl rfl ?_
 refine sB (S4 rfl rfl) rfl rfl (fun h14 => ?_) (fun h14 => ?_)
 refine sQ (J8 rfl rfl) rfl (sQ (qM rfl) rfl (sQ (qM rfl) rfl ?_))
 refine sP (R8 rfl rfl rfl (by omega) (A4k (by omega))) rfl rfl ?_
 refine sB (W8 rfl rfl) rfl rfl (fun h19 => ?_) (fun h19 => ?_)
 refine K4 ?_
 exact ⟨rfl, by simp only [V5]; (try simp only [Int.toNat_zero] at *); (first | rw [decide_eq_true (by omega)] | rw [decide_eq_false (by omega)]), rfl⟩
 refine K4 ?_
 exact ⟨rfl, by simp only [V5]; (try simp only [Int.toNat_zero] at *); (first | rw [decide_eq_true (by omega)] | rw [decide_eq_false (by omega)]), rfl⟩
 refine I6 ?_
 exact ⟨rfl, by simp only [V5]; (try simp only [Int.toNat_zero] at *); (first | rw [decide_eq_true (by omega)] | rw [decide_eq_false (by omega)]), rfl⟩
 refine M3 ?_
 exact ⟨rfl, by simp only [V5]; (try simp only [Int.toNat_zero] at *); (first | rw [decide_eq_true (by omega)] | rw [decide_eq_false (by omega)]), rfl⟩
theorem A3B (G : IM) (e : List Value) (d : Int) (b : Bool) (bd : Nat) (hl : e.length = 2) (hd : 0 ≤ d ∧ d ≤ 5) (h : Fn Tryz.prog 192 [.agg ⟨e⟩, .int .i64 (d + 1)] [] G (L6 (.bool b) G)) :
  Fn Tryz.prog 217 [.agg ⟨e⟩, .pointer (some ⟨bd, 0, none⟩)] [.blk bd [.int .i64 d]] G (Z9 (.bool (!b)) [.blk bd [.int .i64 d]] G) := by
 refine B8 Tryz.func217 rfl Tryz.ntmps217 Tryz.results217 rfl ?_
 intro w0
 refine tS (tR ?_)
 refine sE (E7 rfl rfl) rfl (fun b3 => ?_)
 refine sQ (qA rfl) rfl (sD (nS (tS (tR ?_))))
 refine sL (A6 rfl rfl (C8 (by repeat first | exact mH | apply mT)) (by assumption)) rfl rfl ?_
 refine sL (C2 rfl rfl) rfl rfl ?_
 refine sP (N0 rfl rfl (by omega) (by omega)) rfl rfl ?_
 refine J4 rfl (h) rfl rfl (fun h12 => ?_) (fun h12 => ?_)
 refine sQ (Y7 rfl) rfl (sQ (qA rfl) rfl (sD (nS (tT ?_))))
 refine C4 (rT rfl) (A0.cons (Pk.there Pk.here) A0.nil) ?_
 exact ⟨rfl, by simp [*], rfl⟩
 refine sQ (pNf rfl) rfl (sQ (qA rfl) rfl (sD (nS (tT ?_))))
 refine C4 (rT rfl) (A0.cons (Pk.there Pk.here) A0.nil) ?_
 exact ⟨rfl, by simp [*], rfl⟩
theorem B2c : ∀ (t : Ty) (d : Int) (G : IM) (cells : List Value), 0 ≤ d ∧ d ≤ 5 → B3 G t cells →
  Fn Tryz.prog 192 [.agg ⟨cells⟩, .int .i64 d] [] G (L6 (.bool (H8 t d)) G) := by
 refine Ty.ind fun k ks ih d G cells hd hr => ?_
 obtain ⟨p, c, es, rfl, hk, hsl, hkl⟩ := hr.open
 simp only [Ty.k, Ty.ks] at hk hsl hkl ⊢
 have hn := hsl.le
 obtain ⟨A, hA⟩ : ∃ A, ks.all (H8 · (d + 1)) = A := ⟨_, rfl⟩
 refine B8 Tryz.func192 rfl Tryz.ntmps192 Tryz.results192 rfl ?_
 intro w0
 refine tS (tR ?_)
 refine sE (E7 rfl rfl) rfl (fun b3 => ?_)
 (refine D7 (A3q rfl rfl rfl) rfl ?_; rintro _ ⟨b4, rfl⟩)
 refine M3 ?_
 refine C6 (tS (tS (tR (sB (qE rfl rfl) rfl rfl (fun h24 => ?_) (fun h24 => ?_)))))
 refine M3 ?_
 refine sB (W8 rfl rfl) rfl rfl (fun h40 => ?_) (fun h40 => ?_)
 refine S6 ?_
 refine sB (qE rfl rfl) rfl rfl (fun h46 => ?_) (fun h46 => ?_)
 refine H9 ?_
 refine sQ (A1h rfl rfl) rfl (A3u rfl (A3A _ _ _ _ _ hsl _ [] _ [.blk b4 [.int .i64 d]] (H8 · (d + 1)) ks rfl hA (fun i e he => A3B _ _ _ _ _ (hsl.all e (List.mem_of_getElem? he)) hd (ih _ (hkl.inv he A7).1 _ _ _ (by omega) (hkl.inv he A7).2))) A1Q rfl rfl (fun h52 => ?_) (fun h52 => ?_))
 simp only [Bool.not_eq_true', Bool.not_eq_false'] at h52
 refine B7 ?_
 exact ⟨rfl, by (rw [H8, U7, hA]; have := N5 k; first | (rw [decide_eq_true (by omega), decide_eq_true (by omega)]; simp only [*]; done) | (rw [decide_eq_true (by omega), decide_eq_true (by omega)]; simp only [*]; rfl) | (rw [decide_eq_false (by omega)]; rfl) | (rw [decide_eq_true (by omega), decide_eq_false (by omega)]; rfl)), rfl⟩
 simp only [Bool.not_eq_true', Bool.not_eq_false'] at h52
 refine B7 ?_
 exact ⟨rfl, by (rw [H8, U7, hA]; have := N5 k; first | (rw [decide_eq_true (by omega), decide_eq_true (by omega)]; simp only [*]; done) | (rw [decide_eq_true (by omega), decide_eq_true (by omega)]; simp only [*]; rfl) | (rw [decide_eq_false (by omega)]; rfl) | (rw [decide_eq_true (by omega), decide_eq_false (by omega)]; rfl)), rfl⟩
 refine I5 ?_
 exact ⟨rfl, by (rw [H8, U7, hA]; have := N5 k; first | (rw [decide_eq_true (by omega), decide_eq_true (by omega)]; simp only [*]; done) | (rw [decide_eq_true (by omega), decide_eq_true (by omega)]; simp only [*]; rfl) | (rw [decide_eq_false (by omega)]; rfl) | (rw [decide_eq_true (by omega), decide_eq_false (by omega)]; rfl)), rfl⟩
 refine A0v ?_
 exact ⟨rfl, by (rw [H8, U7, hA]; have := N5 k; first | (rw [decide_eq_true (by omega), decide_eq_true (by omega)]; simp only [*]; done) | (rw [decide_eq_true (by omega), decide_eq_true (by omega)]; simp only [*]; rfl) | (rw [decide_eq_false (by omega)]; rfl) | (rw [decide_eq_true (by omega), decide_eq_false (by omega)]; rfl)), rfl⟩
 refine sQ (qA rfl) rfl (sD (nS (cF rfl (tS (tR ?_)))))
 refine sB (qE rfl rfl) rfl rfl (fun h109 => ?_) (fun h109 => ?_)
 refine M3 ?_
 refine sB (W8 rfl rfl) rfl rfl (fun h125 => ?_) (fun h125 => ?_)
 refine S6 ?_
 refine sB (qE rfl rfl) rfl rfl (fun h131 => ?_) (fun h131 => ?_)
 refine H9 ?_
 refine sQ (A1h rfl rfl) rfl (A3u rfl (A3A _ _ _ _ _ hsl _ [] _ [.blk b4 [.int .i64 d]] (H8 · (d + 1)) ks rfl hA (fun i e he => A3B _ _ _ _ _ (hsl.all e (List.mem_of_getElem? he)) hd (ih _ (hkl.inv he A7).1 _ _ _ (by omega) (hkl.inv he A7).2))) A1Q rfl rfl (fun h137 => ?_) (fun h137 => ?_))
 simp only [Bool.not_eq_true', Bool.not_eq_false'] at h137
 refine B7 ?_
 exact ⟨rfl, by (rw [H8, U7, hA]; have := N5 k; first | (rw [decide_eq_true (by omega), decide_eq_true (by omega)]; simp only [*]; done) | (rw [decide_eq_true (by omega), decide_eq_true (by omega)]; simp only [*]; rfl) | (rw [decide_eq_false (by omega)]; rfl) | (rw [decide_eq_true (by omega), decide_eq_false (by omega)]; rfl)), rfl⟩
 simp only [Bool.not_eq_true', Bool.not_eq_false'] at h137
 refine B7 ?_
 exact ⟨rfl, by (rw [H8, U7, hA]; have := N5 k; first | (rw [decide_eq_true (by omega), decide_eq_true (by omega)]; simp only [*]; done) | (rw [decide_eq_true (by omega), decide_eq_true (by omega)]; simp only [*]; rfl) | (rw [decide_eq_false (by omega)]; rfl) | (rw [decide_eq_true (by omega), decide_eq_false (by omega)]; rfl)), rfl⟩
 refine I5 ?_
 exact ⟨rfl, by (rw [H8, U7, hA]; have := N5 k; first | (rw [decide_eq_true (by omega), decide_eq_true (by omega)]; simp only [*]; done) | (rw [decide_eq_true (by omega), decide_eq_true (by omega)]; simp only [*]; rfl) | (rw [decide_eq_false (by omega)]; rfl) | (rw [decide_eq_true (by omega), decide_eq_false (by omega)]; rfl)), rfl⟩
 refine A0v ?_
 exact ⟨rfl, by (rw [H8, U7, hA]; have := N5 k; first | (rw [decide_eq_true (by omega), decide_eq_true (by omega)]; simp only [*]; done) | (rw [decide_eq_true (by omega), decide_eq_true (by omega)]; simp only [*]; rfl) | (rw [decide_eq_false (by omega)]; rfl) | (rw [decide_eq_true (by omega), decide_eq_false (by omega)]; rfl)), rfl⟩
 refine sQ (qA rfl) rfl (sD (nS (cF rfl (tR ?_))))
 refine sB (qE rfl rfl) rfl rfl (fun h193 => ?_) (fun h193 => ?_)
 refine Q4 ?_
 refine sB (W8 rfl rfl) rfl rfl (fun h206 => ?_) (fun h206 => ?_)
 refine S6 ?_
 refine sB (qE rfl rfl) rfl rfl (fun h212 => ?_) (fun h212 => ?_)
 refine H9 ?_
 refine sQ (A1h rfl rfl) rfl (A3u rfl (A3A _ _ _ _ _ hsl _ [] _ [.blk b4 [.int .i64 d]] (H8 · (d + 1)) ks rfl hA (fun i e he => A3B _ _ _ _ _ (hsl.all e (List.mem_of_getElem? he)) hd (ih _ (hkl.inv he A7).1 _ _ _ (by omega) (hkl.inv he A7).2))) A1Q rfl rfl (fun h218 => ?_) (fun h218 => ?_))
 simp only [Bool.not_eq_true', Bool.not_eq_false'] at h218
 refine B7 ?_
 exact ⟨rfl, by (rw [H8, U7, hA]; have := N5 k; first | (rw [decide_eq_true (by omega), decide_eq_true (by omega)]; simp only [*]; done) | (rw [decide_eq_true (by omega), decide_eq_true (by omega)]; simp only [*]; rfl) | (rw [decide_eq_false (by omega)]; rfl) | (rw [decide_eq_true (by omega), decide_eq_false (by omega)]; rfl)), rfl⟩
 simp only [Bool.not_eq_true', Bool.not_eq_false'] at h218
 refine B7 ?_
 exact ⟨rfl, by (rw [H8, U7, hA]; have := N5 k; first | (rw [decide_eq_true (by omega), decide_eq_true (by omega)]; simp only [*]; done) | (rw [decide_eq_true (by omega), decide_eq_true (by omega)]; simp only [*]; rfl) | (rw [decide_eq_false (by omega)]; rfl) | (rw [decide_eq_true (by omega), decide_eq_false (by omega)]; rfl)), rfl⟩
 refine I5 ?_
 exact ⟨rfl, by (rw [H8, U7, hA]; have := N5 k; first | (rw [decide_eq_true (by omega), decide_eq_true (by omega)]; simp only [*]; done) | (rw [decide_eq_true (by omega), decide_eq_true (by omega)]; simp only [*]; rfl) | (rw [decide_eq_false (by omega)]; rfl) | (rw [decide_eq_true (by omega), decide_eq_false (by omega)]; rfl)), rfl⟩
 refine A0v ?_
 exact ⟨rfl, by (rw [H8, U7, hA]; have := N5 k; first | (rw [decide_eq_true (by omega), decide_eq_true (by omega)]; simp only [*]; done) | (rw [decide_eq_true (by omega), decide_eq_true (by omega)]; simp only [*]; rfl) | (rw [decide_eq_false (by omega)]; rfl) | (rw [decide_eq_true (by omega), decide_eq_false (by omega)]; rfl)), rfl⟩
 refine sQ (qA rfl) rfl (sD (nS (cF rfl (tS (tS (tR ?_))))))
 refine sB (qE rfl rfl) rfl rfl (fun h276 => ?_) (fun h276 => ?_)
 refine M3 ?_
 refine sB (W8 rfl rfl) rfl rfl (fun h292 => ?_) (fun h292 => ?_)
 refine S6 ?_
 refine sB (qE rfl rfl) rfl rfl (fun h298 => ?_) (fun h298 => ?_)
 refine H9 ?_
 refine sQ (A1h rfl rfl) rfl (A3u rfl (A3A _ _ _ _ _ hsl _ [] _ [.blk b4 [.int .i64 d]] (H8 · (d + 1)) ks rfl hA (fun i e he => A3B _ _ _ _ _ (hsl.all e (List.mem_of_getElem? he)) hd (ih _ (hkl.inv he A7).1 _ _ _ (by omega) (hkl.inv he A7).2))) A1Q rfl rfl (fun h304 => ?_) (fun h304 => ?_))
 simp only [Bool.not_eq_true', Bool.not_eq_false'] at h304
 refine B7 ?_
 exact ⟨rfl, by (rw [H8, U7, hA]; have := N5 k; first | (rw [decide_eq_true (by omega), decide_eq_true (by omega)]; simp only [*]; done) | (rw [decide_eq_true (by omega), decide_eq_true (by omega)]; simp only [*]; rfl) | (rw [decide_eq_false (by omega)]; rfl) | (rw [decide_eq_true (by omega), decide_eq_false (by omega)]; rfl)), rfl⟩
 simp only [Bool.not_eq_true', Bool.not_eq_false'] at h304
 refine B7 ?_
 exact ⟨rfl, by (rw [H8, U7, hA]; have := N5 k; first | (rw [decide_eq_true (by omega), decide_eq_true (by omega)]; simp only [*]; done) | (rw [decide_eq_true (by omega), decide_eq_true (by omega)]; simp only [*]; rfl) | (rw [decide_eq_false (by omega)]; rfl) | (rw [decide_eq_true (by omega), decide_eq_false (by omega)]; rfl)), rfl⟩
 refine I5 ?_
 exact ⟨rfl, by (rw [H8, U7, hA]; have := N5 k; first | (rw [decide_eq_true (by omega), decide_eq_true (by omega)]; simp only [*]; done) | (rw [decide_eq_true (by omega), decide_eq_true (by omega)]; simp only [*]; rfl) | (rw [decide_eq_false (by omega)]; rfl) | (rw [decide_eq_true (by omega), decide_eq_false (by omega)]; rfl)), rfl⟩
 refine A0v ?_
 exact ⟨rfl, by (rw [H8, U7, hA]; have := N5 k; first | (rw [decide_eq_true (by omega), decide_eq_true (by omega)]; simp only [*]; done) | (rw [decide_eq_true (by omega), decide_eq_true (by omega)]; simp only [*]; rfl) | (rw [decide_eq_false (by omega)]; rfl) | (rw [decide_eq_true (by omega), decide_eq_false (by omega)]; rfl)), rfl⟩
 refine sQ (qA rfl) rfl (sD (nS (cF rfl (tR ?_))))
 refine sB (qE rfl rfl) rfl rfl (fun h360 => ?_) (fun h360 => ?_)
 refine Q4 ?_
 refine sB (W8 rfl rfl) rfl rfl (fun h373 => ?_) (fun h373 => ?_)
 refine S6 ?_
 refine sB (qE rfl rfl) rfl rfl (fun h379 => ?_) (fun h379 => ?_)
 refine H9 ?_
 refine sQ (A1h rfl rfl) rfl (A3u rfl (A3A _ _ _ _ _ hsl _ [] _ [.blk b4 [.int .i64 d]] (H8 · (d + 1)) ks rfl hA (fun i e he => A3B _ _ _ _ _ (hsl.all e (List.mem_of_getElem? he)) hd (ih _ (hkl.inv he A7).1 _ _ _ (by omega) (hkl.inv he A7).2))) A1Q rfl rfl (fun h385 => ?_) (fun h385 => ?_))
 simp only [Bool.not_eq_true', Bool.not_eq_false'] at h385
 refine B7 ?_
 exact ⟨rfl, by (rw [H8, U7, hA]; have := N5 k; first | (rw [decide_eq_true (by omega), decide_eq_true (by omega)]; simp only [*]; done) | (rw [decide_eq_true (by omega), decide_eq_true (by omega)]; simp only [*]; rfl) | (rw [decide_eq_false (by omega)]; rfl) | (rw [decide_eq_true (by omega), decide_eq_false (by omega)]; rfl)), rfl⟩
 simp only [Bool.not_eq_true', Bool.not_eq_false'] at h385
 refine B7 ?_
 exact ⟨rfl, by (rw [H8, U7, hA]; have := N5 k; first | (rw [decide_eq_true (by omega), decide_eq_true (by omega)]; simp only [*]; done) | (rw [decide_eq_true (by omega), decide_eq_true (by omega)]; simp only [*]; rfl) | (rw [decide_eq_false (by omega)]; rfl) | (rw [decide_eq_true (by omega), decide_eq_false (by omega)]; rfl)), rfl⟩
 refine I5 ?_
 exact ⟨rfl, by (rw [H8, U7, hA]; have := N5 k; first | (rw [decide_eq_true (by omega), decide_eq_true (by omega)]; simp only [*]; done) | (rw [decide_eq_true (by omega), decide_eq_true (by omega)]; simp only [*]; rfl) | (rw [decide_eq_false (by omega)]; rfl) | (rw [decide_eq_true (by omega), decide_eq_false (by omega)]; rfl)), rfl⟩
 refine A0v ?_
 exact ⟨rfl, by (rw [H8, U7, hA]; have := N5 k; first | (rw [decide_eq_true (by omega), decide_eq_true (by omega)]; simp only [*]; done) | (rw [decide_eq_true (by omega), decide_eq_true (by omega)]; simp only [*]; rfl) | (rw [decide_eq_false (by omega)]; rfl) | (rw [decide_eq_true (by omega), decide_eq_false (by omega)]; rfl)), rfl⟩
 refine M2 ?_
 refine sB (W8 rfl rfl) rfl rfl (fun h446 => ?_) (fun h446 => ?_)
 refine S6 ?_
 refine sP (M1 rfl rfl (by omega)) rfl rfl ?_
 refine I5 ?_
 exact ⟨rfl, by (rw [H8, U7, hA]; have := N5 k; first | (rw [decide_eq_true (by omega), decide_eq_true (by omega)]; simp only [*]; done) | (rw [decide_eq_true (by omega), decide_eq_true (by omega)]; simp only [*]; rfl) | (rw [decide_eq_false (by omega)]; rfl) | (rw [decide_eq_true (by omega), decide_eq_false (by omega)]; rfl)), rfl⟩
 refine A0v ?_
 exact ⟨rfl, by (rw [H8, U7, hA]; have := N5 k; first | (rw [decide_eq_true (by omega), decide_eq_true (by omega)]; simp only [*]; done) | (rw [decide_eq_true (by omega), decide_eq_true (by omega)]; simp only [*]; rfl) | (rw [decide_eq_false (by omega)]; rfl) | (rw [decide_eq_true (by omega), decide_eq_false (by omega)]; rfl)), rfl⟩
theorem A5N (t : Ty) (G : IM) (cells : List Value) (hr : B3 G t cells) : Fn Tryz.prog 159 [.agg ⟨cells⟩] [] G (L6 (.bool (H3 t)) G) := by
 have hl := hr.len
 have hv := B2c t 1 G cells (by omega) hr
 refine B8 Tryz.func159 rfl Tryz.ntmps159 Tryz.results159 rfl ?_
 intro w0
 refine tS (tR ?_)
 refine sE (E7 rfl rfl) rfl (fun b3 => ?_)
 refine sQ (qA rfl) rfl (sD (nS (tS (tR ?_))))
 refine sL (A6 rfl rfl (C8 (by repeat first | exact mH | apply mT)) (by assumption)) rfl rfl ?_
 refine H7 rfl (hv) rfl rfl ?_
 refine sQ (qA rfl) rfl (sD (nS (tT (E9 (rT rfl) ?_))))
 exact ⟨rfl, rfl, rfl⟩
theorem B2d : ∀ (t t' : Ty) (G : IM) (cells cells' : List Value), B3 G t cells → B3 G t' cells' →
  Fn Tryz.prog 193 [.agg ⟨cells⟩, .agg ⟨cells'⟩] [] G (L6 (.bool (K2 t t')) G) := by
 refine Ty.ind fun k ks ih t' G cells cells' hr hr' => ?_
 obtain ⟨k', ks'⟩ := t'
 obtain ⟨p, c, es, rfl, hk, hsl, hkl⟩ := hr.open
 obtain ⟨p', c', es', rfl, hk', hsl', hkl'⟩ := hr'.open
 simp only [Ty.k, Ty.ks] at hk hsl hkl hk' hsl' hkl' ⊢
 have hn := hsl.le
 have hn' := hsl'.le
 obtain ⟨A, hA⟩ : ∃ A, R1 ks ks' = A := ⟨_, rfl⟩
 have hA' : A = true ↔ ks.length = ks'.length ∧ ∀ i, i < ks.length → K2 (ks.getD i A7) (ks'.getD i A7) = true := by
  rw [← hA, A1U]
  constructor
  ·rintro ⟨h1, h2⟩
   refine ⟨h1, fun i hi => ?_⟩
   have := h2 i hi (by omega)
   simpa [List.getD_eq_getElem?_getD, List.getElem?_eq_getElem hi, List.getElem?_eq_getElem (show i < ks'.length by omega)] using this
  ·rintro ⟨h1, h2⟩
   refine ⟨h1, fun i hi hi' => ?_⟩
   have := h2 i hi
   simpa [List.getD_eq_getElem?_getD, List.getElem?_eq_getElem hi, List.getElem?_eq_getElem hi'] using this
 refine B8 Tryz.func193 rfl Tryz.ntmps193 Tryz.results193 rfl ?_
 intro w0
 refine tS (tR ?_)
 refine sE (E7 rfl rfl) rfl (fun b3 => ?_)
 refine sE (E7 rfl rfl) rfl (fun b4 => ?_)
 refine B7 ?_
 refine sB (qE rfl rfl) rfl rfl (fun h12 => ?_) (fun h12 => ?_)
 refine A1R ?_
 exact ⟨rfl, by (rw [Y9, hA]; first | (rw [decide_eq_true (p := k = 1) (by omega)]; rfl) | (rw [decide_eq_false (p := k = 1) (by omega), decide_eq_true (p := k' = 1) (by omega)]; rfl) | (rw [decide_eq_false (p := k = 1) (by omega), decide_eq_false (p := k' = 1) (by omega), decide_eq_false (p := k = k') (by omega)]; rfl) | (rw [decide_eq_false (p := k = 1) (by omega), decide_eq_false (p := k' = 1) (by omega), decide_eq_true (p := k = k') (by omega)]; simp only [*]; rfl)), rfl⟩
 refine H0 ?_
 refine sB (qE rfl rfl) rfl rfl (fun h41 => ?_) (fun h41 => ?_)
 refine A0j ?_
 exact ⟨rfl, by (rw [Y9, hA]; first | (rw [decide_eq_true (p := k = 1) (by omega)]; rfl) | (rw [decide_eq_false (p := k = 1) (by omega), decide_eq_true (p := k' = 1) (by omega)]; rfl) | (rw [decide_eq_false (p := k = 1) (by omega), decide_eq_false (p := k' = 1) (by omega), decide_eq_false (p := k = k') (by omega)]; rfl) | (rw [decide_eq_false (p := k = 1) (by omega), decide_eq_false (p := k' = 1) (by omega), decide_eq_true (p := k = k') (by omega)]; simp only [*]; rfl)), rfl⟩
 refine K4 ?_
 refine sB (qE rfl rfl) rfl rfl (fun h69 => ?_) (fun h69 => ?_)
 refine S6 ?_
 refine J4 rfl (A7U _ _ _ _ _ _ _ _ _ hsl hsl' _ [] [] [] (fun i => K2 (ks.getD i A7) (ks'.getD i A7)) A hA' (fun i e e' he he' => ih _ (hkl.inv he A7).1 _ _ _ _ (hkl.inv he A7).2 (hkl'.inv he' A7).2)) rfl rfl (fun h75 => ?_) (fun h75 => ?_)
 refine B7 ?_
 exact ⟨rfl, by (rw [Y9, hA]; first | (rw [decide_eq_true (p := k = 1) (by omega)]; rfl) | (rw [decide_eq_false (p := k = 1) (by omega), decide_eq_true (p := k' = 1) (by omega)]; rfl) | (rw [decide_eq_false (p := k = 1) (by omega), decide_eq_false (p := k' = 1) (by omega), decide_eq_false (p := k = k') (by omega)]; rfl) | (rw [decide_eq_false (p := k = 1) (by omega), decide_eq_false (p := k' = 1) (by omega), decide_eq_true (p := k = k') (by omega)]; simp only [*]; rfl)), rfl⟩
 refine B7 ?_
 exact ⟨rfl, by (rw [Y9, hA]; first | (rw [decide_eq_true (p := k = 1) (by omega)]; rfl) | (rw [decide_eq_false (p := k = 1) (by omega), decide_eq_true (p := k' = 1) (by omega)]; rfl) | (rw [decide_eq_false (p := k = 1) (by omega), decide_eq_false (p := k' = 1) (by omega), decide_eq_false (p := k = k') (by omega)]; rfl) | (rw [decide_eq_false (p := k = 1) (by omega), decide_eq_false (p := k' = 1) (by omega), decide_eq_true (p := k = k') (by omega)]; simp only [*]; rfl)), rfl⟩
 refine I5 ?_
 exact ⟨rfl, by (rw [Y9, hA]; first | (rw [decide_eq_true (p := k = 1) (by omega)]; rfl) | (rw [decide_eq_false (p := k = 1) (by omega), decide_eq_true (p := k' = 1) (by omega)]; rfl) | (rw [decide_eq_false (p := k = 1) (by omega), decide_eq_false (p := k' = 1) (by omega), decide_eq_false (p := k = k') (by omega)]; rfl) | (rw [decide_eq_false (p := k = 1) (by omega), decide_eq_false (p := k' = 1) (by omega), decide_eq_true (p := k = k') (by omega)]; simp only [*]; rfl)), rfl⟩
theorem B2e (t t' : Ty) (G : IM) (cells cells' : List Value) (hr : B3 G t cells) (hr' : B3 G t' cells') :
  Fn Tryz.prog 161 [.agg ⟨cells⟩, .agg ⟨cells'⟩] [] G (L6 (.bool (A0C t t')) G) := by
 have hl := hr.len
 have hl' := hr'.len
 have hv := A5N t G cells hr
 have hv' := A5N t' G cells' hr'
 have hc := B2d t t' G cells cells' hr hr'
 refine B8 Tryz.func161 rfl Tryz.ntmps161 Tryz.results161 rfl ?_
 intro w0
 refine tS (tR ?_)
 refine sE (E7 rfl rfl) rfl (fun b3 => ?_)
 refine sE (E7 rfl rfl) rfl (fun b4 => ?_)
 refine sQ (qA rfl) rfl (sD (nS (tS (tR ?_))))
 refine sL (A6 rfl rfl (C8 (by repeat first | exact mH | apply mT)) (by assumption)) rfl rfl ?_
 refine J4 rfl (hv) rfl rfl (fun h11 => ?_) (fun h11 => ?_)
 refine sQ (qM rfl) rfl ?_
 refine sL (A6 rfl rfl (C8 (by repeat first | exact mH | apply mT)) (by assumption)) rfl rfl ?_
 refine J4 rfl (hv') rfl rfl (fun h14 => ?_) (fun h14 => ?_)
 refine sQ (J8 rfl rfl) rfl (sQ (qM rfl) rfl ?_)
 refine sL (A6 rfl rfl (C8 (by repeat first | exact mH | apply mT)) (by assumption)) rfl rfl ?_
 refine sL (A6 rfl rfl (C8 (by repeat first | exact mH | apply mT)) (by assumption)) rfl rfl ?_
 refine J4 rfl (hc) rfl rfl (fun h19 => ?_) (fun h19 => ?_)
 refine K4 ?_
 exact ⟨rfl, by simp only [A0C]; simp only [*, Bool.true_and, Bool.false_and, Bool.and_true], rfl⟩
 refine K4 ?_
 exact ⟨rfl, by simp only [A0C]; simp only [*, Bool.true_and, Bool.false_and, Bool.and_true], rfl⟩
 refine I6 ?_
 exact ⟨rfl, by simp only [A0C]; simp only [*, Bool.true_and, Bool.false_and, Bool.and_true], rfl⟩
 refine O8 ?_
 exact ⟨rfl, by simp only [A0C]; simp only [*, Bool.true_and, Bool.false_and, Bool.and_true], rfl⟩
theorem B2f (k : Int) (G : IM) (hk : H4 k) : Fn Tryz.prog 157 [.int .i64 k] [] G (L6 (.int .i64 (H6 k)) G) := by
 unfold H4 at hk
 refine B8 Tryz.func157 rfl Tryz.ntmps157 Tryz.results157 rfl ?_
 intro w0
 refine C7 ?_
 refine J4 rfl (A1n _ _ _ _) rfl rfl (fun h10 => ?_) (fun h10 => ?_)
 refine sQ (Y7 rfl) rfl (sD (nS (cF rfl (tK (nS (tS (tR ?_)))))))
 (refine D7 (D1 rfl rfl rfl (by omega) (by unfold maxLen; omega) rfl) rfl ?_; rintro _ ⟨b19, rfl⟩)
 refine sQ (qM rfl) rfl ?_
 (have hkk : 1 ≤ k ∧ k ≤ 14 := A1k (by assumption); refine sP (Q9 rfl rfl (by omega) (by omega)) rfl rfl ?_)
 refine sP (A7f rfl rfl rfl (by omega) (by omega)) rfl rfl ?_
 refine sL (M7 rfl rfl (B1j (by repeat first | exact mH | apply mT) (A2u (by rw [Nat.zero_add, Nat.mul_one]; exact B1O hkk)))) rfl rfl ?_
 refine sQ (qA rfl) rfl (sD (nS (tT (E9 (rT rfl) ?_))))
 exact ⟨rfl, rfl, rfl⟩
 refine Q4 ?_
 exact ⟨rfl, by rw [A7z (A7x (by assumption))], rfl⟩
theorem B2g (k : Int) (nm : ByteArray) (num : Int) (ty fr : Ty) (lb : Int) (ks : List Tm) (G : IM) (cells : List Value) (hr : B5 G (.mk k nm num ty fr lb ks) cells) :
  Fn Tryz.prog 92 [.agg ⟨cells⟩] [] G (L6 (.bool (U3 k nm num ty fr lb ks.length)) G) := by
 obtain ⟨tk, tks⟩ := ty
 obtain ⟨fk, fks⟩ := fr
 obtain ⟨pt, ct, pf, cf, p, c, es, rfl, hk, hnum, hlb, hty, hfr, hsl, hkl⟩ := hr.open9
 have hi := @U8 k nm num (.mk tk tks) (.mk fk fks) lb ks.length
 obtain ⟨R, hR⟩ : ∃ R, U3 k nm num (.mk tk tks) (.mk fk fks) lb ks.length = R := ⟨_, rfl⟩
 rw [hR] at hi ⊢
 clear hR hr
 have o1 := B2f k G hk
 have o2 := B2b nm G
 have o3 := A5N _ G _ hty
 have o4 := A7W _ G _ hty
 have o5 := B2e _ _ G _ _ hfr hty
 have o6 := B2a lb G
 have o7 := A7W _ G _ hfr
 refine B8 Tryz.func92 rfl Tryz.ntmps92 Tryz.results92 rfl ?_
 intro w0
 refine tS (tR ?_)
 refine sE (E7 rfl rfl) rfl (fun b3 => ?_)
 refine sQ (qA rfl) rfl (sD (nS (tS (tS ?_))))
 refine D3 D4 rfl ?_
 refine E8 (i := 0) (l' := [tt,ff,ff,ff,ff,ff,ff]) rfl C5 (A9 rfl) rfl (by kernel_rfl) rfl rfl ?_
 refine aL 1 rfl (C2 rfl rfl) rfl ?_
 refine aP 3 rfl (A9 rfl) rfl ?_
 refine aL 4 rfl (C2 rfl rfl) rfl ?_
 refine aP 5 rfl (pLn rfl rfl) rfl ?_
 refine A1 2 ?_
 refine I1 rfl rfl (o1) rfl rfl rfl ?_
 refine A0F (i := 6) (l' := [tt,tt,tt,tt,tt,tt,tt]) rfl C5 (P5 rfl rfl) rfl (by kernel_rfl) rfl rfl (fun h17 => ?_) (fun h17 => ?_)
 refine I6 ?_
 exact ⟨rfl, by (cases R with | false => rfl | true => (exfalso; obtain ⟨i1, i2, i3, i4, i5, i6, i7, i8, i9⟩ := hi.1 rfl; first | omega | (have j := i2 (by omega); simp_all; done) | (have j := i3 (by omega); simp_all; done) | (have j := i4 (by omega); simp_all; done) | (have j := i5 (by omega); simp_all; done) | (have j := i6 (by omega); simp_all; done) | (have j := i7 (by omega); simp_all; done) | (have j := i8 (by omega); simp_all; done) | (have j := i9 (by omega); simp_all; done))), rfl⟩
 refine C7 ?_
 refine sB (qE rfl rfl) rfl rfl (fun h39 => ?_) (fun h39 => ?_)
 refine Q4 ?_
 refine sP (M1 rfl rfl (by omega)) rfl rfl ?_
 refine H0 ?_
 refine sP (M1 rfl rfl (by omega)) rfl rfl ?_
 refine H9 ?_
 refine sP (M1 rfl rfl (by omega)) rfl rfl ?_
 refine F8 ?_
 refine sP (M1 rfl rfl (by omega)) rfl rfl ?_
 refine I5 ?_
 refine sP (M1 rfl rfl (by omega)) rfl rfl ?_
 refine sD (nS (cF rfl (tK (nS (tS ?_)))))
 refine C6 ?_
 refine B7 ?_
 refine J4 rfl (o2) rfl rfl (fun h99 => ?_) (fun h99 => ?_)
 refine A0I ?_
 refine J4 rfl (A1n _ _ _ _) rfl rfl (fun h123 => ?_) (fun h123 => ?_)
 refine A2t ?_
 refine J4 rfl (o4) rfl rfl (fun h149 => ?_) (fun h149 => ?_)
 refine W9 ?_
 refine H9 ?_
 refine J4 rfl (o7) rfl rfl (fun h184 => ?_) (fun h184 => ?_)
 refine H9 ?_
 refine sB (P5 rfl rfl) rfl rfl (fun h189 => ?_) (fun h189 => ?_)
 refine M3 ?_
 exact ⟨rfl, by (cases R with | false => rfl | true => (exfalso; obtain ⟨i1, i2, i3, i4, i5, i6, i7, i8, i9⟩ := hi.1 rfl; first | omega | (have j := i2 (by omega); simp_all; done) | (have j := i3 (by omega); simp_all; done) | (have j := i4 (by omega); simp_all; done) | (have j := i5 (by omega); simp_all; done) | (have j := i6 (by omega); simp_all; done) | (have j := i7 (by omega); simp_all; done) | (have j := i8 (by omega); simp_all; done) | (have j := i9 (by omega); simp_all; done))), rfl⟩
 refine N6 ?_
 exact ⟨rfl, by rw [hi.2 ⟨by omega, fun _ => by (first | assumption | (exfalso; omega) | exact Classical.not_not.1 (by assumption)), fun _ => by (first | assumption | (exfalso; omega) | exact Classical.not_not.1 (by assumption)), fun _ => by (first | assumption | (exfalso; omega) | exact Classical.not_not.1 (by assumption)), fun _ => by (first | assumption | (exfalso; omega) | exact Classical.not_not.1 (by assumption)), fun _ => by (first | assumption | (exfalso; omega) | exact Classical.not_not.1 (by assumption)), fun _ => by (first | assumption | (exfalso; omega) | exact Classical.not_not.1 (by assumption)), fun _ => ⟨by (first | assumption | (exfalso; omega)), by (first | assumption | (exfalso; omega))⟩, fun _ => ⟨by (first | assumption | (exfalso; omega)), by (first | assumption | omega)⟩⟩], rfl⟩
 refine A0j ?_
 exact ⟨rfl, by (cases R with | false => rfl | true => (exfalso; obtain ⟨i1, i2, i3, i4, i5, i6, i7, i8, i9⟩ := hi.1 rfl; first | omega | (have j := i2 (by omega); simp_all; done) | (have j := i3 (by omega); simp_all; done) | (have j := i4 (by omega); simp_all; done) | (have j := i5 (by omega); simp_all; done) | (have j := i6 (by omega); simp_all; done) | (have j := i7 (by omega); simp_all; done) | (have j := i8 (by omega); simp_all; done) | (have j := i9 (by omega); simp_all; done))), rfl⟩
 refine M3 ?_
 exact ⟨rfl, by (cases R with | false => rfl | true => (exfalso; obtain ⟨i1, i2, i3, i4, i5, i6, i7, i8, i9⟩ := hi.1 rfl; first | omega | (have j := i2 (by omega); simp_all; done) | (have j := i3 (by omega); simp_all; done) | (have j := i4 (by omega); simp_all; done) | (have j := i5 (by omega); simp_all; done) | (have j := i6 (by omega); simp_all; done) | (have j := i7 (by omega); simp_all; done) | (have j := i8 (by omega); simp_all; done) | (have j := i9 (by omega); simp_all; done))), rfl⟩
 refine O8 ?_
 exact ⟨rfl, by (cases R with | false => rfl | true => (exfalso; obtain ⟨i1, i2, i3, i4, i5, i6, i7, i8, i9⟩ := hi.1 rfl; first | omega | (have j := i2 (by omega); simp_all; done) | (have j := i3 (by omega); simp_all; done) | (have j := i4 (by omega); simp_all; done) | (have j := i5 (by omega); simp_all; done) | (have j := i6 (by omega); simp_all; done) | (have j := i7 (by omega); simp_all; done) | (have j := i8 (by omega); simp_all; done) | (have j := i9 (by omega); simp_all; done))), rfl⟩
 refine A0i ?_
 exact ⟨rfl, by (cases R with | false => rfl | true => (exfalso; obtain ⟨i1, i2, i3, i4, i5, i6, i7, i8, i9⟩ := hi.1 rfl; first | omega | (have j := i2 (by omega); simp_all; done) | (have j := i3 (by omega); simp_all; done) | (have j := i4 (by omega); simp_all; done) | (have j := i5 (by omega); simp_all; done) | (have j := i6 (by omega); simp_all; done) | (have j := i7 (by omega); simp_all; done) | (have j := i8 (by omega); simp_all; done) | (have j := i9 (by omega); simp_all; done))), rfl⟩
 refine H0 ?_
 refine sB (qE rfl rfl) rfl rfl (fun h297 => ?_) (fun h297 => ?_)
 refine F8 ?_
 refine sP (A0G rfl rfl (by omega)) rfl rfl ?_
 refine T5 ?_
 refine sP (M1 rfl rfl (by omega)) rfl rfl ?_
 refine I5 ?_
 refine sP (M1 rfl rfl (by omega)) rfl rfl ?_
 refine sD (nS (cF rfl (tK (nS (tS ?_)))))
 refine C6 ?_
 refine B7 ?_
 refine J4 rfl (o2) rfl rfl (fun h353 => ?_) (fun h353 => ?_)
 refine A0I ?_
 refine J4 rfl (A1n _ _ _ _) rfl rfl (fun h377 => ?_) (fun h377 => ?_)
 refine Q4 ?_
 refine J4 rfl (o3) rfl rfl (fun h390 => ?_) (fun h390 => ?_)
 refine W9 ?_
 refine T5 ?_
 refine J4 rfl (o7) rfl rfl (fun h438 => ?_) (fun h438 => ?_)
 refine H9 ?_
 refine sB (P5 rfl rfl) rfl rfl (fun h443 => ?_) (fun h443 => ?_)
 refine M3 ?_
 exact ⟨rfl, by (cases R with | false => rfl | true => (exfalso; obtain ⟨i1, i2, i3, i4, i5, i6, i7, i8, i9⟩ := hi.1 rfl; first | omega | (have j := i2 (by omega); simp_all; done) | (have j := i3 (by omega); simp_all; done) | (have j := i4 (by omega); simp_all; done) | (have j := i5 (by omega); simp_all; done) | (have j := i6 (by omega); simp_all; done) | (have j := i7 (by omega); simp_all; done) | (have j := i8 (by omega); simp_all; done) | (have j := i9 (by omega); simp_all; done))), rfl⟩
 refine N6 ?_
 exact ⟨rfl, by rw [hi.2 ⟨by omega, fun _ => by (first | assumption | (exfalso; omega) | exact Classical.not_not.1 (by assumption)), fun _ => by (first | assumption | (exfalso; omega) | exact Classical.not_not.1 (by assumption)), fun _ => by (first | assumption | (exfalso; omega) | exact Classical.not_not.1 (by assumption)), fun _ => by (first | assumption | (exfalso; omega) | exact Classical.not_not.1 (by assumption)), fun _ => by (first | assumption | (exfalso; omega) | exact Classical.not_not.1 (by assumption)), fun _ => by (first | assumption | (exfalso; omega) | exact Classical.not_not.1 (by assumption)), fun _ => ⟨by (first | assumption | (exfalso; omega)), by (first | assumption | (exfalso; omega))⟩, fun _ => ⟨by (first | assumption | (exfalso; omega)), by (first | assumption | omega)⟩⟩], rfl⟩
 refine A0j ?_
 exact ⟨rfl, by (cases R with | false => rfl | true => (exfalso; obtain ⟨i1, i2, i3, i4, i5, i6, i7, i8, i9⟩ := hi.1 rfl; first | omega | (have j := i2 (by omega); simp_all; done) | (have j := i3 (by omega); simp_all; done) | (have j := i4 (by omega); simp_all; done) | (have j := i5 (by omega); simp_all; done) | (have j := i6 (by omega); simp_all; done) | (have j := i7 (by omega); simp_all; done) | (have j := i8 (by omega); simp_all; done) | (have j := i9 (by omega); simp_all; done))), rfl⟩
 refine A0i ?_
 exact ⟨rfl, by (cases R with | false => rfl | true => (exfalso; obtain ⟨i1, i2, i3, i4, i5, i6, i7, i8, i9⟩ := hi.1 rfl; first | omega | (have j := i2 (by omega); simp_all; done) | (have j := i3 (by omega); simp_all; done) | (have j := i4 (by omega); simp_all; done) | (have j := i5 (by omega); simp_all; done) | (have j := i6 (by omega); simp_all; done) | (have j := i7 (by omega); simp_all; done) | (have j := i8 (by omega); simp_all; done) | (have j := i9 (by omega); simp_all; done))), rfl⟩
 refine O8 ?_
 exact ⟨rfl, by (cases R with | false => rfl | true => (exfalso; obtain ⟨i1, i2, i3, i4, i5, i6, i7, i8, i9⟩ := hi.1 rfl; first | omega | (have j := i2 (by omega); simp_all; done) | (have j := i3 (by omega); simp_all; done) | (have j := i4 (by omega); simp_all; done) | (have j := i5 (by omega); simp_all; done) | (have j := i6 (by omega); simp_all; done) | (have j := i7 (by omega); simp_all; done) | (have j := i8 (by omega); simp_all; done) | (have j := i9 (by omega); simp_all; done))), rfl⟩
 refine A0i ?_
 exact ⟨rfl, by (cases R with | false => rfl | true => (exfalso; obtain ⟨i1, i2, i3, i4, i5, i6, i7, i8, i9⟩ := hi.1 rfl; first | omega | (have j := i2 (by omega); simp_all; done) | (have j := i3 (by omega); simp_all; done) | (have j := i4 (by omega); simp_all; done) | (have j := i5 (by omega); simp_all; done) | (have j := i6 (by omega); simp_all; done) | (have j := i7 (by omega); simp_all; done) | (have j := i8 (by omega); simp_all; done) | (have j := i9 (by omega); simp_all; done))), rfl⟩
 refine F8 ?_
 refine sP (M1 rfl rfl (by omega)) rfl rfl ?_
 refine H0 ?_
 refine sB (qE rfl rfl) rfl rfl (fun h563 => ?_) (fun h563 => ?_)
 refine I5 ?_
 refine sP (M1 rfl rfl (by omega)) rfl rfl ?_
 refine I5 ?_
 refine sP (M1 rfl rfl (by omega)) rfl rfl ?_
 refine sD (nS (cF rfl (tK (nS (tS ?_)))))
 refine C6 ?_
 refine Y8 ?_
 refine sB (A1i rfl rfl) rfl rfl (fun h620 => ?_) (fun h620 => ?_)
 refine T5 ?_
 exact ⟨rfl, by (cases R with | false => rfl | true => (exfalso; obtain ⟨i1, i2, i3, i4, i5, i6, i7, i8, i9⟩ := hi.1 rfl; first | omega | (have j := i2 (by omega); simp_all; done) | (have j := i3 (by omega); simp_all; done) | (have j := i4 (by omega); simp_all; done) | (have j := i5 (by omega); simp_all; done) | (have j := i6 (by omega); simp_all; done) | (have j := i7 (by omega); simp_all; done) | (have j := i8 (by omega); simp_all; done) | (have j := i9 (by omega); simp_all; done))), rfl⟩
 refine C7 ?_
 refine J4 rfl (A1n _ _ _ _) rfl rfl (fun h648 => ?_) (fun h648 => ?_)
 refine Q4 ?_
 refine J4 rfl (o3) rfl rfl (fun h661 => ?_) (fun h661 => ?_)
 refine W9 ?_
 refine T5 ?_
 refine J4 rfl (o7) rfl rfl (fun h709 => ?_) (fun h709 => ?_)
 refine H9 ?_
 refine sB (P5 rfl rfl) rfl rfl (fun h714 => ?_) (fun h714 => ?_)
 refine M3 ?_
 exact ⟨rfl, by (cases R with | false => rfl | true => (exfalso; obtain ⟨i1, i2, i3, i4, i5, i6, i7, i8, i9⟩ := hi.1 rfl; first | omega | (have j := i2 (by omega); simp_all; done) | (have j := i3 (by omega); simp_all; done) | (have j := i4 (by omega); simp_all; done) | (have j := i5 (by omega); simp_all; done) | (have j := i6 (by omega); simp_all; done) | (have j := i7 (by omega); simp_all; done) | (have j := i8 (by omega); simp_all; done) | (have j := i9 (by omega); simp_all; done))), rfl⟩
 refine N6 ?_
 exact ⟨rfl, by rw [hi.2 ⟨by omega, fun _ => by (first | assumption | (exfalso; omega) | exact Classical.not_not.1 (by assumption)), fun _ => by (first | assumption | (exfalso; omega) | exact Classical.not_not.1 (by assumption)), fun _ => by (first | assumption | (exfalso; omega) | exact Classical.not_not.1 (by assumption)), fun _ => by (first | assumption | (exfalso; omega) | exact Classical.not_not.1 (by assumption)), fun _ => by (first | assumption | (exfalso; omega) | exact Classical.not_not.1 (by assumption)), fun _ => by (first | assumption | (exfalso; omega) | exact Classical.not_not.1 (by assumption)), fun _ => ⟨by (first | assumption | (exfalso; omega)), by (first | assumption | (exfalso; omega))⟩, fun _ => ⟨by (first | assumption | (exfalso; omega)), by (first | assumption | omega)⟩⟩], rfl⟩
 refine A0j ?_
 exact ⟨rfl, by (cases R with | false => rfl | true => (exfalso; obtain ⟨i1, i2, i3, i4, i5, i6, i7, i8, i9⟩ := hi.1 rfl; first | omega | (have j := i2 (by omega); simp_all; done) | (have j := i3 (by omega); simp_all; done) | (have j := i4 (by omega); simp_all; done) | (have j := i5 (by omega); simp_all; done) | (have j := i6 (by omega); simp_all; done) | (have j := i7 (by omega); simp_all; done) | (have j := i8 (by omega); simp_all; done) | (have j := i9 (by omega); simp_all; done))), rfl⟩
 refine A0i ?_
 exact ⟨rfl, by (cases R with | false => rfl | true => (exfalso; obtain ⟨i1, i2, i3, i4, i5, i6, i7, i8, i9⟩ := hi.1 rfl; first | omega | (have j := i2 (by omega); simp_all; done) | (have j := i3 (by omega); simp_all; done) | (have j := i4 (by omega); simp_all; done) | (have j := i5 (by omega); simp_all; done) | (have j := i6 (by omega); simp_all; done) | (have j := i7 (by omega); simp_all; done) | (have j := i8 (by omega); simp_all; done) | (have j := i9 (by omega); simp_all; done))), rfl⟩
 refine O8 ?_
 exact ⟨rfl, by (cases R with | false => rfl | true => (exfalso; obtain ⟨i1, i2, i3, i4, i5, i6, i7, i8, i9⟩ := hi.1 rfl; first | omega | (have j := i2 (by omega); simp_all; done) | (have j := i3 (by omega); simp_all; done) | (have j := i4 (by omega); simp_all; done) | (have j := i5 (by omega); simp_all; done) | (have j := i6 (by omega); simp_all; done) | (have j := i7 (by omega); simp_all; done) | (have j := i8 (by omega); simp_all; done) | (have j := i9 (by omega); simp_all; done))), rfl⟩
 refine H9 ?_
 refine sB (qE rfl rfl) rfl rfl (fun h807 => ?_) (fun h807 => ?_)
 refine F8 ?_
 refine sP (A0G rfl rfl (by omega)) rfl rfl ?_
 refine I5 ?_
 refine sP (M1 rfl rfl (by omega)) rfl rfl ?_
 refine sD (nS (cF rfl (tK (nS (tS ?_)))))
 refine C6 ?_
 refine Y8 ?_
 refine sB (A1i rfl rfl) rfl rfl (fun h859 => ?_) (fun h859 => ?_)
 refine T5 ?_
 exact ⟨rfl, by (cases R with | false => rfl | true => (exfalso; obtain ⟨i1, i2, i3, i4, i5, i6, i7, i8, i9⟩ := hi.1 rfl; first | omega | (have j := i2 (by omega); simp_all; done) | (have j := i3 (by omega); simp_all; done) | (have j := i4 (by omega); simp_all; done) | (have j := i5 (by omega); simp_all; done) | (have j := i6 (by omega); simp_all; done) | (have j := i7 (by omega); simp_all; done) | (have j := i8 (by omega); simp_all; done) | (have j := i9 (by omega); simp_all; done))), rfl⟩
 refine C7 ?_
 refine J4 rfl (A1n _ _ _ _) rfl rfl (fun h887 => ?_) (fun h887 => ?_)
 refine Q4 ?_
 refine J4 rfl (o3) rfl rfl (fun h900 => ?_) (fun h900 => ?_)
 refine B1D ?_
 refine J4 rfl (o5) rfl rfl (fun h929 => ?_) (fun h929 => ?_)
 refine H9 ?_
 refine J4 rfl (o6) rfl rfl (fun h934 => ?_) (fun h934 => ?_)
 refine W9 ?_
 refine sQ (qA rfl) rfl (sD (nS (tT (E9 (rT rfl) ?_))))
 exact ⟨rfl, by rw [hi.2 ⟨by omega, fun _ => by (first | assumption | (exfalso; omega) | exact Classical.not_not.1 (by assumption)), fun _ => by (first | assumption | (exfalso; omega) | exact Classical.not_not.1 (by assumption)), fun _ => by (first | assumption | (exfalso; omega) | exact Classical.not_not.1 (by assumption)), fun _ => by (first | assumption | (exfalso; omega) | exact Classical.not_not.1 (by assumption)), fun _ => by (first | assumption | (exfalso; omega) | exact Classical.not_not.1 (by assumption)), fun _ => by (first | assumption | (exfalso; omega) | exact Classical.not_not.1 (by assumption)), fun _ => ⟨by (first | assumption | (exfalso; omega)), by (first | assumption | (exfalso; omega))⟩, fun _ => ⟨by (first | assumption | (exfalso; omega)), by (first | assumption | omega)⟩⟩], rfl⟩
 refine A0v ?_
 exact ⟨rfl, by (cases R with | false => rfl | true => (exfalso; obtain ⟨i1, i2, i3, i4, i5, i6, i7, i8, i9⟩ := hi.1 rfl; first | omega | (have j := i2 (by omega); simp_all; done) | (have j := i3 (by omega); simp_all; done) | (have j := i4 (by omega); simp_all; done) | (have j := i5 (by omega); simp_all; done) | (have j := i6 (by omega); simp_all; done) | (have j := i7 (by omega); simp_all; done) | (have j := i8 (by omega); simp_all; done) | (have j := i9 (by omega); simp_all; done))), rfl⟩
 refine A1R ?_
 exact ⟨rfl, by (cases R with | false => rfl | true => (exfalso; obtain ⟨i1, i2, i3, i4, i5, i6, i7, i8, i9⟩ := hi.1 rfl; first | omega | (have j := i2 (by omega); simp_all; done) | (have j := i3 (by omega); simp_all; done) | (have j := i4 (by omega); simp_all; done) | (have j := i5 (by omega); simp_all; done) | (have j := i6 (by omega); simp_all; done) | (have j := i7 (by omega); simp_all; done) | (have j := i8 (by omega); simp_all; done) | (have j := i9 (by omega); simp_all; done))), rfl⟩
 refine A0i ?_
 exact ⟨rfl, by (cases R with | false => rfl | true => (exfalso; obtain ⟨i1, i2, i3, i4, i5, i6, i7, i8, i9⟩ := hi.1 rfl; first | omega | (have j := i2 (by omega); simp_all; done) | (have j := i3 (by omega); simp_all; done) | (have j := i4 (by omega); simp_all; done) | (have j := i5 (by omega); simp_all; done) | (have j := i6 (by omega); simp_all; done) | (have j := i7 (by omega); simp_all; done) | (have j := i8 (by omega); simp_all; done) | (have j := i9 (by omega); simp_all; done))), rfl⟩
 refine O8 ?_
 exact ⟨rfl, by (cases R with | false => rfl | true => (exfalso; obtain ⟨i1, i2, i3, i4, i5, i6, i7, i8, i9⟩ := hi.1 rfl; first | omega | (have j := i2 (by omega); simp_all; done) | (have j := i3 (by omega); simp_all; done) | (have j := i4 (by omega); simp_all; done) | (have j := i5 (by omega); simp_all; done) | (have j := i6 (by omega); simp_all; done) | (have j := i7 (by omega); simp_all; done) | (have j := i8 (by omega); simp_all; done) | (have j := i9 (by omega); simp_all; done))), rfl⟩
 refine F8 ?_
 refine sP (M1 rfl rfl (by omega)) rfl rfl ?_
 refine I5 ?_
 refine sB (qE rfl rfl) rfl rfl (fun h1072 => ?_) (fun h1072 => ?_)
 refine sD (nS (qT rfl (tR (sQ (qA rfl) rfl (sD (nS (tS ?_)))))))
 refine C6 ?_
 refine Y8 ?_
 refine sB (A1i rfl rfl) rfl rfl (fun h1103 => ?_) (fun h1103 => ?_)
 refine T5 ?_
 exact ⟨rfl, by (cases R with | false => rfl | true => (exfalso; obtain ⟨i1, i2, i3, i4, i5, i6, i7, i8, i9⟩ := hi.1 rfl; first | omega | (have j := i2 (by omega); simp_all; done) | (have j := i3 (by omega); simp_all; done) | (have j := i4 (by omega); simp_all; done) | (have j := i5 (by omega); simp_all; done) | (have j := i6 (by omega); simp_all; done) | (have j := i7 (by omega); simp_all; done) | (have j := i8 (by omega); simp_all; done) | (have j := i9 (by omega); simp_all; done))), rfl⟩
 refine C7 ?_
 refine J4 rfl (A1n _ _ _ _) rfl rfl (fun h1131 => ?_) (fun h1131 => ?_)
 refine A2t ?_
 refine J4 rfl (o4) rfl rfl (fun h1157 => ?_) (fun h1157 => ?_)
 refine W9 ?_
 refine H9 ?_
 refine J4 rfl (o7) rfl rfl (fun h1192 => ?_) (fun h1192 => ?_)
 refine H9 ?_
 refine sB (P5 rfl rfl) rfl rfl (fun h1197 => ?_) (fun h1197 => ?_)
 refine M3 ?_
 exact ⟨rfl, by (cases R with | false => rfl | true => (exfalso; obtain ⟨i1, i2, i3, i4, i5, i6, i7, i8, i9⟩ := hi.1 rfl; first | omega | (have j := i2 (by omega); simp_all; done) | (have j := i3 (by omega); simp_all; done) | (have j := i4 (by omega); simp_all; done) | (have j := i5 (by omega); simp_all; done) | (have j := i6 (by omega); simp_all; done) | (have j := i7 (by omega); simp_all; done) | (have j := i8 (by omega); simp_all; done) | (have j := i9 (by omega); simp_all; done))), rfl⟩
 refine N6 ?_
 exact ⟨rfl, by rw [hi.2 ⟨by omega, fun _ => by (first | assumption | (exfalso; omega) | exact Classical.not_not.1 (by assumption)), fun _ => by (first | assumption | (exfalso; omega) | exact Classical.not_not.1 (by assumption)), fun _ => by (first | assumption | (exfalso; omega) | exact Classical.not_not.1 (by assumption)), fun _ => by (first | assumption | (exfalso; omega) | exact Classical.not_not.1 (by assumption)), fun _ => by (first | assumption | (exfalso; omega) | exact Classical.not_not.1 (by assumption)), fun _ => by (first | assumption | (exfalso; omega) | exact Classical.not_not.1 (by assumption)), fun _ => ⟨by (first | assumption | (exfalso; omega)), by (first | assumption | (exfalso; omega))⟩, fun _ => ⟨by (first | assumption | (exfalso; omega)), by (first | assumption | omega)⟩⟩], rfl⟩
 refine A0j ?_
 exact ⟨rfl, by (cases R with | false => rfl | true => (exfalso; obtain ⟨i1, i2, i3, i4, i5, i6, i7, i8, i9⟩ := hi.1 rfl; first | omega | (have j := i2 (by omega); simp_all; done) | (have j := i3 (by omega); simp_all; done) | (have j := i4 (by omega); simp_all; done) | (have j := i5 (by omega); simp_all; done) | (have j := i6 (by omega); simp_all; done) | (have j := i7 (by omega); simp_all; done) | (have j := i8 (by omega); simp_all; done) | (have j := i9 (by omega); simp_all; done))), rfl⟩
 refine M3 ?_
 exact ⟨rfl, by (cases R with | false => rfl | true => (exfalso; obtain ⟨i1, i2, i3, i4, i5, i6, i7, i8, i9⟩ := hi.1 rfl; first | omega | (have j := i2 (by omega); simp_all; done) | (have j := i3 (by omega); simp_all; done) | (have j := i4 (by omega); simp_all; done) | (have j := i5 (by omega); simp_all; done) | (have j := i6 (by omega); simp_all; done) | (have j := i7 (by omega); simp_all; done) | (have j := i8 (by omega); simp_all; done) | (have j := i9 (by omega); simp_all; done))), rfl⟩
 refine O8 ?_
 exact ⟨rfl, by (cases R with | false => rfl | true => (exfalso; obtain ⟨i1, i2, i3, i4, i5, i6, i7, i8, i9⟩ := hi.1 rfl; first | omega | (have j := i2 (by omega); simp_all; done) | (have j := i3 (by omega); simp_all; done) | (have j := i4 (by omega); simp_all; done) | (have j := i5 (by omega); simp_all; done) | (have j := i6 (by omega); simp_all; done) | (have j := i7 (by omega); simp_all; done) | (have j := i8 (by omega); simp_all; done) | (have j := i9 (by omega); simp_all; done))), rfl⟩
 refine sD (nS (cF rfl (tK (nS (tS ?_)))))
 refine C6 ?_
 refine Y8 ?_
 refine sB (A1i rfl rfl) rfl rfl (fun h1311 => ?_) (fun h1311 => ?_)
 refine T5 ?_
 exact ⟨rfl, by (cases R with | false => rfl | true => (exfalso; obtain ⟨i1, i2, i3, i4, i5, i6, i7, i8, i9⟩ := hi.1 rfl; first | omega | (have j := i2 (by omega); simp_all; done) | (have j := i3 (by omega); simp_all; done) | (have j := i4 (by omega); simp_all; done) | (have j := i5 (by omega); simp_all; done) | (have j := i6 (by omega); simp_all; done) | (have j := i7 (by omega); simp_all; done) | (have j := i8 (by omega); simp_all; done) | (have j := i9 (by omega); simp_all; done))), rfl⟩
 refine C7 ?_
 refine J4 rfl (A1n _ _ _ _) rfl rfl (fun h1339 => ?_) (fun h1339 => ?_)
 refine A2t ?_
 refine J4 rfl (o4) rfl rfl (fun h1365 => ?_) (fun h1365 => ?_)
 refine W9 ?_
 refine H9 ?_
 refine J4 rfl (o7) rfl rfl (fun h1400 => ?_) (fun h1400 => ?_)
 refine H9 ?_
 refine sB (P5 rfl rfl) rfl rfl (fun h1405 => ?_) (fun h1405 => ?_)
 refine M3 ?_
 exact ⟨rfl, by (cases R with | false => rfl | true => (exfalso; obtain ⟨i1, i2, i3, i4, i5, i6, i7, i8, i9⟩ := hi.1 rfl; first | omega | (have j := i2 (by omega); simp_all; done) | (have j := i3 (by omega); simp_all; done) | (have j := i4 (by omega); simp_all; done) | (have j := i5 (by omega); simp_all; done) | (have j := i6 (by omega); simp_all; done) | (have j := i7 (by omega); simp_all; done) | (have j := i8 (by omega); simp_all; done) | (have j := i9 (by omega); simp_all; done))), rfl⟩
 refine N6 ?_
 exact ⟨rfl, by rw [hi.2 ⟨by omega, fun _ => by (first | assumption | (exfalso; omega) | exact Classical.not_not.1 (by assumption)), fun _ => by (first | assumption | (exfalso; omega) | exact Classical.not_not.1 (by assumption)), fun _ => by (first | assumption | (exfalso; omega) | exact Classical.not_not.1 (by assumption)), fun _ => by (first | assumption | (exfalso; omega) | exact Classical.not_not.1 (by assumption)), fun _ => by (first | assumption | (exfalso; omega) | exact Classical.not_not.1 (by assumption)), fun _ => by (first | assumption | (exfalso; omega) | exact Classical.not_not.1 (by assumption)), fun _ => ⟨by (first | assumption | (exfalso; omega)), by (first | assumption | (exfalso; omega))⟩, fun _ => ⟨by (first | assumption | (exfalso; omega)), by (first | assumption | omega)⟩⟩], rfl⟩
 refine A0j ?_
 exact ⟨rfl, by (cases R with | false => rfl | true => (exfalso; obtain ⟨i1, i2, i3, i4, i5, i6, i7, i8, i9⟩ := hi.1 rfl; first | omega | (have j := i2 (by omega); simp_all; done) | (have j := i3 (by omega); simp_all; done) | (have j := i4 (by omega); simp_all; done) | (have j := i5 (by omega); simp_all; done) | (have j := i6 (by omega); simp_all; done) | (have j := i7 (by omega); simp_all; done) | (have j := i8 (by omega); simp_all; done) | (have j := i9 (by omega); simp_all; done))), rfl⟩
 refine M3 ?_
 exact ⟨rfl, by (cases R with | false => rfl | true => (exfalso; obtain ⟨i1, i2, i3, i4, i5, i6, i7, i8, i9⟩ := hi.1 rfl; first | omega | (have j := i2 (by omega); simp_all; done) | (have j := i3 (by omega); simp_all; done) | (have j := i4 (by omega); simp_all; done) | (have j := i5 (by omega); simp_all; done) | (have j := i6 (by omega); simp_all; done) | (have j := i7 (by omega); simp_all; done) | (have j := i8 (by omega); simp_all; done) | (have j := i9 (by omega); simp_all; done))), rfl⟩
 refine O8 ?_
 exact ⟨rfl, by (cases R with | false => rfl | true => (exfalso; obtain ⟨i1, i2, i3, i4, i5, i6, i7, i8, i9⟩ := hi.1 rfl; first | omega | (have j := i2 (by omega); simp_all; done) | (have j := i3 (by omega); simp_all; done) | (have j := i4 (by omega); simp_all; done) | (have j := i5 (by omega); simp_all; done) | (have j := i6 (by omega); simp_all; done) | (have j := i7 (by omega); simp_all; done) | (have j := i8 (by omega); simp_all; done) | (have j := i9 (by omega); simp_all; done))), rfl⟩
theorem B2h (M D N : Int) (hM : 0 ≤ M ∧ M ≤ 1000) (hD : 0 ≤ D ∧ D ≤ 1000) (bc : Nat) : ∀ (t : Tm) (deep c : Int) (G : IM) (cells : List Value), 0 ≤ deep ∧ deep ≤ D + 1 → 0 ≤ c ∧ c ≤ M → B5 G t cells →
  Fn Tryz.prog 43 [.agg ⟨cells⟩, .int .i64 deep, .int .i64 M, .int .i64 D, .int .i64 N, .pointer (some ⟨bc, 0, none⟩)] [.blk bc [.int .i64 c]] G
   (Z9 (.bool (S7 M D N t deep c).1) [.blk bc [.int .i64 (S7 M D N t deep c).2]] G) := by
 refine Tm.ind fun k nm num ty fr lb ks ih deep c G cells hd hc hr => ?_
 have hno := B2g k nm num ty fr lb ks G cells hr
 obtain ⟨tk, tks⟩ := ty
 obtain ⟨fk, fks⟩ := fr
 obtain ⟨pt, ct, pf, cf, p, cp, es, rfl, hk, hnum, hlb, hty, hfr, hsl, hkl⟩ := hr.open9
 have hn := hsl.le
 obtain ⟨R, hR⟩ : ∃ R, U3 k nm num (.mk tk tks) (.mk fk fks) lb ks.length = R := ⟨_, rfl⟩
 rw [hR] at hno
 refine B8 Tryz.func43 rfl Tryz.ntmps43 Tryz.results43 rfl ?_
 intro w0
 refine tS (tR ?_)
 refine sE (E7 rfl rfl) rfl (fun b3 => ?_)
 refine sQ (qA rfl) rfl (sD (nS (tS (tR (sQ (qM rfl) rfl ?_)))))
 refine sQ (C1 rfl) rfl ?_
 refine sL (C2 rfl rfl) rfl rfl ?_
 refine sP (N0 rfl rfl (by omega) (by omega)) rfl rfl ?_
 refine sQ (C1 rfl) rfl ?_
 refine H2 ?_
 refine sD (nS (tS (tS (tR (sQ (qM rfl) rfl ?_)))))
 refine sQ (C1 rfl) rfl ?_
 refine sL (C2 rfl rfl) rfl rfl (sQ (qM rfl) rfl ?_)
 refine sB (Y2 rfl rfl) rfl rfl (fun h24 => ?_) (fun h24 => ?_)
 refine A1S ?_
 refine C4 (outs := [.blk bc [.int .i64 _]]) (rT rfl) (A0.cons (by repeat (first | exact Pk.here | apply Pk.there)) A0.nil) ?_
 (rw [A4l (by rw [hR]; first | omega | exact Or.inr (Or.inr (Or.inr (by assumption)))) ]; exact ⟨rfl, rfl, rfl⟩)
 refine sQ (qM rfl) rfl (sQ (qM rfl) rfl (sQ (qM rfl) rfl ?_))
 refine sB (Y2 rfl rfl) rfl rfl (fun h56 => ?_) (fun h56 => ?_)
 refine A2R ?_
 refine C4 (outs := [.blk bc [.int .i64 _]]) (rT rfl) (A0.cons (by repeat (first | exact Pk.here | apply Pk.there)) A0.nil) ?_
 (rw [A4l (by rw [hR]; first | omega | exact Or.inr (Or.inr (Or.inr (by assumption)))) ]; exact ⟨rfl, rfl, rfl⟩)
 refine S6 ?_
 refine sB (qE rfl rfl) rfl rfl (fun h86 => ?_) (fun h86 => ?_)
 refine N6 ?_
 refine C4 (outs := [.blk bc [.int .i64 _]]) (rT rfl) (A0.cons (by repeat (first | exact Pk.here | apply Pk.there)) A0.nil) ?_
 (rw [A4l (by rw [hR]; first | omega | exact Or.inr (Or.inr (Or.inr (by assumption)))) ]; exact ⟨rfl, rfl, rfl⟩)
 refine H0 ?_
 refine J4 rfl (hno) rfl rfl (fun h108 => ?_) (fun h108 => ?_)
 refine N6 ?_
 refine C6 ?_
 (have hmk := B1P (M := M) (D := D) (N := N) (deep := deep) (c := c) (by omega) (hR.trans (by assumption)); refine N4 (fun (x : Nat × Int) => ⟨[(44, .int .i64 x.1), (43, .int .i64 ks.length), (42, .slice p ks.length cp), (5, .pointer (some ⟨bc, 0, none⟩)), (4, .int .i64 N), (3, .int .i64 D), (2, .int .i64 M), (1, .int .i64 deep)], [.blk bc [.int .i64 x.2]], G⟩) (fun x => x.1 ≤ ks.length ∧ 0 ≤ x.2 ∧ x.2 ≤ M ∧ T6 M D N ks (deep + 1) (c + 1) = T6 M D N (ks.drop x.1) (deep + 1) x.2) (fun x => ks.length - x.1) (0, c + 1) ?_ ?_ ?_)
 (simp only [J9]; exact E0)
 exact ⟨by simp, by simp; omega, by simp; omega, by simp⟩
 (rintro ⟨i, ci⟩ ⟨hi, hc0, hc1, hst⟩; simp only [] at hi hc0 hc1 hst ⊢)
 refine tS (tR ?_)
 refine sB (L9 rfl rfl) rfl rfl (fun h132 => ?_) (fun h132 => ?_)
 refine sD (nS (tS (qT rfl (tK (nS (tS ?_))))))
 refine C6 ?_
 refine tS (tR ?_)
 (obtain ⟨b, o, e, rfl, hl, hat, hre, hgb⟩ := hsl.kidTm hkl (i := i) (by omega) (by omega); have hone := hre.one; have hle := A7A M D N ks[i] (deep + 1) ci hc0 hc1; refine sP (D0 rfl rfl rfl (by omega)) rfl rfl ?_)
 refine sL (A6 rfl rfl (hat _) hl) rfl rfl ?_
 refine sE (A8 rfl) rfl (fun b145 => ?_)
 refine M0 rfl rfl rfl (by assumption) (by assumption) rfl (by repeat first | exact Sw.here | apply Sw.there) (by exact I4 (by symm; assumption)) ?_
 refine sD (nS (tS (tR ?_)))
 refine sL (A6 rfl rfl (C8 (by repeat first | exact mH | apply mT)) (by assumption)) rfl rfl ?_
 refine sQ (qM rfl) rfl ?_
 refine sP (N0 rfl rfl (by omega) (by omega)) rfl rfl ?_
 refine H9 ?_
 refine B1C rfl (ih ks[i] (List.getElem_mem _) (deep + 1) ci G e (by omega) (by omega) hre) (Pk.perm (by repeat (first | exact Pk.here | apply Pk.there))) rfl rfl (fun h158 => ?_) (fun h158 => ?_)
 refine F8 ?_
 refine sP (N0 rfl rfl (by omega) (by omega)) rfl rfl ?_
 refine sQ (qM rfl) rfl (sD ?_)
 refine K5 (i + 1, (S7 M D N ks[i] (deep + 1) ci).2) ?_ ?_ ?_
 (simp only [J9]; exact E0)
 exact ⟨by omega, by omega, hle.2.2 (by assumption), by rw [hst, B1Q (by omega) (by assumption)]⟩
 (show ks.length - (i + 1) < ks.length - i; omega)
 refine M3 ?_
 refine C4 (outs := [.blk bc [.int .i64 _]]) (rT rfl) (A0.cons (by repeat (first | exact Pk.here | apply Pk.there)) A0.nil) ?_
 (rw [hmk, hst, B1R (by omega) (by assumption)]; exact ⟨rfl, rfl, rfl⟩)
 refine M3 ?_
 refine C4 (outs := [.blk bc [.int .i64 _]]) (rT rfl) (A0.cons (by repeat (first | exact Pk.here | apply Pk.there)) A0.nil) ?_
 (rw [hmk, hst, B1S (by omega)]; exact ⟨rfl, rfl, rfl⟩)
 refine Q4 ?_
 refine C4 (outs := [.blk bc [.int .i64 _]]) (rT rfl) (A0.cons (by repeat (first | exact Pk.here | apply Pk.there)) A0.nil) ?_
 (rw [A4l (by rw [hR]; first | omega | exact Or.inr (Or.inr (Or.inr (by assumption)))) ]; exact ⟨rfl, rfl, rfl⟩)
theorem A5O (t : Tm) (G : IM) (cells : List Value) (hr : B5 G t cells) : Fn Tryz.prog 36 [.agg ⟨cells⟩] [] G (L6 (.bool (R2 t)) G) := by
 have hl := hr.len
 refine B8 Tryz.func36 rfl Tryz.ntmps36 Tryz.results36 rfl ?_
 intro w0
 refine tS (tR ?_)
 refine sE (E7 rfl rfl) rfl (fun b3 => ?_)
 refine sQ (qA rfl) rfl (sD (nS (tS (tR ?_))))
 refine sE (A8 rfl) rfl (fun b9 => ?_)
 refine H2 ?_
 refine sD (nS (tS (tR ?_)))
 refine sL (A6 rfl rfl (C8 (by repeat first | exact mH | apply mT)) (by assumption)) rfl rfl ?_
 refine A5F rfl (B2h 200 40 13 (by omega) (by omega) _ t 1 0 G cells (by omega) (by omega) hr) A1Q rfl rfl ?_
 refine sQ (qA rfl) rfl (sD (nS (tT (E9 (rT rfl) ?_))))
 exact ⟨rfl, rfl, rfl⟩
theorem A5P (k : Int) (G : IM) : Fn Tryz.prog 175 [.int .i64 k] [] G (L6 (.int .i64 (Q5 k)) G) := by
 refine B8 Tryz.func175 rfl Tryz.ntmps175 Tryz.results175 rfl ?_
 intro w0
 refine I6 ?_
 refine C6 ?_
 refine tS (tS (tR ?_))
 refine sB (qE rfl rfl) rfl rfl (fun h16 => ?_) (fun h16 => ?_)
 refine N6 ?_
 exact ⟨rfl, by (first | rw [(N5 k).1 (by omega)] | rw [(N5 k).2.1 (by omega)] | rw [(N5 k).2.2 (by omega) (by omega) (by omega) (by omega) (by omega)]), rfl⟩
 refine sQ (qA rfl) rfl (sD (nS (cF rfl (tS (tR ?_)))))
 refine sB (qE rfl rfl) rfl rfl (fun h40 => ?_) (fun h40 => ?_)
 refine N6 ?_
 exact ⟨rfl, by (first | rw [(N5 k).1 (by omega)] | rw [(N5 k).2.1 (by omega)] | rw [(N5 k).2.2 (by omega) (by omega) (by omega) (by omega) (by omega)]), rfl⟩
 refine sQ (qA rfl) rfl (sD (nS (cF rfl (tR ?_))))
 refine sB (qE rfl rfl) rfl rfl (fun h63 => ?_) (fun h63 => ?_)
 refine I5 ?_
 exact ⟨rfl, by (first | rw [(N5 k).1 (by omega)] | rw [(N5 k).2.1 (by omega)] | rw [(N5 k).2.2 (by omega) (by omega) (by omega) (by omega) (by omega)]), rfl⟩
 refine sQ (qA rfl) rfl (sD (nS (cF rfl (tS (tS (tR ?_))))))
 refine sB (qE rfl rfl) rfl rfl (fun h85 => ?_) (fun h85 => ?_)
 refine N6 ?_
 exact ⟨rfl, by (first | rw [(N5 k).1 (by omega)] | rw [(N5 k).2.1 (by omega)] | rw [(N5 k).2.2 (by omega) (by omega) (by omega) (by omega) (by omega)]), rfl⟩
 refine sQ (qA rfl) rfl (sD (nS (cF rfl (tR ?_))))
 refine sB (qE rfl rfl) rfl rfl (fun h108 => ?_) (fun h108 => ?_)
 refine I5 ?_
 exact ⟨rfl, by (first | rw [(N5 k).1 (by omega)] | rw [(N5 k).2.1 (by omega)] | rw [(N5 k).2.2 (by omega) (by omega) (by omega) (by omega) (by omega)]), rfl⟩
 refine O8 ?_
 exact ⟨rfl, by (first | rw [(N5 k).1 (by omega)] | rw [(N5 k).2.1 (by omega)] | rw [(N5 k).2.2 (by omega) (by omega) (by omega) (by omega) (by omega)]), rfl⟩
theorem A4t (k : Int) (G : IM) : Fn Tryz.prog 93 [.int .i64 k] [] G (L6 (.int .i64 (H6 k)) G) := by
 refine B8 Tryz.func93 rfl Tryz.ntmps93 Tryz.results93 rfl ?_
 intro w0
 refine I6 ?_
 refine C6 ?_
 refine tS (tS (tR ?_))
 refine sB (qE rfl rfl) rfl rfl (fun h16 => ?_) (fun h16 => ?_)
 refine N6 ?_
 exact ⟨rfl, by (unfold H6; first | rw [if_pos (by omega)] | rw [if_neg (by omega), if_pos (by omega)] | rw [if_neg (by omega), if_neg (by omega), if_pos (by omega)] | rw [if_neg (by omega), if_neg (by omega), if_neg (by omega), if_pos (by omega)] | rw [if_neg (by omega), if_neg (by omega), if_neg (by omega), if_neg (by omega)]), rfl⟩
 refine sQ (qA rfl) rfl (sD (nS (cF rfl (tS (tR ?_)))))
 refine sB (qE rfl rfl) rfl rfl (fun h40 => ?_) (fun h40 => ?_)
 refine N6 ?_
 exact ⟨rfl, by (unfold H6; first | rw [if_pos (by omega)] | rw [if_neg (by omega), if_pos (by omega)] | rw [if_neg (by omega), if_neg (by omega), if_pos (by omega)] | rw [if_neg (by omega), if_neg (by omega), if_neg (by omega), if_pos (by omega)] | rw [if_neg (by omega), if_neg (by omega), if_neg (by omega), if_neg (by omega)]), rfl⟩
 refine sQ (qA rfl) rfl (sD (nS (cF rfl (tS (tR ?_)))))
 refine sB (qE rfl rfl) rfl rfl (fun h64 => ?_) (fun h64 => ?_)
 refine N6 ?_
 exact ⟨rfl, by (unfold H6; first | rw [if_pos (by omega)] | rw [if_neg (by omega), if_pos (by omega)] | rw [if_neg (by omega), if_neg (by omega), if_pos (by omega)] | rw [if_neg (by omega), if_neg (by omega), if_neg (by omega), if_pos (by omega)] | rw [if_neg (by omega), if_neg (by omega), if_neg (by omega), if_neg (by omega)]), rfl⟩
 refine sQ (qA rfl) rfl (sD (nS (cF rfl (tR ?_))))
 refine sB (qE rfl rfl) rfl rfl (fun h87 => ?_) (fun h87 => ?_)
 refine I5 ?_
 exact ⟨rfl, by (unfold H6; first | rw [if_pos (by omega)] | rw [if_neg (by omega), if_pos (by omega)] | rw [if_neg (by omega), if_neg (by omega), if_pos (by omega)] | rw [if_neg (by omega), if_neg (by omega), if_neg (by omega), if_pos (by omega)] | rw [if_neg (by omega), if_neg (by omega), if_neg (by omega), if_neg (by omega)]), rfl⟩
 refine sQ (qA rfl) rfl (sD (nS (cF rfl (tS (tS (tR ?_))))))
 refine sB (qE rfl rfl) rfl rfl (fun h109 => ?_) (fun h109 => ?_)
 refine N6 ?_
 exact ⟨rfl, by (unfold H6; first | rw [if_pos (by omega)] | rw [if_neg (by omega), if_pos (by omega)] | rw [if_neg (by omega), if_neg (by omega), if_pos (by omega)] | rw [if_neg (by omega), if_neg (by omega), if_neg (by omega), if_pos (by omega)] | rw [if_neg (by omega), if_neg (by omega), if_neg (by omega), if_neg (by omega)]), rfl⟩
 refine sQ (qA rfl) rfl (sD (nS (cF rfl (tS (tR ?_)))))
 refine sB (qE rfl rfl) rfl rfl (fun h133 => ?_) (fun h133 => ?_)
 refine N6 ?_
 exact ⟨rfl, by (unfold H6; first | rw [if_pos (by omega)] | rw [if_neg (by omega), if_pos (by omega)] | rw [if_neg (by omega), if_neg (by omega), if_pos (by omega)] | rw [if_neg (by omega), if_neg (by omega), if_neg (by omega), if_pos (by omega)] | rw [if_neg (by omega), if_neg (by omega), if_neg (by omega), if_neg (by omega)]), rfl⟩
 refine sQ (qA rfl) rfl (sD (nS (cF rfl (tS (tR ?_)))))
 refine sB (qE rfl rfl) rfl rfl (fun h157 => ?_) (fun h157 => ?_)
 refine N6 ?_
 exact ⟨rfl, by (unfold H6; first | rw [if_pos (by omega)] | rw [if_neg (by omega), if_pos (by omega)] | rw [if_neg (by omega), if_neg (by omega), if_pos (by omega)] | rw [if_neg (by omega), if_neg (by omega), if_neg (by omega), if_pos (by omega)] | rw [if_neg (by omega), if_neg (by omega), if_neg (by omega), if_neg (by omega)]), rfl⟩
 refine sQ (qA rfl) rfl (sD (nS (cF rfl (tS (tR ?_)))))
 refine sB (qE rfl rfl) rfl rfl (fun h181 => ?_) (fun h181 => ?_)
 refine N6 ?_
 exact ⟨rfl, by (unfold H6; first | rw [if_pos (by omega)] | rw [if_neg (by omega), if_pos (by omega)] | rw [if_neg (by omega), if_neg (by omega), if_pos (by omega)] | rw [if_neg (by omega), if_neg (by omega), if_neg (by omega), if_pos (by omega)] | rw [if_neg (by omega), if_neg (by omega), if_neg (by omega), if_neg (by omega)]), rfl⟩
 refine sQ (qA rfl) rfl (sD (nS (cF rfl (tR ?_))))
 refine sB (qE rfl rfl) rfl rfl (fun h204 => ?_) (fun h204 => ?_)
 refine I5 ?_
 exact ⟨rfl, by (unfold H6; first | rw [if_pos (by omega)] | rw [if_neg (by omega), if_pos (by omega)] | rw [if_neg (by omega), if_neg (by omega), if_pos (by omega)] | rw [if_neg (by omega), if_neg (by omega), if_neg (by omega), if_pos (by omega)] | rw [if_neg (by omega), if_neg (by omega), if_neg (by omega), if_neg (by omega)]), rfl⟩
 refine sQ (qA rfl) rfl (sD (nS (cF rfl (tS (tS (tR ?_))))))
 refine sB (qE rfl rfl) rfl rfl (fun h226 => ?_) (fun h226 => ?_)
 refine N6 ?_
 exact ⟨rfl, by (unfold H6; first | rw [if_pos (by omega)] | rw [if_neg (by omega), if_pos (by omega)] | rw [if_neg (by omega), if_neg (by omega), if_pos (by omega)] | rw [if_neg (by omega), if_neg (by omega), if_neg (by omega), if_pos (by omega)] | rw [if_neg (by omega), if_neg (by omega), if_neg (by omega), if_neg (by omega)]), rfl⟩
 refine sQ (qA rfl) rfl (sD (nS (cF rfl (tS (tR ?_)))))
 refine sB (qE rfl rfl) rfl rfl (fun h250 => ?_) (fun h250 => ?_)
 refine N6 ?_
 exact ⟨rfl, by (unfold H6; first | rw [if_pos (by omega)] | rw [if_neg (by omega), if_pos (by omega)] | rw [if_neg (by omega), if_neg (by omega), if_pos (by omega)] | rw [if_neg (by omega), if_neg (by omega), if_neg (by omega), if_pos (by omega)] | rw [if_neg (by omega), if_neg (by omega), if_neg (by omega), if_neg (by omega)]), rfl⟩
 refine sQ (qA rfl) rfl (sD (nS (cF rfl (tS (tR ?_)))))
 refine sB (qE rfl rfl) rfl rfl (fun h274 => ?_) (fun h274 => ?_)
 refine N6 ?_
 exact ⟨rfl, by (unfold H6; first | rw [if_pos (by omega)] | rw [if_neg (by omega), if_pos (by omega)] | rw [if_neg (by omega), if_neg (by omega), if_pos (by omega)] | rw [if_neg (by omega), if_neg (by omega), if_neg (by omega), if_pos (by omega)] | rw [if_neg (by omega), if_neg (by omega), if_neg (by omega), if_neg (by omega)]), rfl⟩
 refine sQ (qA rfl) rfl (sD (nS (cF rfl (tR ?_))))
 refine sB (qE rfl rfl) rfl rfl (fun h297 => ?_) (fun h297 => ?_)
 refine I5 ?_
 exact ⟨rfl, by (unfold H6; first | rw [if_pos (by omega)] | rw [if_neg (by omega), if_pos (by omega)] | rw [if_neg (by omega), if_neg (by omega), if_pos (by omega)] | rw [if_neg (by omega), if_neg (by omega), if_neg (by omega), if_pos (by omega)] | rw [if_neg (by omega), if_neg (by omega), if_neg (by omega), if_neg (by omega)]), rfl⟩
 refine sQ (qA rfl) rfl (sD (nS (cF rfl (tS (tR ?_)))))
 refine sB (qE rfl rfl) rfl rfl (fun h318 => ?_) (fun h318 => ?_)
 refine I5 ?_
 exact ⟨rfl, by (unfold H6; first | rw [if_pos (by omega)] | rw [if_neg (by omega), if_pos (by omega)] | rw [if_neg (by omega), if_neg (by omega), if_pos (by omega)] | rw [if_neg (by omega), if_neg (by omega), if_neg (by omega), if_pos (by omega)] | rw [if_neg (by omega), if_neg (by omega), if_neg (by omega), if_neg (by omega)]), rfl⟩
 refine O8 ?_
 exact ⟨rfl, by (unfold H6; first | rw [if_pos (by omega)] | rw [if_neg (by omega), if_pos (by omega)] | rw [if_neg (by omega), if_neg (by omega), if_pos (by omega)] | rw [if_neg (by omega), if_neg (by omega), if_neg (by omega), if_pos (by omega)] | rw [if_neg (by omega), if_neg (by omega), if_neg (by omega), if_neg (by omega)]), rfl⟩
theorem A7X (s : ByteArray) (G : IM) : Fn Tryz.prog 104 [.string s] [] G (L6 (.bool (V5 s)) G) := by
 refine B8 Tryz.func104 rfl Tryz.ntmps104 Tryz.results104 rfl ?_
 intro w0
 refine F8 ?_
 refine sQ (P9 rfl rfl) rfl (sB (qE rfl rfl) rfl rfl (fun h10 => ?_) (fun h10 => ?_))
 refine sQ (qM rfl) rfl (sQ (qM rfl) rfl ?_)
 refine sP (R8 rfl rfl rfl (by omega) (A4k (by omega))) rfl rfl ?_
 refine sB (S4 rfl rfl) rfl rfl (fun h14 => ?_) (fun h14 => ?_)
 refine sQ (J8 rfl rfl) rfl (sQ (qM rfl) rfl (sQ (qM rfl) rfl ?_))
 refine sP (R8 rfl rfl rfl (by omega) (A4k (by omega))) rfl rfl ?_
 refine sB (W8 rfl rfl) rfl rfl (fun h19 => ?_) (fun h19 => ?_)
 refine K4 ?_
 exact ⟨rfl, by simp only [V5]; (try simp only [Int.toNat_zero] at *); (first | rw [decide_eq_true (by omega)] | rw [decide_eq_false (by omega)]), rfl⟩
 refine K4 ?_
 exact ⟨rfl, by simp only [V5]; (try simp only [Int.toNat_zero] at *); (first | rw [decide_eq_true (by omega)] | rw [decide_eq_false (by omega)]), rfl⟩
 refine I6 ?_
 exact ⟨rfl, by simp only [V5]; (try simp only [Int.toNat_zero] at *); (first | rw [decide_eq_true (by omega)] | rw [decide_eq_false (by omega)]), rfl⟩
 refine M3 ?_
 exact ⟨rfl, by simp only [V5]; (try simp only [Int.toNat_zero] at *); (first | rw [decide_eq_true (by omega)] | rw [decide_eq_false (by omega)]), rfl⟩
theorem A7Y (t : Ty) (G : IM) (cells : List Value) (hr : B3 G t cells) : Fn Tryz.prog 164 [.agg ⟨cells⟩] [] G (L6 (.bool (X1 t)) G) := by
 obtain ⟨p, c, es, rfl, hk, hsl, hkl⟩ := hr.open
 refine B8 Tryz.func164 rfl Tryz.ntmps164 Tryz.results164 rfl ?_
 intro w0
 refine tS (tR ?_)
 refine sE (E7 rfl rfl) rfl (fun b3 => ?_)
 refine B7 ?_
 refine sB (qE rfl rfl) rfl rfl (fun h11 => ?_) (fun h11 => ?_)
 refine H9 ?_
 refine sB (qE rfl rfl) rfl rfl (fun h16 => ?_) (fun h16 => ?_)
 refine K4 ?_
 exact ⟨rfl, by simp only [X1]; (first | rw [decide_eq_true (by omega)] | rw [decide_eq_false (by omega)]), rfl⟩
 refine K4 ?_
 exact ⟨rfl, by simp only [X1]; (first | rw [decide_eq_true (by omega)] | rw [decide_eq_false (by omega)]), rfl⟩
 refine I6 ?_
 exact ⟨rfl, by simp only [X1]; (first | rw [decide_eq_true (by omega)] | rw [decide_eq_false (by omega)]), rfl⟩
def A0K (n : Int) : Int := if n < -99 ∨ n > 99 then 0 else if n < 0 then -n else n
theorem B2i (n : Int) (G : IM) : Fn Tryz.prog 185 [.int .i64 n] [] G (L6 (.int .i64 (A0K n)) G) := by
 refine B8 Tryz.func185 rfl Tryz.ntmps185 Tryz.results185 rfl ?_
 intro w0
 refine C7 ?_
 refine sB (L9 rfl rfl) rfl rfl (fun h10 => ?_) (fun h10 => ?_)
 refine M3 ?_
 exact ⟨rfl, by (unfold A0K; first | rw [if_pos (by omega)] | rw [if_neg (by omega), if_pos (by omega)] | rw [if_neg (by omega), if_neg (by omega)]), rfl⟩
 refine sQ (qM rfl) rfl (sQ (qM rfl) rfl ?_)
 refine sB (Y2 rfl rfl) rfl rfl (fun h29 => ?_) (fun h29 => ?_)
 refine Q4 ?_
 exact ⟨rfl, by (unfold A0K; first | rw [if_pos (by omega)] | rw [if_neg (by omega), if_pos (by omega)] | rw [if_neg (by omega), if_neg (by omega)]), rfl⟩
 refine M2 ?_
 refine sB (L9 rfl rfl) rfl rfl (fun h53 => ?_) (fun h53 => ?_)
 refine sD (nS (qT rfl (tS (tR (sQ (qM rfl) rfl ?_)))))
 refine sP (A2O rfl (by omega) (by omega)) rfl rfl ?_
 refine sQ (qA rfl) rfl (sD (nS (tT (rS (E9 (rT rfl) ?_)))))
 exact ⟨rfl, by (unfold A0K; first | rw [if_pos (by omega)] | rw [if_neg (by omega), if_pos (by omega)] | rw [if_neg (by omega), if_neg (by omega)]), rfl⟩
 refine I5 ?_
 exact ⟨rfl, by (unfold A0K; first | rw [if_pos (by omega)] | rw [if_neg (by omega), if_pos (by omega)] | rw [if_neg (by omega), if_neg (by omega)]), rfl⟩
theorem A7Z {k : Int} {ks : List Ty} {d : Int} (h : 4 < d ∨ Q5 k ≠ ks.length) : H8 (.mk k ks) d = false := by
 rw [H8]
 rcases h with h | h
 ·rw [decide_eq_false (by omega)]; rfl
 ·rw [decide_eq_false (p := Q5 k = ks.length) h, Bool.and_false]; rfl
theorem A70 {k : Int} {ks : List Ty} {d : Int} (h : d ≤ 4) (h2 : Q5 k = ks.length) : H8 (.mk k ks) d = T1 ks (d + 1) := by
 rw [H8, decide_eq_true h, decide_eq_true h2]; rfl
theorem B2j {ks : List Ty} {d : Int} {i : Nat} (hi : i < ks.length) (h : H8 ks[i] d = false) : T1 ks d = false := by
 cases hx : T1 ks d with
 | false => rfl
 | true => rw [(A3w ks d).1 hx i hi] at h; cases h
theorem B2k : ∀ (t : Ty) (d : Int) (G : IM) (cells : List Value), 0 ≤ d ∧ d ≤ 4 → B3 G t cells →
  Fn Tryz.prog 194 [.agg ⟨cells⟩, .int .i64 d] [] G (L6 (.bool (H8 t (5 - d))) G) := by
 refine Ty.ind fun k ks ih d G cells hd hr => ?_
 obtain ⟨p, c, es, rfl, hk, hsl, hkl⟩ := hr.open
 simp only [Ty.k, Ty.ks] at hk hsl hkl ⊢
 have hn := hsl.le
 have hk1 := A5P k G
 refine B8 Tryz.func194 rfl Tryz.ntmps194 Tryz.results194 rfl ?_
 intro w0
 refine tS (tR ?_)
 refine sE (E7 rfl rfl) rfl (fun b3 => ?_)
 refine sQ (qA rfl) rfl (sD (nS (tS (tS ?_))))
 refine D3 D4 rfl ?_
 refine E8 (i := 0) (l' := [tt,ff,ff,ff,ff,ff,ff,ff,ff,ff,ff]) rfl C5 (qM rfl) rfl (by kernel_rfl) rfl rfl ?_
 refine A0F (i := 1) (l' := [tt,tt,ff,ff,ff,ff,ff,ff,ff,ff,ff]) rfl C5 (L9 rfl rfl) rfl (by kernel_rfl) rfl rfl (fun h11 => ?_) (fun h11 => ?_)
 refine aP 2 rfl (qM rfl) rfl ?_
 refine B1 3 rfl rfl rfl ?_
 refine B1 4 rfl rfl rfl ?_
 refine B1 6 rfl rfl rfl ?_
 refine B1 7 rfl rfl rfl ?_
 refine B1 8 rfl rfl rfl ?_
 refine B1 5 rfl rfl rfl ?_
 refine B1 9 rfl rfl rfl ?_
 refine aP 10 rfl (J8 rfl rfl) rfl ?_
 refine I6 ?_
 (rw [A7Z (by omega)]; exact ⟨rfl, rfl, rfl⟩)
 refine aP 2 rfl (qM rfl) rfl ?_
 refine aP 3 rfl (A9 rfl) rfl ?_
 refine aL 4 rfl (C2 rfl rfl) rfl ?_
 refine aP 6 rfl (A9 rfl) rfl ?_
 refine aL 7 rfl (C2 rfl rfl) rfl ?_
 refine aP 8 rfl (pLn rfl rfl) rfl ?_
 refine A1 5 ?_
 refine I1 rfl rfl (hk1) rfl rfl rfl ?_
 refine A0F (i := 9) (l' := [tt,tt,tt,tt,tt,tt,tt,tt,tt,tt,ff]) rfl C5 (P5 rfl rfl) rfl (by kernel_rfl) rfl rfl (fun h41 => ?_) (fun h41 => ?_)
 refine aP 10 rfl (M4 rfl rfl) rfl ?_
 refine I6 ?_
 (rw [A7Z (by omega)]; exact ⟨rfl, rfl, rfl⟩)
 refine aP 10 rfl (M4 rfl rfl) rfl ?_
 refine I6 ?_
 refine C6 ?_
 (refine N4 (fun (i : Nat) => ⟨[(5, .int .i64 i), (2, .pointer (some ⟨b3, 0, none⟩)), (1, .int .i64 d)], [.blk b3 [.int .i64 k, .slice p ks.length c]], G⟩) (fun i => i ≤ ks.length ∧ ∀ j (h : j < ks.length), j < i → H8 ks[j] (5 - d + 1) = true) (fun i => ks.length - i) 0 ?_ ?_ ?_)
 exact E0
 exact ⟨by omega, by omega⟩
 (rintro i ⟨hi, hf⟩)
 refine B7 ?_
 refine sB (L9 rfl rfl) rfl rfl (fun h79 => ?_) (fun h79 => ?_)
 refine sD (nS (qT rfl (tK (nS (tS ?_)))))
 refine C6 ?_
 refine S6 ?_
 (obtain ⟨b, o, p2, c2, rfl, hat, hre, hgb⟩ := hsl.kidTy hkl (i := i) (by omega) (by omega); refine sP (D0 rfl rfl rfl (by omega)) rfl rfl ?_)
 refine sL (A6 rfl rfl (hat _) rfl) rfl rfl ?_
 refine sQ (qM rfl) rfl ?_
 refine sP (Q9 rfl rfl (by omega) (by omega)) rfl rfl ?_
 (have hih := ih ks[i] (List.getElem_mem (by omega)) (d - 1) G _ (by omega) hre; rw [show 5 - (d - 1) = 5 - d + 1 by omega] at hih; refine J4 rfl hih rfl rfl (fun h96 => ?_) (fun h96 => ?_))
 refine C7 ?_
 refine sP (N0 rfl rfl (by omega) (by omega)) rfl rfl ?_
 refine sQ (qA rfl) rfl (sD ?_)
 refine K5 (i + 1) ?_ ?_ ?_
 exact E0
 exact ⟨by omega, fun j hj hji => by (by_cases he : j = i; (subst he; assumption); exact hf j hj (by omega))⟩
 omega
 refine N6 ?_
 (rw [A70 (by omega) (by omega), B2j (i := i) (by omega) (by assumption)]; exact ⟨rfl, rfl, rfl⟩)
 refine M3 ?_
 (rw [A70 (by omega) (by omega), (A3w ks _).2 (fun j hj => hf j hj (by omega))]; exact ⟨rfl, rfl, rfl⟩)
theorem A0L (t : Ty) (G : IM) (cells : List Value) (hr : B3 G t cells) : Fn Tryz.prog 163 [.agg ⟨cells⟩] [] G (L6 (.bool (H3 t)) G) := by
 have hl := hr.len
 have hv := B2k t 4 G cells (by omega) hr
 refine B8 Tryz.func163 rfl Tryz.ntmps163 Tryz.results163 rfl ?_
 intro w0
 refine tS (tR ?_)
 refine sE (E7 rfl rfl) rfl (fun b3 => ?_)
 refine sQ (qA rfl) rfl (sD (nS (tS (tR ?_))))
 refine sL (A6 rfl rfl (C8 (by repeat first | exact mH | apply mT)) (by assumption)) rfl rfl ?_
 refine H7 rfl (hv) rfl rfl ?_
 refine sQ (qA rfl) rfl (sD (nS (tT (E9 (rT rfl) ?_))))
 exact ⟨rfl, rfl, rfl⟩
theorem A3C {k : Int} {ks : List Ty} {d : Int} (h : H8 (.mk k ks) d = true) : Q5 k = ks.length ∧ ∀ i, (hi : i < ks.length) → H8 ks[i] (d + 1) = true := by
 rw [H8] at h
 simp only [Bool.and_eq_true, decide_eq_true_eq] at h
 exact ⟨h.1.2, (A3w ks _).1 h.2⟩
theorem A4u {k k' : Int} {ks ks' : List Ty} (h : k = 1 ∨ k' = 1) : K2 (.mk k ks) (.mk k' ks') = true := by
 rw [Y9]
 rcases h with h | h
 ·rw [decide_eq_true (p := k = 1) h]; rfl
 ·rw [decide_eq_true (p := k' = 1) h]; simp
theorem A71 {k k' : Int} {ks ks' : List Ty} (h : k ≠ 1) (h' : k' ≠ 1) (hk : k ≠ k') : K2 (.mk k ks) (.mk k' ks') = false := by
 rw [Y9, decide_eq_false h, decide_eq_false h', decide_eq_false hk]; rfl
theorem A4v {k k' : Int} {ks ks' : List Ty} (h : k ≠ 1) (h' : k' ≠ 1) (hk : k = k') : K2 (.mk k ks) (.mk k' ks') = R1 ks ks' := by
 rw [Y9, decide_eq_false h, decide_eq_false h', decide_eq_true hk]; rfl
theorem A72 {ks ks' : List Ty} {i : Nat} (hi : i < ks.length) (hi' : i < ks'.length) (h : K2 ks[i] ks'[i] = false) : R1 ks ks' = false := by
 cases hx : R1 ks ks' with
 | false => rfl
 | true => rw [((A1U ks ks').1 hx).2 i hi hi'] at h; cases h
theorem B2l : ∀ (t t' : Ty) (G : IM) (cells cells' : List Value) (d d' : Int), H8 t d = true → H8 t' d' = true → B3 G t cells → B3 G t' cells' →
  Fn Tryz.prog 145 [.agg ⟨cells⟩, .agg ⟨cells'⟩] [] G (L6 (.bool (K2 t t')) G) := by
 refine Ty.ind fun k ks ih t' G cells cells' d d' hv hv' hr hr' => ?_
 obtain ⟨k', ks'⟩ := t'
 obtain ⟨p, c, es, rfl, hk, hsl, hkl⟩ := hr.open
 obtain ⟨p', c', es', rfl, hk', hsl', hkl'⟩ := hr'.open
 simp only [Ty.k, Ty.ks] at hk hsl hkl hk' hsl' hkl' ⊢
 have hn := hsl.le
 have hn' := hsl'.le
 obtain ⟨hv1, hv2⟩ := A3C hv
 obtain ⟨hv1', hv2'⟩ := A3C hv'
 have hle : k = k' → ks.length = ks'.length := by rintro rfl; omega
 refine B8 Tryz.func145 rfl Tryz.ntmps145 Tryz.results145 rfl ?_
 intro w0
 refine tS (tR ?_)
 refine sE (E7 rfl rfl) rfl (fun b3 => ?_)
 refine sE (E7 rfl rfl) rfl (fun b4 => ?_)
 refine F8 ?_
 refine sB (qE rfl rfl) rfl rfl (fun h13 => ?_) (fun h13 => ?_)
 refine N6 ?_
 (rw [A4u (by omega)]; exact ⟨rfl, rfl, rfl⟩)
 refine H0 ?_
 refine sB (qE rfl rfl) rfl rfl (fun h34 => ?_) (fun h34 => ?_)
 refine Q4 ?_
 (rw [A4u (by omega)]; exact ⟨rfl, rfl, rfl⟩)
 refine I5 ?_
 refine sB (P5 rfl rfl) rfl rfl (fun h61 => ?_) (fun h61 => ?_)
 refine I6 ?_
 (rw [A71 (by omega) (by omega) (by omega)]; exact ⟨rfl, rfl, rfl⟩)
 refine I6 ?_
 refine C6 ?_
 (have hll : ks.length = ks'.length := hle (by omega); refine N4 (fun (i : Nat) => ⟨[(5, .int .i64 i), (3, .pointer (some ⟨b4, 0, none⟩)), (2, .pointer (some ⟨b3, 0, none⟩))], [.blk b3 [.int .i64 k, .slice p ks.length c], .blk b4 [.int .i64 k', .slice p' ks'.length c']], G⟩) (fun i => i ≤ ks.length ∧ ∀ j (h : j < ks.length) (h' : j < ks'.length), j < i → K2 ks[j] ks'[j] = true) (fun i => ks.length - i) 0 ?_ ?_ ?_)
 exact E0
 exact ⟨by omega, by omega⟩
 (rintro i ⟨hi, hf⟩)
 refine B7 ?_
 refine sB (L9 rfl rfl) rfl rfl (fun h97 => ?_) (fun h97 => ?_)
 refine sD (nS (qT rfl (tK (nS (tS ?_)))))
 refine C6 ?_
 refine tS ?_
 (obtain ⟨b, o, p2, c2, rfl, hat, hre, hgb⟩ := hsl.kidTy hkl (i := i) (by omega) (by omega); obtain ⟨b', o', p2', c2', rfl, hat', hre', hgb'⟩ := hsl'.kidTy hkl' (i := i) (by omega) (by omega); refine D3 D4 rfl ?_)
 refine E8 (i := 0) (l' := [tt,ff,ff,ff,ff,ff,ff,ff,ff,ff,ff,ff]) rfl C5 (A9 rfl) rfl (by kernel_rfl) rfl rfl ?_
 refine aL 1 rfl (C2 rfl rfl) rfl ?_
 refine aP 2 rfl (qM rfl) rfl ?_
 refine aP 3 rfl (D0 rfl rfl rfl (by omega)) rfl ?_
 refine aL 4 rfl (A6 rfl rfl (hat _) rfl) rfl ?_
 refine aP 5 rfl (A9 rfl) rfl ?_
 refine aL 6 rfl (C2 rfl rfl) rfl ?_
 refine aP 7 rfl (qM rfl) rfl ?_
 refine aP 8 rfl (D0 rfl rfl rfl (by omega)) rfl ?_
 refine aL 9 rfl (A6 rfl rfl (hat' _) rfl) rfl ?_
 refine A1 10 ?_
 refine A0J rfl rfl (ih ks[i] (List.getElem_mem (by omega)) ks'[i] G _ _ _ _ (hv2 i (by omega)) (hv2' i (by omega)) hre hre') rfl rfl rfl (fun h118 => ?_) (fun h118 => ?_)
 refine aP 11 rfl (Y7 rfl) rfl ?_
 refine F8 ?_
 refine sP (N0 rfl rfl (by omega) (by omega)) rfl rfl ?_
 refine sQ (qA rfl) rfl (sD ?_)
 refine K5 (i + 1) ?_ ?_ ?_
 exact E0
 exact ⟨by omega, fun j hj hj' hji => by (by_cases he : j = i; (subst he; assumption); exact hf j hj hj' (by omega))⟩
 omega
 refine aP 11 rfl (pNf rfl) rfl ?_
 refine M3 ?_
 (rw [A4v (by omega) (by omega) (by omega), A72 (i := i) (by omega) (by omega) (by assumption)]; exact ⟨rfl, rfl, rfl⟩)
 refine M3 ?_
 (rw [A4v (by omega) (by omega) (by omega), (A1U ks _).2 ⟨hll, fun j hj hj' => hf j hj hj' (by omega)⟩]; exact ⟨rfl, rfl, rfl⟩)
end Gw
end Go.Proofs.YtgodjiieijekiaaGreatDoor
