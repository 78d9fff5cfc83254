/-
  What the functions of the program compute, in plain words over trees.
-/
import Derived.Test.YtgodjiieijekiaaGreatDoorKf0
import Derived.Laws.BytesArg
import Derived.WalkKit
import Derived.ProofKit
import Derived.OpenShut
import Derived.Carry
import Derived.Test.YtgodjiieijekiaaGreatDoorShelf
import Derived.Lib.ItoaNum
import Derived.Lib.LaidTab
import Derived.Test.YtgodjiieijekiaaGreatDoorRows
import Derived.Deep.DeepHandedRow
import Derived.Stop.LaidErr
set_option linter.unusedVariables false
set_option linter.unusedSimpArgs false
set_option maxHeartbeats 0
set_option maxRecDepth 100000
set_option synthInstance.maxSize 4000
set_option synthInstance.maxHeartbeats 0
namespace Go.Proofs.YtgodjiieijekiaaGreatDoor
open Go Go.RowKit
namespace Gw

def T4 (n lo hi : Int) : Bool := decide (lo ≤ n ∧ n ≤ hi)
theorem A0p {n lo hi : Int} (h : T4 n lo hi = true) : lo ≤ n ∧ n ≤ hi := by simpa [T4] using h
theorem A5m {n lo hi : Int} (h : T4 n lo hi = false) : ¬(lo ≤ n ∧ n ≤ hi) := by simpa [T4] using h
def Z9 (k : Int) : Int := if k = 1 ∨ k = 2 ∨ k = 3 then 0 else if k = 4 ∨ k = 5 then 2 else -1
theorem J8 (k : Int) : (k = 1 ∨ k = 2 ∨ k = 3 → Z9 k = 0) ∧ (k = 4 ∨ k = 5 → Z9 k = 2) ∧ (k ≠ 1 → k ≠ 2 → k ≠ 3 → k ≠ 4 → k ≠ 5 → Z9 k = -1) := by
 unfold Z9; split <;> try split
 all_goals omega
def L8 (k : Int) : Int := if k = 1 ∨ k = 2 ∨ k = 3 ∨ k = 4 then 0 else if k = 5 ∨ k = 11 ∨ k = 12 ∨ k = 13 ∨ k = 14 then 1 else if k = 6 ∨ k = 7 ∨ k = 8 ∨ k = 10 then 2 else if k = 9 then 3 else -1

mutual
def E1 : Ty → Int → Bool
 | .mk k ks, d => decide (d ≤ 4) && decide (Z9 k = ks.length) && A0a ks (d + 1)
def A0a : List Ty → Int → Bool
 | [], _ => true
 | t :: ts, d => E1 t d && A0a ts d
end
theorem A2P : ∀ (ts : List Ty) (d : Int), A0a ts d = true ↔ ∀ i, (h : i < ts.length) → E1 ts[i] d = true
 | [], d => by simp [A0a]
 | t :: ts, d => by
  simp only [A0a, Bool.and_eq_true, A2P ts d]
  constructor
  ·rintro ⟨h1, h2⟩ i hi
   cases i with
   | zero => exact h1
   | succ i => exact h2 i (by simpa using hi)
  ·intro h
   exact ⟨h 0 (by simp), fun i hi => h (i + 1) (by simpa using hi)⟩
def O7 (t : Ty) : Bool := E1 t 1
def S9 (t : Ty) : Bool := decide (t.k = 0 ∧ t.ks.length = 0)

mutual
def P7 : Ty → Ty → Bool
 | .mk k ks, t => decide (k = 1) || decide (t.k = 1) || (decide (k = t.k) && X9 ks t.ks)
def X9 : List Ty → List Ty → Bool
 | [], [] => true
 | a :: xs, b :: ys => P7 a b && X9 xs ys
 | _, _ => false
end
theorem A0Y (k k' : Int) (ks ks' : List Ty) : P7 (.mk k ks) (.mk k' ks') = (decide (k = 1) || decide (k' = 1) || (decide (k = k') && X9 ks ks')) := by rw [P7]; rfl
theorem A2Q : ∀ (xs ys : List Ty), X9 xs ys = true ↔ xs.length = ys.length ∧ ∀ i, (h : i < xs.length) → (h' : i < ys.length) → P7 xs[i] ys[i] = true
 | [], [] => by simp [X9]
 | [], b :: ys => by simp [X9]
 | a :: xs, [] => by simp [X9]
 | a :: xs, b :: ys => by
  simp only [X9, Bool.and_eq_true, A2Q xs ys, List.length_cons]
  constructor
  ·rintro ⟨h1, h2, h3⟩
   refine ⟨by omega, fun i hi hi' => ?_⟩
   cases i with
   | zero => exact h1
   | succ i => exact h3 i (by simpa using hi) (by simpa using hi')
  ·rintro ⟨h1, h2⟩
   exact ⟨h2 0 (by simp) (by simp), by omega, fun i hi hi' => h2 (i + 1) (by simpa using hi) (by simpa using hi')⟩
def Y0 (a b : Ty) : Bool := O7 a && O7 b && P7 a b
def S4 (s : ByteArray) : Bool := decide (s.size = 1 ∧ 97 ≤ (s.data.getD 0 0).toNat ∧ (s.data.getD 0 0).toNat ≤ 122)
def X0 (n : Int) : Bool := T4 n 1 99 || T4 n (-99) (-1)

theorem A2R {s : ByteArray} {j : Int} (h : j.toNat < s.size) : s[j.toNat]? = some (s.data.getD j.toNat 0) := by
 rw [getElem?_pos s j.toNat h]
 show some (s.data[j.toNat]'h) = _
 rw [Array.getD_eq_getD_getElem?, getElem?_pos s.data j.toNat h]
 rfl
theorem A8S {q : Nat → Bool} {n : Nat} : Z8 q n < 0 ↔ ∀ j, j < n → q j = false := by
 constructor
 ·intro h j hj
  unfold Z8 at h
  split at h
  ·omega
  ·rename_i hf
   have := List.find?_eq_none.1 hf j (List.mem_range.2 hj)
   simpa using this
 ·intro h; rw [A5l h]; omega
theorem A5n {q : Nat → Bool} {n : Nat} : 0 ≤ Z8 q n ↔ ∃ j, j < n ∧ q j = true := by
 have h := @A8S q n
 constructor
 ·intro h0
  apply Classical.byContradiction
  intro hn
  have : Z8 q n < 0 := h.2 fun j hj => by cases hq : q j with | false => rfl | true => exact absurd ⟨j, hj, hq⟩ hn
  omega
 ·rintro ⟨j, hj, hq⟩
  apply Classical.byContradiction
  intro hn
  rw [h.1 (by omega) j hj] at hq
  exact absurd hq (by simp)
theorem A8T {α : Type} (f : α → Bool) (ks : List α) (a : α) : decide (0 ≤ Z8 (fun i => !f (ks.getD i a)) ks.length) = !ks.all f := by
 cases h : ks.all f with
 | true =>
  rw [List.all_eq_true] at h
  apply decide_eq_false
  rw [A5n]
  rintro ⟨j, hj, hq⟩
  rw [List.getD_eq_getElem?_getD, List.getElem?_eq_getElem hj, Option.getD_some, h _ (List.getElem_mem hj)] at hq
  exact absurd hq (by simp)
 | false =>
  apply decide_eq_true
  rw [A5n]
  apply Classical.byContradiction
  intro hn
  have : ks.all f = true := by
   rw [List.all_eq_true]
   intro x hx
   obtain ⟨j, hj, rfl⟩ := List.getElem_of_mem hx
   cases hf : f ks[j] with
   | true => rfl
   | false => exact absurd ⟨j, hj, by rw [List.getD_eq_getElem?_getD, List.getElem?_eq_getElem hj, Option.getD_some, hf]; rfl⟩ hn
  rw [h] at this
  exact absurd this (by simp)
theorem Q4 : ∀ (ks : List Ty) (d : Int), A0a ks d = ks.all (E1 · d)
 | [], d => rfl
 | t :: ts, d => by simp [A0a, Q4 ts d]
theorem H5.inv {G : IM} : ∀ {ts : List Ty} {es : List (List Value)}, H5 G ts es → ∀ {i : Nat} {e : List Value}, es[i]? = some e → ∀ a, ts.getD i a ∈ ts ∧ C5 G (ts.getD i a) e
 | [], es, h, i, e, he, a => by
  have := h.len
  simp only [List.length_nil, List.length_eq_zero_iff] at this
  subst this; simp at he
 | t :: ts, es, h, i, e, he, a => by
  have hi : i < es.length := by
   apply Classical.byContradiction; intro hn; rw [List.getElem?_eq_none (by omega)] at he; simp at he
  have hl := h.len
  obtain ⟨e', he', hr⟩ := h.get (i := i) (t := (t :: ts)[i]'(by omega)) (by rw [List.getElem?_eq_getElem])
  rw [he] at he'
  obtain rfl := Option.some.inj he'
  rw [List.getD_eq_getElem?_getD, List.getElem?_eq_getElem (by omega), Option.getD_some]
  exact ⟨List.getElem_mem _, hr⟩
theorem E7.inv {G : IM} : ∀ {ts : List Tm} {es : List (List Value)}, E7 G ts es → ∀ {i : Nat} {e : List Value}, es[i]? = some e → ∀ a, ts.getD i a ∈ ts ∧ C7 G (ts.getD i a) e
 | [], es, h, i, e, he, a => by
  have := h.len
  simp only [List.length_nil, List.length_eq_zero_iff] at this
  subst this; simp at he
 | t :: ts, es, h, i, e, he, a => by
  have hi : i < es.length := by
   apply Classical.byContradiction; intro hn; rw [List.getElem?_eq_none (by omega)] at he; simp at he
  have hl := h.len
  obtain ⟨e', he', hr⟩ := h.get (i := i) (t := (t :: ts)[i]'(by omega)) (by rw [List.getElem?_eq_getElem])
  rw [he] at he'
  obtain rfl := Option.some.inj he'
  rw [List.getD_eq_getElem?_getD, List.getElem?_eq_getElem (by omega), Option.getD_some]
  exact ⟨List.getElem_mem _, hr⟩
def A3 : Ty := .mk 0 []
theorem A8U {p : Prop} [Decidable p] {x y : Bool} : ((if p then x else y) = true) ↔ ((p → x = true) ∧ (¬p → y = true)) := by by_cases h : p <;> simp [h]
theorem A8V {k : Int} (h : 1 ≤ k ∧ k ≤ 14) : ([Value.int .i64 0, .int .i64 0, .int .i64 0, .int .i64 0, .int .i64 1, .int .i64 2, .int .i64 2, .int .i64 2, .int .i64 3, .int .i64 2, .int .i64 1, .int .i64 1, .int .i64 1, .int .i64 1])[(k - 1).toNat]? = some (.int .i64 (L8 k)) := by
 have : k = 1 ∨ k = 2 ∨ k = 3 ∨ k = 4 ∨ k = 5 ∨ k = 6 ∨ k = 7 ∨ k = 8 ∨ k = 9 ∨ k = 10 ∨ k = 11 ∨ k = 12 ∨ k = 13 ∨ k = 14 := by omega
 rcases this with rfl | rfl | rfl | rfl | rfl | rfl | rfl | rfl | rfl | rfl | rfl | rfl | rfl | rfl <;> rfl
theorem A8W {k : Int} (h : ¬(1 ≤ k ∧ k ≤ 14)) : L8 k = -1 := by
 unfold L8; repeat (split; omega)
 rfl
theorem A1o {cs : List Value} {o : Nat} {v : Value} (h : cs[o]? = some v) : ∀ j u, [v][j]? = some u → cs[o + j]? = some u := by
 intro j u hj
 cases j with
 | zero => simpa using hj ▸ h
 | succ j => simp at hj
def P8 (k : Int) (nm : ByteArray) (num : Int) (ty fr : Ty) (lb : Int) (n : Nat) : Bool :=
 decide (L8 k = n) && (if k = 1 ∨ k = 5 then S4 nm else decide (nm = ⟨#[]⟩)) && (if k = 2 then T4 num 0 999 else T4 num 0 0) &&
 (if k = 5 ∨ k = 13 ∨ k = 14 then O7 ty else S9 ty) && (if k = 14 then Y0 fr ty && X0 lb else S9 fr && decide (lb = 0))
theorem A0q {k : Int} {nm : ByteArray} {num : Int} {ty fr : Ty} {lb : Int} {n : Nat} : P8 k nm num ty fr lb n = true ↔
  L8 k = n ∧ (k = 1 ∨ k = 5 → S4 nm = true) ∧ (¬(k = 1 ∨ k = 5) → nm = ⟨#[]⟩) ∧ (k = 2 → T4 num 0 999 = true) ∧ (k ≠ 2 → T4 num 0 0 = true) ∧
  (k = 5 ∨ k = 13 ∨ k = 14 → O7 ty = true) ∧ (¬(k = 5 ∨ k = 13 ∨ k = 14) → S9 ty = true) ∧ (k = 14 → Y0 fr ty = true ∧ X0 lb = true) ∧ (k ≠ 14 → S9 fr = true ∧ lb = 0) := by
 simp only [P8, Bool.and_eq_true, A8U, decide_eq_true_eq, and_assoc, ne_eq]
mutual
def O1 (M D N : Int) : Tm → Int → Int → Bool × Int
 | .mk k nm num ty fr lb ks, deep, c => if c + 1 > M ∨ deep > D ∨ k = N ∨ P8 k nm num ty fr lb ks.length = false then (false, c + 1) else P2 M D N ks (deep + 1) (c + 1)
def P2 (M D N : Int) : List Tm → Int → Int → Bool × Int
 | [], _, c => (true, c)
 | t :: ts, deep, c => if (O1 M D N t deep c).1 = true then P2 M D N ts deep (O1 M D N t deep c).2 else (false, (O1 M D N t deep c).2)
end
mutual
theorem A5o (M D N : Int) : ∀ (t : Tm) (deep c : Int), 0 ≤ c → c ≤ M → c < (O1 M D N t deep c).2 ∧ (O1 M D N t deep c).2 ≤ M + 1 ∧ ((O1 M D N t deep c).1 = true → (O1 M D N t deep c).2 ≤ M)
 | .mk k nm num ty fr lb ks, deep, c, h0, h1 => by
  rw [O1]
  split
  ·simp; omega
  ·rename_i h
   have := A5p M D N ks (deep + 1) (c + 1) (by omega) (by omega)
   exact ⟨by omega, this.2⟩
theorem A5p (M D N : Int) : ∀ (ts : List Tm) (deep c : Int), 0 ≤ c → c ≤ M → c ≤ (P2 M D N ts deep c).2 ∧ (P2 M D N ts deep c).2 ≤ M + 1 ∧ ((P2 M D N ts deep c).1 = true → (P2 M D N ts deep c).2 ≤ M)
 | [], deep, c, h0, h1 => by rw [P2]; simp; omega
 | t :: ts, deep, c, h0, h1 => by
  have := A5o M D N t deep c h0 h1
  rw [P2]
  split
  ·rename_i h
   have h2 := A5p M D N ts deep (O1 M D N t deep c).2 (by omega) (this.2.2 h)
   exact ⟨by omega, h2.2⟩
  ·simp; omega
end
def N7 (t : Tm) : Bool := (O1 200 40 13 t 1 0).1
def P9 (t : Tm) : Bool := (O1 30 12 14 t 1 0).1
theorem B7.kidTm {G : IM} {p : Option Addr} {n c : Nat} {es : List (List Value)} {ks : List Tm} (h : B7 G p n c 9 es) (hk : E7 G ks es) {i : Nat} (hi : i < n) (hn : i < ks.length) :
  ∃ b o e, p = some ⟨b, o, none⟩ ∧ e.length = 9 ∧ (∀ hp, At hp G b (o + i * 9) e) ∧ C7 G ks[i] e ∧ G b ≠ none := by
 obtain ⟨e, b, o, he, hp, hl, _, hat, hg⟩ := h.get hi
 have := (hk.inv he (ks[i])).2
 rw [List.getD_eq_getElem?_getD, List.getElem?_eq_getElem hn, Option.getD_some] at this
 exact ⟨b, o, e, hp, hl, hat, this, hg⟩
theorem A2S {M D N : Int} {k : Int} {nm : ByteArray} {num : Int} {ty fr : Ty} {lb : Int} {ks : List Tm} {deep c : Int} (h : c + 1 > M ∨ deep > D ∨ k = N ∨ P8 k nm num ty fr lb ks.length = false) :
  O1 M D N (.mk k nm num ty fr lb ks) deep c = (false, c + 1) := by rw [O1, if_pos h]
theorem A8X {M D N : Int} {k : Int} {nm : ByteArray} {num : Int} {ty fr : Ty} {lb : Int} {ks : List Tm} {deep c : Int} (h1 : ¬(c + 1 > M ∨ deep > D ∨ k = N)) (h2 : P8 k nm num ty fr lb ks.length = true) :
  O1 M D N (.mk k nm num ty fr lb ks) deep c = P2 M D N ks (deep + 1) (c + 1) := by
 rw [O1, if_neg]
 rw [h2]
 intro h
 apply h1
 rcases h with h | h | h | h
 ·exact .inl h
 ·exact .inr (.inl h)
 ·exact .inr (.inr h)
 ·cases h
theorem A8Y {M D N : Int} {ks : List Tm} {i : Nat} {deep c : Int} (hi : i < ks.length) (h : (O1 M D N ks[i] deep c).1 = true) : P2 M D N (ks.drop i) deep c = P2 M D N (ks.drop (i + 1)) deep (O1 M D N ks[i] deep c).2 := by
 rw [List.drop_eq_getElem_cons hi, P2, if_pos h]
theorem A8Z {M D N : Int} {ks : List Tm} {i : Nat} {deep c : Int} (hi : i < ks.length) (h : (O1 M D N ks[i] deep c).1 = false) : P2 M D N (ks.drop i) deep c = (false, (O1 M D N ks[i] deep c).2) := by
 rw [List.drop_eq_getElem_cons hi, P2, if_neg (by rw [h]; simp)]
theorem A80 {M D N : Int} {ks : List Tm} {i : Nat} {deep c : Int} (hi : i = ks.length) : P2 M D N (ks.drop i) deep c = (true, c) := by
 rw [hi, List.drop_length, P2]
section blk
variable {P : Program} {Γ : E6} {env : F9} {hp : List A1} {G : IM} {K : Po} {ops : Array Oper} {rest : List Oper}
end blk

theorem A5q : ∀ {A B C V : List Value} {o : Nat}, A.length = o → B.length = V.length → N8 (A ++ (B ++ C)) o V = some (A ++ (V ++ C))
 | [], B, C, V, o, h, hv => by
  simp at h; subst h
  simp only [List.nil_append]
  induction B generalizing V with
  | nil => cases V with
   | nil => cases C <;> rfl
   | cons v V => simp at hv
  | cons b B ih => cases V with
   | nil => simp at hv
   | cons v V =>
    simp only [List.cons_append, N8, ih (V := V) (by simpa using hv)]
 | a :: A, B, C, V, o, h, hv => by
  simp at h; subst h
  simp only [List.cons_append, N8, A5q (A := A) (B := B) (C := C) rfl hv]
theorem A2k {sz : Nat} : ∀ {es : List (List Value)}, (∀ e ∈ es, e.length = sz) → es.flatten.length = es.length * sz
 | [], _ => by simp
 | e :: es, h => by
  rw [List.flatten_cons, List.length_append, h e List.mem_cons_self, A2k (es := es) fun x hx => h x (List.mem_cons_of_mem _ hx), List.length_cons, Nat.succ_mul]; omega
def A81 (G : IM) (ks : List Ty) (p : Option Addr) (c : Nat) (F : List Nat) : Prop := ∃ es Fs, B7 G p ks.length c 2 es ∧ I8 G ks es Fs ∧ F = E5 p ++ Fs ∧ (∀ b ∈ E5 p, G b ≠ none)
mutual
def L9 (G : IM) : Tm → List Value → List Nat → Prop
 | .mk k nm num ty fr lb ks, cells, F => ∃ tc fc p c es Ft Ff Fs, cells = [.int .i64 k, .string nm, .int .i64 num] ++ tc ++ fc ++ [.int .i64 lb, .slice p ks.length c] ∧ F1 k ∧ F1 num ∧ F1 lb ∧ K6 G ty tc Ft ∧ K6 G fr fc Ff ∧
   B7 G p ks.length c 9 es ∧ J9 G ks es Fs ∧ F = Ft ++ (Ff ++ (E5 p ++ Fs)) ∧ (∀ b ∈ E5 p, G b ≠ none)
def J9 (G : IM) : List Tm → List (List Value) → List Nat → Prop
 | [], es, F => es = [] ∧ F = []
 | t :: ts, es, F => ∃ a r Fa Fr, es = a :: r ∧ L9 G t a Fa ∧ J9 G ts r Fr ∧ F = Fa ++ Fr
end
def A82 (G : IM) (ks : List Tm) (p : Option Addr) (c : Nat) (F : List Nat) : Prop := ∃ es Fs, B7 G p ks.length c 9 es ∧ J9 G ks es Fs ∧ F = E5 p ++ Fs ∧ (∀ b ∈ E5 p, G b ≠ none)
mutual
theorem L9.R {G : IM} : ∀ {t : Tm} {cells : List Value} {F : List Nat}, L9 G t cells F → C7 G t cells
 | .mk k nm num ty fr lb ks, cells, F, h => by
  simp only [L9] at h
  obtain ⟨tc, fc, p, c, es, Ft, Ff, Fs, h1, h2, h3, h4, h5, h6, h7, h8, _⟩ := h
  simp only [C7]
  exact ⟨tc, fc, p, c, es, h1, h2, h3, h4, h5.R, h6.R, h7, J9.R h8⟩
theorem J9.R {G : IM} : ∀ {ts : List Tm} {es : List (List Value)} {F : List Nat}, J9 G ts es F → E7 G ts es
 | [], es, F, h => by simp only [J9] at h; simp only [E7]; exact h.1
 | t :: ts, es, F, h => by
  simp only [J9] at h
  obtain ⟨a, r, Fa, Fr, h1, h2, h3, _⟩ := h
  simp only [E7]
  exact ⟨a, r, h1, L9.R h2, J9.R h3⟩
end
theorem A5r {G G' : IM} (hg : B4 G G') {F : List Nat} (h : ∀ b ∈ F, G b ≠ none) : ∀ b ∈ F, G' b ≠ none := fun b hb => by
 cases hgb : G b with
 | none => exact absurd hgb (h b hb)
 | some l => rw [hg b l hgb]; simp
mutual
theorem L9.mono {G G' : IM} (hg : B4 G G') : ∀ {t : Tm} {cells : List Value} {F : List Nat}, L9 G t cells F → L9 G' t cells F
 | .mk k nm num ty fr lb ks, cells, F, h => by
  simp only [L9] at h ⊢
  obtain ⟨tc, fc, p, c, es, Ft, Ff, Fs, h1, h2, h3, h4, h5, h6, h7, h8, h9, h10⟩ := h
  exact ⟨tc, fc, p, c, es, Ft, Ff, Fs, h1, h2, h3, h4, h5.mono hg, h6.mono hg, h7.mono hg, J9.mono hg h8, h9, A5r hg h10⟩
theorem J9.mono {G G' : IM} (hg : B4 G G') : ∀ {ts : List Tm} {es : List (List Value)} {F : List Nat}, J9 G ts es F → J9 G' ts es F
 | [], es, F, h => by simpa only [J9] using h
 | t :: ts, es, F, h => by
  simp only [J9] at h ⊢
  obtain ⟨a, r, Fa, Fr, h1, h2, h3, h4⟩ := h
  exact ⟨a, r, Fa, Fr, h1, L9.mono hg h2, J9.mono hg h3, h4⟩
end
mutual
theorem L9.inG {G : IM} : ∀ {t : Tm} {cells : List Value} {F : List Nat}, L9 G t cells F → ∀ b ∈ F, G b ≠ none
 | .mk k nm num ty fr lb ks, cells, F, h => by
  simp only [L9] at h
  obtain ⟨tc, fc, p, c, es, Ft, Ff, Fs, h1, h2, h3, h4, h5, h6, h7, h8, rfl, h10⟩ := h
  intro b hb
  simp only [List.mem_append] at hb
  rcases hb with hb | hb | hb | hb
  ·exact h5.inG b hb
  ·exact h6.inG b hb
  ·exact h10 b hb
  ·exact J9.inG h8 b hb
theorem J9.inG {G : IM} : ∀ {ts : List Tm} {es : List (List Value)} {F : List Nat}, J9 G ts es F → ∀ b ∈ F, G b ≠ none
 | [], es, F, h => by simp only [J9] at h; rw [h.2]; simp
 | t :: ts, es, F, h => by
  simp only [J9] at h
  obtain ⟨a, r, Fa, Fr, h1, h2, h3, rfl⟩ := h
  intro b hb
  rcases List.mem_append.1 hb with hb | hb
  ·exact L9.inG h2 b hb
  ·exact J9.inG h3 b hb
end
theorem J9.snoc {G : IM} : ∀ {ts : List Tm} {es : List (List Value)} {F : List Nat} {t : Tm} {a : List Value} {Fa : List Nat}, J9 G ts es F → L9 G t a Fa → J9 G (ts ++ [t]) (es ++ [a]) (F ++ Fa)
 | [], es, F, t, a, Fa, h, h2 => by
  simp only [J9] at h
  obtain ⟨rfl, rfl⟩ := h
  simp only [List.nil_append, J9]
  exact ⟨a, [], Fa, [], rfl, h2, ⟨rfl, rfl⟩, by simp⟩
 | t' :: ts, es, F, t, a, Fa, h, h2 => by
  simp only [J9] at h
  obtain ⟨a', r, Fa', Fr, rfl, h3, h4, rfl⟩ := h
  simp only [List.cons_append, J9]
  exact ⟨a', r ++ [a], Fa', Fr ++ Fa, rfl, h3, J9.snoc h4 h2, by simp⟩
theorem A1H {G Gi : IM} {F F' : List Nat} {G1 : IM} (h : ∀ b ∈ F, B2 Gi G b ≠ none) (h' : ∀ b ∈ F', B2 G1 Gi b ≠ none) : ∀ x ∈ F, ∀ y ∈ F', x ≠ y := by
 rintro x hx y hy rfl
 have h1 := h x hx
 have h2 := B2.out (h' x hy)
 apply h1
 cases hd : B2 Gi G x with
 | none => rfl
 | some l => rw [B2.le _ _ x l hd] at h2; cases h2
theorem A83 (p : Option Addr) : (E5 p).Nodup := by cases p <;> simp [E5]
section clawss
variable {P : Program} {Γ : E6} {env : F9} {hp : List A1} {G : IM} {ty : TypeId}
theorem A3O {s d : TypeId} {is id : K1} [hS : E8 P s is] [hD : E8 P d id] (hd : id.desc = .int .u8) {k : IntKind} (hs : is.desc = .int k) {x : Operand} {n : Int} (hx : evo env x = some (.int k n)) (h0 : 0 ≤ n) (h1 : n ≤ 255) :
  C9 P Γ ⟨env, hp, G⟩ (.convert s d x) ty (.int .u8 n) := by
 refine ⟨fun a _ hst _ _ _ _ w => ?_⟩
 have hu := hD.und
 rw [hd] at hu
 have hus := hS.und
 rw [hs] at hus
 have hw : IntKind.u8.wrap n = n := IntWalk.u8_in n ⟨h0, h1⟩
 simp [execOp, convert, run_underlying hus, run_underlying hu, (hst.evo hx : a.eval x = _), Conv.intToInt, hw]
theorem A2l {s d e : TypeId} {is id ie : K1} [hS : E8 P s is] [hD : E8 P d id] [hE : E8 P e ie] (hs : is.desc = .slice e) (he : ie.desc = .int .u8) (hd : id.desc = .string) {x : Operand} {b o n c : Nat} {xs : List Int}
  (hx : evo env x = some (.slice (some ⟨b, o, none⟩) n c)) (hl : xs.length = n) (hv : At hp G b o (xs.map (Value.int .u8))) : A0F P Γ ⟨env, hp, G⟩ (.convert s d x) ty b (.string (strOfNums xs)) := by
 refine ⟨fun a w hst => ?_⟩
 obtain ⟨full, e', f, hb, hf⟩ := hv.read hst
 refine ⟨W6 hb, fun w' hw' d' pos af gd => ?_⟩
 have hus := hS.und
 rw [hs] at hus
 have hue := hE.und
 rw [he] at hue
 have hud := hD.und
 rw [hd] at hud
 have hc := run_convert_bytes_arg (P := P) w' s e hus hue b o n c xs hl (fun i hi => by
  have := hf i (.int .u8 (xs.getD i 0)) (by simp [List.getD, List.getElem?_eq_getElem (show i < xs.length by omega)])
  simp [World.cell?, hw', hb, this]) d hud
 have hx' : a.eval x = _ := hst.evo hx
 simp only [execOp, hx', Sem.run_bind]
 rw [hc]
 rfl
theorem A5s {x y : Operand} {t t' : TypeId} {m n : Nat} (hx : evo env x = some (.int .i64 (m : Int))) (hy : evo env y = some (.int .i64 (n : Int))) (hn : 0 < n) :
  C9 P Γ ⟨env, hp, G⟩ (.binOp .rem t x y t') ty (.int .i64 ((m % n : Nat) : Int)) := by
 have h := A8i (P := P) (Γ := Γ) (hp := hp) (G := G) (ty := ty) (t := t) (t' := t') hx hy (by omega)
 rwa [show ((m : Int).tmod n) = ((m % n : Nat) : Int) from rfl] at h
theorem A5t {x y : Operand} {t t' : TypeId} {m n : Nat} (hx : evo env x = some (.int .i64 (m : Int))) (hy : evo env y = some (.int .i64 (n : Int))) (hn : 0 < n) (hm : m ≤ 9223372036854775807) :
  C9 P Γ ⟨env, hp, G⟩ (.binOp .quo t x y t') ty (.int .i64 ((m / n : Nat) : Int)) := by
 have hd : m / n ≤ m := Nat.div_le_self _ _
 have e : ((m : Int).tdiv n) = ((m / n : Nat) : Int) := rfl
 have h := A8j (P := P) (Γ := Γ) (hp := hp) (G := G) (ty := ty) (t := t) (t' := t') hx hy (by omega) (by rw [e]; generalize m / n = q at *; omega) (by rw [e]; generalize m / n = q at *; omega)
 rwa [e] at h
end clawss
def T5 (k : Nat) : Int := 48 + ((k % 10 : Nat) : Int)
def A0L : Nat → Nat → ByteArray → ByteArray
 | 0, _, out => out
 | f + 1, k, out => if 0 < k then A0L f (k / 10) (strOfNums [T5 k] ++ out) else out
theorem A84 {f k : Nat} {out : ByteArray} (h : 0 < k) : A0L (f + 1) k out = A0L f (k / 10) (strOfNums [T5 k] ++ out) := by rw [A0L, if_pos h]
theorem A85 {f k : Nat} {out : ByteArray} (h : ¬ 0 < k) : A0L f k out = out := by
 cases f with
 | zero => rfl
 | succ f => rw [A0L, if_neg h]
def A0Z (k : Nat) : ByteArray := ⟨#[109]⟩ ++ A0L 20 k ⟨⟨[]⟩⟩
theorem A86 {f k : Nat} {out : ByteArray} (hk : k < 10 ^ f) (hs : out.size + f = 20) (h0 : 0 < k) : ∃ f', f = f' + 1 ∧ k / 10 < 10 ^ f' ∧ (strOfNums [T5 k] ++ out).size + f' = 20 := by
 cases f with
 | zero => simp at hk; omega
 | succ f =>
  refine ⟨f, rfl, ?_, ?_⟩
  ·rw [Nat.pow_succ] at hk
   exact Nat.div_lt_of_lt_mul (by omega)
  ·rw [ByteArray.size_append, strOfNums_size]
   simp; omega
theorem t20 (k : Nat) (h : k < 1000000000000000000) : k < 10 ^ 20 := by
 have : (10 : Nat) ^ 20 = 100000000000000000000 := by decide
 omega
theorem A87 (k : Nat) (h0 : 0 < k) (hk : k < 1000000000000000000) (G : IM) : Fn Tryz.prog 108 [.int .i64 (k : Int)] [] G (H4 (.string (A0Z k)) G) := by
 have h20 := t20 k hk
 refine B3 Tryz.func108 rfl Tryz.ntmps108 Tryz.results108 rfl ?_
 intro w0
 refine C1 ?_
 refine sP (A46 rfl rfl (by omega)) rfl rfl ?_
 refine D7 ?_
 refine D0 (O9 (fun (x : Nat × Nat × ByteArray) => ⟨[(0, .int .i64 (x.2.1 : Int)), (3, .string x.2.2)], [], G⟩) (fun x => x.2.1 < 1000000000000000000 ∧ x.2.1 < 10 ^ x.1 ∧ x.2.2.size + x.1 = 20 ∧ A0L x.1 x.2.1 x.2.2 = A0L 20 k ⟨⟨[]⟩⟩) (fun x => x.1) (20, k, ⟨⟨[]⟩⟩) ?_ ?_ ?_)
 (simp only [T9]; exact I6)
 exact ⟨hk, h20, rfl, rfl⟩
 (rintro ⟨f, j, out⟩ ⟨hj, hjf, hsz, hd⟩; simp only [] at hj hjf hsz hd ⊢)
 refine tS (tS (tR (sQ (qM rfl) rfl ?_)))
 refine sB (Z1 rfl rfl) rfl rfl (fun h31 => ?_) (fun h31 => ?_)
 refine sD (nS (qT rfl (tK (nS ?_))))
 refine D0 ?_
 refine tS (tR (sQ (qM rfl) rfl ?_))
 refine sP (A5s (n := 10) rfl rfl (by omega)) rfl rfl ?_
 refine sP (K2 rfl rfl (by omega) (by omega)) rfl rfl ?_
 refine sP (A3O rfl rfl rfl (by omega) (by omega)) rfl rfl ?_
 (refine F3 (P1 rfl rfl rfl (by omega) (by unfold maxLen; omega) rfl) rfl ?_; rintro _ ⟨b44, rfl⟩)
 refine sL (A2l (xs := [T5 j]) rfl rfl rfl rfl rfl (A0k (by repeat first | exact mH | apply mT))) rfl rfl ?_
 refine sQ (qM rfl) rfl ?_
 (obtain ⟨f', rfl, hf1, hf2⟩ := A86 hjf hsz (by omega); have hf3 := hf2; rw [ByteArray.size_append] at hf3; refine sP (A2c rfl rfl (by omega)) rfl rfl ?_)
 refine sQ (qA rfl) rfl (sD (nS (tR (sQ (qM rfl) rfl ?_))))
 refine sP (A5t (n := 10) rfl rfl (by omega) (by omega)) rfl rfl ?_
 refine sQ (qA rfl) rfl (sD (A1k ?_))
 refine P6 (f', j / 10, strOfNums [T5 j] ++ out) ?_ ?_ ?_
 (simp only [T9]; exact I6)
 (dsimp only; exact ⟨by omega, hf1, hf2, by rw [← hd, A84 (by omega)]⟩)
 exact Nat.lt_succ_self _
 refine D7 ?_
 refine sP (A2c rfl rfl (by have : (⟨#[109]⟩ : ByteArray).size = 1 := rfl; omega)) rfl rfl ?_
 refine sQ (qA rfl) rfl (sD (nS (tT (F0 (rT rfl) ?_))))
 exact ⟨rfl, by rw [A0Z, ← hd, A85 (by omega)], rfl⟩
def A2m (l : List Int) : List Value := l.map (Value.int .i64 ·)
mutual
def D1 : Tm → Nat
 | .mk _ _ _ _ _ _ ks => F8 ks + 1
def F8 : List Tm → Nat
 | [] => 0
 | t :: ts => D1 t + F8 ts
end
mutual
def A2T : Tm → List Int → List (List Int)
 | .mk _ _ _ _ _ _ ks, path => path :: A5u ks 0 path
def A5u : List Tm → Nat → List Int → List (List Int)
 | [], _, _ => []
 | t :: ts, i, path => A2T t (path ++ [(i : Int)]) ++ A5u ts (i + 1) path
end
theorem A2U : ∀ (a b : List Tm), F8 (a ++ b) = F8 a + F8 b
 | [], b => by simp [F8]
 | t :: a, b => by rw [List.cons_append, F8, F8, A2U a b]; omega
theorem A88 {ks : List Tm} {i : Nat} (hi : i < ks.length) : F8 (ks.take i) + D1 ks[i] ≤ F8 ks := by
 have h := A2U (ks.take (i + 1)) (ks.drop (i + 1))
 rw [List.take_append_drop, List.take_succ_eq_append_getElem hi, A2U] at h
 simp only [F8] at h
 omega
theorem A89 {ks : List Tm} {i : Nat} (hi : i < ks.length) : F8 (ks.take (i + 1)) = F8 (ks.take i) + D1 ks[i] := by
 rw [List.take_succ_eq_append_getElem hi, A2U]
 simp only [F8]; omega
def SPs (G : IM) : List (List Int) → List Value → List Nat → Prop
 | [], es, F => es = [] ∧ F = []
 | l :: ls, es, F => ∃ p c r Fr, es = .slice p l.length c :: r ∧ F = E5 p ++ Fr ∧ Sl G p l.length c 1 (A2m l) ∧ (∀ b ∈ E5 p, G b ≠ none) ∧ (p = none → l.length = 0) ∧ SPs G ls r Fr
def RPs (G : IM) (ls : List (List Int)) (p : Option Addr) (c : Nat) : Prop := ∃ es F, Sl G p ls.length c 1 es ∧ (∀ b ∈ E5 p, G b ≠ none) ∧ SPs G ls es F ∧ (E5 p ++ F).Nodup
mutual
theorem A5v (M D N : Int) : ∀ (t : Tm) (deep c : Int), (O1 M D N t deep c).1 = true → (O1 M D N t deep c).2 = c + D1 t
 | .mk k nm num ty fr lb ks, deep, c, h => by
  rw [O1] at h ⊢
  split at h
  ·cases h
  ·rename_i hc
   rw [if_neg hc, A5w M D N ks (deep + 1) (c + 1) h, D1]
   omega
theorem A5w (M D N : Int) : ∀ (ts : List Tm) (deep c : Int), (P2 M D N ts deep c).1 = true → (P2 M D N ts deep c).2 = c + F8 ts
 | [], deep, c, h => by rw [P2, F8]; simp
 | t :: ts, deep, c, h => by
  rw [P2] at h ⊢
  split at h
  ·rename_i h1
   rw [if_pos h1, A5w M D N ts deep _ h, A5v M D N t deep c h1, F8]
   omega
  ·cases h
end
def A9a (t : Tm) : List (List Int) := if N7 t = true then A2T t [] else []
section slaws
variable {P : Program} {Γ : E6} {env : F9} {hp : List A1} {G : IM} {ty : TypeId}
theorem A5x {x y : Operand} {t t' : TypeId} {r : ByteArray} (hx : evo env x = some (.string r)) (hy : evo env y = some (.string r)) :
  C9 P Γ ⟨env, hp, G⟩ (.binOp .neq t x y t') ty (.bool false) := by
 have h := Z2 (P := P) (Γ := Γ) (hp := hp) (G := G) (t := t) (t' := t') (ty := ty) hx hy
 rwa [decide_eq_false (by simp)] at h
end slaws
theorem Sl.kid {G : IM} {p : Option Addr} {n c : Nat} {cs : List Value} (h : Sl G p n c 1 cs) {i : Nat} (hi : i < n) :
  ∃ b o v, p = some ⟨b, o, none⟩ ∧ cs[i]? = some v ∧ (∀ hp, At hp G b (o + i * 1) [v]) ∧ G b ≠ none := by
 obtain ⟨h1, h2, h3, h4⟩ := h
 obtain ⟨b, o, full, rfl, hg, hv⟩ := h4.resolve_left (by omega)
 have hlt : i < cs.length := by omega
 refine ⟨b, o, cs[i], rfl, List.getElem?_eq_getElem hlt, fun hp => M4 hg ?_, by rw [hg]; simp⟩
 intro j v hj
 cases j with
 | zero => simp at hj; subst hj; simpa using hv i _ (List.getElem?_eq_getElem hlt)
 | succ j => simp at hj
theorem A9b (ks : List Ty) (ih : ∀ t ∈ ks, ∀ (G : IM) (cells cells' : List Value), C5 G t cells → C5 G t cells' → Fn Tryz.prog 52 [.agg ⟨cells⟩, .agg ⟨cells'⟩] [] G (H4 (.bool true) G))
  (G : IM) (p p' : Option Addr) (c c' : Nat) (es es' : List (List Value)) (hsl : B7 G p ks.length c 2 es) (hkl : H5 G ks es) (hsl' : B7 G p' ks.length c' 2 es') (hkl' : H5 G ks es') :
  Fn Tryz.prog 106 [.slice p ks.length c, .slice p' ks.length c'] [] G (H4 (.bool true) G) := by
 have hn := hsl.le
 refine B3 Tryz.func106 rfl Tryz.ntmps106 Tryz.results106 rfl ?_
 intro w0
 refine O0 ?_
 refine sP (R0 rfl rfl (by omega)) rfl rfl ?_
 refine D7 ?_
 refine D0 (O9 (fun (i : Nat) => ⟨[(5, .int .i64 i), (1, .slice p' ks.length c'), (0, .slice p ks.length c)], [], G⟩) (fun i => i ≤ ks.length) (fun i => ks.length - i) 0 ?_ ?_ ?_)
 exact I6
 exact Nat.zero_le _
 rintro i hi
 refine I2 ?_
 refine sB (N2 rfl rfl) rfl rfl (fun h36 => ?_) (fun h36 => ?_)
 refine sD (nS (qT rfl (tK (nS (tS ?_)))))
 refine D0 ?_
 refine tS ?_
 (obtain ⟨b, o, p2, c2, rfl, hat, hre, hgb⟩ := hsl.kidTy hkl (i := i) (by omega) (by omega); obtain ⟨b', o', p2', c2', rfl, hat', hre', hgb'⟩ := hsl'.kidTy hkl' (i := i) (by omega) (by omega); refine K7 K9 rfl ?_)
 refine I0 (i := 0) (l' := [tt,ff,ff,ff,ff,ff,ff,ff,ff,ff]) rfl E9 (qM rfl) rfl (by kernel_rfl) rfl rfl ?_
 refine aP 1 rfl (qM rfl) rfl ?_
 refine aP 2 rfl (H2 rfl rfl rfl (by omega)) rfl ?_
 refine aL 3 rfl (D5 rfl rfl (hat _) rfl) rfl ?_
 refine aP 4 rfl (qM rfl) rfl ?_
 refine aP 5 rfl (qM rfl) rfl ?_
 refine aP 6 rfl (H2 rfl rfl rfl (by omega)) rfl ?_
 refine aL 7 rfl (D5 rfl rfl (hat' _) rfl) rfl ?_
 refine B6 8 ?_
 refine N5 rfl rfl (ih ks[i] (List.getElem_mem (by omega)) _ _ _ hre hre') rfl rfl rfl ?_
 refine aP 9 rfl (X5 rfl) rfl ?_
 refine C6 ?_
 refine sP (K2 rfl rfl (by omega) (by omega)) rfl rfl ?_
 refine sQ (qA rfl) rfl (sD ?_)
 refine P6 (i + 1) ?_ ?_ ?_
 exact I6
 omega
 omega
 refine I7 ?_
 exact ⟨rfl, rfl, rfl⟩
theorem A5y : ∀ (t : Ty) (G : IM) (cells cells' : List Value), C5 G t cells → C5 G t cells' → Fn Tryz.prog 52 [.agg ⟨cells⟩, .agg ⟨cells'⟩] [] G (H4 (.bool true) G) := by
 refine Ty.ind fun k ks ih G cells cells' hr hr' => ?_
 obtain ⟨p, c, es, rfl, hk, hsl, hkl⟩ := hr.open
 obtain ⟨p', c', es', rfl, hk', hsl', hkl'⟩ := hr'.open
 simp only [Ty.k, Ty.ks] at hk hsl hkl hk' hsl' hkl' ⊢
 have hS := A9b ks ih G p p' c c' es es' hsl hkl hsl' hkl'
 refine B3 Tryz.func52 rfl Tryz.ntmps52 Tryz.results52 rfl ?_
 intro w0
 refine tS (tR ?_)
 refine sE (J6 rfl rfl) rfl (fun b3 => ?_)
 refine sE (J6 rfl rfl) rfl (fun b4 => ?_)
 refine M0 ?_
 refine sP (R0 rfl rfl (by omega)) rfl rfl ?_
 refine O0 ?_
 refine I5 rfl (hS) rfl rfl ?_
 refine D9 ?_
 exact ⟨rfl, rfl, rfl⟩
theorem A9c (ks : List Tm) (ih : ∀ t ∈ ks, ∀ (G : IM) (cells cells' : List Value), C7 G t cells → C7 G t cells' → Fn Tryz.prog 19 [.agg ⟨cells⟩, .agg ⟨cells'⟩] [] G (H4 (.bool true) G))
  (G : IM) (p p' : Option Addr) (c c' : Nat) (es es' : List (List Value)) (hsl : B7 G p ks.length c 9 es) (hkl : E7 G ks es) (hsl' : B7 G p' ks.length c' 9 es') (hkl' : E7 G ks es') :
  Fn Tryz.prog 53 [.slice p ks.length c, .slice p' ks.length c'] [] G (H4 (.bool true) G) := by
 have hn := hsl.le
 refine B3 Tryz.func53 rfl Tryz.ntmps53 Tryz.results53 rfl ?_
 intro w0
 refine O0 ?_
 refine sP (R0 rfl rfl (by omega)) rfl rfl ?_
 refine D7 ?_
 refine D0 (O9 (fun (i : Nat) => ⟨[(5, .int .i64 i), (1, .slice p' ks.length c'), (0, .slice p ks.length c)], [], G⟩) (fun i => i ≤ ks.length) (fun i => ks.length - i) 0 ?_ ?_ ?_)
 exact I6
 exact Nat.zero_le _
 rintro i hi
 refine I2 ?_
 refine sB (N2 rfl rfl) rfl rfl (fun h36 => ?_) (fun h36 => ?_)
 refine sD (nS (qT rfl (tK (nS (tS ?_)))))
 refine D0 ?_
 refine tS ?_
 (obtain ⟨b, o, e, rfl, hl, hat, hre, hgb⟩ := hsl.kidTm hkl (i := i) (by omega) (by omega); obtain ⟨b', o', e', rfl, hl', hat', hre', hgb'⟩ := hsl'.kidTm hkl' (i := i) (by omega) (by omega); refine K7 K9 rfl ?_)
 refine I0 (i := 0) (l' := [tt,ff,ff,ff,ff,ff,ff,ff,ff,ff]) rfl E9 (qM rfl) rfl (by kernel_rfl) rfl rfl ?_
 refine aP 1 rfl (qM rfl) rfl ?_
 refine aP 2 rfl (H2 rfl rfl rfl (by omega)) rfl ?_
 refine aL 3 rfl (D5 rfl rfl (hat _) hl) rfl ?_
 refine aP 4 rfl (qM rfl) rfl ?_
 refine aP 5 rfl (qM rfl) rfl ?_
 refine aP 6 rfl (H2 rfl rfl rfl (by omega)) rfl ?_
 refine aL 7 rfl (D5 rfl rfl (hat' _) hl') rfl ?_
 refine B6 8 ?_
 refine N5 rfl rfl (ih ks[i] (List.getElem_mem (by omega)) _ _ _ hre hre') rfl rfl rfl ?_
 refine aP 9 rfl (X5 rfl) rfl ?_
 refine C6 ?_
 refine sP (K2 rfl rfl (by omega) (by omega)) rfl rfl ?_
 refine sQ (qA rfl) rfl (sD ?_)
 refine P6 (i + 1) ?_ ?_ ?_
 exact I6
 omega
 omega
 refine I7 ?_
 exact ⟨rfl, rfl, rfl⟩
theorem A2V : ∀ (t : Tm) (G : IM) (cells cells' : List Value), C7 G t cells → C7 G t cells' → Fn Tryz.prog 19 [.agg ⟨cells⟩, .agg ⟨cells'⟩] [] G (H4 (.bool true) G) := by
 refine Tm.ind fun k nm num ty fr lb ks ih G cells cells' hr hr' => ?_
 obtain ⟨tk, tks⟩ := ty
 obtain ⟨fk, fks⟩ := fr
 obtain ⟨pt, ct, pf, cf, p, c, es, rfl, hk, hnum, hlb, hty, hfr, hsl, hkl⟩ := hr.open9
 obtain ⟨pt', ct', pf', cf', p', c', es', rfl, hk', hnum', hlb', hty', hfr', hsl', hkl'⟩ := hr'.open9
 have hS := A9c ks ih G p p' c c' es es' hsl hkl hsl' hkl'
 have hT := A5y _ G _ _ hty hty'
 have hF := A5y _ G _ _ hfr hfr'
 refine B3 Tryz.func19 rfl Tryz.ntmps19 Tryz.results19 rfl ?_
 intro w0
 refine tS (tR ?_)
 refine sE (J6 rfl rfl) rfl (fun b3 => ?_)
 refine sE (J6 rfl rfl) rfl (fun b4 => ?_)
 refine M0 ?_
 refine sP (R0 rfl rfl (by omega)) rfl rfl ?_
 refine O0 ?_
 refine sQ (A5x rfl rfl) rfl ?_
 refine O0 ?_
 refine sP (R0 rfl rfl (by omega)) rfl rfl ?_
 refine O0 ?_
 refine I5 rfl (hT) rfl rfl ?_
 refine D9 ?_
 refine I5 rfl (hF) rfl rfl ?_
 refine D9 ?_
 refine sP (R0 rfl rfl (by omega)) rfl rfl ?_
 refine O0 ?_
 refine I5 rfl (hS) rfl rfl ?_
 refine D9 ?_
 exact ⟨rfl, rfl, rfl⟩

abbrev H1 := List (Nat × List Value)

mutual
def R7 : Ty → List Value → H1 → Prop
 | .mk k ks, cells, bs => ∃ p c, cells = [.int .i64 k, .slice p ks.length c] ∧ F1 k ∧ ks.length ≤ c ∧ c ≤ maxLen ∧ ((ks = [] ∧ bs = []) ∨ ∃ b A C es r, p = some ⟨b, A.length, none⟩ ∧ bs = (b, A ++ (es.flatten ++ C)) :: r ∧ J2 ks es r)
def J2 : List Ty → List (List Value) → H1 → Prop
 | [], es, bs => es = [] ∧ bs = []
 | t :: ts, es, bs => ∃ e e' r1 r2, es = e :: e' ∧ bs = r1 ++ r2 ∧ R7 t e r1 ∧ J2 ts e' r2
end
def Q0 (ks : List Ty) (p : Option Addr) (c : Nat) (bs : H1) : Prop :=
 ks.length ≤ c ∧ c ≤ maxLen ∧ ((ks = [] ∧ bs = []) ∨ ∃ b A C es r, p = some ⟨b, A.length, none⟩ ∧ bs = (b, A ++ (es.flatten ++ C)) :: r ∧ J2 ks es r)
theorem R7.open {t : Ty} {cells : List Value} {bs : H1} (h : R7 t cells bs) : ∃ p c, cells = [.int .i64 t.k, .slice p t.ks.length c] ∧ F1 t.k ∧ Q0 t.ks p c bs := by
 cases t
 simp only [R7] at h
 obtain ⟨p, c, h1, h2, h3, h4, h5⟩ := h
 exact ⟨p, c, h1, h2, h3, h4, h5⟩
theorem Q0.ty {k : Int} {ks : List Ty} {p : Option Addr} {c : Nat} {bs : H1} (h : Q0 ks p c bs) (hk : F1 k) : R7 (.mk k ks) [.int .i64 k, .slice p ks.length c] bs := by
 simp only [R7]
 exact ⟨p, c, rfl, hk, h.1, h.2.1, h.2.2⟩
theorem R7.len {t : Ty} {cells : List Value} {bs : H1} (h : R7 t cells bs) : cells.length = 2 := by
 obtain ⟨_, _, rfl, _⟩ := h.open; rfl
theorem J2.len : ∀ {ts : List Ty} {es : List (List Value)} {bs : H1}, J2 ts es bs → es.length = ts.length
 | [], es, bs, h => by simp only [J2] at h; rw [h.1]; rfl
 | t :: ts, es, bs, h => by
  simp only [J2] at h
  obtain ⟨e, e', r1, r2, rfl, rfl, h1, h2⟩ := h
  simp [J2.len h2]
theorem J2.all : ∀ {ts : List Ty} {es : List (List Value)} {bs : H1}, J2 ts es bs → ∀ e ∈ es, e.length = 2
 | [], es, bs, h => by simp only [J2] at h; rw [h.1]; simp
 | t :: ts, es, bs, h => by
  simp only [J2] at h
  obtain ⟨e, e', r1, r2, rfl, rfl, h1, h2⟩ := h
  intro x hx
  rcases List.mem_cons.1 hx with rfl | hx
  ·exact h1.len
  ·exact J2.all h2 x hx
theorem J2.snoc : ∀ {ts : List Ty} {es : List (List Value)} {bs : H1} {t : Ty} {e : List Value} {r : H1}, J2 ts es bs → R7 t e r → J2 (ts ++ [t]) (es ++ [e]) (bs ++ r)
 | [], es, bs, t, e, r, h, h2 => by
  simp only [J2] at h
  obtain ⟨rfl, rfl⟩ := h
  simp only [List.nil_append, J2]
  exact ⟨e, [], r, [], rfl, by simp, h2, rfl, rfl⟩
 | t' :: ts, es, bs, t, e, r, h, h2 => by
  simp only [J2] at h
  obtain ⟨a, a', r1, r2, rfl, rfl, h3, h4⟩ := h
  simp only [List.cons_append, J2]
  exact ⟨a, a' ++ [e], r1, r2 ++ r, rfl, by rw [List.append_assoc], h3, J2.snoc h4 h2⟩
theorem J2.cons {t : Ty} {ts : List Ty} {es : List (List Value)} {bs : H1} (h : J2 (t :: ts) es bs) : ∃ p c e' r1 r2, es = [.int .i64 t.k, .slice p t.ks.length c] :: e' ∧ bs = r1 ++ r2 ∧ Q0 t.ks p c r1 ∧ J2 ts e' r2 := by
 simp only [J2] at h
 obtain ⟨e, e', r1, r2, rfl, rfl, h3, h4⟩ := h
 obtain ⟨p, c, rfl, _, h5⟩ := h3.open
 exact ⟨p, c, e', r1, r2, rfl, rfl, h5, h4⟩

mutual
def O8 : Tm → List Value → H1 → Prop
 | .mk k nm num ty fr lb ks, cells, bs => ∃ tc fc p c bt bf bk, cells = [.int .i64 k, .string nm, .int .i64 num] ++ tc ++ fc ++ [.int .i64 lb, .slice p ks.length c] ∧ F1 k ∧ F1 num ∧ F1 lb ∧ R7 ty tc bt ∧ R7 fr fc bf ∧
   ks.length ≤ c ∧ c ≤ maxLen ∧ ((ks = [] ∧ bk = []) ∨ ∃ b A C es r, p = some ⟨b, A.length, none⟩ ∧ bk = (b, A ++ (es.flatten ++ C)) :: r ∧ J3 ks es r) ∧ bs = bt ++ (bf ++ bk)
def J3 : List Tm → List (List Value) → H1 → Prop
 | [], es, bs => es = [] ∧ bs = []
 | t :: ts, es, bs => ∃ e e' r1 r2, es = e :: e' ∧ bs = r1 ++ r2 ∧ O8 t e r1 ∧ J3 ts e' r2
end
def A0b (ks : List Tm) (p : Option Addr) (c : Nat) (bs : H1) : Prop :=
 ks.length ≤ c ∧ c ≤ maxLen ∧ ((ks = [] ∧ bs = []) ∨ ∃ b A C es r, p = some ⟨b, A.length, none⟩ ∧ bs = (b, A ++ (es.flatten ++ C)) :: r ∧ J3 ks es r)
theorem O8.open {t : Tm} {cells : List Value} {bs : H1} (h : O8 t cells bs) : ∃ pt ct pf cf p c bt bf bk,
  cells = [.int .i64 t.k, .string t.nm, .int .i64 t.num, .int .i64 t.ty.k, .slice pt t.ty.ks.length ct, .int .i64 t.fr.k, .slice pf t.fr.ks.length cf, .int .i64 t.lb, .slice p t.ks.length c] ∧
  Q0 t.ty.ks pt ct bt ∧ Q0 t.fr.ks pf cf bf ∧ A0b t.ks p c bk ∧ bs = bt ++ (bf ++ bk) := by
 cases t
 simp only [O8] at h
 obtain ⟨tc, fc, p, c, bt, bf, bk, h1, _, _, _, h5, h6, h7, h8, h9, h10⟩ := h
 obtain ⟨pt, ct, rfl, _, ht⟩ := h5.open
 obtain ⟨pf, cf, rfl, _, hf⟩ := h6.open
 exact ⟨pt, ct, pf, cf, p, c, bt, bf, bk, h1, ht, hf, ⟨h7, h8, h9⟩, h10⟩
theorem O8.mk {k : Int} {nm : ByteArray} {num tk fk lb : Int} {tks fks : List Ty} {ks : List Tm} {pt pf p : Option Addr} {ct cf c : Nat} {bt bf bk : H1} (hk : F1 k) (hn : F1 num) (htk : F1 tk) (hfk : F1 fk) (hlb : F1 lb)
  (ht : Q0 tks pt ct bt) (hf : Q0 fks pf cf bf) (h : A0b ks p c bk) :
  O8 (.mk k nm num (.mk tk tks) (.mk fk fks) lb ks) [.int .i64 k, .string nm, .int .i64 num, .int .i64 tk, .slice pt tks.length ct, .int .i64 fk, .slice pf fks.length cf, .int .i64 lb, .slice p ks.length c] (bt ++ (bf ++ bk)) := by
 simp only [O8]
 exact ⟨_, _, p, c, bt, bf, bk, rfl, hk, hn, hlb, ht.ty htk, hf.ty hfk, h.1, h.2.1, h.2.2, rfl⟩
theorem O8.len {t : Tm} {cells : List Value} {bs : H1} (h : O8 t cells bs) : cells.length = 9 := by
 obtain ⟨_, _, _, _, _, _, _, _, _, rfl, _⟩ := h.open; rfl
theorem J3.len : ∀ {ts : List Tm} {es : List (List Value)} {bs : H1}, J3 ts es bs → es.length = ts.length
 | [], es, bs, h => by simp only [J3] at h; rw [h.1]; rfl
 | t :: ts, es, bs, h => by
  simp only [J3] at h
  obtain ⟨e, e', r1, r2, rfl, rfl, h1, h2⟩ := h
  simp [J3.len h2]
theorem J3.all : ∀ {ts : List Tm} {es : List (List Value)} {bs : H1}, J3 ts es bs → ∀ e ∈ es, e.length = 9
 | [], es, bs, h => by simp only [J3] at h; rw [h.1]; simp
 | t :: ts, es, bs, h => by
  simp only [J3] at h
  obtain ⟨e, e', r1, r2, rfl, rfl, h1, h2⟩ := h
  intro x hx
  rcases List.mem_cons.1 hx with rfl | hx
  ·exact h1.len
  ·exact J3.all h2 x hx
theorem J3.snoc : ∀ {ts : List Tm} {es : List (List Value)} {bs : H1} {t : Tm} {e : List Value} {r : H1}, J3 ts es bs → O8 t e r → J3 (ts ++ [t]) (es ++ [e]) (bs ++ r)
 | [], es, bs, t, e, r, h, h2 => by
  simp only [J3] at h
  obtain ⟨rfl, rfl⟩ := h
  simp only [List.nil_append, J3]
  exact ⟨e, [], r, [], rfl, by simp, h2, rfl, rfl⟩
 | t' :: ts, es, bs, t, e, r, h, h2 => by
  simp only [J3] at h
  obtain ⟨a, a', r1, r2, rfl, rfl, h3, h4⟩ := h
  simp only [List.cons_append, J3]
  exact ⟨a, a' ++ [e], r1, r2 ++ r, rfl, by rw [List.append_assoc], h3, J3.snoc h4 h2⟩
theorem J3.cons {t : Tm} {ts : List Tm} {es : List (List Value)} {bs : H1} (h : J3 (t :: ts) es bs) : ∃ e e' r1 r2, es = e :: e' ∧ bs = r1 ++ r2 ∧ O8 t e r1 ∧ J3 ts e' r2 := by
 simpa only [J3] using h

mutual
def A0r : Ty → Int
 | .mk _ ks => 1 + B0 ks
def B0 : List Ty → Int
 | [] => 0
 | t :: ts => A0r t + B0 ts
end
mutual
def A1I : Ty → Int → Ty
 | .mk _ ks, k => .mk k (K4 ks (k + 1))
def K4 : List Ty → Int → List Ty
 | [], _ => []
 | t :: ts, k => A1I t k :: K4 ts (k + A0r t)
end
mutual
def A0s : Tm → Int
 | .mk _ _ _ ty fr _ ks => 6 + B0 ty.ks + B0 fr.ks + J4 ks
def J4 : List Tm → Int
 | [] => 0
 | t :: ts => A0s t + J4 ts
end
mutual
def A1J : Tm → Int → Tm
 | .mk _ _ _ ty fr _ ks, k => .mk k (A0Z (k + 1).toNat) (k + 1 + 1) (.mk (k + 1 + 1 + 1) (K4 ty.ks (k + 1 + 1 + 1 + 1))) (.mk (k + 1 + 1 + 1 + 1 + B0 ty.ks) (K4 fr.ks (k + 1 + 1 + 1 + 1 + B0 ty.ks + 1))) (k + 1 + 1 + 1 + 1 + B0 ty.ks + 1 + B0 fr.ks) (O3 ks (k + 1 + 1 + 1 + 1 + B0 ty.ks + 1 + B0 fr.ks + 1))
def O3 : List Tm → Int → List Tm
 | [], _ => []
 | t :: ts, k => A1J t k :: O3 ts (k + A0s t)
end
mutual
theorem A9d : ∀ t : Ty, 1 ≤ A0r t
 | .mk _ ks => by have := T0 ks; rw [A0r]; omega
theorem T0 : ∀ ts : List Ty, 0 ≤ B0 ts
 | [] => by rw [B0]; omega
 | t :: ts => by have := A9d t; have := T0 ts; rw [B0]; omega
end
mutual
theorem A9e : ∀ t : Tm, 6 ≤ A0s t
 | .mk _ _ _ ty fr _ ks => by have := A0t ks; have := T0 ty.ks; have := T0 fr.ks; rw [A0s]; omega
theorem A0t : ∀ ts : List Tm, 0 ≤ J4 ts
 | [] => by rw [J4]; omega
 | t :: ts => by have := A9e t; have := A0t ts; rw [J4]; omega
end
theorem A3P : ∀ a b : List Ty, B0 (a ++ b) = B0 a + B0 b
 | [], b => by simp [B0]
 | t :: a, b => by rw [List.cons_append, B0, B0, A3P a b]; omega
theorem A3Q : ∀ a b : List Tm, J4 (a ++ b) = J4 a + J4 b
 | [], b => by simp [J4]
 | t :: a, b => by rw [List.cons_append, J4, J4, A3Q a b]; omega
theorem A5z {ks : List Ty} {i : Nat} (hi : i < ks.length) : B0 (ks.take (i + 1)) = B0 (ks.take i) + A0r ks[i] := by
 rw [List.take_succ_eq_append_getElem hi, A3P, B0, B0]; omega
theorem A5A {ks : List Tm} {i : Nat} (hi : i < ks.length) : J4 (ks.take (i + 1)) = J4 (ks.take i) + A0s ks[i] := by
 rw [List.take_succ_eq_append_getElem hi, A3Q, J4, J4]; omega
theorem A3R (ks : List Ty) (i : Nat) : B0 (ks.take i) ≤ B0 ks := by
 have h := A3P (ks.take i) (ks.drop i)
 rw [List.take_append_drop] at h
 have := T0 (ks.drop i); omega
theorem A3S (ks : List Tm) (i : Nat) : J4 (ks.take i) ≤ J4 ks := by
 have h := A3Q (ks.take i) (ks.drop i)
 rw [List.take_append_drop] at h
 have := A0t (ks.drop i); omega
theorem A5B (t : Ty) : A0r t = 1 + B0 t.ks := by cases t; rw [A0r]; rfl
theorem A3T (t : Tm) : A0s t = 6 + B0 t.ty.ks + B0 t.fr.ks + J4 t.ks := by cases t; rw [A0s]; rfl
theorem A5C : ∀ (ts : List Ty) (t : Ty) (k : Int), K4 (ts ++ [t]) k = K4 ts k ++ [A1I t (k + B0 ts)]
 | [], t, k => by simp [K4, B0]
 | t' :: ts, t, k => by rw [List.cons_append, K4, A5C ts t, K4, B0, List.cons_append, Int.add_assoc]
theorem A5D : ∀ (ts : List Tm) (t : Tm) (k : Int), O3 (ts ++ [t]) k = O3 ts k ++ [A1J t (k + J4 ts)]
 | [], t, k => by simp [O3, J4]
 | t' :: ts, t, k => by rw [List.cons_append, O3, A5D ts t, O3, J4, List.cons_append, Int.add_assoc]
theorem A9f {ks : List Ty} {i : Nat} (hi : i < ks.length) (k : Int) : K4 (ks.take (i + 1)) k = K4 (ks.take i) k ++ [A1I ks[i] (k + B0 (ks.take i))] := by
 rw [List.take_succ_eq_append_getElem hi, A5C]
theorem A9g {ks : List Tm} {i : Nat} (hi : i < ks.length) (k : Int) : O3 (ks.take (i + 1)) k = O3 (ks.take i) k ++ [A1J ks[i] (k + J4 (ks.take i))] := by
 rw [List.take_succ_eq_append_getElem hi, A5D]
theorem A0c : ∀ (ts : List Ty) (k : Int), (K4 ts k).length = ts.length
 | [], k => rfl
 | t :: ts, k => by rw [K4, List.length_cons, A0c ts, List.length_cons]
theorem A1p : ∀ (ts : List Tm) (k : Int), (O3 ts k).length = ts.length
 | [], k => rfl
 | t :: ts, k => by rw [O3, List.length_cons, A1p ts, List.length_cons]
theorem A5E (t : Ty) (k : Int) : A1I t k = .mk k (K4 t.ks (k + 1)) := by cases t; rw [A1I]; rfl
theorem A5F (t : Tm) (k : Int) : A1J t k = .mk k (A0Z (k + 1).toNat) (k + 1 + 1) (.mk (k + 1 + 1 + 1) (K4 t.ty.ks (k + 1 + 1 + 1 + 1))) (.mk (k + 1 + 1 + 1 + 1 + B0 t.ty.ks) (K4 t.fr.ks (k + 1 + 1 + 1 + 1 + B0 t.ty.ks + 1))) (k + 1 + 1 + 1 + 1 + B0 t.ty.ks + 1 + B0 t.fr.ks) (O3 t.ks (k + 1 + 1 + 1 + 1 + B0 t.ty.ks + 1 + B0 t.fr.ks + 1)) := by cases t; rw [A1J]; rfl

theorem A5G : ∀ {X e e' Y vs : List Value} {o : Nat}, N8 e o vs = some e' → N8 (X ++ (e ++ Y)) (X.length + o) vs = some (X ++ (e' ++ Y))
 | [], e, e', Y, vs, o, h => by
  obtain ⟨h1, h2⟩ := A2e h
  simp only [List.nil_append, List.length_nil, Nat.zero_add]
  have := A5q (A := e.take o) (B := (e.drop o).take vs.length) (C := (e.drop o).drop vs.length ++ Y) (V := vs) (o := o) (by simp; omega) (by simp; omega)
  rw [show e.take o ++ ((e.drop o).take vs.length ++ ((e.drop o).drop vs.length ++ Y)) = e ++ Y from by
   rw [← List.append_assoc ((e.drop o).take vs.length), List.take_append_drop, ← List.append_assoc, List.take_append_drop]] at this
  rw [this, h1, List.drop_drop]
  simp
 | x :: X, e, e', Y, vs, o, h => by
  have := A5G (X := X) (Y := Y) h
  rw [List.length_cons, show X.length + 1 + o = (X.length + o) + 1 by omega]
  simp only [List.cons_append, N8, this]
theorem A1q {A : List Value} {D : List (List Value)} {e e' R vs : List Value} {i sz off : Nat} (hD : D.length = i) (ha : ∀ x ∈ D, x.length = sz) (he : N8 e off vs = some e') :
  N8 (A ++ (D.flatten ++ (e ++ R))) (A.length + i * sz + off) vs = some (A ++ (D.flatten ++ (e' ++ R))) := by
 have := A5G (X := A ++ D.flatten) (Y := R) he
 rw [List.length_append, A2k ha, hD, List.append_assoc, List.append_assoc] at this
 exact this
theorem A9h {A : List Value} {D : List (List Value)} {e R : List Value} {i sz off : Nat} {v : Value} (hD : D.length = i) (ha : ∀ x ∈ D, x.length = sz) (he : e[off]? = some v) :
  (A ++ (D.flatten ++ (e ++ R)))[A.length + i * sz + off]? = some v := by
 have hlt : off < e.length := (List.getElem?_eq_some_iff.1 he).1
 have hf := A2k ha
 rw [hD] at hf
 rw [List.getElem?_append, if_neg (by omega), List.getElem?_append, if_neg (by omega), List.getElem?_append, if_pos (by omega)]
 rw [show A.length + i * sz + off - A.length - D.flatten.length = off by omega]
 exact he
theorem A3U {hp : List A1} {G : IM} {b : Nat} {A : List Value} {D : List (List Value)} {e R : List Value} {i sz off : Nat} {v : Value} (hm : A1.blk b (A ++ (D.flatten ++ (e ++ R))) ∈ hp) (hD : D.length = i) (ha : ∀ x ∈ D, x.length = sz) (he : e[off]? = some v) :
  At hp G b (A.length + i * sz + off) [v] := A40 hm (A9h hD ha he)

section lend
variable {P : Program} {Γ : E6} {env : F9} {hp : List A1} {G : IM} {K : Po} {ops : Array Oper} {rest : List Oper} {ty : TypeId} {pos : String} {af : Array Edge} {gd : Option (Nat × Bool)}
def A1K (v0 : Value) (G : IM) (Φ : H1 → Prop) : IM → Value → List A1 → Prop := fun G' v outs => G' = G ∧ v = v0 ∧ ∃ bs', outs = blks bs' ∧ Φ bs'
theorem A5H (x : A1) (r0 r1 r2 : H1) : (x :: blks (r0 ++ (r1 ++ r2))).Perm (blks r1 ++ (x :: blks (r0 ++ r2))) := by
 simp only [A8L]
 refine List.Perm.trans ?_ List.perm_middle.symm
 refine List.Perm.cons x ?_
 rw [← List.append_assoc, ← List.append_assoc]
 exact List.Perm.append_right _ List.perm_append_comm
theorem A00 {d : Nat} {f : FuncId} [hF : A8 P f] {xs : List Operand} {ats : Array TypeId} {vs : List Value} {v0 : Value} {Φ : H1 → Prop} {x : A1} {R r0 r1 r2 : H1}
  (hx : evl env xs = some vs) (h : Fn P f vs (blks r1) G (A1K v0 G Φ)) (hR : R = r0 ++ (r1 ++ r2)) (hw : J0 ops env gd = some true) (hd : Nat.blt d Γ.n = true)
  (k : ∀ r1', Φ r1' → C4 P Γ ops rest K ⟨(d, v0) :: env, x :: blks (r0 ++ (r1' ++ r2)), G⟩) : C4 P Γ ops (⟨some d, .call ⟨.value (.func f), ⟨xs⟩, ats⟩, ty, pos, af, gd⟩ :: rest) K ⟨env, x :: blks R, G⟩ := by
 subst hR
 refine F3 (A1D hx h (A5H x r0 r1 r2) hd) hw ?_
 rintro _ ⟨v, G', outs, rfl, _, rfl, rfl, r1', rfl, hΦ⟩
 exact A3J (A5H x r0 r1' r2).symm (k r1' hΦ)
end lend
theorem A9i (D : List (List Value)) (e R : List Value) : D.flatten ++ (e ++ R) = (D ++ [e]).flatten ++ R := by simp
theorem Q0.ty_mk {k k' : Int} {ks : List Ty} {p : Option Addr} {c : Nat} {bs : H1} (h : Q0 (K4 ks k') p c bs) (hk : F1 k) : R7 (.mk k (K4 ks k')) [.int .i64 k, .slice p ks.length c] bs := by
 have := h.ty hk; rwa [A0c] at this
theorem J2.drop {ks : List Ty} {i : Nat} {T : List (List Value)} {r : H1} (hi : i < ks.length) (h : J2 (ks.drop i) T r) : ∃ p c e' r1 r2, T = [.int .i64 ks[i].k, .slice p ks[i].ks.length c] :: e' ∧ r = r1 ++ r2 ∧ Q0 ks[i].ks p c r1 ∧ J2 (ks.drop (i + 1)) e' r2 := by
 rw [List.drop_eq_getElem_cons hi] at h; exact h.cons
theorem J2.fin {ks : List Ty} {T : List (List Value)} {r : H1} (h : J2 (ks.drop ks.length) T r) : T = [] ∧ r = [] := by
 rw [List.drop_length] at h; simpa only [J2] using h
theorem J2.done {ks : List Ty} {k : Int} {c : Nat} {b : Nat} {A C : List Value} {D T : List (List Value)} {r0 r1 : H1} (hc : ks.length ≤ c) (hm : c ≤ maxLen) (hD : J2 (K4 (ks.take ks.length) k) D r0) (hT : J2 (ks.drop ks.length) T r1) :
  ∃ bs', (A1.blk b (A ++ (D.flatten ++ (T.flatten ++ C))) :: blks (r0 ++ r1)) = blks bs' ∧ Q0 (K4 ks k) (some ⟨b, A.length, none⟩) c bs' := by
 obtain ⟨rfl, rfl⟩ := hT.fin
 rw [List.take_length] at hD
 exact ⟨(b, A ++ (D.flatten ++ C)) :: r0, by simp [blks], by rw [A0c]; exact hc, hm, .inr ⟨b, A, C, D, r0, rfl, rfl, hD⟩⟩
theorem A3V : ∀ (t : Ty) (k : Int) (G : IM) (p : Option Addr) (c : Nat) (bs : H1), Q0 t.ks p c bs → 0 < k → k + B0 t.ks ≤ 1099511627776 →
  Fn Tryz.prog 107 [.slice p t.ks.length c, .int .i64 k] (blks bs) G (A1K (.int .i64 (k + B0 t.ks)) G (Q0 (K4 t.ks k) p c)) := by
 refine Ty.ind fun k0 ks ih k G p c bs ho hk hb => ?_
 simp only [Ty.ks] at ho hb ⊢
 obtain ⟨hc, hm, h⟩ := ho
 rcases h with ⟨rfl, rfl⟩ | ⟨b, A, C, es, r, rfl, rfl, hL⟩
 ·refine B3 Tryz.func107 rfl Tryz.ntmps107 Tryz.results107 rfl ?_
  intro w0
  refine D7 ?_
  refine D0 ?_
  refine O9 (fun (_ : Unit) => ⟨[(5, .int .i64 0), (1, .int .i64 k), (0, .slice p 0 c)], [], G⟩) (fun _ => True) (fun _ => 0) () ?_ ?_ ?_
  ·exact I6
  ·trivial
  ·(rintro _ _)
   refine I2 ?_
   refine sP (M8 rfl rfl (by omega)) rfl rfl ?_
   refine I7 ?_
   refine C8 (rT rfl) H0.refl ?_
   exact ⟨rfl, by rw [B0, Int.add_zero], [], rfl, ⟨hc, hm, .inl ⟨rfl, rfl⟩⟩⟩
 ·have hcm := hm
  unfold maxLen at hcm
  have hn : ks.length ≤ 9223372036854775807 := by omega
  refine B3 (ins := .blk b (A ++ (es.flatten ++ C)) :: blks r) Tryz.func107 rfl Tryz.ntmps107 Tryz.results107 rfl ?_
  intro w0
  refine D7 ?_
  refine D0 (O9 (fun (x : Nat × Int × List (List Value) × List (List Value) × H1 × H1) => ⟨[(5, .int .i64 x.1), (1, .int .i64 x.2.1), (0, .slice (some ⟨b, A.length, none⟩) ks.length c)], .blk b (A ++ (x.2.2.1.flatten ++ (x.2.2.2.1.flatten ++ C))) :: blks (x.2.2.2.2.1 ++ x.2.2.2.2.2), G⟩) (fun x => x.1 ≤ ks.length ∧ x.2.1 = k + B0 (ks.take x.1) ∧ J2 (K4 (ks.take x.1) k) x.2.2.1 x.2.2.2.2.1 ∧ J2 (ks.drop x.1) x.2.2.2.1 x.2.2.2.2.2) (fun x => ks.length - x.1) (0, k, [], es, [], r) ?_ ?_ ?_)
  (simp only [T9]; exact I6)
  exact ⟨by simp, by simp [B0], by simp [J2, K4], by simpa using hL⟩
  (rintro ⟨i, kk, D, T, r0, r1⟩ ⟨hi, hkk, hD, hT⟩; simp only [] at hi hkk hD hT ⊢; have hDl : D.length = i := (by rw [hD.len, A0c, List.length_take]; omega); have hall := hD.all; have hnn := T0 (ks.take i); have htk := A3R ks i)
  refine I2 ?_
  refine sB (N2 rfl rfl) rfl rfl (fun h23 => ?_) (fun h23 => ?_)
  refine sD (nS (qT rfl (tK (nS (tS ?_)))))
  refine D0 ?_
  refine R6 ?_
  refine sP (H2 rfl rfl rfl (by omega)) rfl rfl ?_
  refine sQ (qF rfl) rfl ?_
  (obtain ⟨p3, c3, T', r1a, r1b, rfl, rfl, hos, hT'⟩ := hT.drop (by omega); rw [List.flatten_cons, List.append_assoc]; refine M7 rfl rfl rfl rfl rfl rfl Sw.here (A1q hDl hall rfl) ?_)
  refine sD (nS (tS (tR (sQ (qM rfl) rfl ?_))))
  refine sP (K2 rfl rfl (by omega) (by omega)) rfl rfl ?_
  refine I2 ?_
  refine sP (H2 rfl rfl rfl (by omega)) rfl rfl ?_
  refine sQ (qF rfl) rfl ?_
  refine sL (H3 rfl rfl (A3U (List.Mem.head _) hDl hall rfl)) rfl rfl ?_
  refine sQ (qM rfl) rfl ?_
  (have hsu := A5z (ks := ks) (i := i) (by omega); have hta := A3R ks (i + 1); have hce := A5B ks[i]; refine A00 rfl (ih ks[i] (List.getElem_mem (by omega)) (kk + 1) G p3 c3 r1a hos (by omega) (by omega)) rfl rfl rfl (fun r1' hr1 => ?_))
  refine I2 ?_
  refine sP (K2 rfl rfl (by omega) (by omega)) rfl rfl ?_
  refine sQ (qA rfl) rfl (sD ?_)
  (rw [A9i D, ← List.append_assoc r0]; refine P6 (i + 1, kk + 1 + B0 ks[i].ks, D ++ [[.int .i64 kk, .slice p3 ks[i].ks.length c3]], T', r0 ++ r1', r1b) ?_ ?_ ?_)
  (simp only [T9]; exact I6)
  (dsimp only; exact ⟨by omega, by omega, by rw [A9f (by omega), A5E, ← hkk]; exact hD.snoc (hr1.ty_mk ⟨by omega, by omega⟩), hT'⟩)
  (show ks.length - (i + 1) < ks.length - i; omega)
  refine I7 ?_
  (obtain rfl : i = ks.length := (by omega); refine C8 (rT rfl) H0.refl ?_)
  exact ⟨rfl, by rw [hkk, List.take_length], J2.done hc hm hD hT⟩
theorem A5I (t : Ty) (k : Int) (G : IM) (cells : List Value) (bs : H1) (ho : R7 t cells bs) (hk : 0 < k) (hb : k + B0 t.ks ≤ 1099511627776) :
  Fn Tryz.prog 54 [.agg ⟨cells⟩, .int .i64 k] (blks bs) G (A1K (.int .i64 (k + B0 t.ks)) G (fun bs' => ∃ p c, cells = [.int .i64 t.k, .slice p t.ks.length c] ∧ Q0 (K4 t.ks k) p c bs')) := by
 obtain ⟨p, c, rfl, hi, ho⟩ := ho.open
 have hM := A3V t k G p c bs ho hk hb
 refine B3 Tryz.func54 rfl Tryz.ntmps54 Tryz.results54 rfl ?_
 intro w0
 refine tS (tR ?_)
 refine sE (J6 rfl rfl) rfl (fun b3 => ?_)
 refine C6 ?_
 (refine A00 (r0 := []) (r2 := []) rfl hM (by simp) rfl rfl (fun r1' hr1 => ?_); rw [List.nil_append, List.append_nil])
 refine M0 ?_
 refine C8 (rT rfl) (H0.drop H0.refl) ?_
 exact ⟨rfl, rfl, _, rfl, p, c, rfl, hr1⟩
theorem A5J {hp : List A1} {G : IM} {b : Nat} {A : List Value} {D : List (List Value)} {e R : List Value} {i sz o1 o2 : Nat} {v : Value} (hm : A1.blk b (A ++ (D.flatten ++ (e ++ R))) ∈ hp) (hD : D.length = i) (ha : ∀ x ∈ D, x.length = sz) (he : e[o1 + o2]? = some v) :
  At hp G b (A.length + i * sz + o1 + o2) [v] := by rw [Nat.add_assoc]; exact A3U hm hD ha he
theorem O8.mkm {k : Int} {nm : ByteArray} {num tk fk lb ka kb kd : Int} {a d : List Ty} {ks : List Tm} {pt pf p : Option Addr} {ct cf c : Nat} {bt bf bk : H1} (ht : Q0 (K4 a ka) pt ct bt) (hf : Q0 (K4 d kb) pf cf bf) (h : A0b (O3 ks kd) p c bk)
  (hk : F1 k) (hn : F1 num) (htk : F1 tk) (hfk : F1 fk) (hlb : F1 lb) :
  O8 (.mk k nm num (.mk tk (K4 a ka)) (.mk fk (K4 d kb)) lb (O3 ks kd)) [.int .i64 k, .string nm, .int .i64 num, .int .i64 tk, .slice pt a.length ct, .int .i64 fk, .slice pf d.length cf, .int .i64 lb, .slice p ks.length c] (bt ++ (bf ++ bk)) := by
 have := O8.mk (nm := nm) hk hn htk hfk hlb ht hf h
 rwa [A0c a, A0c d, A1p] at this
theorem J3.drop {ks : List Tm} {i : Nat} {T : List (List Value)} {r : H1} (hi : i < ks.length) (h : J3 (ks.drop i) T r) : ∃ pt ct pf cf p c e' bt bf bk r2,
  T = [.int .i64 ks[i].k, .string ks[i].nm, .int .i64 ks[i].num, .int .i64 ks[i].ty.k, .slice pt ks[i].ty.ks.length ct, .int .i64 ks[i].fr.k, .slice pf ks[i].fr.ks.length cf, .int .i64 ks[i].lb, .slice p ks[i].ks.length c] :: e' ∧
  r = (bt ++ (bf ++ bk)) ++ r2 ∧ Q0 ks[i].ty.ks pt ct bt ∧ Q0 ks[i].fr.ks pf cf bf ∧ A0b ks[i].ks p c bk ∧ J3 (ks.drop (i + 1)) e' r2 := by
 rw [List.drop_eq_getElem_cons hi] at h
 obtain ⟨e, e', r1, r2, rfl, rfl, h1, h2⟩ := h.cons
 obtain ⟨pt, ct, pf, cf, p, c, bt, bf, bk, rfl, h3, h4, h5, rfl⟩ := h1.open
 exact ⟨pt, ct, pf, cf, p, c, e', bt, bf, bk, r2, rfl, rfl, h3, h4, h5, h2⟩
theorem J3.fin {ks : List Tm} {T : List (List Value)} {r : H1} (h : J3 (ks.drop ks.length) T r) : T = [] ∧ r = [] := by
 rw [List.drop_length] at h; simpa only [J3] using h
theorem J3.done {ks : List Tm} {k : Int} {c : Nat} {b : Nat} {A C : List Value} {D T : List (List Value)} {r0 r1 : H1} (hc : ks.length ≤ c) (hm : c ≤ maxLen) (hD : J3 (O3 (ks.take ks.length) k) D r0) (hT : J3 (ks.drop ks.length) T r1) :
  ∃ bs', (A1.blk b (A ++ (D.flatten ++ (T.flatten ++ C))) :: blks (r0 ++ r1)) = blks bs' ∧ A0b (O3 ks k) (some ⟨b, A.length, none⟩) c bs' := by
 obtain ⟨rfl, rfl⟩ := hT.fin
 rw [List.take_length] at hD
 exact ⟨(b, A ++ (D.flatten ++ C)) :: r0, by simp [blks], by rw [A1p]; exact hc, hm, .inr ⟨b, A, C, D, r0, rfl, rfl, hD⟩⟩
theorem A9j {P : Program} {Γ : E6} {env : F9} {hp hp' : List A1} {G : IM} {K : Po} {ops : Array Oper} {rest : List Oper} (e : hp = hp') (k : C4 P Γ ops rest K ⟨env, hp', G⟩) : C4 P Γ ops rest K ⟨env, hp, G⟩ := by rw [e]; exact k
theorem A5K (k : Int) (h0 : 0 < k) (hk : k < 1000000000000000000) (G : IM) : Fn Tryz.prog 108 [.int .i64 k] [] G (H4 (.string (A0Z k.toNat)) G) := by
 have h := A87 k.toNat (by omega) (by omega) G
 rwa [show ((k.toNat : Nat) : Int) = k by omega] at h
theorem A9k : ∀ (t : Tm) (k : Int) (G : IM) (p : Option Addr) (c : Nat) (bs : H1), A0b t.ks p c bs → 0 < k → k + J4 t.ks ≤ 1099511627776 →
  Fn Tryz.prog 55 [.slice p t.ks.length c, .int .i64 k] (blks bs) G (A1K (.int .i64 (k + J4 t.ks)) G (A0b (O3 t.ks k) p c)) := by
 refine Tm.ind fun k0 nm0 num0 A3 fr0 lb0 ks ih k G p c bs ho hk hb => ?_
 simp only [Tm.ks] at ho hb ⊢
 obtain ⟨hc, hm, h⟩ := ho
 rcases h with ⟨rfl, rfl⟩ | ⟨b, A, C, es, r, rfl, rfl, hL⟩
 ·refine B3 Tryz.func55 rfl Tryz.ntmps55 Tryz.results55 rfl ?_
  intro w0
  refine D7 ?_
  refine D0 ?_
  refine O9 (fun (_ : Unit) => ⟨[(5, .int .i64 0), (1, .int .i64 k), (0, .slice p 0 c)], [], G⟩) (fun _ => True) (fun _ => 0) () ?_ ?_ ?_
  ·exact I6
  ·trivial
  ·(rintro _ _)
   refine I2 ?_
   refine sP (M8 rfl rfl (by omega)) rfl rfl ?_
   refine I7 ?_
   refine C8 (rT rfl) H0.refl ?_
   exact ⟨rfl, by rw [J4, Int.add_zero], [], rfl, ⟨hc, hm, .inl ⟨rfl, rfl⟩⟩⟩
 ·have hcm := hm
  unfold maxLen at hcm
  have hn : ks.length ≤ 9223372036854775807 := by omega
  refine B3 (ins := .blk b (A ++ (es.flatten ++ C)) :: blks r) Tryz.func55 rfl Tryz.ntmps55 Tryz.results55 rfl ?_
  intro w0
  refine D7 ?_
  refine D0 (O9 (fun (x : Nat × Int × List (List Value) × List (List Value) × H1 × H1) => ⟨[(5, .int .i64 x.1), (1, .int .i64 x.2.1), (0, .slice (some ⟨b, A.length, none⟩) ks.length c)], .blk b (A ++ (x.2.2.1.flatten ++ (x.2.2.2.1.flatten ++ C))) :: blks (x.2.2.2.2.1 ++ x.2.2.2.2.2), G⟩) (fun x => x.1 ≤ ks.length ∧ x.2.1 = k + J4 (ks.take x.1) ∧ J3 (O3 (ks.take x.1) k) x.2.2.1 x.2.2.2.2.1 ∧ J3 (ks.drop x.1) x.2.2.2.1 x.2.2.2.2.2) (fun x => ks.length - x.1) (0, k, [], es, [], r) ?_ ?_ ?_)
  (simp only [T9]; exact I6)
  exact ⟨by simp, by simp [J4], by simp [J3, O3], by simpa using hL⟩
  (rintro ⟨i, kk, D, T, r0, r1⟩ ⟨hi, hkk, hD, hT⟩; simp only [] at hi hkk hD hT ⊢; have hDl : D.length = i := (by rw [hD.len, A1p, List.length_take]; omega); have hall := hD.all; have hnn := A0t (ks.take i); have htk := A3S ks i)
  refine I2 ?_
  refine sB (N2 rfl rfl) rfl rfl (fun h23 => ?_) (fun h23 => ?_)
  refine sD (nS (qT rfl (tK (nS (tS ?_)))))
  refine D0 ?_
  refine R6 ?_
  refine sP (H2 rfl rfl rfl (by omega)) rfl rfl ?_
  refine sQ (qF rfl) rfl ?_
  (obtain ⟨pt3, ct3, pf3, cf3, p3, c3, T', bt, bf, bk, r1b, rfl, rfl, hot, hof, hos, hT'⟩ := hT.drop (by omega); have hsu := A5A (ks := ks) (i := i) (by omega); have hta := A3S ks (i + 1); have hce := A3T ks[i]; have hn1 := T0 ks[i].ty.ks; have hn2 := T0 ks[i].fr.ks; have hn3 := A0t ks[i].ks; rw [List.flatten_cons, List.append_assoc]; refine M7 rfl rfl rfl rfl rfl rfl Sw.here (A1q hDl hall rfl) ?_)
  refine sD (nS (tS (tR (sQ (qM rfl) rfl ?_))))
  refine sP (K2 rfl rfl (by omega) (by omega)) rfl rfl ?_
  refine C6 ?_
  refine I5 rfl (A5K _ (by omega) (by omega) _) rfl rfl ?_
  refine sP (H2 rfl rfl rfl (by omega)) rfl rfl ?_
  refine sQ (qF rfl) rfl ?_
  refine M7 rfl rfl rfl rfl rfl rfl Sw.here (A1q hDl hall rfl) ?_
  refine sD (nS (tS (tR (sQ (qM rfl) rfl ?_))))
  refine sP (K2 rfl rfl (by omega) (by omega)) rfl rfl ?_
  refine C6 ?_
  refine sP (H2 rfl rfl rfl (by omega)) rfl rfl ?_
  refine sQ (qF rfl) rfl ?_
  refine M7 rfl rfl rfl rfl rfl rfl Sw.here (A1q hDl hall rfl) ?_
  refine sD (nS (tS (tR (sQ (qM rfl) rfl ?_))))
  refine sP (K2 rfl rfl (by omega) (by omega)) rfl rfl ?_
  refine C6 ?_
  refine sP (H2 rfl rfl rfl (by omega)) rfl rfl ?_
  refine sQ (qF rfl) rfl (sQ (qF rfl) rfl ?_)
  refine M7 rfl rfl rfl rfl rfl rfl Sw.here (A1q hDl hall rfl) ?_
  refine sD (nS (tS (tR (sQ (qM rfl) rfl ?_))))
  refine sP (K2 rfl rfl (by omega) (by omega)) rfl rfl ?_
  refine B1 ?_
  refine sP (H2 rfl rfl rfl (by omega)) rfl rfl ?_
  refine sQ (qF rfl) rfl (sQ (qF rfl) rfl ?_)
  refine sL (H3 rfl rfl (A5J (List.Mem.head _) hDl hall rfl)) rfl rfl ?_
  refine sQ (qM rfl) rfl ?_
  (refine A00 (r0 := r0) (r1 := bt) (r2 := bf ++ (bk ++ r1b)) rfl (A3V ks[i].ty (kk + 1 + 1 + 1 + 1) G pt3 ct3 bt hot (by omega) (by omega)) (by simp) rfl rfl (fun bt' hbt => ?_))
  refine C6 ?_
  refine sP (H2 rfl rfl rfl (by omega)) rfl rfl ?_
  refine sQ (qF rfl) rfl (sQ (qF rfl) rfl ?_)
  refine M7 rfl rfl rfl rfl rfl rfl Sw.here (A1q hDl hall rfl) ?_
  refine sD (nS (tS (tR (sQ (qM rfl) rfl ?_))))
  refine sP (K2 rfl rfl (by omega) (by omega)) rfl rfl ?_
  refine B1 ?_
  refine sP (H2 rfl rfl rfl (by omega)) rfl rfl ?_
  refine sQ (qF rfl) rfl (sQ (qF rfl) rfl ?_)
  refine sL (H3 rfl rfl (A5J (List.Mem.head _) hDl hall rfl)) rfl rfl ?_
  refine sQ (qM rfl) rfl ?_
  (refine A00 (r0 := r0 ++ bt') (r1 := bf) (r2 := bk ++ r1b) rfl (A3V ks[i].fr (kk + 1 + 1 + 1 + 1 + B0 ks[i].ty.ks + 1) G pf3 cf3 bf hof (by omega) (by omega)) (by simp) rfl rfl (fun bf' hbf => ?_))
  refine C6 ?_
  refine sP (H2 rfl rfl rfl (by omega)) rfl rfl ?_
  refine sQ (qF rfl) rfl ?_
  refine M7 rfl rfl rfl rfl rfl rfl Sw.here (A1q hDl hall rfl) ?_
  refine sD (nS (tS (tR (sQ (qM rfl) rfl ?_))))
  refine sP (K2 rfl rfl (by omega) (by omega)) rfl rfl ?_
  refine I2 ?_
  refine sP (H2 rfl rfl rfl (by omega)) rfl rfl ?_
  refine sQ (qF rfl) rfl ?_
  refine sL (H3 rfl rfl (A3U (List.Mem.head _) hDl hall rfl)) rfl rfl ?_
  refine sQ (qM rfl) rfl ?_
  (refine A00 (r0 := r0 ++ bt' ++ bf') (r1 := bk) (r2 := r1b) rfl (ih ks[i] (List.getElem_mem (by omega)) (kk + 1 + 1 + 1 + 1 + B0 ks[i].ty.ks + 1 + B0 ks[i].fr.ks + 1) G p3 c3 bk hos (by omega) (by omega)) (by simp) rfl rfl (fun bk' hbk => ?_); refine A9j (hp' := .blk b (A ++ ((D ++ [([.int .i64 kk, .string (A0Z (kk + 1).toNat), .int .i64 (kk + 1 + 1), .int .i64 (kk + 1 + 1 + 1), .slice pt3 ks[i].ty.ks.length ct3, .int .i64 (kk + 1 + 1 + 1 + 1 + B0 ks[i].ty.ks), .slice pf3 ks[i].fr.ks.length cf3, .int .i64 (kk + 1 + 1 + 1 + 1 + B0 ks[i].ty.ks + 1 + B0 ks[i].fr.ks), .slice p3 ks[i].ks.length c3] : List Value)]).flatten ++ (T'.flatten ++ C))) :: blks ((r0 ++ (bt' ++ (bf' ++ bk'))) ++ r1b)) (by simp) ?_)
  refine I2 ?_
  refine sP (K2 rfl rfl (by omega) (by omega)) rfl rfl ?_
  refine sQ (qA rfl) rfl (sD ?_)
  (refine P6 (i + 1, kk + 1 + 1 + 1 + 1 + B0 ks[i].ty.ks + 1 + B0 ks[i].fr.ks + 1 + J4 ks[i].ks, D ++ [[.int .i64 kk, .string (A0Z (kk + 1).toNat), .int .i64 (kk + 1 + 1), .int .i64 (kk + 1 + 1 + 1), .slice pt3 ks[i].ty.ks.length ct3, .int .i64 (kk + 1 + 1 + 1 + 1 + B0 ks[i].ty.ks), .slice pf3 ks[i].fr.ks.length cf3, .int .i64 (kk + 1 + 1 + 1 + 1 + B0 ks[i].ty.ks + 1 + B0 ks[i].fr.ks), .slice p3 ks[i].ks.length c3]], T', r0 ++ (bt' ++ (bf' ++ bk')), r1b) ?_ ?_ ?_)
  (simp only [T9]; exact I6)
  (dsimp only; exact ⟨by omega, by omega, by rw [A9g (by omega), A5F, ← hkk]; exact hD.snoc (O8.mkm hbt hbf hbk ⟨by omega, by omega⟩ ⟨by omega, by omega⟩ ⟨by omega, by omega⟩ ⟨by omega, by omega⟩ ⟨by omega, by omega⟩), hT'⟩)
  (show ks.length - (i + 1) < ks.length - i; omega)
  refine I7 ?_
  (obtain rfl : i = ks.length := (by omega); refine C8 (rT rfl) H0.refl ?_)
  exact ⟨rfl, by rw [hkk, List.take_length], J3.done hc hm hD hT⟩
theorem O8.open9 {k : Int} {nm : ByteArray} {num tk fk lb : Int} {tks fks : List Ty} {ks : List Tm} {cells : List Value} {bs : H1} (h : O8 (.mk k nm num (.mk tk tks) (.mk fk fks) lb ks) cells bs) : ∃ pt ct pf cf p c bt bf bk,
  cells = [.int .i64 k, .string nm, .int .i64 num, .int .i64 tk, .slice pt tks.length ct, .int .i64 fk, .slice pf fks.length cf, .int .i64 lb, .slice p ks.length c] ∧
  R7 (.mk tk tks) [.int .i64 tk, .slice pt tks.length ct] bt ∧ R7 (.mk fk fks) [.int .i64 fk, .slice pf fks.length cf] bf ∧ A0b ks p c bk ∧ bs = bt ++ (bf ++ bk) := by
 simp only [O8] at h
 obtain ⟨tc, fc, p, c, bt, bf, bk, h1, _, _, _, h5, h6, h7, h8, h9, h10⟩ := h
 obtain ⟨pt, ct, rfl, _, _⟩ := h5.open
 obtain ⟨pf, cf, rfl, _, _⟩ := h6.open
 exact ⟨pt, ct, pf, cf, p, c, bt, bf, bk, h1, h5, h6, ⟨h7, h8, h9⟩, h10⟩
theorem A9l {P : Program} {Γ : E6} {env : F9} {x : A1} {R R' : H1} {G : IM} {K : Po} {ops : Array Oper} {rest : List Oper} (e : R = R') (k : C4 P Γ ops rest K ⟨env, x :: blks R', G⟩) : C4 P Γ ops rest K ⟨env, x :: blks R, G⟩ := by rw [e]; exact k
def MTm (t : Tm) (k : Int) (cells : List Value) (bs : H1) : Prop := ∃ pt ct pf cf p c bt bf bk,
 cells = [.int .i64 t.k, .string t.nm, .int .i64 t.num, .int .i64 t.ty.k, .slice pt t.ty.ks.length ct, .int .i64 t.fr.k, .slice pf t.fr.ks.length cf, .int .i64 t.lb, .slice p t.ks.length c] ∧
 Q0 (K4 t.ty.ks k) pt ct bt ∧ Q0 (K4 t.fr.ks (k + B0 t.ty.ks)) pf cf bf ∧ A0b (O3 t.ks (k + B0 t.ty.ks + B0 t.fr.ks)) p c bk ∧ bs = bt ++ (bf ++ bk)
theorem A5L (t : Tm) (k : Int) (G : IM) (cells : List Value) (bs : H1) (ho : O8 t cells bs) (hk : 0 < k) (hb : k + B0 t.ty.ks + B0 t.fr.ks + J4 t.ks ≤ 1099511627776) :
  Fn Tryz.prog 20 [.agg ⟨cells⟩, .int .i64 k] (blks bs) G (A1K (.int .i64 (k + B0 t.ty.ks + B0 t.fr.ks + J4 t.ks)) G (MTm t k cells)) := by
 obtain ⟨k0, nm, num, ⟨tk, tks⟩, ⟨fk, fks⟩, lb, ks⟩ := t
 obtain ⟨pt, ct, pf, cf, p, c, bt, bf, bk, rfl, hot, hof, hos, rfl⟩ := ho.open9
 simp only [Tm.ty, Tm.fr, Tm.ks, Ty.ks] at hb ⊢
 have h1 := T0 tks
 have h2 := T0 fks
 have h3 := A0t ks
 refine B3 Tryz.func20 rfl Tryz.ntmps20 Tryz.results20 rfl ?_
 intro w0
 refine tS (tR ?_)
 refine sE (J6 rfl rfl) rfl (fun b3 => ?_)
 refine C6 ?_
 (refine A00 (r0 := []) (r1 := bt) (r2 := bf ++ bk) rfl (A5I (.mk tk tks) k G _ bt hot hk (by simp only [Ty.ks]; omega)) rfl rfl rfl (fun bt' hbt => ?_); obtain ⟨p1, c1, he1, hbt⟩ := hbt; simp only [Ty.k, Ty.ks, List.cons.injEq, Value.slice.injEq, true_and, and_true] at he1 hbt ⊢; obtain ⟨rfl, rfl⟩ := he1)
 refine C6 ?_
 (refine A00 (r0 := bt') (r1 := bf) (r2 := bk) rfl (A5I (.mk fk fks) (k + B0 tks) G _ bf hof (by omega) (by simp only [Ty.ks]; omega)) rfl rfl rfl (fun bf' hbf => ?_); obtain ⟨p2, c2, he2, hbf⟩ := hbf; simp only [Ty.k, Ty.ks, List.cons.injEq, Value.slice.injEq, true_and, and_true] at he2 hbf ⊢; obtain ⟨rfl, rfl⟩ := he2)
 refine C6 ?_
 (refine A00 (r0 := bt' ++ bf') (r1 := bk) (r2 := []) rfl (A9k (.mk k0 nm num (.mk tk tks) (.mk fk fks) lb ks) (k + B0 tks + B0 fks) G p c bk hos (by omega) (by simp only [Tm.ks]; omega)) (by simp) rfl rfl (fun bk' hbk => ?_); simp only [Tm.ks] at hbk ⊢; refine A9l (R' := bt' ++ (bf' ++ bk')) (by simp) ?_)
 refine M0 ?_
 refine C8 (rT rfl) (H0.drop H0.refl) ?_
 exact ⟨rfl, rfl, _, rfl, _, _, _, _, _, _, _, _, _, rfl, hbt, hbf, hbk, rfl⟩

def A5M : Nat → Int → List Int
 | 0, _ => []
 | n + 1, k => k :: A5M n (k + 1)
def OIs (l : List Int) (p : Option Addr) (c : Nat) (bs : H1) : Prop :=
 l.length ≤ c ∧ c ≤ maxLen ∧ ((l = [] ∧ bs = []) ∨ ∃ b A C, p = some ⟨b, A.length, none⟩ ∧ bs = [(b, A ++ (A2m l ++ C))])
def OPs : List (List Int) → List Value → H1 → Prop
 | [], es, bs => es = [] ∧ bs = []
 | l :: ls, es, bs => ∃ p c e' r1 r2, es = .slice p l.length c :: e' ∧ bs = r1 ++ r2 ∧ OIs l p c r1 ∧ OPs ls e' r2
def A9m : List (List Int) → Int
 | [] => 0
 | l :: ls => l.length + A9m ls
def A9n : List (List Int) → Int → List (List Int)
 | [], _ => []
 | l :: ls, k => A5M l.length k :: A9n ls (k + l.length)
section lend0
variable {P : Program} {Γ : E6} {env : F9} {G : IM} {K : Po} {ops : Array Oper} {rest : List Oper} {ty : TypeId} {pos : String} {af : Array Edge} {gd : Option (Nat × Bool)}
end lend0
def QPs (G : IM) : List (List Int) → List Value → Prop
 | [], es => es = []
 | l :: ls, es => ∃ p c r, es = .slice p l.length c :: r ∧ Sl G p l.length c 1 (A2m l) ∧ QPs G ls r
mutual
def Q1 : Ty → Int
 | .mk _ ks => ks.length + Y1 ks
def Y1 : List Ty → Int
 | [] => 0
 | t :: ts => Q1 t + Y1 ts
end
mutual
def A01 : Tm → Int
 | .mk _ nm _ ty fr _ ks => nm.size + Q1 ty + Q1 fr + (ks.length + A02 ks)
def A02 : List Tm → Int
 | [] => 0
 | t :: ts => A01 t + A02 ts
end
mutual
theorem A3W : ∀ t : Ty, 0 ≤ Q1 t
 | .mk _ ks => by have := A5N ks; rw [Q1]; omega
theorem A5N : ∀ ts : List Ty, 0 ≤ Y1 ts
 | [] => by rw [Y1]; omega
 | t :: ts => by have := A3W t; have := A5N ts; rw [Y1]; omega
end
mutual
def Tm.nok : Tm → Prop
 | .mk _ nm _ _ _ _ ks => nm.size ≤ 9223372036854775807 ∧ Tm.nokL ks
def Tm.nokL : List Tm → Prop
 | [] => True
 | t :: ts => t.nok ∧ Tm.nokL ts
end
def B2w (left s : Int) : Int := if s ≤ left then left - s else -1
end Gw
end Go.Proofs.YtgodjiieijekiaaGreatDoor
namespace Go.Proofs.YtgodjiieijekiaaGreatDoor
open Go Go.RowKit Go.ChangeShapes Go.WideShapes Go.ChangeAt
namespace Gw
def GW (w : World) : IM := fun b => match w.heap[b]? with
 | some (.cells c _ _) => some c.toList
 | _ => none
theorem A5O (w : World) : O5 [] (GW w) w := by
 refine ⟨?_, by simp, by simp [Fp], by simp [Fp]⟩
 intro b l h
 unfold GW at h
 split at h
 ·rename_i c e f hb; cases h; exact ⟨e, f, by simpa using hb⟩
 ·cases h
theorem H5.each {G : IM} {ts : List Ty} {es : List (List Value)} (h : H5 G ts es) : ∀ e ∈ es, e.length = 2 ∧ e.all (·.oneCell') = true := by
 intro e he
 obtain ⟨i, hi⟩ := List.getElem?_of_mem he
 have := (h.inv hi A3).2
 exact ⟨this.len, this.one⟩
section read
variable {H : Type} {enc : TypeId × Value → H} {w : World} {sp : Nat → Bool} {held : Bool}
end read
theorem X3.below {w w' : World} (h : X3 (Fp []) w w') : Below w.heap.size w w' := ⟨h.os, h.tape, h.output, h.size, fun k hk => h.block k hk (by simp [Fp])⟩
section post
variable {H : Type} {enc : TypeId × Value → H} {P : Program}
theorem A5P {f : Func} {s : ChangeSpec} {apart fresh handsOn again : Bool} {W W' : World} {args : Array Value} {v : Value} {ds gs : List (DataW H)} {before : List MemPlace}
  (hW : DataW.Whole enc P f.params.toList s.vars apart W args.toList ds gs before) (hb : Below W.heap.size W W') (hgs : s.vars = [])
  (hres : ∀ (b : Nat) (sp : Nat → Bool) (hd : Bool), DataW.TrodAll enc P W' b sp hd f.resultTypes.toList (v.resultList f.resultTypes.size) (s.fn H (ds ++ gs)).results [])
  (hargs : ∀ sp : Nat → Bool, (∀ p ∈ before, sp p.block = true) → DataW.TrodAll enc P W' 0 sp true f.params.toList args.toList (s.fn H (ds ++ gs)).args before)
  (hv : (s.fn H (ds ++ gs)).vars = [])
  (hok : ∀ (j : Nat) (t : TypeId) (r : Value), f.resultTypes[j]? = some t → (v.resultList f.resultTypes.size)[j]? = some r → Value.okWide P W' .any 0 t r) :
  s.post enc P f apart fresh handsOn again W args v W' := by
 have hold : ∀ p ∈ before, (fun b => decide (b < W.heap.size)) p.block = true := fun p hp => by simpa using hW.lt p hp
 have hvars : ∀ sp : Nat → Bool, DataW.TrodVars enc P W' sp s.vars (s.fn H (ds ++ gs)).vars [] := fun sp => by rw [hgs, hv]; rfl
 have hkept : W.keptBut W' (fun _ => False) := by
  refine ⟨hb.os, hb.output, fun i hi => ?_⟩
  rw [hb.block i hi]
  split
  ·rename_i h1 h2; cases h1.symm.trans h2; exact ⟨rfl, rfl, rfl, fun _ _ => rfl⟩
  ·rename_i h1 h2; cases h1.symm.trans h2; exact .inr ⟨rfl, rfl⟩
  ·rfl
 refine ⟨ds, gs, before, [], before, [], hW, hres _ _ _, hargs _ hold, hvars _, World.keptBut_mono (fun p hp => hp.elim) hkept, fun _ => ?_⟩
 obtain ⟨_, _, _, _, _, hz, hn⟩ := hW
 refine ⟨hok, _, _, ([] ++ before) ++ [], ⟨[] ++ before, [], trodAll_append (hargs _ (fun _ _ => rfl)) (hres _ _ _), hvars _, rfl, ?_, ?_⟩, ?_⟩
 ·intro b off hp
  have hp' : MemPlace.cell b off ∈ before := by simpa using hp
  have hlt : b < W.heap.size := of_decide_eq_true (hold _ hp')
  have := hz b off hp'
  unfold World.frozen? at this ⊢
  simp only [hb.block b hlt]
  exact this
 ·intro ha; simpa using hn ha
 ·intro p hp _; simpa using hp
end post
def A0d (G : IM) : Prop := ∃ g, Tryz.prog.globalNamed "internal/strconv.uint64pow10" = some g ∧ G g = some (Lib.pow10Tab.map fun z => Value.int .u64 z)
theorem A0d.mono {G G' : IM} (h : A0d G) (hg : B4 G G') : A0d G' := by
 obtain ⟨g, h1, h2⟩ := h
 exact ⟨g, h1, hg g _ h2⟩
theorem A9o {G : IM} {w : World} (hw : O5 [] G w) (k : Nat) (os : Array Obj) : M2 [] G w [] G (Sort.grow (w.drewN k) os) := by
 have hb : ∀ b, b < w.heap.size → (Sort.grow (w.drewN k) os).heap[b]? = w.heap[b]? := by
  intro b h
  show (w.heap ++ os)[b]? = _
  rw [Array.getElem?_append_left h]
 refine ⟨⟨?_, by simp, by simp [Fp], by simp [Fp]⟩, ⟨rfl, rfl, rfl, ?_, fun b h _ => hb b h⟩, B4.refl _, fun _ _ h => .inl h, by simp [Fp], fun b l h h0 => absurd h (by rw [h0]; simp)⟩
 ·intro b l h
  obtain ⟨e, f, hh⟩ := hw.inn b l h
  exact ⟨e, f, by rw [hb b (W6 hh)]; exact hh⟩
 ·show w.heap.size ≤ (w.heap ++ os).size
  simp
end Gw
end Go.Proofs.YtgodjiieijekiaaGreatDoor
namespace Go.Proofs.YtgodjiieijekiaaGreatDoor
open Go Go.RowKit Go.ChangeShapes Go.WideShapes Go.ChangeAt
namespace Gw
theorem A3X : Tryz.prog.globalNamed "internal/strconv.uint64pow10" = some 1 := by kernel_rfl
theorem A9p : (Tryz.prog.globals[1]?).map (·.type) = some 212 := by kernel_rfl
theorem A9q : Tryz.prog.cellsOf 212 = 20 := by kernel_rfl
theorem A9r : Tryz.prog.cellsOf 194 = 1 := by kernel_rfl
def B2x : List (String × DataW Unit) := [("math/bits.deBruijn32tab", Rows.laid_math_bits_deBruijn32tab), ("math/bits.deBruijn64tab", Rows.laid_math_bits_deBruijn64tab), ("internal/strconv.uint64pow10", Rows.laid_internal_strconv_uint64pow10)]
def A1L : DataW Unit → Array Value
 | .agg xs => (xs.map fun | .lit (.int k n) => Value.int k n | _ => .int .i64 0).toArray
 | _ => #[]
def A03 (xs : Array Value) : Obj → Obj
 | .cells _ t f => .cells xs t f
 | o => o
noncomputable def B2y (os : Os) : World :=
 { World.holding Tryz.prog os ⟨#[], #[], []⟩ with heap := (((World.holding Tryz.prog os ⟨#[], #[], []⟩).heap.modify 1 (A03 (A1L Rows.laid_internal_strconv_uint64pow10))).modify 4 (A03 (A1L Rows.laid_math_bits_deBruijn32tab))).modify 5 (A03 (A1L Rows.laid_math_bits_deBruijn64tab)) }
theorem A9s (G : IM) (p : Option Addr) (n c : Nat) (es : List (List Value)) (hsl : B7 G p n c 2 es) (fid : FuncId) [A8 Tryz.prog fid] (us cs : List Value) (ins : List A1) (q : Nat → Bool)
  (hq : ∀ i e, es[i]? = some e → Fn Tryz.prog fid (us ++ [.agg ⟨e⟩] ++ cs) ins G (U6 (.bool (q i)) ins G)) :
  Fn Tryz.prog 136 [.slice p n c, .func (.func fid) ⟨us⟩ ⟨cs⟩] ins G (U6 (.int .i64 (Z8 q n)) ins G) := by
 have hn := hsl.le
 refine B3 Tryz.func136 rfl Tryz.ntmps136 Tryz.results136 rfl ?_
 intro w0
 refine D9 ?_
 refine D0 ?_
 refine O9 (fun i : Nat => ⟨[(8, .int .i64 i), (7, .int .i64 n), (1, .func (.func fid) ⟨us⟩ ⟨cs⟩), (0, .slice p n c)], ins, G⟩) (fun i => i ≤ n ∧ ∀ j, j < i → q j = false) (fun i => n - i) 0 ?_ ?_ ?_
 exact I6
 exact ⟨by omega, by omega⟩
 rintro i ⟨hi, hf⟩
 refine tS (tR ?_)
 refine sB (N2 rfl rfl) rfl rfl (fun h21 => ?_) (fun h21 => ?_)
 refine sD (nS (tS (qT rfl (tK (nS (tS ?_))))))
 refine D0 ?_
 refine D7 ?_
 (obtain ⟨e, b, o, he, rfl, hl, _, hat, _⟩ := hsl.get (i := i) (by omega); refine sP (H2 rfl rfl rfl (by omega)) rfl rfl ?_)
 refine sL (D5 rfl rfl (hat _) hl) rfl rfl ?_
 refine A5f rfl rfl (hq i e he) A0K rfl rfl (fun h43 => ?_) (fun h43 => ?_)
 refine I7 ?_
 refine C8 (rT rfl) H0.refl ?_
 exact ⟨rfl, by rw [A8R (by omega) hf (by assumption)], rfl⟩
 refine sD (nS (cF rfl (tK (A1k (nS (tR ?_))))))
 refine sP (K2 rfl rfl (by omega) (by omega)) rfl rfl ?_
 refine sQ (qM rfl) rfl (sD ?_)
 refine P6 (i + 1) ?_ ?_ ?_
 exact I6
 exact ⟨by omega, fun j hj => by by_cases hji : j = i; (subst hji; assumption); exact hf j (by omega)⟩
 omega
 refine I7 ?_
 refine C8 (rT rfl) H0.refl ?_
 exact ⟨rfl, by rw [A5l (fun j hj => hf j (by omega))], rfl⟩
theorem A9t (G : IM) (p : Option Addr) (n c : Nat) (es : List (List Value)) (hsl : B7 G p n c 2 es) (fid : FuncId) [A8 Tryz.prog fid] (us cs : List Value) (ins : List A1) (q : Nat → Bool)
  (hq : ∀ i e, es[i]? = some e → Fn Tryz.prog fid (us ++ [.agg ⟨e⟩] ++ cs) ins G (U6 (.bool (q i)) ins G)) :
  Fn Tryz.prog 73 [.slice p n c, .func (.func fid) ⟨us⟩ ⟨cs⟩] ins G (U6 (.bool (decide (0 ≤ Z8 q n))) ins G) := by
 refine B3 Tryz.func73 rfl Tryz.ntmps73 Tryz.results73 rfl ?_
 intro w0
 refine C1 ?_
 refine A3K rfl (A9s G p n c es hsl fid us cs ins q hq) A0K rfl rfl ?_
 refine sQ (Q2 rfl rfl) rfl ?_
 refine sQ (qA rfl) rfl (sD (nS (tT ?_)))
 refine C8 (rT rfl) H0.refl ?_
 exact ⟨rfl, rfl, rfl⟩
theorem A2n (G : IM) (p : Option Addr) (n c : Nat) (es : List (List Value)) (hsl : B7 G p n c 2 es) (fid : FuncId) [A8 Tryz.prog fid] (us cs : List Value) (ins : List A1) (f : Ty → Bool) (ks : List Ty)
  (hn : ks.length = n) {A : Bool} (hA : ks.all f = A) (hq : ∀ i e, es[i]? = some e → Fn Tryz.prog fid (us ++ [.agg ⟨e⟩] ++ cs) ins G (U6 (.bool (!f (ks.getD i A3))) ins G)) :
  Fn Tryz.prog 73 [.slice p n c, .func (.func fid) ⟨us⟩ ⟨cs⟩] ins G (U6 (.bool (!A)) ins G) := by
 subst hn hA
 rw [← A8T f ks A3]
 exact A9t G p _ c es hsl fid us cs ins _ hq
theorem A9u (G : IM) (p p' : Option Addr) (n c n' c' : Nat) (es es' : List (List Value)) (hsl : B7 G p n c 2 es) (hsl' : B7 G p' n' c' 2 es') (fid : FuncId) [A8 Tryz.prog fid] (us cs : List Value) (ins : List A1) (q : Nat → Bool)
  (A : Bool) (hA : A = true ↔ n = n' ∧ ∀ i, i < n → q i = true)
  (hq : ∀ i e e', es[i]? = some e → es'[i]? = some e' → Fn Tryz.prog fid (us ++ [.agg ⟨e⟩, .agg ⟨e'⟩] ++ cs) ins G (U6 (.bool (q i)) ins G)) :
  Fn Tryz.prog 95 [.slice p n c, .slice p' n' c', .func (.func fid) ⟨us⟩ ⟨cs⟩] ins G (U6 (.bool A) ins G) := by
 have hn := hsl.le
 have hn' := hsl'.le
 refine B3 Tryz.func95 rfl Tryz.ntmps95 Tryz.results95 rfl ?_
 intro w0
 refine O0 ?_
 refine sB (N1 rfl rfl) rfl rfl (fun h13 => ?_) (fun h13 => ?_)
 refine M0 ?_
 refine C8 (outs := ins) (rT rfl) (by first | exact H0.refl | exact H0.drop (H0.drop H0.refl)) ?_
 exact ⟨rfl, by (cases A with | false => rfl | true => exact absurd (hA.1 rfl).1 (by omega)), rfl⟩
 refine D9 ?_
 refine D0 (O9 (fun i : Nat => ⟨[(17, .int .i64 i), (16, .int .i64 n), (15, .slice p n c), (2, .func (.func fid) ⟨us⟩ ⟨cs⟩), (1, .slice p' n' c'), (0, .slice p n c)], ins, G⟩) (fun i => i ≤ n ∧ ∀ j, j < i → q j = true) (fun i => n - i) 0 ?_ ?_ ?_)
 exact I6
 exact ⟨by omega, by omega⟩
 rintro i ⟨hi, hf⟩
 refine tS (tR ?_)
 refine sB (N2 rfl rfl) rfl rfl (fun h46 => ?_) (fun h46 => ?_)
 refine sD (nS (tS (qT rfl (tK (nS (tS ?_))))))
 refine D0 ?_
 refine tS (tR (sQ (qM rfl) rfl ?_))
 (obtain ⟨e, b, o, he, rfl, hl, _, hat, _⟩ := hsl.get (i := i) (by omega); refine sP (H2 rfl rfl rfl (by omega)) rfl rfl ?_)
 refine sL (D5 rfl rfl (hat _) hl) rfl rfl ?_
 refine sE (D6 rfl) rfl (fun b60 => ?_)
 refine sQ (qA rfl) rfl ?_
 refine M7 rfl rfl rfl (by assumption) (by assumption) rfl (by repeat first | exact Sw.here | apply Sw.there) (by exact P0 (by symm; assumption)) ?_
 refine sD (nS (tS (tR (sQ (qM rfl) rfl (sQ (qM rfl) rfl ?_)))))
 (obtain ⟨e', b', o', he', rfl, hl', _, hat', _⟩ := hsl'.get (i := i) (by omega); refine sP (H2 rfl rfl rfl (by omega)) rfl rfl ?_)
 refine sL (D5 rfl rfl (hat' _) hl') rfl rfl ?_
 refine sE (D6 rfl) rfl (fun b71 => ?_)
 refine M7 rfl rfl rfl (by assumption) (by assumption) rfl (by repeat first | exact Sw.here | apply Sw.there) (by exact P0 (by symm; assumption)) ?_
 refine sD (nS (tS (tR (sQ (qM rfl) rfl ?_))))
 refine sL (D5 rfl rfl (K8 (by repeat first | exact mH | apply mT)) (by assumption)) rfl rfl ?_
 refine sL (D5 rfl rfl (K8 (by repeat first | exact mH | apply mT)) (by assumption)) rfl rfl ?_
 refine A5f rfl rfl (hq i e e' he he') A8H rfl rfl (fun h80 => ?_) (fun h80 => ?_)
 refine C6 ?_
 refine sP (K2 rfl rfl (by omega) (by omega)) rfl rfl ?_
 refine sQ (qM rfl) rfl (sD ?_)
 refine P6 (i + 1) ?_ ?_ ?_
 exact I6
 exact ⟨by omega, fun j hj => by by_cases hji : j = i; (subst hji; assumption); exact hf j (by omega)⟩
 omega
 refine I7 ?_
 refine C8 (outs := ins) (rT rfl) (by first | exact H0.refl | exact H0.drop (H0.drop H0.refl)) ?_
 exact ⟨rfl, by (cases A with | false => rfl | true => have h0 := (hA.1 rfl).2 i (by omega); simp_all), rfl⟩
 refine I7 ?_
 refine C8 (outs := ins) (rT rfl) (by first | exact H0.refl | exact H0.drop (H0.drop H0.refl)) ?_
 exact ⟨rfl, by rw [hA.2 ⟨by omega, fun j hj => hf j (by omega)⟩], rfl⟩
theorem A0u (n lo hi : Int) (G : IM) : Fn Tryz.prog 69 [.int .i64 n, .int .i64 lo, .int .i64 hi] [] G (H4 (.bool (T4 n lo hi)) G) := by
 refine B3 Tryz.func69 rfl Tryz.ntmps69 Tryz.results69 rfl ?_
 intro w0
 refine C1 ?_
 refine sB (S8 rfl rfl) rfl rfl (fun h10 => ?_) (fun h10 => ?_)
 refine sQ (qM rfl) rfl (sQ (qM rfl) rfl (sQ (qM rfl) rfl ?_))
 refine sB (S8 rfl rfl) rfl rfl (fun h14 => ?_) (fun h14 => ?_)
 refine I2 ?_
 exact ⟨rfl, by simp [T4]; omega, rfl⟩
 refine I2 ?_
 exact ⟨rfl, by simp [T4]; omega, rfl⟩
 refine M0 ?_
 exact ⟨rfl, by simp [T4]; omega, rfl⟩
theorem A5Q (k : Int) (G : IM) : Fn Tryz.prog 123 [.int .i64 k] [] G (H4 (.agg ⟨[.int .i64 k, .slice none 0 0]⟩) G) := by
 refine B3 Tryz.func123 rfl Tryz.ntmps123 Tryz.results123 rfl ?_
 intro w0
 refine tS (tR ?_)
 refine sE (D6 rfl) rfl (fun b3 => ?_)
 refine M0 ?_
 refine F0 (rC rfl (A7 rfl rfl)) ?_
 exact ⟨rfl, rfl, rfl⟩
theorem A9v (n : Int) (G : IM) : Fn Tryz.prog 162 [.int .i64 n] [] G (H4 (.bool (X0 n)) G) := by
 refine B3 Tryz.func162 rfl Tryz.ntmps162 Tryz.results162 rfl ?_
 intro w0
 refine C6 ?_
 refine H6 rfl (A0u _ _ _ _) rfl rfl (fun h9 => ?_) (fun h9 => ?_)
 refine C1 ?_
 exact ⟨rfl, by simp [X0, *], rfl⟩
 refine sQ (qM rfl) rfl (sQ (qM rfl) rfl ?_)
 refine H6 rfl (A0u _ _ _ _) rfl rfl (fun h22 => ?_) (fun h22 => ?_)
 refine I2 ?_
 exact ⟨rfl, by simp [X0, *], rfl⟩
 refine I2 ?_
 exact ⟨rfl, by simp [X0, *], rfl⟩
theorem A5R (t : Ty) (G : IM) (cells : List Value) (hr : C5 G t cells) : Fn Tryz.prog 160 [.agg ⟨cells⟩] [] G (H4 (.bool (S9 t)) G) := by
 obtain ⟨p, c, es, rfl, hk, hsl, hkl⟩ := hr.open
 refine B3 Tryz.func160 rfl Tryz.ntmps160 Tryz.results160 rfl ?_
 intro w0
 refine tS (tR ?_)
 refine sE (J6 rfl rfl) rfl (fun b3 => ?_)
 refine B1 ?_
 refine sB (qE rfl rfl) rfl rfl (fun h11 => ?_) (fun h11 => ?_)
 refine H9 ?_
 refine sB (qE rfl rfl) rfl rfl (fun h16 => ?_) (fun h16 => ?_)
 refine I2 ?_
 exact ⟨rfl, by simp only [S9]; (first | rw [decide_eq_true (by omega)] | rw [decide_eq_false (by omega)]), rfl⟩
 refine I2 ?_
 exact ⟨rfl, by simp only [S9]; (first | rw [decide_eq_true (by omega)] | rw [decide_eq_false (by omega)]), rfl⟩
 refine D7 ?_
 exact ⟨rfl, by simp only [S9]; (first | rw [decide_eq_true (by omega)] | rw [decide_eq_false (by omega)]), rfl⟩
theorem A9w (s : ByteArray) (G : IM) : Fn Tryz.prog 158 [.string s] [] G (H4 (.bool (S4 s)) G) := by
 refine B3 Tryz.func158 rfl Tryz.ntmps158 Tryz.results158 rfl ?_
 intro w0
 refine C6 ?_
 refine sQ (M6 rfl rfl) rfl (sB (qE rfl rfl) rfl rfl (fun h10 => ?_) (fun h10 => ?_))
 refine sQ (qM rfl) rfl (sQ (qM rfl) rfl ?_)
 refine sP (N3 rfl rfl rfl (by omega) (A2R (by omega))) rfl rfl ?_
 refine sB (Q2 rfl rfl) rfl rfl (fun h14 => ?_) (fun h14 => ?_)
 refine sQ (I4 rfl rfl) rfl (sQ (qM rfl) rfl (sQ (qM rfl) rfl ?_))
 refine sP (N3 rfl rfl rfl (by omega) (A2R (by omega))) rfl rfl ?_
 refine sB (S8 rfl rfl) rfl rfl (fun h19 => ?_) (fun h19 => ?_)
 refine I2 ?_
 exact ⟨rfl, by simp only [S4]; (try simp only [Int.toNat_zero] at *); (first | rw [decide_eq_true (by omega)] | rw [decide_eq_false (by omega)]), rfl⟩
 refine I2 ?_
 exact ⟨rfl, by simp only [S4]; (try simp only [Int.toNat_zero] at *); (first | rw [decide_eq_true (by omega)] | rw [decide_eq_false (by omega)]), rfl⟩
 refine D7 ?_
 exact ⟨rfl, by simp only [S4]; (try simp only [Int.toNat_zero] at *); (first | rw [decide_eq_true (by omega)] | rw [decide_eq_false (by omega)]), rfl⟩
 refine I7 ?_
 exact ⟨rfl, by simp only [S4]; (try simp only [Int.toNat_zero] at *); (first | rw [decide_eq_true (by omega)] | rw [decide_eq_false (by omega)]), rfl⟩
theorem A2o (G : IM) (e : List Value) (d : Int) (b : Bool) (bd : Nat) (hl : e.length = 2) (hd : 0 ≤ d ∧ d ≤ 5) (h : Fn Tryz.prog 192 [.agg ⟨e⟩, .int .i64 (d + 1)] [] G (H4 (.bool b) G)) :
  Fn Tryz.prog 217 [.agg ⟨e⟩, .pointer (some ⟨bd, 0, none⟩)] [.blk bd [.int .i64 d]] G (U6 (.bool (!b)) [.blk bd [.int .i64 d]] G) := by
 refine B3 Tryz.func217 rfl Tryz.ntmps217 Tryz.results217 rfl ?_
 intro w0
 refine tS (tR ?_)
 refine sE (J6 rfl rfl) rfl (fun b3 => ?_)
 refine sQ (qA rfl) rfl (sD (nS (tS (tR ?_))))
 refine sL (D5 rfl rfl (K8 (by repeat first | exact mH | apply mT)) (by assumption)) rfl rfl ?_
 refine sL (C2 rfl rfl) rfl rfl ?_
 refine sP (K2 rfl rfl (by omega) (by omega)) rfl rfl ?_
 refine H6 rfl (h) rfl rfl (fun h12 => ?_) (fun h12 => ?_)
 refine sQ (X5 rfl) rfl (sQ (qA rfl) rfl (sD (nS (tT ?_))))
 refine C8 (rT rfl) (H0.cons (Pk.there Pk.here) H0.nil) ?_
 exact ⟨rfl, by simp [*], rfl⟩
 refine sQ (pNf rfl) rfl (sQ (qA rfl) rfl (sD (nS (tT ?_))))
 refine C8 (rT rfl) (H0.cons (Pk.there Pk.here) H0.nil) ?_
 exact ⟨rfl, by simp [*], rfl⟩
theorem A9x : ∀ (t : Ty) (d : Int) (G : IM) (cells : List Value), 0 ≤ d ∧ d ≤ 5 → C5 G t cells →
  Fn Tryz.prog 192 [.agg ⟨cells⟩, .int .i64 d] [] G (H4 (.bool (E1 t d)) G) := by
 refine Ty.ind fun k ks ih d G cells hd hr => ?_
 obtain ⟨p, c, es, rfl, hk, hsl, hkl⟩ := hr.open
 simp only [Ty.k, Ty.ks] at hk hsl hkl ⊢
 have hn := hsl.le
 obtain ⟨A, hA⟩ : ∃ A, ks.all (E1 · (d + 1)) = A := ⟨_, rfl⟩
 refine B3 Tryz.func192 rfl Tryz.ntmps192 Tryz.results192 rfl ?_
 intro w0
 refine tS (tR ?_)
 refine sE (J6 rfl rfl) rfl (fun b3 => ?_)
 (refine F3 (A2d rfl rfl rfl) rfl ?_; rintro _ ⟨b4, rfl⟩)
 refine I7 ?_
 refine D0 (tS (tS (tR (sB (qE rfl rfl) rfl rfl (fun h24 => ?_) (fun h24 => ?_)))))
 refine I7 ?_
 refine sB (S8 rfl rfl) rfl rfl (fun h40 => ?_) (fun h40 => ?_)
 refine R6 ?_
 refine sB (qE rfl rfl) rfl rfl (fun h46 => ?_) (fun h46 => ?_)
 refine H9 ?_
 refine sQ (A0j rfl rfl) rfl (A2h rfl (A2n _ _ _ _ _ hsl _ [] _ [.blk b4 [.int .i64 d]] (E1 · (d + 1)) ks rfl hA (fun i e he => A2o _ _ _ _ _ (hsl.all e (List.mem_of_getElem? he)) hd (ih _ (hkl.inv he A3).1 _ _ _ (by omega) (hkl.inv he A3).2))) A0K rfl rfl (fun h52 => ?_) (fun h52 => ?_))
 simp only [Bool.not_eq_true', Bool.not_eq_false'] at h52
 refine B1 ?_
 exact ⟨rfl, by (rw [E1, Q4, hA]; have := J8 k; first | (rw [decide_eq_true (by omega), decide_eq_true (by omega)]; simp only [*]; done) | (rw [decide_eq_true (by omega), decide_eq_true (by omega)]; simp only [*]; rfl) | (rw [decide_eq_false (by omega)]; rfl) | (rw [decide_eq_true (by omega), decide_eq_false (by omega)]; rfl)), rfl⟩
 simp only [Bool.not_eq_true', Bool.not_eq_false'] at h52
 refine B1 ?_
 exact ⟨rfl, by (rw [E1, Q4, hA]; have := J8 k; first | (rw [decide_eq_true (by omega), decide_eq_true (by omega)]; simp only [*]; done) | (rw [decide_eq_true (by omega), decide_eq_true (by omega)]; simp only [*]; rfl) | (rw [decide_eq_false (by omega)]; rfl) | (rw [decide_eq_true (by omega), decide_eq_false (by omega)]; rfl)), rfl⟩
 refine D9 ?_
 exact ⟨rfl, by (rw [E1, Q4, hA]; have := J8 k; first | (rw [decide_eq_true (by omega), decide_eq_true (by omega)]; simp only [*]; done) | (rw [decide_eq_true (by omega), decide_eq_true (by omega)]; simp only [*]; rfl) | (rw [decide_eq_false (by omega)]; rfl) | (rw [decide_eq_true (by omega), decide_eq_false (by omega)]; rfl)), rfl⟩
 refine U7 ?_
 exact ⟨rfl, by (rw [E1, Q4, hA]; have := J8 k; first | (rw [decide_eq_true (by omega), decide_eq_true (by omega)]; simp only [*]; done) | (rw [decide_eq_true (by omega), decide_eq_true (by omega)]; simp only [*]; rfl) | (rw [decide_eq_false (by omega)]; rfl) | (rw [decide_eq_true (by omega), decide_eq_false (by omega)]; rfl)), rfl⟩
 refine sQ (qA rfl) rfl (sD (nS (cF rfl (tS (tR ?_)))))
 refine sB (qE rfl rfl) rfl rfl (fun h109 => ?_) (fun h109 => ?_)
 refine I7 ?_
 refine sB (S8 rfl rfl) rfl rfl (fun h125 => ?_) (fun h125 => ?_)
 refine R6 ?_
 refine sB (qE rfl rfl) rfl rfl (fun h131 => ?_) (fun h131 => ?_)
 refine H9 ?_
 refine sQ (A0j rfl rfl) rfl (A2h rfl (A2n _ _ _ _ _ hsl _ [] _ [.blk b4 [.int .i64 d]] (E1 · (d + 1)) ks rfl hA (fun i e he => A2o _ _ _ _ _ (hsl.all e (List.mem_of_getElem? he)) hd (ih _ (hkl.inv he A3).1 _ _ _ (by omega) (hkl.inv he A3).2))) A0K rfl rfl (fun h137 => ?_) (fun h137 => ?_))
 simp only [Bool.not_eq_true', Bool.not_eq_false'] at h137
 refine B1 ?_
 exact ⟨rfl, by (rw [E1, Q4, hA]; have := J8 k; first | (rw [decide_eq_true (by omega), decide_eq_true (by omega)]; simp only [*]; done) | (rw [decide_eq_true (by omega), decide_eq_true (by omega)]; simp only [*]; rfl) | (rw [decide_eq_false (by omega)]; rfl) | (rw [decide_eq_true (by omega), decide_eq_false (by omega)]; rfl)), rfl⟩
 simp only [Bool.not_eq_true', Bool.not_eq_false'] at h137
 refine B1 ?_
 exact ⟨rfl, by (rw [E1, Q4, hA]; have := J8 k; first | (rw [decide_eq_true (by omega), decide_eq_true (by omega)]; simp only [*]; done) | (rw [decide_eq_true (by omega), decide_eq_true (by omega)]; simp only [*]; rfl) | (rw [decide_eq_false (by omega)]; rfl) | (rw [decide_eq_true (by omega), decide_eq_false (by omega)]; rfl)), rfl⟩
 refine D9 ?_
 exact ⟨rfl, by (rw [E1, Q4, hA]; have := J8 k; first | (rw [decide_eq_true (by omega), decide_eq_true (by omega)]; simp only [*]; done) | (rw [decide_eq_true (by omega), decide_eq_true (by omega)]; simp only [*]; rfl) | (rw [decide_eq_false (by omega)]; rfl) | (rw [decide_eq_true (by omega), decide_eq_false (by omega)]; rfl)), rfl⟩
 refine U7 ?_
 exact ⟨rfl, by (rw [E1, Q4, hA]; have := J8 k; first | (rw [decide_eq_true (by omega), decide_eq_true (by omega)]; simp only [*]; done) | (rw [decide_eq_true (by omega), decide_eq_true (by omega)]; simp only [*]; rfl) | (rw [decide_eq_false (by omega)]; rfl) | (rw [decide_eq_true (by omega), decide_eq_false (by omega)]; rfl)), rfl⟩
 refine sQ (qA rfl) rfl (sD (nS (cF rfl (tR ?_))))
 refine sB (qE rfl rfl) rfl rfl (fun h193 => ?_) (fun h193 => ?_)
 refine O0 ?_
 refine sB (S8 rfl rfl) rfl rfl (fun h206 => ?_) (fun h206 => ?_)
 refine R6 ?_
 refine sB (qE rfl rfl) rfl rfl (fun h212 => ?_) (fun h212 => ?_)
 refine H9 ?_
 refine sQ (A0j rfl rfl) rfl (A2h rfl (A2n _ _ _ _ _ hsl _ [] _ [.blk b4 [.int .i64 d]] (E1 · (d + 1)) ks rfl hA (fun i e he => A2o _ _ _ _ _ (hsl.all e (List.mem_of_getElem? he)) hd (ih _ (hkl.inv he A3).1 _ _ _ (by omega) (hkl.inv he A3).2))) A0K rfl rfl (fun h218 => ?_) (fun h218 => ?_))
 simp only [Bool.not_eq_true', Bool.not_eq_false'] at h218
 refine B1 ?_
 exact ⟨rfl, by (rw [E1, Q4, hA]; have := J8 k; first | (rw [decide_eq_true (by omega), decide_eq_true (by omega)]; simp only [*]; done) | (rw [decide_eq_true (by omega), decide_eq_true (by omega)]; simp only [*]; rfl) | (rw [decide_eq_false (by omega)]; rfl) | (rw [decide_eq_true (by omega), decide_eq_false (by omega)]; rfl)), rfl⟩
 simp only [Bool.not_eq_true', Bool.not_eq_false'] at h218
 refine B1 ?_
 exact ⟨rfl, by (rw [E1, Q4, hA]; have := J8 k; first | (rw [decide_eq_true (by omega), decide_eq_true (by omega)]; simp only [*]; done) | (rw [decide_eq_true (by omega), decide_eq_true (by omega)]; simp only [*]; rfl) | (rw [decide_eq_false (by omega)]; rfl) | (rw [decide_eq_true (by omega), decide_eq_false (by omega)]; rfl)), rfl⟩
 refine D9 ?_
 exact ⟨rfl, by (rw [E1, Q4, hA]; have := J8 k; first | (rw [decide_eq_true (by omega), decide_eq_true (by omega)]; simp only [*]; done) | (rw [decide_eq_true (by omega), decide_eq_true (by omega)]; simp only [*]; rfl) | (rw [decide_eq_false (by omega)]; rfl) | (rw [decide_eq_true (by omega), decide_eq_false (by omega)]; rfl)), rfl⟩
 refine U7 ?_
 exact ⟨rfl, by (rw [E1, Q4, hA]; have := J8 k; first | (rw [decide_eq_true (by omega), decide_eq_true (by omega)]; simp only [*]; done) | (rw [decide_eq_true (by omega), decide_eq_true (by omega)]; simp only [*]; rfl) | (rw [decide_eq_false (by omega)]; rfl) | (rw [decide_eq_true (by omega), decide_eq_false (by omega)]; rfl)), rfl⟩
 refine sQ (qA rfl) rfl (sD (nS (cF rfl (tS (tS (tR ?_))))))
 refine sB (qE rfl rfl) rfl rfl (fun h276 => ?_) (fun h276 => ?_)
 refine I7 ?_
 refine sB (S8 rfl rfl) rfl rfl (fun h292 => ?_) (fun h292 => ?_)
 refine R6 ?_
 refine sB (qE rfl rfl) rfl rfl (fun h298 => ?_) (fun h298 => ?_)
 refine H9 ?_
 refine sQ (A0j rfl rfl) rfl (A2h rfl (A2n _ _ _ _ _ hsl _ [] _ [.blk b4 [.int .i64 d]] (E1 · (d + 1)) ks rfl hA (fun i e he => A2o _ _ _ _ _ (hsl.all e (List.mem_of_getElem? he)) hd (ih _ (hkl.inv he A3).1 _ _ _ (by omega) (hkl.inv he A3).2))) A0K rfl rfl (fun h304 => ?_) (fun h304 => ?_))
 simp only [Bool.not_eq_true', Bool.not_eq_false'] at h304
 refine B1 ?_
 exact ⟨rfl, by (rw [E1, Q4, hA]; have := J8 k; first | (rw [decide_eq_true (by omega), decide_eq_true (by omega)]; simp only [*]; done) | (rw [decide_eq_true (by omega), decide_eq_true (by omega)]; simp only [*]; rfl) | (rw [decide_eq_false (by omega)]; rfl) | (rw [decide_eq_true (by omega), decide_eq_false (by omega)]; rfl)), rfl⟩
 simp only [Bool.not_eq_true', Bool.not_eq_false'] at h304
 refine B1 ?_
 exact ⟨rfl, by (rw [E1, Q4, hA]; have := J8 k; first | (rw [decide_eq_true (by omega), decide_eq_true (by omega)]; simp only [*]; done) | (rw [decide_eq_true (by omega), decide_eq_true (by omega)]; simp only [*]; rfl) | (rw [decide_eq_false (by omega)]; rfl) | (rw [decide_eq_true (by omega), decide_eq_false (by omega)]; rfl)), rfl⟩
 refine D9 ?_
 exact ⟨rfl, by (rw [E1, Q4, hA]; have := J8 k; first | (rw [decide_eq_true (by omega), decide_eq_true (by omega)]; simp only [*]; done) | (rw [decide_eq_true (by omega), decide_eq_true (by omega)]; simp only [*]; rfl) | (rw [decide_eq_false (by omega)]; rfl) | (rw [decide_eq_true (by omega), decide_eq_false (by omega)]; rfl)), rfl⟩
 refine U7 ?_
 exact ⟨rfl, by (rw [E1, Q4, hA]; have := J8 k; first | (rw [decide_eq_true (by omega), decide_eq_true (by omega)]; simp only [*]; done) | (rw [decide_eq_true (by omega), decide_eq_true (by omega)]; simp only [*]; rfl) | (rw [decide_eq_false (by omega)]; rfl) | (rw [decide_eq_true (by omega), decide_eq_false (by omega)]; rfl)), rfl⟩
 refine sQ (qA rfl) rfl (sD (nS (cF rfl (tR ?_))))
 refine sB (qE rfl rfl) rfl rfl (fun h360 => ?_) (fun h360 => ?_)
 refine O0 ?_
 refine sB (S8 rfl rfl) rfl rfl (fun h373 => ?_) (fun h373 => ?_)
 refine R6 ?_
 refine sB (qE rfl rfl) rfl rfl (fun h379 => ?_) (fun h379 => ?_)
 refine H9 ?_
 refine sQ (A0j rfl rfl) rfl (A2h rfl (A2n _ _ _ _ _ hsl _ [] _ [.blk b4 [.int .i64 d]] (E1 · (d + 1)) ks rfl hA (fun i e he => A2o _ _ _ _ _ (hsl.all e (List.mem_of_getElem? he)) hd (ih _ (hkl.inv he A3).1 _ _ _ (by omega) (hkl.inv he A3).2))) A0K rfl rfl (fun h385 => ?_) (fun h385 => ?_))
 simp only [Bool.not_eq_true', Bool.not_eq_false'] at h385
 refine B1 ?_
 exact ⟨rfl, by (rw [E1, Q4, hA]; have := J8 k; first | (rw [decide_eq_true (by omega), decide_eq_true (by omega)]; simp only [*]; done) | (rw [decide_eq_true (by omega), decide_eq_true (by omega)]; simp only [*]; rfl) | (rw [decide_eq_false (by omega)]; rfl) | (rw [decide_eq_true (by omega), decide_eq_false (by omega)]; rfl)), rfl⟩
 simp only [Bool.not_eq_true', Bool.not_eq_false'] at h385
 refine B1 ?_
 exact ⟨rfl, by (rw [E1, Q4, hA]; have := J8 k; first | (rw [decide_eq_true (by omega), decide_eq_true (by omega)]; simp only [*]; done) | (rw [decide_eq_true (by omega), decide_eq_true (by omega)]; simp only [*]; rfl) | (rw [decide_eq_false (by omega)]; rfl) | (rw [decide_eq_true (by omega), decide_eq_false (by omega)]; rfl)), rfl⟩
 refine D9 ?_
 exact ⟨rfl, by (rw [E1, Q4, hA]; have := J8 k; first | (rw [decide_eq_true (by omega), decide_eq_true (by omega)]; simp only [*]; done) | (rw [decide_eq_true (by omega), decide_eq_true (by omega)]; simp only [*]; rfl) | (rw [decide_eq_false (by omega)]; rfl) | (rw [decide_eq_true (by omega), decide_eq_false (by omega)]; rfl)), rfl⟩
 refine U7 ?_
 exact ⟨rfl, by (rw [E1, Q4, hA]; have := J8 k; first | (rw [decide_eq_true (by omega), decide_eq_true (by omega)]; simp only [*]; done) | (rw [decide_eq_true (by omega), decide_eq_true (by omega)]; simp only [*]; rfl) | (rw [decide_eq_false (by omega)]; rfl) | (rw [decide_eq_true (by omega), decide_eq_false (by omega)]; rfl)), rfl⟩
 refine M0 ?_
 refine sB (S8 rfl rfl) rfl rfl (fun h446 => ?_) (fun h446 => ?_)
 refine R6 ?_
 refine sP (I1 rfl rfl (by omega)) rfl rfl ?_
 refine D9 ?_
 exact ⟨rfl, by (rw [E1, Q4, hA]; have := J8 k; first | (rw [decide_eq_true (by omega), decide_eq_true (by omega)]; simp only [*]; done) | (rw [decide_eq_true (by omega), decide_eq_true (by omega)]; simp only [*]; rfl) | (rw [decide_eq_false (by omega)]; rfl) | (rw [decide_eq_true (by omega), decide_eq_false (by omega)]; rfl)), rfl⟩
 refine U7 ?_
 exact ⟨rfl, by (rw [E1, Q4, hA]; have := J8 k; first | (rw [decide_eq_true (by omega), decide_eq_true (by omega)]; simp only [*]; done) | (rw [decide_eq_true (by omega), decide_eq_true (by omega)]; simp only [*]; rfl) | (rw [decide_eq_false (by omega)]; rfl) | (rw [decide_eq_true (by omega), decide_eq_false (by omega)]; rfl)), rfl⟩
theorem A3Y (t : Ty) (G : IM) (cells : List Value) (hr : C5 G t cells) : Fn Tryz.prog 159 [.agg ⟨cells⟩] [] G (H4 (.bool (O7 t)) G) := by
 have hl := hr.len
 have hv := A9x t 1 G cells (by omega) hr
 refine B3 Tryz.func159 rfl Tryz.ntmps159 Tryz.results159 rfl ?_
 intro w0
 refine tS (tR ?_)
 refine sE (J6 rfl rfl) rfl (fun b3 => ?_)
 refine sQ (qA rfl) rfl (sD (nS (tS (tR ?_))))
 refine sL (D5 rfl rfl (K8 (by repeat first | exact mH | apply mT)) (by assumption)) rfl rfl ?_
 refine I5 rfl (hv) rfl rfl ?_
 refine sQ (qA rfl) rfl (sD (nS (tT (F0 (rT rfl) ?_))))
 exact ⟨rfl, rfl, rfl⟩
theorem A9y : ∀ (t t' : Ty) (G : IM) (cells cells' : List Value), C5 G t cells → C5 G t' cells' →
  Fn Tryz.prog 193 [.agg ⟨cells⟩, .agg ⟨cells'⟩] [] G (H4 (.bool (P7 t t')) G) := by
 refine Ty.ind fun k ks ih t' G cells cells' hr hr' => ?_
 obtain ⟨k', ks'⟩ := t'
 obtain ⟨p, c, es, rfl, hk, hsl, hkl⟩ := hr.open
 obtain ⟨p', c', es', rfl, hk', hsl', hkl'⟩ := hr'.open
 simp only [Ty.k, Ty.ks] at hk hsl hkl hk' hsl' hkl' ⊢
 have hn := hsl.le
 have hn' := hsl'.le
 obtain ⟨A, hA⟩ : ∃ A, X9 ks ks' = A := ⟨_, rfl⟩
 have hA' : A = true ↔ ks.length = ks'.length ∧ ∀ i, i < ks.length → P7 (ks.getD i A3) (ks'.getD i A3) = true := by
  rw [← hA, A2Q]
  constructor
  ·rintro ⟨h1, h2⟩
   refine ⟨h1, fun i hi => ?_⟩
   have := h2 i hi (by omega)
   simpa [List.getD_eq_getElem?_getD, List.getElem?_eq_getElem hi, List.getElem?_eq_getElem (show i < ks'.length by omega)] using this
  ·rintro ⟨h1, h2⟩
   refine ⟨h1, fun i hi hi' => ?_⟩
   have := h2 i hi
   simpa [List.getD_eq_getElem?_getD, List.getElem?_eq_getElem hi, List.getElem?_eq_getElem hi'] using this
 refine B3 Tryz.func193 rfl Tryz.ntmps193 Tryz.results193 rfl ?_
 intro w0
 refine tS (tR ?_)
 refine sE (J6 rfl rfl) rfl (fun b3 => ?_)
 refine sE (J6 rfl rfl) rfl (fun b4 => ?_)
 refine B1 ?_
 refine sB (qE rfl rfl) rfl rfl (fun h12 => ?_) (fun h12 => ?_)
 refine A0o ?_
 exact ⟨rfl, by (rw [A0Y, hA]; first | (rw [decide_eq_true (p := k = 1) (by omega)]; rfl) | (rw [decide_eq_false (p := k = 1) (by omega), decide_eq_true (p := k' = 1) (by omega)]; rfl) | (rw [decide_eq_false (p := k = 1) (by omega), decide_eq_false (p := k' = 1) (by omega), decide_eq_false (p := k = k') (by omega)]; rfl) | (rw [decide_eq_false (p := k = 1) (by omega), decide_eq_false (p := k' = 1) (by omega), decide_eq_true (p := k = k') (by omega)]; simp only [*]; rfl)), rfl⟩
 refine F5 ?_
 refine sB (qE rfl rfl) rfl rfl (fun h41 => ?_) (fun h41 => ?_)
 refine X8 ?_
 exact ⟨rfl, by (rw [A0Y, hA]; first | (rw [decide_eq_true (p := k = 1) (by omega)]; rfl) | (rw [decide_eq_false (p := k = 1) (by omega), decide_eq_true (p := k' = 1) (by omega)]; rfl) | (rw [decide_eq_false (p := k = 1) (by omega), decide_eq_false (p := k' = 1) (by omega), decide_eq_false (p := k = k') (by omega)]; rfl) | (rw [decide_eq_false (p := k = 1) (by omega), decide_eq_false (p := k' = 1) (by omega), decide_eq_true (p := k = k') (by omega)]; simp only [*]; rfl)), rfl⟩
 refine I2 ?_
 refine sB (qE rfl rfl) rfl rfl (fun h69 => ?_) (fun h69 => ?_)
 refine R6 ?_
 refine H6 rfl (A9u _ _ _ _ _ _ _ _ _ hsl hsl' _ [] [] [] (fun i => P7 (ks.getD i A3) (ks'.getD i A3)) A hA' (fun i e e' he he' => ih _ (hkl.inv he A3).1 _ _ _ _ (hkl.inv he A3).2 (hkl'.inv he' A3).2)) rfl rfl (fun h75 => ?_) (fun h75 => ?_)
 refine B1 ?_
 exact ⟨rfl, by (rw [A0Y, hA]; first | (rw [decide_eq_true (p := k = 1) (by omega)]; rfl) | (rw [decide_eq_false (p := k = 1) (by omega), decide_eq_true (p := k' = 1) (by omega)]; rfl) | (rw [decide_eq_false (p := k = 1) (by omega), decide_eq_false (p := k' = 1) (by omega), decide_eq_false (p := k = k') (by omega)]; rfl) | (rw [decide_eq_false (p := k = 1) (by omega), decide_eq_false (p := k' = 1) (by omega), decide_eq_true (p := k = k') (by omega)]; simp only [*]; rfl)), rfl⟩
 refine B1 ?_
 exact ⟨rfl, by (rw [A0Y, hA]; first | (rw [decide_eq_true (p := k = 1) (by omega)]; rfl) | (rw [decide_eq_false (p := k = 1) (by omega), decide_eq_true (p := k' = 1) (by omega)]; rfl) | (rw [decide_eq_false (p := k = 1) (by omega), decide_eq_false (p := k' = 1) (by omega), decide_eq_false (p := k = k') (by omega)]; rfl) | (rw [decide_eq_false (p := k = 1) (by omega), decide_eq_false (p := k' = 1) (by omega), decide_eq_true (p := k = k') (by omega)]; simp only [*]; rfl)), rfl⟩
 refine D9 ?_
 exact ⟨rfl, by (rw [A0Y, hA]; first | (rw [decide_eq_true (p := k = 1) (by omega)]; rfl) | (rw [decide_eq_false (p := k = 1) (by omega), decide_eq_true (p := k' = 1) (by omega)]; rfl) | (rw [decide_eq_false (p := k = 1) (by omega), decide_eq_false (p := k' = 1) (by omega), decide_eq_false (p := k = k') (by omega)]; rfl) | (rw [decide_eq_false (p := k = 1) (by omega), decide_eq_false (p := k' = 1) (by omega), decide_eq_true (p := k = k') (by omega)]; simp only [*]; rfl)), rfl⟩
theorem A9z (t t' : Ty) (G : IM) (cells cells' : List Value) (hr : C5 G t cells) (hr' : C5 G t' cells') :
  Fn Tryz.prog 161 [.agg ⟨cells⟩, .agg ⟨cells'⟩] [] G (H4 (.bool (Y0 t t')) G) := by
 have hl := hr.len
 have hl' := hr'.len
 have hv := A3Y t G cells hr
 have hv' := A3Y t' G cells' hr'
 have hc := A9y t t' G cells cells' hr hr'
 refine B3 Tryz.func161 rfl Tryz.ntmps161 Tryz.results161 rfl ?_
 intro w0
 refine tS (tR ?_)
 refine sE (J6 rfl rfl) rfl (fun b3 => ?_)
 refine sE (J6 rfl rfl) rfl (fun b4 => ?_)
 refine sQ (qA rfl) rfl (sD (nS (tS (tR ?_))))
 refine sL (D5 rfl rfl (K8 (by repeat first | exact mH | apply mT)) (by assumption)) rfl rfl ?_
 refine H6 rfl (hv) rfl rfl (fun h11 => ?_) (fun h11 => ?_)
 refine sQ (qM rfl) rfl ?_
 refine sL (D5 rfl rfl (K8 (by repeat first | exact mH | apply mT)) (by assumption)) rfl rfl ?_
 refine H6 rfl (hv') rfl rfl (fun h14 => ?_) (fun h14 => ?_)
 refine sQ (I4 rfl rfl) rfl (sQ (qM rfl) rfl ?_)
 refine sL (D5 rfl rfl (K8 (by repeat first | exact mH | apply mT)) (by assumption)) rfl rfl ?_
 refine sL (D5 rfl rfl (K8 (by repeat first | exact mH | apply mT)) (by assumption)) rfl rfl ?_
 refine H6 rfl (hc) rfl rfl (fun h19 => ?_) (fun h19 => ?_)
 refine I2 ?_
 exact ⟨rfl, by simp only [Y0]; simp only [*, Bool.true_and, Bool.false_and, Bool.and_true], rfl⟩
 refine I2 ?_
 exact ⟨rfl, by simp only [Y0]; simp only [*, Bool.true_and, Bool.false_and, Bool.and_true], rfl⟩
 refine D7 ?_
 exact ⟨rfl, by simp only [Y0]; simp only [*, Bool.true_and, Bool.false_and, Bool.and_true], rfl⟩
 refine S2 ?_
 exact ⟨rfl, by simp only [Y0]; simp only [*, Bool.true_and, Bool.false_and, Bool.and_true], rfl⟩
theorem A9A (k : Int) (G : IM) (hk : F1 k) : Fn Tryz.prog 157 [.int .i64 k] [] G (H4 (.int .i64 (L8 k)) G) := by
 unfold F1 at hk
 refine B3 Tryz.func157 rfl Tryz.ntmps157 Tryz.results157 rfl ?_
 intro w0
 refine C1 ?_
 refine H6 rfl (A0u _ _ _ _) rfl rfl (fun h10 => ?_) (fun h10 => ?_)
 refine sQ (X5 rfl) rfl (sD (nS (cF rfl (tK (nS (tS (tR ?_)))))))
 (refine F3 (P1 rfl rfl rfl (by omega) (by unfold maxLen; omega) rfl) rfl ?_; rintro _ ⟨b19, rfl⟩)
 refine sQ (qM rfl) rfl ?_
 (have hkk : 1 ≤ k ∧ k ≤ 14 := A0p (by assumption); refine sP (A0i rfl rfl (by omega) (by omega)) rfl rfl ?_)
 refine sP (A4Z rfl rfl rfl (by omega) (by omega)) rfl rfl ?_
 refine sL (H3 rfl rfl (A8p (by repeat first | exact mH | apply mT) (A1o (by rw [Nat.zero_add, Nat.mul_one]; exact A8V hkk)))) rfl rfl ?_
 refine sQ (qA rfl) rfl (sD (nS (tT (F0 (rT rfl) ?_))))
 exact ⟨rfl, rfl, rfl⟩
 refine O0 ?_
 exact ⟨rfl, by rw [A8W (A5m (by assumption))], rfl⟩
theorem A9B (k : Int) (nm : ByteArray) (num : Int) (ty fr : Ty) (lb : Int) (ks : List Tm) (G : IM) (cells : List Value) (hr : C7 G (.mk k nm num ty fr lb ks) cells) :
  Fn Tryz.prog 92 [.agg ⟨cells⟩] [] G (H4 (.bool (P8 k nm num ty fr lb ks.length)) G) := by
 obtain ⟨tk, tks⟩ := ty
 obtain ⟨fk, fks⟩ := fr
 obtain ⟨pt, ct, pf, cf, p, c, es, rfl, hk, hnum, hlb, hty, hfr, hsl, hkl⟩ := hr.open9
 have hi := @A0q k nm num (.mk tk tks) (.mk fk fks) lb ks.length
 obtain ⟨R, hR⟩ : ∃ R, P8 k nm num (.mk tk tks) (.mk fk fks) lb ks.length = R := ⟨_, rfl⟩
 rw [hR] at hi ⊢
 clear hR hr
 have o1 := A9A k G hk
 have o2 := A9w nm G
 have o3 := A3Y _ G _ hty
 have o4 := A5R _ G _ hty
 have o5 := A9z _ _ G _ _ hfr hty
 have o6 := A9v lb G
 have o7 := A5R _ G _ hfr
 refine B3 Tryz.func92 rfl Tryz.ntmps92 Tryz.results92 rfl ?_
 intro w0
 refine tS (tR ?_)
 refine sE (J6 rfl rfl) rfl (fun b3 => ?_)
 refine sQ (qA rfl) rfl (sD (nS (tS (tS ?_))))
 refine K7 K9 rfl ?_
 refine I0 (i := 0) (l' := [tt,ff,ff,ff,ff,ff,ff]) rfl E9 (A4 rfl) rfl (by kernel_rfl) rfl rfl ?_
 refine aL 1 rfl (C2 rfl rfl) rfl ?_
 refine aP 3 rfl (A4 rfl) rfl ?_
 refine aL 4 rfl (C2 rfl rfl) rfl ?_
 refine aP 5 rfl (pLn rfl rfl) rfl ?_
 refine B6 2 ?_
 refine N5 rfl rfl (o1) rfl rfl rfl ?_
 refine X4 (i := 6) (l' := [tt,tt,tt,tt,tt,tt,tt]) rfl E9 (N1 rfl rfl) rfl (by kernel_rfl) rfl rfl (fun h17 => ?_) (fun h17 => ?_)
 refine D7 ?_
 exact ⟨rfl, by (cases R with | false => rfl | true => (exfalso; obtain ⟨i1, i2, i3, i4, i5, i6, i7, i8, i9⟩ := hi.1 rfl; first | omega | (have j := i2 (by omega); simp_all; done) | (have j := i3 (by omega); simp_all; done) | (have j := i4 (by omega); simp_all; done) | (have j := i5 (by omega); simp_all; done) | (have j := i6 (by omega); simp_all; done) | (have j := i7 (by omega); simp_all; done) | (have j := i8 (by omega); simp_all; done) | (have j := i9 (by omega); simp_all; done))), rfl⟩
 refine C1 ?_
 refine sB (qE rfl rfl) rfl rfl (fun h39 => ?_) (fun h39 => ?_)
 refine O0 ?_
 refine sP (I1 rfl rfl (by omega)) rfl rfl ?_
 refine F5 ?_
 refine sP (I1 rfl rfl (by omega)) rfl rfl ?_
 refine H9 ?_
 refine sP (I1 rfl rfl (by omega)) rfl rfl ?_
 refine C6 ?_
 refine sP (I1 rfl rfl (by omega)) rfl rfl ?_
 refine D9 ?_
 refine sP (I1 rfl rfl (by omega)) rfl rfl ?_
 refine sD (nS (cF rfl (tK (nS (tS ?_)))))
 refine D0 ?_
 refine B1 ?_
 refine H6 rfl (o2) rfl rfl (fun h99 => ?_) (fun h99 => ?_)
 refine A0n ?_
 refine H6 rfl (A0u _ _ _ _) rfl rfl (fun h123 => ?_) (fun h123 => ?_)
 refine A1n ?_
 refine H6 rfl (o4) rfl rfl (fun h149 => ?_) (fun h149 => ?_)
 refine S3 ?_
 refine H9 ?_
 refine H6 rfl (o7) rfl rfl (fun h184 => ?_) (fun h184 => ?_)
 refine H9 ?_
 refine sB (N1 rfl rfl) rfl rfl (fun h189 => ?_) (fun h189 => ?_)
 refine I7 ?_
 exact ⟨rfl, by (cases R with | false => rfl | true => (exfalso; obtain ⟨i1, i2, i3, i4, i5, i6, i7, i8, i9⟩ := hi.1 rfl; first | omega | (have j := i2 (by omega); simp_all; done) | (have j := i3 (by omega); simp_all; done) | (have j := i4 (by omega); simp_all; done) | (have j := i5 (by omega); simp_all; done) | (have j := i6 (by omega); simp_all; done) | (have j := i7 (by omega); simp_all; done) | (have j := i8 (by omega); simp_all; done) | (have j := i9 (by omega); simp_all; done))), rfl⟩
 refine N4 ?_
 exact ⟨rfl, by rw [hi.2 ⟨by omega, fun _ => by (first | assumption | (exfalso; omega) | exact Classical.not_not.1 (by assumption)), fun _ => by (first | assumption | (exfalso; omega) | exact Classical.not_not.1 (by assumption)), fun _ => by (first | assumption | (exfalso; omega) | exact Classical.not_not.1 (by assumption)), fun _ => by (first | assumption | (exfalso; omega) | exact Classical.not_not.1 (by assumption)), fun _ => by (first | assumption | (exfalso; omega) | exact Classical.not_not.1 (by assumption)), fun _ => by (first | assumption | (exfalso; omega) | exact Classical.not_not.1 (by assumption)), fun _ => ⟨by (first | assumption | (exfalso; omega)), by (first | assumption | (exfalso; omega))⟩, fun _ => ⟨by (first | assumption | (exfalso; omega)), by (first | assumption | omega)⟩⟩], rfl⟩
 refine X8 ?_
 exact ⟨rfl, by (cases R with | false => rfl | true => (exfalso; obtain ⟨i1, i2, i3, i4, i5, i6, i7, i8, i9⟩ := hi.1 rfl; first | omega | (have j := i2 (by omega); simp_all; done) | (have j := i3 (by omega); simp_all; done) | (have j := i4 (by omega); simp_all; done) | (have j := i5 (by omega); simp_all; done) | (have j := i6 (by omega); simp_all; done) | (have j := i7 (by omega); simp_all; done) | (have j := i8 (by omega); simp_all; done) | (have j := i9 (by omega); simp_all; done))), rfl⟩
 refine I7 ?_
 exact ⟨rfl, by (cases R with | false => rfl | true => (exfalso; obtain ⟨i1, i2, i3, i4, i5, i6, i7, i8, i9⟩ := hi.1 rfl; first | omega | (have j := i2 (by omega); simp_all; done) | (have j := i3 (by omega); simp_all; done) | (have j := i4 (by omega); simp_all; done) | (have j := i5 (by omega); simp_all; done) | (have j := i6 (by omega); simp_all; done) | (have j := i7 (by omega); simp_all; done) | (have j := i8 (by omega); simp_all; done) | (have j := i9 (by omega); simp_all; done))), rfl⟩
 refine S2 ?_
 exact ⟨rfl, by (cases R with | false => rfl | true => (exfalso; obtain ⟨i1, i2, i3, i4, i5, i6, i7, i8, i9⟩ := hi.1 rfl; first | omega | (have j := i2 (by omega); simp_all; done) | (have j := i3 (by omega); simp_all; done) | (have j := i4 (by omega); simp_all; done) | (have j := i5 (by omega); simp_all; done) | (have j := i6 (by omega); simp_all; done) | (have j := i7 (by omega); simp_all; done) | (have j := i8 (by omega); simp_all; done) | (have j := i9 (by omega); simp_all; done))), rfl⟩
 refine W1 ?_
 exact ⟨rfl, by (cases R with | false => rfl | true => (exfalso; obtain ⟨i1, i2, i3, i4, i5, i6, i7, i8, i9⟩ := hi.1 rfl; first | omega | (have j := i2 (by omega); simp_all; done) | (have j := i3 (by omega); simp_all; done) | (have j := i4 (by omega); simp_all; done) | (have j := i5 (by omega); simp_all; done) | (have j := i6 (by omega); simp_all; done) | (have j := i7 (by omega); simp_all; done) | (have j := i8 (by omega); simp_all; done) | (have j := i9 (by omega); simp_all; done))), rfl⟩
 refine F5 ?_
 refine sB (qE rfl rfl) rfl rfl (fun h297 => ?_) (fun h297 => ?_)
 refine C6 ?_
 refine sP (A1F rfl rfl (by omega)) rfl rfl ?_
 refine W0 ?_
 refine sP (I1 rfl rfl (by omega)) rfl rfl ?_
 refine D9 ?_
 refine sP (I1 rfl rfl (by omega)) rfl rfl ?_
 refine sD (nS (cF rfl (tK (nS (tS ?_)))))
 refine D0 ?_
 refine B1 ?_
 refine H6 rfl (o2) rfl rfl (fun h353 => ?_) (fun h353 => ?_)
 refine A0n ?_
 refine H6 rfl (A0u _ _ _ _) rfl rfl (fun h377 => ?_) (fun h377 => ?_)
 refine O0 ?_
 refine H6 rfl (o3) rfl rfl (fun h390 => ?_) (fun h390 => ?_)
 refine S3 ?_
 refine W0 ?_
 refine H6 rfl (o7) rfl rfl (fun h438 => ?_) (fun h438 => ?_)
 refine H9 ?_
 refine sB (N1 rfl rfl) rfl rfl (fun h443 => ?_) (fun h443 => ?_)
 refine I7 ?_
 exact ⟨rfl, by (cases R with | false => rfl | true => (exfalso; obtain ⟨i1, i2, i3, i4, i5, i6, i7, i8, i9⟩ := hi.1 rfl; first | omega | (have j := i2 (by omega); simp_all; done) | (have j := i3 (by omega); simp_all; done) | (have j := i4 (by omega); simp_all; done) | (have j := i5 (by omega); simp_all; done) | (have j := i6 (by omega); simp_all; done) | (have j := i7 (by omega); simp_all; done) | (have j := i8 (by omega); simp_all; done) | (have j := i9 (by omega); simp_all; done))), rfl⟩
 refine N4 ?_
 exact ⟨rfl, by rw [hi.2 ⟨by omega, fun _ => by (first | assumption | (exfalso; omega) | exact Classical.not_not.1 (by assumption)), fun _ => by (first | assumption | (exfalso; omega) | exact Classical.not_not.1 (by assumption)), fun _ => by (first | assumption | (exfalso; omega) | exact Classical.not_not.1 (by assumption)), fun _ => by (first | assumption | (exfalso; omega) | exact Classical.not_not.1 (by assumption)), fun _ => by (first | assumption | (exfalso; omega) | exact Classical.not_not.1 (by assumption)), fun _ => by (first | assumption | (exfalso; omega) | exact Classical.not_not.1 (by assumption)), fun _ => ⟨by (first | assumption | (exfalso; omega)), by (first | assumption | (exfalso; omega))⟩, fun _ => ⟨by (first | assumption | (exfalso; omega)), by (first | assumption | omega)⟩⟩], rfl⟩
 refine X8 ?_
 exact ⟨rfl, by (cases R with | false => rfl | true => (exfalso; obtain ⟨i1, i2, i3, i4, i5, i6, i7, i8, i9⟩ := hi.1 rfl; first | omega | (have j := i2 (by omega); simp_all; done) | (have j := i3 (by omega); simp_all; done) | (have j := i4 (by omega); simp_all; done) | (have j := i5 (by omega); simp_all; done) | (have j := i6 (by omega); simp_all; done) | (have j := i7 (by omega); simp_all; done) | (have j := i8 (by omega); simp_all; done) | (have j := i9 (by omega); simp_all; done))), rfl⟩
 refine W1 ?_
 exact ⟨rfl, by (cases R with | false => rfl | true => (exfalso; obtain ⟨i1, i2, i3, i4, i5, i6, i7, i8, i9⟩ := hi.1 rfl; first | omega | (have j := i2 (by omega); simp_all; done) | (have j := i3 (by omega); simp_all; done) | (have j := i4 (by omega); simp_all; done) | (have j := i5 (by omega); simp_all; done) | (have j := i6 (by omega); simp_all; done) | (have j := i7 (by omega); simp_all; done) | (have j := i8 (by omega); simp_all; done) | (have j := i9 (by omega); simp_all; done))), rfl⟩
 refine S2 ?_
 exact ⟨rfl, by (cases R with | false => rfl | true => (exfalso; obtain ⟨i1, i2, i3, i4, i5, i6, i7, i8, i9⟩ := hi.1 rfl; first | omega | (have j := i2 (by omega); simp_all; done) | (have j := i3 (by omega); simp_all; done) | (have j := i4 (by omega); simp_all; done) | (have j := i5 (by omega); simp_all; done) | (have j := i6 (by omega); simp_all; done) | (have j := i7 (by omega); simp_all; done) | (have j := i8 (by omega); simp_all; done) | (have j := i9 (by omega); simp_all; done))), rfl⟩
 refine W1 ?_
 exact ⟨rfl, by (cases R with | false => rfl | true => (exfalso; obtain ⟨i1, i2, i3, i4, i5, i6, i7, i8, i9⟩ := hi.1 rfl; first | omega | (have j := i2 (by omega); simp_all; done) | (have j := i3 (by omega); simp_all; done) | (have j := i4 (by omega); simp_all; done) | (have j := i5 (by omega); simp_all; done) | (have j := i6 (by omega); simp_all; done) | (have j := i7 (by omega); simp_all; done) | (have j := i8 (by omega); simp_all; done) | (have j := i9 (by omega); simp_all; done))), rfl⟩
 refine C6 ?_
 refine sP (I1 rfl rfl (by omega)) rfl rfl ?_
 refine F5 ?_
 refine sB (qE rfl rfl) rfl rfl (fun h563 => ?_) (fun h563 => ?_)
 refine D9 ?_
 refine sP (I1 rfl rfl (by omega)) rfl rfl ?_
 refine D9 ?_
 refine sP (I1 rfl rfl (by omega)) rfl rfl ?_
 refine sD (nS (cF rfl (tK (nS (tS ?_)))))
 refine D0 ?_
 refine A0m ?_
 refine sB (Z2 rfl rfl) rfl rfl (fun h620 => ?_) (fun h620 => ?_)
 refine W0 ?_
 exact ⟨rfl, by (cases R with | false => rfl | true => (exfalso; obtain ⟨i1, i2, i3, i4, i5, i6, i7, i8, i9⟩ := hi.1 rfl; first | omega | (have j := i2 (by omega); simp_all; done) | (have j := i3 (by omega); simp_all; done) | (have j := i4 (by omega); simp_all; done) | (have j := i5 (by omega); simp_all; done) | (have j := i6 (by omega); simp_all; done) | (have j := i7 (by omega); simp_all; done) | (have j := i8 (by omega); simp_all; done) | (have j := i9 (by omega); simp_all; done))), rfl⟩
 refine C1 ?_
 refine H6 rfl (A0u _ _ _ _) rfl rfl (fun h648 => ?_) (fun h648 => ?_)
 refine O0 ?_
 refine H6 rfl (o3) rfl rfl (fun h661 => ?_) (fun h661 => ?_)
 refine S3 ?_
 refine W0 ?_
 refine H6 rfl (o7) rfl rfl (fun h709 => ?_) (fun h709 => ?_)
 refine H9 ?_
 refine sB (N1 rfl rfl) rfl rfl (fun h714 => ?_) (fun h714 => ?_)
 refine I7 ?_
 exact ⟨rfl, by (cases R with | false => rfl | true => (exfalso; obtain ⟨i1, i2, i3, i4, i5, i6, i7, i8, i9⟩ := hi.1 rfl; first | omega | (have j := i2 (by omega); simp_all; done) | (have j := i3 (by omega); simp_all; done) | (have j := i4 (by omega); simp_all; done) | (have j := i5 (by omega); simp_all; done) | (have j := i6 (by omega); simp_all; done) | (have j := i7 (by omega); simp_all; done) | (have j := i8 (by omega); simp_all; done) | (have j := i9 (by omega); simp_all; done))), rfl⟩
 refine N4 ?_
 exact ⟨rfl, by rw [hi.2 ⟨by omega, fun _ => by (first | assumption | (exfalso; omega) | exact Classical.not_not.1 (by assumption)), fun _ => by (first | assumption | (exfalso; omega) | exact Classical.not_not.1 (by assumption)), fun _ => by (first | assumption | (exfalso; omega) | exact Classical.not_not.1 (by assumption)), fun _ => by (first | assumption | (exfalso; omega) | exact Classical.not_not.1 (by assumption)), fun _ => by (first | assumption | (exfalso; omega) | exact Classical.not_not.1 (by assumption)), fun _ => by (first | assumption | (exfalso; omega) | exact Classical.not_not.1 (by assumption)), fun _ => ⟨by (first | assumption | (exfalso; omega)), by (first | assumption | (exfalso; omega))⟩, fun _ => ⟨by (first | assumption | (exfalso; omega)), by (first | assumption | omega)⟩⟩], rfl⟩
 refine X8 ?_
 exact ⟨rfl, by (cases R with | false => rfl | true => (exfalso; obtain ⟨i1, i2, i3, i4, i5, i6, i7, i8, i9⟩ := hi.1 rfl; first | omega | (have j := i2 (by omega); simp_all; done) | (have j := i3 (by omega); simp_all; done) | (have j := i4 (by omega); simp_all; done) | (have j := i5 (by omega); simp_all; done) | (have j := i6 (by omega); simp_all; done) | (have j := i7 (by omega); simp_all; done) | (have j := i8 (by omega); simp_all; done) | (have j := i9 (by omega); simp_all; done))), rfl⟩
 refine W1 ?_
 exact ⟨rfl, by (cases R with | false => rfl | true => (exfalso; obtain ⟨i1, i2, i3, i4, i5, i6, i7, i8, i9⟩ := hi.1 rfl; first | omega | (have j := i2 (by omega); simp_all; done) | (have j := i3 (by omega); simp_all; done) | (have j := i4 (by omega); simp_all; done) | (have j := i5 (by omega); simp_all; done) | (have j := i6 (by omega); simp_all; done) | (have j := i7 (by omega); simp_all; done) | (have j := i8 (by omega); simp_all; done) | (have j := i9 (by omega); simp_all; done))), rfl⟩
 refine S2 ?_
 exact ⟨rfl, by (cases R with | false => rfl | true => (exfalso; obtain ⟨i1, i2, i3, i4, i5, i6, i7, i8, i9⟩ := hi.1 rfl; first | omega | (have j := i2 (by omega); simp_all; done) | (have j := i3 (by omega); simp_all; done) | (have j := i4 (by omega); simp_all; done) | (have j := i5 (by omega); simp_all; done) | (have j := i6 (by omega); simp_all; done) | (have j := i7 (by omega); simp_all; done) | (have j := i8 (by omega); simp_all; done) | (have j := i9 (by omega); simp_all; done))), rfl⟩
 refine H9 ?_
 refine sB (qE rfl rfl) rfl rfl (fun h807 => ?_) (fun h807 => ?_)
 refine C6 ?_
 refine sP (A1F rfl rfl (by omega)) rfl rfl ?_
 refine D9 ?_
 refine sP (I1 rfl rfl (by omega)) rfl rfl ?_
 refine sD (nS (cF rfl (tK (nS (tS ?_)))))
 refine D0 ?_
 refine A0m ?_
 refine sB (Z2 rfl rfl) rfl rfl (fun h859 => ?_) (fun h859 => ?_)
 refine W0 ?_
 exact ⟨rfl, by (cases R with | false => rfl | true => (exfalso; obtain ⟨i1, i2, i3, i4, i5, i6, i7, i8, i9⟩ := hi.1 rfl; first | omega | (have j := i2 (by omega); simp_all; done) | (have j := i3 (by omega); simp_all; done) | (have j := i4 (by omega); simp_all; done) | (have j := i5 (by omega); simp_all; done) | (have j := i6 (by omega); simp_all; done) | (have j := i7 (by omega); simp_all; done) | (have j := i8 (by omega); simp_all; done) | (have j := i9 (by omega); simp_all; done))), rfl⟩
 refine C1 ?_
 refine H6 rfl (A0u _ _ _ _) rfl rfl (fun h887 => ?_) (fun h887 => ?_)
 refine O0 ?_
 refine H6 rfl (o3) rfl rfl (fun h900 => ?_) (fun h900 => ?_)
 refine A8I ?_
 refine H6 rfl (o5) rfl rfl (fun h929 => ?_) (fun h929 => ?_)
 refine H9 ?_
 refine H6 rfl (o6) rfl rfl (fun h934 => ?_) (fun h934 => ?_)
 refine S3 ?_
 refine sQ (qA rfl) rfl (sD (nS (tT (F0 (rT rfl) ?_))))
 exact ⟨rfl, by rw [hi.2 ⟨by omega, fun _ => by (first | assumption | (exfalso; omega) | exact Classical.not_not.1 (by assumption)), fun _ => by (first | assumption | (exfalso; omega) | exact Classical.not_not.1 (by assumption)), fun _ => by (first | assumption | (exfalso; omega) | exact Classical.not_not.1 (by assumption)), fun _ => by (first | assumption | (exfalso; omega) | exact Classical.not_not.1 (by assumption)), fun _ => by (first | assumption | (exfalso; omega) | exact Classical.not_not.1 (by assumption)), fun _ => by (first | assumption | (exfalso; omega) | exact Classical.not_not.1 (by assumption)), fun _ => ⟨by (first | assumption | (exfalso; omega)), by (first | assumption | (exfalso; omega))⟩, fun _ => ⟨by (first | assumption | (exfalso; omega)), by (first | assumption | omega)⟩⟩], rfl⟩
 refine U7 ?_
 exact ⟨rfl, by (cases R with | false => rfl | true => (exfalso; obtain ⟨i1, i2, i3, i4, i5, i6, i7, i8, i9⟩ := hi.1 rfl; first | omega | (have j := i2 (by omega); simp_all; done) | (have j := i3 (by omega); simp_all; done) | (have j := i4 (by omega); simp_all; done) | (have j := i5 (by omega); simp_all; done) | (have j := i6 (by omega); simp_all; done) | (have j := i7 (by omega); simp_all; done) | (have j := i8 (by omega); simp_all; done) | (have j := i9 (by omega); simp_all; done))), rfl⟩
 refine A0o ?_
 exact ⟨rfl, by (cases R with | false => rfl | true => (exfalso; obtain ⟨i1, i2, i3, i4, i5, i6, i7, i8, i9⟩ := hi.1 rfl; first | omega | (have j := i2 (by omega); simp_all; done) | (have j := i3 (by omega); simp_all; done) | (have j := i4 (by omega); simp_all; done) | (have j := i5 (by omega); simp_all; done) | (have j := i6 (by omega); simp_all; done) | (have j := i7 (by omega); simp_all; done) | (have j := i8 (by omega); simp_all; done) | (have j := i9 (by omega); simp_all; done))), rfl⟩
 refine W1 ?_
 exact ⟨rfl, by (cases R with | false => rfl | true => (exfalso; obtain ⟨i1, i2, i3, i4, i5, i6, i7, i8, i9⟩ := hi.1 rfl; first | omega | (have j := i2 (by omega); simp_all; done) | (have j := i3 (by omega); simp_all; done) | (have j := i4 (by omega); simp_all; done) | (have j := i5 (by omega); simp_all; done) | (have j := i6 (by omega); simp_all; done) | (have j := i7 (by omega); simp_all; done) | (have j := i8 (by omega); simp_all; done) | (have j := i9 (by omega); simp_all; done))), rfl⟩
 refine S2 ?_
 exact ⟨rfl, by (cases R with | false => rfl | true => (exfalso; obtain ⟨i1, i2, i3, i4, i5, i6, i7, i8, i9⟩ := hi.1 rfl; first | omega | (have j := i2 (by omega); simp_all; done) | (have j := i3 (by omega); simp_all; done) | (have j := i4 (by omega); simp_all; done) | (have j := i5 (by omega); simp_all; done) | (have j := i6 (by omega); simp_all; done) | (have j := i7 (by omega); simp_all; done) | (have j := i8 (by omega); simp_all; done) | (have j := i9 (by omega); simp_all; done))), rfl⟩
 refine C6 ?_
 refine sP (I1 rfl rfl (by omega)) rfl rfl ?_
 refine D9 ?_
 refine sB (qE rfl rfl) rfl rfl (fun h1072 => ?_) (fun h1072 => ?_)
 refine sD (nS (qT rfl (tR (sQ (qA rfl) rfl (sD (nS (tS ?_)))))))
 refine D0 ?_
 refine A0m ?_
 refine sB (Z2 rfl rfl) rfl rfl (fun h1103 => ?_) (fun h1103 => ?_)
 refine W0 ?_
 exact ⟨rfl, by (cases R with | false => rfl | true => (exfalso; obtain ⟨i1, i2, i3, i4, i5, i6, i7, i8, i9⟩ := hi.1 rfl; first | omega | (have j := i2 (by omega); simp_all; done) | (have j := i3 (by omega); simp_all; done) | (have j := i4 (by omega); simp_all; done) | (have j := i5 (by omega); simp_all; done) | (have j := i6 (by omega); simp_all; done) | (have j := i7 (by omega); simp_all; done) | (have j := i8 (by omega); simp_all; done) | (have j := i9 (by omega); simp_all; done))), rfl⟩
 refine C1 ?_
 refine H6 rfl (A0u _ _ _ _) rfl rfl (fun h1131 => ?_) (fun h1131 => ?_)
 refine A1n ?_
 refine H6 rfl (o4) rfl rfl (fun h1157 => ?_) (fun h1157 => ?_)
 refine S3 ?_
 refine H9 ?_
 refine H6 rfl (o7) rfl rfl (fun h1192 => ?_) (fun h1192 => ?_)
 refine H9 ?_
 refine sB (N1 rfl rfl) rfl rfl (fun h1197 => ?_) (fun h1197 => ?_)
 refine I7 ?_
 exact ⟨rfl, by (cases R with | false => rfl | true => (exfalso; obtain ⟨i1, i2, i3, i4, i5, i6, i7, i8, i9⟩ := hi.1 rfl; first | omega | (have j := i2 (by omega); simp_all; done) | (have j := i3 (by omega); simp_all; done) | (have j := i4 (by omega); simp_all; done) | (have j := i5 (by omega); simp_all; done) | (have j := i6 (by omega); simp_all; done) | (have j := i7 (by omega); simp_all; done) | (have j := i8 (by omega); simp_all; done) | (have j := i9 (by omega); simp_all; done))), rfl⟩
 refine N4 ?_
 exact ⟨rfl, by rw [hi.2 ⟨by omega, fun _ => by (first | assumption | (exfalso; omega) | exact Classical.not_not.1 (by assumption)), fun _ => by (first | assumption | (exfalso; omega) | exact Classical.not_not.1 (by assumption)), fun _ => by (first | assumption | (exfalso; omega) | exact Classical.not_not.1 (by assumption)), fun _ => by (first | assumption | (exfalso; omega) | exact Classical.not_not.1 (by assumption)), fun _ => by (first | assumption | (exfalso; omega) | exact Classical.not_not.1 (by assumption)), fun _ => by (first | assumption | (exfalso; omega) | exact Classical.not_not.1 (by assumption)), fun _ => ⟨by (first | assumption | (exfalso; omega)), by (first | assumption | (exfalso; omega))⟩, fun _ => ⟨by (first | assumption | (exfalso; omega)), by (first | assumption | omega)⟩⟩], rfl⟩
 refine X8 ?_
 exact ⟨rfl, by (cases R with | false => rfl | true => (exfalso; obtain ⟨i1, i2, i3, i4, i5, i6, i7, i8, i9⟩ := hi.1 rfl; first | omega | (have j := i2 (by omega); simp_all; done) | (have j := i3 (by omega); simp_all; done) | (have j := i4 (by omega); simp_all; done) | (have j := i5 (by omega); simp_all; done) | (have j := i6 (by omega); simp_all; done) | (have j := i7 (by omega); simp_all; done) | (have j := i8 (by omega); simp_all; done) | (have j := i9 (by omega); simp_all; done))), rfl⟩
 refine I7 ?_
 exact ⟨rfl, by (cases R with | false => rfl | true => (exfalso; obtain ⟨i1, i2, i3, i4, i5, i6, i7, i8, i9⟩ := hi.1 rfl; first | omega | (have j := i2 (by omega); simp_all; done) | (have j := i3 (by omega); simp_all; done) | (have j := i4 (by omega); simp_all; done) | (have j := i5 (by omega); simp_all; done) | (have j := i6 (by omega); simp_all; done) | (have j := i7 (by omega); simp_all; done) | (have j := i8 (by omega); simp_all; done) | (have j := i9 (by omega); simp_all; done))), rfl⟩
 refine S2 ?_
 exact ⟨rfl, by (cases R with | false => rfl | true => (exfalso; obtain ⟨i1, i2, i3, i4, i5, i6, i7, i8, i9⟩ := hi.1 rfl; first | omega | (have j := i2 (by omega); simp_all; done) | (have j := i3 (by omega); simp_all; done) | (have j := i4 (by omega); simp_all; done) | (have j := i5 (by omega); simp_all; done) | (have j := i6 (by omega); simp_all; done) | (have j := i7 (by omega); simp_all; done) | (have j := i8 (by omega); simp_all; done) | (have j := i9 (by omega); simp_all; done))), rfl⟩
 refine sD (nS (cF rfl (tK (nS (tS ?_)))))
 refine D0 ?_
 refine A0m ?_
 refine sB (Z2 rfl rfl) rfl rfl (fun h1311 => ?_) (fun h1311 => ?_)
 refine W0 ?_
 exact ⟨rfl, by (cases R with | false => rfl | true => (exfalso; obtain ⟨i1, i2, i3, i4, i5, i6, i7, i8, i9⟩ := hi.1 rfl; first | omega | (have j := i2 (by omega); simp_all; done) | (have j := i3 (by omega); simp_all; done) | (have j := i4 (by omega); simp_all; done) | (have j := i5 (by omega); simp_all; done) | (have j := i6 (by omega); simp_all; done) | (have j := i7 (by omega); simp_all; done) | (have j := i8 (by omega); simp_all; done) | (have j := i9 (by omega); simp_all; done))), rfl⟩
 refine C1 ?_
 refine H6 rfl (A0u _ _ _ _) rfl rfl (fun h1339 => ?_) (fun h1339 => ?_)
 refine A1n ?_
 refine H6 rfl (o4) rfl rfl (fun h1365 => ?_) (fun h1365 => ?_)
 refine S3 ?_
 refine H9 ?_
 refine H6 rfl (o7) rfl rfl (fun h1400 => ?_) (fun h1400 => ?_)
 refine H9 ?_
 refine sB (N1 rfl rfl) rfl rfl (fun h1405 => ?_) (fun h1405 => ?_)
 refine I7 ?_
 exact ⟨rfl, by (cases R with | false => rfl | true => (exfalso; obtain ⟨i1, i2, i3, i4, i5, i6, i7, i8, i9⟩ := hi.1 rfl; first | omega | (have j := i2 (by omega); simp_all; done) | (have j := i3 (by omega); simp_all; done) | (have j := i4 (by omega); simp_all; done) | (have j := i5 (by omega); simp_all; done) | (have j := i6 (by omega); simp_all; done) | (have j := i7 (by omega); simp_all; done) | (have j := i8 (by omega); simp_all; done) | (have j := i9 (by omega); simp_all; done))), rfl⟩
 refine N4 ?_
 exact ⟨rfl, by rw [hi.2 ⟨by omega, fun _ => by (first | assumption | (exfalso; omega) | exact Classical.not_not.1 (by assumption)), fun _ => by (first | assumption | (exfalso; omega) | exact Classical.not_not.1 (by assumption)), fun _ => by (first | assumption | (exfalso; omega) | exact Classical.not_not.1 (by assumption)), fun _ => by (first | assumption | (exfalso; omega) | exact Classical.not_not.1 (by assumption)), fun _ => by (first | assumption | (exfalso; omega) | exact Classical.not_not.1 (by assumption)), fun _ => by (first | assumption | (exfalso; omega) | exact Classical.not_not.1 (by assumption)), fun _ => ⟨by (first | assumption | (exfalso; omega)), by (first | assumption | (exfalso; omega))⟩, fun _ => ⟨by (first | assumption | (exfalso; omega)), by (first | assumption | omega)⟩⟩], rfl⟩
 refine X8 ?_
 exact ⟨rfl, by (cases R with | false => rfl | true => (exfalso; obtain ⟨i1, i2, i3, i4, i5, i6, i7, i8, i9⟩ := hi.1 rfl; first | omega | (have j := i2 (by omega); simp_all; done) | (have j := i3 (by omega); simp_all; done) | (have j := i4 (by omega); simp_all; done) | (have j := i5 (by omega); simp_all; done) | (have j := i6 (by omega); simp_all; done) | (have j := i7 (by omega); simp_all; done) | (have j := i8 (by omega); simp_all; done) | (have j := i9 (by omega); simp_all; done))), rfl⟩
 refine I7 ?_
 exact ⟨rfl, by (cases R with | false => rfl | true => (exfalso; obtain ⟨i1, i2, i3, i4, i5, i6, i7, i8, i9⟩ := hi.1 rfl; first | omega | (have j := i2 (by omega); simp_all; done) | (have j := i3 (by omega); simp_all; done) | (have j := i4 (by omega); simp_all; done) | (have j := i5 (by omega); simp_all; done) | (have j := i6 (by omega); simp_all; done) | (have j := i7 (by omega); simp_all; done) | (have j := i8 (by omega); simp_all; done) | (have j := i9 (by omega); simp_all; done))), rfl⟩
 refine S2 ?_
 exact ⟨rfl, by (cases R with | false => rfl | true => (exfalso; obtain ⟨i1, i2, i3, i4, i5, i6, i7, i8, i9⟩ := hi.1 rfl; first | omega | (have j := i2 (by omega); simp_all; done) | (have j := i3 (by omega); simp_all; done) | (have j := i4 (by omega); simp_all; done) | (have j := i5 (by omega); simp_all; done) | (have j := i6 (by omega); simp_all; done) | (have j := i7 (by omega); simp_all; done) | (have j := i8 (by omega); simp_all; done) | (have j := i9 (by omega); simp_all; done))), rfl⟩
theorem A5S (M D N : Int) (hM : 0 ≤ M ∧ M ≤ 1000) (hD : 0 ≤ D ∧ D ≤ 1000) (bc : Nat) : ∀ (t : Tm) (deep c : Int) (G : IM) (cells : List Value), 0 ≤ deep ∧ deep ≤ D + 1 → 0 ≤ c ∧ c ≤ M → C7 G t cells →
  Fn Tryz.prog 43 [.agg ⟨cells⟩, .int .i64 deep, .int .i64 M, .int .i64 D, .int .i64 N, .pointer (some ⟨bc, 0, none⟩)] [.blk bc [.int .i64 c]] G
   (U6 (.bool (O1 M D N t deep c).1) [.blk bc [.int .i64 (O1 M D N t deep c).2]] G) := by
 refine Tm.ind fun k nm num ty fr lb ks ih deep c G cells hd hc hr => ?_
 have hno := A9B k nm num ty fr lb ks G cells hr
 obtain ⟨tk, tks⟩ := ty
 obtain ⟨fk, fks⟩ := fr
 obtain ⟨pt, ct, pf, cf, p, cp, es, rfl, hk, hnum, hlb, hty, hfr, hsl, hkl⟩ := hr.open9
 have hn := hsl.le
 obtain ⟨R, hR⟩ : ∃ R, P8 k nm num (.mk tk tks) (.mk fk fks) lb ks.length = R := ⟨_, rfl⟩
 rw [hR] at hno
 refine B3 Tryz.func43 rfl Tryz.ntmps43 Tryz.results43 rfl ?_
 intro w0
 refine tS (tR ?_)
 refine sE (J6 rfl rfl) rfl (fun b3 => ?_)
 refine sQ (qA rfl) rfl (sD (nS (tS (tR (sQ (qM rfl) rfl ?_)))))
 refine sQ (A6 rfl) rfl ?_
 refine sL (C2 rfl rfl) rfl rfl ?_
 refine sP (K2 rfl rfl (by omega) (by omega)) rfl rfl ?_
 refine sQ (A6 rfl) rfl ?_
 refine O6 ?_
 refine sD (nS (tS (tS (tR (sQ (qM rfl) rfl ?_)))))
 refine sQ (A6 rfl) rfl ?_
 refine sL (C2 rfl rfl) rfl rfl (sQ (qM rfl) rfl ?_)
 refine sB (Z1 rfl rfl) rfl rfl (fun h24 => ?_) (fun h24 => ?_)
 refine A1G ?_
 refine C8 (outs := [.blk bc [.int .i64 _]]) (rT rfl) (H0.cons (by repeat (first | exact Pk.here | apply Pk.there)) H0.nil) ?_
 (rw [A2S (by rw [hR]; first | omega | exact Or.inr (Or.inr (Or.inr (by assumption)))) ]; exact ⟨rfl, rfl, rfl⟩)
 refine sQ (qM rfl) rfl (sQ (qM rfl) rfl (sQ (qM rfl) rfl ?_))
 refine sB (Z1 rfl rfl) rfl rfl (fun h56 => ?_) (fun h56 => ?_)
 refine A2i ?_
 refine C8 (outs := [.blk bc [.int .i64 _]]) (rT rfl) (H0.cons (by repeat (first | exact Pk.here | apply Pk.there)) H0.nil) ?_
 (rw [A2S (by rw [hR]; first | omega | exact Or.inr (Or.inr (Or.inr (by assumption)))) ]; exact ⟨rfl, rfl, rfl⟩)
 refine R6 ?_
 refine sB (qE rfl rfl) rfl rfl (fun h86 => ?_) (fun h86 => ?_)
 refine N4 ?_
 refine C8 (outs := [.blk bc [.int .i64 _]]) (rT rfl) (H0.cons (by repeat (first | exact Pk.here | apply Pk.there)) H0.nil) ?_
 (rw [A2S (by rw [hR]; first | omega | exact Or.inr (Or.inr (Or.inr (by assumption)))) ]; exact ⟨rfl, rfl, rfl⟩)
 refine F5 ?_
 refine H6 rfl (hno) rfl rfl (fun h108 => ?_) (fun h108 => ?_)
 refine N4 ?_
 refine D0 ?_
 (have hmk := A8X (M := M) (D := D) (N := N) (deep := deep) (c := c) (by omega) (hR.trans (by assumption)); refine O9 (fun (x : Nat × Int) => ⟨[(44, .int .i64 x.1), (43, .int .i64 ks.length), (42, .slice p ks.length cp), (5, .pointer (some ⟨bc, 0, none⟩)), (4, .int .i64 N), (3, .int .i64 D), (2, .int .i64 M), (1, .int .i64 deep)], [.blk bc [.int .i64 x.2]], G⟩) (fun x => x.1 ≤ ks.length ∧ 0 ≤ x.2 ∧ x.2 ≤ M ∧ P2 M D N ks (deep + 1) (c + 1) = P2 M D N (ks.drop x.1) (deep + 1) x.2) (fun x => ks.length - x.1) (0, c + 1) ?_ ?_ ?_)
 (simp only [T9]; exact I6)
 exact ⟨by simp, by simp; omega, by simp; omega, by simp⟩
 (rintro ⟨i, ci⟩ ⟨hi, hc0, hc1, hst⟩; simp only [] at hi hc0 hc1 hst ⊢)
 refine tS (tR ?_)
 refine sB (N2 rfl rfl) rfl rfl (fun h132 => ?_) (fun h132 => ?_)
 refine sD (nS (tS (qT rfl (tK (nS (tS ?_))))))
 refine D0 ?_
 refine tS (tR ?_)
 (obtain ⟨b, o, e, rfl, hl, hat, hre, hgb⟩ := hsl.kidTm hkl (i := i) (by omega) (by omega); have hone := hre.one; have hle := A5o M D N ks[i] (deep + 1) ci hc0 hc1; refine sP (H2 rfl rfl rfl (by omega)) rfl rfl ?_)
 refine sL (D5 rfl rfl (hat _) hl) rfl rfl ?_
 refine sE (D6 rfl) rfl (fun b145 => ?_)
 refine M7 rfl rfl rfl (by assumption) (by assumption) rfl (by repeat first | exact Sw.here | apply Sw.there) (by exact P0 (by symm; assumption)) ?_
 refine sD (nS (tS (tR ?_)))
 refine sL (D5 rfl rfl (K8 (by repeat first | exact mH | apply mT)) (by assumption)) rfl rfl ?_
 refine sQ (qM rfl) rfl ?_
 refine sP (K2 rfl rfl (by omega) (by omega)) rfl rfl ?_
 refine H9 ?_
 refine A8G rfl (ih ks[i] (List.getElem_mem _) (deep + 1) ci G e (by omega) (by omega) hre) (Pk.perm (by repeat (first | exact Pk.here | apply Pk.there))) rfl rfl (fun h158 => ?_) (fun h158 => ?_)
 refine C6 ?_
 refine sP (K2 rfl rfl (by omega) (by omega)) rfl rfl ?_
 refine sQ (qM rfl) rfl (sD ?_)
 refine P6 (i + 1, (O1 M D N ks[i] (deep + 1) ci).2) ?_ ?_ ?_
 (simp only [T9]; exact I6)
 exact ⟨by omega, by omega, hle.2.2 (by assumption), by rw [hst, A8Y (by omega) (by assumption)]⟩
 (show ks.length - (i + 1) < ks.length - i; omega)
 refine I7 ?_
 refine C8 (outs := [.blk bc [.int .i64 _]]) (rT rfl) (H0.cons (by repeat (first | exact Pk.here | apply Pk.there)) H0.nil) ?_
 (rw [hmk, hst, A8Z (by omega) (by assumption)]; exact ⟨rfl, rfl, rfl⟩)
 refine I7 ?_
 refine C8 (outs := [.blk bc [.int .i64 _]]) (rT rfl) (H0.cons (by repeat (first | exact Pk.here | apply Pk.there)) H0.nil) ?_
 (rw [hmk, hst, A80 (by omega)]; exact ⟨rfl, rfl, rfl⟩)
 refine O0 ?_
 refine C8 (outs := [.blk bc [.int .i64 _]]) (rT rfl) (H0.cons (by repeat (first | exact Pk.here | apply Pk.there)) H0.nil) ?_
 (rw [A2S (by rw [hR]; first | omega | exact Or.inr (Or.inr (Or.inr (by assumption)))) ]; exact ⟨rfl, rfl, rfl⟩)
theorem A9C (t : Tm) (G : IM) (cells : List Value) (hr : C7 G t cells) : Fn Tryz.prog 36 [.agg ⟨cells⟩] [] G (H4 (.bool (N7 t)) G) := by
 have hl := hr.len
 refine B3 Tryz.func36 rfl Tryz.ntmps36 Tryz.results36 rfl ?_
 intro w0
 refine tS (tR ?_)
 refine sE (J6 rfl rfl) rfl (fun b3 => ?_)
 refine sQ (qA rfl) rfl (sD (nS (tS (tR ?_))))
 refine sE (D6 rfl) rfl (fun b9 => ?_)
 refine O6 ?_
 refine sD (nS (tS (tR ?_)))
 refine sL (D5 rfl rfl (K8 (by repeat first | exact mH | apply mT)) (by assumption)) rfl rfl ?_
 refine A2N rfl (A5S 200 40 13 (by omega) (by omega) _ t 1 0 G cells (by omega) (by omega) hr) A0K rfl rfl ?_
 refine sQ (qA rfl) rfl (sD (nS (tT (F0 (rT rfl) ?_))))
 exact ⟨rfl, rfl, rfl⟩
theorem A9D (t : Tm) (G : IM) (cells : List Value) (hr : C7 G t cells) : Fn Tryz.prog 14 [.agg ⟨cells⟩] [] G (H4 (.bool (P9 t)) G) := by
 have hl := hr.len
 refine B3 Tryz.func14 rfl Tryz.ntmps14 Tryz.results14 rfl ?_
 intro w0
 refine tS (tR ?_)
 refine sE (J6 rfl rfl) rfl (fun b3 => ?_)
 refine sQ (qA rfl) rfl (sD (nS (tS (tR ?_))))
 refine sE (D6 rfl) rfl (fun b9 => ?_)
 refine O6 ?_
 refine sD (nS (tS (tR ?_)))
 refine sL (D5 rfl rfl (K8 (by repeat first | exact mH | apply mT)) (by assumption)) rfl rfl ?_
 refine A2N rfl (A5S 30 12 14 (by omega) (by omega) _ t 1 0 G cells (by omega) (by omega) hr) A0K rfl rfl ?_
 refine sQ (qA rfl) rfl (sD (nS (tT (F0 (rT rfl) ?_))))
 exact ⟨rfl, rfl, rfl⟩
end Gw
end Go.Proofs.YtgodjiieijekiaaGreatDoor
