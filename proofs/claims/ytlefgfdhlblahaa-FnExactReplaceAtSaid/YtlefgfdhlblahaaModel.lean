/-
  What the functions of the program compute, in plain words over trees.
-/
import Derived.Test.YtlefgfdhlblahaaRep
namespace Go.Proofs.Ytlefgfdhlblahaa
open Go Go.RowKit
namespace Gw

def withinB (n lo hi : Int) : Bool := decide (lo ≤ n ∧ n ≤ hi)
theorem withinB_t {n lo hi : Int} (h : withinB n lo hi = true) : lo ≤ n ∧ n ≤ hi := by simpa [withinB] using h
theorem withinB_f {n lo hi : Int} (h : withinB n lo hi = false) : ¬(lo ≤ n ∧ n ≤ hi) := by simpa [withinB] using h
/-- How many operands a kind of types has, -1 for no kind. -/
def tyOps (k : Int) : Int := if k = 1 ∨ k = 2 ∨ k = 3 then 0 else if k = 4 ∨ k = 5 then 2 else -1
theorem tyOps_spec (k : Int) : (k = 1 ∨ k = 2 ∨ k = 3 → tyOps k = 0) ∧ (k = 4 ∨ k = 5 → tyOps k = 2) ∧ (k ≠ 1 → k ≠ 2 → k ≠ 3 → k ≠ 4 → k ≠ 5 → tyOps k = -1) := by
  unfold tyOps; split <;> try split
  all_goals omega
/-- How many operands a kind of terms has, -1 for no kind. -/
def tmOps (k : Int) : Int := if k = 1 ∨ k = 2 ∨ k = 3 ∨ k = 4 then 0 else if k = 5 ∨ k = 11 ∨ k = 12 ∨ k = 13 ∨ k = 14 then 1 else if k = 6 ∨ k = 7 ∨ k = 8 ∨ k = 10 then 2 else if k = 9 then 3 else -1

mutual
def tScan : Ty → Int → Bool
  | .mk k ks, d => decide (d ≤ 4) && decide (tyOps k = ks.length) && tScanL ks (d + 1)
def tScanL : List Ty → Int → Bool
  | [], _ => true
  | t :: ts, d => tScan t d && tScanL ts d
end
theorem tScanL_iff : ∀ (ts : List Ty) (d : Int), tScanL ts d = true ↔ ∀ i, (h : i < ts.length) → tScan ts[i] d = true
  | [], d => by simp [tScanL]
  | t :: ts, d => by
    simp only [tScanL, Bool.and_eq_true, tScanL_iff ts d]
    constructor
    · rintro ⟨h1, h2⟩ i hi
      cases i with
      | zero => exact h1
      | succ i => exact h2 i (by simpa using hi)
    · intro h
      exact ⟨h 0 (by simp), fun i hi => h (i + 1) (by simpa using hi)⟩
def tValid (t : Ty) : Bool := tScan t 1
def tNone (t : Ty) : Bool := decide (t.k = 0 ∧ t.ks.length = 0)

mutual
def tCons : Ty → Ty → Bool
  | .mk k ks, t => decide (k = 1) || decide (t.k = 1) || (decide (k = t.k) && tConsL ks t.ks)
def tConsL : List Ty → List Ty → Bool
  | [], [] => true
  | a :: xs, b :: ys => tCons a b && tConsL xs ys
  | _, _ => false
end
theorem tCons_mk (k k' : Int) (ks ks' : List Ty) : tCons (.mk k ks) (.mk k' ks') = (decide (k = 1) || decide (k' = 1) || (decide (k = k') && tConsL ks ks')) := by rw [tCons]; rfl
theorem tConsL_iff : ∀ (xs ys : List Ty), tConsL xs ys = true ↔ xs.length = ys.length ∧ ∀ i, (h : i < xs.length) → (h' : i < ys.length) → tCons xs[i] ys[i] = true
  | [], [] => by simp [tConsL]
  | [], b :: ys => by simp [tConsL]
  | a :: xs, [] => by simp [tConsL]
  | a :: xs, b :: ys => by
    simp only [tConsL, Bool.and_eq_true, tConsL_iff xs ys, List.length_cons]
    constructor
    · rintro ⟨h1, h2, h3⟩
      refine ⟨by omega, fun i hi hi' => ?_⟩
      cases i with
      | zero => exact h1
      | succ i => exact h3 i (by simpa using hi) (by simpa using hi')
    · rintro ⟨h1, h2⟩
      exact ⟨h2 0 (by simp) (by simp), by omega, fun i hi hi' => h2 (i + 1) (by simpa using hi) (by simpa using hi')⟩
def tConsistent (a b : Ty) : Bool := tValid a && tValid b && tCons a b
def nameOk (s : ByteArray) : Bool := decide (s.size = 1 ∧ 97 ≤ (s.data.getD 0 0).toNat ∧ (s.data.getD 0 0).toNat ≤ 122)
def labelOk (n : Int) : Bool := withinB n 1 99 || withinB n (-99) (-1)

theorem ba_get {s : ByteArray} {j : Int} (h : j.toNat < s.size) : s[j.toNat]? = some (s.data.getD j.toNat 0) := by
  rw [getElem?_pos s j.toNat h]
  show some (s.data[j.toNat]'h) = _
  rw [Array.getD_eq_getD_getElem?, getElem?_pos s.data j.toNat h]
  rfl
theorem firstIx_neg {q : Nat → Bool} {n : Nat} : firstIx q n < 0 ↔ ∀ j, j < n → q j = false := by
  constructor
  · intro h j hj
    unfold firstIx at h
    split at h
    · omega
    · rename_i hf
      have := List.find?_eq_none.1 hf j (List.mem_range.2 hj)
      simpa using this
  · intro h; rw [firstIx_none h]; omega
theorem firstIx_ge {q : Nat → Bool} {n : Nat} : 0 ≤ firstIx q n ↔ ∃ j, j < n ∧ q j = true := by
  have h := @firstIx_neg q n
  constructor
  · intro h0
    apply Classical.byContradiction
    intro hn
    have : firstIx q n < 0 := h.2 fun j hj => by cases hq : q j with | false => rfl | true => exact absurd ⟨j, hj, hq⟩ hn
    omega
  · rintro ⟨j, hj, hq⟩
    apply Classical.byContradiction
    intro hn
    rw [h.1 (by omega) j hj] at hq
    exact absurd hq (by simp)
theorem contains_not {α : Type} (f : α → Bool) (ks : List α) (a : α) : decide (0 ≤ firstIx (fun i => !f (ks.getD i a)) ks.length) = !ks.all f := by
  cases h : ks.all f with
  | true =>
    rw [List.all_eq_true] at h
    apply decide_eq_false
    rw [firstIx_ge]
    rintro ⟨j, hj, hq⟩
    rw [List.getD_eq_getElem?_getD, List.getElem?_eq_getElem hj, Option.getD_some, h _ (List.getElem_mem hj)] at hq
    exact absurd hq (by simp)
  | false =>
    apply decide_eq_true
    rw [firstIx_ge]
    apply Classical.byContradiction
    intro hn
    have : ks.all f = true := by
      rw [List.all_eq_true]
      intro x hx
      obtain ⟨j, hj, rfl⟩ := List.getElem_of_mem hx
      cases hf : f ks[j] with
      | true => rfl
      | false => exact absurd ⟨j, hj, by rw [List.getD_eq_getElem?_getD, List.getElem?_eq_getElem hj, Option.getD_some, hf]; rfl⟩ hn
    rw [h] at this
    exact absurd this (by simp)
theorem tScanL_all : ∀ (ks : List Ty) (d : Int), tScanL ks d = ks.all (tScan · d)
  | [], d => rfl
  | t :: ts, d => by simp [tScanL, tScanL_all ts d]
theorem RTyL.inv {G : IM} : ∀ {ts : List Ty} {es : List (List Value)}, RTyL G ts es → ∀ {i : Nat} {e : List Value}, es[i]? = some e → ∀ a, ts.getD i a ∈ ts ∧ RTy G (ts.getD i a) e
  | [], es, h, i, e, he, a => by
    have := h.len
    simp only [List.length_nil, List.length_eq_zero_iff] at this
    subst this; simp at he
  | t :: ts, es, h, i, e, he, a => by
    have hi : i < es.length := by
      apply Classical.byContradiction; intro hn; rw [List.getElem?_eq_none (by omega)] at he; simp at he
    have hl := h.len
    obtain ⟨e', he', hr⟩ := h.get (i := i) (t := (t :: ts)[i]'(by omega)) (by rw [List.getElem?_eq_getElem])
    rw [he] at he'
    obtain rfl := Option.some.inj he'
    rw [List.getD_eq_getElem?_getD, List.getElem?_eq_getElem (by omega), Option.getD_some]
    exact ⟨List.getElem_mem _, hr⟩
theorem RTmL.inv {G : IM} : ∀ {ts : List Tm} {es : List (List Value)}, RTmL G ts es → ∀ {i : Nat} {e : List Value}, es[i]? = some e → ∀ a, ts.getD i a ∈ ts ∧ RTm G (ts.getD i a) e
  | [], es, h, i, e, he, a => by
    have := h.len
    simp only [List.length_nil, List.length_eq_zero_iff] at this
    subst this; simp at he
  | t :: ts, es, h, i, e, he, a => by
    have hi : i < es.length := by
      apply Classical.byContradiction; intro hn; rw [List.getElem?_eq_none (by omega)] at he; simp at he
    have hl := h.len
    obtain ⟨e', he', hr⟩ := h.get (i := i) (t := (t :: ts)[i]'(by omega)) (by rw [List.getElem?_eq_getElem])
    rw [he] at he'
    obtain rfl := Option.some.inj he'
    rw [List.getD_eq_getElem?_getD, List.getElem?_eq_getElem (by omega), Option.getD_some]
    exact ⟨List.getElem_mem _, hr⟩
def ty0 : Ty := .mk 0 []
theorem ite_iff {p : Prop} [Decidable p] {x y : Bool} : ((if p then x else y) = true) ↔ ((p → x = true) ∧ (¬p → y = true)) := by by_cases h : p <;> simp [h]
theorem tmOps_tab {k : Int} (h : 1 ≤ k ∧ k ≤ 14) : ([Value.int .i64 0, .int .i64 0, .int .i64 0, .int .i64 0, .int .i64 1, .int .i64 2, .int .i64 2, .int .i64 2, .int .i64 3, .int .i64 2, .int .i64 1, .int .i64 1, .int .i64 1, .int .i64 1])[(k - 1).toNat]? = some (.int .i64 (tmOps k)) := by
  have : k = 1 ∨ k = 2 ∨ k = 3 ∨ k = 4 ∨ k = 5 ∨ k = 6 ∨ k = 7 ∨ k = 8 ∨ k = 9 ∨ k = 10 ∨ k = 11 ∨ k = 12 ∨ k = 13 ∨ k = 14 := by omega
  rcases this with rfl | rfl | rfl | rfl | rfl | rfl | rfl | rfl | rfl | rfl | rfl | rfl | rfl | rfl <;> rfl
theorem tmOps_no {k : Int} (h : ¬(1 ≤ k ∧ k ≤ 14)) : tmOps k = -1 := by
  unfold tmOps; repeat (split; omega)
  rfl
theorem one_at {cs : List Value} {o : Nat} {v : Value} (h : cs[o]? = some v) : ∀ j u, [v][j]? = some u → cs[o + j]? = some u := by
  intro j u hj
  cases j with
  | zero => simpa using hj ▸ h
  | succ j => simp at hj
/-- A node is valid by itself. -/
def tmNode (k : Int) (nm : ByteArray) (num : Int) (ty fr : Ty) (lb : Int) (n : Nat) : Bool :=
  decide (tmOps k = n) && (if k = 1 ∨ k = 5 then nameOk nm else decide (nm = ⟨#[]⟩)) && (if k = 2 then withinB num 0 999 else withinB num 0 0) &&
  (if k = 5 ∨ k = 13 ∨ k = 14 then tValid ty else tNone ty) && (if k = 14 then tConsistent fr ty && labelOk lb else tNone fr && decide (lb = 0))
theorem tmNode_iff {k : Int} {nm : ByteArray} {num : Int} {ty fr : Ty} {lb : Int} {n : Nat} : tmNode k nm num ty fr lb n = true ↔
    tmOps k = n ∧ (k = 1 ∨ k = 5 → nameOk nm = true) ∧ (¬(k = 1 ∨ k = 5) → nm = ⟨#[]⟩) ∧ (k = 2 → withinB num 0 999 = true) ∧ (k ≠ 2 → withinB num 0 0 = true) ∧
    (k = 5 ∨ k = 13 ∨ k = 14 → tValid ty = true) ∧ (¬(k = 5 ∨ k = 13 ∨ k = 14) → tNone ty = true) ∧ (k = 14 → tConsistent fr ty = true ∧ labelOk lb = true) ∧ (k ≠ 14 → tNone fr = true ∧ lb = 0) := by
  simp only [tmNode, Bool.and_eq_true, ite_iff, decide_eq_true_eq, and_assoc, ne_eq]
mutual
/-- A node and what is below it is valid; how many nodes were met. -/
def mScan (M D N : Int) : Tm → Int → Int → Bool × Int
  | .mk k nm num ty fr lb ks, deep, c => if c + 1 > M ∨ deep > D ∨ k = N ∨ tmNode k nm num ty fr lb ks.length = false then (false, c + 1) else mScanL M D N ks (deep + 1) (c + 1)
def mScanL (M D N : Int) : List Tm → Int → Int → Bool × Int
  | [], _, c => (true, c)
  | t :: ts, deep, c => if (mScan M D N t deep c).1 = true then mScanL M D N ts deep (mScan M D N t deep c).2 else (false, (mScan M D N t deep c).2)
end
mutual
theorem mScan_le (M D N : Int) : ∀ (t : Tm) (deep c : Int), 0 ≤ c → c ≤ M → c < (mScan M D N t deep c).2 ∧ (mScan M D N t deep c).2 ≤ M + 1 ∧ ((mScan M D N t deep c).1 = true → (mScan M D N t deep c).2 ≤ M)
  | .mk k nm num ty fr lb ks, deep, c, h0, h1 => by
    rw [mScan]
    split
    · simp; omega
    · rename_i h
      have := mScanL_le M D N ks (deep + 1) (c + 1) (by omega) (by omega)
      exact ⟨by omega, this.2⟩
theorem mScanL_le (M D N : Int) : ∀ (ts : List Tm) (deep c : Int), 0 ≤ c → c ≤ M → c ≤ (mScanL M D N ts deep c).2 ∧ (mScanL M D N ts deep c).2 ≤ M + 1 ∧ ((mScanL M D N ts deep c).1 = true → (mScanL M D N ts deep c).2 ≤ M)
  | [], deep, c, h0, h1 => by rw [mScanL]; simp; omega
  | t :: ts, deep, c, h0, h1 => by
    have := mScan_le M D N t deep c h0 h1
    rw [mScanL]
    split
    · rename_i h
      have h2 := mScanL_le M D N ts deep (mScan M D N t deep c).2 (by omega) (this.2.2 h)
      exact ⟨by omega, h2.2⟩
    · simp; omega
end
def castValid (t : Tm) : Bool := (mScan 200 40 13 t 1 0).1
def termValid (t : Tm) : Bool := (mScan 30 12 14 t 1 0).1
theorem SlE.kidTm {G : IM} {p : Option Addr} {n c : Nat} {es : List (List Value)} {ks : List Tm} (h : SlE G p n c 9 es) (hk : RTmL G ks es) {i : Nat} (hi : i < n) (hn : i < ks.length) :
    ∃ b o e, p = some ⟨b, o, none⟩ ∧ e.length = 9 ∧ (∀ hp, At hp G b (o + i * 9) e) ∧ RTm G ks[i] e ∧ G b ≠ none := by
  obtain ⟨e, b, o, he, hp, hl, _, hat, hg⟩ := h.get hi
  have := (hk.inv he (ks[i])).2
  rw [List.getD_eq_getElem?_getD, List.getElem?_eq_getElem hn, Option.getD_some] at this
  exact ⟨b, o, e, hp, hl, hat, this, hg⟩
theorem mScan_no {M D N : Int} {k : Int} {nm : ByteArray} {num : Int} {ty fr : Ty} {lb : Int} {ks : List Tm} {deep c : Int} (h : c + 1 > M ∨ deep > D ∨ k = N ∨ tmNode k nm num ty fr lb ks.length = false) :
    mScan M D N (.mk k nm num ty fr lb ks) deep c = (false, c + 1) := by rw [mScan, if_pos h]
theorem mScan_go {M D N : Int} {k : Int} {nm : ByteArray} {num : Int} {ty fr : Ty} {lb : Int} {ks : List Tm} {deep c : Int} (h1 : ¬(c + 1 > M ∨ deep > D ∨ k = N)) (h2 : tmNode k nm num ty fr lb ks.length = true) :
    mScan M D N (.mk k nm num ty fr lb ks) deep c = mScanL M D N ks (deep + 1) (c + 1) := by
  rw [mScan, if_neg]
  rw [h2]
  intro h
  apply h1
  rcases h with h | h | h | h
  · exact .inl h
  · exact .inr (.inl h)
  · exact .inr (.inr h)
  · cases h
theorem mScanL_t {M D N : Int} {ks : List Tm} {i : Nat} {deep c : Int} (hi : i < ks.length) (h : (mScan M D N ks[i] deep c).1 = true) : mScanL M D N (ks.drop i) deep c = mScanL M D N (ks.drop (i + 1)) deep (mScan M D N ks[i] deep c).2 := by
  rw [List.drop_eq_getElem_cons hi, mScanL, if_pos h]
theorem mScanL_f {M D N : Int} {ks : List Tm} {i : Nat} {deep c : Int} (hi : i < ks.length) (h : (mScan M D N ks[i] deep c).1 = false) : mScanL M D N (ks.drop i) deep c = (false, (mScan M D N ks[i] deep c).2) := by
  rw [List.drop_eq_getElem_cons hi, mScanL, if_neg (by rw [h]; simp)]
theorem mScanL_end {M D N : Int} {ks : List Tm} {i : Nat} {deep c : Int} (hi : i = ks.length) : mScanL M D N (ks.drop i) deep c = (true, c) := by
  rw [hi, List.drop_length, mScanL]
end Gw
end Go.Proofs.Ytlefgfdhlblahaa
