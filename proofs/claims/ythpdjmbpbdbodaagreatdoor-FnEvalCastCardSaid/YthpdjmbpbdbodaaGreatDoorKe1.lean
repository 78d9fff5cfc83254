/-
  What the functions of the program compute, in plain words over trees. Terms in memory of their own; slices that were made, filled and given up. The laws' mark texts: the letter m and a number's digits. Lists of paths: what they are in plain words, and how fresh ones lie in memory. The laws' comparisons, at data that are the same. Data that the call owns, block by block: what the laws' marking writes. The laws' marking of types. The laws' marking of terms. The laws' marking of terms and paths, and the reading of the marks. The laws' measure of arguments. Arguments that can be read as data lie in memory as trees do; a law that answers true in memory that was there before meets its row. strconv.Itoa of a number from 0 to 999 is its decimal digits, where the library's table lies as it was laid. The library's tables as the rows list them. Slices of numbers read as arguments. The reference model's source of numbers: each draw stays in its bounds. Slices of bytes read as arguments. The functions on types and the small tests of terms: each computes what the plain words say. The scans of types: typeScan, TypeValid, consistent, Consistent. The tests of terms. The scan of a term, CastValid, TermValid. The reference model's tests of types and nodes: they compute the same plain functions. Fresh data taken back into the call's own hands, and given up again; sizes. How high and how wide types are. The reference model's scans of types. The reference model's consistency of types.
-/
import Derived.Test.YthpdjmbpbdbodaaGreatDoorKe0
import Derived.Laws.BytesArg
import Derived.WalkKit
import Derived.ProofKit
import Derived.OpenShut
import Derived.Carry
import Derived.Test.YthpdjmbpbdbodaaGreatDoorShelf
import Derived.Test.YthpdjmbpbdbodaaGreatDoorRows
import Derived.Deep.DeepHandedRow
import Derived.Lib.LaidTab
import Derived.Stop.LaidErr
set_option linter.unusedVariables false
set_option linter.unusedSimpArgs false
set_option maxHeartbeats 0
set_option maxRecDepth 100000
set_option synthInstance.maxSize 4000
set_option synthInstance.maxHeartbeats 0
namespace Go.Proofs.YthpdjmbpbdbodaaGreatDoor
open Go Go.RowKit
namespace Gw

def withinB (n lo hi : Int) : Bool := decide (lo ≤ n ∧ n ≤ hi)
theorem withinB_t {n lo hi : Int} (h : withinB n lo hi = true) : lo ≤ n ∧ n ≤ hi := by simpa [withinB] using h
theorem withinB_f {n lo hi : Int} (h : withinB n lo hi = false) : ¬(lo ≤ n ∧ n ≤ hi) := by simpa [withinB] using h
/-- How many operands a kind of types has, -1 for no kind. -/
def tyOps (k : Int) : Int := if k = 1 ∨ k = 2 ∨ k = 3 then 0 else if k = 4 ∨ k = 5 then 2 else -1
theorem tyOps_spec (k : Int) : (k = 1 ∨ k = 2 ∨ k = 3 → tyOps k = 0) ∧ (k = 4 ∨ k = 5 → tyOps k = 2) ∧ (k ≠ 1 → k ≠ 2 → k ≠ 3 → k ≠ 4 → k ≠ 5 → tyOps k = -1) := by
 unfold tyOps; split <;> try split
 all_goals omega
/-- How many operands a kind of terms has, -1 for no kind. -/
def tmOps (k : Int) : Int := if k = 1 ∨ k = 2 ∨ k = 3 ∨ k = 4 then 0 else if k = 5 ∨ k = 11 ∨ k = 12 ∨ k = 13 ∨ k = 14 then 1 else if k = 6 ∨ k = 7 ∨ k = 8 ∨ k = 10 then 2 else if k = 9 then 3 else -1

mutual
def tScan : Ty → Int → Bool
 | .mk k ks, d => decide (d ≤ 4) && decide (tyOps k = ks.length) && tScanL ks (d + 1)
def tScanL : List Ty → Int → Bool
 | [], _ => true
 | t :: ts, d => tScan t d && tScanL ts d
end
theorem tScanL_iff : ∀ (ts : List Ty) (d : Int), tScanL ts d = true ↔ ∀ i, (h : i < ts.length) → tScan ts[i] d = true
 | [], d => by simp [tScanL]
 | t :: ts, d => by
  simp only [tScanL, Bool.and_eq_true, tScanL_iff ts d]
  constructor
  ·rintro ⟨h1, h2⟩ i hi
   cases i with
   | zero => exact h1
   | succ i => exact h2 i (by simpa using hi)
  ·intro h
   exact ⟨h 0 (by simp), fun i hi => h (i + 1) (by simpa using hi)⟩
def tValid (t : Ty) : Bool := tScan t 1
def tNone (t : Ty) : Bool := decide (t.k = 0 ∧ t.ks.length = 0)

mutual
def tCons : Ty → Ty → Bool
 | .mk k ks, t => decide (k = 1) || decide (t.k = 1) || (decide (k = t.k) && tConsL ks t.ks)
def tConsL : List Ty → List Ty → Bool
 | [], [] => true
 | a :: xs, b :: ys => tCons a b && tConsL xs ys
 | _, _ => false
end
theorem tCons_mk (k k' : Int) (ks ks' : List Ty) : tCons (.mk k ks) (.mk k' ks') = (decide (k = 1) || decide (k' = 1) || (decide (k = k') && tConsL ks ks')) := by rw [tCons]; rfl
theorem tConsL_iff : ∀ (xs ys : List Ty), tConsL xs ys = true ↔ xs.length = ys.length ∧ ∀ i, (h : i < xs.length) → (h' : i < ys.length) → tCons xs[i] ys[i] = true
 | [], [] => by simp [tConsL]
 | [], b :: ys => by simp [tConsL]
 | a :: xs, [] => by simp [tConsL]
 | a :: xs, b :: ys => by
  simp only [tConsL, Bool.and_eq_true, tConsL_iff xs ys, List.length_cons]
  constructor
  ·rintro ⟨h1, h2, h3⟩
   refine ⟨by omega, fun i hi hi' => ?_⟩
   cases i with
   | zero => exact h1
   | succ i => exact h3 i (by simpa using hi) (by simpa using hi')
  ·rintro ⟨h1, h2⟩
   exact ⟨h2 0 (by simp) (by simp), by omega, fun i hi hi' => h2 (i + 1) (by simpa using hi) (by simpa using hi')⟩
def tConsistent (a b : Ty) : Bool := tValid a && tValid b && tCons a b
def nameOk (s : ByteArray) : Bool := decide (s.size = 1 ∧ 97 ≤ (s.data.getD 0 0).toNat ∧ (s.data.getD 0 0).toNat ≤ 122)
def labelOk (n : Int) : Bool := withinB n 1 99 || withinB n (-99) (-1)

theorem ba_get {s : ByteArray} {j : Int} (h : j.toNat < s.size) : s[j.toNat]? = some (s.data.getD j.toNat 0) := by
 rw [getElem?_pos s j.toNat h]
 show some (s.data[j.toNat]'h) = _
 rw [Array.getD_eq_getD_getElem?, getElem?_pos s.data j.toNat h]
 rfl
theorem firstIx_neg {q : Nat → Bool} {n : Nat} : firstIx q n < 0 ↔ ∀ j, j < n → q j = false := by
 constructor
 ·intro h j hj
  unfold firstIx at h
  split at h
  ·omega
  ·rename_i hf
   have := List.find?_eq_none.1 hf j (List.mem_range.2 hj)
   simpa using this
 ·intro h; rw [firstIx_none h]; omega
theorem firstIx_ge {q : Nat → Bool} {n : Nat} : 0 ≤ firstIx q n ↔ ∃ j, j < n ∧ q j = true := by
 have h := @firstIx_neg q n
 constructor
 ·intro h0
  apply Classical.byContradiction
  intro hn
  have : firstIx q n < 0 := h.2 fun j hj => by cases hq : q j with | false => rfl | true => exact absurd ⟨j, hj, hq⟩ hn
  omega
 ·rintro ⟨j, hj, hq⟩
  apply Classical.byContradiction
  intro hn
  rw [h.1 (by omega) j hj] at hq
  exact absurd hq (by simp)
theorem contains_not {α : Type} (f : α → Bool) (ks : List α) (a : α) : decide (0 ≤ firstIx (fun i => !f (ks.getD i a)) ks.length) = !ks.all f := by
 cases h : ks.all f with
 | true =>
  rw [List.all_eq_true] at h
  apply decide_eq_false
  rw [firstIx_ge]
  rintro ⟨j, hj, hq⟩
  rw [List.getD_eq_getElem?_getD, List.getElem?_eq_getElem hj, Option.getD_some, h _ (List.getElem_mem hj)] at hq
  exact absurd hq (by simp)
 | false =>
  apply decide_eq_true
  rw [firstIx_ge]
  apply Classical.byContradiction
  intro hn
  have : ks.all f = true := by
   rw [List.all_eq_true]
   intro x hx
   obtain ⟨j, hj, rfl⟩ := List.getElem_of_mem hx
   cases hf : f ks[j] with
   | true => rfl
   | false => exact absurd ⟨j, hj, by rw [List.getD_eq_getElem?_getD, List.getElem?_eq_getElem hj, Option.getD_some, hf]; rfl⟩ hn
  rw [h] at this
  exact absurd this (by simp)
theorem tScanL_all : ∀ (ks : List Ty) (d : Int), tScanL ks d = ks.all (tScan · d)
 | [], d => rfl
 | t :: ts, d => by simp [tScanL, tScanL_all ts d]
theorem RTyL.inv {G : IM} : ∀ {ts : List Ty} {es : List (List Value)}, RTyL G ts es → ∀ {i : Nat} {e : List Value}, es[i]? = some e → ∀ a, ts.getD i a ∈ ts ∧ RTy G (ts.getD i a) e
 | [], es, h, i, e, he, a => by
  have := h.len
  simp only [List.length_nil, List.length_eq_zero_iff] at this
  subst this; simp at he
 | t :: ts, es, h, i, e, he, a => by
  have hi : i < es.length := by
   apply Classical.byContradiction; intro hn; rw [List.getElem?_eq_none (by omega)] at he; simp at he
  have hl := h.len
  obtain ⟨e', he', hr⟩ := h.get (i := i) (t := (t :: ts)[i]'(by omega)) (by rw [List.getElem?_eq_getElem])
  rw [he] at he'
  obtain rfl := Option.some.inj he'
  rw [List.getD_eq_getElem?_getD, List.getElem?_eq_getElem (by omega), Option.getD_some]
  exact ⟨List.getElem_mem _, hr⟩
theorem RTmL.inv {G : IM} : ∀ {ts : List Tm} {es : List (List Value)}, RTmL G ts es → ∀ {i : Nat} {e : List Value}, es[i]? = some e → ∀ a, ts.getD i a ∈ ts ∧ RTm G (ts.getD i a) e
 | [], es, h, i, e, he, a => by
  have := h.len
  simp only [List.length_nil, List.length_eq_zero_iff] at this
  subst this; simp at he
 | t :: ts, es, h, i, e, he, a => by
  have hi : i < es.length := by
   apply Classical.byContradiction; intro hn; rw [List.getElem?_eq_none (by omega)] at he; simp at he
  have hl := h.len
  obtain ⟨e', he', hr⟩ := h.get (i := i) (t := (t :: ts)[i]'(by omega)) (by rw [List.getElem?_eq_getElem])
  rw [he] at he'
  obtain rfl := Option.some.inj he'
  rw [List.getD_eq_getElem?_getD, List.getElem?_eq_getElem (by omega), Option.getD_some]
  exact ⟨List.getElem_mem _, hr⟩
def ty0 : Ty := .mk 0 []
theorem ite_iff {p : Prop} [Decidable p] {x y : Bool} : ((if p then x else y) = true) ↔ ((p → x = true) ∧ (¬p → y = true)) := by by_cases h : p <;> simp [h]
theorem tmOps_tab {k : Int} (h : 1 ≤ k ∧ k ≤ 14) : ([Value.int .i64 0, .int .i64 0, .int .i64 0, .int .i64 0, .int .i64 1, .int .i64 2, .int .i64 2, .int .i64 2, .int .i64 3, .int .i64 2, .int .i64 1, .int .i64 1, .int .i64 1, .int .i64 1])[(k - 1).toNat]? = some (.int .i64 (tmOps k)) := by
 have : k = 1 ∨ k = 2 ∨ k = 3 ∨ k = 4 ∨ k = 5 ∨ k = 6 ∨ k = 7 ∨ k = 8 ∨ k = 9 ∨ k = 10 ∨ k = 11 ∨ k = 12 ∨ k = 13 ∨ k = 14 := by omega
 rcases this with rfl | rfl | rfl | rfl | rfl | rfl | rfl | rfl | rfl | rfl | rfl | rfl | rfl | rfl <;> rfl
theorem tmOps_no {k : Int} (h : ¬(1 ≤ k ∧ k ≤ 14)) : tmOps k = -1 := by
 unfold tmOps; repeat (split; omega)
 rfl
theorem one_at {cs : List Value} {o : Nat} {v : Value} (h : cs[o]? = some v) : ∀ j u, [v][j]? = some u → cs[o + j]? = some u := by
 intro j u hj
 cases j with
 | zero => simpa using hj ▸ h
 | succ j => simp at hj
/-- A node is valid by itself. -/
def tmNode (k : Int) (nm : ByteArray) (num : Int) (ty fr : Ty) (lb : Int) (n : Nat) : Bool :=
 decide (tmOps k = n) && (if k = 1 ∨ k = 5 then nameOk nm else decide (nm = ⟨#[]⟩)) && (if k = 2 then withinB num 0 999 else withinB num 0 0) &&
 (if k = 5 ∨ k = 13 ∨ k = 14 then tValid ty else tNone ty) && (if k = 14 then tConsistent fr ty && labelOk lb else tNone fr && decide (lb = 0))
theorem tmNode_iff {k : Int} {nm : ByteArray} {num : Int} {ty fr : Ty} {lb : Int} {n : Nat} : tmNode k nm num ty fr lb n = true ↔
  tmOps k = n ∧ (k = 1 ∨ k = 5 → nameOk nm = true) ∧ (¬(k = 1 ∨ k = 5) → nm = ⟨#[]⟩) ∧ (k = 2 → withinB num 0 999 = true) ∧ (k ≠ 2 → withinB num 0 0 = true) ∧
  (k = 5 ∨ k = 13 ∨ k = 14 → tValid ty = true) ∧ (¬(k = 5 ∨ k = 13 ∨ k = 14) → tNone ty = true) ∧ (k = 14 → tConsistent fr ty = true ∧ labelOk lb = true) ∧ (k ≠ 14 → tNone fr = true ∧ lb = 0) := by
 simp only [tmNode, Bool.and_eq_true, ite_iff, decide_eq_true_eq, and_assoc, ne_eq]
mutual
/-- A node and what is below it is valid; how many nodes were met. -/
def mScan (M D N : Int) : Tm → Int → Int → Bool × Int
 | .mk k nm num ty fr lb ks, deep, c => if c + 1 > M ∨ deep > D ∨ k = N ∨ tmNode k nm num ty fr lb ks.length = false then (false, c + 1) else mScanL M D N ks (deep + 1) (c + 1)
def mScanL (M D N : Int) : List Tm → Int → Int → Bool × Int
 | [], _, c => (true, c)
 | t :: ts, deep, c => if (mScan M D N t deep c).1 = true then mScanL M D N ts deep (mScan M D N t deep c).2 else (false, (mScan M D N t deep c).2)
end
mutual
theorem mScan_le (M D N : Int) : ∀ (t : Tm) (deep c : Int), 0 ≤ c → c ≤ M → c < (mScan M D N t deep c).2 ∧ (mScan M D N t deep c).2 ≤ M + 1 ∧ ((mScan M D N t deep c).1 = true → (mScan M D N t deep c).2 ≤ M)
 | .mk k nm num ty fr lb ks, deep, c, h0, h1 => by
  rw [mScan]
  split
  ·simp; omega
  ·rename_i h
   have := mScanL_le M D N ks (deep + 1) (c + 1) (by omega) (by omega)
   exact ⟨by omega, this.2⟩
theorem mScanL_le (M D N : Int) : ∀ (ts : List Tm) (deep c : Int), 0 ≤ c → c ≤ M → c ≤ (mScanL M D N ts deep c).2 ∧ (mScanL M D N ts deep c).2 ≤ M + 1 ∧ ((mScanL M D N ts deep c).1 = true → (mScanL M D N ts deep c).2 ≤ M)
 | [], deep, c, h0, h1 => by rw [mScanL]; simp; omega
 | t :: ts, deep, c, h0, h1 => by
  have := mScan_le M D N t deep c h0 h1
  rw [mScanL]
  split
  ·rename_i h
   have h2 := mScanL_le M D N ts deep (mScan M D N t deep c).2 (by omega) (this.2.2 h)
   exact ⟨by omega, h2.2⟩
  ·simp; omega
end
def castValid (t : Tm) : Bool := (mScan 200 40 13 t 1 0).1
def termValid (t : Tm) : Bool := (mScan 30 12 14 t 1 0).1
theorem SlE.kidTm {G : IM} {p : Option Addr} {n c : Nat} {es : List (List Value)} {ks : List Tm} (h : SlE G p n c 9 es) (hk : RTmL G ks es) {i : Nat} (hi : i < n) (hn : i < ks.length) :
  ∃ b o e, p = some ⟨b, o, none⟩ ∧ e.length = 9 ∧ (∀ hp, At hp G b (o + i * 9) e) ∧ RTm G ks[i] e ∧ G b ≠ none := by
 obtain ⟨e, b, o, he, hp, hl, _, hat, hg⟩ := h.get hi
 have := (hk.inv he (ks[i])).2
 rw [List.getD_eq_getElem?_getD, List.getElem?_eq_getElem hn, Option.getD_some] at this
 exact ⟨b, o, e, hp, hl, hat, this, hg⟩
theorem mScan_no {M D N : Int} {k : Int} {nm : ByteArray} {num : Int} {ty fr : Ty} {lb : Int} {ks : List Tm} {deep c : Int} (h : c + 1 > M ∨ deep > D ∨ k = N ∨ tmNode k nm num ty fr lb ks.length = false) :
  mScan M D N (.mk k nm num ty fr lb ks) deep c = (false, c + 1) := by rw [mScan, if_pos h]
theorem mScan_go {M D N : Int} {k : Int} {nm : ByteArray} {num : Int} {ty fr : Ty} {lb : Int} {ks : List Tm} {deep c : Int} (h1 : ¬(c + 1 > M ∨ deep > D ∨ k = N)) (h2 : tmNode k nm num ty fr lb ks.length = true) :
  mScan M D N (.mk k nm num ty fr lb ks) deep c = mScanL M D N ks (deep + 1) (c + 1) := by
 rw [mScan, if_neg]
 rw [h2]
 intro h
 apply h1
 rcases h with h | h | h | h
 ·exact .inl h
 ·exact .inr (.inl h)
 ·exact .inr (.inr h)
 ·cases h
theorem mScanL_t {M D N : Int} {ks : List Tm} {i : Nat} {deep c : Int} (hi : i < ks.length) (h : (mScan M D N ks[i] deep c).1 = true) : mScanL M D N (ks.drop i) deep c = mScanL M D N (ks.drop (i + 1)) deep (mScan M D N ks[i] deep c).2 := by
 rw [List.drop_eq_getElem_cons hi, mScanL, if_pos h]
theorem mScanL_f {M D N : Int} {ks : List Tm} {i : Nat} {deep c : Int} (hi : i < ks.length) (h : (mScan M D N ks[i] deep c).1 = false) : mScanL M D N (ks.drop i) deep c = (false, (mScan M D N ks[i] deep c).2) := by
 rw [List.drop_eq_getElem_cons hi, mScanL, if_neg (by rw [h]; simp)]
theorem mScanL_end {M D N : Int} {ks : List Tm} {i : Nat} {deep c : Int} (hi : i = ks.length) : mScanL M D N (ks.drop i) deep c = (true, c) := by
 rw [hi, List.drop_length, mScanL]
section blk
variable {P : Program} {Γ : Ctx} {env : Env} {hp : List Ent} {G : IM} {K : Po} {ops : Array Oper} {rest : List Oper}
end blk

theorem upd_at : ∀ {A B C V : List Value} {o : Nat}, A.length = o → B.length = V.length → upd (A ++ (B ++ C)) o V = some (A ++ (V ++ C))
 | [], B, C, V, o, h, hv => by
  simp at h; subst h
  simp only [List.nil_append]
  induction B generalizing V with
  | nil => cases V with
   | nil => cases C <;> rfl
   | cons v V => simp at hv
  | cons b B ih => cases V with
   | nil => simp at hv
   | cons v V =>
    simp only [List.cons_append, upd, ih (V := V) (by simpa using hv)]
 | a :: A, B, C, V, o, h, hv => by
  simp at h; subst h
  simp only [List.cons_append, upd, upd_at (A := A) (B := B) (C := C) rfl hv]
theorem flat_len {sz : Nat} : ∀ {es : List (List Value)}, (∀ e ∈ es, e.length = sz) → es.flatten.length = es.length * sz
 | [], _ => by simp
 | e :: es, h => by
  rw [List.flatten_cons, List.length_append, h e List.mem_cons_self, flat_len (es := es) fun x hx => h x (List.mem_cons_of_mem _ hx), List.length_cons, Nat.succ_mul]; omega
/-- A slice of types in memory of its own. -/
def STyS (G : IM) (ks : List Ty) (p : Option Addr) (c : Nat) (F : List Nat) : Prop := ∃ es Fs, SlE G p ks.length c 2 es ∧ STyL G ks es Fs ∧ F = vfp p ++ Fs ∧ (∀ b ∈ vfp p, G b ≠ none)
theorem STy.open {G : IM} {t : Ty} {cells : List Value} {F : List Nat} (h : STy G t cells F) : ∃ p c, cells = [.int .i64 t.k, .slice p t.ks.length c] ∧ I64 t.k ∧ STyS G t.ks p c F := by
 cases t
 simp only [STy] at h
 obtain ⟨p, c, es, Fs, h0, hk, h1, h2, h3, h4⟩ := h
 exact ⟨p, c, h0, hk, es, Fs, h1, h2, h3, h4⟩
mutual
def STm (G : IM) : Tm → List Value → List Nat → Prop
 | .mk k nm num ty fr lb ks, cells, F => ∃ tc fc p c es Ft Ff Fs, cells = [.int .i64 k, .string nm, .int .i64 num] ++ tc ++ fc ++ [.int .i64 lb, .slice p ks.length c] ∧ I64 k ∧ I64 num ∧ I64 lb ∧ STy G ty tc Ft ∧ STy G fr fc Ff ∧
   SlE G p ks.length c 9 es ∧ STmL G ks es Fs ∧ F = Ft ++ (Ff ++ (vfp p ++ Fs)) ∧ (∀ b ∈ vfp p, G b ≠ none)
def STmL (G : IM) : List Tm → List (List Value) → List Nat → Prop
 | [], es, F => es = [] ∧ F = []
 | t :: ts, es, F => ∃ a r Fa Fr, es = a :: r ∧ STm G t a Fa ∧ STmL G ts r Fr ∧ F = Fa ++ Fr
end
/-- A slice of terms in memory of its own. -/
def STmS (G : IM) (ks : List Tm) (p : Option Addr) (c : Nat) (F : List Nat) : Prop := ∃ es Fs, SlE G p ks.length c 9 es ∧ STmL G ks es Fs ∧ F = vfp p ++ Fs ∧ (∀ b ∈ vfp p, G b ≠ none)
mutual
theorem STm.R {G : IM} : ∀ {t : Tm} {cells : List Value} {F : List Nat}, STm G t cells F → RTm G t cells
 | .mk k nm num ty fr lb ks, cells, F, h => by
  simp only [STm] at h
  obtain ⟨tc, fc, p, c, es, Ft, Ff, Fs, h1, h2, h3, h4, h5, h6, h7, h8, _⟩ := h
  simp only [RTm]
  exact ⟨tc, fc, p, c, es, h1, h2, h3, h4, h5.R, h6.R, h7, STmL.R h8⟩
theorem STmL.R {G : IM} : ∀ {ts : List Tm} {es : List (List Value)} {F : List Nat}, STmL G ts es F → RTmL G ts es
 | [], es, F, h => by simp only [STmL] at h; simp only [RTmL]; exact h.1
 | t :: ts, es, F, h => by
  simp only [STmL] at h
  obtain ⟨a, r, Fa, Fr, h1, h2, h3, _⟩ := h
  simp only [RTmL]
  exact ⟨a, r, h1, STm.R h2, STmL.R h3⟩
end
theorem dmono {G G' : IM} (hg : IMle G G') {F : List Nat} (h : ∀ b ∈ F, G b ≠ none) : ∀ b ∈ F, G' b ≠ none := fun b hb => by
 cases hgb : G b with
 | none => exact absurd hgb (h b hb)
 | some l => rw [hg b l hgb]; simp
mutual
theorem STm.mono {G G' : IM} (hg : IMle G G') : ∀ {t : Tm} {cells : List Value} {F : List Nat}, STm G t cells F → STm G' t cells F
 | .mk k nm num ty fr lb ks, cells, F, h => by
  simp only [STm] at h ⊢
  obtain ⟨tc, fc, p, c, es, Ft, Ff, Fs, h1, h2, h3, h4, h5, h6, h7, h8, h9, h10⟩ := h
  exact ⟨tc, fc, p, c, es, Ft, Ff, Fs, h1, h2, h3, h4, h5.mono hg, h6.mono hg, h7.mono hg, STmL.mono hg h8, h9, dmono hg h10⟩
theorem STmL.mono {G G' : IM} (hg : IMle G G') : ∀ {ts : List Tm} {es : List (List Value)} {F : List Nat}, STmL G ts es F → STmL G' ts es F
 | [], es, F, h => by simpa only [STmL] using h
 | t :: ts, es, F, h => by
  simp only [STmL] at h ⊢
  obtain ⟨a, r, Fa, Fr, h1, h2, h3, h4⟩ := h
  exact ⟨a, r, Fa, Fr, h1, STm.mono hg h2, STmL.mono hg h3, h4⟩
end
mutual
theorem STm.inG {G : IM} : ∀ {t : Tm} {cells : List Value} {F : List Nat}, STm G t cells F → ∀ b ∈ F, G b ≠ none
 | .mk k nm num ty fr lb ks, cells, F, h => by
  simp only [STm] at h
  obtain ⟨tc, fc, p, c, es, Ft, Ff, Fs, h1, h2, h3, h4, h5, h6, h7, h8, rfl, h10⟩ := h
  intro b hb
  simp only [List.mem_append] at hb
  rcases hb with hb | hb | hb | hb
  ·exact h5.inG b hb
  ·exact h6.inG b hb
  ·exact h10 b hb
  ·exact STmL.inG h8 b hb
theorem STmL.inG {G : IM} : ∀ {ts : List Tm} {es : List (List Value)} {F : List Nat}, STmL G ts es F → ∀ b ∈ F, G b ≠ none
 | [], es, F, h => by simp only [STmL] at h; rw [h.2]; simp
 | t :: ts, es, F, h => by
  simp only [STmL] at h
  obtain ⟨a, r, Fa, Fr, h1, h2, h3, rfl⟩ := h
  intro b hb
  rcases List.mem_append.1 hb with hb | hb
  ·exact STm.inG h2 b hb
  ·exact STmL.inG h3 b hb
end
theorem STmL.snoc {G : IM} : ∀ {ts : List Tm} {es : List (List Value)} {F : List Nat} {t : Tm} {a : List Value} {Fa : List Nat}, STmL G ts es F → STm G t a Fa → STmL G (ts ++ [t]) (es ++ [a]) (F ++ Fa)
 | [], es, F, t, a, Fa, h, h2 => by
  simp only [STmL] at h
  obtain ⟨rfl, rfl⟩ := h
  simp only [List.nil_append, STmL]
  exact ⟨a, [], Fa, [], rfl, h2, ⟨rfl, rfl⟩, by simp⟩
 | t' :: ts, es, F, t, a, Fa, h, h2 => by
  simp only [STmL] at h
  obtain ⟨a', r, Fa', Fr, rfl, h3, h4, rfl⟩ := h
  simp only [List.cons_append, STmL]
  exact ⟨a', r ++ [a], Fa', Fr ++ Fa, rfl, h3, STmL.snoc h4 h2, by simp⟩
theorem dif_no {G Gi : IM} {F F' : List Nat} {G1 : IM} (h : ∀ b ∈ F, Dif Gi G b ≠ none) (h' : ∀ b ∈ F', Dif G1 Gi b ≠ none) : ∀ x ∈ F, ∀ y ∈ F', x ≠ y := by
 rintro x hx y hy rfl
 have h1 := h x hx
 have h2 := Dif.out (h' x hy)
 apply h1
 cases hd : Dif Gi G x with
 | none => rfl
 | some l => rw [Dif.le _ _ x l hd] at h2; cases h2
theorem STmL.step {G Gi G1 : IM} {ks : List Tm} {i : Nat} {es : List (List Value)} {F F' : List Nat} {a : List Value} (h : STmL (Dif Gi G) (ks.take i) es F) (hn : F.Nodup) (hle : IMle G Gi) (hle1 : IMle Gi G1) (hi : i < ks.length)
  (ha : STm (Dif G1 Gi) ks[i] a F') (hn' : F'.Nodup) : STmL (Dif G1 G) (ks.take (i + 1)) (es ++ [a]) (F ++ F') ∧ (F ++ F').Nodup := by
 constructor
 ·rw [List.take_succ_eq_append_getElem hi]
  exact STmL.snoc (h.mono (Dif.mono hle1)) (ha.mono (Dif.anti hle))
 ·rw [List.nodup_append]
  exact ⟨hn, hn', dif_no h.inG ha.inG⟩
theorem vfp_nodup (p : Option Addr) : (vfp p).Nodup := by cases p <;> simp [vfp]
theorem STmS.fin {G Gi G2 : IM} {ks : List Tm} {es : List (List Value)} {F : List Nat} {p : Option Addr} {c : Nat} (h : STmL (Dif Gi G) ks es F) (hn : F.Nodup) (hle : IMle G Gi) (hle2 : IMle Gi G2)
  (hsl : Sl G2 p ks.length c 9 es.flatten) (hnn : ∀ b ∈ vfp p, Gi b = none ∧ G2 b ≠ none) :
  ∃ F', STmS (Dif G2 G) ks p c F' ∧ F'.Nodup := by
 have hR := h.R
 have hin : ∀ b ∈ vfp p, Dif G2 G b ≠ none := by
  intro b hb
  have h0 := (hnn b hb).1
  cases hg : G b with
  | none => simpa [Dif, hg] using (hnn b hb).2
  | some l => rw [hle b l hg] at h0; cases h0
 refine ⟨vfp p ++ F, ⟨es, F, SlE.of (hsl.dif (fun b hb => (hnn b hb).1) hle) hR.len hR.all ?_, h.mono (Dif.mono hle2), rfl, hin⟩, ?_⟩
 ·intro e he
  obtain ⟨i, hi⟩ := List.getElem?_of_mem he
  have hlt : i < ks.length := by have := (List.getElem?_eq_some_iff.1 hi).1; rw [hR.len] at this; exact this
  obtain ⟨e', he', hr⟩ := hR.get (i := i) (t := ks[i]) (by simp [hlt])
  rw [hi] at he'; cases he'; exact hr.one
 ·rw [List.nodup_append]
  refine ⟨vfp_nodup p, hn, ?_⟩
  rintro x hx y hy rfl
  have h1 := h.inG x hy
  have h2 := (hnn x hx).1
  apply h1
  cases hd : Dif Gi G x with
  | none => rfl
  | some l => rw [Dif.le _ _ x l hd] at h2; cases h2
/-- A term put together out of parts that came one after the other. -/
theorem STm.mk3 {G G1 G2 G3 : IM} {k : Int} {nm : ByteArray} {num : Int} {ty fr : Ty} {lb : Int} {ks : List Tm} {tc fc : List Value} {p : Option Addr} {c : Nat} {F1 F2 F3 : List Nat} (hk : I64 k) (hnum : I64 num) (hlb : I64 lb)
  (hl1 : IMle G G1) (hl2 : IMle G1 G2) (hl3 : IMle G2 G3) (h1 : STy (Dif G1 G) ty tc F1) (n1 : F1.Nodup) (h2 : STy (Dif G2 G1) fr fc F2) (n2 : F2.Nodup) (h3 : STmS (Dif G3 G2) ks p c F3) (n3 : F3.Nodup) :
  ∃ F, STm (Dif G3 G) (.mk k nm num ty fr lb ks) ([.int .i64 k, .string nm, .int .i64 num] ++ tc ++ fc ++ [.int .i64 lb, .slice p ks.length c]) F ∧ F.Nodup := by
 obtain ⟨es, Fs, e1, e2, rfl, e4⟩ := h3
 have i3 : ∀ b ∈ vfp p ++ Fs, Dif G3 G2 b ≠ none := by
  intro b hb
  rcases List.mem_append.1 hb with hb | hb
  ·exact e4 b hb
  ·exact e2.inG b hb
 have a2 : IMle (Dif G2 G1) (Dif G3 G) := fun b l h => Dif.mono hl3 b l (Dif.anti hl1 b l h)
 have a3 : IMle (Dif G3 G2) (Dif G3 G) := Dif.anti (hl1.trans hl2)
 refine ⟨F1 ++ (F2 ++ (vfp p ++ Fs)), ?_, ?_⟩
 ·simp only [STm]
  exact ⟨tc, fc, p, c, es, F1, F2, Fs, rfl, hk, hnum, hlb, h1.mono (Dif.mono (hl2.trans hl3)), h2.mono a2, e1.mono a3, e2.mono a3, rfl, dmono a3 e4⟩
 ·rw [List.nodup_append, List.nodup_append]
  refine ⟨n1, ⟨n2, n3, dif_no h2.inG i3⟩, ?_⟩
  rintro x hx y hy rfl
  rcases List.mem_append.1 hy with hy | hy
  ·exact dif_no h1.inG h2.inG x hx x hy rfl
  ·have h1' : ∀ b ∈ F1, Dif G2 G b ≠ none := dmono (Dif.mono hl2) h1.inG
   exact dif_no h1' i3 x hx x hy rfl
section clawss
variable {P : Program} {Γ : Ctx} {env : Env} {hp : List Ent} {G : IM} {ty : TypeId}
theorem pure_rem_nat {x y : Operand} {t t' : TypeId} {m n : Nat} (hx : evo env x = some (.int .i64 (m : Int))) (hy : evo env y = some (.int .i64 (n : Int))) (hn : 0 < n) :
  PureOp P Γ ⟨env, hp, G⟩ (.binOp .rem t x y t') ty (.int .i64 ((m % n : Nat) : Int)) := by
 have h := pure_rem (P := P) (Γ := Γ) (hp := hp) (G := G) (ty := ty) (t := t) (t' := t') hx hy (by omega)
 rwa [show ((m : Int).tmod n) = ((m % n : Nat) : Int) from rfl] at h
theorem pure_quo_nat {x y : Operand} {t t' : TypeId} {m n : Nat} (hx : evo env x = some (.int .i64 (m : Int))) (hy : evo env y = some (.int .i64 (n : Int))) (hn : 0 < n) (hm : m ≤ 9223372036854775807) :
  PureOp P Γ ⟨env, hp, G⟩ (.binOp .quo t x y t') ty (.int .i64 ((m / n : Nat) : Int)) := by
 have hd : m / n ≤ m := Nat.div_le_self _ _
 have e : ((m : Int).tdiv n) = ((m / n : Nat) : Int) := rfl
 have h := pure_quo (P := P) (Γ := Γ) (hp := hp) (G := G) (ty := ty) (t := t) (t' := t') hx hy (by omega) (by rw [e]; generalize m / n = q at *; omega) (by rw [e]; generalize m / n = q at *; omega)
 rwa [e] at h
end clawss
/-- The last digit's letter. -/
def dgi (k : Nat) : Int := 48 + ((k % 10 : Nat) : Int)
/-- The digits of a number ahead of a text. -/
def mDigs : Nat → Nat → ByteArray → ByteArray
 | 0, _, out => out
 | f + 1, k, out => if 0 < k then mDigs f (k / 10) (strOfNums [dgi k] ++ out) else out
def mText (k : Nat) : ByteArray := ⟨#[109]⟩ ++ mDigs 20 k ⟨⟨[]⟩⟩
def ints (l : List Int) : List Value := l.map (Value.int .i64 ·)
mutual
def tmCount : Tm → Nat
 | .mk _ _ _ _ _ _ ks => tmCountL ks + 1
def tmCountL : List Tm → Nat
 | [] => 0
 | t :: ts => tmCount t + tmCountL ts
end
mutual
/-- The paths of all nodes, from a node's own path on. -/
def mPaths : Tm → List Int → List (List Int)
 | .mk _ _ _ _ _ _ ks, path => path :: mPathsL ks 0 path
def mPathsL : List Tm → Nat → List Int → List (List Int)
 | [], _, _ => []
 | t :: ts, i, path => mPaths t (path ++ [(i : Int)]) ++ mPathsL ts (i + 1) path
end
theorem tmCount_mem : ∀ {ks : List Tm} {t : Tm}, t ∈ ks → tmCount t ≤ tmCountL ks
 | [], t, h => by simp at h
 | t' :: ts, t, h => by
  rw [tmCountL]
  rcases List.mem_cons.1 h with rfl | h
  ·omega
  ·have := tmCount_mem h; omega
theorem tmCountL_append : ∀ (a b : List Tm), tmCountL (a ++ b) = tmCountL a + tmCountL b
 | [], b => by simp [tmCountL]
 | t :: a, b => by rw [List.cons_append, tmCountL, tmCountL, tmCountL_append a b]; omega
theorem tmCountL_take {ks : List Tm} {i : Nat} (hi : i < ks.length) : tmCountL (ks.take i) + tmCount ks[i] ≤ tmCountL ks := by
 have h := tmCountL_append (ks.take (i + 1)) (ks.drop (i + 1))
 rw [List.take_append_drop, List.take_succ_eq_append_getElem hi, tmCountL_append] at h
 simp only [tmCountL] at h
 omega
theorem tmCountL_succ {ks : List Tm} {i : Nat} (hi : i < ks.length) : tmCountL (ks.take (i + 1)) = tmCountL (ks.take i) + tmCount ks[i] := by
 rw [List.take_succ_eq_append_getElem hi, tmCountL_append]
 simp only [tmCountL]; omega
theorem Sl.nn {G : IM} {p : Option Addr} {n c sz : Nat} {cs : List Value} (h : Sl G p n c sz cs) : p = none → n = 0 := by
 rintro rfl
 rcases h.2.2.2 with h | ⟨b, o, full, h, _⟩
 ·exact h
 ·cases h
/-- Fresh paths: each in memory of its own. -/
def SPs (G : IM) : List (List Int) → List Value → List Nat → Prop
 | [], es, F => es = [] ∧ F = []
 | l :: ls, es, F => ∃ p c r Fr, es = .slice p l.length c :: r ∧ F = vfp p ++ Fr ∧ Sl G p l.length c 1 (ints l) ∧ (∀ b ∈ vfp p, G b ≠ none) ∧ (p = none → l.length = 0) ∧ SPs G ls r Fr
/-- What AllPaths hands back: the outer list and each path in memory of its own. -/
def RPs (G : IM) (ls : List (List Int)) (p : Option Addr) (c : Nat) : Prop := ∃ es F, Sl G p ls.length c 1 es ∧ (∀ b ∈ vfp p, G b ≠ none) ∧ SPs G ls es F ∧ (vfp p ++ F).Nodup
mutual
theorem mScan_count (M D N : Int) : ∀ (t : Tm) (deep c : Int), (mScan M D N t deep c).1 = true → (mScan M D N t deep c).2 = c + tmCount t
 | .mk k nm num ty fr lb ks, deep, c, h => by
  rw [mScan] at h ⊢
  split at h
  ·cases h
  ·rename_i hc
   rw [if_neg hc, mScanL_count M D N ks (deep + 1) (c + 1) h, tmCount]
   omega
theorem mScanL_count (M D N : Int) : ∀ (ts : List Tm) (deep c : Int), (mScanL M D N ts deep c).1 = true → (mScanL M D N ts deep c).2 = c + tmCountL ts
 | [], deep, c, h => by rw [mScanL, tmCountL]; simp
 | t :: ts, deep, c, h => by
  rw [mScanL] at h ⊢
  split at h
  ·rename_i h1
   rw [if_pos h1, mScanL_count M D N ts deep _ h, mScan_count M D N t deep c h1, tmCountL]
   omega
  ·cases h
end
theorem castValid_count {t : Tm} (h : castValid t = true) : tmCount t ≤ 200 := by
 have h1 := mScan_count 200 40 13 t 1 0 h
 have h2 := (mScan_le 200 40 13 t 1 0 (by omega) (by omega)).2.2 h
 omega
/-- AllPaths in plain words. -/
def mAll (t : Tm) : List (List Int) := if castValid t = true then mPaths t [] else []
section slaws
variable {P : Program} {Γ : Ctx} {env : Env} {hp : List Ent} {G : IM} {ty : TypeId}
end slaws
/-- One cell of a slice of cells. -/
theorem Sl.kid {G : IM} {p : Option Addr} {n c : Nat} {cs : List Value} (h : Sl G p n c 1 cs) {i : Nat} (hi : i < n) :
  ∃ b o v, p = some ⟨b, o, none⟩ ∧ cs[i]? = some v ∧ (∀ hp, At hp G b (o + i * 1) [v]) ∧ G b ≠ none := by
 obtain ⟨h1, h2, h3, h4⟩ := h
 obtain ⟨b, o, full, rfl, hg, hv⟩ := h4.resolve_left (by omega)
 have hlt : i < cs.length := by omega
 refine ⟨b, o, cs[i], rfl, List.getElem?_eq_getElem hlt, fun hp => at_im hg ?_, by rw [hg]; simp⟩
 intro j v hj
 cases j with
 | zero => simp at hj; subst hj; simpa using hv i _ (List.getElem?_eq_getElem hlt)
 | succ j => simp at hj
theorem Sl.le {G : IM} {p : Option Addr} {n c sz : Nat} {cs : List Value} (h : Sl G p n c sz cs) : n ≤ 9223372036854775807 := by
 have h1 := h.2.1; have h2 := h.2.2.1; unfold maxLen at h2; omega


abbrev Blks := List (Nat × List Value)

/- Types: each slice in a block of the call's own. -/
mutual
def OTy : Ty → List Value → Blks → Prop
 | .mk k ks, cells, bs => ∃ p c, cells = [.int .i64 k, .slice p ks.length c] ∧ I64 k ∧ ks.length ≤ c ∧ c ≤ maxLen ∧ ((ks = [] ∧ bs = []) ∨ ∃ b A C es r, p = some ⟨b, A.length, none⟩ ∧ bs = (b, A ++ (es.flatten ++ C)) :: r ∧ OTyL ks es r)
def OTyL : List Ty → List (List Value) → Blks → Prop
 | [], es, bs => es = [] ∧ bs = []
 | t :: ts, es, bs => ∃ e e' r1 r2, es = e :: e' ∧ bs = r1 ++ r2 ∧ OTy t e r1 ∧ OTyL ts e' r2
end
def OTyS (ks : List Ty) (p : Option Addr) (c : Nat) (bs : Blks) : Prop :=
 ks.length ≤ c ∧ c ≤ maxLen ∧ ((ks = [] ∧ bs = []) ∨ ∃ b A C es r, p = some ⟨b, A.length, none⟩ ∧ bs = (b, A ++ (es.flatten ++ C)) :: r ∧ OTyL ks es r)
/- Terms. -/
mutual
def OTm : Tm → List Value → Blks → Prop
 | .mk k nm num ty fr lb ks, cells, bs => ∃ tc fc p c bt bf bk, cells = [.int .i64 k, .string nm, .int .i64 num] ++ tc ++ fc ++ [.int .i64 lb, .slice p ks.length c] ∧ I64 k ∧ I64 num ∧ I64 lb ∧ OTy ty tc bt ∧ OTy fr fc bf ∧
   ks.length ≤ c ∧ c ≤ maxLen ∧ ((ks = [] ∧ bk = []) ∨ ∃ b A C es r, p = some ⟨b, A.length, none⟩ ∧ bk = (b, A ++ (es.flatten ++ C)) :: r ∧ OTmL ks es r) ∧ bs = bt ++ (bf ++ bk)
def OTmL : List Tm → List (List Value) → Blks → Prop
 | [], es, bs => es = [] ∧ bs = []
 | t :: ts, es, bs => ∃ e e' r1 r2, es = e :: e' ∧ bs = r1 ++ r2 ∧ OTm t e r1 ∧ OTmL ts e' r2
end
def OTmS (ks : List Tm) (p : Option Addr) (c : Nat) (bs : Blks) : Prop :=
 ks.length ≤ c ∧ c ≤ maxLen ∧ ((ks = [] ∧ bs = []) ∨ ∃ b A C es r, p = some ⟨b, A.length, none⟩ ∧ bs = (b, A ++ (es.flatten ++ C)) :: r ∧ OTmL ks es r)
/- How many marks are written, and what the data are then. -/
mutual
def cntTy : Ty → Int
 | .mk _ ks => 1 + cntTyL ks
def cntTyL : List Ty → Int
 | [] => 0
 | t :: ts => cntTy t + cntTyL ts
end
mutual
def mkTy : Ty → Int → Ty
 | .mk _ ks, k => .mk k (mkTyL ks (k + 1))
def mkTyL : List Ty → Int → List Ty
 | [], _ => []
 | t :: ts, k => mkTy t k :: mkTyL ts (k + cntTy t)
end
mutual
def cntTm : Tm → Int
 | .mk _ _ _ ty fr _ ks => 6 + cntTyL ty.ks + cntTyL fr.ks + cntTmL ks
def cntTmL : List Tm → Int
 | [] => 0
 | t :: ts => cntTm t + cntTmL ts
end
mutual
def mkTm : Tm → Int → Tm
 | .mk _ _ _ ty fr _ ks, k => .mk k (mText (k + 1).toNat) (k + 1 + 1) (.mk (k + 1 + 1 + 1) (mkTyL ty.ks (k + 1 + 1 + 1 + 1))) (.mk (k + 1 + 1 + 1 + 1 + cntTyL ty.ks) (mkTyL fr.ks (k + 1 + 1 + 1 + 1 + cntTyL ty.ks + 1))) (k + 1 + 1 + 1 + 1 + cntTyL ty.ks + 1 + cntTyL fr.ks) (mkTmL ks (k + 1 + 1 + 1 + 1 + cntTyL ty.ks + 1 + cntTyL fr.ks + 1))
def mkTmL : List Tm → Int → List Tm
 | [], _ => []
 | t :: ts, k => mkTm t k :: mkTmL ts (k + cntTm t)
end
/- One element of a block. -/
section lend
variable {P : Program} {Γ : Ctx} {env : Env} {hp : List Ent} {G : IM} {K : Po} {ops : Array Oper} {rest : List Oper} {ty : TypeId} {pos : String} {af : Array Edge} {gd : Option (Nat × Bool)}
/-- A call that is lent blocks, gives a value and hands blocks back. -/
def Lent (v0 : Value) (G : IM) (Φ : Blks → Prop) : IM → Value → List Ent → Prop := fun G' v outs => G' = G ∧ v = v0 ∧ ∃ bs', outs = blks bs' ∧ Φ bs'
end lend
/-- What a marked term's memory is. -/
def MTm (t : Tm) (k : Int) (cells : List Value) (bs : Blks) : Prop := ∃ pt ct pf cf p c bt bf bk,
 cells = [.int .i64 t.k, .string t.nm, .int .i64 t.num, .int .i64 t.ty.k, .slice pt t.ty.ks.length ct, .int .i64 t.fr.k, .slice pf t.fr.ks.length cf, .int .i64 t.lb, .slice p t.ks.length c] ∧
 OTyS (mkTyL t.ty.ks k) pt ct bt ∧ OTyS (mkTyL t.fr.ks (k + cntTyL t.ty.ks)) pf cf bf ∧ OTmS (mkTmL t.ks (k + cntTyL t.ty.ks + cntTyL t.fr.ks)) p c bk ∧ bs = bt ++ (bf ++ bk)
/- Paths. -/
def mkInts : Nat → Int → List Int
 | 0, _ => []
 | n + 1, k => k :: mkInts n (k + 1)
def OIs (l : List Int) (p : Option Addr) (c : Nat) (bs : Blks) : Prop :=
 l.length ≤ c ∧ c ≤ maxLen ∧ ((l = [] ∧ bs = []) ∨ ∃ b A C, p = some ⟨b, A.length, none⟩ ∧ bs = [(b, A ++ (ints l ++ C))])
/- Lists of paths. -/
def OPs : List (List Int) → List Value → Blks → Prop
 | [], es, bs => es = [] ∧ bs = []
 | l :: ls, es, bs => ∃ p c e' r1 r2, es = .slice p l.length c :: e' ∧ bs = r1 ++ r2 ∧ OIs l p c r1 ∧ OPs ls e' r2
def cntIs : List (List Int) → Int
 | [] => 0
 | l :: ls => l.length + cntIs ls
def mkIs : List (List Int) → Int → List (List Int)
 | [], _ => []
 | l :: ls, k => mkInts l.length k :: mkIs ls (k + l.length)
section lend0
variable {P : Program} {Γ : Ctx} {env : Env} {G : IM} {K : Po} {ops : Array Oper} {rest : List Oper} {ty : TypeId} {pos : String} {af : Array Edge} {gd : Option (Nat × Bool)}
end lend0
/-- Paths in memory that no longer changes. -/
def QPs (G : IM) : List (List Int) → List Value → Prop
 | [], es => es = []
 | l :: ls, es => ∃ p c r, es = .slice p l.length c :: r ∧ Sl G p l.length c 1 (ints l) ∧ QPs G ls r
mutual
def szTy : Ty → Int
 | .mk _ ks => ks.length + sumTy ks
def sumTy : List Ty → Int
 | [] => 0
 | t :: ts => szTy t + sumTy ts
end
mutual
def szTm : Tm → Int
 | .mk _ nm _ ty fr _ ks => nm.size + szTy ty + szTy fr + (ks.length + sumTm ks)
def sumTm : List Tm → Int
 | [] => 0
 | t :: ts => szTm t + sumTm ts
end
mutual
theorem szTy_nn : ∀ t : Ty, 0 ≤ szTy t
 | .mk _ ks => by have := sumTy_nn ks; rw [szTy]; omega
theorem sumTy_nn : ∀ ts : List Ty, 0 ≤ sumTy ts
 | [] => by rw [sumTy]; omega
 | t :: ts => by have := szTy_nn t; have := sumTy_nn ts; rw [sumTy]; omega
end
mutual
theorem szTm_nn : ∀ t : Tm, 0 ≤ szTm t
 | .mk _ _ _ ty fr _ ks => by have := sumTm_nn ks; have := szTy_nn ty; have := szTy_nn fr; rw [szTm]; omega
theorem sumTm_nn : ∀ ts : List Tm, 0 ≤ sumTm ts
 | [] => by rw [sumTm]; omega
 | t :: ts => by have := szTm_nn t; have := sumTm_nn ts; rw [sumTm]; omega
end
theorem sumTy_append : ∀ a b : List Ty, sumTy (a ++ b) = sumTy a + sumTy b
 | [], b => by simp [sumTy]
 | t :: a, b => by rw [List.cons_append, sumTy, sumTy, sumTy_append a b]; omega
theorem sumTy_succ {ks : List Ty} {i : Nat} (hi : i < ks.length) : sumTy (ks.take (i + 1)) = sumTy (ks.take i) + szTy ks[i] := by
 rw [List.take_succ_eq_append_getElem hi, sumTy_append, sumTy, sumTy]; omega
theorem sumTy_take (ks : List Ty) (i : Nat) : sumTy (ks.take i) ≤ sumTy ks := by
 have h := sumTy_append (ks.take i) (ks.drop i)
 rw [List.take_append_drop] at h
 have := sumTy_nn (ks.drop i); omega
/- No name is longer than Go's strings are. -/
mutual
def Tm.nok : Tm → Prop
 | .mk _ nm _ _ _ _ ks => nm.size ≤ 9223372036854775807 ∧ Tm.nokL ks
def Tm.nokL : List Tm → Prop
 | [] => True
 | t :: ts => t.nok ∧ Tm.nokL ts
end
/-- What is left behind a measure. -/
def resI (left s : Int) : Int := if s ≤ left then left - s else -1
end Gw
end Go.Proofs.YthpdjmbpbdbodaaGreatDoor
namespace Go.Proofs.YthpdjmbpbdbodaaGreatDoor
open Go Go.RowKit Go.ChangeShapes Go.WideShapes Go.ChangeAt
namespace Gw
/-- All that is there. -/
def GW (w : World) : IM := fun b => match w.heap[b]? with
 | some (.cells c _ _) => some c.toList
 | _ => none
theorem own_GW (w : World) : Own [] (GW w) w := by
 refine ⟨?_, by simp, by simp [Fp], by simp [Fp]⟩
 intro b l h
 unfold GW at h
 split at h
 ·rename_i c e f hb; cases h; exact ⟨e, f, by simpa using hb⟩
 ·cases h
theorem cell_GW {w : World} {b o : Nat} {v : Value} (h : w.cell? ⟨b, o, none⟩ = some v) : ∃ full, GW w b = some full ∧ full[o]? = some v := by
 unfold World.cell? at h
 simp only at h
 split at h
 ·rename_i c e f hb
  exact ⟨c.toList, by simp [GW, hb], by simpa using h⟩
 ·cases h
theorem flat_inv {sz : Nat} : ∀ {es : List (List Value)}, (∀ e ∈ es, e.length = sz) → ∀ {j : Nat} {v : Value}, es.flatten[j]? = some v → ∃ i e r, es[i]? = some e ∧ e[r]? = some v ∧ j = i * sz + r
 | [], _, j, v, h => by simp at h
 | a :: es, hall, j, v, h => by
  have ha := hall a List.mem_cons_self
  rw [List.flatten_cons, List.getElem?_append] at h
  split at h
  ·exact ⟨0, a, j, rfl, h, by simp⟩
  ·rename_i hj
   obtain ⟨i, e, r, h1, h2, h3⟩ := flat_inv (fun x hx => hall x (List.mem_cons_of_mem _ hx)) h
   exact ⟨i + 1, e, r, by simpa using h1, h2, by rw [Nat.succ_mul]; omega⟩
theorem sl_read {w : World} {a : Addr} {n c sz : Nat} {es : List (List Value)} (hl : es.length = n) (hsz : 0 < sz) (hc : n ≤ c) (hm : c ≤ maxLen) (h : ∀ i e, es[i]? = some e → w.cells? 0 (a.add (i * sz)) sz = some e) : Sl (GW w) (some a) n c sz es.flatten := by
 have hall : ∀ e ∈ es, e.length = sz := by
  intro e he
  obtain ⟨i, hi⟩ := List.getElem?_of_mem he
  exact (World.cells?_some (h i e hi)).2.1
 refine ⟨by rw [flat_len hall, hl], hc, hm, ?_⟩
 rcases Nat.eq_zero_or_pos n with h0 | h0
 ·exact .inl h0
 ·right
  obtain ⟨b, o, s⟩ := a
  have hs : s = none := by
   have h1 := (World.cells?_some (h 0 es[0] (List.getElem?_eq_getElem (by omega)))).2
   have h2 := h1.2 0 hsz
   rw [List.getElem?_eq_getElem (by omega)] at h2
   simp only [Nat.zero_mul, Addr.add, if_true] at h2
   unfold World.cell? at h2
   split at h2
   ·split at h2
    ·cases h2
    ·rename_i hn; cases s with
     | none => rfl
     | some x => simp at hn
   ·cases h2
  subst hs
  have key : ∀ j v, es.flatten[j]? = some v → w.cell? ⟨b, o + j, none⟩ = some v := by
   intro j v hj
   obtain ⟨i, e, r, h1, h2, rfl⟩ := flat_inv hall hj
   have h3 := (World.cells?_some (h i e h1)).2
   have hr : r < e.length := (List.getElem?_eq_some_iff.1 h2).1
   have h4 := h3.2 r (by omega)
   rw [h2, add_none, add_none] at h4
   rw [← Nat.add_assoc]; exact h4
  have hpos : 0 < es.flatten.length := by rw [flat_len hall, hl]; exact Nat.mul_pos h0 hsz
  obtain ⟨full, hg, _⟩ := cell_GW (key 0 es.flatten[0] (List.getElem?_eq_getElem hpos))
  refine ⟨b, o, full, rfl, hg, fun j v hj => ?_⟩
  obtain ⟨full', hg', hv⟩ := cell_GW (key j v hj)
  rw [hg] at hg'; cases hg'; exact hv
theorem RTyL.snoc {G : IM} : ∀ {ts : List Ty} {es : List (List Value)} {t : Ty} {e : List Value}, RTyL G ts es → RTy G t e → RTyL G (ts ++ [t]) (es ++ [e])
 | [], es, t, e, h, h2 => by
  simp only [RTyL] at h; subst h
  simp only [List.nil_append, RTyL]
  exact ⟨e, [], rfl, h2, rfl⟩
 | t' :: ts, es, t, e, h, h2 => by
  simp only [RTyL] at h
  obtain ⟨a, r, rfl, h3, h4⟩ := h
  simp only [List.cons_append, RTyL]
  exact ⟨a, r ++ [e], rfl, h3, RTyL.snoc h4 h2⟩
theorem RTmL.snoc {G : IM} : ∀ {ts : List Tm} {es : List (List Value)} {t : Tm} {e : List Value}, RTmL G ts es → RTm G t e → RTmL G (ts ++ [t]) (es ++ [e])
 | [], es, t, e, h, h2 => by
  simp only [RTmL] at h; subst h
  simp only [List.nil_append, RTmL]
  exact ⟨e, [], rfl, h2, rfl⟩
 | t' :: ts, es, t, e, h, h2 => by
  simp only [RTmL] at h
  obtain ⟨a, r, rfl, h3, h4⟩ := h
  simp only [List.cons_append, RTmL]
  exact ⟨a, r ++ [e], rfl, h3, RTmL.snoc h4 h2⟩
theorem RTyL.each {G : IM} {ts : List Ty} {es : List (List Value)} (h : RTyL G ts es) : ∀ e ∈ es, e.length = 2 ∧ e.all (·.oneCell') = true := by
 intro e he
 obtain ⟨i, hi⟩ := List.getElem?_of_mem he
 have := (h.inv hi ty0).2
 exact ⟨this.len, this.one⟩
theorem RTmL.each {G : IM} {ts : List Tm} {es : List (List Value)} (h : RTmL G ts es) : ∀ e ∈ es, e.length = 9 ∧ e.all (·.oneCell') = true := by
 intro e he
 obtain ⟨i, hi⟩ := List.getElem?_of_mem he
 have := (h.inv hi (.mk 0 ⟨#[]⟩ 0 ty0 ty0 0 [])).2
 exact ⟨this.len, this.one⟩
section read
variable {H : Type} {enc : TypeId × Value → H} {w : World} {sp : Nat → Bool} {held : Bool}
end read
theorem Ext.below {w w' : World} (h : Ext (Fp []) w w') : Below w.heap.size w w' := ⟨h.os, h.tape, h.output, h.size, fun k hk => h.block k hk (by simp [Fp])⟩
section post
variable {H : Type} {enc : TypeId × Value → H} {P : Program}
/-- Nothing that was there has turned: the arguments read as they did. -/
theorem post_below {f : Func} {s : ChangeSpec} {apart fresh handsOn again : Bool} {W W' : World} {args : Array Value} {v : Value} {ds gs : List (DataW H)} {before : List MemPlace}
  (hW : DataW.Whole enc P f.params.toList s.vars apart W args.toList ds gs before) (hb : Below W.heap.size W W') (hgs : s.vars = [])
  (hres : ∀ (b : Nat) (sp : Nat → Bool) (hd : Bool), DataW.TrodAll enc P W' b sp hd f.resultTypes.toList (v.resultList f.resultTypes.size) (s.fn H (ds ++ gs)).results [])
  (hargs : ∀ sp : Nat → Bool, (∀ p ∈ before, sp p.block = true) → DataW.TrodAll enc P W' 0 sp true f.params.toList args.toList (s.fn H (ds ++ gs)).args before)
  (hv : (s.fn H (ds ++ gs)).vars = [])
  (hok : ∀ (j : Nat) (t : TypeId) (r : Value), f.resultTypes[j]? = some t → (v.resultList f.resultTypes.size)[j]? = some r → Value.okWide P W' .any 0 t r) :
  s.post enc P f apart fresh handsOn again W args v W' := by
 have hold : ∀ p ∈ before, (fun b => decide (b < W.heap.size)) p.block = true := fun p hp => by simpa using hW.lt p hp
 have hvars : ∀ sp : Nat → Bool, DataW.TrodVars enc P W' sp s.vars (s.fn H (ds ++ gs)).vars [] := fun sp => by rw [hgs, hv]; rfl
 have hkept : W.keptBut W' (fun _ => False) := by
  refine ⟨hb.os, hb.output, fun i hi => ?_⟩
  rw [hb.block i hi]
  split
  ·rename_i h1 h2; cases h1.symm.trans h2; exact ⟨rfl, rfl, rfl, fun _ _ => rfl⟩
  ·rename_i h1 h2; cases h1.symm.trans h2; exact .inr ⟨rfl, rfl⟩
  ·rfl
 refine ⟨ds, gs, before, [], before, [], hW, hres _ _ _, hargs _ hold, hvars _, World.keptBut_mono (fun p hp => hp.elim) hkept, fun _ => ?_⟩
 obtain ⟨_, _, _, _, _, hz, hn⟩ := hW
 refine ⟨hok, _, _, ([] ++ before) ++ [], ⟨[] ++ before, [], trodAll_append (hargs _ (fun _ _ => rfl)) (hres _ _ _), hvars _, rfl, ?_, ?_⟩, ?_⟩
 ·intro b off hp
  have hp' : MemPlace.cell b off ∈ before := by simpa using hp
  have hlt : b < W.heap.size := of_decide_eq_true (hold _ hp')
  have := hz b off hp'
  unfold World.frozen? at this ⊢
  simp only [hb.block b hlt]
  exact this
 ·intro ha; simpa using hn ha
 ·intro p hp _; simpa using hp
end post
/-- The library's table of powers of ten lies in memory that no longer changes. -/
def TabG (G : IM) : Prop := ∃ g, Tryz.prog.globalNamed "internal/strconv.uint64pow10" = some g ∧ G g = some (Lib.pow10Tab.map fun z => Value.int .u64 z)
theorem TabG.mono {G G' : IM} (h : TabG G) (hg : IMle G G') : TabG G' := by
 obtain ⟨g, h1, h2⟩ := h
 exact ⟨g, h1, hg g _ h2⟩
theorem res_grow {G : IM} {w : World} (hw : Own [] G w) (k : Nat) (os : Array Obj) : Res [] G w [] G (Sort.grow (w.drewN k) os) := by
 have hb : ∀ b, b < w.heap.size → (Sort.grow (w.drewN k) os).heap[b]? = w.heap[b]? := by
  intro b h
  show (w.heap ++ os)[b]? = _
  rw [Array.getElem?_append_left h]
 refine ⟨⟨?_, by simp, by simp [Fp], by simp [Fp]⟩, ⟨rfl, rfl, rfl, ?_, fun b h _ => hb b h⟩, IMle.refl _, fun _ _ h => .inl h, by simp [Fp], fun b l h h0 => absurd h (by rw [h0]; simp)⟩
 ·intro b l h
  obtain ⟨e, f, hh⟩ := hw.inn b l h
  exact ⟨e, f, by rw [hb b (lt_of_some hh)]; exact hh⟩
 ·show w.heap.size ≤ (w.heap ++ os).size
  simp
theorem itoa_fn (n : Int) (G : IM) (h : TabG G) (h0 : 0 ≤ n) (h1 : n ≤ 999) : Fn Tryz.prog 114 [.int .i64 n] [] G (Val (.string ⟨(Lib.decDigits n.toNat).toArray⟩) G) := by
 refine ⟨fun w hw => ?_⟩
 have ht : Lib.TabIs Tryz.prog w "internal/strconv.uint64pow10" .u64 Lib.pow10Tab := by
  obtain ⟨g, hg, hG⟩ := h
  obtain ⟨e, f, hh⟩ := hw.inn g _ hG
  unfold Lib.TabIs World.var?
  rw [hg]
  simp only [Option.bind_some, hh]
 refine (Tryz.strconv_Itoa n (by omega) (by omega) w ht).mono ?_
 rintro e w' ⟨rfl, k, os, rfl⟩
 refine ⟨_, G, [], rfl, res_grow hw k os, rfl, ?_, rfl⟩
 unfold Lib.itoa
 rw [if_neg (by omega)]
end Gw
end Go.Proofs.YthpdjmbpbdbodaaGreatDoor
namespace Go.Proofs.YthpdjmbpbdbodaaGreatDoor
open Go Go.RowKit Go.ChangeShapes Go.WideShapes Go.ChangeAt
namespace Gw
theorem gPow : Tryz.prog.globalNamed "internal/strconv.uint64pow10" = some 0 := by kernel_rfl
theorem gPowT : (Tryz.prog.globals[0]?).map (·.type) = some 153 := by kernel_rfl
theorem cellsPow : Tryz.prog.cellsOf 153 = 20 := by kernel_rfl
theorem cellsU64 : Tryz.prog.cellsOf 147 = 1 := by kernel_rfl
/-- What the rows list. -/
def laidTabs : List (String × DataW Unit) := [("math/bits.deBruijn32tab", Rows.laid_math_bits_deBruijn32tab), ("math/bits.deBruijn64tab", Rows.laid_math_bits_deBruijn64tab), ("internal/strconv.uint64pow10", Rows.laid_internal_strconv_uint64pow10)]
theorem tabG_of_laid {W : World} (h : laidMetH Tryz.prog laidTabs W) : TabG (GW W) := by
 have h1 : laidMet Tryz.prog laidTabs W := h
 have h3 := h1.tail.tail
 have ht : Lib.TabIs Tryz.prog W "internal/strconv.uint64pow10" .u64 Lib.pow10Tab :=
  Lib.tabIs_of_head (rest := []) gPow gPowT Tryz.underlying153 Tryz.underlying147 cellsU64 cellsPow h3
 refine ⟨0, gPow, ?_⟩
 unfold Lib.TabIs World.var? at ht
 rw [gPow] at ht
 simp only [Option.bind_some] at ht
 unfold GW
 split at ht
 ·rename_i c e f hb
  rw [hb]
  have := Option.some.inj ht
  simp [this]
 ·cases ht
def tabVals : DataW Unit → Array Value
 | .agg xs => (xs.map fun | .lit (.int k n) => Value.int k n | _ => .int .i64 0).toArray
 | _ => #[]
def putTab (xs : Array Value) : Obj → Obj
 | .cells _ t f => .cells xs t f
 | o => o
/-- A world for the witness: the settled one, the tables holding what their initialisers lay. -/
noncomputable def laidWorld (os : Os) : World :=
 { World.holding Tryz.prog os ⟨#[], #[], []⟩ with heap := (((World.holding Tryz.prog os ⟨#[], #[], []⟩).heap.modify 0 (putTab (tabVals Rows.laid_internal_strconv_uint64pow10))).modify 1 (putTab (tabVals Rows.laid_math_bits_deBruijn32tab))).modify 2 (putTab (tabVals Rows.laid_math_bits_deBruijn64tab)) }
end Gw
end Go.Proofs.YthpdjmbpbdbodaaGreatDoor
namespace Go.Proofs.YthpdjmbpbdbodaaGreatDoor
open Go Go.RowKit Go.ChangeShapes Go.WideShapes Go.ChangeAt
namespace Gw
section read2
variable {H : Type} {enc : TypeId × Value → H} {w : World} {sp : Nat → Bool} {held : Bool}
end read2
section rlaws
variable {P : Program} {Γ : Ctx} {env : Env} {hp : List Ent} {G : IM} {ty : TypeId}
theorem xor_lt {m n : Nat} (hm : m < 4611686018427387904) (hn : n < 4611686018427387904) : m ^^^ n < 4611686018427387904 := by
 have := @Nat.xor_lt_two_pow m n 62 (by omega) (by omega)
 simpa using this
theorem pure_xor_nat {x y : Operand} {t t' : TypeId} {m n : Nat} (hx : evo env x = some (.int .i64 (m : Int))) (hy : evo env y = some (.int .i64 (n : Int))) (hm : m < 4611686018427387904) (hn : n < 4611686018427387904) :
  PureOp P Γ ⟨env, hp, G⟩ (.binOp .xor t x y t') ty (.int .i64 ((m ^^^ n : Nat) : Int)) := by
 refine ⟨fun a _ hs _ _ _ _ w => ?_⟩
 have hlt := xor_lt hm hn
 have e : (BitVec.ofInt 64 (m : Int) ^^^ BitVec.ofInt 64 (n : Int)).toNat = m ^^^ n := by
  rw [BitVec.toNat_xor, BitVec.toNat_ofInt, BitVec.toNat_ofInt]
  congr 1 <;> omega
 have hw : IntKind.i64.wrap (((BitVec.ofInt 64 (m : Int) ^^^ BitVec.ofInt 64 (n : Int)).toNat : Nat) : Int) = ((m ^^^ n : Nat) : Int) := by
  rw [e]; exact wrap_in _ rfl (by omega) (by omega)
 simp only [execOp, eqGuard, binOp, Op.intBits, (hs.evo hx : a.eval x = _), (hs.evo hy : a.eval y = _), ne_eq, not_true_eq_false, if_false, Sem.run_bind, Sem.run_pure, Result.andThen_ok]
 rw [show IntKind.bits .i64 = 64 from rfl] at *
 simp only [hw]
 simp
theorem pure_mul_nat {x y : Operand} {t t' : TypeId} {m n : Nat} (hx : evo env x = some (.int .i64 (m : Int))) (hy : evo env y = some (.int .i64 (n : Int))) (h : m * n ≤ 9223372036854775807) :
  PureOp P Γ ⟨env, hp, G⟩ (.binOp .mul t x y t') ty (.int .i64 ((m * n : Nat) : Int)) := by
 have e : ((m : Int) * (n : Int)) = ((m * n : Nat) : Int) := by simp
 have h2 := pure_mul (P := P) (Γ := Γ) (hp := hp) (G := G) (ty := ty) (t := t) (t' := t') hx hy (by rw [e]; omega) (by rw [e]; omega)
 rwa [e] at h2
theorem pure_add_nat {x y : Operand} {t t' : TypeId} {m n : Nat} (hx : evo env x = some (.int .i64 (m : Int))) (hy : evo env y = some (.int .i64 (n : Int))) (h : m + n ≤ 9223372036854775807) :
  PureOp P Γ ⟨env, hp, G⟩ (.binOp .add t x y t') ty (.int .i64 ((m + n : Nat) : Int)) := by
 have e : ((m : Int) + (n : Int)) = ((m + n : Nat) : Int) := by simp
 have h2 := pure_add (P := P) (Γ := Γ) (hp := hp) (G := G) (ty := ty) (t := t) (t' := t') hx hy (by rw [e]; omega) (by rw [e]; omega)
 rwa [e] at h2
theorem pure_dec {x y : Operand} {t t' : TypeId} {m : Nat} (hx : evo env x = some (.int .i64 ((m + 1 : Nat) : Int))) (hy : evo env y = some (.int .i64 1)) (h : m ≤ 9223372036854775807) :
  PureOp P Γ ⟨env, hp, G⟩ (.binOp .sub t x y t') ty (.int .i64 (m : Int)) := by
 have e : (((m + 1 : Nat) : Int) - 1) = (m : Int) := by omega
 have h2 := pure_sub (P := P) (Γ := Γ) (hp := hp) (G := G) (ty := ty) (t := t) (t' := t') hx hy (by rw [e]; omega) (by rw [e]; omega)
 rwa [e] at h2
theorem pure_conv_i64 {s d : TypeId} {is id : TyR} [hS : TyI P s is] [hD : TyI P d id] (hd : id.desc = .int .i64) {k : IntKind} (hs : is.desc = .int k) {x : Operand} {n : Int} (hx : evo env x = some (.int k n)) (h0 : -9223372036854775808 ≤ n) (h1 : n ≤ 9223372036854775807) :
  PureOp P Γ ⟨env, hp, G⟩ (.convert s d x) ty (.int .i64 n) := by
 refine ⟨fun a _ hst _ _ _ _ w => ?_⟩
 have hu := hD.und
 rw [hd] at hu
 have hus := hS.und
 rw [hs] at hus
 have hw : IntKind.i64.wrap n = n := wrap_in n rfl h0 h1
 simp [execOp, convert, run_underlying hus, run_underlying hu, (hst.evo hx : a.eval x = _), Conv.intToInt, hw]
theorem pure_slice_to {x y : Operand} {t el : TypeId} {i : TyR} {sz by' : Nat} {zs : List Value} [hI : TyI P t i] (hd' : i.desc = .slice el) [hE : TySz P el sz by' zs] {p : Option Addr} {n c l : Nat}
  (hx : evo env x = some (.slice p n c)) (hy : evo env y = some (.int .i64 (l : Int))) (hl : l ≤ c) :
  PureOp P Γ ⟨env, hp, G⟩ (.slice t x none (some y) none) ty (.slice p l c) := by
 refine ⟨fun a _ hs _ _ _ _ w => ?_⟩
 have hu := hI.und
 rw [hd'] at hu
 obtain ⟨d, hE⟩ := hE.ok
 obtain ⟨inf, z, t1, t2, t3, _⟩ := run_tyI (P := P) (t := el)
 have e1 : a.eval x = _ := hs.evo hx
 have e2 : a.eval y = _ := hs.evo hy
 have hb : ∀ code, (Instr.sliceBound (.int .i64 (l : Int)) c code).run P w = .ok l w := fun code => by
  unfold Instr.sliceBound
  simp only [asIntOf, Sem.run_bind, Sem.run_pure, Result.andThen_ok]
  rw [if_pos ⟨by omega, by omega⟩]
  simp
 simp only [execOp, Option.map, e1, e2, Instr.sliceAt, Sem.run_bind, run_underlying hu, Result.andThen_ok, Instr.slice, Instr.sliceBounds, Sem.run_pure, hb, t3]
 by_cases h : c = 0
 ·subst h; simp
 ·rw [if_neg h]; simp; cases p <;> simp [Addr.add]
end rlaws
def byts (bs : List UInt8) : List Value := bs.map fun b => .int .u8 (b.toNat : Int)
theorem byts_len (bs : List UInt8) : (byts bs).length = bs.length := by simp [byts]
theorem byts_get {bs : List UInt8} {i : Nat} {v : Value} (h : (byts bs)[i]? = some v) : ∃ b : Nat, b < 256 ∧ v = .int .u8 (b : Int) := by
 unfold byts at h
 rw [List.getElem?_map] at h
 cases hb : bs[i]? with
 | none => rw [hb] at h; simp at h
 | some b => rw [hb] at h; simp at h; exact ⟨b.toNat, b.toNat_lt, h.symm⟩
/-- The source: where it lies, and how many numbers were drawn. -/
def rd (br : Nat) (pb : Option Addr) (nb cb p : Nat) : Ent := .blk br [.slice pb nb cb, .int .i64 (p : Int)]
/-- What a draw of numbers leaves behind. -/
def Drew (br : Nat) (pb : Option Addr) (nb cb p B : Nat) (Φ : IM → Value → Prop) : IM → Value → List Ent → Prop := fun G' v outs => ∃ p', p ≤ p' ∧ p' ≤ p + B ∧ outs = [rd br pb nb cb p'] ∧ Φ G' v
theorem pick_fn (G : IM) (br : Nat) (pb : Option Addr) (nb cb p : Nat) (bs : List UInt8) (n : Int) (hb : Sl G pb nb cb 1 (byts bs)) (hnb : nb ≤ 2000) (hp : p < 1099511627776) :
  Fn Tryz.prog 41 [.pointer (some ⟨br, 0, none⟩), .int .i64 n] [rd br pb nb cb p] G (fun G' v outs => G' = G ∧ outs = [rd br pb nb cb (p + 1)] ∧ ∃ k, v = .int .i64 k ∧ 0 ≤ k ∧ (1 ≤ n → k < n)) := by
 unfold rd
 have hm1 : ∀ q, 0 < nb → q % nb < nb := fun q h => Nat.mod_lt _ h
 have hdv : p / nb ≤ p := Nat.div_le_self _ _
 refine fn_enter Tryz.func41 rfl Tryz.ntmps41 Tryz.results41 rfl ?_
 intro w0
 refine tS (tR (sQ (qA rfl) rfl (sD (nS (tS (tR ?_))))))
 refine sQ (qM rfl) rfl (sQ (qM rfl) rfl (sQ (pure_nilCheck rfl) rfl (sQ (qF0 rfl) rfl (sL (lBs rfl rfl) rfl rfl ?_))))
 refine sP (pure_add_nat (n := 1) rfl rfl (by omega)) rfl rfl ?_
 refine sQ (pure_nilCheck rfl) rfl (sQ (qF0 rfl) rfl (sS' ?_))
 refine sD (nS (tS (tS (tR (sQ (qM rfl) rfl (sB (pure_lss rfl rfl) rfl rfl (fun h23 => ?_) (fun h23 => ?_)))))))
 refine sQ (qM rfl) rfl (sK rfl rfl (sK rfl rfl (sK rfl rfl (sK rfl rfl (sK rfl rfl (sK rfl rfl ?_))))))
 refine sQ (pPt rfl rfl) rfl (sD (nS (qT rfl ?_)))
 refine tS (tR (sQ (qA rfl) rfl (sD (nS (tT (rS ?_))))))
 refine ret_own1 (rT rfl) SubH.refl ?_
 exact ⟨rfl, rfl, 0, rfl, Int.le_refl _, fun h => by omega⟩
 refine sQ (qM rfl) rfl (sQ (qM rfl) rfl (sQ (pure_nilCheck rfl) rfl (sQ (qF0 rfl) rfl (sL (lBs rfl rfl) rfl rfl ?_))))
 refine sQ (pLn rfl rfl) rfl (sB (qE rfl rfl) rfl rfl (fun h50 => ?_) (fun h50 => ?_))
 refine sQ (pPf rfl rfl) rfl (sD (nS (qT rfl ?_)))
 refine tS (tR (sQ (qA rfl) rfl (sD (nS (tT (rS ?_))))))
 refine ret_own1 (rT rfl) SubH.refl ?_
 exact ⟨rfl, rfl, 0, rfl, Int.le_refl _, fun h => by omega⟩
 refine sQ (pPf rfl rfl) rfl (sD (nS (cF rfl ?_)))
 refine tK (nS (tS (tR (sQ (qM rfl) rfl (sQ (pure_nilCheck rfl) rfl (sQ (qF0 rfl) rfl ?_))))))
 refine sL (lBs rfl rfl) rfl rfl ?_
 refine sP (pure_dec rfl rfl (by omega)) rfl rfl ?_
 refine sQ (qA rfl) rfl (sD (nS (tS (tS (tR (sQ (qM rfl) rfl ?_))))))
 refine sQ (qM rfl) rfl (sQ (pure_nilCheck rfl) rfl (sQ (qF0 rfl) rfl (sL (lBs rfl rfl) rfl rfl ?_)))
 refine sQ (pLn rfl rfl) rfl (sB (pure_lss rfl rfl) rfl rfl (fun h89 => ?_) (fun h89 => ?_))
 refine sD (nS (qT rfl ?_))
 refine tS (tR (sQ (qM rfl) rfl (sQ (pure_nilCheck rfl) rfl (sQ (qF0 rfl) rfl (sL (lBs rfl rfl) rfl rfl ?_)))))
 refine sQ (qM rfl) rfl ?_
 (obtain ⟨b, o, v, rfl, hv, hat, hgb⟩ := hb.kid (i := p) (by omega); obtain ⟨y, hy, rfl⟩ := byts_get hv; refine sP (pIN rfl rfl rfl (by omega)) rfl rfl ?_)
 refine sL (load_s rfl rfl (hat _)) rfl rfl ?_
 refine sP (pure_conv_i64 rfl rfl rfl (by omega) (by omega)) rfl rfl ?_
 refine sQ (qM rfl) rfl (sP (pure_rem rfl rfl (by omega)) rfl rfl ?_)
 refine sQ (qA rfl) rfl (sD (nS (tT (rS (ret_own1 (rT rfl) SubH.refl ?_)))))
 exact ⟨rfl, rfl, _, rfl, Int.tmod_nonneg _ (by omega), fun h => Int.tmod_lt_of_pos _ (by omega)⟩
 refine sD (nS (cF rfl ?_))
 refine tK (nS (tS ?_))
 (obtain ⟨b, o, v1, rfl, hv1, hat1, _⟩ := hb.kid (i := HMod.hMod p nb) (hm1 _ (by omega)); obtain ⟨y1, hy1, rfl⟩ := byts_get hv1; obtain ⟨b', o', v2, hbb, hv2, hat2, _⟩ := hb.kid (i := HMod.hMod (p * 7 + 3) nb) (hm1 _ (by omega)); obtain ⟨y2, hy2, rfl⟩ := byts_get hv2; cases hbb; have hl1 := hm1 p (by omega); have hl2 := hm1 (p * 7 + 3) (by omega); refine tri_draw mixed rfl ?_)
 refine any_pure (i := 0) (l' := [tt,ff,ff,ff,ff,ff,ff,ff,ff,ff,ff,ff,ff,ff,ff,ff,ff,ff,ff,ff,ff,ff,ff,ff,ff,ff,ff,ff,ff,ff,ff,ff,ff,ff,ff,ff,ff,ff,ff,ff,ff,ff,ff,ff,ff,ff]) rfl npI (qM rfl) rfl (by kernel_rfl) rfl rfl ?_
 refine aP 1 rfl (pure_nilCheck rfl) rfl ?_
 refine aP 2 rfl (qF0 rfl) rfl ?_
 refine aL 3 rfl (lBs rfl rfl) rfl ?_
 refine aP 4 rfl (qM rfl) rfl ?_
 refine aP 5 rfl (qM rfl) rfl ?_
 refine aP 6 rfl (pure_nilCheck rfl) rfl ?_
 refine aP 7 rfl (qF0 rfl) rfl ?_
 refine aL 8 rfl (lBs rfl rfl) rfl ?_
 refine aP 9 rfl (pLn rfl rfl) rfl ?_
 refine aP 10 rfl (pure_rem_nat rfl rfl (by omega)) rfl ?_
 refine aP 11 rfl (pIN rfl rfl rfl (by first | exact hl1 | exact hl2)) rfl ?_
 refine aL 12 rfl (load_s rfl rfl (hat1 _)) rfl ?_
 refine aP 13 rfl (pure_conv_i64 rfl rfl rfl (by omega) (by omega)) rfl ?_
 refine aP 14 rfl (pure_mul_nat (n := 131) rfl rfl (by omega)) rfl ?_
 refine aP 15 rfl (qM rfl) rfl ?_
 refine aP 16 rfl (pure_nilCheck rfl) rfl ?_
 refine aP 17 rfl (qF0 rfl) rfl ?_
 refine aL 18 rfl (lBs rfl rfl) rfl ?_
 refine aP 19 rfl (qM rfl) rfl ?_
 refine aP 20 rfl (pure_mul_nat (n := 7) rfl rfl (by omega)) rfl ?_
 refine aP 21 rfl (pure_add_nat (n := 3) rfl rfl (by omega)) rfl ?_
 refine aP 22 rfl (qM rfl) rfl ?_
 refine aP 23 rfl (pure_nilCheck rfl) rfl ?_
 refine aP 24 rfl (qF0 rfl) rfl ?_
 refine aL 25 rfl (lBs rfl rfl) rfl ?_
 refine aP 26 rfl (pLn rfl rfl) rfl ?_
 refine aP 27 rfl (pure_rem_nat rfl rfl (by omega)) rfl ?_
 refine aP 28 rfl (pIN rfl rfl rfl (by first | exact hl1 | exact hl2)) rfl ?_
 refine aL 29 rfl (load_s rfl rfl (hat2 _)) rfl ?_
 refine aP 30 rfl (pure_conv_i64 rfl rfl rfl (by omega) (by omega)) rfl ?_
 refine aP 31 rfl (pure_mul_nat (n := 1117) rfl rfl (by omega)) rfl ?_
 refine aP 32 rfl (pure_add_nat rfl rfl (by omega)) rfl ?_
 refine aP 33 rfl (qM rfl) rfl ?_
 refine aP 34 rfl (pure_mul_nat (n := 29) rfl rfl (by omega)) rfl ?_
 refine aP 35 rfl (pure_add_nat rfl rfl (by omega)) rfl ?_
 refine aP 36 rfl (qM rfl) rfl ?_
 refine aP 37 rfl (qM rfl) rfl ?_
 refine aP 38 rfl (pure_nilCheck rfl) rfl ?_
 refine aP 39 rfl (qF0 rfl) rfl ?_
 refine aL 40 rfl (lBs rfl rfl) rfl ?_
 refine aP 41 rfl (pLn rfl rfl) rfl ?_
 refine aP 42 rfl (pure_quo_nat rfl rfl (by omega) (by omega)) rfl ?_
 refine aP 43 rfl (pure_mul_nat (n := 53) rfl rfl (by omega)) rfl ?_
 refine aP 44 rfl (pure_add_nat rfl rfl (by omega)) rfl ?_
 refine aP 45 rfl (qA rfl) rfl ?_
 refine aD' ?_
 refine nS (tS (tR (sQ (qM rfl) rfl (sQ (qM rfl) rfl (sP (pure_quo_nat (n := 64) rfl rfl (by omega) (by omega)) rfl rfl ?_)))))
 refine sP (pure_xor_nat rfl rfl (by omega) (by omega)) rfl rfl ?_
 refine sQ (qA rfl) rfl (sD (nS (tS (tR (sQ (qM rfl) rfl (sQ (qM rfl) rfl ?_))))))
 refine sP (pure_rem rfl rfl (by omega)) rfl rfl ?_
 refine sQ (qA rfl) rfl (sD (nS (tT (ret_own1 (rT rfl) SubH.refl ?_))))
 exact ⟨rfl, rfl, _, rfl, Int.tmod_nonneg _ (by omega), fun h => Int.tmod_lt_of_pos _ (by omega)⟩
end Gw
end Go.Proofs.YthpdjmbpbdbodaaGreatDoor
namespace Go.Proofs.YthpdjmbpbdbodaaGreatDoor
open Go Go.RowKit Go.ChangeShapes Go.WideShapes Go.ChangeAt
namespace Gw
theorem cellsU : Tryz.prog.cellsOf 5 = 1 := by kernel_rfl
theorem build_byte {q : Nat → Value → Prop} : ∀ {n : Nat}, (∀ i, i < n → ∃ k : UInt8, q i (.int .u8 (k.toNat : Int))) → ∃ l : List UInt8, l.length = n ∧ ∀ i v, (byts l)[i]? = some v → q i v
 | 0, _ => ⟨[], rfl, by simp [byts]⟩
 | n + 1, h => by
  obtain ⟨l, h1, h2⟩ := build_byte (n := n) fun i hi => h i (by omega)
  obtain ⟨k, hk⟩ := h n (by omega)
  refine ⟨l ++ [k], by simp [h1], fun i v hv => ?_⟩
  rw [show byts (l ++ [k]) = byts l ++ [.int .u8 (k.toNat : Int)] from by simp [byts], List.getElem?_append] at hv
  split at hv
  ·exact h2 i v hv
  ·rename_i hi
   rw [byts_len] at hi hv
   have : i - l.length = 0 := by
    have := (List.getElem?_eq_some_iff.1 hv).1; simp at this; omega
   rw [this] at hv; simp at hv; subst hv
   rw [show i = n by omega]; exact hk
section read2
variable {H : Type} {enc : TypeId × Value → H} {w : World} {sp : Nat → Bool} {held : Bool}
theorem read_bytes (n : Nat) (cs : List Value) (x : DataW H × List MemPlace) (h : DataW.trod enc Tryz.prog w 0 sp held n 22 cs = some x) : ∃ (l : List UInt8) (p : Option Addr) (c : Nat), cs = [.slice p l.length c] ∧ Sl (GW w) p l.length c 1 (byts l) := by
 rcases DataW.trod_slice Tryz.underlying22 h with ⟨rfl, _⟩ | ⟨ad, len, cap, elems, rest, n', rfl, rfl, _, _, hlc, hcm, hel, hele, _, _⟩
 ·exact ⟨[], none, 0, rfl, Sl.nil _ _⟩
 ·rw [cellsU] at hele
  obtain ⟨l, h1, h2⟩ := build_byte (q := fun i v => w.cells? 0 (ad.add (i * 1)) 1 = some [v]) (n := len) fun i hi => by
   have := hele i hi
   rw [List.getElem?_eq_getElem (by omega)] at this
   obtain ⟨cs', c1, c2⟩ := Option.bind_eq_some_iff.1 this
   obtain ⟨k, rfl, _, hw⟩ := DataW.trod_int Tryz.underlying5 c2
   have hk : 0 ≤ k ∧ k < 256 := by
    have hw2 : (decide ((0 : Int) ≤ k) && decide (k ≤ (255 : Int))) = true := hw
    simp only [Bool.and_eq_true, decide_eq_true_eq] at hw2
    omega
   refine ⟨UInt8.ofNat k.toNat, ?_⟩
   rw [show ((UInt8.ofNat k.toNat).toNat : Int) = k from by
    rw [UInt8.toNat_ofNat']; omega]
   exact c1
  subst h1
  refine ⟨l, some ad, cap, rfl, ?_⟩
  have := sl_read (w := w) (a := ad) (n := l.length) (c := cap) (sz := 1) (es := (byts l).map fun v => [v]) (by simp [byts_len]) (by omega) hlc hcm fun i e he => by
   rw [List.getElem?_map] at he
   cases hv : (byts l)[i]? with
   | none => rw [hv] at he; simp at he
   | some v => rw [hv] at he; simp at he; subst he; exact h2 i v hv
  have hf : ((byts l).map fun v => [v]).flatten = byts l := by
   generalize byts l = L
   induction L with
   | nil => rfl
   | cons a L ih => simp [ih]
  rwa [hf] at this
end read2
theorem indexFunc_Type (G : IM) (p : Option Addr) (n c : Nat) (es : List (List Value)) (hsl : SlE G p n c 2 es) (fid : FuncId) [FunI Tryz.prog fid] (us cs : List Value) (ins : List Ent) (q : Nat → Bool)
  (hq : ∀ i e, es[i]? = some e → Fn Tryz.prog fid (us ++ [.agg ⟨e⟩] ++ cs) ins G (ValO (.bool (q i)) ins G)) :
  Fn Tryz.prog 89 [.slice p n c, .func (.func fid) ⟨us⟩ ⟨cs⟩] ins G (ValO (.int .i64 (firstIx q n)) ins G) := by
 have hn := hsl.le
 refine fn_enter Tryz.func89 rfl Tryz.ntmps89 Tryz.results89 rfl ?_
 intro w0
 refine tS (tR (sQ (qA rfl) rfl (sD (nS (tS (tS ?_))))))
 refine tR (sQ (qM rfl) rfl (sQ (pLn rfl rfl) rfl (sQ (qM rfl) rfl (sD (nS (tri_block ?_))))))
 refine tri_loopN (fun i : Nat => ⟨[(8, .int .i64 i), (7, .int .i64 n), (1, .func (.func fid) ⟨us⟩ ⟨cs⟩), (0, .slice p n c)], ins, G⟩) (fun i => i ≤ n ∧ ∀ j, j < i → q j = false) (fun i => n - i) 0 ?_ ?_ ?_
 exact sMk
 exact ⟨by omega, by omega⟩
 rintro i ⟨hi, hf⟩
 refine tS (tR (sB (pure_lss rfl rfl) rfl rfl (fun h21 => ?_) (fun h21 => ?_)))
 refine sD (nS (tS (qT rfl ?_)))
 refine tK (nS (tS (tri_block (tS (tR (sQ (qM rfl) rfl ?_))))))
 refine sQ (qA rfl) rfl (sD (nS (tS (tR (sQ (qM rfl) rfl (sQ (qM rfl) rfl ?_))))))
 refine sQ (qM rfl) rfl ?_
 (obtain ⟨e, b, o, he, rfl, hl, _, hat, _⟩ := hsl.get (i := i) (by omega); refine sP (pIN rfl rfl rfl (by omega)) rfl rfl ?_)
 refine sL (load_a rfl rfl (hat _) hl) rfl rfl ?_
 refine seq_vvalbo rfl rfl (hq i e he) perm_all rfl rfl (fun h43 => ?_) (fun h43 => ?_)
 refine sD (nS (qT rfl ?_))
 refine tS (tR (sQ (qM rfl) rfl (sQ (qA rfl) rfl (sD (nS (tT ?_))))))
 refine rB (rS (ret_loopN (rB (rS (ret_own1 (rT rfl) SubH.refl ?_)))))
 exact ⟨rfl, by rw [firstIx_some (by omega) hf (by assumption)], rfl⟩
 refine sD (nS (cF rfl ?_))
 refine tK (nrm_block (nS (tR (sP (pure_add rfl rfl (by omega) (by omega)) rfl rfl ?_))))
 refine sQ (qM rfl) rfl (sD (nrm_loopN (i + 1) ?_ ?_ ?_))
 exact sMk
 exact ⟨by omega, fun j hj => by by_cases hji : j = i; (subst hji; assumption); exact hf j (by omega)⟩
 omega
 refine sD (nS (tS (cF rfl ?_)))
 refine tri_exit ?_
 refine ext_seq ?_
 refine ext_loopN ?_
 refine ext_block_eq ?_
 refine nS (tS (tR (sQ (qA rfl) rfl (sD (nS (tT ?_))))))
 refine ret_own1 (rT rfl) SubH.refl ?_
 exact ⟨rfl, by rw [firstIx_none (fun j hj => hf j (by omega))], rfl⟩
theorem containsFunc_Type (G : IM) (p : Option Addr) (n c : Nat) (es : List (List Value)) (hsl : SlE G p n c 2 es) (fid : FuncId) [FunI Tryz.prog fid] (us cs : List Value) (ins : List Ent) (q : Nat → Bool)
  (hq : ∀ i e, es[i]? = some e → Fn Tryz.prog fid (us ++ [.agg ⟨e⟩] ++ cs) ins G (ValO (.bool (q i)) ins G)) :
  Fn Tryz.prog 47 [.slice p n c, .func (.func fid) ⟨us⟩ ⟨cs⟩] ins G (ValO (.bool (decide (0 ≤ firstIx q n))) ins G) := by
 refine fn_enter Tryz.func47 rfl Tryz.ntmps47 Tryz.results47 rfl ?_
 intro w0
 refine tS (tR (sQ (qA rfl) rfl (sD (nS (tS (tR ?_))))))
 refine sQ (qM rfl) rfl (sQ (qM rfl) rfl (seq_valo rfl (indexFunc_Type G p n c es hsl fid us cs ins q hq) perm_all rfl rfl ?_))
 refine sQ (pure_geq rfl rfl) rfl (sQ (qA rfl) rfl (sD (nS (tT (ret_own1 (rT rfl) SubH.refl ?_)))))
 exact ⟨rfl, rfl, rfl⟩
theorem containsNot_Type (G : IM) (p : Option Addr) (n c : Nat) (es : List (List Value)) (hsl : SlE G p n c 2 es) (fid : FuncId) [FunI Tryz.prog fid] (us cs : List Value) (ins : List Ent) (f : Ty → Bool) (ks : List Ty)
  (hn : ks.length = n) {A : Bool} (hA : ks.all f = A) (hq : ∀ i e, es[i]? = some e → Fn Tryz.prog fid (us ++ [.agg ⟨e⟩] ++ cs) ins G (ValO (.bool (!f (ks.getD i ty0))) ins G)) :
  Fn Tryz.prog 47 [.slice p n c, .func (.func fid) ⟨us⟩ ⟨cs⟩] ins G (ValO (.bool (!A)) ins G) := by
 subst hn hA
 rw [← contains_not f ks ty0]
 exact containsFunc_Type G p _ c es hsl fid us cs ins _ hq
theorem equalFunc_Type (G : IM) (p p' : Option Addr) (n c n' c' : Nat) (es es' : List (List Value)) (hsl : SlE G p n c 2 es) (hsl' : SlE G p' n' c' 2 es') (fid : FuncId) [FunI Tryz.prog fid] (us cs : List Value) (ins : List Ent) (q : Nat → Bool)
  (A : Bool) (hA : A = true ↔ n = n' ∧ ∀ i, i < n → q i = true)
  (hq : ∀ i e e', es[i]? = some e → es'[i]? = some e' → Fn Tryz.prog fid (us ++ [.agg ⟨e⟩, .agg ⟨e'⟩] ++ cs) ins G (ValO (.bool (q i)) ins G)) :
  Fn Tryz.prog 36 [.slice p n c, .slice p' n' c', .func (.func fid) ⟨us⟩ ⟨cs⟩] ins G (ValO (.bool A) ins G) := by
 have hn := hsl.le
 have hn' := hsl'.le
 refine fn_enter Tryz.func36 rfl Tryz.ntmps36 Tryz.results36 rfl ?_
 intro w0
 refine tS (tR (sQ (qA rfl) rfl (sD (nS (tS (tS ?_))))))
 refine tR (sQ (qM rfl) rfl (sQ (pLn rfl rfl) rfl (sQ (qM rfl) rfl (sQ (pLn rfl rfl) rfl (sB (pure_neq rfl rfl) rfl rfl (fun h13 => ?_) (fun h13 => ?_))))))
 refine sD (nS (qT rfl ?_))
 refine tS (tR (sQ (qA rfl) rfl (sD (nS (tT (rS ?_))))))
 refine ret_own1 (outs := ins) (rT rfl) (by first | exact SubH.refl | exact SubH.drop (SubH.drop SubH.refl)) ?_
 exact ⟨rfl, by (cases A with | false => rfl | true => exact absurd (hA.1 rfl).1 (by omega)), rfl⟩
 refine sD (nS (cF rfl ?_))
 refine tK (nS (tS (tS (tR (sQ (qM rfl) rfl (sQ (pLn rfl rfl) rfl ?_))))))
 refine sQ (qM rfl) rfl (sD (nS (tri_block (tri_loopN (fun i : Nat => ⟨[(17, .int .i64 i), (16, .int .i64 n), (15, .slice p n c), (2, .func (.func fid) ⟨us⟩ ⟨cs⟩), (1, .slice p' n' c'), (0, .slice p n c)], ins, G⟩) (fun i => i ≤ n ∧ ∀ j, j < i → q j = true) (fun i => n - i) 0 ?_ ?_ ?_))))
 exact sMk
 exact ⟨by omega, by omega⟩
 rintro i ⟨hi, hf⟩
 refine tS (tR (sB (pure_lss rfl rfl) rfl rfl (fun h46 => ?_) (fun h46 => ?_)))
 refine sD (nS (tS (qT rfl ?_)))
 refine tK (nS (tS (tri_block (tS (tR (sQ (qM rfl) rfl ?_))))))
 (obtain ⟨e, b, o, he, rfl, hl, _, hat, _⟩ := hsl.get (i := i) (by omega); refine sP (pIN rfl rfl rfl (by omega)) rfl rfl ?_)
 refine sL (load_a rfl rfl (hat _) hl) rfl rfl ?_
 refine sE (step_alloc rfl) rfl (fun b60 => ?_)
 refine sQ (qA rfl) rfl (seq_store rfl rfl rfl (by assumption) (by assumption) rfl (by repeat first | exact Sw.here | apply Sw.there) (by exact upd_all (by symm; assumption)) ?_)
 refine sD (nS (tS (tR (sQ (qM rfl) rfl (sQ (qM rfl) rfl ?_)))))
 (obtain ⟨e', b', o', he', rfl, hl', _, hat', _⟩ := hsl'.get (i := i) (by omega); refine sP (pIN rfl rfl rfl (by omega)) rfl rfl ?_)
 refine sL (load_a rfl rfl (hat' _) hl') rfl rfl ?_
 refine sE (step_alloc rfl) rfl (fun b71 => ?_)
 refine seq_store rfl rfl rfl (by assumption) (by assumption) rfl (by repeat first | exact Sw.here | apply Sw.there) (by exact upd_all (by symm; assumption)) ?_
 refine sD (nS (tS (tR (sQ (qM rfl) rfl (sL (load_a rfl rfl (at_blk_all (by repeat first | exact mH | apply mT)) (by assumption)) rfl rfl ?_)))))
 refine sL (load_a rfl rfl (at_blk_all (by repeat first | exact mH | apply mT)) (by assumption)) rfl rfl ?_
 refine seq_vvalbo rfl rfl (hq i e e' he he') perm_two rfl rfl (fun h80 => ?_) (fun h80 => ?_)
 refine sQ (pNt rfl) rfl (sD (nS (cF rfl ?_)))
 refine tK (nrm_block (nS (tR (sP (pure_add rfl rfl (by omega) (by omega)) rfl rfl ?_))))
 refine sQ (qM rfl) rfl (sD (nrm_loopN (i + 1) ?_ ?_ ?_))
 exact sMk
 exact ⟨by omega, fun j hj => by by_cases hji : j = i; (subst hji; assumption); exact hf j (by omega)⟩
 omega
 refine sQ (pNf rfl) rfl (sD (nS (qT rfl ?_)))
 refine tS (tR (sQ (qA rfl) rfl (sD (nS (tT (rB ?_))))))
 refine rS (ret_loopN (rB (rS (ret_own1 (outs := ins) (rT rfl) (by first | exact SubH.refl | exact SubH.drop (SubH.drop SubH.refl)) ?_))))
 exact ⟨rfl, by (cases A with | false => rfl | true => have h0 := (hA.1 rfl).2 i (by omega); simp_all), rfl⟩
 refine sD (nS (tS (cF rfl ?_)))
 refine tri_exit ?_
 refine ext_seq ?_
 refine ext_loopN ?_
 refine ext_block_eq ?_
 refine nS (tS (tR (sQ (qA rfl) rfl (sD (nS (tT ?_))))))
 refine ret_own1 (outs := ins) (rT rfl) (by first | exact SubH.refl | exact SubH.drop (SubH.drop SubH.refl)) ?_
 exact ⟨rfl, by rw [hA.2 ⟨by omega, fun j hj => hf j (by omega)⟩], rfl⟩
theorem within_fn (n lo hi : Int) (G : IM) : Fn Tryz.prog 62 [.int .i64 n, .int .i64 lo, .int .i64 hi] [] G (Val (.bool (withinB n lo hi)) G) := by
 refine fn_enter Tryz.func62 rfl Tryz.ntmps62 Tryz.results62 rfl ?_
 intro w0
 refine tS (tR (sQ (qA rfl) rfl (sD (nS (tS (tR ?_))))))
 refine sQ (qM rfl) rfl (sQ (qM rfl) rfl (sB (pure_leq rfl rfl) rfl rfl (fun h10 => ?_) (fun h10 => ?_)))
 refine sQ (qM rfl) rfl (sQ (qM rfl) rfl (sQ (qM rfl) rfl (sB (pure_leq rfl rfl) rfl rfl (fun h14 => ?_) (fun h14 => ?_))))
 refine sQ (pPt rfl rfl) rfl (sQ (qA rfl) rfl (sD (nS (tT (rF1 (rT rfl) ?_)))))
 exact ⟨rfl, by simp [withinB]; omega, rfl⟩
 refine sQ (pPt rfl rfl) rfl (sQ (qA rfl) rfl (sD (nS (tT (rF1 (rT rfl) ?_)))))
 exact ⟨rfl, by simp [withinB]; omega, rfl⟩
 refine sQ (qM rfl) rfl (sK rfl rfl (sK rfl rfl (sK rfl rfl (sQ (pPf rfl rfl) rfl (sQ (qA rfl) rfl (sD ?_))))))
 refine nS (tT (rF1 (rT rfl) ?_))
 exact ⟨rfl, by simp [withinB]; omega, rfl⟩
theorem base_fn (k : Int) (G : IM) : Fn Tryz.prog 104 [.int .i64 k] [] G (Val (.agg ⟨[.int .i64 k, .slice none 0 0]⟩) G) := by
 refine fn_enter Tryz.func104 rfl Tryz.ntmps104 Tryz.results104 rfl ?_
 intro w0
 refine tS (tR ?_)
 refine sE (step_alloc rfl) rfl (fun b3 => ?_)
 refine sD (nS (tS (tR (sQ (qM rfl) rfl (sQ (pBd rfl rfl) rfl (sS' ?_))))))
 refine sD (nS (tT (rF1 (rC rfl (lBa rfl rfl)) ?_)))
 exact ⟨rfl, rfl, rfl⟩
theorem isLabel_fn (n : Int) (G : IM) : Fn Tryz.prog 151 [.int .i64 n] [] G (Val (.bool (labelOk n)) G) := by
 refine fn_enter Tryz.func151 rfl Tryz.ntmps151 Tryz.results151 rfl ?_
 intro w0
 refine tS (tR (sQ (qA rfl) rfl (sD (nS (tS (tR ?_))))))
 refine sQ (qM rfl) rfl (seq_valb rfl (within_fn _ _ _ _) rfl rfl (fun h9 => ?_) (fun h9 => ?_))
 refine sQ (qM rfl) rfl (sK rfl rfl (sK rfl rfl (sQ (pPt rfl rfl) rfl (sQ (qA rfl) rfl (sD (nS ?_))))))
 refine tT (rF1 (rT rfl) ?_)
 exact ⟨rfl, by simp [labelOk, *], rfl⟩
 refine sQ (qM rfl) rfl (sQ (qM rfl) rfl (seq_valb rfl (within_fn _ _ _ _) rfl rfl (fun h22 => ?_) (fun h22 => ?_)))
 refine sQ (pPf rfl rfl) rfl (sQ (qA rfl) rfl (sD (nS (tT (rF1 (rT rfl) ?_)))))
 exact ⟨rfl, by simp [labelOk, *], rfl⟩
 refine sQ (pPf rfl rfl) rfl (sQ (qA rfl) rfl (sD (nS (tT (rF1 (rT rfl) ?_)))))
 exact ⟨rfl, by simp [labelOk, *], rfl⟩
theorem isNoType_fn (t : Ty) (G : IM) (cells : List Value) (hr : RTy G t cells) : Fn Tryz.prog 149 [.agg ⟨cells⟩] [] G (Val (.bool (tNone t)) G) := by
 obtain ⟨p, c, es, rfl, hk, hsl, hkl⟩ := hr.open
 refine fn_enter Tryz.func149 rfl Tryz.ntmps149 Tryz.results149 rfl ?_
 intro w0
 refine tS (tR ?_)
 refine sE (step_box_a rfl rfl) rfl (fun b3 => ?_)
 refine sQ (qA rfl) rfl (sD (nS (tS (tR (sQ (qF0 rfl) rfl (sL (lBs rfl rfl) rfl rfl ?_))))))
 refine sB (qE rfl rfl) rfl rfl (fun h11 => ?_) (fun h11 => ?_)
 refine sQ (qM rfl) rfl (sQ (qF0 rfl) rfl (sL (lBs rfl rfl) rfl rfl ?_))
 refine sQ (pLn rfl rfl) rfl (sB (qE rfl rfl) rfl rfl (fun h16 => ?_) (fun h16 => ?_))
 refine sQ (pPt rfl rfl) rfl (sQ (qA rfl) rfl (sD (nS (tT (rF1 (rT rfl) ?_)))))
 exact ⟨rfl, by simp only [tNone]; (first | rw [decide_eq_true (by omega)] | rw [decide_eq_false (by omega)]), rfl⟩
 refine sQ (pPt rfl rfl) rfl (sQ (qA rfl) rfl (sD (nS (tT (rF1 (rT rfl) ?_)))))
 exact ⟨rfl, by simp only [tNone]; (first | rw [decide_eq_true (by omega)] | rw [decide_eq_false (by omega)]), rfl⟩
 refine sQ (qM rfl) rfl (sK rfl rfl (sK rfl rfl (sK rfl rfl (sK rfl rfl (sQ (pPf rfl rfl) rfl (sQ (qA rfl) rfl ?_))))))
 refine sD (nS (tT (rF1 (rT rfl) ?_)))
 exact ⟨rfl, by simp only [tNone]; (first | rw [decide_eq_true (by omega)] | rw [decide_eq_false (by omega)]), rfl⟩
theorem isName_fn (s : ByteArray) (G : IM) : Fn Tryz.prog 148 [.string s] [] G (Val (.bool (nameOk s)) G) := by
 refine fn_enter Tryz.func148 rfl Tryz.ntmps148 Tryz.results148 rfl ?_
 intro w0
 refine tS (tR (sQ (qA rfl) rfl (sD (nS (tS (tR ?_))))))
 refine sQ (qM rfl) rfl (sQ (pure_len_str rfl rfl) rfl (sB (qE rfl rfl) rfl rfl (fun h10 => ?_) (fun h10 => ?_)))
 refine sQ (qM rfl) rfl (sQ (qM rfl) rfl (sP (pure_sindex rfl rfl rfl (by omega) (ba_get (by omega))) rfl rfl ?_))
 refine sB (pure_geq rfl rfl) rfl rfl (fun h14 => ?_) (fun h14 => ?_)
 refine sQ (pPt rfl rfl) rfl (sQ (qM rfl) rfl (sQ (qM rfl) rfl (sP (pure_sindex rfl rfl rfl (by omega) (ba_get (by omega))) rfl rfl ?_)))
 refine sB (pure_leq rfl rfl) rfl rfl (fun h19 => ?_) (fun h19 => ?_)
 refine sQ (pPt rfl rfl) rfl (sQ (qA rfl) rfl (sD (nS (tT (rF1 (rT rfl) ?_)))))
 exact ⟨rfl, by simp only [nameOk]; (try simp only [Int.toNat_zero] at *); (first | rw [decide_eq_true (by omega)] | rw [decide_eq_false (by omega)]), rfl⟩
 refine sQ (pPt rfl rfl) rfl (sQ (qA rfl) rfl (sD (nS (tT (rF1 (rT rfl) ?_)))))
 exact ⟨rfl, by simp only [nameOk]; (try simp only [Int.toNat_zero] at *); (first | rw [decide_eq_true (by omega)] | rw [decide_eq_false (by omega)]), rfl⟩
 refine sQ (pPt rfl rfl) rfl (sQ (qM rfl) rfl (sK rfl rfl (sK rfl rfl (sK rfl rfl (sQ (pPf rfl rfl) rfl (sQ (qA rfl) rfl ?_))))))
 refine sD (nS (tT (rF1 (rT rfl) ?_)))
 exact ⟨rfl, by simp only [nameOk]; (try simp only [Int.toNat_zero] at *); (first | rw [decide_eq_true (by omega)] | rw [decide_eq_false (by omega)]), rfl⟩
 refine sQ (qM rfl) rfl (sK rfl rfl (sK rfl rfl (sK rfl rfl (sQ (pPf rfl rfl) rfl (sQ (qM rfl) rfl (sK rfl rfl ?_))))))
 refine sK rfl rfl (sK rfl rfl (sQ (pPf rfl rfl) rfl (sQ (qA rfl) rfl (sD (nS (tT ?_))))))
 refine rF1 (rT rfl) ?_
 exact ⟨rfl, by simp only [nameOk]; (try simp only [Int.toNat_zero] at *); (first | rw [decide_eq_true (by omega)] | rw [decide_eq_false (by omega)]), rfl⟩
theorem typeScan_1 (G : IM) (e : List Value) (d : Int) (b : Bool) (bd : Nat) (hl : e.length = 2) (hd : 0 ≤ d ∧ d ≤ 5) (h : Fn Tryz.prog 110 [.agg ⟨e⟩, .int .i64 (d + 1)] [] G (Val (.bool b) G)) :
  Fn Tryz.prog 152 [.agg ⟨e⟩, .pointer (some ⟨bd, 0, none⟩)] [.blk bd [.int .i64 d]] G (ValO (.bool (!b)) [.blk bd [.int .i64 d]] G) := by
 refine fn_enter Tryz.func152 rfl Tryz.ntmps152 Tryz.results152 rfl ?_
 intro w0
 refine tS (tR ?_)
 refine sE (step_box_a rfl rfl) rfl (fun b3 => ?_)
 refine sQ (qA rfl) rfl (sD (nS (tS (tR (sL (load_a rfl rfl (at_blk_all (by repeat first | exact mH | apply mT)) (by assumption)) rfl rfl ?_)))))
 refine sL (lBs rfl rfl) rfl rfl ?_
 refine sP (pure_add rfl rfl (by omega) (by omega)) rfl rfl ?_
 refine seq_valb rfl (h) rfl rfl (fun h12 => ?_) (fun h12 => ?_)
 refine sQ (pNt rfl) rfl (sQ (qA rfl) rfl (sD (nS (tT (ret_own1 (rT rfl) (SubH.cons (Pk.there Pk.here) SubH.nil) ?_)))))
 exact ⟨rfl, by simp [*], rfl⟩
 refine sQ (pNf rfl) rfl (sQ (qA rfl) rfl (sD (nS (tT (ret_own1 (rT rfl) (SubH.cons (Pk.there Pk.here) SubH.nil) ?_)))))
 exact ⟨rfl, by simp [*], rfl⟩
theorem typeScan_fn : ∀ (t : Ty) (d : Int) (G : IM) (cells : List Value), 0 ≤ d ∧ d ≤ 5 → RTy G t cells →
  Fn Tryz.prog 110 [.agg ⟨cells⟩, .int .i64 d] [] G (Val (.bool (tScan t d)) G) := by
 refine Ty.ind fun k ks ih d G cells hd hr => ?_
 obtain ⟨p, c, es, rfl, hk, hsl, hkl⟩ := hr.open
 simp only [Ty.k, Ty.ks] at hk hsl hkl ⊢
 have hn := hsl.le
 obtain ⟨A, hA⟩ : ∃ A, ks.all (tScan · (d + 1)) = A := ⟨_, rfl⟩
 refine fn_enter Tryz.func110 rfl Tryz.ntmps110 Tryz.results110 rfl ?_
 intro w0
 refine tS (tR ?_)
 refine sE (step_box_a rfl rfl) rfl (fun b3 => ?_)
 (refine seq_step (step_box_s rfl rfl rfl) rfl ?_; rintro _ ⟨b4, rfl⟩)
 refine sQ (qA rfl) rfl (sD (nS (tS (tR (sQ (qA rfl) rfl (sD ?_))))))
 refine nS (tS (tS (tR (sQ (qF0 rfl) rfl (sL (lBs rfl rfl) rfl rfl ?_)))))
 refine sD (nS (tri_block (tS (tS (tR (sB (qE rfl rfl) rfl rfl (fun h24 => ?_) (fun h24 => ?_)))))))
 refine sQ (qA rfl) rfl (sD (nS (qT rfl ?_)))
 refine tK (nS (qT rfl ?_))
 refine tR (sQ (qA rfl) rfl (sD (nrm_block (nS (tS (tR ?_))))))
 refine sL (lBs rfl rfl) rfl rfl ?_
 refine sB (pure_leq rfl rfl) rfl rfl (fun h40 => ?_) (fun h40 => ?_)
 refine sQ (qM rfl) rfl (sQ (qM rfl) rfl (sQ (qF0 rfl) rfl (sL (lBs rfl rfl) rfl rfl ?_)))
 refine sQ (pLn rfl rfl) rfl (sB (qE rfl rfl) rfl rfl (fun h46 => ?_) (fun h46 => ?_))
 refine sQ (pPt rfl rfl) rfl (sQ (qM rfl) rfl (sQ (qF0 rfl) rfl (sL (lBs rfl rfl) rfl rfl ?_)))
 refine sQ (pure_makeFunc rfl rfl) rfl (seq_valbo rfl (containsNot_Type _ _ _ _ _ hsl _ [] _ [.blk b4 [.int .i64 d]] (tScan · (d + 1)) ks rfl hA (fun i e he => typeScan_1 _ _ _ _ _ (hsl.all e (List.mem_of_getElem? he)) hd (ih _ (hkl.inv he ty0).1 _ _ _ (by omega) (hkl.inv he ty0).2))) perm_all rfl rfl (fun h52 => ?_) (fun h52 => ?_))
 simp only [Bool.not_eq_true', Bool.not_eq_false'] at h52
 refine sQ (pNt rfl) rfl (sQ (pPt rfl rfl) rfl (sQ (qA rfl) rfl (sD (nS (tT (rF1 (rT rfl) ?_))))))
 exact ⟨rfl, by (rw [tScan, tScanL_all, hA]; have := tyOps_spec k; first | (rw [decide_eq_true (by omega), decide_eq_true (by omega)]; simp only [*]; done) | (rw [decide_eq_true (by omega), decide_eq_true (by omega)]; simp only [*]; rfl) | (rw [decide_eq_false (by omega)]; rfl) | (rw [decide_eq_true (by omega), decide_eq_false (by omega)]; rfl)), rfl⟩
 simp only [Bool.not_eq_true', Bool.not_eq_false'] at h52
 refine sQ (pNf rfl) rfl (sQ (pPt rfl rfl) rfl (sQ (qA rfl) rfl (sD (nS (tT (rF1 (rT rfl) ?_))))))
 exact ⟨rfl, by (rw [tScan, tScanL_all, hA]; have := tyOps_spec k; first | (rw [decide_eq_true (by omega), decide_eq_true (by omega)]; simp only [*]; done) | (rw [decide_eq_true (by omega), decide_eq_true (by omega)]; simp only [*]; rfl) | (rw [decide_eq_false (by omega)]; rfl) | (rw [decide_eq_true (by omega), decide_eq_false (by omega)]; rfl)), rfl⟩
 refine sQ (pPt rfl rfl) rfl (sQ (qM rfl) rfl (sK rfl rfl (sK rfl rfl (sK rfl rfl (sK rfl rfl (sK rfl rfl ?_))))))
 refine sQ (pPf rfl rfl) rfl (sQ (qA rfl) rfl (sD (nS (tT (rF1 (rT rfl) ?_)))))
 exact ⟨rfl, by (rw [tScan, tScanL_all, hA]; have := tyOps_spec k; first | (rw [decide_eq_true (by omega), decide_eq_true (by omega)]; simp only [*]; done) | (rw [decide_eq_true (by omega), decide_eq_true (by omega)]; simp only [*]; rfl) | (rw [decide_eq_false (by omega)]; rfl) | (rw [decide_eq_true (by omega), decide_eq_false (by omega)]; rfl)), rfl⟩
 refine sQ (qM rfl) rfl (sK rfl rfl (sK rfl rfl (sK rfl rfl (sK rfl rfl (sK rfl rfl (sQ (pPf rfl rfl) rfl ?_))))))
 refine sQ (qM rfl) rfl (sK rfl rfl (sK rfl rfl (sK rfl rfl (sK rfl rfl (sK rfl rfl (sQ (pPf rfl rfl) rfl ?_))))))
 refine sQ (qA rfl) rfl (sD (nS (tT (rF1 (rT rfl) ?_))))
 exact ⟨rfl, by (rw [tScan, tScanL_all, hA]; have := tyOps_spec k; first | (rw [decide_eq_true (by omega), decide_eq_true (by omega)]; simp only [*]; done) | (rw [decide_eq_true (by omega), decide_eq_true (by omega)]; simp only [*]; rfl) | (rw [decide_eq_false (by omega)]; rfl) | (rw [decide_eq_true (by omega), decide_eq_false (by omega)]; rfl)), rfl⟩
 refine sQ (qA rfl) rfl (sD (nS (cF rfl ?_)))
 refine tS (tR (sB (qE rfl rfl) rfl rfl (fun h109 => ?_) (fun h109 => ?_)))
 refine sQ (qA rfl) rfl (sD (nS (qT rfl ?_)))
 refine tK (nS (qT rfl ?_))
 refine tR (sQ (qA rfl) rfl (sD (nrm_block (nS (tS (tR ?_))))))
 refine sL (lBs rfl rfl) rfl rfl ?_
 refine sB (pure_leq rfl rfl) rfl rfl (fun h125 => ?_) (fun h125 => ?_)
 refine sQ (qM rfl) rfl (sQ (qM rfl) rfl (sQ (qF0 rfl) rfl (sL (lBs rfl rfl) rfl rfl ?_)))
 refine sQ (pLn rfl rfl) rfl (sB (qE rfl rfl) rfl rfl (fun h131 => ?_) (fun h131 => ?_))
 refine sQ (pPt rfl rfl) rfl (sQ (qM rfl) rfl (sQ (qF0 rfl) rfl (sL (lBs rfl rfl) rfl rfl ?_)))
 refine sQ (pure_makeFunc rfl rfl) rfl (seq_valbo rfl (containsNot_Type _ _ _ _ _ hsl _ [] _ [.blk b4 [.int .i64 d]] (tScan · (d + 1)) ks rfl hA (fun i e he => typeScan_1 _ _ _ _ _ (hsl.all e (List.mem_of_getElem? he)) hd (ih _ (hkl.inv he ty0).1 _ _ _ (by omega) (hkl.inv he ty0).2))) perm_all rfl rfl (fun h137 => ?_) (fun h137 => ?_))
 simp only [Bool.not_eq_true', Bool.not_eq_false'] at h137
 refine sQ (pNt rfl) rfl (sQ (pPt rfl rfl) rfl (sQ (qA rfl) rfl (sD (nS (tT (rF1 (rT rfl) ?_))))))
 exact ⟨rfl, by (rw [tScan, tScanL_all, hA]; have := tyOps_spec k; first | (rw [decide_eq_true (by omega), decide_eq_true (by omega)]; simp only [*]; done) | (rw [decide_eq_true (by omega), decide_eq_true (by omega)]; simp only [*]; rfl) | (rw [decide_eq_false (by omega)]; rfl) | (rw [decide_eq_true (by omega), decide_eq_false (by omega)]; rfl)), rfl⟩
 simp only [Bool.not_eq_true', Bool.not_eq_false'] at h137
 refine sQ (pNf rfl) rfl (sQ (pPt rfl rfl) rfl (sQ (qA rfl) rfl (sD (nS (tT (rF1 (rT rfl) ?_))))))
 exact ⟨rfl, by (rw [tScan, tScanL_all, hA]; have := tyOps_spec k; first | (rw [decide_eq_true (by omega), decide_eq_true (by omega)]; simp only [*]; done) | (rw [decide_eq_true (by omega), decide_eq_true (by omega)]; simp only [*]; rfl) | (rw [decide_eq_false (by omega)]; rfl) | (rw [decide_eq_true (by omega), decide_eq_false (by omega)]; rfl)), rfl⟩
 refine sQ (pPt rfl rfl) rfl (sQ (qM rfl) rfl (sK rfl rfl (sK rfl rfl (sK rfl rfl (sK rfl rfl (sK rfl rfl ?_))))))
 refine sQ (pPf rfl rfl) rfl (sQ (qA rfl) rfl (sD (nS (tT (rF1 (rT rfl) ?_)))))
 exact ⟨rfl, by (rw [tScan, tScanL_all, hA]; have := tyOps_spec k; first | (rw [decide_eq_true (by omega), decide_eq_true (by omega)]; simp only [*]; done) | (rw [decide_eq_true (by omega), decide_eq_true (by omega)]; simp only [*]; rfl) | (rw [decide_eq_false (by omega)]; rfl) | (rw [decide_eq_true (by omega), decide_eq_false (by omega)]; rfl)), rfl⟩
 refine sQ (qM rfl) rfl (sK rfl rfl (sK rfl rfl (sK rfl rfl (sK rfl rfl (sK rfl rfl (sQ (pPf rfl rfl) rfl ?_))))))
 refine sQ (qM rfl) rfl (sK rfl rfl (sK rfl rfl (sK rfl rfl (sK rfl rfl (sK rfl rfl (sQ (pPf rfl rfl) rfl ?_))))))
 refine sQ (qA rfl) rfl (sD (nS (tT (rF1 (rT rfl) ?_))))
 exact ⟨rfl, by (rw [tScan, tScanL_all, hA]; have := tyOps_spec k; first | (rw [decide_eq_true (by omega), decide_eq_true (by omega)]; simp only [*]; done) | (rw [decide_eq_true (by omega), decide_eq_true (by omega)]; simp only [*]; rfl) | (rw [decide_eq_false (by omega)]; rfl) | (rw [decide_eq_true (by omega), decide_eq_false (by omega)]; rfl)), rfl⟩
 refine sQ (qA rfl) rfl (sD (nS (cF rfl ?_)))
 refine tR (sB (qE rfl rfl) rfl rfl (fun h193 => ?_) (fun h193 => ?_))
 refine sQ (qA rfl) rfl (sD (nS (qT rfl ?_)))
 refine tR (sQ (qA rfl) rfl (sD (nrm_block (nS (tS (tR ?_))))))
 refine sL (lBs rfl rfl) rfl rfl ?_
 refine sB (pure_leq rfl rfl) rfl rfl (fun h206 => ?_) (fun h206 => ?_)
 refine sQ (qM rfl) rfl (sQ (qM rfl) rfl (sQ (qF0 rfl) rfl (sL (lBs rfl rfl) rfl rfl ?_)))
 refine sQ (pLn rfl rfl) rfl (sB (qE rfl rfl) rfl rfl (fun h212 => ?_) (fun h212 => ?_))
 refine sQ (pPt rfl rfl) rfl (sQ (qM rfl) rfl (sQ (qF0 rfl) rfl (sL (lBs rfl rfl) rfl rfl ?_)))
 refine sQ (pure_makeFunc rfl rfl) rfl (seq_valbo rfl (containsNot_Type _ _ _ _ _ hsl _ [] _ [.blk b4 [.int .i64 d]] (tScan · (d + 1)) ks rfl hA (fun i e he => typeScan_1 _ _ _ _ _ (hsl.all e (List.mem_of_getElem? he)) hd (ih _ (hkl.inv he ty0).1 _ _ _ (by omega) (hkl.inv he ty0).2))) perm_all rfl rfl (fun h218 => ?_) (fun h218 => ?_))
 simp only [Bool.not_eq_true', Bool.not_eq_false'] at h218
 refine sQ (pNt rfl) rfl (sQ (pPt rfl rfl) rfl (sQ (qA rfl) rfl (sD (nS (tT (rF1 (rT rfl) ?_))))))
 exact ⟨rfl, by (rw [tScan, tScanL_all, hA]; have := tyOps_spec k; first | (rw [decide_eq_true (by omega), decide_eq_true (by omega)]; simp only [*]; done) | (rw [decide_eq_true (by omega), decide_eq_true (by omega)]; simp only [*]; rfl) | (rw [decide_eq_false (by omega)]; rfl) | (rw [decide_eq_true (by omega), decide_eq_false (by omega)]; rfl)), rfl⟩
 simp only [Bool.not_eq_true', Bool.not_eq_false'] at h218
 refine sQ (pNf rfl) rfl (sQ (pPt rfl rfl) rfl (sQ (qA rfl) rfl (sD (nS (tT (rF1 (rT rfl) ?_))))))
 exact ⟨rfl, by (rw [tScan, tScanL_all, hA]; have := tyOps_spec k; first | (rw [decide_eq_true (by omega), decide_eq_true (by omega)]; simp only [*]; done) | (rw [decide_eq_true (by omega), decide_eq_true (by omega)]; simp only [*]; rfl) | (rw [decide_eq_false (by omega)]; rfl) | (rw [decide_eq_true (by omega), decide_eq_false (by omega)]; rfl)), rfl⟩
 refine sQ (pPt rfl rfl) rfl (sQ (qM rfl) rfl (sK rfl rfl (sK rfl rfl (sK rfl rfl (sK rfl rfl (sK rfl rfl ?_))))))
 refine sQ (pPf rfl rfl) rfl (sQ (qA rfl) rfl (sD (nS (tT (rF1 (rT rfl) ?_)))))
 exact ⟨rfl, by (rw [tScan, tScanL_all, hA]; have := tyOps_spec k; first | (rw [decide_eq_true (by omega), decide_eq_true (by omega)]; simp only [*]; done) | (rw [decide_eq_true (by omega), decide_eq_true (by omega)]; simp only [*]; rfl) | (rw [decide_eq_false (by omega)]; rfl) | (rw [decide_eq_true (by omega), decide_eq_false (by omega)]; rfl)), rfl⟩
 refine sQ (qM rfl) rfl (sK rfl rfl (sK rfl rfl (sK rfl rfl (sK rfl rfl (sK rfl rfl (sQ (pPf rfl rfl) rfl ?_))))))
 refine sQ (qM rfl) rfl (sK rfl rfl (sK rfl rfl (sK rfl rfl (sK rfl rfl (sK rfl rfl (sQ (pPf rfl rfl) rfl ?_))))))
 refine sQ (qA rfl) rfl (sD (nS (tT (rF1 (rT rfl) ?_))))
 exact ⟨rfl, by (rw [tScan, tScanL_all, hA]; have := tyOps_spec k; first | (rw [decide_eq_true (by omega), decide_eq_true (by omega)]; simp only [*]; done) | (rw [decide_eq_true (by omega), decide_eq_true (by omega)]; simp only [*]; rfl) | (rw [decide_eq_false (by omega)]; rfl) | (rw [decide_eq_true (by omega), decide_eq_false (by omega)]; rfl)), rfl⟩
 refine sQ (qA rfl) rfl (sD (nS (cF rfl ?_)))
 refine tS (tS (tR (sB (qE rfl rfl) rfl rfl (fun h276 => ?_) (fun h276 => ?_))))
 refine sQ (qA rfl) rfl (sD (nS (qT rfl ?_)))
 refine tK (nS (qT rfl ?_))
 refine tR (sQ (qA rfl) rfl (sD (nrm_block (nS (tS (tR ?_))))))
 refine sL (lBs rfl rfl) rfl rfl ?_
 refine sB (pure_leq rfl rfl) rfl rfl (fun h292 => ?_) (fun h292 => ?_)
 refine sQ (qM rfl) rfl (sQ (qM rfl) rfl (sQ (qF0 rfl) rfl (sL (lBs rfl rfl) rfl rfl ?_)))
 refine sQ (pLn rfl rfl) rfl (sB (qE rfl rfl) rfl rfl (fun h298 => ?_) (fun h298 => ?_))
 refine sQ (pPt rfl rfl) rfl (sQ (qM rfl) rfl (sQ (qF0 rfl) rfl (sL (lBs rfl rfl) rfl rfl ?_)))
 refine sQ (pure_makeFunc rfl rfl) rfl (seq_valbo rfl (containsNot_Type _ _ _ _ _ hsl _ [] _ [.blk b4 [.int .i64 d]] (tScan · (d + 1)) ks rfl hA (fun i e he => typeScan_1 _ _ _ _ _ (hsl.all e (List.mem_of_getElem? he)) hd (ih _ (hkl.inv he ty0).1 _ _ _ (by omega) (hkl.inv he ty0).2))) perm_all rfl rfl (fun h304 => ?_) (fun h304 => ?_))
 simp only [Bool.not_eq_true', Bool.not_eq_false'] at h304
 refine sQ (pNt rfl) rfl (sQ (pPt rfl rfl) rfl (sQ (qA rfl) rfl (sD (nS (tT (rF1 (rT rfl) ?_))))))
 exact ⟨rfl, by (rw [tScan, tScanL_all, hA]; have := tyOps_spec k; first | (rw [decide_eq_true (by omega), decide_eq_true (by omega)]; simp only [*]; done) | (rw [decide_eq_true (by omega), decide_eq_true (by omega)]; simp only [*]; rfl) | (rw [decide_eq_false (by omega)]; rfl) | (rw [decide_eq_true (by omega), decide_eq_false (by omega)]; rfl)), rfl⟩
 simp only [Bool.not_eq_true', Bool.not_eq_false'] at h304
 refine sQ (pNf rfl) rfl (sQ (pPt rfl rfl) rfl (sQ (qA rfl) rfl (sD (nS (tT (rF1 (rT rfl) ?_))))))
 exact ⟨rfl, by (rw [tScan, tScanL_all, hA]; have := tyOps_spec k; first | (rw [decide_eq_true (by omega), decide_eq_true (by omega)]; simp only [*]; done) | (rw [decide_eq_true (by omega), decide_eq_true (by omega)]; simp only [*]; rfl) | (rw [decide_eq_false (by omega)]; rfl) | (rw [decide_eq_true (by omega), decide_eq_false (by omega)]; rfl)), rfl⟩
 refine sQ (pPt rfl rfl) rfl (sQ (qM rfl) rfl (sK rfl rfl (sK rfl rfl (sK rfl rfl (sK rfl rfl (sK rfl rfl ?_))))))
 refine sQ (pPf rfl rfl) rfl (sQ (qA rfl) rfl (sD (nS (tT (rF1 (rT rfl) ?_)))))
 exact ⟨rfl, by (rw [tScan, tScanL_all, hA]; have := tyOps_spec k; first | (rw [decide_eq_true (by omega), decide_eq_true (by omega)]; simp only [*]; done) | (rw [decide_eq_true (by omega), decide_eq_true (by omega)]; simp only [*]; rfl) | (rw [decide_eq_false (by omega)]; rfl) | (rw [decide_eq_true (by omega), decide_eq_false (by omega)]; rfl)), rfl⟩
 refine sQ (qM rfl) rfl (sK rfl rfl (sK rfl rfl (sK rfl rfl (sK rfl rfl (sK rfl rfl (sQ (pPf rfl rfl) rfl ?_))))))
 refine sQ (qM rfl) rfl (sK rfl rfl (sK rfl rfl (sK rfl rfl (sK rfl rfl (sK rfl rfl (sQ (pPf rfl rfl) rfl ?_))))))
 refine sQ (qA rfl) rfl (sD (nS (tT (rF1 (rT rfl) ?_))))
 exact ⟨rfl, by (rw [tScan, tScanL_all, hA]; have := tyOps_spec k; first | (rw [decide_eq_true (by omega), decide_eq_true (by omega)]; simp only [*]; done) | (rw [decide_eq_true (by omega), decide_eq_true (by omega)]; simp only [*]; rfl) | (rw [decide_eq_false (by omega)]; rfl) | (rw [decide_eq_true (by omega), decide_eq_false (by omega)]; rfl)), rfl⟩
 refine sQ (qA rfl) rfl (sD (nS (cF rfl ?_)))
 refine tR (sB (qE rfl rfl) rfl rfl (fun h360 => ?_) (fun h360 => ?_))
 refine sQ (qA rfl) rfl (sD (nS (qT rfl ?_)))
 refine tR (sQ (qA rfl) rfl (sD (nrm_block (nS (tS (tR ?_))))))
 refine sL (lBs rfl rfl) rfl rfl ?_
 refine sB (pure_leq rfl rfl) rfl rfl (fun h373 => ?_) (fun h373 => ?_)
 refine sQ (qM rfl) rfl (sQ (qM rfl) rfl (sQ (qF0 rfl) rfl (sL (lBs rfl rfl) rfl rfl ?_)))
 refine sQ (pLn rfl rfl) rfl (sB (qE rfl rfl) rfl rfl (fun h379 => ?_) (fun h379 => ?_))
 refine sQ (pPt rfl rfl) rfl (sQ (qM rfl) rfl (sQ (qF0 rfl) rfl (sL (lBs rfl rfl) rfl rfl ?_)))
 refine sQ (pure_makeFunc rfl rfl) rfl (seq_valbo rfl (containsNot_Type _ _ _ _ _ hsl _ [] _ [.blk b4 [.int .i64 d]] (tScan · (d + 1)) ks rfl hA (fun i e he => typeScan_1 _ _ _ _ _ (hsl.all e (List.mem_of_getElem? he)) hd (ih _ (hkl.inv he ty0).1 _ _ _ (by omega) (hkl.inv he ty0).2))) perm_all rfl rfl (fun h385 => ?_) (fun h385 => ?_))
 simp only [Bool.not_eq_true', Bool.not_eq_false'] at h385
 refine sQ (pNt rfl) rfl (sQ (pPt rfl rfl) rfl (sQ (qA rfl) rfl (sD (nS (tT (rF1 (rT rfl) ?_))))))
 exact ⟨rfl, by (rw [tScan, tScanL_all, hA]; have := tyOps_spec k; first | (rw [decide_eq_true (by omega), decide_eq_true (by omega)]; simp only [*]; done) | (rw [decide_eq_true (by omega), decide_eq_true (by omega)]; simp only [*]; rfl) | (rw [decide_eq_false (by omega)]; rfl) | (rw [decide_eq_true (by omega), decide_eq_false (by omega)]; rfl)), rfl⟩
 simp only [Bool.not_eq_true', Bool.not_eq_false'] at h385
 refine sQ (pNf rfl) rfl (sQ (pPt rfl rfl) rfl (sQ (qA rfl) rfl (sD (nS (tT (rF1 (rT rfl) ?_))))))
 exact ⟨rfl, by (rw [tScan, tScanL_all, hA]; have := tyOps_spec k; first | (rw [decide_eq_true (by omega), decide_eq_true (by omega)]; simp only [*]; done) | (rw [decide_eq_true (by omega), decide_eq_true (by omega)]; simp only [*]; rfl) | (rw [decide_eq_false (by omega)]; rfl) | (rw [decide_eq_true (by omega), decide_eq_false (by omega)]; rfl)), rfl⟩
 refine sQ (pPt rfl rfl) rfl (sQ (qM rfl) rfl (sK rfl rfl (sK rfl rfl (sK rfl rfl (sK rfl rfl (sK rfl rfl ?_))))))
 refine sQ (pPf rfl rfl) rfl (sQ (qA rfl) rfl (sD (nS (tT (rF1 (rT rfl) ?_)))))
 exact ⟨rfl, by (rw [tScan, tScanL_all, hA]; have := tyOps_spec k; first | (rw [decide_eq_true (by omega), decide_eq_true (by omega)]; simp only [*]; done) | (rw [decide_eq_true (by omega), decide_eq_true (by omega)]; simp only [*]; rfl) | (rw [decide_eq_false (by omega)]; rfl) | (rw [decide_eq_true (by omega), decide_eq_false (by omega)]; rfl)), rfl⟩
 refine sQ (qM rfl) rfl (sK rfl rfl (sK rfl rfl (sK rfl rfl (sK rfl rfl (sK rfl rfl (sQ (pPf rfl rfl) rfl ?_))))))
 refine sQ (qM rfl) rfl (sK rfl rfl (sK rfl rfl (sK rfl rfl (sK rfl rfl (sK rfl rfl (sQ (pPf rfl rfl) rfl ?_))))))
 refine sQ (qA rfl) rfl (sD (nS (tT (rF1 (rT rfl) ?_))))
 exact ⟨rfl, by (rw [tScan, tScanL_all, hA]; have := tyOps_spec k; first | (rw [decide_eq_true (by omega), decide_eq_true (by omega)]; simp only [*]; done) | (rw [decide_eq_true (by omega), decide_eq_true (by omega)]; simp only [*]; rfl) | (rw [decide_eq_false (by omega)]; rfl) | (rw [decide_eq_true (by omega), decide_eq_false (by omega)]; rfl)), rfl⟩
 refine sQ (qA rfl) rfl (sD (nS (cF rfl ?_)))
 refine tK (nrm_block (nS (tS (tR (sL (lBs rfl rfl) rfl rfl ?_)))))
 refine sB (pure_leq rfl rfl) rfl rfl (fun h446 => ?_) (fun h446 => ?_)
 refine sQ (qM rfl) rfl (sQ (qM rfl) rfl (sQ (qF0 rfl) rfl (sL (lBs rfl rfl) rfl rfl ?_)))
 refine sQ (pLn rfl rfl) rfl (sP (pure_eql_f rfl rfl (by omega)) rfl rfl ?_)
 refine sQ (pPt rfl rfl) rfl (sQ (qM rfl) rfl (sK rfl rfl (sK rfl rfl (sK rfl rfl (sK rfl rfl (sK rfl rfl ?_))))))
 refine sQ (pPf rfl rfl) rfl (sQ (qA rfl) rfl (sD (nS (tT (rF1 (rT rfl) ?_)))))
 exact ⟨rfl, by (rw [tScan, tScanL_all, hA]; have := tyOps_spec k; first | (rw [decide_eq_true (by omega), decide_eq_true (by omega)]; simp only [*]; done) | (rw [decide_eq_true (by omega), decide_eq_true (by omega)]; simp only [*]; rfl) | (rw [decide_eq_false (by omega)]; rfl) | (rw [decide_eq_true (by omega), decide_eq_false (by omega)]; rfl)), rfl⟩
 refine sQ (qM rfl) rfl (sK rfl rfl (sK rfl rfl (sK rfl rfl (sK rfl rfl (sK rfl rfl (sQ (pPf rfl rfl) rfl ?_))))))
 refine sQ (qM rfl) rfl (sK rfl rfl (sK rfl rfl (sK rfl rfl (sK rfl rfl (sK rfl rfl (sQ (pPf rfl rfl) rfl ?_))))))
 refine sQ (qA rfl) rfl (sD (nS (tT (rF1 (rT rfl) ?_))))
 exact ⟨rfl, by (rw [tScan, tScanL_all, hA]; have := tyOps_spec k; first | (rw [decide_eq_true (by omega), decide_eq_true (by omega)]; simp only [*]; done) | (rw [decide_eq_true (by omega), decide_eq_true (by omega)]; simp only [*]; rfl) | (rw [decide_eq_false (by omega)]; rfl) | (rw [decide_eq_true (by omega), decide_eq_false (by omega)]; rfl)), rfl⟩
theorem typeValid_fn (t : Ty) (G : IM) (cells : List Value) (hr : RTy G t cells) : Fn Tryz.prog 68 [.agg ⟨cells⟩] [] G (Val (.bool (tValid t)) G) := by
 have hl := hr.len
 have hv := typeScan_fn t 1 G cells (by omega) hr
 refine fn_enter Tryz.func68 rfl Tryz.ntmps68 Tryz.results68 rfl ?_
 intro w0
 refine tS (tR ?_)
 refine sE (step_box_a rfl rfl) rfl (fun b3 => ?_)
 refine sQ (qA rfl) rfl (sD (nS (tS (tR (sL (load_a rfl rfl (at_blk_all (by repeat first | exact mH | apply mT)) (by assumption)) rfl rfl ?_)))))
 refine seq_val rfl (hv) rfl rfl ?_
 refine sQ (qA rfl) rfl (sD (nS (tT (rF1 (rT rfl) ?_))))
 exact ⟨rfl, rfl, rfl⟩
theorem consistent_fn : ∀ (t t' : Ty) (G : IM) (cells cells' : List Value), RTy G t cells → RTy G t' cells' →
  Fn Tryz.prog 108 [.agg ⟨cells⟩, .agg ⟨cells'⟩] [] G (Val (.bool (tCons t t')) G) := by
 refine Ty.ind fun k ks ih t' G cells cells' hr hr' => ?_
 obtain ⟨k', ks'⟩ := t'
 obtain ⟨p, c, es, rfl, hk, hsl, hkl⟩ := hr.open
 obtain ⟨p', c', es', rfl, hk', hsl', hkl'⟩ := hr'.open
 simp only [Ty.k, Ty.ks] at hk hsl hkl hk' hsl' hkl' ⊢
 have hn := hsl.le
 have hn' := hsl'.le
 obtain ⟨A, hA⟩ : ∃ A, tConsL ks ks' = A := ⟨_, rfl⟩
 have hA' : A = true ↔ ks.length = ks'.length ∧ ∀ i, i < ks.length → tCons (ks.getD i ty0) (ks'.getD i ty0) = true := by
  rw [← hA, tConsL_iff]
  constructor
  ·rintro ⟨h1, h2⟩
   refine ⟨h1, fun i hi => ?_⟩
   have := h2 i hi (by omega)
   simpa [List.getD_eq_getElem?_getD, List.getElem?_eq_getElem hi, List.getElem?_eq_getElem (show i < ks'.length by omega)] using this
  ·rintro ⟨h1, h2⟩
   refine ⟨h1, fun i hi hi' => ?_⟩
   have := h2 i hi
   simpa [List.getD_eq_getElem?_getD, List.getElem?_eq_getElem hi, List.getElem?_eq_getElem hi'] using this
 refine fn_enter Tryz.func108 rfl Tryz.ntmps108 Tryz.results108 rfl ?_
 intro w0
 refine tS (tR ?_)
 refine sE (step_box_a rfl rfl) rfl (fun b3 => ?_)
 refine sE (step_box_a rfl rfl) rfl (fun b4 => ?_)
 refine sQ (qA rfl) rfl (sD (nS (tS (tR (sQ (qF0 rfl) rfl (sL (lBs rfl rfl) rfl rfl ?_))))))
 refine sB (qE rfl rfl) rfl rfl (fun h12 => ?_) (fun h12 => ?_)
 refine sQ (qM rfl) rfl (sK rfl rfl (sK rfl rfl (sK rfl rfl (sQ (pPt rfl rfl) rfl (sQ (qM rfl) rfl (sK rfl rfl ?_))))))
 refine sK rfl rfl (sK rfl rfl (sK rfl rfl (sK rfl rfl (sK rfl rfl (sK rfl rfl (sK rfl rfl ?_))))))
 refine sK rfl rfl (sK rfl rfl (sK rfl rfl (sK rfl rfl (sQ (pPt rfl rfl) rfl (sQ (qA rfl) rfl (sD ?_))))))
 refine nS (tT (rF1 (rT rfl) ?_))
 exact ⟨rfl, by (rw [tCons_mk, hA]; first | (rw [decide_eq_true (p := k = 1) (by omega)]; rfl) | (rw [decide_eq_false (p := k = 1) (by omega), decide_eq_true (p := k' = 1) (by omega)]; rfl) | (rw [decide_eq_false (p := k = 1) (by omega), decide_eq_false (p := k' = 1) (by omega), decide_eq_false (p := k = k') (by omega)]; rfl) | (rw [decide_eq_false (p := k = 1) (by omega), decide_eq_false (p := k' = 1) (by omega), decide_eq_true (p := k = k') (by omega)]; simp only [*]; rfl)), rfl⟩
 refine sQ (qM rfl) rfl (sQ (qF0 rfl) rfl (sL (lBs rfl rfl) rfl rfl ?_))
 refine sB (qE rfl rfl) rfl rfl (fun h41 => ?_) (fun h41 => ?_)
 refine sQ (pPf rfl rfl) rfl (sQ (qM rfl) rfl (sK rfl rfl (sK rfl rfl (sK rfl rfl (sK rfl rfl (sK rfl rfl ?_))))))
 refine sK rfl rfl (sK rfl rfl (sK rfl rfl (sK rfl rfl (sK rfl rfl (sK rfl rfl (sK rfl rfl ?_))))))
 refine sQ (pPt rfl rfl) rfl (sQ (qA rfl) rfl (sD (nS (tT (rF1 (rT rfl) ?_)))))
 exact ⟨rfl, by (rw [tCons_mk, hA]; first | (rw [decide_eq_true (p := k = 1) (by omega)]; rfl) | (rw [decide_eq_false (p := k = 1) (by omega), decide_eq_true (p := k' = 1) (by omega)]; rfl) | (rw [decide_eq_false (p := k = 1) (by omega), decide_eq_false (p := k' = 1) (by omega), decide_eq_false (p := k = k') (by omega)]; rfl) | (rw [decide_eq_false (p := k = 1) (by omega), decide_eq_false (p := k' = 1) (by omega), decide_eq_true (p := k = k') (by omega)]; simp only [*]; rfl)), rfl⟩
 refine sQ (pPf rfl rfl) rfl (sQ (qM rfl) rfl (sQ (qF0 rfl) rfl (sL (lBs rfl rfl) rfl rfl ?_)))
 refine sQ (qF0 rfl) rfl (sL (lBs rfl rfl) rfl rfl ?_)
 refine sB (qE rfl rfl) rfl rfl (fun h69 => ?_) (fun h69 => ?_)
 refine sQ (qM rfl) rfl (sQ (qF0 rfl) rfl (sL (lBs rfl rfl) rfl rfl ?_))
 refine sQ (qF0 rfl) rfl (sL (lBs rfl rfl) rfl rfl ?_)
 refine seq_valb rfl (equalFunc_Type _ _ _ _ _ _ _ _ _ hsl hsl' _ [] [] [] (fun i => tCons (ks.getD i ty0) (ks'.getD i ty0)) A hA' (fun i e e' he he' => ih _ (hkl.inv he ty0).1 _ _ _ _ (hkl.inv he ty0).2 (hkl'.inv he' ty0).2)) rfl rfl (fun h75 => ?_) (fun h75 => ?_)
 refine sQ (pPt rfl rfl) rfl (sQ (pPf rfl rfl) rfl (sQ (qA rfl) rfl (sD (nS (tT (rF1 (rT rfl) ?_))))))
 exact ⟨rfl, by (rw [tCons_mk, hA]; first | (rw [decide_eq_true (p := k = 1) (by omega)]; rfl) | (rw [decide_eq_false (p := k = 1) (by omega), decide_eq_true (p := k' = 1) (by omega)]; rfl) | (rw [decide_eq_false (p := k = 1) (by omega), decide_eq_false (p := k' = 1) (by omega), decide_eq_false (p := k = k') (by omega)]; rfl) | (rw [decide_eq_false (p := k = 1) (by omega), decide_eq_false (p := k' = 1) (by omega), decide_eq_true (p := k = k') (by omega)]; simp only [*]; rfl)), rfl⟩
 refine sQ (pPt rfl rfl) rfl (sQ (pPf rfl rfl) rfl (sQ (qA rfl) rfl (sD (nS (tT (rF1 (rT rfl) ?_))))))
 exact ⟨rfl, by (rw [tCons_mk, hA]; first | (rw [decide_eq_true (p := k = 1) (by omega)]; rfl) | (rw [decide_eq_false (p := k = 1) (by omega), decide_eq_true (p := k' = 1) (by omega)]; rfl) | (rw [decide_eq_false (p := k = 1) (by omega), decide_eq_false (p := k' = 1) (by omega), decide_eq_false (p := k = k') (by omega)]; rfl) | (rw [decide_eq_false (p := k = 1) (by omega), decide_eq_false (p := k' = 1) (by omega), decide_eq_true (p := k = k') (by omega)]; simp only [*]; rfl)), rfl⟩
 refine sQ (qM rfl) rfl (sK rfl rfl (sK rfl rfl (sK rfl rfl (sK rfl rfl (sK rfl rfl (sQ (pPf rfl rfl) rfl ?_))))))
 refine sQ (pPf rfl rfl) rfl (sQ (qA rfl) rfl (sD (nS (tT (rF1 (rT rfl) ?_)))))
 exact ⟨rfl, by (rw [tCons_mk, hA]; first | (rw [decide_eq_true (p := k = 1) (by omega)]; rfl) | (rw [decide_eq_false (p := k = 1) (by omega), decide_eq_true (p := k' = 1) (by omega)]; rfl) | (rw [decide_eq_false (p := k = 1) (by omega), decide_eq_false (p := k' = 1) (by omega), decide_eq_false (p := k = k') (by omega)]; rfl) | (rw [decide_eq_false (p := k = 1) (by omega), decide_eq_false (p := k' = 1) (by omega), decide_eq_true (p := k = k') (by omega)]; simp only [*]; rfl)), rfl⟩
theorem consistentT_fn (t t' : Ty) (G : IM) (cells cells' : List Value) (hr : RTy G t cells) (hr' : RTy G t' cells') :
  Fn Tryz.prog 150 [.agg ⟨cells⟩, .agg ⟨cells'⟩] [] G (Val (.bool (tConsistent t t')) G) := by
 have hl := hr.len
 have hl' := hr'.len
 have hv := typeValid_fn t G cells hr
 have hv' := typeValid_fn t' G cells' hr'
 have hc := consistent_fn t t' G cells cells' hr hr'
 refine fn_enter Tryz.func150 rfl Tryz.ntmps150 Tryz.results150 rfl ?_
 intro w0
 refine tS (tR ?_)
 refine sE (step_box_a rfl rfl) rfl (fun b3 => ?_)
 refine sE (step_box_a rfl rfl) rfl (fun b4 => ?_)
 refine sQ (qA rfl) rfl (sD (nS (tS (tR (sL (load_a rfl rfl (at_blk_all (by repeat first | exact mH | apply mT)) (by assumption)) rfl rfl ?_)))))
 refine seq_valb rfl (hv) rfl rfl (fun h11 => ?_) (fun h11 => ?_)
 refine sQ (qM rfl) rfl (sL (load_a rfl rfl (at_blk_all (by repeat first | exact mH | apply mT)) (by assumption)) rfl rfl ?_)
 refine seq_valb rfl (hv') rfl rfl (fun h14 => ?_) (fun h14 => ?_)
 refine sQ (pPt rfl rfl) rfl (sQ (qM rfl) rfl (sL (load_a rfl rfl (at_blk_all (by repeat first | exact mH | apply mT)) (by assumption)) rfl rfl ?_))
 refine sL (load_a rfl rfl (at_blk_all (by repeat first | exact mH | apply mT)) (by assumption)) rfl rfl ?_
 refine seq_valb rfl (hc) rfl rfl (fun h19 => ?_) (fun h19 => ?_)
 refine sQ (pPt rfl rfl) rfl (sQ (qA rfl) rfl (sD (nS (tT (rF1 (rT rfl) ?_)))))
 exact ⟨rfl, by simp only [tConsistent]; simp only [*, Bool.true_and, Bool.false_and, Bool.and_true], rfl⟩
 refine sQ (pPt rfl rfl) rfl (sQ (qA rfl) rfl (sD (nS (tT (rF1 (rT rfl) ?_)))))
 exact ⟨rfl, by simp only [tConsistent]; simp only [*, Bool.true_and, Bool.false_and, Bool.and_true], rfl⟩
 refine sQ (pPt rfl rfl) rfl (sQ (qM rfl) rfl (sK rfl rfl (sK rfl rfl (sK rfl rfl (sQ (pPf rfl rfl) rfl (sQ (qA rfl) rfl ?_))))))
 refine sD (nS (tT (rF1 (rT rfl) ?_)))
 exact ⟨rfl, by simp only [tConsistent]; simp only [*, Bool.true_and, Bool.false_and, Bool.and_true], rfl⟩
 refine sQ (qM rfl) rfl (sK rfl rfl (sK rfl rfl (sQ (pPf rfl rfl) rfl (sQ (qM rfl) rfl (sK rfl rfl (sK rfl rfl ?_))))))
 refine sK rfl rfl (sQ (pPf rfl rfl) rfl (sQ (qA rfl) rfl (sD (nS (tT (rF1 (rT rfl) ?_))))))
 exact ⟨rfl, by simp only [tConsistent]; simp only [*, Bool.true_and, Bool.false_and, Bool.and_true], rfl⟩
theorem operands_fn (k : Int) (G : IM) (hk : I64 k) : Fn Tryz.prog 147 [.int .i64 k] [] G (Val (.int .i64 (tmOps k)) G) := by
 unfold I64 at hk
 refine fn_enter Tryz.func147 rfl Tryz.ntmps147 Tryz.results147 rfl ?_
 intro w0
 refine tS (tR (sQ (qA rfl) rfl (sD (nS (tS (tS ?_))))))
 refine tR (sQ (qM rfl) rfl (seq_valb rfl (within_fn _ _ _ _) rfl rfl (fun h10 => ?_) (fun h10 => ?_)))
 refine sQ (pNt rfl) rfl (sD (nS (cF rfl ?_)))
 refine tK (nS (tS (tR ?_)))
 (refine seq_step (step_buildSlice rfl rfl rfl (by omega) (by unfold maxLen; omega) rfl) rfl ?_; rintro _ ⟨b19, rfl⟩)
 refine sQ (qM rfl) rfl ?_
 (have hkk : 1 ≤ k ∧ k ≤ 14 := withinB_t (by assumption); refine sP (pure_sub rfl rfl (by omega) (by omega)) rfl rfl ?_)
 refine sP (pure_indexAddr rfl rfl rfl (by omega) (by omega)) rfl rfl ?_
 refine sL (load_s rfl rfl (at_slc (by repeat first | exact mH | apply mT) (one_at (by rw [Nat.zero_add, Nat.mul_one]; exact tmOps_tab hkk)))) rfl rfl ?_
 refine sQ (qA rfl) rfl (sD (nS (tT (rF1 (rT rfl) ?_))))
 exact ⟨rfl, rfl, rfl⟩
 refine sQ (pNf rfl) rfl (sD (nS (qT rfl ?_)))
 refine tS (tR (sQ (qA rfl) rfl (sD (nS (tT (rS ?_))))))
 refine rF1 (rT rfl) ?_
 exact ⟨rfl, by rw [tmOps_no (withinB_f (by assumption))], rfl⟩
theorem nodeOk_fn (k : Int) (nm : ByteArray) (num : Int) (ty fr : Ty) (lb : Int) (ks : List Tm) (G : IM) (cells : List Value) (hr : RTm G (.mk k nm num ty fr lb ks) cells) :
  Fn Tryz.prog 103 [.agg ⟨cells⟩] [] G (Val (.bool (tmNode k nm num ty fr lb ks.length)) G) := by
 obtain ⟨tk, tks⟩ := ty
 obtain ⟨fk, fks⟩ := fr
 obtain ⟨pt, ct, pf, cf, p, c, es, rfl, hk, hnum, hlb, hty, hfr, hsl, hkl⟩ := hr.open9
 have hi := @tmNode_iff k nm num (.mk tk tks) (.mk fk fks) lb ks.length
 obtain ⟨R, hR⟩ : ∃ R, tmNode k nm num (.mk tk tks) (.mk fk fks) lb ks.length = R := ⟨_, rfl⟩
 rw [hR] at hi ⊢
 clear hR hr
 have o1 := operands_fn k G hk
 have o2 := isName_fn nm G
 have o3 := typeValid_fn _ G _ hty
 have o4 := isNoType_fn _ G _ hty
 have o5 := consistentT_fn _ _ G _ _ hfr hty
 have o6 := isLabel_fn lb G
 have o7 := isNoType_fn _ G _ hfr
 refine fn_enter Tryz.func103 rfl Tryz.ntmps103 Tryz.results103 rfl ?_
 intro w0
 refine tS (tR ?_)
 refine sE (step_box_a rfl rfl) rfl (fun b3 => ?_)
 refine sQ (qA rfl) rfl (sD (nS (tS (tS (tri_draw mixed rfl ?_)))))
 refine any_pure (i := 0) (l' := [tt,ff,ff,ff,ff,ff,ff]) rfl npI (qF0 rfl) rfl (by kernel_rfl) rfl rfl ?_
 refine aL 1 rfl (lBs rfl rfl) rfl ?_
 refine aP 3 rfl (qF0 rfl) rfl ?_
 refine aL 4 rfl (lBs rfl rfl) rfl ?_
 refine aP 5 rfl (pLn rfl rfl) rfl ?_
 refine aO' 2 ?_
 refine one_val rfl rfl (o1) rfl rfl rfl ?_
 refine any_bool (i := 6) (l' := [tt,tt,tt,tt,tt,tt,tt]) rfl npI (pure_neq rfl rfl) rfl (by kernel_rfl) rfl rfl (fun h17 => ?_) (fun h17 => ?_)
 refine aD' ?_
 refine nS (qT rfl ?_)
 refine tS (tR (sQ (qA rfl) rfl (sD (nS (tT (rS ?_))))))
 refine rF1 (rT rfl) ?_
 exact ⟨rfl, by (cases R with | false => rfl | true => (exfalso; obtain ⟨i1, i2, i3, i4, i5, i6, i7, i8, i9⟩ := hi.1 rfl; first | omega | (have j := i2 (by omega); simp_all; done) | (have j := i3 (by omega); simp_all; done) | (have j := i4 (by omega); simp_all; done) | (have j := i5 (by omega); simp_all; done) | (have j := i6 (by omega); simp_all; done) | (have j := i7 (by omega); simp_all; done) | (have j := i8 (by omega); simp_all; done) | (have j := i9 (by omega); simp_all; done))), rfl⟩
 refine aD' ?_
 refine nS (cF rfl ?_)
 refine tK (nS (tS (tR (sQ (qF0 rfl) rfl (sL (lBs rfl rfl) rfl rfl ?_)))))
 refine sB (qE rfl rfl) rfl rfl (fun h39 => ?_) (fun h39 => ?_)
 refine sQ (qM rfl) rfl (sK rfl rfl (sK rfl rfl (sK rfl rfl (sQ (pPt rfl rfl) rfl (sQ (qA rfl) rfl (sD ?_))))))
 refine nS (tS (tR (sQ (qF0 rfl) rfl (sL (lBs rfl rfl) rfl rfl ?_))))
 refine sP (pure_eql_f rfl rfl (by omega)) rfl rfl ?_
 refine sQ (qM rfl) rfl (sQ (qF0 rfl) rfl (sL (lBs rfl rfl) rfl rfl ?_))
 refine sP (pure_eql_f rfl rfl (by omega)) rfl rfl ?_
 refine sQ (pPf rfl rfl) rfl (sQ (qM rfl) rfl (sQ (qF0 rfl) rfl (sL (lBs rfl rfl) rfl rfl ?_)))
 refine sP (pure_eql_f rfl rfl (by omega)) rfl rfl ?_
 refine sQ (pPf rfl rfl) rfl (sQ (qA rfl) rfl (sD (nS (tS (tR (sQ (qF0 rfl) rfl ?_))))))
 refine sL (lBs rfl rfl) rfl rfl ?_
 refine sP (pure_eql_f rfl rfl (by omega)) rfl rfl ?_
 refine sQ (qA rfl) rfl (sD (nS (tS (tR (sQ (qA rfl) rfl (sD ?_))))))
 refine nS (tS (tS (tR (sQ (qF0 rfl) rfl (sL (lBs rfl rfl) rfl rfl ?_)))))
 refine sP (pure_eql_f rfl rfl (by omega)) rfl rfl ?_
 refine sD (nS (cF rfl ?_))
 refine tK (nS (tS (tri_block (tS (tS (tR ?_))))))
 refine sQ (qM rfl) rfl (sQ (qM rfl) rfl (sQ (qF0 rfl) rfl (sL (lBs rfl rfl) rfl rfl ?_)))
 refine seq_valb rfl (o2) rfl rfl (fun h99 => ?_) (fun h99 => ?_)
 refine sQ (pNt rfl) rfl (sQ (pPt rfl rfl) rfl (sQ (qA rfl) rfl (sD (nS (cF rfl ?_)))))
 refine tS (tR (sQ (qM rfl) rfl (sQ (pNt rfl) rfl (sQ (qM rfl) rfl (sK rfl rfl (sK rfl rfl ?_))))))
 refine sK rfl rfl (sQ (pPf rfl rfl) rfl (sQ (qA rfl) rfl (sD (nS (cF rfl ?_)))))
 refine tR (sQ (qF0 rfl) rfl (sL (lBs rfl rfl) rfl rfl ?_))
 refine sQ (qM rfl) rfl (seq_valb rfl (within_fn _ _ _ _) rfl rfl (fun h123 => ?_) (fun h123 => ?_))
 refine sQ (pNt rfl) rfl (sQ (qA rfl) rfl (sD (nS (cF rfl ?_))))
 refine tS (tS (tR (sQ (qM rfl) rfl (sQ (qM rfl) rfl (sK rfl rfl (sK rfl rfl ?_))))))
 refine sK rfl rfl (sK rfl rfl (sQ (pPf rfl rfl) rfl (sQ (qA rfl) rfl (sD (nS (cF rfl ?_))))))
 refine tR (sQ (qM rfl) rfl (sQ (pNf rfl) rfl (sQ (qM rfl) rfl (sQ (qF0 rfl) rfl (sL (lBa rfl rfl) rfl rfl ?_)))))
 refine seq_valb rfl (o4) rfl rfl (fun h149 => ?_) (fun h149 => ?_)
 refine sQ (pNt rfl) rfl (sQ (pPt rfl rfl) rfl (sQ (qA rfl) rfl (sD (nS (cF rfl ?_)))))
 refine tS (tS (tR (sQ (qM rfl) rfl (sQ (qM rfl) rfl (sK rfl rfl (sK rfl rfl ?_))))))
 refine sK rfl rfl (sK rfl rfl (sK rfl rfl (sK rfl rfl (sK rfl rfl (sK rfl rfl (sK rfl rfl ?_))))))
 refine sK rfl rfl (sK rfl rfl (sK rfl rfl (sQ (pPf rfl rfl) rfl (sQ (qA rfl) rfl (sD (nS ?_))))))
 refine cF rfl ?_
 refine tR (sQ (qM rfl) rfl (sQ (pNf rfl) rfl (sQ (qM rfl) rfl (sQ (qF0 rfl) rfl (sL (lBa rfl rfl) rfl rfl ?_)))))
 refine seq_valb rfl (o7) rfl rfl (fun h184 => ?_) (fun h184 => ?_)
 refine sQ (pNt rfl) rfl (sQ (qM rfl) rfl (sQ (qF0 rfl) rfl (sL (lBs rfl rfl) rfl rfl ?_)))
 refine sB (pure_neq rfl rfl) rfl rfl (fun h189 => ?_) (fun h189 => ?_)
 refine sQ (pPf rfl rfl) rfl (sQ (pPt rfl rfl) rfl (sQ (qA rfl) rfl (sD (nS (qT rfl ?_)))))
 refine tS (tR (sQ (qA rfl) rfl (sD (nS (tT (rB ?_))))))
 refine rS (rF1 (rT rfl) ?_)
 exact ⟨rfl, by (cases R with | false => rfl | true => (exfalso; obtain ⟨i1, i2, i3, i4, i5, i6, i7, i8, i9⟩ := hi.1 rfl; first | omega | (have j := i2 (by omega); simp_all; done) | (have j := i3 (by omega); simp_all; done) | (have j := i4 (by omega); simp_all; done) | (have j := i5 (by omega); simp_all; done) | (have j := i6 (by omega); simp_all; done) | (have j := i7 (by omega); simp_all; done) | (have j := i8 (by omega); simp_all; done) | (have j := i9 (by omega); simp_all; done))), rfl⟩
 refine sQ (pPf rfl rfl) rfl (sQ (pPt rfl rfl) rfl (sQ (qA rfl) rfl (sD (nS (cF rfl ?_)))))
 refine tK (nrm_block (nS (tS (tR (sQ (qA rfl) rfl (sD ?_))))))
 refine nS (tT (rF1 (rT rfl) ?_))
 exact ⟨rfl, by rw [hi.2 ⟨by omega, fun _ => by (first | assumption | (exfalso; omega) | exact Classical.not_not.1 (by assumption)), fun _ => by (first | assumption | (exfalso; omega) | exact Classical.not_not.1 (by assumption)), fun _ => by (first | assumption | (exfalso; omega) | exact Classical.not_not.1 (by assumption)), fun _ => by (first | assumption | (exfalso; omega) | exact Classical.not_not.1 (by assumption)), fun _ => by (first | assumption | (exfalso; omega) | exact Classical.not_not.1 (by assumption)), fun _ => by (first | assumption | (exfalso; omega) | exact Classical.not_not.1 (by assumption)), fun _ => ⟨by (first | assumption | (exfalso; omega)), by (first | assumption | (exfalso; omega))⟩, fun _ => ⟨by (first | assumption | (exfalso; omega)), by (first | assumption | omega)⟩⟩], rfl⟩
 refine sQ (pNf rfl) rfl (sQ (qM rfl) rfl (sK rfl rfl (sK rfl rfl (sK rfl rfl (sQ (pPt rfl rfl) rfl (sQ (pPt rfl rfl) rfl ?_))))))
 refine sQ (qA rfl) rfl (sD (nS (qT rfl ?_)))
 refine tS (tR (sQ (qA rfl) rfl (sD (nS (tT (rB ?_))))))
 refine rS (rF1 (rT rfl) ?_)
 exact ⟨rfl, by (cases R with | false => rfl | true => (exfalso; obtain ⟨i1, i2, i3, i4, i5, i6, i7, i8, i9⟩ := hi.1 rfl; first | omega | (have j := i2 (by omega); simp_all; done) | (have j := i3 (by omega); simp_all; done) | (have j := i4 (by omega); simp_all; done) | (have j := i5 (by omega); simp_all; done) | (have j := i6 (by omega); simp_all; done) | (have j := i7 (by omega); simp_all; done) | (have j := i8 (by omega); simp_all; done) | (have j := i9 (by omega); simp_all; done))), rfl⟩
 refine sQ (pNf rfl) rfl (sQ (pPt rfl rfl) rfl (sQ (qA rfl) rfl (sD (nS (qT rfl ?_)))))
 refine tS (tR (sQ (qA rfl) rfl (sD (nS (tT (rB ?_))))))
 refine rS (rF1 (rT rfl) ?_)
 exact ⟨rfl, by (cases R with | false => rfl | true => (exfalso; obtain ⟨i1, i2, i3, i4, i5, i6, i7, i8, i9⟩ := hi.1 rfl; first | omega | (have j := i2 (by omega); simp_all; done) | (have j := i3 (by omega); simp_all; done) | (have j := i4 (by omega); simp_all; done) | (have j := i5 (by omega); simp_all; done) | (have j := i6 (by omega); simp_all; done) | (have j := i7 (by omega); simp_all; done) | (have j := i8 (by omega); simp_all; done) | (have j := i9 (by omega); simp_all; done))), rfl⟩
 refine sQ (pNf rfl) rfl (sQ (qA rfl) rfl (sD (nS (qT rfl ?_))))
 refine tS (tR (sQ (qA rfl) rfl (sD (nS (tT (rB ?_))))))
 refine rS (rF1 (rT rfl) ?_)
 exact ⟨rfl, by (cases R with | false => rfl | true => (exfalso; obtain ⟨i1, i2, i3, i4, i5, i6, i7, i8, i9⟩ := hi.1 rfl; first | omega | (have j := i2 (by omega); simp_all; done) | (have j := i3 (by omega); simp_all; done) | (have j := i4 (by omega); simp_all; done) | (have j := i5 (by omega); simp_all; done) | (have j := i6 (by omega); simp_all; done) | (have j := i7 (by omega); simp_all; done) | (have j := i8 (by omega); simp_all; done) | (have j := i9 (by omega); simp_all; done))), rfl⟩
 refine sQ (pNf rfl) rfl (sQ (pPt rfl rfl) rfl (sQ (qA rfl) rfl (sD (nS (qT rfl ?_)))))
 refine tK (nS (qT rfl ?_))
 refine tS (tR (sQ (qA rfl) rfl (sD (nS (tT (rB ?_))))))
 refine rS (rF1 (rT rfl) ?_)
 exact ⟨rfl, by (cases R with | false => rfl | true => (exfalso; obtain ⟨i1, i2, i3, i4, i5, i6, i7, i8, i9⟩ := hi.1 rfl; first | omega | (have j := i2 (by omega); simp_all; done) | (have j := i3 (by omega); simp_all; done) | (have j := i4 (by omega); simp_all; done) | (have j := i5 (by omega); simp_all; done) | (have j := i6 (by omega); simp_all; done) | (have j := i7 (by omega); simp_all; done) | (have j := i8 (by omega); simp_all; done) | (have j := i9 (by omega); simp_all; done))), rfl⟩
 refine sQ (qM rfl) rfl (sQ (qF0 rfl) rfl (sL (lBs rfl rfl) rfl rfl ?_))
 refine sB (qE rfl rfl) rfl rfl (fun h297 => ?_) (fun h297 => ?_)
 refine sQ (pPf rfl rfl) rfl (sQ (qA rfl) rfl (sD (nS (tS (tR (sQ (qF0 rfl) rfl ?_))))))
 refine sL (lBs rfl rfl) rfl rfl ?_
 refine sP (pure_eql_t rfl rfl (by omega)) rfl rfl ?_
 refine sQ (qM rfl) rfl (sK rfl rfl (sK rfl rfl (sK rfl rfl (sQ (pPt rfl rfl) rfl (sQ (qM rfl) rfl (sK rfl rfl ?_))))))
 refine sK rfl rfl (sK rfl rfl (sQ (pPt rfl rfl) rfl (sQ (qA rfl) rfl (sD (nS (tS ?_))))))
 refine tR (sQ (qF0 rfl) rfl (sL (lBs rfl rfl) rfl rfl ?_))
 refine sP (pure_eql_f rfl rfl (by omega)) rfl rfl ?_
 refine sQ (qA rfl) rfl (sD (nS (tS (tR (sQ (qA rfl) rfl (sD ?_))))))
 refine nS (tS (tS (tR (sQ (qF0 rfl) rfl (sL (lBs rfl rfl) rfl rfl ?_)))))
 refine sP (pure_eql_f rfl rfl (by omega)) rfl rfl ?_
 refine sD (nS (cF rfl ?_))
 refine tK (nS (tS (tri_block (tS (tS (tR ?_))))))
 refine sQ (qM rfl) rfl (sQ (qM rfl) rfl (sQ (qF0 rfl) rfl (sL (lBs rfl rfl) rfl rfl ?_)))
 refine seq_valb rfl (o2) rfl rfl (fun h353 => ?_) (fun h353 => ?_)
 refine sQ (pNt rfl) rfl (sQ (pPt rfl rfl) rfl (sQ (qA rfl) rfl (sD (nS (cF rfl ?_)))))
 refine tS (tR (sQ (qM rfl) rfl (sQ (pNt rfl) rfl (sQ (qM rfl) rfl (sK rfl rfl (sK rfl rfl ?_))))))
 refine sK rfl rfl (sQ (pPf rfl rfl) rfl (sQ (qA rfl) rfl (sD (nS (cF rfl ?_)))))
 refine tR (sQ (qF0 rfl) rfl (sL (lBs rfl rfl) rfl rfl ?_))
 refine sQ (qM rfl) rfl (seq_valb rfl (within_fn _ _ _ _) rfl rfl (fun h377 => ?_) (fun h377 => ?_))
 refine sQ (pNt rfl) rfl (sQ (qA rfl) rfl (sD (nS (cF rfl ?_))))
 refine tS (tS (tR (sQ (qM rfl) rfl (sQ (qM rfl) rfl (sQ (qF0 rfl) rfl (sL (lBa rfl rfl) rfl rfl ?_))))))
 refine seq_valb rfl (o3) rfl rfl (fun h390 => ?_) (fun h390 => ?_)
 refine sQ (pNt rfl) rfl (sQ (pPt rfl rfl) rfl (sQ (qA rfl) rfl (sD (nS (cF rfl ?_)))))
 refine tR (sQ (qM rfl) rfl (sQ (pNt rfl) rfl (sQ (qM rfl) rfl (sK rfl rfl (sK rfl rfl (sK rfl rfl ?_))))))
 refine sK rfl rfl (sQ (pPf rfl rfl) rfl (sQ (qA rfl) rfl (sD (nS (cF rfl ?_)))))
 refine tS (tS (tR (sQ (qM rfl) rfl (sQ (qM rfl) rfl (sK rfl rfl (sK rfl rfl ?_))))))
 refine sK rfl rfl (sK rfl rfl (sK rfl rfl (sK rfl rfl (sK rfl rfl (sK rfl rfl (sK rfl rfl ?_))))))
 refine sK rfl rfl (sK rfl rfl (sK rfl rfl (sQ (pPf rfl rfl) rfl (sQ (qA rfl) rfl (sD (nS ?_))))))
 refine cF rfl ?_
 refine tR (sQ (qM rfl) rfl (sQ (pNf rfl) rfl (sQ (qM rfl) rfl (sQ (qF0 rfl) rfl (sL (lBa rfl rfl) rfl rfl ?_)))))
 refine seq_valb rfl (o7) rfl rfl (fun h438 => ?_) (fun h438 => ?_)
 refine sQ (pNt rfl) rfl (sQ (qM rfl) rfl (sQ (qF0 rfl) rfl (sL (lBs rfl rfl) rfl rfl ?_)))
 refine sB (pure_neq rfl rfl) rfl rfl (fun h443 => ?_) (fun h443 => ?_)
 refine sQ (pPf rfl rfl) rfl (sQ (pPt rfl rfl) rfl (sQ (qA rfl) rfl (sD (nS (qT rfl ?_)))))
 refine tS (tR (sQ (qA rfl) rfl (sD (nS (tT (rB ?_))))))
 refine rS (rF1 (rT rfl) ?_)
 exact ⟨rfl, by (cases R with | false => rfl | true => (exfalso; obtain ⟨i1, i2, i3, i4, i5, i6, i7, i8, i9⟩ := hi.1 rfl; first | omega | (have j := i2 (by omega); simp_all; done) | (have j := i3 (by omega); simp_all; done) | (have j := i4 (by omega); simp_all; done) | (have j := i5 (by omega); simp_all; done) | (have j := i6 (by omega); simp_all; done) | (have j := i7 (by omega); simp_all; done) | (have j := i8 (by omega); simp_all; done) | (have j := i9 (by omega); simp_all; done))), rfl⟩
 refine sQ (pPf rfl rfl) rfl (sQ (pPt rfl rfl) rfl (sQ (qA rfl) rfl (sD (nS (cF rfl ?_)))))
 refine tK (nrm_block (nS (tS (tR (sQ (qA rfl) rfl (sD ?_))))))
 refine nS (tT (rF1 (rT rfl) ?_))
 exact ⟨rfl, by rw [hi.2 ⟨by omega, fun _ => by (first | assumption | (exfalso; omega) | exact Classical.not_not.1 (by assumption)), fun _ => by (first | assumption | (exfalso; omega) | exact Classical.not_not.1 (by assumption)), fun _ => by (first | assumption | (exfalso; omega) | exact Classical.not_not.1 (by assumption)), fun _ => by (first | assumption | (exfalso; omega) | exact Classical.not_not.1 (by assumption)), fun _ => by (first | assumption | (exfalso; omega) | exact Classical.not_not.1 (by assumption)), fun _ => by (first | assumption | (exfalso; omega) | exact Classical.not_not.1 (by assumption)), fun _ => ⟨by (first | assumption | (exfalso; omega)), by (first | assumption | (exfalso; omega))⟩, fun _ => ⟨by (first | assumption | (exfalso; omega)), by (first | assumption | omega)⟩⟩], rfl⟩
 refine sQ (pNf rfl) rfl (sQ (qM rfl) rfl (sK rfl rfl (sK rfl rfl (sK rfl rfl (sQ (pPt rfl rfl) rfl (sQ (pPt rfl rfl) rfl ?_))))))
 refine sQ (qA rfl) rfl (sD (nS (qT rfl ?_)))
 refine tS (tR (sQ (qA rfl) rfl (sD (nS (tT (rB ?_))))))
 refine rS (rF1 (rT rfl) ?_)
 exact ⟨rfl, by (cases R with | false => rfl | true => (exfalso; obtain ⟨i1, i2, i3, i4, i5, i6, i7, i8, i9⟩ := hi.1 rfl; first | omega | (have j := i2 (by omega); simp_all; done) | (have j := i3 (by omega); simp_all; done) | (have j := i4 (by omega); simp_all; done) | (have j := i5 (by omega); simp_all; done) | (have j := i6 (by omega); simp_all; done) | (have j := i7 (by omega); simp_all; done) | (have j := i8 (by omega); simp_all; done) | (have j := i9 (by omega); simp_all; done))), rfl⟩
 refine sQ (pNf rfl) rfl (sQ (pPt rfl rfl) rfl (sQ (qA rfl) rfl (sD (nS (qT rfl ?_)))))
 refine tK (nS (qT rfl ?_))
 refine tS (tR (sQ (qA rfl) rfl (sD (nS (tT (rB ?_))))))
 refine rS (rF1 (rT rfl) ?_)
 exact ⟨rfl, by (cases R with | false => rfl | true => (exfalso; obtain ⟨i1, i2, i3, i4, i5, i6, i7, i8, i9⟩ := hi.1 rfl; first | omega | (have j := i2 (by omega); simp_all; done) | (have j := i3 (by omega); simp_all; done) | (have j := i4 (by omega); simp_all; done) | (have j := i5 (by omega); simp_all; done) | (have j := i6 (by omega); simp_all; done) | (have j := i7 (by omega); simp_all; done) | (have j := i8 (by omega); simp_all; done) | (have j := i9 (by omega); simp_all; done))), rfl⟩
 refine sQ (pNf rfl) rfl (sQ (qA rfl) rfl (sD (nS (qT rfl ?_))))
 refine tS (tR (sQ (qA rfl) rfl (sD (nS (tT (rB ?_))))))
 refine rS (rF1 (rT rfl) ?_)
 exact ⟨rfl, by (cases R with | false => rfl | true => (exfalso; obtain ⟨i1, i2, i3, i4, i5, i6, i7, i8, i9⟩ := hi.1 rfl; first | omega | (have j := i2 (by omega); simp_all; done) | (have j := i3 (by omega); simp_all; done) | (have j := i4 (by omega); simp_all; done) | (have j := i5 (by omega); simp_all; done) | (have j := i6 (by omega); simp_all; done) | (have j := i7 (by omega); simp_all; done) | (have j := i8 (by omega); simp_all; done) | (have j := i9 (by omega); simp_all; done))), rfl⟩
 refine sQ (pNf rfl) rfl (sQ (pPt rfl rfl) rfl (sQ (qA rfl) rfl (sD (nS (qT rfl ?_)))))
 refine tK (nS (qT rfl ?_))
 refine tS (tR (sQ (qA rfl) rfl (sD (nS (tT (rB ?_))))))
 refine rS (rF1 (rT rfl) ?_)
 exact ⟨rfl, by (cases R with | false => rfl | true => (exfalso; obtain ⟨i1, i2, i3, i4, i5, i6, i7, i8, i9⟩ := hi.1 rfl; first | omega | (have j := i2 (by omega); simp_all; done) | (have j := i3 (by omega); simp_all; done) | (have j := i4 (by omega); simp_all; done) | (have j := i5 (by omega); simp_all; done) | (have j := i6 (by omega); simp_all; done) | (have j := i7 (by omega); simp_all; done) | (have j := i8 (by omega); simp_all; done) | (have j := i9 (by omega); simp_all; done))), rfl⟩
 refine sQ (pPf rfl rfl) rfl (sQ (qA rfl) rfl (sD (nS (tS (tR (sQ (qF0 rfl) rfl ?_))))))
 refine sL (lBs rfl rfl) rfl rfl ?_
 refine sP (pure_eql_f rfl rfl (by omega)) rfl rfl ?_
 refine sQ (qM rfl) rfl (sQ (qF0 rfl) rfl (sL (lBs rfl rfl) rfl rfl ?_))
 refine sB (qE rfl rfl) rfl rfl (fun h563 => ?_) (fun h563 => ?_)
 refine sQ (pPf rfl rfl) rfl (sQ (qM rfl) rfl (sK rfl rfl (sK rfl rfl (sK rfl rfl (sQ (pPt rfl rfl) rfl (sQ (qA rfl) rfl ?_))))))
 refine sD (nS (tS (tR (sQ (qF0 rfl) rfl (sL (lBs rfl rfl) rfl rfl ?_)))))
 refine sP (pure_eql_f rfl rfl (by omega)) rfl rfl ?_
 refine sQ (qA rfl) rfl (sD (nS (tS (tR (sQ (qA rfl) rfl (sD ?_))))))
 refine nS (tS (tS (tR (sQ (qF0 rfl) rfl (sL (lBs rfl rfl) rfl rfl ?_)))))
 refine sP (pure_eql_f rfl rfl (by omega)) rfl rfl ?_
 refine sD (nS (cF rfl ?_))
 refine tK (nS (tS (tri_block (tS (tS (tR ?_))))))
 refine sQ (qM rfl) rfl (sQ (qM rfl) rfl (sK rfl rfl (sK rfl rfl (sK rfl rfl (sK rfl rfl (sQ (pPf rfl rfl) rfl ?_))))))
 refine sQ (qA rfl) rfl (sD (nS (cF rfl ?_)))
 refine tS (tR (sQ (qM rfl) rfl (sQ (pNf rfl) rfl (sQ (qM rfl) rfl (sQ (qF0 rfl) rfl (sL (lBs rfl rfl) rfl rfl ?_))))))
 refine sB (pure_sneq rfl rfl) rfl rfl (fun h620 => ?_) (fun h620 => ?_)
 refine sQ (pPt rfl rfl) rfl (sQ (qA rfl) rfl (sD (nS (qT rfl ?_))))
 refine tK (nS (qT rfl ?_))
 refine tS (tR (sQ (qA rfl) rfl (sD (nS (tT (rB ?_))))))
 refine rS (rF1 (rT rfl) ?_)
 exact ⟨rfl, by (cases R with | false => rfl | true => (exfalso; obtain ⟨i1, i2, i3, i4, i5, i6, i7, i8, i9⟩ := hi.1 rfl; first | omega | (have j := i2 (by omega); simp_all; done) | (have j := i3 (by omega); simp_all; done) | (have j := i4 (by omega); simp_all; done) | (have j := i5 (by omega); simp_all; done) | (have j := i6 (by omega); simp_all; done) | (have j := i7 (by omega); simp_all; done) | (have j := i8 (by omega); simp_all; done) | (have j := i9 (by omega); simp_all; done))), rfl⟩
 refine sQ (pPt rfl rfl) rfl (sQ (qA rfl) rfl (sD (nS (cF rfl ?_))))
 refine tR (sQ (qF0 rfl) rfl (sL (lBs rfl rfl) rfl rfl ?_))
 refine sQ (qM rfl) rfl (seq_valb rfl (within_fn _ _ _ _) rfl rfl (fun h648 => ?_) (fun h648 => ?_))
 refine sQ (pNt rfl) rfl (sQ (qA rfl) rfl (sD (nS (cF rfl ?_))))
 refine tS (tS (tR (sQ (qM rfl) rfl (sQ (qM rfl) rfl (sQ (qF0 rfl) rfl (sL (lBa rfl rfl) rfl rfl ?_))))))
 refine seq_valb rfl (o3) rfl rfl (fun h661 => ?_) (fun h661 => ?_)
 refine sQ (pNt rfl) rfl (sQ (pPt rfl rfl) rfl (sQ (qA rfl) rfl (sD (nS (cF rfl ?_)))))
 refine tR (sQ (qM rfl) rfl (sQ (pNt rfl) rfl (sQ (qM rfl) rfl (sK rfl rfl (sK rfl rfl (sK rfl rfl ?_))))))
 refine sK rfl rfl (sQ (pPf rfl rfl) rfl (sQ (qA rfl) rfl (sD (nS (cF rfl ?_)))))
 refine tS (tS (tR (sQ (qM rfl) rfl (sQ (qM rfl) rfl (sK rfl rfl (sK rfl rfl ?_))))))
 refine sK rfl rfl (sK rfl rfl (sK rfl rfl (sK rfl rfl (sK rfl rfl (sK rfl rfl (sK rfl rfl ?_))))))
 refine sK rfl rfl (sK rfl rfl (sK rfl rfl (sQ (pPf rfl rfl) rfl (sQ (qA rfl) rfl (sD (nS ?_))))))
 refine cF rfl ?_
 refine tR (sQ (qM rfl) rfl (sQ (pNf rfl) rfl (sQ (qM rfl) rfl (sQ (qF0 rfl) rfl (sL (lBa rfl rfl) rfl rfl ?_)))))
 refine seq_valb rfl (o7) rfl rfl (fun h709 => ?_) (fun h709 => ?_)
 refine sQ (pNt rfl) rfl (sQ (qM rfl) rfl (sQ (qF0 rfl) rfl (sL (lBs rfl rfl) rfl rfl ?_)))
 refine sB (pure_neq rfl rfl) rfl rfl (fun h714 => ?_) (fun h714 => ?_)
 refine sQ (pPf rfl rfl) rfl (sQ (pPt rfl rfl) rfl (sQ (qA rfl) rfl (sD (nS (qT rfl ?_)))))
 refine tS (tR (sQ (qA rfl) rfl (sD (nS (tT (rB ?_))))))
 refine rS (rF1 (rT rfl) ?_)
 exact ⟨rfl, by (cases R with | false => rfl | true => (exfalso; obtain ⟨i1, i2, i3, i4, i5, i6, i7, i8, i9⟩ := hi.1 rfl; first | omega | (have j := i2 (by omega); simp_all; done) | (have j := i3 (by omega); simp_all; done) | (have j := i4 (by omega); simp_all; done) | (have j := i5 (by omega); simp_all; done) | (have j := i6 (by omega); simp_all; done) | (have j := i7 (by omega); simp_all; done) | (have j := i8 (by omega); simp_all; done) | (have j := i9 (by omega); simp_all; done))), rfl⟩
 refine sQ (pPf rfl rfl) rfl (sQ (pPt rfl rfl) rfl (sQ (qA rfl) rfl (sD (nS (cF rfl ?_)))))
 refine tK (nrm_block (nS (tS (tR (sQ (qA rfl) rfl (sD ?_))))))
 refine nS (tT (rF1 (rT rfl) ?_))
 exact ⟨rfl, by rw [hi.2 ⟨by omega, fun _ => by (first | assumption | (exfalso; omega) | exact Classical.not_not.1 (by assumption)), fun _ => by (first | assumption | (exfalso; omega) | exact Classical.not_not.1 (by assumption)), fun _ => by (first | assumption | (exfalso; omega) | exact Classical.not_not.1 (by assumption)), fun _ => by (first | assumption | (exfalso; omega) | exact Classical.not_not.1 (by assumption)), fun _ => by (first | assumption | (exfalso; omega) | exact Classical.not_not.1 (by assumption)), fun _ => by (first | assumption | (exfalso; omega) | exact Classical.not_not.1 (by assumption)), fun _ => ⟨by (first | assumption | (exfalso; omega)), by (first | assumption | (exfalso; omega))⟩, fun _ => ⟨by (first | assumption | (exfalso; omega)), by (first | assumption | omega)⟩⟩], rfl⟩
 refine sQ (pNf rfl) rfl (sQ (qM rfl) rfl (sK rfl rfl (sK rfl rfl (sK rfl rfl (sQ (pPt rfl rfl) rfl (sQ (pPt rfl rfl) rfl ?_))))))
 refine sQ (qA rfl) rfl (sD (nS (qT rfl ?_)))
 refine tS (tR (sQ (qA rfl) rfl (sD (nS (tT (rB ?_))))))
 refine rS (rF1 (rT rfl) ?_)
 exact ⟨rfl, by (cases R with | false => rfl | true => (exfalso; obtain ⟨i1, i2, i3, i4, i5, i6, i7, i8, i9⟩ := hi.1 rfl; first | omega | (have j := i2 (by omega); simp_all; done) | (have j := i3 (by omega); simp_all; done) | (have j := i4 (by omega); simp_all; done) | (have j := i5 (by omega); simp_all; done) | (have j := i6 (by omega); simp_all; done) | (have j := i7 (by omega); simp_all; done) | (have j := i8 (by omega); simp_all; done) | (have j := i9 (by omega); simp_all; done))), rfl⟩
 refine sQ (pNf rfl) rfl (sQ (pPt rfl rfl) rfl (sQ (qA rfl) rfl (sD (nS (qT rfl ?_)))))
 refine tK (nS (qT rfl ?_))
 refine tS (tR (sQ (qA rfl) rfl (sD (nS (tT (rB ?_))))))
 refine rS (rF1 (rT rfl) ?_)
 exact ⟨rfl, by (cases R with | false => rfl | true => (exfalso; obtain ⟨i1, i2, i3, i4, i5, i6, i7, i8, i9⟩ := hi.1 rfl; first | omega | (have j := i2 (by omega); simp_all; done) | (have j := i3 (by omega); simp_all; done) | (have j := i4 (by omega); simp_all; done) | (have j := i5 (by omega); simp_all; done) | (have j := i6 (by omega); simp_all; done) | (have j := i7 (by omega); simp_all; done) | (have j := i8 (by omega); simp_all; done) | (have j := i9 (by omega); simp_all; done))), rfl⟩
 refine sQ (pNf rfl) rfl (sQ (qA rfl) rfl (sD (nS (qT rfl ?_))))
 refine tS (tR (sQ (qA rfl) rfl (sD (nS (tT (rB ?_))))))
 refine rS (rF1 (rT rfl) ?_)
 exact ⟨rfl, by (cases R with | false => rfl | true => (exfalso; obtain ⟨i1, i2, i3, i4, i5, i6, i7, i8, i9⟩ := hi.1 rfl; first | omega | (have j := i2 (by omega); simp_all; done) | (have j := i3 (by omega); simp_all; done) | (have j := i4 (by omega); simp_all; done) | (have j := i5 (by omega); simp_all; done) | (have j := i6 (by omega); simp_all; done) | (have j := i7 (by omega); simp_all; done) | (have j := i8 (by omega); simp_all; done) | (have j := i9 (by omega); simp_all; done))), rfl⟩
 refine sQ (pPf rfl rfl) rfl (sQ (qM rfl) rfl (sQ (qF0 rfl) rfl (sL (lBs rfl rfl) rfl rfl ?_)))
 refine sB (qE rfl rfl) rfl rfl (fun h807 => ?_) (fun h807 => ?_)
 refine sQ (pPf rfl rfl) rfl (sQ (qA rfl) rfl (sD (nS (tS (tR (sQ (qF0 rfl) rfl ?_))))))
 refine sL (lBs rfl rfl) rfl rfl ?_
 refine sP (pure_eql_t rfl rfl (by omega)) rfl rfl ?_
 refine sQ (qA rfl) rfl (sD (nS (tS (tR (sQ (qA rfl) rfl (sD ?_))))))
 refine nS (tS (tS (tR (sQ (qF0 rfl) rfl (sL (lBs rfl rfl) rfl rfl ?_)))))
 refine sP (pure_eql_f rfl rfl (by omega)) rfl rfl ?_
 refine sD (nS (cF rfl ?_))
 refine tK (nS (tS (tri_block (tS (tS (tR ?_))))))
 refine sQ (qM rfl) rfl (sQ (qM rfl) rfl (sK rfl rfl (sK rfl rfl (sK rfl rfl (sK rfl rfl (sQ (pPf rfl rfl) rfl ?_))))))
 refine sQ (qA rfl) rfl (sD (nS (cF rfl ?_)))
 refine tS (tR (sQ (qM rfl) rfl (sQ (pNf rfl) rfl (sQ (qM rfl) rfl (sQ (qF0 rfl) rfl (sL (lBs rfl rfl) rfl rfl ?_))))))
 refine sB (pure_sneq rfl rfl) rfl rfl (fun h859 => ?_) (fun h859 => ?_)
 refine sQ (pPt rfl rfl) rfl (sQ (qA rfl) rfl (sD (nS (qT rfl ?_))))
 refine tK (nS (qT rfl ?_))
 refine tS (tR (sQ (qA rfl) rfl (sD (nS (tT (rB ?_))))))
 refine rS (rF1 (rT rfl) ?_)
 exact ⟨rfl, by (cases R with | false => rfl | true => (exfalso; obtain ⟨i1, i2, i3, i4, i5, i6, i7, i8, i9⟩ := hi.1 rfl; first | omega | (have j := i2 (by omega); simp_all; done) | (have j := i3 (by omega); simp_all; done) | (have j := i4 (by omega); simp_all; done) | (have j := i5 (by omega); simp_all; done) | (have j := i6 (by omega); simp_all; done) | (have j := i7 (by omega); simp_all; done) | (have j := i8 (by omega); simp_all; done) | (have j := i9 (by omega); simp_all; done))), rfl⟩
 refine sQ (pPt rfl rfl) rfl (sQ (qA rfl) rfl (sD (nS (cF rfl ?_))))
 refine tR (sQ (qF0 rfl) rfl (sL (lBs rfl rfl) rfl rfl ?_))
 refine sQ (qM rfl) rfl (seq_valb rfl (within_fn _ _ _ _) rfl rfl (fun h887 => ?_) (fun h887 => ?_))
 refine sQ (pNt rfl) rfl (sQ (qA rfl) rfl (sD (nS (cF rfl ?_))))
 refine tS (tS (tR (sQ (qM rfl) rfl (sQ (qM rfl) rfl (sQ (qF0 rfl) rfl (sL (lBa rfl rfl) rfl rfl ?_))))))
 refine seq_valb rfl (o3) rfl rfl (fun h900 => ?_) (fun h900 => ?_)
 refine sQ (pNt rfl) rfl (sQ (pPt rfl rfl) rfl (sQ (qA rfl) rfl (sD (nS (cF rfl ?_)))))
 refine tR (sQ (qM rfl) rfl (sQ (pNt rfl) rfl (sQ (qM rfl) rfl (sK rfl rfl (sK rfl rfl (sK rfl rfl ?_))))))
 refine sK rfl rfl (sQ (pPf rfl rfl) rfl (sQ (qA rfl) rfl (sD (nS (cF rfl ?_)))))
 refine tS (tS (tR (sQ (qM rfl) rfl (sQ (qM rfl) rfl (sQ (qF0 rfl) rfl (sL (lBa rfl rfl) rfl rfl ?_))))))
 refine sQ (qF0 rfl) rfl (sL (lBa rfl rfl) rfl rfl ?_)
 refine seq_valb rfl (o5) rfl rfl (fun h929 => ?_) (fun h929 => ?_)
 refine sQ (pNt rfl) rfl (sQ (qM rfl) rfl (sQ (qF0 rfl) rfl (sL (lBs rfl rfl) rfl rfl ?_)))
 refine seq_valb rfl (o6) rfl rfl (fun h934 => ?_) (fun h934 => ?_)
 refine sQ (pNt rfl) rfl (sQ (pPf rfl rfl) rfl (sQ (pPt rfl rfl) rfl (sQ (qA rfl) rfl (sD (nS (cF rfl ?_))))))
 refine tR (sQ (qM rfl) rfl (sQ (pNt rfl) rfl (sQ (qM rfl) rfl (sK rfl rfl (sK rfl rfl (sK rfl rfl ?_))))))
 refine sK rfl rfl (sK rfl rfl (sK rfl rfl (sK rfl rfl (sK rfl rfl (sK rfl rfl (sQ (pPf rfl rfl) rfl ?_))))))
 refine sQ (qA rfl) rfl (sD (nS (cF rfl ?_)))
 refine tK (nrm_block (nS (tS (tR (sQ (qA rfl) rfl (sD ?_))))))
 refine nS (tT (rF1 (rT rfl) ?_))
 exact ⟨rfl, by rw [hi.2 ⟨by omega, fun _ => by (first | assumption | (exfalso; omega) | exact Classical.not_not.1 (by assumption)), fun _ => by (first | assumption | (exfalso; omega) | exact Classical.not_not.1 (by assumption)), fun _ => by (first | assumption | (exfalso; omega) | exact Classical.not_not.1 (by assumption)), fun _ => by (first | assumption | (exfalso; omega) | exact Classical.not_not.1 (by assumption)), fun _ => by (first | assumption | (exfalso; omega) | exact Classical.not_not.1 (by assumption)), fun _ => by (first | assumption | (exfalso; omega) | exact Classical.not_not.1 (by assumption)), fun _ => ⟨by (first | assumption | (exfalso; omega)), by (first | assumption | (exfalso; omega))⟩, fun _ => ⟨by (first | assumption | (exfalso; omega)), by (first | assumption | omega)⟩⟩], rfl⟩
 refine sQ (pNf rfl) rfl (sQ (pPf rfl rfl) rfl (sQ (pPt rfl rfl) rfl (sQ (qA rfl) rfl (sD (nS (qT rfl ?_))))))
 refine tK (nS (qT rfl ?_))
 refine tS (tR (sQ (qA rfl) rfl (sD (nS (tT (rB ?_))))))
 refine rS (rF1 (rT rfl) ?_)
 exact ⟨rfl, by (cases R with | false => rfl | true => (exfalso; obtain ⟨i1, i2, i3, i4, i5, i6, i7, i8, i9⟩ := hi.1 rfl; first | omega | (have j := i2 (by omega); simp_all; done) | (have j := i3 (by omega); simp_all; done) | (have j := i4 (by omega); simp_all; done) | (have j := i5 (by omega); simp_all; done) | (have j := i6 (by omega); simp_all; done) | (have j := i7 (by omega); simp_all; done) | (have j := i8 (by omega); simp_all; done) | (have j := i9 (by omega); simp_all; done))), rfl⟩
 refine sQ (pNf rfl) rfl (sQ (qM rfl) rfl (sK rfl rfl (sK rfl rfl (sK rfl rfl (sK rfl rfl (sQ (pPt rfl rfl) rfl ?_))))))
 refine sQ (pPt rfl rfl) rfl (sQ (qA rfl) rfl (sD (nS (qT rfl ?_))))
 refine tK (nS (qT rfl ?_))
 refine tS (tR (sQ (qA rfl) rfl (sD (nS (tT (rB ?_))))))
 refine rS (rF1 (rT rfl) ?_)
 exact ⟨rfl, by (cases R with | false => rfl | true => (exfalso; obtain ⟨i1, i2, i3, i4, i5, i6, i7, i8, i9⟩ := hi.1 rfl; first | omega | (have j := i2 (by omega); simp_all; done) | (have j := i3 (by omega); simp_all; done) | (have j := i4 (by omega); simp_all; done) | (have j := i5 (by omega); simp_all; done) | (have j := i6 (by omega); simp_all; done) | (have j := i7 (by omega); simp_all; done) | (have j := i8 (by omega); simp_all; done) | (have j := i9 (by omega); simp_all; done))), rfl⟩
 refine sQ (pNf rfl) rfl (sQ (pPt rfl rfl) rfl (sQ (qA rfl) rfl (sD (nS (qT rfl ?_)))))
 refine tK (nS (qT rfl ?_))
 refine tS (tR (sQ (qA rfl) rfl (sD (nS (tT (rB ?_))))))
 refine rS (rF1 (rT rfl) ?_)
 exact ⟨rfl, by (cases R with | false => rfl | true => (exfalso; obtain ⟨i1, i2, i3, i4, i5, i6, i7, i8, i9⟩ := hi.1 rfl; first | omega | (have j := i2 (by omega); simp_all; done) | (have j := i3 (by omega); simp_all; done) | (have j := i4 (by omega); simp_all; done) | (have j := i5 (by omega); simp_all; done) | (have j := i6 (by omega); simp_all; done) | (have j := i7 (by omega); simp_all; done) | (have j := i8 (by omega); simp_all; done) | (have j := i9 (by omega); simp_all; done))), rfl⟩
 refine sQ (pNf rfl) rfl (sQ (qA rfl) rfl (sD (nS (qT rfl ?_))))
 refine tS (tR (sQ (qA rfl) rfl (sD (nS (tT (rB ?_))))))
 refine rS (rF1 (rT rfl) ?_)
 exact ⟨rfl, by (cases R with | false => rfl | true => (exfalso; obtain ⟨i1, i2, i3, i4, i5, i6, i7, i8, i9⟩ := hi.1 rfl; first | omega | (have j := i2 (by omega); simp_all; done) | (have j := i3 (by omega); simp_all; done) | (have j := i4 (by omega); simp_all; done) | (have j := i5 (by omega); simp_all; done) | (have j := i6 (by omega); simp_all; done) | (have j := i7 (by omega); simp_all; done) | (have j := i8 (by omega); simp_all; done) | (have j := i9 (by omega); simp_all; done))), rfl⟩
 refine sQ (pPf rfl rfl) rfl (sQ (qA rfl) rfl (sD (nS (tS (tR (sQ (qF0 rfl) rfl ?_))))))
 refine sL (lBs rfl rfl) rfl rfl ?_
 refine sP (pure_eql_f rfl rfl (by omega)) rfl rfl ?_
 refine sQ (qA rfl) rfl (sD (nS (tS (tR (sQ (qA rfl) rfl (sD ?_))))))
 refine nS (tS (tS (tR (sQ (qF0 rfl) rfl (sL (lBs rfl rfl) rfl rfl ?_)))))
 refine sB (qE rfl rfl) rfl rfl (fun h1072 => ?_) (fun h1072 => ?_)
 refine sD (nS (qT rfl ?_))
 refine tR (sQ (qA rfl) rfl (sD (nS (tS (tri_block (tS ?_))))))
 refine tS (tR (sQ (qM rfl) rfl (sQ (qM rfl) rfl (sK rfl rfl (sK rfl rfl (sK rfl rfl ?_))))))
 refine sK rfl rfl (sQ (pPf rfl rfl) rfl (sQ (qA rfl) rfl (sD (nS (cF rfl ?_)))))
 refine tS (tR (sQ (qM rfl) rfl (sQ (pNf rfl) rfl (sQ (qM rfl) rfl (sQ (qF0 rfl) rfl (sL (lBs rfl rfl) rfl rfl ?_))))))
 refine sB (pure_sneq rfl rfl) rfl rfl (fun h1103 => ?_) (fun h1103 => ?_)
 refine sQ (pPt rfl rfl) rfl (sQ (qA rfl) rfl (sD (nS (qT rfl ?_))))
 refine tK (nS (qT rfl ?_))
 refine tS (tR (sQ (qA rfl) rfl (sD (nS (tT (rB ?_))))))
 refine rS (rF1 (rT rfl) ?_)
 exact ⟨rfl, by (cases R with | false => rfl | true => (exfalso; obtain ⟨i1, i2, i3, i4, i5, i6, i7, i8, i9⟩ := hi.1 rfl; first | omega | (have j := i2 (by omega); simp_all; done) | (have j := i3 (by omega); simp_all; done) | (have j := i4 (by omega); simp_all; done) | (have j := i5 (by omega); simp_all; done) | (have j := i6 (by omega); simp_all; done) | (have j := i7 (by omega); simp_all; done) | (have j := i8 (by omega); simp_all; done) | (have j := i9 (by omega); simp_all; done))), rfl⟩
 refine sQ (pPt rfl rfl) rfl (sQ (qA rfl) rfl (sD (nS (cF rfl ?_))))
 refine tR (sQ (qF0 rfl) rfl (sL (lBs rfl rfl) rfl rfl ?_))
 refine sQ (qM rfl) rfl (seq_valb rfl (within_fn _ _ _ _) rfl rfl (fun h1131 => ?_) (fun h1131 => ?_))
 refine sQ (pNt rfl) rfl (sQ (qA rfl) rfl (sD (nS (cF rfl ?_))))
 refine tS (tS (tR (sQ (qM rfl) rfl (sQ (qM rfl) rfl (sK rfl rfl (sK rfl rfl ?_))))))
 refine sK rfl rfl (sK rfl rfl (sQ (pPf rfl rfl) rfl (sQ (qA rfl) rfl (sD (nS (cF rfl ?_))))))
 refine tR (sQ (qM rfl) rfl (sQ (pNf rfl) rfl (sQ (qM rfl) rfl (sQ (qF0 rfl) rfl (sL (lBa rfl rfl) rfl rfl ?_)))))
 refine seq_valb rfl (o4) rfl rfl (fun h1157 => ?_) (fun h1157 => ?_)
 refine sQ (pNt rfl) rfl (sQ (pPt rfl rfl) rfl (sQ (qA rfl) rfl (sD (nS (cF rfl ?_)))))
 refine tS (tS (tR (sQ (qM rfl) rfl (sQ (qM rfl) rfl (sK rfl rfl (sK rfl rfl ?_))))))
 refine sK rfl rfl (sK rfl rfl (sK rfl rfl (sK rfl rfl (sK rfl rfl (sK rfl rfl (sK rfl rfl ?_))))))
 refine sK rfl rfl (sK rfl rfl (sK rfl rfl (sQ (pPf rfl rfl) rfl (sQ (qA rfl) rfl (sD (nS ?_))))))
 refine cF rfl ?_
 refine tR (sQ (qM rfl) rfl (sQ (pNf rfl) rfl (sQ (qM rfl) rfl (sQ (qF0 rfl) rfl (sL (lBa rfl rfl) rfl rfl ?_)))))
 refine seq_valb rfl (o7) rfl rfl (fun h1192 => ?_) (fun h1192 => ?_)
 refine sQ (pNt rfl) rfl (sQ (qM rfl) rfl (sQ (qF0 rfl) rfl (sL (lBs rfl rfl) rfl rfl ?_)))
 refine sB (pure_neq rfl rfl) rfl rfl (fun h1197 => ?_) (fun h1197 => ?_)
 refine sQ (pPf rfl rfl) rfl (sQ (pPt rfl rfl) rfl (sQ (qA rfl) rfl (sD (nS (qT rfl ?_)))))
 refine tS (tR (sQ (qA rfl) rfl (sD (nS (tT (rB ?_))))))
 refine rS (rF1 (rT rfl) ?_)
 exact ⟨rfl, by (cases R with | false => rfl | true => (exfalso; obtain ⟨i1, i2, i3, i4, i5, i6, i7, i8, i9⟩ := hi.1 rfl; first | omega | (have j := i2 (by omega); simp_all; done) | (have j := i3 (by omega); simp_all; done) | (have j := i4 (by omega); simp_all; done) | (have j := i5 (by omega); simp_all; done) | (have j := i6 (by omega); simp_all; done) | (have j := i7 (by omega); simp_all; done) | (have j := i8 (by omega); simp_all; done) | (have j := i9 (by omega); simp_all; done))), rfl⟩
 refine sQ (pPf rfl rfl) rfl (sQ (pPt rfl rfl) rfl (sQ (qA rfl) rfl (sD (nS (cF rfl ?_)))))
 refine tK (nrm_block (nS (tS (tR (sQ (qA rfl) rfl (sD ?_))))))
 refine nS (tT (rF1 (rT rfl) ?_))
 exact ⟨rfl, by rw [hi.2 ⟨by omega, fun _ => by (first | assumption | (exfalso; omega) | exact Classical.not_not.1 (by assumption)), fun _ => by (first | assumption | (exfalso; omega) | exact Classical.not_not.1 (by assumption)), fun _ => by (first | assumption | (exfalso; omega) | exact Classical.not_not.1 (by assumption)), fun _ => by (first | assumption | (exfalso; omega) | exact Classical.not_not.1 (by assumption)), fun _ => by (first | assumption | (exfalso; omega) | exact Classical.not_not.1 (by assumption)), fun _ => by (first | assumption | (exfalso; omega) | exact Classical.not_not.1 (by assumption)), fun _ => ⟨by (first | assumption | (exfalso; omega)), by (first | assumption | (exfalso; omega))⟩, fun _ => ⟨by (first | assumption | (exfalso; omega)), by (first | assumption | omega)⟩⟩], rfl⟩
 refine sQ (pNf rfl) rfl (sQ (qM rfl) rfl (sK rfl rfl (sK rfl rfl (sK rfl rfl (sQ (pPt rfl rfl) rfl (sQ (pPt rfl rfl) rfl ?_))))))
 refine sQ (qA rfl) rfl (sD (nS (qT rfl ?_)))
 refine tS (tR (sQ (qA rfl) rfl (sD (nS (tT (rB ?_))))))
 refine rS (rF1 (rT rfl) ?_)
 exact ⟨rfl, by (cases R with | false => rfl | true => (exfalso; obtain ⟨i1, i2, i3, i4, i5, i6, i7, i8, i9⟩ := hi.1 rfl; first | omega | (have j := i2 (by omega); simp_all; done) | (have j := i3 (by omega); simp_all; done) | (have j := i4 (by omega); simp_all; done) | (have j := i5 (by omega); simp_all; done) | (have j := i6 (by omega); simp_all; done) | (have j := i7 (by omega); simp_all; done) | (have j := i8 (by omega); simp_all; done) | (have j := i9 (by omega); simp_all; done))), rfl⟩
 refine sQ (pNf rfl) rfl (sQ (pPt rfl rfl) rfl (sQ (qA rfl) rfl (sD (nS (qT rfl ?_)))))
 refine tS (tR (sQ (qA rfl) rfl (sD (nS (tT (rB ?_))))))
 refine rS (rF1 (rT rfl) ?_)
 exact ⟨rfl, by (cases R with | false => rfl | true => (exfalso; obtain ⟨i1, i2, i3, i4, i5, i6, i7, i8, i9⟩ := hi.1 rfl; first | omega | (have j := i2 (by omega); simp_all; done) | (have j := i3 (by omega); simp_all; done) | (have j := i4 (by omega); simp_all; done) | (have j := i5 (by omega); simp_all; done) | (have j := i6 (by omega); simp_all; done) | (have j := i7 (by omega); simp_all; done) | (have j := i8 (by omega); simp_all; done) | (have j := i9 (by omega); simp_all; done))), rfl⟩
 refine sQ (pNf rfl) rfl (sQ (qA rfl) rfl (sD (nS (qT rfl ?_))))
 refine tS (tR (sQ (qA rfl) rfl (sD (nS (tT (rB ?_))))))
 refine rS (rF1 (rT rfl) ?_)
 exact ⟨rfl, by (cases R with | false => rfl | true => (exfalso; obtain ⟨i1, i2, i3, i4, i5, i6, i7, i8, i9⟩ := hi.1 rfl; first | omega | (have j := i2 (by omega); simp_all; done) | (have j := i3 (by omega); simp_all; done) | (have j := i4 (by omega); simp_all; done) | (have j := i5 (by omega); simp_all; done) | (have j := i6 (by omega); simp_all; done) | (have j := i7 (by omega); simp_all; done) | (have j := i8 (by omega); simp_all; done) | (have j := i9 (by omega); simp_all; done))), rfl⟩
 refine sD (nS (cF rfl ?_))
 refine tK (nS (tS (tri_block (tS (tS (tR ?_))))))
 refine sQ (qM rfl) rfl (sQ (qM rfl) rfl (sK rfl rfl (sK rfl rfl (sK rfl rfl (sK rfl rfl (sQ (pPf rfl rfl) rfl ?_))))))
 refine sQ (qA rfl) rfl (sD (nS (cF rfl ?_)))
 refine tS (tR (sQ (qM rfl) rfl (sQ (pNf rfl) rfl (sQ (qM rfl) rfl (sQ (qF0 rfl) rfl (sL (lBs rfl rfl) rfl rfl ?_))))))
 refine sB (pure_sneq rfl rfl) rfl rfl (fun h1311 => ?_) (fun h1311 => ?_)
 refine sQ (pPt rfl rfl) rfl (sQ (qA rfl) rfl (sD (nS (qT rfl ?_))))
 refine tK (nS (qT rfl ?_))
 refine tS (tR (sQ (qA rfl) rfl (sD (nS (tT (rB ?_))))))
 refine rS (rF1 (rT rfl) ?_)
 exact ⟨rfl, by (cases R with | false => rfl | true => (exfalso; obtain ⟨i1, i2, i3, i4, i5, i6, i7, i8, i9⟩ := hi.1 rfl; first | omega | (have j := i2 (by omega); simp_all; done) | (have j := i3 (by omega); simp_all; done) | (have j := i4 (by omega); simp_all; done) | (have j := i5 (by omega); simp_all; done) | (have j := i6 (by omega); simp_all; done) | (have j := i7 (by omega); simp_all; done) | (have j := i8 (by omega); simp_all; done) | (have j := i9 (by omega); simp_all; done))), rfl⟩
 refine sQ (pPt rfl rfl) rfl (sQ (qA rfl) rfl (sD (nS (cF rfl ?_))))
 refine tR (sQ (qF0 rfl) rfl (sL (lBs rfl rfl) rfl rfl ?_))
 refine sQ (qM rfl) rfl (seq_valb rfl (within_fn _ _ _ _) rfl rfl (fun h1339 => ?_) (fun h1339 => ?_))
 refine sQ (pNt rfl) rfl (sQ (qA rfl) rfl (sD (nS (cF rfl ?_))))
 refine tS (tS (tR (sQ (qM rfl) rfl (sQ (qM rfl) rfl (sK rfl rfl (sK rfl rfl ?_))))))
 refine sK rfl rfl (sK rfl rfl (sQ (pPf rfl rfl) rfl (sQ (qA rfl) rfl (sD (nS (cF rfl ?_))))))
 refine tR (sQ (qM rfl) rfl (sQ (pNf rfl) rfl (sQ (qM rfl) rfl (sQ (qF0 rfl) rfl (sL (lBa rfl rfl) rfl rfl ?_)))))
 refine seq_valb rfl (o4) rfl rfl (fun h1365 => ?_) (fun h1365 => ?_)
 refine sQ (pNt rfl) rfl (sQ (pPt rfl rfl) rfl (sQ (qA rfl) rfl (sD (nS (cF rfl ?_)))))
 refine tS (tS (tR (sQ (qM rfl) rfl (sQ (qM rfl) rfl (sK rfl rfl (sK rfl rfl ?_))))))
 refine sK rfl rfl (sK rfl rfl (sK rfl rfl (sK rfl rfl (sK rfl rfl (sK rfl rfl (sK rfl rfl ?_))))))
 refine sK rfl rfl (sK rfl rfl (sK rfl rfl (sQ (pPf rfl rfl) rfl (sQ (qA rfl) rfl (sD (nS ?_))))))
 refine cF rfl ?_
 refine tR (sQ (qM rfl) rfl (sQ (pNf rfl) rfl (sQ (qM rfl) rfl (sQ (qF0 rfl) rfl (sL (lBa rfl rfl) rfl rfl ?_)))))
 refine seq_valb rfl (o7) rfl rfl (fun h1400 => ?_) (fun h1400 => ?_)
 refine sQ (pNt rfl) rfl (sQ (qM rfl) rfl (sQ (qF0 rfl) rfl (sL (lBs rfl rfl) rfl rfl ?_)))
 refine sB (pure_neq rfl rfl) rfl rfl (fun h1405 => ?_) (fun h1405 => ?_)
 refine sQ (pPf rfl rfl) rfl (sQ (pPt rfl rfl) rfl (sQ (qA rfl) rfl (sD (nS (qT rfl ?_)))))
 refine tS (tR (sQ (qA rfl) rfl (sD (nS (tT (rB ?_))))))
 refine rS (rF1 (rT rfl) ?_)
 exact ⟨rfl, by (cases R with | false => rfl | true => (exfalso; obtain ⟨i1, i2, i3, i4, i5, i6, i7, i8, i9⟩ := hi.1 rfl; first | omega | (have j := i2 (by omega); simp_all; done) | (have j := i3 (by omega); simp_all; done) | (have j := i4 (by omega); simp_all; done) | (have j := i5 (by omega); simp_all; done) | (have j := i6 (by omega); simp_all; done) | (have j := i7 (by omega); simp_all; done) | (have j := i8 (by omega); simp_all; done) | (have j := i9 (by omega); simp_all; done))), rfl⟩
 refine sQ (pPf rfl rfl) rfl (sQ (pPt rfl rfl) rfl (sQ (qA rfl) rfl (sD (nS (cF rfl ?_)))))
 refine tK (nrm_block (nS (tS (tR (sQ (qA rfl) rfl (sD ?_))))))
 refine nS (tT (rF1 (rT rfl) ?_))
 exact ⟨rfl, by rw [hi.2 ⟨by omega, fun _ => by (first | assumption | (exfalso; omega) | exact Classical.not_not.1 (by assumption)), fun _ => by (first | assumption | (exfalso; omega) | exact Classical.not_not.1 (by assumption)), fun _ => by (first | assumption | (exfalso; omega) | exact Classical.not_not.1 (by assumption)), fun _ => by (first | assumption | (exfalso; omega) | exact Classical.not_not.1 (by assumption)), fun _ => by (first | assumption | (exfalso; omega) | exact Classical.not_not.1 (by assumption)), fun _ => by (first | assumption | (exfalso; omega) | exact Classical.not_not.1 (by assumption)), fun _ => ⟨by (first | assumption | (exfalso; omega)), by (first | assumption | (exfalso; omega))⟩, fun _ => ⟨by (first | assumption | (exfalso; omega)), by (first | assumption | omega)⟩⟩], rfl⟩
 refine sQ (pNf rfl) rfl (sQ (qM rfl) rfl (sK rfl rfl (sK rfl rfl (sK rfl rfl (sQ (pPt rfl rfl) rfl (sQ (pPt rfl rfl) rfl ?_))))))
 refine sQ (qA rfl) rfl (sD (nS (qT rfl ?_)))
 refine tS (tR (sQ (qA rfl) rfl (sD (nS (tT (rB ?_))))))
 refine rS (rF1 (rT rfl) ?_)
 exact ⟨rfl, by (cases R with | false => rfl | true => (exfalso; obtain ⟨i1, i2, i3, i4, i5, i6, i7, i8, i9⟩ := hi.1 rfl; first | omega | (have j := i2 (by omega); simp_all; done) | (have j := i3 (by omega); simp_all; done) | (have j := i4 (by omega); simp_all; done) | (have j := i5 (by omega); simp_all; done) | (have j := i6 (by omega); simp_all; done) | (have j := i7 (by omega); simp_all; done) | (have j := i8 (by omega); simp_all; done) | (have j := i9 (by omega); simp_all; done))), rfl⟩
 refine sQ (pNf rfl) rfl (sQ (pPt rfl rfl) rfl (sQ (qA rfl) rfl (sD (nS (qT rfl ?_)))))
 refine tS (tR (sQ (qA rfl) rfl (sD (nS (tT (rB ?_))))))
 refine rS (rF1 (rT rfl) ?_)
 exact ⟨rfl, by (cases R with | false => rfl | true => (exfalso; obtain ⟨i1, i2, i3, i4, i5, i6, i7, i8, i9⟩ := hi.1 rfl; first | omega | (have j := i2 (by omega); simp_all; done) | (have j := i3 (by omega); simp_all; done) | (have j := i4 (by omega); simp_all; done) | (have j := i5 (by omega); simp_all; done) | (have j := i6 (by omega); simp_all; done) | (have j := i7 (by omega); simp_all; done) | (have j := i8 (by omega); simp_all; done) | (have j := i9 (by omega); simp_all; done))), rfl⟩
 refine sQ (pNf rfl) rfl (sQ (qA rfl) rfl (sD (nS (qT rfl ?_))))
 refine tS (tR (sQ (qA rfl) rfl (sD (nS (tT (rB ?_))))))
 refine rS (rF1 (rT rfl) ?_)
 exact ⟨rfl, by (cases R with | false => rfl | true => (exfalso; obtain ⟨i1, i2, i3, i4, i5, i6, i7, i8, i9⟩ := hi.1 rfl; first | omega | (have j := i2 (by omega); simp_all; done) | (have j := i3 (by omega); simp_all; done) | (have j := i4 (by omega); simp_all; done) | (have j := i5 (by omega); simp_all; done) | (have j := i6 (by omega); simp_all; done) | (have j := i7 (by omega); simp_all; done) | (have j := i8 (by omega); simp_all; done) | (have j := i9 (by omega); simp_all; done))), rfl⟩
theorem scan_fn (M D N : Int) (hM : 0 ≤ M ∧ M ≤ 1000) (hD : 0 ≤ D ∧ D ≤ 1000) (bc : Nat) : ∀ (t : Tm) (deep c : Int) (G : IM) (cells : List Value), 0 ≤ deep ∧ deep ≤ D + 1 → 0 ≤ c ∧ c ≤ M → RTm G t cells →
  Fn Tryz.prog 65 [.agg ⟨cells⟩, .int .i64 deep, .int .i64 M, .int .i64 D, .int .i64 N, .pointer (some ⟨bc, 0, none⟩)] [.blk bc [.int .i64 c]] G
   (ValO (.bool (mScan M D N t deep c).1) [.blk bc [.int .i64 (mScan M D N t deep c).2]] G) := by
 refine Tm.ind fun k nm num ty fr lb ks ih deep c G cells hd hc hr => ?_
 have hno := nodeOk_fn k nm num ty fr lb ks G cells hr
 obtain ⟨tk, tks⟩ := ty
 obtain ⟨fk, fks⟩ := fr
 obtain ⟨pt, ct, pf, cf, p, cp, es, rfl, hk, hnum, hlb, hty, hfr, hsl, hkl⟩ := hr.open9
 have hn := hsl.le
 obtain ⟨R, hR⟩ : ∃ R, tmNode k nm num (.mk tk tks) (.mk fk fks) lb ks.length = R := ⟨_, rfl⟩
 rw [hR] at hno
 refine fn_enter Tryz.func65 rfl Tryz.ntmps65 Tryz.results65 rfl ?_
 intro w0
 refine tS (tR ?_)
 refine sE (step_box_a rfl rfl) rfl (fun b3 => ?_)
 refine sQ (qA rfl) rfl (sD (nS (tS (tR (sQ (qM rfl) rfl (sQ (pure_nilCheck rfl) rfl ?_))))))
 refine sL (lBs rfl rfl) rfl rfl ?_
 refine sP (pure_add rfl rfl (by omega) (by omega)) rfl rfl ?_
 refine sQ (pure_nilCheck rfl) rfl (sS' ?_)
 refine sD (nS (tS (tS (tR (sQ (qM rfl) rfl (sQ (pure_nilCheck rfl) rfl ?_))))))
 refine sL (lBs rfl rfl) rfl rfl ?_
 refine sQ (qM rfl) rfl (sB (pure_gtr rfl rfl) rfl rfl (fun h24 => ?_) (fun h24 => ?_))
 refine sQ (qM rfl) rfl (sK rfl rfl (sK rfl rfl (sK rfl rfl (sQ (pPt rfl rfl) rfl (sQ (qM rfl) rfl (sK rfl rfl ?_))))))
 refine sK rfl rfl (sK rfl rfl (sK rfl rfl (sQ (pPt rfl rfl) rfl (sQ (qM rfl) rfl (sK rfl rfl (sK rfl rfl ?_))))))
 refine sK rfl rfl (sQ (pPt rfl rfl) rfl (sD (nS (qT rfl ?_))))
 refine tS (tR (sQ (qA rfl) rfl (sD (nS (tT (rS ?_))))))
 refine ret_own1 (outs := [.blk bc [.int .i64 _]]) (rT rfl) (SubH.cons (by repeat (first | exact Pk.here | apply Pk.there)) SubH.nil) ?_
 (rw [mScan_no (by rw [hR]; first | omega | exact Or.inr (Or.inr (Or.inr (by assumption)))) ]; exact ⟨rfl, rfl, rfl⟩)
 refine sQ (qM rfl) rfl (sQ (qM rfl) rfl (sQ (qM rfl) rfl (sB (pure_gtr rfl rfl) rfl rfl (fun h56 => ?_) (fun h56 => ?_))))
 refine sQ (pPf rfl rfl) rfl (sQ (qM rfl) rfl (sK rfl rfl (sK rfl rfl (sK rfl rfl (sK rfl rfl (sQ (pPt rfl rfl) rfl ?_))))))
 refine sQ (qM rfl) rfl (sK rfl rfl (sK rfl rfl (sK rfl rfl (sQ (pPt rfl rfl) rfl (sD (nS ?_))))))
 refine qT rfl ?_
 refine tS (tR (sQ (qA rfl) rfl (sD (nS (tT (rS ?_))))))
 refine ret_own1 (outs := [.blk bc [.int .i64 _]]) (rT rfl) (SubH.cons (by repeat (first | exact Pk.here | apply Pk.there)) SubH.nil) ?_
 (rw [mScan_no (by rw [hR]; first | omega | exact Or.inr (Or.inr (Or.inr (by assumption)))) ]; exact ⟨rfl, rfl, rfl⟩)
 refine sQ (pPf rfl rfl) rfl (sQ (qM rfl) rfl (sQ (qF0 rfl) rfl (sL (lBs rfl rfl) rfl rfl ?_)))
 refine sQ (qM rfl) rfl (sB (qE rfl rfl) rfl rfl (fun h86 => ?_) (fun h86 => ?_))
 refine sQ (pPf rfl rfl) rfl (sQ (qM rfl) rfl (sK rfl rfl (sK rfl rfl (sK rfl rfl (sQ (pPt rfl rfl) rfl (sD ?_))))))
 refine nS (qT rfl ?_)
 refine tS (tR (sQ (qA rfl) rfl (sD (nS (tT (rS ?_))))))
 refine ret_own1 (outs := [.blk bc [.int .i64 _]]) (rT rfl) (SubH.cons (by repeat (first | exact Pk.here | apply Pk.there)) SubH.nil) ?_
 (rw [mScan_no (by rw [hR]; first | omega | exact Or.inr (Or.inr (Or.inr (by assumption)))) ]; exact ⟨rfl, rfl, rfl⟩)
 refine sQ (pPf rfl rfl) rfl (sQ (qM rfl) rfl (sL (lBa rfl rfl) rfl rfl ?_))
 refine seq_valb rfl (hno) rfl rfl (fun h108 => ?_) (fun h108 => ?_)
 refine sQ (pNt rfl) rfl (sQ (pPf rfl rfl) rfl (sD (nS (cF rfl ?_))))
 refine tK (nS (tS (tS (tR (sQ (qF0 rfl) rfl (sL (lBs rfl rfl) rfl rfl ?_))))))
 refine sQ (pLn rfl rfl) rfl (sQ (qM rfl) rfl (sD (nS (tri_block ?_))))
 (have hmk := mScan_go (M := M) (D := D) (N := N) (deep := deep) (c := c) (by omega) (hR.trans (by assumption)); refine tri_loopN (fun (x : Nat × Int) => ⟨[(44, .int .i64 x.1), (43, .int .i64 ks.length), (42, .slice p ks.length cp), (5, .pointer (some ⟨bc, 0, none⟩)), (4, .int .i64 N), (3, .int .i64 D), (2, .int .i64 M), (1, .int .i64 deep)], [.blk bc [.int .i64 x.2]], G⟩) (fun x => x.1 ≤ ks.length ∧ 0 ≤ x.2 ∧ x.2 ≤ M ∧ mScanL M D N ks (deep + 1) (c + 1) = mScanL M D N (ks.drop x.1) (deep + 1) x.2) (fun x => ks.length - x.1) (0, c + 1) ?_ ?_ ?_)
 (simp only [flat_snoc]; exact sMk)
 exact ⟨by simp, by simp; omega, by simp; omega, by simp⟩
 (rintro ⟨i, ci⟩ ⟨hi, hc0, hc1, hst⟩; simp only [] at hi hc0 hc1 hst ⊢)
 refine tS (tR (sB (pure_lss rfl rfl) rfl rfl (fun h132 => ?_) (fun h132 => ?_)))
 refine sD (nS (tS (qT rfl ?_)))
 refine tK (nS (tS (tri_block (tS (tR ?_)))))
 (obtain ⟨b, o, e, rfl, hl, hat, hre, hgb⟩ := hsl.kidTm hkl (i := i) (by omega) (by omega); have hone := hre.one; have hle := mScan_le M D N ks[i] (deep + 1) ci hc0 hc1; refine sP (pIN rfl rfl rfl (by omega)) rfl rfl ?_)
 refine sL (load_a rfl rfl (hat _) hl) rfl rfl ?_
 refine sE (step_alloc rfl) rfl (fun b145 => ?_)
 refine seq_store rfl rfl rfl (by assumption) (by assumption) rfl (by repeat first | exact Sw.here | apply Sw.there) (by exact upd_all (by symm; assumption)) ?_
 refine sD (nS (tS (tR (sL (load_a rfl rfl (at_blk_all (by repeat first | exact mH | apply mT)) (by assumption)) rfl rfl ?_))))
 refine sQ (qM rfl) rfl (sP (pure_add rfl rfl (by omega) (by omega)) rfl rfl ?_)
 refine sQ (qM rfl) rfl (sQ (qM rfl) rfl (sQ (qM rfl) rfl (sQ (qM rfl) rfl (seq_valbx rfl (ih ks[i] (List.getElem_mem _) (deep + 1) ci G e (by omega) (by omega) hre) (Pk.perm (by repeat (first | exact Pk.here | apply Pk.there))) rfl rfl (fun h158 => ?_) (fun h158 => ?_)))))
 refine sQ (pNt rfl) rfl (sD (nS (cF rfl ?_)))
 refine tK (nrm_block (nS (tR (sP (pure_add rfl rfl (by omega) (by omega)) rfl rfl ?_))))
 refine sQ (qM rfl) rfl (sD (nrm_loopN (i + 1, (mScan M D N ks[i] (deep + 1) ci).2) ?_ ?_ ?_))
 (simp only [flat_snoc]; exact sMk)
 exact ⟨by omega, by omega, hle.2.2 (by assumption), by rw [hst, mScanL_t (by omega) (by assumption)]⟩
 (show ks.length - (i + 1) < ks.length - i; omega)
 refine sQ (pNf rfl) rfl (sD (nS (qT rfl ?_)))
 refine tS (tR (sQ (qA rfl) rfl (sD (nS (tT (rB ?_))))))
 refine rS (ret_loopN (rB (rS (ret_own1 (outs := [.blk bc [.int .i64 _]]) (rT rfl) (SubH.cons (by repeat (first | exact Pk.here | apply Pk.there)) SubH.nil) ?_))))
 (rw [hmk, hst, mScanL_f (by omega) (by assumption)]; exact ⟨rfl, rfl, rfl⟩)
 refine sD (nS (tS (cF rfl ?_)))
 refine tri_exit ?_
 refine ext_seq ?_
 refine ext_loopN ?_
 refine ext_block_eq ?_
 refine nS (tS (tR (sQ (qA rfl) rfl (sD (nS (tT ?_))))))
 refine ret_own1 (outs := [.blk bc [.int .i64 _]]) (rT rfl) (SubH.cons (by repeat (first | exact Pk.here | apply Pk.there)) SubH.nil) ?_
 (rw [hmk, hst, mScanL_end (by omega)]; exact ⟨rfl, rfl, rfl⟩)
 refine sQ (pNf rfl) rfl (sQ (pPf rfl rfl) rfl (sD (nS (qT rfl ?_))))
 refine tS (tR (sQ (qA rfl) rfl (sD (nS (tT (rS ?_))))))
 refine ret_own1 (outs := [.blk bc [.int .i64 _]]) (rT rfl) (SubH.cons (by repeat (first | exact Pk.here | apply Pk.there)) SubH.nil) ?_
 (rw [mScan_no (by rw [hR]; first | omega | exact Or.inr (Or.inr (Or.inr (by assumption)))) ]; exact ⟨rfl, rfl, rfl⟩)
theorem castValid_fn (t : Tm) (G : IM) (cells : List Value) (hr : RTm G t cells) : Fn Tryz.prog 32 [.agg ⟨cells⟩] [] G (Val (.bool (castValid t)) G) := by
 have hl := hr.len
 refine fn_enter Tryz.func32 rfl Tryz.ntmps32 Tryz.results32 rfl ?_
 intro w0
 refine tS (tR ?_)
 refine sE (step_box_a rfl rfl) rfl (fun b3 => ?_)
 refine sQ (qA rfl) rfl (sD (nS (tS (tR ?_))))
 refine sE (step_alloc rfl) rfl (fun b9 => ?_)
 refine sS' ?_
 refine sD (nS (tS (tR (sL (load_a rfl rfl (at_blk_all (by repeat first | exact mH | apply mT)) (by assumption)) rfl rfl ?_))))
 refine seq_valx rfl (scan_fn 200 40 13 (by omega) (by omega) _ t 1 0 G cells (by omega) (by omega) hr) perm_all rfl rfl ?_
 refine sQ (qA rfl) rfl (sD (nS (tT (rF1 (rT rfl) ?_))))
 exact ⟨rfl, rfl, rfl⟩
theorem l1Kids_fn (k : Int) (G : IM) : Fn Tryz.prog 122 [.int .i64 k] [] G (Val (.int .i64 (tyOps k)) G) := by
 refine fn_enter Tryz.func122 rfl Tryz.ntmps122 Tryz.results122 rfl ?_
 intro w0
 refine tS (tR (sQ (qA rfl) rfl (sD (nS (tS (tS ?_))))))
 refine tR (sQ (qM rfl) rfl (sD (nS (tri_block (tS (tS ?_))))))
 refine tR (sB (qE rfl rfl) rfl rfl (fun h16 => ?_) (fun h16 => ?_))
 refine sQ (qA rfl) rfl (sD (nS (qT rfl ?_)))
 refine tK (nS (qT rfl ?_))
 refine tS (tR (sQ (qA rfl) rfl (sD (nS (tT (rB ?_))))))
 refine rS (rF1 (rT rfl) ?_)
 exact ⟨rfl, by (first | rw [(tyOps_spec k).1 (by omega)] | rw [(tyOps_spec k).2.1 (by omega)] | rw [(tyOps_spec k).2.2 (by omega) (by omega) (by omega) (by omega) (by omega)]), rfl⟩
 refine sQ (qA rfl) rfl (sD (nS (cF rfl ?_)))
 refine tS (tR (sB (qE rfl rfl) rfl rfl (fun h40 => ?_) (fun h40 => ?_)))
 refine sQ (qA rfl) rfl (sD (nS (qT rfl ?_)))
 refine tK (nS (qT rfl ?_))
 refine tS (tR (sQ (qA rfl) rfl (sD (nS (tT (rB ?_))))))
 refine rS (rF1 (rT rfl) ?_)
 exact ⟨rfl, by (first | rw [(tyOps_spec k).1 (by omega)] | rw [(tyOps_spec k).2.1 (by omega)] | rw [(tyOps_spec k).2.2 (by omega) (by omega) (by omega) (by omega) (by omega)]), rfl⟩
 refine sQ (qA rfl) rfl (sD (nS (cF rfl ?_)))
 refine tR (sB (qE rfl rfl) rfl rfl (fun h63 => ?_) (fun h63 => ?_))
 refine sQ (qA rfl) rfl (sD (nS (qT rfl ?_)))
 refine tS (tR (sQ (qA rfl) rfl (sD (nS (tT (rB ?_))))))
 refine rS (rF1 (rT rfl) ?_)
 exact ⟨rfl, by (first | rw [(tyOps_spec k).1 (by omega)] | rw [(tyOps_spec k).2.1 (by omega)] | rw [(tyOps_spec k).2.2 (by omega) (by omega) (by omega) (by omega) (by omega)]), rfl⟩
 refine sQ (qA rfl) rfl (sD (nS (cF rfl ?_)))
 refine tS (tS (tR (sB (qE rfl rfl) rfl rfl (fun h85 => ?_) (fun h85 => ?_))))
 refine sQ (qA rfl) rfl (sD (nS (qT rfl ?_)))
 refine tK (nS (qT rfl ?_))
 refine tS (tR (sQ (qA rfl) rfl (sD (nS (tT (rB ?_))))))
 refine rS (rF1 (rT rfl) ?_)
 exact ⟨rfl, by (first | rw [(tyOps_spec k).1 (by omega)] | rw [(tyOps_spec k).2.1 (by omega)] | rw [(tyOps_spec k).2.2 (by omega) (by omega) (by omega) (by omega) (by omega)]), rfl⟩
 refine sQ (qA rfl) rfl (sD (nS (cF rfl ?_)))
 refine tR (sB (qE rfl rfl) rfl rfl (fun h108 => ?_) (fun h108 => ?_))
 refine sQ (qA rfl) rfl (sD (nS (qT rfl ?_)))
 refine tS (tR (sQ (qA rfl) rfl (sD (nS (tT (rB ?_))))))
 refine rS (rF1 (rT rfl) ?_)
 exact ⟨rfl, by (first | rw [(tyOps_spec k).1 (by omega)] | rw [(tyOps_spec k).2.1 (by omega)] | rw [(tyOps_spec k).2.2 (by omega) (by omega) (by omega) (by omega) (by omega)]), rfl⟩
 refine sQ (qA rfl) rfl (sD (nS (cF rfl ?_)))
 refine tK (nrm_block (nS (tS (tR (sQ (qA rfl) rfl (sD ?_))))))
 refine nS (tT (rF1 (rT rfl) ?_))
 exact ⟨rfl, by (first | rw [(tyOps_spec k).1 (by omega)] | rw [(tyOps_spec k).2.1 (by omega)] | rw [(tyOps_spec k).2.2 (by omega) (by omega) (by omega) (by omega) (by omega)]), rfl⟩
theorem l2Kids_fn (k : Int) (G : IM) : Fn Tryz.prog 159 [.int .i64 k] [] G (Val (.int .i64 (tmOps k)) G) := by
 refine fn_enter Tryz.func159 rfl Tryz.ntmps159 Tryz.results159 rfl ?_
 intro w0
 refine tS (tR (sQ (qA rfl) rfl (sD (nS (tS (tS ?_))))))
 refine tR (sQ (qM rfl) rfl (sD (nS (tri_block (tS (tS ?_))))))
 refine tR (sB (qE rfl rfl) rfl rfl (fun h16 => ?_) (fun h16 => ?_))
 refine sQ (qA rfl) rfl (sD (nS (qT rfl ?_)))
 refine tK (nS (qT rfl ?_))
 refine tS (tR (sQ (qA rfl) rfl (sD (nS (tT (rB ?_))))))
 refine rS (rF1 (rT rfl) ?_)
 exact ⟨rfl, by (unfold tmOps; first | rw [if_pos (by omega)] | rw [if_neg (by omega), if_pos (by omega)] | rw [if_neg (by omega), if_neg (by omega), if_pos (by omega)] | rw [if_neg (by omega), if_neg (by omega), if_neg (by omega), if_pos (by omega)] | rw [if_neg (by omega), if_neg (by omega), if_neg (by omega), if_neg (by omega)]), rfl⟩
 refine sQ (qA rfl) rfl (sD (nS (cF rfl ?_)))
 refine tS (tR (sB (qE rfl rfl) rfl rfl (fun h40 => ?_) (fun h40 => ?_)))
 refine sQ (qA rfl) rfl (sD (nS (qT rfl ?_)))
 refine tK (nS (qT rfl ?_))
 refine tS (tR (sQ (qA rfl) rfl (sD (nS (tT (rB ?_))))))
 refine rS (rF1 (rT rfl) ?_)
 exact ⟨rfl, by (unfold tmOps; first | rw [if_pos (by omega)] | rw [if_neg (by omega), if_pos (by omega)] | rw [if_neg (by omega), if_neg (by omega), if_pos (by omega)] | rw [if_neg (by omega), if_neg (by omega), if_neg (by omega), if_pos (by omega)] | rw [if_neg (by omega), if_neg (by omega), if_neg (by omega), if_neg (by omega)]), rfl⟩
 refine sQ (qA rfl) rfl (sD (nS (cF rfl ?_)))
 refine tS (tR (sB (qE rfl rfl) rfl rfl (fun h64 => ?_) (fun h64 => ?_)))
 refine sQ (qA rfl) rfl (sD (nS (qT rfl ?_)))
 refine tK (nS (qT rfl ?_))
 refine tS (tR (sQ (qA rfl) rfl (sD (nS (tT (rB ?_))))))
 refine rS (rF1 (rT rfl) ?_)
 exact ⟨rfl, by (unfold tmOps; first | rw [if_pos (by omega)] | rw [if_neg (by omega), if_pos (by omega)] | rw [if_neg (by omega), if_neg (by omega), if_pos (by omega)] | rw [if_neg (by omega), if_neg (by omega), if_neg (by omega), if_pos (by omega)] | rw [if_neg (by omega), if_neg (by omega), if_neg (by omega), if_neg (by omega)]), rfl⟩
 refine sQ (qA rfl) rfl (sD (nS (cF rfl ?_)))
 refine tR (sB (qE rfl rfl) rfl rfl (fun h87 => ?_) (fun h87 => ?_))
 refine sQ (qA rfl) rfl (sD (nS (qT rfl ?_)))
 refine tS (tR (sQ (qA rfl) rfl (sD (nS (tT (rB ?_))))))
 refine rS (rF1 (rT rfl) ?_)
 exact ⟨rfl, by (unfold tmOps; first | rw [if_pos (by omega)] | rw [if_neg (by omega), if_pos (by omega)] | rw [if_neg (by omega), if_neg (by omega), if_pos (by omega)] | rw [if_neg (by omega), if_neg (by omega), if_neg (by omega), if_pos (by omega)] | rw [if_neg (by omega), if_neg (by omega), if_neg (by omega), if_neg (by omega)]), rfl⟩
 refine sQ (qA rfl) rfl (sD (nS (cF rfl ?_)))
 refine tS (tS (tR (sB (qE rfl rfl) rfl rfl (fun h109 => ?_) (fun h109 => ?_))))
 refine sQ (qA rfl) rfl (sD (nS (qT rfl ?_)))
 refine tK (nS (qT rfl ?_))
 refine tS (tR (sQ (qA rfl) rfl (sD (nS (tT (rB ?_))))))
 refine rS (rF1 (rT rfl) ?_)
 exact ⟨rfl, by (unfold tmOps; first | rw [if_pos (by omega)] | rw [if_neg (by omega), if_pos (by omega)] | rw [if_neg (by omega), if_neg (by omega), if_pos (by omega)] | rw [if_neg (by omega), if_neg (by omega), if_neg (by omega), if_pos (by omega)] | rw [if_neg (by omega), if_neg (by omega), if_neg (by omega), if_neg (by omega)]), rfl⟩
 refine sQ (qA rfl) rfl (sD (nS (cF rfl ?_)))
 refine tS (tR (sB (qE rfl rfl) rfl rfl (fun h133 => ?_) (fun h133 => ?_)))
 refine sQ (qA rfl) rfl (sD (nS (qT rfl ?_)))
 refine tK (nS (qT rfl ?_))
 refine tS (tR (sQ (qA rfl) rfl (sD (nS (tT (rB ?_))))))
 refine rS (rF1 (rT rfl) ?_)
 exact ⟨rfl, by (unfold tmOps; first | rw [if_pos (by omega)] | rw [if_neg (by omega), if_pos (by omega)] | rw [if_neg (by omega), if_neg (by omega), if_pos (by omega)] | rw [if_neg (by omega), if_neg (by omega), if_neg (by omega), if_pos (by omega)] | rw [if_neg (by omega), if_neg (by omega), if_neg (by omega), if_neg (by omega)]), rfl⟩
 refine sQ (qA rfl) rfl (sD (nS (cF rfl ?_)))
 refine tS (tR (sB (qE rfl rfl) rfl rfl (fun h157 => ?_) (fun h157 => ?_)))
 refine sQ (qA rfl) rfl (sD (nS (qT rfl ?_)))
 refine tK (nS (qT rfl ?_))
 refine tS (tR (sQ (qA rfl) rfl (sD (nS (tT (rB ?_))))))
 refine rS (rF1 (rT rfl) ?_)
 exact ⟨rfl, by (unfold tmOps; first | rw [if_pos (by omega)] | rw [if_neg (by omega), if_pos (by omega)] | rw [if_neg (by omega), if_neg (by omega), if_pos (by omega)] | rw [if_neg (by omega), if_neg (by omega), if_neg (by omega), if_pos (by omega)] | rw [if_neg (by omega), if_neg (by omega), if_neg (by omega), if_neg (by omega)]), rfl⟩
 refine sQ (qA rfl) rfl (sD (nS (cF rfl ?_)))
 refine tS (tR (sB (qE rfl rfl) rfl rfl (fun h181 => ?_) (fun h181 => ?_)))
 refine sQ (qA rfl) rfl (sD (nS (qT rfl ?_)))
 refine tK (nS (qT rfl ?_))
 refine tS (tR (sQ (qA rfl) rfl (sD (nS (tT (rB ?_))))))
 refine rS (rF1 (rT rfl) ?_)
 exact ⟨rfl, by (unfold tmOps; first | rw [if_pos (by omega)] | rw [if_neg (by omega), if_pos (by omega)] | rw [if_neg (by omega), if_neg (by omega), if_pos (by omega)] | rw [if_neg (by omega), if_neg (by omega), if_neg (by omega), if_pos (by omega)] | rw [if_neg (by omega), if_neg (by omega), if_neg (by omega), if_neg (by omega)]), rfl⟩
 refine sQ (qA rfl) rfl (sD (nS (cF rfl ?_)))
 refine tR (sB (qE rfl rfl) rfl rfl (fun h204 => ?_) (fun h204 => ?_))
 refine sQ (qA rfl) rfl (sD (nS (qT rfl ?_)))
 refine tS (tR (sQ (qA rfl) rfl (sD (nS (tT (rB ?_))))))
 refine rS (rF1 (rT rfl) ?_)
 exact ⟨rfl, by (unfold tmOps; first | rw [if_pos (by omega)] | rw [if_neg (by omega), if_pos (by omega)] | rw [if_neg (by omega), if_neg (by omega), if_pos (by omega)] | rw [if_neg (by omega), if_neg (by omega), if_neg (by omega), if_pos (by omega)] | rw [if_neg (by omega), if_neg (by omega), if_neg (by omega), if_neg (by omega)]), rfl⟩
 refine sQ (qA rfl) rfl (sD (nS (cF rfl ?_)))
 refine tS (tS (tR (sB (qE rfl rfl) rfl rfl (fun h226 => ?_) (fun h226 => ?_))))
 refine sQ (qA rfl) rfl (sD (nS (qT rfl ?_)))
 refine tK (nS (qT rfl ?_))
 refine tS (tR (sQ (qA rfl) rfl (sD (nS (tT (rB ?_))))))
 refine rS (rF1 (rT rfl) ?_)
 exact ⟨rfl, by (unfold tmOps; first | rw [if_pos (by omega)] | rw [if_neg (by omega), if_pos (by omega)] | rw [if_neg (by omega), if_neg (by omega), if_pos (by omega)] | rw [if_neg (by omega), if_neg (by omega), if_neg (by omega), if_pos (by omega)] | rw [if_neg (by omega), if_neg (by omega), if_neg (by omega), if_neg (by omega)]), rfl⟩
 refine sQ (qA rfl) rfl (sD (nS (cF rfl ?_)))
 refine tS (tR (sB (qE rfl rfl) rfl rfl (fun h250 => ?_) (fun h250 => ?_)))
 refine sQ (qA rfl) rfl (sD (nS (qT rfl ?_)))
 refine tK (nS (qT rfl ?_))
 refine tS (tR (sQ (qA rfl) rfl (sD (nS (tT (rB ?_))))))
 refine rS (rF1 (rT rfl) ?_)
 exact ⟨rfl, by (unfold tmOps; first | rw [if_pos (by omega)] | rw [if_neg (by omega), if_pos (by omega)] | rw [if_neg (by omega), if_neg (by omega), if_pos (by omega)] | rw [if_neg (by omega), if_neg (by omega), if_neg (by omega), if_pos (by omega)] | rw [if_neg (by omega), if_neg (by omega), if_neg (by omega), if_neg (by omega)]), rfl⟩
 refine sQ (qA rfl) rfl (sD (nS (cF rfl ?_)))
 refine tS (tR (sB (qE rfl rfl) rfl rfl (fun h274 => ?_) (fun h274 => ?_)))
 refine sQ (qA rfl) rfl (sD (nS (qT rfl ?_)))
 refine tK (nS (qT rfl ?_))
 refine tS (tR (sQ (qA rfl) rfl (sD (nS (tT (rB ?_))))))
 refine rS (rF1 (rT rfl) ?_)
 exact ⟨rfl, by (unfold tmOps; first | rw [if_pos (by omega)] | rw [if_neg (by omega), if_pos (by omega)] | rw [if_neg (by omega), if_neg (by omega), if_pos (by omega)] | rw [if_neg (by omega), if_neg (by omega), if_neg (by omega), if_pos (by omega)] | rw [if_neg (by omega), if_neg (by omega), if_neg (by omega), if_neg (by omega)]), rfl⟩
 refine sQ (qA rfl) rfl (sD (nS (cF rfl ?_)))
 refine tR (sB (qE rfl rfl) rfl rfl (fun h297 => ?_) (fun h297 => ?_))
 refine sQ (qA rfl) rfl (sD (nS (qT rfl ?_)))
 refine tS (tR (sQ (qA rfl) rfl (sD (nS (tT (rB ?_))))))
 refine rS (rF1 (rT rfl) ?_)
 exact ⟨rfl, by (unfold tmOps; first | rw [if_pos (by omega)] | rw [if_neg (by omega), if_pos (by omega)] | rw [if_neg (by omega), if_neg (by omega), if_pos (by omega)] | rw [if_neg (by omega), if_neg (by omega), if_neg (by omega), if_pos (by omega)] | rw [if_neg (by omega), if_neg (by omega), if_neg (by omega), if_neg (by omega)]), rfl⟩
 refine sQ (qA rfl) rfl (sD (nS (cF rfl ?_)))
 refine tS (tR (sB (qE rfl rfl) rfl rfl (fun h318 => ?_) (fun h318 => ?_)))
 refine sQ (qA rfl) rfl (sD (nS (qT rfl ?_)))
 refine tS (tR (sQ (qA rfl) rfl (sD (nS (tT (rB ?_))))))
 refine rS (rF1 (rT rfl) ?_)
 exact ⟨rfl, by (unfold tmOps; first | rw [if_pos (by omega)] | rw [if_neg (by omega), if_pos (by omega)] | rw [if_neg (by omega), if_neg (by omega), if_pos (by omega)] | rw [if_neg (by omega), if_neg (by omega), if_neg (by omega), if_pos (by omega)] | rw [if_neg (by omega), if_neg (by omega), if_neg (by omega), if_neg (by omega)]), rfl⟩
 refine sQ (qA rfl) rfl (sD (nS (cF rfl ?_)))
 refine tK (nrm_block (nS (tS (tR (sQ (qA rfl) rfl (sD ?_))))))
 refine nS (tT (rF1 (rT rfl) ?_))
 exact ⟨rfl, by (unfold tmOps; first | rw [if_pos (by omega)] | rw [if_neg (by omega), if_pos (by omega)] | rw [if_neg (by omega), if_neg (by omega), if_pos (by omega)] | rw [if_neg (by omega), if_neg (by omega), if_neg (by omega), if_pos (by omega)] | rw [if_neg (by omega), if_neg (by omega), if_neg (by omega), if_neg (by omega)]), rfl⟩
theorem l2Name_fn (s : ByteArray) (G : IM) : Fn Tryz.prog 166 [.string s] [] G (Val (.bool (nameOk s)) G) := by
 refine fn_enter Tryz.func166 rfl Tryz.ntmps166 Tryz.results166 rfl ?_
 intro w0
 refine tS (tR (sQ (qA rfl) rfl (sD (nS (tS (tR ?_))))))
 refine sQ (qM rfl) rfl (sQ (pure_len_str rfl rfl) rfl (sB (qE rfl rfl) rfl rfl (fun h10 => ?_) (fun h10 => ?_)))
 refine sQ (qM rfl) rfl (sQ (qM rfl) rfl (sP (pure_sindex rfl rfl rfl (by omega) (ba_get (by omega))) rfl rfl ?_))
 refine sB (pure_geq rfl rfl) rfl rfl (fun h14 => ?_) (fun h14 => ?_)
 refine sQ (pPt rfl rfl) rfl (sQ (qM rfl) rfl (sQ (qM rfl) rfl (sP (pure_sindex rfl rfl rfl (by omega) (ba_get (by omega))) rfl rfl ?_)))
 refine sB (pure_leq rfl rfl) rfl rfl (fun h19 => ?_) (fun h19 => ?_)
 refine sQ (pPt rfl rfl) rfl (sQ (qA rfl) rfl (sD (nS (tT (rF1 (rT rfl) ?_)))))
 exact ⟨rfl, by simp only [nameOk]; (try simp only [Int.toNat_zero] at *); (first | rw [decide_eq_true (by omega)] | rw [decide_eq_false (by omega)]), rfl⟩
 refine sQ (pPt rfl rfl) rfl (sQ (qA rfl) rfl (sD (nS (tT (rF1 (rT rfl) ?_)))))
 exact ⟨rfl, by simp only [nameOk]; (try simp only [Int.toNat_zero] at *); (first | rw [decide_eq_true (by omega)] | rw [decide_eq_false (by omega)]), rfl⟩
 refine sQ (pPt rfl rfl) rfl (sQ (qM rfl) rfl (sK rfl rfl (sK rfl rfl (sK rfl rfl (sQ (pPf rfl rfl) rfl (sQ (qA rfl) rfl ?_))))))
 refine sD (nS (tT (rF1 (rT rfl) ?_)))
 exact ⟨rfl, by simp only [nameOk]; (try simp only [Int.toNat_zero] at *); (first | rw [decide_eq_true (by omega)] | rw [decide_eq_false (by omega)]), rfl⟩
 refine sQ (qM rfl) rfl (sK rfl rfl (sK rfl rfl (sK rfl rfl (sQ (pPf rfl rfl) rfl (sQ (qM rfl) rfl (sK rfl rfl ?_))))))
 refine sK rfl rfl (sK rfl rfl (sQ (pPf rfl rfl) rfl (sQ (qA rfl) rfl (sD (nS (tT ?_))))))
 refine rF1 (rT rfl) ?_
 exact ⟨rfl, by simp only [nameOk]; (try simp only [Int.toNat_zero] at *); (first | rw [decide_eq_true (by omega)] | rw [decide_eq_false (by omega)]), rfl⟩
theorem l2None_fn (t : Ty) (G : IM) (cells : List Value) (hr : RTy G t cells) : Fn Tryz.prog 180 [.agg ⟨cells⟩] [] G (Val (.bool (tNone t)) G) := by
 obtain ⟨p, c, es, rfl, hk, hsl, hkl⟩ := hr.open
 refine fn_enter Tryz.func180 rfl Tryz.ntmps180 Tryz.results180 rfl ?_
 intro w0
 refine tS (tR ?_)
 refine sE (step_box_a rfl rfl) rfl (fun b3 => ?_)
 refine sQ (qA rfl) rfl (sD (nS (tS (tR (sQ (qF0 rfl) rfl (sL (lBs rfl rfl) rfl rfl ?_))))))
 refine sB (qE rfl rfl) rfl rfl (fun h11 => ?_) (fun h11 => ?_)
 refine sQ (qM rfl) rfl (sQ (qF0 rfl) rfl (sL (lBs rfl rfl) rfl rfl ?_))
 refine sQ (pLn rfl rfl) rfl (sB (qE rfl rfl) rfl rfl (fun h16 => ?_) (fun h16 => ?_))
 refine sQ (pPt rfl rfl) rfl (sQ (qA rfl) rfl (sD (nS (tT (rF1 (rT rfl) ?_)))))
 exact ⟨rfl, by simp only [tNone]; (first | rw [decide_eq_true (by omega)] | rw [decide_eq_false (by omega)]), rfl⟩
 refine sQ (pPt rfl rfl) rfl (sQ (qA rfl) rfl (sD (nS (tT (rF1 (rT rfl) ?_)))))
 exact ⟨rfl, by simp only [tNone]; (first | rw [decide_eq_true (by omega)] | rw [decide_eq_false (by omega)]), rfl⟩
 refine sQ (qM rfl) rfl (sK rfl rfl (sK rfl rfl (sK rfl rfl (sK rfl rfl (sQ (pPf rfl rfl) rfl (sQ (qA rfl) rfl ?_))))))
 refine sD (nS (tT (rF1 (rT rfl) ?_)))
 exact ⟨rfl, by simp only [tNone]; (first | rw [decide_eq_true (by omega)] | rw [decide_eq_false (by omega)]), rfl⟩
/-- The absolute value of a label, 0 for what is no label's size. -/
def absLb (n : Int) : Int := if n < -99 ∨ n > 99 then 0 else if n < 0 then -n else n
theorem l1Abs_fn (n : Int) (G : IM) : Fn Tryz.prog 181 [.int .i64 n] [] G (Val (.int .i64 (absLb n)) G) := by
 refine fn_enter Tryz.func181 rfl Tryz.ntmps181 Tryz.results181 rfl ?_
 intro w0
 refine tS (tR (sQ (qA rfl) rfl (sD (nS (tS (tS ?_))))))
 refine tR (sQ (qM rfl) rfl (sB (pure_lss rfl rfl) rfl rfl (fun h10 => ?_) (fun h10 => ?_)))
 refine sQ (qM rfl) rfl (sK rfl rfl (sK rfl rfl (sQ (pPt rfl rfl) rfl (sD (nS (qT rfl ?_))))))
 refine tS (tR (sQ (qA rfl) rfl (sD (nS (tT (rS ?_))))))
 refine rF1 (rT rfl) ?_
 exact ⟨rfl, by (unfold absLb; first | rw [if_pos (by omega)] | rw [if_neg (by omega), if_pos (by omega)] | rw [if_neg (by omega), if_neg (by omega)]), rfl⟩
 refine sQ (qM rfl) rfl (sQ (qM rfl) rfl (sB (pure_gtr rfl rfl) rfl rfl (fun h29 => ?_) (fun h29 => ?_)))
 refine sQ (pPf rfl rfl) rfl (sD (nS (qT rfl ?_)))
 refine tS (tR (sQ (qA rfl) rfl (sD (nS (tT (rS ?_))))))
 refine rF1 (rT rfl) ?_
 exact ⟨rfl, by (unfold absLb; first | rw [if_pos (by omega)] | rw [if_neg (by omega), if_pos (by omega)] | rw [if_neg (by omega), if_neg (by omega)]), rfl⟩
 refine sQ (pPf rfl rfl) rfl (sD (nS (cF rfl ?_)))
 refine tK (nS (tS (tS (tR (sQ (qM rfl) rfl (sB (pure_lss rfl rfl) rfl rfl (fun h53 => ?_) (fun h53 => ?_)))))))
 refine sD (nS (qT rfl ?_))
 refine tS (tR (sQ (qM rfl) rfl (sP (pure_neg rfl (by omega) (by omega)) rfl rfl ?_)))
 refine sQ (qA rfl) rfl (sD (nS (tT (rS (rF1 (rT rfl) ?_)))))
 exact ⟨rfl, by (unfold absLb; first | rw [if_pos (by omega)] | rw [if_neg (by omega), if_pos (by omega)] | rw [if_neg (by omega), if_neg (by omega)]), rfl⟩
 refine sD (nS (cF rfl ?_))
 refine tK (nS (tS (tR (sQ (qM rfl) rfl (sQ (qA rfl) rfl (sD ?_))))))
 refine nS (tT (rF1 (rT rfl) ?_))
 exact ⟨rfl, by (unfold absLb; first | rw [if_pos (by omega)] | rw [if_neg (by omega), if_pos (by omega)] | rw [if_neg (by omega), if_neg (by omega)]), rfl⟩
theorem Sl.of_blk {G : IM} {b n c sz : Nat} {A C cs : List Value} (hl : cs.length = n * sz) (hc : n ≤ c) (hm : c ≤ maxLen) (hg : G b = some (A ++ (cs ++ C))) : Sl G (some ⟨b, A.length, none⟩) n c sz cs := by
 refine ⟨hl, hc, hm, .inr ⟨b, A.length, _, rfl, hg, fun j v hj => ?_⟩⟩
 have hlt : j < cs.length := (List.getElem?_eq_some_iff.1 hj).1
 rw [List.getElem?_append, if_neg (by omega), List.getElem?_append, if_pos (by omega), show A.length + j - A.length = j by omega]
 exact hj
/-- These blocks lie in G, and among F. -/
def InG (G : IM) (bs : Blks) (F : List Nat) : Prop := (bs.map Prod.fst).Sublist F ∧ ∀ q ∈ bs, G q.1 = some q.2
/- Sizes. -/
mutual
theorem small_ty : ∀ t : Ty, szTy t ≤ 4294967296 → t.small
 | .mk _ ks, h => by
  rw [szTy] at h
  have := sumTy_nn ks
  simp only [Ty.small]
  exact ⟨by omega, small_tyL ks (by omega)⟩
theorem small_tyL : ∀ ts : List Ty, sumTy ts ≤ 4294967296 → Ty.smallL ts
 | [], _ => by simp [Ty.smallL]
 | t :: ts, h => by
  rw [sumTy] at h
  have := szTy_nn t
  have := sumTy_nn ts
  simp only [Ty.smallL]
  exact ⟨small_ty t (by omega), small_tyL ts (by omega)⟩
end
mutual
theorem small_tm : ∀ t : Tm, szTm t ≤ 4294967296 → t.small
 | .mk _ nm _ ty fr _ ks, h => by
  rw [szTm] at h
  have := sumTm_nn ks
  have := szTy_nn ty
  have := szTy_nn fr
  simp only [Tm.small]
  exact ⟨by omega, small_ty ty (by omega), small_ty fr (by omega), by omega, small_tmL ks (by omega)⟩
theorem small_tmL : ∀ ts : List Tm, sumTm ts ≤ 4294967296 → Tm.smallL ts
 | [], _ => by simp [Tm.smallL]
 | t :: ts, h => by
  rw [sumTm] at h
  have := szTm_nn t
  have := sumTm_nn ts
  simp only [Tm.smallL]
  exact ⟨small_tm t (by omega), small_tmL ts (by omega)⟩
end
mutual
theorem count_sz : ∀ t : Tm, (tmCount t : Int) ≤ szTm t + 1
 | .mk _ nm _ ty fr _ ks => by
  have := count_szL ks
  have := szTy_nn ty
  have := szTy_nn fr
  rw [szTm, tmCount]; omega
theorem count_szL : ∀ ts : List Tm, (tmCountL ts : Int) ≤ ts.length + sumTm ts
 | [] => by rw [sumTm, tmCountL]; simp
 | t :: ts => by
  have := count_sz t
  have := count_szL ts
  rw [sumTm, tmCountL, List.length_cons]; omega
end
def tyAny : Ty := .mk 1 []
/-- A type of at most that height whose nodes have the operands that they must have. -/
def tAh : Nat → Ty → Prop
 | 0, .mk k ks => ks = [] ∧ k ≠ 4 ∧ k ≠ 5
 | n + 1, .mk k ks => (k = 4 ∨ k = 5 → ks.length = 2) ∧ (k ≠ 4 → k ≠ 5 → ks.length = 0) ∧ ∀ t ∈ ks, tAh n t
mutual
/-- The nodes have the operands that they must have. -/
def tAr : Ty → Prop
 | .mk k ks => (k = 4 ∨ k = 5 → ks.length = 2) ∧ (k ≠ 4 → k ≠ 5 → ks.length = 0) ∧ tArL ks
def tArL : List Ty → Prop
 | [] => True
 | t :: ts => tAr t ∧ tArL ts
end
theorem tArL_mem : ∀ {ts : List Ty}, tArL ts ↔ ∀ t ∈ ts, tAr t
 | [] => by simp [tArL]
 | t :: ts => by simp only [tArL, tArL_mem (ts := ts), List.forall_mem_cons]
theorem tAh.ar : ∀ {n : Nat} {t : Ty}, tAh n t → tAr t
 | 0, .mk k ks, h => by
  obtain ⟨rfl, h1, h2⟩ := h
  rw [tAr]
  exact ⟨fun h => by omega, fun _ _ => rfl, by rw [tArL]; trivial⟩
 | n + 1, .mk k ks, h => by
  obtain ⟨h1, h2, h3⟩ := h
  rw [tAr]
  exact ⟨h1, h2, tArL_mem.2 fun t ht => (h3 t ht).ar⟩
theorem tAh.up : ∀ {n : Nat} {t : Ty}, tAh n t → tAh (n + 1) t
 | 0, .mk k ks, h => by
  obtain ⟨rfl, h1, h2⟩ := h
  exact ⟨fun h => by omega, fun _ _ => rfl, by simp⟩
 | n + 1, .mk k ks, h => by
  obtain ⟨h1, h2, h3⟩ := h
  exact ⟨h1, h2, fun t ht => (h3 t ht).up⟩
theorem tAh.le {n m : Nat} {t : Ty} (h : tAh n t) (hm : n ≤ m) : tAh m t := by
 induction hm with
 | refl => exact h
 | step _ ih => exact ih.up
theorem tAh_mk {d : Nat} {k : Int} {ts : List Ty} (h0 : d = 0 → k < 4) (hl : (ts.length : Int) = tyOps k) (h1 : 1 ≤ k) (h5 : k ≤ 5) (ha : ∀ u ∈ ts, tAh (d - 1) u) : tAh d (.mk k ts) := by
 have hk : k = 1 ∨ k = 2 ∨ k = 3 ∨ k = 4 ∨ k = 5 := by omega
 cases d with
 | zero =>
  have hk4 := h0 rfl
  refine ⟨?_, by omega, by omega⟩
  have : tyOps k = 0 := by
   rcases hk with rfl | rfl | rfl | rfl | rfl <;> first | rfl | omega
  exact List.length_eq_zero_iff.1 (by omega)
 | succ d =>
  refine ⟨?_, ?_, ha⟩
  ·rintro (rfl | rfl)
   ·have : tyOps 4 = 2 := rfl
    omega
   ·have : tyOps 5 = 2 := rfl
    omega
  ·intro h4 h5
   have : tyOps k = 0 := by
    rcases hk with rfl | rfl | rfl | rfl | rfl <;> first | rfl | omega
   omega
theorem tAh_any (n : Nat) : tAh n tyAny := by
 refine tAh.le (n := 0) ⟨rfl, by decide, by decide⟩ (Nat.zero_le n)
theorem tAh_leaf (n : Nat) {k : Int} (h4 : k ≠ 4) (h5 : k ≠ 5) : tAh n (.mk k []) := tAh.le (n := 0) ⟨rfl, h4, h5⟩ (Nat.zero_le n)
theorem tAr_any : tAr tyAny := (tAh_any 0).ar
mutual
theorem tAr.small : ∀ {t : Ty}, tAr t → t.small
 | .mk k ks, h => by
  rw [tAr] at h
  rw [Ty.small]
  exact ⟨by have h1 := h.1; have h2 := h.2.1; omega, tArL.small h.2.2⟩
theorem tArL.small : ∀ {ts : List Ty}, tArL ts → Ty.smallL ts
 | [], _ => by rw [Ty.smallL]; trivial
 | t :: ts, h => by
  rw [tArL] at h
  rw [Ty.smallL]
  exact ⟨h.1.small, tArL.small h.2⟩
end
theorem tAh_sz : ∀ {n : Nat} {t : Ty}, tAh n t → szTy t ≤ ((2 ^ (n + 1) - 2 : Nat) : Int)
 | 0, .mk k ks, h => by
  obtain ⟨rfl, h1, h2⟩ := h
  rw [szTy, sumTy]; simp
 | n + 1, .mk k ks, h => by
  obtain ⟨h1, h2, h3⟩ := h
  have hp : 2 ≤ 2 ^ (n + 1) := by
   have := Nat.pow_le_pow_right (n := 2) (by omega) (show 1 ≤ n + 1 by omega)
   simpa using this
  have e : 2 ^ (n + 1 + 1) = 2 ^ (n + 1) * 2 := Nat.pow_succ ..
  have hl : ks.length = 0 ∨ ks.length = 2 := by omega
  rw [szTy]
  match ks, hl, h3 with
  | [], _, _ => rw [sumTy]; simp
  | [a, b], _, h3 =>
   have := tAh_sz (h3 a (by simp))
   have := tAh_sz (h3 b (by simp))
   simp only [sumTy, List.length_cons, List.length_nil]; omega
theorem tAh_like {k : Int} {ks us : List Ty} : ∀ {n : Nat}, tAh n (.mk k ks) → us.length = ks.length → (∀ u ∈ us, tAh (n - 1) u) → tAh n (.mk k us)
 | 0, h, hl, _ => by
  obtain ⟨rfl, h1, h2⟩ := h
  exact ⟨List.length_eq_zero_iff.1 (by simpa using hl), h1, h2⟩
 | n + 1, h, hl, hu => by
  obtain ⟨h1, h2, h3⟩ := h
  exact ⟨fun hk => by rw [hl]; exact h1 hk, fun a b => by rw [hl]; exact h2 a b, hu⟩
theorem tAh_kid {k : Int} {ks : List Ty} {t : Ty} : ∀ {n : Nat}, tAh n (.mk k ks) → t ∈ ks → tAh (n - 1) t
 | 0, h, ht => by
  obtain ⟨rfl, h1, h2⟩ := h
  simp at ht
 | n + 1, h, ht => h.2.2 t ht
theorem tScan_no {k : Int} {ks : List Ty} {d : Int} (h : 4 < d ∨ tyOps k ≠ ks.length) : tScan (.mk k ks) d = false := by
 rw [tScan]
 rcases h with h | h
 ·rw [decide_eq_false (by omega)]; rfl
 ·rw [decide_eq_false (p := tyOps k = ks.length) h, Bool.and_false]; rfl
theorem tScan_go {k : Int} {ks : List Ty} {d : Int} (h : d ≤ 4) (h2 : tyOps k = ks.length) : tScan (.mk k ks) d = tScanL ks (d + 1) := by
 rw [tScan, decide_eq_true h, decide_eq_true h2]; rfl
theorem tScanL_f {ks : List Ty} {d : Int} {i : Nat} (hi : i < ks.length) (h : tScan ks[i] d = false) : tScanL ks d = false := by
 cases hx : tScanL ks d with
 | false => rfl
 | true => rw [(tScanL_iff ks d).1 hx i hi] at h; cases h
theorem l1Shape_fn : ∀ (t : Ty) (d : Int) (G : IM) (cells : List Value), 0 ≤ d ∧ d ≤ 4 → RTy G t cells →
  Fn Tryz.prog 156 [.agg ⟨cells⟩, .int .i64 d] [] G (Val (.bool (tScan t (5 - d))) G) := by
 refine Ty.ind fun k ks ih d G cells hd hr => ?_
 obtain ⟨p, c, es, rfl, hk, hsl, hkl⟩ := hr.open
 simp only [Ty.k, Ty.ks] at hk hsl hkl ⊢
 have hn := hsl.le
 have hk1 := l1Kids_fn k G
 refine fn_enter Tryz.func156 rfl Tryz.ntmps156 Tryz.results156 rfl ?_
 intro w0
 refine tS (tR ?_)
 refine sE (step_box_a rfl rfl) rfl (fun b3 => ?_)
 refine sQ (qA rfl) rfl (sD (nS (tS (tS (tri_draw mixed rfl ?_)))))
 refine any_pure (i := 0) (l' := [tt,ff,ff,ff,ff,ff,ff,ff,ff,ff,ff]) rfl npI (qM rfl) rfl (by kernel_rfl) rfl rfl ?_
 refine any_bool (i := 1) (l' := [tt,tt,ff,ff,ff,ff,ff,ff,ff,ff,ff]) rfl npI (pure_lss rfl rfl) rfl (by kernel_rfl) rfl rfl (fun h11 => ?_) (fun h11 => ?_)
 refine aP 2 rfl (qM rfl) rfl ?_
 refine aK' 3 rfl rfl rfl ?_
 refine aK' 4 rfl rfl rfl ?_
 refine aK' 6 rfl rfl rfl ?_
 refine aK' 7 rfl rfl rfl ?_
 refine aK' 8 rfl rfl rfl ?_
 refine aK' 5 rfl rfl rfl ?_
 refine aK' 9 rfl rfl rfl ?_
 refine aP 10 rfl (pPt rfl rfl) rfl ?_
 refine aD' ?_
 refine nS (qT rfl ?_)
 refine tS (tR (sQ (qA rfl) rfl (sD (nS (tT (rS ?_))))))
 refine rF1 (rT rfl) ?_
 (rw [tScan_no (by omega)]; exact ⟨rfl, rfl, rfl⟩)
 refine aP 2 rfl (qM rfl) rfl ?_
 refine aP 3 rfl (qF0 rfl) rfl ?_
 refine aL 4 rfl (lBs rfl rfl) rfl ?_
 refine aP 6 rfl (qF0 rfl) rfl ?_
 refine aL 7 rfl (lBs rfl rfl) rfl ?_
 refine aP 8 rfl (pLn rfl rfl) rfl ?_
 refine aO' 5 ?_
 refine one_val rfl rfl (hk1) rfl rfl rfl ?_
 refine any_bool (i := 9) (l' := [tt,tt,tt,tt,tt,tt,tt,tt,tt,tt,ff]) rfl npI (pure_neq rfl rfl) rfl (by kernel_rfl) rfl rfl (fun h41 => ?_) (fun h41 => ?_)
 refine aP 10 rfl (pPf rfl rfl) rfl ?_
 refine aD' ?_
 refine nS (qT rfl ?_)
 refine tS (tR (sQ (qA rfl) rfl (sD (nS (tT (rS ?_))))))
 refine rF1 (rT rfl) ?_
 (rw [tScan_no (by omega)]; exact ⟨rfl, rfl, rfl⟩)
 refine aP 10 rfl (pPf rfl rfl) rfl ?_
 refine aD' ?_
 refine nS (cF rfl ?_)
 refine tK (nS (tS (tS (tR (sQ (qA rfl) rfl (sD ?_))))))
 refine nS (tri_block ?_)
 (refine tri_loopN (fun (i : Nat) => ⟨[(5, .int .i64 i), (2, .pointer (some ⟨b3, 0, none⟩)), (1, .int .i64 d)], [.blk b3 [.int .i64 k, .slice p ks.length c]], G⟩) (fun i => i ≤ ks.length ∧ ∀ j (h : j < ks.length), j < i → tScan ks[j] (5 - d + 1) = true) (fun i => ks.length - i) 0 ?_ ?_ ?_)
 exact sMk
 exact ⟨by omega, by omega⟩
 (rintro i ⟨hi, hf⟩)
 refine tS (tS (tR (sQ (qM rfl) rfl (sQ (qF0 rfl) rfl (sL (lBs rfl rfl) rfl rfl ?_)))))
 refine sQ (pLn rfl rfl) rfl (sB (pure_lss rfl rfl) rfl rfl (fun h79 => ?_) (fun h79 => ?_))
 refine sD (nS (qT rfl ?_))
 refine tK (nS (tS (tri_block (tS (tR (sQ (qF0 rfl) rfl ?_))))))
 refine sL (lBs rfl rfl) rfl rfl ?_
 refine sQ (qM rfl) rfl ?_
 (obtain ⟨b, o, p2, c2, rfl, hat, hre, hgb⟩ := hsl.kidTy hkl (i := i) (by omega) (by omega); refine sP (pIN rfl rfl rfl (by omega)) rfl rfl ?_)
 refine sL (load_a rfl rfl (hat _) rfl) rfl rfl ?_
 refine sQ (qM rfl) rfl (sP (pure_sub rfl rfl (by omega) (by omega)) rfl rfl ?_)
 (have hih := ih ks[i] (List.getElem_mem (by omega)) (d - 1) G _ (by omega) hre; rw [show 5 - (d - 1) = 5 - d + 1 by omega] at hih; refine seq_valb rfl hih rfl rfl (fun h96 => ?_) (fun h96 => ?_))
 refine sQ (pNt rfl) rfl (sD (nS (cF rfl ?_)))
 refine tK (nrm_block (nS (tR (sQ (qM rfl) rfl (sP (pure_add rfl rfl (by omega) (by omega)) rfl rfl ?_)))))
 refine sQ (qA rfl) rfl (sD (nrm_loopN (i + 1) ?_ ?_ ?_))
 exact sMk
 exact ⟨by omega, fun j hj hji => by (by_cases he : j = i; (subst he; assumption); exact hf j hj (by omega))⟩
 omega
 refine sQ (pNf rfl) rfl (sD (nS (qT rfl ?_)))
 refine tS (tR (sQ (qA rfl) rfl (sD (nS (tT (rB ?_))))))
 refine rS (ret_loopN (rB (rS (rF1 (rT rfl) ?_))))
 (rw [tScan_go (by omega) (by omega), tScanL_f (i := i) (by omega) (by assumption)]; exact ⟨rfl, rfl, rfl⟩)
 refine sD (nS (cF rfl ?_))
 refine tri_exit ?_
 refine ext_seq ?_
 refine ext_loopN ?_
 refine ext_block_eq ?_
 refine nS (tS (tR (sQ (qA rfl) rfl (sD (nS (tT ?_))))))
 refine rF1 (rT rfl) ?_
 (rw [tScan_go (by omega) (by omega), (tScanL_iff ks _).2 (fun j hj => hf j hj (by omega))]; exact ⟨rfl, rfl, rfl⟩)
theorem sTypeValid_fn (t : Ty) (G : IM) (cells : List Value) (hr : RTy G t cells) : Fn Tryz.prog 117 [.agg ⟨cells⟩] [] G (Val (.bool (tValid t)) G) := by
 have hl := hr.len
 have hv := l1Shape_fn t 4 G cells (by omega) hr
 refine fn_enter Tryz.func117 rfl Tryz.ntmps117 Tryz.results117 rfl ?_
 intro w0
 refine tS (tR ?_)
 refine sE (step_box_a rfl rfl) rfl (fun b3 => ?_)
 refine sQ (qA rfl) rfl (sD (nS (tS (tR (sL (load_a rfl rfl (at_blk_all (by repeat first | exact mH | apply mT)) (by assumption)) rfl rfl ?_)))))
 refine seq_val rfl (hv) rfl rfl ?_
 refine sQ (qA rfl) rfl (sD (nS (tT (rF1 (rT rfl) ?_))))
 exact ⟨rfl, rfl, rfl⟩
theorem tScan_inv {k : Int} {ks : List Ty} {d : Int} (h : tScan (.mk k ks) d = true) : tyOps k = ks.length ∧ ∀ i, (hi : i < ks.length) → tScan ks[i] (d + 1) = true := by
 rw [tScan] at h
 simp only [Bool.and_eq_true, decide_eq_true_eq] at h
 exact ⟨h.1.2, (tScanL_iff ks _).1 h.2⟩
theorem tCons_any {k k' : Int} {ks ks' : List Ty} (h : k = 1 ∨ k' = 1) : tCons (.mk k ks) (.mk k' ks') = true := by
 rw [tCons_mk]
 rcases h with h | h
 ·rw [decide_eq_true (p := k = 1) h]; rfl
 ·rw [decide_eq_true (p := k' = 1) h]; simp
theorem tCons_ne {k k' : Int} {ks ks' : List Ty} (h : k ≠ 1) (h' : k' ≠ 1) (hk : k ≠ k') : tCons (.mk k ks) (.mk k' ks') = false := by
 rw [tCons_mk, decide_eq_false h, decide_eq_false h', decide_eq_false hk]; rfl
theorem tCons_eq {k k' : Int} {ks ks' : List Ty} (h : k ≠ 1) (h' : k' ≠ 1) (hk : k = k') : tCons (.mk k ks) (.mk k' ks') = tConsL ks ks' := by
 rw [tCons_mk, decide_eq_false h, decide_eq_false h', decide_eq_true hk]; rfl
theorem tConsL_f {ks ks' : List Ty} {i : Nat} (hi : i < ks.length) (hi' : i < ks'.length) (h : tCons ks[i] ks'[i] = false) : tConsL ks ks' = false := by
 cases hx : tConsL ks ks' with
 | false => rfl
 | true => rw [((tConsL_iff ks ks').1 hx).2 i hi hi'] at h; cases h
theorem l1Consistent_fn : ∀ (t t' : Ty) (G : IM) (cells cells' : List Value) (d d' : Int), tScan t d = true → tScan t' d' = true → RTy G t cells → RTy G t' cells' →
  Fn Tryz.prog 60 [.agg ⟨cells⟩, .agg ⟨cells'⟩] [] G (Val (.bool (tCons t t')) G) := by
 refine Ty.ind fun k ks ih t' G cells cells' d d' hv hv' hr hr' => ?_
 obtain ⟨k', ks'⟩ := t'
 obtain ⟨p, c, es, rfl, hk, hsl, hkl⟩ := hr.open
 obtain ⟨p', c', es', rfl, hk', hsl', hkl'⟩ := hr'.open
 simp only [Ty.k, Ty.ks] at hk hsl hkl hk' hsl' hkl' ⊢
 have hn := hsl.le
 have hn' := hsl'.le
 obtain ⟨hv1, hv2⟩ := tScan_inv hv
 obtain ⟨hv1', hv2'⟩ := tScan_inv hv'
 have hle : k = k' → ks.length = ks'.length := by rintro rfl; omega
 refine fn_enter Tryz.func60 rfl Tryz.ntmps60 Tryz.results60 rfl ?_
 intro w0
 refine tS (tR ?_)
 refine sE (step_box_a rfl rfl) rfl (fun b3 => ?_)
 refine sE (step_box_a rfl rfl) rfl (fun b4 => ?_)
 refine sQ (qA rfl) rfl (sD (nS (tS (tS (tR (sQ (qF0 rfl) rfl ?_))))))
 refine sL (lBs rfl rfl) rfl rfl ?_
 refine sB (qE rfl rfl) rfl rfl (fun h13 => ?_) (fun h13 => ?_)
 refine sQ (qM rfl) rfl (sK rfl rfl (sK rfl rfl (sK rfl rfl (sQ (pPt rfl rfl) rfl (sD (nS ?_))))))
 refine qT rfl ?_
 refine tS (tR (sQ (qA rfl) rfl (sD (nS (tT (rS ?_))))))
 refine rF1 (rT rfl) ?_
 (rw [tCons_any (by omega)]; exact ⟨rfl, rfl, rfl⟩)
 refine sQ (qM rfl) rfl (sQ (qF0 rfl) rfl (sL (lBs rfl rfl) rfl rfl ?_))
 refine sB (qE rfl rfl) rfl rfl (fun h34 => ?_) (fun h34 => ?_)
 refine sQ (pPf rfl rfl) rfl (sD (nS (qT rfl ?_)))
 refine tS (tR (sQ (qA rfl) rfl (sD (nS (tT (rS ?_))))))
 refine rF1 (rT rfl) ?_
 (rw [tCons_any (by omega)]; exact ⟨rfl, rfl, rfl⟩)
 refine sQ (pPf rfl rfl) rfl (sD (nS (cF rfl ?_)))
 refine tK (nS (tS (tS (tR (sQ (qF0 rfl) rfl (sL (lBs rfl rfl) rfl rfl ?_))))))
 refine sQ (qF0 rfl) rfl (sL (lBs rfl rfl) rfl rfl ?_)
 refine sB (pure_neq rfl rfl) rfl rfl (fun h61 => ?_) (fun h61 => ?_)
 refine sD (nS (qT rfl ?_))
 refine tS (tR (sQ (qA rfl) rfl (sD (nS (tT (rS ?_))))))
 refine rF1 (rT rfl) ?_
 (rw [tCons_ne (by omega) (by omega) (by omega)]; exact ⟨rfl, rfl, rfl⟩)
 refine sD (nS (cF rfl ?_))
 refine tK (nS (tS (tS (tR (sQ (qA rfl) rfl (sD ?_))))))
 refine nS (tri_block ?_)
 (have hll : ks.length = ks'.length := hle (by omega); refine tri_loopN (fun (i : Nat) => ⟨[(5, .int .i64 i), (3, .pointer (some ⟨b4, 0, none⟩)), (2, .pointer (some ⟨b3, 0, none⟩))], [.blk b3 [.int .i64 k, .slice p ks.length c], .blk b4 [.int .i64 k', .slice p' ks'.length c']], G⟩) (fun i => i ≤ ks.length ∧ ∀ j (h : j < ks.length) (h' : j < ks'.length), j < i → tCons ks[j] ks'[j] = true) (fun i => ks.length - i) 0 ?_ ?_ ?_)
 exact sMk
 exact ⟨by omega, by omega⟩
 (rintro i ⟨hi, hf⟩)
 refine tS (tS (tR (sQ (qM rfl) rfl (sQ (qF0 rfl) rfl (sL (lBs rfl rfl) rfl rfl ?_)))))
 refine sQ (pLn rfl rfl) rfl (sB (pure_lss rfl rfl) rfl rfl (fun h97 => ?_) (fun h97 => ?_))
 refine sD (nS (qT rfl ?_))
 refine tK (nS (tS (tri_block (tS ?_))))
 (obtain ⟨b, o, p2, c2, rfl, hat, hre, hgb⟩ := hsl.kidTy hkl (i := i) (by omega) (by omega); obtain ⟨b', o', p2', c2', rfl, hat', hre', hgb'⟩ := hsl'.kidTy hkl' (i := i) (by omega) (by omega); refine tri_draw mixed rfl ?_)
 refine any_pure (i := 0) (l' := [tt,ff,ff,ff,ff,ff,ff,ff,ff,ff,ff,ff]) rfl npI (qF0 rfl) rfl (by kernel_rfl) rfl rfl ?_
 refine aL 1 rfl (lBs rfl rfl) rfl ?_
 refine aP 2 rfl (qM rfl) rfl ?_
 refine aP 3 rfl (pIN rfl rfl rfl (by omega)) rfl ?_
 refine aL 4 rfl (load_a rfl rfl (hat _) rfl) rfl ?_
 refine aP 5 rfl (qF0 rfl) rfl ?_
 refine aL 6 rfl (lBs rfl rfl) rfl ?_
 refine aP 7 rfl (qM rfl) rfl ?_
 refine aP 8 rfl (pIN rfl rfl rfl (by omega)) rfl ?_
 refine aL 9 rfl (load_a rfl rfl (hat' _) rfl) rfl ?_
 refine aO' 10 ?_
 refine one_valb rfl rfl (ih ks[i] (List.getElem_mem (by omega)) ks'[i] G _ _ _ _ (hv2 i (by omega)) (hv2' i (by omega)) hre hre') rfl rfl rfl (fun h118 => ?_) (fun h118 => ?_)
 refine aP 11 rfl (pNt rfl) rfl ?_
 refine aD' ?_
 refine nS (cF rfl ?_)
 refine tK (nrm_block (nS (tR (sQ (qM rfl) rfl (sP (pure_add rfl rfl (by omega) (by omega)) rfl rfl ?_)))))
 refine sQ (qA rfl) rfl (sD (nrm_loopN (i + 1) ?_ ?_ ?_))
 exact sMk
 exact ⟨by omega, fun j hj hj' hji => by (by_cases he : j = i; (subst he; assumption); exact hf j hj hj' (by omega))⟩
 omega
 refine aP 11 rfl (pNf rfl) rfl ?_
 refine aD' ?_
 refine nS (qT rfl ?_)
 refine tS (tR (sQ (qA rfl) rfl (sD (nS (tT (rB ?_))))))
 refine rS (ret_loopN (rB (rS (rF1 (rT rfl) ?_))))
 (rw [tCons_eq (by omega) (by omega) (by omega), tConsL_f (i := i) (by omega) (by omega) (by assumption)]; exact ⟨rfl, rfl, rfl⟩)
 refine sD (nS (cF rfl ?_))
 refine tri_exit ?_
 refine ext_seq ?_
 refine ext_loopN ?_
 refine ext_block_eq ?_
 refine nS (tS (tR (sQ (qA rfl) rfl (sD (nS (tT ?_))))))
 refine rF1 (rT rfl) ?_
 (rw [tCons_eq (by omega) (by omega) (by omega), (tConsL_iff ks _).2 ⟨hll, fun j hj hj' => hf j hj hj' (by omega)⟩]; exact ⟨rfl, rfl, rfl⟩)
end Gw
end Go.Proofs.YthpdjmbpbdbodaaGreatDoor
