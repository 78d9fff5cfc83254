/-
  What the functions of the program compute, in plain words over trees. Terms in memory of their own; slices that were made, filled and given up. The laws' mark texts: the letter m and a number's digits. Lists of paths: what they are in plain words, and how fresh ones lie in memory. The laws' comparisons, at data that are the same. The reference model's source of numbers: each draw stays in its bounds. The functions on types and the small tests of terms: each computes what the plain words say. The scans of types: typeScan, TypeValid, consistent, Consistent. The tests of terms. The scan of a term, CastValid, TermValid.
-/
import Derived.Test.YtgclbnfdlddpnaaGreatKa0
import Derived.Laws.BytesArg
namespace Go.Proofs.YtgclbnfdlddpnaaGreat
open Go Go.RowKit
namespace Gw

def withinB (n lo hi : Int) : Bool := decide (lo ≤ n ∧ n ≤ hi)
theorem withinB_t {n lo hi : Int} (h : withinB n lo hi = true) : lo ≤ n ∧ n ≤ hi := by simpa [withinB] using h
theorem withinB_f {n lo hi : Int} (h : withinB n lo hi = false) : ¬(lo ≤ n ∧ n ≤ hi) := by simpa [withinB] using h
/-- How many operands a kind of types has, -1 for no kind. -/
def tyOps (k : Int) : Int := if k = 1 ∨ k = 2 ∨ k = 3 then 0 else if k = 4 ∨ k = 5 then 2 else -1
theorem tyOps_spec (k : Int) : (k = 1 ∨ k = 2 ∨ k = 3 → tyOps k = 0) ∧ (k = 4 ∨ k = 5 → tyOps k = 2) ∧ (k ≠ 1 → k ≠ 2 → k ≠ 3 → k ≠ 4 → k ≠ 5 → tyOps k = -1) := by
 unfold tyOps; split <;> try split
 all_goals omega
/-- How many operands a kind of terms has, -1 for no kind. -/
def tmOps (k : Int) : Int := if k = 1 ∨ k = 2 ∨ k = 3 ∨ k = 4 then 0 else if k = 5 ∨ k = 11 ∨ k = 12 ∨ k = 13 ∨ k = 14 then 1 else if k = 6 ∨ k = 7 ∨ k = 8 ∨ k = 10 then 2 else if k = 9 then 3 else -1

mutual
def tScan : Ty → Int → Bool
 | .mk k ks, d => decide (d ≤ 4) && decide (tyOps k = ks.length) && tScanL ks (d + 1)
def tScanL : List Ty → Int → Bool
 | [], _ => true
 | t :: ts, d => tScan t d && tScanL ts d
end
theorem tScanL_iff : ∀ (ts : List Ty) (d : Int), tScanL ts d = true ↔ ∀ i, (h : i < ts.length) → tScan ts[i] d = true
 | [], d => by simp [tScanL]
 | t :: ts, d => by
  simp only [tScanL, Bool.and_eq_true, tScanL_iff ts d]
  constructor
  ·rintro ⟨h1, h2⟩ i hi
   cases i with
   | zero => exact h1
   | succ i => exact h2 i (by simpa using hi)
  ·intro h
   exact ⟨h 0 (by simp), fun i hi => h (i + 1) (by simpa using hi)⟩
def tValid (t : Ty) : Bool := tScan t 1
def tNone (t : Ty) : Bool := decide (t.k = 0 ∧ t.ks.length = 0)

mutual
def tCons : Ty → Ty → Bool
 | .mk k ks, t => decide (k = 1) || decide (t.k = 1) || (decide (k = t.k) && tConsL ks t.ks)
def tConsL : List Ty → List Ty → Bool
 | [], [] => true
 | a :: xs, b :: ys => tCons a b && tConsL xs ys
 | _, _ => false
end
theorem tCons_mk (k k' : Int) (ks ks' : List Ty) : tCons (.mk k ks) (.mk k' ks') = (decide (k = 1) || decide (k' = 1) || (decide (k = k') && tConsL ks ks')) := by rw [tCons]; rfl
theorem tConsL_iff : ∀ (xs ys : List Ty), tConsL xs ys = true ↔ xs.length = ys.length ∧ ∀ i, (h : i < xs.length) → (h' : i < ys.length) → tCons xs[i] ys[i] = true
 | [], [] => by simp [tConsL]
 | [], b :: ys => by simp [tConsL]
 | a :: xs, [] => by simp [tConsL]
 | a :: xs, b :: ys => by
  simp only [tConsL, Bool.and_eq_true, tConsL_iff xs ys, List.length_cons]
  constructor
  ·rintro ⟨h1, h2, h3⟩
   refine ⟨by omega, fun i hi hi' => ?_⟩
   cases i with
   | zero => exact h1
   | succ i => exact h3 i (by simpa using hi) (by simpa using hi')
  ·rintro ⟨h1, h2⟩
   exact ⟨h2 0 (by simp) (by simp), by omega, fun i hi hi' => h2 (i + 1) (by simpa using hi) (by simpa using hi')⟩
def tConsistent (a b : Ty) : Bool := tValid a && tValid b && tCons a b
def nameOk (s : ByteArray) : Bool := decide (s.size = 1 ∧ 97 ≤ (s.data.getD 0 0).toNat ∧ (s.data.getD 0 0).toNat ≤ 122)
def labelOk (n : Int) : Bool := withinB n 1 99 || withinB n (-99) (-1)

theorem ba_get {s : ByteArray} {j : Int} (h : j.toNat < s.size) : s[j.toNat]? = some (s.data.getD j.toNat 0) := by
 rw [getElem?_pos s j.toNat h]
 show some (s.data[j.toNat]'h) = _
 rw [Array.getD_eq_getD_getElem?, getElem?_pos s.data j.toNat h]
 rfl
theorem firstIx_neg {q : Nat → Bool} {n : Nat} : firstIx q n < 0 ↔ ∀ j, j < n → q j = false := by
 constructor
 ·intro h j hj
  unfold firstIx at h
  split at h
  ·omega
  ·rename_i hf
   have := List.find?_eq_none.1 hf j (List.mem_range.2 hj)
   simpa using this
 ·intro h; rw [firstIx_none h]; omega
theorem firstIx_ge {q : Nat → Bool} {n : Nat} : 0 ≤ firstIx q n ↔ ∃ j, j < n ∧ q j = true := by
 have h := @firstIx_neg q n
 constructor
 ·intro h0
  apply Classical.byContradiction
  intro hn
  have : firstIx q n < 0 := h.2 fun j hj => by cases hq : q j with | false => rfl | true => exact absurd ⟨j, hj, hq⟩ hn
  omega
 ·rintro ⟨j, hj, hq⟩
  apply Classical.byContradiction
  intro hn
  rw [h.1 (by omega) j hj] at hq
  exact absurd hq (by simp)
theorem contains_not {α : Type} (f : α → Bool) (ks : List α) (a : α) : decide (0 ≤ firstIx (fun i => !f (ks.getD i a)) ks.length) = !ks.all f := by
 cases h : ks.all f with
 | true =>
  rw [List.all_eq_true] at h
  apply decide_eq_false
  rw [firstIx_ge]
  rintro ⟨j, hj, hq⟩
  rw [List.getD_eq_getElem?_getD, List.getElem?_eq_getElem hj, Option.getD_some, h _ (List.getElem_mem hj)] at hq
  exact absurd hq (by simp)
 | false =>
  apply decide_eq_true
  rw [firstIx_ge]
  apply Classical.byContradiction
  intro hn
  have : ks.all f = true := by
   rw [List.all_eq_true]
   intro x hx
   obtain ⟨j, hj, rfl⟩ := List.getElem_of_mem hx
   cases hf : f ks[j] with
   | true => rfl
   | false => exact absurd ⟨j, hj, by rw [List.getD_eq_getElem?_getD, List.getElem?_eq_getElem hj, Option.getD_some, hf]; rfl⟩ hn
  rw [h] at this
  exact absurd this (by simp)
theorem tScanL_all : ∀ (ks : List Ty) (d : Int), tScanL ks d = ks.all (tScan · d)
 | [], d => rfl
 | t :: ts, d => by simp [tScanL, tScanL_all ts d]
theorem RTyL.inv {G : IM} : ∀ {ts : List Ty} {es : List (List Value)}, RTyL G ts es → ∀ {i : Nat} {e : List Value}, es[i]? = some e → ∀ a, ts.getD i a ∈ ts ∧ RTy G (ts.getD i a) e
 | [], es, h, i, e, he, a => by
  have := h.len
  simp only [List.length_nil, List.length_eq_zero_iff] at this
  subst this; simp at he
 | t :: ts, es, h, i, e, he, a => by
  have hi : i < es.length := by
   apply Classical.byContradiction; intro hn; rw [List.getElem?_eq_none (by omega)] at he; simp at he
  have hl := h.len
  obtain ⟨e', he', hr⟩ := h.get (i := i) (t := (t :: ts)[i]'(by omega)) (by rw [List.getElem?_eq_getElem])
  rw [he] at he'
  obtain rfl := Option.some.inj he'
  rw [List.getD_eq_getElem?_getD, List.getElem?_eq_getElem (by omega), Option.getD_some]
  exact ⟨List.getElem_mem _, hr⟩
theorem RTmL.inv {G : IM} : ∀ {ts : List Tm} {es : List (List Value)}, RTmL G ts es → ∀ {i : Nat} {e : List Value}, es[i]? = some e → ∀ a, ts.getD i a ∈ ts ∧ RTm G (ts.getD i a) e
 | [], es, h, i, e, he, a => by
  have := h.len
  simp only [List.length_nil, List.length_eq_zero_iff] at this
  subst this; simp at he
 | t :: ts, es, h, i, e, he, a => by
  have hi : i < es.length := by
   apply Classical.byContradiction; intro hn; rw [List.getElem?_eq_none (by omega)] at he; simp at he
  have hl := h.len
  obtain ⟨e', he', hr⟩ := h.get (i := i) (t := (t :: ts)[i]'(by omega)) (by rw [List.getElem?_eq_getElem])
  rw [he] at he'
  obtain rfl := Option.some.inj he'
  rw [List.getD_eq_getElem?_getD, List.getElem?_eq_getElem (by omega), Option.getD_some]
  exact ⟨List.getElem_mem _, hr⟩
def ty0 : Ty := .mk 0 []
theorem ite_iff {p : Prop} [Decidable p] {x y : Bool} : ((if p then x else y) = true) ↔ ((p → x = true) ∧ (¬p → y = true)) := by by_cases h : p <;> simp [h]
theorem tmOps_tab {k : Int} (h : 1 ≤ k ∧ k ≤ 14) : ([Value.int .i64 0, .int .i64 0, .int .i64 0, .int .i64 0, .int .i64 1, .int .i64 2, .int .i64 2, .int .i64 2, .int .i64 3, .int .i64 2, .int .i64 1, .int .i64 1, .int .i64 1, .int .i64 1])[(k - 1).toNat]? = some (.int .i64 (tmOps k)) := by
 have : k = 1 ∨ k = 2 ∨ k = 3 ∨ k = 4 ∨ k = 5 ∨ k = 6 ∨ k = 7 ∨ k = 8 ∨ k = 9 ∨ k = 10 ∨ k = 11 ∨ k = 12 ∨ k = 13 ∨ k = 14 := by omega
 rcases this with rfl | rfl | rfl | rfl | rfl | rfl | rfl | rfl | rfl | rfl | rfl | rfl | rfl | rfl <;> rfl
theorem tmOps_no {k : Int} (h : ¬(1 ≤ k ∧ k ≤ 14)) : tmOps k = -1 := by
 unfold tmOps; repeat (split; omega)
 rfl
theorem one_at {cs : List Value} {o : Nat} {v : Value} (h : cs[o]? = some v) : ∀ j u, [v][j]? = some u → cs[o + j]? = some u := by
 intro j u hj
 cases j with
 | zero => simpa using hj ▸ h
 | succ j => simp at hj
/-- A node is valid by itself. -/
def tmNode (k : Int) (nm : ByteArray) (num : Int) (ty fr : Ty) (lb : Int) (n : Nat) : Bool :=
 decide (tmOps k = n) && (if k = 1 ∨ k = 5 then nameOk nm else decide (nm = ⟨#[]⟩)) && (if k = 2 then withinB num 0 999 else withinB num 0 0) &&
 (if k = 5 ∨ k = 13 ∨ k = 14 then tValid ty else tNone ty) && (if k = 14 then tConsistent fr ty && labelOk lb else tNone fr && decide (lb = 0))
theorem tmNode_iff {k : Int} {nm : ByteArray} {num : Int} {ty fr : Ty} {lb : Int} {n : Nat} : tmNode k nm num ty fr lb n = true ↔
  tmOps k = n ∧ (k = 1 ∨ k = 5 → nameOk nm = true) ∧ (¬(k = 1 ∨ k = 5) → nm = ⟨#[]⟩) ∧ (k = 2 → withinB num 0 999 = true) ∧ (k ≠ 2 → withinB num 0 0 = true) ∧
  (k = 5 ∨ k = 13 ∨ k = 14 → tValid ty = true) ∧ (¬(k = 5 ∨ k = 13 ∨ k = 14) → tNone ty = true) ∧ (k = 14 → tConsistent fr ty = true ∧ labelOk lb = true) ∧ (k ≠ 14 → tNone fr = true ∧ lb = 0) := by
 simp only [tmNode, Bool.and_eq_true, ite_iff, decide_eq_true_eq, and_assoc, ne_eq]
mutual
/-- A node and what is below it is valid; how many nodes were met. -/
def mScan (M D N : Int) : Tm → Int → Int → Bool × Int
 | .mk k nm num ty fr lb ks, deep, c => if c + 1 > M ∨ deep > D ∨ k = N ∨ tmNode k nm num ty fr lb ks.length = false then (false, c + 1) else mScanL M D N ks (deep + 1) (c + 1)
def mScanL (M D N : Int) : List Tm → Int → Int → Bool × Int
 | [], _, c => (true, c)
 | t :: ts, deep, c => if (mScan M D N t deep c).1 = true then mScanL M D N ts deep (mScan M D N t deep c).2 else (false, (mScan M D N t deep c).2)
end
mutual
theorem mScan_le (M D N : Int) : ∀ (t : Tm) (deep c : Int), 0 ≤ c → c ≤ M → c < (mScan M D N t deep c).2 ∧ (mScan M D N t deep c).2 ≤ M + 1 ∧ ((mScan M D N t deep c).1 = true → (mScan M D N t deep c).2 ≤ M)
 | .mk k nm num ty fr lb ks, deep, c, h0, h1 => by
  rw [mScan]
  split
  ·simp; omega
  ·rename_i h
   have := mScanL_le M D N ks (deep + 1) (c + 1) (by omega) (by omega)
   exact ⟨by omega, this.2⟩
theorem mScanL_le (M D N : Int) : ∀ (ts : List Tm) (deep c : Int), 0 ≤ c → c ≤ M → c ≤ (mScanL M D N ts deep c).2 ∧ (mScanL M D N ts deep c).2 ≤ M + 1 ∧ ((mScanL M D N ts deep c).1 = true → (mScanL M D N ts deep c).2 ≤ M)
 | [], deep, c, h0, h1 => by rw [mScanL]; simp; omega
 | t :: ts, deep, c, h0, h1 => by
  have := mScan_le M D N t deep c h0 h1
  rw [mScanL]
  split
  ·rename_i h
   have h2 := mScanL_le M D N ts deep (mScan M D N t deep c).2 (by omega) (this.2.2 h)
   exact ⟨by omega, h2.2⟩
  ·simp; omega
end
def castValid (t : Tm) : Bool := (mScan 200 40 13 t 1 0).1
def termValid (t : Tm) : Bool := (mScan 30 12 14 t 1 0).1
theorem SlE.kidTm {G : IM} {p : Option Addr} {n c : Nat} {es : List (List Value)} {ks : List Tm} (h : SlE G p n c 9 es) (hk : RTmL G ks es) {i : Nat} (hi : i < n) (hn : i < ks.length) :
  ∃ b o e, p = some ⟨b, o, none⟩ ∧ e.length = 9 ∧ (∀ hp, At hp G b (o + i * 9) e) ∧ RTm G ks[i] e ∧ G b ≠ none := by
 obtain ⟨e, b, o, he, hp, hl, _, hat, hg⟩ := h.get hi
 have := (hk.inv he (ks[i])).2
 rw [List.getD_eq_getElem?_getD, List.getElem?_eq_getElem hn, Option.getD_some] at this
 exact ⟨b, o, e, hp, hl, hat, this, hg⟩
theorem mScan_no {M D N : Int} {k : Int} {nm : ByteArray} {num : Int} {ty fr : Ty} {lb : Int} {ks : List Tm} {deep c : Int} (h : c + 1 > M ∨ deep > D ∨ k = N ∨ tmNode k nm num ty fr lb ks.length = false) :
  mScan M D N (.mk k nm num ty fr lb ks) deep c = (false, c + 1) := by rw [mScan, if_pos h]
theorem mScan_go {M D N : Int} {k : Int} {nm : ByteArray} {num : Int} {ty fr : Ty} {lb : Int} {ks : List Tm} {deep c : Int} (h1 : ¬(c + 1 > M ∨ deep > D ∨ k = N)) (h2 : tmNode k nm num ty fr lb ks.length = true) :
  mScan M D N (.mk k nm num ty fr lb ks) deep c = mScanL M D N ks (deep + 1) (c + 1) := by
 rw [mScan, if_neg]
 rw [h2]
 intro h
 apply h1
 rcases h with h | h | h | h
 ·exact .inl h
 ·exact .inr (.inl h)
 ·exact .inr (.inr h)
 ·cases h
theorem mScanL_t {M D N : Int} {ks : List Tm} {i : Nat} {deep c : Int} (hi : i < ks.length) (h : (mScan M D N ks[i] deep c).1 = true) : mScanL M D N (ks.drop i) deep c = mScanL M D N (ks.drop (i + 1)) deep (mScan M D N ks[i] deep c).2 := by
 rw [List.drop_eq_getElem_cons hi, mScanL, if_pos h]
theorem mScanL_f {M D N : Int} {ks : List Tm} {i : Nat} {deep c : Int} (hi : i < ks.length) (h : (mScan M D N ks[i] deep c).1 = false) : mScanL M D N (ks.drop i) deep c = (false, (mScan M D N ks[i] deep c).2) := by
 rw [List.drop_eq_getElem_cons hi, mScanL, if_neg (by rw [h]; simp)]
theorem mScanL_end {M D N : Int} {ks : List Tm} {i : Nat} {deep c : Int} (hi : i = ks.length) : mScanL M D N (ks.drop i) deep c = (true, c) := by
 rw [hi, List.drop_length, mScanL]
end Gw
end Go.Proofs.YtgclbnfdlddpnaaGreat
namespace Go.Proofs.YtgclbnfdlddpnaaGreat
open Go Go.RowKit
namespace Gw
section blk
variable {P : Program} {Γ : Ctx} {env : Env} {hp : List Ent} {G : IM} {K : Po} {ops : Array Oper} {rest : List Oper}
end blk

theorem upd_at : ∀ {A B C V : List Value} {o : Nat}, A.length = o → B.length = V.length → upd (A ++ (B ++ C)) o V = some (A ++ (V ++ C))
 | [], B, C, V, o, h, hv => by
  simp at h; subst h
  simp only [List.nil_append]
  induction B generalizing V with
  | nil => cases V with
   | nil => cases C <;> rfl
   | cons v V => simp at hv
  | cons b B ih => cases V with
   | nil => simp at hv
   | cons v V =>
    simp only [List.cons_append, upd, ih (V := V) (by simpa using hv)]
 | a :: A, B, C, V, o, h, hv => by
  simp at h; subst h
  simp only [List.cons_append, upd, upd_at (A := A) (B := B) (C := C) rfl hv]
theorem flat_len {sz : Nat} : ∀ {es : List (List Value)}, (∀ e ∈ es, e.length = sz) → es.flatten.length = es.length * sz
 | [], _ => by simp
 | e :: es, h => by
  rw [List.flatten_cons, List.length_append, h e List.mem_cons_self, flat_len (es := es) fun x hx => h x (List.mem_cons_of_mem _ hx), List.length_cons, Nat.succ_mul]; omega
/-- A slice of types in memory of its own. -/
def STyS (G : IM) (ks : List Ty) (p : Option Addr) (c : Nat) (F : List Nat) : Prop := ∃ es Fs, SlE G p ks.length c 2 es ∧ STyL G ks es Fs ∧ F = vfp p ++ Fs ∧ (∀ b ∈ vfp p, G b ≠ none)
theorem STy.open {G : IM} {t : Ty} {cells : List Value} {F : List Nat} (h : STy G t cells F) : ∃ p c, cells = [.int .i64 t.k, .slice p t.ks.length c] ∧ I64 t.k ∧ STyS G t.ks p c F := by
 cases t
 simp only [STy] at h
 obtain ⟨p, c, es, Fs, h0, hk, h1, h2, h3, h4⟩ := h
 exact ⟨p, c, h0, hk, es, Fs, h1, h2, h3, h4⟩
mutual
def STm (G : IM) : Tm → List Value → List Nat → Prop
 | .mk k nm num ty fr lb ks, cells, F => ∃ tc fc p c es Ft Ff Fs, cells = [.int .i64 k, .string nm, .int .i64 num] ++ tc ++ fc ++ [.int .i64 lb, .slice p ks.length c] ∧ I64 k ∧ I64 num ∧ I64 lb ∧ STy G ty tc Ft ∧ STy G fr fc Ff ∧
   SlE G p ks.length c 9 es ∧ STmL G ks es Fs ∧ F = Ft ++ (Ff ++ (vfp p ++ Fs)) ∧ (∀ b ∈ vfp p, G b ≠ none)
def STmL (G : IM) : List Tm → List (List Value) → List Nat → Prop
 | [], es, F => es = [] ∧ F = []
 | t :: ts, es, F => ∃ a r Fa Fr, es = a :: r ∧ STm G t a Fa ∧ STmL G ts r Fr ∧ F = Fa ++ Fr
end
/-- A slice of terms in memory of its own. -/
def STmS (G : IM) (ks : List Tm) (p : Option Addr) (c : Nat) (F : List Nat) : Prop := ∃ es Fs, SlE G p ks.length c 9 es ∧ STmL G ks es Fs ∧ F = vfp p ++ Fs ∧ (∀ b ∈ vfp p, G b ≠ none)
mutual
theorem STm.R {G : IM} : ∀ {t : Tm} {cells : List Value} {F : List Nat}, STm G t cells F → RTm G t cells
 | .mk k nm num ty fr lb ks, cells, F, h => by
  simp only [STm] at h
  obtain ⟨tc, fc, p, c, es, Ft, Ff, Fs, h1, h2, h3, h4, h5, h6, h7, h8, _⟩ := h
  simp only [RTm]
  exact ⟨tc, fc, p, c, es, h1, h2, h3, h4, h5.R, h6.R, h7, STmL.R h8⟩
theorem STmL.R {G : IM} : ∀ {ts : List Tm} {es : List (List Value)} {F : List Nat}, STmL G ts es F → RTmL G ts es
 | [], es, F, h => by simp only [STmL] at h; simp only [RTmL]; exact h.1
 | t :: ts, es, F, h => by
  simp only [STmL] at h
  obtain ⟨a, r, Fa, Fr, h1, h2, h3, _⟩ := h
  simp only [RTmL]
  exact ⟨a, r, h1, STm.R h2, STmL.R h3⟩
end
theorem dmono {G G' : IM} (hg : IMle G G') {F : List Nat} (h : ∀ b ∈ F, G b ≠ none) : ∀ b ∈ F, G' b ≠ none := fun b hb => by
 cases hgb : G b with
 | none => exact absurd hgb (h b hb)
 | some l => rw [hg b l hgb]; simp
mutual
theorem STm.mono {G G' : IM} (hg : IMle G G') : ∀ {t : Tm} {cells : List Value} {F : List Nat}, STm G t cells F → STm G' t cells F
 | .mk k nm num ty fr lb ks, cells, F, h => by
  simp only [STm] at h ⊢
  obtain ⟨tc, fc, p, c, es, Ft, Ff, Fs, h1, h2, h3, h4, h5, h6, h7, h8, h9, h10⟩ := h
  exact ⟨tc, fc, p, c, es, Ft, Ff, Fs, h1, h2, h3, h4, h5.mono hg, h6.mono hg, h7.mono hg, STmL.mono hg h8, h9, dmono hg h10⟩
theorem STmL.mono {G G' : IM} (hg : IMle G G') : ∀ {ts : List Tm} {es : List (List Value)} {F : List Nat}, STmL G ts es F → STmL G' ts es F
 | [], es, F, h => by simpa only [STmL] using h
 | t :: ts, es, F, h => by
  simp only [STmL] at h ⊢
  obtain ⟨a, r, Fa, Fr, h1, h2, h3, h4⟩ := h
  exact ⟨a, r, Fa, Fr, h1, STm.mono hg h2, STmL.mono hg h3, h4⟩
end
mutual
theorem STm.inG {G : IM} : ∀ {t : Tm} {cells : List Value} {F : List Nat}, STm G t cells F → ∀ b ∈ F, G b ≠ none
 | .mk k nm num ty fr lb ks, cells, F, h => by
  simp only [STm] at h
  obtain ⟨tc, fc, p, c, es, Ft, Ff, Fs, h1, h2, h3, h4, h5, h6, h7, h8, rfl, h10⟩ := h
  intro b hb
  simp only [List.mem_append] at hb
  rcases hb with hb | hb | hb | hb
  ·exact h5.inG b hb
  ·exact h6.inG b hb
  ·exact h10 b hb
  ·exact STmL.inG h8 b hb
theorem STmL.inG {G : IM} : ∀ {ts : List Tm} {es : List (List Value)} {F : List Nat}, STmL G ts es F → ∀ b ∈ F, G b ≠ none
 | [], es, F, h => by simp only [STmL] at h; rw [h.2]; simp
 | t :: ts, es, F, h => by
  simp only [STmL] at h
  obtain ⟨a, r, Fa, Fr, h1, h2, h3, rfl⟩ := h
  intro b hb
  rcases List.mem_append.1 hb with hb | hb
  ·exact STm.inG h2 b hb
  ·exact STmL.inG h3 b hb
end
theorem STmL.snoc {G : IM} : ∀ {ts : List Tm} {es : List (List Value)} {F : List Nat} {t : Tm} {a : List Value} {Fa : List Nat}, STmL G ts es F → STm G t a Fa → STmL G (ts ++ [t]) (es ++ [a]) (F ++ Fa)
 | [], es, F, t, a, Fa, h, h2 => by
  simp only [STmL] at h
  obtain ⟨rfl, rfl⟩ := h
  simp only [List.nil_append, STmL]
  exact ⟨a, [], Fa, [], rfl, h2, ⟨rfl, rfl⟩, by simp⟩
 | t' :: ts, es, F, t, a, Fa, h, h2 => by
  simp only [STmL] at h
  obtain ⟨a', r, Fa', Fr, rfl, h3, h4, rfl⟩ := h
  simp only [List.cons_append, STmL]
  exact ⟨a', r ++ [a], Fa', Fr ++ Fa, rfl, h3, STmL.snoc h4 h2, by simp⟩
theorem dif_no {G Gi : IM} {F F' : List Nat} {G1 : IM} (h : ∀ b ∈ F, Dif Gi G b ≠ none) (h' : ∀ b ∈ F', Dif G1 Gi b ≠ none) : ∀ x ∈ F, ∀ y ∈ F', x ≠ y := by
 rintro x hx y hy rfl
 have h1 := h x hx
 have h2 := Dif.out (h' x hy)
 apply h1
 cases hd : Dif Gi G x with
 | none => rfl
 | some l => rw [Dif.le _ _ x l hd] at h2; cases h2
theorem STmL.step {G Gi G1 : IM} {ks : List Tm} {i : Nat} {es : List (List Value)} {F F' : List Nat} {a : List Value} (h : STmL (Dif Gi G) (ks.take i) es F) (hn : F.Nodup) (hle : IMle G Gi) (hle1 : IMle Gi G1) (hi : i < ks.length)
  (ha : STm (Dif G1 Gi) ks[i] a F') (hn' : F'.Nodup) : STmL (Dif G1 G) (ks.take (i + 1)) (es ++ [a]) (F ++ F') ∧ (F ++ F').Nodup := by
 constructor
 ·rw [List.take_succ_eq_append_getElem hi]
  exact STmL.snoc (h.mono (Dif.mono hle1)) (ha.mono (Dif.anti hle))
 ·rw [List.nodup_append]
  exact ⟨hn, hn', dif_no h.inG ha.inG⟩
theorem vfp_nodup (p : Option Addr) : (vfp p).Nodup := by cases p <;> simp [vfp]
theorem STmS.fin {G Gi G2 : IM} {ks : List Tm} {es : List (List Value)} {F : List Nat} {p : Option Addr} {c : Nat} (h : STmL (Dif Gi G) ks es F) (hn : F.Nodup) (hle : IMle G Gi) (hle2 : IMle Gi G2)
  (hsl : Sl G2 p ks.length c 9 es.flatten) (hnn : ∀ b ∈ vfp p, Gi b = none ∧ G2 b ≠ none) :
  ∃ F', STmS (Dif G2 G) ks p c F' ∧ F'.Nodup := by
 have hR := h.R
 have hin : ∀ b ∈ vfp p, Dif G2 G b ≠ none := by
  intro b hb
  have h0 := (hnn b hb).1
  cases hg : G b with
  | none => simpa [Dif, hg] using (hnn b hb).2
  | some l => rw [hle b l hg] at h0; cases h0
 refine ⟨vfp p ++ F, ⟨es, F, SlE.of (hsl.dif (fun b hb => (hnn b hb).1) hle) hR.len hR.all ?_, h.mono (Dif.mono hle2), rfl, hin⟩, ?_⟩
 ·intro e he
  obtain ⟨i, hi⟩ := List.getElem?_of_mem he
  have hlt : i < ks.length := by have := (List.getElem?_eq_some_iff.1 hi).1; rw [hR.len] at this; exact this
  obtain ⟨e', he', hr⟩ := hR.get (i := i) (t := ks[i]) (by simp [hlt])
  rw [hi] at he'; cases he'; exact hr.one
 ·rw [List.nodup_append]
  refine ⟨vfp_nodup p, hn, ?_⟩
  rintro x hx y hy rfl
  have h1 := h.inG x hy
  have h2 := (hnn x hx).1
  apply h1
  cases hd : Dif Gi G x with
  | none => rfl
  | some l => rw [Dif.le _ _ x l hd] at h2; cases h2
/-- A term put together out of parts that came one after the other. -/
theorem STm.mk3 {G G1 G2 G3 : IM} {k : Int} {nm : ByteArray} {num : Int} {ty fr : Ty} {lb : Int} {ks : List Tm} {tc fc : List Value} {p : Option Addr} {c : Nat} {F1 F2 F3 : List Nat} (hk : I64 k) (hnum : I64 num) (hlb : I64 lb)
  (hl1 : IMle G G1) (hl2 : IMle G1 G2) (hl3 : IMle G2 G3) (h1 : STy (Dif G1 G) ty tc F1) (n1 : F1.Nodup) (h2 : STy (Dif G2 G1) fr fc F2) (n2 : F2.Nodup) (h3 : STmS (Dif G3 G2) ks p c F3) (n3 : F3.Nodup) :
  ∃ F, STm (Dif G3 G) (.mk k nm num ty fr lb ks) ([.int .i64 k, .string nm, .int .i64 num] ++ tc ++ fc ++ [.int .i64 lb, .slice p ks.length c]) F ∧ F.Nodup := by
 obtain ⟨es, Fs, e1, e2, rfl, e4⟩ := h3
 have i3 : ∀ b ∈ vfp p ++ Fs, Dif G3 G2 b ≠ none := by
  intro b hb
  rcases List.mem_append.1 hb with hb | hb
  ·exact e4 b hb
  ·exact e2.inG b hb
 have a2 : IMle (Dif G2 G1) (Dif G3 G) := fun b l h => Dif.mono hl3 b l (Dif.anti hl1 b l h)
 have a3 : IMle (Dif G3 G2) (Dif G3 G) := Dif.anti (hl1.trans hl2)
 refine ⟨F1 ++ (F2 ++ (vfp p ++ Fs)), ?_, ?_⟩
 ·simp only [STm]
  exact ⟨tc, fc, p, c, es, F1, F2, Fs, rfl, hk, hnum, hlb, h1.mono (Dif.mono (hl2.trans hl3)), h2.mono a2, e1.mono a3, e2.mono a3, rfl, dmono a3 e4⟩
 ·rw [List.nodup_append, List.nodup_append]
  refine ⟨n1, ⟨n2, n3, dif_no h2.inG i3⟩, ?_⟩
  rintro x hx y hy rfl
  rcases List.mem_append.1 hy with hy | hy
  ·exact dif_no h1.inG h2.inG x hx x hy rfl
  ·have h1' : ∀ b ∈ F1, Dif G2 G b ≠ none := dmono (Dif.mono hl2) h1.inG
   exact dif_no h1' i3 x hx x hy rfl
end Gw
end Go.Proofs.YtgclbnfdlddpnaaGreat
namespace Go.Proofs.YtgclbnfdlddpnaaGreat
open Go Go.RowKit
namespace Gw
section clawss
variable {P : Program} {Γ : Ctx} {env : Env} {hp : List Ent} {G : IM} {ty : TypeId}
theorem pure_rem_nat {x y : Operand} {t t' : TypeId} {m n : Nat} (hx : evo env x = some (.int .i64 (m : Int))) (hy : evo env y = some (.int .i64 (n : Int))) (hn : 0 < n) :
  PureOp P Γ ⟨env, hp, G⟩ (.binOp .rem t x y t') ty (.int .i64 ((m % n : Nat) : Int)) := by
 have h := pure_rem (P := P) (Γ := Γ) (hp := hp) (G := G) (ty := ty) (t := t) (t' := t') hx hy (by omega)
 rwa [show ((m : Int).tmod n) = ((m % n : Nat) : Int) from rfl] at h
theorem pure_quo_nat {x y : Operand} {t t' : TypeId} {m n : Nat} (hx : evo env x = some (.int .i64 (m : Int))) (hy : evo env y = some (.int .i64 (n : Int))) (hn : 0 < n) (hm : m ≤ 9223372036854775807) :
  PureOp P Γ ⟨env, hp, G⟩ (.binOp .quo t x y t') ty (.int .i64 ((m / n : Nat) : Int)) := by
 have hd : m / n ≤ m := Nat.div_le_self _ _
 have e : ((m : Int).tdiv n) = ((m / n : Nat) : Int) := rfl
 have h := pure_quo (P := P) (Γ := Γ) (hp := hp) (G := G) (ty := ty) (t := t) (t' := t') hx hy (by omega) (by rw [e]; generalize m / n = q at *; omega) (by rw [e]; generalize m / n = q at *; omega)
 rwa [e] at h
end clawss
/-- The last digit's letter. -/
def dgi (k : Nat) : Int := 48 + ((k % 10 : Nat) : Int)
/-- The digits of a number ahead of a text. -/
def mDigs : Nat → Nat → ByteArray → ByteArray
 | 0, _, out => out
 | f + 1, k, out => if 0 < k then mDigs f (k / 10) (strOfNums [dgi k] ++ out) else out
def mText (k : Nat) : ByteArray := ⟨#[109]⟩ ++ mDigs 20 k ⟨⟨[]⟩⟩
end Gw
end Go.Proofs.YtgclbnfdlddpnaaGreat
namespace Go.Proofs.YtgclbnfdlddpnaaGreat
open Go Go.RowKit
namespace Gw
def ints (l : List Int) : List Value := l.map (Value.int .i64 ·)
theorem ints_len (l : List Int) : (ints l).length = l.length := by simp [ints]
theorem ints_snoc (l : List Int) (i : Int) : ints (l ++ [i]) = ints l ++ [.int .i64 i] := by simp [ints]
theorem ints_one (l : List Int) : ∀ u ∈ ints l, u.oneCell' = true := by
 intro u hu
 obtain ⟨x, _, rfl⟩ := List.mem_map.1 hu
 rfl
mutual
def tmCount : Tm → Nat
 | .mk _ _ _ _ _ _ ks => tmCountL ks + 1
def tmCountL : List Tm → Nat
 | [] => 0
 | t :: ts => tmCount t + tmCountL ts
end
mutual
/-- The paths of all nodes, from a node's own path on. -/
def mPaths : Tm → List Int → List (List Int)
 | .mk _ _ _ _ _ _ ks, path => path :: mPathsL ks 0 path
def mPathsL : List Tm → Nat → List Int → List (List Int)
 | [], _, _ => []
 | t :: ts, i, path => mPaths t (path ++ [(i : Int)]) ++ mPathsL ts (i + 1) path
end
mutual
theorem mPaths_len : ∀ (t : Tm) (path : List Int), (mPaths t path).length = tmCount t
 | .mk _ _ _ _ _ _ ks, path => by rw [mPaths, tmCount, List.length_cons, mPathsL_len ks 0 path]
theorem mPathsL_len : ∀ (ts : List Tm) (i : Nat) (path : List Int), (mPathsL ts i path).length = tmCountL ts
 | [], i, path => by rw [mPathsL, tmCountL]; rfl
 | t :: ts, i, path => by rw [mPathsL, tmCountL, List.length_append, mPaths_len t, mPathsL_len ts]
end
theorem mPathsL_snoc : ∀ (ts : List Tm) (t : Tm) (i : Nat) (path : List Int), mPathsL (ts ++ [t]) i path = mPathsL ts i path ++ mPaths t (path ++ [((i + ts.length : Nat) : Int)])
 | [], t, i, path => by simp [mPathsL]
 | t' :: ts, t, i, path => by
  rw [List.cons_append, mPathsL, mPathsL, mPathsL_snoc ts t (i + 1) path, List.append_assoc, List.length_cons, Nat.add_right_comm i 1, Nat.add_assoc i]
theorem mPathsL_take {ks : List Tm} {i : Nat} (hi : i < ks.length) (path : List Int) : mPathsL (ks.take (i + 1)) 0 path = mPathsL (ks.take i) 0 path ++ mPaths ks[i] (path ++ [(i : Int)]) := by
 rw [List.take_succ_eq_append_getElem hi, mPathsL_snoc, List.length_take, Nat.zero_add, Nat.min_eq_left (by omega)]
theorem tmCountL_append : ∀ (a b : List Tm), tmCountL (a ++ b) = tmCountL a + tmCountL b
 | [], b => by simp [tmCountL]
 | t :: a, b => by rw [List.cons_append, tmCountL, tmCountL, tmCountL_append a b]; omega
theorem tmCountL_take {ks : List Tm} {i : Nat} (hi : i < ks.length) : tmCountL (ks.take i) + tmCount ks[i] ≤ tmCountL ks := by
 have h := tmCountL_append (ks.take (i + 1)) (ks.drop (i + 1))
 rw [List.take_append_drop, List.take_succ_eq_append_getElem hi, tmCountL_append] at h
 simp only [tmCountL] at h
 omega
theorem tmCountL_succ {ks : List Tm} {i : Nat} (hi : i < ks.length) : tmCountL (ks.take (i + 1)) = tmCountL (ks.take i) + tmCount ks[i] := by
 rw [List.take_succ_eq_append_getElem hi, tmCountL_append]
 simp only [tmCountL]; omega
theorem len_le_count : ∀ (ks : List Tm), ks.length ≤ tmCountL ks
 | [] => by simp
 | .mk _ _ _ _ _ _ _ :: ts => by have := len_le_count ts; simp only [List.length_cons, tmCountL, tmCount]; omega

theorem Sl.nn {G : IM} {p : Option Addr} {n c sz : Nat} {cs : List Value} (h : Sl G p n c sz cs) : p = none → n = 0 := by
 rintro rfl
 rcases h.2.2.2 with h | ⟨b, o, full, h, _⟩
 ·exact h
 ·cases h
/-- Fresh paths: each in memory of its own. -/
def SPs (G : IM) : List (List Int) → List Value → List Nat → Prop
 | [], es, F => es = [] ∧ F = []
 | l :: ls, es, F => ∃ p c r Fr, es = .slice p l.length c :: r ∧ F = vfp p ++ Fr ∧ Sl G p l.length c 1 (ints l) ∧ (∀ b ∈ vfp p, G b ≠ none) ∧ (p = none → l.length = 0) ∧ SPs G ls r Fr
theorem SPs.mono {G G' : IM} (hg : IMle G G') : ∀ {ls : List (List Int)} {es : List Value} {F : List Nat}, SPs G ls es F → SPs G' ls es F
 | [], es, F, h => h
 | l :: ls, es, F, ⟨p, c, r, Fr, h1, h2, h3, h4, h5, h6⟩ => ⟨p, c, r, Fr, h1, h2, h3.mono hg, fun b hb => by
   cases hx : G b with
   | none => exact absurd hx (h4 b hb)
   | some l => rw [hg b l hx]; simp, h5, h6.mono hg⟩
theorem SPs.inG {G : IM} : ∀ {ls : List (List Int)} {es : List Value} {F : List Nat}, SPs G ls es F → ∀ b ∈ F, G b ≠ none
 | [], es, F, ⟨_, h⟩, b, hb => by rw [h] at hb; cases hb
 | l :: ls, es, F, ⟨p, c, r, Fr, h1, h2, h3, h4, h5, h6⟩, b, hb => by
  rw [h2] at hb
  rcases List.mem_append.1 hb with hb | hb
  ·exact h4 b hb
  ·exact h6.inG b hb
theorem SPs.append {G : IM} : ∀ {ls ls' : List (List Int)} {es es' : List Value} {F F' : List Nat}, SPs G ls es F → SPs G ls' es' F' → SPs G (ls ++ ls') (es ++ es') (F ++ F')
 | [], ls', es, es', F, F', ⟨h, h2⟩, h' => by rw [h, h2]; exact h'
 | l :: ls, ls', es, es', F, F', ⟨p, c, r, Fr, h1, h2, h3, h4, h5, h6⟩, h' => ⟨p, c, r ++ es', Fr ++ F', by rw [h1]; rfl, by rw [h2, List.append_assoc], h3, h4, h5, h6.append h'⟩
theorem dif_disj {G Gi G1 : IM} {F F' : List Nat} (h : ∀ b ∈ F, Dif Gi G b ≠ none) (h' : ∀ b ∈ F', Dif G1 Gi b ≠ none) (hn : F.Nodup) (hn' : F'.Nodup) : (F ++ F').Nodup := by
 rw [List.nodup_append]
 refine ⟨hn, hn', ?_⟩
 rintro x hx y hy rfl
 have h1 := h x hx
 have h2 := Dif.out (h' x hy)
 apply h1
 cases hd : Dif Gi G x with
 | none => rfl
 | some l => rw [Dif.le _ _ x l hd] at h2; cases h2
theorem dif_in {G Gi G2 : IM} {b : Nat} (hle : IMle G Gi) (h : Gi b = none ∧ G2 b ≠ none) : Dif G2 G b ≠ none := by
 cases hg : G b with
 | none => simpa [Dif, hg] using h.2
 | some l => rw [hle b l hg] at h; exact absurd h.1 (by simp)
/-- A call's paths come to the ones so far. -/
theorem SPs.step {G Gi Gf G1 : IM} {ls ls' : List (List Int)} {es es' : List Value} {F F' : List Nat} (h : SPs (Dif Gi G) ls es F) (hn : F.Nodup) (hle : IMle G Gi) (hlef : IMle Gi Gf) (hle1 : IMle Gf G1)
  (h' : SPs (Dif G1 Gf) ls' es' F') (hn' : F'.Nodup) : SPs (Dif G1 G) (ls ++ ls') (es ++ es') (F ++ F') ∧ (F ++ F').Nodup :=
 ⟨(h.mono (Dif.mono (hlef.trans hle1))).append (h'.mono (Dif.anti (hle.trans hlef))), dif_disj h.inG (h'.mono (Dif.anti hlef)).inG hn hn'⟩
theorem SPs.first {G G2 : IM} {l : List Int} {p : Option Addr} {c : Nat} (hsl : Sl G2 p l.length c 1 (ints l)) (hno : ∀ b ∈ vfp p, G b = none ∧ G2 b ≠ none) (hp : p = none → l.length = 0) (hle : IMle G G2) :
  SPs (Dif G2 G) [l] [.slice p l.length c] (vfp p) ∧ (vfp p).Nodup := by
 refine ⟨⟨p, c, [], [], rfl, by simp, hsl.dif (fun b hb => (hno b hb).1) (IMle.refl _), fun b hb => dif_in (IMle.refl _) (hno b hb), hp, rfl, rfl⟩, by cases p <;> simp [vfp]⟩
/-- What AllPaths hands back: the outer list and each path in memory of its own. -/
def RPs (G : IM) (ls : List (List Int)) (p : Option Addr) (c : Nat) : Prop := ∃ es F, Sl G p ls.length c 1 es ∧ (∀ b ∈ vfp p, G b ≠ none) ∧ SPs G ls es F ∧ (vfp p ++ F).Nodup
theorem RPs.fin {G Gi G2 : IM} {ls : List (List Int)} {es : List Value} {F : List Nat} {p : Option Addr} {c m : Nat} (h : SPs (Dif Gi G) ls es F) (hn : F.Nodup) (hle : IMle G Gi) (hle2 : IMle Gi G2)
  (hsl : Sl G2 p m c 1 es) (hm : m = ls.length) (hno : ∀ b ∈ vfp p, Gi b = none ∧ G2 b ≠ none) : RPs (Dif G2 G) ls p c := by
 subst hm
 refine ⟨es, F, hsl.dif (fun b hb => (hno b hb).1) hle, fun b hb => dif_in hle (hno b hb), h.mono (Dif.mono hle2), ?_⟩
 rw [List.nodup_append]
 refine ⟨by cases p <;> simp [vfp], hn, ?_⟩
 rintro x hx y hy rfl
 have h1 := h.inG x hy
 have h2 := (hno x hx).1
 apply h1
 cases hd : Dif Gi G x with
 | none => rfl
 | some l => rw [Dif.le _ _ x l hd] at h2; cases h2
mutual
theorem mScan_count (M D N : Int) : ∀ (t : Tm) (deep c : Int), (mScan M D N t deep c).1 = true → (mScan M D N t deep c).2 = c + tmCount t
 | .mk k nm num ty fr lb ks, deep, c, h => by
  rw [mScan] at h ⊢
  split at h
  ·cases h
  ·rename_i hc
   rw [if_neg hc, mScanL_count M D N ks (deep + 1) (c + 1) h, tmCount]
   omega
theorem mScanL_count (M D N : Int) : ∀ (ts : List Tm) (deep c : Int), (mScanL M D N ts deep c).1 = true → (mScanL M D N ts deep c).2 = c + tmCountL ts
 | [], deep, c, h => by rw [mScanL, tmCountL]; simp
 | t :: ts, deep, c, h => by
  rw [mScanL] at h ⊢
  split at h
  ·rename_i h1
   rw [if_pos h1, mScanL_count M D N ts deep _ h, mScan_count M D N t deep c h1, tmCountL]
   omega
  ·cases h
end
theorem castValid_count {t : Tm} (h : castValid t = true) : tmCount t ≤ 200 := by
 have h1 := mScan_count 200 40 13 t 1 0 h
 have h2 := (mScan_le 200 40 13 t 1 0 (by omega) (by omega)).2.2 h
 omega
/-- AllPaths in plain words. -/
def mAll (t : Tm) : List (List Int) := if castValid t = true then mPaths t [] else []
end Gw
end Go.Proofs.YtgclbnfdlddpnaaGreat
namespace Go.Proofs.YtgclbnfdlddpnaaGreat
open Go Go.RowKit
namespace Gw
section slaws
variable {P : Program} {Γ : Ctx} {env : Env} {hp : List Ent} {G : IM} {ty : TypeId}
end slaws
/-- One cell of a slice of cells. -/
theorem Sl.kid {G : IM} {p : Option Addr} {n c : Nat} {cs : List Value} (h : Sl G p n c 1 cs) {i : Nat} (hi : i < n) :
  ∃ b o v, p = some ⟨b, o, none⟩ ∧ cs[i]? = some v ∧ (∀ hp, At hp G b (o + i * 1) [v]) ∧ G b ≠ none := by
 obtain ⟨h1, h2, h3, h4⟩ := h
 obtain ⟨b, o, full, rfl, hg, hv⟩ := h4.resolve_left (by omega)
 have hlt : i < cs.length := by omega
 refine ⟨b, o, cs[i], rfl, List.getElem?_eq_getElem hlt, fun hp => at_im hg ?_, by rw [hg]; simp⟩
 intro j v hj
 cases j with
 | zero => simp at hj; subst hj; simpa using hv i _ (List.getElem?_eq_getElem hlt)
 | succ j => simp at hj
theorem ints_get {l : List Int} {i : Nat} {v : Value} (h : (ints l)[i]? = some v) : ∃ hi : i < l.length, v = .int .i64 l[i] := by
 have hi : i < l.length := by have := (List.getElem?_eq_some_iff.1 h).1; rwa [ints_len] at this
 refine ⟨hi, ?_⟩
 simp [ints, hi] at h
 exact h.symm
theorem Sl.le {G : IM} {p : Option Addr} {n c sz : Nat} {cs : List Value} (h : Sl G p n c sz cs) : n ≤ 9223372036854775807 := by
 have h1 := h.2.1; have h2 := h.2.2.1; unfold maxLen at h2; omega

theorem SPs.get {G : IM} : ∀ {ls : List (List Int)} {es : List Value} {F : List Nat}, SPs G ls es F → ∀ {i : Nat} (hi : i < ls.length), ∃ p c, es[i]? = some (.slice p ls[i].length c) ∧ Sl G p ls[i].length c 1 (ints ls[i])
 | [], es, F, h, i, hi => by simp at hi
 | l :: ls, es, F, ⟨p, c, r, Fr, h1, h2, h3, h4, h5, h6⟩, i, hi => by
  subst h1
  cases i with
  | zero => exact ⟨p, c, rfl, h3⟩
  | succ i => simpa using h6.get (i := i) (by simpa using hi)
end Gw
end Go.Proofs.YtgclbnfdlddpnaaGreat
namespace Go.Proofs.YtgclbnfdlddpnaaGreat
open Go Go.RowKit
namespace Gw
section rlaws
variable {P : Program} {Γ : Ctx} {env : Env} {hp : List Ent} {G : IM} {ty : TypeId}
theorem xor_lt {m n : Nat} (hm : m < 4611686018427387904) (hn : n < 4611686018427387904) : m ^^^ n < 4611686018427387904 := by
 have := @Nat.xor_lt_two_pow m n 62 (by omega) (by omega)
 simpa using this
theorem pure_xor_nat {x y : Operand} {t t' : TypeId} {m n : Nat} (hx : evo env x = some (.int .i64 (m : Int))) (hy : evo env y = some (.int .i64 (n : Int))) (hm : m < 4611686018427387904) (hn : n < 4611686018427387904) :
  PureOp P Γ ⟨env, hp, G⟩ (.binOp .xor t x y t') ty (.int .i64 ((m ^^^ n : Nat) : Int)) := by
 refine ⟨fun a _ hs _ _ _ _ w => ?_⟩
 have hlt := xor_lt hm hn
 have e : (BitVec.ofInt 64 (m : Int) ^^^ BitVec.ofInt 64 (n : Int)).toNat = m ^^^ n := by
  rw [BitVec.toNat_xor, BitVec.toNat_ofInt, BitVec.toNat_ofInt]
  congr 1 <;> omega
 have hw : IntKind.i64.wrap (((BitVec.ofInt 64 (m : Int) ^^^ BitVec.ofInt 64 (n : Int)).toNat : Nat) : Int) = ((m ^^^ n : Nat) : Int) := by
  rw [e]; exact wrap_in _ rfl (by omega) (by omega)
 simp only [execOp, eqGuard, binOp, Op.intBits, (hs.evo hx : a.eval x = _), (hs.evo hy : a.eval y = _), ne_eq, not_true_eq_false, if_false, Sem.run_bind, Sem.run_pure, Result.andThen_ok]
 rw [show IntKind.bits .i64 = 64 from rfl] at *
 simp only [hw]
 simp
theorem pure_mul_nat {x y : Operand} {t t' : TypeId} {m n : Nat} (hx : evo env x = some (.int .i64 (m : Int))) (hy : evo env y = some (.int .i64 (n : Int))) (h : m * n ≤ 9223372036854775807) :
  PureOp P Γ ⟨env, hp, G⟩ (.binOp .mul t x y t') ty (.int .i64 ((m * n : Nat) : Int)) := by
 have e : ((m : Int) * (n : Int)) = ((m * n : Nat) : Int) := by simp
 have h2 := pure_mul (P := P) (Γ := Γ) (hp := hp) (G := G) (ty := ty) (t := t) (t' := t') hx hy (by rw [e]; omega) (by rw [e]; omega)
 rwa [e] at h2
theorem pure_add_nat {x y : Operand} {t t' : TypeId} {m n : Nat} (hx : evo env x = some (.int .i64 (m : Int))) (hy : evo env y = some (.int .i64 (n : Int))) (h : m + n ≤ 9223372036854775807) :
  PureOp P Γ ⟨env, hp, G⟩ (.binOp .add t x y t') ty (.int .i64 ((m + n : Nat) : Int)) := by
 have e : ((m : Int) + (n : Int)) = ((m + n : Nat) : Int) := by simp
 have h2 := pure_add (P := P) (Γ := Γ) (hp := hp) (G := G) (ty := ty) (t := t) (t' := t') hx hy (by rw [e]; omega) (by rw [e]; omega)
 rwa [e] at h2
theorem pure_dec {x y : Operand} {t t' : TypeId} {m : Nat} (hx : evo env x = some (.int .i64 ((m + 1 : Nat) : Int))) (hy : evo env y = some (.int .i64 1)) (h : m ≤ 9223372036854775807) :
  PureOp P Γ ⟨env, hp, G⟩ (.binOp .sub t x y t') ty (.int .i64 (m : Int)) := by
 have e : (((m + 1 : Nat) : Int) - 1) = (m : Int) := by omega
 have h2 := pure_sub (P := P) (Γ := Γ) (hp := hp) (G := G) (ty := ty) (t := t) (t' := t') hx hy (by rw [e]; omega) (by rw [e]; omega)
 rwa [e] at h2
theorem pure_conv_i64 {s d : TypeId} {is id : TyR} [hS : TyI P s is] [hD : TyI P d id] (hd : id.desc = .int .i64) {k : IntKind} (hs : is.desc = .int k) {x : Operand} {n : Int} (hx : evo env x = some (.int k n)) (h0 : -9223372036854775808 ≤ n) (h1 : n ≤ 9223372036854775807) :
  PureOp P Γ ⟨env, hp, G⟩ (.convert s d x) ty (.int .i64 n) := by
 refine ⟨fun a _ hst _ _ _ _ w => ?_⟩
 have hu := hD.und
 rw [hd] at hu
 have hus := hS.und
 rw [hs] at hus
 have hw : IntKind.i64.wrap n = n := wrap_in n rfl h0 h1
 simp [execOp, convert, run_underlying hus, run_underlying hu, (hst.evo hx : a.eval x = _), Conv.intToInt, hw]
theorem pure_slice_to {x y : Operand} {t el : TypeId} {i : TyR} {sz by' : Nat} {zs : List Value} [hI : TyI P t i] (hd' : i.desc = .slice el) [hE : TySz P el sz by' zs] {p : Option Addr} {n c l : Nat}
  (hx : evo env x = some (.slice p n c)) (hy : evo env y = some (.int .i64 (l : Int))) (hl : l ≤ c) :
  PureOp P Γ ⟨env, hp, G⟩ (.slice t x none (some y) none) ty (.slice p l c) := by
 refine ⟨fun a _ hs _ _ _ _ w => ?_⟩
 have hu := hI.und
 rw [hd'] at hu
 obtain ⟨d, hE⟩ := hE.ok
 obtain ⟨inf, z, t1, t2, t3, _⟩ := run_tyI (P := P) (t := el)
 have e1 : a.eval x = _ := hs.evo hx
 have e2 : a.eval y = _ := hs.evo hy
 have hb : ∀ code, (Instr.sliceBound (.int .i64 (l : Int)) c code).run P w = .ok l w := fun code => by
  unfold Instr.sliceBound
  simp only [asIntOf, Sem.run_bind, Sem.run_pure, Result.andThen_ok]
  rw [if_pos ⟨by omega, by omega⟩]
  simp
 simp only [execOp, Option.map, e1, e2, Instr.sliceAt, Sem.run_bind, run_underlying hu, Result.andThen_ok, Instr.slice, Instr.sliceBounds, Sem.run_pure, hb, t3]
 by_cases h : c = 0
 ·subst h; simp
 ·rw [if_neg h]; simp; cases p <;> simp [Addr.add]
end rlaws
def byts (bs : List UInt8) : List Value := bs.map fun b => .int .u8 (b.toNat : Int)
theorem byts_len (bs : List UInt8) : (byts bs).length = bs.length := by simp [byts]
theorem byts_get {bs : List UInt8} {i : Nat} {v : Value} (h : (byts bs)[i]? = some v) : ∃ b : Nat, b < 256 ∧ v = .int .u8 (b : Int) := by
 unfold byts at h
 rw [List.getElem?_map] at h
 cases hb : bs[i]? with
 | none => rw [hb] at h; simp at h
 | some b => rw [hb] at h; simp at h; exact ⟨b.toNat, b.toNat_lt, h.symm⟩
/-- The source: where it lies, and how many numbers were drawn. -/
def rd (br : Nat) (pb : Option Addr) (nb cb p : Nat) : Ent := .blk br [.slice pb nb cb, .int .i64 (p : Int)]
/-- What a draw of numbers leaves behind. -/
def Drew (br : Nat) (pb : Option Addr) (nb cb p B : Nat) (Φ : IM → Value → Prop) : IM → Value → List Ent → Prop := fun G' v outs => ∃ p', p ≤ p' ∧ p' ≤ p + B ∧ outs = [rd br pb nb cb p'] ∧ Φ G' v
set_option maxHeartbeats 0 in
set_option maxRecDepth 100000 in
theorem pick_fn (G : IM) (br : Nat) (pb : Option Addr) (nb cb p : Nat) (bs : List UInt8) (n : Int) (hb : Sl G pb nb cb 1 (byts bs)) (hnb : nb ≤ 2000) (hp : p < 1099511627776) :
  Fn Tryz.prog 53 [.pointer (some ⟨br, 0, none⟩), .int .i64 n] [rd br pb nb cb p] G (fun G' v outs => G' = G ∧ outs = [rd br pb nb cb (p + 1)] ∧ ∃ k, v = .int .i64 k ∧ 0 ≤ k ∧ (1 ≤ n → k < n)) := by
 unfold rd
 have hm1 : ∀ q, 0 < nb → q % nb < nb := fun q h => Nat.mod_lt _ h
 have hdv : p / nb ≤ p := Nat.div_le_self _ _
 refine fn_enter Tryz.func53 rfl Tryz.ntmps53 Tryz.results53 rfl ?_
 intro w0
 refine tri_seq (tri_region (seq_pure (pure_assign rfl) rfl rfl ?_))
 refine seq_done (nrm_seq (tri_seq (tri_region (seq_pure (pure_move rfl) rfl rfl ?_))))
 refine seq_pure (pure_move rfl) rfl rfl ?_
 refine seq_pure (pure_nilCheck rfl) rfl rfl ?_
 refine seq_pure (pure_fieldAddr0 rfl) rfl rfl ?_
 refine seq_load (load_bs rfl rfl (by repeat first | exact mH | apply mT) (by rfl)) rfl rfl ?_
 refine seq_pure (pure_add_nat (n := 1) rfl rfl (by omega)) rfl rfl ?_
 refine seq_pure (pure_nilCheck rfl) rfl rfl ?_
 refine seq_pure (pure_fieldAddr0 rfl) rfl rfl ?_
 refine seq_store rfl rfl rfl rfl rfl rfl (by repeat first | exact Sw.here | apply Sw.there) (by rfl) ?_
 refine seq_done (nrm_seq (tri_seq (tri_seq (tri_region (seq_pure (pure_move rfl) rfl rfl ?_)))))
 refine seq_bool (pure_lss rfl rfl) rfl rfl (fun h23 => ?_) (fun h23 => ?_)
 refine seq_pure (pure_move rfl) rfl rfl ?_
 refine seq_skip rfl rfl ?_
 refine seq_skip rfl rfl ?_
 refine seq_skip rfl rfl ?_
 refine seq_skip rfl rfl ?_
 refine seq_skip rfl rfl ?_
 refine seq_skip rfl rfl ?_
 refine seq_pure (pure_pick_t rfl rfl) rfl rfl ?_
 refine seq_done (nrm_seq (tri_cond_t rfl ?_))
 refine tri_seq (tri_region (seq_pure (pure_assign rfl) rfl rfl ?_))
 refine seq_done (nrm_seq (tri_ret (ret_seq (ret_own1 (res_tmp rfl) SubH.refl ?_))))
 exact ⟨rfl, rfl, 0, rfl, Int.le_refl _, fun h => by omega⟩
 refine seq_pure (pure_move rfl) rfl rfl ?_
 refine seq_pure (pure_move rfl) rfl rfl ?_
 refine seq_pure (pure_nilCheck rfl) rfl rfl ?_
 refine seq_pure (pure_fieldAddr0 rfl) rfl rfl ?_
 refine seq_load (load_bs rfl rfl (by repeat first | exact mH | apply mT) (by rfl)) rfl rfl ?_
 refine seq_pure (pure_len rfl rfl) rfl rfl ?_
 refine seq_bool (pure_eql rfl rfl) rfl rfl (fun h50 => ?_) (fun h50 => ?_)
 refine seq_pure (pure_pick_f rfl rfl) rfl rfl ?_
 refine seq_done (nrm_seq (tri_cond_t rfl ?_))
 refine tri_seq (tri_region (seq_pure (pure_assign rfl) rfl rfl ?_))
 refine seq_done (nrm_seq (tri_ret (ret_seq (ret_own1 (res_tmp rfl) SubH.refl ?_))))
 exact ⟨rfl, rfl, 0, rfl, Int.le_refl _, fun h => by omega⟩
 refine seq_pure (pure_pick_f rfl rfl) rfl rfl ?_
 refine seq_done (nrm_seq (tri_cond_f rfl ?_))
 refine tri_skip (nrm_seq (tri_seq (tri_region (seq_pure (pure_move rfl) rfl rfl ?_))))
 refine seq_pure (pure_nilCheck rfl) rfl rfl ?_
 refine seq_pure (pure_fieldAddr0 rfl) rfl rfl ?_
 refine seq_load (load_bs rfl rfl (by repeat first | exact mH | apply mT) (by rfl)) rfl rfl ?_
 refine seq_pure (pure_dec rfl rfl (by omega)) rfl rfl ?_
 refine seq_pure (pure_assign rfl) rfl rfl ?_
 refine seq_done (nrm_seq (tri_seq (tri_seq (tri_region (seq_pure (pure_move rfl) rfl rfl ?_)))))
 refine seq_pure (pure_move rfl) rfl rfl ?_
 refine seq_pure (pure_nilCheck rfl) rfl rfl ?_
 refine seq_pure (pure_fieldAddr0 rfl) rfl rfl ?_
 refine seq_load (load_bs rfl rfl (by repeat first | exact mH | apply mT) (by rfl)) rfl rfl ?_
 refine seq_pure (pure_len rfl rfl) rfl rfl ?_
 refine seq_bool (pure_lss rfl rfl) rfl rfl (fun h89 => ?_) (fun h89 => ?_)
 refine seq_done (nrm_seq (tri_cond_t rfl ?_))
 refine tri_seq (tri_region (seq_pure (pure_move rfl) rfl rfl ?_))
 refine seq_pure (pure_nilCheck rfl) rfl rfl ?_
 refine seq_pure (pure_fieldAddr0 rfl) rfl rfl ?_
 refine seq_load (load_bs rfl rfl (by repeat first | exact mH | apply mT) (by rfl)) rfl rfl ?_
 refine seq_pure (pure_move rfl) rfl rfl ?_
 (obtain ⟨b, o, v, rfl, hv, hat, hgb⟩ := hb.kid (i := p) (by omega); obtain ⟨y, hy, rfl⟩ := byts_get hv; refine seq_pure (pure_indexAddrN rfl rfl rfl (by omega)) rfl rfl ?_)
 refine seq_load (load_s rfl rfl (hat _)) rfl rfl ?_
 refine seq_pure (pure_conv_i64 rfl rfl rfl (by omega) (by omega)) rfl rfl ?_
 refine seq_pure (pure_move rfl) rfl rfl ?_
 refine seq_pure (pure_rem rfl rfl (by omega)) rfl rfl ?_
 refine seq_pure (pure_assign rfl) rfl rfl ?_
 refine seq_done (nrm_seq (tri_ret (ret_seq (ret_own1 (res_tmp rfl) SubH.refl ?_))))
 exact ⟨rfl, rfl, _, rfl, Int.tmod_nonneg _ (by omega), fun h => Int.tmod_lt_of_pos _ (by omega)⟩
 refine seq_done (nrm_seq (tri_cond_f rfl ?_))
 refine tri_skip (nrm_seq (tri_seq ?_))
 (obtain ⟨b, o, v1, rfl, hv1, hat1, _⟩ := hb.kid (i := HMod.hMod p nb) (hm1 _ (by omega)); obtain ⟨y1, hy1, rfl⟩ := byts_get hv1; obtain ⟨b', o', v2, hbb, hv2, hat2, _⟩ := hb.kid (i := HMod.hMod (p * 7 + 3) nb) (hm1 _ (by omega)); obtain ⟨y2, hy2, rfl⟩ := byts_get hv2; cases hbb; have hl1 := hm1 p (by omega); have hl2 := hm1 (p * 7 + 3) (by omega); refine tri_draw mixed rfl ?_)
 refine any_pure (i := 0) (listed' := [tt,ff,ff,ff,ff,ff,ff,ff,ff,ff,ff,ff,ff,ff,ff,ff,ff,ff,ff,ff,ff,ff,ff,ff,ff,ff,ff,ff,ff,ff,ff,ff,ff,ff,ff,ff,ff,ff,ff,ff,ff,ff,ff,ff,ff,ff]) rfl npI (pure_move rfl) rfl (by kernel_rfl) rfl rfl ?_
 refine any_pure (i := 1) (listed' := [tt,tt,ff,ff,ff,ff,ff,ff,ff,ff,ff,ff,ff,ff,ff,ff,ff,ff,ff,ff,ff,ff,ff,ff,ff,ff,ff,ff,ff,ff,ff,ff,ff,ff,ff,ff,ff,ff,ff,ff,ff,ff,ff,ff,ff,ff]) rfl npI (pure_nilCheck rfl) rfl (by kernel_rfl) rfl rfl ?_
 refine any_pure (i := 2) (listed' := [tt,tt,tt,ff,ff,ff,ff,ff,ff,ff,ff,ff,ff,ff,ff,ff,ff,ff,ff,ff,ff,ff,ff,ff,ff,ff,ff,ff,ff,ff,ff,ff,ff,ff,ff,ff,ff,ff,ff,ff,ff,ff,ff,ff,ff,ff]) rfl npI (pure_fieldAddr0 rfl) rfl (by kernel_rfl) rfl rfl ?_
 refine any_load (i := 3) (listed' := [tt,tt,tt,tt,ff,ff,ff,ff,ff,ff,ff,ff,ff,ff,ff,ff,ff,ff,ff,ff,ff,ff,ff,ff,ff,ff,ff,ff,ff,ff,ff,ff,ff,ff,ff,ff,ff,ff,ff,ff,ff,ff,ff,ff,ff,ff]) rfl npI (load_bs rfl rfl (by repeat first | exact mH | apply mT) (by rfl)) rfl (by kernel_rfl) rfl rfl ?_
 refine any_pure (i := 4) (listed' := [tt,tt,tt,tt,tt,ff,ff,ff,ff,ff,ff,ff,ff,ff,ff,ff,ff,ff,ff,ff,ff,ff,ff,ff,ff,ff,ff,ff,ff,ff,ff,ff,ff,ff,ff,ff,ff,ff,ff,ff,ff,ff,ff,ff,ff,ff]) rfl npI (pure_move rfl) rfl (by kernel_rfl) rfl rfl ?_
 refine any_pure (i := 5) (listed' := [tt,tt,tt,tt,tt,tt,ff,ff,ff,ff,ff,ff,ff,ff,ff,ff,ff,ff,ff,ff,ff,ff,ff,ff,ff,ff,ff,ff,ff,ff,ff,ff,ff,ff,ff,ff,ff,ff,ff,ff,ff,ff,ff,ff,ff,ff]) rfl npI (pure_move rfl) rfl (by kernel_rfl) rfl rfl ?_
 refine any_pure (i := 6) (listed' := [tt,tt,tt,tt,tt,tt,tt,ff,ff,ff,ff,ff,ff,ff,ff,ff,ff,ff,ff,ff,ff,ff,ff,ff,ff,ff,ff,ff,ff,ff,ff,ff,ff,ff,ff,ff,ff,ff,ff,ff,ff,ff,ff,ff,ff,ff]) rfl npI (pure_nilCheck rfl) rfl (by kernel_rfl) rfl rfl ?_
 refine any_pure (i := 7) (listed' := [tt,tt,tt,tt,tt,tt,tt,tt,ff,ff,ff,ff,ff,ff,ff,ff,ff,ff,ff,ff,ff,ff,ff,ff,ff,ff,ff,ff,ff,ff,ff,ff,ff,ff,ff,ff,ff,ff,ff,ff,ff,ff,ff,ff,ff,ff]) rfl npI (pure_fieldAddr0 rfl) rfl (by kernel_rfl) rfl rfl ?_
 refine any_load (i := 8) (listed' := [tt,tt,tt,tt,tt,tt,tt,tt,tt,ff,ff,ff,ff,ff,ff,ff,ff,ff,ff,ff,ff,ff,ff,ff,ff,ff,ff,ff,ff,ff,ff,ff,ff,ff,ff,ff,ff,ff,ff,ff,ff,ff,ff,ff,ff,ff]) rfl npI (load_bs rfl rfl (by repeat first | exact mH | apply mT) (by rfl)) rfl (by kernel_rfl) rfl rfl ?_
 refine any_pure (i := 9) (listed' := [tt,tt,tt,tt,tt,tt,tt,tt,tt,tt,ff,ff,ff,ff,ff,ff,ff,ff,ff,ff,ff,ff,ff,ff,ff,ff,ff,ff,ff,ff,ff,ff,ff,ff,ff,ff,ff,ff,ff,ff,ff,ff,ff,ff,ff,ff]) rfl npI (pure_len rfl rfl) rfl (by kernel_rfl) rfl rfl ?_
 refine any_pure (i := 10) (listed' := [tt,tt,tt,tt,tt,tt,tt,tt,tt,tt,tt,ff,ff,ff,ff,ff,ff,ff,ff,ff,ff,ff,ff,ff,ff,ff,ff,ff,ff,ff,ff,ff,ff,ff,ff,ff,ff,ff,ff,ff,ff,ff,ff,ff,ff,ff]) rfl npI (pure_rem_nat rfl rfl (by omega)) rfl (by kernel_rfl) rfl rfl ?_
 refine any_pure (i := 11) (listed' := [tt,tt,tt,tt,tt,tt,tt,tt,tt,tt,tt,tt,ff,ff,ff,ff,ff,ff,ff,ff,ff,ff,ff,ff,ff,ff,ff,ff,ff,ff,ff,ff,ff,ff,ff,ff,ff,ff,ff,ff,ff,ff,ff,ff,ff,ff]) rfl npI (pure_indexAddrN rfl rfl rfl (by first | exact hl1 | exact hl2)) rfl (by kernel_rfl) rfl rfl ?_
 refine any_load (i := 12) (listed' := [tt,tt,tt,tt,tt,tt,tt,tt,tt,tt,tt,tt,tt,ff,ff,ff,ff,ff,ff,ff,ff,ff,ff,ff,ff,ff,ff,ff,ff,ff,ff,ff,ff,ff,ff,ff,ff,ff,ff,ff,ff,ff,ff,ff,ff,ff]) rfl npI (load_s rfl rfl (hat1 _)) rfl (by kernel_rfl) rfl rfl ?_
 refine any_pure (i := 13) (listed' := [tt,tt,tt,tt,tt,tt,tt,tt,tt,tt,tt,tt,tt,tt,ff,ff,ff,ff,ff,ff,ff,ff,ff,ff,ff,ff,ff,ff,ff,ff,ff,ff,ff,ff,ff,ff,ff,ff,ff,ff,ff,ff,ff,ff,ff,ff]) rfl npI (pure_conv_i64 rfl rfl rfl (by omega) (by omega)) rfl (by kernel_rfl) rfl rfl ?_
 refine any_pure (i := 14) (listed' := [tt,tt,tt,tt,tt,tt,tt,tt,tt,tt,tt,tt,tt,tt,tt,ff,ff,ff,ff,ff,ff,ff,ff,ff,ff,ff,ff,ff,ff,ff,ff,ff,ff,ff,ff,ff,ff,ff,ff,ff,ff,ff,ff,ff,ff,ff]) rfl npI (pure_mul_nat (n := 131) rfl rfl (by omega)) rfl (by kernel_rfl) rfl rfl ?_
 refine any_pure (i := 15) (listed' := [tt,tt,tt,tt,tt,tt,tt,tt,tt,tt,tt,tt,tt,tt,tt,tt,ff,ff,ff,ff,ff,ff,ff,ff,ff,ff,ff,ff,ff,ff,ff,ff,ff,ff,ff,ff,ff,ff,ff,ff,ff,ff,ff,ff,ff,ff]) rfl npI (pure_move rfl) rfl (by kernel_rfl) rfl rfl ?_
 refine any_pure (i := 16) (listed' := [tt,tt,tt,tt,tt,tt,tt,tt,tt,tt,tt,tt,tt,tt,tt,tt,tt,ff,ff,ff,ff,ff,ff,ff,ff,ff,ff,ff,ff,ff,ff,ff,ff,ff,ff,ff,ff,ff,ff,ff,ff,ff,ff,ff,ff,ff]) rfl npI (pure_nilCheck rfl) rfl (by kernel_rfl) rfl rfl ?_
 refine any_pure (i := 17) (listed' := [tt,tt,tt,tt,tt,tt,tt,tt,tt,tt,tt,tt,tt,tt,tt,tt,tt,tt,ff,ff,ff,ff,ff,ff,ff,ff,ff,ff,ff,ff,ff,ff,ff,ff,ff,ff,ff,ff,ff,ff,ff,ff,ff,ff,ff,ff]) rfl npI (pure_fieldAddr0 rfl) rfl (by kernel_rfl) rfl rfl ?_
 refine any_load (i := 18) (listed' := [tt,tt,tt,tt,tt,tt,tt,tt,tt,tt,tt,tt,tt,tt,tt,tt,tt,tt,tt,ff,ff,ff,ff,ff,ff,ff,ff,ff,ff,ff,ff,ff,ff,ff,ff,ff,ff,ff,ff,ff,ff,ff,ff,ff,ff,ff]) rfl npI (load_bs rfl rfl (by repeat first | exact mH | apply mT) (by rfl)) rfl (by kernel_rfl) rfl rfl ?_
 refine any_pure (i := 19) (listed' := [tt,tt,tt,tt,tt,tt,tt,tt,tt,tt,tt,tt,tt,tt,tt,tt,tt,tt,tt,tt,ff,ff,ff,ff,ff,ff,ff,ff,ff,ff,ff,ff,ff,ff,ff,ff,ff,ff,ff,ff,ff,ff,ff,ff,ff,ff]) rfl npI (pure_move rfl) rfl (by kernel_rfl) rfl rfl ?_
 refine any_pure (i := 20) (listed' := [tt,tt,tt,tt,tt,tt,tt,tt,tt,tt,tt,tt,tt,tt,tt,tt,tt,tt,tt,tt,tt,ff,ff,ff,ff,ff,ff,ff,ff,ff,ff,ff,ff,ff,ff,ff,ff,ff,ff,ff,ff,ff,ff,ff,ff,ff]) rfl npI (pure_mul_nat (n := 7) rfl rfl (by omega)) rfl (by kernel_rfl) rfl rfl ?_
 refine any_pure (i := 21) (listed' := [tt,tt,tt,tt,tt,tt,tt,tt,tt,tt,tt,tt,tt,tt,tt,tt,tt,tt,tt,tt,tt,tt,ff,ff,ff,ff,ff,ff,ff,ff,ff,ff,ff,ff,ff,ff,ff,ff,ff,ff,ff,ff,ff,ff,ff,ff]) rfl npI (pure_add_nat (n := 3) rfl rfl (by omega)) rfl (by kernel_rfl) rfl rfl ?_
 refine any_pure (i := 22) (listed' := [tt,tt,tt,tt,tt,tt,tt,tt,tt,tt,tt,tt,tt,tt,tt,tt,tt,tt,tt,tt,tt,tt,tt,ff,ff,ff,ff,ff,ff,ff,ff,ff,ff,ff,ff,ff,ff,ff,ff,ff,ff,ff,ff,ff,ff,ff]) rfl npI (pure_move rfl) rfl (by kernel_rfl) rfl rfl ?_
 refine any_pure (i := 23) (listed' := [tt,tt,tt,tt,tt,tt,tt,tt,tt,tt,tt,tt,tt,tt,tt,tt,tt,tt,tt,tt,tt,tt,tt,tt,ff,ff,ff,ff,ff,ff,ff,ff,ff,ff,ff,ff,ff,ff,ff,ff,ff,ff,ff,ff,ff,ff]) rfl npI (pure_nilCheck rfl) rfl (by kernel_rfl) rfl rfl ?_
 refine any_pure (i := 24) (listed' := [tt,tt,tt,tt,tt,tt,tt,tt,tt,tt,tt,tt,tt,tt,tt,tt,tt,tt,tt,tt,tt,tt,tt,tt,tt,ff,ff,ff,ff,ff,ff,ff,ff,ff,ff,ff,ff,ff,ff,ff,ff,ff,ff,ff,ff,ff]) rfl npI (pure_fieldAddr0 rfl) rfl (by kernel_rfl) rfl rfl ?_
 refine any_load (i := 25) (listed' := [tt,tt,tt,tt,tt,tt,tt,tt,tt,tt,tt,tt,tt,tt,tt,tt,tt,tt,tt,tt,tt,tt,tt,tt,tt,tt,ff,ff,ff,ff,ff,ff,ff,ff,ff,ff,ff,ff,ff,ff,ff,ff,ff,ff,ff,ff]) rfl npI (load_bs rfl rfl (by repeat first | exact mH | apply mT) (by rfl)) rfl (by kernel_rfl) rfl rfl ?_
 refine any_pure (i := 26) (listed' := [tt,tt,tt,tt,tt,tt,tt,tt,tt,tt,tt,tt,tt,tt,tt,tt,tt,tt,tt,tt,tt,tt,tt,tt,tt,tt,tt,ff,ff,ff,ff,ff,ff,ff,ff,ff,ff,ff,ff,ff,ff,ff,ff,ff,ff,ff]) rfl npI (pure_len rfl rfl) rfl (by kernel_rfl) rfl rfl ?_
 refine any_pure (i := 27) (listed' := [tt,tt,tt,tt,tt,tt,tt,tt,tt,tt,tt,tt,tt,tt,tt,tt,tt,tt,tt,tt,tt,tt,tt,tt,tt,tt,tt,tt,ff,ff,ff,ff,ff,ff,ff,ff,ff,ff,ff,ff,ff,ff,ff,ff,ff,ff]) rfl npI (pure_rem_nat rfl rfl (by omega)) rfl (by kernel_rfl) rfl rfl ?_
 refine any_pure (i := 28) (listed' := [tt,tt,tt,tt,tt,tt,tt,tt,tt,tt,tt,tt,tt,tt,tt,tt,tt,tt,tt,tt,tt,tt,tt,tt,tt,tt,tt,tt,tt,ff,ff,ff,ff,ff,ff,ff,ff,ff,ff,ff,ff,ff,ff,ff,ff,ff]) rfl npI (pure_indexAddrN rfl rfl rfl (by first | exact hl1 | exact hl2)) rfl (by kernel_rfl) rfl rfl ?_
 refine any_load (i := 29) (listed' := [tt,tt,tt,tt,tt,tt,tt,tt,tt,tt,tt,tt,tt,tt,tt,tt,tt,tt,tt,tt,tt,tt,tt,tt,tt,tt,tt,tt,tt,tt,ff,ff,ff,ff,ff,ff,ff,ff,ff,ff,ff,ff,ff,ff,ff,ff]) rfl npI (load_s rfl rfl (hat2 _)) rfl (by kernel_rfl) rfl rfl ?_
 refine any_pure (i := 30) (listed' := [tt,tt,tt,tt,tt,tt,tt,tt,tt,tt,tt,tt,tt,tt,tt,tt,tt,tt,tt,tt,tt,tt,tt,tt,tt,tt,tt,tt,tt,tt,tt,ff,ff,ff,ff,ff,ff,ff,ff,ff,ff,ff,ff,ff,ff,ff]) rfl npI (pure_conv_i64 rfl rfl rfl (by omega) (by omega)) rfl (by kernel_rfl) rfl rfl ?_
 refine any_pure (i := 31) (listed' := [tt,tt,tt,tt,tt,tt,tt,tt,tt,tt,tt,tt,tt,tt,tt,tt,tt,tt,tt,tt,tt,tt,tt,tt,tt,tt,tt,tt,tt,tt,tt,tt,ff,ff,ff,ff,ff,ff,ff,ff,ff,ff,ff,ff,ff,ff]) rfl npI (pure_mul_nat (n := 1117) rfl rfl (by omega)) rfl (by kernel_rfl) rfl rfl ?_
 refine any_pure (i := 32) (listed' := [tt,tt,tt,tt,tt,tt,tt,tt,tt,tt,tt,tt,tt,tt,tt,tt,tt,tt,tt,tt,tt,tt,tt,tt,tt,tt,tt,tt,tt,tt,tt,tt,tt,ff,ff,ff,ff,ff,ff,ff,ff,ff,ff,ff,ff,ff]) rfl npI (pure_add_nat rfl rfl (by omega)) rfl (by kernel_rfl) rfl rfl ?_
 refine any_pure (i := 33) (listed' := [tt,tt,tt,tt,tt,tt,tt,tt,tt,tt,tt,tt,tt,tt,tt,tt,tt,tt,tt,tt,tt,tt,tt,tt,tt,tt,tt,tt,tt,tt,tt,tt,tt,tt,ff,ff,ff,ff,ff,ff,ff,ff,ff,ff,ff,ff]) rfl npI (pure_move rfl) rfl (by kernel_rfl) rfl rfl ?_
 refine any_pure (i := 34) (listed' := [tt,tt,tt,tt,tt,tt,tt,tt,tt,tt,tt,tt,tt,tt,tt,tt,tt,tt,tt,tt,tt,tt,tt,tt,tt,tt,tt,tt,tt,tt,tt,tt,tt,tt,tt,ff,ff,ff,ff,ff,ff,ff,ff,ff,ff,ff]) rfl npI (pure_mul_nat (n := 29) rfl rfl (by omega)) rfl (by kernel_rfl) rfl rfl ?_
 refine any_pure (i := 35) (listed' := [tt,tt,tt,tt,tt,tt,tt,tt,tt,tt,tt,tt,tt,tt,tt,tt,tt,tt,tt,tt,tt,tt,tt,tt,tt,tt,tt,tt,tt,tt,tt,tt,tt,tt,tt,tt,ff,ff,ff,ff,ff,ff,ff,ff,ff,ff]) rfl npI (pure_add_nat rfl rfl (by omega)) rfl (by kernel_rfl) rfl rfl ?_
 refine any_pure (i := 36) (listed' := [tt,tt,tt,tt,tt,tt,tt,tt,tt,tt,tt,tt,tt,tt,tt,tt,tt,tt,tt,tt,tt,tt,tt,tt,tt,tt,tt,tt,tt,tt,tt,tt,tt,tt,tt,tt,tt,ff,ff,ff,ff,ff,ff,ff,ff,ff]) rfl npI (pure_move rfl) rfl (by kernel_rfl) rfl rfl ?_
 refine any_pure (i := 37) (listed' := [tt,tt,tt,tt,tt,tt,tt,tt,tt,tt,tt,tt,tt,tt,tt,tt,tt,tt,tt,tt,tt,tt,tt,tt,tt,tt,tt,tt,tt,tt,tt,tt,tt,tt,tt,tt,tt,tt,ff,ff,ff,ff,ff,ff,ff,ff]) rfl npI (pure_move rfl) rfl (by kernel_rfl) rfl rfl ?_
 refine any_pure (i := 38) (listed' := [tt,tt,tt,tt,tt,tt,tt,tt,tt,tt,tt,tt,tt,tt,tt,tt,tt,tt,tt,tt,tt,tt,tt,tt,tt,tt,tt,tt,tt,tt,tt,tt,tt,tt,tt,tt,tt,tt,tt,ff,ff,ff,ff,ff,ff,ff]) rfl npI (pure_nilCheck rfl) rfl (by kernel_rfl) rfl rfl ?_
 refine any_pure (i := 39) (listed' := [tt,tt,tt,tt,tt,tt,tt,tt,tt,tt,tt,tt,tt,tt,tt,tt,tt,tt,tt,tt,tt,tt,tt,tt,tt,tt,tt,tt,tt,tt,tt,tt,tt,tt,tt,tt,tt,tt,tt,tt,ff,ff,ff,ff,ff,ff]) rfl npI (pure_fieldAddr0 rfl) rfl (by kernel_rfl) rfl rfl ?_
 refine any_load (i := 40) (listed' := [tt,tt,tt,tt,tt,tt,tt,tt,tt,tt,tt,tt,tt,tt,tt,tt,tt,tt,tt,tt,tt,tt,tt,tt,tt,tt,tt,tt,tt,tt,tt,tt,tt,tt,tt,tt,tt,tt,tt,tt,tt,ff,ff,ff,ff,ff]) rfl npI (load_bs rfl rfl (by repeat first | exact mH | apply mT) (by rfl)) rfl (by kernel_rfl) rfl rfl ?_
 refine any_pure (i := 41) (listed' := [tt,tt,tt,tt,tt,tt,tt,tt,tt,tt,tt,tt,tt,tt,tt,tt,tt,tt,tt,tt,tt,tt,tt,tt,tt,tt,tt,tt,tt,tt,tt,tt,tt,tt,tt,tt,tt,tt,tt,tt,tt,tt,ff,ff,ff,ff]) rfl npI (pure_len rfl rfl) rfl (by kernel_rfl) rfl rfl ?_
 refine any_pure (i := 42) (listed' := [tt,tt,tt,tt,tt,tt,tt,tt,tt,tt,tt,tt,tt,tt,tt,tt,tt,tt,tt,tt,tt,tt,tt,tt,tt,tt,tt,tt,tt,tt,tt,tt,tt,tt,tt,tt,tt,tt,tt,tt,tt,tt,tt,ff,ff,ff]) rfl npI (pure_quo_nat rfl rfl (by omega) (by omega)) rfl (by kernel_rfl) rfl rfl ?_
 refine any_pure (i := 43) (listed' := [tt,tt,tt,tt,tt,tt,tt,tt,tt,tt,tt,tt,tt,tt,tt,tt,tt,tt,tt,tt,tt,tt,tt,tt,tt,tt,tt,tt,tt,tt,tt,tt,tt,tt,tt,tt,tt,tt,tt,tt,tt,tt,tt,tt,ff,ff]) rfl npI (pure_mul_nat (n := 53) rfl rfl (by omega)) rfl (by kernel_rfl) rfl rfl ?_
 refine any_pure (i := 44) (listed' := [tt,tt,tt,tt,tt,tt,tt,tt,tt,tt,tt,tt,tt,tt,tt,tt,tt,tt,tt,tt,tt,tt,tt,tt,tt,tt,tt,tt,tt,tt,tt,tt,tt,tt,tt,tt,tt,tt,tt,tt,tt,tt,tt,tt,tt,ff]) rfl npI (pure_add_nat rfl rfl (by omega)) rfl (by kernel_rfl) rfl rfl ?_
 refine any_pure (i := 45) (listed' := [tt,tt,tt,tt,tt,tt,tt,tt,tt,tt,tt,tt,tt,tt,tt,tt,tt,tt,tt,tt,tt,tt,tt,tt,tt,tt,tt,tt,tt,tt,tt,tt,tt,tt,tt,tt,tt,tt,tt,tt,tt,tt,tt,tt,tt,tt]) rfl npI (pure_assign rfl) rfl (by kernel_rfl) rfl rfl ?_
 refine any_done (by kernel_rfl) ?_
 refine nrm_seq (tri_seq (tri_region (seq_pure (pure_move rfl) rfl rfl ?_)))
 refine seq_pure (pure_move rfl) rfl rfl ?_
 refine seq_pure (pure_quo_nat (n := 64) rfl rfl (by omega) (by omega)) rfl rfl ?_
 refine seq_pure (pure_xor_nat rfl rfl (by omega) (by omega)) rfl rfl ?_
 refine seq_pure (pure_assign rfl) rfl rfl ?_
 refine seq_done (nrm_seq (tri_seq (tri_region (seq_pure (pure_move rfl) rfl rfl ?_))))
 refine seq_pure (pure_move rfl) rfl rfl ?_
 refine seq_pure (pure_rem rfl rfl (by omega)) rfl rfl ?_
 refine seq_pure (pure_assign rfl) rfl rfl ?_
 refine seq_done (nrm_seq (tri_ret (ret_own1 (res_tmp rfl) SubH.refl ?_)))
 exact ⟨rfl, rfl, _, rfl, Int.tmod_nonneg _ (by omega), fun h => Int.tmod_lt_of_pos _ (by omega)⟩
end Gw
end Go.Proofs.YtgclbnfdlddpnaaGreat
namespace Go.Proofs.YtgclbnfdlddpnaaGreat
open Go Go.RowKit
namespace Gw
set_option maxRecDepth 100000 in
theorem indexFunc_Type (G : IM) (p : Option Addr) (n c : Nat) (es : List (List Value)) (hsl : SlE G p n c 2 es) (fid : FuncId) [FunI Tryz.prog fid] (us cs : List Value) (ins : List Ent) (q : Nat → Bool)
  (hq : ∀ i e, es[i]? = some e → Fn Tryz.prog fid (us ++ [.agg ⟨e⟩] ++ cs) ins G (ValO (.bool (q i)) ins G)) :
  Fn Tryz.prog 153 [.slice p n c, .func (.func fid) ⟨us⟩ ⟨cs⟩] ins G (ValO (.int .i64 (firstIx q n)) ins G) := by
 have hn := hsl.le
 refine fn_enter Tryz.func153 rfl Tryz.ntmps153 Tryz.results153 rfl ?_
 intro w0
 refine tri_seq (tri_region (seq_pure (pure_assign rfl) rfl rfl ?_))
 refine seq_done (nrm_seq (tri_seq (tri_seq (tri_region (seq_pure (pure_move rfl) rfl rfl ?_)))))
 refine seq_pure (pure_len rfl rfl) rfl rfl ?_
 refine seq_pure (pure_move rfl) rfl rfl ?_
 refine seq_done (nrm_seq (tri_block (tri_loopN (fun i : Nat => ⟨[(8, .int .i64 i), (7, .int .i64 n), (1, .func (.func fid) ⟨us⟩ ⟨cs⟩), (0, .slice p n c)], ins, G⟩) (fun i => i ≤ n ∧ ∀ j, j < i → q j = false) (fun i => n - i) 0 ?_ ?_ ?_)))
 exact sub_mk (by repeat (first | exact SubE.nil | refine SubE.cons rfl ?_)) (by repeat (first | exact SubH.refl | exact SubH.nil | refine SubH.cons (by repeat (first | exact Pk.here | apply Pk.there)) ?_ | apply SubH.drop))
 exact ⟨by omega, by omega⟩
 rintro i ⟨hi, hf⟩
 refine tri_seq (tri_region (seq_bool (pure_lss rfl rfl) rfl rfl (fun h21 => ?_) (fun h21 => ?_)))
 refine seq_done (nrm_seq (tri_seq (tri_cond_t rfl ?_)))
 refine tri_skip (nrm_seq (tri_seq (tri_block (tri_seq (tri_region (seq_pure (pure_move rfl) rfl rfl ?_))))))
 refine seq_pure (pure_assign rfl) rfl rfl ?_
 refine seq_done (nrm_seq (tri_seq (tri_region (seq_pure (pure_move rfl) rfl rfl ?_))))
 refine seq_pure (pure_move rfl) rfl rfl ?_
 refine seq_pure (pure_move rfl) rfl rfl ?_
 (obtain ⟨e, b, o, he, rfl, hl, _, hat, _⟩ := hsl.get (i := i) (by omega); refine seq_pure (pure_indexAddrN rfl rfl rfl (by omega)) rfl rfl ?_)
 refine seq_load (load_a rfl rfl (hat _) hl) rfl rfl ?_
 refine seq_vvalbo rfl rfl (hq i e he) perm_all rfl rfl (fun h43 => ?_) (fun h43 => ?_)
 refine seq_done (nrm_seq (tri_cond_t rfl ?_))
 refine tri_seq (tri_region (seq_pure (pure_move rfl) rfl rfl ?_))
 refine seq_pure (pure_assign rfl) rfl rfl ?_
 refine seq_done (nrm_seq (tri_ret (ret_block (ret_seq (ret_loopN (ret_block ?_))))))
 refine ret_seq (ret_own1 (res_tmp rfl) SubH.refl ?_)
 exact ⟨rfl, by rw [firstIx_some (by omega) hf (by assumption)], rfl⟩
 refine seq_done (nrm_seq (tri_cond_f rfl ?_))
 refine tri_skip (nrm_block (nrm_seq (tri_region (seq_pure (pure_add rfl rfl (by omega) (by omega)) rfl rfl ?_))))
 refine seq_pure (pure_move rfl) rfl rfl ?_
 refine seq_done (nrm_loopN (i + 1) ?_ ?_ ?_)
 exact sub_mk (by repeat (first | exact SubE.nil | refine SubE.cons rfl ?_)) (by repeat (first | exact SubH.refl | exact SubH.nil | refine SubH.cons (by repeat (first | exact Pk.here | apply Pk.there)) ?_ | apply SubH.drop))
 exact ⟨by omega, fun j hj => by by_cases hji : j = i; (subst hji; assumption); exact hf j (by omega)⟩
 omega
 refine seq_done (nrm_seq (tri_seq (tri_cond_f rfl ?_)))
 refine tri_exit ?_
 refine ext_seq ?_
 refine ext_loopN ?_
 refine ext_block_eq ?_
 refine nrm_seq (tri_seq (tri_region (seq_pure (pure_assign rfl) rfl rfl ?_)))
 refine seq_done (nrm_seq (tri_ret (ret_own1 (res_tmp rfl) SubH.refl ?_)))
 exact ⟨rfl, by rw [firstIx_none (fun j hj => hf j (by omega))], rfl⟩
set_option maxRecDepth 100000 in
theorem containsFunc_Type (G : IM) (p : Option Addr) (n c : Nat) (es : List (List Value)) (hsl : SlE G p n c 2 es) (fid : FuncId) [FunI Tryz.prog fid] (us cs : List Value) (ins : List Ent) (q : Nat → Bool)
  (hq : ∀ i e, es[i]? = some e → Fn Tryz.prog fid (us ++ [.agg ⟨e⟩] ++ cs) ins G (ValO (.bool (q i)) ins G)) :
  Fn Tryz.prog 128 [.slice p n c, .func (.func fid) ⟨us⟩ ⟨cs⟩] ins G (ValO (.bool (decide (0 ≤ firstIx q n))) ins G) := by
 refine fn_enter Tryz.func128 rfl Tryz.ntmps128 Tryz.results128 rfl ?_
 intro w0
 refine tri_seq (tri_region (seq_pure (pure_assign rfl) rfl rfl ?_))
 refine seq_done (nrm_seq (tri_seq (tri_region (seq_pure (pure_move rfl) rfl rfl ?_))))
 refine seq_pure (pure_move rfl) rfl rfl ?_
 refine seq_valo rfl (indexFunc_Type G p n c es hsl fid us cs ins q hq) perm_all rfl rfl ?_
 refine seq_pure (pure_geq rfl rfl) rfl rfl ?_
 refine seq_pure (pure_assign rfl) rfl rfl ?_
 refine seq_done (nrm_seq (tri_ret (ret_own1 (res_tmp rfl) SubH.refl ?_)))
 exact ⟨rfl, rfl, rfl⟩
theorem containsNot_Type (G : IM) (p : Option Addr) (n c : Nat) (es : List (List Value)) (hsl : SlE G p n c 2 es) (fid : FuncId) [FunI Tryz.prog fid] (us cs : List Value) (ins : List Ent) (f : Ty → Bool) (ks : List Ty)
  (hn : ks.length = n) {A : Bool} (hA : ks.all f = A) (hq : ∀ i e, es[i]? = some e → Fn Tryz.prog fid (us ++ [.agg ⟨e⟩] ++ cs) ins G (ValO (.bool (!f (ks.getD i ty0))) ins G)) :
  Fn Tryz.prog 128 [.slice p n c, .func (.func fid) ⟨us⟩ ⟨cs⟩] ins G (ValO (.bool (!A)) ins G) := by
 subst hn hA
 rw [← contains_not f ks ty0]
 exact containsFunc_Type G p _ c es hsl fid us cs ins _ hq
set_option maxRecDepth 100000 in
theorem equalFunc_Type (G : IM) (p p' : Option Addr) (n c n' c' : Nat) (es es' : List (List Value)) (hsl : SlE G p n c 2 es) (hsl' : SlE G p' n' c' 2 es') (fid : FuncId) [FunI Tryz.prog fid] (us cs : List Value) (ins : List Ent) (q : Nat → Bool)
  (A : Bool) (hA : A = true ↔ n = n' ∧ ∀ i, i < n → q i = true)
  (hq : ∀ i e e', es[i]? = some e → es'[i]? = some e' → Fn Tryz.prog fid (us ++ [.agg ⟨e⟩, .agg ⟨e'⟩] ++ cs) ins G (ValO (.bool (q i)) ins G)) :
  Fn Tryz.prog 35 [.slice p n c, .slice p' n' c', .func (.func fid) ⟨us⟩ ⟨cs⟩] ins G (ValO (.bool A) ins G) := by
 have hn := hsl.le
 have hn' := hsl'.le
 refine fn_enter Tryz.func35 rfl Tryz.ntmps35 Tryz.results35 rfl ?_
 intro w0
 refine tri_seq (tri_region (seq_pure (pure_assign rfl) rfl rfl ?_))
 refine seq_done (nrm_seq (tri_seq (tri_seq (tri_region (seq_pure (pure_move rfl) rfl rfl ?_)))))
 refine seq_pure (pure_len rfl rfl) rfl rfl ?_
 refine seq_pure (pure_move rfl) rfl rfl ?_
 refine seq_pure (pure_len rfl rfl) rfl rfl ?_
 refine seq_bool (pure_neq rfl rfl) rfl rfl (fun h13 => ?_) (fun h13 => ?_)
 refine seq_done (nrm_seq (tri_cond_t rfl ?_))
 refine tri_seq (tri_region (seq_pure (pure_assign rfl) rfl rfl ?_))
 refine seq_done (nrm_seq (tri_ret (ret_seq (ret_own1 (outs := ins) (res_tmp rfl) (by first | exact SubH.refl | exact SubH.drop (SubH.drop SubH.refl)) ?_))))
 exact ⟨rfl, by (cases A with | false => rfl | true => exact absurd (hA.1 rfl).1 (by omega)), rfl⟩
 refine seq_done (nrm_seq (tri_cond_f rfl ?_))
 refine tri_skip (nrm_seq (tri_seq (tri_seq (tri_region (seq_pure (pure_move rfl) rfl rfl ?_)))))
 refine seq_pure (pure_len rfl rfl) rfl rfl ?_
 refine seq_pure (pure_move rfl) rfl rfl ?_
 refine seq_done (nrm_seq (tri_block (tri_loopN (fun i : Nat => ⟨[(17, .int .i64 i), (16, .int .i64 n), (15, .slice p n c), (2, .func (.func fid) ⟨us⟩ ⟨cs⟩), (1, .slice p' n' c'), (0, .slice p n c)], ins, G⟩) (fun i => i ≤ n ∧ ∀ j, j < i → q j = true) (fun i => n - i) 0 ?_ ?_ ?_)))
 exact sub_mk (by repeat (first | exact SubE.nil | refine SubE.cons rfl ?_)) (by repeat (first | exact SubH.refl | exact SubH.nil | refine SubH.cons (by repeat (first | exact Pk.here | apply Pk.there)) ?_ | apply SubH.drop))
 exact ⟨by omega, by omega⟩
 rintro i ⟨hi, hf⟩
 refine tri_seq (tri_region (seq_bool (pure_lss rfl rfl) rfl rfl (fun h46 => ?_) (fun h46 => ?_)))
 refine seq_done (nrm_seq (tri_seq (tri_cond_t rfl ?_)))
 refine tri_skip (nrm_seq (tri_seq (tri_block (tri_seq (tri_region (seq_pure (pure_move rfl) rfl rfl ?_))))))
 (obtain ⟨e, b, o, he, rfl, hl, _, hat, _⟩ := hsl.get (i := i) (by omega); refine seq_pure (pure_indexAddrN rfl rfl rfl (by omega)) rfl rfl ?_)
 refine seq_load (load_a rfl rfl (hat _) hl) rfl rfl ?_
 (refine seq_step (step_alloc rfl) rfl ?_; rintro _ ⟨b60, rfl⟩)
 refine seq_pure (pure_assign rfl) rfl rfl ?_
 refine seq_store rfl rfl rfl (by assumption) (by assumption) rfl (by repeat first | exact Sw.here | apply Sw.there) (by exact upd_all (by symm; assumption)) ?_
 refine seq_done (nrm_seq (tri_seq (tri_region (seq_pure (pure_move rfl) rfl rfl ?_))))
 refine seq_pure (pure_move rfl) rfl rfl ?_
 (obtain ⟨e', b', o', he', rfl, hl', _, hat', _⟩ := hsl'.get (i := i) (by omega); refine seq_pure (pure_indexAddrN rfl rfl rfl (by omega)) rfl rfl ?_)
 refine seq_load (load_a rfl rfl (hat' _) hl') rfl rfl ?_
 (refine seq_step (step_alloc rfl) rfl ?_; rintro _ ⟨b71, rfl⟩)
 refine seq_store rfl rfl rfl (by assumption) (by assumption) rfl (by repeat first | exact Sw.here | apply Sw.there) (by exact upd_all (by symm; assumption)) ?_
 refine seq_done (nrm_seq (tri_seq (tri_region (seq_pure (pure_move rfl) rfl rfl ?_))))
 refine seq_load (load_a rfl rfl (at_blk_all (by repeat first | exact mH | apply mT)) (by assumption)) rfl rfl ?_
 refine seq_load (load_a rfl rfl (at_blk_all (by repeat first | exact mH | apply mT)) (by assumption)) rfl rfl ?_
 refine seq_vvalbo rfl rfl (hq i e e' he he') perm_two rfl rfl (fun h80 => ?_) (fun h80 => ?_)
 refine seq_pure (pure_not_t rfl) rfl rfl ?_
 refine seq_done (nrm_seq (tri_cond_f rfl ?_))
 refine tri_skip (nrm_block (nrm_seq (tri_region (seq_pure (pure_add rfl rfl (by omega) (by omega)) rfl rfl ?_))))
 refine seq_pure (pure_move rfl) rfl rfl ?_
 refine seq_done (nrm_loopN (i + 1) ?_ ?_ ?_)
 exact sub_mk (by repeat (first | exact SubE.nil | refine SubE.cons rfl ?_)) (by repeat (first | exact SubH.refl | exact SubH.nil | refine SubH.cons (by repeat (first | exact Pk.here | apply Pk.there)) ?_ | apply SubH.drop))
 exact ⟨by omega, fun j hj => by by_cases hji : j = i; (subst hji; assumption); exact hf j (by omega)⟩
 omega
 refine seq_pure (pure_not_f rfl) rfl rfl ?_
 refine seq_done (nrm_seq (tri_cond_t rfl ?_))
 refine tri_seq (tri_region (seq_pure (pure_assign rfl) rfl rfl ?_))
 refine seq_done (nrm_seq (tri_ret (ret_block (ret_seq (ret_loopN (ret_block ?_))))))
 refine ret_seq (ret_own1 (outs := ins) (res_tmp rfl) (by first | exact SubH.refl | exact SubH.drop (SubH.drop SubH.refl)) ?_)
 exact ⟨rfl, by (cases A with | false => rfl | true => have h0 := (hA.1 rfl).2 i (by omega); simp_all), rfl⟩
 refine seq_done (nrm_seq (tri_seq (tri_cond_f rfl ?_)))
 refine tri_exit ?_
 refine ext_seq ?_
 refine ext_loopN ?_
 refine ext_block_eq ?_
 refine nrm_seq (tri_seq (tri_region (seq_pure (pure_assign rfl) rfl rfl ?_)))
 refine seq_done (nrm_seq (tri_ret (ret_own1 (outs := ins) (res_tmp rfl) (by first | exact SubH.refl | exact SubH.drop (SubH.drop SubH.refl)) ?_)))
 exact ⟨rfl, by rw [hA.2 ⟨by omega, fun j hj => hf j (by omega)⟩], rfl⟩
set_option maxRecDepth 100000 in
theorem within_fn (n lo hi : Int) (G : IM) : Fn Tryz.prog 63 [.int .i64 n, .int .i64 lo, .int .i64 hi] [] G (Val (.bool (withinB n lo hi)) G) := by
 refine fn_enter Tryz.func63 rfl Tryz.ntmps63 Tryz.results63 rfl ?_
 intro w0
 refine tri_seq (tri_region (seq_pure (pure_assign rfl) rfl rfl ?_))
 refine seq_done (nrm_seq (tri_seq (tri_region (seq_pure (pure_move rfl) rfl rfl ?_))))
 refine seq_pure (pure_move rfl) rfl rfl ?_
 refine seq_bool (pure_leq rfl rfl) rfl rfl (fun h10 => ?_) (fun h10 => ?_)
 refine seq_pure (pure_move rfl) rfl rfl ?_
 refine seq_pure (pure_move rfl) rfl rfl ?_
 refine seq_pure (pure_move rfl) rfl rfl ?_
 refine seq_bool (pure_leq rfl rfl) rfl rfl (fun h14 => ?_) (fun h14 => ?_)
 refine seq_pure (pure_pick_t rfl rfl) rfl rfl ?_
 refine seq_pure (pure_assign rfl) rfl rfl ?_
 refine seq_done (nrm_seq (tri_ret (ret_fin1 (res_tmp rfl) ?_)))
 exact ⟨rfl, by simp [withinB]; omega, rfl⟩
 refine seq_pure (pure_pick_t rfl rfl) rfl rfl ?_
 refine seq_pure (pure_assign rfl) rfl rfl ?_
 refine seq_done (nrm_seq (tri_ret (ret_fin1 (res_tmp rfl) ?_)))
 exact ⟨rfl, by simp [withinB]; omega, rfl⟩
 refine seq_pure (pure_move rfl) rfl rfl ?_
 refine seq_skip rfl rfl ?_
 refine seq_skip rfl rfl ?_
 refine seq_skip rfl rfl ?_
 refine seq_pure (pure_pick_f rfl rfl) rfl rfl ?_
 refine seq_pure (pure_assign rfl) rfl rfl ?_
 refine seq_done (nrm_seq (tri_ret (ret_fin1 (res_tmp rfl) ?_)))
 exact ⟨rfl, by simp [withinB]; omega, rfl⟩
set_option maxRecDepth 100000 in
theorem base_fn (k : Int) (G : IM) : Fn Tryz.prog 44 [.int .i64 k] [] G (Val (.agg ⟨[.int .i64 k, .slice none 0 0]⟩) G) := by
 refine fn_enter Tryz.func44 rfl Tryz.ntmps44 Tryz.results44 rfl ?_
 intro w0
 refine tri_seq (tri_region ?_)
 (refine seq_step (step_alloc rfl) rfl ?_; rintro _ ⟨b3, rfl⟩)
 refine seq_done (nrm_seq (tri_seq (tri_region (seq_pure (pure_move rfl) rfl rfl ?_))))
 refine seq_pure (pure_build rfl rfl) rfl rfl ?_
 refine seq_store rfl rfl rfl rfl rfl rfl (by repeat first | exact Sw.here | apply Sw.there) (by rfl) ?_
 refine seq_done (nrm_seq (tri_ret (ret_fin1 (res_cell rfl (load_ba rfl rfl (by repeat first | exact mH | apply mT) (by rfl))) ?_)))
 exact ⟨rfl, rfl, rfl⟩
set_option maxRecDepth 100000 in
theorem isLabel_fn (n : Int) (G : IM) : Fn Tryz.prog 124 [.int .i64 n] [] G (Val (.bool (labelOk n)) G) := by
 refine fn_enter Tryz.func124 rfl Tryz.ntmps124 Tryz.results124 rfl ?_
 intro w0
 refine tri_seq (tri_region (seq_pure (pure_assign rfl) rfl rfl ?_))
 refine seq_done (nrm_seq (tri_seq (tri_region (seq_pure (pure_move rfl) rfl rfl ?_))))
 refine seq_valb rfl (within_fn _ _ _ _) rfl rfl (fun h9 => ?_) (fun h9 => ?_)
 refine seq_pure (pure_move rfl) rfl rfl ?_
 refine seq_skip rfl rfl ?_
 refine seq_skip rfl rfl ?_
 refine seq_pure (pure_pick_t rfl rfl) rfl rfl ?_
 refine seq_pure (pure_assign rfl) rfl rfl ?_
 refine seq_done (nrm_seq (tri_ret (ret_fin1 (res_tmp rfl) ?_)))
 exact ⟨rfl, by simp [labelOk, *], rfl⟩
 refine seq_pure (pure_move rfl) rfl rfl ?_
 refine seq_pure (pure_move rfl) rfl rfl ?_
 refine seq_valb rfl (within_fn _ _ _ _) rfl rfl (fun h22 => ?_) (fun h22 => ?_)
 refine seq_pure (pure_pick_f rfl rfl) rfl rfl ?_
 refine seq_pure (pure_assign rfl) rfl rfl ?_
 refine seq_done (nrm_seq (tri_ret (ret_fin1 (res_tmp rfl) ?_)))
 exact ⟨rfl, by simp [labelOk, *], rfl⟩
 refine seq_pure (pure_pick_f rfl rfl) rfl rfl ?_
 refine seq_pure (pure_assign rfl) rfl rfl ?_
 refine seq_done (nrm_seq (tri_ret (ret_fin1 (res_tmp rfl) ?_)))
 exact ⟨rfl, by simp [labelOk, *], rfl⟩
set_option maxRecDepth 100000 in
theorem isNoType_fn (t : Ty) (G : IM) (cells : List Value) (hr : RTy G t cells) : Fn Tryz.prog 122 [.agg ⟨cells⟩] [] G (Val (.bool (tNone t)) G) := by
 obtain ⟨p, c, es, rfl, hk, hsl, hkl⟩ := hr.open
 refine fn_enter Tryz.func122 rfl Tryz.ntmps122 Tryz.results122 rfl ?_
 intro w0
 refine tri_seq (tri_region ?_)
 (refine seq_step (step_box_a rfl rfl) rfl ?_; rintro _ ⟨b3, rfl⟩)
 refine seq_pure (pure_assign rfl) rfl rfl ?_
 refine seq_done (nrm_seq (tri_seq (tri_region (seq_pure (pure_fieldAddr0 rfl) rfl rfl ?_))))
 refine seq_load (load_bs rfl rfl (by repeat first | exact mH | apply mT) (by rfl)) rfl rfl ?_
 refine seq_bool (pure_eql rfl rfl) rfl rfl (fun h11 => ?_) (fun h11 => ?_)
 refine seq_pure (pure_move rfl) rfl rfl ?_
 refine seq_pure (pure_fieldAddr0 rfl) rfl rfl ?_
 refine seq_load (load_bs rfl rfl (by repeat first | exact mH | apply mT) (by rfl)) rfl rfl ?_
 refine seq_pure (pure_len rfl rfl) rfl rfl ?_
 refine seq_bool (pure_eql rfl rfl) rfl rfl (fun h16 => ?_) (fun h16 => ?_)
 refine seq_pure (pure_pick_t rfl rfl) rfl rfl ?_
 refine seq_pure (pure_assign rfl) rfl rfl ?_
 refine seq_done (nrm_seq (tri_ret (ret_fin1 (res_tmp rfl) ?_)))
 exact ⟨rfl, by simp only [tNone]; (first | rw [decide_eq_true (by omega)] | rw [decide_eq_false (by omega)]), rfl⟩
 refine seq_pure (pure_pick_t rfl rfl) rfl rfl ?_
 refine seq_pure (pure_assign rfl) rfl rfl ?_
 refine seq_done (nrm_seq (tri_ret (ret_fin1 (res_tmp rfl) ?_)))
 exact ⟨rfl, by simp only [tNone]; (first | rw [decide_eq_true (by omega)] | rw [decide_eq_false (by omega)]), rfl⟩
 refine seq_pure (pure_move rfl) rfl rfl ?_
 refine seq_skip rfl rfl ?_
 refine seq_skip rfl rfl ?_
 refine seq_skip rfl rfl ?_
 refine seq_skip rfl rfl ?_
 refine seq_pure (pure_pick_f rfl rfl) rfl rfl ?_
 refine seq_pure (pure_assign rfl) rfl rfl ?_
 refine seq_done (nrm_seq (tri_ret (ret_fin1 (res_tmp rfl) ?_)))
 exact ⟨rfl, by simp only [tNone]; (first | rw [decide_eq_true (by omega)] | rw [decide_eq_false (by omega)]), rfl⟩
set_option maxRecDepth 100000 in
theorem isName_fn (s : ByteArray) (G : IM) : Fn Tryz.prog 121 [.string s] [] G (Val (.bool (nameOk s)) G) := by
 refine fn_enter Tryz.func121 rfl Tryz.ntmps121 Tryz.results121 rfl ?_
 intro w0
 refine tri_seq (tri_region (seq_pure (pure_assign rfl) rfl rfl ?_))
 refine seq_done (nrm_seq (tri_seq (tri_region (seq_pure (pure_move rfl) rfl rfl ?_))))
 refine seq_pure (pure_len_str rfl rfl) rfl rfl ?_
 refine seq_bool (pure_eql rfl rfl) rfl rfl (fun h10 => ?_) (fun h10 => ?_)
 refine seq_pure (pure_move rfl) rfl rfl ?_
 refine seq_pure (pure_move rfl) rfl rfl ?_
 refine seq_pure (pure_sindex rfl rfl rfl (by omega) (ba_get (by omega))) rfl rfl ?_
 refine seq_bool (pure_geq rfl rfl) rfl rfl (fun h14 => ?_) (fun h14 => ?_)
 refine seq_pure (pure_pick_t rfl rfl) rfl rfl ?_
 refine seq_pure (pure_move rfl) rfl rfl ?_
 refine seq_pure (pure_move rfl) rfl rfl ?_
 refine seq_pure (pure_sindex rfl rfl rfl (by omega) (ba_get (by omega))) rfl rfl ?_
 refine seq_bool (pure_leq rfl rfl) rfl rfl (fun h19 => ?_) (fun h19 => ?_)
 refine seq_pure (pure_pick_t rfl rfl) rfl rfl ?_
 refine seq_pure (pure_assign rfl) rfl rfl ?_
 refine seq_done (nrm_seq (tri_ret (ret_fin1 (res_tmp rfl) ?_)))
 exact ⟨rfl, by simp only [nameOk]; (try simp only [Int.toNat_zero] at *); (first | rw [decide_eq_true (by omega)] | rw [decide_eq_false (by omega)]), rfl⟩
 refine seq_pure (pure_pick_t rfl rfl) rfl rfl ?_
 refine seq_pure (pure_assign rfl) rfl rfl ?_
 refine seq_done (nrm_seq (tri_ret (ret_fin1 (res_tmp rfl) ?_)))
 exact ⟨rfl, by simp only [nameOk]; (try simp only [Int.toNat_zero] at *); (first | rw [decide_eq_true (by omega)] | rw [decide_eq_false (by omega)]), rfl⟩
 refine seq_pure (pure_pick_t rfl rfl) rfl rfl ?_
 refine seq_pure (pure_move rfl) rfl rfl ?_
 refine seq_skip rfl rfl ?_
 refine seq_skip rfl rfl ?_
 refine seq_skip rfl rfl ?_
 refine seq_pure (pure_pick_f rfl rfl) rfl rfl ?_
 refine seq_pure (pure_assign rfl) rfl rfl ?_
 refine seq_done (nrm_seq (tri_ret (ret_fin1 (res_tmp rfl) ?_)))
 exact ⟨rfl, by simp only [nameOk]; (try simp only [Int.toNat_zero] at *); (first | rw [decide_eq_true (by omega)] | rw [decide_eq_false (by omega)]), rfl⟩
 refine seq_pure (pure_move rfl) rfl rfl ?_
 refine seq_skip rfl rfl ?_
 refine seq_skip rfl rfl ?_
 refine seq_skip rfl rfl ?_
 refine seq_pure (pure_pick_f rfl rfl) rfl rfl ?_
 refine seq_pure (pure_move rfl) rfl rfl ?_
 refine seq_skip rfl rfl ?_
 refine seq_skip rfl rfl ?_
 refine seq_skip rfl rfl ?_
 refine seq_pure (pure_pick_f rfl rfl) rfl rfl ?_
 refine seq_pure (pure_assign rfl) rfl rfl ?_
 refine seq_done (nrm_seq (tri_ret (ret_fin1 (res_tmp rfl) ?_)))
 exact ⟨rfl, by simp only [nameOk]; (try simp only [Int.toNat_zero] at *); (first | rw [decide_eq_true (by omega)] | rw [decide_eq_false (by omega)]), rfl⟩
end Gw
end Go.Proofs.YtgclbnfdlddpnaaGreat
namespace Go.Proofs.YtgclbnfdlddpnaaGreat
open Go Go.RowKit
namespace Gw
set_option maxRecDepth 100000 in
theorem typeScan_1 (G : IM) (e : List Value) (d : Int) (b : Bool) (bd : Nat) (hl : e.length = 2) (hd : 0 ≤ d ∧ d ≤ 5) (h : Fn Tryz.prog 97 [.agg ⟨e⟩, .int .i64 (d + 1)] [] G (Val (.bool b) G)) :
  Fn Tryz.prog 129 [.agg ⟨e⟩, .pointer (some ⟨bd, 0, none⟩)] [.blk bd [.int .i64 d]] G (ValO (.bool (!b)) [.blk bd [.int .i64 d]] G) := by
 refine fn_enter Tryz.func129 rfl Tryz.ntmps129 Tryz.results129 rfl ?_
 intro w0
 refine tri_seq (tri_region ?_)
 (refine seq_step (step_box_a rfl rfl) rfl ?_; rintro _ ⟨b3, rfl⟩)
 refine seq_pure (pure_assign rfl) rfl rfl ?_
 refine seq_done (nrm_seq (tri_seq (tri_region (seq_load (load_a rfl rfl (at_blk_all (by repeat first | exact mH | apply mT)) (by assumption)) rfl rfl ?_))))
 refine seq_load (load_bs rfl rfl (by repeat first | exact mH | apply mT) (by rfl)) rfl rfl ?_
 refine seq_pure (pure_add rfl rfl (by omega) (by omega)) rfl rfl ?_
 refine seq_valb rfl (h) rfl rfl (fun h12 => ?_) (fun h12 => ?_)
 refine seq_pure (pure_not_t rfl) rfl rfl ?_
 refine seq_pure (pure_assign rfl) rfl rfl ?_
 refine seq_done (nrm_seq (tri_ret (ret_own1 (res_tmp rfl) (SubH.cons (Pk.there Pk.here) SubH.nil) ?_)))
 exact ⟨rfl, by simp [*], rfl⟩
 refine seq_pure (pure_not_f rfl) rfl rfl ?_
 refine seq_pure (pure_assign rfl) rfl rfl ?_
 refine seq_done (nrm_seq (tri_ret (ret_own1 (res_tmp rfl) (SubH.cons (Pk.there Pk.here) SubH.nil) ?_)))
 exact ⟨rfl, by simp [*], rfl⟩
set_option maxRecDepth 100000 in
theorem typeScan_fn : ∀ (t : Ty) (d : Int) (G : IM) (cells : List Value), 0 ≤ d ∧ d ≤ 5 → RTy G t cells →
  Fn Tryz.prog 97 [.agg ⟨cells⟩, .int .i64 d] [] G (Val (.bool (tScan t d)) G) := by
 refine Ty.ind fun k ks ih d G cells hd hr => ?_
 obtain ⟨p, c, es, rfl, hk, hsl, hkl⟩ := hr.open
 simp only [Ty.k, Ty.ks] at hk hsl hkl ⊢
 have hn := hsl.le
 obtain ⟨A, hA⟩ : ∃ A, ks.all (tScan · (d + 1)) = A := ⟨_, rfl⟩
 refine fn_enter Tryz.func97 rfl Tryz.ntmps97 Tryz.results97 rfl ?_
 intro w0
 refine tri_seq (tri_region ?_)
 (refine seq_step (step_box_a rfl rfl) rfl ?_; rintro _ ⟨b3, rfl⟩)
 (refine seq_step (step_box_s rfl rfl rfl) rfl ?_; rintro _ ⟨b4, rfl⟩)
 refine seq_pure (pure_assign rfl) rfl rfl ?_
 refine seq_done (nrm_seq (tri_seq (tri_region (seq_pure (pure_assign rfl) rfl rfl ?_))))
 refine seq_done (nrm_seq (tri_seq (tri_seq (tri_region (seq_pure (pure_fieldAddr0 rfl) rfl rfl ?_)))))
 refine seq_load (load_bs rfl rfl (by repeat first | exact mH | apply mT) (by rfl)) rfl rfl ?_
 refine seq_done (nrm_seq (tri_block (tri_seq (tri_seq (tri_region (seq_bool (pure_eql rfl rfl) rfl rfl (fun h24 => ?_) (fun h24 => ?_)))))))
 refine seq_pure (pure_assign rfl) rfl rfl ?_
 refine seq_done (nrm_seq (tri_cond_t rfl ?_))
 refine tri_skip (nrm_seq (tri_cond_t rfl ?_))
 refine tri_region (seq_pure (pure_assign rfl) rfl rfl ?_)
 refine seq_done (nrm_block (nrm_seq (tri_seq (tri_region (seq_load (load_bs rfl rfl (by repeat first | exact mH | apply mT) (by rfl)) rfl rfl ?_)))))
 refine seq_bool (pure_leq rfl rfl) rfl rfl (fun h40 => ?_) (fun h40 => ?_)
 refine seq_pure (pure_move rfl) rfl rfl ?_
 refine seq_pure (pure_move rfl) rfl rfl ?_
 refine seq_pure (pure_fieldAddr0 rfl) rfl rfl ?_
 refine seq_load (load_bs rfl rfl (by repeat first | exact mH | apply mT) (by rfl)) rfl rfl ?_
 refine seq_pure (pure_len rfl rfl) rfl rfl ?_
 refine seq_bool (pure_eql rfl rfl) rfl rfl (fun h46 => ?_) (fun h46 => ?_)
 refine seq_pure (pure_pick_t rfl rfl) rfl rfl ?_
 refine seq_pure (pure_move rfl) rfl rfl ?_
 refine seq_pure (pure_fieldAddr0 rfl) rfl rfl ?_
 refine seq_load (load_bs rfl rfl (by repeat first | exact mH | apply mT) (by rfl)) rfl rfl ?_
 refine seq_pure (pure_makeFunc rfl rfl) rfl rfl ?_
 refine seq_valbo rfl (containsNot_Type _ _ _ _ _ hsl _ [] _ [.blk b4 [.int .i64 d]] (tScan · (d + 1)) ks rfl hA (fun i e he => typeScan_1 _ _ _ _ _ (hsl.all e (List.mem_of_getElem? he)) hd (ih _ (hkl.inv he ty0).1 _ _ _ (by omega) (hkl.inv he ty0).2))) perm_all rfl rfl (fun h52 => ?_) (fun h52 => ?_)
 simp only [Bool.not_eq_true', Bool.not_eq_false'] at h52
 refine seq_pure (pure_not_t rfl) rfl rfl ?_
 refine seq_pure (pure_pick_t rfl rfl) rfl rfl ?_
 refine seq_pure (pure_assign rfl) rfl rfl ?_
 refine seq_done (nrm_seq (tri_ret (ret_fin1 (res_tmp rfl) ?_)))
 exact ⟨rfl, by (rw [tScan, tScanL_all, hA]; have := tyOps_spec k; first | (rw [decide_eq_true (by omega), decide_eq_true (by omega)]; simp only [*]; done) | (rw [decide_eq_true (by omega), decide_eq_true (by omega)]; simp only [*]; rfl) | (rw [decide_eq_false (by omega)]; rfl) | (rw [decide_eq_true (by omega), decide_eq_false (by omega)]; rfl)), rfl⟩
 simp only [Bool.not_eq_true', Bool.not_eq_false'] at h52
 refine seq_pure (pure_not_f rfl) rfl rfl ?_
 refine seq_pure (pure_pick_t rfl rfl) rfl rfl ?_
 refine seq_pure (pure_assign rfl) rfl rfl ?_
 refine seq_done (nrm_seq (tri_ret (ret_fin1 (res_tmp rfl) ?_)))
 exact ⟨rfl, by (rw [tScan, tScanL_all, hA]; have := tyOps_spec k; first | (rw [decide_eq_true (by omega), decide_eq_true (by omega)]; simp only [*]; done) | (rw [decide_eq_true (by omega), decide_eq_true (by omega)]; simp only [*]; rfl) | (rw [decide_eq_false (by omega)]; rfl) | (rw [decide_eq_true (by omega), decide_eq_false (by omega)]; rfl)), rfl⟩
 refine seq_pure (pure_pick_t rfl rfl) rfl rfl ?_
 refine seq_pure (pure_move rfl) rfl rfl ?_
 refine seq_skip rfl rfl ?_
 refine seq_skip rfl rfl ?_
 refine seq_skip rfl rfl ?_
 refine seq_skip rfl rfl ?_
 refine seq_skip rfl rfl ?_
 refine seq_pure (pure_pick_f rfl rfl) rfl rfl ?_
 refine seq_pure (pure_assign rfl) rfl rfl ?_
 refine seq_done (nrm_seq (tri_ret (ret_fin1 (res_tmp rfl) ?_)))
 exact ⟨rfl, by (rw [tScan, tScanL_all, hA]; have := tyOps_spec k; first | (rw [decide_eq_true (by omega), decide_eq_true (by omega)]; simp only [*]; done) | (rw [decide_eq_true (by omega), decide_eq_true (by omega)]; simp only [*]; rfl) | (rw [decide_eq_false (by omega)]; rfl) | (rw [decide_eq_true (by omega), decide_eq_false (by omega)]; rfl)), rfl⟩
 refine seq_pure (pure_move rfl) rfl rfl ?_
 refine seq_skip rfl rfl ?_
 refine seq_skip rfl rfl ?_
 refine seq_skip rfl rfl ?_
 refine seq_skip rfl rfl ?_
 refine seq_skip rfl rfl ?_
 refine seq_pure (pure_pick_f rfl rfl) rfl rfl ?_
 refine seq_pure (pure_move rfl) rfl rfl ?_
 refine seq_skip rfl rfl ?_
 refine seq_skip rfl rfl ?_
 refine seq_skip rfl rfl ?_
 refine seq_skip rfl rfl ?_
 refine seq_skip rfl rfl ?_
 refine seq_pure (pure_pick_f rfl rfl) rfl rfl ?_
 refine seq_pure (pure_assign rfl) rfl rfl ?_
 refine seq_done (nrm_seq (tri_ret (ret_fin1 (res_tmp rfl) ?_)))
 exact ⟨rfl, by (rw [tScan, tScanL_all, hA]; have := tyOps_spec k; first | (rw [decide_eq_true (by omega), decide_eq_true (by omega)]; simp only [*]; done) | (rw [decide_eq_true (by omega), decide_eq_true (by omega)]; simp only [*]; rfl) | (rw [decide_eq_false (by omega)]; rfl) | (rw [decide_eq_true (by omega), decide_eq_false (by omega)]; rfl)), rfl⟩
 refine seq_pure (pure_assign rfl) rfl rfl ?_
 refine seq_done (nrm_seq (tri_cond_f rfl ?_))
 refine tri_seq (tri_region (seq_bool (pure_eql rfl rfl) rfl rfl (fun h109 => ?_) (fun h109 => ?_)))
 refine seq_pure (pure_assign rfl) rfl rfl ?_
 refine seq_done (nrm_seq (tri_cond_t rfl ?_))
 refine tri_skip (nrm_seq (tri_cond_t rfl ?_))
 refine tri_region (seq_pure (pure_assign rfl) rfl rfl ?_)
 refine seq_done (nrm_block (nrm_seq (tri_seq (tri_region (seq_load (load_bs rfl rfl (by repeat first | exact mH | apply mT) (by rfl)) rfl rfl ?_)))))
 refine seq_bool (pure_leq rfl rfl) rfl rfl (fun h125 => ?_) (fun h125 => ?_)
 refine seq_pure (pure_move rfl) rfl rfl ?_
 refine seq_pure (pure_move rfl) rfl rfl ?_
 refine seq_pure (pure_fieldAddr0 rfl) rfl rfl ?_
 refine seq_load (load_bs rfl rfl (by repeat first | exact mH | apply mT) (by rfl)) rfl rfl ?_
 refine seq_pure (pure_len rfl rfl) rfl rfl ?_
 refine seq_bool (pure_eql rfl rfl) rfl rfl (fun h131 => ?_) (fun h131 => ?_)
 refine seq_pure (pure_pick_t rfl rfl) rfl rfl ?_
 refine seq_pure (pure_move rfl) rfl rfl ?_
 refine seq_pure (pure_fieldAddr0 rfl) rfl rfl ?_
 refine seq_load (load_bs rfl rfl (by repeat first | exact mH | apply mT) (by rfl)) rfl rfl ?_
 refine seq_pure (pure_makeFunc rfl rfl) rfl rfl ?_
 refine seq_valbo rfl (containsNot_Type _ _ _ _ _ hsl _ [] _ [.blk b4 [.int .i64 d]] (tScan · (d + 1)) ks rfl hA (fun i e he => typeScan_1 _ _ _ _ _ (hsl.all e (List.mem_of_getElem? he)) hd (ih _ (hkl.inv he ty0).1 _ _ _ (by omega) (hkl.inv he ty0).2))) perm_all rfl rfl (fun h137 => ?_) (fun h137 => ?_)
 simp only [Bool.not_eq_true', Bool.not_eq_false'] at h137
 refine seq_pure (pure_not_t rfl) rfl rfl ?_
 refine seq_pure (pure_pick_t rfl rfl) rfl rfl ?_
 refine seq_pure (pure_assign rfl) rfl rfl ?_
 refine seq_done (nrm_seq (tri_ret (ret_fin1 (res_tmp rfl) ?_)))
 exact ⟨rfl, by (rw [tScan, tScanL_all, hA]; have := tyOps_spec k; first | (rw [decide_eq_true (by omega), decide_eq_true (by omega)]; simp only [*]; done) | (rw [decide_eq_true (by omega), decide_eq_true (by omega)]; simp only [*]; rfl) | (rw [decide_eq_false (by omega)]; rfl) | (rw [decide_eq_true (by omega), decide_eq_false (by omega)]; rfl)), rfl⟩
 simp only [Bool.not_eq_true', Bool.not_eq_false'] at h137
 refine seq_pure (pure_not_f rfl) rfl rfl ?_
 refine seq_pure (pure_pick_t rfl rfl) rfl rfl ?_
 refine seq_pure (pure_assign rfl) rfl rfl ?_
 refine seq_done (nrm_seq (tri_ret (ret_fin1 (res_tmp rfl) ?_)))
 exact ⟨rfl, by (rw [tScan, tScanL_all, hA]; have := tyOps_spec k; first | (rw [decide_eq_true (by omega), decide_eq_true (by omega)]; simp only [*]; done) | (rw [decide_eq_true (by omega), decide_eq_true (by omega)]; simp only [*]; rfl) | (rw [decide_eq_false (by omega)]; rfl) | (rw [decide_eq_true (by omega), decide_eq_false (by omega)]; rfl)), rfl⟩
 refine seq_pure (pure_pick_t rfl rfl) rfl rfl ?_
 refine seq_pure (pure_move rfl) rfl rfl ?_
 refine seq_skip rfl rfl ?_
 refine seq_skip rfl rfl ?_
 refine seq_skip rfl rfl ?_
 refine seq_skip rfl rfl ?_
 refine seq_skip rfl rfl ?_
 refine seq_pure (pure_pick_f rfl rfl) rfl rfl ?_
 refine seq_pure (pure_assign rfl) rfl rfl ?_
 refine seq_done (nrm_seq (tri_ret (ret_fin1 (res_tmp rfl) ?_)))
 exact ⟨rfl, by (rw [tScan, tScanL_all, hA]; have := tyOps_spec k; first | (rw [decide_eq_true (by omega), decide_eq_true (by omega)]; simp only [*]; done) | (rw [decide_eq_true (by omega), decide_eq_true (by omega)]; simp only [*]; rfl) | (rw [decide_eq_false (by omega)]; rfl) | (rw [decide_eq_true (by omega), decide_eq_false (by omega)]; rfl)), rfl⟩
 refine seq_pure (pure_move rfl) rfl rfl ?_
 refine seq_skip rfl rfl ?_
 refine seq_skip rfl rfl ?_
 refine seq_skip rfl rfl ?_
 refine seq_skip rfl rfl ?_
 refine seq_skip rfl rfl ?_
 refine seq_pure (pure_pick_f rfl rfl) rfl rfl ?_
 refine seq_pure (pure_move rfl) rfl rfl ?_
 refine seq_skip rfl rfl ?_
 refine seq_skip rfl rfl ?_
 refine seq_skip rfl rfl ?_
 refine seq_skip rfl rfl ?_
 refine seq_skip rfl rfl ?_
 refine seq_pure (pure_pick_f rfl rfl) rfl rfl ?_
 refine seq_pure (pure_assign rfl) rfl rfl ?_
 refine seq_done (nrm_seq (tri_ret (ret_fin1 (res_tmp rfl) ?_)))
 exact ⟨rfl, by (rw [tScan, tScanL_all, hA]; have := tyOps_spec k; first | (rw [decide_eq_true (by omega), decide_eq_true (by omega)]; simp only [*]; done) | (rw [decide_eq_true (by omega), decide_eq_true (by omega)]; simp only [*]; rfl) | (rw [decide_eq_false (by omega)]; rfl) | (rw [decide_eq_true (by omega), decide_eq_false (by omega)]; rfl)), rfl⟩
 refine seq_pure (pure_assign rfl) rfl rfl ?_
 refine seq_done (nrm_seq (tri_cond_f rfl ?_))
 refine tri_region (seq_bool (pure_eql rfl rfl) rfl rfl (fun h193 => ?_) (fun h193 => ?_))
 refine seq_pure (pure_assign rfl) rfl rfl ?_
 refine seq_done (nrm_seq (tri_cond_t rfl ?_))
 refine tri_region (seq_pure (pure_assign rfl) rfl rfl ?_)
 refine seq_done (nrm_block (nrm_seq (tri_seq (tri_region (seq_load (load_bs rfl rfl (by repeat first | exact mH | apply mT) (by rfl)) rfl rfl ?_)))))
 refine seq_bool (pure_leq rfl rfl) rfl rfl (fun h206 => ?_) (fun h206 => ?_)
 refine seq_pure (pure_move rfl) rfl rfl ?_
 refine seq_pure (pure_move rfl) rfl rfl ?_
 refine seq_pure (pure_fieldAddr0 rfl) rfl rfl ?_
 refine seq_load (load_bs rfl rfl (by repeat first | exact mH | apply mT) (by rfl)) rfl rfl ?_
 refine seq_pure (pure_len rfl rfl) rfl rfl ?_
 refine seq_bool (pure_eql rfl rfl) rfl rfl (fun h212 => ?_) (fun h212 => ?_)
 refine seq_pure (pure_pick_t rfl rfl) rfl rfl ?_
 refine seq_pure (pure_move rfl) rfl rfl ?_
 refine seq_pure (pure_fieldAddr0 rfl) rfl rfl ?_
 refine seq_load (load_bs rfl rfl (by repeat first | exact mH | apply mT) (by rfl)) rfl rfl ?_
 refine seq_pure (pure_makeFunc rfl rfl) rfl rfl ?_
 refine seq_valbo rfl (containsNot_Type _ _ _ _ _ hsl _ [] _ [.blk b4 [.int .i64 d]] (tScan · (d + 1)) ks rfl hA (fun i e he => typeScan_1 _ _ _ _ _ (hsl.all e (List.mem_of_getElem? he)) hd (ih _ (hkl.inv he ty0).1 _ _ _ (by omega) (hkl.inv he ty0).2))) perm_all rfl rfl (fun h218 => ?_) (fun h218 => ?_)
 simp only [Bool.not_eq_true', Bool.not_eq_false'] at h218
 refine seq_pure (pure_not_t rfl) rfl rfl ?_
 refine seq_pure (pure_pick_t rfl rfl) rfl rfl ?_
 refine seq_pure (pure_assign rfl) rfl rfl ?_
 refine seq_done (nrm_seq (tri_ret (ret_fin1 (res_tmp rfl) ?_)))
 exact ⟨rfl, by (rw [tScan, tScanL_all, hA]; have := tyOps_spec k; first | (rw [decide_eq_true (by omega), decide_eq_true (by omega)]; simp only [*]; done) | (rw [decide_eq_true (by omega), decide_eq_true (by omega)]; simp only [*]; rfl) | (rw [decide_eq_false (by omega)]; rfl) | (rw [decide_eq_true (by omega), decide_eq_false (by omega)]; rfl)), rfl⟩
 simp only [Bool.not_eq_true', Bool.not_eq_false'] at h218
 refine seq_pure (pure_not_f rfl) rfl rfl ?_
 refine seq_pure (pure_pick_t rfl rfl) rfl rfl ?_
 refine seq_pure (pure_assign rfl) rfl rfl ?_
 refine seq_done (nrm_seq (tri_ret (ret_fin1 (res_tmp rfl) ?_)))
 exact ⟨rfl, by (rw [tScan, tScanL_all, hA]; have := tyOps_spec k; first | (rw [decide_eq_true (by omega), decide_eq_true (by omega)]; simp only [*]; done) | (rw [decide_eq_true (by omega), decide_eq_true (by omega)]; simp only [*]; rfl) | (rw [decide_eq_false (by omega)]; rfl) | (rw [decide_eq_true (by omega), decide_eq_false (by omega)]; rfl)), rfl⟩
 refine seq_pure (pure_pick_t rfl rfl) rfl rfl ?_
 refine seq_pure (pure_move rfl) rfl rfl ?_
 refine seq_skip rfl rfl ?_
 refine seq_skip rfl rfl ?_
 refine seq_skip rfl rfl ?_
 refine seq_skip rfl rfl ?_
 refine seq_skip rfl rfl ?_
 refine seq_pure (pure_pick_f rfl rfl) rfl rfl ?_
 refine seq_pure (pure_assign rfl) rfl rfl ?_
 refine seq_done (nrm_seq (tri_ret (ret_fin1 (res_tmp rfl) ?_)))
 exact ⟨rfl, by (rw [tScan, tScanL_all, hA]; have := tyOps_spec k; first | (rw [decide_eq_true (by omega), decide_eq_true (by omega)]; simp only [*]; done) | (rw [decide_eq_true (by omega), decide_eq_true (by omega)]; simp only [*]; rfl) | (rw [decide_eq_false (by omega)]; rfl) | (rw [decide_eq_true (by omega), decide_eq_false (by omega)]; rfl)), rfl⟩
 refine seq_pure (pure_move rfl) rfl rfl ?_
 refine seq_skip rfl rfl ?_
 refine seq_skip rfl rfl ?_
 refine seq_skip rfl rfl ?_
 refine seq_skip rfl rfl ?_
 refine seq_skip rfl rfl ?_
 refine seq_pure (pure_pick_f rfl rfl) rfl rfl ?_
 refine seq_pure (pure_move rfl) rfl rfl ?_
 refine seq_skip rfl rfl ?_
 refine seq_skip rfl rfl ?_
 refine seq_skip rfl rfl ?_
 refine seq_skip rfl rfl ?_
 refine seq_skip rfl rfl ?_
 refine seq_pure (pure_pick_f rfl rfl) rfl rfl ?_
 refine seq_pure (pure_assign rfl) rfl rfl ?_
 refine seq_done (nrm_seq (tri_ret (ret_fin1 (res_tmp rfl) ?_)))
 exact ⟨rfl, by (rw [tScan, tScanL_all, hA]; have := tyOps_spec k; first | (rw [decide_eq_true (by omega), decide_eq_true (by omega)]; simp only [*]; done) | (rw [decide_eq_true (by omega), decide_eq_true (by omega)]; simp only [*]; rfl) | (rw [decide_eq_false (by omega)]; rfl) | (rw [decide_eq_true (by omega), decide_eq_false (by omega)]; rfl)), rfl⟩
 refine seq_pure (pure_assign rfl) rfl rfl ?_
 refine seq_done (nrm_seq (tri_cond_f rfl ?_))
 refine tri_seq (tri_seq (tri_region (seq_bool (pure_eql rfl rfl) rfl rfl (fun h276 => ?_) (fun h276 => ?_))))
 refine seq_pure (pure_assign rfl) rfl rfl ?_
 refine seq_done (nrm_seq (tri_cond_t rfl ?_))
 refine tri_skip (nrm_seq (tri_cond_t rfl ?_))
 refine tri_region (seq_pure (pure_assign rfl) rfl rfl ?_)
 refine seq_done (nrm_block (nrm_seq (tri_seq (tri_region (seq_load (load_bs rfl rfl (by repeat first | exact mH | apply mT) (by rfl)) rfl rfl ?_)))))
 refine seq_bool (pure_leq rfl rfl) rfl rfl (fun h292 => ?_) (fun h292 => ?_)
 refine seq_pure (pure_move rfl) rfl rfl ?_
 refine seq_pure (pure_move rfl) rfl rfl ?_
 refine seq_pure (pure_fieldAddr0 rfl) rfl rfl ?_
 refine seq_load (load_bs rfl rfl (by repeat first | exact mH | apply mT) (by rfl)) rfl rfl ?_
 refine seq_pure (pure_len rfl rfl) rfl rfl ?_
 refine seq_bool (pure_eql rfl rfl) rfl rfl (fun h298 => ?_) (fun h298 => ?_)
 refine seq_pure (pure_pick_t rfl rfl) rfl rfl ?_
 refine seq_pure (pure_move rfl) rfl rfl ?_
 refine seq_pure (pure_fieldAddr0 rfl) rfl rfl ?_
 refine seq_load (load_bs rfl rfl (by repeat first | exact mH | apply mT) (by rfl)) rfl rfl ?_
 refine seq_pure (pure_makeFunc rfl rfl) rfl rfl ?_
 refine seq_valbo rfl (containsNot_Type _ _ _ _ _ hsl _ [] _ [.blk b4 [.int .i64 d]] (tScan · (d + 1)) ks rfl hA (fun i e he => typeScan_1 _ _ _ _ _ (hsl.all e (List.mem_of_getElem? he)) hd (ih _ (hkl.inv he ty0).1 _ _ _ (by omega) (hkl.inv he ty0).2))) perm_all rfl rfl (fun h304 => ?_) (fun h304 => ?_)
 simp only [Bool.not_eq_true', Bool.not_eq_false'] at h304
 refine seq_pure (pure_not_t rfl) rfl rfl ?_
 refine seq_pure (pure_pick_t rfl rfl) rfl rfl ?_
 refine seq_pure (pure_assign rfl) rfl rfl ?_
 refine seq_done (nrm_seq (tri_ret (ret_fin1 (res_tmp rfl) ?_)))
 exact ⟨rfl, by (rw [tScan, tScanL_all, hA]; have := tyOps_spec k; first | (rw [decide_eq_true (by omega), decide_eq_true (by omega)]; simp only [*]; done) | (rw [decide_eq_true (by omega), decide_eq_true (by omega)]; simp only [*]; rfl) | (rw [decide_eq_false (by omega)]; rfl) | (rw [decide_eq_true (by omega), decide_eq_false (by omega)]; rfl)), rfl⟩
 simp only [Bool.not_eq_true', Bool.not_eq_false'] at h304
 refine seq_pure (pure_not_f rfl) rfl rfl ?_
 refine seq_pure (pure_pick_t rfl rfl) rfl rfl ?_
 refine seq_pure (pure_assign rfl) rfl rfl ?_
 refine seq_done (nrm_seq (tri_ret (ret_fin1 (res_tmp rfl) ?_)))
 exact ⟨rfl, by (rw [tScan, tScanL_all, hA]; have := tyOps_spec k; first | (rw [decide_eq_true (by omega), decide_eq_true (by omega)]; simp only [*]; done) | (rw [decide_eq_true (by omega), decide_eq_true (by omega)]; simp only [*]; rfl) | (rw [decide_eq_false (by omega)]; rfl) | (rw [decide_eq_true (by omega), decide_eq_false (by omega)]; rfl)), rfl⟩
 refine seq_pure (pure_pick_t rfl rfl) rfl rfl ?_
 refine seq_pure (pure_move rfl) rfl rfl ?_
 refine seq_skip rfl rfl ?_
 refine seq_skip rfl rfl ?_
 refine seq_skip rfl rfl ?_
 refine seq_skip rfl rfl ?_
 refine seq_skip rfl rfl ?_
 refine seq_pure (pure_pick_f rfl rfl) rfl rfl ?_
 refine seq_pure (pure_assign rfl) rfl rfl ?_
 refine seq_done (nrm_seq (tri_ret (ret_fin1 (res_tmp rfl) ?_)))
 exact ⟨rfl, by (rw [tScan, tScanL_all, hA]; have := tyOps_spec k; first | (rw [decide_eq_true (by omega), decide_eq_true (by omega)]; simp only [*]; done) | (rw [decide_eq_true (by omega), decide_eq_true (by omega)]; simp only [*]; rfl) | (rw [decide_eq_false (by omega)]; rfl) | (rw [decide_eq_true (by omega), decide_eq_false (by omega)]; rfl)), rfl⟩
 refine seq_pure (pure_move rfl) rfl rfl ?_
 refine seq_skip rfl rfl ?_
 refine seq_skip rfl rfl ?_
 refine seq_skip rfl rfl ?_
 refine seq_skip rfl rfl ?_
 refine seq_skip rfl rfl ?_
 refine seq_pure (pure_pick_f rfl rfl) rfl rfl ?_
 refine seq_pure (pure_move rfl) rfl rfl ?_
 refine seq_skip rfl rfl ?_
 refine seq_skip rfl rfl ?_
 refine seq_skip rfl rfl ?_
 refine seq_skip rfl rfl ?_
 refine seq_skip rfl rfl ?_
 refine seq_pure (pure_pick_f rfl rfl) rfl rfl ?_
 refine seq_pure (pure_assign rfl) rfl rfl ?_
 refine seq_done (nrm_seq (tri_ret (ret_fin1 (res_tmp rfl) ?_)))
 exact ⟨rfl, by (rw [tScan, tScanL_all, hA]; have := tyOps_spec k; first | (rw [decide_eq_true (by omega), decide_eq_true (by omega)]; simp only [*]; done) | (rw [decide_eq_true (by omega), decide_eq_true (by omega)]; simp only [*]; rfl) | (rw [decide_eq_false (by omega)]; rfl) | (rw [decide_eq_true (by omega), decide_eq_false (by omega)]; rfl)), rfl⟩
 refine seq_pure (pure_assign rfl) rfl rfl ?_
 refine seq_done (nrm_seq (tri_cond_f rfl ?_))
 refine tri_region (seq_bool (pure_eql rfl rfl) rfl rfl (fun h360 => ?_) (fun h360 => ?_))
 refine seq_pure (pure_assign rfl) rfl rfl ?_
 refine seq_done (nrm_seq (tri_cond_t rfl ?_))
 refine tri_region (seq_pure (pure_assign rfl) rfl rfl ?_)
 refine seq_done (nrm_block (nrm_seq (tri_seq (tri_region (seq_load (load_bs rfl rfl (by repeat first | exact mH | apply mT) (by rfl)) rfl rfl ?_)))))
 refine seq_bool (pure_leq rfl rfl) rfl rfl (fun h373 => ?_) (fun h373 => ?_)
 refine seq_pure (pure_move rfl) rfl rfl ?_
 refine seq_pure (pure_move rfl) rfl rfl ?_
 refine seq_pure (pure_fieldAddr0 rfl) rfl rfl ?_
 refine seq_load (load_bs rfl rfl (by repeat first | exact mH | apply mT) (by rfl)) rfl rfl ?_
 refine seq_pure (pure_len rfl rfl) rfl rfl ?_
 refine seq_bool (pure_eql rfl rfl) rfl rfl (fun h379 => ?_) (fun h379 => ?_)
 refine seq_pure (pure_pick_t rfl rfl) rfl rfl ?_
 refine seq_pure (pure_move rfl) rfl rfl ?_
 refine seq_pure (pure_fieldAddr0 rfl) rfl rfl ?_
 refine seq_load (load_bs rfl rfl (by repeat first | exact mH | apply mT) (by rfl)) rfl rfl ?_
 refine seq_pure (pure_makeFunc rfl rfl) rfl rfl ?_
 refine seq_valbo rfl (containsNot_Type _ _ _ _ _ hsl _ [] _ [.blk b4 [.int .i64 d]] (tScan · (d + 1)) ks rfl hA (fun i e he => typeScan_1 _ _ _ _ _ (hsl.all e (List.mem_of_getElem? he)) hd (ih _ (hkl.inv he ty0).1 _ _ _ (by omega) (hkl.inv he ty0).2))) perm_all rfl rfl (fun h385 => ?_) (fun h385 => ?_)
 simp only [Bool.not_eq_true', Bool.not_eq_false'] at h385
 refine seq_pure (pure_not_t rfl) rfl rfl ?_
 refine seq_pure (pure_pick_t rfl rfl) rfl rfl ?_
 refine seq_pure (pure_assign rfl) rfl rfl ?_
 refine seq_done (nrm_seq (tri_ret (ret_fin1 (res_tmp rfl) ?_)))
 exact ⟨rfl, by (rw [tScan, tScanL_all, hA]; have := tyOps_spec k; first | (rw [decide_eq_true (by omega), decide_eq_true (by omega)]; simp only [*]; done) | (rw [decide_eq_true (by omega), decide_eq_true (by omega)]; simp only [*]; rfl) | (rw [decide_eq_false (by omega)]; rfl) | (rw [decide_eq_true (by omega), decide_eq_false (by omega)]; rfl)), rfl⟩
 simp only [Bool.not_eq_true', Bool.not_eq_false'] at h385
 refine seq_pure (pure_not_f rfl) rfl rfl ?_
 refine seq_pure (pure_pick_t rfl rfl) rfl rfl ?_
 refine seq_pure (pure_assign rfl) rfl rfl ?_
 refine seq_done (nrm_seq (tri_ret (ret_fin1 (res_tmp rfl) ?_)))
 exact ⟨rfl, by (rw [tScan, tScanL_all, hA]; have := tyOps_spec k; first | (rw [decide_eq_true (by omega), decide_eq_true (by omega)]; simp only [*]; done) | (rw [decide_eq_true (by omega), decide_eq_true (by omega)]; simp only [*]; rfl) | (rw [decide_eq_false (by omega)]; rfl) | (rw [decide_eq_true (by omega), decide_eq_false (by omega)]; rfl)), rfl⟩
 refine seq_pure (pure_pick_t rfl rfl) rfl rfl ?_
 refine seq_pure (pure_move rfl) rfl rfl ?_
 refine seq_skip rfl rfl ?_
 refine seq_skip rfl rfl ?_
 refine seq_skip rfl rfl ?_
 refine seq_skip rfl rfl ?_
 refine seq_skip rfl rfl ?_
 refine seq_pure (pure_pick_f rfl rfl) rfl rfl ?_
 refine seq_pure (pure_assign rfl) rfl rfl ?_
 refine seq_done (nrm_seq (tri_ret (ret_fin1 (res_tmp rfl) ?_)))
 exact ⟨rfl, by (rw [tScan, tScanL_all, hA]; have := tyOps_spec k; first | (rw [decide_eq_true (by omega), decide_eq_true (by omega)]; simp only [*]; done) | (rw [decide_eq_true (by omega), decide_eq_true (by omega)]; simp only [*]; rfl) | (rw [decide_eq_false (by omega)]; rfl) | (rw [decide_eq_true (by omega), decide_eq_false (by omega)]; rfl)), rfl⟩
 refine seq_pure (pure_move rfl) rfl rfl ?_
 refine seq_skip rfl rfl ?_
 refine seq_skip rfl rfl ?_
 refine seq_skip rfl rfl ?_
 refine seq_skip rfl rfl ?_
 refine seq_skip rfl rfl ?_
 refine seq_pure (pure_pick_f rfl rfl) rfl rfl ?_
 refine seq_pure (pure_move rfl) rfl rfl ?_
 refine seq_skip rfl rfl ?_
 refine seq_skip rfl rfl ?_
 refine seq_skip rfl rfl ?_
 refine seq_skip rfl rfl ?_
 refine seq_skip rfl rfl ?_
 refine seq_pure (pure_pick_f rfl rfl) rfl rfl ?_
 refine seq_pure (pure_assign rfl) rfl rfl ?_
 refine seq_done (nrm_seq (tri_ret (ret_fin1 (res_tmp rfl) ?_)))
 exact ⟨rfl, by (rw [tScan, tScanL_all, hA]; have := tyOps_spec k; first | (rw [decide_eq_true (by omega), decide_eq_true (by omega)]; simp only [*]; done) | (rw [decide_eq_true (by omega), decide_eq_true (by omega)]; simp only [*]; rfl) | (rw [decide_eq_false (by omega)]; rfl) | (rw [decide_eq_true (by omega), decide_eq_false (by omega)]; rfl)), rfl⟩
 refine seq_pure (pure_assign rfl) rfl rfl ?_
 refine seq_done (nrm_seq (tri_cond_f rfl ?_))
 refine tri_skip (nrm_block (nrm_seq (tri_seq (tri_region (seq_load (load_bs rfl rfl (by repeat first | exact mH | apply mT) (by rfl)) rfl rfl ?_)))))
 refine seq_bool (pure_leq rfl rfl) rfl rfl (fun h446 => ?_) (fun h446 => ?_)
 refine seq_pure (pure_move rfl) rfl rfl ?_
 refine seq_pure (pure_move rfl) rfl rfl ?_
 refine seq_pure (pure_fieldAddr0 rfl) rfl rfl ?_
 refine seq_load (load_bs rfl rfl (by repeat first | exact mH | apply mT) (by rfl)) rfl rfl ?_
 refine seq_pure (pure_len rfl rfl) rfl rfl ?_
 refine seq_pure (pure_eql_f rfl rfl (by omega)) rfl rfl ?_
 refine seq_pure (pure_pick_t rfl rfl) rfl rfl ?_
 refine seq_pure (pure_move rfl) rfl rfl ?_
 refine seq_skip rfl rfl ?_
 refine seq_skip rfl rfl ?_
 refine seq_skip rfl rfl ?_
 refine seq_skip rfl rfl ?_
 refine seq_skip rfl rfl ?_
 refine seq_pure (pure_pick_f rfl rfl) rfl rfl ?_
 refine seq_pure (pure_assign rfl) rfl rfl ?_
 refine seq_done (nrm_seq (tri_ret (ret_fin1 (res_tmp rfl) ?_)))
 exact ⟨rfl, by (rw [tScan, tScanL_all, hA]; have := tyOps_spec k; first | (rw [decide_eq_true (by omega), decide_eq_true (by omega)]; simp only [*]; done) | (rw [decide_eq_true (by omega), decide_eq_true (by omega)]; simp only [*]; rfl) | (rw [decide_eq_false (by omega)]; rfl) | (rw [decide_eq_true (by omega), decide_eq_false (by omega)]; rfl)), rfl⟩
 refine seq_pure (pure_move rfl) rfl rfl ?_
 refine seq_skip rfl rfl ?_
 refine seq_skip rfl rfl ?_
 refine seq_skip rfl rfl ?_
 refine seq_skip rfl rfl ?_
 refine seq_skip rfl rfl ?_
 refine seq_pure (pure_pick_f rfl rfl) rfl rfl ?_
 refine seq_pure (pure_move rfl) rfl rfl ?_
 refine seq_skip rfl rfl ?_
 refine seq_skip rfl rfl ?_
 refine seq_skip rfl rfl ?_
 refine seq_skip rfl rfl ?_
 refine seq_skip rfl rfl ?_
 refine seq_pure (pure_pick_f rfl rfl) rfl rfl ?_
 refine seq_pure (pure_assign rfl) rfl rfl ?_
 refine seq_done (nrm_seq (tri_ret (ret_fin1 (res_tmp rfl) ?_)))
 exact ⟨rfl, by (rw [tScan, tScanL_all, hA]; have := tyOps_spec k; first | (rw [decide_eq_true (by omega), decide_eq_true (by omega)]; simp only [*]; done) | (rw [decide_eq_true (by omega), decide_eq_true (by omega)]; simp only [*]; rfl) | (rw [decide_eq_false (by omega)]; rfl) | (rw [decide_eq_true (by omega), decide_eq_false (by omega)]; rfl)), rfl⟩
set_option maxRecDepth 100000 in
theorem typeValid_fn (t : Ty) (G : IM) (cells : List Value) (hr : RTy G t cells) : Fn Tryz.prog 70 [.agg ⟨cells⟩] [] G (Val (.bool (tValid t)) G) := by
 have hl := hr.len
 have hv := typeScan_fn t 1 G cells (by omega) hr
 refine fn_enter Tryz.func70 rfl Tryz.ntmps70 Tryz.results70 rfl ?_
 intro w0
 refine tri_seq (tri_region ?_)
 (refine seq_step (step_box_a rfl rfl) rfl ?_; rintro _ ⟨b3, rfl⟩)
 refine seq_pure (pure_assign rfl) rfl rfl ?_
 refine seq_done (nrm_seq (tri_seq (tri_region (seq_load (load_a rfl rfl (at_blk_all (by repeat first | exact mH | apply mT)) (by assumption)) rfl rfl ?_))))
 refine seq_val rfl (hv) rfl rfl ?_
 refine seq_pure (pure_assign rfl) rfl rfl ?_
 refine seq_done (nrm_seq (tri_ret (ret_fin1 (res_tmp rfl) ?_)))
 exact ⟨rfl, rfl, rfl⟩
set_option maxRecDepth 100000 in
theorem consistent_fn : ∀ (t t' : Ty) (G : IM) (cells cells' : List Value), RTy G t cells → RTy G t' cells' →
  Fn Tryz.prog 95 [.agg ⟨cells⟩, .agg ⟨cells'⟩] [] G (Val (.bool (tCons t t')) G) := by
 refine Ty.ind fun k ks ih t' G cells cells' hr hr' => ?_
 obtain ⟨k', ks'⟩ := t'
 obtain ⟨p, c, es, rfl, hk, hsl, hkl⟩ := hr.open
 obtain ⟨p', c', es', rfl, hk', hsl', hkl'⟩ := hr'.open
 simp only [Ty.k, Ty.ks] at hk hsl hkl hk' hsl' hkl' ⊢
 have hn := hsl.le
 have hn' := hsl'.le
 obtain ⟨A, hA⟩ : ∃ A, tConsL ks ks' = A := ⟨_, rfl⟩
 have hA' : A = true ↔ ks.length = ks'.length ∧ ∀ i, i < ks.length → tCons (ks.getD i ty0) (ks'.getD i ty0) = true := by
  rw [← hA, tConsL_iff]
  constructor
  ·rintro ⟨h1, h2⟩
   refine ⟨h1, fun i hi => ?_⟩
   have := h2 i hi (by omega)
   simpa [List.getD_eq_getElem?_getD, List.getElem?_eq_getElem hi, List.getElem?_eq_getElem (show i < ks'.length by omega)] using this
  ·rintro ⟨h1, h2⟩
   refine ⟨h1, fun i hi hi' => ?_⟩
   have := h2 i hi
   simpa [List.getD_eq_getElem?_getD, List.getElem?_eq_getElem hi, List.getElem?_eq_getElem hi'] using this
 refine fn_enter Tryz.func95 rfl Tryz.ntmps95 Tryz.results95 rfl ?_
 intro w0
 refine tri_seq (tri_region ?_)
 (refine seq_step (step_box_a rfl rfl) rfl ?_; rintro _ ⟨b3, rfl⟩)
 (refine seq_step (step_box_a rfl rfl) rfl ?_; rintro _ ⟨b4, rfl⟩)
 refine seq_pure (pure_assign rfl) rfl rfl ?_
 refine seq_done (nrm_seq (tri_seq (tri_region (seq_pure (pure_fieldAddr0 rfl) rfl rfl ?_))))
 refine seq_load (load_bs rfl rfl (by repeat first | exact mH | apply mT) (by rfl)) rfl rfl ?_
 refine seq_bool (pure_eql rfl rfl) rfl rfl (fun h12 => ?_) (fun h12 => ?_)
 refine seq_pure (pure_move rfl) rfl rfl ?_
 refine seq_skip rfl rfl ?_
 refine seq_skip rfl rfl ?_
 refine seq_skip rfl rfl ?_
 refine seq_pure (pure_pick_t rfl rfl) rfl rfl ?_
 refine seq_pure (pure_move rfl) rfl rfl ?_
 refine seq_skip rfl rfl ?_
 refine seq_skip rfl rfl ?_
 refine seq_skip rfl rfl ?_
 refine seq_skip rfl rfl ?_
 refine seq_skip rfl rfl ?_
 refine seq_skip rfl rfl ?_
 refine seq_skip rfl rfl ?_
 refine seq_skip rfl rfl ?_
 refine seq_skip rfl rfl ?_
 refine seq_skip rfl rfl ?_
 refine seq_skip rfl rfl ?_
 refine seq_skip rfl rfl ?_
 refine seq_pure (pure_pick_t rfl rfl) rfl rfl ?_
 refine seq_pure (pure_assign rfl) rfl rfl ?_
 refine seq_done (nrm_seq (tri_ret (ret_fin1 (res_tmp rfl) ?_)))
 exact ⟨rfl, by (rw [tCons_mk, hA]; first | (rw [decide_eq_true (p := k = 1) (by omega)]; rfl) | (rw [decide_eq_false (p := k = 1) (by omega), decide_eq_true (p := k' = 1) (by omega)]; rfl) | (rw [decide_eq_false (p := k = 1) (by omega), decide_eq_false (p := k' = 1) (by omega), decide_eq_false (p := k = k') (by omega)]; rfl) | (rw [decide_eq_false (p := k = 1) (by omega), decide_eq_false (p := k' = 1) (by omega), decide_eq_true (p := k = k') (by omega)]; simp only [*]; rfl)), rfl⟩
 refine seq_pure (pure_move rfl) rfl rfl ?_
 refine seq_pure (pure_fieldAddr0 rfl) rfl rfl ?_
 refine seq_load (load_bs rfl rfl (by repeat first | exact mH | apply mT) (by rfl)) rfl rfl ?_
 refine seq_bool (pure_eql rfl rfl) rfl rfl (fun h41 => ?_) (fun h41 => ?_)
 refine seq_pure (pure_pick_f rfl rfl) rfl rfl ?_
 refine seq_pure (pure_move rfl) rfl rfl ?_
 refine seq_skip rfl rfl ?_
 refine seq_skip rfl rfl ?_
 refine seq_skip rfl rfl ?_
 refine seq_skip rfl rfl ?_
 refine seq_skip rfl rfl ?_
 refine seq_skip rfl rfl ?_
 refine seq_skip rfl rfl ?_
 refine seq_skip rfl rfl ?_
 refine seq_skip rfl rfl ?_
 refine seq_skip rfl rfl ?_
 refine seq_skip rfl rfl ?_
 refine seq_skip rfl rfl ?_
 refine seq_pure (pure_pick_t rfl rfl) rfl rfl ?_
 refine seq_pure (pure_assign rfl) rfl rfl ?_
 refine seq_done (nrm_seq (tri_ret (ret_fin1 (res_tmp rfl) ?_)))
 exact ⟨rfl, by (rw [tCons_mk, hA]; first | (rw [decide_eq_true (p := k = 1) (by omega)]; rfl) | (rw [decide_eq_false (p := k = 1) (by omega), decide_eq_true (p := k' = 1) (by omega)]; rfl) | (rw [decide_eq_false (p := k = 1) (by omega), decide_eq_false (p := k' = 1) (by omega), decide_eq_false (p := k = k') (by omega)]; rfl) | (rw [decide_eq_false (p := k = 1) (by omega), decide_eq_false (p := k' = 1) (by omega), decide_eq_true (p := k = k') (by omega)]; simp only [*]; rfl)), rfl⟩
 refine seq_pure (pure_pick_f rfl rfl) rfl rfl ?_
 refine seq_pure (pure_move rfl) rfl rfl ?_
 refine seq_pure (pure_fieldAddr0 rfl) rfl rfl ?_
 refine seq_load (load_bs rfl rfl (by repeat first | exact mH | apply mT) (by rfl)) rfl rfl ?_
 refine seq_pure (pure_fieldAddr0 rfl) rfl rfl ?_
 refine seq_load (load_bs rfl rfl (by repeat first | exact mH | apply mT) (by rfl)) rfl rfl ?_
 refine seq_bool (pure_eql rfl rfl) rfl rfl (fun h69 => ?_) (fun h69 => ?_)
 refine seq_pure (pure_move rfl) rfl rfl ?_
 refine seq_pure (pure_fieldAddr0 rfl) rfl rfl ?_
 refine seq_load (load_bs rfl rfl (by repeat first | exact mH | apply mT) (by rfl)) rfl rfl ?_
 refine seq_pure (pure_fieldAddr0 rfl) rfl rfl ?_
 refine seq_load (load_bs rfl rfl (by repeat first | exact mH | apply mT) (by rfl)) rfl rfl ?_
 refine seq_valb rfl (equalFunc_Type _ _ _ _ _ _ _ _ _ hsl hsl' _ [] [] [] (fun i => tCons (ks.getD i ty0) (ks'.getD i ty0)) A hA' (fun i e e' he he' => ih _ (hkl.inv he ty0).1 _ _ _ _ (hkl.inv he ty0).2 (hkl'.inv he' ty0).2)) rfl rfl (fun h75 => ?_) (fun h75 => ?_)
 refine seq_pure (pure_pick_t rfl rfl) rfl rfl ?_
 refine seq_pure (pure_pick_f rfl rfl) rfl rfl ?_
 refine seq_pure (pure_assign rfl) rfl rfl ?_
 refine seq_done (nrm_seq (tri_ret (ret_fin1 (res_tmp rfl) ?_)))
 exact ⟨rfl, by (rw [tCons_mk, hA]; first | (rw [decide_eq_true (p := k = 1) (by omega)]; rfl) | (rw [decide_eq_false (p := k = 1) (by omega), decide_eq_true (p := k' = 1) (by omega)]; rfl) | (rw [decide_eq_false (p := k = 1) (by omega), decide_eq_false (p := k' = 1) (by omega), decide_eq_false (p := k = k') (by omega)]; rfl) | (rw [decide_eq_false (p := k = 1) (by omega), decide_eq_false (p := k' = 1) (by omega), decide_eq_true (p := k = k') (by omega)]; simp only [*]; rfl)), rfl⟩
 refine seq_pure (pure_pick_t rfl rfl) rfl rfl ?_
 refine seq_pure (pure_pick_f rfl rfl) rfl rfl ?_
 refine seq_pure (pure_assign rfl) rfl rfl ?_
 refine seq_done (nrm_seq (tri_ret (ret_fin1 (res_tmp rfl) ?_)))
 exact ⟨rfl, by (rw [tCons_mk, hA]; first | (rw [decide_eq_true (p := k = 1) (by omega)]; rfl) | (rw [decide_eq_false (p := k = 1) (by omega), decide_eq_true (p := k' = 1) (by omega)]; rfl) | (rw [decide_eq_false (p := k = 1) (by omega), decide_eq_false (p := k' = 1) (by omega), decide_eq_false (p := k = k') (by omega)]; rfl) | (rw [decide_eq_false (p := k = 1) (by omega), decide_eq_false (p := k' = 1) (by omega), decide_eq_true (p := k = k') (by omega)]; simp only [*]; rfl)), rfl⟩
 refine seq_pure (pure_move rfl) rfl rfl ?_
 refine seq_skip rfl rfl ?_
 refine seq_skip rfl rfl ?_
 refine seq_skip rfl rfl ?_
 refine seq_skip rfl rfl ?_
 refine seq_skip rfl rfl ?_
 refine seq_pure (pure_pick_f rfl rfl) rfl rfl ?_
 refine seq_pure (pure_pick_f rfl rfl) rfl rfl ?_
 refine seq_pure (pure_assign rfl) rfl rfl ?_
 refine seq_done (nrm_seq (tri_ret (ret_fin1 (res_tmp rfl) ?_)))
 exact ⟨rfl, by (rw [tCons_mk, hA]; first | (rw [decide_eq_true (p := k = 1) (by omega)]; rfl) | (rw [decide_eq_false (p := k = 1) (by omega), decide_eq_true (p := k' = 1) (by omega)]; rfl) | (rw [decide_eq_false (p := k = 1) (by omega), decide_eq_false (p := k' = 1) (by omega), decide_eq_false (p := k = k') (by omega)]; rfl) | (rw [decide_eq_false (p := k = 1) (by omega), decide_eq_false (p := k' = 1) (by omega), decide_eq_true (p := k = k') (by omega)]; simp only [*]; rfl)), rfl⟩
set_option maxRecDepth 100000 in
theorem consistentT_fn (t t' : Ty) (G : IM) (cells cells' : List Value) (hr : RTy G t cells) (hr' : RTy G t' cells') :
  Fn Tryz.prog 123 [.agg ⟨cells⟩, .agg ⟨cells'⟩] [] G (Val (.bool (tConsistent t t')) G) := by
 have hl := hr.len
 have hl' := hr'.len
 have hv := typeValid_fn t G cells hr
 have hv' := typeValid_fn t' G cells' hr'
 have hc := consistent_fn t t' G cells cells' hr hr'
 refine fn_enter Tryz.func123 rfl Tryz.ntmps123 Tryz.results123 rfl ?_
 intro w0
 refine tri_seq (tri_region ?_)
 (refine seq_step (step_box_a rfl rfl) rfl ?_; rintro _ ⟨b3, rfl⟩)
 (refine seq_step (step_box_a rfl rfl) rfl ?_; rintro _ ⟨b4, rfl⟩)
 refine seq_pure (pure_assign rfl) rfl rfl ?_
 refine seq_done (nrm_seq (tri_seq (tri_region (seq_load (load_a rfl rfl (at_blk_all (by repeat first | exact mH | apply mT)) (by assumption)) rfl rfl ?_))))
 refine seq_valb rfl (hv) rfl rfl (fun h11 => ?_) (fun h11 => ?_)
 refine seq_pure (pure_move rfl) rfl rfl ?_
 refine seq_load (load_a rfl rfl (at_blk_all (by repeat first | exact mH | apply mT)) (by assumption)) rfl rfl ?_
 refine seq_valb rfl (hv') rfl rfl (fun h14 => ?_) (fun h14 => ?_)
 refine seq_pure (pure_pick_t rfl rfl) rfl rfl ?_
 refine seq_pure (pure_move rfl) rfl rfl ?_
 refine seq_load (load_a rfl rfl (at_blk_all (by repeat first | exact mH | apply mT)) (by assumption)) rfl rfl ?_
 refine seq_load (load_a rfl rfl (at_blk_all (by repeat first | exact mH | apply mT)) (by assumption)) rfl rfl ?_
 refine seq_valb rfl (hc) rfl rfl (fun h19 => ?_) (fun h19 => ?_)
 refine seq_pure (pure_pick_t rfl rfl) rfl rfl ?_
 refine seq_pure (pure_assign rfl) rfl rfl ?_
 refine seq_done (nrm_seq (tri_ret (ret_fin1 (res_tmp rfl) ?_)))
 exact ⟨rfl, by simp only [tConsistent]; simp only [*, Bool.true_and, Bool.false_and, Bool.and_true], rfl⟩
 refine seq_pure (pure_pick_t rfl rfl) rfl rfl ?_
 refine seq_pure (pure_assign rfl) rfl rfl ?_
 refine seq_done (nrm_seq (tri_ret (ret_fin1 (res_tmp rfl) ?_)))
 exact ⟨rfl, by simp only [tConsistent]; simp only [*, Bool.true_and, Bool.false_and, Bool.and_true], rfl⟩
 refine seq_pure (pure_pick_t rfl rfl) rfl rfl ?_
 refine seq_pure (pure_move rfl) rfl rfl ?_
 refine seq_skip rfl rfl ?_
 refine seq_skip rfl rfl ?_
 refine seq_skip rfl rfl ?_
 refine seq_pure (pure_pick_f rfl rfl) rfl rfl ?_
 refine seq_pure (pure_assign rfl) rfl rfl ?_
 refine seq_done (nrm_seq (tri_ret (ret_fin1 (res_tmp rfl) ?_)))
 exact ⟨rfl, by simp only [tConsistent]; simp only [*, Bool.true_and, Bool.false_and, Bool.and_true], rfl⟩
 refine seq_pure (pure_move rfl) rfl rfl ?_
 refine seq_skip rfl rfl ?_
 refine seq_skip rfl rfl ?_
 refine seq_pure (pure_pick_f rfl rfl) rfl rfl ?_
 refine seq_pure (pure_move rfl) rfl rfl ?_
 refine seq_skip rfl rfl ?_
 refine seq_skip rfl rfl ?_
 refine seq_skip rfl rfl ?_
 refine seq_pure (pure_pick_f rfl rfl) rfl rfl ?_
 refine seq_pure (pure_assign rfl) rfl rfl ?_
 refine seq_done (nrm_seq (tri_ret (ret_fin1 (res_tmp rfl) ?_)))
 exact ⟨rfl, by simp only [tConsistent]; simp only [*, Bool.true_and, Bool.false_and, Bool.and_true], rfl⟩
end Gw
end Go.Proofs.YtgclbnfdlddpnaaGreat
namespace Go.Proofs.YtgclbnfdlddpnaaGreat
open Go Go.RowKit
namespace Gw
set_option maxRecDepth 100000 in
theorem operands_fn (k : Int) (G : IM) (hk : I64 k) : Fn Tryz.prog 120 [.int .i64 k] [] G (Val (.int .i64 (tmOps k)) G) := by
 unfold I64 at hk
 refine fn_enter Tryz.func120 rfl Tryz.ntmps120 Tryz.results120 rfl ?_
 intro w0
 refine tri_seq (tri_region (seq_pure (pure_assign rfl) rfl rfl ?_))
 refine seq_done (nrm_seq (tri_seq (tri_seq (tri_region (seq_pure (pure_move rfl) rfl rfl ?_)))))
 refine seq_valb rfl (within_fn _ _ _ _) rfl rfl (fun h10 => ?_) (fun h10 => ?_)
 refine seq_pure (pure_not_t rfl) rfl rfl ?_
 refine seq_done (nrm_seq (tri_cond_f rfl ?_))
 refine tri_skip (nrm_seq (tri_seq (tri_region ?_)))
 (refine seq_step (step_buildSlice rfl rfl rfl (by omega) (by unfold maxLen; omega) rfl) rfl ?_; rintro _ ⟨b19, rfl⟩)
 refine seq_pure (pure_move rfl) rfl rfl ?_
 (have hkk : 1 ≤ k ∧ k ≤ 14 := withinB_t (by assumption); refine seq_pure (pure_sub rfl rfl (by omega) (by omega)) rfl rfl ?_)
 refine seq_pure (pure_indexAddr rfl rfl rfl (by omega) (by omega)) rfl rfl ?_
 refine seq_load (load_s rfl rfl (at_slc (by repeat first | exact mH | apply mT) (one_at (by rw [Nat.zero_add, Nat.mul_one]; exact tmOps_tab hkk)))) rfl rfl ?_
 refine seq_pure (pure_assign rfl) rfl rfl ?_
 refine seq_done (nrm_seq (tri_ret (ret_fin1 (res_tmp rfl) ?_)))
 exact ⟨rfl, rfl, rfl⟩
 refine seq_pure (pure_not_f rfl) rfl rfl ?_
 refine seq_done (nrm_seq (tri_cond_t rfl ?_))
 refine tri_seq (tri_region (seq_pure (pure_assign rfl) rfl rfl ?_))
 refine seq_done (nrm_seq (tri_ret (ret_seq (ret_fin1 (res_tmp rfl) ?_))))
 exact ⟨rfl, by rw [tmOps_no (withinB_f (by assumption))], rfl⟩
set_option maxHeartbeats 0 in
set_option maxRecDepth 100000 in
theorem nodeOk_fn (k : Int) (nm : ByteArray) (num : Int) (ty fr : Ty) (lb : Int) (ks : List Tm) (G : IM) (cells : List Value) (hr : RTm G (.mk k nm num ty fr lb ks) cells) :
  Fn Tryz.prog 88 [.agg ⟨cells⟩] [] G (Val (.bool (tmNode k nm num ty fr lb ks.length)) G) := by
 obtain ⟨tk, tks⟩ := ty
 obtain ⟨fk, fks⟩ := fr
 obtain ⟨pt, ct, pf, cf, p, c, es, rfl, hk, hnum, hlb, hty, hfr, hsl, hkl⟩ := hr.open9
 have hi := @tmNode_iff k nm num (.mk tk tks) (.mk fk fks) lb ks.length
 obtain ⟨R, hR⟩ : ∃ R, tmNode k nm num (.mk tk tks) (.mk fk fks) lb ks.length = R := ⟨_, rfl⟩
 rw [hR] at hi ⊢
 clear hR hr
 have o1 := operands_fn k G hk
 have o2 := isName_fn nm G
 have o3 := typeValid_fn _ G _ hty
 have o4 := isNoType_fn _ G _ hty
 have o5 := consistentT_fn _ _ G _ _ hfr hty
 have o6 := isLabel_fn lb G
 have o7 := isNoType_fn _ G _ hfr
 refine fn_enter Tryz.func88 rfl Tryz.ntmps88 Tryz.results88 rfl ?_
 intro w0
 refine tri_seq (tri_region ?_)
 (refine seq_step (step_box_a rfl rfl) rfl ?_; rintro _ ⟨b3, rfl⟩)
 refine seq_pure (pure_assign rfl) rfl rfl ?_
 refine seq_done (nrm_seq (tri_seq (tri_seq (tri_draw mixed rfl ?_))))
 refine any_pure (i := 0) (listed' := [tt,ff,ff,ff,ff,ff,ff]) rfl npI (pure_fieldAddr0 rfl) rfl (by kernel_rfl) rfl rfl ?_
 refine any_load (i := 1) (listed' := [tt,tt,ff,ff,ff,ff,ff]) rfl npI (load_bs rfl rfl (by repeat first | exact mH | apply mT) (by rfl)) rfl (by kernel_rfl) rfl rfl ?_
 refine any_pure (i := 3) (listed' := [tt,tt,ff,tt,ff,ff,ff]) rfl npI (pure_fieldAddr0 rfl) rfl (by kernel_rfl) rfl rfl ?_
 refine any_load (i := 4) (listed' := [tt,tt,ff,tt,tt,ff,ff]) rfl npI (load_bs rfl rfl (by repeat first | exact mH | apply mT) (by rfl)) rfl (by kernel_rfl) rfl rfl ?_
 refine any_pure (i := 5) (listed' := [tt,tt,ff,tt,tt,tt,ff]) rfl npI (pure_len rfl rfl) rfl (by kernel_rfl) rfl rfl ?_
 refine any_one (j := 2) (by kernel_rfl) ?_
 refine one_val (listed' := [tt,tt,tt,tt,tt,tt,ff]) rfl rfl (o1) rfl rfl rfl ?_
 refine any_bool (i := 6) (listed' := [tt,tt,tt,tt,tt,tt,tt]) rfl npI (pure_neq rfl rfl) rfl (by kernel_rfl) rfl rfl (fun h17 => ?_) (fun h17 => ?_)
 refine any_done (by kernel_rfl) ?_
 refine nrm_seq (tri_cond_t rfl ?_)
 refine tri_seq (tri_region (seq_pure (pure_assign rfl) rfl rfl ?_))
 refine seq_done (nrm_seq (tri_ret (ret_seq (ret_fin1 (res_tmp rfl) ?_))))
 exact ⟨rfl, by (cases R with | false => rfl | true => (exfalso; obtain ⟨i1, i2, i3, i4, i5, i6, i7, i8, i9⟩ := hi.1 rfl; first | omega | (have j := i2 (by omega); simp_all; done) | (have j := i3 (by omega); simp_all; done) | (have j := i4 (by omega); simp_all; done) | (have j := i5 (by omega); simp_all; done) | (have j := i6 (by omega); simp_all; done) | (have j := i7 (by omega); simp_all; done) | (have j := i8 (by omega); simp_all; done) | (have j := i9 (by omega); simp_all; done))), rfl⟩
 refine any_done (by kernel_rfl) ?_
 refine nrm_seq (tri_cond_f rfl ?_)
 refine tri_skip (nrm_seq (tri_seq (tri_region (seq_pure (pure_fieldAddr0 rfl) rfl rfl ?_))))
 refine seq_load (load_bs rfl rfl (by repeat first | exact mH | apply mT) (by rfl)) rfl rfl ?_
 refine seq_bool (pure_eql rfl rfl) rfl rfl (fun h39 => ?_) (fun h39 => ?_)
 refine seq_pure (pure_move rfl) rfl rfl ?_
 refine seq_skip rfl rfl ?_
 refine seq_skip rfl rfl ?_
 refine seq_skip rfl rfl ?_
 refine seq_pure (pure_pick_t rfl rfl) rfl rfl ?_
 refine seq_pure (pure_assign rfl) rfl rfl ?_
 refine seq_done (nrm_seq (tri_seq (tri_region (seq_pure (pure_fieldAddr0 rfl) rfl rfl ?_))))
 refine seq_load (load_bs rfl rfl (by repeat first | exact mH | apply mT) (by rfl)) rfl rfl ?_
 refine seq_pure (pure_eql_f rfl rfl (by omega)) rfl rfl ?_
 refine seq_pure (pure_move rfl) rfl rfl ?_
 refine seq_pure (pure_fieldAddr0 rfl) rfl rfl ?_
 refine seq_load (load_bs rfl rfl (by repeat first | exact mH | apply mT) (by rfl)) rfl rfl ?_
 refine seq_pure (pure_eql_f rfl rfl (by omega)) rfl rfl ?_
 refine seq_pure (pure_pick_f rfl rfl) rfl rfl ?_
 refine seq_pure (pure_move rfl) rfl rfl ?_
 refine seq_pure (pure_fieldAddr0 rfl) rfl rfl ?_
 refine seq_load (load_bs rfl rfl (by repeat first | exact mH | apply mT) (by rfl)) rfl rfl ?_
 refine seq_pure (pure_eql_f rfl rfl (by omega)) rfl rfl ?_
 refine seq_pure (pure_pick_f rfl rfl) rfl rfl ?_
 refine seq_pure (pure_assign rfl) rfl rfl ?_
 refine seq_done (nrm_seq (tri_seq (tri_region (seq_pure (pure_fieldAddr0 rfl) rfl rfl ?_))))
 refine seq_load (load_bs rfl rfl (by repeat first | exact mH | apply mT) (by rfl)) rfl rfl ?_
 refine seq_pure (pure_eql_f rfl rfl (by omega)) rfl rfl ?_
 refine seq_pure (pure_assign rfl) rfl rfl ?_
 refine seq_done (nrm_seq (tri_seq (tri_region (seq_pure (pure_assign rfl) rfl rfl ?_))))
 refine seq_done (nrm_seq (tri_seq (tri_seq (tri_region (seq_pure (pure_fieldAddr0 rfl) rfl rfl ?_)))))
 refine seq_load (load_bs rfl rfl (by repeat first | exact mH | apply mT) (by rfl)) rfl rfl ?_
 refine seq_pure (pure_eql_f rfl rfl (by omega)) rfl rfl ?_
 refine seq_done (nrm_seq (tri_cond_f rfl ?_))
 refine tri_skip (nrm_seq (tri_seq (tri_block (tri_seq (tri_seq (tri_region ?_))))))
 refine seq_pure (pure_move rfl) rfl rfl ?_
 refine seq_pure (pure_move rfl) rfl rfl ?_
 refine seq_pure (pure_fieldAddr0 rfl) rfl rfl ?_
 refine seq_load (load_bs rfl rfl (by repeat first | exact mH | apply mT) (by rfl)) rfl rfl ?_
 refine seq_valb rfl (o2) rfl rfl (fun h99 => ?_) (fun h99 => ?_)
 refine seq_pure (pure_not_t rfl) rfl rfl ?_
 refine seq_pure (pure_pick_t rfl rfl) rfl rfl ?_
 refine seq_pure (pure_assign rfl) rfl rfl ?_
 refine seq_done (nrm_seq (tri_cond_f rfl ?_))
 refine tri_seq (tri_region (seq_pure (pure_move rfl) rfl rfl ?_))
 refine seq_pure (pure_not_t rfl) rfl rfl ?_
 refine seq_pure (pure_move rfl) rfl rfl ?_
 refine seq_skip rfl rfl ?_
 refine seq_skip rfl rfl ?_
 refine seq_skip rfl rfl ?_
 refine seq_pure (pure_pick_f rfl rfl) rfl rfl ?_
 refine seq_pure (pure_assign rfl) rfl rfl ?_
 refine seq_done (nrm_seq (tri_cond_f rfl ?_))
 refine tri_region (seq_pure (pure_fieldAddr0 rfl) rfl rfl ?_)
 refine seq_load (load_bs rfl rfl (by repeat first | exact mH | apply mT) (by rfl)) rfl rfl ?_
 refine seq_pure (pure_move rfl) rfl rfl ?_
 refine seq_valb rfl (within_fn _ _ _ _) rfl rfl (fun h123 => ?_) (fun h123 => ?_)
 refine seq_pure (pure_not_t rfl) rfl rfl ?_
 refine seq_pure (pure_assign rfl) rfl rfl ?_
 refine seq_done (nrm_seq (tri_cond_f rfl ?_))
 refine tri_seq (tri_seq (tri_region (seq_pure (pure_move rfl) rfl rfl ?_)))
 refine seq_pure (pure_move rfl) rfl rfl ?_
 refine seq_skip rfl rfl ?_
 refine seq_skip rfl rfl ?_
 refine seq_skip rfl rfl ?_
 refine seq_skip rfl rfl ?_
 refine seq_pure (pure_pick_f rfl rfl) rfl rfl ?_
 refine seq_pure (pure_assign rfl) rfl rfl ?_
 refine seq_done (nrm_seq (tri_cond_f rfl ?_))
 refine tri_region (seq_pure (pure_move rfl) rfl rfl ?_)
 refine seq_pure (pure_not_f rfl) rfl rfl ?_
 refine seq_pure (pure_move rfl) rfl rfl ?_
 refine seq_pure (pure_fieldAddr0 rfl) rfl rfl ?_
 refine seq_load (load_ba rfl rfl (by repeat first | exact mH | apply mT) (by rfl)) rfl rfl ?_
 refine seq_valb rfl (o4) rfl rfl (fun h149 => ?_) (fun h149 => ?_)
 refine seq_pure (pure_not_t rfl) rfl rfl ?_
 refine seq_pure (pure_pick_t rfl rfl) rfl rfl ?_
 refine seq_pure (pure_assign rfl) rfl rfl ?_
 refine seq_done (nrm_seq (tri_cond_f rfl ?_))
 refine tri_seq (tri_seq (tri_region (seq_pure (pure_move rfl) rfl rfl ?_)))
 refine seq_pure (pure_move rfl) rfl rfl ?_
 refine seq_skip rfl rfl ?_
 refine seq_skip rfl rfl ?_
 refine seq_skip rfl rfl ?_
 refine seq_skip rfl rfl ?_
 refine seq_skip rfl rfl ?_
 refine seq_skip rfl rfl ?_
 refine seq_skip rfl rfl ?_
 refine seq_skip rfl rfl ?_
 refine seq_skip rfl rfl ?_
 refine seq_skip rfl rfl ?_
 refine seq_skip rfl rfl ?_
 refine seq_skip rfl rfl ?_
 refine seq_pure (pure_pick_f rfl rfl) rfl rfl ?_
 refine seq_pure (pure_assign rfl) rfl rfl ?_
 refine seq_done (nrm_seq (tri_cond_f rfl ?_))
 refine tri_region (seq_pure (pure_move rfl) rfl rfl ?_)
 refine seq_pure (pure_not_f rfl) rfl rfl ?_
 refine seq_pure (pure_move rfl) rfl rfl ?_
 refine seq_pure (pure_fieldAddr0 rfl) rfl rfl ?_
 refine seq_load (load_ba rfl rfl (by repeat first | exact mH | apply mT) (by rfl)) rfl rfl ?_
 refine seq_valb rfl (o7) rfl rfl (fun h184 => ?_) (fun h184 => ?_)
 refine seq_pure (pure_not_t rfl) rfl rfl ?_
 refine seq_pure (pure_move rfl) rfl rfl ?_
 refine seq_pure (pure_fieldAddr0 rfl) rfl rfl ?_
 refine seq_load (load_bs rfl rfl (by repeat first | exact mH | apply mT) (by rfl)) rfl rfl ?_
 refine seq_bool (pure_neq rfl rfl) rfl rfl (fun h189 => ?_) (fun h189 => ?_)
 refine seq_pure (pure_pick_f rfl rfl) rfl rfl ?_
 refine seq_pure (pure_pick_t rfl rfl) rfl rfl ?_
 refine seq_pure (pure_assign rfl) rfl rfl ?_
 refine seq_done (nrm_seq (tri_cond_t rfl ?_))
 refine tri_seq (tri_region (seq_pure (pure_assign rfl) rfl rfl ?_))
 refine seq_done (nrm_seq (tri_ret (ret_block (ret_seq (ret_fin1 (res_tmp rfl) ?_)))))
 exact ⟨rfl, by (cases R with | false => rfl | true => (exfalso; obtain ⟨i1, i2, i3, i4, i5, i6, i7, i8, i9⟩ := hi.1 rfl; first | omega | (have j := i2 (by omega); simp_all; done) | (have j := i3 (by omega); simp_all; done) | (have j := i4 (by omega); simp_all; done) | (have j := i5 (by omega); simp_all; done) | (have j := i6 (by omega); simp_all; done) | (have j := i7 (by omega); simp_all; done) | (have j := i8 (by omega); simp_all; done) | (have j := i9 (by omega); simp_all; done))), rfl⟩
 refine seq_pure (pure_pick_f rfl rfl) rfl rfl ?_
 refine seq_pure (pure_pick_t rfl rfl) rfl rfl ?_
 refine seq_pure (pure_assign rfl) rfl rfl ?_
 refine seq_done (nrm_seq (tri_cond_f rfl ?_))
 refine tri_skip (nrm_block (nrm_seq (tri_seq (tri_region (seq_pure (pure_assign rfl) rfl rfl ?_)))))
 refine seq_done (nrm_seq (tri_ret (ret_fin1 (res_tmp rfl) ?_)))
 exact ⟨rfl, by rw [hi.2 ⟨by omega, fun _ => by (first | assumption | (exfalso; omega) | exact Classical.not_not.1 (by assumption)), fun _ => by (first | assumption | (exfalso; omega) | exact Classical.not_not.1 (by assumption)), fun _ => by (first | assumption | (exfalso; omega) | exact Classical.not_not.1 (by assumption)), fun _ => by (first | assumption | (exfalso; omega) | exact Classical.not_not.1 (by assumption)), fun _ => by (first | assumption | (exfalso; omega) | exact Classical.not_not.1 (by assumption)), fun _ => by (first | assumption | (exfalso; omega) | exact Classical.not_not.1 (by assumption)), fun _ => ⟨by (first | assumption | (exfalso; omega)), by (first | assumption | (exfalso; omega))⟩, fun _ => ⟨by (first | assumption | (exfalso; omega)), by (first | assumption | omega)⟩⟩], rfl⟩
 refine seq_pure (pure_not_f rfl) rfl rfl ?_
 refine seq_pure (pure_move rfl) rfl rfl ?_
 refine seq_skip rfl rfl ?_
 refine seq_skip rfl rfl ?_
 refine seq_skip rfl rfl ?_
 refine seq_pure (pure_pick_t rfl rfl) rfl rfl ?_
 refine seq_pure (pure_pick_t rfl rfl) rfl rfl ?_
 refine seq_pure (pure_assign rfl) rfl rfl ?_
 refine seq_done (nrm_seq (tri_cond_t rfl ?_))
 refine tri_seq (tri_region (seq_pure (pure_assign rfl) rfl rfl ?_))
 refine seq_done (nrm_seq (tri_ret (ret_block (ret_seq (ret_fin1 (res_tmp rfl) ?_)))))
 exact ⟨rfl, by (cases R with | false => rfl | true => (exfalso; obtain ⟨i1, i2, i3, i4, i5, i6, i7, i8, i9⟩ := hi.1 rfl; first | omega | (have j := i2 (by omega); simp_all; done) | (have j := i3 (by omega); simp_all; done) | (have j := i4 (by omega); simp_all; done) | (have j := i5 (by omega); simp_all; done) | (have j := i6 (by omega); simp_all; done) | (have j := i7 (by omega); simp_all; done) | (have j := i8 (by omega); simp_all; done) | (have j := i9 (by omega); simp_all; done))), rfl⟩
 refine seq_pure (pure_not_f rfl) rfl rfl ?_
 refine seq_pure (pure_pick_t rfl rfl) rfl rfl ?_
 refine seq_pure (pure_assign rfl) rfl rfl ?_
 refine seq_done (nrm_seq (tri_cond_t rfl ?_))
 refine tri_seq (tri_region (seq_pure (pure_assign rfl) rfl rfl ?_))
 refine seq_done (nrm_seq (tri_ret (ret_block (ret_seq (ret_fin1 (res_tmp rfl) ?_)))))
 exact ⟨rfl, by (cases R with | false => rfl | true => (exfalso; obtain ⟨i1, i2, i3, i4, i5, i6, i7, i8, i9⟩ := hi.1 rfl; first | omega | (have j := i2 (by omega); simp_all; done) | (have j := i3 (by omega); simp_all; done) | (have j := i4 (by omega); simp_all; done) | (have j := i5 (by omega); simp_all; done) | (have j := i6 (by omega); simp_all; done) | (have j := i7 (by omega); simp_all; done) | (have j := i8 (by omega); simp_all; done) | (have j := i9 (by omega); simp_all; done))), rfl⟩
 refine seq_pure (pure_not_f rfl) rfl rfl ?_
 refine seq_pure (pure_assign rfl) rfl rfl ?_
 refine seq_done (nrm_seq (tri_cond_t rfl ?_))
 refine tri_seq (tri_region (seq_pure (pure_assign rfl) rfl rfl ?_))
 refine seq_done (nrm_seq (tri_ret (ret_block (ret_seq (ret_fin1 (res_tmp rfl) ?_)))))
 exact ⟨rfl, by (cases R with | false => rfl | true => (exfalso; obtain ⟨i1, i2, i3, i4, i5, i6, i7, i8, i9⟩ := hi.1 rfl; first | omega | (have j := i2 (by omega); simp_all; done) | (have j := i3 (by omega); simp_all; done) | (have j := i4 (by omega); simp_all; done) | (have j := i5 (by omega); simp_all; done) | (have j := i6 (by omega); simp_all; done) | (have j := i7 (by omega); simp_all; done) | (have j := i8 (by omega); simp_all; done) | (have j := i9 (by omega); simp_all; done))), rfl⟩
 refine seq_pure (pure_not_f rfl) rfl rfl ?_
 refine seq_pure (pure_pick_t rfl rfl) rfl rfl ?_
 refine seq_pure (pure_assign rfl) rfl rfl ?_
 refine seq_done (nrm_seq (tri_cond_t rfl ?_))
 refine tri_skip (nrm_seq (tri_cond_t rfl ?_))
 refine tri_seq (tri_region (seq_pure (pure_assign rfl) rfl rfl ?_))
 refine seq_done (nrm_seq (tri_ret (ret_block (ret_seq (ret_fin1 (res_tmp rfl) ?_)))))
 exact ⟨rfl, by (cases R with | false => rfl | true => (exfalso; obtain ⟨i1, i2, i3, i4, i5, i6, i7, i8, i9⟩ := hi.1 rfl; first | omega | (have j := i2 (by omega); simp_all; done) | (have j := i3 (by omega); simp_all; done) | (have j := i4 (by omega); simp_all; done) | (have j := i5 (by omega); simp_all; done) | (have j := i6 (by omega); simp_all; done) | (have j := i7 (by omega); simp_all; done) | (have j := i8 (by omega); simp_all; done) | (have j := i9 (by omega); simp_all; done))), rfl⟩
 refine seq_pure (pure_move rfl) rfl rfl ?_
 refine seq_pure (pure_fieldAddr0 rfl) rfl rfl ?_
 refine seq_load (load_bs rfl rfl (by repeat first | exact mH | apply mT) (by rfl)) rfl rfl ?_
 refine seq_bool (pure_eql rfl rfl) rfl rfl (fun h297 => ?_) (fun h297 => ?_)
 refine seq_pure (pure_pick_f rfl rfl) rfl rfl ?_
 refine seq_pure (pure_assign rfl) rfl rfl ?_
 refine seq_done (nrm_seq (tri_seq (tri_region (seq_pure (pure_fieldAddr0 rfl) rfl rfl ?_))))
 refine seq_load (load_bs rfl rfl (by repeat first | exact mH | apply mT) (by rfl)) rfl rfl ?_
 refine seq_pure (pure_eql_t rfl rfl (by omega)) rfl rfl ?_
 refine seq_pure (pure_move rfl) rfl rfl ?_
 refine seq_skip rfl rfl ?_
 refine seq_skip rfl rfl ?_
 refine seq_skip rfl rfl ?_
 refine seq_pure (pure_pick_t rfl rfl) rfl rfl ?_
 refine seq_pure (pure_move rfl) rfl rfl ?_
 refine seq_skip rfl rfl ?_
 refine seq_skip rfl rfl ?_
 refine seq_skip rfl rfl ?_
 refine seq_pure (pure_pick_t rfl rfl) rfl rfl ?_
 refine seq_pure (pure_assign rfl) rfl rfl ?_
 refine seq_done (nrm_seq (tri_seq (tri_region (seq_pure (pure_fieldAddr0 rfl) rfl rfl ?_))))
 refine seq_load (load_bs rfl rfl (by repeat first | exact mH | apply mT) (by rfl)) rfl rfl ?_
 refine seq_pure (pure_eql_f rfl rfl (by omega)) rfl rfl ?_
 refine seq_pure (pure_assign rfl) rfl rfl ?_
 refine seq_done (nrm_seq (tri_seq (tri_region (seq_pure (pure_assign rfl) rfl rfl ?_))))
 refine seq_done (nrm_seq (tri_seq (tri_seq (tri_region (seq_pure (pure_fieldAddr0 rfl) rfl rfl ?_)))))
 refine seq_load (load_bs rfl rfl (by repeat first | exact mH | apply mT) (by rfl)) rfl rfl ?_
 refine seq_pure (pure_eql_f rfl rfl (by omega)) rfl rfl ?_
 refine seq_done (nrm_seq (tri_cond_f rfl ?_))
 refine tri_skip (nrm_seq (tri_seq (tri_block (tri_seq (tri_seq (tri_region ?_))))))
 refine seq_pure (pure_move rfl) rfl rfl ?_
 refine seq_pure (pure_move rfl) rfl rfl ?_
 refine seq_pure (pure_fieldAddr0 rfl) rfl rfl ?_
 refine seq_load (load_bs rfl rfl (by repeat first | exact mH | apply mT) (by rfl)) rfl rfl ?_
 refine seq_valb rfl (o2) rfl rfl (fun h353 => ?_) (fun h353 => ?_)
 refine seq_pure (pure_not_t rfl) rfl rfl ?_
 refine seq_pure (pure_pick_t rfl rfl) rfl rfl ?_
 refine seq_pure (pure_assign rfl) rfl rfl ?_
 refine seq_done (nrm_seq (tri_cond_f rfl ?_))
 refine tri_seq (tri_region (seq_pure (pure_move rfl) rfl rfl ?_))
 refine seq_pure (pure_not_t rfl) rfl rfl ?_
 refine seq_pure (pure_move rfl) rfl rfl ?_
 refine seq_skip rfl rfl ?_
 refine seq_skip rfl rfl ?_
 refine seq_skip rfl rfl ?_
 refine seq_pure (pure_pick_f rfl rfl) rfl rfl ?_
 refine seq_pure (pure_assign rfl) rfl rfl ?_
 refine seq_done (nrm_seq (tri_cond_f rfl ?_))
 refine tri_region (seq_pure (pure_fieldAddr0 rfl) rfl rfl ?_)
 refine seq_load (load_bs rfl rfl (by repeat first | exact mH | apply mT) (by rfl)) rfl rfl ?_
 refine seq_pure (pure_move rfl) rfl rfl ?_
 refine seq_valb rfl (within_fn _ _ _ _) rfl rfl (fun h377 => ?_) (fun h377 => ?_)
 refine seq_pure (pure_not_t rfl) rfl rfl ?_
 refine seq_pure (pure_assign rfl) rfl rfl ?_
 refine seq_done (nrm_seq (tri_cond_f rfl ?_))
 refine tri_seq (tri_seq (tri_region (seq_pure (pure_move rfl) rfl rfl ?_)))
 refine seq_pure (pure_move rfl) rfl rfl ?_
 refine seq_pure (pure_fieldAddr0 rfl) rfl rfl ?_
 refine seq_load (load_ba rfl rfl (by repeat first | exact mH | apply mT) (by rfl)) rfl rfl ?_
 refine seq_valb rfl (o3) rfl rfl (fun h390 => ?_) (fun h390 => ?_)
 refine seq_pure (pure_not_t rfl) rfl rfl ?_
 refine seq_pure (pure_pick_t rfl rfl) rfl rfl ?_
 refine seq_pure (pure_assign rfl) rfl rfl ?_
 refine seq_done (nrm_seq (tri_cond_f rfl ?_))
 refine tri_region (seq_pure (pure_move rfl) rfl rfl ?_)
 refine seq_pure (pure_not_t rfl) rfl rfl ?_
 refine seq_pure (pure_move rfl) rfl rfl ?_
 refine seq_skip rfl rfl ?_
 refine seq_skip rfl rfl ?_
 refine seq_skip rfl rfl ?_
 refine seq_skip rfl rfl ?_
 refine seq_pure (pure_pick_f rfl rfl) rfl rfl ?_
 refine seq_pure (pure_assign rfl) rfl rfl ?_
 refine seq_done (nrm_seq (tri_cond_f rfl ?_))
 refine tri_seq (tri_seq (tri_region (seq_pure (pure_move rfl) rfl rfl ?_)))
 refine seq_pure (pure_move rfl) rfl rfl ?_
 refine seq_skip rfl rfl ?_
 refine seq_skip rfl rfl ?_
 refine seq_skip rfl rfl ?_
 refine seq_skip rfl rfl ?_
 refine seq_skip rfl rfl ?_
 refine seq_skip rfl rfl ?_
 refine seq_skip rfl rfl ?_
 refine seq_skip rfl rfl ?_
 refine seq_skip rfl rfl ?_
 refine seq_skip rfl rfl ?_
 refine seq_skip rfl rfl ?_
 refine seq_skip rfl rfl ?_
 refine seq_pure (pure_pick_f rfl rfl) rfl rfl ?_
 refine seq_pure (pure_assign rfl) rfl rfl ?_
 refine seq_done (nrm_seq (tri_cond_f rfl ?_))
 refine tri_region (seq_pure (pure_move rfl) rfl rfl ?_)
 refine seq_pure (pure_not_f rfl) rfl rfl ?_
 refine seq_pure (pure_move rfl) rfl rfl ?_
 refine seq_pure (pure_fieldAddr0 rfl) rfl rfl ?_
 refine seq_load (load_ba rfl rfl (by repeat first | exact mH | apply mT) (by rfl)) rfl rfl ?_
 refine seq_valb rfl (o7) rfl rfl (fun h438 => ?_) (fun h438 => ?_)
 refine seq_pure (pure_not_t rfl) rfl rfl ?_
 refine seq_pure (pure_move rfl) rfl rfl ?_
 refine seq_pure (pure_fieldAddr0 rfl) rfl rfl ?_
 refine seq_load (load_bs rfl rfl (by repeat first | exact mH | apply mT) (by rfl)) rfl rfl ?_
 refine seq_bool (pure_neq rfl rfl) rfl rfl (fun h443 => ?_) (fun h443 => ?_)
 refine seq_pure (pure_pick_f rfl rfl) rfl rfl ?_
 refine seq_pure (pure_pick_t rfl rfl) rfl rfl ?_
 refine seq_pure (pure_assign rfl) rfl rfl ?_
 refine seq_done (nrm_seq (tri_cond_t rfl ?_))
 refine tri_seq (tri_region (seq_pure (pure_assign rfl) rfl rfl ?_))
 refine seq_done (nrm_seq (tri_ret (ret_block (ret_seq (ret_fin1 (res_tmp rfl) ?_)))))
 exact ⟨rfl, by (cases R with | false => rfl | true => (exfalso; obtain ⟨i1, i2, i3, i4, i5, i6, i7, i8, i9⟩ := hi.1 rfl; first | omega | (have j := i2 (by omega); simp_all; done) | (have j := i3 (by omega); simp_all; done) | (have j := i4 (by omega); simp_all; done) | (have j := i5 (by omega); simp_all; done) | (have j := i6 (by omega); simp_all; done) | (have j := i7 (by omega); simp_all; done) | (have j := i8 (by omega); simp_all; done) | (have j := i9 (by omega); simp_all; done))), rfl⟩
 refine seq_pure (pure_pick_f rfl rfl) rfl rfl ?_
 refine seq_pure (pure_pick_t rfl rfl) rfl rfl ?_
 refine seq_pure (pure_assign rfl) rfl rfl ?_
 refine seq_done (nrm_seq (tri_cond_f rfl ?_))
 refine tri_skip (nrm_block (nrm_seq (tri_seq (tri_region (seq_pure (pure_assign rfl) rfl rfl ?_)))))
 refine seq_done (nrm_seq (tri_ret (ret_fin1 (res_tmp rfl) ?_)))
 exact ⟨rfl, by rw [hi.2 ⟨by omega, fun _ => by (first | assumption | (exfalso; omega) | exact Classical.not_not.1 (by assumption)), fun _ => by (first | assumption | (exfalso; omega) | exact Classical.not_not.1 (by assumption)), fun _ => by (first | assumption | (exfalso; omega) | exact Classical.not_not.1 (by assumption)), fun _ => by (first | assumption | (exfalso; omega) | exact Classical.not_not.1 (by assumption)), fun _ => by (first | assumption | (exfalso; omega) | exact Classical.not_not.1 (by assumption)), fun _ => by (first | assumption | (exfalso; omega) | exact Classical.not_not.1 (by assumption)), fun _ => ⟨by (first | assumption | (exfalso; omega)), by (first | assumption | (exfalso; omega))⟩, fun _ => ⟨by (first | assumption | (exfalso; omega)), by (first | assumption | omega)⟩⟩], rfl⟩
 refine seq_pure (pure_not_f rfl) rfl rfl ?_
 refine seq_pure (pure_move rfl) rfl rfl ?_
 refine seq_skip rfl rfl ?_
 refine seq_skip rfl rfl ?_
 refine seq_skip rfl rfl ?_
 refine seq_pure (pure_pick_t rfl rfl) rfl rfl ?_
 refine seq_pure (pure_pick_t rfl rfl) rfl rfl ?_
 refine seq_pure (pure_assign rfl) rfl rfl ?_
 refine seq_done (nrm_seq (tri_cond_t rfl ?_))
 refine tri_seq (tri_region (seq_pure (pure_assign rfl) rfl rfl ?_))
 refine seq_done (nrm_seq (tri_ret (ret_block (ret_seq (ret_fin1 (res_tmp rfl) ?_)))))
 exact ⟨rfl, by (cases R with | false => rfl | true => (exfalso; obtain ⟨i1, i2, i3, i4, i5, i6, i7, i8, i9⟩ := hi.1 rfl; first | omega | (have j := i2 (by omega); simp_all; done) | (have j := i3 (by omega); simp_all; done) | (have j := i4 (by omega); simp_all; done) | (have j := i5 (by omega); simp_all; done) | (have j := i6 (by omega); simp_all; done) | (have j := i7 (by omega); simp_all; done) | (have j := i8 (by omega); simp_all; done) | (have j := i9 (by omega); simp_all; done))), rfl⟩
 refine seq_pure (pure_not_f rfl) rfl rfl ?_
 refine seq_pure (pure_pick_t rfl rfl) rfl rfl ?_
 refine seq_pure (pure_assign rfl) rfl rfl ?_
 refine seq_done (nrm_seq (tri_cond_t rfl ?_))
 refine tri_skip (nrm_seq (tri_cond_t rfl ?_))
 refine tri_seq (tri_region (seq_pure (pure_assign rfl) rfl rfl ?_))
 refine seq_done (nrm_seq (tri_ret (ret_block (ret_seq (ret_fin1 (res_tmp rfl) ?_)))))
 exact ⟨rfl, by (cases R with | false => rfl | true => (exfalso; obtain ⟨i1, i2, i3, i4, i5, i6, i7, i8, i9⟩ := hi.1 rfl; first | omega | (have j := i2 (by omega); simp_all; done) | (have j := i3 (by omega); simp_all; done) | (have j := i4 (by omega); simp_all; done) | (have j := i5 (by omega); simp_all; done) | (have j := i6 (by omega); simp_all; done) | (have j := i7 (by omega); simp_all; done) | (have j := i8 (by omega); simp_all; done) | (have j := i9 (by omega); simp_all; done))), rfl⟩
 refine seq_pure (pure_not_f rfl) rfl rfl ?_
 refine seq_pure (pure_assign rfl) rfl rfl ?_
 refine seq_done (nrm_seq (tri_cond_t rfl ?_))
 refine tri_seq (tri_region (seq_pure (pure_assign rfl) rfl rfl ?_))
 refine seq_done (nrm_seq (tri_ret (ret_block (ret_seq (ret_fin1 (res_tmp rfl) ?_)))))
 exact ⟨rfl, by (cases R with | false => rfl | true => (exfalso; obtain ⟨i1, i2, i3, i4, i5, i6, i7, i8, i9⟩ := hi.1 rfl; first | omega | (have j := i2 (by omega); simp_all; done) | (have j := i3 (by omega); simp_all; done) | (have j := i4 (by omega); simp_all; done) | (have j := i5 (by omega); simp_all; done) | (have j := i6 (by omega); simp_all; done) | (have j := i7 (by omega); simp_all; done) | (have j := i8 (by omega); simp_all; done) | (have j := i9 (by omega); simp_all; done))), rfl⟩
 refine seq_pure (pure_not_f rfl) rfl rfl ?_
 refine seq_pure (pure_pick_t rfl rfl) rfl rfl ?_
 refine seq_pure (pure_assign rfl) rfl rfl ?_
 refine seq_done (nrm_seq (tri_cond_t rfl ?_))
 refine tri_skip (nrm_seq (tri_cond_t rfl ?_))
 refine tri_seq (tri_region (seq_pure (pure_assign rfl) rfl rfl ?_))
 refine seq_done (nrm_seq (tri_ret (ret_block (ret_seq (ret_fin1 (res_tmp rfl) ?_)))))
 exact ⟨rfl, by (cases R with | false => rfl | true => (exfalso; obtain ⟨i1, i2, i3, i4, i5, i6, i7, i8, i9⟩ := hi.1 rfl; first | omega | (have j := i2 (by omega); simp_all; done) | (have j := i3 (by omega); simp_all; done) | (have j := i4 (by omega); simp_all; done) | (have j := i5 (by omega); simp_all; done) | (have j := i6 (by omega); simp_all; done) | (have j := i7 (by omega); simp_all; done) | (have j := i8 (by omega); simp_all; done) | (have j := i9 (by omega); simp_all; done))), rfl⟩
 refine seq_pure (pure_pick_f rfl rfl) rfl rfl ?_
 refine seq_pure (pure_assign rfl) rfl rfl ?_
 refine seq_done (nrm_seq (tri_seq (tri_region (seq_pure (pure_fieldAddr0 rfl) rfl rfl ?_))))
 refine seq_load (load_bs rfl rfl (by repeat first | exact mH | apply mT) (by rfl)) rfl rfl ?_
 refine seq_pure (pure_eql_f rfl rfl (by omega)) rfl rfl ?_
 refine seq_pure (pure_move rfl) rfl rfl ?_
 refine seq_pure (pure_fieldAddr0 rfl) rfl rfl ?_
 refine seq_load (load_bs rfl rfl (by repeat first | exact mH | apply mT) (by rfl)) rfl rfl ?_
 refine seq_bool (pure_eql rfl rfl) rfl rfl (fun h563 => ?_) (fun h563 => ?_)
 refine seq_pure (pure_pick_f rfl rfl) rfl rfl ?_
 refine seq_pure (pure_move rfl) rfl rfl ?_
 refine seq_skip rfl rfl ?_
 refine seq_skip rfl rfl ?_
 refine seq_skip rfl rfl ?_
 refine seq_pure (pure_pick_t rfl rfl) rfl rfl ?_
 refine seq_pure (pure_assign rfl) rfl rfl ?_
 refine seq_done (nrm_seq (tri_seq (tri_region (seq_pure (pure_fieldAddr0 rfl) rfl rfl ?_))))
 refine seq_load (load_bs rfl rfl (by repeat first | exact mH | apply mT) (by rfl)) rfl rfl ?_
 refine seq_pure (pure_eql_f rfl rfl (by omega)) rfl rfl ?_
 refine seq_pure (pure_assign rfl) rfl rfl ?_
 refine seq_done (nrm_seq (tri_seq (tri_region (seq_pure (pure_assign rfl) rfl rfl ?_))))
 refine seq_done (nrm_seq (tri_seq (tri_seq (tri_region (seq_pure (pure_fieldAddr0 rfl) rfl rfl ?_)))))
 refine seq_load (load_bs rfl rfl (by repeat first | exact mH | apply mT) (by rfl)) rfl rfl ?_
 refine seq_pure (pure_eql_f rfl rfl (by omega)) rfl rfl ?_
 refine seq_done (nrm_seq (tri_cond_f rfl ?_))
 refine tri_skip (nrm_seq (tri_seq (tri_block (tri_seq (tri_seq (tri_region ?_))))))
 refine seq_pure (pure_move rfl) rfl rfl ?_
 refine seq_pure (pure_move rfl) rfl rfl ?_
 refine seq_skip rfl rfl ?_
 refine seq_skip rfl rfl ?_
 refine seq_skip rfl rfl ?_
 refine seq_skip rfl rfl ?_
 refine seq_pure (pure_pick_f rfl rfl) rfl rfl ?_
 refine seq_pure (pure_assign rfl) rfl rfl ?_
 refine seq_done (nrm_seq (tri_cond_f rfl ?_))
 refine tri_seq (tri_region (seq_pure (pure_move rfl) rfl rfl ?_))
 refine seq_pure (pure_not_f rfl) rfl rfl ?_
 refine seq_pure (pure_move rfl) rfl rfl ?_
 refine seq_pure (pure_fieldAddr0 rfl) rfl rfl ?_
 refine seq_load (load_bs rfl rfl (by repeat first | exact mH | apply mT) (by rfl)) rfl rfl ?_
 refine seq_bool (pure_sneq rfl rfl) rfl rfl (fun h620 => ?_) (fun h620 => ?_)
 refine seq_pure (pure_pick_t rfl rfl) rfl rfl ?_
 refine seq_pure (pure_assign rfl) rfl rfl ?_
 refine seq_done (nrm_seq (tri_cond_t rfl ?_))
 refine tri_skip (nrm_seq (tri_cond_t rfl ?_))
 refine tri_seq (tri_region (seq_pure (pure_assign rfl) rfl rfl ?_))
 refine seq_done (nrm_seq (tri_ret (ret_block (ret_seq (ret_fin1 (res_tmp rfl) ?_)))))
 exact ⟨rfl, by (cases R with | false => rfl | true => (exfalso; obtain ⟨i1, i2, i3, i4, i5, i6, i7, i8, i9⟩ := hi.1 rfl; first | omega | (have j := i2 (by omega); simp_all; done) | (have j := i3 (by omega); simp_all; done) | (have j := i4 (by omega); simp_all; done) | (have j := i5 (by omega); simp_all; done) | (have j := i6 (by omega); simp_all; done) | (have j := i7 (by omega); simp_all; done) | (have j := i8 (by omega); simp_all; done) | (have j := i9 (by omega); simp_all; done))), rfl⟩
 refine seq_pure (pure_pick_t rfl rfl) rfl rfl ?_
 refine seq_pure (pure_assign rfl) rfl rfl ?_
 refine seq_done (nrm_seq (tri_cond_f rfl ?_))
 refine tri_region (seq_pure (pure_fieldAddr0 rfl) rfl rfl ?_)
 refine seq_load (load_bs rfl rfl (by repeat first | exact mH | apply mT) (by rfl)) rfl rfl ?_
 refine seq_pure (pure_move rfl) rfl rfl ?_
 refine seq_valb rfl (within_fn _ _ _ _) rfl rfl (fun h648 => ?_) (fun h648 => ?_)
 refine seq_pure (pure_not_t rfl) rfl rfl ?_
 refine seq_pure (pure_assign rfl) rfl rfl ?_
 refine seq_done (nrm_seq (tri_cond_f rfl ?_))
 refine tri_seq (tri_seq (tri_region (seq_pure (pure_move rfl) rfl rfl ?_)))
 refine seq_pure (pure_move rfl) rfl rfl ?_
 refine seq_pure (pure_fieldAddr0 rfl) rfl rfl ?_
 refine seq_load (load_ba rfl rfl (by repeat first | exact mH | apply mT) (by rfl)) rfl rfl ?_
 refine seq_valb rfl (o3) rfl rfl (fun h661 => ?_) (fun h661 => ?_)
 refine seq_pure (pure_not_t rfl) rfl rfl ?_
 refine seq_pure (pure_pick_t rfl rfl) rfl rfl ?_
 refine seq_pure (pure_assign rfl) rfl rfl ?_
 refine seq_done (nrm_seq (tri_cond_f rfl ?_))
 refine tri_region (seq_pure (pure_move rfl) rfl rfl ?_)
 refine seq_pure (pure_not_t rfl) rfl rfl ?_
 refine seq_pure (pure_move rfl) rfl rfl ?_
 refine seq_skip rfl rfl ?_
 refine seq_skip rfl rfl ?_
 refine seq_skip rfl rfl ?_
 refine seq_skip rfl rfl ?_
 refine seq_pure (pure_pick_f rfl rfl) rfl rfl ?_
 refine seq_pure (pure_assign rfl) rfl rfl ?_
 refine seq_done (nrm_seq (tri_cond_f rfl ?_))
 refine tri_seq (tri_seq (tri_region (seq_pure (pure_move rfl) rfl rfl ?_)))
 refine seq_pure (pure_move rfl) rfl rfl ?_
 refine seq_skip rfl rfl ?_
 refine seq_skip rfl rfl ?_
 refine seq_skip rfl rfl ?_
 refine seq_skip rfl rfl ?_
 refine seq_skip rfl rfl ?_
 refine seq_skip rfl rfl ?_
 refine seq_skip rfl rfl ?_
 refine seq_skip rfl rfl ?_
 refine seq_skip rfl rfl ?_
 refine seq_skip rfl rfl ?_
 refine seq_skip rfl rfl ?_
 refine seq_skip rfl rfl ?_
 refine seq_pure (pure_pick_f rfl rfl) rfl rfl ?_
 refine seq_pure (pure_assign rfl) rfl rfl ?_
 refine seq_done (nrm_seq (tri_cond_f rfl ?_))
 refine tri_region (seq_pure (pure_move rfl) rfl rfl ?_)
 refine seq_pure (pure_not_f rfl) rfl rfl ?_
 refine seq_pure (pure_move rfl) rfl rfl ?_
 refine seq_pure (pure_fieldAddr0 rfl) rfl rfl ?_
 refine seq_load (load_ba rfl rfl (by repeat first | exact mH | apply mT) (by rfl)) rfl rfl ?_
 refine seq_valb rfl (o7) rfl rfl (fun h709 => ?_) (fun h709 => ?_)
 refine seq_pure (pure_not_t rfl) rfl rfl ?_
 refine seq_pure (pure_move rfl) rfl rfl ?_
 refine seq_pure (pure_fieldAddr0 rfl) rfl rfl ?_
 refine seq_load (load_bs rfl rfl (by repeat first | exact mH | apply mT) (by rfl)) rfl rfl ?_
 refine seq_bool (pure_neq rfl rfl) rfl rfl (fun h714 => ?_) (fun h714 => ?_)
 refine seq_pure (pure_pick_f rfl rfl) rfl rfl ?_
 refine seq_pure (pure_pick_t rfl rfl) rfl rfl ?_
 refine seq_pure (pure_assign rfl) rfl rfl ?_
 refine seq_done (nrm_seq (tri_cond_t rfl ?_))
 refine tri_seq (tri_region (seq_pure (pure_assign rfl) rfl rfl ?_))
 refine seq_done (nrm_seq (tri_ret (ret_block (ret_seq (ret_fin1 (res_tmp rfl) ?_)))))
 exact ⟨rfl, by (cases R with | false => rfl | true => (exfalso; obtain ⟨i1, i2, i3, i4, i5, i6, i7, i8, i9⟩ := hi.1 rfl; first | omega | (have j := i2 (by omega); simp_all; done) | (have j := i3 (by omega); simp_all; done) | (have j := i4 (by omega); simp_all; done) | (have j := i5 (by omega); simp_all; done) | (have j := i6 (by omega); simp_all; done) | (have j := i7 (by omega); simp_all; done) | (have j := i8 (by omega); simp_all; done) | (have j := i9 (by omega); simp_all; done))), rfl⟩
 refine seq_pure (pure_pick_f rfl rfl) rfl rfl ?_
 refine seq_pure (pure_pick_t rfl rfl) rfl rfl ?_
 refine seq_pure (pure_assign rfl) rfl rfl ?_
 refine seq_done (nrm_seq (tri_cond_f rfl ?_))
 refine tri_skip (nrm_block (nrm_seq (tri_seq (tri_region (seq_pure (pure_assign rfl) rfl rfl ?_)))))
 refine seq_done (nrm_seq (tri_ret (ret_fin1 (res_tmp rfl) ?_)))
 exact ⟨rfl, by rw [hi.2 ⟨by omega, fun _ => by (first | assumption | (exfalso; omega) | exact Classical.not_not.1 (by assumption)), fun _ => by (first | assumption | (exfalso; omega) | exact Classical.not_not.1 (by assumption)), fun _ => by (first | assumption | (exfalso; omega) | exact Classical.not_not.1 (by assumption)), fun _ => by (first | assumption | (exfalso; omega) | exact Classical.not_not.1 (by assumption)), fun _ => by (first | assumption | (exfalso; omega) | exact Classical.not_not.1 (by assumption)), fun _ => by (first | assumption | (exfalso; omega) | exact Classical.not_not.1 (by assumption)), fun _ => ⟨by (first | assumption | (exfalso; omega)), by (first | assumption | (exfalso; omega))⟩, fun _ => ⟨by (first | assumption | (exfalso; omega)), by (first | assumption | omega)⟩⟩], rfl⟩
 refine seq_pure (pure_not_f rfl) rfl rfl ?_
 refine seq_pure (pure_move rfl) rfl rfl ?_
 refine seq_skip rfl rfl ?_
 refine seq_skip rfl rfl ?_
 refine seq_skip rfl rfl ?_
 refine seq_pure (pure_pick_t rfl rfl) rfl rfl ?_
 refine seq_pure (pure_pick_t rfl rfl) rfl rfl ?_
 refine seq_pure (pure_assign rfl) rfl rfl ?_
 refine seq_done (nrm_seq (tri_cond_t rfl ?_))
 refine tri_seq (tri_region (seq_pure (pure_assign rfl) rfl rfl ?_))
 refine seq_done (nrm_seq (tri_ret (ret_block (ret_seq (ret_fin1 (res_tmp rfl) ?_)))))
 exact ⟨rfl, by (cases R with | false => rfl | true => (exfalso; obtain ⟨i1, i2, i3, i4, i5, i6, i7, i8, i9⟩ := hi.1 rfl; first | omega | (have j := i2 (by omega); simp_all; done) | (have j := i3 (by omega); simp_all; done) | (have j := i4 (by omega); simp_all; done) | (have j := i5 (by omega); simp_all; done) | (have j := i6 (by omega); simp_all; done) | (have j := i7 (by omega); simp_all; done) | (have j := i8 (by omega); simp_all; done) | (have j := i9 (by omega); simp_all; done))), rfl⟩
 refine seq_pure (pure_not_f rfl) rfl rfl ?_
 refine seq_pure (pure_pick_t rfl rfl) rfl rfl ?_
 refine seq_pure (pure_assign rfl) rfl rfl ?_
 refine seq_done (nrm_seq (tri_cond_t rfl ?_))
 refine tri_skip (nrm_seq (tri_cond_t rfl ?_))
 refine tri_seq (tri_region (seq_pure (pure_assign rfl) rfl rfl ?_))
 refine seq_done (nrm_seq (tri_ret (ret_block (ret_seq (ret_fin1 (res_tmp rfl) ?_)))))
 exact ⟨rfl, by (cases R with | false => rfl | true => (exfalso; obtain ⟨i1, i2, i3, i4, i5, i6, i7, i8, i9⟩ := hi.1 rfl; first | omega | (have j := i2 (by omega); simp_all; done) | (have j := i3 (by omega); simp_all; done) | (have j := i4 (by omega); simp_all; done) | (have j := i5 (by omega); simp_all; done) | (have j := i6 (by omega); simp_all; done) | (have j := i7 (by omega); simp_all; done) | (have j := i8 (by omega); simp_all; done) | (have j := i9 (by omega); simp_all; done))), rfl⟩
 refine seq_pure (pure_not_f rfl) rfl rfl ?_
 refine seq_pure (pure_assign rfl) rfl rfl ?_
 refine seq_done (nrm_seq (tri_cond_t rfl ?_))
 refine tri_seq (tri_region (seq_pure (pure_assign rfl) rfl rfl ?_))
 refine seq_done (nrm_seq (tri_ret (ret_block (ret_seq (ret_fin1 (res_tmp rfl) ?_)))))
 exact ⟨rfl, by (cases R with | false => rfl | true => (exfalso; obtain ⟨i1, i2, i3, i4, i5, i6, i7, i8, i9⟩ := hi.1 rfl; first | omega | (have j := i2 (by omega); simp_all; done) | (have j := i3 (by omega); simp_all; done) | (have j := i4 (by omega); simp_all; done) | (have j := i5 (by omega); simp_all; done) | (have j := i6 (by omega); simp_all; done) | (have j := i7 (by omega); simp_all; done) | (have j := i8 (by omega); simp_all; done) | (have j := i9 (by omega); simp_all; done))), rfl⟩
 refine seq_pure (pure_pick_f rfl rfl) rfl rfl ?_
 refine seq_pure (pure_move rfl) rfl rfl ?_
 refine seq_pure (pure_fieldAddr0 rfl) rfl rfl ?_
 refine seq_load (load_bs rfl rfl (by repeat first | exact mH | apply mT) (by rfl)) rfl rfl ?_
 refine seq_bool (pure_eql rfl rfl) rfl rfl (fun h807 => ?_) (fun h807 => ?_)
 refine seq_pure (pure_pick_f rfl rfl) rfl rfl ?_
 refine seq_pure (pure_assign rfl) rfl rfl ?_
 refine seq_done (nrm_seq (tri_seq (tri_region (seq_pure (pure_fieldAddr0 rfl) rfl rfl ?_))))
 refine seq_load (load_bs rfl rfl (by repeat first | exact mH | apply mT) (by rfl)) rfl rfl ?_
 refine seq_pure (pure_eql_t rfl rfl (by omega)) rfl rfl ?_
 refine seq_pure (pure_assign rfl) rfl rfl ?_
 refine seq_done (nrm_seq (tri_seq (tri_region (seq_pure (pure_assign rfl) rfl rfl ?_))))
 refine seq_done (nrm_seq (tri_seq (tri_seq (tri_region (seq_pure (pure_fieldAddr0 rfl) rfl rfl ?_)))))
 refine seq_load (load_bs rfl rfl (by repeat first | exact mH | apply mT) (by rfl)) rfl rfl ?_
 refine seq_pure (pure_eql_f rfl rfl (by omega)) rfl rfl ?_
 refine seq_done (nrm_seq (tri_cond_f rfl ?_))
 refine tri_skip (nrm_seq (tri_seq (tri_block (tri_seq (tri_seq (tri_region ?_))))))
 refine seq_pure (pure_move rfl) rfl rfl ?_
 refine seq_pure (pure_move rfl) rfl rfl ?_
 refine seq_skip rfl rfl ?_
 refine seq_skip rfl rfl ?_
 refine seq_skip rfl rfl ?_
 refine seq_skip rfl rfl ?_
 refine seq_pure (pure_pick_f rfl rfl) rfl rfl ?_
 refine seq_pure (pure_assign rfl) rfl rfl ?_
 refine seq_done (nrm_seq (tri_cond_f rfl ?_))
 refine tri_seq (tri_region (seq_pure (pure_move rfl) rfl rfl ?_))
 refine seq_pure (pure_not_f rfl) rfl rfl ?_
 refine seq_pure (pure_move rfl) rfl rfl ?_
 refine seq_pure (pure_fieldAddr0 rfl) rfl rfl ?_
 refine seq_load (load_bs rfl rfl (by repeat first | exact mH | apply mT) (by rfl)) rfl rfl ?_
 refine seq_bool (pure_sneq rfl rfl) rfl rfl (fun h859 => ?_) (fun h859 => ?_)
 refine seq_pure (pure_pick_t rfl rfl) rfl rfl ?_
 refine seq_pure (pure_assign rfl) rfl rfl ?_
 refine seq_done (nrm_seq (tri_cond_t rfl ?_))
 refine tri_skip (nrm_seq (tri_cond_t rfl ?_))
 refine tri_seq (tri_region (seq_pure (pure_assign rfl) rfl rfl ?_))
 refine seq_done (nrm_seq (tri_ret (ret_block (ret_seq (ret_fin1 (res_tmp rfl) ?_)))))
 exact ⟨rfl, by (cases R with | false => rfl | true => (exfalso; obtain ⟨i1, i2, i3, i4, i5, i6, i7, i8, i9⟩ := hi.1 rfl; first | omega | (have j := i2 (by omega); simp_all; done) | (have j := i3 (by omega); simp_all; done) | (have j := i4 (by omega); simp_all; done) | (have j := i5 (by omega); simp_all; done) | (have j := i6 (by omega); simp_all; done) | (have j := i7 (by omega); simp_all; done) | (have j := i8 (by omega); simp_all; done) | (have j := i9 (by omega); simp_all; done))), rfl⟩
 refine seq_pure (pure_pick_t rfl rfl) rfl rfl ?_
 refine seq_pure (pure_assign rfl) rfl rfl ?_
 refine seq_done (nrm_seq (tri_cond_f rfl ?_))
 refine tri_region (seq_pure (pure_fieldAddr0 rfl) rfl rfl ?_)
 refine seq_load (load_bs rfl rfl (by repeat first | exact mH | apply mT) (by rfl)) rfl rfl ?_
 refine seq_pure (pure_move rfl) rfl rfl ?_
 refine seq_valb rfl (within_fn _ _ _ _) rfl rfl (fun h887 => ?_) (fun h887 => ?_)
 refine seq_pure (pure_not_t rfl) rfl rfl ?_
 refine seq_pure (pure_assign rfl) rfl rfl ?_
 refine seq_done (nrm_seq (tri_cond_f rfl ?_))
 refine tri_seq (tri_seq (tri_region (seq_pure (pure_move rfl) rfl rfl ?_)))
 refine seq_pure (pure_move rfl) rfl rfl ?_
 refine seq_pure (pure_fieldAddr0 rfl) rfl rfl ?_
 refine seq_load (load_ba rfl rfl (by repeat first | exact mH | apply mT) (by rfl)) rfl rfl ?_
 refine seq_valb rfl (o3) rfl rfl (fun h900 => ?_) (fun h900 => ?_)
 refine seq_pure (pure_not_t rfl) rfl rfl ?_
 refine seq_pure (pure_pick_t rfl rfl) rfl rfl ?_
 refine seq_pure (pure_assign rfl) rfl rfl ?_
 refine seq_done (nrm_seq (tri_cond_f rfl ?_))
 refine tri_region (seq_pure (pure_move rfl) rfl rfl ?_)
 refine seq_pure (pure_not_t rfl) rfl rfl ?_
 refine seq_pure (pure_move rfl) rfl rfl ?_
 refine seq_skip rfl rfl ?_
 refine seq_skip rfl rfl ?_
 refine seq_skip rfl rfl ?_
 refine seq_skip rfl rfl ?_
 refine seq_pure (pure_pick_f rfl rfl) rfl rfl ?_
 refine seq_pure (pure_assign rfl) rfl rfl ?_
 refine seq_done (nrm_seq (tri_cond_f rfl ?_))
 refine tri_seq (tri_seq (tri_region (seq_pure (pure_move rfl) rfl rfl ?_)))
 refine seq_pure (pure_move rfl) rfl rfl ?_
 refine seq_pure (pure_fieldAddr0 rfl) rfl rfl ?_
 refine seq_load (load_ba rfl rfl (by repeat first | exact mH | apply mT) (by rfl)) rfl rfl ?_
 refine seq_pure (pure_fieldAddr0 rfl) rfl rfl ?_
 refine seq_load (load_ba rfl rfl (by repeat first | exact mH | apply mT) (by rfl)) rfl rfl ?_
 refine seq_valb rfl (o5) rfl rfl (fun h929 => ?_) (fun h929 => ?_)
 refine seq_pure (pure_not_t rfl) rfl rfl ?_
 refine seq_pure (pure_move rfl) rfl rfl ?_
 refine seq_pure (pure_fieldAddr0 rfl) rfl rfl ?_
 refine seq_load (load_bs rfl rfl (by repeat first | exact mH | apply mT) (by rfl)) rfl rfl ?_
 refine seq_valb rfl (o6) rfl rfl (fun h934 => ?_) (fun h934 => ?_)
 refine seq_pure (pure_not_t rfl) rfl rfl ?_
 refine seq_pure (pure_pick_f rfl rfl) rfl rfl ?_
 refine seq_pure (pure_pick_t rfl rfl) rfl rfl ?_
 refine seq_pure (pure_assign rfl) rfl rfl ?_
 refine seq_done (nrm_seq (tri_cond_f rfl ?_))
 refine tri_region (seq_pure (pure_move rfl) rfl rfl ?_)
 refine seq_pure (pure_not_t rfl) rfl rfl ?_
 refine seq_pure (pure_move rfl) rfl rfl ?_
 refine seq_skip rfl rfl ?_
 refine seq_skip rfl rfl ?_
 refine seq_skip rfl rfl ?_
 refine seq_skip rfl rfl ?_
 refine seq_skip rfl rfl ?_
 refine seq_skip rfl rfl ?_
 refine seq_skip rfl rfl ?_
 refine seq_skip rfl rfl ?_
 refine seq_skip rfl rfl ?_
 refine seq_pure (pure_pick_f rfl rfl) rfl rfl ?_
 refine seq_pure (pure_assign rfl) rfl rfl ?_
 refine seq_done (nrm_seq (tri_cond_f rfl ?_))
 refine tri_skip (nrm_block (nrm_seq (tri_seq (tri_region (seq_pure (pure_assign rfl) rfl rfl ?_)))))
 refine seq_done (nrm_seq (tri_ret (ret_fin1 (res_tmp rfl) ?_)))
 exact ⟨rfl, by rw [hi.2 ⟨by omega, fun _ => by (first | assumption | (exfalso; omega) | exact Classical.not_not.1 (by assumption)), fun _ => by (first | assumption | (exfalso; omega) | exact Classical.not_not.1 (by assumption)), fun _ => by (first | assumption | (exfalso; omega) | exact Classical.not_not.1 (by assumption)), fun _ => by (first | assumption | (exfalso; omega) | exact Classical.not_not.1 (by assumption)), fun _ => by (first | assumption | (exfalso; omega) | exact Classical.not_not.1 (by assumption)), fun _ => by (first | assumption | (exfalso; omega) | exact Classical.not_not.1 (by assumption)), fun _ => ⟨by (first | assumption | (exfalso; omega)), by (first | assumption | (exfalso; omega))⟩, fun _ => ⟨by (first | assumption | (exfalso; omega)), by (first | assumption | omega)⟩⟩], rfl⟩
 refine seq_pure (pure_not_f rfl) rfl rfl ?_
 refine seq_pure (pure_pick_f rfl rfl) rfl rfl ?_
 refine seq_pure (pure_pick_t rfl rfl) rfl rfl ?_
 refine seq_pure (pure_assign rfl) rfl rfl ?_
 refine seq_done (nrm_seq (tri_cond_t rfl ?_))
 refine tri_skip (nrm_seq (tri_cond_t rfl ?_))
 refine tri_seq (tri_region (seq_pure (pure_assign rfl) rfl rfl ?_))
 refine seq_done (nrm_seq (tri_ret (ret_block (ret_seq (ret_fin1 (res_tmp rfl) ?_)))))
 exact ⟨rfl, by (cases R with | false => rfl | true => (exfalso; obtain ⟨i1, i2, i3, i4, i5, i6, i7, i8, i9⟩ := hi.1 rfl; first | omega | (have j := i2 (by omega); simp_all; done) | (have j := i3 (by omega); simp_all; done) | (have j := i4 (by omega); simp_all; done) | (have j := i5 (by omega); simp_all; done) | (have j := i6 (by omega); simp_all; done) | (have j := i7 (by omega); simp_all; done) | (have j := i8 (by omega); simp_all; done) | (have j := i9 (by omega); simp_all; done))), rfl⟩
 refine seq_pure (pure_not_f rfl) rfl rfl ?_
 refine seq_pure (pure_move rfl) rfl rfl ?_
 refine seq_skip rfl rfl ?_
 refine seq_skip rfl rfl ?_
 refine seq_skip rfl rfl ?_
 refine seq_skip rfl rfl ?_
 refine seq_pure (pure_pick_t rfl rfl) rfl rfl ?_
 refine seq_pure (pure_pick_t rfl rfl) rfl rfl ?_
 refine seq_pure (pure_assign rfl) rfl rfl ?_
 refine seq_done (nrm_seq (tri_cond_t rfl ?_))
 refine tri_skip (nrm_seq (tri_cond_t rfl ?_))
 refine tri_seq (tri_region (seq_pure (pure_assign rfl) rfl rfl ?_))
 refine seq_done (nrm_seq (tri_ret (ret_block (ret_seq (ret_fin1 (res_tmp rfl) ?_)))))
 exact ⟨rfl, by (cases R with | false => rfl | true => (exfalso; obtain ⟨i1, i2, i3, i4, i5, i6, i7, i8, i9⟩ := hi.1 rfl; first | omega | (have j := i2 (by omega); simp_all; done) | (have j := i3 (by omega); simp_all; done) | (have j := i4 (by omega); simp_all; done) | (have j := i5 (by omega); simp_all; done) | (have j := i6 (by omega); simp_all; done) | (have j := i7 (by omega); simp_all; done) | (have j := i8 (by omega); simp_all; done) | (have j := i9 (by omega); simp_all; done))), rfl⟩
 refine seq_pure (pure_not_f rfl) rfl rfl ?_
 refine seq_pure (pure_pick_t rfl rfl) rfl rfl ?_
 refine seq_pure (pure_assign rfl) rfl rfl ?_
 refine seq_done (nrm_seq (tri_cond_t rfl ?_))
 refine tri_skip (nrm_seq (tri_cond_t rfl ?_))
 refine tri_seq (tri_region (seq_pure (pure_assign rfl) rfl rfl ?_))
 refine seq_done (nrm_seq (tri_ret (ret_block (ret_seq (ret_fin1 (res_tmp rfl) ?_)))))
 exact ⟨rfl, by (cases R with | false => rfl | true => (exfalso; obtain ⟨i1, i2, i3, i4, i5, i6, i7, i8, i9⟩ := hi.1 rfl; first | omega | (have j := i2 (by omega); simp_all; done) | (have j := i3 (by omega); simp_all; done) | (have j := i4 (by omega); simp_all; done) | (have j := i5 (by omega); simp_all; done) | (have j := i6 (by omega); simp_all; done) | (have j := i7 (by omega); simp_all; done) | (have j := i8 (by omega); simp_all; done) | (have j := i9 (by omega); simp_all; done))), rfl⟩
 refine seq_pure (pure_not_f rfl) rfl rfl ?_
 refine seq_pure (pure_assign rfl) rfl rfl ?_
 refine seq_done (nrm_seq (tri_cond_t rfl ?_))
 refine tri_seq (tri_region (seq_pure (pure_assign rfl) rfl rfl ?_))
 refine seq_done (nrm_seq (tri_ret (ret_block (ret_seq (ret_fin1 (res_tmp rfl) ?_)))))
 exact ⟨rfl, by (cases R with | false => rfl | true => (exfalso; obtain ⟨i1, i2, i3, i4, i5, i6, i7, i8, i9⟩ := hi.1 rfl; first | omega | (have j := i2 (by omega); simp_all; done) | (have j := i3 (by omega); simp_all; done) | (have j := i4 (by omega); simp_all; done) | (have j := i5 (by omega); simp_all; done) | (have j := i6 (by omega); simp_all; done) | (have j := i7 (by omega); simp_all; done) | (have j := i8 (by omega); simp_all; done) | (have j := i9 (by omega); simp_all; done))), rfl⟩
 refine seq_pure (pure_pick_f rfl rfl) rfl rfl ?_
 refine seq_pure (pure_assign rfl) rfl rfl ?_
 refine seq_done (nrm_seq (tri_seq (tri_region (seq_pure (pure_fieldAddr0 rfl) rfl rfl ?_))))
 refine seq_load (load_bs rfl rfl (by repeat first | exact mH | apply mT) (by rfl)) rfl rfl ?_
 refine seq_pure (pure_eql_f rfl rfl (by omega)) rfl rfl ?_
 refine seq_pure (pure_assign rfl) rfl rfl ?_
 refine seq_done (nrm_seq (tri_seq (tri_region (seq_pure (pure_assign rfl) rfl rfl ?_))))
 refine seq_done (nrm_seq (tri_seq (tri_seq (tri_region (seq_pure (pure_fieldAddr0 rfl) rfl rfl ?_)))))
 refine seq_load (load_bs rfl rfl (by repeat first | exact mH | apply mT) (by rfl)) rfl rfl ?_
 refine seq_bool (pure_eql rfl rfl) rfl rfl (fun h1072 => ?_) (fun h1072 => ?_)
 refine seq_done (nrm_seq (tri_cond_t rfl ?_))
 refine tri_region (seq_pure (pure_assign rfl) rfl rfl ?_)
 refine seq_done (nrm_seq (tri_seq (tri_block (tri_seq (tri_seq (tri_region ?_))))))
 refine seq_pure (pure_move rfl) rfl rfl ?_
 refine seq_pure (pure_move rfl) rfl rfl ?_
 refine seq_skip rfl rfl ?_
 refine seq_skip rfl rfl ?_
 refine seq_skip rfl rfl ?_
 refine seq_skip rfl rfl ?_
 refine seq_pure (pure_pick_f rfl rfl) rfl rfl ?_
 refine seq_pure (pure_assign rfl) rfl rfl ?_
 refine seq_done (nrm_seq (tri_cond_f rfl ?_))
 refine tri_seq (tri_region (seq_pure (pure_move rfl) rfl rfl ?_))
 refine seq_pure (pure_not_f rfl) rfl rfl ?_
 refine seq_pure (pure_move rfl) rfl rfl ?_
 refine seq_pure (pure_fieldAddr0 rfl) rfl rfl ?_
 refine seq_load (load_bs rfl rfl (by repeat first | exact mH | apply mT) (by rfl)) rfl rfl ?_
 refine seq_bool (pure_sneq rfl rfl) rfl rfl (fun h1103 => ?_) (fun h1103 => ?_)
 refine seq_pure (pure_pick_t rfl rfl) rfl rfl ?_
 refine seq_pure (pure_assign rfl) rfl rfl ?_
 refine seq_done (nrm_seq (tri_cond_t rfl ?_))
 refine tri_skip (nrm_seq (tri_cond_t rfl ?_))
 refine tri_seq (tri_region (seq_pure (pure_assign rfl) rfl rfl ?_))
 refine seq_done (nrm_seq (tri_ret (ret_block (ret_seq (ret_fin1 (res_tmp rfl) ?_)))))
 exact ⟨rfl, by (cases R with | false => rfl | true => (exfalso; obtain ⟨i1, i2, i3, i4, i5, i6, i7, i8, i9⟩ := hi.1 rfl; first | omega | (have j := i2 (by omega); simp_all; done) | (have j := i3 (by omega); simp_all; done) | (have j := i4 (by omega); simp_all; done) | (have j := i5 (by omega); simp_all; done) | (have j := i6 (by omega); simp_all; done) | (have j := i7 (by omega); simp_all; done) | (have j := i8 (by omega); simp_all; done) | (have j := i9 (by omega); simp_all; done))), rfl⟩
 refine seq_pure (pure_pick_t rfl rfl) rfl rfl ?_
 refine seq_pure (pure_assign rfl) rfl rfl ?_
 refine seq_done (nrm_seq (tri_cond_f rfl ?_))
 refine tri_region (seq_pure (pure_fieldAddr0 rfl) rfl rfl ?_)
 refine seq_load (load_bs rfl rfl (by repeat first | exact mH | apply mT) (by rfl)) rfl rfl ?_
 refine seq_pure (pure_move rfl) rfl rfl ?_
 refine seq_valb rfl (within_fn _ _ _ _) rfl rfl (fun h1131 => ?_) (fun h1131 => ?_)
 refine seq_pure (pure_not_t rfl) rfl rfl ?_
 refine seq_pure (pure_assign rfl) rfl rfl ?_
 refine seq_done (nrm_seq (tri_cond_f rfl ?_))
 refine tri_seq (tri_seq (tri_region (seq_pure (pure_move rfl) rfl rfl ?_)))
 refine seq_pure (pure_move rfl) rfl rfl ?_
 refine seq_skip rfl rfl ?_
 refine seq_skip rfl rfl ?_
 refine seq_skip rfl rfl ?_
 refine seq_skip rfl rfl ?_
 refine seq_pure (pure_pick_f rfl rfl) rfl rfl ?_
 refine seq_pure (pure_assign rfl) rfl rfl ?_
 refine seq_done (nrm_seq (tri_cond_f rfl ?_))
 refine tri_region (seq_pure (pure_move rfl) rfl rfl ?_)
 refine seq_pure (pure_not_f rfl) rfl rfl ?_
 refine seq_pure (pure_move rfl) rfl rfl ?_
 refine seq_pure (pure_fieldAddr0 rfl) rfl rfl ?_
 refine seq_load (load_ba rfl rfl (by repeat first | exact mH | apply mT) (by rfl)) rfl rfl ?_
 refine seq_valb rfl (o4) rfl rfl (fun h1157 => ?_) (fun h1157 => ?_)
 refine seq_pure (pure_not_t rfl) rfl rfl ?_
 refine seq_pure (pure_pick_t rfl rfl) rfl rfl ?_
 refine seq_pure (pure_assign rfl) rfl rfl ?_
 refine seq_done (nrm_seq (tri_cond_f rfl ?_))
 refine tri_seq (tri_seq (tri_region (seq_pure (pure_move rfl) rfl rfl ?_)))
 refine seq_pure (pure_move rfl) rfl rfl ?_
 refine seq_skip rfl rfl ?_
 refine seq_skip rfl rfl ?_
 refine seq_skip rfl rfl ?_
 refine seq_skip rfl rfl ?_
 refine seq_skip rfl rfl ?_
 refine seq_skip rfl rfl ?_
 refine seq_skip rfl rfl ?_
 refine seq_skip rfl rfl ?_
 refine seq_skip rfl rfl ?_
 refine seq_skip rfl rfl ?_
 refine seq_skip rfl rfl ?_
 refine seq_skip rfl rfl ?_
 refine seq_pure (pure_pick_f rfl rfl) rfl rfl ?_
 refine seq_pure (pure_assign rfl) rfl rfl ?_
 refine seq_done (nrm_seq (tri_cond_f rfl ?_))
 refine tri_region (seq_pure (pure_move rfl) rfl rfl ?_)
 refine seq_pure (pure_not_f rfl) rfl rfl ?_
 refine seq_pure (pure_move rfl) rfl rfl ?_
 refine seq_pure (pure_fieldAddr0 rfl) rfl rfl ?_
 refine seq_load (load_ba rfl rfl (by repeat first | exact mH | apply mT) (by rfl)) rfl rfl ?_
 refine seq_valb rfl (o7) rfl rfl (fun h1192 => ?_) (fun h1192 => ?_)
 refine seq_pure (pure_not_t rfl) rfl rfl ?_
 refine seq_pure (pure_move rfl) rfl rfl ?_
 refine seq_pure (pure_fieldAddr0 rfl) rfl rfl ?_
 refine seq_load (load_bs rfl rfl (by repeat first | exact mH | apply mT) (by rfl)) rfl rfl ?_
 refine seq_bool (pure_neq rfl rfl) rfl rfl (fun h1197 => ?_) (fun h1197 => ?_)
 refine seq_pure (pure_pick_f rfl rfl) rfl rfl ?_
 refine seq_pure (pure_pick_t rfl rfl) rfl rfl ?_
 refine seq_pure (pure_assign rfl) rfl rfl ?_
 refine seq_done (nrm_seq (tri_cond_t rfl ?_))
 refine tri_seq (tri_region (seq_pure (pure_assign rfl) rfl rfl ?_))
 refine seq_done (nrm_seq (tri_ret (ret_block (ret_seq (ret_fin1 (res_tmp rfl) ?_)))))
 exact ⟨rfl, by (cases R with | false => rfl | true => (exfalso; obtain ⟨i1, i2, i3, i4, i5, i6, i7, i8, i9⟩ := hi.1 rfl; first | omega | (have j := i2 (by omega); simp_all; done) | (have j := i3 (by omega); simp_all; done) | (have j := i4 (by omega); simp_all; done) | (have j := i5 (by omega); simp_all; done) | (have j := i6 (by omega); simp_all; done) | (have j := i7 (by omega); simp_all; done) | (have j := i8 (by omega); simp_all; done) | (have j := i9 (by omega); simp_all; done))), rfl⟩
 refine seq_pure (pure_pick_f rfl rfl) rfl rfl ?_
 refine seq_pure (pure_pick_t rfl rfl) rfl rfl ?_
 refine seq_pure (pure_assign rfl) rfl rfl ?_
 refine seq_done (nrm_seq (tri_cond_f rfl ?_))
 refine tri_skip (nrm_block (nrm_seq (tri_seq (tri_region (seq_pure (pure_assign rfl) rfl rfl ?_)))))
 refine seq_done (nrm_seq (tri_ret (ret_fin1 (res_tmp rfl) ?_)))
 exact ⟨rfl, by rw [hi.2 ⟨by omega, fun _ => by (first | assumption | (exfalso; omega) | exact Classical.not_not.1 (by assumption)), fun _ => by (first | assumption | (exfalso; omega) | exact Classical.not_not.1 (by assumption)), fun _ => by (first | assumption | (exfalso; omega) | exact Classical.not_not.1 (by assumption)), fun _ => by (first | assumption | (exfalso; omega) | exact Classical.not_not.1 (by assumption)), fun _ => by (first | assumption | (exfalso; omega) | exact Classical.not_not.1 (by assumption)), fun _ => by (first | assumption | (exfalso; omega) | exact Classical.not_not.1 (by assumption)), fun _ => ⟨by (first | assumption | (exfalso; omega)), by (first | assumption | (exfalso; omega))⟩, fun _ => ⟨by (first | assumption | (exfalso; omega)), by (first | assumption | omega)⟩⟩], rfl⟩
 refine seq_pure (pure_not_f rfl) rfl rfl ?_
 refine seq_pure (pure_move rfl) rfl rfl ?_
 refine seq_skip rfl rfl ?_
 refine seq_skip rfl rfl ?_
 refine seq_skip rfl rfl ?_
 refine seq_pure (pure_pick_t rfl rfl) rfl rfl ?_
 refine seq_pure (pure_pick_t rfl rfl) rfl rfl ?_
 refine seq_pure (pure_assign rfl) rfl rfl ?_
 refine seq_done (nrm_seq (tri_cond_t rfl ?_))
 refine tri_seq (tri_region (seq_pure (pure_assign rfl) rfl rfl ?_))
 refine seq_done (nrm_seq (tri_ret (ret_block (ret_seq (ret_fin1 (res_tmp rfl) ?_)))))
 exact ⟨rfl, by (cases R with | false => rfl | true => (exfalso; obtain ⟨i1, i2, i3, i4, i5, i6, i7, i8, i9⟩ := hi.1 rfl; first | omega | (have j := i2 (by omega); simp_all; done) | (have j := i3 (by omega); simp_all; done) | (have j := i4 (by omega); simp_all; done) | (have j := i5 (by omega); simp_all; done) | (have j := i6 (by omega); simp_all; done) | (have j := i7 (by omega); simp_all; done) | (have j := i8 (by omega); simp_all; done) | (have j := i9 (by omega); simp_all; done))), rfl⟩
 refine seq_pure (pure_not_f rfl) rfl rfl ?_
 refine seq_pure (pure_pick_t rfl rfl) rfl rfl ?_
 refine seq_pure (pure_assign rfl) rfl rfl ?_
 refine seq_done (nrm_seq (tri_cond_t rfl ?_))
 refine tri_seq (tri_region (seq_pure (pure_assign rfl) rfl rfl ?_))
 refine seq_done (nrm_seq (tri_ret (ret_block (ret_seq (ret_fin1 (res_tmp rfl) ?_)))))
 exact ⟨rfl, by (cases R with | false => rfl | true => (exfalso; obtain ⟨i1, i2, i3, i4, i5, i6, i7, i8, i9⟩ := hi.1 rfl; first | omega | (have j := i2 (by omega); simp_all; done) | (have j := i3 (by omega); simp_all; done) | (have j := i4 (by omega); simp_all; done) | (have j := i5 (by omega); simp_all; done) | (have j := i6 (by omega); simp_all; done) | (have j := i7 (by omega); simp_all; done) | (have j := i8 (by omega); simp_all; done) | (have j := i9 (by omega); simp_all; done))), rfl⟩
 refine seq_pure (pure_not_f rfl) rfl rfl ?_
 refine seq_pure (pure_assign rfl) rfl rfl ?_
 refine seq_done (nrm_seq (tri_cond_t rfl ?_))
 refine tri_seq (tri_region (seq_pure (pure_assign rfl) rfl rfl ?_))
 refine seq_done (nrm_seq (tri_ret (ret_block (ret_seq (ret_fin1 (res_tmp rfl) ?_)))))
 exact ⟨rfl, by (cases R with | false => rfl | true => (exfalso; obtain ⟨i1, i2, i3, i4, i5, i6, i7, i8, i9⟩ := hi.1 rfl; first | omega | (have j := i2 (by omega); simp_all; done) | (have j := i3 (by omega); simp_all; done) | (have j := i4 (by omega); simp_all; done) | (have j := i5 (by omega); simp_all; done) | (have j := i6 (by omega); simp_all; done) | (have j := i7 (by omega); simp_all; done) | (have j := i8 (by omega); simp_all; done) | (have j := i9 (by omega); simp_all; done))), rfl⟩
 refine seq_done (nrm_seq (tri_cond_f rfl ?_))
 refine tri_skip (nrm_seq (tri_seq (tri_block (tri_seq (tri_seq (tri_region ?_))))))
 refine seq_pure (pure_move rfl) rfl rfl ?_
 refine seq_pure (pure_move rfl) rfl rfl ?_
 refine seq_skip rfl rfl ?_
 refine seq_skip rfl rfl ?_
 refine seq_skip rfl rfl ?_
 refine seq_skip rfl rfl ?_
 refine seq_pure (pure_pick_f rfl rfl) rfl rfl ?_
 refine seq_pure (pure_assign rfl) rfl rfl ?_
 refine seq_done (nrm_seq (tri_cond_f rfl ?_))
 refine tri_seq (tri_region (seq_pure (pure_move rfl) rfl rfl ?_))
 refine seq_pure (pure_not_f rfl) rfl rfl ?_
 refine seq_pure (pure_move rfl) rfl rfl ?_
 refine seq_pure (pure_fieldAddr0 rfl) rfl rfl ?_
 refine seq_load (load_bs rfl rfl (by repeat first | exact mH | apply mT) (by rfl)) rfl rfl ?_
 refine seq_bool (pure_sneq rfl rfl) rfl rfl (fun h1311 => ?_) (fun h1311 => ?_)
 refine seq_pure (pure_pick_t rfl rfl) rfl rfl ?_
 refine seq_pure (pure_assign rfl) rfl rfl ?_
 refine seq_done (nrm_seq (tri_cond_t rfl ?_))
 refine tri_skip (nrm_seq (tri_cond_t rfl ?_))
 refine tri_seq (tri_region (seq_pure (pure_assign rfl) rfl rfl ?_))
 refine seq_done (nrm_seq (tri_ret (ret_block (ret_seq (ret_fin1 (res_tmp rfl) ?_)))))
 exact ⟨rfl, by (cases R with | false => rfl | true => (exfalso; obtain ⟨i1, i2, i3, i4, i5, i6, i7, i8, i9⟩ := hi.1 rfl; first | omega | (have j := i2 (by omega); simp_all; done) | (have j := i3 (by omega); simp_all; done) | (have j := i4 (by omega); simp_all; done) | (have j := i5 (by omega); simp_all; done) | (have j := i6 (by omega); simp_all; done) | (have j := i7 (by omega); simp_all; done) | (have j := i8 (by omega); simp_all; done) | (have j := i9 (by omega); simp_all; done))), rfl⟩
 refine seq_pure (pure_pick_t rfl rfl) rfl rfl ?_
 refine seq_pure (pure_assign rfl) rfl rfl ?_
 refine seq_done (nrm_seq (tri_cond_f rfl ?_))
 refine tri_region (seq_pure (pure_fieldAddr0 rfl) rfl rfl ?_)
 refine seq_load (load_bs rfl rfl (by repeat first | exact mH | apply mT) (by rfl)) rfl rfl ?_
 refine seq_pure (pure_move rfl) rfl rfl ?_
 refine seq_valb rfl (within_fn _ _ _ _) rfl rfl (fun h1339 => ?_) (fun h1339 => ?_)
 refine seq_pure (pure_not_t rfl) rfl rfl ?_
 refine seq_pure (pure_assign rfl) rfl rfl ?_
 refine seq_done (nrm_seq (tri_cond_f rfl ?_))
 refine tri_seq (tri_seq (tri_region (seq_pure (pure_move rfl) rfl rfl ?_)))
 refine seq_pure (pure_move rfl) rfl rfl ?_
 refine seq_skip rfl rfl ?_
 refine seq_skip rfl rfl ?_
 refine seq_skip rfl rfl ?_
 refine seq_skip rfl rfl ?_
 refine seq_pure (pure_pick_f rfl rfl) rfl rfl ?_
 refine seq_pure (pure_assign rfl) rfl rfl ?_
 refine seq_done (nrm_seq (tri_cond_f rfl ?_))
 refine tri_region (seq_pure (pure_move rfl) rfl rfl ?_)
 refine seq_pure (pure_not_f rfl) rfl rfl ?_
 refine seq_pure (pure_move rfl) rfl rfl ?_
 refine seq_pure (pure_fieldAddr0 rfl) rfl rfl ?_
 refine seq_load (load_ba rfl rfl (by repeat first | exact mH | apply mT) (by rfl)) rfl rfl ?_
 refine seq_valb rfl (o4) rfl rfl (fun h1365 => ?_) (fun h1365 => ?_)
 refine seq_pure (pure_not_t rfl) rfl rfl ?_
 refine seq_pure (pure_pick_t rfl rfl) rfl rfl ?_
 refine seq_pure (pure_assign rfl) rfl rfl ?_
 refine seq_done (nrm_seq (tri_cond_f rfl ?_))
 refine tri_seq (tri_seq (tri_region (seq_pure (pure_move rfl) rfl rfl ?_)))
 refine seq_pure (pure_move rfl) rfl rfl ?_
 refine seq_skip rfl rfl ?_
 refine seq_skip rfl rfl ?_
 refine seq_skip rfl rfl ?_
 refine seq_skip rfl rfl ?_
 refine seq_skip rfl rfl ?_
 refine seq_skip rfl rfl ?_
 refine seq_skip rfl rfl ?_
 refine seq_skip rfl rfl ?_
 refine seq_skip rfl rfl ?_
 refine seq_skip rfl rfl ?_
 refine seq_skip rfl rfl ?_
 refine seq_skip rfl rfl ?_
 refine seq_pure (pure_pick_f rfl rfl) rfl rfl ?_
 refine seq_pure (pure_assign rfl) rfl rfl ?_
 refine seq_done (nrm_seq (tri_cond_f rfl ?_))
 refine tri_region (seq_pure (pure_move rfl) rfl rfl ?_)
 refine seq_pure (pure_not_f rfl) rfl rfl ?_
 refine seq_pure (pure_move rfl) rfl rfl ?_
 refine seq_pure (pure_fieldAddr0 rfl) rfl rfl ?_
 refine seq_load (load_ba rfl rfl (by repeat first | exact mH | apply mT) (by rfl)) rfl rfl ?_
 refine seq_valb rfl (o7) rfl rfl (fun h1400 => ?_) (fun h1400 => ?_)
 refine seq_pure (pure_not_t rfl) rfl rfl ?_
 refine seq_pure (pure_move rfl) rfl rfl ?_
 refine seq_pure (pure_fieldAddr0 rfl) rfl rfl ?_
 refine seq_load (load_bs rfl rfl (by repeat first | exact mH | apply mT) (by rfl)) rfl rfl ?_
 refine seq_bool (pure_neq rfl rfl) rfl rfl (fun h1405 => ?_) (fun h1405 => ?_)
 refine seq_pure (pure_pick_f rfl rfl) rfl rfl ?_
 refine seq_pure (pure_pick_t rfl rfl) rfl rfl ?_
 refine seq_pure (pure_assign rfl) rfl rfl ?_
 refine seq_done (nrm_seq (tri_cond_t rfl ?_))
 refine tri_seq (tri_region (seq_pure (pure_assign rfl) rfl rfl ?_))
 refine seq_done (nrm_seq (tri_ret (ret_block (ret_seq (ret_fin1 (res_tmp rfl) ?_)))))
 exact ⟨rfl, by (cases R with | false => rfl | true => (exfalso; obtain ⟨i1, i2, i3, i4, i5, i6, i7, i8, i9⟩ := hi.1 rfl; first | omega | (have j := i2 (by omega); simp_all; done) | (have j := i3 (by omega); simp_all; done) | (have j := i4 (by omega); simp_all; done) | (have j := i5 (by omega); simp_all; done) | (have j := i6 (by omega); simp_all; done) | (have j := i7 (by omega); simp_all; done) | (have j := i8 (by omega); simp_all; done) | (have j := i9 (by omega); simp_all; done))), rfl⟩
 refine seq_pure (pure_pick_f rfl rfl) rfl rfl ?_
 refine seq_pure (pure_pick_t rfl rfl) rfl rfl ?_
 refine seq_pure (pure_assign rfl) rfl rfl ?_
 refine seq_done (nrm_seq (tri_cond_f rfl ?_))
 refine tri_skip (nrm_block (nrm_seq (tri_seq (tri_region (seq_pure (pure_assign rfl) rfl rfl ?_)))))
 refine seq_done (nrm_seq (tri_ret (ret_fin1 (res_tmp rfl) ?_)))
 exact ⟨rfl, by rw [hi.2 ⟨by omega, fun _ => by (first | assumption | (exfalso; omega) | exact Classical.not_not.1 (by assumption)), fun _ => by (first | assumption | (exfalso; omega) | exact Classical.not_not.1 (by assumption)), fun _ => by (first | assumption | (exfalso; omega) | exact Classical.not_not.1 (by assumption)), fun _ => by (first | assumption | (exfalso; omega) | exact Classical.not_not.1 (by assumption)), fun _ => by (first | assumption | (exfalso; omega) | exact Classical.not_not.1 (by assumption)), fun _ => by (first | assumption | (exfalso; omega) | exact Classical.not_not.1 (by assumption)), fun _ => ⟨by (first | assumption | (exfalso; omega)), by (first | assumption | (exfalso; omega))⟩, fun _ => ⟨by (first | assumption | (exfalso; omega)), by (first | assumption | omega)⟩⟩], rfl⟩
 refine seq_pure (pure_not_f rfl) rfl rfl ?_
 refine seq_pure (pure_move rfl) rfl rfl ?_
 refine seq_skip rfl rfl ?_
 refine seq_skip rfl rfl ?_
 refine seq_skip rfl rfl ?_
 refine seq_pure (pure_pick_t rfl rfl) rfl rfl ?_
 refine seq_pure (pure_pick_t rfl rfl) rfl rfl ?_
 refine seq_pure (pure_assign rfl) rfl rfl ?_
 refine seq_done (nrm_seq (tri_cond_t rfl ?_))
 refine tri_seq (tri_region (seq_pure (pure_assign rfl) rfl rfl ?_))
 refine seq_done (nrm_seq (tri_ret (ret_block (ret_seq (ret_fin1 (res_tmp rfl) ?_)))))
 exact ⟨rfl, by (cases R with | false => rfl | true => (exfalso; obtain ⟨i1, i2, i3, i4, i5, i6, i7, i8, i9⟩ := hi.1 rfl; first | omega | (have j := i2 (by omega); simp_all; done) | (have j := i3 (by omega); simp_all; done) | (have j := i4 (by omega); simp_all; done) | (have j := i5 (by omega); simp_all; done) | (have j := i6 (by omega); simp_all; done) | (have j := i7 (by omega); simp_all; done) | (have j := i8 (by omega); simp_all; done) | (have j := i9 (by omega); simp_all; done))), rfl⟩
 refine seq_pure (pure_not_f rfl) rfl rfl ?_
 refine seq_pure (pure_pick_t rfl rfl) rfl rfl ?_
 refine seq_pure (pure_assign rfl) rfl rfl ?_
 refine seq_done (nrm_seq (tri_cond_t rfl ?_))
 refine tri_seq (tri_region (seq_pure (pure_assign rfl) rfl rfl ?_))
 refine seq_done (nrm_seq (tri_ret (ret_block (ret_seq (ret_fin1 (res_tmp rfl) ?_)))))
 exact ⟨rfl, by (cases R with | false => rfl | true => (exfalso; obtain ⟨i1, i2, i3, i4, i5, i6, i7, i8, i9⟩ := hi.1 rfl; first | omega | (have j := i2 (by omega); simp_all; done) | (have j := i3 (by omega); simp_all; done) | (have j := i4 (by omega); simp_all; done) | (have j := i5 (by omega); simp_all; done) | (have j := i6 (by omega); simp_all; done) | (have j := i7 (by omega); simp_all; done) | (have j := i8 (by omega); simp_all; done) | (have j := i9 (by omega); simp_all; done))), rfl⟩
 refine seq_pure (pure_not_f rfl) rfl rfl ?_
 refine seq_pure (pure_assign rfl) rfl rfl ?_
 refine seq_done (nrm_seq (tri_cond_t rfl ?_))
 refine tri_seq (tri_region (seq_pure (pure_assign rfl) rfl rfl ?_))
 refine seq_done (nrm_seq (tri_ret (ret_block (ret_seq (ret_fin1 (res_tmp rfl) ?_)))))
 exact ⟨rfl, by (cases R with | false => rfl | true => (exfalso; obtain ⟨i1, i2, i3, i4, i5, i6, i7, i8, i9⟩ := hi.1 rfl; first | omega | (have j := i2 (by omega); simp_all; done) | (have j := i3 (by omega); simp_all; done) | (have j := i4 (by omega); simp_all; done) | (have j := i5 (by omega); simp_all; done) | (have j := i6 (by omega); simp_all; done) | (have j := i7 (by omega); simp_all; done) | (have j := i8 (by omega); simp_all; done) | (have j := i9 (by omega); simp_all; done))), rfl⟩
end Gw
end Go.Proofs.YtgclbnfdlddpnaaGreat
namespace Go.Proofs.YtgclbnfdlddpnaaGreat
open Go Go.RowKit
namespace Gw
set_option maxRecDepth 100000 in
theorem scan_fn (M D N : Int) (hM : 0 ≤ M ∧ M ≤ 1000) (hD : 0 ≤ D ∧ D ≤ 1000) (bc : Nat) : ∀ (t : Tm) (deep c : Int) (G : IM) (cells : List Value), 0 ≤ deep ∧ deep ≤ D + 1 → 0 ≤ c ∧ c ≤ M → RTm G t cells →
  Fn Tryz.prog 62 [.agg ⟨cells⟩, .int .i64 deep, .int .i64 M, .int .i64 D, .int .i64 N, .pointer (some ⟨bc, 0, none⟩)] [.blk bc [.int .i64 c]] G
   (ValO (.bool (mScan M D N t deep c).1) [.blk bc [.int .i64 (mScan M D N t deep c).2]] G) := by
 refine Tm.ind fun k nm num ty fr lb ks ih deep c G cells hd hc hr => ?_
 have hno := nodeOk_fn k nm num ty fr lb ks G cells hr
 obtain ⟨tk, tks⟩ := ty
 obtain ⟨fk, fks⟩ := fr
 obtain ⟨pt, ct, pf, cf, p, cp, es, rfl, hk, hnum, hlb, hty, hfr, hsl, hkl⟩ := hr.open9
 have hn := hsl.le
 obtain ⟨R, hR⟩ : ∃ R, tmNode k nm num (.mk tk tks) (.mk fk fks) lb ks.length = R := ⟨_, rfl⟩
 rw [hR] at hno
 refine fn_enter Tryz.func62 rfl Tryz.ntmps62 Tryz.results62 rfl ?_
 intro w0
 refine tri_seq (tri_region ?_)
 (refine seq_step (step_box_a rfl rfl) rfl ?_; rintro _ ⟨b3, rfl⟩)
 refine seq_pure (pure_assign rfl) rfl rfl ?_
 refine seq_done (nrm_seq (tri_seq (tri_region (seq_pure (pure_move rfl) rfl rfl ?_))))
 refine seq_pure (pure_nilCheck rfl) rfl rfl ?_
 refine seq_load (load_bs rfl rfl (by repeat first | exact mH | apply mT) (by rfl)) rfl rfl ?_
 refine seq_pure (pure_add rfl rfl (by omega) (by omega)) rfl rfl ?_
 refine seq_pure (pure_nilCheck rfl) rfl rfl ?_
 refine seq_store rfl rfl rfl rfl rfl rfl (by repeat first | exact Sw.here | apply Sw.there) (by rfl) ?_
 refine seq_done (nrm_seq (tri_seq (tri_seq (tri_region (seq_pure (pure_move rfl) rfl rfl ?_)))))
 refine seq_pure (pure_nilCheck rfl) rfl rfl ?_
 refine seq_load (load_bs rfl rfl (by repeat first | exact mH | apply mT) (by rfl)) rfl rfl ?_
 refine seq_pure (pure_move rfl) rfl rfl ?_
 refine seq_bool (pure_gtr rfl rfl) rfl rfl (fun h24 => ?_) (fun h24 => ?_)
 refine seq_pure (pure_move rfl) rfl rfl ?_
 refine seq_skip rfl rfl ?_
 refine seq_skip rfl rfl ?_
 refine seq_skip rfl rfl ?_
 refine seq_pure (pure_pick_t rfl rfl) rfl rfl ?_
 refine seq_pure (pure_move rfl) rfl rfl ?_
 refine seq_skip rfl rfl ?_
 refine seq_skip rfl rfl ?_
 refine seq_skip rfl rfl ?_
 refine seq_skip rfl rfl ?_
 refine seq_pure (pure_pick_t rfl rfl) rfl rfl ?_
 refine seq_pure (pure_move rfl) rfl rfl ?_
 refine seq_skip rfl rfl ?_
 refine seq_skip rfl rfl ?_
 refine seq_skip rfl rfl ?_
 refine seq_pure (pure_pick_t rfl rfl) rfl rfl ?_
 refine seq_done (nrm_seq (tri_cond_t rfl ?_))
 refine tri_seq (tri_region (seq_pure (pure_assign rfl) rfl rfl ?_))
 refine seq_done (nrm_seq (tri_ret (ret_seq (ret_own1 (outs := [.blk bc [.int .i64 _]]) (res_tmp rfl) (SubH.cons (by repeat (first | exact Pk.here | apply Pk.there)) SubH.nil) ?_))))
 (rw [mScan_no (by rw [hR]; first | omega | exact Or.inr (Or.inr (Or.inr (by assumption)))) ]; exact ⟨rfl, rfl, rfl⟩)
 refine seq_pure (pure_move rfl) rfl rfl ?_
 refine seq_pure (pure_move rfl) rfl rfl ?_
 refine seq_pure (pure_move rfl) rfl rfl ?_
 refine seq_bool (pure_gtr rfl rfl) rfl rfl (fun h56 => ?_) (fun h56 => ?_)
 refine seq_pure (pure_pick_f rfl rfl) rfl rfl ?_
 refine seq_pure (pure_move rfl) rfl rfl ?_
 refine seq_skip rfl rfl ?_
 refine seq_skip rfl rfl ?_
 refine seq_skip rfl rfl ?_
 refine seq_skip rfl rfl ?_
 refine seq_pure (pure_pick_t rfl rfl) rfl rfl ?_
 refine seq_pure (pure_move rfl) rfl rfl ?_
 refine seq_skip rfl rfl ?_
 refine seq_skip rfl rfl ?_
 refine seq_skip rfl rfl ?_
 refine seq_pure (pure_pick_t rfl rfl) rfl rfl ?_
 refine seq_done (nrm_seq (tri_cond_t rfl ?_))
 refine tri_seq (tri_region (seq_pure (pure_assign rfl) rfl rfl ?_))
 refine seq_done (nrm_seq (tri_ret (ret_seq (ret_own1 (outs := [.blk bc [.int .i64 _]]) (res_tmp rfl) (SubH.cons (by repeat (first | exact Pk.here | apply Pk.there)) SubH.nil) ?_))))
 (rw [mScan_no (by rw [hR]; first | omega | exact Or.inr (Or.inr (Or.inr (by assumption)))) ]; exact ⟨rfl, rfl, rfl⟩)
 refine seq_pure (pure_pick_f rfl rfl) rfl rfl ?_
 refine seq_pure (pure_move rfl) rfl rfl ?_
 refine seq_pure (pure_fieldAddr0 rfl) rfl rfl ?_
 refine seq_load (load_bs rfl rfl (by repeat first | exact mH | apply mT) (by rfl)) rfl rfl ?_
 refine seq_pure (pure_move rfl) rfl rfl ?_
 refine seq_bool (pure_eql rfl rfl) rfl rfl (fun h86 => ?_) (fun h86 => ?_)
 refine seq_pure (pure_pick_f rfl rfl) rfl rfl ?_
 refine seq_pure (pure_move rfl) rfl rfl ?_
 refine seq_skip rfl rfl ?_
 refine seq_skip rfl rfl ?_
 refine seq_skip rfl rfl ?_
 refine seq_pure (pure_pick_t rfl rfl) rfl rfl ?_
 refine seq_done (nrm_seq (tri_cond_t rfl ?_))
 refine tri_seq (tri_region (seq_pure (pure_assign rfl) rfl rfl ?_))
 refine seq_done (nrm_seq (tri_ret (ret_seq (ret_own1 (outs := [.blk bc [.int .i64 _]]) (res_tmp rfl) (SubH.cons (by repeat (first | exact Pk.here | apply Pk.there)) SubH.nil) ?_))))
 (rw [mScan_no (by rw [hR]; first | omega | exact Or.inr (Or.inr (Or.inr (by assumption)))) ]; exact ⟨rfl, rfl, rfl⟩)
 refine seq_pure (pure_pick_f rfl rfl) rfl rfl ?_
 refine seq_pure (pure_move rfl) rfl rfl ?_
 refine seq_load (load_ba rfl rfl (by repeat first | exact mH | apply mT) (by rfl)) rfl rfl ?_
 refine seq_valb rfl (hno) rfl rfl (fun h108 => ?_) (fun h108 => ?_)
 refine seq_pure (pure_not_t rfl) rfl rfl ?_
 refine seq_pure (pure_pick_f rfl rfl) rfl rfl ?_
 refine seq_done (nrm_seq (tri_cond_f rfl ?_))
 refine tri_skip (nrm_seq (tri_seq (tri_seq (tri_region (seq_pure (pure_fieldAddr0 rfl) rfl rfl ?_)))))
 refine seq_load (load_bs rfl rfl (by repeat first | exact mH | apply mT) (by rfl)) rfl rfl ?_
 refine seq_pure (pure_len rfl rfl) rfl rfl ?_
 refine seq_pure (pure_move rfl) rfl rfl ?_
 refine seq_done (nrm_seq (tri_block ?_))
 (have hmk := mScan_go (M := M) (D := D) (N := N) (deep := deep) (c := c) (by omega) (hR.trans (by assumption)); refine tri_loopN (fun (x : Nat × Int) => ⟨[(44, .int .i64 x.1), (43, .int .i64 ks.length), (42, .slice p ks.length cp), (5, .pointer (some ⟨bc, 0, none⟩)), (4, .int .i64 N), (3, .int .i64 D), (2, .int .i64 M), (1, .int .i64 deep)], [.blk bc [.int .i64 x.2]], G⟩) (fun x => x.1 ≤ ks.length ∧ 0 ≤ x.2 ∧ x.2 ≤ M ∧ mScanL M D N ks (deep + 1) (c + 1) = mScanL M D N (ks.drop x.1) (deep + 1) x.2) (fun x => ks.length - x.1) (0, c + 1) ?_ ?_ ?_)
 (simp only [flat_snoc]; exact sub_mk (by repeat (first | exact SubE.nil | refine SubE.cons rfl ?_)) (by repeat (first | exact SubH.refl | exact SubH.nil | refine SubH.cons (by repeat (first | exact Pk.here | apply Pk.there)) ?_ | apply SubH.drop)))
 exact ⟨by simp, by simp; omega, by simp; omega, by simp⟩
 (rintro ⟨i, ci⟩ ⟨hi, hc0, hc1, hst⟩; simp only [] at hi hc0 hc1 hst ⊢)
 refine tri_seq (tri_region (seq_bool (pure_lss rfl rfl) rfl rfl (fun h132 => ?_) (fun h132 => ?_)))
 refine seq_done (nrm_seq (tri_seq (tri_cond_t rfl ?_)))
 refine tri_skip (nrm_seq (tri_seq (tri_block (tri_seq (tri_region ?_)))))
 (obtain ⟨b, o, e, rfl, hl, hat, hre, hgb⟩ := hsl.kidTm hkl (i := i) (by omega) (by omega); have hone := hre.one; have hle := mScan_le M D N ks[i] (deep + 1) ci hc0 hc1; refine seq_pure (pure_indexAddrN rfl rfl rfl (by omega)) rfl rfl ?_)
 refine seq_load (load_a rfl rfl (hat _) hl) rfl rfl ?_
 (refine seq_step (step_alloc rfl) rfl ?_; rintro _ ⟨b145, rfl⟩)
 refine seq_store rfl rfl rfl (by assumption) (by assumption) rfl (by repeat first | exact Sw.here | apply Sw.there) (by exact upd_all (by symm; assumption)) ?_
 refine seq_done (nrm_seq (tri_seq (tri_region (seq_load (load_a rfl rfl (at_blk_all (by repeat first | exact mH | apply mT)) (by assumption)) rfl rfl ?_))))
 refine seq_pure (pure_move rfl) rfl rfl ?_
 refine seq_pure (pure_add rfl rfl (by omega) (by omega)) rfl rfl ?_
 refine seq_pure (pure_move rfl) rfl rfl ?_
 refine seq_pure (pure_move rfl) rfl rfl ?_
 refine seq_pure (pure_move rfl) rfl rfl ?_
 refine seq_pure (pure_move rfl) rfl rfl ?_
 refine seq_valbx rfl (ih ks[i] (List.getElem_mem _) (deep + 1) ci G e (by omega) (by omega) hre) (Pk.perm (by repeat (first | exact Pk.here | apply Pk.there))) rfl rfl (fun h158 => ?_) (fun h158 => ?_)
 refine seq_pure (pure_not_t rfl) rfl rfl ?_
 refine seq_done (nrm_seq (tri_cond_f rfl ?_))
 refine tri_skip (nrm_block (nrm_seq (tri_region (seq_pure (pure_add rfl rfl (by omega) (by omega)) rfl rfl ?_))))
 refine seq_pure (pure_move rfl) rfl rfl ?_
 refine seq_done (nrm_loopN (i + 1, (mScan M D N ks[i] (deep + 1) ci).2) ?_ ?_ ?_)
 (simp only [flat_snoc]; exact sub_mk (by repeat (first | exact SubE.nil | refine SubE.cons rfl ?_)) (by repeat (first | exact SubH.refl | exact SubH.nil | refine SubH.cons (by repeat (first | exact Pk.here | apply Pk.there)) ?_ | apply SubH.drop)))
 exact ⟨by omega, by omega, hle.2.2 (by assumption), by rw [hst, mScanL_t (by omega) (by assumption)]⟩
 (show ks.length - (i + 1) < ks.length - i; omega)
 refine seq_pure (pure_not_f rfl) rfl rfl ?_
 refine seq_done (nrm_seq (tri_cond_t rfl ?_))
 refine tri_seq (tri_region (seq_pure (pure_assign rfl) rfl rfl ?_))
 refine seq_done (nrm_seq (tri_ret (ret_block (ret_seq (ret_loopN (ret_block ?_))))))
 refine ret_seq (ret_own1 (outs := [.blk bc [.int .i64 _]]) (res_tmp rfl) (SubH.cons (by repeat (first | exact Pk.here | apply Pk.there)) SubH.nil) ?_)
 (rw [hmk, hst, mScanL_f (by omega) (by assumption)]; exact ⟨rfl, rfl, rfl⟩)
 refine seq_done (nrm_seq (tri_seq (tri_cond_f rfl ?_)))
 refine tri_exit ?_
 refine ext_seq ?_
 refine ext_loopN ?_
 refine ext_block_eq ?_
 refine nrm_seq (tri_seq (tri_region (seq_pure (pure_assign rfl) rfl rfl ?_)))
 refine seq_done (nrm_seq (tri_ret (ret_own1 (outs := [.blk bc [.int .i64 _]]) (res_tmp rfl) (SubH.cons (by repeat (first | exact Pk.here | apply Pk.there)) SubH.nil) ?_)))
 (rw [hmk, hst, mScanL_end (by omega)]; exact ⟨rfl, rfl, rfl⟩)
 refine seq_pure (pure_not_f rfl) rfl rfl ?_
 refine seq_pure (pure_pick_f rfl rfl) rfl rfl ?_
 refine seq_done (nrm_seq (tri_cond_t rfl ?_))
 refine tri_seq (tri_region (seq_pure (pure_assign rfl) rfl rfl ?_))
 refine seq_done (nrm_seq (tri_ret (ret_seq (ret_own1 (outs := [.blk bc [.int .i64 _]]) (res_tmp rfl) (SubH.cons (by repeat (first | exact Pk.here | apply Pk.there)) SubH.nil) ?_))))
 (rw [mScan_no (by rw [hR]; first | omega | exact Or.inr (Or.inr (Or.inr (by assumption)))) ]; exact ⟨rfl, rfl, rfl⟩)
set_option maxRecDepth 100000 in
theorem castValid_fn (t : Tm) (G : IM) (cells : List Value) (hr : RTm G t cells) : Fn Tryz.prog 24 [.agg ⟨cells⟩] [] G (Val (.bool (castValid t)) G) := by
 have hl := hr.len
 refine fn_enter Tryz.func24 rfl Tryz.ntmps24 Tryz.results24 rfl ?_
 intro w0
 refine tri_seq (tri_region ?_)
 (refine seq_step (step_box_a rfl rfl) rfl ?_; rintro _ ⟨b3, rfl⟩)
 refine seq_pure (pure_assign rfl) rfl rfl ?_
 refine seq_done (nrm_seq (tri_seq (tri_region ?_)))
 (refine seq_step (step_alloc rfl) rfl ?_; rintro _ ⟨b9, rfl⟩)
 refine seq_store rfl rfl rfl rfl rfl rfl (by repeat first | exact Sw.here | apply Sw.there) (by rfl) ?_
 refine seq_done (nrm_seq (tri_seq (tri_region (seq_load (load_a rfl rfl (at_blk_all (by repeat first | exact mH | apply mT)) (by assumption)) rfl rfl ?_))))
 refine seq_valx rfl (scan_fn 200 40 13 (by omega) (by omega) _ t 1 0 G cells (by omega) (by omega) hr) perm_all rfl rfl ?_
 refine seq_pure (pure_assign rfl) rfl rfl ?_
 refine seq_done (nrm_seq (tri_ret (ret_fin1 (res_tmp rfl) ?_)))
 exact ⟨rfl, rfl, rfl⟩
end Gw
end Go.Proofs.YtgclbnfdlddpnaaGreat
