/-
  What the functions of the program compute, in plain words over trees.
-/
import Derived.Test.YtgodjiieijekiaaGreatDoorKh0
import Derived.Laws.BytesArg
import Derived.WalkKit
import Derived.ProofKit
import Derived.OpenShut
import Derived.Carry
import Derived.Test.YtgodjiieijekiaaGreatDoorShelf
import Derived.Lib.ItoaNum
import Derived.Lib.LaidTab
import Derived.Test.YtgodjiieijekiaaGreatDoorRows
import Derived.Deep.DeepHandedRow
import Derived.Stop.LaidErr
set_option linter.unusedVariables false
set_option linter.unusedSimpArgs false
set_option maxHeartbeats 0
set_option maxRecDepth 100000
set_option synthInstance.maxSize 4000
set_option synthInstance.maxHeartbeats 0
namespace Go.Proofs.YtgodjiieijekiaaGreatDoor
open Go Go.RowKit
namespace Gw

def U3 (n lo hi : Int) : Bool := decide (lo ≤ n ∧ n ≤ hi)
theorem A0q {n lo hi : Int} (h : U3 n lo hi = true) : lo ≤ n ∧ n ≤ hi := by simpa [U3] using h
theorem A5u {n lo hi : Int} (h : U3 n lo hi = false) : ¬(lo ≤ n ∧ n ≤ hi) := by simpa [U3] using h
def R1 (k : Int) : Int := if k = 1 ∨ k = 2 ∨ k = 3 then 0 else if k = 4 ∨ k = 5 then 2 else -1
theorem K5 (k : Int) : (k = 1 ∨ k = 2 ∨ k = 3 → R1 k = 0) ∧ (k = 4 ∨ k = 5 → R1 k = 2) ∧ (k ≠ 1 → k ≠ 2 → k ≠ 3 → k ≠ 4 → k ≠ 5 → R1 k = -1) := by
 unfold R1; split <;> try split
 all_goals omega
def J3 (k : Int) : Int := if k = 1 ∨ k = 2 ∨ k = 3 ∨ k = 4 then 0 else if k = 5 ∨ k = 11 ∨ k = 12 ∨ k = 13 ∨ k = 14 then 1 else if k = 6 ∨ k = 7 ∨ k = 8 ∨ k = 10 then 2 else if k = 9 then 3 else -1

mutual
def H5 : Ty → Int → Bool
 | .mk k ks, d => decide (d ≤ 4) && decide (R1 k = ks.length) && A0b ks (d + 1)
def A0b : List Ty → Int → Bool
 | [], _ => true
 | t :: ts, d => H5 t d && A0b ts d
end
theorem A3P : ∀ (ts : List Ty) (d : Int), A0b ts d = true ↔ ∀ i, (h : i < ts.length) → H5 ts[i] d = true
 | [], d => by simp [A0b]
 | t :: ts, d => by
  simp only [A0b, Bool.and_eq_true, A3P ts d]
  constructor
  ·rintro ⟨h1, h2⟩ i hi
   cases i with
   | zero => exact h1
   | succ i => exact h2 i (by simpa using hi)
  ·intro h
   exact ⟨h 0 (by simp), fun i hi => h (i + 1) (by simpa using hi)⟩
def R2 (t : Ty) : Bool := H5 t 1
def S8 (t : Ty) : Bool := decide (t.k = 0 ∧ t.ks.length = 0)

mutual
def U4 : Ty → Ty → Bool
 | .mk k ks, t => decide (k = 1) || decide (t.k = 1) || (decide (k = t.k) && A0M ks t.ks)
def A0M : List Ty → List Ty → Bool
 | [], [] => true
 | a :: xs, b :: ys => U4 a b && A0M xs ys
 | _, _ => false
end
theorem A2e (k k' : Int) (ks ks' : List Ty) : U4 (.mk k ks) (.mk k' ks') = (decide (k = 1) || decide (k' = 1) || (decide (k = k') && A0M ks ks')) := by rw [U4]; rfl
theorem A5v : ∀ (xs ys : List Ty), A0M xs ys = true ↔ xs.length = ys.length ∧ ∀ i, (h : i < xs.length) → (h' : i < ys.length) → U4 xs[i] ys[i] = true
 | [], [] => by simp [A0M]
 | [], b :: ys => by simp [A0M]
 | a :: xs, [] => by simp [A0M]
 | a :: xs, b :: ys => by
  simp only [A0M, Bool.and_eq_true, A5v xs ys, List.length_cons]
  constructor
  ·rintro ⟨h1, h2, h3⟩
   refine ⟨by omega, fun i hi hi' => ?_⟩
   cases i with
   | zero => exact h1
   | succ i => exact h3 i (by simpa using hi) (by simpa using hi')
  ·rintro ⟨h1, h2⟩
   exact ⟨h2 0 (by simp) (by simp), by omega, fun i hi hi' => h2 (i + 1) (by simpa using hi) (by simpa using hi')⟩
def A0r (a b : Ty) : Bool := R2 a && R2 b && U4 a b
def S2 (s : ByteArray) : Bool := decide (s.size = 1 ∧ 97 ≤ (s.data.getD 0 0).toNat ∧ (s.data.getD 0 0).toNat ≤ 122)
def A0c (n : Int) : Bool := U3 n 1 99 || U3 n (-99) (-1)

theorem A2Q {s : ByteArray} {j : Int} (h : j.toNat < s.size) : s[j.toNat]? = some (s.data.getD j.toNat 0) := by
 rw [getElem?_pos s j.toNat h]
 show some (s.data[j.toNat]'h) = _
 rw [Array.getD_eq_getD_getElem?, getElem?_pos s.data j.toNat h]
 rfl
theorem A8N {q : Nat → Bool} {n : Nat} : A0a q n < 0 ↔ ∀ j, j < n → q j = false := by
 constructor
 ·intro h j hj
  unfold A0a at h
  split at h
  ·omega
  ·rename_i hf
   have := List.find?_eq_none.1 hf j (List.mem_range.2 hj)
   simpa using this
 ·intro h; rw [A5t h]; omega
theorem A5w {q : Nat → Bool} {n : Nat} : 0 ≤ A0a q n ↔ ∃ j, j < n ∧ q j = true := by
 have h := @A8N q n
 constructor
 ·intro h0
  apply Classical.byContradiction
  intro hn
  have : A0a q n < 0 := h.2 fun j hj => by cases hq : q j with | false => rfl | true => exact absurd ⟨j, hj, hq⟩ hn
  omega
 ·rintro ⟨j, hj, hq⟩
  apply Classical.byContradiction
  intro hn
  rw [h.1 (by omega) j hj] at hq
  exact absurd hq (by simp)
theorem A8O {α : Type} (f : α → Bool) (ks : List α) (a : α) : decide (0 ≤ A0a (fun i => !f (ks.getD i a)) ks.length) = !ks.all f := by
 cases h : ks.all f with
 | true =>
  rw [List.all_eq_true] at h
  apply decide_eq_false
  rw [A5w]
  rintro ⟨j, hj, hq⟩
  rw [List.getD_eq_getElem?_getD, List.getElem?_eq_getElem hj, Option.getD_some, h _ (List.getElem_mem hj)] at hq
  exact absurd hq (by simp)
 | false =>
  apply decide_eq_true
  rw [A5w]
  apply Classical.byContradiction
  intro hn
  have : ks.all f = true := by
   rw [List.all_eq_true]
   intro x hx
   obtain ⟨j, hj, rfl⟩ := List.getElem_of_mem hx
   cases hf : f ks[j] with
   | true => rfl
   | false => exact absurd ⟨j, hj, by rw [List.getD_eq_getElem?_getD, List.getElem?_eq_getElem hj, Option.getD_some, hf]; rfl⟩ hn
  rw [h] at this
  exact absurd this (by simp)
theorem Q0 : ∀ (ks : List Ty) (d : Int), A0b ks d = ks.all (H5 · d)
 | [], d => rfl
 | t :: ts, d => by simp [A0b, Q0 ts d]
theorem F4.inv {G : IM} : ∀ {ts : List Ty} {es : List (List Value)}, F4 G ts es → ∀ {i : Nat} {e : List Value}, es[i]? = some e → ∀ a, ts.getD i a ∈ ts ∧ C5 G (ts.getD i a) e
 | [], es, h, i, e, he, a => by
  have := h.len
  simp only [List.length_nil, List.length_eq_zero_iff] at this
  subst this; simp at he
 | t :: ts, es, h, i, e, he, a => by
  have hi : i < es.length := by
   apply Classical.byContradiction; intro hn; rw [List.getElem?_eq_none (by omega)] at he; simp at he
  have hl := h.len
  obtain ⟨e', he', hr⟩ := h.get (i := i) (t := (t :: ts)[i]'(by omega)) (by rw [List.getElem?_eq_getElem])
  rw [he] at he'
  obtain rfl := Option.some.inj he'
  rw [List.getD_eq_getElem?_getD, List.getElem?_eq_getElem (by omega), Option.getD_some]
  exact ⟨List.getElem_mem _, hr⟩
theorem D3.inv {G : IM} : ∀ {ts : List Tm} {es : List (List Value)}, D3 G ts es → ∀ {i : Nat} {e : List Value}, es[i]? = some e → ∀ a, ts.getD i a ∈ ts ∧ B6 G (ts.getD i a) e
 | [], es, h, i, e, he, a => by
  have := h.len
  simp only [List.length_nil, List.length_eq_zero_iff] at this
  subst this; simp at he
 | t :: ts, es, h, i, e, he, a => by
  have hi : i < es.length := by
   apply Classical.byContradiction; intro hn; rw [List.getElem?_eq_none (by omega)] at he; simp at he
  have hl := h.len
  obtain ⟨e', he', hr⟩ := h.get (i := i) (t := (t :: ts)[i]'(by omega)) (by rw [List.getElem?_eq_getElem])
  rw [he] at he'
  obtain rfl := Option.some.inj he'
  rw [List.getD_eq_getElem?_getD, List.getElem?_eq_getElem (by omega), Option.getD_some]
  exact ⟨List.getElem_mem _, hr⟩
def A4 : Ty := .mk 0 []
theorem A8P {p : Prop} [Decidable p] {x y : Bool} : ((if p then x else y) = true) ↔ ((p → x = true) ∧ (¬p → y = true)) := by by_cases h : p <;> simp [h]
theorem A8Q {k : Int} (h : 1 ≤ k ∧ k ≤ 14) : ([Value.int .i64 0, .int .i64 0, .int .i64 0, .int .i64 0, .int .i64 1, .int .i64 2, .int .i64 2, .int .i64 2, .int .i64 3, .int .i64 2, .int .i64 1, .int .i64 1, .int .i64 1, .int .i64 1])[(k - 1).toNat]? = some (.int .i64 (J3 k)) := by
 have : k = 1 ∨ k = 2 ∨ k = 3 ∨ k = 4 ∨ k = 5 ∨ k = 6 ∨ k = 7 ∨ k = 8 ∨ k = 9 ∨ k = 10 ∨ k = 11 ∨ k = 12 ∨ k = 13 ∨ k = 14 := by omega
 rcases this with rfl | rfl | rfl | rfl | rfl | rfl | rfl | rfl | rfl | rfl | rfl | rfl | rfl | rfl <;> rfl
theorem A8R {k : Int} (h : ¬(1 ≤ k ∧ k ≤ 14)) : J3 k = -1 := by
 unfold J3; repeat (split; omega)
 rfl
theorem A1l {cs : List Value} {o : Nat} {v : Value} (h : cs[o]? = some v) : ∀ j u, [v][j]? = some u → cs[o + j]? = some u := by
 intro j u hj
 cases j with
 | zero => simpa using hj ▸ h
 | succ j => simp at hj
def S3 (k : Int) (nm : ByteArray) (num : Int) (ty fr : Ty) (lb : Int) (n : Nat) : Bool :=
 decide (J3 k = n) && (if k = 1 ∨ k = 5 then S2 nm else decide (nm = ⟨#[]⟩)) && (if k = 2 then U3 num 0 999 else U3 num 0 0) &&
 (if k = 5 ∨ k = 13 ∨ k = 14 then R2 ty else S8 ty) && (if k = 14 then A0r fr ty && A0c lb else S8 fr && decide (lb = 0))
theorem A1G {k : Int} {nm : ByteArray} {num : Int} {ty fr : Ty} {lb : Int} {n : Nat} : S3 k nm num ty fr lb n = true ↔
  J3 k = n ∧ (k = 1 ∨ k = 5 → S2 nm = true) ∧ (¬(k = 1 ∨ k = 5) → nm = ⟨#[]⟩) ∧ (k = 2 → U3 num 0 999 = true) ∧ (k ≠ 2 → U3 num 0 0 = true) ∧
  (k = 5 ∨ k = 13 ∨ k = 14 → R2 ty = true) ∧ (¬(k = 5 ∨ k = 13 ∨ k = 14) → S8 ty = true) ∧ (k = 14 → A0r fr ty = true ∧ A0c lb = true) ∧ (k ≠ 14 → S8 fr = true ∧ lb = 0) := by
 simp only [S3, Bool.and_eq_true, A8P, decide_eq_true_eq, and_assoc, ne_eq]
mutual
def O0 (M D N : Int) : Tm → Int → Int → Bool × Int
 | .mk k nm num ty fr lb ks, deep, c => if c + 1 > M ∨ deep > D ∨ k = N ∨ S3 k nm num ty fr lb ks.length = false then (false, c + 1) else O8 M D N ks (deep + 1) (c + 1)
def O8 (M D N : Int) : List Tm → Int → Int → Bool × Int
 | [], _, c => (true, c)
 | t :: ts, deep, c => if (O0 M D N t deep c).1 = true then O8 M D N ts deep (O0 M D N t deep c).2 else (false, (O0 M D N t deep c).2)
end
mutual
theorem A5x (M D N : Int) : ∀ (t : Tm) (deep c : Int), 0 ≤ c → c ≤ M → c < (O0 M D N t deep c).2 ∧ (O0 M D N t deep c).2 ≤ M + 1 ∧ ((O0 M D N t deep c).1 = true → (O0 M D N t deep c).2 ≤ M)
 | .mk k nm num ty fr lb ks, deep, c, h0, h1 => by
  rw [O0]
  split
  ·simp; omega
  ·rename_i h
   have := A5y M D N ks (deep + 1) (c + 1) (by omega) (by omega)
   exact ⟨by omega, this.2⟩
theorem A5y (M D N : Int) : ∀ (ts : List Tm) (deep c : Int), 0 ≤ c → c ≤ M → c ≤ (O8 M D N ts deep c).2 ∧ (O8 M D N ts deep c).2 ≤ M + 1 ∧ ((O8 M D N ts deep c).1 = true → (O8 M D N ts deep c).2 ≤ M)
 | [], deep, c, h0, h1 => by rw [O8]; simp; omega
 | t :: ts, deep, c, h0, h1 => by
  have := A5x M D N t deep c h0 h1
  rw [O8]
  split
  ·rename_i h
   have h2 := A5y M D N ts deep (O0 M D N t deep c).2 (by omega) (this.2.2 h)
   exact ⟨by omega, h2.2⟩
  ·simp; omega
end
def U5 (t : Tm) : Bool := (O0 200 40 13 t 1 0).1
def N5 (t : Tm) : Bool := (O0 30 12 14 t 1 0).1
theorem D0.kidTm {G : IM} {p : Option Addr} {n c : Nat} {es : List (List Value)} {ks : List Tm} (h : D0 G p n c 9 es) (hk : D3 G ks es) {i : Nat} (hi : i < n) (hn : i < ks.length) :
  ∃ b o e, p = some ⟨b, o, none⟩ ∧ e.length = 9 ∧ (∀ hp, At hp G b (o + i * 9) e) ∧ B6 G ks[i] e ∧ G b ≠ none := by
 obtain ⟨e, b, o, he, hp, hl, _, hat, hg⟩ := h.get hi
 have := (hk.inv he (ks[i])).2
 rw [List.getD_eq_getElem?_getD, List.getElem?_eq_getElem hn, Option.getD_some] at this
 exact ⟨b, o, e, hp, hl, hat, this, hg⟩
theorem A2R {M D N : Int} {k : Int} {nm : ByteArray} {num : Int} {ty fr : Ty} {lb : Int} {ks : List Tm} {deep c : Int} (h : c + 1 > M ∨ deep > D ∨ k = N ∨ S3 k nm num ty fr lb ks.length = false) :
  O0 M D N (.mk k nm num ty fr lb ks) deep c = (false, c + 1) := by rw [O0, if_pos h]
theorem A8S {M D N : Int} {k : Int} {nm : ByteArray} {num : Int} {ty fr : Ty} {lb : Int} {ks : List Tm} {deep c : Int} (h1 : ¬(c + 1 > M ∨ deep > D ∨ k = N)) (h2 : S3 k nm num ty fr lb ks.length = true) :
  O0 M D N (.mk k nm num ty fr lb ks) deep c = O8 M D N ks (deep + 1) (c + 1) := by
 rw [O0, if_neg]
 rw [h2]
 intro h
 apply h1
 rcases h with h | h | h | h
 ·exact .inl h
 ·exact .inr (.inl h)
 ·exact .inr (.inr h)
 ·cases h
theorem A8T {M D N : Int} {ks : List Tm} {i : Nat} {deep c : Int} (hi : i < ks.length) (h : (O0 M D N ks[i] deep c).1 = true) : O8 M D N (ks.drop i) deep c = O8 M D N (ks.drop (i + 1)) deep (O0 M D N ks[i] deep c).2 := by
 rw [List.drop_eq_getElem_cons hi, O8, if_pos h]
theorem A8U {M D N : Int} {ks : List Tm} {i : Nat} {deep c : Int} (hi : i < ks.length) (h : (O0 M D N ks[i] deep c).1 = false) : O8 M D N (ks.drop i) deep c = (false, (O0 M D N ks[i] deep c).2) := by
 rw [List.drop_eq_getElem_cons hi, O8, if_neg (by rw [h]; simp)]
theorem A8V {M D N : Int} {ks : List Tm} {i : Nat} {deep c : Int} (hi : i = ks.length) : O8 M D N (ks.drop i) deep c = (true, c) := by
 rw [hi, List.drop_length, O8]
section blk
variable {P : Program} {Γ : F8} {env : H1} {hp : List A1} {G : IM} {K : Po} {ops : Array Oper} {rest : List Oper}
end blk

theorem A3Q {sz : Nat} : ∀ {es : List (List Value)}, (∀ e ∈ es, e.length = sz) → es.flatten.length = es.length * sz
 | [], _ => by simp
 | e :: es, h => by
  rw [List.flatten_cons, List.length_append, h e List.mem_cons_self, A3Q (es := es) fun x hx => h x (List.mem_cons_of_mem _ hx), List.length_cons, Nat.succ_mul]; omega
def A5z (G : IM) (ks : List Ty) (p : Option Addr) (c : Nat) (F : List Nat) : Prop := ∃ es Fs, D0 G p ks.length c 2 es ∧ J5 G ks es Fs ∧ F = E5 p ++ Fs ∧ (∀ b ∈ E5 p, G b ≠ none)
theorem K4.open {G : IM} {t : Ty} {cells : List Value} {F : List Nat} (h : K4 G t cells F) : ∃ p c, cells = [.int .i64 t.k, .slice p t.ks.length c] ∧ D7 t.k ∧ A5z G t.ks p c F := by
 cases t
 simp only [K4] at h
 obtain ⟨p, c, es, Fs, h0, hk, h1, h2, h3, h4⟩ := h
 exact ⟨p, c, h0, hk, es, Fs, h1, h2, h3, h4⟩
mutual
def L8 (G : IM) : Tm → List Value → List Nat → Prop
 | .mk k nm num ty fr lb ks, cells, F => ∃ tc fc p c es Ft Ff Fs, cells = [.int .i64 k, .string nm, .int .i64 num] ++ tc ++ fc ++ [.int .i64 lb, .slice p ks.length c] ∧ D7 k ∧ D7 num ∧ D7 lb ∧ K4 G ty tc Ft ∧ K4 G fr fc Ff ∧
   D0 G p ks.length c 9 es ∧ J6 G ks es Fs ∧ F = Ft ++ (Ff ++ (E5 p ++ Fs)) ∧ (∀ b ∈ E5 p, G b ≠ none)
def J6 (G : IM) : List Tm → List (List Value) → List Nat → Prop
 | [], es, F => es = [] ∧ F = []
 | t :: ts, es, F => ∃ a r Fa Fr, es = a :: r ∧ L8 G t a Fa ∧ J6 G ts r Fr ∧ F = Fa ++ Fr
end
def A2f (G : IM) (ks : List Tm) (p : Option Addr) (c : Nat) (F : List Nat) : Prop := ∃ es Fs, D0 G p ks.length c 9 es ∧ J6 G ks es Fs ∧ F = E5 p ++ Fs ∧ (∀ b ∈ E5 p, G b ≠ none)
mutual
theorem L8.R {G : IM} : ∀ {t : Tm} {cells : List Value} {F : List Nat}, L8 G t cells F → B6 G t cells
 | .mk k nm num ty fr lb ks, cells, F, h => by
  simp only [L8] at h
  obtain ⟨tc, fc, p, c, es, Ft, Ff, Fs, h1, h2, h3, h4, h5, h6, h7, h8, _⟩ := h
  simp only [B6]
  exact ⟨tc, fc, p, c, es, h1, h2, h3, h4, h5.R, h6.R, h7, J6.R h8⟩
theorem J6.R {G : IM} : ∀ {ts : List Tm} {es : List (List Value)} {F : List Nat}, J6 G ts es F → D3 G ts es
 | [], es, F, h => by simp only [J6] at h; simp only [D3]; exact h.1
 | t :: ts, es, F, h => by
  simp only [J6] at h
  obtain ⟨a, r, Fa, Fr, h1, h2, h3, _⟩ := h
  simp only [D3]
  exact ⟨a, r, h1, L8.R h2, J6.R h3⟩
end
theorem A2S {G G' : IM} (hg : A9 G G') {F : List Nat} (h : ∀ b ∈ F, G b ≠ none) : ∀ b ∈ F, G' b ≠ none := fun b hb => by
 cases hgb : G b with
 | none => exact absurd hgb (h b hb)
 | some l => rw [hg b l hgb]; simp
mutual
theorem L8.mono {G G' : IM} (hg : A9 G G') : ∀ {t : Tm} {cells : List Value} {F : List Nat}, L8 G t cells F → L8 G' t cells F
 | .mk k nm num ty fr lb ks, cells, F, h => by
  simp only [L8] at h ⊢
  obtain ⟨tc, fc, p, c, es, Ft, Ff, Fs, h1, h2, h3, h4, h5, h6, h7, h8, h9, h10⟩ := h
  exact ⟨tc, fc, p, c, es, Ft, Ff, Fs, h1, h2, h3, h4, h5.mono hg, h6.mono hg, h7.mono hg, J6.mono hg h8, h9, A2S hg h10⟩
theorem J6.mono {G G' : IM} (hg : A9 G G') : ∀ {ts : List Tm} {es : List (List Value)} {F : List Nat}, J6 G ts es F → J6 G' ts es F
 | [], es, F, h => by simpa only [J6] using h
 | t :: ts, es, F, h => by
  simp only [J6] at h ⊢
  obtain ⟨a, r, Fa, Fr, h1, h2, h3, h4⟩ := h
  exact ⟨a, r, Fa, Fr, h1, L8.mono hg h2, J6.mono hg h3, h4⟩
end
mutual
theorem L8.inG {G : IM} : ∀ {t : Tm} {cells : List Value} {F : List Nat}, L8 G t cells F → ∀ b ∈ F, G b ≠ none
 | .mk k nm num ty fr lb ks, cells, F, h => by
  simp only [L8] at h
  obtain ⟨tc, fc, p, c, es, Ft, Ff, Fs, h1, h2, h3, h4, h5, h6, h7, h8, rfl, h10⟩ := h
  intro b hb
  simp only [List.mem_append] at hb
  rcases hb with hb | hb | hb | hb
  ·exact h5.inG b hb
  ·exact h6.inG b hb
  ·exact h10 b hb
  ·exact J6.inG h8 b hb
theorem J6.inG {G : IM} : ∀ {ts : List Tm} {es : List (List Value)} {F : List Nat}, J6 G ts es F → ∀ b ∈ F, G b ≠ none
 | [], es, F, h => by simp only [J6] at h; rw [h.2]; simp
 | t :: ts, es, F, h => by
  simp only [J6] at h
  obtain ⟨a, r, Fa, Fr, h1, h2, h3, rfl⟩ := h
  intro b hb
  rcases List.mem_append.1 hb with hb | hb
  ·exact L8.inG h2 b hb
  ·exact J6.inG h3 b hb
end
theorem J6.snoc {G : IM} : ∀ {ts : List Tm} {es : List (List Value)} {F : List Nat} {t : Tm} {a : List Value} {Fa : List Nat}, J6 G ts es F → L8 G t a Fa → J6 G (ts ++ [t]) (es ++ [a]) (F ++ Fa)
 | [], es, F, t, a, Fa, h, h2 => by
  simp only [J6] at h
  obtain ⟨rfl, rfl⟩ := h
  simp only [List.nil_append, J6]
  exact ⟨a, [], Fa, [], rfl, h2, ⟨rfl, rfl⟩, by simp⟩
 | t' :: ts, es, F, t, a, Fa, h, h2 => by
  simp only [J6] at h
  obtain ⟨a', r, Fa', Fr, rfl, h3, h4, rfl⟩ := h
  simp only [List.cons_append, J6]
  exact ⟨a', r ++ [a], Fa', Fr ++ Fa, rfl, h3, J6.snoc h4 h2, by simp⟩
theorem A0s {G Gi : IM} {F F' : List Nat} {G1 : IM} (h : ∀ b ∈ F, B0 Gi G b ≠ none) (h' : ∀ b ∈ F', B0 G1 Gi b ≠ none) : ∀ x ∈ F, ∀ y ∈ F', x ≠ y := by
 rintro x hx y hy rfl
 have h1 := h x hx
 have h2 := B0.out (h' x hy)
 apply h1
 cases hd : B0 Gi G x with
 | none => rfl
 | some l => rw [B0.le _ _ x l hd] at h2; cases h2
theorem J6.step {G Gi G1 : IM} {ks : List Tm} {i : Nat} {es : List (List Value)} {F F' : List Nat} {a : List Value} (h : J6 (B0 Gi G) (ks.take i) es F) (hn : F.Nodup) (hle : A9 G Gi) (hle1 : A9 Gi G1) (hi : i < ks.length)
  (ha : L8 (B0 G1 Gi) ks[i] a F') (hn' : F'.Nodup) : J6 (B0 G1 G) (ks.take (i + 1)) (es ++ [a]) (F ++ F') ∧ (F ++ F').Nodup := by
 constructor
 ·rw [List.take_succ_eq_append_getElem hi]
  exact J6.snoc (h.mono (B0.mono hle1)) (ha.mono (B0.anti hle))
 ·rw [List.nodup_append]
  exact ⟨hn, hn', A0s h.inG ha.inG⟩
theorem A5A (p : Option Addr) : (E5 p).Nodup := by cases p <;> simp [E5]
theorem A2f.fin {G Gi G2 : IM} {ks : List Tm} {es : List (List Value)} {F : List Nat} {p : Option Addr} {c : Nat} (h : J6 (B0 Gi G) ks es F) (hn : F.Nodup) (hle : A9 G Gi) (hle2 : A9 Gi G2)
  (hsl : Sl G2 p ks.length c 9 es.flatten) (hnn : ∀ b ∈ E5 p, Gi b = none ∧ G2 b ≠ none) :
  ∃ F', A2f (B0 G2 G) ks p c F' ∧ F'.Nodup := by
 have hR := h.R
 have hin : ∀ b ∈ E5 p, B0 G2 G b ≠ none := by
  intro b hb
  have h0 := (hnn b hb).1
  cases hg : G b with
  | none => simpa [B0, hg] using (hnn b hb).2
  | some l => rw [hle b l hg] at h0; cases h0
 refine ⟨E5 p ++ F, ⟨es, F, D0.of (hsl.dif (fun b hb => (hnn b hb).1) hle) hR.len hR.all ?_, h.mono (B0.mono hle2), rfl, hin⟩, ?_⟩
 ·intro e he
  obtain ⟨i, hi⟩ := List.getElem?_of_mem he
  have hlt : i < ks.length := by have := (List.getElem?_eq_some_iff.1 hi).1; rw [hR.len] at this; exact this
  obtain ⟨e', he', hr⟩ := hR.get (i := i) (t := ks[i]) (by simp [hlt])
  rw [hi] at he'; cases he'; exact hr.one
 ·rw [List.nodup_append]
  refine ⟨A5A p, hn, ?_⟩
  rintro x hx y hy rfl
  have h1 := h.inG x hy
  have h2 := (hnn x hx).1
  apply h1
  cases hd : B0 Gi G x with
  | none => rfl
  | some l => rw [B0.le _ _ x l hd] at h2; cases h2
theorem L8.mk3 {G G1 G2 G3 : IM} {k : Int} {nm : ByteArray} {num : Int} {ty fr : Ty} {lb : Int} {ks : List Tm} {tc fc : List Value} {p : Option Addr} {c : Nat} {F1 F2 F3 : List Nat} (hk : D7 k) (hnum : D7 num) (hlb : D7 lb)
  (hl1 : A9 G G1) (hl2 : A9 G1 G2) (hl3 : A9 G2 G3) (h1 : K4 (B0 G1 G) ty tc F1) (n1 : F1.Nodup) (h2 : K4 (B0 G2 G1) fr fc F2) (n2 : F2.Nodup) (h3 : A2f (B0 G3 G2) ks p c F3) (n3 : F3.Nodup) :
  ∃ F, L8 (B0 G3 G) (.mk k nm num ty fr lb ks) ([.int .i64 k, .string nm, .int .i64 num] ++ tc ++ fc ++ [.int .i64 lb, .slice p ks.length c]) F ∧ F.Nodup := by
 obtain ⟨es, Fs, e1, e2, rfl, e4⟩ := h3
 have i3 : ∀ b ∈ E5 p ++ Fs, B0 G3 G2 b ≠ none := by
  intro b hb
  rcases List.mem_append.1 hb with hb | hb
  ·exact e4 b hb
  ·exact e2.inG b hb
 have a2 : A9 (B0 G2 G1) (B0 G3 G) := fun b l h => B0.mono hl3 b l (B0.anti hl1 b l h)
 have a3 : A9 (B0 G3 G2) (B0 G3 G) := B0.anti (hl1.trans hl2)
 refine ⟨F1 ++ (F2 ++ (E5 p ++ Fs)), ?_, ?_⟩
 ·simp only [L8]
  exact ⟨tc, fc, p, c, es, F1, F2, Fs, rfl, hk, hnum, hlb, h1.mono (B0.mono (hl2.trans hl3)), h2.mono a2, e1.mono a3, e2.mono a3, rfl, A2S a3 e4⟩
 ·rw [List.nodup_append, List.nodup_append]
  refine ⟨n1, ⟨n2, n3, A0s h2.inG i3⟩, ?_⟩
  rintro x hx y hy rfl
  rcases List.mem_append.1 hy with hy | hy
  ·exact A0s h1.inG h2.inG x hx x hy rfl
  ·have h1' : ∀ b ∈ F1, B0 G2 G b ≠ none := A2S (B0.mono hl2) h1.inG
   exact A0s h1' i3 x hx x hy rfl
section clawss
variable {P : Program} {Γ : F8} {env : H1} {hp : List A1} {G : IM} {ty : TypeId}
theorem A5B {s d : TypeId} {is id : J4} [hS : E6 P s is] [hD : E6 P d id] (hd : id.desc = .int .u8) {k : IntKind} (hs : is.desc = .int k) {x : Operand} {n : Int} (hx : evo env x = some (.int k n)) (h0 : 0 ≤ n) (h1 : n ≤ 255) :
  C9 P Γ ⟨env, hp, G⟩ (.convert s d x) ty (.int .u8 n) := by
 refine ⟨fun a _ hst _ _ _ _ w => ?_⟩
 have hu := hD.und
 rw [hd] at hu
 have hus := hS.und
 rw [hs] at hus
 have hw : IntKind.u8.wrap n = n := IntWalk.u8_in n ⟨h0, h1⟩
 simp [execOp, convert, run_underlying hus, run_underlying hu, (hst.evo hx : a.eval x = _), Conv.intToInt, hw]
theorem A2T {s d e : TypeId} {is id ie : J4} [hS : E6 P s is] [hD : E6 P d id] [hE : E6 P e ie] (hs : is.desc = .slice e) (he : ie.desc = .int .u8) (hd : id.desc = .string) {x : Operand} {b o n c : Nat} {xs : List Int}
  (hx : evo env x = some (.slice (some ⟨b, o, none⟩) n c)) (hl : xs.length = n) (hv : At hp G b o (xs.map (Value.int .u8))) : A0F P Γ ⟨env, hp, G⟩ (.convert s d x) ty b (.string (strOfNums xs)) := by
 refine ⟨fun a w hst => ?_⟩
 obtain ⟨full, e', f, hb, hf⟩ := hv.read hst
 refine ⟨X4 hb, fun w' hw' d' pos af gd => ?_⟩
 have hus := hS.und
 rw [hs] at hus
 have hue := hE.und
 rw [he] at hue
 have hud := hD.und
 rw [hd] at hud
 have hc := run_convert_bytes_arg (P := P) w' s e hus hue b o n c xs hl (fun i hi => by
  have := hf i (.int .u8 (xs.getD i 0)) (by simp [List.getD, List.getElem?_eq_getElem (show i < xs.length by omega)])
  simp [World.cell?, hw', hb, this]) d hud
 have hx' : a.eval x = _ := hst.evo hx
 simp only [execOp, hx', Sem.run_bind]
 rw [hc]
 rfl
theorem A3R {x y : Operand} {t t' : TypeId} {m n : Nat} (hx : evo env x = some (.int .i64 (m : Int))) (hy : evo env y = some (.int .i64 (n : Int))) (hn : 0 < n) :
  C9 P Γ ⟨env, hp, G⟩ (.binOp .rem t x y t') ty (.int .i64 ((m % n : Nat) : Int)) := by
 have h := A3B (P := P) (Γ := Γ) (hp := hp) (G := G) (ty := ty) (t := t) (t' := t') hx hy (by omega)
 rwa [show ((m : Int).tmod n) = ((m % n : Nat) : Int) from rfl] at h
theorem A3S {x y : Operand} {t t' : TypeId} {m n : Nat} (hx : evo env x = some (.int .i64 (m : Int))) (hy : evo env y = some (.int .i64 (n : Int))) (hn : 0 < n) (hm : m ≤ 9223372036854775807) :
  C9 P Γ ⟨env, hp, G⟩ (.binOp .quo t x y t') ty (.int .i64 ((m / n : Nat) : Int)) := by
 have hd : m / n ≤ m := Nat.div_le_self _ _
 have e : ((m : Int).tdiv n) = ((m / n : Nat) : Int) := rfl
 have h := A8g (P := P) (Γ := Γ) (hp := hp) (G := G) (ty := ty) (t := t) (t' := t') hx hy (by omega) (by rw [e]; generalize m / n = q at *; omega) (by rw [e]; generalize m / n = q at *; omega)
 rwa [e] at h
end clawss
def W5 (k : Nat) : Int := 48 + ((k % 10 : Nat) : Int)
def A5C : Nat → Nat → ByteArray → ByteArray
 | 0, _, out => out
 | f + 1, k, out => if 0 < k then A5C f (k / 10) (strOfNums [W5 k] ++ out) else out
def A8W (k : Nat) : ByteArray := ⟨#[109]⟩ ++ A5C 20 k ⟨⟨[]⟩⟩
def A2g (l : List Int) : List Value := l.map (Value.int .i64 ·)
mutual
def D4 : Tm → Nat
 | .mk _ _ _ _ _ _ ks => H0 ks + 1
def H0 : List Tm → Nat
 | [] => 0
 | t :: ts => D4 t + H0 ts
end
mutual
def A2U : Tm → List Int → List (List Int)
 | .mk _ _ _ _ _ _ ks, path => path :: A5D ks 0 path
def A5D : List Tm → Nat → List Int → List (List Int)
 | [], _, _ => []
 | t :: ts, i, path => A2U t (path ++ [(i : Int)]) ++ A5D ts (i + 1) path
end
theorem A2V : ∀ (a b : List Tm), H0 (a ++ b) = H0 a + H0 b
 | [], b => by simp [H0]
 | t :: a, b => by rw [List.cons_append, H0, H0, A2V a b]; omega
theorem A8X {ks : List Tm} {i : Nat} (hi : i < ks.length) : H0 (ks.take i) + D4 ks[i] ≤ H0 ks := by
 have h := A2V (ks.take (i + 1)) (ks.drop (i + 1))
 rw [List.take_append_drop, List.take_succ_eq_append_getElem hi, A2V] at h
 simp only [H0] at h
 omega
theorem A8Y {ks : List Tm} {i : Nat} (hi : i < ks.length) : H0 (ks.take (i + 1)) = H0 (ks.take i) + D4 ks[i] := by
 rw [List.take_succ_eq_append_getElem hi, A2V]
 simp only [H0]; omega
def SPs (G : IM) : List (List Int) → List Value → List Nat → Prop
 | [], es, F => es = [] ∧ F = []
 | l :: ls, es, F => ∃ p c r Fr, es = .slice p l.length c :: r ∧ F = E5 p ++ Fr ∧ Sl G p l.length c 1 (A2g l) ∧ (∀ b ∈ E5 p, G b ≠ none) ∧ (p = none → l.length = 0) ∧ SPs G ls r Fr
def RPs (G : IM) (ls : List (List Int)) (p : Option Addr) (c : Nat) : Prop := ∃ es F, Sl G p ls.length c 1 es ∧ (∀ b ∈ E5 p, G b ≠ none) ∧ SPs G ls es F ∧ (E5 p ++ F).Nodup
mutual
theorem A5E (M D N : Int) : ∀ (t : Tm) (deep c : Int), (O0 M D N t deep c).1 = true → (O0 M D N t deep c).2 = c + D4 t
 | .mk k nm num ty fr lb ks, deep, c, h => by
  rw [O0] at h ⊢
  split at h
  ·cases h
  ·rename_i hc
   rw [if_neg hc, A5F M D N ks (deep + 1) (c + 1) h, D4]
   omega
theorem A5F (M D N : Int) : ∀ (ts : List Tm) (deep c : Int), (O8 M D N ts deep c).1 = true → (O8 M D N ts deep c).2 = c + H0 ts
 | [], deep, c, h => by rw [O8, H0]; simp
 | t :: ts, deep, c, h => by
  rw [O8] at h ⊢
  split at h
  ·rename_i h1
   rw [if_pos h1, A5F M D N ts deep _ h, A5E M D N t deep c h1, H0]
   omega
  ·cases h
end
def A8Z (t : Tm) : List (List Int) := if U5 t = true then A2U t [] else []
section slaws
variable {P : Program} {Γ : F8} {env : H1} {hp : List A1} {G : IM} {ty : TypeId}
theorem A5G {x y : Operand} {t t' : TypeId} {r : ByteArray} (hx : evo env x = some (.string r)) (hy : evo env y = some (.string r)) :
  C9 P Γ ⟨env, hp, G⟩ (.binOp .neq t x y t') ty (.bool false) := by
 have h := A0m (P := P) (Γ := Γ) (hp := hp) (G := G) (t := t) (t' := t') (ty := ty) hx hy
 rwa [decide_eq_false (by simp)] at h
end slaws
theorem Sl.kid {G : IM} {p : Option Addr} {n c : Nat} {cs : List Value} (h : Sl G p n c 1 cs) {i : Nat} (hi : i < n) :
  ∃ b o v, p = some ⟨b, o, none⟩ ∧ cs[i]? = some v ∧ (∀ hp, At hp G b (o + i * 1) [v]) ∧ G b ≠ none := by
 obtain ⟨h1, h2, h3, h4⟩ := h
 obtain ⟨b, o, full, rfl, hg, hv⟩ := h4.resolve_left (by omega)
 have hlt : i < cs.length := by omega
 refine ⟨b, o, cs[i], rfl, List.getElem?_eq_getElem hlt, fun hp => M6 hg ?_, by rw [hg]; simp⟩
 intro j v hj
 cases j with
 | zero => simp at hj; subst hj; simpa using hv i _ (List.getElem?_eq_getElem hlt)
 | succ j => simp at hj
theorem Sl.le {G : IM} {p : Option Addr} {n c sz : Nat} {cs : List Value} (h : Sl G p n c sz cs) : n ≤ 9223372036854775807 := by
 have h1 := h.2.1; have h2 := h.2.2.1; unfold maxLen at h2; omega


abbrev A0d := List (Nat × List Value)

mutual
def OTy : Ty → List Value → A0d → Prop
 | .mk k ks, cells, bs => ∃ p c, cells = [.int .i64 k, .slice p ks.length c] ∧ D7 k ∧ ks.length ≤ c ∧ c ≤ maxLen ∧ ((ks = [] ∧ bs = []) ∨ ∃ b A C es r, p = some ⟨b, A.length, none⟩ ∧ bs = (b, A ++ (es.flatten ++ C)) :: r ∧ A3T ks es r)
def A3T : List Ty → List (List Value) → A0d → Prop
 | [], es, bs => es = [] ∧ bs = []
 | t :: ts, es, bs => ∃ e e' r1 r2, es = e :: e' ∧ bs = r1 ++ r2 ∧ OTy t e r1 ∧ A3T ts e' r2
end
def A5H (ks : List Ty) (p : Option Addr) (c : Nat) (bs : A0d) : Prop :=
 ks.length ≤ c ∧ c ≤ maxLen ∧ ((ks = [] ∧ bs = []) ∨ ∃ b A C es r, p = some ⟨b, A.length, none⟩ ∧ bs = (b, A ++ (es.flatten ++ C)) :: r ∧ A3T ks es r)
mutual
def OTm : Tm → List Value → A0d → Prop
 | .mk k nm num ty fr lb ks, cells, bs => ∃ tc fc p c bt bf bk, cells = [.int .i64 k, .string nm, .int .i64 num] ++ tc ++ fc ++ [.int .i64 lb, .slice p ks.length c] ∧ D7 k ∧ D7 num ∧ D7 lb ∧ OTy ty tc bt ∧ OTy fr fc bf ∧
   ks.length ≤ c ∧ c ≤ maxLen ∧ ((ks = [] ∧ bk = []) ∨ ∃ b A C es r, p = some ⟨b, A.length, none⟩ ∧ bk = (b, A ++ (es.flatten ++ C)) :: r ∧ A3U ks es r) ∧ bs = bt ++ (bf ++ bk)
def A3U : List Tm → List (List Value) → A0d → Prop
 | [], es, bs => es = [] ∧ bs = []
 | t :: ts, es, bs => ∃ e e' r1 r2, es = e :: e' ∧ bs = r1 ++ r2 ∧ OTm t e r1 ∧ A3U ts e' r2
end
def A80 (ks : List Tm) (p : Option Addr) (c : Nat) (bs : A0d) : Prop :=
 ks.length ≤ c ∧ c ≤ maxLen ∧ ((ks = [] ∧ bs = []) ∨ ∃ b A C es r, p = some ⟨b, A.length, none⟩ ∧ bs = (b, A ++ (es.flatten ++ C)) :: r ∧ A3U ks es r)
mutual
def A5I : Ty → Int
 | .mk _ ks => 1 + U6 ks
def U6 : List Ty → Int
 | [] => 0
 | t :: ts => A5I t + U6 ts
end
mutual
def A81 : Ty → Int → Ty
 | .mk _ ks, k => .mk k (A0Z ks (k + 1))
def A0Z : List Ty → Int → List Ty
 | [], _ => []
 | t :: ts, k => A81 t k :: A0Z ts (k + A5I t)
end
mutual
def A5J : Tm → Int
 | .mk _ _ _ ty fr _ ks => 6 + U6 ty.ks + U6 fr.ks + A5K ks
def A5K : List Tm → Int
 | [] => 0
 | t :: ts => A5J t + A5K ts
end
mutual
def A82 : Tm → Int → Tm
 | .mk _ _ _ ty fr _ ks, k => .mk k (A8W (k + 1).toNat) (k + 1 + 1) (.mk (k + 1 + 1 + 1) (A0Z ty.ks (k + 1 + 1 + 1 + 1))) (.mk (k + 1 + 1 + 1 + 1 + U6 ty.ks) (A0Z fr.ks (k + 1 + 1 + 1 + 1 + U6 ty.ks + 1))) (k + 1 + 1 + 1 + 1 + U6 ty.ks + 1 + U6 fr.ks) (A2W ks (k + 1 + 1 + 1 + 1 + U6 ty.ks + 1 + U6 fr.ks + 1))
def A2W : List Tm → Int → List Tm
 | [], _ => []
 | t :: ts, k => A82 t k :: A2W ts (k + A5J t)
end
section lend
variable {P : Program} {Γ : F8} {env : H1} {hp : List A1} {G : IM} {K : Po} {ops : Array Oper} {rest : List Oper} {ty : TypeId} {pos : String} {af : Array Edge} {gd : Option (Nat × Bool)}
def B2o (v0 : Value) (G : IM) (Φ : A0d → Prop) : IM → Value → List A1 → Prop := fun G' v outs => G' = G ∧ v = v0 ∧ ∃ bs', outs = A0L bs' ∧ Φ bs'
end lend
def MTm (t : Tm) (k : Int) (cells : List Value) (bs : A0d) : Prop := ∃ pt ct pf cf p c bt bf bk,
 cells = [.int .i64 t.k, .string t.nm, .int .i64 t.num, .int .i64 t.ty.k, .slice pt t.ty.ks.length ct, .int .i64 t.fr.k, .slice pf t.fr.ks.length cf, .int .i64 t.lb, .slice p t.ks.length c] ∧
 A5H (A0Z t.ty.ks k) pt ct bt ∧ A5H (A0Z t.fr.ks (k + U6 t.ty.ks)) pf cf bf ∧ A80 (A2W t.ks (k + U6 t.ty.ks + U6 t.fr.ks)) p c bk ∧ bs = bt ++ (bf ++ bk)
def A5L : Nat → Int → List Int
 | 0, _ => []
 | n + 1, k => k :: A5L n (k + 1)
def OIs (l : List Int) (p : Option Addr) (c : Nat) (bs : A0d) : Prop :=
 l.length ≤ c ∧ c ≤ maxLen ∧ ((l = [] ∧ bs = []) ∨ ∃ b A C, p = some ⟨b, A.length, none⟩ ∧ bs = [(b, A ++ (A2g l ++ C))])
def OPs : List (List Int) → List Value → A0d → Prop
 | [], es, bs => es = [] ∧ bs = []
 | l :: ls, es, bs => ∃ p c e' r1 r2, es = .slice p l.length c :: e' ∧ bs = r1 ++ r2 ∧ OIs l p c r1 ∧ OPs ls e' r2
def A83 : List (List Int) → Int
 | [] => 0
 | l :: ls => l.length + A83 ls
def A84 : List (List Int) → Int → List (List Int)
 | [], _ => []
 | l :: ls, k => A5L l.length k :: A84 ls (k + l.length)
section lend0
variable {P : Program} {Γ : F8} {env : H1} {G : IM} {K : Po} {ops : Array Oper} {rest : List Oper} {ty : TypeId} {pos : String} {af : Array Edge} {gd : Option (Nat × Bool)}
end lend0
def QPs (G : IM) : List (List Int) → List Value → Prop
 | [], es => es = []
 | l :: ls, es => ∃ p c r, es = .slice p l.length c :: r ∧ Sl G p l.length c 1 (A2g l) ∧ QPs G ls r
mutual
def M4 : Ty → Int
 | .mk _ ks => ks.length + U7 ks
def U7 : List Ty → Int
 | [] => 0
 | t :: ts => M4 t + U7 ts
end
mutual
def S9 : Tm → Int
 | .mk _ nm _ ty fr _ ks => nm.size + M4 ty + M4 fr + (ks.length + S4 ks)
def S4 : List Tm → Int
 | [] => 0
 | t :: ts => S9 t + S4 ts
end
mutual
theorem A00 : ∀ t : Ty, 0 ≤ M4 t
 | .mk _ ks => by have := A2h ks; rw [M4]; omega
theorem A2h : ∀ ts : List Ty, 0 ≤ U7 ts
 | [] => by rw [U7]; omega
 | t :: ts => by have := A00 t; have := A2h ts; rw [U7]; omega
end
mutual
theorem A5M : ∀ t : Tm, 0 ≤ S9 t
 | .mk _ _ _ ty fr _ ks => by have := A2X ks; have := A00 ty; have := A00 fr; rw [S9]; omega
theorem A2X : ∀ ts : List Tm, 0 ≤ S4 ts
 | [] => by rw [S4]; omega
 | t :: ts => by have := A5M t; have := A2X ts; rw [S4]; omega
end
mutual
def Tm.nok : Tm → Prop
 | .mk _ nm _ _ _ _ ks => nm.size ≤ 9223372036854775807 ∧ Tm.nokL ks
def Tm.nokL : List Tm → Prop
 | [] => True
 | t :: ts => t.nok ∧ Tm.nokL ts
end
def B2p (left s : Int) : Int := if s ≤ left then left - s else -1
end Gw
end Go.Proofs.YtgodjiieijekiaaGreatDoor
namespace Go.Proofs.YtgodjiieijekiaaGreatDoor
open Go Go.RowKit Go.ChangeShapes Go.WideShapes Go.ChangeAt
namespace Gw
def GW (w : World) : IM := fun b => match w.heap[b]? with
 | some (.cells c _ _) => some c.toList
 | _ => none
theorem A85 (w : World) : O5 [] (GW w) w := by
 refine ⟨?_, by simp, by simp [Fp], by simp [Fp]⟩
 intro b l h
 unfold GW at h
 split at h
 ·rename_i c e f hb; cases h; exact ⟨e, f, by simpa using hb⟩
 ·cases h
theorem A5N {w : World} {b o : Nat} {v : Value} (h : w.cell? ⟨b, o, none⟩ = some v) : ∃ full, GW w b = some full ∧ full[o]? = some v := by
 unfold World.cell? at h
 simp only at h
 split at h
 ·rename_i c e f hb
  exact ⟨c.toList, by simp [GW, hb], by simpa using h⟩
 ·cases h
theorem A5O {sz : Nat} : ∀ {es : List (List Value)}, (∀ e ∈ es, e.length = sz) → ∀ {j : Nat} {v : Value}, es.flatten[j]? = some v → ∃ i e r, es[i]? = some e ∧ e[r]? = some v ∧ j = i * sz + r
 | [], _, j, v, h => by simp at h
 | a :: es, hall, j, v, h => by
  have ha := hall a List.mem_cons_self
  rw [List.flatten_cons, List.getElem?_append] at h
  split at h
  ·exact ⟨0, a, j, rfl, h, by simp⟩
  ·rename_i hj
   obtain ⟨i, e, r, h1, h2, h3⟩ := A5O (fun x hx => hall x (List.mem_cons_of_mem _ hx)) h
   exact ⟨i + 1, e, r, by simpa using h1, h2, by rw [Nat.succ_mul]; omega⟩
theorem A86 {w : World} {a : Addr} {n c sz : Nat} {es : List (List Value)} (hl : es.length = n) (hsz : 0 < sz) (hc : n ≤ c) (hm : c ≤ maxLen) (h : ∀ i e, es[i]? = some e → w.cells? 0 (a.add (i * sz)) sz = some e) : Sl (GW w) (some a) n c sz es.flatten := by
 have hall : ∀ e ∈ es, e.length = sz := by
  intro e he
  obtain ⟨i, hi⟩ := List.getElem?_of_mem he
  exact (World.cells?_some (h i e hi)).2.1
 refine ⟨by rw [A3Q hall, hl], hc, hm, ?_⟩
 rcases Nat.eq_zero_or_pos n with h0 | h0
 ·exact .inl h0
 ·right
  obtain ⟨b, o, s⟩ := a
  have hs : s = none := by
   have h1 := (World.cells?_some (h 0 es[0] (List.getElem?_eq_getElem (by omega)))).2
   have h2 := h1.2 0 hsz
   rw [List.getElem?_eq_getElem (by omega)] at h2
   simp only [Nat.zero_mul, Addr.add, if_true] at h2
   unfold World.cell? at h2
   split at h2
   ·split at h2
    ·cases h2
    ·rename_i hn; cases s with
     | none => rfl
     | some x => simp at hn
   ·cases h2
  subst hs
  have key : ∀ j v, es.flatten[j]? = some v → w.cell? ⟨b, o + j, none⟩ = some v := by
   intro j v hj
   obtain ⟨i, e, r, h1, h2, rfl⟩ := A5O hall hj
   have h3 := (World.cells?_some (h i e h1)).2
   have hr : r < e.length := (List.getElem?_eq_some_iff.1 h2).1
   have h4 := h3.2 r (by omega)
   rw [h2, A1z, A1z] at h4
   rw [← Nat.add_assoc]; exact h4
  have hpos : 0 < es.flatten.length := by rw [A3Q hall, hl]; exact Nat.mul_pos h0 hsz
  obtain ⟨full, hg, _⟩ := A5N (key 0 es.flatten[0] (List.getElem?_eq_getElem hpos))
  refine ⟨b, o, full, rfl, hg, fun j v hj => ?_⟩
  obtain ⟨full', hg', hv⟩ := A5N (key j v hj)
  rw [hg] at hg'; cases hg'; exact hv
theorem F4.snoc {G : IM} : ∀ {ts : List Ty} {es : List (List Value)} {t : Ty} {e : List Value}, F4 G ts es → C5 G t e → F4 G (ts ++ [t]) (es ++ [e])
 | [], es, t, e, h, h2 => by
  simp only [F4] at h; subst h
  simp only [List.nil_append, F4]
  exact ⟨e, [], rfl, h2, rfl⟩
 | t' :: ts, es, t, e, h, h2 => by
  simp only [F4] at h
  obtain ⟨a, r, rfl, h3, h4⟩ := h
  simp only [List.cons_append, F4]
  exact ⟨a, r ++ [e], rfl, h3, F4.snoc h4 h2⟩
theorem D3.snoc {G : IM} : ∀ {ts : List Tm} {es : List (List Value)} {t : Tm} {e : List Value}, D3 G ts es → B6 G t e → D3 G (ts ++ [t]) (es ++ [e])
 | [], es, t, e, h, h2 => by
  simp only [D3] at h; subst h
  simp only [List.nil_append, D3]
  exact ⟨e, [], rfl, h2, rfl⟩
 | t' :: ts, es, t, e, h, h2 => by
  simp only [D3] at h
  obtain ⟨a, r, rfl, h3, h4⟩ := h
  simp only [List.cons_append, D3]
  exact ⟨a, r ++ [e], rfl, h3, D3.snoc h4 h2⟩
theorem F4.each {G : IM} {ts : List Ty} {es : List (List Value)} (h : F4 G ts es) : ∀ e ∈ es, e.length = 2 ∧ e.all (·.oneCell') = true := by
 intro e he
 obtain ⟨i, hi⟩ := List.getElem?_of_mem he
 have := (h.inv hi A4).2
 exact ⟨this.len, this.one⟩
theorem D3.each {G : IM} {ts : List Tm} {es : List (List Value)} (h : D3 G ts es) : ∀ e ∈ es, e.length = 9 ∧ e.all (·.oneCell') = true := by
 intro e he
 obtain ⟨i, hi⟩ := List.getElem?_of_mem he
 have := (h.inv hi (.mk 0 ⟨#[]⟩ 0 A4 A4 0 [])).2
 exact ⟨this.len, this.one⟩
section read
variable {H : Type} {enc : TypeId × Value → H} {w : World} {sp : Nat → Bool} {held : Bool}
end read
theorem Z5.below {w w' : World} (h : Z5 (Fp []) w w') : Below w.heap.size w w' := ⟨h.os, h.tape, h.output, h.size, fun k hk => h.block k hk (by simp [Fp])⟩
section post
variable {H : Type} {enc : TypeId × Value → H} {P : Program}
theorem A87 {f : Func} {s : ChangeSpec} {apart fresh handsOn again : Bool} {W W' : World} {args : Array Value} {v : Value} {ds gs : List (DataW H)} {before : List MemPlace}
  (hW : DataW.Whole enc P f.params.toList s.vars apart W args.toList ds gs before) (hb : Below W.heap.size W W') (hgs : s.vars = [])
  (hres : ∀ (b : Nat) (sp : Nat → Bool) (hd : Bool), DataW.TrodAll enc P W' b sp hd f.resultTypes.toList (v.resultList f.resultTypes.size) (s.fn H (ds ++ gs)).results [])
  (hargs : ∀ sp : Nat → Bool, (∀ p ∈ before, sp p.block = true) → DataW.TrodAll enc P W' 0 sp true f.params.toList args.toList (s.fn H (ds ++ gs)).args before)
  (hv : (s.fn H (ds ++ gs)).vars = [])
  (hok : ∀ (j : Nat) (t : TypeId) (r : Value), f.resultTypes[j]? = some t → (v.resultList f.resultTypes.size)[j]? = some r → Value.okWide P W' .any 0 t r) :
  s.post enc P f apart fresh handsOn again W args v W' := by
 have hold : ∀ p ∈ before, (fun b => decide (b < W.heap.size)) p.block = true := fun p hp => by simpa using hW.lt p hp
 have hvars : ∀ sp : Nat → Bool, DataW.TrodVars enc P W' sp s.vars (s.fn H (ds ++ gs)).vars [] := fun sp => by rw [hgs, hv]; rfl
 have hkept : W.keptBut W' (fun _ => False) := by
  refine ⟨hb.os, hb.output, fun i hi => ?_⟩
  rw [hb.block i hi]
  split
  ·rename_i h1 h2; cases h1.symm.trans h2; exact ⟨rfl, rfl, rfl, fun _ _ => rfl⟩
  ·rename_i h1 h2; cases h1.symm.trans h2; exact .inr ⟨rfl, rfl⟩
  ·rfl
 refine ⟨ds, gs, before, [], before, [], hW, hres _ _ _, hargs _ hold, hvars _, World.keptBut_mono (fun p hp => hp.elim) hkept, fun _ => ?_⟩
 obtain ⟨_, _, _, _, _, hz, hn⟩ := hW
 refine ⟨hok, _, _, ([] ++ before) ++ [], ⟨[] ++ before, [], trodAll_append (hargs _ (fun _ _ => rfl)) (hres _ _ _), hvars _, rfl, ?_, ?_⟩, ?_⟩
 ·intro b off hp
  have hp' : MemPlace.cell b off ∈ before := by simpa using hp
  have hlt : b < W.heap.size := of_decide_eq_true (hold _ hp')
  have := hz b off hp'
  unfold World.frozen? at this ⊢
  simp only [hb.block b hlt]
  exact this
 ·intro ha; simpa using hn ha
 ·intro p hp _; simpa using hp
end post
def A0t (G : IM) : Prop := ∃ g, Tryz.prog.globalNamed "internal/strconv.uint64pow10" = some g ∧ G g = some (Lib.pow10Tab.map fun z => Value.int .u64 z)
theorem A0t.mono {G G' : IM} (h : A0t G) (hg : A9 G G') : A0t G' := by
 obtain ⟨g, h1, h2⟩ := h
 exact ⟨g, h1, hg g _ h2⟩
theorem A88 {G : IM} {w : World} (hw : O5 [] G w) (k : Nat) (os : Array Obj) : N3 [] G w [] G (Sort.grow (w.drewN k) os) := by
 have hb : ∀ b, b < w.heap.size → (Sort.grow (w.drewN k) os).heap[b]? = w.heap[b]? := by
  intro b h
  show (w.heap ++ os)[b]? = _
  rw [Array.getElem?_append_left h]
 refine ⟨⟨?_, by simp, by simp [Fp], by simp [Fp]⟩, ⟨rfl, rfl, rfl, ?_, fun b h _ => hb b h⟩, A9.refl _, fun _ _ h => .inl h, by simp [Fp], fun b l h h0 => absurd h (by rw [h0]; simp)⟩
 ·intro b l h
  obtain ⟨e, f, hh⟩ := hw.inn b l h
  exact ⟨e, f, by rw [hb b (X4 hh)]; exact hh⟩
 ·show w.heap.size ≤ (w.heap ++ os).size
  simp
end Gw
end Go.Proofs.YtgodjiieijekiaaGreatDoor
namespace Go.Proofs.YtgodjiieijekiaaGreatDoor
open Go Go.RowKit Go.ChangeShapes Go.WideShapes Go.ChangeAt
namespace Gw
theorem A3V : Tryz.prog.globalNamed "internal/strconv.uint64pow10" = some 1 := by kernel_rfl
theorem A89 : (Tryz.prog.globals[1]?).map (·.type) = some 212 := by kernel_rfl
theorem A9a : Tryz.prog.cellsOf 212 = 20 := by kernel_rfl
theorem A9b : Tryz.prog.cellsOf 194 = 1 := by kernel_rfl
def B2q : List (String × DataW Unit) := [("math/bits.deBruijn32tab", Rows.laid_math_bits_deBruijn32tab), ("math/bits.deBruijn64tab", Rows.laid_math_bits_deBruijn64tab), ("internal/strconv.uint64pow10", Rows.laid_internal_strconv_uint64pow10)]
def A1H : DataW Unit → Array Value
 | .agg xs => (xs.map fun | .lit (.int k n) => Value.int k n | _ => .int .i64 0).toArray
 | _ => #[]
def A01 (xs : Array Value) : Obj → Obj
 | .cells _ t f => .cells xs t f
 | o => o
noncomputable def B2r (os : Os) : World :=
 { World.holding Tryz.prog os ⟨#[], #[], []⟩ with heap := (((World.holding Tryz.prog os ⟨#[], #[], []⟩).heap.modify 1 (A01 (A1H Rows.laid_internal_strconv_uint64pow10))).modify 4 (A01 (A1H Rows.laid_math_bits_deBruijn32tab))).modify 5 (A01 (A1H Rows.laid_math_bits_deBruijn64tab)) }
theorem A9c (G : IM) (p : Option Addr) (n c : Nat) (es : List (List Value)) (hsl : D0 G p n c 2 es) (fid : FuncId) [B1 Tryz.prog fid] (us cs : List Value) (ins : List A1) (q : Nat → Bool)
  (hq : ∀ i e, es[i]? = some e → Fn Tryz.prog fid (us ++ [.agg ⟨e⟩] ++ cs) ins G (T3 (.bool (q i)) ins G)) :
  Fn Tryz.prog 136 [.slice p n c, .func (.func fid) ⟨us⟩ ⟨cs⟩] ins G (T3 (.int .i64 (A0a q n)) ins G) := by
 have hn := hsl.le
 refine B5 Tryz.func136 rfl Tryz.ntmps136 Tryz.results136 rfl ?_
 intro w0
 refine H3 ?_
 refine D2 ?_
 refine Q5 (fun i : Nat => ⟨[(8, .int .i64 i), (7, .int .i64 n), (1, .func (.func fid) ⟨us⟩ ⟨cs⟩), (0, .slice p n c)], ins, G⟩) (fun i => i ≤ n ∧ ∀ j, j < i → q j = false) (fun i => n - i) 0 ?_ ?_ ?_
 exact I9
 exact ⟨by omega, by omega⟩
 rintro i ⟨hi, hf⟩
 refine tS (tR ?_)
 refine sB (M9 rfl rfl) rfl rfl (fun h21 => ?_) (fun h21 => ?_)
 refine sD (nS (tS (qT rfl (tK (nS (tS ?_))))))
 refine D2 ?_
 refine I3 ?_
 (obtain ⟨e, b, o, he, rfl, hl, _, hat, _⟩ := hsl.get (i := i) (by omega); refine sP (L9 rfl rfl rfl (by omega)) rfl rfl ?_)
 refine sL (C4 rfl rfl (hat _) hl) rfl rfl ?_
 refine A3M rfl rfl (hq i e he) A0X rfl rfl (fun h43 => ?_) (fun h43 => ?_)
 refine L6 ?_
 refine B2 (rT rfl) A2.refl ?_
 exact ⟨rfl, by rw [A8M (by omega) hf (by assumption)], rfl⟩
 refine sD (nS (cF rfl (tK (P7 (nS (tR ?_))))))
 refine sP (O6 rfl rfl (by omega) (by omega)) rfl rfl ?_
 refine sQ (qM rfl) rfl (sD ?_)
 refine P5 (i + 1) ?_ ?_ ?_
 exact I9
 exact ⟨by omega, fun j hj => by by_cases hji : j = i; (subst hji; assumption); exact hf j (by omega)⟩
 omega
 refine L6 ?_
 refine B2 (rT rfl) A2.refl ?_
 exact ⟨rfl, by rw [A5t (fun j hj => hf j (by omega))], rfl⟩
theorem A9d (G : IM) (p : Option Addr) (n c : Nat) (es : List (List Value)) (hsl : D0 G p n c 2 es) (fid : FuncId) [B1 Tryz.prog fid] (us cs : List Value) (ins : List A1) (q : Nat → Bool)
  (hq : ∀ i e, es[i]? = some e → Fn Tryz.prog fid (us ++ [.agg ⟨e⟩] ++ cs) ins G (T3 (.bool (q i)) ins G)) :
  Fn Tryz.prog 73 [.slice p n c, .func (.func fid) ⟨us⟩ ⟨cs⟩] ins G (T3 (.bool (decide (0 ≤ A0a q n))) ins G) := by
 refine B5 Tryz.func73 rfl Tryz.ntmps73 Tryz.results73 rfl ?_
 intro w0
 refine C2 ?_
 refine A3L rfl (A9c G p n c es hsl fid us cs ins q hq) A0X rfl rfl ?_
 refine sQ (P6 rfl rfl) rfl ?_
 refine sQ (qA rfl) rfl (sD (nS (tT ?_)))
 refine B2 (rT rfl) A2.refl ?_
 exact ⟨rfl, rfl, rfl⟩
theorem A2i (G : IM) (p : Option Addr) (n c : Nat) (es : List (List Value)) (hsl : D0 G p n c 2 es) (fid : FuncId) [B1 Tryz.prog fid] (us cs : List Value) (ins : List A1) (f : Ty → Bool) (ks : List Ty)
  (hn : ks.length = n) {A : Bool} (hA : ks.all f = A) (hq : ∀ i e, es[i]? = some e → Fn Tryz.prog fid (us ++ [.agg ⟨e⟩] ++ cs) ins G (T3 (.bool (!f (ks.getD i A4))) ins G)) :
  Fn Tryz.prog 73 [.slice p n c, .func (.func fid) ⟨us⟩ ⟨cs⟩] ins G (T3 (.bool (!A)) ins G) := by
 subst hn hA
 rw [← A8O f ks A4]
 exact A9d G p _ c es hsl fid us cs ins _ hq
theorem A5P (G : IM) (p p' : Option Addr) (n c n' c' : Nat) (es es' : List (List Value)) (hsl : D0 G p n c 2 es) (hsl' : D0 G p' n' c' 2 es') (fid : FuncId) [B1 Tryz.prog fid] (us cs : List Value) (ins : List A1) (q : Nat → Bool)
  (A : Bool) (hA : A = true ↔ n = n' ∧ ∀ i, i < n → q i = true)
  (hq : ∀ i e e', es[i]? = some e → es'[i]? = some e' → Fn Tryz.prog fid (us ++ [.agg ⟨e⟩, .agg ⟨e'⟩] ++ cs) ins G (T3 (.bool (q i)) ins G)) :
  Fn Tryz.prog 95 [.slice p n c, .slice p' n' c', .func (.func fid) ⟨us⟩ ⟨cs⟩] ins G (T3 (.bool A) ins G) := by
 have hn := hsl.le
 have hn' := hsl'.le
 refine B5 Tryz.func95 rfl Tryz.ntmps95 Tryz.results95 rfl ?_
 intro w0
 refine Q6 ?_
 refine sB (N8 rfl rfl) rfl rfl (fun h13 => ?_) (fun h13 => ?_)
 refine O2 ?_
 refine B2 (outs := ins) (rT rfl) (by first | exact A2.refl | exact A2.drop (A2.drop A2.refl)) ?_
 exact ⟨rfl, by (cases A with | false => rfl | true => exact absurd (hA.1 rfl).1 (by omega)), rfl⟩
 refine H3 ?_
 refine D2 (Q5 (fun i : Nat => ⟨[(17, .int .i64 i), (16, .int .i64 n), (15, .slice p n c), (2, .func (.func fid) ⟨us⟩ ⟨cs⟩), (1, .slice p' n' c'), (0, .slice p n c)], ins, G⟩) (fun i => i ≤ n ∧ ∀ j, j < i → q j = true) (fun i => n - i) 0 ?_ ?_ ?_)
 exact I9
 exact ⟨by omega, by omega⟩
 rintro i ⟨hi, hf⟩
 refine tS (tR ?_)
 refine sB (M9 rfl rfl) rfl rfl (fun h46 => ?_) (fun h46 => ?_)
 refine sD (nS (tS (qT rfl (tK (nS (tS ?_))))))
 refine D2 ?_
 refine tS (tR (sQ (qM rfl) rfl ?_))
 (obtain ⟨e, b, o, he, rfl, hl, _, hat, _⟩ := hsl.get (i := i) (by omega); refine sP (L9 rfl rfl rfl (by omega)) rfl rfl ?_)
 refine sL (C4 rfl rfl (hat _) hl) rfl rfl ?_
 refine sE (C0 rfl) rfl (fun b60 => ?_)
 refine sQ (qA rfl) rfl ?_
 refine S0 rfl rfl rfl (by assumption) (by assumption) rfl (by repeat first | exact Sw.here | apply Sw.there) (by exact M1 (by symm; assumption)) ?_
 refine sD (nS (tS (tR (sQ (qM rfl) rfl (sQ (qM rfl) rfl ?_)))))
 (obtain ⟨e', b', o', he', rfl, hl', _, hat', _⟩ := hsl'.get (i := i) (by omega); refine sP (L9 rfl rfl rfl (by omega)) rfl rfl ?_)
 refine sL (C4 rfl rfl (hat' _) hl') rfl rfl ?_
 refine sE (C0 rfl) rfl (fun b71 => ?_)
 refine S0 rfl rfl rfl (by assumption) (by assumption) rfl (by repeat first | exact Sw.here | apply Sw.there) (by exact M1 (by symm; assumption)) ?_
 refine sD (nS (tS (tR (sQ (qM rfl) rfl ?_))))
 refine sL (C4 rfl rfl (E7 (by repeat first | exact mH | apply mT)) (by assumption)) rfl rfl ?_
 refine sL (C4 rfl rfl (E7 (by repeat first | exact mH | apply mT)) (by assumption)) rfl rfl ?_
 refine A3M rfl rfl (hq i e e' he he') A5n rfl rfl (fun h80 => ?_) (fun h80 => ?_)
 refine E0 ?_
 refine sP (O6 rfl rfl (by omega) (by omega)) rfl rfl ?_
 refine sQ (qM rfl) rfl (sD ?_)
 refine P5 (i + 1) ?_ ?_ ?_
 exact I9
 exact ⟨by omega, fun j hj => by by_cases hji : j = i; (subst hji; assumption); exact hf j (by omega)⟩
 omega
 refine L6 ?_
 refine B2 (outs := ins) (rT rfl) (by first | exact A2.refl | exact A2.drop (A2.drop A2.refl)) ?_
 exact ⟨rfl, by (cases A with | false => rfl | true => have h0 := (hA.1 rfl).2 i (by omega); simp_all), rfl⟩
 refine L6 ?_
 refine B2 (outs := ins) (rT rfl) (by first | exact A2.refl | exact A2.drop (A2.drop A2.refl)) ?_
 exact ⟨rfl, by rw [hA.2 ⟨by omega, fun j hj => hf j (by omega)⟩], rfl⟩
theorem A0u (n lo hi : Int) (G : IM) : Fn Tryz.prog 69 [.int .i64 n, .int .i64 lo, .int .i64 hi] [] G (J8 (.bool (U3 n lo hi)) G) := by
 refine B5 Tryz.func69 rfl Tryz.ntmps69 Tryz.results69 rfl ?_
 intro w0
 refine C2 ?_
 refine sB (T2 rfl rfl) rfl rfl (fun h10 => ?_) (fun h10 => ?_)
 refine sQ (qM rfl) rfl (sQ (qM rfl) rfl (sQ (qM rfl) rfl ?_))
 refine sB (T2 rfl rfl) rfl rfl (fun h14 => ?_) (fun h14 => ?_)
 refine K8 ?_
 exact ⟨rfl, by simp [U3]; omega, rfl⟩
 refine K8 ?_
 exact ⟨rfl, by simp [U3]; omega, rfl⟩
 refine O2 ?_
 exact ⟨rfl, by simp [U3]; omega, rfl⟩
theorem A5Q (k : Int) (G : IM) : Fn Tryz.prog 123 [.int .i64 k] [] G (J8 (.agg ⟨[.int .i64 k, .slice none 0 0]⟩) G) := by
 refine B5 Tryz.func123 rfl Tryz.ntmps123 Tryz.results123 rfl ?_
 intro w0
 refine tS (tR ?_)
 refine sE (C0 rfl) rfl (fun b3 => ?_)
 refine O2 ?_
 refine F0 (rC rfl (A7 rfl rfl)) ?_
 exact ⟨rfl, rfl, rfl⟩
theorem A9e (n : Int) (G : IM) : Fn Tryz.prog 162 [.int .i64 n] [] G (J8 (.bool (A0c n)) G) := by
 refine B5 Tryz.func162 rfl Tryz.ntmps162 Tryz.results162 rfl ?_
 intro w0
 refine E0 ?_
 refine H7 rfl (A0u _ _ _ _) rfl rfl (fun h9 => ?_) (fun h9 => ?_)
 refine C2 ?_
 exact ⟨rfl, by simp [A0c, *], rfl⟩
 refine sQ (qM rfl) rfl (sQ (qM rfl) rfl ?_)
 refine H7 rfl (A0u _ _ _ _) rfl rfl (fun h22 => ?_) (fun h22 => ?_)
 refine K8 ?_
 exact ⟨rfl, by simp [A0c, *], rfl⟩
 refine K8 ?_
 exact ⟨rfl, by simp [A0c, *], rfl⟩
theorem A5R (t : Ty) (G : IM) (cells : List Value) (hr : C5 G t cells) : Fn Tryz.prog 160 [.agg ⟨cells⟩] [] G (J8 (.bool (S8 t)) G) := by
 obtain ⟨p, c, es, rfl, hk, hsl, hkl⟩ := hr.open
 refine B5 Tryz.func160 rfl Tryz.ntmps160 Tryz.results160 rfl ?_
 intro w0
 refine tS (tR ?_)
 refine sE (K0 rfl rfl) rfl (fun b3 => ?_)
 refine B8 ?_
 refine sB (qE rfl rfl) rfl rfl (fun h11 => ?_) (fun h11 => ?_)
 refine I5 ?_
 refine sB (qE rfl rfl) rfl rfl (fun h16 => ?_) (fun h16 => ?_)
 refine K8 ?_
 exact ⟨rfl, by simp only [S8]; (first | rw [decide_eq_true (by omega)] | rw [decide_eq_false (by omega)]), rfl⟩
 refine K8 ?_
 exact ⟨rfl, by simp only [S8]; (first | rw [decide_eq_true (by omega)] | rw [decide_eq_false (by omega)]), rfl⟩
 refine I3 ?_
 exact ⟨rfl, by simp only [S8]; (first | rw [decide_eq_true (by omega)] | rw [decide_eq_false (by omega)]), rfl⟩
theorem A9f (s : ByteArray) (G : IM) : Fn Tryz.prog 158 [.string s] [] G (J8 (.bool (S2 s)) G) := by
 refine B5 Tryz.func158 rfl Tryz.ntmps158 Tryz.results158 rfl ?_
 intro w0
 refine E0 ?_
 refine sQ (M0 rfl rfl) rfl (sB (qE rfl rfl) rfl rfl (fun h10 => ?_) (fun h10 => ?_))
 refine sQ (qM rfl) rfl (sQ (qM rfl) rfl ?_)
 refine sP (N1 rfl rfl rfl (by omega) (A2Q (by omega))) rfl rfl ?_
 refine sB (P6 rfl rfl) rfl rfl (fun h14 => ?_) (fun h14 => ?_)
 refine sQ (L4 rfl rfl) rfl (sQ (qM rfl) rfl (sQ (qM rfl) rfl ?_))
 refine sP (N1 rfl rfl rfl (by omega) (A2Q (by omega))) rfl rfl ?_
 refine sB (T2 rfl rfl) rfl rfl (fun h19 => ?_) (fun h19 => ?_)
 refine K8 ?_
 exact ⟨rfl, by simp only [S2]; (try simp only [Int.toNat_zero] at *); (first | rw [decide_eq_true (by omega)] | rw [decide_eq_false (by omega)]), rfl⟩
 refine K8 ?_
 exact ⟨rfl, by simp only [S2]; (try simp only [Int.toNat_zero] at *); (first | rw [decide_eq_true (by omega)] | rw [decide_eq_false (by omega)]), rfl⟩
 refine I3 ?_
 exact ⟨rfl, by simp only [S2]; (try simp only [Int.toNat_zero] at *); (first | rw [decide_eq_true (by omega)] | rw [decide_eq_false (by omega)]), rfl⟩
 refine L6 ?_
 exact ⟨rfl, by simp only [S2]; (try simp only [Int.toNat_zero] at *); (first | rw [decide_eq_true (by omega)] | rw [decide_eq_false (by omega)]), rfl⟩
theorem A2j (G : IM) (e : List Value) (d : Int) (b : Bool) (bd : Nat) (hl : e.length = 2) (hd : 0 ≤ d ∧ d ≤ 5) (h : Fn Tryz.prog 192 [.agg ⟨e⟩, .int .i64 (d + 1)] [] G (J8 (.bool b) G)) :
  Fn Tryz.prog 217 [.agg ⟨e⟩, .pointer (some ⟨bd, 0, none⟩)] [.blk bd [.int .i64 d]] G (T3 (.bool (!b)) [.blk bd [.int .i64 d]] G) := by
 refine B5 Tryz.func217 rfl Tryz.ntmps217 Tryz.results217 rfl ?_
 intro w0
 refine tS (tR ?_)
 refine sE (K0 rfl rfl) rfl (fun b3 => ?_)
 refine sQ (qA rfl) rfl (sD (nS (tS (tR ?_))))
 refine sL (C4 rfl rfl (E7 (by repeat first | exact mH | apply mT)) (by assumption)) rfl rfl ?_
 refine sL (C1 rfl rfl) rfl rfl ?_
 refine sP (O6 rfl rfl (by omega) (by omega)) rfl rfl ?_
 refine H7 rfl (h) rfl rfl (fun h12 => ?_) (fun h12 => ?_)
 refine sQ (pNt rfl) rfl (sQ (qA rfl) rfl (sD (nS (tT ?_))))
 refine B2 (rT rfl) (A2.cons (Pk.there Pk.here) A2.nil) ?_
 exact ⟨rfl, by simp [*], rfl⟩
 refine sQ (pNf rfl) rfl (sQ (qA rfl) rfl (sD (nS (tT ?_))))
 refine B2 (rT rfl) (A2.cons (Pk.there Pk.here) A2.nil) ?_
 exact ⟨rfl, by simp [*], rfl⟩
theorem A9g : ∀ (t : Ty) (d : Int) (G : IM) (cells : List Value), 0 ≤ d ∧ d ≤ 5 → C5 G t cells →
  Fn Tryz.prog 192 [.agg ⟨cells⟩, .int .i64 d] [] G (J8 (.bool (H5 t d)) G) := by
 refine Ty.ind fun k ks ih d G cells hd hr => ?_
 obtain ⟨p, c, es, rfl, hk, hsl, hkl⟩ := hr.open
 simp only [Ty.k, Ty.ks] at hk hsl hkl ⊢
 have hn := hsl.le
 obtain ⟨A, hA⟩ : ∃ A, ks.all (H5 · (d + 1)) = A := ⟨_, rfl⟩
 refine B5 Tryz.func192 rfl Tryz.ntmps192 Tryz.results192 rfl ?_
 intro w0
 refine tS (tR ?_)
 refine sE (K0 rfl rfl) rfl (fun b3 => ?_)
 (refine D1 (A17 rfl rfl rfl) rfl ?_; rintro _ ⟨b4, rfl⟩)
 refine L6 ?_
 refine D2 (tS (tS (tR (sB (qE rfl rfl) rfl rfl (fun h24 => ?_) (fun h24 => ?_)))))
 refine L6 ?_
 refine sB (T2 rfl rfl) rfl rfl (fun h40 => ?_) (fun h40 => ?_)
 refine P9 ?_
 refine sB (qE rfl rfl) rfl rfl (fun h46 => ?_) (fun h46 => ?_)
 refine I5 ?_
 refine sQ (A0l rfl rfl) rfl (A2a rfl (A2i _ _ _ _ _ hsl _ [] _ [.blk b4 [.int .i64 d]] (H5 · (d + 1)) ks rfl hA (fun i e he => A2j _ _ _ _ _ (hsl.all e (List.mem_of_getElem? he)) hd (ih _ (hkl.inv he A4).1 _ _ _ (by omega) (hkl.inv he A4).2))) A0X rfl rfl (fun h52 => ?_) (fun h52 => ?_))
 simp only [Bool.not_eq_true', Bool.not_eq_false'] at h52
 refine B8 ?_
 exact ⟨rfl, by (rw [H5, Q0, hA]; have := K5 k; first | (rw [decide_eq_true (by omega), decide_eq_true (by omega)]; simp only [*]; done) | (rw [decide_eq_true (by omega), decide_eq_true (by omega)]; simp only [*]; rfl) | (rw [decide_eq_false (by omega)]; rfl) | (rw [decide_eq_true (by omega), decide_eq_false (by omega)]; rfl)), rfl⟩
 simp only [Bool.not_eq_true', Bool.not_eq_false'] at h52
 refine B8 ?_
 exact ⟨rfl, by (rw [H5, Q0, hA]; have := K5 k; first | (rw [decide_eq_true (by omega), decide_eq_true (by omega)]; simp only [*]; done) | (rw [decide_eq_true (by omega), decide_eq_true (by omega)]; simp only [*]; rfl) | (rw [decide_eq_false (by omega)]; rfl) | (rw [decide_eq_true (by omega), decide_eq_false (by omega)]; rfl)), rfl⟩
 refine H3 ?_
 exact ⟨rfl, by (rw [H5, Q0, hA]; have := K5 k; first | (rw [decide_eq_true (by omega), decide_eq_true (by omega)]; simp only [*]; done) | (rw [decide_eq_true (by omega), decide_eq_true (by omega)]; simp only [*]; rfl) | (rw [decide_eq_false (by omega)]; rfl) | (rw [decide_eq_true (by omega), decide_eq_false (by omega)]; rfl)), rfl⟩
 refine W3 ?_
 exact ⟨rfl, by (rw [H5, Q0, hA]; have := K5 k; first | (rw [decide_eq_true (by omega), decide_eq_true (by omega)]; simp only [*]; done) | (rw [decide_eq_true (by omega), decide_eq_true (by omega)]; simp only [*]; rfl) | (rw [decide_eq_false (by omega)]; rfl) | (rw [decide_eq_true (by omega), decide_eq_false (by omega)]; rfl)), rfl⟩
 refine sQ (qA rfl) rfl (sD (nS (cF rfl (tS (tR ?_)))))
 refine sB (qE rfl rfl) rfl rfl (fun h109 => ?_) (fun h109 => ?_)
 refine L6 ?_
 refine sB (T2 rfl rfl) rfl rfl (fun h125 => ?_) (fun h125 => ?_)
 refine P9 ?_
 refine sB (qE rfl rfl) rfl rfl (fun h131 => ?_) (fun h131 => ?_)
 refine I5 ?_
 refine sQ (A0l rfl rfl) rfl (A2a rfl (A2i _ _ _ _ _ hsl _ [] _ [.blk b4 [.int .i64 d]] (H5 · (d + 1)) ks rfl hA (fun i e he => A2j _ _ _ _ _ (hsl.all e (List.mem_of_getElem? he)) hd (ih _ (hkl.inv he A4).1 _ _ _ (by omega) (hkl.inv he A4).2))) A0X rfl rfl (fun h137 => ?_) (fun h137 => ?_))
 simp only [Bool.not_eq_true', Bool.not_eq_false'] at h137
 refine B8 ?_
 exact ⟨rfl, by (rw [H5, Q0, hA]; have := K5 k; first | (rw [decide_eq_true (by omega), decide_eq_true (by omega)]; simp only [*]; done) | (rw [decide_eq_true (by omega), decide_eq_true (by omega)]; simp only [*]; rfl) | (rw [decide_eq_false (by omega)]; rfl) | (rw [decide_eq_true (by omega), decide_eq_false (by omega)]; rfl)), rfl⟩
 simp only [Bool.not_eq_true', Bool.not_eq_false'] at h137
 refine B8 ?_
 exact ⟨rfl, by (rw [H5, Q0, hA]; have := K5 k; first | (rw [decide_eq_true (by omega), decide_eq_true (by omega)]; simp only [*]; done) | (rw [decide_eq_true (by omega), decide_eq_true (by omega)]; simp only [*]; rfl) | (rw [decide_eq_false (by omega)]; rfl) | (rw [decide_eq_true (by omega), decide_eq_false (by omega)]; rfl)), rfl⟩
 refine H3 ?_
 exact ⟨rfl, by (rw [H5, Q0, hA]; have := K5 k; first | (rw [decide_eq_true (by omega), decide_eq_true (by omega)]; simp only [*]; done) | (rw [decide_eq_true (by omega), decide_eq_true (by omega)]; simp only [*]; rfl) | (rw [decide_eq_false (by omega)]; rfl) | (rw [decide_eq_true (by omega), decide_eq_false (by omega)]; rfl)), rfl⟩
 refine W3 ?_
 exact ⟨rfl, by (rw [H5, Q0, hA]; have := K5 k; first | (rw [decide_eq_true (by omega), decide_eq_true (by omega)]; simp only [*]; done) | (rw [decide_eq_true (by omega), decide_eq_true (by omega)]; simp only [*]; rfl) | (rw [decide_eq_false (by omega)]; rfl) | (rw [decide_eq_true (by omega), decide_eq_false (by omega)]; rfl)), rfl⟩
 refine sQ (qA rfl) rfl (sD (nS (cF rfl (tR ?_))))
 refine sB (qE rfl rfl) rfl rfl (fun h193 => ?_) (fun h193 => ?_)
 refine Q6 ?_
 refine sB (T2 rfl rfl) rfl rfl (fun h206 => ?_) (fun h206 => ?_)
 refine P9 ?_
 refine sB (qE rfl rfl) rfl rfl (fun h212 => ?_) (fun h212 => ?_)
 refine I5 ?_
 refine sQ (A0l rfl rfl) rfl (A2a rfl (A2i _ _ _ _ _ hsl _ [] _ [.blk b4 [.int .i64 d]] (H5 · (d + 1)) ks rfl hA (fun i e he => A2j _ _ _ _ _ (hsl.all e (List.mem_of_getElem? he)) hd (ih _ (hkl.inv he A4).1 _ _ _ (by omega) (hkl.inv he A4).2))) A0X rfl rfl (fun h218 => ?_) (fun h218 => ?_))
 simp only [Bool.not_eq_true', Bool.not_eq_false'] at h218
 refine B8 ?_
 exact ⟨rfl, by (rw [H5, Q0, hA]; have := K5 k; first | (rw [decide_eq_true (by omega), decide_eq_true (by omega)]; simp only [*]; done) | (rw [decide_eq_true (by omega), decide_eq_true (by omega)]; simp only [*]; rfl) | (rw [decide_eq_false (by omega)]; rfl) | (rw [decide_eq_true (by omega), decide_eq_false (by omega)]; rfl)), rfl⟩
 simp only [Bool.not_eq_true', Bool.not_eq_false'] at h218
 refine B8 ?_
 exact ⟨rfl, by (rw [H5, Q0, hA]; have := K5 k; first | (rw [decide_eq_true (by omega), decide_eq_true (by omega)]; simp only [*]; done) | (rw [decide_eq_true (by omega), decide_eq_true (by omega)]; simp only [*]; rfl) | (rw [decide_eq_false (by omega)]; rfl) | (rw [decide_eq_true (by omega), decide_eq_false (by omega)]; rfl)), rfl⟩
 refine H3 ?_
 exact ⟨rfl, by (rw [H5, Q0, hA]; have := K5 k; first | (rw [decide_eq_true (by omega), decide_eq_true (by omega)]; simp only [*]; done) | (rw [decide_eq_true (by omega), decide_eq_true (by omega)]; simp only [*]; rfl) | (rw [decide_eq_false (by omega)]; rfl) | (rw [decide_eq_true (by omega), decide_eq_false (by omega)]; rfl)), rfl⟩
 refine W3 ?_
 exact ⟨rfl, by (rw [H5, Q0, hA]; have := K5 k; first | (rw [decide_eq_true (by omega), decide_eq_true (by omega)]; simp only [*]; done) | (rw [decide_eq_true (by omega), decide_eq_true (by omega)]; simp only [*]; rfl) | (rw [decide_eq_false (by omega)]; rfl) | (rw [decide_eq_true (by omega), decide_eq_false (by omega)]; rfl)), rfl⟩
 refine sQ (qA rfl) rfl (sD (nS (cF rfl (tS (tS (tR ?_))))))
 refine sB (qE rfl rfl) rfl rfl (fun h276 => ?_) (fun h276 => ?_)
 refine L6 ?_
 refine sB (T2 rfl rfl) rfl rfl (fun h292 => ?_) (fun h292 => ?_)
 refine P9 ?_
 refine sB (qE rfl rfl) rfl rfl (fun h298 => ?_) (fun h298 => ?_)
 refine I5 ?_
 refine sQ (A0l rfl rfl) rfl (A2a rfl (A2i _ _ _ _ _ hsl _ [] _ [.blk b4 [.int .i64 d]] (H5 · (d + 1)) ks rfl hA (fun i e he => A2j _ _ _ _ _ (hsl.all e (List.mem_of_getElem? he)) hd (ih _ (hkl.inv he A4).1 _ _ _ (by omega) (hkl.inv he A4).2))) A0X rfl rfl (fun h304 => ?_) (fun h304 => ?_))
 simp only [Bool.not_eq_true', Bool.not_eq_false'] at h304
 refine B8 ?_
 exact ⟨rfl, by (rw [H5, Q0, hA]; have := K5 k; first | (rw [decide_eq_true (by omega), decide_eq_true (by omega)]; simp only [*]; done) | (rw [decide_eq_true (by omega), decide_eq_true (by omega)]; simp only [*]; rfl) | (rw [decide_eq_false (by omega)]; rfl) | (rw [decide_eq_true (by omega), decide_eq_false (by omega)]; rfl)), rfl⟩
 simp only [Bool.not_eq_true', Bool.not_eq_false'] at h304
 refine B8 ?_
 exact ⟨rfl, by (rw [H5, Q0, hA]; have := K5 k; first | (rw [decide_eq_true (by omega), decide_eq_true (by omega)]; simp only [*]; done) | (rw [decide_eq_true (by omega), decide_eq_true (by omega)]; simp only [*]; rfl) | (rw [decide_eq_false (by omega)]; rfl) | (rw [decide_eq_true (by omega), decide_eq_false (by omega)]; rfl)), rfl⟩
 refine H3 ?_
 exact ⟨rfl, by (rw [H5, Q0, hA]; have := K5 k; first | (rw [decide_eq_true (by omega), decide_eq_true (by omega)]; simp only [*]; done) | (rw [decide_eq_true (by omega), decide_eq_true (by omega)]; simp only [*]; rfl) | (rw [decide_eq_false (by omega)]; rfl) | (rw [decide_eq_true (by omega), decide_eq_false (by omega)]; rfl)), rfl⟩
 refine W3 ?_
 exact ⟨rfl, by (rw [H5, Q0, hA]; have := K5 k; first | (rw [decide_eq_true (by omega), decide_eq_true (by omega)]; simp only [*]; done) | (rw [decide_eq_true (by omega), decide_eq_true (by omega)]; simp only [*]; rfl) | (rw [decide_eq_false (by omega)]; rfl) | (rw [decide_eq_true (by omega), decide_eq_false (by omega)]; rfl)), rfl⟩
 refine sQ (qA rfl) rfl (sD (nS (cF rfl (tR ?_))))
 refine sB (qE rfl rfl) rfl rfl (fun h360 => ?_) (fun h360 => ?_)
 refine Q6 ?_
 refine sB (T2 rfl rfl) rfl rfl (fun h373 => ?_) (fun h373 => ?_)
 refine P9 ?_
 refine sB (qE rfl rfl) rfl rfl (fun h379 => ?_) (fun h379 => ?_)
 refine I5 ?_
 refine sQ (A0l rfl rfl) rfl (A2a rfl (A2i _ _ _ _ _ hsl _ [] _ [.blk b4 [.int .i64 d]] (H5 · (d + 1)) ks rfl hA (fun i e he => A2j _ _ _ _ _ (hsl.all e (List.mem_of_getElem? he)) hd (ih _ (hkl.inv he A4).1 _ _ _ (by omega) (hkl.inv he A4).2))) A0X rfl rfl (fun h385 => ?_) (fun h385 => ?_))
 simp only [Bool.not_eq_true', Bool.not_eq_false'] at h385
 refine B8 ?_
 exact ⟨rfl, by (rw [H5, Q0, hA]; have := K5 k; first | (rw [decide_eq_true (by omega), decide_eq_true (by omega)]; simp only [*]; done) | (rw [decide_eq_true (by omega), decide_eq_true (by omega)]; simp only [*]; rfl) | (rw [decide_eq_false (by omega)]; rfl) | (rw [decide_eq_true (by omega), decide_eq_false (by omega)]; rfl)), rfl⟩
 simp only [Bool.not_eq_true', Bool.not_eq_false'] at h385
 refine B8 ?_
 exact ⟨rfl, by (rw [H5, Q0, hA]; have := K5 k; first | (rw [decide_eq_true (by omega), decide_eq_true (by omega)]; simp only [*]; done) | (rw [decide_eq_true (by omega), decide_eq_true (by omega)]; simp only [*]; rfl) | (rw [decide_eq_false (by omega)]; rfl) | (rw [decide_eq_true (by omega), decide_eq_false (by omega)]; rfl)), rfl⟩
 refine H3 ?_
 exact ⟨rfl, by (rw [H5, Q0, hA]; have := K5 k; first | (rw [decide_eq_true (by omega), decide_eq_true (by omega)]; simp only [*]; done) | (rw [decide_eq_true (by omega), decide_eq_true (by omega)]; simp only [*]; rfl) | (rw [decide_eq_false (by omega)]; rfl) | (rw [decide_eq_true (by omega), decide_eq_false (by omega)]; rfl)), rfl⟩
 refine W3 ?_
 exact ⟨rfl, by (rw [H5, Q0, hA]; have := K5 k; first | (rw [decide_eq_true (by omega), decide_eq_true (by omega)]; simp only [*]; done) | (rw [decide_eq_true (by omega), decide_eq_true (by omega)]; simp only [*]; rfl) | (rw [decide_eq_false (by omega)]; rfl) | (rw [decide_eq_true (by omega), decide_eq_false (by omega)]; rfl)), rfl⟩
 refine O2 ?_
 refine sB (T2 rfl rfl) rfl rfl (fun h446 => ?_) (fun h446 => ?_)
 refine P9 ?_
 refine sP (I0 rfl rfl (by omega)) rfl rfl ?_
 refine H3 ?_
 exact ⟨rfl, by (rw [H5, Q0, hA]; have := K5 k; first | (rw [decide_eq_true (by omega), decide_eq_true (by omega)]; simp only [*]; done) | (rw [decide_eq_true (by omega), decide_eq_true (by omega)]; simp only [*]; rfl) | (rw [decide_eq_false (by omega)]; rfl) | (rw [decide_eq_true (by omega), decide_eq_false (by omega)]; rfl)), rfl⟩
 refine W3 ?_
 exact ⟨rfl, by (rw [H5, Q0, hA]; have := K5 k; first | (rw [decide_eq_true (by omega), decide_eq_true (by omega)]; simp only [*]; done) | (rw [decide_eq_true (by omega), decide_eq_true (by omega)]; simp only [*]; rfl) | (rw [decide_eq_false (by omega)]; rfl) | (rw [decide_eq_true (by omega), decide_eq_false (by omega)]; rfl)), rfl⟩
theorem A3W (t : Ty) (G : IM) (cells : List Value) (hr : C5 G t cells) : Fn Tryz.prog 159 [.agg ⟨cells⟩] [] G (J8 (.bool (R2 t)) G) := by
 have hl := hr.len
 have hv := A9g t 1 G cells (by omega) hr
 refine B5 Tryz.func159 rfl Tryz.ntmps159 Tryz.results159 rfl ?_
 intro w0
 refine tS (tR ?_)
 refine sE (K0 rfl rfl) rfl (fun b3 => ?_)
 refine sQ (qA rfl) rfl (sD (nS (tS (tR ?_))))
 refine sL (C4 rfl rfl (E7 (by repeat first | exact mH | apply mT)) (by assumption)) rfl rfl ?_
 refine J9 rfl (hv) rfl rfl ?_
 refine sQ (qA rfl) rfl (sD (nS (tT (F0 (rT rfl) ?_))))
 exact ⟨rfl, rfl, rfl⟩
theorem A9h : ∀ (t t' : Ty) (G : IM) (cells cells' : List Value), C5 G t cells → C5 G t' cells' →
  Fn Tryz.prog 193 [.agg ⟨cells⟩, .agg ⟨cells'⟩] [] G (J8 (.bool (U4 t t')) G) := by
 refine Ty.ind fun k ks ih t' G cells cells' hr hr' => ?_
 obtain ⟨k', ks'⟩ := t'
 obtain ⟨p, c, es, rfl, hk, hsl, hkl⟩ := hr.open
 obtain ⟨p', c', es', rfl, hk', hsl', hkl'⟩ := hr'.open
 simp only [Ty.k, Ty.ks] at hk hsl hkl hk' hsl' hkl' ⊢
 have hn := hsl.le
 have hn' := hsl'.le
 obtain ⟨A, hA⟩ : ∃ A, A0M ks ks' = A := ⟨_, rfl⟩
 have hA' : A = true ↔ ks.length = ks'.length ∧ ∀ i, i < ks.length → U4 (ks.getD i A4) (ks'.getD i A4) = true := by
  rw [← hA, A5v]
  constructor
  ·rintro ⟨h1, h2⟩
   refine ⟨h1, fun i hi => ?_⟩
   have := h2 i hi (by omega)
   simpa [List.getD_eq_getElem?_getD, List.getElem?_eq_getElem hi, List.getElem?_eq_getElem (show i < ks'.length by omega)] using this
  ·rintro ⟨h1, h2⟩
   refine ⟨h1, fun i hi hi' => ?_⟩
   have := h2 i hi
   simpa [List.getD_eq_getElem?_getD, List.getElem?_eq_getElem hi, List.getElem?_eq_getElem hi'] using this
 refine B5 Tryz.func193 rfl Tryz.ntmps193 Tryz.results193 rfl ?_
 intro w0
 refine tS (tR ?_)
 refine sE (K0 rfl rfl) rfl (fun b3 => ?_)
 refine sE (K0 rfl rfl) rfl (fun b4 => ?_)
 refine B8 ?_
 refine sB (qE rfl rfl) rfl rfl (fun h12 => ?_) (fun h12 => ?_)
 refine A0Y ?_
 exact ⟨rfl, by (rw [A2e, hA]; first | (rw [decide_eq_true (p := k = 1) (by omega)]; rfl) | (rw [decide_eq_false (p := k = 1) (by omega), decide_eq_true (p := k' = 1) (by omega)]; rfl) | (rw [decide_eq_false (p := k = 1) (by omega), decide_eq_false (p := k' = 1) (by omega), decide_eq_false (p := k = k') (by omega)]; rfl) | (rw [decide_eq_false (p := k = 1) (by omega), decide_eq_false (p := k' = 1) (by omega), decide_eq_true (p := k = k') (by omega)]; simp only [*]; rfl)), rfl⟩
 refine F9 ?_
 refine sB (qE rfl rfl) rfl rfl (fun h41 => ?_) (fun h41 => ?_)
 refine Y5 ?_
 exact ⟨rfl, by (rw [A2e, hA]; first | (rw [decide_eq_true (p := k = 1) (by omega)]; rfl) | (rw [decide_eq_false (p := k = 1) (by omega), decide_eq_true (p := k' = 1) (by omega)]; rfl) | (rw [decide_eq_false (p := k = 1) (by omega), decide_eq_false (p := k' = 1) (by omega), decide_eq_false (p := k = k') (by omega)]; rfl) | (rw [decide_eq_false (p := k = 1) (by omega), decide_eq_false (p := k' = 1) (by omega), decide_eq_true (p := k = k') (by omega)]; simp only [*]; rfl)), rfl⟩
 refine K8 ?_
 refine sB (qE rfl rfl) rfl rfl (fun h69 => ?_) (fun h69 => ?_)
 refine P9 ?_
 refine H7 rfl (A5P _ _ _ _ _ _ _ _ _ hsl hsl' _ [] [] [] (fun i => U4 (ks.getD i A4) (ks'.getD i A4)) A hA' (fun i e e' he he' => ih _ (hkl.inv he A4).1 _ _ _ _ (hkl.inv he A4).2 (hkl'.inv he' A4).2)) rfl rfl (fun h75 => ?_) (fun h75 => ?_)
 refine B8 ?_
 exact ⟨rfl, by (rw [A2e, hA]; first | (rw [decide_eq_true (p := k = 1) (by omega)]; rfl) | (rw [decide_eq_false (p := k = 1) (by omega), decide_eq_true (p := k' = 1) (by omega)]; rfl) | (rw [decide_eq_false (p := k = 1) (by omega), decide_eq_false (p := k' = 1) (by omega), decide_eq_false (p := k = k') (by omega)]; rfl) | (rw [decide_eq_false (p := k = 1) (by omega), decide_eq_false (p := k' = 1) (by omega), decide_eq_true (p := k = k') (by omega)]; simp only [*]; rfl)), rfl⟩
 refine B8 ?_
 exact ⟨rfl, by (rw [A2e, hA]; first | (rw [decide_eq_true (p := k = 1) (by omega)]; rfl) | (rw [decide_eq_false (p := k = 1) (by omega), decide_eq_true (p := k' = 1) (by omega)]; rfl) | (rw [decide_eq_false (p := k = 1) (by omega), decide_eq_false (p := k' = 1) (by omega), decide_eq_false (p := k = k') (by omega)]; rfl) | (rw [decide_eq_false (p := k = 1) (by omega), decide_eq_false (p := k' = 1) (by omega), decide_eq_true (p := k = k') (by omega)]; simp only [*]; rfl)), rfl⟩
 refine H3 ?_
 exact ⟨rfl, by (rw [A2e, hA]; first | (rw [decide_eq_true (p := k = 1) (by omega)]; rfl) | (rw [decide_eq_false (p := k = 1) (by omega), decide_eq_true (p := k' = 1) (by omega)]; rfl) | (rw [decide_eq_false (p := k = 1) (by omega), decide_eq_false (p := k' = 1) (by omega), decide_eq_false (p := k = k') (by omega)]; rfl) | (rw [decide_eq_false (p := k = 1) (by omega), decide_eq_false (p := k' = 1) (by omega), decide_eq_true (p := k = k') (by omega)]; simp only [*]; rfl)), rfl⟩
theorem A9i (t t' : Ty) (G : IM) (cells cells' : List Value) (hr : C5 G t cells) (hr' : C5 G t' cells') :
  Fn Tryz.prog 161 [.agg ⟨cells⟩, .agg ⟨cells'⟩] [] G (J8 (.bool (A0r t t')) G) := by
 have hl := hr.len
 have hl' := hr'.len
 have hv := A3W t G cells hr
 have hv' := A3W t' G cells' hr'
 have hc := A9h t t' G cells cells' hr hr'
 refine B5 Tryz.func161 rfl Tryz.ntmps161 Tryz.results161 rfl ?_
 intro w0
 refine tS (tR ?_)
 refine sE (K0 rfl rfl) rfl (fun b3 => ?_)
 refine sE (K0 rfl rfl) rfl (fun b4 => ?_)
 refine sQ (qA rfl) rfl (sD (nS (tS (tR ?_))))
 refine sL (C4 rfl rfl (E7 (by repeat first | exact mH | apply mT)) (by assumption)) rfl rfl ?_
 refine H7 rfl (hv) rfl rfl (fun h11 => ?_) (fun h11 => ?_)
 refine sQ (qM rfl) rfl ?_
 refine sL (C4 rfl rfl (E7 (by repeat first | exact mH | apply mT)) (by assumption)) rfl rfl ?_
 refine H7 rfl (hv') rfl rfl (fun h14 => ?_) (fun h14 => ?_)
 refine sQ (L4 rfl rfl) rfl (sQ (qM rfl) rfl ?_)
 refine sL (C4 rfl rfl (E7 (by repeat first | exact mH | apply mT)) (by assumption)) rfl rfl ?_
 refine sL (C4 rfl rfl (E7 (by repeat first | exact mH | apply mT)) (by assumption)) rfl rfl ?_
 refine H7 rfl (hc) rfl rfl (fun h19 => ?_) (fun h19 => ?_)
 refine K8 ?_
 exact ⟨rfl, by simp only [A0r]; simp only [*, Bool.true_and, Bool.false_and, Bool.and_true], rfl⟩
 refine K8 ?_
 exact ⟨rfl, by simp only [A0r]; simp only [*, Bool.true_and, Bool.false_and, Bool.and_true], rfl⟩
 refine I3 ?_
 exact ⟨rfl, by simp only [A0r]; simp only [*, Bool.true_and, Bool.false_and, Bool.and_true], rfl⟩
 refine O3 ?_
 exact ⟨rfl, by simp only [A0r]; simp only [*, Bool.true_and, Bool.false_and, Bool.and_true], rfl⟩
theorem A9j (k : Int) (G : IM) (hk : D7 k) : Fn Tryz.prog 157 [.int .i64 k] [] G (J8 (.int .i64 (J3 k)) G) := by
 unfold D7 at hk
 refine B5 Tryz.func157 rfl Tryz.ntmps157 Tryz.results157 rfl ?_
 intro w0
 refine C2 ?_
 refine H7 rfl (A0u _ _ _ _) rfl rfl (fun h10 => ?_) (fun h10 => ?_)
 refine sQ (pNt rfl) rfl (sD (nS (cF rfl (tK (nS (tS (tR ?_)))))))
 (refine D1 (I4 rfl rfl rfl (by omega) (by unfold maxLen; omega) rfl) rfl ?_; rintro _ ⟨b19, rfl⟩)
 refine sQ (qM rfl) rfl ?_
 (have hkk : 1 ≤ k ∧ k ≤ 14 := A0q (by assumption); refine sP (A0V rfl rfl (by omega) (by omega)) rfl rfl ?_)
 refine sP (A46 rfl rfl rfl (by omega) (by omega)) rfl rfl ?_
 refine sL (J2 rfl rfl (A8n (by repeat first | exact mH | apply mT) (A1l (by rw [Nat.zero_add, Nat.mul_one]; exact A8Q hkk)))) rfl rfl ?_
 refine sQ (qA rfl) rfl (sD (nS (tT (F0 (rT rfl) ?_))))
 exact ⟨rfl, rfl, rfl⟩
 refine Q6 ?_
 exact ⟨rfl, by rw [A8R (A5u (by assumption))], rfl⟩
theorem A9k (k : Int) (nm : ByteArray) (num : Int) (ty fr : Ty) (lb : Int) (ks : List Tm) (G : IM) (cells : List Value) (hr : B6 G (.mk k nm num ty fr lb ks) cells) :
  Fn Tryz.prog 92 [.agg ⟨cells⟩] [] G (J8 (.bool (S3 k nm num ty fr lb ks.length)) G) := by
 obtain ⟨tk, tks⟩ := ty
 obtain ⟨fk, fks⟩ := fr
 obtain ⟨pt, ct, pf, cf, p, c, es, rfl, hk, hnum, hlb, hty, hfr, hsl, hkl⟩ := hr.open9
 have hi := @A1G k nm num (.mk tk tks) (.mk fk fks) lb ks.length
 obtain ⟨R, hR⟩ : ∃ R, S3 k nm num (.mk tk tks) (.mk fk fks) lb ks.length = R := ⟨_, rfl⟩
 rw [hR] at hi ⊢
 clear hR hr
 have o1 := A9j k G hk
 have o2 := A9f nm G
 have o3 := A3W _ G _ hty
 have o4 := A5R _ G _ hty
 have o5 := A9i _ _ G _ _ hfr hty
 have o6 := A9e lb G
 have o7 := A5R _ G _ hfr
 refine B5 Tryz.func92 rfl Tryz.ntmps92 Tryz.results92 rfl ?_
 intro w0
 refine tS (tR ?_)
 refine sE (K0 rfl rfl) rfl (fun b3 => ?_)
 refine sQ (qA rfl) rfl (sD (nS (tS (tS ?_))))
 refine I7 J0 rfl ?_
 refine H2 (i := 0) (l' := [tt,ff,ff,ff,ff,ff,ff]) rfl E8 (A5 rfl) rfl (by kernel_rfl) rfl rfl ?_
 refine aL 1 rfl (C1 rfl rfl) rfl ?_
 refine aP 3 rfl (A5 rfl) rfl ?_
 refine aL 4 rfl (C1 rfl rfl) rfl ?_
 refine aP 5 rfl (pLn rfl rfl) rfl ?_
 refine A8 2 ?_
 refine M3 rfl rfl (o1) rfl rfl rfl ?_
 refine A0U (i := 6) (l' := [tt,tt,tt,tt,tt,tt,tt]) rfl E8 (N8 rfl rfl) rfl (by kernel_rfl) rfl rfl (fun h17 => ?_) (fun h17 => ?_)
 refine I3 ?_
 exact ⟨rfl, by (cases R with | false => rfl | true => (exfalso; obtain ⟨i1, i2, i3, i4, i5, i6, i7, i8, i9⟩ := hi.1 rfl; first | omega | (have j := i2 (by omega); simp_all; done) | (have j := i3 (by omega); simp_all; done) | (have j := i4 (by omega); simp_all; done) | (have j := i5 (by omega); simp_all; done) | (have j := i6 (by omega); simp_all; done) | (have j := i7 (by omega); simp_all; done) | (have j := i8 (by omega); simp_all; done) | (have j := i9 (by omega); simp_all; done))), rfl⟩
 refine C2 ?_
 refine sB (qE rfl rfl) rfl rfl (fun h39 => ?_) (fun h39 => ?_)
 refine Q6 ?_
 refine sP (I0 rfl rfl (by omega)) rfl rfl ?_
 refine F9 ?_
 refine sP (I0 rfl rfl (by omega)) rfl rfl ?_
 refine I5 ?_
 refine sP (I0 rfl rfl (by omega)) rfl rfl ?_
 refine E0 ?_
 refine sP (I0 rfl rfl (by omega)) rfl rfl ?_
 refine H3 ?_
 refine sP (I0 rfl rfl (by omega)) rfl rfl ?_
 refine sD (nS (cF rfl (tK (nS (tS ?_)))))
 refine D2 ?_
 refine B8 ?_
 refine H7 rfl (o2) rfl rfl (fun h99 => ?_) (fun h99 => ?_)
 refine A0K ?_
 refine H7 rfl (A0u _ _ _ _) rfl rfl (fun h123 => ?_) (fun h123 => ?_)
 refine A1k ?_
 refine H7 rfl (o4) rfl rfl (fun h149 => ?_) (fun h149 => ?_)
 refine S7 ?_
 refine I5 ?_
 refine H7 rfl (o7) rfl rfl (fun h184 => ?_) (fun h184 => ?_)
 refine I5 ?_
 refine sB (N8 rfl rfl) rfl rfl (fun h189 => ?_) (fun h189 => ?_)
 refine L6 ?_
 exact ⟨rfl, by (cases R with | false => rfl | true => (exfalso; obtain ⟨i1, i2, i3, i4, i5, i6, i7, i8, i9⟩ := hi.1 rfl; first | omega | (have j := i2 (by omega); simp_all; done) | (have j := i3 (by omega); simp_all; done) | (have j := i4 (by omega); simp_all; done) | (have j := i5 (by omega); simp_all; done) | (have j := i6 (by omega); simp_all; done) | (have j := i7 (by omega); simp_all; done) | (have j := i8 (by omega); simp_all; done) | (have j := i9 (by omega); simp_all; done))), rfl⟩
 refine M8 ?_
 exact ⟨rfl, by rw [hi.2 ⟨by omega, fun _ => by (first | assumption | (exfalso; omega) | exact Classical.not_not.1 (by assumption)), fun _ => by (first | assumption | (exfalso; omega) | exact Classical.not_not.1 (by assumption)), fun _ => by (first | assumption | (exfalso; omega) | exact Classical.not_not.1 (by assumption)), fun _ => by (first | assumption | (exfalso; omega) | exact Classical.not_not.1 (by assumption)), fun _ => by (first | assumption | (exfalso; omega) | exact Classical.not_not.1 (by assumption)), fun _ => by (first | assumption | (exfalso; omega) | exact Classical.not_not.1 (by assumption)), fun _ => ⟨by (first | assumption | (exfalso; omega)), by (first | assumption | (exfalso; omega))⟩, fun _ => ⟨by (first | assumption | (exfalso; omega)), by (first | assumption | omega)⟩⟩], rfl⟩
 refine Y5 ?_
 exact ⟨rfl, by (cases R with | false => rfl | true => (exfalso; obtain ⟨i1, i2, i3, i4, i5, i6, i7, i8, i9⟩ := hi.1 rfl; first | omega | (have j := i2 (by omega); simp_all; done) | (have j := i3 (by omega); simp_all; done) | (have j := i4 (by omega); simp_all; done) | (have j := i5 (by omega); simp_all; done) | (have j := i6 (by omega); simp_all; done) | (have j := i7 (by omega); simp_all; done) | (have j := i8 (by omega); simp_all; done) | (have j := i9 (by omega); simp_all; done))), rfl⟩
 refine L6 ?_
 exact ⟨rfl, by (cases R with | false => rfl | true => (exfalso; obtain ⟨i1, i2, i3, i4, i5, i6, i7, i8, i9⟩ := hi.1 rfl; first | omega | (have j := i2 (by omega); simp_all; done) | (have j := i3 (by omega); simp_all; done) | (have j := i4 (by omega); simp_all; done) | (have j := i5 (by omega); simp_all; done) | (have j := i6 (by omega); simp_all; done) | (have j := i7 (by omega); simp_all; done) | (have j := i8 (by omega); simp_all; done) | (have j := i9 (by omega); simp_all; done))), rfl⟩
 refine O3 ?_
 exact ⟨rfl, by (cases R with | false => rfl | true => (exfalso; obtain ⟨i1, i2, i3, i4, i5, i6, i7, i8, i9⟩ := hi.1 rfl; first | omega | (have j := i2 (by omega); simp_all; done) | (have j := i3 (by omega); simp_all; done) | (have j := i4 (by omega); simp_all; done) | (have j := i5 (by omega); simp_all; done) | (have j := i6 (by omega); simp_all; done) | (have j := i7 (by omega); simp_all; done) | (have j := i8 (by omega); simp_all; done) | (have j := i9 (by omega); simp_all; done))), rfl⟩
 refine W2 ?_
 exact ⟨rfl, by (cases R with | false => rfl | true => (exfalso; obtain ⟨i1, i2, i3, i4, i5, i6, i7, i8, i9⟩ := hi.1 rfl; first | omega | (have j := i2 (by omega); simp_all; done) | (have j := i3 (by omega); simp_all; done) | (have j := i4 (by omega); simp_all; done) | (have j := i5 (by omega); simp_all; done) | (have j := i6 (by omega); simp_all; done) | (have j := i7 (by omega); simp_all; done) | (have j := i8 (by omega); simp_all; done) | (have j := i9 (by omega); simp_all; done))), rfl⟩
 refine F9 ?_
 refine sB (qE rfl rfl) rfl rfl (fun h297 => ?_) (fun h297 => ?_)
 refine E0 ?_
 refine sP (Z9 rfl rfl (by omega)) rfl rfl ?_
 refine W1 ?_
 refine sP (I0 rfl rfl (by omega)) rfl rfl ?_
 refine H3 ?_
 refine sP (I0 rfl rfl (by omega)) rfl rfl ?_
 refine sD (nS (cF rfl (tK (nS (tS ?_)))))
 refine D2 ?_
 refine B8 ?_
 refine H7 rfl (o2) rfl rfl (fun h353 => ?_) (fun h353 => ?_)
 refine A0K ?_
 refine H7 rfl (A0u _ _ _ _) rfl rfl (fun h377 => ?_) (fun h377 => ?_)
 refine Q6 ?_
 refine H7 rfl (o3) rfl rfl (fun h390 => ?_) (fun h390 => ?_)
 refine S7 ?_
 refine W1 ?_
 refine H7 rfl (o7) rfl rfl (fun h438 => ?_) (fun h438 => ?_)
 refine I5 ?_
 refine sB (N8 rfl rfl) rfl rfl (fun h443 => ?_) (fun h443 => ?_)
 refine L6 ?_
 exact ⟨rfl, by (cases R with | false => rfl | true => (exfalso; obtain ⟨i1, i2, i3, i4, i5, i6, i7, i8, i9⟩ := hi.1 rfl; first | omega | (have j := i2 (by omega); simp_all; done) | (have j := i3 (by omega); simp_all; done) | (have j := i4 (by omega); simp_all; done) | (have j := i5 (by omega); simp_all; done) | (have j := i6 (by omega); simp_all; done) | (have j := i7 (by omega); simp_all; done) | (have j := i8 (by omega); simp_all; done) | (have j := i9 (by omega); simp_all; done))), rfl⟩
 refine M8 ?_
 exact ⟨rfl, by rw [hi.2 ⟨by omega, fun _ => by (first | assumption | (exfalso; omega) | exact Classical.not_not.1 (by assumption)), fun _ => by (first | assumption | (exfalso; omega) | exact Classical.not_not.1 (by assumption)), fun _ => by (first | assumption | (exfalso; omega) | exact Classical.not_not.1 (by assumption)), fun _ => by (first | assumption | (exfalso; omega) | exact Classical.not_not.1 (by assumption)), fun _ => by (first | assumption | (exfalso; omega) | exact Classical.not_not.1 (by assumption)), fun _ => by (first | assumption | (exfalso; omega) | exact Classical.not_not.1 (by assumption)), fun _ => ⟨by (first | assumption | (exfalso; omega)), by (first | assumption | (exfalso; omega))⟩, fun _ => ⟨by (first | assumption | (exfalso; omega)), by (first | assumption | omega)⟩⟩], rfl⟩
 refine Y5 ?_
 exact ⟨rfl, by (cases R with | false => rfl | true => (exfalso; obtain ⟨i1, i2, i3, i4, i5, i6, i7, i8, i9⟩ := hi.1 rfl; first | omega | (have j := i2 (by omega); simp_all; done) | (have j := i3 (by omega); simp_all; done) | (have j := i4 (by omega); simp_all; done) | (have j := i5 (by omega); simp_all; done) | (have j := i6 (by omega); simp_all; done) | (have j := i7 (by omega); simp_all; done) | (have j := i8 (by omega); simp_all; done) | (have j := i9 (by omega); simp_all; done))), rfl⟩
 refine W2 ?_
 exact ⟨rfl, by (cases R with | false => rfl | true => (exfalso; obtain ⟨i1, i2, i3, i4, i5, i6, i7, i8, i9⟩ := hi.1 rfl; first | omega | (have j := i2 (by omega); simp_all; done) | (have j := i3 (by omega); simp_all; done) | (have j := i4 (by omega); simp_all; done) | (have j := i5 (by omega); simp_all; done) | (have j := i6 (by omega); simp_all; done) | (have j := i7 (by omega); simp_all; done) | (have j := i8 (by omega); simp_all; done) | (have j := i9 (by omega); simp_all; done))), rfl⟩
 refine O3 ?_
 exact ⟨rfl, by (cases R with | false => rfl | true => (exfalso; obtain ⟨i1, i2, i3, i4, i5, i6, i7, i8, i9⟩ := hi.1 rfl; first | omega | (have j := i2 (by omega); simp_all; done) | (have j := i3 (by omega); simp_all; done) | (have j := i4 (by omega); simp_all; done) | (have j := i5 (by omega); simp_all; done) | (have j := i6 (by omega); simp_all; done) | (have j := i7 (by omega); simp_all; done) | (have j := i8 (by omega); simp_all; done) | (have j := i9 (by omega); simp_all; done))), rfl⟩
 refine W2 ?_
 exact ⟨rfl, by (cases R with | false => rfl | true => (exfalso; obtain ⟨i1, i2, i3, i4, i5, i6, i7, i8, i9⟩ := hi.1 rfl; first | omega | (have j := i2 (by omega); simp_all; done) | (have j := i3 (by omega); simp_all; done) | (have j := i4 (by omega); simp_all; done) | (have j := i5 (by omega); simp_all; done) | (have j := i6 (by omega); simp_all; done) | (have j := i7 (by omega); simp_all; done) | (have j := i8 (by omega); simp_all; done) | (have j := i9 (by omega); simp_all; done))), rfl⟩
 refine E0 ?_
 refine sP (I0 rfl rfl (by omega)) rfl rfl ?_
 refine F9 ?_
 refine sB (qE rfl rfl) rfl rfl (fun h563 => ?_) (fun h563 => ?_)
 refine H3 ?_
 refine sP (I0 rfl rfl (by omega)) rfl rfl ?_
 refine H3 ?_
 refine sP (I0 rfl rfl (by omega)) rfl rfl ?_
 refine sD (nS (cF rfl (tK (nS (tS ?_)))))
 refine D2 ?_
 refine A0o ?_
 refine sB (A0m rfl rfl) rfl rfl (fun h620 => ?_) (fun h620 => ?_)
 refine W1 ?_
 exact ⟨rfl, by (cases R with | false => rfl | true => (exfalso; obtain ⟨i1, i2, i3, i4, i5, i6, i7, i8, i9⟩ := hi.1 rfl; first | omega | (have j := i2 (by omega); simp_all; done) | (have j := i3 (by omega); simp_all; done) | (have j := i4 (by omega); simp_all; done) | (have j := i5 (by omega); simp_all; done) | (have j := i6 (by omega); simp_all; done) | (have j := i7 (by omega); simp_all; done) | (have j := i8 (by omega); simp_all; done) | (have j := i9 (by omega); simp_all; done))), rfl⟩
 refine C2 ?_
 refine H7 rfl (A0u _ _ _ _) rfl rfl (fun h648 => ?_) (fun h648 => ?_)
 refine Q6 ?_
 refine H7 rfl (o3) rfl rfl (fun h661 => ?_) (fun h661 => ?_)
 refine S7 ?_
 refine W1 ?_
 refine H7 rfl (o7) rfl rfl (fun h709 => ?_) (fun h709 => ?_)
 refine I5 ?_
 refine sB (N8 rfl rfl) rfl rfl (fun h714 => ?_) (fun h714 => ?_)
 refine L6 ?_
 exact ⟨rfl, by (cases R with | false => rfl | true => (exfalso; obtain ⟨i1, i2, i3, i4, i5, i6, i7, i8, i9⟩ := hi.1 rfl; first | omega | (have j := i2 (by omega); simp_all; done) | (have j := i3 (by omega); simp_all; done) | (have j := i4 (by omega); simp_all; done) | (have j := i5 (by omega); simp_all; done) | (have j := i6 (by omega); simp_all; done) | (have j := i7 (by omega); simp_all; done) | (have j := i8 (by omega); simp_all; done) | (have j := i9 (by omega); simp_all; done))), rfl⟩
 refine M8 ?_
 exact ⟨rfl, by rw [hi.2 ⟨by omega, fun _ => by (first | assumption | (exfalso; omega) | exact Classical.not_not.1 (by assumption)), fun _ => by (first | assumption | (exfalso; omega) | exact Classical.not_not.1 (by assumption)), fun _ => by (first | assumption | (exfalso; omega) | exact Classical.not_not.1 (by assumption)), fun _ => by (first | assumption | (exfalso; omega) | exact Classical.not_not.1 (by assumption)), fun _ => by (first | assumption | (exfalso; omega) | exact Classical.not_not.1 (by assumption)), fun _ => by (first | assumption | (exfalso; omega) | exact Classical.not_not.1 (by assumption)), fun _ => ⟨by (first | assumption | (exfalso; omega)), by (first | assumption | (exfalso; omega))⟩, fun _ => ⟨by (first | assumption | (exfalso; omega)), by (first | assumption | omega)⟩⟩], rfl⟩
 refine Y5 ?_
 exact ⟨rfl, by (cases R with | false => rfl | true => (exfalso; obtain ⟨i1, i2, i3, i4, i5, i6, i7, i8, i9⟩ := hi.1 rfl; first | omega | (have j := i2 (by omega); simp_all; done) | (have j := i3 (by omega); simp_all; done) | (have j := i4 (by omega); simp_all; done) | (have j := i5 (by omega); simp_all; done) | (have j := i6 (by omega); simp_all; done) | (have j := i7 (by omega); simp_all; done) | (have j := i8 (by omega); simp_all; done) | (have j := i9 (by omega); simp_all; done))), rfl⟩
 refine W2 ?_
 exact ⟨rfl, by (cases R with | false => rfl | true => (exfalso; obtain ⟨i1, i2, i3, i4, i5, i6, i7, i8, i9⟩ := hi.1 rfl; first | omega | (have j := i2 (by omega); simp_all; done) | (have j := i3 (by omega); simp_all; done) | (have j := i4 (by omega); simp_all; done) | (have j := i5 (by omega); simp_all; done) | (have j := i6 (by omega); simp_all; done) | (have j := i7 (by omega); simp_all; done) | (have j := i8 (by omega); simp_all; done) | (have j := i9 (by omega); simp_all; done))), rfl⟩
 refine O3 ?_
 exact ⟨rfl, by (cases R with | false => rfl | true => (exfalso; obtain ⟨i1, i2, i3, i4, i5, i6, i7, i8, i9⟩ := hi.1 rfl; first | omega | (have j := i2 (by omega); simp_all; done) | (have j := i3 (by omega); simp_all; done) | (have j := i4 (by omega); simp_all; done) | (have j := i5 (by omega); simp_all; done) | (have j := i6 (by omega); simp_all; done) | (have j := i7 (by omega); simp_all; done) | (have j := i8 (by omega); simp_all; done) | (have j := i9 (by omega); simp_all; done))), rfl⟩
 refine I5 ?_
 refine sB (qE rfl rfl) rfl rfl (fun h807 => ?_) (fun h807 => ?_)
 refine E0 ?_
 refine sP (Z9 rfl rfl (by omega)) rfl rfl ?_
 refine H3 ?_
 refine sP (I0 rfl rfl (by omega)) rfl rfl ?_
 refine sD (nS (cF rfl (tK (nS (tS ?_)))))
 refine D2 ?_
 refine A0o ?_
 refine sB (A0m rfl rfl) rfl rfl (fun h859 => ?_) (fun h859 => ?_)
 refine W1 ?_
 exact ⟨rfl, by (cases R with | false => rfl | true => (exfalso; obtain ⟨i1, i2, i3, i4, i5, i6, i7, i8, i9⟩ := hi.1 rfl; first | omega | (have j := i2 (by omega); simp_all; done) | (have j := i3 (by omega); simp_all; done) | (have j := i4 (by omega); simp_all; done) | (have j := i5 (by omega); simp_all; done) | (have j := i6 (by omega); simp_all; done) | (have j := i7 (by omega); simp_all; done) | (have j := i8 (by omega); simp_all; done) | (have j := i9 (by omega); simp_all; done))), rfl⟩
 refine C2 ?_
 refine H7 rfl (A0u _ _ _ _) rfl rfl (fun h887 => ?_) (fun h887 => ?_)
 refine Q6 ?_
 refine H7 rfl (o3) rfl rfl (fun h900 => ?_) (fun h900 => ?_)
 refine A8F ?_
 refine H7 rfl (o5) rfl rfl (fun h929 => ?_) (fun h929 => ?_)
 refine I5 ?_
 refine H7 rfl (o6) rfl rfl (fun h934 => ?_) (fun h934 => ?_)
 refine S7 ?_
 refine sQ (qA rfl) rfl (sD (nS (tT (F0 (rT rfl) ?_))))
 exact ⟨rfl, by rw [hi.2 ⟨by omega, fun _ => by (first | assumption | (exfalso; omega) | exact Classical.not_not.1 (by assumption)), fun _ => by (first | assumption | (exfalso; omega) | exact Classical.not_not.1 (by assumption)), fun _ => by (first | assumption | (exfalso; omega) | exact Classical.not_not.1 (by assumption)), fun _ => by (first | assumption | (exfalso; omega) | exact Classical.not_not.1 (by assumption)), fun _ => by (first | assumption | (exfalso; omega) | exact Classical.not_not.1 (by assumption)), fun _ => by (first | assumption | (exfalso; omega) | exact Classical.not_not.1 (by assumption)), fun _ => ⟨by (first | assumption | (exfalso; omega)), by (first | assumption | (exfalso; omega))⟩, fun _ => ⟨by (first | assumption | (exfalso; omega)), by (first | assumption | omega)⟩⟩], rfl⟩
 refine W3 ?_
 exact ⟨rfl, by (cases R with | false => rfl | true => (exfalso; obtain ⟨i1, i2, i3, i4, i5, i6, i7, i8, i9⟩ := hi.1 rfl; first | omega | (have j := i2 (by omega); simp_all; done) | (have j := i3 (by omega); simp_all; done) | (have j := i4 (by omega); simp_all; done) | (have j := i5 (by omega); simp_all; done) | (have j := i6 (by omega); simp_all; done) | (have j := i7 (by omega); simp_all; done) | (have j := i8 (by omega); simp_all; done) | (have j := i9 (by omega); simp_all; done))), rfl⟩
 refine A0Y ?_
 exact ⟨rfl, by (cases R with | false => rfl | true => (exfalso; obtain ⟨i1, i2, i3, i4, i5, i6, i7, i8, i9⟩ := hi.1 rfl; first | omega | (have j := i2 (by omega); simp_all; done) | (have j := i3 (by omega); simp_all; done) | (have j := i4 (by omega); simp_all; done) | (have j := i5 (by omega); simp_all; done) | (have j := i6 (by omega); simp_all; done) | (have j := i7 (by omega); simp_all; done) | (have j := i8 (by omega); simp_all; done) | (have j := i9 (by omega); simp_all; done))), rfl⟩
 refine W2 ?_
 exact ⟨rfl, by (cases R with | false => rfl | true => (exfalso; obtain ⟨i1, i2, i3, i4, i5, i6, i7, i8, i9⟩ := hi.1 rfl; first | omega | (have j := i2 (by omega); simp_all; done) | (have j := i3 (by omega); simp_all; done) | (have j := i4 (by omega); simp_all; done) | (have j := i5 (by omega); simp_all; done) | (have j := i6 (by omega); simp_all; done) | (have j := i7 (by omega); simp_all; done) | (have j := i8 (by omega); simp_all; done) | (have j := i9 (by omega); simp_all; done))), rfl⟩
 refine O3 ?_
 exact ⟨rfl, by (cases R with | false => rfl | true => (exfalso; obtain ⟨i1, i2, i3, i4, i5, i6, i7, i8, i9⟩ := hi.1 rfl; first | omega | (have j := i2 (by omega); simp_all; done) | (have j := i3 (by omega); simp_all; done) | (have j := i4 (by omega); simp_all; done) | (have j := i5 (by omega); simp_all; done) | (have j := i6 (by omega); simp_all; done) | (have j := i7 (by omega); simp_all; done) | (have j := i8 (by omega); simp_all; done) | (have j := i9 (by omega); simp_all; done))), rfl⟩
 refine E0 ?_
 refine sP (I0 rfl rfl (by omega)) rfl rfl ?_
 refine H3 ?_
 refine sB (qE rfl rfl) rfl rfl (fun h1072 => ?_) (fun h1072 => ?_)
 refine sD (nS (qT rfl (tR (sQ (qA rfl) rfl (sD (nS (tS ?_)))))))
 refine D2 ?_
 refine A0o ?_
 refine sB (A0m rfl rfl) rfl rfl (fun h1103 => ?_) (fun h1103 => ?_)
 refine W1 ?_
 exact ⟨rfl, by (cases R with | false => rfl | true => (exfalso; obtain ⟨i1, i2, i3, i4, i5, i6, i7, i8, i9⟩ := hi.1 rfl; first | omega | (have j := i2 (by omega); simp_all; done) | (have j := i3 (by omega); simp_all; done) | (have j := i4 (by omega); simp_all; done) | (have j := i5 (by omega); simp_all; done) | (have j := i6 (by omega); simp_all; done) | (have j := i7 (by omega); simp_all; done) | (have j := i8 (by omega); simp_all; done) | (have j := i9 (by omega); simp_all; done))), rfl⟩
 refine C2 ?_
 refine H7 rfl (A0u _ _ _ _) rfl rfl (fun h1131 => ?_) (fun h1131 => ?_)
 refine A1k ?_
 refine H7 rfl (o4) rfl rfl (fun h1157 => ?_) (fun h1157 => ?_)
 refine S7 ?_
 refine I5 ?_
 refine H7 rfl (o7) rfl rfl (fun h1192 => ?_) (fun h1192 => ?_)
 refine I5 ?_
 refine sB (N8 rfl rfl) rfl rfl (fun h1197 => ?_) (fun h1197 => ?_)
 refine L6 ?_
 exact ⟨rfl, by (cases R with | false => rfl | true => (exfalso; obtain ⟨i1, i2, i3, i4, i5, i6, i7, i8, i9⟩ := hi.1 rfl; first | omega | (have j := i2 (by omega); simp_all; done) | (have j := i3 (by omega); simp_all; done) | (have j := i4 (by omega); simp_all; done) | (have j := i5 (by omega); simp_all; done) | (have j := i6 (by omega); simp_all; done) | (have j := i7 (by omega); simp_all; done) | (have j := i8 (by omega); simp_all; done) | (have j := i9 (by omega); simp_all; done))), rfl⟩
 refine M8 ?_
 exact ⟨rfl, by rw [hi.2 ⟨by omega, fun _ => by (first | assumption | (exfalso; omega) | exact Classical.not_not.1 (by assumption)), fun _ => by (first | assumption | (exfalso; omega) | exact Classical.not_not.1 (by assumption)), fun _ => by (first | assumption | (exfalso; omega) | exact Classical.not_not.1 (by assumption)), fun _ => by (first | assumption | (exfalso; omega) | exact Classical.not_not.1 (by assumption)), fun _ => by (first | assumption | (exfalso; omega) | exact Classical.not_not.1 (by assumption)), fun _ => by (first | assumption | (exfalso; omega) | exact Classical.not_not.1 (by assumption)), fun _ => ⟨by (first | assumption | (exfalso; omega)), by (first | assumption | (exfalso; omega))⟩, fun _ => ⟨by (first | assumption | (exfalso; omega)), by (first | assumption | omega)⟩⟩], rfl⟩
 refine Y5 ?_
 exact ⟨rfl, by (cases R with | false => rfl | true => (exfalso; obtain ⟨i1, i2, i3, i4, i5, i6, i7, i8, i9⟩ := hi.1 rfl; first | omega | (have j := i2 (by omega); simp_all; done) | (have j := i3 (by omega); simp_all; done) | (have j := i4 (by omega); simp_all; done) | (have j := i5 (by omega); simp_all; done) | (have j := i6 (by omega); simp_all; done) | (have j := i7 (by omega); simp_all; done) | (have j := i8 (by omega); simp_all; done) | (have j := i9 (by omega); simp_all; done))), rfl⟩
 refine L6 ?_
 exact ⟨rfl, by (cases R with | false => rfl | true => (exfalso; obtain ⟨i1, i2, i3, i4, i5, i6, i7, i8, i9⟩ := hi.1 rfl; first | omega | (have j := i2 (by omega); simp_all; done) | (have j := i3 (by omega); simp_all; done) | (have j := i4 (by omega); simp_all; done) | (have j := i5 (by omega); simp_all; done) | (have j := i6 (by omega); simp_all; done) | (have j := i7 (by omega); simp_all; done) | (have j := i8 (by omega); simp_all; done) | (have j := i9 (by omega); simp_all; done))), rfl⟩
 refine O3 ?_
 exact ⟨rfl, by (cases R with | false => rfl | true => (exfalso; obtain ⟨i1, i2, i3, i4, i5, i6, i7, i8, i9⟩ := hi.1 rfl; first | omega | (have j := i2 (by omega); simp_all; done) | (have j := i3 (by omega); simp_all; done) | (have j := i4 (by omega); simp_all; done) | (have j := i5 (by omega); simp_all; done) | (have j := i6 (by omega); simp_all; done) | (have j := i7 (by omega); simp_all; done) | (have j := i8 (by omega); simp_all; done) | (have j := i9 (by omega); simp_all; done))), rfl⟩
 refine sD (nS (cF rfl (tK (nS (tS ?_)))))
 refine D2 ?_
 refine A0o ?_
 refine sB (A0m rfl rfl) rfl rfl (fun h1311 => ?_) (fun h1311 => ?_)
 refine W1 ?_
 exact ⟨rfl, by (cases R with | false => rfl | true => (exfalso; obtain ⟨i1, i2, i3, i4, i5, i6, i7, i8, i9⟩ := hi.1 rfl; first | omega | (have j := i2 (by omega); simp_all; done) | (have j := i3 (by omega); simp_all; done) | (have j := i4 (by omega); simp_all; done) | (have j := i5 (by omega); simp_all; done) | (have j := i6 (by omega); simp_all; done) | (have j := i7 (by omega); simp_all; done) | (have j := i8 (by omega); simp_all; done) | (have j := i9 (by omega); simp_all; done))), rfl⟩
 refine C2 ?_
 refine H7 rfl (A0u _ _ _ _) rfl rfl (fun h1339 => ?_) (fun h1339 => ?_)
 refine A1k ?_
 refine H7 rfl (o4) rfl rfl (fun h1365 => ?_) (fun h1365 => ?_)
 refine S7 ?_
 refine I5 ?_
 refine H7 rfl (o7) rfl rfl (fun h1400 => ?_) (fun h1400 => ?_)
 refine I5 ?_
 refine sB (N8 rfl rfl) rfl rfl (fun h1405 => ?_) (fun h1405 => ?_)
 refine L6 ?_
 exact ⟨rfl, by (cases R with | false => rfl | true => (exfalso; obtain ⟨i1, i2, i3, i4, i5, i6, i7, i8, i9⟩ := hi.1 rfl; first | omega | (have j := i2 (by omega); simp_all; done) | (have j := i3 (by omega); simp_all; done) | (have j := i4 (by omega); simp_all; done) | (have j := i5 (by omega); simp_all; done) | (have j := i6 (by omega); simp_all; done) | (have j := i7 (by omega); simp_all; done) | (have j := i8 (by omega); simp_all; done) | (have j := i9 (by omega); simp_all; done))), rfl⟩
 refine M8 ?_
 exact ⟨rfl, by rw [hi.2 ⟨by omega, fun _ => by (first | assumption | (exfalso; omega) | exact Classical.not_not.1 (by assumption)), fun _ => by (first | assumption | (exfalso; omega) | exact Classical.not_not.1 (by assumption)), fun _ => by (first | assumption | (exfalso; omega) | exact Classical.not_not.1 (by assumption)), fun _ => by (first | assumption | (exfalso; omega) | exact Classical.not_not.1 (by assumption)), fun _ => by (first | assumption | (exfalso; omega) | exact Classical.not_not.1 (by assumption)), fun _ => by (first | assumption | (exfalso; omega) | exact Classical.not_not.1 (by assumption)), fun _ => ⟨by (first | assumption | (exfalso; omega)), by (first | assumption | (exfalso; omega))⟩, fun _ => ⟨by (first | assumption | (exfalso; omega)), by (first | assumption | omega)⟩⟩], rfl⟩
 refine Y5 ?_
 exact ⟨rfl, by (cases R with | false => rfl | true => (exfalso; obtain ⟨i1, i2, i3, i4, i5, i6, i7, i8, i9⟩ := hi.1 rfl; first | omega | (have j := i2 (by omega); simp_all; done) | (have j := i3 (by omega); simp_all; done) | (have j := i4 (by omega); simp_all; done) | (have j := i5 (by omega); simp_all; done) | (have j := i6 (by omega); simp_all; done) | (have j := i7 (by omega); simp_all; done) | (have j := i8 (by omega); simp_all; done) | (have j := i9 (by omega); simp_all; done))), rfl⟩
 refine L6 ?_
 exact ⟨rfl, by (cases R with | false => rfl | true => (exfalso; obtain ⟨i1, i2, i3, i4, i5, i6, i7, i8, i9⟩ := hi.1 rfl; first | omega | (have j := i2 (by omega); simp_all; done) | (have j := i3 (by omega); simp_all; done) | (have j := i4 (by omega); simp_all; done) | (have j := i5 (by omega); simp_all; done) | (have j := i6 (by omega); simp_all; done) | (have j := i7 (by omega); simp_all; done) | (have j := i8 (by omega); simp_all; done) | (have j := i9 (by omega); simp_all; done))), rfl⟩
 refine O3 ?_
 exact ⟨rfl, by (cases R with | false => rfl | true => (exfalso; obtain ⟨i1, i2, i3, i4, i5, i6, i7, i8, i9⟩ := hi.1 rfl; first | omega | (have j := i2 (by omega); simp_all; done) | (have j := i3 (by omega); simp_all; done) | (have j := i4 (by omega); simp_all; done) | (have j := i5 (by omega); simp_all; done) | (have j := i6 (by omega); simp_all; done) | (have j := i7 (by omega); simp_all; done) | (have j := i8 (by omega); simp_all; done) | (have j := i9 (by omega); simp_all; done))), rfl⟩
theorem A9l (M D N : Int) (hM : 0 ≤ M ∧ M ≤ 1000) (hD : 0 ≤ D ∧ D ≤ 1000) (bc : Nat) : ∀ (t : Tm) (deep c : Int) (G : IM) (cells : List Value), 0 ≤ deep ∧ deep ≤ D + 1 → 0 ≤ c ∧ c ≤ M → B6 G t cells →
  Fn Tryz.prog 43 [.agg ⟨cells⟩, .int .i64 deep, .int .i64 M, .int .i64 D, .int .i64 N, .pointer (some ⟨bc, 0, none⟩)] [.blk bc [.int .i64 c]] G
   (T3 (.bool (O0 M D N t deep c).1) [.blk bc [.int .i64 (O0 M D N t deep c).2]] G) := by
 refine Tm.ind fun k nm num ty fr lb ks ih deep c G cells hd hc hr => ?_
 have hno := A9k k nm num ty fr lb ks G cells hr
 obtain ⟨tk, tks⟩ := ty
 obtain ⟨fk, fks⟩ := fr
 obtain ⟨pt, ct, pf, cf, p, cp, es, rfl, hk, hnum, hlb, hty, hfr, hsl, hkl⟩ := hr.open9
 have hn := hsl.le
 obtain ⟨R, hR⟩ : ∃ R, S3 k nm num (.mk tk tks) (.mk fk fks) lb ks.length = R := ⟨_, rfl⟩
 rw [hR] at hno
 refine B5 Tryz.func43 rfl Tryz.ntmps43 Tryz.results43 rfl ?_
 intro w0
 refine tS (tR ?_)
 refine sE (K0 rfl rfl) rfl (fun b3 => ?_)
 refine sQ (qA rfl) rfl (sD (nS (tS (tR (sQ (qM rfl) rfl ?_)))))
 refine sQ (A6 rfl) rfl ?_
 refine sL (C1 rfl rfl) rfl rfl ?_
 refine sP (O6 rfl rfl (by omega) (by omega)) rfl rfl ?_
 refine sQ (A6 rfl) rfl ?_
 refine I8 ?_
 refine sD (nS (tS (tS (tR (sQ (qM rfl) rfl ?_)))))
 refine sQ (A6 rfl) rfl ?_
 refine sL (C1 rfl rfl) rfl rfl (sQ (qM rfl) rfl ?_)
 refine sB (V8 rfl rfl) rfl rfl (fun h24 => ?_) (fun h24 => ?_)
 refine A1F ?_
 refine B2 (outs := [.blk bc [.int .i64 _]]) (rT rfl) (A2.cons (by repeat (first | exact Pk.here | apply Pk.there)) A2.nil) ?_
 (rw [A2R (by rw [hR]; first | omega | exact Or.inr (Or.inr (Or.inr (by assumption)))) ]; exact ⟨rfl, rfl, rfl⟩)
 refine sQ (qM rfl) rfl (sQ (qM rfl) rfl (sQ (qM rfl) rfl ?_))
 refine sB (V8 rfl rfl) rfl rfl (fun h56 => ?_) (fun h56 => ?_)
 refine A1E ?_
 refine B2 (outs := [.blk bc [.int .i64 _]]) (rT rfl) (A2.cons (by repeat (first | exact Pk.here | apply Pk.there)) A2.nil) ?_
 (rw [A2R (by rw [hR]; first | omega | exact Or.inr (Or.inr (Or.inr (by assumption)))) ]; exact ⟨rfl, rfl, rfl⟩)
 refine P9 ?_
 refine sB (qE rfl rfl) rfl rfl (fun h86 => ?_) (fun h86 => ?_)
 refine M8 ?_
 refine B2 (outs := [.blk bc [.int .i64 _]]) (rT rfl) (A2.cons (by repeat (first | exact Pk.here | apply Pk.there)) A2.nil) ?_
 (rw [A2R (by rw [hR]; first | omega | exact Or.inr (Or.inr (Or.inr (by assumption)))) ]; exact ⟨rfl, rfl, rfl⟩)
 refine F9 ?_
 refine H7 rfl (hno) rfl rfl (fun h108 => ?_) (fun h108 => ?_)
 refine M8 ?_
 refine D2 ?_
 (have hmk := A8S (M := M) (D := D) (N := N) (deep := deep) (c := c) (by omega) (hR.trans (by assumption)); refine Q5 (fun (x : Nat × Int) => ⟨[(44, .int .i64 x.1), (43, .int .i64 ks.length), (42, .slice p ks.length cp), (5, .pointer (some ⟨bc, 0, none⟩)), (4, .int .i64 N), (3, .int .i64 D), (2, .int .i64 M), (1, .int .i64 deep)], [.blk bc [.int .i64 x.2]], G⟩) (fun x => x.1 ≤ ks.length ∧ 0 ≤ x.2 ∧ x.2 ≤ M ∧ O8 M D N ks (deep + 1) (c + 1) = O8 M D N (ks.drop x.1) (deep + 1) x.2) (fun x => ks.length - x.1) (0, c + 1) ?_ ?_ ?_)
 (simp only [P3]; exact I9)
 exact ⟨by simp, by simp; omega, by simp; omega, by simp⟩
 (rintro ⟨i, ci⟩ ⟨hi, hc0, hc1, hst⟩; simp only [] at hi hc0 hc1 hst ⊢)
 refine tS (tR ?_)
 refine sB (M9 rfl rfl) rfl rfl (fun h132 => ?_) (fun h132 => ?_)
 refine sD (nS (tS (qT rfl (tK (nS (tS ?_))))))
 refine D2 ?_
 refine tS (tR ?_)
 (obtain ⟨b, o, e, rfl, hl, hat, hre, hgb⟩ := hsl.kidTm hkl (i := i) (by omega) (by omega); have hone := hre.one; have hle := A5x M D N ks[i] (deep + 1) ci hc0 hc1; refine sP (L9 rfl rfl rfl (by omega)) rfl rfl ?_)
 refine sL (C4 rfl rfl (hat _) hl) rfl rfl ?_
 refine sE (C0 rfl) rfl (fun b145 => ?_)
 refine S0 rfl rfl rfl (by assumption) (by assumption) rfl (by repeat first | exact Sw.here | apply Sw.there) (by exact M1 (by symm; assumption)) ?_
 refine sD (nS (tS (tR ?_)))
 refine sL (C4 rfl rfl (E7 (by repeat first | exact mH | apply mT)) (by assumption)) rfl rfl ?_
 refine sQ (qM rfl) rfl ?_
 refine sP (O6 rfl rfl (by omega) (by omega)) rfl rfl ?_
 refine I5 ?_
 refine A8E rfl (ih ks[i] (List.getElem_mem _) (deep + 1) ci G e (by omega) (by omega) hre) (Pk.perm (by repeat (first | exact Pk.here | apply Pk.there))) rfl rfl (fun h158 => ?_) (fun h158 => ?_)
 refine E0 ?_
 refine sP (O6 rfl rfl (by omega) (by omega)) rfl rfl ?_
 refine sQ (qM rfl) rfl (sD ?_)
 refine P5 (i + 1, (O0 M D N ks[i] (deep + 1) ci).2) ?_ ?_ ?_
 (simp only [P3]; exact I9)
 exact ⟨by omega, by omega, hle.2.2 (by assumption), by rw [hst, A8T (by omega) (by assumption)]⟩
 (show ks.length - (i + 1) < ks.length - i; omega)
 refine L6 ?_
 refine B2 (outs := [.blk bc [.int .i64 _]]) (rT rfl) (A2.cons (by repeat (first | exact Pk.here | apply Pk.there)) A2.nil) ?_
 (rw [hmk, hst, A8U (by omega) (by assumption)]; exact ⟨rfl, rfl, rfl⟩)
 refine L6 ?_
 refine B2 (outs := [.blk bc [.int .i64 _]]) (rT rfl) (A2.cons (by repeat (first | exact Pk.here | apply Pk.there)) A2.nil) ?_
 (rw [hmk, hst, A8V (by omega)]; exact ⟨rfl, rfl, rfl⟩)
 refine Q6 ?_
 refine B2 (outs := [.blk bc [.int .i64 _]]) (rT rfl) (A2.cons (by repeat (first | exact Pk.here | apply Pk.there)) A2.nil) ?_
 (rw [A2R (by rw [hR]; first | omega | exact Or.inr (Or.inr (Or.inr (by assumption)))) ]; exact ⟨rfl, rfl, rfl⟩)
theorem A3X (t : Tm) (G : IM) (cells : List Value) (hr : B6 G t cells) : Fn Tryz.prog 14 [.agg ⟨cells⟩] [] G (J8 (.bool (N5 t)) G) := by
 have hl := hr.len
 refine B5 Tryz.func14 rfl Tryz.ntmps14 Tryz.results14 rfl ?_
 intro w0
 refine tS (tR ?_)
 refine sE (K0 rfl rfl) rfl (fun b3 => ?_)
 refine sQ (qA rfl) rfl (sD (nS (tS (tR ?_))))
 refine sE (C0 rfl) rfl (fun b9 => ?_)
 refine I8 ?_
 refine sD (nS (tS (tR ?_)))
 refine sL (C4 rfl rfl (E7 (by repeat first | exact mH | apply mT)) (by assumption)) rfl rfl ?_
 refine A3N rfl (A9l 30 12 14 (by omega) (by omega) _ t 1 0 G cells (by omega) (by omega) hr) A0X rfl rfl ?_
 refine sQ (qA rfl) rfl (sD (nS (tT (F0 (rT rfl) ?_))))
 exact ⟨rfl, rfl, rfl⟩
theorem A5S (k : Int) (G : IM) : Fn Tryz.prog 175 [.int .i64 k] [] G (J8 (.int .i64 (R1 k)) G) := by
 refine B5 Tryz.func175 rfl Tryz.ntmps175 Tryz.results175 rfl ?_
 intro w0
 refine I3 ?_
 refine D2 ?_
 refine tS (tS (tR ?_))
 refine sB (qE rfl rfl) rfl rfl (fun h16 => ?_) (fun h16 => ?_)
 refine M8 ?_
 exact ⟨rfl, by (first | rw [(K5 k).1 (by omega)] | rw [(K5 k).2.1 (by omega)] | rw [(K5 k).2.2 (by omega) (by omega) (by omega) (by omega) (by omega)]), rfl⟩
 refine sQ (qA rfl) rfl (sD (nS (cF rfl (tS (tR ?_)))))
 refine sB (qE rfl rfl) rfl rfl (fun h40 => ?_) (fun h40 => ?_)
 refine M8 ?_
 exact ⟨rfl, by (first | rw [(K5 k).1 (by omega)] | rw [(K5 k).2.1 (by omega)] | rw [(K5 k).2.2 (by omega) (by omega) (by omega) (by omega) (by omega)]), rfl⟩
 refine sQ (qA rfl) rfl (sD (nS (cF rfl (tR ?_))))
 refine sB (qE rfl rfl) rfl rfl (fun h63 => ?_) (fun h63 => ?_)
 refine H3 ?_
 exact ⟨rfl, by (first | rw [(K5 k).1 (by omega)] | rw [(K5 k).2.1 (by omega)] | rw [(K5 k).2.2 (by omega) (by omega) (by omega) (by omega) (by omega)]), rfl⟩
 refine sQ (qA rfl) rfl (sD (nS (cF rfl (tS (tS (tR ?_))))))
 refine sB (qE rfl rfl) rfl rfl (fun h85 => ?_) (fun h85 => ?_)
 refine M8 ?_
 exact ⟨rfl, by (first | rw [(K5 k).1 (by omega)] | rw [(K5 k).2.1 (by omega)] | rw [(K5 k).2.2 (by omega) (by omega) (by omega) (by omega) (by omega)]), rfl⟩
 refine sQ (qA rfl) rfl (sD (nS (cF rfl (tR ?_))))
 refine sB (qE rfl rfl) rfl rfl (fun h108 => ?_) (fun h108 => ?_)
 refine H3 ?_
 exact ⟨rfl, by (first | rw [(K5 k).1 (by omega)] | rw [(K5 k).2.1 (by omega)] | rw [(K5 k).2.2 (by omega) (by omega) (by omega) (by omega) (by omega)]), rfl⟩
 refine O3 ?_
 exact ⟨rfl, by (first | rw [(K5 k).1 (by omega)] | rw [(K5 k).2.1 (by omega)] | rw [(K5 k).2.2 (by omega) (by omega) (by omega) (by omega) (by omega)]), rfl⟩
theorem A3Y (k : Int) (G : IM) : Fn Tryz.prog 93 [.int .i64 k] [] G (J8 (.int .i64 (J3 k)) G) := by
 refine B5 Tryz.func93 rfl Tryz.ntmps93 Tryz.results93 rfl ?_
 intro w0
 refine I3 ?_
 refine D2 ?_
 refine tS (tS (tR ?_))
 refine sB (qE rfl rfl) rfl rfl (fun h16 => ?_) (fun h16 => ?_)
 refine M8 ?_
 exact ⟨rfl, by (unfold J3; first | rw [if_pos (by omega)] | rw [if_neg (by omega), if_pos (by omega)] | rw [if_neg (by omega), if_neg (by omega), if_pos (by omega)] | rw [if_neg (by omega), if_neg (by omega), if_neg (by omega), if_pos (by omega)] | rw [if_neg (by omega), if_neg (by omega), if_neg (by omega), if_neg (by omega)]), rfl⟩
 refine sQ (qA rfl) rfl (sD (nS (cF rfl (tS (tR ?_)))))
 refine sB (qE rfl rfl) rfl rfl (fun h40 => ?_) (fun h40 => ?_)
 refine M8 ?_
 exact ⟨rfl, by (unfold J3; first | rw [if_pos (by omega)] | rw [if_neg (by omega), if_pos (by omega)] | rw [if_neg (by omega), if_neg (by omega), if_pos (by omega)] | rw [if_neg (by omega), if_neg (by omega), if_neg (by omega), if_pos (by omega)] | rw [if_neg (by omega), if_neg (by omega), if_neg (by omega), if_neg (by omega)]), rfl⟩
 refine sQ (qA rfl) rfl (sD (nS (cF rfl (tS (tR ?_)))))
 refine sB (qE rfl rfl) rfl rfl (fun h64 => ?_) (fun h64 => ?_)
 refine M8 ?_
 exact ⟨rfl, by (unfold J3; first | rw [if_pos (by omega)] | rw [if_neg (by omega), if_pos (by omega)] | rw [if_neg (by omega), if_neg (by omega), if_pos (by omega)] | rw [if_neg (by omega), if_neg (by omega), if_neg (by omega), if_pos (by omega)] | rw [if_neg (by omega), if_neg (by omega), if_neg (by omega), if_neg (by omega)]), rfl⟩
 refine sQ (qA rfl) rfl (sD (nS (cF rfl (tR ?_))))
 refine sB (qE rfl rfl) rfl rfl (fun h87 => ?_) (fun h87 => ?_)
 refine H3 ?_
 exact ⟨rfl, by (unfold J3; first | rw [if_pos (by omega)] | rw [if_neg (by omega), if_pos (by omega)] | rw [if_neg (by omega), if_neg (by omega), if_pos (by omega)] | rw [if_neg (by omega), if_neg (by omega), if_neg (by omega), if_pos (by omega)] | rw [if_neg (by omega), if_neg (by omega), if_neg (by omega), if_neg (by omega)]), rfl⟩
 refine sQ (qA rfl) rfl (sD (nS (cF rfl (tS (tS (tR ?_))))))
 refine sB (qE rfl rfl) rfl rfl (fun h109 => ?_) (fun h109 => ?_)
 refine M8 ?_
 exact ⟨rfl, by (unfold J3; first | rw [if_pos (by omega)] | rw [if_neg (by omega), if_pos (by omega)] | rw [if_neg (by omega), if_neg (by omega), if_pos (by omega)] | rw [if_neg (by omega), if_neg (by omega), if_neg (by omega), if_pos (by omega)] | rw [if_neg (by omega), if_neg (by omega), if_neg (by omega), if_neg (by omega)]), rfl⟩
 refine sQ (qA rfl) rfl (sD (nS (cF rfl (tS (tR ?_)))))
 refine sB (qE rfl rfl) rfl rfl (fun h133 => ?_) (fun h133 => ?_)
 refine M8 ?_
 exact ⟨rfl, by (unfold J3; first | rw [if_pos (by omega)] | rw [if_neg (by omega), if_pos (by omega)] | rw [if_neg (by omega), if_neg (by omega), if_pos (by omega)] | rw [if_neg (by omega), if_neg (by omega), if_neg (by omega), if_pos (by omega)] | rw [if_neg (by omega), if_neg (by omega), if_neg (by omega), if_neg (by omega)]), rfl⟩
 refine sQ (qA rfl) rfl (sD (nS (cF rfl (tS (tR ?_)))))
 refine sB (qE rfl rfl) rfl rfl (fun h157 => ?_) (fun h157 => ?_)
 refine M8 ?_
 exact ⟨rfl, by (unfold J3; first | rw [if_pos (by omega)] | rw [if_neg (by omega), if_pos (by omega)] | rw [if_neg (by omega), if_neg (by omega), if_pos (by omega)] | rw [if_neg (by omega), if_neg (by omega), if_neg (by omega), if_pos (by omega)] | rw [if_neg (by omega), if_neg (by omega), if_neg (by omega), if_neg (by omega)]), rfl⟩
 refine sQ (qA rfl) rfl (sD (nS (cF rfl (tS (tR ?_)))))
 refine sB (qE rfl rfl) rfl rfl (fun h181 => ?_) (fun h181 => ?_)
 refine M8 ?_
 exact ⟨rfl, by (unfold J3; first | rw [if_pos (by omega)] | rw [if_neg (by omega), if_pos (by omega)] | rw [if_neg (by omega), if_neg (by omega), if_pos (by omega)] | rw [if_neg (by omega), if_neg (by omega), if_neg (by omega), if_pos (by omega)] | rw [if_neg (by omega), if_neg (by omega), if_neg (by omega), if_neg (by omega)]), rfl⟩
 refine sQ (qA rfl) rfl (sD (nS (cF rfl (tR ?_))))
 refine sB (qE rfl rfl) rfl rfl (fun h204 => ?_) (fun h204 => ?_)
 refine H3 ?_
 exact ⟨rfl, by (unfold J3; first | rw [if_pos (by omega)] | rw [if_neg (by omega), if_pos (by omega)] | rw [if_neg (by omega), if_neg (by omega), if_pos (by omega)] | rw [if_neg (by omega), if_neg (by omega), if_neg (by omega), if_pos (by omega)] | rw [if_neg (by omega), if_neg (by omega), if_neg (by omega), if_neg (by omega)]), rfl⟩
 refine sQ (qA rfl) rfl (sD (nS (cF rfl (tS (tS (tR ?_))))))
 refine sB (qE rfl rfl) rfl rfl (fun h226 => ?_) (fun h226 => ?_)
 refine M8 ?_
 exact ⟨rfl, by (unfold J3; first | rw [if_pos (by omega)] | rw [if_neg (by omega), if_pos (by omega)] | rw [if_neg (by omega), if_neg (by omega), if_pos (by omega)] | rw [if_neg (by omega), if_neg (by omega), if_neg (by omega), if_pos (by omega)] | rw [if_neg (by omega), if_neg (by omega), if_neg (by omega), if_neg (by omega)]), rfl⟩
 refine sQ (qA rfl) rfl (sD (nS (cF rfl (tS (tR ?_)))))
 refine sB (qE rfl rfl) rfl rfl (fun h250 => ?_) (fun h250 => ?_)
 refine M8 ?_
 exact ⟨rfl, by (unfold J3; first | rw [if_pos (by omega)] | rw [if_neg (by omega), if_pos (by omega)] | rw [if_neg (by omega), if_neg (by omega), if_pos (by omega)] | rw [if_neg (by omega), if_neg (by omega), if_neg (by omega), if_pos (by omega)] | rw [if_neg (by omega), if_neg (by omega), if_neg (by omega), if_neg (by omega)]), rfl⟩
 refine sQ (qA rfl) rfl (sD (nS (cF rfl (tS (tR ?_)))))
 refine sB (qE rfl rfl) rfl rfl (fun h274 => ?_) (fun h274 => ?_)
 refine M8 ?_
 exact ⟨rfl, by (unfold J3; first | rw [if_pos (by omega)] | rw [if_neg (by omega), if_pos (by omega)] | rw [if_neg (by omega), if_neg (by omega), if_pos (by omega)] | rw [if_neg (by omega), if_neg (by omega), if_neg (by omega), if_pos (by omega)] | rw [if_neg (by omega), if_neg (by omega), if_neg (by omega), if_neg (by omega)]), rfl⟩
 refine sQ (qA rfl) rfl (sD (nS (cF rfl (tR ?_))))
 refine sB (qE rfl rfl) rfl rfl (fun h297 => ?_) (fun h297 => ?_)
 refine H3 ?_
 exact ⟨rfl, by (unfold J3; first | rw [if_pos (by omega)] | rw [if_neg (by omega), if_pos (by omega)] | rw [if_neg (by omega), if_neg (by omega), if_pos (by omega)] | rw [if_neg (by omega), if_neg (by omega), if_neg (by omega), if_pos (by omega)] | rw [if_neg (by omega), if_neg (by omega), if_neg (by omega), if_neg (by omega)]), rfl⟩
 refine sQ (qA rfl) rfl (sD (nS (cF rfl (tS (tR ?_)))))
 refine sB (qE rfl rfl) rfl rfl (fun h318 => ?_) (fun h318 => ?_)
 refine H3 ?_
 exact ⟨rfl, by (unfold J3; first | rw [if_pos (by omega)] | rw [if_neg (by omega), if_pos (by omega)] | rw [if_neg (by omega), if_neg (by omega), if_pos (by omega)] | rw [if_neg (by omega), if_neg (by omega), if_neg (by omega), if_pos (by omega)] | rw [if_neg (by omega), if_neg (by omega), if_neg (by omega), if_neg (by omega)]), rfl⟩
 refine O3 ?_
 exact ⟨rfl, by (unfold J3; first | rw [if_pos (by omega)] | rw [if_neg (by omega), if_pos (by omega)] | rw [if_neg (by omega), if_neg (by omega), if_pos (by omega)] | rw [if_neg (by omega), if_neg (by omega), if_neg (by omega), if_pos (by omega)] | rw [if_neg (by omega), if_neg (by omega), if_neg (by omega), if_neg (by omega)]), rfl⟩
theorem A5T (s : ByteArray) (G : IM) : Fn Tryz.prog 104 [.string s] [] G (J8 (.bool (S2 s)) G) := by
 refine B5 Tryz.func104 rfl Tryz.ntmps104 Tryz.results104 rfl ?_
 intro w0
 refine E0 ?_
 refine sQ (M0 rfl rfl) rfl (sB (qE rfl rfl) rfl rfl (fun h10 => ?_) (fun h10 => ?_))
 refine sQ (qM rfl) rfl (sQ (qM rfl) rfl ?_)
 refine sP (N1 rfl rfl rfl (by omega) (A2Q (by omega))) rfl rfl ?_
 refine sB (P6 rfl rfl) rfl rfl (fun h14 => ?_) (fun h14 => ?_)
 refine sQ (L4 rfl rfl) rfl (sQ (qM rfl) rfl (sQ (qM rfl) rfl ?_))
 refine sP (N1 rfl rfl rfl (by omega) (A2Q (by omega))) rfl rfl ?_
 refine sB (T2 rfl rfl) rfl rfl (fun h19 => ?_) (fun h19 => ?_)
 refine K8 ?_
 exact ⟨rfl, by simp only [S2]; (try simp only [Int.toNat_zero] at *); (first | rw [decide_eq_true (by omega)] | rw [decide_eq_false (by omega)]), rfl⟩
 refine K8 ?_
 exact ⟨rfl, by simp only [S2]; (try simp only [Int.toNat_zero] at *); (first | rw [decide_eq_true (by omega)] | rw [decide_eq_false (by omega)]), rfl⟩
 refine I3 ?_
 exact ⟨rfl, by simp only [S2]; (try simp only [Int.toNat_zero] at *); (first | rw [decide_eq_true (by omega)] | rw [decide_eq_false (by omega)]), rfl⟩
 refine L6 ?_
 exact ⟨rfl, by simp only [S2]; (try simp only [Int.toNat_zero] at *); (first | rw [decide_eq_true (by omega)] | rw [decide_eq_false (by omega)]), rfl⟩
theorem A5U (t : Ty) (G : IM) (cells : List Value) (hr : C5 G t cells) : Fn Tryz.prog 164 [.agg ⟨cells⟩] [] G (J8 (.bool (S8 t)) G) := by
 obtain ⟨p, c, es, rfl, hk, hsl, hkl⟩ := hr.open
 refine B5 Tryz.func164 rfl Tryz.ntmps164 Tryz.results164 rfl ?_
 intro w0
 refine tS (tR ?_)
 refine sE (K0 rfl rfl) rfl (fun b3 => ?_)
 refine B8 ?_
 refine sB (qE rfl rfl) rfl rfl (fun h11 => ?_) (fun h11 => ?_)
 refine I5 ?_
 refine sB (qE rfl rfl) rfl rfl (fun h16 => ?_) (fun h16 => ?_)
 refine K8 ?_
 exact ⟨rfl, by simp only [S8]; (first | rw [decide_eq_true (by omega)] | rw [decide_eq_false (by omega)]), rfl⟩
 refine K8 ?_
 exact ⟨rfl, by simp only [S8]; (first | rw [decide_eq_true (by omega)] | rw [decide_eq_false (by omega)]), rfl⟩
 refine I3 ?_
 exact ⟨rfl, by simp only [S8]; (first | rw [decide_eq_true (by omega)] | rw [decide_eq_false (by omega)]), rfl⟩
def B2s (n : Int) : Int := if n < -99 ∨ n > 99 then 0 else if n < 0 then -n else n
theorem A5V {k : Int} {ks : List Ty} {d : Int} (h : 4 < d ∨ R1 k ≠ ks.length) : H5 (.mk k ks) d = false := by
 rw [H5]
 rcases h with h | h
 ·rw [decide_eq_false (by omega)]; rfl
 ·rw [decide_eq_false (p := R1 k = ks.length) h, Bool.and_false]; rfl
theorem A5W {k : Int} {ks : List Ty} {d : Int} (h : d ≤ 4) (h2 : R1 k = ks.length) : H5 (.mk k ks) d = A0b ks (d + 1) := by
 rw [H5, decide_eq_true h, decide_eq_true h2]; rfl
theorem A9m {ks : List Ty} {d : Int} {i : Nat} (hi : i < ks.length) (h : H5 ks[i] d = false) : A0b ks d = false := by
 cases hx : A0b ks d with
 | false => rfl
 | true => rw [(A3P ks d).1 hx i hi] at h; cases h
theorem A9n : ∀ (t : Ty) (d : Int) (G : IM) (cells : List Value), 0 ≤ d ∧ d ≤ 4 → C5 G t cells →
  Fn Tryz.prog 194 [.agg ⟨cells⟩, .int .i64 d] [] G (J8 (.bool (H5 t (5 - d))) G) := by
 refine Ty.ind fun k ks ih d G cells hd hr => ?_
 obtain ⟨p, c, es, rfl, hk, hsl, hkl⟩ := hr.open
 simp only [Ty.k, Ty.ks] at hk hsl hkl ⊢
 have hn := hsl.le
 have hk1 := A5S k G
 refine B5 Tryz.func194 rfl Tryz.ntmps194 Tryz.results194 rfl ?_
 intro w0
 refine tS (tR ?_)
 refine sE (K0 rfl rfl) rfl (fun b3 => ?_)
 refine sQ (qA rfl) rfl (sD (nS (tS (tS ?_))))
 refine I7 J0 rfl ?_
 refine H2 (i := 0) (l' := [tt,ff,ff,ff,ff,ff,ff,ff,ff,ff,ff]) rfl E8 (qM rfl) rfl (by kernel_rfl) rfl rfl ?_
 refine A0U (i := 1) (l' := [tt,tt,ff,ff,ff,ff,ff,ff,ff,ff,ff]) rfl E8 (M9 rfl rfl) rfl (by kernel_rfl) rfl rfl (fun h11 => ?_) (fun h11 => ?_)
 refine aP 2 rfl (qM rfl) rfl ?_
 refine D6 3 rfl rfl rfl ?_
 refine D6 4 rfl rfl rfl ?_
 refine D6 6 rfl rfl rfl ?_
 refine D6 7 rfl rfl rfl ?_
 refine D6 8 rfl rfl rfl ?_
 refine D6 5 rfl rfl rfl ?_
 refine D6 9 rfl rfl rfl ?_
 refine aP 10 rfl (L4 rfl rfl) rfl ?_
 refine I3 ?_
 (rw [A5V (by omega)]; exact ⟨rfl, rfl, rfl⟩)
 refine aP 2 rfl (qM rfl) rfl ?_
 refine aP 3 rfl (A5 rfl) rfl ?_
 refine aL 4 rfl (C1 rfl rfl) rfl ?_
 refine aP 6 rfl (A5 rfl) rfl ?_
 refine aL 7 rfl (C1 rfl rfl) rfl ?_
 refine aP 8 rfl (pLn rfl rfl) rfl ?_
 refine A8 5 ?_
 refine M3 rfl rfl (hk1) rfl rfl rfl ?_
 refine A0U (i := 9) (l' := [tt,tt,tt,tt,tt,tt,tt,tt,tt,tt,ff]) rfl E8 (N8 rfl rfl) rfl (by kernel_rfl) rfl rfl (fun h41 => ?_) (fun h41 => ?_)
 refine aP 10 rfl (M2 rfl rfl) rfl ?_
 refine I3 ?_
 (rw [A5V (by omega)]; exact ⟨rfl, rfl, rfl⟩)
 refine aP 10 rfl (M2 rfl rfl) rfl ?_
 refine I3 ?_
 refine D2 ?_
 (refine Q5 (fun (i : Nat) => ⟨[(5, .int .i64 i), (2, .pointer (some ⟨b3, 0, none⟩)), (1, .int .i64 d)], [.blk b3 [.int .i64 k, .slice p ks.length c]], G⟩) (fun i => i ≤ ks.length ∧ ∀ j (h : j < ks.length), j < i → H5 ks[j] (5 - d + 1) = true) (fun i => ks.length - i) 0 ?_ ?_ ?_)
 exact I9
 exact ⟨by omega, by omega⟩
 (rintro i ⟨hi, hf⟩)
 refine B8 ?_
 refine sB (M9 rfl rfl) rfl rfl (fun h79 => ?_) (fun h79 => ?_)
 refine sD (nS (qT rfl (tK (nS (tS ?_)))))
 refine D2 ?_
 refine P9 ?_
 (obtain ⟨b, o, p2, c2, rfl, hat, hre, hgb⟩ := hsl.kidTy hkl (i := i) (by omega) (by omega); refine sP (L9 rfl rfl rfl (by omega)) rfl rfl ?_)
 refine sL (C4 rfl rfl (hat _) rfl) rfl rfl ?_
 refine sQ (qM rfl) rfl ?_
 refine sP (A0V rfl rfl (by omega) (by omega)) rfl rfl ?_
 (have hih := ih ks[i] (List.getElem_mem (by omega)) (d - 1) G _ (by omega) hre; rw [show 5 - (d - 1) = 5 - d + 1 by omega] at hih; refine H7 rfl hih rfl rfl (fun h96 => ?_) (fun h96 => ?_))
 refine C2 ?_
 refine sP (O6 rfl rfl (by omega) (by omega)) rfl rfl ?_
 refine sQ (qA rfl) rfl (sD ?_)
 refine P5 (i + 1) ?_ ?_ ?_
 exact I9
 exact ⟨by omega, fun j hj hji => by (by_cases he : j = i; (subst he; assumption); exact hf j hj (by omega))⟩
 omega
 refine M8 ?_
 (rw [A5W (by omega) (by omega), A9m (i := i) (by omega) (by assumption)]; exact ⟨rfl, rfl, rfl⟩)
 refine L6 ?_
 (rw [A5W (by omega) (by omega), (A3P ks _).2 (fun j hj => hf j hj (by omega))]; exact ⟨rfl, rfl, rfl⟩)
theorem A9o (t : Ty) (G : IM) (cells : List Value) (hr : C5 G t cells) : Fn Tryz.prog 163 [.agg ⟨cells⟩] [] G (J8 (.bool (R2 t)) G) := by
 have hl := hr.len
 have hv := A9n t 4 G cells (by omega) hr
 refine B5 Tryz.func163 rfl Tryz.ntmps163 Tryz.results163 rfl ?_
 intro w0
 refine tS (tR ?_)
 refine sE (K0 rfl rfl) rfl (fun b3 => ?_)
 refine sQ (qA rfl) rfl (sD (nS (tS (tR ?_))))
 refine sL (C4 rfl rfl (E7 (by repeat first | exact mH | apply mT)) (by assumption)) rfl rfl ?_
 refine J9 rfl (hv) rfl rfl ?_
 refine sQ (qA rfl) rfl (sD (nS (tT (F0 (rT rfl) ?_))))
 exact ⟨rfl, rfl, rfl⟩
end Gw
end Go.Proofs.YtgodjiieijekiaaGreatDoor
