/-
  The data of the program: types and terms as trees, and how they lie in memory. What the functions of the program compute, in plain words over trees. Terms in memory of their own; slices that were made, filled and given up. The laws' mark texts: the letter m and a number's digits. Lists of paths: what they are in plain words, and how fresh ones lie in memory. The laws' comparisons, at data that are the same. Data that the call owns, block by block: what the laws' marking writes. The laws' marking of types. The laws' marking of terms. The laws' marking of terms and paths, and the reading of the marks. The laws' measure of arguments. Arguments that can be read as data lie in memory as trees do; a law that answers true in memory that was there before meets its row. strconv.Itoa of a number from 0 to 999 is its decimal digits, where the library's table lies as it was laid. The library's tables as the rows list them. Slices of numbers read as arguments. The reference model's source of numbers: each draw stays in its bounds. Slices of bytes read as arguments. The functions on types and the small tests of terms: each computes what the plain words say. The scans of types: typeScan, TypeValid, consistent, Consistent. The tests of terms. The scan of a term, CastValid, TermValid.
-/
import Derived.Test.YthpdjmbpbdbodaaGreatDoorKf0
import Derived.Laws.BytesArg
import Derived.WalkKit
import Derived.ProofKit
import Derived.OpenShut
import Derived.Carry
import Derived.Test.YthpdjmbpbdbodaaGreatDoorShelf
import Derived.Test.YthpdjmbpbdbodaaGreatDoorRows
import Derived.Deep.DeepHandedRow
import Derived.Lib.LaidTab
import Derived.Stop.LaidErr
set_option linter.unusedVariables false
set_option linter.unusedSimpArgs false
set_option maxHeartbeats 0
set_option maxRecDepth 100000
set_option synthInstance.maxSize 4000
set_option synthInstance.maxHeartbeats 0
namespace Go.Proofs.YthpdjmbpbdbodaaGreatDoor
open Go Go.RowKit
namespace Gw

structure D2 (G : IM) (p : Option Addr) (n c sz : Nat) (es : List (List Value)) : Prop where
 sl : Sl G p n c sz es.flatten
 len : es.length = n
 all : ∀ e ∈ es, e.length = sz
 one : ∀ e ∈ es, e.all (·.oneCell') = true

theorem D2.mono {G G' : IM} {p : Option Addr} {n c sz : Nat} {es : List (List Value)} (h : D2 G p n c sz es) (hg : B8 G G') : D2 G' p n c sz es := ⟨h.sl.mono hg, h.len, h.all, h.one⟩
theorem D2.nil (G : IM) (sz : Nat) : D2 G none 0 0 sz [] := ⟨Sl.nil G sz, rfl, by simp, by simp⟩

theorem A6H {sz : Nat} : ∀ {es : List (List Value)}, (∀ e ∈ es, e.length = sz) → ∀ {i : Nat} {e : List Value}, es[i]? = some e → ∀ j v, e[j]? = some v → es.flatten[i * sz + j]? = some v
 | [], _, i, e, h, _, _, _ => by simp at h
 | a :: r, hall, 0, e, h, j, v, hv => by
  simp at h; subst h
  have : j < a.length := (List.getElem?_eq_some_iff.1 hv).1
  simp [List.getElem?_append, this]
  simpa [List.getElem?_eq_getElem this] using hv
 | a :: r, hall, i + 1, e, h, j, v, hv => by
  have ih := A6H (es := r) (fun x hx => hall x (List.mem_cons_of_mem _ hx)) (i := i) (e := e) (by simpa using h) j v hv
  have ha := hall a List.mem_cons_self
  rw [List.flatten_cons, List.getElem?_append, if_neg (by rw [ha, Nat.succ_mul]; omega)]
  rw [show (i + 1) * sz + j - a.length = i * sz + j by rw [ha, Nat.succ_mul]; omega]
  exact ih

theorem D2.at {G : IM} {p : Option Addr} {n c sz : Nat} {es : List (List Value)} (h : D2 G p n c sz es) {i : Nat} {e : List Value} (hi : es[i]? = some e) :
  ∃ b o, p = some ⟨b, o, none⟩ ∧ ∀ hp, At hp G b (o + i * sz) e := by
 have hlt : i < es.length := (List.getElem?_eq_some_iff.1 hi).1
 obtain ⟨_, _, _, h4⟩ := h.sl
 have hn := h.len
 rcases h4 with h0 | ⟨b, o, full, hp, hg, hf⟩
 ·omega
 ·refine ⟨b, o, hp, fun hp => A3N hg fun j v hv => ?_⟩
  rw [Nat.add_assoc]
  exact hf _ v (A6H h.all hi j v hv)

theorem D2.get {G : IM} {p : Option Addr} {n c sz : Nat} {es : List (List Value)} (h : D2 G p n c sz es) {i : Nat} (hi : i < n) :
  ∃ e b o, es[i]? = some e ∧ p = some ⟨b, o, none⟩ ∧ e.length = sz ∧ e.all (·.oneCell') = true ∧ (∀ hp, At hp G b (o + i * sz) e) ∧ G b ≠ none := by
 have hlt : i < es.length := by rw [h.len]; exact hi
 have he : es[i]? = some es[i] := List.getElem?_eq_getElem hlt
 obtain ⟨b, o, h1, h2⟩ := h.at he
 refine ⟨es[i], b, o, he, h1, h.all _ (List.getElem_mem hlt), h.one _ (List.getElem_mem hlt), h2, ?_⟩
 obtain ⟨_, _, _, h4⟩ := h.sl
 rcases h4 with h0 | ⟨b', o', full, hp, hg, hf⟩
 ·omega
 ·rw [h1] at hp; cases hp; rw [hg]; simp
theorem D2.le {G : IM} {p : Option Addr} {n c sz : Nat} {es : List (List Value)} (h : D2 G p n c sz es) : n ≤ 9223372036854775807 := by
 have h1 := h.sl.2.1; have h2 := h.sl.2.2.1; unfold maxLen at h2; omega

theorem D2.of {G : IM} {p : Option Addr} {n c sz : Nat} {es : List (List Value)} (h : Sl G p n c sz es.flatten) (hl : es.length = n) (ha : ∀ e ∈ es, e.length = sz) (ho : ∀ e ∈ es, e.all (·.oneCell') = true) : D2 G p n c sz es := ⟨h, hl, ha, ho⟩

def E6 (n : Int) : Prop := -9223372036854775808 ≤ n ∧ n ≤ 9223372036854775807

inductive Ty where
 | mk (k : Int) (ks : List Ty)

def Ty.k : Ty → Int | .mk k _ => k
def Ty.ks : Ty → List Ty | .mk _ ks => ks

inductive Tm where
 | mk (k : Int) (nm : ByteArray) (num : Int) (ty fr : Ty) (lb : Int) (ks : List Tm)

def Tm.k : Tm → Int | .mk k _ _ _ _ _ _ => k
def Tm.nm : Tm → ByteArray | .mk _ n _ _ _ _ _ => n
def Tm.num : Tm → Int | .mk _ _ n _ _ _ _ => n
def Tm.ty : Tm → Ty | .mk _ _ _ t _ _ _ => t
def Tm.fr : Tm → Ty | .mk _ _ _ _ f _ _ => f
def Tm.lb : Tm → Int | .mk _ _ _ _ _ l _ => l
def Tm.ks : Tm → List Tm | .mk _ _ _ _ _ _ ks => ks

mutual
def Ty.small : Ty → Prop
 | .mk _ ks => ks.length ≤ 4294967296 ∧ Ty.smallL ks
def Ty.smallL : List Ty → Prop
 | [] => True
 | t :: ts => t.small ∧ Ty.smallL ts
end
mutual
def Tm.small : Tm → Prop
 | .mk _ nm _ ty fr _ ks => nm.size ≤ 4294967296 ∧ ty.small ∧ fr.small ∧ ks.length ≤ 4294967296 ∧ Tm.smallL ks
def Tm.smallL : List Tm → Prop
 | [] => True
 | t :: ts => t.small ∧ Tm.smallL ts
end
theorem Ty.smallL_mem : ∀ {ts : List Ty}, Ty.smallL ts → ∀ t ∈ ts, t.small
 | [], _, t, h => by simp at h
 | t' :: ts, h, t, ht => by
  simp only [Ty.smallL] at h
  rcases List.mem_cons.1 ht with rfl | ht
  ·exact h.1
  ·exact Ty.smallL_mem h.2 t ht
theorem Tm.smallL_mem : ∀ {ts : List Tm}, Tm.smallL ts → ∀ t ∈ ts, t.small
 | [], _, t, h => by simp at h
 | t' :: ts, h, t, ht => by
  simp only [Tm.smallL] at h
  rcases List.mem_cons.1 ht with rfl | ht
  ·exact h.1
  ·exact Tm.smallL_mem h.2 t ht

mutual
def B7 (G : IM) : Ty → List Value → Prop
 | .mk k ks, cells => ∃ p c es, cells = [.int .i64 k, .slice p ks.length c] ∧ E6 k ∧ D2 G p ks.length c 2 es ∧ C6 G ks es
def C6 (G : IM) : List Ty → List (List Value) → Prop
 | [], es => es = []
 | t :: ts, es => ∃ a r, es = a :: r ∧ B7 G t a ∧ C6 G ts r
end

mutual
def B0 (G : IM) : Tm → List Value → Prop
 | .mk k nm num ty fr lb ks, cells => ∃ tc fc p c es, cells = [.int .i64 k, .string nm, .int .i64 num] ++ tc ++ fc ++ [.int .i64 lb, .slice p ks.length c] ∧ E6 k ∧ E6 num ∧ E6 lb ∧ B7 G ty tc ∧ B7 G fr fc ∧ D2 G p ks.length c 9 es ∧ D3 G ks es
def D3 (G : IM) : List Tm → List (List Value) → Prop
 | [], es => es = []
 | t :: ts, es => ∃ a r, es = a :: r ∧ B0 G t a ∧ D3 G ts r
end

mutual
theorem B7.mono {G G' : IM} (hg : B8 G G') : ∀ {t : Ty} {cells : List Value}, B7 G t cells → B7 G' t cells
 | .mk k ks, cells, h => by
  simp only [B7] at h ⊢
  obtain ⟨p, c, es, h1, h2, h3, h4⟩ := h
  exact ⟨p, c, es, h1, h2, h3.mono hg, C6.mono hg h4⟩
theorem C6.mono {G G' : IM} (hg : B8 G G') : ∀ {ts : List Ty} {es : List (List Value)}, C6 G ts es → C6 G' ts es
 | [], es, h => by simpa only [C6] using h
 | t :: ts, es, h => by
  simp only [C6] at h ⊢
  obtain ⟨a, r, h1, h2, h3⟩ := h
  exact ⟨a, r, h1, B7.mono hg h2, C6.mono hg h3⟩
end
mutual
theorem B0.mono {G G' : IM} (hg : B8 G G') : ∀ {t : Tm} {cells : List Value}, B0 G t cells → B0 G' t cells
 | .mk k nm num ty fr lb ks, cells, h => by
  simp only [B0] at h ⊢
  obtain ⟨tc, fc, p, c, es, h1, h2, h3, h4, h5, h6, h7, h8⟩ := h
  exact ⟨tc, fc, p, c, es, h1, h2, h3, h4, h5.mono hg, h6.mono hg, h7.mono hg, D3.mono hg h8⟩
theorem D3.mono {G G' : IM} (hg : B8 G G') : ∀ {ts : List Tm} {es : List (List Value)}, D3 G ts es → D3 G' ts es
 | [], es, h => by simpa only [D3] using h
 | t :: ts, es, h => by
  simp only [D3] at h ⊢
  obtain ⟨a, r, h1, h2, h3⟩ := h
  exact ⟨a, r, h1, B0.mono hg h2, D3.mono hg h3⟩
end

theorem B7.open {G : IM} {t : Ty} {cells : List Value} (h : B7 G t cells) : ∃ p c es, cells = [.int .i64 t.k, .slice p t.ks.length c] ∧ E6 t.k ∧ D2 G p t.ks.length c 2 es ∧ C6 G t.ks es := by
 cases t; simpa only [B7, Ty.k, Ty.ks] using h
theorem B0.open {G : IM} {t : Tm} {cells : List Value} (h : B0 G t cells) : ∃ pt ct et pf cf ef p c es,
  cells = [.int .i64 t.k, .string t.nm, .int .i64 t.num, .int .i64 t.ty.k, .slice pt t.ty.ks.length ct, .int .i64 t.fr.k, .slice pf t.fr.ks.length cf, .int .i64 t.lb, .slice p t.ks.length c] ∧
  E6 t.k ∧ E6 t.num ∧ E6 t.lb ∧ (E6 t.ty.k ∧ D2 G pt t.ty.ks.length ct 2 et ∧ C6 G t.ty.ks et) ∧ (E6 t.fr.k ∧ D2 G pf t.fr.ks.length cf 2 ef ∧ C6 G t.fr.ks ef) ∧ D2 G p t.ks.length c 9 es ∧ D3 G t.ks es := by
 obtain ⟨k, nm, num, ty, fr, lb, ks⟩ := t
 simp only [B0] at h
 obtain ⟨tc, fc, p, c, es, h1, h2, h3, h4, h5, h6, h7, h8⟩ := h
 obtain ⟨pt, ct, et, rfl, t1, t2, t3⟩ := h5.open
 obtain ⟨pf, cf, ef, rfl, f1, f2, f3⟩ := h6.open
 exact ⟨pt, ct, et, pf, cf, ef, p, c, es, h1, h2, h3, h4, ⟨t1, t2, t3⟩, ⟨f1, f2, f3⟩, h7, h8⟩
theorem B0.open9 {G : IM} {k : Int} {nm : ByteArray} {num : Int} {tk : Int} {tks : List Ty} {fk : Int} {fks : List Ty} {lb : Int} {ks : List Tm} {cells : List Value} (h : B0 G (.mk k nm num (.mk tk tks) (.mk fk fks) lb ks) cells) :
  ∃ pt ct pf cf p c es, cells = [.int .i64 k, .string nm, .int .i64 num, .int .i64 tk, .slice pt tks.length ct, .int .i64 fk, .slice pf fks.length cf, .int .i64 lb, .slice p ks.length c] ∧
  E6 k ∧ E6 num ∧ E6 lb ∧ B7 G (.mk tk tks) [.int .i64 tk, .slice pt tks.length ct] ∧ B7 G (.mk fk fks) [.int .i64 fk, .slice pf fks.length cf] ∧ D2 G p ks.length c 9 es ∧ D3 G ks es := by
 obtain ⟨pt, ct, et, pf, cf, ef, p, c, es, h1, h2, h3, h4, ⟨t1, t2, t3⟩, ⟨f1, f2, f3⟩, h7, h8⟩ := h.open
 simp only [Tm.k, Tm.nm, Tm.num, Tm.ty, Tm.fr, Tm.lb, Tm.ks, Ty.k, Ty.ks] at h1 h2 h3 h4 t1 t2 t3 f1 f2 f3 h7 h8
 exact ⟨pt, ct, pf, cf, p, c, es, h1, h2, h3, h4, by simp only [B7]; exact ⟨_, _, et, rfl, t1, t2, t3⟩, by simp only [B7]; exact ⟨_, _, ef, rfl, f1, f2, f3⟩, h7, h8⟩
theorem B7.len {G : IM} {t : Ty} {cells : List Value} (h : B7 G t cells) : cells.length = 2 := by
 obtain ⟨_, _, _, rfl, _⟩ := h.open; rfl
theorem B0.len {G : IM} {t : Tm} {cells : List Value} (h : B0 G t cells) : cells.length = 9 := by
 obtain ⟨_, _, _, _, _, _, _, _, _, rfl, _⟩ := h.open; rfl

theorem C6.len {G : IM} : ∀ {ts : List Ty} {es : List (List Value)}, C6 G ts es → es.length = ts.length
 | [], es, h => by simp only [C6] at h; subst h; rfl
 | t :: ts, es, h => by
  simp only [C6] at h
  obtain ⟨a, r, rfl, _, h3⟩ := h
  simp [h3.len]
theorem D3.len {G : IM} : ∀ {ts : List Tm} {es : List (List Value)}, D3 G ts es → es.length = ts.length
 | [], es, h => by simp only [D3] at h; subst h; rfl
 | t :: ts, es, h => by
  simp only [D3] at h
  obtain ⟨a, r, rfl, _, h3⟩ := h
  simp [h3.len]
theorem C6.get {G : IM} : ∀ {ts : List Ty} {es : List (List Value)}, C6 G ts es → ∀ {i : Nat} {t : Ty}, ts[i]? = some t → ∃ e, es[i]? = some e ∧ B7 G t e
 | [], es, h, i, t, hi => by simp at hi
 | t' :: ts, es, h, i, t, hi => by
  simp only [C6] at h
  obtain ⟨a, r, rfl, h2, h3⟩ := h
  cases i with
  | zero => simp at hi; subst hi; exact ⟨a, rfl, h2⟩
  | succ i => obtain ⟨e, he, hr⟩ := h3.get (i := i) (by simpa using hi); exact ⟨e, by simpa using he, hr⟩
theorem D3.get {G : IM} : ∀ {ts : List Tm} {es : List (List Value)}, D3 G ts es → ∀ {i : Nat} {t : Tm}, ts[i]? = some t → ∃ e, es[i]? = some e ∧ B0 G t e
 | [], es, h, i, t, hi => by simp at hi
 | t' :: ts, es, h, i, t, hi => by
  simp only [D3] at h
  obtain ⟨a, r, rfl, h2, h3⟩ := h
  cases i with
  | zero => simp at hi; subst hi; exact ⟨a, rfl, h2⟩
  | succ i => obtain ⟨e, he, hr⟩ := h3.get (i := i) (by simpa using hi); exact ⟨e, by simpa using he, hr⟩
theorem C6.all {G : IM} {ts : List Ty} {es : List (List Value)} (h : C6 G ts es) : ∀ e ∈ es, e.length = 2 := by
 intro e he
 obtain ⟨i, hi⟩ := List.getElem?_of_mem he
 have hlt : i < ts.length := by have := (List.getElem?_eq_some_iff.1 hi).1; rw [h.len] at this; exact this
 obtain ⟨e', he', hr⟩ := h.get (i := i) (t := ts[i]) (by simp [hlt])
 rw [hi] at he'; cases he'; exact hr.len
theorem D3.all {G : IM} {ts : List Tm} {es : List (List Value)} (h : D3 G ts es) : ∀ e ∈ es, e.length = 9 := by
 intro e he
 obtain ⟨i, hi⟩ := List.getElem?_of_mem he
 have hlt : i < ts.length := by have := (List.getElem?_eq_some_iff.1 hi).1; rw [h.len] at this; exact this
 obtain ⟨e', he', hr⟩ := h.get (i := i) (t := ts[i]) (by simp [hlt])
 rw [hi] at he'; cases he'; exact hr.len

theorem B7.one {G : IM} {t : Ty} {cells : List Value} (h : B7 G t cells) : cells.all (·.oneCell') = true := by
 obtain ⟨_, _, _, rfl, _⟩ := h.open; rfl
theorem B0.one {G : IM} {t : Tm} {cells : List Value} (h : B0 G t cells) : cells.all (·.oneCell') = true := by
 obtain ⟨_, _, _, _, _, _, _, _, _, rfl, _⟩ := h.open; rfl

theorem Ty.ind {C : Ty → Prop} (h : ∀ k ks, (∀ t ∈ ks, C t) → C (.mk k ks)) : ∀ t, C t
 | .mk k ks => h k ks fun t ht => Ty.ind h t
termination_by t => SizeOf.sizeOf t
decreasing_by
 have := List.sizeOf_lt_of_mem ht
 simp only [Ty.mk.sizeOf_spec]; omega
theorem Tm.ind {C : Tm → Prop} (h : ∀ k nm num ty fr lb ks, (∀ t ∈ ks, C t) → C (.mk k nm num ty fr lb ks)) : ∀ t, C t
 | .mk k nm num ty fr lb ks => h k nm num ty fr lb ks fun t ht => Tm.ind h t
termination_by t => SizeOf.sizeOf t
decreasing_by
 have := List.sizeOf_lt_of_mem ht
 simp only [Tm.mk.sizeOf_spec]; omega

def C4 (G' G : IM) : IM := fun b => match G b with | none => G' b | some _ => none
theorem C4.le (G' G : IM) : B8 (C4 G' G) G' := by
 intro b l h
 unfold C4 at h
 split at h
 ·exact h
 ·cases h
theorem C4.mono {G' G'' G : IM} (h : B8 G' G'') : B8 (C4 G' G) (C4 G'' G) := by
 intro b l hb
 unfold C4 at hb ⊢
 split at hb
 ·exact h b l hb
 ·cases hb
theorem C4.anti {G' G G0 : IM} (h : B8 G0 G) : B8 (C4 G' G) (C4 G' G0) := by
 intro b l hb
 unfold C4 at hb ⊢
 split at hb
 ·rename_i h0
  cases h1 : G0 b with
  | none => exact hb
  | some l' => rw [h b l' h1] at h0; cases h0
 ·cases hb
theorem C4.out {G' G : IM} {b : Nat} (h : C4 G' G b ≠ none) : G b = none := by
 unfold C4 at h
 split at h
 ·assumption
 ·exact absurd rfl h
theorem Sl.dif {G' G G0 : IM} {p : Option Addr} {n c sz : Nat} {cs : List Value} (h : Sl G' p n c sz cs) (hp : ∀ b ∈ I9 p, G b = none) (hle : B8 G0 G) : Sl (C4 G' G0) p n c sz cs := by
 obtain ⟨h1, h2, h3, h4⟩ := h
 refine ⟨h1, h2, h3, h4.imp id ?_⟩
 rintro ⟨b, o, full, rfl, e2, e3⟩
 refine ⟨b, o, full, rfl, ?_, e3⟩
 have hb := hp b (by simp [I9])
 have h0 : G0 b = none := by
  cases h1 : G0 b with
  | none => rfl
  | some l => rw [hle b l h1] at hb; cases hb
 simp [C4, h0, e2]

mutual
def P7 (G : IM) : Ty → List Value → List Nat → Prop
 | .mk k ks, cells, F => ∃ p c es Fs, cells = [.int .i64 k, .slice p ks.length c] ∧ E6 k ∧ D2 G p ks.length c 2 es ∧ N3 G ks es Fs ∧ F = I9 p ++ Fs ∧ (∀ b ∈ I9 p, G b ≠ none)
def N3 (G : IM) : List Ty → List (List Value) → List Nat → Prop
 | [], es, F => es = [] ∧ F = []
 | t :: ts, es, F => ∃ a r Fa Fr, es = a :: r ∧ P7 G t a Fa ∧ N3 G ts r Fr ∧ F = Fa ++ Fr
end
mutual
theorem P7.R {G : IM} : ∀ {t : Ty} {cells : List Value} {F : List Nat}, P7 G t cells F → B7 G t cells
 | .mk k ks, cells, F, h => by
  simp only [P7] at h
  obtain ⟨p, c, es, Fs, h1, h2, h3, h4, _⟩ := h
  simp only [B7]
  exact ⟨p, c, es, h1, h2, h3, N3.R h4⟩
theorem N3.R {G : IM} : ∀ {ts : List Ty} {es : List (List Value)} {F : List Nat}, N3 G ts es F → C6 G ts es
 | [], es, F, h => by simp only [N3] at h; simp only [C6]; exact h.1
 | t :: ts, es, F, h => by
  simp only [N3] at h
  obtain ⟨a, r, Fa, Fr, h1, h2, h3, _⟩ := h
  simp only [C6]
  exact ⟨a, r, h1, P7.R h2, N3.R h3⟩
end
mutual
theorem P7.mono {G G' : IM} (hg : B8 G G') : ∀ {t : Ty} {cells : List Value} {F : List Nat}, P7 G t cells F → P7 G' t cells F
 | .mk k ks, cells, F, h => by
  simp only [P7] at h ⊢
  obtain ⟨p, c, es, Fs, h1, h2, h3, h4, h5, h6⟩ := h
  exact ⟨p, c, es, Fs, h1, h2, h3.mono hg, N3.mono hg h4, h5, fun b hb => by cases hgb : G b with | none => exact absurd hgb (h6 b hb) | some l => rw [hg b l hgb]; simp⟩
theorem N3.mono {G G' : IM} (hg : B8 G G') : ∀ {ts : List Ty} {es : List (List Value)} {F : List Nat}, N3 G ts es F → N3 G' ts es F
 | [], es, F, h => by simpa only [N3] using h
 | t :: ts, es, F, h => by
  simp only [N3] at h ⊢
  obtain ⟨a, r, Fa, Fr, h1, h2, h3, h4⟩ := h
  exact ⟨a, r, Fa, Fr, h1, P7.mono hg h2, N3.mono hg h3, h4⟩
end
mutual
theorem P7.inG {G : IM} : ∀ {t : Ty} {cells : List Value} {F : List Nat}, P7 G t cells F → ∀ b ∈ F, G b ≠ none
 | .mk k ks, cells, F, h => by
  simp only [P7] at h
  obtain ⟨p, c, es, Fs, h1, h2, h3, h4, rfl, h6⟩ := h
  intro b hb
  rcases List.mem_append.1 hb with hb | hb
  ·exact h6 b hb
  ·exact N3.inG h4 b hb
theorem N3.inG {G : IM} : ∀ {ts : List Ty} {es : List (List Value)} {F : List Nat}, N3 G ts es F → ∀ b ∈ F, G b ≠ none
 | [], es, F, h => by simp only [N3] at h; rw [h.2]; simp
 | t :: ts, es, F, h => by
  simp only [N3] at h
  obtain ⟨a, r, Fa, Fr, h1, h2, h3, rfl⟩ := h
  intro b hb
  rcases List.mem_append.1 hb with hb | hb
  ·exact P7.inG h2 b hb
  ·exact N3.inG h3 b hb
end
theorem N3.snoc {G : IM} : ∀ {ts : List Ty} {es : List (List Value)} {F : List Nat} {t : Ty} {a : List Value} {Fa : List Nat}, N3 G ts es F → P7 G t a Fa → N3 G (ts ++ [t]) (es ++ [a]) (F ++ Fa)
 | [], es, F, t, a, Fa, h, h2 => by
  simp only [N3] at h
  obtain ⟨rfl, rfl⟩ := h
  simp only [List.nil_append, N3]
  exact ⟨a, [], Fa, [], rfl, h2, ⟨rfl, rfl⟩, by simp⟩
 | t' :: ts, es, F, t, a, Fa, h, h2 => by
  simp only [N3] at h
  obtain ⟨a', r, Fa', Fr, rfl, h3, h4, rfl⟩ := h
  simp only [List.cons_append, N3]
  exact ⟨a', r ++ [a], Fa', Fr ++ Fa, rfl, h3, N3.snoc h4 h2, by simp⟩

theorem D2.kidTy {G : IM} {p : Option Addr} {n c : Nat} {es : List (List Value)} {ks : List Ty} (h : D2 G p n c 2 es) (hk : C6 G ks es) {i : Nat} (hi : i < n) (hn : i < ks.length) :
  ∃ b o p2 c2, p = some ⟨b, o, none⟩ ∧ (∀ hp, At hp G b (o + i * 2) [.int .i64 ks[i].k, .slice p2 ks[i].ks.length c2]) ∧ B7 G ks[i] [.int .i64 ks[i].k, .slice p2 ks[i].ks.length c2] ∧ G b ≠ none := by
 obtain ⟨e, b, o, he, h1, h2, h3, h4, h5⟩ := h.get hi
 obtain ⟨e', he', hr⟩ := hk.get (i := i) (t := ks[i]) (by simp [hn])
 rw [he] at he'; cases he'
 obtain ⟨p2, c2, _, rfl, _⟩ := hr.open
 exact ⟨b, o, p2, c2, h1, h4, hr, h5⟩

theorem N3.step {G Gi G1 : IM} {ks : List Ty} {i : Nat} {es : List (List Value)} {F F' : List Nat} {a : List Value} (h : N3 (C4 Gi G) (ks.take i) es F) (hn : F.Nodup) (hle : B8 G Gi) (hle1 : B8 Gi G1) (hi : i < ks.length)
  (ha : P7 (C4 G1 Gi) ks[i] a F') (hn' : F'.Nodup) : N3 (C4 G1 G) (ks.take (i + 1)) (es ++ [a]) (F ++ F') ∧ (F ++ F').Nodup := by
 constructor
 ·rw [List.take_succ_eq_append_getElem hi]
  exact N3.snoc (h.mono (C4.mono hle1)) (ha.mono (C4.anti hle))
 ·rw [List.nodup_append]
  refine ⟨hn, hn', ?_⟩
  rintro x hx y hy rfl
  have h1 := h.inG x hx
  have h2 := C4.out (ha.inG x hy)
  apply h1
  cases hd : C4 Gi G x with
  | none => rfl
  | some l => rw [C4.le _ _ x l hd] at h2; cases h2
theorem P7.fin {G Gi G2 : IM} {k : Int} {ks : List Ty} {es : List (List Value)} {F : List Nat} {p : Option Addr} {c : Nat} (h : N3 (C4 Gi G) ks es F) (hn : F.Nodup) (hle : B8 G Gi) (hle2 : B8 Gi G2)
  (hsl : Sl G2 p ks.length c 2 es.flatten) (hnn : ∀ b ∈ I9 p, Gi b = none ∧ G2 b ≠ none) (hk : E6 k) :
  ∃ F', P7 (C4 G2 G) (.mk k ks) [.int .i64 k, .slice p ks.length c] F' ∧ F'.Nodup := by
 have hno := fun b hb => (hnn b hb).1
 have hin := fun b hb => (hnn b hb).2
 have hR := h.R
 refine ⟨I9 p ++ F, ?_, ?_⟩
 ·simp only [P7]
  refine ⟨p, c, es, F, rfl, hk, D2.of (hsl.dif hno hle) hR.len hR.all ?_, h.mono (C4.mono hle2), rfl, ?_⟩
  ·intro e he
   obtain ⟨i, hi⟩ := List.getElem?_of_mem he
   have hlt : i < ks.length := by have := (List.getElem?_eq_some_iff.1 hi).1; rw [hR.len] at this; exact this
   obtain ⟨e', he', hr⟩ := hR.get (i := i) (t := ks[i]) (by simp [hlt])
   rw [hi] at he'; cases he'; exact hr.one
  ·intro b hb
   have h0 := hno b hb
   cases hg : G b with
   | none => simpa [C4, hg] using hin b hb
   | some l => rw [hle b l hg] at h0; cases h0
 ·rw [List.nodup_append]
  refine ⟨by cases p <;> simp [I9], hn, ?_⟩
  rintro x hx y hy rfl
  have h1 := h.inG x hy
  have h2 := hno x hx
  apply h1
  cases hd : C4 Gi G x with
  | none => rfl
  | some l => rw [C4.le _ _ x l hd] at h2; cases h2

def A0n (q : Nat → Bool) (n : Nat) : Int := match (List.range n).find? q with | some i => i | none => -1
theorem A4Y {q : Nat → Bool} {n : Nat} (h : ∀ j, j < n → q j = false) : A0n q n = -1 := by
 have : (List.range n).find? q = none := by
  rw [List.find?_eq_none]
  intro x hx
  rw [h x (List.mem_range.1 hx)]; simp
 simp [A0n, this]
theorem A6I {q : Nat → Bool} {n i : Nat} (hi : i < n) (h : ∀ j, j < i → q j = false) (hq : q i = true) : A0n q n = i := by
 have : (List.range n).find? q = some i := by
  rw [List.find?_eq_some_iff_append]
  refine ⟨hq, List.range i, (List.range n).drop (i + 1), ?_, ?_⟩
  ·apply List.ext_getElem?
   intro k
   simp only [List.getElem?_append, List.length_range, List.getElem?_range', List.getElem?_cons, List.getElem?_drop]
   by_cases h1 : k < i
   ·simp [h1, show k < n by omega]
   ·by_cases h2 : k = i
    ·subst h2; simp [hi]
    ·have h3 : k - i ≠ 0 := by omega
     simp only [h1, if_false, h3]
     rw [show i + 1 + (k - i - 1) = k by omega]
  ·intro a ha
   simp [h a (List.mem_range.1 ha)]
 simp [A0n, this]

def P8 (n lo hi : Int) : Bool := decide (lo ≤ n ∧ n ≤ hi)
theorem A25 {n lo hi : Int} (h : P8 n lo hi = true) : lo ≤ n ∧ n ≤ hi := by simpa [P8] using h
theorem A6J {n lo hi : Int} (h : P8 n lo hi = false) : ¬(lo ≤ n ∧ n ≤ hi) := by simpa [P8] using h
def T1 (k : Int) : Int := if k = 1 ∨ k = 2 ∨ k = 3 then 0 else if k = 4 ∨ k = 5 then 2 else -1
theorem M0 (k : Int) : (k = 1 ∨ k = 2 ∨ k = 3 → T1 k = 0) ∧ (k = 4 ∨ k = 5 → T1 k = 2) ∧ (k ≠ 1 → k ≠ 2 → k ≠ 3 → k ≠ 4 → k ≠ 5 → T1 k = -1) := by
 unfold T1; split <;> try split
 all_goals omega
def D0 (k : Int) : Int := if k = 1 ∨ k = 2 ∨ k = 3 ∨ k = 4 then 0 else if k = 5 ∨ k = 11 ∨ k = 12 ∨ k = 13 ∨ k = 14 then 1 else if k = 6 ∨ k = 7 ∨ k = 8 ∨ k = 10 then 2 else if k = 9 then 3 else -1

mutual
def K1 : Ty → Int → Bool
 | .mk k ks, d => decide (d ≤ 4) && decide (T1 k = ks.length) && T7 ks (d + 1)
def T7 : List Ty → Int → Bool
 | [], _ => true
 | t :: ts, d => K1 t d && T7 ts d
end
theorem A3W : ∀ (ts : List Ty) (d : Int), T7 ts d = true ↔ ∀ i, (h : i < ts.length) → K1 ts[i] d = true
 | [], d => by simp [T7]
 | t :: ts, d => by
  simp only [T7, Bool.and_eq_true, A3W ts d]
  constructor
  ·rintro ⟨h1, h2⟩ i hi
   cases i with
   | zero => exact h1
   | succ i => exact h2 i (by simpa using hi)
  ·intro h
   exact ⟨h 0 (by simp), fun i hi => h (i + 1) (by simpa using hi)⟩
def E4 (t : Ty) : Bool := K1 t 1
def W3 (t : Ty) : Bool := decide (t.k = 0 ∧ t.ks.length = 0)

mutual
def J5 : Ty → Ty → Bool
 | .mk k ks, t => decide (k = 1) || decide (t.k = 1) || (decide (k = t.k) && O3 ks t.ks)
def O3 : List Ty → List Ty → Bool
 | [], [] => true
 | a :: xs, b :: ys => J5 a b && O3 xs ys
 | _, _ => false
end
theorem U9 (k k' : Int) (ks ks' : List Ty) : J5 (.mk k ks) (.mk k' ks') = (decide (k = 1) || decide (k' = 1) || (decide (k = k') && O3 ks ks')) := by rw [J5]; rfl
theorem A1E : ∀ (xs ys : List Ty), O3 xs ys = true ↔ xs.length = ys.length ∧ ∀ i, (h : i < xs.length) → (h' : i < ys.length) → J5 xs[i] ys[i] = true
 | [], [] => by simp [O3]
 | [], b :: ys => by simp [O3]
 | a :: xs, [] => by simp [O3]
 | a :: xs, b :: ys => by
  simp only [O3, Bool.and_eq_true, A1E xs ys, List.length_cons]
  constructor
  ·rintro ⟨h1, h2, h3⟩
   refine ⟨by omega, fun i hi hi' => ?_⟩
   cases i with
   | zero => exact h1
   | succ i => exact h3 i (by simpa using hi) (by simpa using hi')
  ·rintro ⟨h1, h2⟩
   exact ⟨h2 0 (by simp) (by simp), by omega, fun i hi hi' => h2 (i + 1) (by simpa using hi) (by simpa using hi')⟩
def A0N (a b : Ty) : Bool := E4 a && E4 b && J5 a b
def W4 (s : ByteArray) : Bool := decide (s.size = 1 ∧ 97 ≤ (s.data.getD 0 0).toNat ∧ (s.data.getD 0 0).toNat ≤ 122)
def A0O (n : Int) : Bool := P8 n 1 99 || P8 n (-99) (-1)

theorem A3X {s : ByteArray} {j : Int} (h : j.toNat < s.size) : s[j.toNat]? = some (s.data.getD j.toNat 0) := by
 rw [getElem?_pos s j.toNat h]
 show some (s.data[j.toNat]'h) = _
 rw [Array.getD_eq_getD_getElem?, getElem?_pos s.data j.toNat h]
 rfl
theorem B0l {q : Nat → Bool} {n : Nat} : A0n q n < 0 ↔ ∀ j, j < n → q j = false := by
 constructor
 ·intro h j hj
  unfold A0n at h
  split at h
  ·omega
  ·rename_i hf
   have := List.find?_eq_none.1 hf j (List.mem_range.2 hj)
   simpa using this
 ·intro h; rw [A4Y h]; omega
theorem A6K {q : Nat → Bool} {n : Nat} : 0 ≤ A0n q n ↔ ∃ j, j < n ∧ q j = true := by
 have h := @B0l q n
 constructor
 ·intro h0
  apply Classical.byContradiction
  intro hn
  have : A0n q n < 0 := h.2 fun j hj => by cases hq : q j with | false => rfl | true => exact absurd ⟨j, hj, hq⟩ hn
  omega
 ·rintro ⟨j, hj, hq⟩
  apply Classical.byContradiction
  intro hn
  rw [h.1 (by omega) j hj] at hq
  exact absurd hq (by simp)
theorem A6L {α : Type} (f : α → Bool) (ks : List α) (a : α) : decide (0 ≤ A0n (fun i => !f (ks.getD i a)) ks.length) = !ks.all f := by
 cases h : ks.all f with
 | true =>
  rw [List.all_eq_true] at h
  apply decide_eq_false
  rw [A6K]
  rintro ⟨j, hj, hq⟩
  rw [List.getD_eq_getElem?_getD, List.getElem?_eq_getElem hj, Option.getD_some, h _ (List.getElem_mem hj)] at hq
  exact absurd hq (by simp)
 | false =>
  apply decide_eq_true
  rw [A6K]
  apply Classical.byContradiction
  intro hn
  have : ks.all f = true := by
   rw [List.all_eq_true]
   intro x hx
   obtain ⟨j, hj, rfl⟩ := List.getElem_of_mem hx
   cases hf : f ks[j] with
   | true => rfl
   | false => exact absurd ⟨j, hj, by rw [List.getD_eq_getElem?_getD, List.getElem?_eq_getElem hj, Option.getD_some, hf]; rfl⟩ hn
  rw [h] at this
  exact absurd this (by simp)
theorem T8 : ∀ (ks : List Ty) (d : Int), T7 ks d = ks.all (K1 · d)
 | [], d => rfl
 | t :: ts, d => by simp [T7, T8 ts d]
theorem C6.inv {G : IM} : ∀ {ts : List Ty} {es : List (List Value)}, C6 G ts es → ∀ {i : Nat} {e : List Value}, es[i]? = some e → ∀ a, ts.getD i a ∈ ts ∧ B7 G (ts.getD i a) e
 | [], es, h, i, e, he, a => by
  have := h.len
  simp only [List.length_nil, List.length_eq_zero_iff] at this
  subst this; simp at he
 | t :: ts, es, h, i, e, he, a => by
  have hi : i < es.length := by
   apply Classical.byContradiction; intro hn; rw [List.getElem?_eq_none (by omega)] at he; simp at he
  have hl := h.len
  obtain ⟨e', he', hr⟩ := h.get (i := i) (t := (t :: ts)[i]'(by omega)) (by rw [List.getElem?_eq_getElem])
  rw [he] at he'
  obtain rfl := Option.some.inj he'
  rw [List.getD_eq_getElem?_getD, List.getElem?_eq_getElem (by omega), Option.getD_some]
  exact ⟨List.getElem_mem _, hr⟩
theorem D3.inv {G : IM} : ∀ {ts : List Tm} {es : List (List Value)}, D3 G ts es → ∀ {i : Nat} {e : List Value}, es[i]? = some e → ∀ a, ts.getD i a ∈ ts ∧ B0 G (ts.getD i a) e
 | [], es, h, i, e, he, a => by
  have := h.len
  simp only [List.length_nil, List.length_eq_zero_iff] at this
  subst this; simp at he
 | t :: ts, es, h, i, e, he, a => by
  have hi : i < es.length := by
   apply Classical.byContradiction; intro hn; rw [List.getElem?_eq_none (by omega)] at he; simp at he
  have hl := h.len
  obtain ⟨e', he', hr⟩ := h.get (i := i) (t := (t :: ts)[i]'(by omega)) (by rw [List.getElem?_eq_getElem])
  rw [he] at he'
  obtain rfl := Option.some.inj he'
  rw [List.getD_eq_getElem?_getD, List.getElem?_eq_getElem (by omega), Option.getD_some]
  exact ⟨List.getElem_mem _, hr⟩
def B4 : Ty := .mk 0 []
theorem B0m {p : Prop} [Decidable p] {x y : Bool} : ((if p then x else y) = true) ↔ ((p → x = true) ∧ (¬p → y = true)) := by by_cases h : p <;> simp [h]
theorem B0n {k : Int} (h : 1 ≤ k ∧ k ≤ 14) : ([Value.int .i64 0, .int .i64 0, .int .i64 0, .int .i64 0, .int .i64 1, .int .i64 2, .int .i64 2, .int .i64 2, .int .i64 3, .int .i64 2, .int .i64 1, .int .i64 1, .int .i64 1, .int .i64 1])[(k - 1).toNat]? = some (.int .i64 (D0 k)) := by
 have : k = 1 ∨ k = 2 ∨ k = 3 ∨ k = 4 ∨ k = 5 ∨ k = 6 ∨ k = 7 ∨ k = 8 ∨ k = 9 ∨ k = 10 ∨ k = 11 ∨ k = 12 ∨ k = 13 ∨ k = 14 := by omega
 rcases this with rfl | rfl | rfl | rfl | rfl | rfl | rfl | rfl | rfl | rfl | rfl | rfl | rfl | rfl <;> rfl
theorem A4Z {k : Int} (h : ¬(1 ≤ k ∧ k ≤ 14)) : D0 k = -1 := by
 unfold D0; repeat (split; omega)
 rfl
theorem B0o {cs : List Value} {o : Nat} {v : Value} (h : cs[o]? = some v) : ∀ j u, [v][j]? = some u → cs[o + j]? = some u := by
 intro j u hj
 cases j with
 | zero => simpa using hj ▸ h
 | succ j => simp at hj
def T9 (k : Int) (nm : ByteArray) (num : Int) (ty fr : Ty) (lb : Int) (n : Nat) : Bool :=
 decide (D0 k = n) && (if k = 1 ∨ k = 5 then W4 nm else decide (nm = ⟨#[]⟩)) && (if k = 2 then P8 num 0 999 else P8 num 0 0) &&
 (if k = 5 ∨ k = 13 ∨ k = 14 then E4 ty else W3 ty) && (if k = 14 then A0N fr ty && A0O lb else W3 fr && decide (lb = 0))
theorem U0 {k : Int} {nm : ByteArray} {num : Int} {ty fr : Ty} {lb : Int} {n : Nat} : T9 k nm num ty fr lb n = true ↔
  D0 k = n ∧ (k = 1 ∨ k = 5 → W4 nm = true) ∧ (¬(k = 1 ∨ k = 5) → nm = ⟨#[]⟩) ∧ (k = 2 → P8 num 0 999 = true) ∧ (k ≠ 2 → P8 num 0 0 = true) ∧
  (k = 5 ∨ k = 13 ∨ k = 14 → E4 ty = true) ∧ (¬(k = 5 ∨ k = 13 ∨ k = 14) → W3 ty = true) ∧ (k = 14 → A0N fr ty = true ∧ A0O lb = true) ∧ (k ≠ 14 → W3 fr = true ∧ lb = 0) := by
 simp only [T9, Bool.and_eq_true, B0m, decide_eq_true_eq, and_assoc, ne_eq]
mutual
def R6 (M D N : Int) : Tm → Int → Int → Bool × Int
 | .mk k nm num ty fr lb ks, deep, c => if c + 1 > M ∨ deep > D ∨ k = N ∨ T9 k nm num ty fr lb ks.length = false then (false, c + 1) else S5 M D N ks (deep + 1) (c + 1)
def S5 (M D N : Int) : List Tm → Int → Int → Bool × Int
 | [], _, c => (true, c)
 | t :: ts, deep, c => if (R6 M D N t deep c).1 = true then S5 M D N ts deep (R6 M D N t deep c).2 else (false, (R6 M D N t deep c).2)
end
mutual
theorem A40 (M D N : Int) : ∀ (t : Tm) (deep c : Int), 0 ≤ c → c ≤ M → c < (R6 M D N t deep c).2 ∧ (R6 M D N t deep c).2 ≤ M + 1 ∧ ((R6 M D N t deep c).1 = true → (R6 M D N t deep c).2 ≤ M)
 | .mk k nm num ty fr lb ks, deep, c, h0, h1 => by
  rw [R6]
  split
  ·simp; omega
  ·rename_i h
   have := A6M M D N ks (deep + 1) (c + 1) (by omega) (by omega)
   exact ⟨by omega, this.2⟩
theorem A6M (M D N : Int) : ∀ (ts : List Tm) (deep c : Int), 0 ≤ c → c ≤ M → c ≤ (S5 M D N ts deep c).2 ∧ (S5 M D N ts deep c).2 ≤ M + 1 ∧ ((S5 M D N ts deep c).1 = true → (S5 M D N ts deep c).2 ≤ M)
 | [], deep, c, h0, h1 => by rw [S5]; simp; omega
 | t :: ts, deep, c, h0, h1 => by
  have := A40 M D N t deep c h0 h1
  rw [S5]
  split
  ·rename_i h
   have h2 := A6M M D N ts deep (R6 M D N t deep c).2 (by omega) (this.2.2 h)
   exact ⟨by omega, h2.2⟩
  ·simp; omega
end
def O1 (t : Tm) : Bool := (R6 200 40 13 t 1 0).1
def P9 (t : Tm) : Bool := (R6 30 12 14 t 1 0).1
theorem D2.kidTm {G : IM} {p : Option Addr} {n c : Nat} {es : List (List Value)} {ks : List Tm} (h : D2 G p n c 9 es) (hk : D3 G ks es) {i : Nat} (hi : i < n) (hn : i < ks.length) :
  ∃ b o e, p = some ⟨b, o, none⟩ ∧ e.length = 9 ∧ (∀ hp, At hp G b (o + i * 9) e) ∧ B0 G ks[i] e ∧ G b ≠ none := by
 obtain ⟨e, b, o, he, hp, hl, _, hat, hg⟩ := h.get hi
 have := (hk.inv he (ks[i])).2
 rw [List.getD_eq_getElem?_getD, List.getElem?_eq_getElem hn, Option.getD_some] at this
 exact ⟨b, o, e, hp, hl, hat, this, hg⟩
theorem A3Y {M D N : Int} {k : Int} {nm : ByteArray} {num : Int} {ty fr : Ty} {lb : Int} {ks : List Tm} {deep c : Int} (h : c + 1 > M ∨ deep > D ∨ k = N ∨ T9 k nm num ty fr lb ks.length = false) :
  R6 M D N (.mk k nm num ty fr lb ks) deep c = (false, c + 1) := by rw [R6, if_pos h]
theorem B0p {M D N : Int} {k : Int} {nm : ByteArray} {num : Int} {ty fr : Ty} {lb : Int} {ks : List Tm} {deep c : Int} (h1 : ¬(c + 1 > M ∨ deep > D ∨ k = N)) (h2 : T9 k nm num ty fr lb ks.length = true) :
  R6 M D N (.mk k nm num ty fr lb ks) deep c = S5 M D N ks (deep + 1) (c + 1) := by
 rw [R6, if_neg]
 rw [h2]
 intro h
 apply h1
 rcases h with h | h | h | h
 ·exact .inl h
 ·exact .inr (.inl h)
 ·exact .inr (.inr h)
 ·cases h
theorem B0q {M D N : Int} {ks : List Tm} {i : Nat} {deep c : Int} (hi : i < ks.length) (h : (R6 M D N ks[i] deep c).1 = true) : S5 M D N (ks.drop i) deep c = S5 M D N (ks.drop (i + 1)) deep (R6 M D N ks[i] deep c).2 := by
 rw [List.drop_eq_getElem_cons hi, S5, if_pos h]
theorem B0r {M D N : Int} {ks : List Tm} {i : Nat} {deep c : Int} (hi : i < ks.length) (h : (R6 M D N ks[i] deep c).1 = false) : S5 M D N (ks.drop i) deep c = (false, (R6 M D N ks[i] deep c).2) := by
 rw [List.drop_eq_getElem_cons hi, S5, if_neg (by rw [h]; simp)]
theorem B0s {M D N : Int} {ks : List Tm} {i : Nat} {deep c : Int} (hi : i = ks.length) : S5 M D N (ks.drop i) deep c = (true, c) := by
 rw [hi, List.drop_length, S5]
section blk
variable {P : Program} {Γ : L4} {env : L7} {hp : List A6} {G : IM} {K : Po} {ops : Array Oper} {rest : List Oper}
end blk

theorem A41 : ∀ {A B C V : List Value} {o : Nat}, A.length = o → B.length = V.length → R5 (A ++ (B ++ C)) o V = some (A ++ (V ++ C))
 | [], B, C, V, o, h, hv => by
  simp at h; subst h
  simp only [List.nil_append]
  induction B generalizing V with
  | nil => cases V with
   | nil => cases C <;> rfl
   | cons v V => simp at hv
  | cons b B ih => cases V with
   | nil => simp at hv
   | cons v V =>
    simp only [List.cons_append, R5, ih (V := V) (by simpa using hv)]
 | a :: A, B, C, V, o, h, hv => by
  simp at h; subst h
  simp only [List.cons_append, R5, A41 (A := A) (B := B) (C := C) rfl hv]
theorem A0v {sz : Nat} : ∀ {es : List (List Value)}, (∀ e ∈ es, e.length = sz) → es.flatten.length = es.length * sz
 | [], _ => by simp
 | e :: es, h => by
  rw [List.flatten_cons, List.length_append, h e List.mem_cons_self, A0v (es := es) fun x hx => h x (List.mem_cons_of_mem _ hx), List.length_cons, Nat.succ_mul]; omega
def A6N (G : IM) (ks : List Ty) (p : Option Addr) (c : Nat) (F : List Nat) : Prop := ∃ es Fs, D2 G p ks.length c 2 es ∧ N3 G ks es Fs ∧ F = I9 p ++ Fs ∧ (∀ b ∈ I9 p, G b ≠ none)
theorem P7.open {G : IM} {t : Ty} {cells : List Value} {F : List Nat} (h : P7 G t cells F) : ∃ p c, cells = [.int .i64 t.k, .slice p t.ks.length c] ∧ E6 t.k ∧ A6N G t.ks p c F := by
 cases t
 simp only [P7] at h
 obtain ⟨p, c, es, Fs, h0, hk, h1, h2, h3, h4⟩ := h
 exact ⟨p, c, h0, hk, es, Fs, h1, h2, h3, h4⟩
mutual
def P2 (G : IM) : Tm → List Value → List Nat → Prop
 | .mk k nm num ty fr lb ks, cells, F => ∃ tc fc p c es Ft Ff Fs, cells = [.int .i64 k, .string nm, .int .i64 num] ++ tc ++ fc ++ [.int .i64 lb, .slice p ks.length c] ∧ E6 k ∧ E6 num ∧ E6 lb ∧ P7 G ty tc Ft ∧ P7 G fr fc Ff ∧
   D2 G p ks.length c 9 es ∧ N4 G ks es Fs ∧ F = Ft ++ (Ff ++ (I9 p ++ Fs)) ∧ (∀ b ∈ I9 p, G b ≠ none)
def N4 (G : IM) : List Tm → List (List Value) → List Nat → Prop
 | [], es, F => es = [] ∧ F = []
 | t :: ts, es, F => ∃ a r Fa Fr, es = a :: r ∧ P2 G t a Fa ∧ N4 G ts r Fr ∧ F = Fa ++ Fr
end
def A1Z (G : IM) (ks : List Tm) (p : Option Addr) (c : Nat) (F : List Nat) : Prop := ∃ es Fs, D2 G p ks.length c 9 es ∧ N4 G ks es Fs ∧ F = I9 p ++ Fs ∧ (∀ b ∈ I9 p, G b ≠ none)
mutual
theorem P2.R {G : IM} : ∀ {t : Tm} {cells : List Value} {F : List Nat}, P2 G t cells F → B0 G t cells
 | .mk k nm num ty fr lb ks, cells, F, h => by
  simp only [P2] at h
  obtain ⟨tc, fc, p, c, es, Ft, Ff, Fs, h1, h2, h3, h4, h5, h6, h7, h8, _⟩ := h
  simp only [B0]
  exact ⟨tc, fc, p, c, es, h1, h2, h3, h4, h5.R, h6.R, h7, N4.R h8⟩
theorem N4.R {G : IM} : ∀ {ts : List Tm} {es : List (List Value)} {F : List Nat}, N4 G ts es F → D3 G ts es
 | [], es, F, h => by simp only [N4] at h; simp only [D3]; exact h.1
 | t :: ts, es, F, h => by
  simp only [N4] at h
  obtain ⟨a, r, Fa, Fr, h1, h2, h3, _⟩ := h
  simp only [D3]
  exact ⟨a, r, h1, P2.R h2, N4.R h3⟩
end
theorem A2u {G G' : IM} (hg : B8 G G') {F : List Nat} (h : ∀ b ∈ F, G b ≠ none) : ∀ b ∈ F, G' b ≠ none := fun b hb => by
 cases hgb : G b with
 | none => exact absurd hgb (h b hb)
 | some l => rw [hg b l hgb]; simp
mutual
theorem P2.mono {G G' : IM} (hg : B8 G G') : ∀ {t : Tm} {cells : List Value} {F : List Nat}, P2 G t cells F → P2 G' t cells F
 | .mk k nm num ty fr lb ks, cells, F, h => by
  simp only [P2] at h ⊢
  obtain ⟨tc, fc, p, c, es, Ft, Ff, Fs, h1, h2, h3, h4, h5, h6, h7, h8, h9, h10⟩ := h
  exact ⟨tc, fc, p, c, es, Ft, Ff, Fs, h1, h2, h3, h4, h5.mono hg, h6.mono hg, h7.mono hg, N4.mono hg h8, h9, A2u hg h10⟩
theorem N4.mono {G G' : IM} (hg : B8 G G') : ∀ {ts : List Tm} {es : List (List Value)} {F : List Nat}, N4 G ts es F → N4 G' ts es F
 | [], es, F, h => by simpa only [N4] using h
 | t :: ts, es, F, h => by
  simp only [N4] at h ⊢
  obtain ⟨a, r, Fa, Fr, h1, h2, h3, h4⟩ := h
  exact ⟨a, r, Fa, Fr, h1, P2.mono hg h2, N4.mono hg h3, h4⟩
end
mutual
theorem P2.inG {G : IM} : ∀ {t : Tm} {cells : List Value} {F : List Nat}, P2 G t cells F → ∀ b ∈ F, G b ≠ none
 | .mk k nm num ty fr lb ks, cells, F, h => by
  simp only [P2] at h
  obtain ⟨tc, fc, p, c, es, Ft, Ff, Fs, h1, h2, h3, h4, h5, h6, h7, h8, rfl, h10⟩ := h
  intro b hb
  simp only [List.mem_append] at hb
  rcases hb with hb | hb | hb | hb
  ·exact h5.inG b hb
  ·exact h6.inG b hb
  ·exact h10 b hb
  ·exact N4.inG h8 b hb
theorem N4.inG {G : IM} : ∀ {ts : List Tm} {es : List (List Value)} {F : List Nat}, N4 G ts es F → ∀ b ∈ F, G b ≠ none
 | [], es, F, h => by simp only [N4] at h; rw [h.2]; simp
 | t :: ts, es, F, h => by
  simp only [N4] at h
  obtain ⟨a, r, Fa, Fr, h1, h2, h3, rfl⟩ := h
  intro b hb
  rcases List.mem_append.1 hb with hb | hb
  ·exact P2.inG h2 b hb
  ·exact N4.inG h3 b hb
end
theorem N4.snoc {G : IM} : ∀ {ts : List Tm} {es : List (List Value)} {F : List Nat} {t : Tm} {a : List Value} {Fa : List Nat}, N4 G ts es F → P2 G t a Fa → N4 G (ts ++ [t]) (es ++ [a]) (F ++ Fa)
 | [], es, F, t, a, Fa, h, h2 => by
  simp only [N4] at h
  obtain ⟨rfl, rfl⟩ := h
  simp only [List.nil_append, N4]
  exact ⟨a, [], Fa, [], rfl, h2, ⟨rfl, rfl⟩, by simp⟩
 | t' :: ts, es, F, t, a, Fa, h, h2 => by
  simp only [N4] at h
  obtain ⟨a', r, Fa', Fr, rfl, h3, h4, rfl⟩ := h
  simp only [List.cons_append, N4]
  exact ⟨a', r ++ [a], Fa', Fr ++ Fa, rfl, h3, N4.snoc h4 h2, by simp⟩
theorem A10 {G Gi : IM} {F F' : List Nat} {G1 : IM} (h : ∀ b ∈ F, C4 Gi G b ≠ none) (h' : ∀ b ∈ F', C4 G1 Gi b ≠ none) : ∀ x ∈ F, ∀ y ∈ F', x ≠ y := by
 rintro x hx y hy rfl
 have h1 := h x hx
 have h2 := C4.out (h' x hy)
 apply h1
 cases hd : C4 Gi G x with
 | none => rfl
 | some l => rw [C4.le _ _ x l hd] at h2; cases h2
theorem N4.step {G Gi G1 : IM} {ks : List Tm} {i : Nat} {es : List (List Value)} {F F' : List Nat} {a : List Value} (h : N4 (C4 Gi G) (ks.take i) es F) (hn : F.Nodup) (hle : B8 G Gi) (hle1 : B8 Gi G1) (hi : i < ks.length)
  (ha : P2 (C4 G1 Gi) ks[i] a F') (hn' : F'.Nodup) : N4 (C4 G1 G) (ks.take (i + 1)) (es ++ [a]) (F ++ F') ∧ (F ++ F').Nodup := by
 constructor
 ·rw [List.take_succ_eq_append_getElem hi]
  exact N4.snoc (h.mono (C4.mono hle1)) (ha.mono (C4.anti hle))
 ·rw [List.nodup_append]
  exact ⟨hn, hn', A10 h.inG ha.inG⟩
theorem B0t (p : Option Addr) : (I9 p).Nodup := by cases p <;> simp [I9]
theorem A1Z.fin {G Gi G2 : IM} {ks : List Tm} {es : List (List Value)} {F : List Nat} {p : Option Addr} {c : Nat} (h : N4 (C4 Gi G) ks es F) (hn : F.Nodup) (hle : B8 G Gi) (hle2 : B8 Gi G2)
  (hsl : Sl G2 p ks.length c 9 es.flatten) (hnn : ∀ b ∈ I9 p, Gi b = none ∧ G2 b ≠ none) :
  ∃ F', A1Z (C4 G2 G) ks p c F' ∧ F'.Nodup := by
 have hR := h.R
 have hin : ∀ b ∈ I9 p, C4 G2 G b ≠ none := by
  intro b hb
  have h0 := (hnn b hb).1
  cases hg : G b with
  | none => simpa [C4, hg] using (hnn b hb).2
  | some l => rw [hle b l hg] at h0; cases h0
 refine ⟨I9 p ++ F, ⟨es, F, D2.of (hsl.dif (fun b hb => (hnn b hb).1) hle) hR.len hR.all ?_, h.mono (C4.mono hle2), rfl, hin⟩, ?_⟩
 ·intro e he
  obtain ⟨i, hi⟩ := List.getElem?_of_mem he
  have hlt : i < ks.length := by have := (List.getElem?_eq_some_iff.1 hi).1; rw [hR.len] at this; exact this
  obtain ⟨e', he', hr⟩ := hR.get (i := i) (t := ks[i]) (by simp [hlt])
  rw [hi] at he'; cases he'; exact hr.one
 ·rw [List.nodup_append]
  refine ⟨B0t p, hn, ?_⟩
  rintro x hx y hy rfl
  have h1 := h.inG x hy
  have h2 := (hnn x hx).1
  apply h1
  cases hd : C4 Gi G x with
  | none => rfl
  | some l => rw [C4.le _ _ x l hd] at h2; cases h2
theorem P2.mk3 {G G1 G2 G3 : IM} {k : Int} {nm : ByteArray} {num : Int} {ty fr : Ty} {lb : Int} {ks : List Tm} {tc fc : List Value} {p : Option Addr} {c : Nat} {F1 F2 F3 : List Nat} (hk : E6 k) (hnum : E6 num) (hlb : E6 lb)
  (hl1 : B8 G G1) (hl2 : B8 G1 G2) (hl3 : B8 G2 G3) (h1 : P7 (C4 G1 G) ty tc F1) (n1 : F1.Nodup) (h2 : P7 (C4 G2 G1) fr fc F2) (n2 : F2.Nodup) (h3 : A1Z (C4 G3 G2) ks p c F3) (n3 : F3.Nodup) :
  ∃ F, P2 (C4 G3 G) (.mk k nm num ty fr lb ks) ([.int .i64 k, .string nm, .int .i64 num] ++ tc ++ fc ++ [.int .i64 lb, .slice p ks.length c]) F ∧ F.Nodup := by
 obtain ⟨es, Fs, e1, e2, rfl, e4⟩ := h3
 have i3 : ∀ b ∈ I9 p ++ Fs, C4 G3 G2 b ≠ none := by
  intro b hb
  rcases List.mem_append.1 hb with hb | hb
  ·exact e4 b hb
  ·exact e2.inG b hb
 have a2 : B8 (C4 G2 G1) (C4 G3 G) := fun b l h => C4.mono hl3 b l (C4.anti hl1 b l h)
 have a3 : B8 (C4 G3 G2) (C4 G3 G) := C4.anti (hl1.trans hl2)
 refine ⟨F1 ++ (F2 ++ (I9 p ++ Fs)), ?_, ?_⟩
 ·simp only [P2]
  exact ⟨tc, fc, p, c, es, F1, F2, Fs, rfl, hk, hnum, hlb, h1.mono (C4.mono (hl2.trans hl3)), h2.mono a2, e1.mono a3, e2.mono a3, rfl, A2u a3 e4⟩
 ·rw [List.nodup_append, List.nodup_append]
  refine ⟨n1, ⟨n2, n3, A10 h2.inG i3⟩, ?_⟩
  rintro x hx y hy rfl
  rcases List.mem_append.1 hy with hy | hy
  ·exact A10 h1.inG h2.inG x hx x hy rfl
  ·have h1' : ∀ b ∈ F1, C4 G2 G b ≠ none := A2u (C4.mono hl2) h1.inG
   exact A10 h1' i3 x hx x hy rfl
section clawss
variable {P : Program} {Γ : L4} {env : L7} {hp : List A6} {G : IM} {ty : TypeId}
theorem A6O {s d : TypeId} {is id : K3} [hS : H3 P s is] [hD : H3 P d id] (hd : id.desc = .int .u8) {k : IntKind} (hs : is.desc = .int k) {x : Operand} {n : Int} (hx : evo env x = some (.int k n)) (h0 : 0 ≤ n) (h1 : n ≤ 255) :
  I4 P Γ ⟨env, hp, G⟩ (.convert s d x) ty (.int .u8 n) := by
 refine ⟨fun a _ hst _ _ _ _ w => ?_⟩
 have hu := hD.und
 rw [hd] at hu
 have hus := hS.und
 rw [hs] at hus
 have hw : IntKind.u8.wrap n = n := IntWalk.u8_in n ⟨h0, h1⟩
 simp [execOp, convert, run_underlying hus, run_underlying hu, (hst.evo hx : a.eval x = _), Conv.intToInt, hw]
theorem A6P {s d e : TypeId} {is id ie : K3} [hS : H3 P s is] [hD : H3 P d id] [hE : H3 P e ie] (hs : is.desc = .slice e) (he : ie.desc = .int .u8) (hd : id.desc = .string) {x : Operand} {b o n c : Nat} {xs : List Int}
  (hx : evo env x = some (.slice (some ⟨b, o, none⟩) n c)) (hl : xs.length = n) (hv : At hp G b o (xs.map (Value.int .u8))) : A1h P Γ ⟨env, hp, G⟩ (.convert s d x) ty b (.string (strOfNums xs)) := by
 refine ⟨fun a w hst => ?_⟩
 obtain ⟨full, e', f, hb, hf⟩ := hv.read hst
 refine ⟨A0s hb, fun w' hw' d' pos af gd => ?_⟩
 have hus := hS.und
 rw [hs] at hus
 have hue := hE.und
 rw [he] at hue
 have hud := hD.und
 rw [hd] at hud
 have hc := run_convert_bytes_arg (P := P) w' s e hus hue b o n c xs hl (fun i hi => by
  have := hf i (.int .u8 (xs.getD i 0)) (by simp [List.getD, List.getElem?_eq_getElem (show i < xs.length by omega)])
  simp [World.cell?, hw', hb, this]) d hud
 have hx' : a.eval x = _ := hst.evo hx
 simp only [execOp, hx', Sem.run_bind]
 rw [hc]
 rfl
theorem A42 {x y : Operand} {t t' : TypeId} {m n : Nat} (hx : evo env x = some (.int .i64 (m : Int))) (hy : evo env y = some (.int .i64 (n : Int))) (hn : 0 < n) :
  I4 P Γ ⟨env, hp, G⟩ (.binOp .rem t x y t') ty (.int .i64 ((m % n : Nat) : Int)) := by
 have h := A2Y (P := P) (Γ := Γ) (hp := hp) (G := G) (ty := ty) (t := t) (t' := t') hx hy (by omega)
 rwa [show ((m : Int).tmod n) = ((m % n : Nat) : Int) from rfl] at h
theorem A43 {x y : Operand} {t t' : TypeId} {m n : Nat} (hx : evo env x = some (.int .i64 (m : Int))) (hy : evo env y = some (.int .i64 (n : Int))) (hn : 0 < n) (hm : m ≤ 9223372036854775807) :
  I4 P Γ ⟨env, hp, G⟩ (.binOp .quo t x y t') ty (.int .i64 ((m / n : Nat) : Int)) := by
 have hd : m / n ≤ m := Nat.div_le_self _ _
 have e : ((m : Int).tdiv n) = ((m / n : Nat) : Int) := rfl
 have h := A9N (P := P) (Γ := Γ) (hp := hp) (G := G) (ty := ty) (t := t) (t' := t') hx hy (by omega) (by rw [e]; generalize m / n = q at *; omega) (by rw [e]; generalize m / n = q at *; omega)
 rwa [e] at h
end clawss
def dgi (k : Nat) : Int := 48 + ((k % 10 : Nat) : Int)
def A6Q : Nat → Nat → ByteArray → ByteArray
 | 0, _, out => out
 | f + 1, k, out => if 0 < k then A6Q f (k / 10) (strOfNums [dgi k] ++ out) else out
def B0u (k : Nat) : ByteArray := ⟨#[109]⟩ ++ A6Q 20 k ⟨⟨[]⟩⟩
def A44 (l : List Int) : List Value := l.map (Value.int .i64 ·)
mutual
def D1 : Tm → Nat
 | .mk _ _ _ _ _ _ ks => E1 ks + 1
def E1 : List Tm → Nat
 | [] => 0
 | t :: ts => D1 t + E1 ts
end
mutual
def A6R : Tm → List Int → List (List Int)
 | .mk _ _ _ _ _ _ ks, path => path :: A6S ks 0 path
def A6S : List Tm → Nat → List Int → List (List Int)
 | [], _, _ => []
 | t :: ts, i, path => A6R t (path ++ [(i : Int)]) ++ A6S ts (i + 1) path
end
theorem A45 : ∀ {ks : List Tm} {t : Tm}, t ∈ ks → D1 t ≤ E1 ks
 | [], t, h => by simp at h
 | t' :: ts, t, h => by
  rw [E1]
  rcases List.mem_cons.1 h with rfl | h
  ·omega
  ·have := A45 h; omega
theorem A3Z : ∀ (a b : List Tm), E1 (a ++ b) = E1 a + E1 b
 | [], b => by simp [E1]
 | t :: a, b => by rw [List.cons_append, E1, E1, A3Z a b]; omega
theorem A0P {ks : List Tm} {i : Nat} (hi : i < ks.length) : E1 (ks.take i) + D1 ks[i] ≤ E1 ks := by
 have h := A3Z (ks.take (i + 1)) (ks.drop (i + 1))
 rw [List.take_append_drop, List.take_succ_eq_append_getElem hi, A3Z] at h
 simp only [E1] at h
 omega
theorem A0Q {ks : List Tm} {i : Nat} (hi : i < ks.length) : E1 (ks.take (i + 1)) = E1 (ks.take i) + D1 ks[i] := by
 rw [List.take_succ_eq_append_getElem hi, A3Z]
 simp only [E1]; omega
theorem B0v (t : Tm) : 0 < D1 t := by cases t; rw [D1]; omega
theorem A46 : ∀ (ks : List Tm), ks.length ≤ E1 ks
 | [] => by simp
 | .mk _ _ _ _ _ _ _ :: ts => by have := A46 ts; simp only [List.length_cons, E1, D1]; omega

theorem Sl.nn {G : IM} {p : Option Addr} {n c sz : Nat} {cs : List Value} (h : Sl G p n c sz cs) : p = none → n = 0 := by
 rintro rfl
 rcases h.2.2.2 with h | ⟨b, o, full, h, _⟩
 ·exact h
 ·cases h
def SPs (G : IM) : List (List Int) → List Value → List Nat → Prop
 | [], es, F => es = [] ∧ F = []
 | l :: ls, es, F => ∃ p c r Fr, es = .slice p l.length c :: r ∧ F = I9 p ++ Fr ∧ Sl G p l.length c 1 (A44 l) ∧ (∀ b ∈ I9 p, G b ≠ none) ∧ (p = none → l.length = 0) ∧ SPs G ls r Fr
def RPs (G : IM) (ls : List (List Int)) (p : Option Addr) (c : Nat) : Prop := ∃ es F, Sl G p ls.length c 1 es ∧ (∀ b ∈ I9 p, G b ≠ none) ∧ SPs G ls es F ∧ (I9 p ++ F).Nodup
mutual
theorem A47 (M D N : Int) : ∀ (t : Tm) (deep c : Int), (R6 M D N t deep c).1 = true → (R6 M D N t deep c).2 = c + D1 t
 | .mk k nm num ty fr lb ks, deep, c, h => by
  rw [R6] at h ⊢
  split at h
  ·cases h
  ·rename_i hc
   rw [if_neg hc, A6T M D N ks (deep + 1) (c + 1) h, D1]
   omega
theorem A6T (M D N : Int) : ∀ (ts : List Tm) (deep c : Int), (S5 M D N ts deep c).1 = true → (S5 M D N ts deep c).2 = c + E1 ts
 | [], deep, c, h => by rw [S5, E1]; simp
 | t :: ts, deep, c, h => by
  rw [S5] at h ⊢
  split at h
  ·rename_i h1
   rw [if_pos h1, A6T M D N ts deep _ h, A47 M D N t deep c h1, E1]
   omega
  ·cases h
end
theorem A6U {t : Tm} (h : O1 t = true) : D1 t ≤ 200 := by
 have h1 := A47 200 40 13 t 1 0 h
 have h2 := (A40 200 40 13 t 1 0 (by omega) (by omega)).2.2 h
 omega
def B4X (t : Tm) : List (List Int) := if O1 t = true then A6R t [] else []
section slaws
variable {P : Program} {Γ : L4} {env : L7} {hp : List A6} {G : IM} {ty : TypeId}
end slaws
theorem Sl.kid {G : IM} {p : Option Addr} {n c : Nat} {cs : List Value} (h : Sl G p n c 1 cs) {i : Nat} (hi : i < n) :
  ∃ b o v, p = some ⟨b, o, none⟩ ∧ cs[i]? = some v ∧ (∀ hp, At hp G b (o + i * 1) [v]) ∧ G b ≠ none := by
 obtain ⟨h1, h2, h3, h4⟩ := h
 obtain ⟨b, o, full, rfl, hg, hv⟩ := h4.resolve_left (by omega)
 have hlt : i < cs.length := by omega
 refine ⟨b, o, cs[i], rfl, List.getElem?_eq_getElem hlt, fun hp => A3N hg ?_, by rw [hg]; simp⟩
 intro j v hj
 cases j with
 | zero => simp at hj; subst hj; simpa using hv i _ (List.getElem?_eq_getElem hlt)
 | succ j => simp at hj
theorem Sl.le {G : IM} {p : Option Addr} {n c sz : Nat} {cs : List Value} (h : Sl G p n c sz cs) : n ≤ 9223372036854775807 := by
 have h1 := h.2.1; have h2 := h.2.2.1; unfold maxLen at h2; omega


abbrev A0R := List (Nat × List Value)

mutual
def OTy : Ty → List Value → A0R → Prop
 | .mk k ks, cells, bs => ∃ p c, cells = [.int .i64 k, .slice p ks.length c] ∧ E6 k ∧ ks.length ≤ c ∧ c ≤ maxLen ∧ ((ks = [] ∧ bs = []) ∨ ∃ b A C es r, p = some ⟨b, A.length, none⟩ ∧ bs = (b, A ++ (es.flatten ++ C)) :: r ∧ A48 ks es r)
def A48 : List Ty → List (List Value) → A0R → Prop
 | [], es, bs => es = [] ∧ bs = []
 | t :: ts, es, bs => ∃ e e' r1 r2, es = e :: e' ∧ bs = r1 ++ r2 ∧ OTy t e r1 ∧ A48 ts e' r2
end
def A6V (ks : List Ty) (p : Option Addr) (c : Nat) (bs : A0R) : Prop :=
 ks.length ≤ c ∧ c ≤ maxLen ∧ ((ks = [] ∧ bs = []) ∨ ∃ b A C es r, p = some ⟨b, A.length, none⟩ ∧ bs = (b, A ++ (es.flatten ++ C)) :: r ∧ A48 ks es r)
mutual
def OTm : Tm → List Value → A0R → Prop
 | .mk k nm num ty fr lb ks, cells, bs => ∃ tc fc p c bt bf bk, cells = [.int .i64 k, .string nm, .int .i64 num] ++ tc ++ fc ++ [.int .i64 lb, .slice p ks.length c] ∧ E6 k ∧ E6 num ∧ E6 lb ∧ OTy ty tc bt ∧ OTy fr fc bf ∧
   ks.length ≤ c ∧ c ≤ maxLen ∧ ((ks = [] ∧ bk = []) ∨ ∃ b A C es r, p = some ⟨b, A.length, none⟩ ∧ bk = (b, A ++ (es.flatten ++ C)) :: r ∧ A49 ks es r) ∧ bs = bt ++ (bf ++ bk)
def A49 : List Tm → List (List Value) → A0R → Prop
 | [], es, bs => es = [] ∧ bs = []
 | t :: ts, es, bs => ∃ e e' r1 r2, es = e :: e' ∧ bs = r1 ++ r2 ∧ OTm t e r1 ∧ A49 ts e' r2
end
def B0w (ks : List Tm) (p : Option Addr) (c : Nat) (bs : A0R) : Prop :=
 ks.length ≤ c ∧ c ≤ maxLen ∧ ((ks = [] ∧ bs = []) ∨ ∃ b A C es r, p = some ⟨b, A.length, none⟩ ∧ bs = (b, A ++ (es.flatten ++ C)) :: r ∧ A49 ks es r)
mutual
def A6W : Ty → Int
 | .mk _ ks => 1 + Y2 ks
def Y2 : List Ty → Int
 | [] => 0
 | t :: ts => A6W t + Y2 ts
end
mutual
def B0x : Ty → Int → Ty
 | .mk _ ks, k => .mk k (A1F ks (k + 1))
def A1F : List Ty → Int → List Ty
 | [], _ => []
 | t :: ts, k => B0x t k :: A1F ts (k + A6W t)
end
mutual
def A6X : Tm → Int
 | .mk _ _ _ ty fr _ ks => 6 + Y2 ty.ks + Y2 fr.ks + A6Y ks
def A6Y : List Tm → Int
 | [] => 0
 | t :: ts => A6X t + A6Y ts
end
mutual
def B0y : Tm → Int → Tm
 | .mk _ _ _ ty fr _ ks, k => .mk k (B0u (k + 1).toNat) (k + 1 + 1) (.mk (k + 1 + 1 + 1) (A1F ty.ks (k + 1 + 1 + 1 + 1))) (.mk (k + 1 + 1 + 1 + 1 + Y2 ty.ks) (A1F fr.ks (k + 1 + 1 + 1 + 1 + Y2 ty.ks + 1))) (k + 1 + 1 + 1 + 1 + Y2 ty.ks + 1 + Y2 fr.ks) (A30 ks (k + 1 + 1 + 1 + 1 + Y2 ty.ks + 1 + Y2 fr.ks + 1))
def A30 : List Tm → Int → List Tm
 | [], _ => []
 | t :: ts, k => B0y t k :: A30 ts (k + A6X t)
end
section lend
variable {P : Program} {Γ : L4} {env : L7} {hp : List A6} {G : IM} {K : Po} {ops : Array Oper} {rest : List Oper} {ty : TypeId} {pos : String} {af : Array Edge} {gd : Option (Nat × Bool)}
def B4Y (v0 : Value) (G : IM) (Φ : A0R → Prop) : IM → Value → List A6 → Prop := fun G' v outs => G' = G ∧ v = v0 ∧ ∃ bs', outs = A1m bs' ∧ Φ bs'
end lend
def MTm (t : Tm) (k : Int) (cells : List Value) (bs : A0R) : Prop := ∃ pt ct pf cf p c bt bf bk,
 cells = [.int .i64 t.k, .string t.nm, .int .i64 t.num, .int .i64 t.ty.k, .slice pt t.ty.ks.length ct, .int .i64 t.fr.k, .slice pf t.fr.ks.length cf, .int .i64 t.lb, .slice p t.ks.length c] ∧
 A6V (A1F t.ty.ks k) pt ct bt ∧ A6V (A1F t.fr.ks (k + Y2 t.ty.ks)) pf cf bf ∧ B0w (A30 t.ks (k + Y2 t.ty.ks + Y2 t.fr.ks)) p c bk ∧ bs = bt ++ (bf ++ bk)
def A6Z : Nat → Int → List Int
 | 0, _ => []
 | n + 1, k => k :: A6Z n (k + 1)
def OIs (l : List Int) (p : Option Addr) (c : Nat) (bs : A0R) : Prop :=
 l.length ≤ c ∧ c ≤ maxLen ∧ ((l = [] ∧ bs = []) ∨ ∃ b A C, p = some ⟨b, A.length, none⟩ ∧ bs = [(b, A ++ (A44 l ++ C))])
def OPs : List (List Int) → List Value → A0R → Prop
 | [], es, bs => es = [] ∧ bs = []
 | l :: ls, es, bs => ∃ p c e' r1 r2, es = .slice p l.length c :: e' ∧ bs = r1 ++ r2 ∧ OIs l p c r1 ∧ OPs ls e' r2
def B0z : List (List Int) → Int
 | [] => 0
 | l :: ls => l.length + B0z ls
def B0A : List (List Int) → Int → List (List Int)
 | [], _ => []
 | l :: ls, k => A6Z l.length k :: B0A ls (k + l.length)
section lend0
variable {P : Program} {Γ : L4} {env : L7} {G : IM} {K : Po} {ops : Array Oper} {rest : List Oper} {ty : TypeId} {pos : String} {af : Array Edge} {gd : Option (Nat × Bool)}
end lend0
def QPs (G : IM) : List (List Int) → List Value → Prop
 | [], es => es = []
 | l :: ls, es => ∃ p c r, es = .slice p l.length c :: r ∧ Sl G p l.length c 1 (A44 l) ∧ QPs G ls r
mutual
def J0 : Ty → Int
 | .mk _ ks => ks.length + N0 ks
def N0 : List Ty → Int
 | [] => 0
 | t :: ts => J0 t + N0 ts
end
mutual
def Z3 : Tm → Int
 | .mk _ nm _ ty fr _ ks => nm.size + J0 ty + J0 fr + (ks.length + V6 ks)
def V6 : List Tm → Int
 | [] => 0
 | t :: ts => Z3 t + V6 ts
end
mutual
theorem A0S : ∀ t : Ty, 0 ≤ J0 t
 | .mk _ ks => by have := A1n ks; rw [J0]; omega
theorem A1n : ∀ ts : List Ty, 0 ≤ N0 ts
 | [] => by rw [N0]; omega
 | t :: ts => by have := A0S t; have := A1n ts; rw [N0]; omega
end
mutual
theorem A60 : ∀ t : Tm, 0 ≤ Z3 t
 | .mk _ _ _ ty fr _ ks => by have := A31 ks; have := A0S ty; have := A0S fr; rw [Z3]; omega
theorem A31 : ∀ ts : List Tm, 0 ≤ V6 ts
 | [] => by rw [V6]; omega
 | t :: ts => by have := A60 t; have := A31 ts; rw [V6]; omega
end
theorem A5a : ∀ a b : List Ty, N0 (a ++ b) = N0 a + N0 b
 | [], b => by simp [N0]
 | t :: a, b => by rw [List.cons_append, N0, N0, A5a a b]; omega
theorem B0B {ks : List Ty} {i : Nat} (hi : i < ks.length) : N0 (ks.take (i + 1)) = N0 (ks.take i) + J0 ks[i] := by
 rw [List.take_succ_eq_append_getElem hi, A5a, N0, N0]; omega
theorem A61 (ks : List Ty) (i : Nat) : N0 (ks.take i) ≤ N0 ks := by
 have h := A5a (ks.take i) (ks.drop i)
 rw [List.take_append_drop] at h
 have := A1n (ks.drop i); omega
mutual
def Tm.nok : Tm → Prop
 | .mk _ nm _ _ _ _ ks => nm.size ≤ 9223372036854775807 ∧ Tm.nokL ks
def Tm.nokL : List Tm → Prop
 | [] => True
 | t :: ts => t.nok ∧ Tm.nokL ts
end
def B4Z (left s : Int) : Int := if s ≤ left then left - s else -1
end Gw
end Go.Proofs.YthpdjmbpbdbodaaGreatDoor
namespace Go.Proofs.YthpdjmbpbdbodaaGreatDoor
open Go Go.RowKit Go.ChangeShapes Go.WideShapes Go.ChangeAt
namespace Gw
def GW (w : World) : IM := fun b => match w.heap[b]? with
 | some (.cells c _ _) => some c.toList
 | _ => none
theorem B0C (w : World) : R7 [] (GW w) w := by
 refine ⟨?_, by simp, by simp [Fp], by simp [Fp]⟩
 intro b l h
 unfold GW at h
 split at h
 ·rename_i c e f hb; cases h; exact ⟨e, f, by simpa using hb⟩
 ·cases h
theorem A62 {w : World} {b o : Nat} {v : Value} (h : w.cell? ⟨b, o, none⟩ = some v) : ∃ full, GW w b = some full ∧ full[o]? = some v := by
 unfold World.cell? at h
 simp only at h
 split at h
 ·rename_i c e f hb
  exact ⟨c.toList, by simp [GW, hb], by simpa using h⟩
 ·cases h
theorem A63 {sz : Nat} : ∀ {es : List (List Value)}, (∀ e ∈ es, e.length = sz) → ∀ {j : Nat} {v : Value}, es.flatten[j]? = some v → ∃ i e r, es[i]? = some e ∧ e[r]? = some v ∧ j = i * sz + r
 | [], _, j, v, h => by simp at h
 | a :: es, hall, j, v, h => by
  have ha := hall a List.mem_cons_self
  rw [List.flatten_cons, List.getElem?_append] at h
  split at h
  ·exact ⟨0, a, j, rfl, h, by simp⟩
  ·rename_i hj
   obtain ⟨i, e, r, h1, h2, h3⟩ := A63 (fun x hx => hall x (List.mem_cons_of_mem _ hx)) h
   exact ⟨i + 1, e, r, by simpa using h1, h2, by rw [Nat.succ_mul]; omega⟩
theorem B0D {w : World} {a : Addr} {n c sz : Nat} {es : List (List Value)} (hl : es.length = n) (hsz : 0 < sz) (hc : n ≤ c) (hm : c ≤ maxLen) (h : ∀ i e, es[i]? = some e → w.cells? 0 (a.add (i * sz)) sz = some e) : Sl (GW w) (some a) n c sz es.flatten := by
 have hall : ∀ e ∈ es, e.length = sz := by
  intro e he
  obtain ⟨i, hi⟩ := List.getElem?_of_mem he
  exact (World.cells?_some (h i e hi)).2.1
 refine ⟨by rw [A0v hall, hl], hc, hm, ?_⟩
 rcases Nat.eq_zero_or_pos n with h0 | h0
 ·exact .inl h0
 ·right
  obtain ⟨b, o, s⟩ := a
  have hs : s = none := by
   have h1 := (World.cells?_some (h 0 es[0] (List.getElem?_eq_getElem (by omega)))).2
   have h2 := h1.2 0 hsz
   rw [List.getElem?_eq_getElem (by omega)] at h2
   simp only [Nat.zero_mul, Addr.add, if_true] at h2
   unfold World.cell? at h2
   split at h2
   ·split at h2
    ·cases h2
    ·rename_i hn; cases s with
     | none => rfl
     | some x => simp at hn
   ·cases h2
  subst hs
  have key : ∀ j v, es.flatten[j]? = some v → w.cell? ⟨b, o + j, none⟩ = some v := by
   intro j v hj
   obtain ⟨i, e, r, h1, h2, rfl⟩ := A63 hall hj
   have h3 := (World.cells?_some (h i e h1)).2
   have hr : r < e.length := (List.getElem?_eq_some_iff.1 h2).1
   have h4 := h3.2 r (by omega)
   rw [h2, A2l, A2l] at h4
   rw [← Nat.add_assoc]; exact h4
  have hpos : 0 < es.flatten.length := by rw [A0v hall, hl]; exact Nat.mul_pos h0 hsz
  obtain ⟨full, hg, _⟩ := A62 (key 0 es.flatten[0] (List.getElem?_eq_getElem hpos))
  refine ⟨b, o, full, rfl, hg, fun j v hj => ?_⟩
  obtain ⟨full', hg', hv⟩ := A62 (key j v hj)
  rw [hg] at hg'; cases hg'; exact hv
theorem C6.snoc {G : IM} : ∀ {ts : List Ty} {es : List (List Value)} {t : Ty} {e : List Value}, C6 G ts es → B7 G t e → C6 G (ts ++ [t]) (es ++ [e])
 | [], es, t, e, h, h2 => by
  simp only [C6] at h; subst h
  simp only [List.nil_append, C6]
  exact ⟨e, [], rfl, h2, rfl⟩
 | t' :: ts, es, t, e, h, h2 => by
  simp only [C6] at h
  obtain ⟨a, r, rfl, h3, h4⟩ := h
  simp only [List.cons_append, C6]
  exact ⟨a, r ++ [e], rfl, h3, C6.snoc h4 h2⟩
theorem D3.snoc {G : IM} : ∀ {ts : List Tm} {es : List (List Value)} {t : Tm} {e : List Value}, D3 G ts es → B0 G t e → D3 G (ts ++ [t]) (es ++ [e])
 | [], es, t, e, h, h2 => by
  simp only [D3] at h; subst h
  simp only [List.nil_append, D3]
  exact ⟨e, [], rfl, h2, rfl⟩
 | t' :: ts, es, t, e, h, h2 => by
  simp only [D3] at h
  obtain ⟨a, r, rfl, h3, h4⟩ := h
  simp only [List.cons_append, D3]
  exact ⟨a, r ++ [e], rfl, h3, D3.snoc h4 h2⟩
theorem C6.each {G : IM} {ts : List Ty} {es : List (List Value)} (h : C6 G ts es) : ∀ e ∈ es, e.length = 2 ∧ e.all (·.oneCell') = true := by
 intro e he
 obtain ⟨i, hi⟩ := List.getElem?_of_mem he
 have := (h.inv hi B4).2
 exact ⟨this.len, this.one⟩
theorem D3.each {G : IM} {ts : List Tm} {es : List (List Value)} (h : D3 G ts es) : ∀ e ∈ es, e.length = 9 ∧ e.all (·.oneCell') = true := by
 intro e he
 obtain ⟨i, hi⟩ := List.getElem?_of_mem he
 have := (h.inv hi (.mk 0 ⟨#[]⟩ 0 B4 B4 0 [])).2
 exact ⟨this.len, this.one⟩
section read
variable {H : Type} {enc : TypeId × Value → H} {w : World} {sp : Nat → Bool} {held : Bool}
end read
theorem Ext.below {w w' : World} (h : Ext (Fp []) w w') : Below w.heap.size w w' := ⟨h.os, h.tape, h.output, h.size, fun k hk => h.block k hk (by simp [Fp])⟩
section post
variable {H : Type} {enc : TypeId × Value → H} {P : Program}
theorem B0E {f : Func} {s : ChangeSpec} {apart fresh handsOn again : Bool} {W W' : World} {args : Array Value} {v : Value} {ds gs : List (DataW H)} {before : List MemPlace}
  (hW : DataW.Whole enc P f.params.toList s.vars apart W args.toList ds gs before) (hb : Below W.heap.size W W') (hgs : s.vars = [])
  (hres : ∀ (b : Nat) (sp : Nat → Bool) (hd : Bool), DataW.TrodAll enc P W' b sp hd f.resultTypes.toList (v.resultList f.resultTypes.size) (s.fn H (ds ++ gs)).results [])
  (hargs : ∀ sp : Nat → Bool, (∀ p ∈ before, sp p.block = true) → DataW.TrodAll enc P W' 0 sp true f.params.toList args.toList (s.fn H (ds ++ gs)).args before)
  (hv : (s.fn H (ds ++ gs)).vars = [])
  (hok : ∀ (j : Nat) (t : TypeId) (r : Value), f.resultTypes[j]? = some t → (v.resultList f.resultTypes.size)[j]? = some r → Value.okWide P W' .any 0 t r) :
  s.post enc P f apart fresh handsOn again W args v W' := by
 have hold : ∀ p ∈ before, (fun b => decide (b < W.heap.size)) p.block = true := fun p hp => by simpa using hW.lt p hp
 have hvars : ∀ sp : Nat → Bool, DataW.TrodVars enc P W' sp s.vars (s.fn H (ds ++ gs)).vars [] := fun sp => by rw [hgs, hv]; rfl
 have hkept : W.keptBut W' (fun _ => False) := by
  refine ⟨hb.os, hb.output, fun i hi => ?_⟩
  rw [hb.block i hi]
  split
  ·rename_i h1 h2; cases h1.symm.trans h2; exact ⟨rfl, rfl, rfl, fun _ _ => rfl⟩
  ·rename_i h1 h2; cases h1.symm.trans h2; exact .inr ⟨rfl, rfl⟩
  ·rfl
 refine ⟨ds, gs, before, [], before, [], hW, hres _ _ _, hargs _ hold, hvars _, World.keptBut_mono (fun p hp => hp.elim) hkept, fun _ => ?_⟩
 obtain ⟨_, _, _, _, _, hz, hn⟩ := hW
 refine ⟨hok, _, _, ([] ++ before) ++ [], ⟨[] ++ before, [], trodAll_append (hargs _ (fun _ _ => rfl)) (hres _ _ _), hvars _, rfl, ?_, ?_⟩, ?_⟩
 ·intro b off hp
  have hp' : MemPlace.cell b off ∈ before := by simpa using hp
  have hlt : b < W.heap.size := of_decide_eq_true (hold _ hp')
  have := hz b off hp'
  unfold World.frozen? at this ⊢
  simp only [hb.block b hlt]
  exact this
 ·intro ha; simpa using hn ha
 ·intro p hp _; simpa using hp
end post
def A00 (G : IM) : Prop := ∃ g, Tryz.prog.globalNamed "internal/strconv.uint64pow10" = some g ∧ G g = some (Lib.pow10Tab.map fun z => Value.int .u64 z)
theorem A00.mono {G G' : IM} (h : A00 G) (hg : B8 G G') : A00 G' := by
 obtain ⟨g, h1, h2⟩ := h
 exact ⟨g, h1, hg g _ h2⟩
theorem B0F {G : IM} {w : World} (hw : R7 [] G w) (k : Nat) (os : Array Obj) : Q5 [] G w [] G (Sort.grow (w.drewN k) os) := by
 have hb : ∀ b, b < w.heap.size → (Sort.grow (w.drewN k) os).heap[b]? = w.heap[b]? := by
  intro b h
  show (w.heap ++ os)[b]? = _
  rw [Array.getElem?_append_left h]
 refine ⟨⟨?_, by simp, by simp [Fp], by simp [Fp]⟩, ⟨rfl, rfl, rfl, ?_, fun b h _ => hb b h⟩, B8.refl _, fun _ _ h => .inl h, by simp [Fp], fun b l h h0 => absurd h (by rw [h0]; simp)⟩
 ·intro b l h
  obtain ⟨e, f, hh⟩ := hw.inn b l h
  exact ⟨e, f, by rw [hb b (A0s hh)]; exact hh⟩
 ·show w.heap.size ≤ (w.heap ++ os).size
  simp
theorem B0G (n : Int) (G : IM) (h : A00 G) (h0 : 0 ≤ n) (h1 : n ≤ 999) : Fn Tryz.prog 114 [.int .i64 n] [] G (H4 (.string ⟨(Lib.decDigits n.toNat).toArray⟩) G) := by
 refine ⟨fun w hw => ?_⟩
 have ht : Lib.TabIs Tryz.prog w "internal/strconv.uint64pow10" .u64 Lib.pow10Tab := by
  obtain ⟨g, hg, hG⟩ := h
  obtain ⟨e, f, hh⟩ := hw.inn g _ hG
  unfold Lib.TabIs World.var?
  rw [hg]
  simp only [Option.bind_some, hh]
 refine (Tryz.strconv_Itoa n (by omega) (by omega) w ht).mono ?_
 rintro e w' ⟨rfl, k, os, rfl⟩
 refine ⟨_, G, [], rfl, B0F hw k os, rfl, ?_, rfl⟩
 unfold Lib.itoa
 rw [if_neg (by omega)]
end Gw
end Go.Proofs.YthpdjmbpbdbodaaGreatDoor
namespace Go.Proofs.YthpdjmbpbdbodaaGreatDoor
open Go Go.RowKit Go.ChangeShapes Go.WideShapes Go.ChangeAt
namespace Gw
theorem A5b : Tryz.prog.globalNamed "internal/strconv.uint64pow10" = some 0 := by kernel_rfl
theorem B0H : (Tryz.prog.globals[0]?).map (·.type) = some 153 := by kernel_rfl
theorem B0I : Tryz.prog.cellsOf 153 = 20 := by kernel_rfl
theorem B0J : Tryz.prog.cellsOf 147 = 1 := by kernel_rfl
def A64 : List (String × DataW Unit) := [("math/bits.deBruijn32tab", Rows.laid_math_bits_deBruijn32tab), ("math/bits.deBruijn64tab", Rows.laid_math_bits_deBruijn64tab), ("internal/strconv.uint64pow10", Rows.laid_internal_strconv_uint64pow10)]
theorem B0K {W : World} (h : laidMetH Tryz.prog A64 W) : A00 (GW W) := by
 have h1 : laidMet Tryz.prog A64 W := h
 have h3 := h1.tail.tail
 have ht : Lib.TabIs Tryz.prog W "internal/strconv.uint64pow10" .u64 Lib.pow10Tab :=
  Lib.tabIs_of_head (rest := []) A5b B0H Tryz.underlying153 Tryz.underlying147 B0J B0I h3
 refine ⟨0, A5b, ?_⟩
 unfold Lib.TabIs World.var? at ht
 rw [A5b] at ht
 simp only [Option.bind_some] at ht
 unfold GW
 split at ht
 ·rename_i c e f hb
  rw [hb]
  have := Option.some.inj ht
  simp [this]
 ·cases ht
def A5c : DataW Unit → Array Value
 | .agg xs => (xs.map fun | .lit (.int k n) => Value.int k n | _ => .int .i64 0).toArray
 | _ => #[]
def A5d (xs : Array Value) : Obj → Obj
 | .cells _ t f => .cells xs t f
 | o => o
noncomputable def A5e (os : Os) : World :=
 { World.holding Tryz.prog os ⟨#[], #[], []⟩ with heap := (((World.holding Tryz.prog os ⟨#[], #[], []⟩).heap.modify 0 (A5d (A5c Rows.laid_internal_strconv_uint64pow10))).modify 1 (A5d (A5c Rows.laid_math_bits_deBruijn32tab))).modify 2 (A5d (A5c Rows.laid_math_bits_deBruijn64tab)) }
end Gw
end Go.Proofs.YthpdjmbpbdbodaaGreatDoor
namespace Go.Proofs.YthpdjmbpbdbodaaGreatDoor
open Go Go.RowKit Go.ChangeShapes Go.WideShapes Go.ChangeAt
namespace Gw
section read2
variable {H : Type} {enc : TypeId × Value → H} {w : World} {sp : Nat → Bool} {held : Bool}
end read2
section rlaws
variable {P : Program} {Γ : L4} {env : L7} {hp : List A6} {G : IM} {ty : TypeId}
theorem B0L {m n : Nat} (hm : m < 4611686018427387904) (hn : n < 4611686018427387904) : m ^^^ n < 4611686018427387904 := by
 have := @Nat.xor_lt_two_pow m n 62 (by omega) (by omega)
 simpa using this
theorem B0M {x y : Operand} {t t' : TypeId} {m n : Nat} (hx : evo env x = some (.int .i64 (m : Int))) (hy : evo env y = some (.int .i64 (n : Int))) (hm : m < 4611686018427387904) (hn : n < 4611686018427387904) :
  I4 P Γ ⟨env, hp, G⟩ (.binOp .xor t x y t') ty (.int .i64 ((m ^^^ n : Nat) : Int)) := by
 refine ⟨fun a _ hs _ _ _ _ w => ?_⟩
 have hlt := B0L hm hn
 have e : (BitVec.ofInt 64 (m : Int) ^^^ BitVec.ofInt 64 (n : Int)).toNat = m ^^^ n := by
  rw [BitVec.toNat_xor, BitVec.toNat_ofInt, BitVec.toNat_ofInt]
  congr 1 <;> omega
 have hw : IntKind.i64.wrap (((BitVec.ofInt 64 (m : Int) ^^^ BitVec.ofInt 64 (n : Int)).toNat : Nat) : Int) = ((m ^^^ n : Nat) : Int) := by
  rw [e]; exact A1R _ rfl (by omega) (by omega)
 simp only [execOp, eqGuard, binOp, Op.intBits, (hs.evo hx : a.eval x = _), (hs.evo hy : a.eval y = _), ne_eq, not_true_eq_false, if_false, Sem.run_bind, Sem.run_pure, Result.andThen_ok]
 rw [show IntKind.bits .i64 = 64 from rfl] at *
 simp only [hw]
 simp
theorem A26 {x y : Operand} {t t' : TypeId} {m n : Nat} (hx : evo env x = some (.int .i64 (m : Int))) (hy : evo env y = some (.int .i64 (n : Int))) (h : m * n ≤ 9223372036854775807) :
  I4 P Γ ⟨env, hp, G⟩ (.binOp .mul t x y t') ty (.int .i64 ((m * n : Nat) : Int)) := by
 have e : ((m : Int) * (n : Int)) = ((m * n : Nat) : Int) := by simp
 have h2 := A9M (P := P) (Γ := Γ) (hp := hp) (G := G) (ty := ty) (t := t) (t' := t') hx hy (by rw [e]; omega) (by rw [e]; omega)
 rwa [e] at h2
theorem A1o {x y : Operand} {t t' : TypeId} {m n : Nat} (hx : evo env x = some (.int .i64 (m : Int))) (hy : evo env y = some (.int .i64 (n : Int))) (h : m + n ≤ 9223372036854775807) :
  I4 P Γ ⟨env, hp, G⟩ (.binOp .add t x y t') ty (.int .i64 ((m + n : Nat) : Int)) := by
 have e : ((m : Int) + (n : Int)) = ((m + n : Nat) : Int) := by simp
 have h2 := I7 (P := P) (Γ := Γ) (hp := hp) (G := G) (ty := ty) (t := t) (t' := t') hx hy (by rw [e]; omega) (by rw [e]; omega)
 rwa [e] at h2
theorem A32 {x y : Operand} {t t' : TypeId} {m : Nat} (hx : evo env x = some (.int .i64 ((m + 1 : Nat) : Int))) (hy : evo env y = some (.int .i64 1)) (h : m ≤ 9223372036854775807) :
  I4 P Γ ⟨env, hp, G⟩ (.binOp .sub t x y t') ty (.int .i64 (m : Int)) := by
 have e : (((m + 1 : Nat) : Int) - 1) = (m : Int) := by omega
 have h2 := O7 (P := P) (Γ := Γ) (hp := hp) (G := G) (ty := ty) (t := t) (t' := t') hx hy (by rw [e]; omega) (by rw [e]; omega)
 rwa [e] at h2
theorem A5f {s d : TypeId} {is id : K3} [hS : H3 P s is] [hD : H3 P d id] (hd : id.desc = .int .i64) {k : IntKind} (hs : is.desc = .int k) {x : Operand} {n : Int} (hx : evo env x = some (.int k n)) (h0 : -9223372036854775808 ≤ n) (h1 : n ≤ 9223372036854775807) :
  I4 P Γ ⟨env, hp, G⟩ (.convert s d x) ty (.int .i64 n) := by
 refine ⟨fun a _ hst _ _ _ _ w => ?_⟩
 have hu := hD.und
 rw [hd] at hu
 have hus := hS.und
 rw [hs] at hus
 have hw : IntKind.i64.wrap n = n := A1R n rfl h0 h1
 simp [execOp, convert, run_underlying hus, run_underlying hu, (hst.evo hx : a.eval x = _), Conv.intToInt, hw]
theorem A65 {x y : Operand} {t el : TypeId} {i : K3} {sz by' : Nat} {zs : List Value} [hI : H3 P t i] (hd' : i.desc = .slice el) [hE : W2 P el sz by' zs] {p : Option Addr} {n c l : Nat}
  (hx : evo env x = some (.slice p n c)) (hy : evo env y = some (.int .i64 (l : Int))) (hl : l ≤ c) :
  I4 P Γ ⟨env, hp, G⟩ (.slice t x none (some y) none) ty (.slice p l c) := by
 refine ⟨fun a _ hs _ _ _ _ w => ?_⟩
 have hu := hI.und
 rw [hd'] at hu
 obtain ⟨d, hE⟩ := hE.ok
 obtain ⟨inf, z, t1, t2, t3, _⟩ := A21 (P := P) (t := el)
 have e1 : a.eval x = _ := hs.evo hx
 have e2 : a.eval y = _ := hs.evo hy
 have hb : ∀ code, (Instr.sliceBound (.int .i64 (l : Int)) c code).run P w = .ok l w := fun code => by
  unfold Instr.sliceBound
  simp only [asIntOf, Sem.run_bind, Sem.run_pure, Result.andThen_ok]
  rw [if_pos ⟨by omega, by omega⟩]
  simp
 simp only [execOp, Option.map, e1, e2, Instr.sliceAt, Sem.run_bind, run_underlying hu, Result.andThen_ok, Instr.slice, Instr.sliceBounds, Sem.run_pure, hb, t3]
 by_cases h : c = 0
 ·subst h; simp
 ·rw [if_neg h]; simp; cases p <;> simp [Addr.add]
end rlaws
def O0 (bs : List UInt8) : List Value := bs.map fun b => .int .u8 (b.toNat : Int)
theorem A66 (bs : List UInt8) : (O0 bs).length = bs.length := by simp [O0]
theorem A5g {bs : List UInt8} {i : Nat} {v : Value} (h : (O0 bs)[i]? = some v) : ∃ b : Nat, b < 256 ∧ v = .int .u8 (b : Int) := by
 unfold O0 at h
 rw [List.getElem?_map] at h
 cases hb : bs[i]? with
 | none => rw [hb] at h; simp at h
 | some b => rw [hb] at h; simp at h; exact ⟨b.toNat, b.toNat_lt, h.symm⟩
def rd (br : Nat) (pb : Option Addr) (nb cb p : Nat) : A6 := .blk br [.slice pb nb cb, .int .i64 (p : Int)]
def Z4 (br : Nat) (pb : Option Addr) (nb cb p B : Nat) (Φ : IM → Value → Prop) : IM → Value → List A6 → Prop := fun G' v outs => ∃ p', p ≤ p' ∧ p' ≤ p + B ∧ outs = [rd br pb nb cb p'] ∧ Φ G' v
theorem W5 (G : IM) (br : Nat) (pb : Option Addr) (nb cb p : Nat) (bs : List UInt8) (n : Int) (hb : Sl G pb nb cb 1 (O0 bs)) (hnb : nb ≤ 2000) (hp : p < 1099511627776) :
  Fn Tryz.prog 41 [.pointer (some ⟨br, 0, none⟩), .int .i64 n] [rd br pb nb cb p] G (fun G' v outs => G' = G ∧ outs = [rd br pb nb cb (p + 1)] ∧ ∃ k, v = .int .i64 k ∧ 0 ≤ k ∧ (1 ≤ n → k < n)) := by
 unfold rd
 have hm1 : ∀ q, 0 < nb → q % nb < nb := fun q h => Nat.mod_lt _ h
 have hdv : p / nb ≤ p := Nat.div_le_self _ _
 refine C0 Tryz.func41 rfl Tryz.ntmps41 Tryz.results41 rfl ?_
 intro w0
 refine tS (tR (sQ (qA rfl) rfl (sD (nS (tS (tR (sQ (qM rfl) rfl (sQ (qM rfl) rfl ?_))))))))
 refine sQ (X3 rfl) rfl ?_
 refine sQ (A0 rfl) rfl (sL (A3 rfl rfl) rfl rfl ?_)
 refine sP (A1o (n := 1) rfl rfl (by omega)) rfl rfl ?_
 refine sQ (X3 rfl) rfl ?_
 refine sQ (A0 rfl) rfl (B1 ?_)
 refine sD (nS (tS (tS (tR (sQ (qM rfl) rfl ?_)))))
 refine sB (J1 rfl rfl) rfl rfl (fun h23 => ?_) (fun h23 => ?_)
 refine U5 ?_
 refine F9 (rT rfl) A1.refl ?_
 exact ⟨rfl, rfl, 0, rfl, Int.le_refl _, fun h => by omega⟩
 refine sQ (qM rfl) rfl (sQ (qM rfl) rfl ?_)
 refine sQ (X3 rfl) rfl ?_
 refine sQ (A0 rfl) rfl (sL (A3 rfl rfl) rfl rfl (sQ (H8 rfl rfl) rfl ?_))
 refine sB (qE rfl rfl) rfl rfl (fun h50 => ?_) (fun h50 => ?_)
 refine sQ (D7 rfl rfl) rfl (sD (nS (qT rfl (tS (tR (sQ (qA rfl) rfl (sD (nS (tT (rS ?_))))))))))
 refine F9 (rT rfl) A1.refl ?_
 exact ⟨rfl, rfl, 0, rfl, Int.le_refl _, fun h => by omega⟩
 refine sQ (D7 rfl rfl) rfl (sD (nS (cF rfl (tK (nS (tS (tR (sQ (qM rfl) rfl ?_))))))))
 refine sQ (X3 rfl) rfl ?_
 refine sQ (A0 rfl) rfl (sL (A3 rfl rfl) rfl rfl ?_)
 refine sP (A32 rfl rfl (by omega)) rfl rfl ?_
 refine sQ (qA rfl) rfl (sD (nS (tS (tS (tR (sQ (qM rfl) rfl (sQ (qM rfl) rfl ?_)))))))
 refine sQ (X3 rfl) rfl ?_
 refine sQ (A0 rfl) rfl (sL (A3 rfl rfl) rfl rfl (sQ (H8 rfl rfl) rfl ?_))
 refine sB (J1 rfl rfl) rfl rfl (fun h89 => ?_) (fun h89 => ?_)
 refine sD (nS (qT rfl (tS (tR (sQ (qM rfl) rfl ?_)))))
 refine sQ (X3 rfl) rfl ?_
 refine sQ (A0 rfl) rfl (sL (A3 rfl rfl) rfl rfl (sQ (qM rfl) rfl ?_))
 (obtain ⟨b, o, v, rfl, hv, hat, hgb⟩ := hb.kid (i := p) (by omega); obtain ⟨y, hy, rfl⟩ := A5g hv; refine sP (B3 rfl rfl rfl (by omega)) rfl rfl ?_)
 refine sL (A0j rfl rfl (hat _)) rfl rfl ?_
 refine sP (A5f rfl rfl rfl (by omega) (by omega)) rfl rfl ?_
 refine sQ (qM rfl) rfl ?_
 refine sP (A2Y rfl rfl (by omega)) rfl rfl ?_
 refine sQ (qA rfl) rfl (sD (nS (tT (rS ?_))))
 refine F9 (rT rfl) A1.refl ?_
 exact ⟨rfl, rfl, _, rfl, Int.tmod_nonneg _ (by omega), fun h => Int.tmod_lt_of_pos _ (by omega)⟩
 refine sD (nS (cF rfl (tK (nS (tS ?_)))))
 (obtain ⟨b, o, v1, rfl, hv1, hat1, _⟩ := hb.kid (i := HMod.hMod p nb) (hm1 _ (by omega)); obtain ⟨y1, hy1, rfl⟩ := A5g hv1; obtain ⟨b', o', v2, hbb, hv2, hat2, _⟩ := hb.kid (i := HMod.hMod (p * 7 + 3) nb) (hm1 _ (by omega)); obtain ⟨y2, hy2, rfl⟩ := A5g hv2; cases hbb; have hl1 := hm1 p (by omega); have hl2 := hm1 (p * 7 + 3) (by omega); refine D4 D6 rfl ?_)
 refine I6 (i := 0) (l' := [tt,ff,ff,ff,ff,ff,ff,ff,ff,ff,ff,ff,ff,ff,ff,ff,ff,ff,ff,ff,ff,ff,ff,ff,ff,ff,ff,ff,ff,ff,ff,ff,ff,ff,ff,ff,ff,ff,ff,ff,ff,ff,ff,ff,ff,ff]) rfl C9 (qM rfl) rfl (by kernel_rfl) rfl rfl ?_
 refine aP 1 rfl (X3 rfl) rfl ?_
 refine aP 2 rfl (A0 rfl) rfl ?_
 refine aL 3 rfl (A3 rfl rfl) rfl ?_
 refine aP 4 rfl (qM rfl) rfl ?_
 refine aP 5 rfl (qM rfl) rfl ?_
 refine aP 6 rfl (X3 rfl) rfl ?_
 refine aP 7 rfl (A0 rfl) rfl ?_
 refine aL 8 rfl (A3 rfl rfl) rfl ?_
 refine aP 9 rfl (H8 rfl rfl) rfl ?_
 refine aP 10 rfl (A42 rfl rfl (by omega)) rfl ?_
 refine aP 11 rfl (B3 rfl rfl rfl (by first | exact hl1 | exact hl2)) rfl ?_
 refine aL 12 rfl (A0j rfl rfl (hat1 _)) rfl ?_
 refine aP 13 rfl (A5f rfl rfl rfl (by omega) (by omega)) rfl ?_
 refine aP 14 rfl (A26 (n := 131) rfl rfl (by omega)) rfl ?_
 refine aP 15 rfl (qM rfl) rfl ?_
 refine aP 16 rfl (X3 rfl) rfl ?_
 refine aP 17 rfl (A0 rfl) rfl ?_
 refine aL 18 rfl (A3 rfl rfl) rfl ?_
 refine aP 19 rfl (qM rfl) rfl ?_
 refine aP 20 rfl (A26 (n := 7) rfl rfl (by omega)) rfl ?_
 refine aP 21 rfl (A1o (n := 3) rfl rfl (by omega)) rfl ?_
 refine aP 22 rfl (qM rfl) rfl ?_
 refine aP 23 rfl (X3 rfl) rfl ?_
 refine aP 24 rfl (A0 rfl) rfl ?_
 refine aL 25 rfl (A3 rfl rfl) rfl ?_
 refine aP 26 rfl (H8 rfl rfl) rfl ?_
 refine aP 27 rfl (A42 rfl rfl (by omega)) rfl ?_
 refine aP 28 rfl (B3 rfl rfl rfl (by first | exact hl1 | exact hl2)) rfl ?_
 refine aL 29 rfl (A0j rfl rfl (hat2 _)) rfl ?_
 refine aP 30 rfl (A5f rfl rfl rfl (by omega) (by omega)) rfl ?_
 refine aP 31 rfl (A26 (n := 1117) rfl rfl (by omega)) rfl ?_
 refine aP 32 rfl (A1o rfl rfl (by omega)) rfl ?_
 refine aP 33 rfl (qM rfl) rfl ?_
 refine aP 34 rfl (A26 (n := 29) rfl rfl (by omega)) rfl ?_
 refine aP 35 rfl (A1o rfl rfl (by omega)) rfl ?_
 refine aP 36 rfl (qM rfl) rfl ?_
 refine aP 37 rfl (qM rfl) rfl ?_
 refine aP 38 rfl (X3 rfl) rfl ?_
 refine aP 39 rfl (A0 rfl) rfl ?_
 refine aL 40 rfl (A3 rfl rfl) rfl ?_
 refine aP 41 rfl (H8 rfl rfl) rfl ?_
 refine aP 42 rfl (A43 rfl rfl (by omega) (by omega)) rfl ?_
 refine aP 43 rfl (A26 (n := 53) rfl rfl (by omega)) rfl ?_
 refine aP 44 rfl (A1o rfl rfl (by omega)) rfl ?_
 refine aP 45 rfl (qA rfl) rfl ?_
 refine B5 (nS (tS (tR (sQ (qM rfl) rfl (sQ (qM rfl) rfl ?_)))))
 refine sP (A43 (n := 64) rfl rfl (by omega) (by omega)) rfl rfl ?_
 refine sP (B0M rfl rfl (by omega) (by omega)) rfl rfl ?_
 refine sQ (qA rfl) rfl (sD (nS (tS (tR (sQ (qM rfl) rfl (sQ (qM rfl) rfl ?_))))))
 refine sP (A2Y rfl rfl (by omega)) rfl rfl ?_
 refine sQ (qA rfl) rfl (sD (nS (tT ?_)))
 refine F9 (rT rfl) A1.refl ?_
 exact ⟨rfl, rfl, _, rfl, Int.tmod_nonneg _ (by omega), fun h => Int.tmod_lt_of_pos _ (by omega)⟩
end Gw
end Go.Proofs.YthpdjmbpbdbodaaGreatDoor
namespace Go.Proofs.YthpdjmbpbdbodaaGreatDoor
open Go Go.RowKit Go.ChangeShapes Go.WideShapes Go.ChangeAt
namespace Gw
theorem B0N : Tryz.prog.cellsOf 5 = 1 := by kernel_rfl
theorem A67 {q : Nat → Value → Prop} : ∀ {n : Nat}, (∀ i, i < n → ∃ k : UInt8, q i (.int .u8 (k.toNat : Int))) → ∃ l : List UInt8, l.length = n ∧ ∀ i v, (O0 l)[i]? = some v → q i v
 | 0, _ => ⟨[], rfl, by simp [O0]⟩
 | n + 1, h => by
  obtain ⟨l, h1, h2⟩ := A67 (n := n) fun i hi => h i (by omega)
  obtain ⟨k, hk⟩ := h n (by omega)
  refine ⟨l ++ [k], by simp [h1], fun i v hv => ?_⟩
  rw [show O0 (l ++ [k]) = O0 l ++ [.int .u8 (k.toNat : Int)] from by simp [O0], List.getElem?_append] at hv
  split at hv
  ·exact h2 i v hv
  ·rename_i hi
   rw [A66] at hi hv
   have : i - l.length = 0 := by
    have := (List.getElem?_eq_some_iff.1 hv).1; simp at this; omega
   rw [this] at hv; simp at hv; subst hv
   rw [show i = n by omega]; exact hk
section read2
variable {H : Type} {enc : TypeId × Value → H} {w : World} {sp : Nat → Bool} {held : Bool}
theorem B0O (n : Nat) (cs : List Value) (x : DataW H × List MemPlace) (h : DataW.trod enc Tryz.prog w 0 sp held n 22 cs = some x) : ∃ (l : List UInt8) (p : Option Addr) (c : Nat), cs = [.slice p l.length c] ∧ Sl (GW w) p l.length c 1 (O0 l) := by
 rcases DataW.trod_slice Tryz.underlying22 h with ⟨rfl, _⟩ | ⟨ad, len, cap, elems, rest, n', rfl, rfl, _, _, hlc, hcm, hel, hele, _, _⟩
 ·exact ⟨[], none, 0, rfl, Sl.nil _ _⟩
 ·rw [B0N] at hele
  obtain ⟨l, h1, h2⟩ := A67 (q := fun i v => w.cells? 0 (ad.add (i * 1)) 1 = some [v]) (n := len) fun i hi => by
   have := hele i hi
   rw [List.getElem?_eq_getElem (by omega)] at this
   obtain ⟨cs', c1, c2⟩ := Option.bind_eq_some_iff.1 this
   obtain ⟨k, rfl, _, hw⟩ := DataW.trod_int Tryz.underlying5 c2
   have hk : 0 ≤ k ∧ k < 256 := by
    have hw2 : (decide ((0 : Int) ≤ k) && decide (k ≤ (255 : Int))) = true := hw
    simp only [Bool.and_eq_true, decide_eq_true_eq] at hw2
    omega
   refine ⟨UInt8.ofNat k.toNat, ?_⟩
   rw [show ((UInt8.ofNat k.toNat).toNat : Int) = k from by
    rw [UInt8.toNat_ofNat']; omega]
   exact c1
  subst h1
  refine ⟨l, some ad, cap, rfl, ?_⟩
  have := B0D (w := w) (a := ad) (n := l.length) (c := cap) (sz := 1) (es := (O0 l).map fun v => [v]) (by simp [A66]) (by omega) hlc hcm fun i e he => by
   rw [List.getElem?_map] at he
   cases hv : (O0 l)[i]? with
   | none => rw [hv] at he; simp at he
   | some v => rw [hv] at he; simp at he; subst he; exact h2 i v hv
  have hf : ((O0 l).map fun v => [v]).flatten = O0 l := by
   generalize O0 l = L
   induction L with
   | nil => rfl
   | cons a L ih => simp [ih]
  rwa [hf] at this
end read2
theorem B0P (G : IM) (p : Option Addr) (n c : Nat) (es : List (List Value)) (hsl : D2 G p n c 2 es) (fid : FuncId) [B6 Tryz.prog fid] (us cs : List Value) (ins : List A6) (q : Nat → Bool)
  (hq : ∀ i e, es[i]? = some e → Fn Tryz.prog fid (us ++ [.agg ⟨e⟩] ++ cs) ins G (S8 (.bool (q i)) ins G)) :
  Fn Tryz.prog 89 [.slice p n c, .func (.func fid) ⟨us⟩ ⟨cs⟩] ins G (S8 (.int .i64 (A0n q n)) ins G) := by
 have hn := hsl.le
 refine C0 Tryz.func89 rfl Tryz.ntmps89 Tryz.results89 rfl ?_
 intro w0
 refine tS (tR (sQ (qA rfl) rfl (sD (nS (tS (tS (tR (sQ (qM rfl) rfl (sQ (H8 rfl rfl) rfl (sQ (qM rfl) rfl (sD (nS ?_))))))))))))
 refine B9 ?_
 refine J4 (fun i : Nat => ⟨[(8, .int .i64 i), (7, .int .i64 n), (1, .func (.func fid) ⟨us⟩ ⟨cs⟩), (0, .slice p n c)], ins, G⟩) (fun i => i ≤ n ∧ ∀ j, j < i → q j = false) (fun i => n - i) 0 ?_ ?_ ?_
 exact D9
 exact ⟨by omega, by omega⟩
 rintro i ⟨hi, hf⟩
 refine tS (tR ?_)
 refine sB (J1 rfl rfl) rfl rfl (fun h21 => ?_) (fun h21 => ?_)
 refine sD (nS (tS (qT rfl (tK (nS (tS ?_))))))
 refine B9 ?_
 refine tS (tR (sQ (qM rfl) rfl (sQ (qA rfl) rfl (sD (nS (tS (tR (sQ (qM rfl) rfl (sQ (qM rfl) rfl (sQ (qM rfl) rfl ?_))))))))))
 (obtain ⟨e, b, o, he, rfl, hl, _, hat, _⟩ := hsl.get (i := i) (by omega); refine sP (B3 rfl rfl rfl (by omega)) rfl rfl ?_)
 refine sL (A5 rfl rfl (hat _) hl) rfl rfl ?_
 refine A4U rfl rfl (hq i e he) Z0 rfl rfl (fun h43 => ?_) (fun h43 => ?_)
 refine sD (nS (qT rfl (tS (tR (sQ (qM rfl) rfl (sQ (qA rfl) rfl (sD (nS (tT (rB (rS (T4 (rB (rS ?_))))))))))))))
 refine F9 (rT rfl) A1.refl ?_
 exact ⟨rfl, by rw [A6I (by omega) hf (by assumption)], rfl⟩
 refine sD (nS (cF rfl (tK (E3 (nS (tR ?_))))))
 refine sP (I7 rfl rfl (by omega) (by omega)) rfl rfl ?_
 refine sQ (qM rfl) rfl (sD ?_)
 refine J3 (i + 1) ?_ ?_ ?_
 exact D9
 exact ⟨by omega, fun j hj => by by_cases hji : j = i; (subst hji; assumption); exact hf j (by omega)⟩
 omega
 refine sD (nS (tS (cF rfl (M3 (M5 (N7 (M6 (nS (tS (tR (sQ (qA rfl) rfl (sD (nS (tT ?_))))))))))))))
 refine F9 (rT rfl) A1.refl ?_
 exact ⟨rfl, by rw [A4Y (fun j hj => hf j (by omega))], rfl⟩
theorem B0Q (G : IM) (p : Option Addr) (n c : Nat) (es : List (List Value)) (hsl : D2 G p n c 2 es) (fid : FuncId) [B6 Tryz.prog fid] (us cs : List Value) (ins : List A6) (q : Nat → Bool)
  (hq : ∀ i e, es[i]? = some e → Fn Tryz.prog fid (us ++ [.agg ⟨e⟩] ++ cs) ins G (S8 (.bool (q i)) ins G)) :
  Fn Tryz.prog 47 [.slice p n c, .func (.func fid) ⟨us⟩ ⟨cs⟩] ins G (S8 (.bool (decide (0 ≤ A0n q n))) ins G) := by
 refine C0 Tryz.func47 rfl Tryz.ntmps47 Tryz.results47 rfl ?_
 intro w0
 refine tS (tR (sQ (qA rfl) rfl (sD (nS (tS (tR (sQ (qM rfl) rfl (sQ (qM rfl) rfl ?_))))))))
 refine A1X rfl (B0P G p n c es hsl fid us cs ins q hq) Z0 rfl rfl ?_
 refine sQ (A0I rfl rfl) rfl ?_
 refine sQ (qA rfl) rfl (sD (nS (tT ?_)))
 refine F9 (rT rfl) A1.refl ?_
 exact ⟨rfl, rfl, rfl⟩
theorem A2v (G : IM) (p : Option Addr) (n c : Nat) (es : List (List Value)) (hsl : D2 G p n c 2 es) (fid : FuncId) [B6 Tryz.prog fid] (us cs : List Value) (ins : List A6) (f : Ty → Bool) (ks : List Ty)
  (hn : ks.length = n) {A : Bool} (hA : ks.all f = A) (hq : ∀ i e, es[i]? = some e → Fn Tryz.prog fid (us ++ [.agg ⟨e⟩] ++ cs) ins G (S8 (.bool (!f (ks.getD i B4))) ins G)) :
  Fn Tryz.prog 47 [.slice p n c, .func (.func fid) ⟨us⟩ ⟨cs⟩] ins G (S8 (.bool (!A)) ins G) := by
 subst hn hA
 rw [← A6L f ks B4]
 exact B0Q G p _ c es hsl fid us cs ins _ hq
theorem A68 (G : IM) (p p' : Option Addr) (n c n' c' : Nat) (es es' : List (List Value)) (hsl : D2 G p n c 2 es) (hsl' : D2 G p' n' c' 2 es') (fid : FuncId) [B6 Tryz.prog fid] (us cs : List Value) (ins : List A6) (q : Nat → Bool)
  (A : Bool) (hA : A = true ↔ n = n' ∧ ∀ i, i < n → q i = true)
  (hq : ∀ i e e', es[i]? = some e → es'[i]? = some e' → Fn Tryz.prog fid (us ++ [.agg ⟨e⟩, .agg ⟨e'⟩] ++ cs) ins G (S8 (.bool (q i)) ins G)) :
  Fn Tryz.prog 36 [.slice p n c, .slice p' n' c', .func (.func fid) ⟨us⟩ ⟨cs⟩] ins G (S8 (.bool A) ins G) := by
 have hn := hsl.le
 have hn' := hsl'.le
 refine C0 Tryz.func36 rfl Tryz.ntmps36 Tryz.results36 rfl ?_
 intro w0
 refine U4 ?_
 refine sB (N9 rfl rfl) rfl rfl (fun h13 => ?_) (fun h13 => ?_)
 refine sD (nS (qT rfl (tS (tR (sQ (qA rfl) rfl (sD (nS (tT (rS ?_)))))))))
 refine F9 (outs := ins) (rT rfl) (by first | exact A1.refl | exact A1.drop (A1.drop A1.refl)) ?_
 exact ⟨rfl, by (cases A with | false => rfl | true => exact absurd (hA.1 rfl).1 (by omega)), rfl⟩
 refine sD (nS (cF rfl (tK (nS (tS (tS (tR (sQ (qM rfl) rfl (sQ (H8 rfl rfl) rfl (sQ (qM rfl) rfl (sD (nS ?_))))))))))))
 refine B9 (J4 (fun i : Nat => ⟨[(17, .int .i64 i), (16, .int .i64 n), (15, .slice p n c), (2, .func (.func fid) ⟨us⟩ ⟨cs⟩), (1, .slice p' n' c'), (0, .slice p n c)], ins, G⟩) (fun i => i ≤ n ∧ ∀ j, j < i → q j = true) (fun i => n - i) 0 ?_ ?_ ?_)
 exact D9
 exact ⟨by omega, by omega⟩
 rintro i ⟨hi, hf⟩
 refine tS (tR ?_)
 refine sB (J1 rfl rfl) rfl rfl (fun h46 => ?_) (fun h46 => ?_)
 refine sD (nS (tS (qT rfl (tK (nS (tS ?_))))))
 refine B9 ?_
 refine tS (tR (sQ (qM rfl) rfl ?_))
 (obtain ⟨e, b, o, he, rfl, hl, _, hat, _⟩ := hsl.get (i := i) (by omega); refine sP (B3 rfl rfl rfl (by omega)) rfl rfl ?_)
 refine sL (A5 rfl rfl (hat _) hl) rfl rfl ?_
 refine sE (A7 rfl) rfl (fun b60 => ?_)
 refine sQ (qA rfl) rfl ?_
 refine Y0 rfl rfl rfl (by assumption) (by assumption) rfl (by repeat first | exact Sw.here | apply Sw.there) (by exact D5 (by symm; assumption)) ?_
 refine sD (nS (tS (tR (sQ (qM rfl) rfl (sQ (qM rfl) rfl ?_)))))
 (obtain ⟨e', b', o', he', rfl, hl', _, hat', _⟩ := hsl'.get (i := i) (by omega); refine sP (B3 rfl rfl rfl (by omega)) rfl rfl ?_)
 refine sL (A5 rfl rfl (hat' _) hl') rfl rfl ?_
 refine sE (A7 rfl) rfl (fun b71 => ?_)
 refine Y0 rfl rfl rfl (by assumption) (by assumption) rfl (by repeat first | exact Sw.here | apply Sw.there) (by exact D5 (by symm; assumption)) ?_
 refine sD (nS (tS (tR (sQ (qM rfl) rfl ?_))))
 refine sL (A5 rfl rfl (B2 (by repeat first | exact mH | apply mT)) (by assumption)) rfl rfl ?_
 refine sL (A5 rfl rfl (B2 (by repeat first | exact mH | apply mT)) (by assumption)) rfl rfl ?_
 refine A4U rfl rfl (hq i e e' he he') B0g rfl rfl (fun h80 => ?_) (fun h80 => ?_)
 refine sQ (K4 rfl) rfl (sD (nS (cF rfl (tK (E3 (nS (tR ?_)))))))
 refine sP (I7 rfl rfl (by omega) (by omega)) rfl rfl ?_
 refine sQ (qM rfl) rfl (sD ?_)
 refine J3 (i + 1) ?_ ?_ ?_
 exact D9
 exact ⟨by omega, fun j hj => by by_cases hji : j = i; (subst hji; assumption); exact hf j (by omega)⟩
 omega
 refine sQ (N8 rfl) rfl (sD (nS (qT rfl (tS (tR (sQ (qA rfl) rfl (sD (nS (tT (rB (rS (T4 (rB (rS ?_))))))))))))))
 refine F9 (outs := ins) (rT rfl) (by first | exact A1.refl | exact A1.drop (A1.drop A1.refl)) ?_
 exact ⟨rfl, by (cases A with | false => rfl | true => have h0 := (hA.1 rfl).2 i (by omega); simp_all), rfl⟩
 refine sD (nS (tS (cF rfl (M3 (M5 (N7 (M6 (nS (tS (tR (sQ (qA rfl) rfl (sD (nS (tT ?_))))))))))))))
 refine F9 (outs := ins) (rT rfl) (by first | exact A1.refl | exact A1.drop (A1.drop A1.refl)) ?_
 exact ⟨rfl, by rw [hA.2 ⟨by omega, fun j hj => hf j (by omega)⟩], rfl⟩
theorem A01 (n lo hi : Int) (G : IM) : Fn Tryz.prog 62 [.int .i64 n, .int .i64 lo, .int .i64 hi] [] G (H4 (.bool (P8 n lo hi)) G) := by
 refine C0 Tryz.func62 rfl Tryz.ntmps62 Tryz.results62 rfl ?_
 intro w0
 refine tS (tR (sQ (qA rfl) rfl (sD (nS (tS (tR (sQ (qM rfl) rfl (sQ (qM rfl) rfl ?_))))))))
 refine sB (Y9 rfl rfl) rfl rfl (fun h10 => ?_) (fun h10 => ?_)
 refine sQ (qM rfl) rfl (sQ (qM rfl) rfl (sQ (qM rfl) rfl ?_))
 refine sB (Y9 rfl rfl) rfl rfl (fun h14 => ?_) (fun h14 => ?_)
 refine sQ (C2 rfl rfl) rfl (sQ (qA rfl) rfl (sD (nS (tT (A9 (rT rfl) ?_)))))
 exact ⟨rfl, by simp [P8]; omega, rfl⟩
 refine sQ (C2 rfl rfl) rfl (sQ (qA rfl) rfl (sD (nS (tT (A9 (rT rfl) ?_)))))
 exact ⟨rfl, by simp [P8]; omega, rfl⟩
 refine sQ (qM rfl) rfl (sK rfl rfl (sK rfl rfl (sK rfl rfl (sQ (D7 rfl rfl) rfl (sQ (qA rfl) rfl (sD (nS (tT (A9 (rT rfl) ?_)))))))))
 exact ⟨rfl, by simp [P8]; omega, rfl⟩
theorem A1p (k : Int) (G : IM) : Fn Tryz.prog 104 [.int .i64 k] [] G (H4 (.agg ⟨[.int .i64 k, .slice none 0 0]⟩) G) := by
 refine C0 Tryz.func104 rfl Tryz.ntmps104 Tryz.results104 rfl ?_
 intro w0
 refine tS (tR ?_)
 refine sE (A7 rfl) rfl (fun b3 => ?_)
 refine sD (nS (tS (tR (sQ (qM rfl) rfl (sQ (H6 rfl rfl) rfl (B1 ?_))))))
 refine sD (nS (tT ?_))
 refine A9 (rC rfl (A2 rfl rfl)) ?_
 exact ⟨rfl, rfl, rfl⟩
theorem B0R (n : Int) (G : IM) : Fn Tryz.prog 151 [.int .i64 n] [] G (H4 (.bool (A0O n)) G) := by
 refine C0 Tryz.func151 rfl Tryz.ntmps151 Tryz.results151 rfl ?_
 intro w0
 refine tS (tR (sQ (qA rfl) rfl (sD (nS (tS (tR (sQ (qM rfl) rfl ?_)))))))
 refine E7 rfl (A01 _ _ _ _) rfl rfl (fun h9 => ?_) (fun h9 => ?_)
 refine sQ (qM rfl) rfl (sK rfl rfl (sK rfl rfl (sQ (C2 rfl rfl) rfl (sQ (qA rfl) rfl (sD (nS (tT (A9 (rT rfl) ?_))))))))
 exact ⟨rfl, by simp [A0O, *], rfl⟩
 refine sQ (qM rfl) rfl (sQ (qM rfl) rfl ?_)
 refine E7 rfl (A01 _ _ _ _) rfl rfl (fun h22 => ?_) (fun h22 => ?_)
 refine sQ (D7 rfl rfl) rfl (sQ (qA rfl) rfl (sD (nS (tT (A9 (rT rfl) ?_)))))
 exact ⟨rfl, by simp [A0O, *], rfl⟩
 refine sQ (D7 rfl rfl) rfl (sQ (qA rfl) rfl (sD (nS (tT (A9 (rT rfl) ?_)))))
 exact ⟨rfl, by simp [A0O, *], rfl⟩
theorem A69 (t : Ty) (G : IM) (cells : List Value) (hr : B7 G t cells) : Fn Tryz.prog 149 [.agg ⟨cells⟩] [] G (H4 (.bool (W3 t)) G) := by
 obtain ⟨p, c, es, rfl, hk, hsl, hkl⟩ := hr.open
 refine C0 Tryz.func149 rfl Tryz.ntmps149 Tryz.results149 rfl ?_
 intro w0
 refine tS (tR ?_)
 refine sE (C5 rfl rfl) rfl (fun b3 => ?_)
 refine sQ (qA rfl) rfl (sD (nS (tS (tR (sQ (A0 rfl) rfl (sL (A3 rfl rfl) rfl rfl ?_))))))
 refine sB (qE rfl rfl) rfl rfl (fun h11 => ?_) (fun h11 => ?_)
 refine sQ (qM rfl) rfl (sQ (A0 rfl) rfl (sL (A3 rfl rfl) rfl rfl (sQ (H8 rfl rfl) rfl ?_)))
 refine sB (qE rfl rfl) rfl rfl (fun h16 => ?_) (fun h16 => ?_)
 refine sQ (C2 rfl rfl) rfl (sQ (qA rfl) rfl (sD (nS (tT (A9 (rT rfl) ?_)))))
 exact ⟨rfl, by simp only [W3]; (first | rw [decide_eq_true (by omega)] | rw [decide_eq_false (by omega)]), rfl⟩
 refine sQ (C2 rfl rfl) rfl (sQ (qA rfl) rfl (sD (nS (tT (A9 (rT rfl) ?_)))))
 exact ⟨rfl, by simp only [W3]; (first | rw [decide_eq_true (by omega)] | rw [decide_eq_false (by omega)]), rfl⟩
 refine A0l ?_
 exact ⟨rfl, by simp only [W3]; (first | rw [decide_eq_true (by omega)] | rw [decide_eq_false (by omega)]), rfl⟩
theorem B0S (s : ByteArray) (G : IM) : Fn Tryz.prog 148 [.string s] [] G (H4 (.bool (W4 s)) G) := by
 refine C0 Tryz.func148 rfl Tryz.ntmps148 Tryz.results148 rfl ?_
 intro w0
 refine tS (tR (sQ (qA rfl) rfl (sD (nS (tS (tR (sQ (qM rfl) rfl ?_)))))))
 refine sQ (A1S rfl rfl) rfl (sB (qE rfl rfl) rfl rfl (fun h10 => ?_) (fun h10 => ?_))
 refine sQ (qM rfl) rfl (sQ (qM rfl) rfl ?_)
 refine sP (A3O rfl rfl rfl (by omega) (A3X (by omega))) rfl rfl ?_
 refine sB (A0I rfl rfl) rfl rfl (fun h14 => ?_) (fun h14 => ?_)
 refine sQ (C2 rfl rfl) rfl (sQ (qM rfl) rfl (sQ (qM rfl) rfl ?_))
 refine sP (A3O rfl rfl rfl (by omega) (A3X (by omega))) rfl rfl ?_
 refine sB (Y9 rfl rfl) rfl rfl (fun h19 => ?_) (fun h19 => ?_)
 refine sQ (C2 rfl rfl) rfl (sQ (qA rfl) rfl (sD (nS (tT (A9 (rT rfl) ?_)))))
 exact ⟨rfl, by simp only [W4]; (try simp only [Int.toNat_zero] at *); (first | rw [decide_eq_true (by omega)] | rw [decide_eq_false (by omega)]), rfl⟩
 refine sQ (C2 rfl rfl) rfl (sQ (qA rfl) rfl (sD (nS (tT (A9 (rT rfl) ?_)))))
 exact ⟨rfl, by simp only [W4]; (try simp only [Int.toNat_zero] at *); (first | rw [decide_eq_true (by omega)] | rw [decide_eq_false (by omega)]), rfl⟩
 refine A0l ?_
 exact ⟨rfl, by simp only [W4]; (try simp only [Int.toNat_zero] at *); (first | rw [decide_eq_true (by omega)] | rw [decide_eq_false (by omega)]), rfl⟩
 refine L9 ?_
 exact ⟨rfl, by simp only [W4]; (try simp only [Int.toNat_zero] at *); (first | rw [decide_eq_true (by omega)] | rw [decide_eq_false (by omega)]), rfl⟩
theorem A27 (G : IM) (e : List Value) (d : Int) (b : Bool) (bd : Nat) (hl : e.length = 2) (hd : 0 ≤ d ∧ d ≤ 5) (h : Fn Tryz.prog 110 [.agg ⟨e⟩, .int .i64 (d + 1)] [] G (H4 (.bool b) G)) :
  Fn Tryz.prog 152 [.agg ⟨e⟩, .pointer (some ⟨bd, 0, none⟩)] [.blk bd [.int .i64 d]] G (S8 (.bool (!b)) [.blk bd [.int .i64 d]] G) := by
 refine C0 Tryz.func152 rfl Tryz.ntmps152 Tryz.results152 rfl ?_
 intro w0
 refine tS (tR ?_)
 refine sE (C5 rfl rfl) rfl (fun b3 => ?_)
 refine sQ (qA rfl) rfl (sD (nS (tS (tR ?_))))
 refine sL (A5 rfl rfl (B2 (by repeat first | exact mH | apply mT)) (by assumption)) rfl rfl ?_
 refine sL (A3 rfl rfl) rfl rfl ?_
 refine sP (I7 rfl rfl (by omega) (by omega)) rfl rfl ?_
 refine E7 rfl (h) rfl rfl (fun h12 => ?_) (fun h12 => ?_)
 refine sQ (K4 rfl) rfl (sQ (qA rfl) rfl (sD (nS (tT ?_))))
 refine F9 (rT rfl) (A1.cons (Pk.there Pk.here) A1.nil) ?_
 exact ⟨rfl, by simp [*], rfl⟩
 refine sQ (N8 rfl) rfl (sQ (qA rfl) rfl (sD (nS (tT ?_))))
 refine F9 (rT rfl) (A1.cons (Pk.there Pk.here) A1.nil) ?_
 exact ⟨rfl, by simp [*], rfl⟩
theorem B0T : ∀ (t : Ty) (d : Int) (G : IM) (cells : List Value), 0 ≤ d ∧ d ≤ 5 → B7 G t cells →
  Fn Tryz.prog 110 [.agg ⟨cells⟩, .int .i64 d] [] G (H4 (.bool (K1 t d)) G) := by
 refine Ty.ind fun k ks ih d G cells hd hr => ?_
 obtain ⟨p, c, es, rfl, hk, hsl, hkl⟩ := hr.open
 simp only [Ty.k, Ty.ks] at hk hsl hkl ⊢
 have hn := hsl.le
 obtain ⟨A, hA⟩ : ∃ A, ks.all (K1 · (d + 1)) = A := ⟨_, rfl⟩
 refine C0 Tryz.func110 rfl Tryz.ntmps110 Tryz.results110 rfl ?_
 intro w0
 refine tS (tR ?_)
 refine sE (C5 rfl rfl) rfl (fun b3 => ?_)
 (refine I5 (A9X rfl rfl rfl) rfl ?_; rintro _ ⟨b4, rfl⟩)
 refine L9 ?_
 refine B9 (tS (tS (tR (sB (qE rfl rfl) rfl rfl (fun h24 => ?_) (fun h24 => ?_)))))
 refine L9 ?_
 refine sB (Y9 rfl rfl) rfl rfl (fun h40 => ?_) (fun h40 => ?_)
 refine sQ (qM rfl) rfl (sQ (qM rfl) rfl (sQ (A0 rfl) rfl (sL (A3 rfl rfl) rfl rfl (sQ (H8 rfl rfl) rfl ?_))))
 refine sB (qE rfl rfl) rfl rfl (fun h46 => ?_) (fun h46 => ?_)
 refine sQ (C2 rfl rfl) rfl (sQ (qM rfl) rfl (sQ (A0 rfl) rfl (sL (A3 rfl rfl) rfl rfl ?_)))
 refine sQ (A2m rfl rfl) rfl (A2s rfl (A2v _ _ _ _ _ hsl _ [] _ [.blk b4 [.int .i64 d]] (K1 · (d + 1)) ks rfl hA (fun i e he => A27 _ _ _ _ _ (hsl.all e (List.mem_of_getElem? he)) hd (ih _ (hkl.inv he B4).1 _ _ _ (by omega) (hkl.inv he B4).2))) Z0 rfl rfl (fun h52 => ?_) (fun h52 => ?_))
 simp only [Bool.not_eq_true', Bool.not_eq_false'] at h52
 refine sQ (K4 rfl) rfl (sQ (C2 rfl rfl) rfl (sQ (qA rfl) rfl (sD (nS (tT (A9 (rT rfl) ?_))))))
 exact ⟨rfl, by (rw [K1, T8, hA]; have := M0 k; first | (rw [decide_eq_true (by omega), decide_eq_true (by omega)]; simp only [*]; done) | (rw [decide_eq_true (by omega), decide_eq_true (by omega)]; simp only [*]; rfl) | (rw [decide_eq_false (by omega)]; rfl) | (rw [decide_eq_true (by omega), decide_eq_false (by omega)]; rfl)), rfl⟩
 simp only [Bool.not_eq_true', Bool.not_eq_false'] at h52
 refine sQ (N8 rfl) rfl (sQ (C2 rfl rfl) rfl (sQ (qA rfl) rfl (sD (nS (tT (A9 (rT rfl) ?_))))))
 exact ⟨rfl, by (rw [K1, T8, hA]; have := M0 k; first | (rw [decide_eq_true (by omega), decide_eq_true (by omega)]; simp only [*]; done) | (rw [decide_eq_true (by omega), decide_eq_true (by omega)]; simp only [*]; rfl) | (rw [decide_eq_false (by omega)]; rfl) | (rw [decide_eq_true (by omega), decide_eq_false (by omega)]; rfl)), rfl⟩
 refine T6 ?_
 exact ⟨rfl, by (rw [K1, T8, hA]; have := M0 k; first | (rw [decide_eq_true (by omega), decide_eq_true (by omega)]; simp only [*]; done) | (rw [decide_eq_true (by omega), decide_eq_true (by omega)]; simp only [*]; rfl) | (rw [decide_eq_false (by omega)]; rfl) | (rw [decide_eq_true (by omega), decide_eq_false (by omega)]; rfl)), rfl⟩
 refine Z1 ?_
 exact ⟨rfl, by (rw [K1, T8, hA]; have := M0 k; first | (rw [decide_eq_true (by omega), decide_eq_true (by omega)]; simp only [*]; done) | (rw [decide_eq_true (by omega), decide_eq_true (by omega)]; simp only [*]; rfl) | (rw [decide_eq_false (by omega)]; rfl) | (rw [decide_eq_true (by omega), decide_eq_false (by omega)]; rfl)), rfl⟩
 refine sQ (qA rfl) rfl (sD (nS (cF rfl (tS (tR ?_)))))
 refine sB (qE rfl rfl) rfl rfl (fun h109 => ?_) (fun h109 => ?_)
 refine L9 ?_
 refine sB (Y9 rfl rfl) rfl rfl (fun h125 => ?_) (fun h125 => ?_)
 refine sQ (qM rfl) rfl (sQ (qM rfl) rfl (sQ (A0 rfl) rfl (sL (A3 rfl rfl) rfl rfl (sQ (H8 rfl rfl) rfl ?_))))
 refine sB (qE rfl rfl) rfl rfl (fun h131 => ?_) (fun h131 => ?_)
 refine sQ (C2 rfl rfl) rfl (sQ (qM rfl) rfl (sQ (A0 rfl) rfl (sL (A3 rfl rfl) rfl rfl ?_)))
 refine sQ (A2m rfl rfl) rfl (A2s rfl (A2v _ _ _ _ _ hsl _ [] _ [.blk b4 [.int .i64 d]] (K1 · (d + 1)) ks rfl hA (fun i e he => A27 _ _ _ _ _ (hsl.all e (List.mem_of_getElem? he)) hd (ih _ (hkl.inv he B4).1 _ _ _ (by omega) (hkl.inv he B4).2))) Z0 rfl rfl (fun h137 => ?_) (fun h137 => ?_))
 simp only [Bool.not_eq_true', Bool.not_eq_false'] at h137
 refine sQ (K4 rfl) rfl (sQ (C2 rfl rfl) rfl (sQ (qA rfl) rfl (sD (nS (tT (A9 (rT rfl) ?_))))))
 exact ⟨rfl, by (rw [K1, T8, hA]; have := M0 k; first | (rw [decide_eq_true (by omega), decide_eq_true (by omega)]; simp only [*]; done) | (rw [decide_eq_true (by omega), decide_eq_true (by omega)]; simp only [*]; rfl) | (rw [decide_eq_false (by omega)]; rfl) | (rw [decide_eq_true (by omega), decide_eq_false (by omega)]; rfl)), rfl⟩
 simp only [Bool.not_eq_true', Bool.not_eq_false'] at h137
 refine sQ (N8 rfl) rfl (sQ (C2 rfl rfl) rfl (sQ (qA rfl) rfl (sD (nS (tT (A9 (rT rfl) ?_))))))
 exact ⟨rfl, by (rw [K1, T8, hA]; have := M0 k; first | (rw [decide_eq_true (by omega), decide_eq_true (by omega)]; simp only [*]; done) | (rw [decide_eq_true (by omega), decide_eq_true (by omega)]; simp only [*]; rfl) | (rw [decide_eq_false (by omega)]; rfl) | (rw [decide_eq_true (by omega), decide_eq_false (by omega)]; rfl)), rfl⟩
 refine T6 ?_
 exact ⟨rfl, by (rw [K1, T8, hA]; have := M0 k; first | (rw [decide_eq_true (by omega), decide_eq_true (by omega)]; simp only [*]; done) | (rw [decide_eq_true (by omega), decide_eq_true (by omega)]; simp only [*]; rfl) | (rw [decide_eq_false (by omega)]; rfl) | (rw [decide_eq_true (by omega), decide_eq_false (by omega)]; rfl)), rfl⟩
 refine Z1 ?_
 exact ⟨rfl, by (rw [K1, T8, hA]; have := M0 k; first | (rw [decide_eq_true (by omega), decide_eq_true (by omega)]; simp only [*]; done) | (rw [decide_eq_true (by omega), decide_eq_true (by omega)]; simp only [*]; rfl) | (rw [decide_eq_false (by omega)]; rfl) | (rw [decide_eq_true (by omega), decide_eq_false (by omega)]; rfl)), rfl⟩
 refine sQ (qA rfl) rfl (sD (nS (cF rfl (tR ?_))))
 refine sB (qE rfl rfl) rfl rfl (fun h193 => ?_) (fun h193 => ?_)
 refine sQ (qA rfl) rfl (sD (nS (qT rfl (tR (sQ (qA rfl) rfl (sD (E3 (nS (tS (tR (sL (A3 rfl rfl) rfl rfl ?_)))))))))))
 refine sB (Y9 rfl rfl) rfl rfl (fun h206 => ?_) (fun h206 => ?_)
 refine sQ (qM rfl) rfl (sQ (qM rfl) rfl (sQ (A0 rfl) rfl (sL (A3 rfl rfl) rfl rfl (sQ (H8 rfl rfl) rfl ?_))))
 refine sB (qE rfl rfl) rfl rfl (fun h212 => ?_) (fun h212 => ?_)
 refine sQ (C2 rfl rfl) rfl (sQ (qM rfl) rfl (sQ (A0 rfl) rfl (sL (A3 rfl rfl) rfl rfl ?_)))
 refine sQ (A2m rfl rfl) rfl (A2s rfl (A2v _ _ _ _ _ hsl _ [] _ [.blk b4 [.int .i64 d]] (K1 · (d + 1)) ks rfl hA (fun i e he => A27 _ _ _ _ _ (hsl.all e (List.mem_of_getElem? he)) hd (ih _ (hkl.inv he B4).1 _ _ _ (by omega) (hkl.inv he B4).2))) Z0 rfl rfl (fun h218 => ?_) (fun h218 => ?_))
 simp only [Bool.not_eq_true', Bool.not_eq_false'] at h218
 refine sQ (K4 rfl) rfl (sQ (C2 rfl rfl) rfl (sQ (qA rfl) rfl (sD (nS (tT (A9 (rT rfl) ?_))))))
 exact ⟨rfl, by (rw [K1, T8, hA]; have := M0 k; first | (rw [decide_eq_true (by omega), decide_eq_true (by omega)]; simp only [*]; done) | (rw [decide_eq_true (by omega), decide_eq_true (by omega)]; simp only [*]; rfl) | (rw [decide_eq_false (by omega)]; rfl) | (rw [decide_eq_true (by omega), decide_eq_false (by omega)]; rfl)), rfl⟩
 simp only [Bool.not_eq_true', Bool.not_eq_false'] at h218
 refine sQ (N8 rfl) rfl (sQ (C2 rfl rfl) rfl (sQ (qA rfl) rfl (sD (nS (tT (A9 (rT rfl) ?_))))))
 exact ⟨rfl, by (rw [K1, T8, hA]; have := M0 k; first | (rw [decide_eq_true (by omega), decide_eq_true (by omega)]; simp only [*]; done) | (rw [decide_eq_true (by omega), decide_eq_true (by omega)]; simp only [*]; rfl) | (rw [decide_eq_false (by omega)]; rfl) | (rw [decide_eq_true (by omega), decide_eq_false (by omega)]; rfl)), rfl⟩
 refine T6 ?_
 exact ⟨rfl, by (rw [K1, T8, hA]; have := M0 k; first | (rw [decide_eq_true (by omega), decide_eq_true (by omega)]; simp only [*]; done) | (rw [decide_eq_true (by omega), decide_eq_true (by omega)]; simp only [*]; rfl) | (rw [decide_eq_false (by omega)]; rfl) | (rw [decide_eq_true (by omega), decide_eq_false (by omega)]; rfl)), rfl⟩
 refine Z1 ?_
 exact ⟨rfl, by (rw [K1, T8, hA]; have := M0 k; first | (rw [decide_eq_true (by omega), decide_eq_true (by omega)]; simp only [*]; done) | (rw [decide_eq_true (by omega), decide_eq_true (by omega)]; simp only [*]; rfl) | (rw [decide_eq_false (by omega)]; rfl) | (rw [decide_eq_true (by omega), decide_eq_false (by omega)]; rfl)), rfl⟩
 refine sQ (qA rfl) rfl (sD (nS (cF rfl (tS (tS (tR ?_))))))
 refine sB (qE rfl rfl) rfl rfl (fun h276 => ?_) (fun h276 => ?_)
 refine L9 ?_
 refine sB (Y9 rfl rfl) rfl rfl (fun h292 => ?_) (fun h292 => ?_)
 refine sQ (qM rfl) rfl (sQ (qM rfl) rfl (sQ (A0 rfl) rfl (sL (A3 rfl rfl) rfl rfl (sQ (H8 rfl rfl) rfl ?_))))
 refine sB (qE rfl rfl) rfl rfl (fun h298 => ?_) (fun h298 => ?_)
 refine sQ (C2 rfl rfl) rfl (sQ (qM rfl) rfl (sQ (A0 rfl) rfl (sL (A3 rfl rfl) rfl rfl ?_)))
 refine sQ (A2m rfl rfl) rfl (A2s rfl (A2v _ _ _ _ _ hsl _ [] _ [.blk b4 [.int .i64 d]] (K1 · (d + 1)) ks rfl hA (fun i e he => A27 _ _ _ _ _ (hsl.all e (List.mem_of_getElem? he)) hd (ih _ (hkl.inv he B4).1 _ _ _ (by omega) (hkl.inv he B4).2))) Z0 rfl rfl (fun h304 => ?_) (fun h304 => ?_))
 simp only [Bool.not_eq_true', Bool.not_eq_false'] at h304
 refine sQ (K4 rfl) rfl (sQ (C2 rfl rfl) rfl (sQ (qA rfl) rfl (sD (nS (tT (A9 (rT rfl) ?_))))))
 exact ⟨rfl, by (rw [K1, T8, hA]; have := M0 k; first | (rw [decide_eq_true (by omega), decide_eq_true (by omega)]; simp only [*]; done) | (rw [decide_eq_true (by omega), decide_eq_true (by omega)]; simp only [*]; rfl) | (rw [decide_eq_false (by omega)]; rfl) | (rw [decide_eq_true (by omega), decide_eq_false (by omega)]; rfl)), rfl⟩
 simp only [Bool.not_eq_true', Bool.not_eq_false'] at h304
 refine sQ (N8 rfl) rfl (sQ (C2 rfl rfl) rfl (sQ (qA rfl) rfl (sD (nS (tT (A9 (rT rfl) ?_))))))
 exact ⟨rfl, by (rw [K1, T8, hA]; have := M0 k; first | (rw [decide_eq_true (by omega), decide_eq_true (by omega)]; simp only [*]; done) | (rw [decide_eq_true (by omega), decide_eq_true (by omega)]; simp only [*]; rfl) | (rw [decide_eq_false (by omega)]; rfl) | (rw [decide_eq_true (by omega), decide_eq_false (by omega)]; rfl)), rfl⟩
 refine T6 ?_
 exact ⟨rfl, by (rw [K1, T8, hA]; have := M0 k; first | (rw [decide_eq_true (by omega), decide_eq_true (by omega)]; simp only [*]; done) | (rw [decide_eq_true (by omega), decide_eq_true (by omega)]; simp only [*]; rfl) | (rw [decide_eq_false (by omega)]; rfl) | (rw [decide_eq_true (by omega), decide_eq_false (by omega)]; rfl)), rfl⟩
 refine Z1 ?_
 exact ⟨rfl, by (rw [K1, T8, hA]; have := M0 k; first | (rw [decide_eq_true (by omega), decide_eq_true (by omega)]; simp only [*]; done) | (rw [decide_eq_true (by omega), decide_eq_true (by omega)]; simp only [*]; rfl) | (rw [decide_eq_false (by omega)]; rfl) | (rw [decide_eq_true (by omega), decide_eq_false (by omega)]; rfl)), rfl⟩
 refine sQ (qA rfl) rfl (sD (nS (cF rfl (tR ?_))))
 refine sB (qE rfl rfl) rfl rfl (fun h360 => ?_) (fun h360 => ?_)
 refine sQ (qA rfl) rfl (sD (nS (qT rfl (tR (sQ (qA rfl) rfl (sD (E3 (nS (tS (tR (sL (A3 rfl rfl) rfl rfl ?_)))))))))))
 refine sB (Y9 rfl rfl) rfl rfl (fun h373 => ?_) (fun h373 => ?_)
 refine sQ (qM rfl) rfl (sQ (qM rfl) rfl (sQ (A0 rfl) rfl (sL (A3 rfl rfl) rfl rfl (sQ (H8 rfl rfl) rfl ?_))))
 refine sB (qE rfl rfl) rfl rfl (fun h379 => ?_) (fun h379 => ?_)
 refine sQ (C2 rfl rfl) rfl (sQ (qM rfl) rfl (sQ (A0 rfl) rfl (sL (A3 rfl rfl) rfl rfl ?_)))
 refine sQ (A2m rfl rfl) rfl (A2s rfl (A2v _ _ _ _ _ hsl _ [] _ [.blk b4 [.int .i64 d]] (K1 · (d + 1)) ks rfl hA (fun i e he => A27 _ _ _ _ _ (hsl.all e (List.mem_of_getElem? he)) hd (ih _ (hkl.inv he B4).1 _ _ _ (by omega) (hkl.inv he B4).2))) Z0 rfl rfl (fun h385 => ?_) (fun h385 => ?_))
 simp only [Bool.not_eq_true', Bool.not_eq_false'] at h385
 refine sQ (K4 rfl) rfl (sQ (C2 rfl rfl) rfl (sQ (qA rfl) rfl (sD (nS (tT (A9 (rT rfl) ?_))))))
 exact ⟨rfl, by (rw [K1, T8, hA]; have := M0 k; first | (rw [decide_eq_true (by omega), decide_eq_true (by omega)]; simp only [*]; done) | (rw [decide_eq_true (by omega), decide_eq_true (by omega)]; simp only [*]; rfl) | (rw [decide_eq_false (by omega)]; rfl) | (rw [decide_eq_true (by omega), decide_eq_false (by omega)]; rfl)), rfl⟩
 simp only [Bool.not_eq_true', Bool.not_eq_false'] at h385
 refine sQ (N8 rfl) rfl (sQ (C2 rfl rfl) rfl (sQ (qA rfl) rfl (sD (nS (tT (A9 (rT rfl) ?_))))))
 exact ⟨rfl, by (rw [K1, T8, hA]; have := M0 k; first | (rw [decide_eq_true (by omega), decide_eq_true (by omega)]; simp only [*]; done) | (rw [decide_eq_true (by omega), decide_eq_true (by omega)]; simp only [*]; rfl) | (rw [decide_eq_false (by omega)]; rfl) | (rw [decide_eq_true (by omega), decide_eq_false (by omega)]; rfl)), rfl⟩
 refine T6 ?_
 exact ⟨rfl, by (rw [K1, T8, hA]; have := M0 k; first | (rw [decide_eq_true (by omega), decide_eq_true (by omega)]; simp only [*]; done) | (rw [decide_eq_true (by omega), decide_eq_true (by omega)]; simp only [*]; rfl) | (rw [decide_eq_false (by omega)]; rfl) | (rw [decide_eq_true (by omega), decide_eq_false (by omega)]; rfl)), rfl⟩
 refine Z1 ?_
 exact ⟨rfl, by (rw [K1, T8, hA]; have := M0 k; first | (rw [decide_eq_true (by omega), decide_eq_true (by omega)]; simp only [*]; done) | (rw [decide_eq_true (by omega), decide_eq_true (by omega)]; simp only [*]; rfl) | (rw [decide_eq_false (by omega)]; rfl) | (rw [decide_eq_true (by omega), decide_eq_false (by omega)]; rfl)), rfl⟩
 refine sQ (qA rfl) rfl (sD (nS (cF rfl (tK (E3 (nS (tS (tR (sL (A3 rfl rfl) rfl rfl ?_)))))))))
 refine sB (Y9 rfl rfl) rfl rfl (fun h446 => ?_) (fun h446 => ?_)
 refine sQ (qM rfl) rfl (sQ (qM rfl) rfl (sQ (A0 rfl) rfl (sL (A3 rfl rfl) rfl rfl (sQ (H8 rfl rfl) rfl ?_))))
 refine sP (I2 rfl rfl (by omega)) rfl rfl ?_
 refine T6 ?_
 exact ⟨rfl, by (rw [K1, T8, hA]; have := M0 k; first | (rw [decide_eq_true (by omega), decide_eq_true (by omega)]; simp only [*]; done) | (rw [decide_eq_true (by omega), decide_eq_true (by omega)]; simp only [*]; rfl) | (rw [decide_eq_false (by omega)]; rfl) | (rw [decide_eq_true (by omega), decide_eq_false (by omega)]; rfl)), rfl⟩
 refine Z1 ?_
 exact ⟨rfl, by (rw [K1, T8, hA]; have := M0 k; first | (rw [decide_eq_true (by omega), decide_eq_true (by omega)]; simp only [*]; done) | (rw [decide_eq_true (by omega), decide_eq_true (by omega)]; simp only [*]; rfl) | (rw [decide_eq_false (by omega)]; rfl) | (rw [decide_eq_true (by omega), decide_eq_false (by omega)]; rfl)), rfl⟩
theorem A28 (t : Ty) (G : IM) (cells : List Value) (hr : B7 G t cells) : Fn Tryz.prog 68 [.agg ⟨cells⟩] [] G (H4 (.bool (E4 t)) G) := by
 have hl := hr.len
 have hv := B0T t 1 G cells (by omega) hr
 refine C0 Tryz.func68 rfl Tryz.ntmps68 Tryz.results68 rfl ?_
 intro w0
 refine tS (tR ?_)
 refine sE (C5 rfl rfl) rfl (fun b3 => ?_)
 refine sQ (qA rfl) rfl (sD (nS (tS (tR ?_))))
 refine sL (A5 rfl rfl (B2 (by repeat first | exact mH | apply mT)) (by assumption)) rfl rfl ?_
 refine H0 rfl (hv) rfl rfl ?_
 refine sQ (qA rfl) rfl (sD (nS (tT (A9 (rT rfl) ?_))))
 exact ⟨rfl, rfl, rfl⟩
theorem X6 : ∀ (t t' : Ty) (G : IM) (cells cells' : List Value), B7 G t cells → B7 G t' cells' →
  Fn Tryz.prog 108 [.agg ⟨cells⟩, .agg ⟨cells'⟩] [] G (H4 (.bool (J5 t t')) G) := by
 refine Ty.ind fun k ks ih t' G cells cells' hr hr' => ?_
 obtain ⟨k', ks'⟩ := t'
 obtain ⟨p, c, es, rfl, hk, hsl, hkl⟩ := hr.open
 obtain ⟨p', c', es', rfl, hk', hsl', hkl'⟩ := hr'.open
 simp only [Ty.k, Ty.ks] at hk hsl hkl hk' hsl' hkl' ⊢
 have hn := hsl.le
 have hn' := hsl'.le
 obtain ⟨A, hA⟩ : ∃ A, O3 ks ks' = A := ⟨_, rfl⟩
 have hA' : A = true ↔ ks.length = ks'.length ∧ ∀ i, i < ks.length → J5 (ks.getD i B4) (ks'.getD i B4) = true := by
  rw [← hA, A1E]
  constructor
  ·rintro ⟨h1, h2⟩
   refine ⟨h1, fun i hi => ?_⟩
   have := h2 i hi (by omega)
   simpa [List.getD_eq_getElem?_getD, List.getElem?_eq_getElem hi, List.getElem?_eq_getElem (show i < ks'.length by omega)] using this
  ·rintro ⟨h1, h2⟩
   refine ⟨h1, fun i hi hi' => ?_⟩
   have := h2 i hi
   simpa [List.getD_eq_getElem?_getD, List.getElem?_eq_getElem hi, List.getElem?_eq_getElem hi'] using this
 refine C0 Tryz.func108 rfl Tryz.ntmps108 Tryz.results108 rfl ?_
 intro w0
 refine tS (tR ?_)
 refine sE (C5 rfl rfl) rfl (fun b3 => ?_)
 refine sE (C5 rfl rfl) rfl (fun b4 => ?_)
 refine sQ (qA rfl) rfl (sD (nS (tS (tR (sQ (A0 rfl) rfl (sL (A3 rfl rfl) rfl rfl ?_))))))
 refine sB (qE rfl rfl) rfl rfl (fun h12 => ?_) (fun h12 => ?_)
 refine A2t ?_
 exact ⟨rfl, by (rw [U9, hA]; first | (rw [decide_eq_true (p := k = 1) (by omega)]; rfl) | (rw [decide_eq_false (p := k = 1) (by omega), decide_eq_true (p := k' = 1) (by omega)]; rfl) | (rw [decide_eq_false (p := k = 1) (by omega), decide_eq_false (p := k' = 1) (by omega), decide_eq_false (p := k = k') (by omega)]; rfl) | (rw [decide_eq_false (p := k = 1) (by omega), decide_eq_false (p := k' = 1) (by omega), decide_eq_true (p := k = k') (by omega)]; simp only [*]; rfl)), rfl⟩
 refine sQ (qM rfl) rfl (sQ (A0 rfl) rfl (sL (A3 rfl rfl) rfl rfl ?_))
 refine sB (qE rfl rfl) rfl rfl (fun h41 => ?_) (fun h41 => ?_)
 refine A0b ?_
 exact ⟨rfl, by (rw [U9, hA]; first | (rw [decide_eq_true (p := k = 1) (by omega)]; rfl) | (rw [decide_eq_false (p := k = 1) (by omega), decide_eq_true (p := k' = 1) (by omega)]; rfl) | (rw [decide_eq_false (p := k = 1) (by omega), decide_eq_false (p := k' = 1) (by omega), decide_eq_false (p := k = k') (by omega)]; rfl) | (rw [decide_eq_false (p := k = 1) (by omega), decide_eq_false (p := k' = 1) (by omega), decide_eq_true (p := k = k') (by omega)]; simp only [*]; rfl)), rfl⟩
 refine wk6 ?_
 refine sB (qE rfl rfl) rfl rfl (fun h69 => ?_) (fun h69 => ?_)
 refine sQ (qM rfl) rfl (sQ (A0 rfl) rfl (sL (A3 rfl rfl) rfl rfl (sQ (A0 rfl) rfl (sL (A3 rfl rfl) rfl rfl ?_))))
 refine E7 rfl (A68 _ _ _ _ _ _ _ _ _ hsl hsl' _ [] [] [] (fun i => J5 (ks.getD i B4) (ks'.getD i B4)) A hA' (fun i e e' he he' => ih _ (hkl.inv he B4).1 _ _ _ _ (hkl.inv he B4).2 (hkl'.inv he' B4).2)) rfl rfl (fun h75 => ?_) (fun h75 => ?_)
 refine sQ (C2 rfl rfl) rfl (sQ (D7 rfl rfl) rfl (sQ (qA rfl) rfl (sD (nS (tT (A9 (rT rfl) ?_))))))
 exact ⟨rfl, by (rw [U9, hA]; first | (rw [decide_eq_true (p := k = 1) (by omega)]; rfl) | (rw [decide_eq_false (p := k = 1) (by omega), decide_eq_true (p := k' = 1) (by omega)]; rfl) | (rw [decide_eq_false (p := k = 1) (by omega), decide_eq_false (p := k' = 1) (by omega), decide_eq_false (p := k = k') (by omega)]; rfl) | (rw [decide_eq_false (p := k = 1) (by omega), decide_eq_false (p := k' = 1) (by omega), decide_eq_true (p := k = k') (by omega)]; simp only [*]; rfl)), rfl⟩
 refine sQ (C2 rfl rfl) rfl (sQ (D7 rfl rfl) rfl (sQ (qA rfl) rfl (sD (nS (tT (A9 (rT rfl) ?_))))))
 exact ⟨rfl, by (rw [U9, hA]; first | (rw [decide_eq_true (p := k = 1) (by omega)]; rfl) | (rw [decide_eq_false (p := k = 1) (by omega), decide_eq_true (p := k' = 1) (by omega)]; rfl) | (rw [decide_eq_false (p := k = 1) (by omega), decide_eq_false (p := k' = 1) (by omega), decide_eq_false (p := k = k') (by omega)]; rfl) | (rw [decide_eq_false (p := k = 1) (by omega), decide_eq_false (p := k' = 1) (by omega), decide_eq_true (p := k = k') (by omega)]; simp only [*]; rfl)), rfl⟩
 refine T6 ?_
 exact ⟨rfl, by (rw [U9, hA]; first | (rw [decide_eq_true (p := k = 1) (by omega)]; rfl) | (rw [decide_eq_false (p := k = 1) (by omega), decide_eq_true (p := k' = 1) (by omega)]; rfl) | (rw [decide_eq_false (p := k = 1) (by omega), decide_eq_false (p := k' = 1) (by omega), decide_eq_false (p := k = k') (by omega)]; rfl) | (rw [decide_eq_false (p := k = 1) (by omega), decide_eq_false (p := k' = 1) (by omega), decide_eq_true (p := k = k') (by omega)]; simp only [*]; rfl)), rfl⟩
theorem B0U (t t' : Ty) (G : IM) (cells cells' : List Value) (hr : B7 G t cells) (hr' : B7 G t' cells') :
  Fn Tryz.prog 150 [.agg ⟨cells⟩, .agg ⟨cells'⟩] [] G (H4 (.bool (A0N t t')) G) := by
 have hl := hr.len
 have hl' := hr'.len
 have hv := A28 t G cells hr
 have hv' := A28 t' G cells' hr'
 have hc := X6 t t' G cells cells' hr hr'
 refine C0 Tryz.func150 rfl Tryz.ntmps150 Tryz.results150 rfl ?_
 intro w0
 refine tS (tR ?_)
 refine sE (C5 rfl rfl) rfl (fun b3 => ?_)
 refine sE (C5 rfl rfl) rfl (fun b4 => ?_)
 refine sQ (qA rfl) rfl (sD (nS (tS (tR ?_))))
 refine sL (A5 rfl rfl (B2 (by repeat first | exact mH | apply mT)) (by assumption)) rfl rfl ?_
 refine E7 rfl (hv) rfl rfl (fun h11 => ?_) (fun h11 => ?_)
 refine sQ (qM rfl) rfl ?_
 refine sL (A5 rfl rfl (B2 (by repeat first | exact mH | apply mT)) (by assumption)) rfl rfl ?_
 refine E7 rfl (hv') rfl rfl (fun h14 => ?_) (fun h14 => ?_)
 refine sQ (C2 rfl rfl) rfl (sQ (qM rfl) rfl ?_)
 refine sL (A5 rfl rfl (B2 (by repeat first | exact mH | apply mT)) (by assumption)) rfl rfl ?_
 refine sL (A5 rfl rfl (B2 (by repeat first | exact mH | apply mT)) (by assumption)) rfl rfl ?_
 refine E7 rfl (hc) rfl rfl (fun h19 => ?_) (fun h19 => ?_)
 refine sQ (C2 rfl rfl) rfl (sQ (qA rfl) rfl (sD (nS (tT (A9 (rT rfl) ?_)))))
 exact ⟨rfl, by simp only [A0N]; simp only [*, Bool.true_and, Bool.false_and, Bool.and_true], rfl⟩
 refine sQ (C2 rfl rfl) rfl (sQ (qA rfl) rfl (sD (nS (tT (A9 (rT rfl) ?_)))))
 exact ⟨rfl, by simp only [A0N]; simp only [*, Bool.true_and, Bool.false_and, Bool.and_true], rfl⟩
 refine A0l ?_
 exact ⟨rfl, by simp only [A0N]; simp only [*, Bool.true_and, Bool.false_and, Bool.and_true], rfl⟩
 refine R2 ?_
 exact ⟨rfl, by simp only [A0N]; simp only [*, Bool.true_and, Bool.false_and, Bool.and_true], rfl⟩
theorem B0V (k : Int) (G : IM) (hk : E6 k) : Fn Tryz.prog 147 [.int .i64 k] [] G (H4 (.int .i64 (D0 k)) G) := by
 unfold E6 at hk
 refine C0 Tryz.func147 rfl Tryz.ntmps147 Tryz.results147 rfl ?_
 intro w0
 refine tS (tR (sQ (qA rfl) rfl (sD (nS (tS (tS (tR (sQ (qM rfl) rfl ?_))))))))
 refine E7 rfl (A01 _ _ _ _) rfl rfl (fun h10 => ?_) (fun h10 => ?_)
 refine sQ (K4 rfl) rfl (sD (nS (cF rfl (tK (nS (tS (tR ?_)))))))
 (refine I5 (C7 rfl rfl rfl (by omega) (by unfold maxLen; omega) rfl) rfl ?_; rintro _ ⟨b19, rfl⟩)
 refine sQ (qM rfl) rfl ?_
 (have hkk : 1 ≤ k ∧ k ≤ 14 := A25 (by assumption); refine sP (O7 rfl rfl (by omega) (by omega)) rfl rfl ?_)
 refine sP (A6n rfl rfl rfl (by omega) (by omega)) rfl rfl ?_
 refine sL (A0j rfl rfl (A6o (by repeat first | exact mH | apply mT) (B0o (by rw [Nat.zero_add, Nat.mul_one]; exact B0n hkk)))) rfl rfl ?_
 refine sQ (qA rfl) rfl (sD (nS (tT (A9 (rT rfl) ?_))))
 exact ⟨rfl, rfl, rfl⟩
 refine sQ (N8 rfl) rfl (sD (nS (qT rfl (tS (tR (sQ (qA rfl) rfl (sD (nS (tT (rS (A9 (rT rfl) ?_)))))))))))
 exact ⟨rfl, by rw [A4Z (A6J (by assumption))], rfl⟩
theorem B0W (k : Int) (nm : ByteArray) (num : Int) (ty fr : Ty) (lb : Int) (ks : List Tm) (G : IM) (cells : List Value) (hr : B0 G (.mk k nm num ty fr lb ks) cells) :
  Fn Tryz.prog 103 [.agg ⟨cells⟩] [] G (H4 (.bool (T9 k nm num ty fr lb ks.length)) G) := by
 obtain ⟨tk, tks⟩ := ty
 obtain ⟨fk, fks⟩ := fr
 obtain ⟨pt, ct, pf, cf, p, c, es, rfl, hk, hnum, hlb, hty, hfr, hsl, hkl⟩ := hr.open9
 have hi := @U0 k nm num (.mk tk tks) (.mk fk fks) lb ks.length
 obtain ⟨R, hR⟩ : ∃ R, T9 k nm num (.mk tk tks) (.mk fk fks) lb ks.length = R := ⟨_, rfl⟩
 rw [hR] at hi ⊢
 clear hR hr
 have o1 := B0V k G hk
 have o2 := B0S nm G
 have o3 := A28 _ G _ hty
 have o4 := A69 _ G _ hty
 have o5 := B0U _ _ G _ _ hfr hty
 have o6 := B0R lb G
 have o7 := A69 _ G _ hfr
 refine C0 Tryz.func103 rfl Tryz.ntmps103 Tryz.results103 rfl ?_
 intro w0
 refine tS (tR ?_)
 refine sE (C5 rfl rfl) rfl (fun b3 => ?_)
 refine sQ (qA rfl) rfl (sD (nS (tS (tS ?_))))
 refine D4 D6 rfl ?_
 refine I6 (i := 0) (l' := [tt,ff,ff,ff,ff,ff,ff]) rfl C9 (A0 rfl) rfl (by kernel_rfl) rfl rfl ?_
 refine aL 1 rfl (A3 rfl rfl) rfl ?_
 refine aP 3 rfl (A0 rfl) rfl ?_
 refine aL 4 rfl (A3 rfl rfl) rfl ?_
 refine aP 5 rfl (H8 rfl rfl) rfl ?_
 refine A4 2 ?_
 refine M7 rfl rfl (o1) rfl rfl rfl ?_
 refine A0t (i := 6) (l' := [tt,tt,tt,tt,tt,tt,tt]) rfl C9 (N9 rfl rfl) rfl (by kernel_rfl) rfl rfl (fun h17 => ?_) (fun h17 => ?_)
 refine B5 (nS (qT rfl (tS (tR (sQ (qA rfl) rfl (sD (nS (tT (rS (A9 (rT rfl) ?_))))))))))
 exact ⟨rfl, by (cases R with | false => rfl | true => (exfalso; obtain ⟨i1, i2, i3, i4, i5, i6, i7, i8, i9⟩ := hi.1 rfl; first | omega | (have j := i2 (by omega); simp_all; done) | (have j := i3 (by omega); simp_all; done) | (have j := i4 (by omega); simp_all; done) | (have j := i5 (by omega); simp_all; done) | (have j := i6 (by omega); simp_all; done) | (have j := i7 (by omega); simp_all; done) | (have j := i8 (by omega); simp_all; done) | (have j := i9 (by omega); simp_all; done))), rfl⟩
 refine B5 (nS (cF rfl (tK (nS (tS (tR (sQ (A0 rfl) rfl (sL (A3 rfl rfl) rfl rfl ?_))))))))
 refine sB (qE rfl rfl) rfl rfl (fun h39 => ?_) (fun h39 => ?_)
 refine U4 ?_
 refine sP (I2 rfl rfl (by omega)) rfl rfl ?_
 refine sQ (qM rfl) rfl (sQ (A0 rfl) rfl (sL (A3 rfl rfl) rfl rfl ?_))
 refine sP (I2 rfl rfl (by omega)) rfl rfl ?_
 refine sQ (D7 rfl rfl) rfl (sQ (qM rfl) rfl (sQ (A0 rfl) rfl (sL (A3 rfl rfl) rfl rfl ?_)))
 refine sP (I2 rfl rfl (by omega)) rfl rfl ?_
 refine sQ (D7 rfl rfl) rfl (sQ (qA rfl) rfl (sD (nS (tS (tR (sQ (A0 rfl) rfl (sL (A3 rfl rfl) rfl rfl ?_)))))))
 refine sP (I2 rfl rfl (by omega)) rfl rfl ?_
 refine sQ (qA rfl) rfl (sD (nS (tS (tR (sQ (qA rfl) rfl (sD (nS (tS (tS (tR (sQ (A0 rfl) rfl (sL (A3 rfl rfl) rfl rfl ?_))))))))))))
 refine sP (I2 rfl rfl (by omega)) rfl rfl ?_
 refine sD (nS (cF rfl (tK (nS (tS ?_)))))
 refine B9 ?_
 refine tS (tS (tR (sQ (qM rfl) rfl (sQ (qM rfl) rfl (sQ (A0 rfl) rfl (sL (A3 rfl rfl) rfl rfl ?_))))))
 refine E7 rfl (o2) rfl rfl (fun h99 => ?_) (fun h99 => ?_)
 refine A0L ?_
 refine E7 rfl (A01 _ _ _ _) rfl rfl (fun h123 => ?_) (fun h123 => ?_)
 refine A4W ?_
 refine E7 rfl (o4) rfl rfl (fun h149 => ?_) (fun h149 => ?_)
 refine Y1 ?_
 refine sQ (N8 rfl) rfl (sQ (qM rfl) rfl (sQ (A0 rfl) rfl (sL (A2 rfl rfl) rfl rfl ?_)))
 refine E7 rfl (o7) rfl rfl (fun h184 => ?_) (fun h184 => ?_)
 refine sQ (K4 rfl) rfl (sQ (qM rfl) rfl (sQ (A0 rfl) rfl (sL (A3 rfl rfl) rfl rfl ?_)))
 refine sB (N9 rfl rfl) rfl rfl (fun h189 => ?_) (fun h189 => ?_)
 refine L9 ?_
 exact ⟨rfl, by (cases R with | false => rfl | true => (exfalso; obtain ⟨i1, i2, i3, i4, i5, i6, i7, i8, i9⟩ := hi.1 rfl; first | omega | (have j := i2 (by omega); simp_all; done) | (have j := i3 (by omega); simp_all; done) | (have j := i4 (by omega); simp_all; done) | (have j := i5 (by omega); simp_all; done) | (have j := i6 (by omega); simp_all; done) | (have j := i7 (by omega); simp_all; done) | (have j := i8 (by omega); simp_all; done) | (have j := i9 (by omega); simp_all; done))), rfl⟩
 refine O9 ?_
 exact ⟨rfl, by rw [hi.2 ⟨by omega, fun _ => by (first | assumption | (exfalso; omega) | exact Classical.not_not.1 (by assumption)), fun _ => by (first | assumption | (exfalso; omega) | exact Classical.not_not.1 (by assumption)), fun _ => by (first | assumption | (exfalso; omega) | exact Classical.not_not.1 (by assumption)), fun _ => by (first | assumption | (exfalso; omega) | exact Classical.not_not.1 (by assumption)), fun _ => by (first | assumption | (exfalso; omega) | exact Classical.not_not.1 (by assumption)), fun _ => by (first | assumption | (exfalso; omega) | exact Classical.not_not.1 (by assumption)), fun _ => ⟨by (first | assumption | (exfalso; omega)), by (first | assumption | (exfalso; omega))⟩, fun _ => ⟨by (first | assumption | (exfalso; omega)), by (first | assumption | omega)⟩⟩], rfl⟩
 refine A0b ?_
 exact ⟨rfl, by (cases R with | false => rfl | true => (exfalso; obtain ⟨i1, i2, i3, i4, i5, i6, i7, i8, i9⟩ := hi.1 rfl; first | omega | (have j := i2 (by omega); simp_all; done) | (have j := i3 (by omega); simp_all; done) | (have j := i4 (by omega); simp_all; done) | (have j := i5 (by omega); simp_all; done) | (have j := i6 (by omega); simp_all; done) | (have j := i7 (by omega); simp_all; done) | (have j := i8 (by omega); simp_all; done) | (have j := i9 (by omega); simp_all; done))), rfl⟩
 refine L9 ?_
 exact ⟨rfl, by (cases R with | false => rfl | true => (exfalso; obtain ⟨i1, i2, i3, i4, i5, i6, i7, i8, i9⟩ := hi.1 rfl; first | omega | (have j := i2 (by omega); simp_all; done) | (have j := i3 (by omega); simp_all; done) | (have j := i4 (by omega); simp_all; done) | (have j := i5 (by omega); simp_all; done) | (have j := i6 (by omega); simp_all; done) | (have j := i7 (by omega); simp_all; done) | (have j := i8 (by omega); simp_all; done) | (have j := i9 (by omega); simp_all; done))), rfl⟩
 refine sQ (N8 rfl) rfl (sQ (qA rfl) rfl (sD (nS (qT rfl (tS (tR (sQ (qA rfl) rfl (sD (nS (tT (rB (rS (A9 (rT rfl) ?_)))))))))))))
 exact ⟨rfl, by (cases R with | false => rfl | true => (exfalso; obtain ⟨i1, i2, i3, i4, i5, i6, i7, i8, i9⟩ := hi.1 rfl; first | omega | (have j := i2 (by omega); simp_all; done) | (have j := i3 (by omega); simp_all; done) | (have j := i4 (by omega); simp_all; done) | (have j := i5 (by omega); simp_all; done) | (have j := i6 (by omega); simp_all; done) | (have j := i7 (by omega); simp_all; done) | (have j := i8 (by omega); simp_all; done) | (have j := i9 (by omega); simp_all; done))), rfl⟩
 refine U5 ?_
 exact ⟨rfl, by (cases R with | false => rfl | true => (exfalso; obtain ⟨i1, i2, i3, i4, i5, i6, i7, i8, i9⟩ := hi.1 rfl; first | omega | (have j := i2 (by omega); simp_all; done) | (have j := i3 (by omega); simp_all; done) | (have j := i4 (by omega); simp_all; done) | (have j := i5 (by omega); simp_all; done) | (have j := i6 (by omega); simp_all; done) | (have j := i7 (by omega); simp_all; done) | (have j := i8 (by omega); simp_all; done) | (have j := i9 (by omega); simp_all; done))), rfl⟩
 refine sQ (qM rfl) rfl (sQ (A0 rfl) rfl (sL (A3 rfl rfl) rfl rfl ?_))
 refine sB (qE rfl rfl) rfl rfl (fun h297 => ?_) (fun h297 => ?_)
 refine sQ (D7 rfl rfl) rfl (sQ (qA rfl) rfl (sD (nS (tS (tR (sQ (A0 rfl) rfl (sL (A3 rfl rfl) rfl rfl ?_)))))))
 refine sP (V5 rfl rfl (by omega)) rfl rfl ?_
 refine S9 ?_
 refine sP (I2 rfl rfl (by omega)) rfl rfl ?_
 refine sQ (qA rfl) rfl (sD (nS (tS (tR (sQ (qA rfl) rfl (sD (nS (tS (tS (tR (sQ (A0 rfl) rfl (sL (A3 rfl rfl) rfl rfl ?_))))))))))))
 refine sP (I2 rfl rfl (by omega)) rfl rfl ?_
 refine sD (nS (cF rfl (tK (nS (tS ?_)))))
 refine B9 ?_
 refine tS (tS (tR (sQ (qM rfl) rfl (sQ (qM rfl) rfl (sQ (A0 rfl) rfl (sL (A3 rfl rfl) rfl rfl ?_))))))
 refine E7 rfl (o2) rfl rfl (fun h353 => ?_) (fun h353 => ?_)
 refine A0L ?_
 refine E7 rfl (A01 _ _ _ _) rfl rfl (fun h377 => ?_) (fun h377 => ?_)
 refine U4 ?_
 refine E7 rfl (o3) rfl rfl (fun h390 => ?_) (fun h390 => ?_)
 refine Y1 ?_
 refine S9 ?_
 refine E7 rfl (o7) rfl rfl (fun h438 => ?_) (fun h438 => ?_)
 refine sQ (K4 rfl) rfl (sQ (qM rfl) rfl (sQ (A0 rfl) rfl (sL (A3 rfl rfl) rfl rfl ?_)))
 refine sB (N9 rfl rfl) rfl rfl (fun h443 => ?_) (fun h443 => ?_)
 refine L9 ?_
 exact ⟨rfl, by (cases R with | false => rfl | true => (exfalso; obtain ⟨i1, i2, i3, i4, i5, i6, i7, i8, i9⟩ := hi.1 rfl; first | omega | (have j := i2 (by omega); simp_all; done) | (have j := i3 (by omega); simp_all; done) | (have j := i4 (by omega); simp_all; done) | (have j := i5 (by omega); simp_all; done) | (have j := i6 (by omega); simp_all; done) | (have j := i7 (by omega); simp_all; done) | (have j := i8 (by omega); simp_all; done) | (have j := i9 (by omega); simp_all; done))), rfl⟩
 refine O9 ?_
 exact ⟨rfl, by rw [hi.2 ⟨by omega, fun _ => by (first | assumption | (exfalso; omega) | exact Classical.not_not.1 (by assumption)), fun _ => by (first | assumption | (exfalso; omega) | exact Classical.not_not.1 (by assumption)), fun _ => by (first | assumption | (exfalso; omega) | exact Classical.not_not.1 (by assumption)), fun _ => by (first | assumption | (exfalso; omega) | exact Classical.not_not.1 (by assumption)), fun _ => by (first | assumption | (exfalso; omega) | exact Classical.not_not.1 (by assumption)), fun _ => by (first | assumption | (exfalso; omega) | exact Classical.not_not.1 (by assumption)), fun _ => ⟨by (first | assumption | (exfalso; omega)), by (first | assumption | (exfalso; omega))⟩, fun _ => ⟨by (first | assumption | (exfalso; omega)), by (first | assumption | omega)⟩⟩], rfl⟩
 refine A0b ?_
 exact ⟨rfl, by (cases R with | false => rfl | true => (exfalso; obtain ⟨i1, i2, i3, i4, i5, i6, i7, i8, i9⟩ := hi.1 rfl; first | omega | (have j := i2 (by omega); simp_all; done) | (have j := i3 (by omega); simp_all; done) | (have j := i4 (by omega); simp_all; done) | (have j := i5 (by omega); simp_all; done) | (have j := i6 (by omega); simp_all; done) | (have j := i7 (by omega); simp_all; done) | (have j := i8 (by omega); simp_all; done) | (have j := i9 (by omega); simp_all; done))), rfl⟩
 refine U5 ?_
 exact ⟨rfl, by (cases R with | false => rfl | true => (exfalso; obtain ⟨i1, i2, i3, i4, i5, i6, i7, i8, i9⟩ := hi.1 rfl; first | omega | (have j := i2 (by omega); simp_all; done) | (have j := i3 (by omega); simp_all; done) | (have j := i4 (by omega); simp_all; done) | (have j := i5 (by omega); simp_all; done) | (have j := i6 (by omega); simp_all; done) | (have j := i7 (by omega); simp_all; done) | (have j := i8 (by omega); simp_all; done) | (have j := i9 (by omega); simp_all; done))), rfl⟩
 refine sQ (N8 rfl) rfl (sQ (qA rfl) rfl (sD (nS (qT rfl (tS (tR (sQ (qA rfl) rfl (sD (nS (tT (rB (rS (A9 (rT rfl) ?_)))))))))))))
 exact ⟨rfl, by (cases R with | false => rfl | true => (exfalso; obtain ⟨i1, i2, i3, i4, i5, i6, i7, i8, i9⟩ := hi.1 rfl; first | omega | (have j := i2 (by omega); simp_all; done) | (have j := i3 (by omega); simp_all; done) | (have j := i4 (by omega); simp_all; done) | (have j := i5 (by omega); simp_all; done) | (have j := i6 (by omega); simp_all; done) | (have j := i7 (by omega); simp_all; done) | (have j := i8 (by omega); simp_all; done) | (have j := i9 (by omega); simp_all; done))), rfl⟩
 refine U5 ?_
 exact ⟨rfl, by (cases R with | false => rfl | true => (exfalso; obtain ⟨i1, i2, i3, i4, i5, i6, i7, i8, i9⟩ := hi.1 rfl; first | omega | (have j := i2 (by omega); simp_all; done) | (have j := i3 (by omega); simp_all; done) | (have j := i4 (by omega); simp_all; done) | (have j := i5 (by omega); simp_all; done) | (have j := i6 (by omega); simp_all; done) | (have j := i7 (by omega); simp_all; done) | (have j := i8 (by omega); simp_all; done) | (have j := i9 (by omega); simp_all; done))), rfl⟩
 refine sQ (D7 rfl rfl) rfl (sQ (qA rfl) rfl (sD (nS (tS (tR (sQ (A0 rfl) rfl (sL (A3 rfl rfl) rfl rfl ?_)))))))
 refine sP (I2 rfl rfl (by omega)) rfl rfl ?_
 refine sQ (qM rfl) rfl (sQ (A0 rfl) rfl (sL (A3 rfl rfl) rfl rfl ?_))
 refine sB (qE rfl rfl) rfl rfl (fun h563 => ?_) (fun h563 => ?_)
 refine T6 ?_
 refine sP (I2 rfl rfl (by omega)) rfl rfl ?_
 refine sQ (qA rfl) rfl (sD (nS (tS (tR (sQ (qA rfl) rfl (sD (nS (tS (tS (tR (sQ (A0 rfl) rfl (sL (A3 rfl rfl) rfl rfl ?_))))))))))))
 refine sP (I2 rfl rfl (by omega)) rfl rfl ?_
 refine sD (nS (cF rfl (tK (nS (tS ?_)))))
 refine B9 ?_
 refine A0m ?_
 refine sB (A1C rfl rfl) rfl rfl (fun h620 => ?_) (fun h620 => ?_)
 refine S9 ?_
 exact ⟨rfl, by (cases R with | false => rfl | true => (exfalso; obtain ⟨i1, i2, i3, i4, i5, i6, i7, i8, i9⟩ := hi.1 rfl; first | omega | (have j := i2 (by omega); simp_all; done) | (have j := i3 (by omega); simp_all; done) | (have j := i4 (by omega); simp_all; done) | (have j := i5 (by omega); simp_all; done) | (have j := i6 (by omega); simp_all; done) | (have j := i7 (by omega); simp_all; done) | (have j := i8 (by omega); simp_all; done) | (have j := i9 (by omega); simp_all; done))), rfl⟩
 refine sQ (C2 rfl rfl) rfl (sQ (qA rfl) rfl (sD (nS (cF rfl (tR (sQ (A0 rfl) rfl (sL (A3 rfl rfl) rfl rfl (sQ (qM rfl) rfl ?_))))))))
 refine E7 rfl (A01 _ _ _ _) rfl rfl (fun h648 => ?_) (fun h648 => ?_)
 refine U4 ?_
 refine E7 rfl (o3) rfl rfl (fun h661 => ?_) (fun h661 => ?_)
 refine Y1 ?_
 refine S9 ?_
 refine E7 rfl (o7) rfl rfl (fun h709 => ?_) (fun h709 => ?_)
 refine sQ (K4 rfl) rfl (sQ (qM rfl) rfl (sQ (A0 rfl) rfl (sL (A3 rfl rfl) rfl rfl ?_)))
 refine sB (N9 rfl rfl) rfl rfl (fun h714 => ?_) (fun h714 => ?_)
 refine L9 ?_
 exact ⟨rfl, by (cases R with | false => rfl | true => (exfalso; obtain ⟨i1, i2, i3, i4, i5, i6, i7, i8, i9⟩ := hi.1 rfl; first | omega | (have j := i2 (by omega); simp_all; done) | (have j := i3 (by omega); simp_all; done) | (have j := i4 (by omega); simp_all; done) | (have j := i5 (by omega); simp_all; done) | (have j := i6 (by omega); simp_all; done) | (have j := i7 (by omega); simp_all; done) | (have j := i8 (by omega); simp_all; done) | (have j := i9 (by omega); simp_all; done))), rfl⟩
 refine O9 ?_
 exact ⟨rfl, by rw [hi.2 ⟨by omega, fun _ => by (first | assumption | (exfalso; omega) | exact Classical.not_not.1 (by assumption)), fun _ => by (first | assumption | (exfalso; omega) | exact Classical.not_not.1 (by assumption)), fun _ => by (first | assumption | (exfalso; omega) | exact Classical.not_not.1 (by assumption)), fun _ => by (first | assumption | (exfalso; omega) | exact Classical.not_not.1 (by assumption)), fun _ => by (first | assumption | (exfalso; omega) | exact Classical.not_not.1 (by assumption)), fun _ => by (first | assumption | (exfalso; omega) | exact Classical.not_not.1 (by assumption)), fun _ => ⟨by (first | assumption | (exfalso; omega)), by (first | assumption | (exfalso; omega))⟩, fun _ => ⟨by (first | assumption | (exfalso; omega)), by (first | assumption | omega)⟩⟩], rfl⟩
 refine A0b ?_
 exact ⟨rfl, by (cases R with | false => rfl | true => (exfalso; obtain ⟨i1, i2, i3, i4, i5, i6, i7, i8, i9⟩ := hi.1 rfl; first | omega | (have j := i2 (by omega); simp_all; done) | (have j := i3 (by omega); simp_all; done) | (have j := i4 (by omega); simp_all; done) | (have j := i5 (by omega); simp_all; done) | (have j := i6 (by omega); simp_all; done) | (have j := i7 (by omega); simp_all; done) | (have j := i8 (by omega); simp_all; done) | (have j := i9 (by omega); simp_all; done))), rfl⟩
 refine U5 ?_
 exact ⟨rfl, by (cases R with | false => rfl | true => (exfalso; obtain ⟨i1, i2, i3, i4, i5, i6, i7, i8, i9⟩ := hi.1 rfl; first | omega | (have j := i2 (by omega); simp_all; done) | (have j := i3 (by omega); simp_all; done) | (have j := i4 (by omega); simp_all; done) | (have j := i5 (by omega); simp_all; done) | (have j := i6 (by omega); simp_all; done) | (have j := i7 (by omega); simp_all; done) | (have j := i8 (by omega); simp_all; done) | (have j := i9 (by omega); simp_all; done))), rfl⟩
 refine sQ (N8 rfl) rfl (sQ (qA rfl) rfl (sD (nS (qT rfl (tS (tR (sQ (qA rfl) rfl (sD (nS (tT (rB (rS (A9 (rT rfl) ?_)))))))))))))
 exact ⟨rfl, by (cases R with | false => rfl | true => (exfalso; obtain ⟨i1, i2, i3, i4, i5, i6, i7, i8, i9⟩ := hi.1 rfl; first | omega | (have j := i2 (by omega); simp_all; done) | (have j := i3 (by omega); simp_all; done) | (have j := i4 (by omega); simp_all; done) | (have j := i5 (by omega); simp_all; done) | (have j := i6 (by omega); simp_all; done) | (have j := i7 (by omega); simp_all; done) | (have j := i8 (by omega); simp_all; done) | (have j := i9 (by omega); simp_all; done))), rfl⟩
 refine sQ (D7 rfl rfl) rfl (sQ (qM rfl) rfl (sQ (A0 rfl) rfl (sL (A3 rfl rfl) rfl rfl ?_)))
 refine sB (qE rfl rfl) rfl rfl (fun h807 => ?_) (fun h807 => ?_)
 refine sQ (D7 rfl rfl) rfl (sQ (qA rfl) rfl (sD (nS (tS (tR (sQ (A0 rfl) rfl (sL (A3 rfl rfl) rfl rfl ?_)))))))
 refine sP (V5 rfl rfl (by omega)) rfl rfl ?_
 refine sQ (qA rfl) rfl (sD (nS (tS (tR (sQ (qA rfl) rfl (sD (nS (tS (tS (tR (sQ (A0 rfl) rfl (sL (A3 rfl rfl) rfl rfl ?_))))))))))))
 refine sP (I2 rfl rfl (by omega)) rfl rfl ?_
 refine sD (nS (cF rfl (tK (nS (tS ?_)))))
 refine B9 ?_
 refine A0m ?_
 refine sB (A1C rfl rfl) rfl rfl (fun h859 => ?_) (fun h859 => ?_)
 refine S9 ?_
 exact ⟨rfl, by (cases R with | false => rfl | true => (exfalso; obtain ⟨i1, i2, i3, i4, i5, i6, i7, i8, i9⟩ := hi.1 rfl; first | omega | (have j := i2 (by omega); simp_all; done) | (have j := i3 (by omega); simp_all; done) | (have j := i4 (by omega); simp_all; done) | (have j := i5 (by omega); simp_all; done) | (have j := i6 (by omega); simp_all; done) | (have j := i7 (by omega); simp_all; done) | (have j := i8 (by omega); simp_all; done) | (have j := i9 (by omega); simp_all; done))), rfl⟩
 refine sQ (C2 rfl rfl) rfl (sQ (qA rfl) rfl (sD (nS (cF rfl (tR (sQ (A0 rfl) rfl (sL (A3 rfl rfl) rfl rfl (sQ (qM rfl) rfl ?_))))))))
 refine E7 rfl (A01 _ _ _ _) rfl rfl (fun h887 => ?_) (fun h887 => ?_)
 refine U4 ?_
 refine E7 rfl (o3) rfl rfl (fun h900 => ?_) (fun h900 => ?_)
 refine A6E ?_
 refine E7 rfl (o5) rfl rfl (fun h929 => ?_) (fun h929 => ?_)
 refine sQ (K4 rfl) rfl (sQ (qM rfl) rfl (sQ (A0 rfl) rfl (sL (A3 rfl rfl) rfl rfl ?_)))
 refine E7 rfl (o6) rfl rfl (fun h934 => ?_) (fun h934 => ?_)
 refine Y1 ?_
 refine sQ (qA rfl) rfl (sD (nS (tT (A9 (rT rfl) ?_))))
 exact ⟨rfl, by rw [hi.2 ⟨by omega, fun _ => by (first | assumption | (exfalso; omega) | exact Classical.not_not.1 (by assumption)), fun _ => by (first | assumption | (exfalso; omega) | exact Classical.not_not.1 (by assumption)), fun _ => by (first | assumption | (exfalso; omega) | exact Classical.not_not.1 (by assumption)), fun _ => by (first | assumption | (exfalso; omega) | exact Classical.not_not.1 (by assumption)), fun _ => by (first | assumption | (exfalso; omega) | exact Classical.not_not.1 (by assumption)), fun _ => by (first | assumption | (exfalso; omega) | exact Classical.not_not.1 (by assumption)), fun _ => ⟨by (first | assumption | (exfalso; omega)), by (first | assumption | (exfalso; omega))⟩, fun _ => ⟨by (first | assumption | (exfalso; omega)), by (first | assumption | omega)⟩⟩], rfl⟩
 refine Z1 ?_
 exact ⟨rfl, by (cases R with | false => rfl | true => (exfalso; obtain ⟨i1, i2, i3, i4, i5, i6, i7, i8, i9⟩ := hi.1 rfl; first | omega | (have j := i2 (by omega); simp_all; done) | (have j := i3 (by omega); simp_all; done) | (have j := i4 (by omega); simp_all; done) | (have j := i5 (by omega); simp_all; done) | (have j := i6 (by omega); simp_all; done) | (have j := i7 (by omega); simp_all; done) | (have j := i8 (by omega); simp_all; done) | (have j := i9 (by omega); simp_all; done))), rfl⟩
 refine A2t ?_
 exact ⟨rfl, by (cases R with | false => rfl | true => (exfalso; obtain ⟨i1, i2, i3, i4, i5, i6, i7, i8, i9⟩ := hi.1 rfl; first | omega | (have j := i2 (by omega); simp_all; done) | (have j := i3 (by omega); simp_all; done) | (have j := i4 (by omega); simp_all; done) | (have j := i5 (by omega); simp_all; done) | (have j := i6 (by omega); simp_all; done) | (have j := i7 (by omega); simp_all; done) | (have j := i8 (by omega); simp_all; done) | (have j := i9 (by omega); simp_all; done))), rfl⟩
 refine U5 ?_
 exact ⟨rfl, by (cases R with | false => rfl | true => (exfalso; obtain ⟨i1, i2, i3, i4, i5, i6, i7, i8, i9⟩ := hi.1 rfl; first | omega | (have j := i2 (by omega); simp_all; done) | (have j := i3 (by omega); simp_all; done) | (have j := i4 (by omega); simp_all; done) | (have j := i5 (by omega); simp_all; done) | (have j := i6 (by omega); simp_all; done) | (have j := i7 (by omega); simp_all; done) | (have j := i8 (by omega); simp_all; done) | (have j := i9 (by omega); simp_all; done))), rfl⟩
 refine sQ (N8 rfl) rfl (sQ (qA rfl) rfl (sD (nS (qT rfl (tS (tR (sQ (qA rfl) rfl (sD (nS (tT (rB (rS (A9 (rT rfl) ?_)))))))))))))
 exact ⟨rfl, by (cases R with | false => rfl | true => (exfalso; obtain ⟨i1, i2, i3, i4, i5, i6, i7, i8, i9⟩ := hi.1 rfl; first | omega | (have j := i2 (by omega); simp_all; done) | (have j := i3 (by omega); simp_all; done) | (have j := i4 (by omega); simp_all; done) | (have j := i5 (by omega); simp_all; done) | (have j := i6 (by omega); simp_all; done) | (have j := i7 (by omega); simp_all; done) | (have j := i8 (by omega); simp_all; done) | (have j := i9 (by omega); simp_all; done))), rfl⟩
 refine sQ (D7 rfl rfl) rfl (sQ (qA rfl) rfl (sD (nS (tS (tR (sQ (A0 rfl) rfl (sL (A3 rfl rfl) rfl rfl ?_)))))))
 refine sP (I2 rfl rfl (by omega)) rfl rfl ?_
 refine sQ (qA rfl) rfl (sD (nS (tS (tR (sQ (qA rfl) rfl (sD (nS (tS (tS (tR (sQ (A0 rfl) rfl (sL (A3 rfl rfl) rfl rfl ?_))))))))))))
 refine sB (qE rfl rfl) rfl rfl (fun h1072 => ?_) (fun h1072 => ?_)
 refine sD (nS (qT rfl (tR (sQ (qA rfl) rfl (sD (nS (tS ?_)))))))
 refine B9 ?_
 refine A0m ?_
 refine sB (A1C rfl rfl) rfl rfl (fun h1103 => ?_) (fun h1103 => ?_)
 refine S9 ?_
 exact ⟨rfl, by (cases R with | false => rfl | true => (exfalso; obtain ⟨i1, i2, i3, i4, i5, i6, i7, i8, i9⟩ := hi.1 rfl; first | omega | (have j := i2 (by omega); simp_all; done) | (have j := i3 (by omega); simp_all; done) | (have j := i4 (by omega); simp_all; done) | (have j := i5 (by omega); simp_all; done) | (have j := i6 (by omega); simp_all; done) | (have j := i7 (by omega); simp_all; done) | (have j := i8 (by omega); simp_all; done) | (have j := i9 (by omega); simp_all; done))), rfl⟩
 refine sQ (C2 rfl rfl) rfl (sQ (qA rfl) rfl (sD (nS (cF rfl (tR (sQ (A0 rfl) rfl (sL (A3 rfl rfl) rfl rfl (sQ (qM rfl) rfl ?_))))))))
 refine E7 rfl (A01 _ _ _ _) rfl rfl (fun h1131 => ?_) (fun h1131 => ?_)
 refine A4W ?_
 refine E7 rfl (o4) rfl rfl (fun h1157 => ?_) (fun h1157 => ?_)
 refine Y1 ?_
 refine sQ (N8 rfl) rfl (sQ (qM rfl) rfl (sQ (A0 rfl) rfl (sL (A2 rfl rfl) rfl rfl ?_)))
 refine E7 rfl (o7) rfl rfl (fun h1192 => ?_) (fun h1192 => ?_)
 refine sQ (K4 rfl) rfl (sQ (qM rfl) rfl (sQ (A0 rfl) rfl (sL (A3 rfl rfl) rfl rfl ?_)))
 refine sB (N9 rfl rfl) rfl rfl (fun h1197 => ?_) (fun h1197 => ?_)
 refine L9 ?_
 exact ⟨rfl, by (cases R with | false => rfl | true => (exfalso; obtain ⟨i1, i2, i3, i4, i5, i6, i7, i8, i9⟩ := hi.1 rfl; first | omega | (have j := i2 (by omega); simp_all; done) | (have j := i3 (by omega); simp_all; done) | (have j := i4 (by omega); simp_all; done) | (have j := i5 (by omega); simp_all; done) | (have j := i6 (by omega); simp_all; done) | (have j := i7 (by omega); simp_all; done) | (have j := i8 (by omega); simp_all; done) | (have j := i9 (by omega); simp_all; done))), rfl⟩
 refine O9 ?_
 exact ⟨rfl, by rw [hi.2 ⟨by omega, fun _ => by (first | assumption | (exfalso; omega) | exact Classical.not_not.1 (by assumption)), fun _ => by (first | assumption | (exfalso; omega) | exact Classical.not_not.1 (by assumption)), fun _ => by (first | assumption | (exfalso; omega) | exact Classical.not_not.1 (by assumption)), fun _ => by (first | assumption | (exfalso; omega) | exact Classical.not_not.1 (by assumption)), fun _ => by (first | assumption | (exfalso; omega) | exact Classical.not_not.1 (by assumption)), fun _ => by (first | assumption | (exfalso; omega) | exact Classical.not_not.1 (by assumption)), fun _ => ⟨by (first | assumption | (exfalso; omega)), by (first | assumption | (exfalso; omega))⟩, fun _ => ⟨by (first | assumption | (exfalso; omega)), by (first | assumption | omega)⟩⟩], rfl⟩
 refine A0b ?_
 exact ⟨rfl, by (cases R with | false => rfl | true => (exfalso; obtain ⟨i1, i2, i3, i4, i5, i6, i7, i8, i9⟩ := hi.1 rfl; first | omega | (have j := i2 (by omega); simp_all; done) | (have j := i3 (by omega); simp_all; done) | (have j := i4 (by omega); simp_all; done) | (have j := i5 (by omega); simp_all; done) | (have j := i6 (by omega); simp_all; done) | (have j := i7 (by omega); simp_all; done) | (have j := i8 (by omega); simp_all; done) | (have j := i9 (by omega); simp_all; done))), rfl⟩
 refine L9 ?_
 exact ⟨rfl, by (cases R with | false => rfl | true => (exfalso; obtain ⟨i1, i2, i3, i4, i5, i6, i7, i8, i9⟩ := hi.1 rfl; first | omega | (have j := i2 (by omega); simp_all; done) | (have j := i3 (by omega); simp_all; done) | (have j := i4 (by omega); simp_all; done) | (have j := i5 (by omega); simp_all; done) | (have j := i6 (by omega); simp_all; done) | (have j := i7 (by omega); simp_all; done) | (have j := i8 (by omega); simp_all; done) | (have j := i9 (by omega); simp_all; done))), rfl⟩
 refine sQ (N8 rfl) rfl (sQ (qA rfl) rfl (sD (nS (qT rfl (tS (tR (sQ (qA rfl) rfl (sD (nS (tT (rB (rS (A9 (rT rfl) ?_)))))))))))))
 exact ⟨rfl, by (cases R with | false => rfl | true => (exfalso; obtain ⟨i1, i2, i3, i4, i5, i6, i7, i8, i9⟩ := hi.1 rfl; first | omega | (have j := i2 (by omega); simp_all; done) | (have j := i3 (by omega); simp_all; done) | (have j := i4 (by omega); simp_all; done) | (have j := i5 (by omega); simp_all; done) | (have j := i6 (by omega); simp_all; done) | (have j := i7 (by omega); simp_all; done) | (have j := i8 (by omega); simp_all; done) | (have j := i9 (by omega); simp_all; done))), rfl⟩
 refine sD (nS (cF rfl (tK (nS (tS ?_)))))
 refine B9 ?_
 refine A0m ?_
 refine sB (A1C rfl rfl) rfl rfl (fun h1311 => ?_) (fun h1311 => ?_)
 refine S9 ?_
 exact ⟨rfl, by (cases R with | false => rfl | true => (exfalso; obtain ⟨i1, i2, i3, i4, i5, i6, i7, i8, i9⟩ := hi.1 rfl; first | omega | (have j := i2 (by omega); simp_all; done) | (have j := i3 (by omega); simp_all; done) | (have j := i4 (by omega); simp_all; done) | (have j := i5 (by omega); simp_all; done) | (have j := i6 (by omega); simp_all; done) | (have j := i7 (by omega); simp_all; done) | (have j := i8 (by omega); simp_all; done) | (have j := i9 (by omega); simp_all; done))), rfl⟩
 refine sQ (C2 rfl rfl) rfl (sQ (qA rfl) rfl (sD (nS (cF rfl (tR (sQ (A0 rfl) rfl (sL (A3 rfl rfl) rfl rfl (sQ (qM rfl) rfl ?_))))))))
 refine E7 rfl (A01 _ _ _ _) rfl rfl (fun h1339 => ?_) (fun h1339 => ?_)
 refine A4W ?_
 refine E7 rfl (o4) rfl rfl (fun h1365 => ?_) (fun h1365 => ?_)
 refine Y1 ?_
 refine sQ (N8 rfl) rfl (sQ (qM rfl) rfl (sQ (A0 rfl) rfl (sL (A2 rfl rfl) rfl rfl ?_)))
 refine E7 rfl (o7) rfl rfl (fun h1400 => ?_) (fun h1400 => ?_)
 refine sQ (K4 rfl) rfl (sQ (qM rfl) rfl (sQ (A0 rfl) rfl (sL (A3 rfl rfl) rfl rfl ?_)))
 refine sB (N9 rfl rfl) rfl rfl (fun h1405 => ?_) (fun h1405 => ?_)
 refine L9 ?_
 exact ⟨rfl, by (cases R with | false => rfl | true => (exfalso; obtain ⟨i1, i2, i3, i4, i5, i6, i7, i8, i9⟩ := hi.1 rfl; first | omega | (have j := i2 (by omega); simp_all; done) | (have j := i3 (by omega); simp_all; done) | (have j := i4 (by omega); simp_all; done) | (have j := i5 (by omega); simp_all; done) | (have j := i6 (by omega); simp_all; done) | (have j := i7 (by omega); simp_all; done) | (have j := i8 (by omega); simp_all; done) | (have j := i9 (by omega); simp_all; done))), rfl⟩
 refine O9 ?_
 exact ⟨rfl, by rw [hi.2 ⟨by omega, fun _ => by (first | assumption | (exfalso; omega) | exact Classical.not_not.1 (by assumption)), fun _ => by (first | assumption | (exfalso; omega) | exact Classical.not_not.1 (by assumption)), fun _ => by (first | assumption | (exfalso; omega) | exact Classical.not_not.1 (by assumption)), fun _ => by (first | assumption | (exfalso; omega) | exact Classical.not_not.1 (by assumption)), fun _ => by (first | assumption | (exfalso; omega) | exact Classical.not_not.1 (by assumption)), fun _ => by (first | assumption | (exfalso; omega) | exact Classical.not_not.1 (by assumption)), fun _ => ⟨by (first | assumption | (exfalso; omega)), by (first | assumption | (exfalso; omega))⟩, fun _ => ⟨by (first | assumption | (exfalso; omega)), by (first | assumption | omega)⟩⟩], rfl⟩
 refine A0b ?_
 exact ⟨rfl, by (cases R with | false => rfl | true => (exfalso; obtain ⟨i1, i2, i3, i4, i5, i6, i7, i8, i9⟩ := hi.1 rfl; first | omega | (have j := i2 (by omega); simp_all; done) | (have j := i3 (by omega); simp_all; done) | (have j := i4 (by omega); simp_all; done) | (have j := i5 (by omega); simp_all; done) | (have j := i6 (by omega); simp_all; done) | (have j := i7 (by omega); simp_all; done) | (have j := i8 (by omega); simp_all; done) | (have j := i9 (by omega); simp_all; done))), rfl⟩
 refine L9 ?_
 exact ⟨rfl, by (cases R with | false => rfl | true => (exfalso; obtain ⟨i1, i2, i3, i4, i5, i6, i7, i8, i9⟩ := hi.1 rfl; first | omega | (have j := i2 (by omega); simp_all; done) | (have j := i3 (by omega); simp_all; done) | (have j := i4 (by omega); simp_all; done) | (have j := i5 (by omega); simp_all; done) | (have j := i6 (by omega); simp_all; done) | (have j := i7 (by omega); simp_all; done) | (have j := i8 (by omega); simp_all; done) | (have j := i9 (by omega); simp_all; done))), rfl⟩
 refine sQ (N8 rfl) rfl (sQ (qA rfl) rfl (sD (nS (qT rfl (tS (tR (sQ (qA rfl) rfl (sD (nS (tT (rB (rS (A9 (rT rfl) ?_)))))))))))))
 exact ⟨rfl, by (cases R with | false => rfl | true => (exfalso; obtain ⟨i1, i2, i3, i4, i5, i6, i7, i8, i9⟩ := hi.1 rfl; first | omega | (have j := i2 (by omega); simp_all; done) | (have j := i3 (by omega); simp_all; done) | (have j := i4 (by omega); simp_all; done) | (have j := i5 (by omega); simp_all; done) | (have j := i6 (by omega); simp_all; done) | (have j := i7 (by omega); simp_all; done) | (have j := i8 (by omega); simp_all; done) | (have j := i9 (by omega); simp_all; done))), rfl⟩
theorem A7a (M D N : Int) (hM : 0 ≤ M ∧ M ≤ 1000) (hD : 0 ≤ D ∧ D ≤ 1000) (bc : Nat) : ∀ (t : Tm) (deep c : Int) (G : IM) (cells : List Value), 0 ≤ deep ∧ deep ≤ D + 1 → 0 ≤ c ∧ c ≤ M → B0 G t cells →
  Fn Tryz.prog 65 [.agg ⟨cells⟩, .int .i64 deep, .int .i64 M, .int .i64 D, .int .i64 N, .pointer (some ⟨bc, 0, none⟩)] [.blk bc [.int .i64 c]] G
   (S8 (.bool (R6 M D N t deep c).1) [.blk bc [.int .i64 (R6 M D N t deep c).2]] G) := by
 refine Tm.ind fun k nm num ty fr lb ks ih deep c G cells hd hc hr => ?_
 have hno := B0W k nm num ty fr lb ks G cells hr
 obtain ⟨tk, tks⟩ := ty
 obtain ⟨fk, fks⟩ := fr
 obtain ⟨pt, ct, pf, cf, p, cp, es, rfl, hk, hnum, hlb, hty, hfr, hsl, hkl⟩ := hr.open9
 have hn := hsl.le
 obtain ⟨R, hR⟩ : ∃ R, T9 k nm num (.mk tk tks) (.mk fk fks) lb ks.length = R := ⟨_, rfl⟩
 rw [hR] at hno
 refine C0 Tryz.func65 rfl Tryz.ntmps65 Tryz.results65 rfl ?_
 intro w0
 refine tS (tR ?_)
 refine sE (C5 rfl rfl) rfl (fun b3 => ?_)
 refine sQ (qA rfl) rfl (sD (nS (tS (tR (sQ (qM rfl) rfl ?_)))))
 refine sQ (X3 rfl) rfl ?_
 refine sL (A3 rfl rfl) rfl rfl ?_
 refine sP (I7 rfl rfl (by omega) (by omega)) rfl rfl ?_
 refine sQ (X3 rfl) rfl ?_
 refine B1 ?_
 refine sD (nS (tS (tS (tR (sQ (qM rfl) rfl ?_)))))
 refine sQ (X3 rfl) rfl ?_
 refine sL (A3 rfl rfl) rfl rfl (sQ (qM rfl) rfl ?_)
 refine sB (X4 rfl rfl) rfl rfl (fun h24 => ?_) (fun h24 => ?_)
 refine A3V ?_
 refine F9 (outs := [.blk bc [.int .i64 _]]) (rT rfl) (A1.cons (by repeat (first | exact Pk.here | apply Pk.there)) A1.nil) ?_
 (rw [A3Y (by rw [hR]; first | omega | exact Or.inr (Or.inr (Or.inr (by assumption)))) ]; exact ⟨rfl, rfl, rfl⟩)
 refine sQ (qM rfl) rfl (sQ (qM rfl) rfl (sQ (qM rfl) rfl ?_))
 refine sB (X4 rfl rfl) rfl rfl (fun h56 => ?_) (fun h56 => ?_)
 refine A4V ?_
 refine F9 (outs := [.blk bc [.int .i64 _]]) (rT rfl) (A1.cons (by repeat (first | exact Pk.here | apply Pk.there)) A1.nil) ?_
 (rw [A3Y (by rw [hR]; first | omega | exact Or.inr (Or.inr (Or.inr (by assumption)))) ]; exact ⟨rfl, rfl, rfl⟩)
 refine sQ (D7 rfl rfl) rfl (sQ (qM rfl) rfl (sQ (A0 rfl) rfl (sL (A3 rfl rfl) rfl rfl (sQ (qM rfl) rfl ?_))))
 refine sB (qE rfl rfl) rfl rfl (fun h86 => ?_) (fun h86 => ?_)
 refine O9 ?_
 refine F9 (outs := [.blk bc [.int .i64 _]]) (rT rfl) (A1.cons (by repeat (first | exact Pk.here | apply Pk.there)) A1.nil) ?_
 (rw [A3Y (by rw [hR]; first | omega | exact Or.inr (Or.inr (Or.inr (by assumption)))) ]; exact ⟨rfl, rfl, rfl⟩)
 refine sQ (D7 rfl rfl) rfl (sQ (qM rfl) rfl (sL (A2 rfl rfl) rfl rfl ?_))
 refine E7 rfl (hno) rfl rfl (fun h108 => ?_) (fun h108 => ?_)
 refine O9 ?_
 refine B9 ?_
 (have hmk := B0p (M := M) (D := D) (N := N) (deep := deep) (c := c) (by omega) (hR.trans (by assumption)); refine J4 (fun (x : Nat × Int) => ⟨[(44, .int .i64 x.1), (43, .int .i64 ks.length), (42, .slice p ks.length cp), (5, .pointer (some ⟨bc, 0, none⟩)), (4, .int .i64 N), (3, .int .i64 D), (2, .int .i64 M), (1, .int .i64 deep)], [.blk bc [.int .i64 x.2]], G⟩) (fun x => x.1 ≤ ks.length ∧ 0 ≤ x.2 ∧ x.2 ≤ M ∧ S5 M D N ks (deep + 1) (c + 1) = S5 M D N (ks.drop x.1) (deep + 1) x.2) (fun x => ks.length - x.1) (0, c + 1) ?_ ?_ ?_)
 (simp only [I3]; exact D9)
 exact ⟨by simp, by simp; omega, by simp; omega, by simp⟩
 (rintro ⟨i, ci⟩ ⟨hi, hc0, hc1, hst⟩; simp only [] at hi hc0 hc1 hst ⊢)
 refine tS (tR ?_)
 refine sB (J1 rfl rfl) rfl rfl (fun h132 => ?_) (fun h132 => ?_)
 refine sD (nS (tS (qT rfl (tK (nS (tS ?_))))))
 refine B9 ?_
 refine tS (tR ?_)
 (obtain ⟨b, o, e, rfl, hl, hat, hre, hgb⟩ := hsl.kidTm hkl (i := i) (by omega) (by omega); have hone := hre.one; have hle := A40 M D N ks[i] (deep + 1) ci hc0 hc1; refine sP (B3 rfl rfl rfl (by omega)) rfl rfl ?_)
 refine sL (A5 rfl rfl (hat _) hl) rfl rfl ?_
 refine sE (A7 rfl) rfl (fun b145 => ?_)
 refine Y0 rfl rfl rfl (by assumption) (by assumption) rfl (by repeat first | exact Sw.here | apply Sw.there) (by exact D5 (by symm; assumption)) ?_
 refine sD (nS (tS (tR ?_)))
 refine sL (A5 rfl rfl (B2 (by repeat first | exact mH | apply mT)) (by assumption)) rfl rfl ?_
 refine sQ (qM rfl) rfl ?_
 refine sP (I7 rfl rfl (by omega) (by omega)) rfl rfl ?_
 refine sQ (qM rfl) rfl (sQ (qM rfl) rfl (sQ (qM rfl) rfl (sQ (qM rfl) rfl ?_)))
 refine B0f rfl (ih ks[i] (List.getElem_mem _) (deep + 1) ci G e (by omega) (by omega) hre) (Pk.perm (by repeat (first | exact Pk.here | apply Pk.there))) rfl rfl (fun h158 => ?_) (fun h158 => ?_)
 refine sQ (K4 rfl) rfl (sD (nS (cF rfl (tK (E3 (nS (tR ?_)))))))
 refine sP (I7 rfl rfl (by omega) (by omega)) rfl rfl ?_
 refine sQ (qM rfl) rfl (sD ?_)
 refine J3 (i + 1, (R6 M D N ks[i] (deep + 1) ci).2) ?_ ?_ ?_
 (simp only [I3]; exact D9)
 exact ⟨by omega, by omega, hle.2.2 (by assumption), by rw [hst, B0q (by omega) (by assumption)]⟩
 (show ks.length - (i + 1) < ks.length - i; omega)
 refine sQ (N8 rfl) rfl (sD (nS (qT rfl (tS (tR (sQ (qA rfl) rfl (sD (nS (tT (rB (rS (T4 (rB (rS ?_))))))))))))))
 refine F9 (outs := [.blk bc [.int .i64 _]]) (rT rfl) (A1.cons (by repeat (first | exact Pk.here | apply Pk.there)) A1.nil) ?_
 (rw [hmk, hst, B0r (by omega) (by assumption)]; exact ⟨rfl, rfl, rfl⟩)
 refine sD (nS (tS (cF rfl (M3 (M5 (N7 (M6 (nS (tS (tR (sQ (qA rfl) rfl (sD (nS (tT ?_))))))))))))))
 refine F9 (outs := [.blk bc [.int .i64 _]]) (rT rfl) (A1.cons (by repeat (first | exact Pk.here | apply Pk.there)) A1.nil) ?_
 (rw [hmk, hst, B0s (by omega)]; exact ⟨rfl, rfl, rfl⟩)
 refine sQ (N8 rfl) rfl (sQ (D7 rfl rfl) rfl (sD (nS (qT rfl (tS (tR (sQ (qA rfl) rfl (sD (nS (tT (rS ?_)))))))))))
 refine F9 (outs := [.blk bc [.int .i64 _]]) (rT rfl) (A1.cons (by repeat (first | exact Pk.here | apply Pk.there)) A1.nil) ?_
 (rw [A3Y (by rw [hR]; first | omega | exact Or.inr (Or.inr (Or.inr (by assumption)))) ]; exact ⟨rfl, rfl, rfl⟩)
theorem A7b (t : Tm) (G : IM) (cells : List Value) (hr : B0 G t cells) : Fn Tryz.prog 32 [.agg ⟨cells⟩] [] G (H4 (.bool (O1 t)) G) := by
 have hl := hr.len
 refine C0 Tryz.func32 rfl Tryz.ntmps32 Tryz.results32 rfl ?_
 intro w0
 refine tS (tR ?_)
 refine sE (C5 rfl rfl) rfl (fun b3 => ?_)
 refine sQ (qA rfl) rfl (sD (nS (tS (tR ?_))))
 refine sE (A7 rfl) rfl (fun b9 => ?_)
 refine B1 ?_
 refine sD (nS (tS (tR ?_)))
 refine sL (A5 rfl rfl (B2 (by repeat first | exact mH | apply mT)) (by assumption)) rfl rfl ?_
 refine A3T rfl (A7a 200 40 13 (by omega) (by omega) _ t 1 0 G cells (by omega) (by omega) hr) Z0 rfl rfl ?_
 refine sQ (qA rfl) rfl (sD (nS (tT (A9 (rT rfl) ?_))))
 exact ⟨rfl, rfl, rfl⟩
theorem A7c (t : Tm) (G : IM) (cells : List Value) (hr : B0 G t cells) : Fn Tryz.prog 46 [.agg ⟨cells⟩] [] G (H4 (.bool (P9 t)) G) := by
 have hl := hr.len
 refine C0 Tryz.func46 rfl Tryz.ntmps46 Tryz.results46 rfl ?_
 intro w0
 refine tS (tR ?_)
 refine sE (C5 rfl rfl) rfl (fun b3 => ?_)
 refine sQ (qA rfl) rfl (sD (nS (tS (tR ?_))))
 refine sE (A7 rfl) rfl (fun b9 => ?_)
 refine B1 ?_
 refine sD (nS (tS (tR ?_)))
 refine sL (A5 rfl rfl (B2 (by repeat first | exact mH | apply mT)) (by assumption)) rfl rfl ?_
 refine A3T rfl (A7a 30 12 14 (by omega) (by omega) _ t 1 0 G cells (by omega) (by omega) hr) Z0 rfl rfl ?_
 refine sQ (qA rfl) rfl (sD (nS (tT (A9 (rT rfl) ?_))))
 exact ⟨rfl, rfl, rfl⟩
end Gw
end Go.Proofs.YthpdjmbpbdbodaaGreatDoor
