/-
  The data of the program: types and terms as trees, and how they lie in memory. What the functions of the program compute, in plain words over trees. Terms in memory of their own; slices that were made, filled and given up. The laws' mark texts: the letter m and a number's digits. Lists of paths: what they are in plain words, and how fresh ones lie in memory. The laws' comparisons, at data that are the same. Data that the call owns, block by block: what the laws' marking writes. The laws' marking of types. The laws' marking of terms. The laws' marking of terms and paths, and the reading of the marks. The laws' measure of arguments. Arguments that can be read as data lie in memory as trees do; a law that answers true in memory that was there before meets its row. strconv.Itoa of a number from 0 to 999 is its decimal digits, where the library's table lies as it was laid. The library's tables as the rows list them. Slices of numbers read as arguments. The reference model's source of numbers: each draw stays in its bounds. Slices of bytes read as arguments. A calculus of casts, with types as trees: what is more precise stays so (the gradual guarantee). The functions on types and the small tests of terms: each computes what the plain words say. The scans of types: typeScan, TypeValid, consistent, Consistent. The tests of terms. The scan of a term, CastValid, TermValid.
-/
import Derived.Test.YtebfignffjhnhaaGreatDoorKj0
import Derived.Laws.BytesArg
import Derived.WalkKit
import Derived.ProofKit
import Derived.OpenShut
import Derived.Carry
import Derived.Test.YtebfignffjhnhaaGreatDoorShelf
import Derived.Test.YtebfignffjhnhaaGreatDoorRows
import Derived.Deep.DeepHandedRow
import Derived.Lib.LaidTab
import Derived.Stop.LaidErr
import Init
set_option linter.unusedVariables false
set_option linter.unusedSimpArgs false
set_option maxHeartbeats 0
set_option maxRecDepth 100000
set_option synthInstance.maxSize 4000
set_option synthInstance.maxHeartbeats 0
namespace Go.Proofs.YtebfignffjhnhaaGreatDoor
open Go Go.RowKit
namespace Gw

structure D5 (G : IM) (p : Option Addr) (n c sz : Nat) (es : List (List Value)) : Prop where
 sl : Sl G p n c sz es.flatten
 len : es.length = n
 all : ∀ e ∈ es, e.length = sz
 one : ∀ e ∈ es, e.all (·.oneCell') = true

theorem D5.mono {G G' : IM} {p : Option Addr} {n c sz : Nat} {es : List (List Value)} (h : D5 G p n c sz es) (hg : C0 G G') : D5 G' p n c sz es := ⟨h.sl.mono hg, h.len, h.all, h.one⟩
theorem D5.nil (G : IM) (sz : Nat) : D5 G none 0 0 sz [] := ⟨Sl.nil G sz, rfl, by simp, by simp⟩

theorem A7t {sz : Nat} : ∀ {es : List (List Value)}, (∀ e ∈ es, e.length = sz) → ∀ {i : Nat} {e : List Value}, es[i]? = some e → ∀ j v, e[j]? = some v → es.flatten[i * sz + j]? = some v
 | [], _, i, e, h, _, _, _ => by simp at h
 | a :: r, hall, 0, e, h, j, v, hv => by
  simp at h; subst h
  have : j < a.length := (List.getElem?_eq_some_iff.1 hv).1
  simp [List.getElem?_append, this]
  simpa [List.getElem?_eq_getElem this] using hv
 | a :: r, hall, i + 1, e, h, j, v, hv => by
  have ih := A7t (es := r) (fun x hx => hall x (List.mem_cons_of_mem _ hx)) (i := i) (e := e) (by simpa using h) j v hv
  have ha := hall a List.mem_cons_self
  rw [List.flatten_cons, List.getElem?_append, if_neg (by rw [ha, Nat.succ_mul]; omega)]
  rw [show (i + 1) * sz + j - a.length = i * sz + j by rw [ha, Nat.succ_mul]; omega]
  exact ih

theorem D5.at {G : IM} {p : Option Addr} {n c sz : Nat} {es : List (List Value)} (h : D5 G p n c sz es) {i : Nat} {e : List Value} (hi : es[i]? = some e) :
  ∃ b o, p = some ⟨b, o, none⟩ ∧ ∀ hp, At hp G b (o + i * sz) e := by
 have hlt : i < es.length := (List.getElem?_eq_some_iff.1 hi).1
 obtain ⟨_, _, _, h4⟩ := h.sl
 have hn := h.len
 rcases h4 with h0 | ⟨b, o, full, hp, hg, hf⟩
 ·omega
 ·refine ⟨b, o, hp, fun hp => A4b hg fun j v hv => ?_⟩
  rw [Nat.add_assoc]
  exact hf _ v (A7t h.all hi j v hv)

theorem D5.get {G : IM} {p : Option Addr} {n c sz : Nat} {es : List (List Value)} (h : D5 G p n c sz es) {i : Nat} (hi : i < n) :
  ∃ e b o, es[i]? = some e ∧ p = some ⟨b, o, none⟩ ∧ e.length = sz ∧ e.all (·.oneCell') = true ∧ (∀ hp, At hp G b (o + i * sz) e) ∧ G b ≠ none := by
 have hlt : i < es.length := by rw [h.len]; exact hi
 have he : es[i]? = some es[i] := List.getElem?_eq_getElem hlt
 obtain ⟨b, o, h1, h2⟩ := h.at he
 refine ⟨es[i], b, o, he, h1, h.all _ (List.getElem_mem hlt), h.one _ (List.getElem_mem hlt), h2, ?_⟩
 obtain ⟨_, _, _, h4⟩ := h.sl
 rcases h4 with h0 | ⟨b', o', full, hp, hg, hf⟩
 ·omega
 ·rw [h1] at hp; cases hp; rw [hg]; simp
theorem D5.le {G : IM} {p : Option Addr} {n c sz : Nat} {es : List (List Value)} (h : D5 G p n c sz es) : n ≤ 9223372036854775807 := by
 have h1 := h.sl.2.1; have h2 := h.sl.2.2.1; unfold maxLen at h2; omega

theorem D5.of {G : IM} {p : Option Addr} {n c sz : Nat} {es : List (List Value)} (h : Sl G p n c sz es.flatten) (hl : es.length = n) (ha : ∀ e ∈ es, e.length = sz) (ho : ∀ e ∈ es, e.all (·.oneCell') = true) : D5 G p n c sz es := ⟨h, hl, ha, ho⟩

def E8 (n : Int) : Prop := -9223372036854775808 ≤ n ∧ n ≤ 9223372036854775807

inductive Ty where
 | mk (k : Int) (ks : List Ty)

def Ty.k : Ty → Int | .mk k _ => k
def Ty.ks : Ty → List Ty | .mk _ ks => ks

inductive Tm where
 | mk (k : Int) (nm : ByteArray) (num : Int) (ty fr : Ty) (lb : Int) (ks : List Tm)

def Tm.k : Tm → Int | .mk k _ _ _ _ _ _ => k
def Tm.nm : Tm → ByteArray | .mk _ n _ _ _ _ _ => n
def Tm.num : Tm → Int | .mk _ _ n _ _ _ _ => n
def Tm.ty : Tm → Ty | .mk _ _ _ t _ _ _ => t
def Tm.fr : Tm → Ty | .mk _ _ _ _ f _ _ => f
def Tm.lb : Tm → Int | .mk _ _ _ _ _ l _ => l
def Tm.ks : Tm → List Tm | .mk _ _ _ _ _ _ ks => ks

mutual
def Ty.small : Ty → Prop
 | .mk _ ks => ks.length ≤ 4294967296 ∧ Ty.smallL ks
def Ty.smallL : List Ty → Prop
 | [] => True
 | t :: ts => t.small ∧ Ty.smallL ts
end
mutual
def Tm.small : Tm → Prop
 | .mk _ nm _ ty fr _ ks => nm.size ≤ 4294967296 ∧ ty.small ∧ fr.small ∧ ks.length ≤ 4294967296 ∧ Tm.smallL ks
def Tm.smallL : List Tm → Prop
 | [] => True
 | t :: ts => t.small ∧ Tm.smallL ts
end
theorem Ty.smallL_mem : ∀ {ts : List Ty}, Ty.smallL ts → ∀ t ∈ ts, t.small
 | [], _, t, h => by simp at h
 | t' :: ts, h, t, ht => by
  simp only [Ty.smallL] at h
  rcases List.mem_cons.1 ht with rfl | ht
  ·exact h.1
  ·exact Ty.smallL_mem h.2 t ht
theorem Tm.smallL_mem : ∀ {ts : List Tm}, Tm.smallL ts → ∀ t ∈ ts, t.small
 | [], _, t, h => by simp at h
 | t' :: ts, h, t, ht => by
  simp only [Tm.smallL] at h
  rcases List.mem_cons.1 ht with rfl | ht
  ·exact h.1
  ·exact Tm.smallL_mem h.2 t ht

mutual
def B9 (G : IM) : Ty → List Value → Prop
 | .mk k ks, cells => ∃ p c es, cells = [.int .i64 k, .slice p ks.length c] ∧ E8 k ∧ D5 G p ks.length c 2 es ∧ D2 G ks es
def D2 (G : IM) : List Ty → List (List Value) → Prop
 | [], es => es = []
 | t :: ts, es => ∃ a r, es = a :: r ∧ B9 G t a ∧ D2 G ts r
end

mutual
def B0 (G : IM) : Tm → List Value → Prop
 | .mk k nm num ty fr lb ks, cells => ∃ tc fc p c es, cells = [.int .i64 k, .string nm, .int .i64 num] ++ tc ++ fc ++ [.int .i64 lb, .slice p ks.length c] ∧ E8 k ∧ E8 num ∧ E8 lb ∧ B9 G ty tc ∧ B9 G fr fc ∧ D5 G p ks.length c 9 es ∧ D0 G ks es
def D0 (G : IM) : List Tm → List (List Value) → Prop
 | [], es => es = []
 | t :: ts, es => ∃ a r, es = a :: r ∧ B0 G t a ∧ D0 G ts r
end

mutual
theorem B9.mono {G G' : IM} (hg : C0 G G') : ∀ {t : Ty} {cells : List Value}, B9 G t cells → B9 G' t cells
 | .mk k ks, cells, h => by
  simp only [B9] at h ⊢
  obtain ⟨p, c, es, h1, h2, h3, h4⟩ := h
  exact ⟨p, c, es, h1, h2, h3.mono hg, D2.mono hg h4⟩
theorem D2.mono {G G' : IM} (hg : C0 G G') : ∀ {ts : List Ty} {es : List (List Value)}, D2 G ts es → D2 G' ts es
 | [], es, h => by simpa only [D2] using h
 | t :: ts, es, h => by
  simp only [D2] at h ⊢
  obtain ⟨a, r, h1, h2, h3⟩ := h
  exact ⟨a, r, h1, B9.mono hg h2, D2.mono hg h3⟩
end
mutual
theorem B0.mono {G G' : IM} (hg : C0 G G') : ∀ {t : Tm} {cells : List Value}, B0 G t cells → B0 G' t cells
 | .mk k nm num ty fr lb ks, cells, h => by
  simp only [B0] at h ⊢
  obtain ⟨tc, fc, p, c, es, h1, h2, h3, h4, h5, h6, h7, h8⟩ := h
  exact ⟨tc, fc, p, c, es, h1, h2, h3, h4, h5.mono hg, h6.mono hg, h7.mono hg, D0.mono hg h8⟩
theorem D0.mono {G G' : IM} (hg : C0 G G') : ∀ {ts : List Tm} {es : List (List Value)}, D0 G ts es → D0 G' ts es
 | [], es, h => by simpa only [D0] using h
 | t :: ts, es, h => by
  simp only [D0] at h ⊢
  obtain ⟨a, r, h1, h2, h3⟩ := h
  exact ⟨a, r, h1, B0.mono hg h2, D0.mono hg h3⟩
end

theorem B9.open {G : IM} {t : Ty} {cells : List Value} (h : B9 G t cells) : ∃ p c es, cells = [.int .i64 t.k, .slice p t.ks.length c] ∧ E8 t.k ∧ D5 G p t.ks.length c 2 es ∧ D2 G t.ks es := by
 cases t; simpa only [B9, Ty.k, Ty.ks] using h
theorem B0.open {G : IM} {t : Tm} {cells : List Value} (h : B0 G t cells) : ∃ pt ct et pf cf ef p c es,
  cells = [.int .i64 t.k, .string t.nm, .int .i64 t.num, .int .i64 t.ty.k, .slice pt t.ty.ks.length ct, .int .i64 t.fr.k, .slice pf t.fr.ks.length cf, .int .i64 t.lb, .slice p t.ks.length c] ∧
  E8 t.k ∧ E8 t.num ∧ E8 t.lb ∧ (E8 t.ty.k ∧ D5 G pt t.ty.ks.length ct 2 et ∧ D2 G t.ty.ks et) ∧ (E8 t.fr.k ∧ D5 G pf t.fr.ks.length cf 2 ef ∧ D2 G t.fr.ks ef) ∧ D5 G p t.ks.length c 9 es ∧ D0 G t.ks es := by
 obtain ⟨k, nm, num, ty, fr, lb, ks⟩ := t
 simp only [B0] at h
 obtain ⟨tc, fc, p, c, es, h1, h2, h3, h4, h5, h6, h7, h8⟩ := h
 obtain ⟨pt, ct, et, rfl, t1, t2, t3⟩ := h5.open
 obtain ⟨pf, cf, ef, rfl, f1, f2, f3⟩ := h6.open
 exact ⟨pt, ct, et, pf, cf, ef, p, c, es, h1, h2, h3, h4, ⟨t1, t2, t3⟩, ⟨f1, f2, f3⟩, h7, h8⟩
theorem B0.open9 {G : IM} {k : Int} {nm : ByteArray} {num : Int} {tk : Int} {tks : List Ty} {fk : Int} {fks : List Ty} {lb : Int} {ks : List Tm} {cells : List Value} (h : B0 G (.mk k nm num (.mk tk tks) (.mk fk fks) lb ks) cells) :
  ∃ pt ct pf cf p c es, cells = [.int .i64 k, .string nm, .int .i64 num, .int .i64 tk, .slice pt tks.length ct, .int .i64 fk, .slice pf fks.length cf, .int .i64 lb, .slice p ks.length c] ∧
  E8 k ∧ E8 num ∧ E8 lb ∧ B9 G (.mk tk tks) [.int .i64 tk, .slice pt tks.length ct] ∧ B9 G (.mk fk fks) [.int .i64 fk, .slice pf fks.length cf] ∧ D5 G p ks.length c 9 es ∧ D0 G ks es := by
 obtain ⟨pt, ct, et, pf, cf, ef, p, c, es, h1, h2, h3, h4, ⟨t1, t2, t3⟩, ⟨f1, f2, f3⟩, h7, h8⟩ := h.open
 simp only [Tm.k, Tm.nm, Tm.num, Tm.ty, Tm.fr, Tm.lb, Tm.ks, Ty.k, Ty.ks] at h1 h2 h3 h4 t1 t2 t3 f1 f2 f3 h7 h8
 exact ⟨pt, ct, pf, cf, p, c, es, h1, h2, h3, h4, by simp only [B9]; exact ⟨_, _, et, rfl, t1, t2, t3⟩, by simp only [B9]; exact ⟨_, _, ef, rfl, f1, f2, f3⟩, h7, h8⟩
theorem B9.len {G : IM} {t : Ty} {cells : List Value} (h : B9 G t cells) : cells.length = 2 := by
 obtain ⟨_, _, _, rfl, _⟩ := h.open; rfl
theorem B0.len {G : IM} {t : Tm} {cells : List Value} (h : B0 G t cells) : cells.length = 9 := by
 obtain ⟨_, _, _, _, _, _, _, _, _, rfl, _⟩ := h.open; rfl

theorem D2.len {G : IM} : ∀ {ts : List Ty} {es : List (List Value)}, D2 G ts es → es.length = ts.length
 | [], es, h => by simp only [D2] at h; subst h; rfl
 | t :: ts, es, h => by
  simp only [D2] at h
  obtain ⟨a, r, rfl, _, h3⟩ := h
  simp [h3.len]
theorem D0.len {G : IM} : ∀ {ts : List Tm} {es : List (List Value)}, D0 G ts es → es.length = ts.length
 | [], es, h => by simp only [D0] at h; subst h; rfl
 | t :: ts, es, h => by
  simp only [D0] at h
  obtain ⟨a, r, rfl, _, h3⟩ := h
  simp [h3.len]
theorem D2.get {G : IM} : ∀ {ts : List Ty} {es : List (List Value)}, D2 G ts es → ∀ {i : Nat} {t : Ty}, ts[i]? = some t → ∃ e, es[i]? = some e ∧ B9 G t e
 | [], es, h, i, t, hi => by simp at hi
 | t' :: ts, es, h, i, t, hi => by
  simp only [D2] at h
  obtain ⟨a, r, rfl, h2, h3⟩ := h
  cases i with
  | zero => simp at hi; subst hi; exact ⟨a, rfl, h2⟩
  | succ i => obtain ⟨e, he, hr⟩ := h3.get (i := i) (by simpa using hi); exact ⟨e, by simpa using he, hr⟩
theorem D0.get {G : IM} : ∀ {ts : List Tm} {es : List (List Value)}, D0 G ts es → ∀ {i : Nat} {t : Tm}, ts[i]? = some t → ∃ e, es[i]? = some e ∧ B0 G t e
 | [], es, h, i, t, hi => by simp at hi
 | t' :: ts, es, h, i, t, hi => by
  simp only [D0] at h
  obtain ⟨a, r, rfl, h2, h3⟩ := h
  cases i with
  | zero => simp at hi; subst hi; exact ⟨a, rfl, h2⟩
  | succ i => obtain ⟨e, he, hr⟩ := h3.get (i := i) (by simpa using hi); exact ⟨e, by simpa using he, hr⟩
theorem D2.all {G : IM} {ts : List Ty} {es : List (List Value)} (h : D2 G ts es) : ∀ e ∈ es, e.length = 2 := by
 intro e he
 obtain ⟨i, hi⟩ := List.getElem?_of_mem he
 have hlt : i < ts.length := by have := (List.getElem?_eq_some_iff.1 hi).1; rw [h.len] at this; exact this
 obtain ⟨e', he', hr⟩ := h.get (i := i) (t := ts[i]) (by simp [hlt])
 rw [hi] at he'; cases he'; exact hr.len
theorem D0.all {G : IM} {ts : List Tm} {es : List (List Value)} (h : D0 G ts es) : ∀ e ∈ es, e.length = 9 := by
 intro e he
 obtain ⟨i, hi⟩ := List.getElem?_of_mem he
 have hlt : i < ts.length := by have := (List.getElem?_eq_some_iff.1 hi).1; rw [h.len] at this; exact this
 obtain ⟨e', he', hr⟩ := h.get (i := i) (t := ts[i]) (by simp [hlt])
 rw [hi] at he'; cases he'; exact hr.len

theorem B9.one {G : IM} {t : Ty} {cells : List Value} (h : B9 G t cells) : cells.all (·.oneCell') = true := by
 obtain ⟨_, _, _, rfl, _⟩ := h.open; rfl
theorem B0.one {G : IM} {t : Tm} {cells : List Value} (h : B0 G t cells) : cells.all (·.oneCell') = true := by
 obtain ⟨_, _, _, _, _, _, _, _, _, rfl, _⟩ := h.open; rfl

theorem Ty.ind {C : Ty → Prop} (h : ∀ k ks, (∀ t ∈ ks, C t) → C (.mk k ks)) : ∀ t, C t
 | .mk k ks => h k ks fun t ht => Ty.ind h t
termination_by t => SizeOf.sizeOf t
decreasing_by
 have := List.sizeOf_lt_of_mem ht
 simp only [Ty.mk.sizeOf_spec]; omega
theorem Tm.ind {C : Tm → Prop} (h : ∀ k nm num ty fr lb ks, (∀ t ∈ ks, C t) → C (.mk k nm num ty fr lb ks)) : ∀ t, C t
 | .mk k nm num ty fr lb ks => h k nm num ty fr lb ks fun t ht => Tm.ind h t
termination_by t => SizeOf.sizeOf t
decreasing_by
 have := List.sizeOf_lt_of_mem ht
 simp only [Tm.mk.sizeOf_spec]; omega

def C5 (G' G : IM) : IM := fun b => match G b with | none => G' b | some _ => none
theorem C5.le (G' G : IM) : C0 (C5 G' G) G' := by
 intro b l h
 unfold C5 at h
 split at h
 ·exact h
 ·cases h
theorem C5.mono {G' G'' G : IM} (h : C0 G' G'') : C0 (C5 G' G) (C5 G'' G) := by
 intro b l hb
 unfold C5 at hb ⊢
 split at hb
 ·exact h b l hb
 ·cases hb
theorem C5.anti {G' G G0 : IM} (h : C0 G0 G) : C0 (C5 G' G) (C5 G' G0) := by
 intro b l hb
 unfold C5 at hb ⊢
 split at hb
 ·rename_i h0
  cases h1 : G0 b with
  | none => exact hb
  | some l' => rw [h b l' h1] at h0; cases h0
 ·cases hb
theorem C5.out {G' G : IM} {b : Nat} (h : C5 G' G b ≠ none) : G b = none := by
 unfold C5 at h
 split at h
 ·assumption
 ·exact absurd rfl h
theorem Sl.dif {G' G G0 : IM} {p : Option Addr} {n c sz : Nat} {cs : List Value} (h : Sl G' p n c sz cs) (hp : ∀ b ∈ I2 p, G b = none) (hle : C0 G0 G) : Sl (C5 G' G0) p n c sz cs := by
 obtain ⟨h1, h2, h3, h4⟩ := h
 refine ⟨h1, h2, h3, h4.imp id ?_⟩
 rintro ⟨b, o, full, rfl, e2, e3⟩
 refine ⟨b, o, full, rfl, ?_, e3⟩
 have hb := hp b (by simp [I2])
 have h0 : G0 b = none := by
  cases h1 : G0 b with
  | none => rfl
  | some l => rw [hle b l h1] at hb; cases hb
 simp [C5, h0, e2]

mutual
def Q3 (G : IM) : Ty → List Value → List Nat → Prop
 | .mk k ks, cells, F => ∃ p c es Fs, cells = [.int .i64 k, .slice p ks.length c] ∧ E8 k ∧ D5 G p ks.length c 2 es ∧ N4 G ks es Fs ∧ F = I2 p ++ Fs ∧ (∀ b ∈ I2 p, G b ≠ none)
def N4 (G : IM) : List Ty → List (List Value) → List Nat → Prop
 | [], es, F => es = [] ∧ F = []
 | t :: ts, es, F => ∃ a r Fa Fr, es = a :: r ∧ Q3 G t a Fa ∧ N4 G ts r Fr ∧ F = Fa ++ Fr
end
mutual
theorem Q3.R {G : IM} : ∀ {t : Ty} {cells : List Value} {F : List Nat}, Q3 G t cells F → B9 G t cells
 | .mk k ks, cells, F, h => by
  simp only [Q3] at h
  obtain ⟨p, c, es, Fs, h1, h2, h3, h4, _⟩ := h
  simp only [B9]
  exact ⟨p, c, es, h1, h2, h3, N4.R h4⟩
theorem N4.R {G : IM} : ∀ {ts : List Ty} {es : List (List Value)} {F : List Nat}, N4 G ts es F → D2 G ts es
 | [], es, F, h => by simp only [N4] at h; simp only [D2]; exact h.1
 | t :: ts, es, F, h => by
  simp only [N4] at h
  obtain ⟨a, r, Fa, Fr, h1, h2, h3, _⟩ := h
  simp only [D2]
  exact ⟨a, r, h1, Q3.R h2, N4.R h3⟩
end
mutual
theorem Q3.mono {G G' : IM} (hg : C0 G G') : ∀ {t : Ty} {cells : List Value} {F : List Nat}, Q3 G t cells F → Q3 G' t cells F
 | .mk k ks, cells, F, h => by
  simp only [Q3] at h ⊢
  obtain ⟨p, c, es, Fs, h1, h2, h3, h4, h5, h6⟩ := h
  exact ⟨p, c, es, Fs, h1, h2, h3.mono hg, N4.mono hg h4, h5, fun b hb => by cases hgb : G b with | none => exact absurd hgb (h6 b hb) | some l => rw [hg b l hgb]; simp⟩
theorem N4.mono {G G' : IM} (hg : C0 G G') : ∀ {ts : List Ty} {es : List (List Value)} {F : List Nat}, N4 G ts es F → N4 G' ts es F
 | [], es, F, h => by simpa only [N4] using h
 | t :: ts, es, F, h => by
  simp only [N4] at h ⊢
  obtain ⟨a, r, Fa, Fr, h1, h2, h3, h4⟩ := h
  exact ⟨a, r, Fa, Fr, h1, Q3.mono hg h2, N4.mono hg h3, h4⟩
end
mutual
theorem Q3.inG {G : IM} : ∀ {t : Ty} {cells : List Value} {F : List Nat}, Q3 G t cells F → ∀ b ∈ F, G b ≠ none
 | .mk k ks, cells, F, h => by
  simp only [Q3] at h
  obtain ⟨p, c, es, Fs, h1, h2, h3, h4, rfl, h6⟩ := h
  intro b hb
  rcases List.mem_append.1 hb with hb | hb
  ·exact h6 b hb
  ·exact N4.inG h4 b hb
theorem N4.inG {G : IM} : ∀ {ts : List Ty} {es : List (List Value)} {F : List Nat}, N4 G ts es F → ∀ b ∈ F, G b ≠ none
 | [], es, F, h => by simp only [N4] at h; rw [h.2]; simp
 | t :: ts, es, F, h => by
  simp only [N4] at h
  obtain ⟨a, r, Fa, Fr, h1, h2, h3, rfl⟩ := h
  intro b hb
  rcases List.mem_append.1 hb with hb | hb
  ·exact Q3.inG h2 b hb
  ·exact N4.inG h3 b hb
end
theorem N4.snoc {G : IM} : ∀ {ts : List Ty} {es : List (List Value)} {F : List Nat} {t : Ty} {a : List Value} {Fa : List Nat}, N4 G ts es F → Q3 G t a Fa → N4 G (ts ++ [t]) (es ++ [a]) (F ++ Fa)
 | [], es, F, t, a, Fa, h, h2 => by
  simp only [N4] at h
  obtain ⟨rfl, rfl⟩ := h
  simp only [List.nil_append, N4]
  exact ⟨a, [], Fa, [], rfl, h2, ⟨rfl, rfl⟩, by simp⟩
 | t' :: ts, es, F, t, a, Fa, h, h2 => by
  simp only [N4] at h
  obtain ⟨a', r, Fa', Fr, rfl, h3, h4, rfl⟩ := h
  simp only [List.cons_append, N4]
  exact ⟨a', r ++ [a], Fa', Fr ++ Fa, rfl, h3, N4.snoc h4 h2, by simp⟩

theorem D5.kidTy {G : IM} {p : Option Addr} {n c : Nat} {es : List (List Value)} {ks : List Ty} (h : D5 G p n c 2 es) (hk : D2 G ks es) {i : Nat} (hi : i < n) (hn : i < ks.length) :
  ∃ b o p2 c2, p = some ⟨b, o, none⟩ ∧ (∀ hp, At hp G b (o + i * 2) [.int .i64 ks[i].k, .slice p2 ks[i].ks.length c2]) ∧ B9 G ks[i] [.int .i64 ks[i].k, .slice p2 ks[i].ks.length c2] ∧ G b ≠ none := by
 obtain ⟨e, b, o, he, h1, h2, h3, h4, h5⟩ := h.get hi
 obtain ⟨e', he', hr⟩ := hk.get (i := i) (t := ks[i]) (by simp [hn])
 rw [he] at he'; cases he'
 obtain ⟨p2, c2, _, rfl, _⟩ := hr.open
 exact ⟨b, o, p2, c2, h1, h4, hr, h5⟩

theorem N4.step {G Gi G1 : IM} {ks : List Ty} {i : Nat} {es : List (List Value)} {F F' : List Nat} {a : List Value} (h : N4 (C5 Gi G) (ks.take i) es F) (hn : F.Nodup) (hle : C0 G Gi) (hle1 : C0 Gi G1) (hi : i < ks.length)
  (ha : Q3 (C5 G1 Gi) ks[i] a F') (hn' : F'.Nodup) : N4 (C5 G1 G) (ks.take (i + 1)) (es ++ [a]) (F ++ F') ∧ (F ++ F').Nodup := by
 constructor
 ·rw [List.take_succ_eq_append_getElem hi]
  exact N4.snoc (h.mono (C5.mono hle1)) (ha.mono (C5.anti hle))
 ·rw [List.nodup_append]
  refine ⟨hn, hn', ?_⟩
  rintro x hx y hy rfl
  have h1 := h.inG x hx
  have h2 := C5.out (ha.inG x hy)
  apply h1
  cases hd : C5 Gi G x with
  | none => rfl
  | some l => rw [C5.le _ _ x l hd] at h2; cases h2
theorem Q3.fin {G Gi G2 : IM} {k : Int} {ks : List Ty} {es : List (List Value)} {F : List Nat} {p : Option Addr} {c : Nat} (h : N4 (C5 Gi G) ks es F) (hn : F.Nodup) (hle : C0 G Gi) (hle2 : C0 Gi G2)
  (hsl : Sl G2 p ks.length c 2 es.flatten) (hnn : ∀ b ∈ I2 p, Gi b = none ∧ G2 b ≠ none) (hk : E8 k) :
  ∃ F', Q3 (C5 G2 G) (.mk k ks) [.int .i64 k, .slice p ks.length c] F' ∧ F'.Nodup := by
 have hno := fun b hb => (hnn b hb).1
 have hin := fun b hb => (hnn b hb).2
 have hR := h.R
 refine ⟨I2 p ++ F, ?_, ?_⟩
 ·simp only [Q3]
  refine ⟨p, c, es, F, rfl, hk, D5.of (hsl.dif hno hle) hR.len hR.all ?_, h.mono (C5.mono hle2), rfl, ?_⟩
  ·intro e he
   obtain ⟨i, hi⟩ := List.getElem?_of_mem he
   have hlt : i < ks.length := by have := (List.getElem?_eq_some_iff.1 hi).1; rw [hR.len] at this; exact this
   obtain ⟨e', he', hr⟩ := hR.get (i := i) (t := ks[i]) (by simp [hlt])
   rw [hi] at he'; cases he'; exact hr.one
  ·intro b hb
   have h0 := hno b hb
   cases hg : G b with
   | none => simpa [C5, hg] using hin b hb
   | some l => rw [hle b l hg] at h0; cases h0
 ·rw [List.nodup_append]
  refine ⟨by cases p <;> simp [I2], hn, ?_⟩
  rintro x hx y hy rfl
  have h1 := h.inG x hy
  have h2 := hno x hx
  apply h1
  cases hd : C5 Gi G x with
  | none => rfl
  | some l => rw [C5.le _ _ x l hd] at h2; cases h2

def A0s (q : Nat → Bool) (n : Nat) : Int := match (List.range n).find? q with | some i => i | none => -1
theorem A5o {q : Nat → Bool} {n : Nat} (h : ∀ j, j < n → q j = false) : A0s q n = -1 := by
 have : (List.range n).find? q = none := by
  rw [List.find?_eq_none]
  intro x hx
  rw [h x (List.mem_range.1 hx)]; simp
 simp [A0s, this]
theorem A7u {q : Nat → Bool} {n i : Nat} (hi : i < n) (h : ∀ j, j < i → q j = false) (hq : q i = true) : A0s q n = i := by
 have : (List.range n).find? q = some i := by
  rw [List.find?_eq_some_iff_append]
  refine ⟨hq, List.range i, (List.range n).drop (i + 1), ?_, ?_⟩
  ·apply List.ext_getElem?
   intro k
   simp only [List.getElem?_append, List.length_range, List.getElem?_range', List.getElem?_cons, List.getElem?_drop]
   by_cases h1 : k < i
   ·simp [h1, show k < n by omega]
   ·by_cases h2 : k = i
    ·subst h2; simp [hi]
    ·have h3 : k - i ≠ 0 := by omega
     simp only [h1, if_false, h3]
     rw [show i + 1 + (k - i - 1) = k by omega]
  ·intro a ha
   simp [h a (List.mem_range.1 ha)]
 simp [A0s, this]

def P1 (n lo hi : Int) : Bool := decide (lo ≤ n ∧ n ≤ hi)
theorem A3o {n lo hi : Int} (h : P1 n lo hi = true) : lo ≤ n ∧ n ≤ hi := by simpa [P1] using h
theorem A7v {n lo hi : Int} (h : P1 n lo hi = false) : ¬(lo ≤ n ∧ n ≤ hi) := by simpa [P1] using h
def T2 (k : Int) : Int := if k = 1 ∨ k = 2 ∨ k = 3 then 0 else if k = 4 ∨ k = 5 then 2 else -1
theorem A06 (k : Int) : (k = 1 ∨ k = 2 ∨ k = 3 → T2 k = 0) ∧ (k = 4 ∨ k = 5 → T2 k = 2) ∧ (k ≠ 1 → k ≠ 2 → k ≠ 3 → k ≠ 4 → k ≠ 5 → T2 k = -1) := by
 unfold T2; split <;> try split
 all_goals omega
def D9 (k : Int) : Int := if k = 1 ∨ k = 2 ∨ k = 3 ∨ k = 4 then 0 else if k = 5 ∨ k = 11 ∨ k = 12 ∨ k = 13 ∨ k = 14 then 1 else if k = 6 ∨ k = 7 ∨ k = 8 ∨ k = 10 then 2 else if k = 9 then 3 else -1

mutual
def P2 : Ty → Int → Bool
 | .mk k ks, d => decide (d ≤ 4) && decide (T2 k = ks.length) && U1 ks (d + 1)
def U1 : List Ty → Int → Bool
 | [], _ => true
 | t :: ts, d => P2 t d && U1 ts d
end
theorem A4j : ∀ (ts : List Ty) (d : Int), U1 ts d = true ↔ ∀ i, (h : i < ts.length) → P2 ts[i] d = true
 | [], d => by simp [U1]
 | t :: ts, d => by
  simp only [U1, Bool.and_eq_true, A4j ts d]
  constructor
  ·rintro ⟨h1, h2⟩ i hi
   cases i with
   | zero => exact h1
   | succ i => exact h2 i (by simpa using hi)
  ·intro h
   exact ⟨h 0 (by simp), fun i hi => h (i + 1) (by simpa using hi)⟩
def E9 (t : Ty) : Bool := P2 t 1
def A0t (t : Ty) : Bool := decide (t.k = 0 ∧ t.ks.length = 0)

mutual
def K1 : Ty → Ty → Bool
 | .mk k ks, t => decide (k = 1) || decide (t.k = 1) || (decide (k = t.k) && P4 ks t.ks)
def P4 : List Ty → List Ty → Bool
 | [], [] => true
 | a :: xs, b :: ys => K1 a b && P4 xs ys
 | _, _ => false
end
theorem Y4 (k k' : Int) (ks ks' : List Ty) : K1 (.mk k ks) (.mk k' ks') = (decide (k = 1) || decide (k' = 1) || (decide (k = k') && P4 ks ks')) := by rw [K1]; rfl
theorem A17 : ∀ (xs ys : List Ty), P4 xs ys = true ↔ xs.length = ys.length ∧ ∀ i, (h : i < xs.length) → (h' : i < ys.length) → K1 xs[i] ys[i] = true
 | [], [] => by simp [P4]
 | [], b :: ys => by simp [P4]
 | a :: xs, [] => by simp [P4]
 | a :: xs, b :: ys => by
  simp only [P4, Bool.and_eq_true, A17 xs ys, List.length_cons]
  constructor
  ·rintro ⟨h1, h2, h3⟩
   refine ⟨by omega, fun i hi hi' => ?_⟩
   cases i with
   | zero => exact h1
   | succ i => exact h3 i (by simpa using hi) (by simpa using hi')
  ·rintro ⟨h1, h2⟩
   exact ⟨h2 0 (by simp) (by simp), by omega, fun i hi hi' => h2 (i + 1) (by simpa using hi) (by simpa using hi')⟩
def A1J (a b : Ty) : Bool := E9 a && E9 b && K1 a b
def A0P (s : ByteArray) : Bool := decide (s.size = 1 ∧ 97 ≤ (s.data.getD 0 0).toNat ∧ (s.data.getD 0 0).toNat ≤ 122)
def A0Q (n : Int) : Bool := P1 n 1 99 || P1 n (-99) (-1)

theorem A4k {s : ByteArray} {j : Int} (h : j.toNat < s.size) : s[j.toNat]? = some (s.data.getD j.toNat 0) := by
 rw [getElem?_pos s j.toNat h]
 show some (s.data[j.toNat]'h) = _
 rw [Array.getD_eq_getD_getElem?, getElem?_pos s.data j.toNat h]
 rfl
theorem B1L {q : Nat → Bool} {n : Nat} : A0s q n < 0 ↔ ∀ j, j < n → q j = false := by
 constructor
 ·intro h j hj
  unfold A0s at h
  split at h
  ·omega
  ·rename_i hf
   have := List.find?_eq_none.1 hf j (List.mem_range.2 hj)
   simpa using this
 ·intro h; rw [A5o h]; omega
theorem A7w {q : Nat → Bool} {n : Nat} : 0 ≤ A0s q n ↔ ∃ j, j < n ∧ q j = true := by
 have h := @B1L q n
 constructor
 ·intro h0
  apply Classical.byContradiction
  intro hn
  have : A0s q n < 0 := h.2 fun j hj => by cases hq : q j with | false => rfl | true => exact absurd ⟨j, hj, hq⟩ hn
  omega
 ·rintro ⟨j, hj, hq⟩
  apply Classical.byContradiction
  intro hn
  rw [h.1 (by omega) j hj] at hq
  exact absurd hq (by simp)
theorem A7x {α : Type} (f : α → Bool) (ks : List α) (a : α) : decide (0 ≤ A0s (fun i => !f (ks.getD i a)) ks.length) = !ks.all f := by
 cases h : ks.all f with
 | true =>
  rw [List.all_eq_true] at h
  apply decide_eq_false
  rw [A7w]
  rintro ⟨j, hj, hq⟩
  rw [List.getD_eq_getElem?_getD, List.getElem?_eq_getElem hj, Option.getD_some, h _ (List.getElem_mem hj)] at hq
  exact absurd hq (by simp)
 | false =>
  apply decide_eq_true
  rw [A7w]
  apply Classical.byContradiction
  intro hn
  have : ks.all f = true := by
   rw [List.all_eq_true]
   intro x hx
   obtain ⟨j, hj, rfl⟩ := List.getElem_of_mem hx
   cases hf : f ks[j] with
   | true => rfl
   | false => exact absurd ⟨j, hj, by rw [List.getD_eq_getElem?_getD, List.getElem?_eq_getElem hj, Option.getD_some, hf]; rfl⟩ hn
  rw [h] at this
  exact absurd this (by simp)
theorem A7y : ∀ (ks : List Ty) (d : Int), U1 ks d = ks.all (P2 · d)
 | [], d => rfl
 | t :: ts, d => by simp [U1, A7y ts d]
theorem D2.inv {G : IM} : ∀ {ts : List Ty} {es : List (List Value)}, D2 G ts es → ∀ {i : Nat} {e : List Value}, es[i]? = some e → ∀ a, ts.getD i a ∈ ts ∧ B9 G (ts.getD i a) e
 | [], es, h, i, e, he, a => by
  have := h.len
  simp only [List.length_nil, List.length_eq_zero_iff] at this
  subst this; simp at he
 | t :: ts, es, h, i, e, he, a => by
  have hi : i < es.length := by
   apply Classical.byContradiction; intro hn; rw [List.getElem?_eq_none (by omega)] at he; simp at he
  have hl := h.len
  obtain ⟨e', he', hr⟩ := h.get (i := i) (t := (t :: ts)[i]'(by omega)) (by rw [List.getElem?_eq_getElem])
  rw [he] at he'
  obtain rfl := Option.some.inj he'
  rw [List.getD_eq_getElem?_getD, List.getElem?_eq_getElem (by omega), Option.getD_some]
  exact ⟨List.getElem_mem _, hr⟩
theorem D0.inv {G : IM} : ∀ {ts : List Tm} {es : List (List Value)}, D0 G ts es → ∀ {i : Nat} {e : List Value}, es[i]? = some e → ∀ a, ts.getD i a ∈ ts ∧ B0 G (ts.getD i a) e
 | [], es, h, i, e, he, a => by
  have := h.len
  simp only [List.length_nil, List.length_eq_zero_iff] at this
  subst this; simp at he
 | t :: ts, es, h, i, e, he, a => by
  have hi : i < es.length := by
   apply Classical.byContradiction; intro hn; rw [List.getElem?_eq_none (by omega)] at he; simp at he
  have hl := h.len
  obtain ⟨e', he', hr⟩ := h.get (i := i) (t := (t :: ts)[i]'(by omega)) (by rw [List.getElem?_eq_getElem])
  rw [he] at he'
  obtain rfl := Option.some.inj he'
  rw [List.getD_eq_getElem?_getD, List.getElem?_eq_getElem (by omega), Option.getD_some]
  exact ⟨List.getElem_mem _, hr⟩
def B7 : Ty := .mk 0 []
theorem B1M {p : Prop} [Decidable p] {x y : Bool} : ((if p then x else y) = true) ↔ ((p → x = true) ∧ (¬p → y = true)) := by by_cases h : p <;> simp [h]
theorem B1N {k : Int} (h : 1 ≤ k ∧ k ≤ 14) : ([Value.int .i64 0, .int .i64 0, .int .i64 0, .int .i64 0, .int .i64 1, .int .i64 2, .int .i64 2, .int .i64 2, .int .i64 3, .int .i64 2, .int .i64 1, .int .i64 1, .int .i64 1, .int .i64 1])[(k - 1).toNat]? = some (.int .i64 (D9 k)) := by
 have : k = 1 ∨ k = 2 ∨ k = 3 ∨ k = 4 ∨ k = 5 ∨ k = 6 ∨ k = 7 ∨ k = 8 ∨ k = 9 ∨ k = 10 ∨ k = 11 ∨ k = 12 ∨ k = 13 ∨ k = 14 := by omega
 rcases this with rfl | rfl | rfl | rfl | rfl | rfl | rfl | rfl | rfl | rfl | rfl | rfl | rfl | rfl <;> rfl
theorem A5p {k : Int} (h : ¬(1 ≤ k ∧ k ≤ 14)) : D9 k = -1 := by
 unfold D9; repeat (split; omega)
 rfl
theorem B1O {cs : List Value} {o : Nat} {v : Value} (h : cs[o]? = some v) : ∀ j u, [v][j]? = some u → cs[o + j]? = some u := by
 intro j u hj
 cases j with
 | zero => simpa using hj ▸ h
 | succ j => simp at hj
def U2 (k : Int) (nm : ByteArray) (num : Int) (ty fr : Ty) (lb : Int) (n : Nat) : Bool :=
 decide (D9 k = n) && (if k = 1 ∨ k = 5 then A0P nm else decide (nm = ⟨#[]⟩)) && (if k = 2 then P1 num 0 999 else P1 num 0 0) &&
 (if k = 5 ∨ k = 13 ∨ k = 14 then E9 ty else A0t ty) && (if k = 14 then A1J fr ty && A0Q lb else A0t fr && decide (lb = 0))
theorem U3 {k : Int} {nm : ByteArray} {num : Int} {ty fr : Ty} {lb : Int} {n : Nat} : U2 k nm num ty fr lb n = true ↔
  D9 k = n ∧ (k = 1 ∨ k = 5 → A0P nm = true) ∧ (¬(k = 1 ∨ k = 5) → nm = ⟨#[]⟩) ∧ (k = 2 → P1 num 0 999 = true) ∧ (k ≠ 2 → P1 num 0 0 = true) ∧
  (k = 5 ∨ k = 13 ∨ k = 14 → E9 ty = true) ∧ (¬(k = 5 ∨ k = 13 ∨ k = 14) → A0t ty = true) ∧ (k = 14 → A1J fr ty = true ∧ A0Q lb = true) ∧ (k ≠ 14 → A0t fr = true ∧ lb = 0) := by
 simp only [U2, Bool.and_eq_true, B1M, decide_eq_true_eq, and_assoc, ne_eq]
mutual
def R4 (M D N : Int) : Tm → Int → Int → Bool × Int
 | .mk k nm num ty fr lb ks, deep, c => if c + 1 > M ∨ deep > D ∨ k = N ∨ U2 k nm num ty fr lb ks.length = false then (false, c + 1) else S7 M D N ks (deep + 1) (c + 1)
def S7 (M D N : Int) : List Tm → Int → Int → Bool × Int
 | [], _, c => (true, c)
 | t :: ts, deep, c => if (R4 M D N t deep c).1 = true then S7 M D N ts deep (R4 M D N t deep c).2 else (false, (R4 M D N t deep c).2)
end
mutual
theorem A5q (M D N : Int) : ∀ (t : Tm) (deep c : Int), 0 ≤ c → c ≤ M → c < (R4 M D N t deep c).2 ∧ (R4 M D N t deep c).2 ≤ M + 1 ∧ ((R4 M D N t deep c).1 = true → (R4 M D N t deep c).2 ≤ M)
 | .mk k nm num ty fr lb ks, deep, c, h0, h1 => by
  rw [R4]
  split
  ·simp; omega
  ·rename_i h
   have := A7z M D N ks (deep + 1) (c + 1) (by omega) (by omega)
   exact ⟨by omega, this.2⟩
theorem A7z (M D N : Int) : ∀ (ts : List Tm) (deep c : Int), 0 ≤ c → c ≤ M → c ≤ (S7 M D N ts deep c).2 ∧ (S7 M D N ts deep c).2 ≤ M + 1 ∧ ((S7 M D N ts deep c).1 = true → (S7 M D N ts deep c).2 ≤ M)
 | [], deep, c, h0, h1 => by rw [S7]; simp; omega
 | t :: ts, deep, c, h0, h1 => by
  have := A5q M D N t deep c h0 h1
  rw [S7]
  split
  ·rename_i h
   have h2 := A7z M D N ts deep (R4 M D N t deep c).2 (by omega) (this.2.2 h)
   exact ⟨by omega, h2.2⟩
  ·simp; omega
end
def M2 (t : Tm) : Bool := (R4 200 40 13 t 1 0).1
def S1 (t : Tm) : Bool := (R4 30 12 14 t 1 0).1
theorem D5.kidTm {G : IM} {p : Option Addr} {n c : Nat} {es : List (List Value)} {ks : List Tm} (h : D5 G p n c 9 es) (hk : D0 G ks es) {i : Nat} (hi : i < n) (hn : i < ks.length) :
  ∃ b o e, p = some ⟨b, o, none⟩ ∧ e.length = 9 ∧ (∀ hp, At hp G b (o + i * 9) e) ∧ B0 G ks[i] e ∧ G b ≠ none := by
 obtain ⟨e, b, o, he, hp, hl, _, hat, hg⟩ := h.get hi
 have := (hk.inv he (ks[i])).2
 rw [List.getD_eq_getElem?_getD, List.getElem?_eq_getElem hn, Option.getD_some] at this
 exact ⟨b, o, e, hp, hl, hat, this, hg⟩
theorem B1P {M D N : Int} {k : Int} {nm : ByteArray} {num : Int} {ty fr : Ty} {lb : Int} {ks : List Tm} {deep c : Int} (h : c + 1 > M ∨ deep > D ∨ k = N ∨ U2 k nm num ty fr lb ks.length = false) :
  R4 M D N (.mk k nm num ty fr lb ks) deep c = (false, c + 1) := by rw [R4, if_pos h]
theorem B1Q {M D N : Int} {k : Int} {nm : ByteArray} {num : Int} {ty fr : Ty} {lb : Int} {ks : List Tm} {deep c : Int} (h1 : ¬(c + 1 > M ∨ deep > D ∨ k = N)) (h2 : U2 k nm num ty fr lb ks.length = true) :
  R4 M D N (.mk k nm num ty fr lb ks) deep c = S7 M D N ks (deep + 1) (c + 1) := by
 rw [R4, if_neg]
 rw [h2]
 intro h
 apply h1
 rcases h with h | h | h | h
 ·exact .inl h
 ·exact .inr (.inl h)
 ·exact .inr (.inr h)
 ·cases h
theorem B1R {M D N : Int} {ks : List Tm} {i : Nat} {deep c : Int} (hi : i < ks.length) (h : (R4 M D N ks[i] deep c).1 = true) : S7 M D N (ks.drop i) deep c = S7 M D N (ks.drop (i + 1)) deep (R4 M D N ks[i] deep c).2 := by
 rw [List.drop_eq_getElem_cons hi, S7, if_pos h]
theorem B1S {M D N : Int} {ks : List Tm} {i : Nat} {deep c : Int} (hi : i < ks.length) (h : (R4 M D N ks[i] deep c).1 = false) : S7 M D N (ks.drop i) deep c = (false, (R4 M D N ks[i] deep c).2) := by
 rw [List.drop_eq_getElem_cons hi, S7, if_neg (by rw [h]; simp)]
theorem B1T {M D N : Int} {ks : List Tm} {i : Nat} {deep c : Int} (hi : i = ks.length) : S7 M D N (ks.drop i) deep c = (true, c) := by
 rw [hi, List.drop_length, S7]
section blk
variable {P : Program} {Γ : L6} {env : M0} {hp : List A5} {G : IM} {K : Po} {ops : Array Oper} {rest : List Oper}
end blk

theorem A5r : ∀ {A B C V : List Value} {o : Nat}, A.length = o → B.length = V.length → R3 (A ++ (B ++ C)) o V = some (A ++ (V ++ C))
 | [], B, C, V, o, h, hv => by
  simp at h; subst h
  simp only [List.nil_append]
  induction B generalizing V with
  | nil => cases V with
   | nil => cases C <;> rfl
   | cons v V => simp at hv
  | cons b B ih => cases V with
   | nil => simp at hv
   | cons v V =>
    simp only [List.cons_append, R3, ih (V := V) (by simpa using hv)]
 | a :: A, B, C, V, o, h, hv => by
  simp at h; subst h
  simp only [List.cons_append, R3, A5r (A := A) (B := B) (C := C) rfl hv]
theorem A0A {sz : Nat} : ∀ {es : List (List Value)}, (∀ e ∈ es, e.length = sz) → es.flatten.length = es.length * sz
 | [], _ => by simp
 | e :: es, h => by
  rw [List.flatten_cons, List.length_append, h e List.mem_cons_self, A0A (es := es) fun x hx => h x (List.mem_cons_of_mem _ hx), List.length_cons, Nat.succ_mul]; omega
def A7A (G : IM) (ks : List Ty) (p : Option Addr) (c : Nat) (F : List Nat) : Prop := ∃ es Fs, D5 G p ks.length c 2 es ∧ N4 G ks es Fs ∧ F = I2 p ++ Fs ∧ (∀ b ∈ I2 p, G b ≠ none)
theorem Q3.open {G : IM} {t : Ty} {cells : List Value} {F : List Nat} (h : Q3 G t cells F) : ∃ p c, cells = [.int .i64 t.k, .slice p t.ks.length c] ∧ E8 t.k ∧ A7A G t.ks p c F := by
 cases t
 simp only [Q3] at h
 obtain ⟨p, c, es, Fs, h0, hk, h1, h2, h3, h4⟩ := h
 exact ⟨p, c, h0, hk, es, Fs, h1, h2, h3, h4⟩
mutual
def P8 (G : IM) : Tm → List Value → List Nat → Prop
 | .mk k nm num ty fr lb ks, cells, F => ∃ tc fc p c es Ft Ff Fs, cells = [.int .i64 k, .string nm, .int .i64 num] ++ tc ++ fc ++ [.int .i64 lb, .slice p ks.length c] ∧ E8 k ∧ E8 num ∧ E8 lb ∧ Q3 G ty tc Ft ∧ Q3 G fr fc Ff ∧
   D5 G p ks.length c 9 es ∧ N5 G ks es Fs ∧ F = Ft ++ (Ff ++ (I2 p ++ Fs)) ∧ (∀ b ∈ I2 p, G b ≠ none)
def N5 (G : IM) : List Tm → List (List Value) → List Nat → Prop
 | [], es, F => es = [] ∧ F = []
 | t :: ts, es, F => ∃ a r Fa Fr, es = a :: r ∧ P8 G t a Fa ∧ N5 G ts r Fr ∧ F = Fa ++ Fr
end
def A18 (G : IM) (ks : List Tm) (p : Option Addr) (c : Nat) (F : List Nat) : Prop := ∃ es Fs, D5 G p ks.length c 9 es ∧ N5 G ks es Fs ∧ F = I2 p ++ Fs ∧ (∀ b ∈ I2 p, G b ≠ none)
mutual
theorem P8.R {G : IM} : ∀ {t : Tm} {cells : List Value} {F : List Nat}, P8 G t cells F → B0 G t cells
 | .mk k nm num ty fr lb ks, cells, F, h => by
  simp only [P8] at h
  obtain ⟨tc, fc, p, c, es, Ft, Ff, Fs, h1, h2, h3, h4, h5, h6, h7, h8, _⟩ := h
  simp only [B0]
  exact ⟨tc, fc, p, c, es, h1, h2, h3, h4, h5.R, h6.R, h7, N5.R h8⟩
theorem N5.R {G : IM} : ∀ {ts : List Tm} {es : List (List Value)} {F : List Nat}, N5 G ts es F → D0 G ts es
 | [], es, F, h => by simp only [N5] at h; simp only [D0]; exact h.1
 | t :: ts, es, F, h => by
  simp only [N5] at h
  obtain ⟨a, r, Fa, Fr, h1, h2, h3, _⟩ := h
  simp only [D0]
  exact ⟨a, r, h1, P8.R h2, N5.R h3⟩
end
theorem A2E {G G' : IM} (hg : C0 G G') {F : List Nat} (h : ∀ b ∈ F, G b ≠ none) : ∀ b ∈ F, G' b ≠ none := fun b hb => by
 cases hgb : G b with
 | none => exact absurd hgb (h b hb)
 | some l => rw [hg b l hgb]; simp
mutual
theorem P8.mono {G G' : IM} (hg : C0 G G') : ∀ {t : Tm} {cells : List Value} {F : List Nat}, P8 G t cells F → P8 G' t cells F
 | .mk k nm num ty fr lb ks, cells, F, h => by
  simp only [P8] at h ⊢
  obtain ⟨tc, fc, p, c, es, Ft, Ff, Fs, h1, h2, h3, h4, h5, h6, h7, h8, h9, h10⟩ := h
  exact ⟨tc, fc, p, c, es, Ft, Ff, Fs, h1, h2, h3, h4, h5.mono hg, h6.mono hg, h7.mono hg, N5.mono hg h8, h9, A2E hg h10⟩
theorem N5.mono {G G' : IM} (hg : C0 G G') : ∀ {ts : List Tm} {es : List (List Value)} {F : List Nat}, N5 G ts es F → N5 G' ts es F
 | [], es, F, h => by simpa only [N5] using h
 | t :: ts, es, F, h => by
  simp only [N5] at h ⊢
  obtain ⟨a, r, Fa, Fr, h1, h2, h3, h4⟩ := h
  exact ⟨a, r, Fa, Fr, h1, P8.mono hg h2, N5.mono hg h3, h4⟩
end
mutual
theorem P8.inG {G : IM} : ∀ {t : Tm} {cells : List Value} {F : List Nat}, P8 G t cells F → ∀ b ∈ F, G b ≠ none
 | .mk k nm num ty fr lb ks, cells, F, h => by
  simp only [P8] at h
  obtain ⟨tc, fc, p, c, es, Ft, Ff, Fs, h1, h2, h3, h4, h5, h6, h7, h8, rfl, h10⟩ := h
  intro b hb
  simp only [List.mem_append] at hb
  rcases hb with hb | hb | hb | hb
  ·exact h5.inG b hb
  ·exact h6.inG b hb
  ·exact h10 b hb
  ·exact N5.inG h8 b hb
theorem N5.inG {G : IM} : ∀ {ts : List Tm} {es : List (List Value)} {F : List Nat}, N5 G ts es F → ∀ b ∈ F, G b ≠ none
 | [], es, F, h => by simp only [N5] at h; rw [h.2]; simp
 | t :: ts, es, F, h => by
  simp only [N5] at h
  obtain ⟨a, r, Fa, Fr, h1, h2, h3, rfl⟩ := h
  intro b hb
  rcases List.mem_append.1 hb with hb | hb
  ·exact P8.inG h2 b hb
  ·exact N5.inG h3 b hb
end
theorem N5.snoc {G : IM} : ∀ {ts : List Tm} {es : List (List Value)} {F : List Nat} {t : Tm} {a : List Value} {Fa : List Nat}, N5 G ts es F → P8 G t a Fa → N5 G (ts ++ [t]) (es ++ [a]) (F ++ Fa)
 | [], es, F, t, a, Fa, h, h2 => by
  simp only [N5] at h
  obtain ⟨rfl, rfl⟩ := h
  simp only [List.nil_append, N5]
  exact ⟨a, [], Fa, [], rfl, h2, ⟨rfl, rfl⟩, by simp⟩
 | t' :: ts, es, F, t, a, Fa, h, h2 => by
  simp only [N5] at h
  obtain ⟨a', r, Fa', Fr, rfl, h3, h4, rfl⟩ := h
  simp only [List.cons_append, N5]
  exact ⟨a', r ++ [a], Fa', Fr ++ Fa, rfl, h3, N5.snoc h4 h2, by simp⟩
theorem A19 {G Gi : IM} {F F' : List Nat} {G1 : IM} (h : ∀ b ∈ F, C5 Gi G b ≠ none) (h' : ∀ b ∈ F', C5 G1 Gi b ≠ none) : ∀ x ∈ F, ∀ y ∈ F', x ≠ y := by
 rintro x hx y hy rfl
 have h1 := h x hx
 have h2 := C5.out (h' x hy)
 apply h1
 cases hd : C5 Gi G x with
 | none => rfl
 | some l => rw [C5.le _ _ x l hd] at h2; cases h2
theorem N5.step {G Gi G1 : IM} {ks : List Tm} {i : Nat} {es : List (List Value)} {F F' : List Nat} {a : List Value} (h : N5 (C5 Gi G) (ks.take i) es F) (hn : F.Nodup) (hle : C0 G Gi) (hle1 : C0 Gi G1) (hi : i < ks.length)
  (ha : P8 (C5 G1 Gi) ks[i] a F') (hn' : F'.Nodup) : N5 (C5 G1 G) (ks.take (i + 1)) (es ++ [a]) (F ++ F') ∧ (F ++ F').Nodup := by
 constructor
 ·rw [List.take_succ_eq_append_getElem hi]
  exact N5.snoc (h.mono (C5.mono hle1)) (ha.mono (C5.anti hle))
 ·rw [List.nodup_append]
  exact ⟨hn, hn', A19 h.inG ha.inG⟩
theorem B1U (p : Option Addr) : (I2 p).Nodup := by cases p <;> simp [I2]
theorem A18.fin {G Gi G2 : IM} {ks : List Tm} {es : List (List Value)} {F : List Nat} {p : Option Addr} {c : Nat} (h : N5 (C5 Gi G) ks es F) (hn : F.Nodup) (hle : C0 G Gi) (hle2 : C0 Gi G2)
  (hsl : Sl G2 p ks.length c 9 es.flatten) (hnn : ∀ b ∈ I2 p, Gi b = none ∧ G2 b ≠ none) :
  ∃ F', A18 (C5 G2 G) ks p c F' ∧ F'.Nodup := by
 have hR := h.R
 have hin : ∀ b ∈ I2 p, C5 G2 G b ≠ none := by
  intro b hb
  have h0 := (hnn b hb).1
  cases hg : G b with
  | none => simpa [C5, hg] using (hnn b hb).2
  | some l => rw [hle b l hg] at h0; cases h0
 refine ⟨I2 p ++ F, ⟨es, F, D5.of (hsl.dif (fun b hb => (hnn b hb).1) hle) hR.len hR.all ?_, h.mono (C5.mono hle2), rfl, hin⟩, ?_⟩
 ·intro e he
  obtain ⟨i, hi⟩ := List.getElem?_of_mem he
  have hlt : i < ks.length := by have := (List.getElem?_eq_some_iff.1 hi).1; rw [hR.len] at this; exact this
  obtain ⟨e', he', hr⟩ := hR.get (i := i) (t := ks[i]) (by simp [hlt])
  rw [hi] at he'; cases he'; exact hr.one
 ·rw [List.nodup_append]
  refine ⟨B1U p, hn, ?_⟩
  rintro x hx y hy rfl
  have h1 := h.inG x hy
  have h2 := (hnn x hx).1
  apply h1
  cases hd : C5 Gi G x with
  | none => rfl
  | some l => rw [C5.le _ _ x l hd] at h2; cases h2
theorem P8.mk3 {G G1 G2 G3 : IM} {k : Int} {nm : ByteArray} {num : Int} {ty fr : Ty} {lb : Int} {ks : List Tm} {tc fc : List Value} {p : Option Addr} {c : Nat} {F1 F2 F3 : List Nat} (hk : E8 k) (hnum : E8 num) (hlb : E8 lb)
  (hl1 : C0 G G1) (hl2 : C0 G1 G2) (hl3 : C0 G2 G3) (h1 : Q3 (C5 G1 G) ty tc F1) (n1 : F1.Nodup) (h2 : Q3 (C5 G2 G1) fr fc F2) (n2 : F2.Nodup) (h3 : A18 (C5 G3 G2) ks p c F3) (n3 : F3.Nodup) :
  ∃ F, P8 (C5 G3 G) (.mk k nm num ty fr lb ks) ([.int .i64 k, .string nm, .int .i64 num] ++ tc ++ fc ++ [.int .i64 lb, .slice p ks.length c]) F ∧ F.Nodup := by
 obtain ⟨es, Fs, e1, e2, rfl, e4⟩ := h3
 have i3 : ∀ b ∈ I2 p ++ Fs, C5 G3 G2 b ≠ none := by
  intro b hb
  rcases List.mem_append.1 hb with hb | hb
  ·exact e4 b hb
  ·exact e2.inG b hb
 have a2 : C0 (C5 G2 G1) (C5 G3 G) := fun b l h => C5.mono hl3 b l (C5.anti hl1 b l h)
 have a3 : C0 (C5 G3 G2) (C5 G3 G) := C5.anti (hl1.trans hl2)
 refine ⟨F1 ++ (F2 ++ (I2 p ++ Fs)), ?_, ?_⟩
 ·simp only [P8]
  exact ⟨tc, fc, p, c, es, F1, F2, Fs, rfl, hk, hnum, hlb, h1.mono (C5.mono (hl2.trans hl3)), h2.mono a2, e1.mono a3, e2.mono a3, rfl, A2E a3 e4⟩
 ·rw [List.nodup_append, List.nodup_append]
  refine ⟨n1, ⟨n2, n3, A19 h2.inG i3⟩, ?_⟩
  rintro x hx y hy rfl
  rcases List.mem_append.1 hy with hy | hy
  ·exact A19 h1.inG h2.inG x hx x hy rfl
  ·have h1' : ∀ b ∈ F1, C5 G2 G b ≠ none := A2E (C5.mono hl2) h1.inG
   exact A19 h1' i3 x hx x hy rfl
section clawss
variable {P : Program} {Γ : L6} {env : M0} {hp : List A5} {G : IM} {ty : TypeId}
theorem A7B {s d : TypeId} {is id : K4} [hS : H3 P s is] [hD : H3 P d id] (hd : id.desc = .int .u8) {k : IntKind} (hs : is.desc = .int k) {x : Operand} {n : Int} (hx : evo env x = some (.int k n)) (h0 : 0 ≤ n) (h1 : n ≤ 255) :
  H8 P Γ ⟨env, hp, G⟩ (.convert s d x) ty (.int .u8 n) := by
 refine ⟨fun a _ hst _ _ _ _ w => ?_⟩
 have hu := hD.und
 rw [hd] at hu
 have hus := hS.und
 rw [hs] at hus
 have hw : IntKind.u8.wrap n = n := IntWalk.u8_in n ⟨h0, h1⟩
 simp [execOp, convert, run_underlying hus, run_underlying hu, (hst.evo hx : a.eval x = _), Conv.intToInt, hw]
theorem A7C {s d e : TypeId} {is id ie : K4} [hS : H3 P s is] [hD : H3 P d id] [hE : H3 P e ie] (hs : is.desc = .slice e) (he : ie.desc = .int .u8) (hd : id.desc = .string) {x : Operand} {b o n c : Nat} {xs : List Int}
  (hx : evo env x = some (.slice (some ⟨b, o, none⟩) n c)) (hl : xs.length = n) (hv : At hp G b o (xs.map (Value.int .u8))) : A1n P Γ ⟨env, hp, G⟩ (.convert s d x) ty b (.string (strOfNums xs)) := by
 refine ⟨fun a w hst => ?_⟩
 obtain ⟨full, e', f, hb, hf⟩ := hv.read hst
 refine ⟨Z2 hb, fun w' hw' d' pos af gd => ?_⟩
 have hus := hS.und
 rw [hs] at hus
 have hue := hE.und
 rw [he] at hue
 have hud := hD.und
 rw [hd] at hud
 have hc := run_convert_bytes_arg (P := P) w' s e hus hue b o n c xs hl (fun i hi => by
  have := hf i (.int .u8 (xs.getD i 0)) (by simp [List.getD, List.getElem?_eq_getElem (show i < xs.length by omega)])
  simp [World.cell?, hw', hb, this]) d hud
 have hx' : a.eval x = _ := hst.evo hx
 simp only [execOp, hx', Sem.run_bind]
 rw [hc]
 rfl
theorem A5s {x y : Operand} {t t' : TypeId} {m n : Nat} (hx : evo env x = some (.int .i64 (m : Int))) (hy : evo env y = some (.int .i64 (n : Int))) (hn : 0 < n) :
  H8 P Γ ⟨env, hp, G⟩ (.binOp .rem t x y t') ty (.int .i64 ((m % n : Nat) : Int)) := by
 have h := A3g (P := P) (Γ := Γ) (hp := hp) (G := G) (ty := ty) (t := t) (t' := t') hx hy (by omega)
 rwa [show ((m : Int).tmod n) = ((m % n : Nat) : Int) from rfl] at h
theorem A5t {x y : Operand} {t t' : TypeId} {m n : Nat} (hx : evo env x = some (.int .i64 (m : Int))) (hy : evo env y = some (.int .i64 (n : Int))) (hn : 0 < n) (hm : m ≤ 9223372036854775807) :
  H8 P Γ ⟨env, hp, G⟩ (.binOp .quo t x y t') ty (.int .i64 ((m / n : Nat) : Int)) := by
 have hd : m / n ≤ m := Nat.div_le_self _ _
 have e : ((m : Int).tdiv n) = ((m / n : Nat) : Int) := rfl
 have h := B1b (P := P) (Γ := Γ) (hp := hp) (G := G) (ty := ty) (t := t) (t' := t') hx hy (by omega) (by rw [e]; generalize m / n = q at *; omega) (by rw [e]; generalize m / n = q at *; omega)
 rwa [e] at h
end clawss
def dgi (k : Nat) : Int := 48 + ((k % 10 : Nat) : Int)
def A7D : Nat → Nat → ByteArray → ByteArray
 | 0, _, out => out
 | f + 1, k, out => if 0 < k then A7D f (k / 10) (strOfNums [dgi k] ++ out) else out
def B1V (k : Nat) : ByteArray := ⟨#[109]⟩ ++ A7D 20 k ⟨⟨[]⟩⟩
def S8 (l : List Int) : List Value := l.map (Value.int .i64 ·)
theorem A7E (l : List Int) : (S8 l).length = l.length := by simp [S8]
theorem B1W (l : List Int) (i : Int) : S8 (l ++ [i]) = S8 l ++ [.int .i64 i] := by simp [S8]
mutual
def D3 : Tm → Nat
 | .mk _ _ _ _ _ _ ks => E4 ks + 1
def E4 : List Tm → Nat
 | [] => 0
 | t :: ts => D3 t + E4 ts
end
mutual
def A4l : Tm → List Int → List (List Int)
 | .mk _ _ _ _ _ _ ks, path => path :: A7F ks 0 path
def A7F : List Tm → Nat → List Int → List (List Int)
 | [], _, _ => []
 | t :: ts, i, path => A4l t (path ++ [(i : Int)]) ++ A7F ts (i + 1) path
end
theorem A5u : ∀ {ks : List Tm} {t : Tm}, t ∈ ks → D3 t ≤ E4 ks
 | [], t, h => by simp at h
 | t' :: ts, t, h => by
  rw [E4]
  rcases List.mem_cons.1 h with rfl | h
  ·omega
  ·have := A5u h; omega
theorem A4m : ∀ (a b : List Tm), E4 (a ++ b) = E4 a + E4 b
 | [], b => by simp [E4]
 | t :: a, b => by rw [List.cons_append, E4, E4, A4m a b]; omega
theorem A0R {ks : List Tm} {i : Nat} (hi : i < ks.length) : E4 (ks.take i) + D3 ks[i] ≤ E4 ks := by
 have h := A4m (ks.take (i + 1)) (ks.drop (i + 1))
 rw [List.take_append_drop, List.take_succ_eq_append_getElem hi, A4m] at h
 simp only [E4] at h
 omega
theorem A0S {ks : List Tm} {i : Nat} (hi : i < ks.length) : E4 (ks.take (i + 1)) = E4 (ks.take i) + D3 ks[i] := by
 rw [List.take_succ_eq_append_getElem hi, A4m]
 simp only [E4]; omega
theorem B1X (t : Tm) : 0 < D3 t := by cases t; rw [D3]; omega
theorem A5v : ∀ (ks : List Tm), ks.length ≤ E4 ks
 | [] => by simp
 | .mk _ _ _ _ _ _ _ :: ts => by have := A5v ts; simp only [List.length_cons, E4, D3]; omega

theorem Sl.nn {G : IM} {p : Option Addr} {n c sz : Nat} {cs : List Value} (h : Sl G p n c sz cs) : p = none → n = 0 := by
 rintro rfl
 rcases h.2.2.2 with h | ⟨b, o, full, h, _⟩
 ·exact h
 ·cases h
def SPs (G : IM) : List (List Int) → List Value → List Nat → Prop
 | [], es, F => es = [] ∧ F = []
 | l :: ls, es, F => ∃ p c r Fr, es = .slice p l.length c :: r ∧ F = I2 p ++ Fr ∧ Sl G p l.length c 1 (S8 l) ∧ (∀ b ∈ I2 p, G b ≠ none) ∧ (p = none → l.length = 0) ∧ SPs G ls r Fr
def RPs (G : IM) (ls : List (List Int)) (p : Option Addr) (c : Nat) : Prop := ∃ es F, Sl G p ls.length c 1 es ∧ (∀ b ∈ I2 p, G b ≠ none) ∧ SPs G ls es F ∧ (I2 p ++ F).Nodup
mutual
theorem A5w (M D N : Int) : ∀ (t : Tm) (deep c : Int), (R4 M D N t deep c).1 = true → (R4 M D N t deep c).2 = c + D3 t
 | .mk k nm num ty fr lb ks, deep, c, h => by
  rw [R4] at h ⊢
  split at h
  ·cases h
  ·rename_i hc
   rw [if_neg hc, A7G M D N ks (deep + 1) (c + 1) h, D3]
   omega
theorem A7G (M D N : Int) : ∀ (ts : List Tm) (deep c : Int), (S7 M D N ts deep c).1 = true → (S7 M D N ts deep c).2 = c + E4 ts
 | [], deep, c, h => by rw [S7, E4]; simp
 | t :: ts, deep, c, h => by
  rw [S7] at h ⊢
  split at h
  ·rename_i h1
   rw [if_pos h1, A7G M D N ts deep _ h, A5w M D N t deep c h1, E4]
   omega
  ·cases h
end
theorem A7H {t : Tm} (h : M2 t = true) : D3 t ≤ 200 := by
 have h1 := A5w 200 40 13 t 1 0 h
 have h2 := (A5q 200 40 13 t 1 0 (by omega) (by omega)).2.2 h
 omega
def B1Y (t : Tm) : List (List Int) := if M2 t = true then A4l t [] else []
section slaws
variable {P : Program} {Γ : L6} {env : M0} {hp : List A5} {G : IM} {ty : TypeId}
theorem A4n {x y : Operand} {t t' : TypeId} {r : ByteArray} (hx : evo env x = some (.string r)) (hy : evo env y = some (.string r)) :
  H8 P Γ ⟨env, hp, G⟩ (.binOp .neq t x y t') ty (.bool false) := by
 have h := A1q (P := P) (Γ := Γ) (hp := hp) (G := G) (t := t) (t' := t') (ty := ty) hx hy
 rwa [decide_eq_false (by simp)] at h
end slaws
theorem Sl.kid {G : IM} {p : Option Addr} {n c : Nat} {cs : List Value} (h : Sl G p n c 1 cs) {i : Nat} (hi : i < n) :
  ∃ b o v, p = some ⟨b, o, none⟩ ∧ cs[i]? = some v ∧ (∀ hp, At hp G b (o + i * 1) [v]) ∧ G b ≠ none := by
 obtain ⟨h1, h2, h3, h4⟩ := h
 obtain ⟨b, o, full, rfl, hg, hv⟩ := h4.resolve_left (by omega)
 have hlt : i < cs.length := by omega
 refine ⟨b, o, cs[i], rfl, List.getElem?_eq_getElem hlt, fun hp => A4b hg ?_, by rw [hg]; simp⟩
 intro j v hj
 cases j with
 | zero => simp at hj; subst hj; simpa using hv i _ (List.getElem?_eq_getElem hlt)
 | succ j => simp at hj
theorem Sl.le {G : IM} {p : Option Addr} {n c sz : Nat} {cs : List Value} (h : Sl G p n c sz cs) : n ≤ 9223372036854775807 := by
 have h1 := h.2.1; have h2 := h.2.2.1; unfold maxLen at h2; omega


abbrev A0T := List (Nat × List Value)

mutual
def OTy : Ty → List Value → A0T → Prop
 | .mk k ks, cells, bs => ∃ p c, cells = [.int .i64 k, .slice p ks.length c] ∧ E8 k ∧ ks.length ≤ c ∧ c ≤ maxLen ∧ ((ks = [] ∧ bs = []) ∨ ∃ b A C es r, p = some ⟨b, A.length, none⟩ ∧ bs = (b, A ++ (es.flatten ++ C)) :: r ∧ A5x ks es r)
def A5x : List Ty → List (List Value) → A0T → Prop
 | [], es, bs => es = [] ∧ bs = []
 | t :: ts, es, bs => ∃ e e' r1 r2, es = e :: e' ∧ bs = r1 ++ r2 ∧ OTy t e r1 ∧ A5x ts e' r2
end
def A7I (ks : List Ty) (p : Option Addr) (c : Nat) (bs : A0T) : Prop :=
 ks.length ≤ c ∧ c ≤ maxLen ∧ ((ks = [] ∧ bs = []) ∨ ∃ b A C es r, p = some ⟨b, A.length, none⟩ ∧ bs = (b, A ++ (es.flatten ++ C)) :: r ∧ A5x ks es r)
mutual
def OTm : Tm → List Value → A0T → Prop
 | .mk k nm num ty fr lb ks, cells, bs => ∃ tc fc p c bt bf bk, cells = [.int .i64 k, .string nm, .int .i64 num] ++ tc ++ fc ++ [.int .i64 lb, .slice p ks.length c] ∧ E8 k ∧ E8 num ∧ E8 lb ∧ OTy ty tc bt ∧ OTy fr fc bf ∧
   ks.length ≤ c ∧ c ≤ maxLen ∧ ((ks = [] ∧ bk = []) ∨ ∃ b A C es r, p = some ⟨b, A.length, none⟩ ∧ bk = (b, A ++ (es.flatten ++ C)) :: r ∧ A5y ks es r) ∧ bs = bt ++ (bf ++ bk)
def A5y : List Tm → List (List Value) → A0T → Prop
 | [], es, bs => es = [] ∧ bs = []
 | t :: ts, es, bs => ∃ e e' r1 r2, es = e :: e' ∧ bs = r1 ++ r2 ∧ OTm t e r1 ∧ A5y ts e' r2
end
def B1Z (ks : List Tm) (p : Option Addr) (c : Nat) (bs : A0T) : Prop :=
 ks.length ≤ c ∧ c ≤ maxLen ∧ ((ks = [] ∧ bs = []) ∨ ∃ b A C es r, p = some ⟨b, A.length, none⟩ ∧ bs = (b, A ++ (es.flatten ++ C)) :: r ∧ A5y ks es r)
mutual
def A7J : Ty → Int
 | .mk _ ks => 1 + Y5 ks
def Y5 : List Ty → Int
 | [] => 0
 | t :: ts => A7J t + Y5 ts
end
mutual
def B10 : Ty → Int → Ty
 | .mk _ ks, k => .mk k (A1K ks (k + 1))
def A1K : List Ty → Int → List Ty
 | [], _ => []
 | t :: ts, k => B10 t k :: A1K ts (k + A7J t)
end
mutual
def A7K : Tm → Int
 | .mk _ _ _ ty fr _ ks => 6 + Y5 ty.ks + Y5 fr.ks + A7L ks
def A7L : List Tm → Int
 | [] => 0
 | t :: ts => A7K t + A7L ts
end
mutual
def B11 : Tm → Int → Tm
 | .mk _ _ _ ty fr _ ks, k => .mk k (B1V (k + 1).toNat) (k + 1 + 1) (.mk (k + 1 + 1 + 1) (A1K ty.ks (k + 1 + 1 + 1 + 1))) (.mk (k + 1 + 1 + 1 + 1 + Y5 ty.ks) (A1K fr.ks (k + 1 + 1 + 1 + 1 + Y5 ty.ks + 1))) (k + 1 + 1 + 1 + 1 + Y5 ty.ks + 1 + Y5 fr.ks) (A4o ks (k + 1 + 1 + 1 + 1 + Y5 ty.ks + 1 + Y5 fr.ks + 1))
def A4o : List Tm → Int → List Tm
 | [], _ => []
 | t :: ts, k => B11 t k :: A4o ts (k + A7K t)
end
section lend
variable {P : Program} {Γ : L6} {env : M0} {hp : List A5} {G : IM} {K : Po} {ops : Array Oper} {rest : List Oper} {ty : TypeId} {pos : String} {af : Array Edge} {gd : Option (Nat × Bool)}
def B6A (v0 : Value) (G : IM) (Φ : A0T → Prop) : IM → Value → List A5 → Prop := fun G' v outs => G' = G ∧ v = v0 ∧ ∃ bs', outs = A1t bs' ∧ Φ bs'
end lend
def MTm (t : Tm) (k : Int) (cells : List Value) (bs : A0T) : Prop := ∃ pt ct pf cf p c bt bf bk,
 cells = [.int .i64 t.k, .string t.nm, .int .i64 t.num, .int .i64 t.ty.k, .slice pt t.ty.ks.length ct, .int .i64 t.fr.k, .slice pf t.fr.ks.length cf, .int .i64 t.lb, .slice p t.ks.length c] ∧
 A7I (A1K t.ty.ks k) pt ct bt ∧ A7I (A1K t.fr.ks (k + Y5 t.ty.ks)) pf cf bf ∧ B1Z (A4o t.ks (k + Y5 t.ty.ks + Y5 t.fr.ks)) p c bk ∧ bs = bt ++ (bf ++ bk)
def A7M : Nat → Int → List Int
 | 0, _ => []
 | n + 1, k => k :: A7M n (k + 1)
def OIs (l : List Int) (p : Option Addr) (c : Nat) (bs : A0T) : Prop :=
 l.length ≤ c ∧ c ≤ maxLen ∧ ((l = [] ∧ bs = []) ∨ ∃ b A C, p = some ⟨b, A.length, none⟩ ∧ bs = [(b, A ++ (S8 l ++ C))])
def OPs : List (List Int) → List Value → A0T → Prop
 | [], es, bs => es = [] ∧ bs = []
 | l :: ls, es, bs => ∃ p c e' r1 r2, es = .slice p l.length c :: e' ∧ bs = r1 ++ r2 ∧ OIs l p c r1 ∧ OPs ls e' r2
def B12 : List (List Int) → Int
 | [] => 0
 | l :: ls => l.length + B12 ls
def B13 : List (List Int) → Int → List (List Int)
 | [], _ => []
 | l :: ls, k => A7M l.length k :: B13 ls (k + l.length)
section lend0
variable {P : Program} {Γ : L6} {env : M0} {G : IM} {K : Po} {ops : Array Oper} {rest : List Oper} {ty : TypeId} {pos : String} {af : Array Edge} {gd : Option (Nat × Bool)}
end lend0
def QPs (G : IM) : List (List Int) → List Value → Prop
 | [], es => es = []
 | l :: ls, es => ∃ p c r, es = .slice p l.length c :: r ∧ Sl G p l.length c 1 (S8 l) ∧ QPs G ls r
mutual
def K0 : Ty → Int
 | .mk _ ks => ks.length + O1 ks
def O1 : List Ty → Int
 | [] => 0
 | t :: ts => K0 t + O1 ts
end
mutual
def Z7 : Tm → Int
 | .mk _ nm _ ty fr _ ks => nm.size + K0 ty + K0 fr + (ks.length + V8 ks)
def V8 : List Tm → Int
 | [] => 0
 | t :: ts => Z7 t + V8 ts
end
mutual
theorem A0U : ∀ t : Ty, 0 ≤ K0 t
 | .mk _ ks => by have := A1L ks; rw [K0]; omega
theorem A1L : ∀ ts : List Ty, 0 ≤ O1 ts
 | [] => by rw [O1]; omega
 | t :: ts => by have := A0U t; have := A1L ts; rw [O1]; omega
end
mutual
theorem A7N : ∀ t : Tm, 0 ≤ Z7 t
 | .mk _ _ _ ty fr _ ks => by have := A4p ks; have := A0U ty; have := A0U fr; rw [Z7]; omega
theorem A4p : ∀ ts : List Tm, 0 ≤ V8 ts
 | [] => by rw [V8]; omega
 | t :: ts => by have := A7N t; have := A4p ts; rw [V8]; omega
end
theorem A5z : ∀ a b : List Ty, O1 (a ++ b) = O1 a + O1 b
 | [], b => by simp [O1]
 | t :: a, b => by rw [List.cons_append, O1, O1, A5z a b]; omega
theorem B14 {ks : List Ty} {i : Nat} (hi : i < ks.length) : O1 (ks.take (i + 1)) = O1 (ks.take i) + K0 ks[i] := by
 rw [List.take_succ_eq_append_getElem hi, A5z, O1, O1]; omega
theorem A7O (ks : List Ty) (i : Nat) : O1 (ks.take i) ≤ O1 ks := by
 have h := A5z (ks.take i) (ks.drop i)
 rw [List.take_append_drop] at h
 have := A1L (ks.drop i); omega
mutual
def Tm.nok : Tm → Prop
 | .mk _ nm _ _ _ _ ks => nm.size ≤ 9223372036854775807 ∧ Tm.nokL ks
def Tm.nokL : List Tm → Prop
 | [] => True
 | t :: ts => t.nok ∧ Tm.nokL ts
end
def B6B (left s : Int) : Int := if s ≤ left then left - s else -1
end Gw
end Go.Proofs.YtebfignffjhnhaaGreatDoor
namespace Go.Proofs.YtebfignffjhnhaaGreatDoor
open Go Go.RowKit Go.ChangeShapes Go.WideShapes Go.ChangeAt
namespace Gw
def GW (w : World) : IM := fun b => match w.heap[b]? with
 | some (.cells c _ _) => some c.toList
 | _ => none
theorem B15 (w : World) : R2 [] (GW w) w := by
 refine ⟨?_, by simp, by simp [Fp], by simp [Fp]⟩
 intro b l h
 unfold GW at h
 split at h
 ·rename_i c e f hb; cases h; exact ⟨e, f, by simpa using hb⟩
 ·cases h
theorem A7P {w : World} {b o : Nat} {v : Value} (h : w.cell? ⟨b, o, none⟩ = some v) : ∃ full, GW w b = some full ∧ full[o]? = some v := by
 unfold World.cell? at h
 simp only at h
 split at h
 ·rename_i c e f hb
  exact ⟨c.toList, by simp [GW, hb], by simpa using h⟩
 ·cases h
theorem A7Q {sz : Nat} : ∀ {es : List (List Value)}, (∀ e ∈ es, e.length = sz) → ∀ {j : Nat} {v : Value}, es.flatten[j]? = some v → ∃ i e r, es[i]? = some e ∧ e[r]? = some v ∧ j = i * sz + r
 | [], _, j, v, h => by simp at h
 | a :: es, hall, j, v, h => by
  have ha := hall a List.mem_cons_self
  rw [List.flatten_cons, List.getElem?_append] at h
  split at h
  ·exact ⟨0, a, j, rfl, h, by simp⟩
  ·rename_i hj
   obtain ⟨i, e, r, h1, h2, h3⟩ := A7Q (fun x hx => hall x (List.mem_cons_of_mem _ hx)) h
   exact ⟨i + 1, e, r, by simpa using h1, h2, by rw [Nat.succ_mul]; omega⟩
theorem B16 {w : World} {a : Addr} {n c sz : Nat} {es : List (List Value)} (hl : es.length = n) (hsz : 0 < sz) (hc : n ≤ c) (hm : c ≤ maxLen) (h : ∀ i e, es[i]? = some e → w.cells? 0 (a.add (i * sz)) sz = some e) : Sl (GW w) (some a) n c sz es.flatten := by
 have hall : ∀ e ∈ es, e.length = sz := by
  intro e he
  obtain ⟨i, hi⟩ := List.getElem?_of_mem he
  exact (World.cells?_some (h i e hi)).2.1
 refine ⟨by rw [A0A hall, hl], hc, hm, ?_⟩
 rcases Nat.eq_zero_or_pos n with h0 | h0
 ·exact .inl h0
 ·right
  obtain ⟨b, o, s⟩ := a
  have hs : s = none := by
   have h1 := (World.cells?_some (h 0 es[0] (List.getElem?_eq_getElem (by omega)))).2
   have h2 := h1.2 0 hsz
   rw [List.getElem?_eq_getElem (by omega)] at h2
   simp only [Nat.zero_mul, Addr.add, if_true] at h2
   unfold World.cell? at h2
   split at h2
   ·split at h2
    ·cases h2
    ·rename_i hn; cases s with
     | none => rfl
     | some x => simp at hn
   ·cases h2
  subst hs
  have key : ∀ j v, es.flatten[j]? = some v → w.cell? ⟨b, o + j, none⟩ = some v := by
   intro j v hj
   obtain ⟨i, e, r, h1, h2, rfl⟩ := A7Q hall hj
   have h3 := (World.cells?_some (h i e h1)).2
   have hr : r < e.length := (List.getElem?_eq_some_iff.1 h2).1
   have h4 := h3.2 r (by omega)
   rw [h2, A2w, A2w] at h4
   rw [← Nat.add_assoc]; exact h4
  have hpos : 0 < es.flatten.length := by rw [A0A hall, hl]; exact Nat.mul_pos h0 hsz
  obtain ⟨full, hg, _⟩ := A7P (key 0 es.flatten[0] (List.getElem?_eq_getElem hpos))
  refine ⟨b, o, full, rfl, hg, fun j v hj => ?_⟩
  obtain ⟨full', hg', hv⟩ := A7P (key j v hj)
  rw [hg] at hg'; cases hg'; exact hv
theorem D2.snoc {G : IM} : ∀ {ts : List Ty} {es : List (List Value)} {t : Ty} {e : List Value}, D2 G ts es → B9 G t e → D2 G (ts ++ [t]) (es ++ [e])
 | [], es, t, e, h, h2 => by
  simp only [D2] at h; subst h
  simp only [List.nil_append, D2]
  exact ⟨e, [], rfl, h2, rfl⟩
 | t' :: ts, es, t, e, h, h2 => by
  simp only [D2] at h
  obtain ⟨a, r, rfl, h3, h4⟩ := h
  simp only [List.cons_append, D2]
  exact ⟨a, r ++ [e], rfl, h3, D2.snoc h4 h2⟩
theorem D0.snoc {G : IM} : ∀ {ts : List Tm} {es : List (List Value)} {t : Tm} {e : List Value}, D0 G ts es → B0 G t e → D0 G (ts ++ [t]) (es ++ [e])
 | [], es, t, e, h, h2 => by
  simp only [D0] at h; subst h
  simp only [List.nil_append, D0]
  exact ⟨e, [], rfl, h2, rfl⟩
 | t' :: ts, es, t, e, h, h2 => by
  simp only [D0] at h
  obtain ⟨a, r, rfl, h3, h4⟩ := h
  simp only [List.cons_append, D0]
  exact ⟨a, r ++ [e], rfl, h3, D0.snoc h4 h2⟩
theorem D2.each {G : IM} {ts : List Ty} {es : List (List Value)} (h : D2 G ts es) : ∀ e ∈ es, e.length = 2 ∧ e.all (·.oneCell') = true := by
 intro e he
 obtain ⟨i, hi⟩ := List.getElem?_of_mem he
 have := (h.inv hi B7).2
 exact ⟨this.len, this.one⟩
theorem D0.each {G : IM} {ts : List Tm} {es : List (List Value)} (h : D0 G ts es) : ∀ e ∈ es, e.length = 9 ∧ e.all (·.oneCell') = true := by
 intro e he
 obtain ⟨i, hi⟩ := List.getElem?_of_mem he
 have := (h.inv hi (.mk 0 ⟨#[]⟩ 0 B7 B7 0 [])).2
 exact ⟨this.len, this.one⟩
section read
variable {H : Type} {enc : TypeId × Value → H} {w : World} {sp : Nat → Bool} {held : Bool}
end read
theorem Ext.below {w w' : World} (h : Ext (Fp []) w w') : Below w.heap.size w w' := ⟨h.os, h.tape, h.output, h.size, fun k hk => h.block k hk (by simp [Fp])⟩
section post
variable {H : Type} {enc : TypeId × Value → H} {P : Program}
theorem B17 {f : Func} {s : ChangeSpec} {apart fresh handsOn again : Bool} {W W' : World} {args : Array Value} {v : Value} {ds gs : List (DataW H)} {before : List MemPlace}
  (hW : DataW.Whole enc P f.params.toList s.vars apart W args.toList ds gs before) (hb : Below W.heap.size W W') (hgs : s.vars = [])
  (hres : ∀ (b : Nat) (sp : Nat → Bool) (hd : Bool), DataW.TrodAll enc P W' b sp hd f.resultTypes.toList (v.resultList f.resultTypes.size) (s.fn H (ds ++ gs)).results [])
  (hargs : ∀ sp : Nat → Bool, (∀ p ∈ before, sp p.block = true) → DataW.TrodAll enc P W' 0 sp true f.params.toList args.toList (s.fn H (ds ++ gs)).args before)
  (hv : (s.fn H (ds ++ gs)).vars = [])
  (hok : ∀ (j : Nat) (t : TypeId) (r : Value), f.resultTypes[j]? = some t → (v.resultList f.resultTypes.size)[j]? = some r → Value.okWide P W' .any 0 t r) :
  s.post enc P f apart fresh handsOn again W args v W' := by
 have hold : ∀ p ∈ before, (fun b => decide (b < W.heap.size)) p.block = true := fun p hp => by simpa using hW.lt p hp
 have hvars : ∀ sp : Nat → Bool, DataW.TrodVars enc P W' sp s.vars (s.fn H (ds ++ gs)).vars [] := fun sp => by rw [hgs, hv]; rfl
 have hkept : W.keptBut W' (fun _ => False) := by
  refine ⟨hb.os, hb.output, fun i hi => ?_⟩
  rw [hb.block i hi]
  split
  ·rename_i h1 h2; cases h1.symm.trans h2; exact ⟨rfl, rfl, rfl, fun _ _ => rfl⟩
  ·rename_i h1 h2; cases h1.symm.trans h2; exact .inr ⟨rfl, rfl⟩
  ·rfl
 refine ⟨ds, gs, before, [], before, [], hW, hres _ _ _, hargs _ hold, hvars _, World.keptBut_mono (fun p hp => hp.elim) hkept, fun _ => ?_⟩
 obtain ⟨_, _, _, _, _, hz, hn⟩ := hW
 refine ⟨hok, _, _, ([] ++ before) ++ [], ⟨[] ++ before, [], trodAll_append (hargs _ (fun _ _ => rfl)) (hres _ _ _), hvars _, rfl, ?_, ?_⟩, ?_⟩
 ·intro b off hp
  have hp' : MemPlace.cell b off ∈ before := by simpa using hp
  have hlt : b < W.heap.size := of_decide_eq_true (hold _ hp')
  have := hz b off hp'
  unfold World.frozen? at this ⊢
  simp only [hb.block b hlt]
  exact this
 ·intro ha; simpa using hn ha
 ·intro p hp _; simpa using hp
end post
def A07 (G : IM) : Prop := ∃ g, Tryz.prog.globalNamed "internal/strconv.uint64pow10" = some g ∧ G g = some (Lib.pow10Tab.map fun z => Value.int .u64 z)
theorem A07.mono {G G' : IM} (h : A07 G) (hg : C0 G G') : A07 G' := by
 obtain ⟨g, h1, h2⟩ := h
 exact ⟨g, h1, hg g _ h2⟩
theorem B18 {G : IM} {w : World} (hw : R2 [] G w) (k : Nat) (os : Array Obj) : P7 [] G w [] G (Sort.grow (w.drewN k) os) := by
 have hb : ∀ b, b < w.heap.size → (Sort.grow (w.drewN k) os).heap[b]? = w.heap[b]? := by
  intro b h
  show (w.heap ++ os)[b]? = _
  rw [Array.getElem?_append_left h]
 refine ⟨⟨?_, by simp, by simp [Fp], by simp [Fp]⟩, ⟨rfl, rfl, rfl, ?_, fun b h _ => hb b h⟩, C0.refl _, fun _ _ h => .inl h, by simp [Fp], fun b l h h0 => absurd h (by rw [h0]; simp)⟩
 ·intro b l h
  obtain ⟨e, f, hh⟩ := hw.inn b l h
  exact ⟨e, f, by rw [hb b (Z2 hh)]; exact hh⟩
 ·show w.heap.size ≤ (w.heap ++ os).size
  simp
theorem B19 (n : Int) (G : IM) (h : A07 G) (h0 : 0 ≤ n) (h1 : n ≤ 999) : Fn Tryz.prog 148 [.int .i64 n] [] G (I3 (.string ⟨(Lib.decDigits n.toNat).toArray⟩) G) := by
 refine ⟨fun w hw => ?_⟩
 have ht : Lib.TabIs Tryz.prog w "internal/strconv.uint64pow10" .u64 Lib.pow10Tab := by
  obtain ⟨g, hg, hG⟩ := h
  obtain ⟨e, f, hh⟩ := hw.inn g _ hG
  unfold Lib.TabIs World.var?
  rw [hg]
  simp only [Option.bind_some, hh]
 refine (Tryz.strconv_Itoa n (by omega) (by omega) w ht).mono ?_
 rintro e w' ⟨rfl, k, os, rfl⟩
 refine ⟨_, G, [], rfl, B18 hw k os, rfl, ?_, rfl⟩
 unfold Lib.itoa
 rw [if_neg (by omega)]
end Gw
end Go.Proofs.YtebfignffjhnhaaGreatDoor
namespace Go.Proofs.YtebfignffjhnhaaGreatDoor
open Go Go.RowKit Go.ChangeShapes Go.WideShapes Go.ChangeAt
namespace Gw
theorem A5A : Tryz.prog.globalNamed "internal/strconv.uint64pow10" = some 0 := by kernel_rfl
theorem B2a : (Tryz.prog.globals[0]?).map (·.type) = some 211 := by kernel_rfl
theorem B2b : Tryz.prog.cellsOf 211 = 20 := by kernel_rfl
theorem B2c : Tryz.prog.cellsOf 172 = 1 := by kernel_rfl
def A7R : List (String × DataW Unit) := [("math/bits.deBruijn32tab", Rows.laid_math_bits_deBruijn32tab), ("math/bits.deBruijn64tab", Rows.laid_math_bits_deBruijn64tab), ("internal/strconv.uint64pow10", Rows.laid_internal_strconv_uint64pow10)]
theorem B2d {W : World} (h : laidMetH Tryz.prog A7R W) : A07 (GW W) := by
 have h1 : laidMet Tryz.prog A7R W := h
 have h3 := h1.tail.tail
 have ht : Lib.TabIs Tryz.prog W "internal/strconv.uint64pow10" .u64 Lib.pow10Tab :=
  Lib.tabIs_of_head (rest := []) A5A B2a Tryz.underlying211 Tryz.underlying172 B2c B2b h3
 refine ⟨0, A5A, ?_⟩
 unfold Lib.TabIs World.var? at ht
 rw [A5A] at ht
 simp only [Option.bind_some] at ht
 unfold GW
 split at ht
 ·rename_i c e f hb
  rw [hb]
  have := Option.some.inj ht
  simp [this]
 ·cases ht
def A5B : DataW Unit → Array Value
 | .agg xs => (xs.map fun | .lit (.int k n) => Value.int k n | _ => .int .i64 0).toArray
 | _ => #[]
def A5C (xs : Array Value) : Obj → Obj
 | .cells _ t f => .cells xs t f
 | o => o
noncomputable def A5D (os : Os) : World :=
 { World.holding Tryz.prog os ⟨#[], #[], []⟩ with heap := (((World.holding Tryz.prog os ⟨#[], #[], []⟩).heap.modify 0 (A5C (A5B Rows.laid_internal_strconv_uint64pow10))).modify 1 (A5C (A5B Rows.laid_math_bits_deBruijn32tab))).modify 2 (A5C (A5B Rows.laid_math_bits_deBruijn64tab)) }
end Gw
end Go.Proofs.YtebfignffjhnhaaGreatDoor
namespace Go.Proofs.YtebfignffjhnhaaGreatDoor
open Go Go.RowKit Go.ChangeShapes Go.WideShapes Go.ChangeAt
namespace Gw
section read2
variable {H : Type} {enc : TypeId × Value → H} {w : World} {sp : Nat → Bool} {held : Bool}
end read2
section rlaws
variable {P : Program} {Γ : L6} {env : M0} {hp : List A5} {G : IM} {ty : TypeId}
theorem B2e {m n : Nat} (hm : m < 4611686018427387904) (hn : n < 4611686018427387904) : m ^^^ n < 4611686018427387904 := by
 have := @Nat.xor_lt_two_pow m n 62 (by omega) (by omega)
 simpa using this
theorem B2f {x y : Operand} {t t' : TypeId} {m n : Nat} (hx : evo env x = some (.int .i64 (m : Int))) (hy : evo env y = some (.int .i64 (n : Int))) (hm : m < 4611686018427387904) (hn : n < 4611686018427387904) :
  H8 P Γ ⟨env, hp, G⟩ (.binOp .xor t x y t') ty (.int .i64 ((m ^^^ n : Nat) : Int)) := by
 refine ⟨fun a _ hs _ _ _ _ w => ?_⟩
 have hlt := B2e hm hn
 have e : (BitVec.ofInt 64 (m : Int) ^^^ BitVec.ofInt 64 (n : Int)).toNat = m ^^^ n := by
  rw [BitVec.toNat_xor, BitVec.toNat_ofInt, BitVec.toNat_ofInt]
  congr 1 <;> omega
 have hw : IntKind.i64.wrap (((BitVec.ofInt 64 (m : Int) ^^^ BitVec.ofInt 64 (n : Int)).toNat : Nat) : Int) = ((m ^^^ n : Nat) : Int) := by
  rw [e]; exact A1Y _ rfl (by omega) (by omega)
 simp only [execOp, eqGuard, binOp, Op.intBits, (hs.evo hx : a.eval x = _), (hs.evo hy : a.eval y = _), ne_eq, not_true_eq_false, if_false, Sem.run_bind, Sem.run_pure, Result.andThen_ok]
 rw [show IntKind.bits .i64 = 64 from rfl] at *
 simp only [hw]
 simp
theorem A3p {x y : Operand} {t t' : TypeId} {m n : Nat} (hx : evo env x = some (.int .i64 (m : Int))) (hy : evo env y = some (.int .i64 (n : Int))) (h : m * n ≤ 9223372036854775807) :
  H8 P Γ ⟨env, hp, G⟩ (.binOp .mul t x y t') ty (.int .i64 ((m * n : Nat) : Int)) := by
 have e : ((m : Int) * (n : Int)) = ((m * n : Nat) : Int) := by simp
 have h2 := B1a (P := P) (Γ := Γ) (hp := hp) (G := G) (ty := ty) (t := t) (t' := t') hx hy (by rw [e]; omega) (by rw [e]; omega)
 rwa [e] at h2
theorem A1u {x y : Operand} {t t' : TypeId} {m n : Nat} (hx : evo env x = some (.int .i64 (m : Int))) (hy : evo env y = some (.int .i64 (n : Int))) (h : m + n ≤ 9223372036854775807) :
  H8 P Γ ⟨env, hp, G⟩ (.binOp .add t x y t') ty (.int .i64 ((m + n : Nat) : Int)) := by
 have e : ((m : Int) + (n : Int)) = ((m + n : Nat) : Int) := by simp
 have h2 := J0 (P := P) (Γ := Γ) (hp := hp) (G := G) (ty := ty) (t := t) (t' := t') hx hy (by rw [e]; omega) (by rw [e]; omega)
 rwa [e] at h2
theorem A4q {x y : Operand} {t t' : TypeId} {m : Nat} (hx : evo env x = some (.int .i64 ((m + 1 : Nat) : Int))) (hy : evo env y = some (.int .i64 1)) (h : m ≤ 9223372036854775807) :
  H8 P Γ ⟨env, hp, G⟩ (.binOp .sub t x y t') ty (.int .i64 (m : Int)) := by
 have e : (((m + 1 : Nat) : Int) - 1) = (m : Int) := by omega
 have h2 := O5 (P := P) (Γ := Γ) (hp := hp) (G := G) (ty := ty) (t := t) (t' := t') hx hy (by rw [e]; omega) (by rw [e]; omega)
 rwa [e] at h2
theorem A5E {s d : TypeId} {is id : K4} [hS : H3 P s is] [hD : H3 P d id] (hd : id.desc = .int .i64) {k : IntKind} (hs : is.desc = .int k) {x : Operand} {n : Int} (hx : evo env x = some (.int k n)) (h0 : -9223372036854775808 ≤ n) (h1 : n ≤ 9223372036854775807) :
  H8 P Γ ⟨env, hp, G⟩ (.convert s d x) ty (.int .i64 n) := by
 refine ⟨fun a _ hst _ _ _ _ w => ?_⟩
 have hu := hD.und
 rw [hd] at hu
 have hus := hS.und
 rw [hs] at hus
 have hw : IntKind.i64.wrap n = n := A1Y n rfl h0 h1
 simp [execOp, convert, run_underlying hus, run_underlying hu, (hst.evo hx : a.eval x = _), Conv.intToInt, hw]
theorem A7S {x y : Operand} {t el : TypeId} {i : K4} {sz by' : Nat} {zs : List Value} [hI : H3 P t i] (hd' : i.desc = .slice el) [hE : W5 P el sz by' zs] {p : Option Addr} {n c l : Nat}
  (hx : evo env x = some (.slice p n c)) (hy : evo env y = some (.int .i64 (l : Int))) (hl : l ≤ c) :
  H8 P Γ ⟨env, hp, G⟩ (.slice t x none (some y) none) ty (.slice p l c) := by
 refine ⟨fun a _ hs _ _ _ _ w => ?_⟩
 have hu := hI.und
 rw [hd'] at hu
 obtain ⟨d, hE⟩ := hE.ok
 obtain ⟨inf, z, t1, t2, t3, _⟩ := A3j (P := P) (t := el)
 have e1 : a.eval x = _ := hs.evo hx
 have e2 : a.eval y = _ := hs.evo hy
 have hb : ∀ code, (Instr.sliceBound (.int .i64 (l : Int)) c code).run P w = .ok l w := fun code => by
  unfold Instr.sliceBound
  simp only [asIntOf, Sem.run_bind, Sem.run_pure, Result.andThen_ok]
  rw [if_pos ⟨by omega, by omega⟩]
  simp
 simp only [execOp, Option.map, e1, e2, Instr.sliceAt, Sem.run_bind, run_underlying hu, Result.andThen_ok, Instr.slice, Instr.sliceBounds, Sem.run_pure, hb, t3]
 by_cases h : c = 0
 ·subst h; simp
 ·rw [if_neg h]; simp; cases p <;> simp [Addr.add]
end rlaws
def N6 (bs : List UInt8) : List Value := bs.map fun b => .int .u8 (b.toNat : Int)
theorem A7T (bs : List UInt8) : (N6 bs).length = bs.length := by simp [N6]
theorem A5F {bs : List UInt8} {i : Nat} {v : Value} (h : (N6 bs)[i]? = some v) : ∃ b : Nat, b < 256 ∧ v = .int .u8 (b : Int) := by
 unfold N6 at h
 rw [List.getElem?_map] at h
 cases hb : bs[i]? with
 | none => rw [hb] at h; simp at h
 | some b => rw [hb] at h; simp at h; exact ⟨b.toNat, b.toNat_lt, h.symm⟩
def rd (br : Nat) (pb : Option Addr) (nb cb p : Nat) : A5 := .blk br [.slice pb nb cb, .int .i64 (p : Int)]
def Z8 (br : Nat) (pb : Option Addr) (nb cb p B : Nat) (Φ : IM → Value → Prop) : IM → Value → List A5 → Prop := fun G' v outs => ∃ p', p ≤ p' ∧ p' ≤ p + B ∧ outs = [rd br pb nb cb p'] ∧ Φ G' v
theorem zq0 {Q : Prop} (h : Q := by exact ⟨rfl, rfl, _, rfl, Int.tmod_nonneg _ (by omega), fun h => Int.tmod_lt_of_pos _ (by omega)⟩) : Q := h
theorem W7 (G : IM) (br : Nat) (pb : Option Addr) (nb cb p : Nat) (bs : List UInt8) (n : Int) (hb : Sl G pb nb cb 1 (N6 bs)) (hnb : nb ≤ 2000) (hp : p < 1099511627776) :
  Fn Tryz.prog 83 [.pointer (some ⟨br, 0, none⟩), .int .i64 n] [rd br pb nb cb p] G (fun G' v outs => G' = G ∧ outs = [rd br pb nb cb (p + 1)] ∧ ∃ k, v = .int .i64 k ∧ 0 ≤ k ∧ (1 ≤ n → k < n)) := by
 unfold rd
 have hm1 : ∀ q, 0 < nb → q % nb < nb := fun q h => Nat.mod_lt _ h
 have hdv : p / nb ≤ p := Nat.div_le_self _ _
 refine C3 Tryz.func83 rfl Tryz.ntmps83 Tryz.results83 rfl ?_
 intro w0
 refine E0 ?_
 refine sQ (X4 rfl) rfl ?_
 refine A3 ?_
 refine sP (A1u (n := 1) rfl rfl (by omega)) rfl rfl ?_
 refine sQ (X4 rfl) rfl ?_
 refine D4 ?_
 refine sB (J1 rfl rfl) rfl rfl (fun h23 => ?_) (fun h23 => ?_)
 refine U0 ?_
 refine H2 (rT rfl) A0.refl ?_
 exact ⟨rfl, rfl, 0, rfl, Int.le_refl _, fun h => by omega⟩
 refine A3 ?_
 refine sQ (X4 rfl) rfl ?_
 refine B6 ?_
 refine sB (qE rfl rfl) rfl rfl (fun h50 => ?_) (fun h50 => ?_)
 refine J4 ?_
 refine H2 (rT rfl) A0.refl ?_
 exact ⟨rfl, rfl, 0, rfl, Int.le_refl _, fun h => by omega⟩
 refine E0 ?_
 refine sQ (X4 rfl) rfl ?_
 refine A3 ?_
 refine sP (A4q rfl rfl (by omega)) rfl rfl ?_
 refine D4 ?_
 refine sQ (X4 rfl) rfl ?_
 refine B6 ?_
 refine sB (J1 rfl rfl) rfl rfl (fun h89 => ?_) (fun h89 => ?_)
 refine A8 ?_
 refine sQ (X4 rfl) rfl ?_
 refine B6 ?_
 (obtain ⟨b, o, v, rfl, hv, hat, hgb⟩ := hb.kid (i := p) (by omega); obtain ⟨y, hy, rfl⟩ := A5F hv; refine sP (B4 rfl rfl rfl (by omega)) rfl rfl ?_)
 refine sL (A0p rfl rfl (hat _)) rfl rfl ?_
 refine sP (A5E rfl rfl rfl (by omega) (by omega)) rfl rfl ?_
 refine E6 ?_
 refine sP (A3g rfl rfl (by omega)) rfl rfl ?_
 refine A9 ?_
 refine H2 (rT rfl) A0.refl ?_
 exact zq0
 refine A8 ?_
 (obtain ⟨b, o, v1, rfl, hv1, hat1, _⟩ := hb.kid (i := HMod.hMod p nb) (hm1 _ (by omega)); obtain ⟨y1, hy1, rfl⟩ := A5F hv1; obtain ⟨b', o', v2, hbb, hv2, hat2, _⟩ := hb.kid (i := HMod.hMod (p * 7 + 3) nb) (hm1 _ (by omega)); obtain ⟨y2, hy2, rfl⟩ := A5F hv2; cases hbb; have hl1 := hm1 p (by omega); have hl2 := hm1 (p * 7 + 3) (by omega); refine D7 D8 rfl ?_)
 refine I9 (i := 0) (l' := [tt,ff,ff,ff,ff,ff,ff,ff,ff,ff,ff,ff,ff,ff,ff,ff,ff,ff,ff,ff,ff,ff,ff,ff,ff,ff,ff,ff,ff,ff,ff,ff,ff,ff,ff,ff,ff,ff,ff,ff,ff,ff,ff,ff,ff,ff]) rfl D1 (qM rfl) rfl (by kernel_rfl) rfl rfl ?_
 refine aP 1 rfl (X4 rfl) rfl ?_
 refine aP 2 rfl (B5 rfl) rfl ?_
 refine aL 3 rfl (C4 rfl rfl) rfl ?_
 refine aP 4 rfl (qM rfl) rfl ?_
 refine aP 5 rfl (qM rfl) rfl ?_
 refine aP 6 rfl (X4 rfl) rfl ?_
 refine aP 7 rfl (B5 rfl) rfl ?_
 refine aL 8 rfl (C4 rfl rfl) rfl ?_
 refine aP 9 rfl (pLn rfl rfl) rfl ?_
 refine aP 10 rfl (A5s rfl rfl (by omega)) rfl ?_
 refine aP 11 rfl (B4 rfl rfl rfl (by first | exact hl1 | exact hl2)) rfl ?_
 refine aL 12 rfl (A0p rfl rfl (hat1 _)) rfl ?_
 refine aP 13 rfl (A5E rfl rfl rfl (by omega) (by omega)) rfl ?_
 refine aP 14 rfl (A3p (n := 131) rfl rfl (by omega)) rfl ?_
 refine aP 15 rfl (qM rfl) rfl ?_
 refine aP 16 rfl (X4 rfl) rfl ?_
 refine aP 17 rfl (B5 rfl) rfl ?_
 refine aL 18 rfl (C4 rfl rfl) rfl ?_
 refine aP 19 rfl (qM rfl) rfl ?_
 refine aP 20 rfl (A3p (n := 7) rfl rfl (by omega)) rfl ?_
 refine aP 21 rfl (A1u (n := 3) rfl rfl (by omega)) rfl ?_
 refine aP 22 rfl (qM rfl) rfl ?_
 refine aP 23 rfl (X4 rfl) rfl ?_
 refine aP 24 rfl (B5 rfl) rfl ?_
 refine aL 25 rfl (C4 rfl rfl) rfl ?_
 refine aP 26 rfl (pLn rfl rfl) rfl ?_
 refine aP 27 rfl (A5s rfl rfl (by omega)) rfl ?_
 refine aP 28 rfl (B4 rfl rfl rfl (by first | exact hl1 | exact hl2)) rfl ?_
 refine aL 29 rfl (A0p rfl rfl (hat2 _)) rfl ?_
 refine aP 30 rfl (A5E rfl rfl rfl (by omega) (by omega)) rfl ?_
 refine aP 31 rfl (A3p (n := 1117) rfl rfl (by omega)) rfl ?_
 refine aP 32 rfl (A1u rfl rfl (by omega)) rfl ?_
 refine aP 33 rfl (qM rfl) rfl ?_
 refine aP 34 rfl (A3p (n := 29) rfl rfl (by omega)) rfl ?_
 refine aP 35 rfl (A1u rfl rfl (by omega)) rfl ?_
 refine aP 36 rfl (qM rfl) rfl ?_
 refine aP 37 rfl (qM rfl) rfl ?_
 refine aP 38 rfl (X4 rfl) rfl ?_
 refine aP 39 rfl (B5 rfl) rfl ?_
 refine aL 40 rfl (C4 rfl rfl) rfl ?_
 refine aP 41 rfl (pLn rfl rfl) rfl ?_
 refine aP 42 rfl (A5t rfl rfl (by omega) (by omega)) rfl ?_
 refine aP 43 rfl (A3p (n := 53) rfl rfl (by omega)) rfl ?_
 refine aP 44 rfl (A1u rfl rfl (by omega)) rfl ?_
 refine aP 45 rfl (qA rfl) rfl ?_
 refine A8 ?_
 refine sP (A5t (n := 64) rfl rfl (by omega) (by omega)) rfl rfl ?_
 refine sP (B2f rfl rfl (by omega) (by omega)) rfl rfl ?_
 refine B2 ?_
 refine sP (A3g rfl rfl (by omega)) rfl rfl ?_
 refine B1 ?_
 refine H2 (rT rfl) A0.refl ?_
 exact zq0
end Gw
end Go.Proofs.YtebfignffjhnhaaGreatDoor
namespace Go.Proofs.YtebfignffjhnhaaGreatDoor
open Go Go.RowKit Go.ChangeShapes Go.WideShapes Go.ChangeAt
namespace Gw
theorem B2g : Tryz.prog.cellsOf 5 = 1 := by kernel_rfl
theorem A7U {q : Nat → Value → Prop} : ∀ {n : Nat}, (∀ i, i < n → ∃ k : UInt8, q i (.int .u8 (k.toNat : Int))) → ∃ l : List UInt8, l.length = n ∧ ∀ i v, (N6 l)[i]? = some v → q i v
 | 0, _ => ⟨[], rfl, by simp [N6]⟩
 | n + 1, h => by
  obtain ⟨l, h1, h2⟩ := A7U (n := n) fun i hi => h i (by omega)
  obtain ⟨k, hk⟩ := h n (by omega)
  refine ⟨l ++ [k], by simp [h1], fun i v hv => ?_⟩
  rw [show N6 (l ++ [k]) = N6 l ++ [.int .u8 (k.toNat : Int)] from by simp [N6], List.getElem?_append] at hv
  split at hv
  ·exact h2 i v hv
  ·rename_i hi
   rw [A7T] at hi hv
   have : i - l.length = 0 := by
    have := (List.getElem?_eq_some_iff.1 hv).1; simp at this; omega
   rw [this] at hv; simp at hv; subst hv
   rw [show i = n by omega]; exact hk
section read2
variable {H : Type} {enc : TypeId × Value → H} {w : World} {sp : Nat → Bool} {held : Bool}
theorem B2h (n : Nat) (cs : List Value) (x : DataW H × List MemPlace) (h : DataW.trod enc Tryz.prog w 0 sp held n 44 cs = some x) : ∃ (l : List UInt8) (p : Option Addr) (c : Nat), cs = [.slice p l.length c] ∧ Sl (GW w) p l.length c 1 (N6 l) := by
 rcases DataW.trod_slice Tryz.underlying44 h with ⟨rfl, _⟩ | ⟨ad, len, cap, elems, rest, n', rfl, rfl, _, _, hlc, hcm, hel, hele, _, _⟩
 ·exact ⟨[], none, 0, rfl, Sl.nil _ _⟩
 ·rw [B2g] at hele
  obtain ⟨l, h1, h2⟩ := A7U (q := fun i v => w.cells? 0 (ad.add (i * 1)) 1 = some [v]) (n := len) fun i hi => by
   have := hele i hi
   rw [List.getElem?_eq_getElem (by omega)] at this
   obtain ⟨cs', c1, c2⟩ := Option.bind_eq_some_iff.1 this
   obtain ⟨k, rfl, _, hw⟩ := DataW.trod_int Tryz.underlying5 c2
   have hk : 0 ≤ k ∧ k < 256 := by
    have hw2 : (decide ((0 : Int) ≤ k) && decide (k ≤ (255 : Int))) = true := hw
    simp only [Bool.and_eq_true, decide_eq_true_eq] at hw2
    omega
   refine ⟨UInt8.ofNat k.toNat, ?_⟩
   rw [show ((UInt8.ofNat k.toNat).toNat : Int) = k from by
    rw [UInt8.toNat_ofNat']; omega]
   exact c1
  subst h1
  refine ⟨l, some ad, cap, rfl, ?_⟩
  have := B16 (w := w) (a := ad) (n := l.length) (c := cap) (sz := 1) (es := (N6 l).map fun v => [v]) (by simp [A7T]) (by omega) hlc hcm fun i e he => by
   rw [List.getElem?_map] at he
   cases hv : (N6 l)[i]? with
   | none => rw [hv] at he; simp at he
   | some v => rw [hv] at he; simp at he; subst he; exact h2 i v hv
  have hf : ((N6 l).map fun v => [v]).flatten = N6 l := by
   generalize N6 l = L
   induction L with
   | nil => rfl
   | cons a L ih => simp [ih]
  rwa [hf] at this
end read2
end Gw
end Go.Proofs.YtebfignffjhnhaaGreatDoor
namespace Go.Proofs.YtebfignffjhnhaaGreatDoor
namespace Gw
inductive GT where
 | any | int | bool
 | fn (a b : GT)
 | pr (a b : GT)
inductive GE where
 | var (x : ByteArray)
 | num (n : Int)
 | tru (b : Bool)
 | lam (x : ByteArray) (A : GT) (e : GE)
 | app (f a : GE)
 | ar (s : Bool) (a b : GE)
 | ite (c a b : GE)
 | pair (a b : GE)
 | part (s : Bool) (e : GE)
 | cast (A B : GT) (l : Int) (e : GE)
def GT.gr : GT → GT
 | .any => .any
 | .int => .int
 | .bool => .bool
 | .fn _ _ => .fn .any .any
 | .pr _ _ => .pr .any .any
def GT.Gd (t : GT) : Prop := t ≠ .any ∧ t.gr = t
inductive Co : GT → GT → Prop
 | l {b} : Co .any b
 | r {a} : Co a .any
 | int : Co .int .int
 | bool : Co .bool .bool
 | fn {a b a' b'} : Co a a' → Co b b' → Co (.fn a b) (.fn a' b')
 | pr {a b a' b'} : Co a a' → Co b b' → Co (.pr a b) (.pr a' b')
inductive Le : GT → GT → Prop
 | any {a} : Le a .any
 | int : Le .int .int
 | bool : Le .bool .bool
 | fn {a b a' b'} : Le a a' → Le b b' → Le (.fn a b) (.fn a' b')
 | pr {a b a' b'} : Le a a' → Le b b' → Le (.pr a b) (.pr a' b')
def GE.sub : GE → ByteArray → GE → GE
 | .var y, x, v => if y = x then v else .var y
 | .num n, _, _ => .num n
 | .tru b, _, _ => .tru b
 | .lam y A e, x, v => if y = x then .lam y A e else .lam y A (e.sub x v)
 | .app f a, x, v => .app (f.sub x v) (a.sub x v)
 | .ar s a b, x, v => .ar s (a.sub x v) (b.sub x v)
 | .ite c a b, x, v => .ite (c.sub x v) (a.sub x v) (b.sub x v)
 | .pair a b, x, v => .pair (a.sub x v) (b.sub x v)
 | .part s e, x, v => .part s (e.sub x v)
 | .cast A B l e, x, v => .cast A B l (e.sub x v)
inductive GV : GE → Prop
 | num {n} : GV (.num n)
 | tru {b} : GV (.tru b)
 | lam {x A e} : GV (.lam x A e)
 | pair {a b} : GV a → GV b → GV (.pair a b)
 | pf {a b c d l e} : GV e → GV (.cast (.fn a b) (.fn c d) l e)
 | pp {a b c d l e} : GV e → GV (.cast (.pr a b) (.pr c d) l e)
 | inj {A l e} : GV e → A.Gd → GV (.cast A .any l e)
def B2i (s : Bool) (m n : Int) : GE := if s = true then .tru (decide (m < n)) else .num ((m + n) % 1000)
inductive GS : GE → GE → Prop
 | app1 {f f' a} : GS f f' → GS (.app f a) (.app f' a)
 | app2 {f a a'} : GV f → GS a a' → GS (.app f a) (.app f a')
 | ar1 {s a a' b} : GS a a' → GS (.ar s a b) (.ar s a' b)
 | ar2 {s a b b'} : GV a → GS b b' → GS (.ar s a b) (.ar s a b')
 | ite1 {c c' a b} : GS c c' → GS (.ite c a b) (.ite c' a b)
 | pair1 {a a' b} : GS a a' → GS (.pair a b) (.pair a' b)
 | pair2 {a b b'} : GV a → GS b b' → GS (.pair a b) (.pair a b')
 | part1 {s e e'} : GS e e' → GS (.part s e) (.part s e')
 | cast1 {A B l e e'} : GS e e' → GS (.cast A B l e) (.cast A B l e')
 | beta {x A b v} : GV v → GS (.app (.lam x A b) v) (b.sub x v)
 | appx {a b c d l f v} : GV f → GV v → GS (.app (.cast (.fn a b) (.fn c d) l f) v) (.cast b d l (.app f (.cast c a (-l) v)))
 | ar {s m n} : GS (.ar s (.num m) (.num n)) (B2i s m n)
 | ite {b x y} : GS (.ite (.tru b) x y) (if b = true then x else y)
 | part {s a b} : GV a → GV b → GS (.part s (.pair a b)) (if s = true then b else a)
 | partx {s a b c d l e} : GV e → GS (.part s (.cast (.pr a b) (.pr c d) l e)) (.cast (if s = true then b else a) (if s = true then d else c) l (.part s e))
 | cid {A l v} : GV v → (A = .any ∨ A = .int ∨ A = .bool) → GS (.cast A A l v) v
 | up {A l v} : GV v → A ≠ .any → A.gr ≠ A → GS (.cast A .any l v) (.cast A.gr .any l (.cast A A.gr l v))
 | down {B l v} : GV v → B ≠ .any → B.gr ≠ B → GS (.cast .any B l v) (.cast B.gr B l (.cast .any B.gr l v))
 | hit {G l m w} : GV w → G.Gd → GS (.cast .any G l (.cast G .any m w)) w
inductive Ss : GE → GE → Prop
 | refl {e} : Ss e e
 | step {a b c} : GS a b → Ss b c → Ss a c
abbrev GC := ByteArray → Option (GT × GT)
def emp : GC := fun _ => none
def gup (Γ : GC) (x : ByteArray) (A A' : GT) : GC := fun y => if x = y then some (A, A') else Γ y
inductive GP : GC → GE → GE → GT → GT → Prop
 | var {Γ x A A'} : Γ x = some (A, A') → Le A A' → GP Γ (.var x) (.var x) A A'
 | num {Γ n} : GP Γ (.num n) (.num n) .int .int
 | tru {Γ b} : GP Γ (.tru b) (.tru b) .bool .bool
 | lam {Γ x A A' B B' e e'} : Le A A' → GP (gup Γ x A A') e e' B B' → GP Γ (.lam x A e) (.lam x A' e') (.fn A B) (.fn A' B')
 | app {Γ f f' a a' A A' B B'} : GP Γ f f' (.fn A B) (.fn A' B') → GP Γ a a' A A' → GP Γ (.app f a) (.app f' a') B B'
 | ar {Γ s a a' b b'} : GP Γ a a' .int .int → GP Γ b b' .int .int → GP Γ (.ar s a b) (.ar s a' b') (if s = true then .bool else .int) (if s = true then .bool else .int)
 | ite {Γ c c' a a' b b' A A'} : GP Γ c c' .bool .bool → GP Γ a a' A A' → GP Γ b b' A A' → GP Γ (.ite c a b) (.ite c' a' b') A A'
 | pair {Γ a a' b b' A A' B B'} : GP Γ a a' A A' → GP Γ b b' B B' → GP Γ (.pair a b) (.pair a' b') (.pr A B) (.pr A' B')
 | part {Γ s e e' A A' B B'} : GP Γ e e' (.pr A B) (.pr A' B') → GP Γ (.part s e) (.part s e') (if s = true then B else A) (if s = true then B' else A')
 | castL {Γ e e' A B A' l} : GP Γ e e' A A' → Co A B → Le B A' → GP Γ (.cast A B l e) e' B A'
 | castR {Γ e e' A A' B' l} : GP Γ e e' A A' → Co A' B' → Le A B' → GP Γ e (.cast A' B' l e') A B'
 | castB {Γ e e' A B A' B' l l'} : GP Γ e e' A A' → Co A B → Co A' B' → Le B B' → GP Γ (.cast A B l e) (.cast A' B' l' e') B B'
inductive GX where
 | n (n : Int) | b (b : Bool) | p | f
def GE.tx : GE → GX
 | .num n => .n n
 | .tru b => .b b
 | .pair _ _ => .p
 | .cast _ (.fn _ _) _ _ => .f
 | .cast _ (.pr _ _) _ _ => .p
 | .cast _ _ _ e => e.tx
 | _ => .f
theorem zq1 {Q : Prop} (h : Q := by exact ⟨by omega, fun j hj => by by_cases hji : j = i; (subst hji; assumption); exact hf j (by omega)⟩) : Q := h
theorem B2j (G : IM) (p : Option Addr) (n c : Nat) (es : List (List Value)) (hsl : D5 G p n c 2 es) (fid : FuncId) [B8 Tryz.prog fid] (us cs : List Value) (ins : List A5) (q : Nat → Bool)
  (hq : ∀ i e, es[i]? = some e → Fn Tryz.prog fid (us ++ [.agg ⟨e⟩] ++ cs) ins G (T9 (.bool (q i)) ins G)) :
  Fn Tryz.prog 204 [.slice p n c, .func (.func fid) ⟨us⟩ ⟨cs⟩] ins G (T9 (.int .i64 (A0s q n)) ins G) := by
 have hn := hsl.le
 refine C3 Tryz.func204 rfl Tryz.ntmps204 Tryz.results204 rfl ?_
 intro w0
 refine K5 ?_
 refine C1 ?_
 refine J8 (fun i : Nat => ⟨[(8, .int .i64 i), (7, .int .i64 n), (1, .func (.func fid) ⟨us⟩ ⟨cs⟩), (0, .slice p n c)], ins, G⟩) (fun i => i ≤ n ∧ ∀ j, j < i → q j = false) (fun i => n - i) 0 ?_ ?_ ?_
 exact E2
 exact ⟨by omega, by omega⟩
 rintro i ⟨hi, hf⟩
 refine A3 ?_
 refine sB (J1 rfl rfl) rfl rfl (fun h21 => ?_) (fun h21 => ?_)
 refine B2 ?_
 refine C1 ?_
 refine J4 ?_
 (obtain ⟨e, b, o, he, rfl, hl, _, hat, _⟩ := hsl.get (i := i) (by omega); refine sP (B4 rfl rfl rfl (by omega)) rfl rfl ?_)
 refine sL (A2 rfl rfl (hat _) hl) rfl rfl ?_
 refine A5l rfl rfl (hq i e he) A0g rfl rfl (fun h43 => ?_) (fun h43 => ?_)
 refine I0 ?_
 refine H2 (rT rfl) A0.refl ?_
 exact ⟨rfl, by rw [A7u (by omega) hf (by assumption)], rfl⟩
 refine B2 ?_
 refine sP (J0 rfl rfl (by omega) (by omega)) rfl rfl ?_
 refine A3 ?_
 refine J6 (i + 1) ?_ ?_ ?_
 exact E2
 exact zq1
 omega
 refine I0 ?_
 refine H2 (rT rfl) A0.refl ?_
 exact ⟨rfl, by rw [A5o (fun j hj => hf j (by omega))], rfl⟩
theorem B2k (G : IM) (p : Option Addr) (n c : Nat) (es : List (List Value)) (hsl : D5 G p n c 2 es) (fid : FuncId) [B8 Tryz.prog fid] (us cs : List Value) (ins : List A5) (q : Nat → Bool)
  (hq : ∀ i e, es[i]? = some e → Fn Tryz.prog fid (us ++ [.agg ⟨e⟩] ++ cs) ins G (T9 (.bool (q i)) ins G)) :
  Fn Tryz.prog 157 [.slice p n c, .func (.func fid) ⟨us⟩ ⟨cs⟩] ins G (T9 (.bool (decide (0 ≤ A0s q n))) ins G) := by
 refine C3 Tryz.func157 rfl Tryz.ntmps157 Tryz.results157 rfl ?_
 intro w0
 refine E0 ?_
 refine A15 rfl (B2j G p n c es hsl fid us cs ins q hq) A0g rfl rfl ?_
 refine sQ (A0L rfl rfl) rfl ?_
 refine B1 ?_
 refine H2 (rT rfl) A0.refl ?_
 exact ⟨rfl, rfl, rfl⟩
theorem A3q (G : IM) (p : Option Addr) (n c : Nat) (es : List (List Value)) (hsl : D5 G p n c 2 es) (fid : FuncId) [B8 Tryz.prog fid] (us cs : List Value) (ins : List A5) (f : Ty → Bool) (ks : List Ty)
  (hn : ks.length = n) {A : Bool} (hA : ks.all f = A) (hq : ∀ i e, es[i]? = some e → Fn Tryz.prog fid (us ++ [.agg ⟨e⟩] ++ cs) ins G (T9 (.bool (!f (ks.getD i B7))) ins G)) :
  Fn Tryz.prog 157 [.slice p n c, .func (.func fid) ⟨us⟩ ⟨cs⟩] ins G (T9 (.bool (!A)) ins G) := by
 subst hn hA
 rw [← A7x f ks B7]
 exact B2k G p _ c es hsl fid us cs ins _ hq
theorem A7V (G : IM) (p p' : Option Addr) (n c n' c' : Nat) (es es' : List (List Value)) (hsl : D5 G p n c 2 es) (hsl' : D5 G p' n' c' 2 es') (fid : FuncId) [B8 Tryz.prog fid] (us cs : List Value) (ins : List A5) (q : Nat → Bool)
  (A : Bool) (hA : A = true ↔ n = n' ∧ ∀ i, i < n → q i = true)
  (hq : ∀ i e e', es[i]? = some e → es'[i]? = some e' → Fn Tryz.prog fid (us ++ [.agg ⟨e⟩, .agg ⟨e'⟩] ++ cs) ins G (T9 (.bool (q i)) ins G)) :
  Fn Tryz.prog 203 [.slice p n c, .slice p' n' c', .func (.func fid) ⟨us⟩ ⟨cs⟩] ins G (T9 (.bool A) ins G) := by
 have hn := hsl.le
 have hn' := hsl'.le
 refine C3 Tryz.func203 rfl Tryz.ntmps203 Tryz.results203 rfl ?_
 intro w0
 refine N0 ?_
 refine sB (N9 rfl rfl) rfl rfl (fun h13 => ?_) (fun h13 => ?_)
 refine J2 ?_
 refine H2 (outs := ins) (rT rfl) (by first | exact A0.refl | exact A0.drop (A0.drop A0.refl)) ?_
 exact ⟨rfl, by (cases A with | false => rfl | true => exact absurd (hA.1 rfl).1 (by omega)), rfl⟩
 refine K5 ?_
 refine C1 (J8 (fun i : Nat => ⟨[(17, .int .i64 i), (16, .int .i64 n), (15, .slice p n c), (2, .func (.func fid) ⟨us⟩ ⟨cs⟩), (1, .slice p' n' c'), (0, .slice p n c)], ins, G⟩) (fun i => i ≤ n ∧ ∀ j, j < i → q j = true) (fun i => n - i) 0 ?_ ?_ ?_)
 exact E2
 exact ⟨by omega, by omega⟩
 rintro i ⟨hi, hf⟩
 refine A3 ?_
 refine sB (J1 rfl rfl) rfl rfl (fun h46 => ?_) (fun h46 => ?_)
 refine B2 ?_
 refine C1 ?_
 refine B6 ?_
 (obtain ⟨e, b, o, he, rfl, hl, _, hat, _⟩ := hsl.get (i := i) (by omega); refine sP (B4 rfl rfl rfl (by omega)) rfl rfl ?_)
 refine sL (A2 rfl rfl (hat _) hl) rfl rfl ?_
 refine sE (A6 rfl) rfl (fun b60 => ?_)
 refine E6 ?_
 refine Y2 rfl rfl rfl (by assumption) (by assumption) rfl (by repeat first | exact Sw.here | apply Sw.there) (by exact D6 (by symm; assumption)) ?_
 refine A8 ?_
 (obtain ⟨e', b', o', he', rfl, hl', _, hat', _⟩ := hsl'.get (i := i) (by omega); refine sP (B4 rfl rfl rfl (by omega)) rfl rfl ?_)
 refine sL (A2 rfl rfl (hat' _) hl') rfl rfl ?_
 refine sE (A6 rfl) rfl (fun b71 => ?_)
 refine Y2 rfl rfl rfl (by assumption) (by assumption) rfl (by repeat first | exact Sw.here | apply Sw.there) (by exact D6 (by symm; assumption)) ?_
 refine A9 ?_
 refine sL (A2 rfl rfl (B3 (by repeat first | exact mH | apply mT)) (by assumption)) rfl rfl ?_
 refine sL (A2 rfl rfl (B3 (by repeat first | exact mH | apply mT)) (by assumption)) rfl rfl ?_
 refine A5l rfl rfl (hq i e e' he he') B1G rfl rfl (fun h80 => ?_) (fun h80 => ?_)
 refine D4 ?_
 refine sP (J0 rfl rfl (by omega) (by omega)) rfl rfl ?_
 refine A3 ?_
 refine J6 (i + 1) ?_ ?_ ?_
 exact E2
 exact zq1
 omega
 refine I0 ?_
 refine H2 (outs := ins) (rT rfl) (by first | exact A0.refl | exact A0.drop (A0.drop A0.refl)) ?_
 exact ⟨rfl, by (cases A with | false => rfl | true => have h0 := (hA.1 rfl).2 i (by omega); simp_all), rfl⟩
 refine I0 ?_
 refine H2 (outs := ins) (rT rfl) (by first | exact A0.refl | exact A0.drop (A0.drop A0.refl)) ?_
 exact ⟨rfl, by rw [hA.2 ⟨by omega, fun j hj => hf j (by omega)⟩], rfl⟩
theorem A08 (n lo hi : Int) (G : IM) : Fn Tryz.prog 79 [.int .i64 n, .int .i64 lo, .int .i64 hi] [] G (I3 (.bool (P1 n lo hi)) G) := by
 refine C3 Tryz.func79 rfl Tryz.ntmps79 Tryz.results79 rfl ?_
 intro w0
 refine E0 ?_
 refine sB (Z4 rfl rfl) rfl rfl (fun h10 => ?_) (fun h10 => ?_)
 refine B6 ?_
 refine sB (Z4 rfl rfl) rfl rfl (fun h14 => ?_) (fun h14 => ?_)
 refine A8 ?_
 exact ⟨rfl, by simp [P1]; omega, rfl⟩
 refine A8 ?_
 exact ⟨rfl, by simp [P1]; omega, rfl⟩
 refine J2 ?_
 exact ⟨rfl, by simp [P1]; omega, rfl⟩
theorem A1v (k : Int) (G : IM) : Fn Tryz.prog 78 [.int .i64 k] [] G (I3 (.agg ⟨[.int .i64 k, .slice none 0 0]⟩) G) := by
 refine C3 Tryz.func78 rfl Tryz.ntmps78 Tryz.results78 rfl ?_
 intro w0
 refine A3 ?_
 refine sE (A6 rfl) rfl (fun b3 => ?_)
 refine J2 ?_
 refine M7 (rC rfl (A4 rfl rfl)) ?_
 exact ⟨rfl, rfl, rfl⟩
theorem B2l (n : Int) (G : IM) : Fn Tryz.prog 202 [.int .i64 n] [] G (I3 (.bool (A0Q n)) G) := by
 refine C3 Tryz.func202 rfl Tryz.ntmps202 Tryz.results202 rfl ?_
 intro w0
 refine D4 ?_
 refine F8 rfl (A08 _ _ _ _) rfl rfl (fun h9 => ?_) (fun h9 => ?_)
 refine E0 ?_
 exact ⟨rfl, by simp [A0Q, *], rfl⟩
 refine A3 ?_
 refine F8 rfl (A08 _ _ _ _) rfl rfl (fun h22 => ?_) (fun h22 => ?_)
 refine A8 ?_
 exact ⟨rfl, by simp [A0Q, *], rfl⟩
 refine A8 ?_
 exact ⟨rfl, by simp [A0Q, *], rfl⟩
theorem zq2 {Q : Prop} (h : Q := by exact ⟨rfl, by simp only [A0t]; (first | rw [decide_eq_true (by omega)] | rw [decide_eq_false (by omega)]), rfl⟩) : Q := h
theorem A7W (t : Ty) (G : IM) (cells : List Value) (hr : B9 G t cells) : Fn Tryz.prog 200 [.agg ⟨cells⟩] [] G (I3 (.bool (A0t t)) G) := by
 obtain ⟨p, c, es, rfl, hk, hsl, hkl⟩ := hr.open
 refine C3 Tryz.func200 rfl Tryz.ntmps200 Tryz.results200 rfl ?_
 intro w0
 refine A3 ?_
 refine sE (C8 rfl rfl) rfl (fun b3 => ?_)
 refine B2 ?_
 refine sB (qE rfl rfl) rfl rfl (fun h11 => ?_) (fun h11 => ?_)
 refine B1 ?_
 refine sB (qE rfl rfl) rfl rfl (fun h16 => ?_) (fun h16 => ?_)
 refine A8 ?_
 exact zq2
 refine A8 ?_
 exact zq2
 refine J4 ?_
 exact zq2
theorem zq3 {Q : Prop} (h : Q := by exact ⟨rfl, by simp only [A0P]; (try simp only [Int.toNat_zero] at *); (first | rw [decide_eq_true (by omega)] | rw [decide_eq_false (by omega)]), rfl⟩) : Q := h
theorem B2m (s : ByteArray) (G : IM) : Fn Tryz.prog 199 [.string s] [] G (I3 (.bool (A0P s)) G) := by
 refine C3 Tryz.func199 rfl Tryz.ntmps199 Tryz.results199 rfl ?_
 intro w0
 refine D4 ?_
 refine sQ (A10 rfl rfl) rfl (sB (qE rfl rfl) rfl rfl (fun h10 => ?_) (fun h10 => ?_))
 refine A3 ?_
 refine sP (A4c rfl rfl rfl (by omega) (A4k (by omega))) rfl rfl ?_
 refine sB (A0L rfl rfl) rfl rfl (fun h14 => ?_) (fun h14 => ?_)
 refine B6 ?_
 refine sP (A4c rfl rfl rfl (by omega) (A4k (by omega))) rfl rfl ?_
 refine sB (Z4 rfl rfl) rfl rfl (fun h19 => ?_) (fun h19 => ?_)
 refine A8 ?_
 exact zq3
 refine A8 ?_
 exact zq3
 refine J4 ?_
 exact zq3
 refine I0 ?_
 exact zq3
theorem A3r (G : IM) (e : List Value) (d : Int) (b : Bool) (bd : Nat) (hl : e.length = 2) (hd : 0 ≤ d ∧ d ≤ 5) (h : Fn Tryz.prog 113 [.agg ⟨e⟩, .int .i64 (d + 1)] [] G (I3 (.bool b) G)) :
  Fn Tryz.prog 158 [.agg ⟨e⟩, .pointer (some ⟨bd, 0, none⟩)] [.blk bd [.int .i64 d]] G (T9 (.bool (!b)) [.blk bd [.int .i64 d]] G) := by
 refine C3 Tryz.func158 rfl Tryz.ntmps158 Tryz.results158 rfl ?_
 intro w0
 refine A3 ?_
 refine sE (C8 rfl rfl) rfl (fun b3 => ?_)
 refine A9 ?_
 refine sL (A2 rfl rfl (B3 (by repeat first | exact mH | apply mT)) (by assumption)) rfl rfl ?_
 refine E6 ?_
 refine sP (J0 rfl rfl (by omega) (by omega)) rfl rfl ?_
 refine F8 rfl (h) rfl rfl (fun h12 => ?_) (fun h12 => ?_)
 refine A9 ?_
 refine H2 (rT rfl) (A0.cons (Pk.there Pk.here) A0.nil) ?_
 exact ⟨rfl, by simp [*], rfl⟩
 refine A9 ?_
 refine H2 (rT rfl) (A0.cons (Pk.there Pk.here) A0.nil) ?_
 exact ⟨rfl, by simp [*], rfl⟩
theorem U7 {Q : Prop} (h : Q := by exact ⟨rfl, by (rw [P2, A7y, hA]; have := A06 k; first | (rw [decide_eq_true (by omega), decide_eq_true (by omega)]; simp only [*]; done) | (rw [decide_eq_true (by omega), decide_eq_true (by omega)]; simp only [*]; rfl) | (rw [decide_eq_false (by omega)]; rfl) | (rw [decide_eq_true (by omega), decide_eq_false (by omega)]; rfl)), rfl⟩) : Q := h
theorem B2n : ∀ (t : Ty) (d : Int) (G : IM) (cells : List Value), 0 ≤ d ∧ d ≤ 5 → B9 G t cells →
  Fn Tryz.prog 113 [.agg ⟨cells⟩, .int .i64 d] [] G (I3 (.bool (P2 t d)) G) := by
 refine Ty.ind fun k ks ih d G cells hd hr => ?_
 obtain ⟨p, c, es, rfl, hk, hsl, hkl⟩ := hr.open
 simp only [Ty.k, Ty.ks] at hk hsl hkl ⊢
 have hn := hsl.le
 obtain ⟨A, hA⟩ : ∃ A, ks.all (P2 · (d + 1)) = A := ⟨_, rfl⟩
 refine C3 Tryz.func113 rfl Tryz.ntmps113 Tryz.results113 rfl ?_
 intro w0
 refine A3 ?_
 refine sE (C8 rfl rfl) rfl (fun b3 => ?_)
 (refine I7 (B1l rfl rfl rfl) rfl ?_; rintro _ ⟨b4, rfl⟩)
 refine I0 ?_
 refine C1 (tS (tS (tR (sB (qE rfl rfl) rfl rfl (fun h24 => ?_) (fun h24 => ?_)))))
 refine I0 ?_
 refine sB (Z4 rfl rfl) rfl rfl (fun h40 => ?_) (fun h40 => ?_)
 refine A9 ?_
 refine sB (qE rfl rfl) rfl rfl (fun h46 => ?_) (fun h46 => ?_)
 refine B1 ?_
 refine sQ (A2x rfl rfl) rfl (A3k rfl (A3q _ _ _ _ _ hsl _ [] _ [.blk b4 [.int .i64 d]] (P2 · (d + 1)) ks rfl hA (fun i e he => A3r _ _ _ _ _ (hsl.all e (List.mem_of_getElem? he)) hd (ih _ (hkl.inv he B7).1 _ _ _ (by omega) (hkl.inv he B7).2))) A0g rfl rfl (fun h52 => ?_) (fun h52 => ?_))
 simp only [Bool.not_eq_true', Bool.not_eq_false'] at h52
 refine B2 ?_
 exact U7
 simp only [Bool.not_eq_true', Bool.not_eq_false'] at h52
 refine B2 ?_
 exact U7
 refine K5 ?_
 exact U7
 refine A0h ?_
 exact U7
 refine A8 ?_
 refine sB (qE rfl rfl) rfl rfl (fun h109 => ?_) (fun h109 => ?_)
 refine I0 ?_
 refine sB (Z4 rfl rfl) rfl rfl (fun h125 => ?_) (fun h125 => ?_)
 refine A9 ?_
 refine sB (qE rfl rfl) rfl rfl (fun h131 => ?_) (fun h131 => ?_)
 refine B1 ?_
 refine sQ (A2x rfl rfl) rfl (A3k rfl (A3q _ _ _ _ _ hsl _ [] _ [.blk b4 [.int .i64 d]] (P2 · (d + 1)) ks rfl hA (fun i e he => A3r _ _ _ _ _ (hsl.all e (List.mem_of_getElem? he)) hd (ih _ (hkl.inv he B7).1 _ _ _ (by omega) (hkl.inv he B7).2))) A0g rfl rfl (fun h137 => ?_) (fun h137 => ?_))
 simp only [Bool.not_eq_true', Bool.not_eq_false'] at h137
 refine B2 ?_
 exact U7
 simp only [Bool.not_eq_true', Bool.not_eq_false'] at h137
 refine B2 ?_
 exact U7
 refine K5 ?_
 exact U7
 refine A0h ?_
 exact U7
 refine A9 ?_
 refine sB (qE rfl rfl) rfl rfl (fun h193 => ?_) (fun h193 => ?_)
 refine N0 ?_
 refine sB (Z4 rfl rfl) rfl rfl (fun h206 => ?_) (fun h206 => ?_)
 refine A9 ?_
 refine sB (qE rfl rfl) rfl rfl (fun h212 => ?_) (fun h212 => ?_)
 refine B1 ?_
 refine sQ (A2x rfl rfl) rfl (A3k rfl (A3q _ _ _ _ _ hsl _ [] _ [.blk b4 [.int .i64 d]] (P2 · (d + 1)) ks rfl hA (fun i e he => A3r _ _ _ _ _ (hsl.all e (List.mem_of_getElem? he)) hd (ih _ (hkl.inv he B7).1 _ _ _ (by omega) (hkl.inv he B7).2))) A0g rfl rfl (fun h218 => ?_) (fun h218 => ?_))
 simp only [Bool.not_eq_true', Bool.not_eq_false'] at h218
 refine B2 ?_
 exact U7
 simp only [Bool.not_eq_true', Bool.not_eq_false'] at h218
 refine B2 ?_
 exact U7
 refine K5 ?_
 exact U7
 refine A0h ?_
 exact U7
 refine B2 ?_
 refine sB (qE rfl rfl) rfl rfl (fun h276 => ?_) (fun h276 => ?_)
 refine I0 ?_
 refine sB (Z4 rfl rfl) rfl rfl (fun h292 => ?_) (fun h292 => ?_)
 refine A9 ?_
 refine sB (qE rfl rfl) rfl rfl (fun h298 => ?_) (fun h298 => ?_)
 refine B1 ?_
 refine sQ (A2x rfl rfl) rfl (A3k rfl (A3q _ _ _ _ _ hsl _ [] _ [.blk b4 [.int .i64 d]] (P2 · (d + 1)) ks rfl hA (fun i e he => A3r _ _ _ _ _ (hsl.all e (List.mem_of_getElem? he)) hd (ih _ (hkl.inv he B7).1 _ _ _ (by omega) (hkl.inv he B7).2))) A0g rfl rfl (fun h304 => ?_) (fun h304 => ?_))
 simp only [Bool.not_eq_true', Bool.not_eq_false'] at h304
 refine B2 ?_
 exact U7
 simp only [Bool.not_eq_true', Bool.not_eq_false'] at h304
 refine B2 ?_
 exact U7
 refine K5 ?_
 exact U7
 refine A0h ?_
 exact U7
 refine A9 ?_
 refine sB (qE rfl rfl) rfl rfl (fun h360 => ?_) (fun h360 => ?_)
 refine N0 ?_
 refine sB (Z4 rfl rfl) rfl rfl (fun h373 => ?_) (fun h373 => ?_)
 refine A9 ?_
 refine sB (qE rfl rfl) rfl rfl (fun h379 => ?_) (fun h379 => ?_)
 refine B1 ?_
 refine sQ (A2x rfl rfl) rfl (A3k rfl (A3q _ _ _ _ _ hsl _ [] _ [.blk b4 [.int .i64 d]] (P2 · (d + 1)) ks rfl hA (fun i e he => A3r _ _ _ _ _ (hsl.all e (List.mem_of_getElem? he)) hd (ih _ (hkl.inv he B7).1 _ _ _ (by omega) (hkl.inv he B7).2))) A0g rfl rfl (fun h385 => ?_) (fun h385 => ?_))
 simp only [Bool.not_eq_true', Bool.not_eq_false'] at h385
 refine B2 ?_
 exact U7
 simp only [Bool.not_eq_true', Bool.not_eq_false'] at h385
 refine B2 ?_
 exact U7
 refine K5 ?_
 exact U7
 refine A0h ?_
 exact U7
 refine J2 ?_
 refine sB (Z4 rfl rfl) rfl rfl (fun h446 => ?_) (fun h446 => ?_)
 refine A9 ?_
 refine sP (H9 rfl rfl (by omega)) rfl rfl ?_
 refine K5 ?_
 exact U7
 refine A0h ?_
 exact U7
theorem A3s (t : Ty) (G : IM) (cells : List Value) (hr : B9 G t cells) : Fn Tryz.prog 66 [.agg ⟨cells⟩] [] G (I3 (.bool (E9 t)) G) := by
 have hl := hr.len
 have hv := B2n t 1 G cells (by omega) hr
 refine C3 Tryz.func66 rfl Tryz.ntmps66 Tryz.results66 rfl ?_
 intro w0
 refine A3 ?_
 refine sE (C8 rfl rfl) rfl (fun b3 => ?_)
 refine A9 ?_
 refine sL (A2 rfl rfl (B3 (by repeat first | exact mH | apply mT)) (by assumption)) rfl rfl ?_
 refine H6 rfl (hv) rfl rfl ?_
 refine A9 ?_
 exact ⟨rfl, rfl, rfl⟩
theorem zq5 {Q : Prop} (h : Q := by exact ⟨rfl, by (rw [Y4, hA]; first | (rw [decide_eq_true (p := k = 1) (by omega)]; rfl) | (rw [decide_eq_false (p := k = 1) (by omega), decide_eq_true (p := k' = 1) (by omega)]; rfl) | (rw [decide_eq_false (p := k = 1) (by omega), decide_eq_false (p := k' = 1) (by omega), decide_eq_false (p := k = k') (by omega)]; rfl) | (rw [decide_eq_false (p := k = 1) (by omega), decide_eq_false (p := k' = 1) (by omega), decide_eq_true (p := k = k') (by omega)]; simp only [*]; rfl)), rfl⟩) : Q := h
theorem X7 : ∀ (t t' : Ty) (G : IM) (cells cells' : List Value), B9 G t cells → B9 G t' cells' →
  Fn Tryz.prog 154 [.agg ⟨cells⟩, .agg ⟨cells'⟩] [] G (I3 (.bool (K1 t t')) G) := by
 refine Ty.ind fun k ks ih t' G cells cells' hr hr' => ?_
 obtain ⟨k', ks'⟩ := t'
 obtain ⟨p, c, es, rfl, hk, hsl, hkl⟩ := hr.open
 obtain ⟨p', c', es', rfl, hk', hsl', hkl'⟩ := hr'.open
 simp only [Ty.k, Ty.ks] at hk hsl hkl hk' hsl' hkl' ⊢
 have hn := hsl.le
 have hn' := hsl'.le
 obtain ⟨A, hA⟩ : ∃ A, P4 ks ks' = A := ⟨_, rfl⟩
 have hA' : A = true ↔ ks.length = ks'.length ∧ ∀ i, i < ks.length → K1 (ks.getD i B7) (ks'.getD i B7) = true := by
  rw [← hA, A17]
  constructor
  ·rintro ⟨h1, h2⟩
   refine ⟨h1, fun i hi => ?_⟩
   have := h2 i hi (by omega)
   simpa [List.getD_eq_getElem?_getD, List.getElem?_eq_getElem hi, List.getElem?_eq_getElem (show i < ks'.length by omega)] using this
  ·rintro ⟨h1, h2⟩
   refine ⟨h1, fun i hi hi' => ?_⟩
   have := h2 i hi
   simpa [List.getD_eq_getElem?_getD, List.getElem?_eq_getElem hi, List.getElem?_eq_getElem hi'] using this
 refine C3 Tryz.func154 rfl Tryz.ntmps154 Tryz.results154 rfl ?_
 intro w0
 refine A3 ?_
 refine sE (C8 rfl rfl) rfl (fun b3 => ?_)
 refine sE (C8 rfl rfl) rfl (fun b4 => ?_)
 refine B2 ?_
 refine sB (qE rfl rfl) rfl rfl (fun h12 => ?_) (fun h12 => ?_)
 refine A2D ?_
 exact zq5
 refine B6 ?_
 refine sB (qE rfl rfl) rfl rfl (fun h41 => ?_) (fun h41 => ?_)
 refine Z5 ?_
 exact zq5
 refine A8 ?_
 refine sB (qE rfl rfl) rfl rfl (fun h69 => ?_) (fun h69 => ?_)
 refine A9 ?_
 refine F8 rfl (A7V _ _ _ _ _ _ _ _ _ hsl hsl' _ [] [] [] (fun i => K1 (ks.getD i B7) (ks'.getD i B7)) A hA' (fun i e e' he he' => ih _ (hkl.inv he B7).1 _ _ _ _ (hkl.inv he B7).2 (hkl'.inv he' B7).2)) rfl rfl (fun h75 => ?_) (fun h75 => ?_)
 refine B2 ?_
 exact zq5
 refine B2 ?_
 exact zq5
 refine K5 ?_
 exact zq5
theorem zq6 {Q : Prop} (h : Q := by exact ⟨rfl, by simp only [A1J]; simp only [*, Bool.true_and, Bool.false_and, Bool.and_true], rfl⟩) : Q := h
theorem B2o (t t' : Ty) (G : IM) (cells cells' : List Value) (hr : B9 G t cells) (hr' : B9 G t' cells') :
  Fn Tryz.prog 201 [.agg ⟨cells⟩, .agg ⟨cells'⟩] [] G (I3 (.bool (A1J t t')) G) := by
 have hl := hr.len
 have hl' := hr'.len
 have hv := A3s t G cells hr
 have hv' := A3s t' G cells' hr'
 have hc := X7 t t' G cells cells' hr hr'
 refine C3 Tryz.func201 rfl Tryz.ntmps201 Tryz.results201 rfl ?_
 intro w0
 refine A3 ?_
 refine sE (C8 rfl rfl) rfl (fun b3 => ?_)
 refine sE (C8 rfl rfl) rfl (fun b4 => ?_)
 refine A9 ?_
 refine sL (A2 rfl rfl (B3 (by repeat first | exact mH | apply mT)) (by assumption)) rfl rfl ?_
 refine F8 rfl (hv) rfl rfl (fun h11 => ?_) (fun h11 => ?_)
 refine E6 ?_
 refine sL (A2 rfl rfl (B3 (by repeat first | exact mH | apply mT)) (by assumption)) rfl rfl ?_
 refine F8 rfl (hv') rfl rfl (fun h14 => ?_) (fun h14 => ?_)
 refine A3 ?_
 refine sL (A2 rfl rfl (B3 (by repeat first | exact mH | apply mT)) (by assumption)) rfl rfl ?_
 refine sL (A2 rfl rfl (B3 (by repeat first | exact mH | apply mT)) (by assumption)) rfl rfl ?_
 refine F8 rfl (hc) rfl rfl (fun h19 => ?_) (fun h19 => ?_)
 refine A8 ?_
 exact zq6
 refine A8 ?_
 exact zq6
 refine J4 ?_
 exact zq6
 refine J3 ?_
 exact zq6
theorem B2p (k : Int) (G : IM) (hk : E8 k) : Fn Tryz.prog 198 [.int .i64 k] [] G (I3 (.int .i64 (D9 k)) G) := by
 unfold E8 at hk
 refine C3 Tryz.func198 rfl Tryz.ntmps198 Tryz.results198 rfl ?_
 intro w0
 refine E0 ?_
 refine F8 rfl (A08 _ _ _ _) rfl rfl (fun h10 => ?_) (fun h10 => ?_)
 refine D4 ?_
 (refine I7 (C7 rfl rfl rfl (by omega) (by unfold maxLen; omega) rfl) rfl ?_; rintro _ ⟨b19, rfl⟩)
 refine E6 ?_
 (have hkk : 1 ≤ k ∧ k ≤ 14 := A3o (by assumption); refine sP (O5 rfl rfl (by omega) (by omega)) rfl rfl ?_)
 refine sP (A67 rfl rfl rfl (by omega) (by omega)) rfl rfl ?_
 refine sL (A0p rfl rfl (A68 (by repeat first | exact mH | apply mT) (B1O (by rw [Nat.zero_add, Nat.mul_one]; exact B1N hkk)))) rfl rfl ?_
 refine A9 ?_
 exact ⟨rfl, rfl, rfl⟩
 refine N0 ?_
 exact ⟨rfl, by rw [A5p (A7v (by assumption))], rfl⟩
theorem Q7 {Q : Prop} (h : Q := by exact ⟨rfl, by (cases R with | false => rfl | true => (exfalso; obtain ⟨i1, i2, i3, i4, i5, i6, i7, i8, i9⟩ := hi.1 rfl; first | omega | (have j := i2 (by omega); simp_all; done) | (have j := i3 (by omega); simp_all; done) | (have j := i4 (by omega); simp_all; done) | (have j := i5 (by omega); simp_all; done) | (have j := i6 (by omega); simp_all; done) | (have j := i7 (by omega); simp_all; done) | (have j := i8 (by omega); simp_all; done) | (have j := i9 (by omega); simp_all; done))), rfl⟩) : Q := h
theorem zq8 {Q : Prop} (h : Q := by exact ⟨rfl, by rw [hi.2 ⟨by omega, fun _ => by (first | assumption | (exfalso; omega) | exact Classical.not_not.1 (by assumption)), fun _ => by (first | assumption | (exfalso; omega) | exact Classical.not_not.1 (by assumption)), fun _ => by (first | assumption | (exfalso; omega) | exact Classical.not_not.1 (by assumption)), fun _ => by (first | assumption | (exfalso; omega) | exact Classical.not_not.1 (by assumption)), fun _ => by (first | assumption | (exfalso; omega) | exact Classical.not_not.1 (by assumption)), fun _ => by (first | assumption | (exfalso; omega) | exact Classical.not_not.1 (by assumption)), fun _ => ⟨by (first | assumption | (exfalso; omega)), by (first | assumption | (exfalso; omega))⟩, fun _ => ⟨by (first | assumption | (exfalso; omega)), by (first | assumption | omega)⟩⟩], rfl⟩) : Q := h
theorem B2q (k : Int) (nm : ByteArray) (num : Int) (ty fr : Ty) (lb : Int) (ks : List Tm) (G : IM) (cells : List Value) (hr : B0 G (.mk k nm num ty fr lb ks) cells) :
  Fn Tryz.prog 150 [.agg ⟨cells⟩] [] G (I3 (.bool (U2 k nm num ty fr lb ks.length)) G) := by
 obtain ⟨tk, tks⟩ := ty
 obtain ⟨fk, fks⟩ := fr
 obtain ⟨pt, ct, pf, cf, p, c, es, rfl, hk, hnum, hlb, hty, hfr, hsl, hkl⟩ := hr.open9
 have hi := @U3 k nm num (.mk tk tks) (.mk fk fks) lb ks.length
 obtain ⟨R, hR⟩ : ∃ R, U2 k nm num (.mk tk tks) (.mk fk fks) lb ks.length = R := ⟨_, rfl⟩
 rw [hR] at hi ⊢
 clear hR hr
 have o1 := B2p k G hk
 have o2 := B2m nm G
 have o3 := A3s _ G _ hty
 have o4 := A7W _ G _ hty
 have o5 := B2o _ _ G _ _ hfr hty
 have o6 := B2l lb G
 have o7 := A7W _ G _ hfr
 refine C3 Tryz.func150 rfl Tryz.ntmps150 Tryz.results150 rfl ?_
 intro w0
 refine A3 ?_
 refine sE (C8 rfl rfl) rfl (fun b3 => ?_)
 refine A9 ?_
 refine D7 D8 rfl ?_
 refine I9 (i := 0) (l' := [tt,ff,ff,ff,ff,ff,ff]) rfl D1 (B5 rfl) rfl (by kernel_rfl) rfl rfl ?_
 refine aL 1 rfl (C4 rfl rfl) rfl ?_
 refine aP 3 rfl (B5 rfl) rfl ?_
 refine aL 4 rfl (C4 rfl rfl) rfl ?_
 refine aP 5 rfl (pLn rfl rfl) rfl ?_
 refine A1 2 ?_
 refine M8 rfl rfl (o1) rfl rfl rfl ?_
 refine A0y (i := 6) (l' := [tt,tt,tt,tt,tt,tt,tt]) rfl D1 (N9 rfl rfl) rfl (by kernel_rfl) rfl rfl (fun h17 => ?_) (fun h17 => ?_)
 refine J4 ?_
 exact Q7
 refine E0 ?_
 refine sB (qE rfl rfl) rfl rfl (fun h39 => ?_) (fun h39 => ?_)
 refine N0 ?_
 refine sP (H9 rfl rfl (by omega)) rfl rfl ?_
 refine B6 ?_
 refine sP (H9 rfl rfl (by omega)) rfl rfl ?_
 refine B1 ?_
 refine sP (H9 rfl rfl (by omega)) rfl rfl ?_
 refine D4 ?_
 refine sP (H9 rfl rfl (by omega)) rfl rfl ?_
 refine K5 ?_
 refine sP (H9 rfl rfl (by omega)) rfl rfl ?_
 refine A8 ?_
 refine C1 ?_
 refine B2 ?_
 refine F8 rfl (o2) rfl rfl (fun h99 => ?_) (fun h99 => ?_)
 refine A0O ?_
 refine F8 rfl (A08 _ _ _ _) rfl rfl (fun h123 => ?_) (fun h123 => ?_)
 refine A5m ?_
 refine F8 rfl (o4) rfl rfl (fun h149 => ?_) (fun h149 => ?_)
 refine Y3 ?_
 refine B1 ?_
 refine F8 rfl (o7) rfl rfl (fun h184 => ?_) (fun h184 => ?_)
 refine B1 ?_
 refine sB (N9 rfl rfl) rfl rfl (fun h189 => ?_) (fun h189 => ?_)
 refine I0 ?_
 exact Q7
 refine J9 ?_
 exact zq8
 refine Z5 ?_
 exact Q7
 refine I0 ?_
 exact Q7
 refine J3 ?_
 exact Q7
 refine U0 ?_
 exact Q7
 refine B6 ?_
 refine sB (qE rfl rfl) rfl rfl (fun h297 => ?_) (fun h297 => ?_)
 refine D4 ?_
 refine sP (T8 rfl rfl (by omega)) rfl rfl ?_
 refine T1 ?_
 refine sP (H9 rfl rfl (by omega)) rfl rfl ?_
 refine K5 ?_
 refine sP (H9 rfl rfl (by omega)) rfl rfl ?_
 refine A8 ?_
 refine C1 ?_
 refine B2 ?_
 refine F8 rfl (o2) rfl rfl (fun h353 => ?_) (fun h353 => ?_)
 refine A0O ?_
 refine F8 rfl (A08 _ _ _ _) rfl rfl (fun h377 => ?_) (fun h377 => ?_)
 refine N0 ?_
 refine F8 rfl (o3) rfl rfl (fun h390 => ?_) (fun h390 => ?_)
 refine Y3 ?_
 refine T1 ?_
 refine F8 rfl (o7) rfl rfl (fun h438 => ?_) (fun h438 => ?_)
 refine B1 ?_
 refine sB (N9 rfl rfl) rfl rfl (fun h443 => ?_) (fun h443 => ?_)
 refine I0 ?_
 exact Q7
 refine J9 ?_
 exact zq8
 refine Z5 ?_
 exact Q7
 refine U0 ?_
 exact Q7
 refine J3 ?_
 exact Q7
 refine U0 ?_
 exact Q7
 refine D4 ?_
 refine sP (H9 rfl rfl (by omega)) rfl rfl ?_
 refine B6 ?_
 refine sB (qE rfl rfl) rfl rfl (fun h563 => ?_) (fun h563 => ?_)
 refine K5 ?_
 refine sP (H9 rfl rfl (by omega)) rfl rfl ?_
 refine K5 ?_
 refine sP (H9 rfl rfl (by omega)) rfl rfl ?_
 refine A8 ?_
 refine C1 ?_
 refine A0r ?_
 refine sB (A1q rfl rfl) rfl rfl (fun h620 => ?_) (fun h620 => ?_)
 refine T1 ?_
 exact Q7
 refine E0 ?_
 refine F8 rfl (A08 _ _ _ _) rfl rfl (fun h648 => ?_) (fun h648 => ?_)
 refine N0 ?_
 refine F8 rfl (o3) rfl rfl (fun h661 => ?_) (fun h661 => ?_)
 refine Y3 ?_
 refine T1 ?_
 refine F8 rfl (o7) rfl rfl (fun h709 => ?_) (fun h709 => ?_)
 refine B1 ?_
 refine sB (N9 rfl rfl) rfl rfl (fun h714 => ?_) (fun h714 => ?_)
 refine I0 ?_
 exact Q7
 refine J9 ?_
 exact zq8
 refine Z5 ?_
 exact Q7
 refine U0 ?_
 exact Q7
 refine J3 ?_
 exact Q7
 refine B1 ?_
 refine sB (qE rfl rfl) rfl rfl (fun h807 => ?_) (fun h807 => ?_)
 refine D4 ?_
 refine sP (T8 rfl rfl (by omega)) rfl rfl ?_
 refine K5 ?_
 refine sP (H9 rfl rfl (by omega)) rfl rfl ?_
 refine A8 ?_
 refine C1 ?_
 refine A0r ?_
 refine sB (A1q rfl rfl) rfl rfl (fun h859 => ?_) (fun h859 => ?_)
 refine T1 ?_
 exact Q7
 refine E0 ?_
 refine F8 rfl (A08 _ _ _ _) rfl rfl (fun h887 => ?_) (fun h887 => ?_)
 refine N0 ?_
 refine F8 rfl (o3) rfl rfl (fun h900 => ?_) (fun h900 => ?_)
 refine A7q ?_
 refine F8 rfl (o5) rfl rfl (fun h929 => ?_) (fun h929 => ?_)
 refine B1 ?_
 refine F8 rfl (o6) rfl rfl (fun h934 => ?_) (fun h934 => ?_)
 refine Y3 ?_
 refine A9 ?_
 exact zq8
 refine A0h ?_
 exact Q7
 refine A2D ?_
 exact Q7
 refine U0 ?_
 exact Q7
 refine J3 ?_
 exact Q7
 refine D4 ?_
 refine sP (H9 rfl rfl (by omega)) rfl rfl ?_
 refine K5 ?_
 refine sB (qE rfl rfl) rfl rfl (fun h1072 => ?_) (fun h1072 => ?_)
 refine D4 ?_
 refine C1 ?_
 refine A0r ?_
 refine sB (A1q rfl rfl) rfl rfl (fun h1103 => ?_) (fun h1103 => ?_)
 refine T1 ?_
 exact Q7
 refine E0 ?_
 refine F8 rfl (A08 _ _ _ _) rfl rfl (fun h1131 => ?_) (fun h1131 => ?_)
 refine A5m ?_
 refine F8 rfl (o4) rfl rfl (fun h1157 => ?_) (fun h1157 => ?_)
 refine Y3 ?_
 refine B1 ?_
 refine F8 rfl (o7) rfl rfl (fun h1192 => ?_) (fun h1192 => ?_)
 refine B1 ?_
 refine sB (N9 rfl rfl) rfl rfl (fun h1197 => ?_) (fun h1197 => ?_)
 refine I0 ?_
 exact Q7
 refine J9 ?_
 exact zq8
 refine Z5 ?_
 exact Q7
 refine I0 ?_
 exact Q7
 refine J3 ?_
 exact Q7
 refine A8 ?_
 refine C1 ?_
 refine A0r ?_
 refine sB (A1q rfl rfl) rfl rfl (fun h1311 => ?_) (fun h1311 => ?_)
 refine T1 ?_
 exact Q7
 refine E0 ?_
 refine F8 rfl (A08 _ _ _ _) rfl rfl (fun h1339 => ?_) (fun h1339 => ?_)
 refine A5m ?_
 refine F8 rfl (o4) rfl rfl (fun h1365 => ?_) (fun h1365 => ?_)
 refine Y3 ?_
 refine B1 ?_
 refine F8 rfl (o7) rfl rfl (fun h1400 => ?_) (fun h1400 => ?_)
 refine B1 ?_
 refine sB (N9 rfl rfl) rfl rfl (fun h1405 => ?_) (fun h1405 => ?_)
 refine I0 ?_
 exact Q7
 refine J9 ?_
 exact zq8
 refine Z5 ?_
 exact Q7
 refine I0 ?_
 exact Q7
 refine J3 ?_
 exact Q7
theorem zq9 {Q : Prop} (h : Q := by (rw [B1P (by rw [hR]; first | omega | exact Or.inr (Or.inr (Or.inr (by assumption)))) ]; exact ⟨rfl, rfl, rfl⟩)) : Q := h
theorem U8 {Q : Prop} (h : Q := by (show ks.length - (i + 1) < ks.length - i; omega)) : Q := h
theorem A7X (M D N : Int) (hM : 0 ≤ M ∧ M ≤ 1000) (hD : 0 ≤ D ∧ D ≤ 1000) (bc : Nat) : ∀ (t : Tm) (deep c : Int) (G : IM) (cells : List Value), 0 ≤ deep ∧ deep ≤ D + 1 → 0 ≤ c ∧ c ≤ M → B0 G t cells →
  Fn Tryz.prog 108 [.agg ⟨cells⟩, .int .i64 deep, .int .i64 M, .int .i64 D, .int .i64 N, .pointer (some ⟨bc, 0, none⟩)] [.blk bc [.int .i64 c]] G
   (T9 (.bool (R4 M D N t deep c).1) [.blk bc [.int .i64 (R4 M D N t deep c).2]] G) := by
 refine Tm.ind fun k nm num ty fr lb ks ih deep c G cells hd hc hr => ?_
 have hno := B2q k nm num ty fr lb ks G cells hr
 obtain ⟨tk, tks⟩ := ty
 obtain ⟨fk, fks⟩ := fr
 obtain ⟨pt, ct, pf, cf, p, cp, es, rfl, hk, hnum, hlb, hty, hfr, hsl, hkl⟩ := hr.open9
 have hn := hsl.le
 obtain ⟨R, hR⟩ : ∃ R, U2 k nm num (.mk tk tks) (.mk fk fks) lb ks.length = R := ⟨_, rfl⟩
 rw [hR] at hno
 refine C3 Tryz.func108 rfl Tryz.ntmps108 Tryz.results108 rfl ?_
 intro w0
 refine A3 ?_
 refine sE (C8 rfl rfl) rfl (fun b3 => ?_)
 refine A8 ?_
 refine sQ (X4 rfl) rfl ?_
 refine E6 ?_
 refine sP (J0 rfl rfl (by omega) (by omega)) rfl rfl ?_
 refine sQ (X4 rfl) rfl ?_
 refine B2 ?_
 refine sQ (X4 rfl) rfl ?_
 refine A3 ?_
 refine sB (X5 rfl rfl) rfl rfl (fun h24 => ?_) (fun h24 => ?_)
 refine A4i ?_
 refine H2 (outs := [.blk bc [.int .i64 _]]) (rT rfl) (A0.cons (by repeat (first | exact Pk.here | apply Pk.there)) A0.nil) ?_
 exact zq9
 refine B6 ?_
 refine sB (X5 rfl rfl) rfl rfl (fun h56 => ?_) (fun h56 => ?_)
 refine A7o ?_
 refine H2 (outs := [.blk bc [.int .i64 _]]) (rT rfl) (A0.cons (by repeat (first | exact Pk.here | apply Pk.there)) A0.nil) ?_
 exact zq9
 refine A9 ?_
 refine sB (qE rfl rfl) rfl rfl (fun h86 => ?_) (fun h86 => ?_)
 refine J9 ?_
 refine H2 (outs := [.blk bc [.int .i64 _]]) (rT rfl) (A0.cons (by repeat (first | exact Pk.here | apply Pk.there)) A0.nil) ?_
 exact zq9
 refine B6 ?_
 refine F8 rfl (hno) rfl rfl (fun h108 => ?_) (fun h108 => ?_)
 refine J9 ?_
 refine C1 ?_
 (have hmk := B1Q (M := M) (D := D) (N := N) (deep := deep) (c := c) (by omega) (hR.trans (by assumption)); refine J8 (fun (x : Nat × Int) => ⟨[(44, .int .i64 x.1), (43, .int .i64 ks.length), (42, .slice p ks.length cp), (5, .pointer (some ⟨bc, 0, none⟩)), (4, .int .i64 N), (3, .int .i64 D), (2, .int .i64 M), (1, .int .i64 deep)], [.blk bc [.int .i64 x.2]], G⟩) (fun x => x.1 ≤ ks.length ∧ 0 ≤ x.2 ∧ x.2 ≤ M ∧ S7 M D N ks (deep + 1) (c + 1) = S7 M D N (ks.drop x.1) (deep + 1) x.2) (fun x => ks.length - x.1) (0, c + 1) ?_ ?_ ?_)
 (simp only [I5]; exact E2)
 exact ⟨by simp, by simp; omega, by simp; omega, by simp⟩
 (rintro ⟨i, ci⟩ ⟨hi, hc0, hc1, hst⟩; simp only [] at hi hc0 hc1 hst ⊢)
 refine A3 ?_
 refine sB (J1 rfl rfl) rfl rfl (fun h132 => ?_) (fun h132 => ?_)
 refine B2 ?_
 refine C1 ?_
 refine A3 ?_
 (obtain ⟨b, o, e, rfl, hl, hat, hre, hgb⟩ := hsl.kidTm hkl (i := i) (by omega) (by omega); have hone := hre.one; have hle := A5q M D N ks[i] (deep + 1) ci hc0 hc1; refine sP (B4 rfl rfl rfl (by omega)) rfl rfl ?_)
 refine sL (A2 rfl rfl (hat _) hl) rfl rfl ?_
 refine sE (A6 rfl) rfl (fun b145 => ?_)
 refine Y2 rfl rfl rfl (by assumption) (by assumption) rfl (by repeat first | exact Sw.here | apply Sw.there) (by exact D6 (by symm; assumption)) ?_
 refine B1 ?_
 refine sL (A2 rfl rfl (B3 (by repeat first | exact mH | apply mT)) (by assumption)) rfl rfl ?_
 refine E6 ?_
 refine sP (J0 rfl rfl (by omega) (by omega)) rfl rfl ?_
 refine B1 ?_
 refine B1F rfl (ih ks[i] (List.getElem_mem _) (deep + 1) ci G e (by omega) (by omega) hre) (Pk.perm (by repeat (first | exact Pk.here | apply Pk.there))) rfl rfl (fun h158 => ?_) (fun h158 => ?_)
 refine D4 ?_
 refine sP (J0 rfl rfl (by omega) (by omega)) rfl rfl ?_
 refine A3 ?_
 refine J6 (i + 1, (R4 M D N ks[i] (deep + 1) ci).2) ?_ ?_ ?_
 (simp only [I5]; exact E2)
 exact ⟨by omega, by omega, hle.2.2 (by assumption), by rw [hst, B1R (by omega) (by assumption)]⟩
 exact U8
 refine I0 ?_
 refine H2 (outs := [.blk bc [.int .i64 _]]) (rT rfl) (A0.cons (by repeat (first | exact Pk.here | apply Pk.there)) A0.nil) ?_
 (rw [hmk, hst, B1S (by omega) (by assumption)]; exact ⟨rfl, rfl, rfl⟩)
 refine I0 ?_
 refine H2 (outs := [.blk bc [.int .i64 _]]) (rT rfl) (A0.cons (by repeat (first | exact Pk.here | apply Pk.there)) A0.nil) ?_
 (rw [hmk, hst, B1T (by omega)]; exact ⟨rfl, rfl, rfl⟩)
 refine N0 ?_
 refine H2 (outs := [.blk bc [.int .i64 _]]) (rT rfl) (A0.cons (by repeat (first | exact Pk.here | apply Pk.there)) A0.nil) ?_
 exact zq9
theorem A5G (t : Tm) (G : IM) (cells : List Value) (hr : B0 G t cells) : Fn Tryz.prog 64 [.agg ⟨cells⟩] [] G (I3 (.bool (M2 t)) G) := by
 have hl := hr.len
 refine C3 Tryz.func64 rfl Tryz.ntmps64 Tryz.results64 rfl ?_
 intro w0
 refine A3 ?_
 refine sE (C8 rfl rfl) rfl (fun b3 => ?_)
 refine A9 ?_
 refine sE (A6 rfl) rfl (fun b9 => ?_)
 refine A9 ?_
 refine sL (A2 rfl rfl (B3 (by repeat first | exact mH | apply mT)) (by assumption)) rfl rfl ?_
 refine A4h rfl (A7X 200 40 13 (by omega) (by omega) _ t 1 0 G cells (by omega) (by omega) hr) A0g rfl rfl ?_
 refine A9 ?_
 exact ⟨rfl, rfl, rfl⟩
theorem B2r (t : Tm) (G : IM) (cells : List Value) (hr : B0 G t cells) : Fn Tryz.prog 60 [.agg ⟨cells⟩] [] G (I3 (.bool (S1 t)) G) := by
 have hl := hr.len
 refine C3 Tryz.func60 rfl Tryz.ntmps60 Tryz.results60 rfl ?_
 intro w0
 refine A3 ?_
 refine sE (C8 rfl rfl) rfl (fun b3 => ?_)
 refine A9 ?_
 refine sE (A6 rfl) rfl (fun b9 => ?_)
 refine A9 ?_
 refine sL (A2 rfl rfl (B3 (by repeat first | exact mH | apply mT)) (by assumption)) rfl rfl ?_
 refine A4h rfl (A7X 30 12 14 (by omega) (by omega) _ t 1 0 G cells (by omega) (by omega) hr) A0g rfl rfl ?_
 refine A9 ?_
 exact ⟨rfl, rfl, rfl⟩
end Gw
end Go.Proofs.YtebfignffjhnhaaGreatDoor
