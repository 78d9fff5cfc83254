/-
  The data of the program: types and terms as trees, and how they lie in memory. What the functions of the program compute, in plain words over trees. Terms in memory of their own; slices that were made, filled and given up. The laws' mark texts: the letter m and a number's digits. Lists of paths: what they are in plain words, and how fresh ones lie in memory. The laws' comparisons, at data that are the same. Data that the call owns, block by block: what the laws' marking writes. The laws' marking of types. The laws' marking of terms. The laws' marking of terms and paths, and the reading of the marks. The laws' measure of arguments. Arguments that can be read as data lie in memory as trees do; a law that answers true in memory that was there before meets its row. strconv.Itoa of a number from 0 to 999 is its decimal digits, where the library's table lies as it was laid. The library's tables as the rows list them. Fresh data taken back into the call's own hands, and given up again; sizes. The laws' copies of types and terms. The functions on types and the small tests of terms: each computes what the plain words say.
-/
import Derived.Test.YtmnfamimopcldaaGreatDoorKb0
import Derived.Laws.BytesArg
import Derived.WalkKit
import Derived.ProofKit
import Derived.OpenShut
import Derived.Carry
import Derived.Test.YtmnfamimopcldaaGreatDoorShelf
import Derived.Test.YtmnfamimopcldaaGreatDoorRows
import Derived.Deep.DeepHandedRow
import Derived.Lib.LaidTab
import Derived.Stop.LaidErr
set_option linter.unusedVariables false
set_option linter.unusedSimpArgs false
set_option maxHeartbeats 0
set_option maxRecDepth 100000
set_option synthInstance.maxSize 4000
set_option synthInstance.maxHeartbeats 0
namespace Go.Proofs.YtmnfamimopcldaaGreatDoor
open Go Go.RowKit
namespace Gw

/-- A slice of elements of sz cells each, in blocks that no longer change. -/
structure SlE (G : IM) (p : Option Addr) (n c sz : Nat) (es : List (List Value)) : Prop where
 sl : Sl G p n c sz es.flatten
 len : es.length = n
 all : ∀ e ∈ es, e.length = sz
 one : ∀ e ∈ es, e.all (·.oneCell') = true

theorem SlE.mono {G G' : IM} {p : Option Addr} {n c sz : Nat} {es : List (List Value)} (h : SlE G p n c sz es) (hg : IMle G G') : SlE G' p n c sz es := ⟨h.sl.mono hg, h.len, h.all, h.one⟩
theorem SlE.nil (G : IM) (sz : Nat) : SlE G none 0 0 sz [] := ⟨Sl.nil G sz, rfl, by simp, by simp⟩

theorem flat_get {sz : Nat} : ∀ {es : List (List Value)}, (∀ e ∈ es, e.length = sz) → ∀ {i : Nat} {e : List Value}, es[i]? = some e → ∀ j v, e[j]? = some v → es.flatten[i * sz + j]? = some v
 | [], _, i, e, h, _, _, _ => by simp at h
 | a :: r, hall, 0, e, h, j, v, hv => by
  simp at h; subst h
  have : j < a.length := (List.getElem?_eq_some_iff.1 hv).1
  simp [List.getElem?_append, this]
  simpa [List.getElem?_eq_getElem this] using hv
 | a :: r, hall, i + 1, e, h, j, v, hv => by
  have ih := flat_get (es := r) (fun x hx => hall x (List.mem_cons_of_mem _ hx)) (i := i) (e := e) (by simpa using h) j v hv
  have ha := hall a List.mem_cons_self
  rw [List.flatten_cons, List.getElem?_append, if_neg (by rw [ha, Nat.succ_mul]; omega)]
  rw [show (i + 1) * sz + j - a.length = i * sz + j by rw [ha, Nat.succ_mul]; omega]
  exact ih

theorem SlE.at {G : IM} {p : Option Addr} {n c sz : Nat} {es : List (List Value)} (h : SlE G p n c sz es) {i : Nat} {e : List Value} (hi : es[i]? = some e) :
  ∃ b o, p = some ⟨b, o, none⟩ ∧ ∀ hp, At hp G b (o + i * sz) e := by
 have hlt : i < es.length := (List.getElem?_eq_some_iff.1 hi).1
 obtain ⟨_, _, _, h4⟩ := h.sl
 have hn := h.len
 rcases h4 with h0 | ⟨b, o, full, hp, hg, hf⟩
 ·omega
 ·refine ⟨b, o, hp, fun hp => at_im hg fun j v hv => ?_⟩
  rw [Nat.add_assoc]
  exact hf _ v (flat_get h.all hi j v hv)

theorem SlE.get {G : IM} {p : Option Addr} {n c sz : Nat} {es : List (List Value)} (h : SlE G p n c sz es) {i : Nat} (hi : i < n) :
  ∃ e b o, es[i]? = some e ∧ p = some ⟨b, o, none⟩ ∧ e.length = sz ∧ e.all (·.oneCell') = true ∧ (∀ hp, At hp G b (o + i * sz) e) ∧ G b ≠ none := by
 have hlt : i < es.length := by rw [h.len]; exact hi
 have he : es[i]? = some es[i] := List.getElem?_eq_getElem hlt
 obtain ⟨b, o, h1, h2⟩ := h.at he
 refine ⟨es[i], b, o, he, h1, h.all _ (List.getElem_mem hlt), h.one _ (List.getElem_mem hlt), h2, ?_⟩
 obtain ⟨_, _, _, h4⟩ := h.sl
 rcases h4 with h0 | ⟨b', o', full, hp, hg, hf⟩
 ·omega
 ·rw [h1] at hp; cases hp; rw [hg]; simp
theorem SlE.le {G : IM} {p : Option Addr} {n c sz : Nat} {es : List (List Value)} (h : SlE G p n c sz es) : n ≤ 9223372036854775807 := by
 have h1 := h.sl.2.1; have h2 := h.sl.2.2.1; unfold maxLen at h2; omega

/-- An own slice, given up, element by element. -/
theorem SlE.of {G : IM} {p : Option Addr} {n c sz : Nat} {es : List (List Value)} (h : Sl G p n c sz es.flatten) (hl : es.length = n) (ha : ∀ e ∈ es, e.length = sz) (ho : ∀ e ∈ es, e.all (·.oneCell') = true) : SlE G p n c sz es := ⟨h, hl, ha, ho⟩

/-- Numbers that Go's int holds. -/
def I64 (n : Int) : Prop := -9223372036854775808 ≤ n ∧ n ≤ 9223372036854775807

inductive Ty where
 | mk (k : Int) (ks : List Ty)

def Ty.k : Ty → Int | .mk k _ => k
def Ty.ks : Ty → List Ty | .mk _ ks => ks

inductive Tm where
 | mk (k : Int) (nm : ByteArray) (num : Int) (ty fr : Ty) (lb : Int) (ks : List Tm)

def Tm.k : Tm → Int | .mk k _ _ _ _ _ _ => k
def Tm.nm : Tm → ByteArray | .mk _ n _ _ _ _ _ => n
def Tm.num : Tm → Int | .mk _ _ n _ _ _ _ => n
def Tm.ty : Tm → Ty | .mk _ _ _ t _ _ _ => t
def Tm.fr : Tm → Ty | .mk _ _ _ _ f _ _ => f
def Tm.lb : Tm → Int | .mk _ _ _ _ _ l _ => l
def Tm.ks : Tm → List Tm | .mk _ _ _ _ _ _ ks => ks

/- No list of the data is too long. -/
mutual
def Ty.small : Ty → Prop
 | .mk _ ks => ks.length ≤ 4294967296 ∧ Ty.smallL ks
def Ty.smallL : List Ty → Prop
 | [] => True
 | t :: ts => t.small ∧ Ty.smallL ts
end
mutual
def Tm.small : Tm → Prop
 | .mk _ nm _ ty fr _ ks => nm.size ≤ 4294967296 ∧ ty.small ∧ fr.small ∧ ks.length ≤ 4294967296 ∧ Tm.smallL ks
def Tm.smallL : List Tm → Prop
 | [] => True
 | t :: ts => t.small ∧ Tm.smallL ts
end
theorem Ty.smallL_mem : ∀ {ts : List Ty}, Ty.smallL ts → ∀ t ∈ ts, t.small
 | [], _, t, h => by simp at h
 | t' :: ts, h, t, ht => by
  simp only [Ty.smallL] at h
  rcases List.mem_cons.1 ht with rfl | ht
  ·exact h.1
  ·exact Ty.smallL_mem h.2 t ht
theorem Tm.smallL_mem : ∀ {ts : List Tm}, Tm.smallL ts → ∀ t ∈ ts, t.small
 | [], _, t, h => by simp at h
 | t' :: ts, h, t, ht => by
  simp only [Tm.smallL] at h
  rcases List.mem_cons.1 ht with rfl | ht
  ·exact h.1
  ·exact Tm.smallL_mem h.2 t ht

mutual
def RTy (G : IM) : Ty → List Value → Prop
 | .mk k ks, cells => ∃ p c es, cells = [.int .i64 k, .slice p ks.length c] ∧ I64 k ∧ SlE G p ks.length c 2 es ∧ RTyL G ks es
def RTyL (G : IM) : List Ty → List (List Value) → Prop
 | [], es => es = []
 | t :: ts, es => ∃ a r, es = a :: r ∧ RTy G t a ∧ RTyL G ts r
end

mutual
def RTm (G : IM) : Tm → List Value → Prop
 | .mk k nm num ty fr lb ks, cells => ∃ tc fc p c es, cells = [.int .i64 k, .string nm, .int .i64 num] ++ tc ++ fc ++ [.int .i64 lb, .slice p ks.length c] ∧ I64 k ∧ I64 num ∧ I64 lb ∧ RTy G ty tc ∧ RTy G fr fc ∧ SlE G p ks.length c 9 es ∧ RTmL G ks es
def RTmL (G : IM) : List Tm → List (List Value) → Prop
 | [], es => es = []
 | t :: ts, es => ∃ a r, es = a :: r ∧ RTm G t a ∧ RTmL G ts r
end

mutual
theorem RTy.mono {G G' : IM} (hg : IMle G G') : ∀ {t : Ty} {cells : List Value}, RTy G t cells → RTy G' t cells
 | .mk k ks, cells, h => by
  simp only [RTy] at h ⊢
  obtain ⟨p, c, es, h1, h2, h3, h4⟩ := h
  exact ⟨p, c, es, h1, h2, h3.mono hg, RTyL.mono hg h4⟩
theorem RTyL.mono {G G' : IM} (hg : IMle G G') : ∀ {ts : List Ty} {es : List (List Value)}, RTyL G ts es → RTyL G' ts es
 | [], es, h => by simpa only [RTyL] using h
 | t :: ts, es, h => by
  simp only [RTyL] at h ⊢
  obtain ⟨a, r, h1, h2, h3⟩ := h
  exact ⟨a, r, h1, RTy.mono hg h2, RTyL.mono hg h3⟩
end
mutual
theorem RTm.mono {G G' : IM} (hg : IMle G G') : ∀ {t : Tm} {cells : List Value}, RTm G t cells → RTm G' t cells
 | .mk k nm num ty fr lb ks, cells, h => by
  simp only [RTm] at h ⊢
  obtain ⟨tc, fc, p, c, es, h1, h2, h3, h4, h5, h6, h7, h8⟩ := h
  exact ⟨tc, fc, p, c, es, h1, h2, h3, h4, h5.mono hg, h6.mono hg, h7.mono hg, RTmL.mono hg h8⟩
theorem RTmL.mono {G G' : IM} (hg : IMle G G') : ∀ {ts : List Tm} {es : List (List Value)}, RTmL G ts es → RTmL G' ts es
 | [], es, h => by simpa only [RTmL] using h
 | t :: ts, es, h => by
  simp only [RTmL] at h ⊢
  obtain ⟨a, r, h1, h2, h3⟩ := h
  exact ⟨a, r, h1, RTm.mono hg h2, RTmL.mono hg h3⟩
end

theorem RTy.open {G : IM} {t : Ty} {cells : List Value} (h : RTy G t cells) : ∃ p c es, cells = [.int .i64 t.k, .slice p t.ks.length c] ∧ I64 t.k ∧ SlE G p t.ks.length c 2 es ∧ RTyL G t.ks es := by
 cases t; simpa only [RTy, Ty.k, Ty.ks] using h
theorem RTm.open {G : IM} {t : Tm} {cells : List Value} (h : RTm G t cells) : ∃ pt ct et pf cf ef p c es,
  cells = [.int .i64 t.k, .string t.nm, .int .i64 t.num, .int .i64 t.ty.k, .slice pt t.ty.ks.length ct, .int .i64 t.fr.k, .slice pf t.fr.ks.length cf, .int .i64 t.lb, .slice p t.ks.length c] ∧
  I64 t.k ∧ I64 t.num ∧ I64 t.lb ∧ (I64 t.ty.k ∧ SlE G pt t.ty.ks.length ct 2 et ∧ RTyL G t.ty.ks et) ∧ (I64 t.fr.k ∧ SlE G pf t.fr.ks.length cf 2 ef ∧ RTyL G t.fr.ks ef) ∧ SlE G p t.ks.length c 9 es ∧ RTmL G t.ks es := by
 obtain ⟨k, nm, num, ty, fr, lb, ks⟩ := t
 simp only [RTm] at h
 obtain ⟨tc, fc, p, c, es, h1, h2, h3, h4, h5, h6, h7, h8⟩ := h
 obtain ⟨pt, ct, et, rfl, t1, t2, t3⟩ := h5.open
 obtain ⟨pf, cf, ef, rfl, f1, f2, f3⟩ := h6.open
 exact ⟨pt, ct, et, pf, cf, ef, p, c, es, h1, h2, h3, h4, ⟨t1, t2, t3⟩, ⟨f1, f2, f3⟩, h7, h8⟩
theorem RTm.open9 {G : IM} {k : Int} {nm : ByteArray} {num : Int} {tk : Int} {tks : List Ty} {fk : Int} {fks : List Ty} {lb : Int} {ks : List Tm} {cells : List Value} (h : RTm G (.mk k nm num (.mk tk tks) (.mk fk fks) lb ks) cells) :
  ∃ pt ct pf cf p c es, cells = [.int .i64 k, .string nm, .int .i64 num, .int .i64 tk, .slice pt tks.length ct, .int .i64 fk, .slice pf fks.length cf, .int .i64 lb, .slice p ks.length c] ∧
  I64 k ∧ I64 num ∧ I64 lb ∧ RTy G (.mk tk tks) [.int .i64 tk, .slice pt tks.length ct] ∧ RTy G (.mk fk fks) [.int .i64 fk, .slice pf fks.length cf] ∧ SlE G p ks.length c 9 es ∧ RTmL G ks es := by
 obtain ⟨pt, ct, et, pf, cf, ef, p, c, es, h1, h2, h3, h4, ⟨t1, t2, t3⟩, ⟨f1, f2, f3⟩, h7, h8⟩ := h.open
 simp only [Tm.k, Tm.nm, Tm.num, Tm.ty, Tm.fr, Tm.lb, Tm.ks, Ty.k, Ty.ks] at h1 h2 h3 h4 t1 t2 t3 f1 f2 f3 h7 h8
 exact ⟨pt, ct, pf, cf, p, c, es, h1, h2, h3, h4, by simp only [RTy]; exact ⟨_, _, et, rfl, t1, t2, t3⟩, by simp only [RTy]; exact ⟨_, _, ef, rfl, f1, f2, f3⟩, h7, h8⟩
theorem RTy.len {G : IM} {t : Ty} {cells : List Value} (h : RTy G t cells) : cells.length = 2 := by
 obtain ⟨_, _, _, rfl, _⟩ := h.open; rfl
theorem RTm.len {G : IM} {t : Tm} {cells : List Value} (h : RTm G t cells) : cells.length = 9 := by
 obtain ⟨_, _, _, _, _, _, _, _, _, rfl, _⟩ := h.open; rfl

theorem RTyL.len {G : IM} : ∀ {ts : List Ty} {es : List (List Value)}, RTyL G ts es → es.length = ts.length
 | [], es, h => by simp only [RTyL] at h; subst h; rfl
 | t :: ts, es, h => by
  simp only [RTyL] at h
  obtain ⟨a, r, rfl, _, h3⟩ := h
  simp [h3.len]
theorem RTmL.len {G : IM} : ∀ {ts : List Tm} {es : List (List Value)}, RTmL G ts es → es.length = ts.length
 | [], es, h => by simp only [RTmL] at h; subst h; rfl
 | t :: ts, es, h => by
  simp only [RTmL] at h
  obtain ⟨a, r, rfl, _, h3⟩ := h
  simp [h3.len]
theorem RTyL.get {G : IM} : ∀ {ts : List Ty} {es : List (List Value)}, RTyL G ts es → ∀ {i : Nat} {t : Ty}, ts[i]? = some t → ∃ e, es[i]? = some e ∧ RTy G t e
 | [], es, h, i, t, hi => by simp at hi
 | t' :: ts, es, h, i, t, hi => by
  simp only [RTyL] at h
  obtain ⟨a, r, rfl, h2, h3⟩ := h
  cases i with
  | zero => simp at hi; subst hi; exact ⟨a, rfl, h2⟩
  | succ i => obtain ⟨e, he, hr⟩ := h3.get (i := i) (by simpa using hi); exact ⟨e, by simpa using he, hr⟩
theorem RTmL.get {G : IM} : ∀ {ts : List Tm} {es : List (List Value)}, RTmL G ts es → ∀ {i : Nat} {t : Tm}, ts[i]? = some t → ∃ e, es[i]? = some e ∧ RTm G t e
 | [], es, h, i, t, hi => by simp at hi
 | t' :: ts, es, h, i, t, hi => by
  simp only [RTmL] at h
  obtain ⟨a, r, rfl, h2, h3⟩ := h
  cases i with
  | zero => simp at hi; subst hi; exact ⟨a, rfl, h2⟩
  | succ i => obtain ⟨e, he, hr⟩ := h3.get (i := i) (by simpa using hi); exact ⟨e, by simpa using he, hr⟩
theorem RTyL.all {G : IM} {ts : List Ty} {es : List (List Value)} (h : RTyL G ts es) : ∀ e ∈ es, e.length = 2 := by
 intro e he
 obtain ⟨i, hi⟩ := List.getElem?_of_mem he
 have hlt : i < ts.length := by have := (List.getElem?_eq_some_iff.1 hi).1; rw [h.len] at this; exact this
 obtain ⟨e', he', hr⟩ := h.get (i := i) (t := ts[i]) (by simp [hlt])
 rw [hi] at he'; cases he'; exact hr.len
theorem RTmL.all {G : IM} {ts : List Tm} {es : List (List Value)} (h : RTmL G ts es) : ∀ e ∈ es, e.length = 9 := by
 intro e he
 obtain ⟨i, hi⟩ := List.getElem?_of_mem he
 have hlt : i < ts.length := by have := (List.getElem?_eq_some_iff.1 hi).1; rw [h.len] at this; exact this
 obtain ⟨e', he', hr⟩ := h.get (i := i) (t := ts[i]) (by simp [hlt])
 rw [hi] at he'; cases he'; exact hr.len

theorem RTy.one {G : IM} {t : Ty} {cells : List Value} (h : RTy G t cells) : cells.all (·.oneCell') = true := by
 obtain ⟨_, _, _, rfl, _⟩ := h.open; rfl
theorem RTm.one {G : IM} {t : Tm} {cells : List Value} (h : RTm G t cells) : cells.all (·.oneCell') = true := by
 obtain ⟨_, _, _, _, _, _, _, _, _, rfl, _⟩ := h.open; rfl

theorem Ty.ind {C : Ty → Prop} (h : ∀ k ks, (∀ t ∈ ks, C t) → C (.mk k ks)) : ∀ t, C t
 | .mk k ks => h k ks fun t ht => Ty.ind h t
termination_by t => SizeOf.sizeOf t
decreasing_by
 have := List.sizeOf_lt_of_mem ht
 simp only [Ty.mk.sizeOf_spec]; omega
theorem Tm.ind {C : Tm → Prop} (h : ∀ k nm num ty fr lb ks, (∀ t ∈ ks, C t) → C (.mk k nm num ty fr lb ks)) : ∀ t, C t
 | .mk k nm num ty fr lb ks => h k nm num ty fr lb ks fun t ht => Tm.ind h t
termination_by t => SizeOf.sizeOf t
decreasing_by
 have := List.sizeOf_lt_of_mem ht
 simp only [Tm.mk.sizeOf_spec]; omega

/-- What is in G' and not in G. -/
def Dif (G' G : IM) : IM := fun b => match G b with | none => G' b | some _ => none
theorem Dif.le (G' G : IM) : IMle (Dif G' G) G' := by
 intro b l h
 unfold Dif at h
 split at h
 ·exact h
 ·cases h
theorem Dif.mono {G' G'' G : IM} (h : IMle G' G'') : IMle (Dif G' G) (Dif G'' G) := by
 intro b l hb
 unfold Dif at hb ⊢
 split at hb
 ·exact h b l hb
 ·cases hb
theorem Dif.anti {G' G G0 : IM} (h : IMle G0 G) : IMle (Dif G' G) (Dif G' G0) := by
 intro b l hb
 unfold Dif at hb ⊢
 split at hb
 ·rename_i h0
  cases h1 : G0 b with
  | none => exact hb
  | some l' => rw [h b l' h1] at h0; cases h0
 ·cases hb
theorem Dif.out {G' G : IM} {b : Nat} (h : Dif G' G b ≠ none) : G b = none := by
 unfold Dif at h
 split at h
 ·assumption
 ·exact absurd rfl h
theorem Sl.dif {G' G G0 : IM} {p : Option Addr} {n c sz : Nat} {cs : List Value} (h : Sl G' p n c sz cs) (hp : ∀ b ∈ vfp p, G b = none) (hle : IMle G0 G) : Sl (Dif G' G0) p n c sz cs := by
 obtain ⟨h1, h2, h3, h4⟩ := h
 refine ⟨h1, h2, h3, h4.imp id ?_⟩
 rintro ⟨b, o, full, rfl, e2, e3⟩
 refine ⟨b, o, full, rfl, ?_, e3⟩
 have hb := hp b (by simp [vfp])
 have h0 : G0 b = none := by
  cases h1 : G0 b with
  | none => rfl
  | some l => rw [hle b l h1] at hb; cases hb
 simp [Dif, h0, e2]

/- Data in memory of its own: every slice in a block that nothing else of it lies in; F: these blocks. -/
mutual
def STy (G : IM) : Ty → List Value → List Nat → Prop
 | .mk k ks, cells, F => ∃ p c es Fs, cells = [.int .i64 k, .slice p ks.length c] ∧ I64 k ∧ SlE G p ks.length c 2 es ∧ STyL G ks es Fs ∧ F = vfp p ++ Fs ∧ (∀ b ∈ vfp p, G b ≠ none)
def STyL (G : IM) : List Ty → List (List Value) → List Nat → Prop
 | [], es, F => es = [] ∧ F = []
 | t :: ts, es, F => ∃ a r Fa Fr, es = a :: r ∧ STy G t a Fa ∧ STyL G ts r Fr ∧ F = Fa ++ Fr
end
mutual
theorem STy.R {G : IM} : ∀ {t : Ty} {cells : List Value} {F : List Nat}, STy G t cells F → RTy G t cells
 | .mk k ks, cells, F, h => by
  simp only [STy] at h
  obtain ⟨p, c, es, Fs, h1, h2, h3, h4, _⟩ := h
  simp only [RTy]
  exact ⟨p, c, es, h1, h2, h3, STyL.R h4⟩
theorem STyL.R {G : IM} : ∀ {ts : List Ty} {es : List (List Value)} {F : List Nat}, STyL G ts es F → RTyL G ts es
 | [], es, F, h => by simp only [STyL] at h; simp only [RTyL]; exact h.1
 | t :: ts, es, F, h => by
  simp only [STyL] at h
  obtain ⟨a, r, Fa, Fr, h1, h2, h3, _⟩ := h
  simp only [RTyL]
  exact ⟨a, r, h1, STy.R h2, STyL.R h3⟩
end
mutual
theorem STy.mono {G G' : IM} (hg : IMle G G') : ∀ {t : Ty} {cells : List Value} {F : List Nat}, STy G t cells F → STy G' t cells F
 | .mk k ks, cells, F, h => by
  simp only [STy] at h ⊢
  obtain ⟨p, c, es, Fs, h1, h2, h3, h4, h5, h6⟩ := h
  exact ⟨p, c, es, Fs, h1, h2, h3.mono hg, STyL.mono hg h4, h5, fun b hb => by cases hgb : G b with | none => exact absurd hgb (h6 b hb) | some l => rw [hg b l hgb]; simp⟩
theorem STyL.mono {G G' : IM} (hg : IMle G G') : ∀ {ts : List Ty} {es : List (List Value)} {F : List Nat}, STyL G ts es F → STyL G' ts es F
 | [], es, F, h => by simpa only [STyL] using h
 | t :: ts, es, F, h => by
  simp only [STyL] at h ⊢
  obtain ⟨a, r, Fa, Fr, h1, h2, h3, h4⟩ := h
  exact ⟨a, r, Fa, Fr, h1, STy.mono hg h2, STyL.mono hg h3, h4⟩
end
mutual
theorem STy.inG {G : IM} : ∀ {t : Ty} {cells : List Value} {F : List Nat}, STy G t cells F → ∀ b ∈ F, G b ≠ none
 | .mk k ks, cells, F, h => by
  simp only [STy] at h
  obtain ⟨p, c, es, Fs, h1, h2, h3, h4, rfl, h6⟩ := h
  intro b hb
  rcases List.mem_append.1 hb with hb | hb
  ·exact h6 b hb
  ·exact STyL.inG h4 b hb
theorem STyL.inG {G : IM} : ∀ {ts : List Ty} {es : List (List Value)} {F : List Nat}, STyL G ts es F → ∀ b ∈ F, G b ≠ none
 | [], es, F, h => by simp only [STyL] at h; rw [h.2]; simp
 | t :: ts, es, F, h => by
  simp only [STyL] at h
  obtain ⟨a, r, Fa, Fr, h1, h2, h3, rfl⟩ := h
  intro b hb
  rcases List.mem_append.1 hb with hb | hb
  ·exact STy.inG h2 b hb
  ·exact STyL.inG h3 b hb
end
theorem STyL.snoc {G : IM} : ∀ {ts : List Ty} {es : List (List Value)} {F : List Nat} {t : Ty} {a : List Value} {Fa : List Nat}, STyL G ts es F → STy G t a Fa → STyL G (ts ++ [t]) (es ++ [a]) (F ++ Fa)
 | [], es, F, t, a, Fa, h, h2 => by
  simp only [STyL] at h
  obtain ⟨rfl, rfl⟩ := h
  simp only [List.nil_append, STyL]
  exact ⟨a, [], Fa, [], rfl, h2, ⟨rfl, rfl⟩, by simp⟩
 | t' :: ts, es, F, t, a, Fa, h, h2 => by
  simp only [STyL] at h
  obtain ⟨a', r, Fa', Fr, rfl, h3, h4, rfl⟩ := h
  simp only [List.cons_append, STyL]
  exact ⟨a', r ++ [a], Fa', Fr ++ Fa, rfl, h3, STyL.snoc h4 h2, by simp⟩

theorem SlE.kidTy {G : IM} {p : Option Addr} {n c : Nat} {es : List (List Value)} {ks : List Ty} (h : SlE G p n c 2 es) (hk : RTyL G ks es) {i : Nat} (hi : i < n) (hn : i < ks.length) :
  ∃ b o p2 c2, p = some ⟨b, o, none⟩ ∧ (∀ hp, At hp G b (o + i * 2) [.int .i64 ks[i].k, .slice p2 ks[i].ks.length c2]) ∧ RTy G ks[i] [.int .i64 ks[i].k, .slice p2 ks[i].ks.length c2] ∧ G b ≠ none := by
 obtain ⟨e, b, o, he, h1, h2, h3, h4, h5⟩ := h.get hi
 obtain ⟨e', he', hr⟩ := hk.get (i := i) (t := ks[i]) (by simp [hn])
 rw [he] at he'; cases he'
 obtain ⟨p2, c2, _, rfl, _⟩ := hr.open
 exact ⟨b, o, p2, c2, h1, h4, hr, h5⟩

theorem STyL.step {G Gi G1 : IM} {ks : List Ty} {i : Nat} {es : List (List Value)} {F F' : List Nat} {a : List Value} (h : STyL (Dif Gi G) (ks.take i) es F) (hn : F.Nodup) (hle : IMle G Gi) (hle1 : IMle Gi G1) (hi : i < ks.length)
  (ha : STy (Dif G1 Gi) ks[i] a F') (hn' : F'.Nodup) : STyL (Dif G1 G) (ks.take (i + 1)) (es ++ [a]) (F ++ F') ∧ (F ++ F').Nodup := by
 constructor
 ·rw [List.take_succ_eq_append_getElem hi]
  exact STyL.snoc (h.mono (Dif.mono hle1)) (ha.mono (Dif.anti hle))
 ·rw [List.nodup_append]
  refine ⟨hn, hn', ?_⟩
  rintro x hx y hy rfl
  have h1 := h.inG x hx
  have h2 := Dif.out (ha.inG x hy)
  apply h1
  cases hd : Dif Gi G x with
  | none => rfl
  | some l => rw [Dif.le _ _ x l hd] at h2; cases h2
theorem STy.fin {G Gi G2 : IM} {k : Int} {ks : List Ty} {es : List (List Value)} {F : List Nat} {p : Option Addr} {c : Nat} (h : STyL (Dif Gi G) ks es F) (hn : F.Nodup) (hle : IMle G Gi) (hle2 : IMle Gi G2)
  (hsl : Sl G2 p ks.length c 2 es.flatten) (hnn : ∀ b ∈ vfp p, Gi b = none ∧ G2 b ≠ none) (hk : I64 k) :
  ∃ F', STy (Dif G2 G) (.mk k ks) [.int .i64 k, .slice p ks.length c] F' ∧ F'.Nodup := by
 have hno := fun b hb => (hnn b hb).1
 have hin := fun b hb => (hnn b hb).2
 have hR := h.R
 refine ⟨vfp p ++ F, ?_, ?_⟩
 ·simp only [STy]
  refine ⟨p, c, es, F, rfl, hk, SlE.of (hsl.dif hno hle) hR.len hR.all ?_, h.mono (Dif.mono hle2), rfl, ?_⟩
  ·intro e he
   obtain ⟨i, hi⟩ := List.getElem?_of_mem he
   have hlt : i < ks.length := by have := (List.getElem?_eq_some_iff.1 hi).1; rw [hR.len] at this; exact this
   obtain ⟨e', he', hr⟩ := hR.get (i := i) (t := ks[i]) (by simp [hlt])
   rw [hi] at he'; cases he'; exact hr.one
  ·intro b hb
   have h0 := hno b hb
   cases hg : G b with
   | none => simpa [Dif, hg] using hin b hb
   | some l => rw [hle b l hg] at h0; cases h0
 ·rw [List.nodup_append]
  refine ⟨by cases p <;> simp [vfp], hn, ?_⟩
  rintro x hx y hy rfl
  have h1 := h.inG x hy
  have h2 := hno x hx
  apply h1
  cases hd : Dif Gi G x with
  | none => rfl
  | some l => rw [Dif.le _ _ x l hd] at h2; cases h2

/-- The first index below n at which q says yes. -/
def firstIx (q : Nat → Bool) (n : Nat) : Int := match (List.range n).find? q with | some i => i | none => -1
theorem firstIx_none {q : Nat → Bool} {n : Nat} (h : ∀ j, j < n → q j = false) : firstIx q n = -1 := by
 have : (List.range n).find? q = none := by
  rw [List.find?_eq_none]
  intro x hx
  rw [h x (List.mem_range.1 hx)]; simp
 simp [firstIx, this]
theorem firstIx_some {q : Nat → Bool} {n i : Nat} (hi : i < n) (h : ∀ j, j < i → q j = false) (hq : q i = true) : firstIx q n = i := by
 have : (List.range n).find? q = some i := by
  rw [List.find?_eq_some_iff_append]
  refine ⟨hq, List.range i, (List.range n).drop (i + 1), ?_, ?_⟩
  ·apply List.ext_getElem?
   intro k
   simp only [List.getElem?_append, List.length_range, List.getElem?_range', List.getElem?_cons, List.getElem?_drop]
   by_cases h1 : k < i
   ·simp [h1, show k < n by omega]
   ·by_cases h2 : k = i
    ·subst h2; simp [hi]
    ·have h3 : k - i ≠ 0 := by omega
     simp only [h1, if_false, h3]
     rw [show i + 1 + (k - i - 1) = k by omega]
  ·intro a ha
   simp [h a (List.mem_range.1 ha)]
 simp [firstIx, this]

def withinB (n lo hi : Int) : Bool := decide (lo ≤ n ∧ n ≤ hi)
theorem withinB_t {n lo hi : Int} (h : withinB n lo hi = true) : lo ≤ n ∧ n ≤ hi := by simpa [withinB] using h
theorem withinB_f {n lo hi : Int} (h : withinB n lo hi = false) : ¬(lo ≤ n ∧ n ≤ hi) := by simpa [withinB] using h
/-- How many operands a kind of types has, -1 for no kind. -/
def tyOps (k : Int) : Int := if k = 1 ∨ k = 2 ∨ k = 3 then 0 else if k = 4 ∨ k = 5 then 2 else -1
theorem tyOps_spec (k : Int) : (k = 1 ∨ k = 2 ∨ k = 3 → tyOps k = 0) ∧ (k = 4 ∨ k = 5 → tyOps k = 2) ∧ (k ≠ 1 → k ≠ 2 → k ≠ 3 → k ≠ 4 → k ≠ 5 → tyOps k = -1) := by
 unfold tyOps; split <;> try split
 all_goals omega
/-- How many operands a kind of terms has, -1 for no kind. -/
def tmOps (k : Int) : Int := if k = 1 ∨ k = 2 ∨ k = 3 ∨ k = 4 then 0 else if k = 5 ∨ k = 11 ∨ k = 12 ∨ k = 13 ∨ k = 14 then 1 else if k = 6 ∨ k = 7 ∨ k = 8 ∨ k = 10 then 2 else if k = 9 then 3 else -1

mutual
def tScan : Ty → Int → Bool
 | .mk k ks, d => decide (d ≤ 4) && decide (tyOps k = ks.length) && tScanL ks (d + 1)
def tScanL : List Ty → Int → Bool
 | [], _ => true
 | t :: ts, d => tScan t d && tScanL ts d
end
theorem tScanL_iff : ∀ (ts : List Ty) (d : Int), tScanL ts d = true ↔ ∀ i, (h : i < ts.length) → tScan ts[i] d = true
 | [], d => by simp [tScanL]
 | t :: ts, d => by
  simp only [tScanL, Bool.and_eq_true, tScanL_iff ts d]
  constructor
  ·rintro ⟨h1, h2⟩ i hi
   cases i with
   | zero => exact h1
   | succ i => exact h2 i (by simpa using hi)
  ·intro h
   exact ⟨h 0 (by simp), fun i hi => h (i + 1) (by simpa using hi)⟩
def tValid (t : Ty) : Bool := tScan t 1
def tNone (t : Ty) : Bool := decide (t.k = 0 ∧ t.ks.length = 0)

mutual
def tCons : Ty → Ty → Bool
 | .mk k ks, t => decide (k = 1) || decide (t.k = 1) || (decide (k = t.k) && tConsL ks t.ks)
def tConsL : List Ty → List Ty → Bool
 | [], [] => true
 | a :: xs, b :: ys => tCons a b && tConsL xs ys
 | _, _ => false
end
theorem tCons_mk (k k' : Int) (ks ks' : List Ty) : tCons (.mk k ks) (.mk k' ks') = (decide (k = 1) || decide (k' = 1) || (decide (k = k') && tConsL ks ks')) := by rw [tCons]; rfl
theorem tConsL_iff : ∀ (xs ys : List Ty), tConsL xs ys = true ↔ xs.length = ys.length ∧ ∀ i, (h : i < xs.length) → (h' : i < ys.length) → tCons xs[i] ys[i] = true
 | [], [] => by simp [tConsL]
 | [], b :: ys => by simp [tConsL]
 | a :: xs, [] => by simp [tConsL]
 | a :: xs, b :: ys => by
  simp only [tConsL, Bool.and_eq_true, tConsL_iff xs ys, List.length_cons]
  constructor
  ·rintro ⟨h1, h2, h3⟩
   refine ⟨by omega, fun i hi hi' => ?_⟩
   cases i with
   | zero => exact h1
   | succ i => exact h3 i (by simpa using hi) (by simpa using hi')
  ·rintro ⟨h1, h2⟩
   exact ⟨h2 0 (by simp) (by simp), by omega, fun i hi hi' => h2 (i + 1) (by simpa using hi) (by simpa using hi')⟩
def tConsistent (a b : Ty) : Bool := tValid a && tValid b && tCons a b
def nameOk (s : ByteArray) : Bool := decide (s.size = 1 ∧ 97 ≤ (s.data.getD 0 0).toNat ∧ (s.data.getD 0 0).toNat ≤ 122)
def labelOk (n : Int) : Bool := withinB n 1 99 || withinB n (-99) (-1)

theorem ba_get {s : ByteArray} {j : Int} (h : j.toNat < s.size) : s[j.toNat]? = some (s.data.getD j.toNat 0) := by
 rw [getElem?_pos s j.toNat h]
 show some (s.data[j.toNat]'h) = _
 rw [Array.getD_eq_getD_getElem?, getElem?_pos s.data j.toNat h]
 rfl
theorem firstIx_neg {q : Nat → Bool} {n : Nat} : firstIx q n < 0 ↔ ∀ j, j < n → q j = false := by
 constructor
 ·intro h j hj
  unfold firstIx at h
  split at h
  ·omega
  ·rename_i hf
   have := List.find?_eq_none.1 hf j (List.mem_range.2 hj)
   simpa using this
 ·intro h; rw [firstIx_none h]; omega
theorem firstIx_ge {q : Nat → Bool} {n : Nat} : 0 ≤ firstIx q n ↔ ∃ j, j < n ∧ q j = true := by
 have h := @firstIx_neg q n
 constructor
 ·intro h0
  apply Classical.byContradiction
  intro hn
  have : firstIx q n < 0 := h.2 fun j hj => by cases hq : q j with | false => rfl | true => exact absurd ⟨j, hj, hq⟩ hn
  omega
 ·rintro ⟨j, hj, hq⟩
  apply Classical.byContradiction
  intro hn
  rw [h.1 (by omega) j hj] at hq
  exact absurd hq (by simp)
theorem contains_not {α : Type} (f : α → Bool) (ks : List α) (a : α) : decide (0 ≤ firstIx (fun i => !f (ks.getD i a)) ks.length) = !ks.all f := by
 cases h : ks.all f with
 | true =>
  rw [List.all_eq_true] at h
  apply decide_eq_false
  rw [firstIx_ge]
  rintro ⟨j, hj, hq⟩
  rw [List.getD_eq_getElem?_getD, List.getElem?_eq_getElem hj, Option.getD_some, h _ (List.getElem_mem hj)] at hq
  exact absurd hq (by simp)
 | false =>
  apply decide_eq_true
  rw [firstIx_ge]
  apply Classical.byContradiction
  intro hn
  have : ks.all f = true := by
   rw [List.all_eq_true]
   intro x hx
   obtain ⟨j, hj, rfl⟩ := List.getElem_of_mem hx
   cases hf : f ks[j] with
   | true => rfl
   | false => exact absurd ⟨j, hj, by rw [List.getD_eq_getElem?_getD, List.getElem?_eq_getElem hj, Option.getD_some, hf]; rfl⟩ hn
  rw [h] at this
  exact absurd this (by simp)
theorem tScanL_all : ∀ (ks : List Ty) (d : Int), tScanL ks d = ks.all (tScan · d)
 | [], d => rfl
 | t :: ts, d => by simp [tScanL, tScanL_all ts d]
theorem RTyL.inv {G : IM} : ∀ {ts : List Ty} {es : List (List Value)}, RTyL G ts es → ∀ {i : Nat} {e : List Value}, es[i]? = some e → ∀ a, ts.getD i a ∈ ts ∧ RTy G (ts.getD i a) e
 | [], es, h, i, e, he, a => by
  have := h.len
  simp only [List.length_nil, List.length_eq_zero_iff] at this
  subst this; simp at he
 | t :: ts, es, h, i, e, he, a => by
  have hi : i < es.length := by
   apply Classical.byContradiction; intro hn; rw [List.getElem?_eq_none (by omega)] at he; simp at he
  have hl := h.len
  obtain ⟨e', he', hr⟩ := h.get (i := i) (t := (t :: ts)[i]'(by omega)) (by rw [List.getElem?_eq_getElem])
  rw [he] at he'
  obtain rfl := Option.some.inj he'
  rw [List.getD_eq_getElem?_getD, List.getElem?_eq_getElem (by omega), Option.getD_some]
  exact ⟨List.getElem_mem _, hr⟩
theorem RTmL.inv {G : IM} : ∀ {ts : List Tm} {es : List (List Value)}, RTmL G ts es → ∀ {i : Nat} {e : List Value}, es[i]? = some e → ∀ a, ts.getD i a ∈ ts ∧ RTm G (ts.getD i a) e
 | [], es, h, i, e, he, a => by
  have := h.len
  simp only [List.length_nil, List.length_eq_zero_iff] at this
  subst this; simp at he
 | t :: ts, es, h, i, e, he, a => by
  have hi : i < es.length := by
   apply Classical.byContradiction; intro hn; rw [List.getElem?_eq_none (by omega)] at he; simp at he
  have hl := h.len
  obtain ⟨e', he', hr⟩ := h.get (i := i) (t := (t :: ts)[i]'(by omega)) (by rw [List.getElem?_eq_getElem])
  rw [he] at he'
  obtain rfl := Option.some.inj he'
  rw [List.getD_eq_getElem?_getD, List.getElem?_eq_getElem (by omega), Option.getD_some]
  exact ⟨List.getElem_mem _, hr⟩
def ty0 : Ty := .mk 0 []
theorem ite_iff {p : Prop} [Decidable p] {x y : Bool} : ((if p then x else y) = true) ↔ ((p → x = true) ∧ (¬p → y = true)) := by by_cases h : p <;> simp [h]
theorem tmOps_tab {k : Int} (h : 1 ≤ k ∧ k ≤ 14) : ([Value.int .i64 0, .int .i64 0, .int .i64 0, .int .i64 0, .int .i64 1, .int .i64 2, .int .i64 2, .int .i64 2, .int .i64 3, .int .i64 2, .int .i64 1, .int .i64 1, .int .i64 1, .int .i64 1])[(k - 1).toNat]? = some (.int .i64 (tmOps k)) := by
 have : k = 1 ∨ k = 2 ∨ k = 3 ∨ k = 4 ∨ k = 5 ∨ k = 6 ∨ k = 7 ∨ k = 8 ∨ k = 9 ∨ k = 10 ∨ k = 11 ∨ k = 12 ∨ k = 13 ∨ k = 14 := by omega
 rcases this with rfl | rfl | rfl | rfl | rfl | rfl | rfl | rfl | rfl | rfl | rfl | rfl | rfl | rfl <;> rfl
theorem tmOps_no {k : Int} (h : ¬(1 ≤ k ∧ k ≤ 14)) : tmOps k = -1 := by
 unfold tmOps; repeat (split; omega)
 rfl
theorem one_at {cs : List Value} {o : Nat} {v : Value} (h : cs[o]? = some v) : ∀ j u, [v][j]? = some u → cs[o + j]? = some u := by
 intro j u hj
 cases j with
 | zero => simpa using hj ▸ h
 | succ j => simp at hj
/-- A node is valid by itself. -/
def tmNode (k : Int) (nm : ByteArray) (num : Int) (ty fr : Ty) (lb : Int) (n : Nat) : Bool :=
 decide (tmOps k = n) && (if k = 1 ∨ k = 5 then nameOk nm else decide (nm = ⟨#[]⟩)) && (if k = 2 then withinB num 0 999 else withinB num 0 0) &&
 (if k = 5 ∨ k = 13 ∨ k = 14 then tValid ty else tNone ty) && (if k = 14 then tConsistent fr ty && labelOk lb else tNone fr && decide (lb = 0))
theorem tmNode_iff {k : Int} {nm : ByteArray} {num : Int} {ty fr : Ty} {lb : Int} {n : Nat} : tmNode k nm num ty fr lb n = true ↔
  tmOps k = n ∧ (k = 1 ∨ k = 5 → nameOk nm = true) ∧ (¬(k = 1 ∨ k = 5) → nm = ⟨#[]⟩) ∧ (k = 2 → withinB num 0 999 = true) ∧ (k ≠ 2 → withinB num 0 0 = true) ∧
  (k = 5 ∨ k = 13 ∨ k = 14 → tValid ty = true) ∧ (¬(k = 5 ∨ k = 13 ∨ k = 14) → tNone ty = true) ∧ (k = 14 → tConsistent fr ty = true ∧ labelOk lb = true) ∧ (k ≠ 14 → tNone fr = true ∧ lb = 0) := by
 simp only [tmNode, Bool.and_eq_true, ite_iff, decide_eq_true_eq, and_assoc, ne_eq]
mutual
/-- A node and what is below it is valid; how many nodes were met. -/
def mScan (M D N : Int) : Tm → Int → Int → Bool × Int
 | .mk k nm num ty fr lb ks, deep, c => if c + 1 > M ∨ deep > D ∨ k = N ∨ tmNode k nm num ty fr lb ks.length = false then (false, c + 1) else mScanL M D N ks (deep + 1) (c + 1)
def mScanL (M D N : Int) : List Tm → Int → Int → Bool × Int
 | [], _, c => (true, c)
 | t :: ts, deep, c => if (mScan M D N t deep c).1 = true then mScanL M D N ts deep (mScan M D N t deep c).2 else (false, (mScan M D N t deep c).2)
end
mutual
theorem mScan_le (M D N : Int) : ∀ (t : Tm) (deep c : Int), 0 ≤ c → c ≤ M → c < (mScan M D N t deep c).2 ∧ (mScan M D N t deep c).2 ≤ M + 1 ∧ ((mScan M D N t deep c).1 = true → (mScan M D N t deep c).2 ≤ M)
 | .mk k nm num ty fr lb ks, deep, c, h0, h1 => by
  rw [mScan]
  split
  ·simp; omega
  ·rename_i h
   have := mScanL_le M D N ks (deep + 1) (c + 1) (by omega) (by omega)
   exact ⟨by omega, this.2⟩
theorem mScanL_le (M D N : Int) : ∀ (ts : List Tm) (deep c : Int), 0 ≤ c → c ≤ M → c ≤ (mScanL M D N ts deep c).2 ∧ (mScanL M D N ts deep c).2 ≤ M + 1 ∧ ((mScanL M D N ts deep c).1 = true → (mScanL M D N ts deep c).2 ≤ M)
 | [], deep, c, h0, h1 => by rw [mScanL]; simp; omega
 | t :: ts, deep, c, h0, h1 => by
  have := mScan_le M D N t deep c h0 h1
  rw [mScanL]
  split
  ·rename_i h
   have h2 := mScanL_le M D N ts deep (mScan M D N t deep c).2 (by omega) (this.2.2 h)
   exact ⟨by omega, h2.2⟩
  ·simp; omega
end
def castValid (t : Tm) : Bool := (mScan 200 40 13 t 1 0).1
def termValid (t : Tm) : Bool := (mScan 30 12 14 t 1 0).1
theorem SlE.kidTm {G : IM} {p : Option Addr} {n c : Nat} {es : List (List Value)} {ks : List Tm} (h : SlE G p n c 9 es) (hk : RTmL G ks es) {i : Nat} (hi : i < n) (hn : i < ks.length) :
  ∃ b o e, p = some ⟨b, o, none⟩ ∧ e.length = 9 ∧ (∀ hp, At hp G b (o + i * 9) e) ∧ RTm G ks[i] e ∧ G b ≠ none := by
 obtain ⟨e, b, o, he, hp, hl, _, hat, hg⟩ := h.get hi
 have := (hk.inv he (ks[i])).2
 rw [List.getD_eq_getElem?_getD, List.getElem?_eq_getElem hn, Option.getD_some] at this
 exact ⟨b, o, e, hp, hl, hat, this, hg⟩
theorem mScan_no {M D N : Int} {k : Int} {nm : ByteArray} {num : Int} {ty fr : Ty} {lb : Int} {ks : List Tm} {deep c : Int} (h : c + 1 > M ∨ deep > D ∨ k = N ∨ tmNode k nm num ty fr lb ks.length = false) :
  mScan M D N (.mk k nm num ty fr lb ks) deep c = (false, c + 1) := by rw [mScan, if_pos h]
theorem mScan_go {M D N : Int} {k : Int} {nm : ByteArray} {num : Int} {ty fr : Ty} {lb : Int} {ks : List Tm} {deep c : Int} (h1 : ¬(c + 1 > M ∨ deep > D ∨ k = N)) (h2 : tmNode k nm num ty fr lb ks.length = true) :
  mScan M D N (.mk k nm num ty fr lb ks) deep c = mScanL M D N ks (deep + 1) (c + 1) := by
 rw [mScan, if_neg]
 rw [h2]
 intro h
 apply h1
 rcases h with h | h | h | h
 ·exact .inl h
 ·exact .inr (.inl h)
 ·exact .inr (.inr h)
 ·cases h
theorem mScanL_t {M D N : Int} {ks : List Tm} {i : Nat} {deep c : Int} (hi : i < ks.length) (h : (mScan M D N ks[i] deep c).1 = true) : mScanL M D N (ks.drop i) deep c = mScanL M D N (ks.drop (i + 1)) deep (mScan M D N ks[i] deep c).2 := by
 rw [List.drop_eq_getElem_cons hi, mScanL, if_pos h]
theorem mScanL_f {M D N : Int} {ks : List Tm} {i : Nat} {deep c : Int} (hi : i < ks.length) (h : (mScan M D N ks[i] deep c).1 = false) : mScanL M D N (ks.drop i) deep c = (false, (mScan M D N ks[i] deep c).2) := by
 rw [List.drop_eq_getElem_cons hi, mScanL, if_neg (by rw [h]; simp)]
theorem mScanL_end {M D N : Int} {ks : List Tm} {i : Nat} {deep c : Int} (hi : i = ks.length) : mScanL M D N (ks.drop i) deep c = (true, c) := by
 rw [hi, List.drop_length, mScanL]
section blk
variable {P : Program} {Γ : Ctx} {env : Env} {hp : List Ent} {G : IM} {K : Po} {ops : Array Oper} {rest : List Oper}
/-- An own slice that fills its block is that block. -/
theorem St.slc_blk {a : Act} {w : World} {b el sz n : Nat} {cs : List Value} {hp' : List Ent} (hs : St Γ ⟨env, hp, G⟩ a w) (hk : Pk hp (.slc (some ⟨b, 0, none⟩) n el sz n cs) hp') :
  St Γ ⟨env, .blk b cs :: hp', G⟩ a w := by
 have hown : Own [.slc (some ⟨b, 0, none⟩) n el sz n cs] G w := hs.res.own.of_mem hk.perm
 have hr : Res [.slc (some ⟨b, 0, none⟩) n el sz n cs] G w [.blk b cs] G w := by
  refine ⟨⟨hown.inn, ?_, by simp [Fp, Ent.fp], ?_⟩, Ext.refl _ _, IMle.refl _, fun _ _ h => .inl h, ?_, fun b l h h0 => absurd h (by rw [h0]; simp)⟩
  ·intro e he
   simp at he; subst he
   obtain ⟨hl, h⟩ := hown.ok _ List.mem_cons_self
   rcases h with ⟨hv, _⟩ | ⟨g, cap, cur, hv, _, hg, _, _, hsz, ht⟩
   ·cases hv
   ·cases hv
    refine ⟨el, ?_⟩
    rw [hg]
    have : cur.toList = cs := by rw [← ht, List.take_of_length_le]; simp [hsz]
    rw [← this]
  ·intro b' hb; exact hown.disj b' (by simpa [Fp, Ent.fp, vfp] using hb)
  ·intro b' hb; exact .inr (by simpa [Fp, Ent.fp, vfp] using hb)
 exact ⟨hs.size, hs.nod, hs.env, by have := (hs.res.perm hk.perm).frame hr; simpa using this⟩
theorem triL_slcblk {b el sz n : Nat} {cs : List Value} {hp' : List Ent} (hk : Pk hp (.slc (some ⟨b, 0, none⟩) n el sz n cs) hp') (h : TriL P Γ ops rest K ⟨env, .blk b cs :: hp', G⟩) : TriL P Γ ops rest K ⟨env, hp, G⟩ :=
 ⟨fun a w hs => h.run a w (hs.slc_blk hk)⟩
theorem seq_makeBlk {d : Nat} {t el : TypeId} {i : TyR} {sz by' : Nat} {zs : List Value} {ty : TypeId} {pos : String} {af : Array Edge} {gd : Option (Nat × Bool)} [hI : TyI P t i] (hd' : i.desc = .slice el) [hE : TySz P el sz by' zs] {x : Operand} {n : Nat}
  (hd : Nat.blt d Γ.n = true) (hx : evo env x = some (.int .i64 (n : Int))) (hb : by' * n ≤ 281474976710656) (hm : n ≤ maxLen) (hw : wantG ops env gd = some true)
  (k : ∀ b, TriL P Γ ops rest K ⟨(d, .slice (some ⟨b, 0, none⟩) n n) :: env, .blk b (zrep n zs) :: hp, G⟩) :
  TriL P Γ ops (⟨some d, .makeSlice t x x, ty, pos, af, gd⟩ :: rest) K ⟨env, hp, G⟩ :=
 seq_step (step_makeSlice hd' hd hx hb hm) hw (by rintro _ ⟨b, rfl⟩; exact triL_slcblk .here (k b))
end blk

theorem upd_at : ∀ {A B C V : List Value} {o : Nat}, A.length = o → B.length = V.length → upd (A ++ (B ++ C)) o V = some (A ++ (V ++ C))
 | [], B, C, V, o, h, hv => by
  simp at h; subst h
  simp only [List.nil_append]
  induction B generalizing V with
  | nil => cases V with
   | nil => cases C <;> rfl
   | cons v V => simp at hv
  | cons b B ih => cases V with
   | nil => simp at hv
   | cons v V =>
    simp only [List.cons_append, upd, ih (V := V) (by simpa using hv)]
 | a :: A, B, C, V, o, h, hv => by
  simp at h; subst h
  simp only [List.cons_append, upd, upd_at (A := A) (B := B) (C := C) rfl hv]
theorem flat_len {sz : Nat} : ∀ {es : List (List Value)}, (∀ e ∈ es, e.length = sz) → es.flatten.length = es.length * sz
 | [], _ => by simp
 | e :: es, h => by
  rw [List.flatten_cons, List.length_append, h e List.mem_cons_self, flat_len (es := es) fun x hx => h x (List.mem_cons_of_mem _ hx), List.length_cons, Nat.succ_mul]; omega
theorem upd_next {es : List (List Value)} {n i sz : Nat} {Z V : List Value} (hl : es.length = i) (ha : ∀ e ∈ es, e.length = sz) (hz : Z.length = sz) (hv : V.length = sz) (hi : i < n) :
  upd (es.flatten ++ zrep (n - i) Z) (0 + i * sz) V = some ((es ++ [V]).flatten ++ zrep (n - (i + 1)) Z) := by
 have hz' : zrep (n - i) Z = Z ++ zrep (n - (i + 1)) Z := by
  rw [show n - i = (n - (i + 1)) + 1 by omega]; rfl
 rw [hz', upd_at (by rw [flat_len ha, hl]; omega) (by rw [hz, hv])]
 simp
theorem zrep_self (X Z : List Value) (n : Nat) : X ++ zrep (n - n) Z = X := by rw [Nat.sub_self]; simp [zrep]
theorem sl_wi {G : IM} {b n sz : Nat} {cs : List Value} (hl : cs.length = n * sz) (hn : n ≤ maxLen) : Sl (Wi G [(b, cs)]) (some ⟨b, 0, none⟩) n n sz cs :=
 ⟨hl, Nat.le_refl _, hn, .inr ⟨b, 0, cs, rfl, by simp [Wi, List.lookup], fun j v h => by simpa using h⟩⟩
theorem wi_no {G : IM} {b : Nat} {cs : List Value} (hd : ∀ q ∈ [((b, cs) : Nat × List Value)], G q.1 = none) : ∀ x ∈ vfp (some ⟨b, 0, none⟩), G x = none ∧ Wi G [(b, cs)] x ≠ none := by
 intro x hx
 simp [vfp] at hx; subst hx
 exact ⟨hd _ List.mem_cons_self, by simp [Wi, List.lookup]⟩

/-- A slice of types in memory of its own. -/
def STyS (G : IM) (ks : List Ty) (p : Option Addr) (c : Nat) (F : List Nat) : Prop := ∃ es Fs, SlE G p ks.length c 2 es ∧ STyL G ks es Fs ∧ F = vfp p ++ Fs ∧ (∀ b ∈ vfp p, G b ≠ none)
theorem STyS.ty {G : IM} {k : Int} {ks : List Ty} {p : Option Addr} {c : Nat} {F : List Nat} (h : STyS G ks p c F) (hk : I64 k) : STy G (.mk k ks) [.int .i64 k, .slice p ks.length c] F := by
 obtain ⟨es, Fs, h1, h2, h3, h4⟩ := h
 simp only [STy]
 exact ⟨p, c, es, Fs, rfl, hk, h1, h2, h3, h4⟩
theorem STy.open {G : IM} {t : Ty} {cells : List Value} {F : List Nat} (h : STy G t cells F) : ∃ p c, cells = [.int .i64 t.k, .slice p t.ks.length c] ∧ I64 t.k ∧ STyS G t.ks p c F := by
 cases t
 simp only [STy] at h
 obtain ⟨p, c, es, Fs, h0, hk, h1, h2, h3, h4⟩ := h
 exact ⟨p, c, h0, hk, es, Fs, h1, h2, h3, h4⟩
theorem STyS.fin {G Gi G2 : IM} {ks : List Ty} {es : List (List Value)} {F : List Nat} {p : Option Addr} {c : Nat} (h : STyL (Dif Gi G) ks es F) (hn : F.Nodup) (hle : IMle G Gi) (hle2 : IMle Gi G2)
  (hsl : Sl G2 p ks.length c 2 es.flatten) (hnn : ∀ b ∈ vfp p, Gi b = none ∧ G2 b ≠ none) :
  ∃ F', STyS (Dif G2 G) ks p c F' ∧ F'.Nodup := by
 obtain ⟨F', h1, h2⟩ := STy.fin (k := 0) h hn hle hle2 hsl hnn ⟨by omega, by omega⟩
 obtain ⟨p', c', h3, _, h4⟩ := h1.open
 simp only [Ty.ks, Ty.k, List.cons.injEq, Value.slice.injEq, true_and, and_true] at h3
 obtain ⟨rfl, rfl⟩ := h3
 exact ⟨F', h4, h2⟩

mutual
def STm (G : IM) : Tm → List Value → List Nat → Prop
 | .mk k nm num ty fr lb ks, cells, F => ∃ tc fc p c es Ft Ff Fs, cells = [.int .i64 k, .string nm, .int .i64 num] ++ tc ++ fc ++ [.int .i64 lb, .slice p ks.length c] ∧ I64 k ∧ I64 num ∧ I64 lb ∧ STy G ty tc Ft ∧ STy G fr fc Ff ∧
   SlE G p ks.length c 9 es ∧ STmL G ks es Fs ∧ F = Ft ++ (Ff ++ (vfp p ++ Fs)) ∧ (∀ b ∈ vfp p, G b ≠ none)
def STmL (G : IM) : List Tm → List (List Value) → List Nat → Prop
 | [], es, F => es = [] ∧ F = []
 | t :: ts, es, F => ∃ a r Fa Fr, es = a :: r ∧ STm G t a Fa ∧ STmL G ts r Fr ∧ F = Fa ++ Fr
end
/-- A slice of terms in memory of its own. -/
def STmS (G : IM) (ks : List Tm) (p : Option Addr) (c : Nat) (F : List Nat) : Prop := ∃ es Fs, SlE G p ks.length c 9 es ∧ STmL G ks es Fs ∧ F = vfp p ++ Fs ∧ (∀ b ∈ vfp p, G b ≠ none)
mutual
theorem STm.R {G : IM} : ∀ {t : Tm} {cells : List Value} {F : List Nat}, STm G t cells F → RTm G t cells
 | .mk k nm num ty fr lb ks, cells, F, h => by
  simp only [STm] at h
  obtain ⟨tc, fc, p, c, es, Ft, Ff, Fs, h1, h2, h3, h4, h5, h6, h7, h8, _⟩ := h
  simp only [RTm]
  exact ⟨tc, fc, p, c, es, h1, h2, h3, h4, h5.R, h6.R, h7, STmL.R h8⟩
theorem STmL.R {G : IM} : ∀ {ts : List Tm} {es : List (List Value)} {F : List Nat}, STmL G ts es F → RTmL G ts es
 | [], es, F, h => by simp only [STmL] at h; simp only [RTmL]; exact h.1
 | t :: ts, es, F, h => by
  simp only [STmL] at h
  obtain ⟨a, r, Fa, Fr, h1, h2, h3, _⟩ := h
  simp only [RTmL]
  exact ⟨a, r, h1, STm.R h2, STmL.R h3⟩
end
theorem dmono {G G' : IM} (hg : IMle G G') {F : List Nat} (h : ∀ b ∈ F, G b ≠ none) : ∀ b ∈ F, G' b ≠ none := fun b hb => by
 cases hgb : G b with
 | none => exact absurd hgb (h b hb)
 | some l => rw [hg b l hgb]; simp
mutual
theorem STm.mono {G G' : IM} (hg : IMle G G') : ∀ {t : Tm} {cells : List Value} {F : List Nat}, STm G t cells F → STm G' t cells F
 | .mk k nm num ty fr lb ks, cells, F, h => by
  simp only [STm] at h ⊢
  obtain ⟨tc, fc, p, c, es, Ft, Ff, Fs, h1, h2, h3, h4, h5, h6, h7, h8, h9, h10⟩ := h
  exact ⟨tc, fc, p, c, es, Ft, Ff, Fs, h1, h2, h3, h4, h5.mono hg, h6.mono hg, h7.mono hg, STmL.mono hg h8, h9, dmono hg h10⟩
theorem STmL.mono {G G' : IM} (hg : IMle G G') : ∀ {ts : List Tm} {es : List (List Value)} {F : List Nat}, STmL G ts es F → STmL G' ts es F
 | [], es, F, h => by simpa only [STmL] using h
 | t :: ts, es, F, h => by
  simp only [STmL] at h ⊢
  obtain ⟨a, r, Fa, Fr, h1, h2, h3, h4⟩ := h
  exact ⟨a, r, Fa, Fr, h1, STm.mono hg h2, STmL.mono hg h3, h4⟩
end
mutual
theorem STm.inG {G : IM} : ∀ {t : Tm} {cells : List Value} {F : List Nat}, STm G t cells F → ∀ b ∈ F, G b ≠ none
 | .mk k nm num ty fr lb ks, cells, F, h => by
  simp only [STm] at h
  obtain ⟨tc, fc, p, c, es, Ft, Ff, Fs, h1, h2, h3, h4, h5, h6, h7, h8, rfl, h10⟩ := h
  intro b hb
  simp only [List.mem_append] at hb
  rcases hb with hb | hb | hb | hb
  ·exact h5.inG b hb
  ·exact h6.inG b hb
  ·exact h10 b hb
  ·exact STmL.inG h8 b hb
theorem STmL.inG {G : IM} : ∀ {ts : List Tm} {es : List (List Value)} {F : List Nat}, STmL G ts es F → ∀ b ∈ F, G b ≠ none
 | [], es, F, h => by simp only [STmL] at h; rw [h.2]; simp
 | t :: ts, es, F, h => by
  simp only [STmL] at h
  obtain ⟨a, r, Fa, Fr, h1, h2, h3, rfl⟩ := h
  intro b hb
  rcases List.mem_append.1 hb with hb | hb
  ·exact STm.inG h2 b hb
  ·exact STmL.inG h3 b hb
end
theorem STmL.snoc {G : IM} : ∀ {ts : List Tm} {es : List (List Value)} {F : List Nat} {t : Tm} {a : List Value} {Fa : List Nat}, STmL G ts es F → STm G t a Fa → STmL G (ts ++ [t]) (es ++ [a]) (F ++ Fa)
 | [], es, F, t, a, Fa, h, h2 => by
  simp only [STmL] at h
  obtain ⟨rfl, rfl⟩ := h
  simp only [List.nil_append, STmL]
  exact ⟨a, [], Fa, [], rfl, h2, ⟨rfl, rfl⟩, by simp⟩
 | t' :: ts, es, F, t, a, Fa, h, h2 => by
  simp only [STmL] at h
  obtain ⟨a', r, Fa', Fr, rfl, h3, h4, rfl⟩ := h
  simp only [List.cons_append, STmL]
  exact ⟨a', r ++ [a], Fa', Fr ++ Fa, rfl, h3, STmL.snoc h4 h2, by simp⟩
theorem dif_no {G Gi : IM} {F F' : List Nat} {G1 : IM} (h : ∀ b ∈ F, Dif Gi G b ≠ none) (h' : ∀ b ∈ F', Dif G1 Gi b ≠ none) : ∀ x ∈ F, ∀ y ∈ F', x ≠ y := by
 rintro x hx y hy rfl
 have h1 := h x hx
 have h2 := Dif.out (h' x hy)
 apply h1
 cases hd : Dif Gi G x with
 | none => rfl
 | some l => rw [Dif.le _ _ x l hd] at h2; cases h2
theorem STmL.step {G Gi G1 : IM} {ks : List Tm} {i : Nat} {es : List (List Value)} {F F' : List Nat} {a : List Value} (h : STmL (Dif Gi G) (ks.take i) es F) (hn : F.Nodup) (hle : IMle G Gi) (hle1 : IMle Gi G1) (hi : i < ks.length)
  (ha : STm (Dif G1 Gi) ks[i] a F') (hn' : F'.Nodup) : STmL (Dif G1 G) (ks.take (i + 1)) (es ++ [a]) (F ++ F') ∧ (F ++ F').Nodup := by
 constructor
 ·rw [List.take_succ_eq_append_getElem hi]
  exact STmL.snoc (h.mono (Dif.mono hle1)) (ha.mono (Dif.anti hle))
 ·rw [List.nodup_append]
  exact ⟨hn, hn', dif_no h.inG ha.inG⟩
theorem vfp_nodup (p : Option Addr) : (vfp p).Nodup := by cases p <;> simp [vfp]
theorem STmS.fin {G Gi G2 : IM} {ks : List Tm} {es : List (List Value)} {F : List Nat} {p : Option Addr} {c : Nat} (h : STmL (Dif Gi G) ks es F) (hn : F.Nodup) (hle : IMle G Gi) (hle2 : IMle Gi G2)
  (hsl : Sl G2 p ks.length c 9 es.flatten) (hnn : ∀ b ∈ vfp p, Gi b = none ∧ G2 b ≠ none) :
  ∃ F', STmS (Dif G2 G) ks p c F' ∧ F'.Nodup := by
 have hR := h.R
 have hin : ∀ b ∈ vfp p, Dif G2 G b ≠ none := by
  intro b hb
  have h0 := (hnn b hb).1
  cases hg : G b with
  | none => simpa [Dif, hg] using (hnn b hb).2
  | some l => rw [hle b l hg] at h0; cases h0
 refine ⟨vfp p ++ F, ⟨es, F, SlE.of (hsl.dif (fun b hb => (hnn b hb).1) hle) hR.len hR.all ?_, h.mono (Dif.mono hle2), rfl, hin⟩, ?_⟩
 ·intro e he
  obtain ⟨i, hi⟩ := List.getElem?_of_mem he
  have hlt : i < ks.length := by have := (List.getElem?_eq_some_iff.1 hi).1; rw [hR.len] at this; exact this
  obtain ⟨e', he', hr⟩ := hR.get (i := i) (t := ks[i]) (by simp [hlt])
  rw [hi] at he'; cases he'; exact hr.one
 ·rw [List.nodup_append]
  refine ⟨vfp_nodup p, hn, ?_⟩
  rintro x hx y hy rfl
  have h1 := h.inG x hy
  have h2 := (hnn x hx).1
  apply h1
  cases hd : Dif Gi G x with
  | none => rfl
  | some l => rw [Dif.le _ _ x l hd] at h2; cases h2
/-- A term put together out of parts that came one after the other. -/
theorem STm.mk3 {G G1 G2 G3 : IM} {k : Int} {nm : ByteArray} {num : Int} {ty fr : Ty} {lb : Int} {ks : List Tm} {tc fc : List Value} {p : Option Addr} {c : Nat} {F1 F2 F3 : List Nat} (hk : I64 k) (hnum : I64 num) (hlb : I64 lb)
  (hl1 : IMle G G1) (hl2 : IMle G1 G2) (hl3 : IMle G2 G3) (h1 : STy (Dif G1 G) ty tc F1) (n1 : F1.Nodup) (h2 : STy (Dif G2 G1) fr fc F2) (n2 : F2.Nodup) (h3 : STmS (Dif G3 G2) ks p c F3) (n3 : F3.Nodup) :
  ∃ F, STm (Dif G3 G) (.mk k nm num ty fr lb ks) ([.int .i64 k, .string nm, .int .i64 num] ++ tc ++ fc ++ [.int .i64 lb, .slice p ks.length c]) F ∧ F.Nodup := by
 obtain ⟨es, Fs, e1, e2, rfl, e4⟩ := h3
 have i3 : ∀ b ∈ vfp p ++ Fs, Dif G3 G2 b ≠ none := by
  intro b hb
  rcases List.mem_append.1 hb with hb | hb
  ·exact e4 b hb
  ·exact e2.inG b hb
 have a2 : IMle (Dif G2 G1) (Dif G3 G) := fun b l h => Dif.mono hl3 b l (Dif.anti hl1 b l h)
 have a3 : IMle (Dif G3 G2) (Dif G3 G) := Dif.anti (hl1.trans hl2)
 refine ⟨F1 ++ (F2 ++ (vfp p ++ Fs)), ?_, ?_⟩
 ·simp only [STm]
  exact ⟨tc, fc, p, c, es, F1, F2, Fs, rfl, hk, hnum, hlb, h1.mono (Dif.mono (hl2.trans hl3)), h2.mono a2, e1.mono a3, e2.mono a3, rfl, dmono a3 e4⟩
 ·rw [List.nodup_append, List.nodup_append]
  refine ⟨n1, ⟨n2, n3, dif_no h2.inG i3⟩, ?_⟩
  rintro x hx y hy rfl
  rcases List.mem_append.1 hy with hy | hy
  ·exact dif_no h1.inG h2.inG x hx x hy rfl
  ·have h1' : ∀ b ∈ F1, Dif G2 G b ≠ none := dmono (Dif.mono hl2) h1.inG
   exact dif_no h1' i3 x hx x hy rfl
section clawss
variable {P : Program} {Γ : Ctx} {env : Env} {hp : List Ent} {G : IM} {ty : TypeId}
theorem pure_conv_u8 {s d : TypeId} {is id : TyR} [hS : TyI P s is] [hD : TyI P d id] (hd : id.desc = .int .u8) {k : IntKind} (hs : is.desc = .int k) {x : Operand} {n : Int} (hx : evo env x = some (.int k n)) (h0 : 0 ≤ n) (h1 : n ≤ 255) :
  PureOp P Γ ⟨env, hp, G⟩ (.convert s d x) ty (.int .u8 n) := by
 refine ⟨fun a _ hst _ _ _ _ w => ?_⟩
 have hu := hD.und
 rw [hd] at hu
 have hus := hS.und
 rw [hs] at hus
 have hw : IntKind.u8.wrap n = n := IntWalk.u8_in n ⟨h0, h1⟩
 simp [execOp, convert, run_underlying hus, run_underlying hu, (hst.evo hx : a.eval x = _), Conv.intToInt, hw]
theorem load_conv_str {s d e : TypeId} {is id ie : TyR} [hS : TyI P s is] [hD : TyI P d id] [hE : TyI P e ie] (hs : is.desc = .slice e) (he : ie.desc = .int .u8) (hd : id.desc = .string) {x : Operand} {b o n c : Nat} {xs : List Int}
  (hx : evo env x = some (.slice (some ⟨b, o, none⟩) n c)) (hl : xs.length = n) (hv : At hp G b o (xs.map (Value.int .u8))) : LoadOp P Γ ⟨env, hp, G⟩ (.convert s d x) ty b (.string (strOfNums xs)) := by
 refine ⟨fun a w hst => ?_⟩
 obtain ⟨full, e', f, hb, hf⟩ := hv.read hst
 refine ⟨lt_of_some hb, fun w' hw' d' pos af gd => ?_⟩
 have hus := hS.und
 rw [hs] at hus
 have hue := hE.und
 rw [he] at hue
 have hud := hD.und
 rw [hd] at hud
 have hc := run_convert_bytes_arg (P := P) w' s e hus hue b o n c xs hl (fun i hi => by
  have := hf i (.int .u8 (xs.getD i 0)) (by simp [List.getD, List.getElem?_eq_getElem (show i < xs.length by omega)])
  simp [World.cell?, hw', hb, this]) d hud
 have hx' : a.eval x = _ := hst.evo hx
 simp only [execOp, hx', Sem.run_bind]
 rw [hc]
 rfl
theorem pure_rem_nat {x y : Operand} {t t' : TypeId} {m n : Nat} (hx : evo env x = some (.int .i64 (m : Int))) (hy : evo env y = some (.int .i64 (n : Int))) (hn : 0 < n) :
  PureOp P Γ ⟨env, hp, G⟩ (.binOp .rem t x y t') ty (.int .i64 ((m % n : Nat) : Int)) := by
 have h := pure_rem (P := P) (Γ := Γ) (hp := hp) (G := G) (ty := ty) (t := t) (t' := t') hx hy (by omega)
 rwa [show ((m : Int).tmod n) = ((m % n : Nat) : Int) from rfl] at h
theorem pure_quo_nat {x y : Operand} {t t' : TypeId} {m n : Nat} (hx : evo env x = some (.int .i64 (m : Int))) (hy : evo env y = some (.int .i64 (n : Int))) (hn : 0 < n) (hm : m ≤ 9223372036854775807) :
  PureOp P Γ ⟨env, hp, G⟩ (.binOp .quo t x y t') ty (.int .i64 ((m / n : Nat) : Int)) := by
 have hd : m / n ≤ m := Nat.div_le_self _ _
 have e : ((m : Int).tdiv n) = ((m / n : Nat) : Int) := rfl
 have h := pure_quo (P := P) (Γ := Γ) (hp := hp) (G := G) (ty := ty) (t := t) (t' := t') hx hy (by omega) (by rw [e]; generalize m / n = q at *; omega) (by rw [e]; generalize m / n = q at *; omega)
 rwa [e] at h
end clawss
/-- The last digit's letter. -/
def dgi (k : Nat) : Int := 48 + ((k % 10 : Nat) : Int)
/-- The digits of a number ahead of a text. -/
def mDigs : Nat → Nat → ByteArray → ByteArray
 | 0, _, out => out
 | f + 1, k, out => if 0 < k then mDigs f (k / 10) (strOfNums [dgi k] ++ out) else out
theorem mDigs_go {f k : Nat} {out : ByteArray} (h : 0 < k) : mDigs (f + 1) k out = mDigs f (k / 10) (strOfNums [dgi k] ++ out) := by rw [mDigs, if_pos h]
theorem mDigs_end {f k : Nat} {out : ByteArray} (h : ¬ 0 < k) : mDigs f k out = out := by
 cases f with
 | zero => rfl
 | succ f => rw [mDigs, if_neg h]
def mText (k : Nat) : ByteArray := ⟨#[109]⟩ ++ mDigs 20 k ⟨⟨[]⟩⟩
theorem digs_step {f k : Nat} {out : ByteArray} (hk : k < 10 ^ f) (hs : out.size + f = 20) (h0 : 0 < k) : ∃ f', f = f' + 1 ∧ k / 10 < 10 ^ f' ∧ (strOfNums [dgi k] ++ out).size + f' = 20 := by
 cases f with
 | zero => simp at hk; omega
 | succ f =>
  refine ⟨f, rfl, ?_, ?_⟩
  ·rw [Nat.pow_succ] at hk
   exact Nat.div_lt_of_lt_mul (by omega)
  ·rw [ByteArray.size_append, strOfNums_size]
   simp; omega
theorem t20 (k : Nat) (h : k < 1000000000000000000) : k < 10 ^ 20 := by
 have : (10 : Nat) ^ 20 = 100000000000000000000 := by decide
 omega
theorem markText_fn (k : Nat) (h0 : 0 < k) (hk : k < 1000000000000000000) (G : IM) : Fn Tryz.prog 60 [.int .i64 (k : Int)] [] G (Val (.string (mText k)) G) := by
 have h20 := t20 k hk
 refine fn_enter Tryz.func60 rfl Tryz.ntmps60 Tryz.results60 rfl ?_
 intro w0
 refine tS (tR (sQ (pA rfl) rfl (sD (nS (tS (tS ?_))))))
 refine tR (sQ (pM rfl) rfl (sP (pure_leq_f rfl rfl (by omega)) rfl rfl ?_))
 refine sD (nS (cF rfl ?_))
 refine tK (nS (tS (tR (sQ (pA rfl) rfl (sD (nS ?_))))))
 refine tS (tri_block (tri_loopN (fun (x : Nat × Nat × ByteArray) => ⟨[(0, .int .i64 (x.2.1 : Int)), (3, .string x.2.2)], [], G⟩) (fun x => x.2.1 < 1000000000000000000 ∧ x.2.1 < 10 ^ x.1 ∧ x.2.2.size + x.1 = 20 ∧ mDigs x.1 x.2.1 x.2.2 = mDigs 20 k ⟨⟨[]⟩⟩) (fun x => x.1) (20, k, ⟨⟨[]⟩⟩) ?_ ?_ ?_))
 (simp only [flat_snoc]; exact sMk)
 exact ⟨hk, h20, rfl, rfl⟩
 (rintro ⟨f, j, out⟩ ⟨hj, hjf, hsz, hd⟩; simp only [] at hj hjf hsz hd ⊢)
 refine tS (tS (tR (sQ (pM rfl) rfl (sB (pure_gtr rfl rfl) rfl rfl (fun h31 => ?_) (fun h31 => ?_)))))
 refine sD (nS (cT rfl ?_))
 refine tK (nS (tri_block (tS (tR (sQ (pM rfl) rfl (sP (pure_rem_nat (n := 10) rfl rfl (by omega)) rfl rfl ?_))))))
 refine sP (pure_add rfl rfl (by omega) (by omega)) rfl rfl ?_
 refine sP (pure_conv_u8 rfl rfl rfl (by omega) (by omega)) rfl rfl ?_
 (refine seq_step (step_buildSlice rfl rfl rfl (by omega) (by unfold maxLen; omega) rfl) rfl ?_; rintro _ ⟨b44, rfl⟩)
 refine sL (load_conv_str (xs := [dgi j]) rfl rfl rfl rfl rfl (at_slc_all (by repeat first | exact mH | apply mT))) rfl rfl ?_
 refine sQ (pM rfl) rfl ?_
 (obtain ⟨f', rfl, hf1, hf2⟩ := digs_step hjf hsz (by omega); have hf3 := hf2; rw [ByteArray.size_append] at hf3; refine sP (pure_cat rfl rfl (by omega)) rfl rfl ?_)
 refine sQ (pA rfl) rfl (sD (nS (tR (sQ (pM rfl) rfl (sP (pure_quo_nat (n := 10) rfl rfl (by omega) (by omega)) rfl rfl ?_)))))
 refine sQ (pA rfl) rfl (sD (nrm_block (nrm_loopN (f', j / 10, strOfNums [dgi j] ++ out) ?_ ?_ ?_)))
 (simp only [flat_snoc]; exact sMk)
 (dsimp only; exact ⟨by omega, hf1, hf2, by rw [← hd, mDigs_go (by omega)]⟩)
 exact Nat.lt_succ_self _
 refine sD (nS (cF rfl ?_))
 refine tri_exit ?_
 refine ext_seq ?_
 refine ext_loopN ?_
 refine ext_block_eq ?_
 refine nS (tS (tR (sQ (pM rfl) rfl (sP (pure_cat rfl rfl (by have : (⟨#[109]⟩ : ByteArray).size = 1 := rfl; omega)) rfl rfl ?_))))
 refine sQ (pA rfl) rfl (sD (nS (tT (rF1 (rT rfl) ?_))))
 exact ⟨rfl, by rw [mText, ← hd, mDigs_end (by omega)], rfl⟩
def ints (l : List Int) : List Value := l.map (Value.int .i64 ·)
theorem ints_len (l : List Int) : (ints l).length = l.length := by simp [ints]
theorem ints_snoc (l : List Int) (i : Int) : ints (l ++ [i]) = ints l ++ [.int .i64 i] := by simp [ints]
theorem ints_one (l : List Int) : ∀ u ∈ ints l, u.oneCell' = true := by
 intro u hu
 obtain ⟨x, _, rfl⟩ := List.mem_map.1 hu
 rfl
mutual
def tmCount : Tm → Nat
 | .mk _ _ _ _ _ _ ks => tmCountL ks + 1
def tmCountL : List Tm → Nat
 | [] => 0
 | t :: ts => tmCount t + tmCountL ts
end
mutual
/-- The paths of all nodes, from a node's own path on. -/
def mPaths : Tm → List Int → List (List Int)
 | .mk _ _ _ _ _ _ ks, path => path :: mPathsL ks 0 path
def mPathsL : List Tm → Nat → List Int → List (List Int)
 | [], _, _ => []
 | t :: ts, i, path => mPaths t (path ++ [(i : Int)]) ++ mPathsL ts (i + 1) path
end
mutual
theorem mPaths_len : ∀ (t : Tm) (path : List Int), (mPaths t path).length = tmCount t
 | .mk _ _ _ _ _ _ ks, path => by rw [mPaths, tmCount, List.length_cons, mPathsL_len ks 0 path]
theorem mPathsL_len : ∀ (ts : List Tm) (i : Nat) (path : List Int), (mPathsL ts i path).length = tmCountL ts
 | [], i, path => by rw [mPathsL, tmCountL]; rfl
 | t :: ts, i, path => by rw [mPathsL, tmCountL, List.length_append, mPaths_len t, mPathsL_len ts]
end
theorem mPathsL_snoc : ∀ (ts : List Tm) (t : Tm) (i : Nat) (path : List Int), mPathsL (ts ++ [t]) i path = mPathsL ts i path ++ mPaths t (path ++ [((i + ts.length : Nat) : Int)])
 | [], t, i, path => by simp [mPathsL]
 | t' :: ts, t, i, path => by
  rw [List.cons_append, mPathsL, mPathsL, mPathsL_snoc ts t (i + 1) path, List.append_assoc, List.length_cons, Nat.add_right_comm i 1, Nat.add_assoc i]
theorem mPathsL_take {ks : List Tm} {i : Nat} (hi : i < ks.length) (path : List Int) : mPathsL (ks.take (i + 1)) 0 path = mPathsL (ks.take i) 0 path ++ mPaths ks[i] (path ++ [(i : Int)]) := by
 rw [List.take_succ_eq_append_getElem hi, mPathsL_snoc, List.length_take, Nat.zero_add, Nat.min_eq_left (by omega)]
theorem tmCount_mem : ∀ {ks : List Tm} {t : Tm}, t ∈ ks → tmCount t ≤ tmCountL ks
 | [], t, h => by simp at h
 | t' :: ts, t, h => by
  rw [tmCountL]
  rcases List.mem_cons.1 h with rfl | h
  ·omega
  ·have := tmCount_mem h; omega
theorem tmCountL_append : ∀ (a b : List Tm), tmCountL (a ++ b) = tmCountL a + tmCountL b
 | [], b => by simp [tmCountL]
 | t :: a, b => by rw [List.cons_append, tmCountL, tmCountL, tmCountL_append a b]; omega
theorem tmCountL_take {ks : List Tm} {i : Nat} (hi : i < ks.length) : tmCountL (ks.take i) + tmCount ks[i] ≤ tmCountL ks := by
 have h := tmCountL_append (ks.take (i + 1)) (ks.drop (i + 1))
 rw [List.take_append_drop, List.take_succ_eq_append_getElem hi, tmCountL_append] at h
 simp only [tmCountL] at h
 omega
theorem tmCountL_succ {ks : List Tm} {i : Nat} (hi : i < ks.length) : tmCountL (ks.take (i + 1)) = tmCountL (ks.take i) + tmCount ks[i] := by
 rw [List.take_succ_eq_append_getElem hi, tmCountL_append]
 simp only [tmCountL]; omega
theorem tmCount_pos (t : Tm) : 0 < tmCount t := by cases t; rw [tmCount]; omega
theorem len_le_count : ∀ (ks : List Tm), ks.length ≤ tmCountL ks
 | [] => by simp
 | .mk _ _ _ _ _ _ _ :: ts => by have := len_le_count ts; simp only [List.length_cons, tmCountL, tmCount]; omega

theorem Sl.nn {G : IM} {p : Option Addr} {n c sz : Nat} {cs : List Value} (h : Sl G p n c sz cs) : p = none → n = 0 := by
 rintro rfl
 rcases h.2.2.2 with h | ⟨b, o, full, h, _⟩
 ·exact h
 ·cases h
/-- Fresh paths: each in memory of its own. -/
def SPs (G : IM) : List (List Int) → List Value → List Nat → Prop
 | [], es, F => es = [] ∧ F = []
 | l :: ls, es, F => ∃ p c r Fr, es = .slice p l.length c :: r ∧ F = vfp p ++ Fr ∧ Sl G p l.length c 1 (ints l) ∧ (∀ b ∈ vfp p, G b ≠ none) ∧ (p = none → l.length = 0) ∧ SPs G ls r Fr
theorem SPs.mono {G G' : IM} (hg : IMle G G') : ∀ {ls : List (List Int)} {es : List Value} {F : List Nat}, SPs G ls es F → SPs G' ls es F
 | [], es, F, h => h
 | l :: ls, es, F, ⟨p, c, r, Fr, h1, h2, h3, h4, h5, h6⟩ => ⟨p, c, r, Fr, h1, h2, h3.mono hg, fun b hb => by
   cases hx : G b with
   | none => exact absurd hx (h4 b hb)
   | some l => rw [hg b l hx]; simp, h5, h6.mono hg⟩
theorem SPs.inG {G : IM} : ∀ {ls : List (List Int)} {es : List Value} {F : List Nat}, SPs G ls es F → ∀ b ∈ F, G b ≠ none
 | [], es, F, ⟨_, h⟩, b, hb => by rw [h] at hb; cases hb
 | l :: ls, es, F, ⟨p, c, r, Fr, h1, h2, h3, h4, h5, h6⟩, b, hb => by
  rw [h2] at hb
  rcases List.mem_append.1 hb with hb | hb
  ·exact h4 b hb
  ·exact h6.inG b hb
theorem SPs.one {G : IM} : ∀ {ls : List (List Int)} {es : List Value} {F : List Nat}, SPs G ls es F → ∀ u ∈ es, u.oneCell' = true
 | [], es, F, ⟨h, _⟩, u, hu => by rw [h] at hu; cases hu
 | l :: ls, es, F, ⟨p, c, r, Fr, h1, h2, h3, h4, h5, h6⟩, u, hu => by
  rw [h1] at hu
  rcases List.mem_cons.1 hu with rfl | hu
  ·rfl
  ·exact h6.one u hu
theorem SPs.append {G : IM} : ∀ {ls ls' : List (List Int)} {es es' : List Value} {F F' : List Nat}, SPs G ls es F → SPs G ls' es' F' → SPs G (ls ++ ls') (es ++ es') (F ++ F')
 | [], ls', es, es', F, F', ⟨h, h2⟩, h' => by rw [h, h2]; exact h'
 | l :: ls, ls', es, es', F, F', ⟨p, c, r, Fr, h1, h2, h3, h4, h5, h6⟩, h' => ⟨p, c, r ++ es', Fr ++ F', by rw [h1]; rfl, by rw [h2, List.append_assoc], h3, h4, h5, h6.append h'⟩
theorem dif_disj {G Gi G1 : IM} {F F' : List Nat} (h : ∀ b ∈ F, Dif Gi G b ≠ none) (h' : ∀ b ∈ F', Dif G1 Gi b ≠ none) (hn : F.Nodup) (hn' : F'.Nodup) : (F ++ F').Nodup := by
 rw [List.nodup_append]
 refine ⟨hn, hn', ?_⟩
 rintro x hx y hy rfl
 have h1 := h x hx
 have h2 := Dif.out (h' x hy)
 apply h1
 cases hd : Dif Gi G x with
 | none => rfl
 | some l => rw [Dif.le _ _ x l hd] at h2; cases h2
theorem dif_in {G Gi G2 : IM} {b : Nat} (hle : IMle G Gi) (h : Gi b = none ∧ G2 b ≠ none) : Dif G2 G b ≠ none := by
 cases hg : G b with
 | none => simpa [Dif, hg] using h.2
 | some l => rw [hle b l hg] at h; exact absurd h.1 (by simp)
/-- A call's paths come to the ones so far. -/
theorem SPs.step {G Gi Gf G1 : IM} {ls ls' : List (List Int)} {es es' : List Value} {F F' : List Nat} (h : SPs (Dif Gi G) ls es F) (hn : F.Nodup) (hle : IMle G Gi) (hlef : IMle Gi Gf) (hle1 : IMle Gf G1)
  (h' : SPs (Dif G1 Gf) ls' es' F') (hn' : F'.Nodup) : SPs (Dif G1 G) (ls ++ ls') (es ++ es') (F ++ F') ∧ (F ++ F').Nodup :=
 ⟨(h.mono (Dif.mono (hlef.trans hle1))).append (h'.mono (Dif.anti (hle.trans hlef))), dif_disj h.inG (h'.mono (Dif.anti hlef)).inG hn hn'⟩
theorem SPs.first {G G2 : IM} {l : List Int} {p : Option Addr} {c : Nat} (hsl : Sl G2 p l.length c 1 (ints l)) (hno : ∀ b ∈ vfp p, G b = none ∧ G2 b ≠ none) (hp : p = none → l.length = 0) (hle : IMle G G2) :
  SPs (Dif G2 G) [l] [.slice p l.length c] (vfp p) ∧ (vfp p).Nodup := by
 refine ⟨⟨p, c, [], [], rfl, by simp, hsl.dif (fun b hb => (hno b hb).1) (IMle.refl _), fun b hb => dif_in (IMle.refl _) (hno b hb), hp, rfl, rfl⟩, by cases p <;> simp [vfp]⟩
/-- What AllPaths hands back: the outer list and each path in memory of its own. -/
def RPs (G : IM) (ls : List (List Int)) (p : Option Addr) (c : Nat) : Prop := ∃ es F, Sl G p ls.length c 1 es ∧ (∀ b ∈ vfp p, G b ≠ none) ∧ SPs G ls es F ∧ (vfp p ++ F).Nodup
theorem RPs.fin {G Gi G2 : IM} {ls : List (List Int)} {es : List Value} {F : List Nat} {p : Option Addr} {c m : Nat} (h : SPs (Dif Gi G) ls es F) (hn : F.Nodup) (hle : IMle G Gi) (hle2 : IMle Gi G2)
  (hsl : Sl G2 p m c 1 es) (hm : m = ls.length) (hno : ∀ b ∈ vfp p, Gi b = none ∧ G2 b ≠ none) : RPs (Dif G2 G) ls p c := by
 subst hm
 refine ⟨es, F, hsl.dif (fun b hb => (hno b hb).1) hle, fun b hb => dif_in hle (hno b hb), h.mono (Dif.mono hle2), ?_⟩
 rw [List.nodup_append]
 refine ⟨by cases p <;> simp [vfp], hn, ?_⟩
 rintro x hx y hy rfl
 have h1 := h.inG x hy
 have h2 := (hno x hx).1
 apply h1
 cases hd : Dif Gi G x with
 | none => rfl
 | some l => rw [Dif.le _ _ x l hd] at h2; cases h2
mutual
theorem mScan_count (M D N : Int) : ∀ (t : Tm) (deep c : Int), (mScan M D N t deep c).1 = true → (mScan M D N t deep c).2 = c + tmCount t
 | .mk k nm num ty fr lb ks, deep, c, h => by
  rw [mScan] at h ⊢
  split at h
  ·cases h
  ·rename_i hc
   rw [if_neg hc, mScanL_count M D N ks (deep + 1) (c + 1) h, tmCount]
   omega
theorem mScanL_count (M D N : Int) : ∀ (ts : List Tm) (deep c : Int), (mScanL M D N ts deep c).1 = true → (mScanL M D N ts deep c).2 = c + tmCountL ts
 | [], deep, c, h => by rw [mScanL, tmCountL]; simp
 | t :: ts, deep, c, h => by
  rw [mScanL] at h ⊢
  split at h
  ·rename_i h1
   rw [if_pos h1, mScanL_count M D N ts deep _ h, mScan_count M D N t deep c h1, tmCountL]
   omega
  ·cases h
end
theorem castValid_count {t : Tm} (h : castValid t = true) : tmCount t ≤ 200 := by
 have h1 := mScan_count 200 40 13 t 1 0 h
 have h2 := (mScan_le 200 40 13 t 1 0 (by omega) (by omega)).2.2 h
 omega
/-- AllPaths in plain words. -/
def mAll (t : Tm) : List (List Int) := if castValid t = true then mPaths t [] else []
theorem RPs.nil (G : IM) : RPs G [] none 0 := ⟨[], [], Sl.nil G 1, by simp [vfp], ⟨rfl, rfl⟩, by simp [vfp]⟩
section slaws
variable {P : Program} {Γ : Ctx} {env : Env} {hp : List Ent} {G : IM} {ty : TypeId}
theorem pure_sneq_s {x y : Operand} {t t' : TypeId} {r : ByteArray} (hx : evo env x = some (.string r)) (hy : evo env y = some (.string r)) :
  PureOp P Γ ⟨env, hp, G⟩ (.binOp .neq t x y t') ty (.bool false) := by
 have h := pure_sneq (P := P) (Γ := Γ) (hp := hp) (G := G) (t := t) (t' := t') (ty := ty) hx hy
 rwa [decide_eq_false (by simp)] at h
end slaws
/-- One cell of a slice of cells. -/
theorem Sl.kid {G : IM} {p : Option Addr} {n c : Nat} {cs : List Value} (h : Sl G p n c 1 cs) {i : Nat} (hi : i < n) :
  ∃ b o v, p = some ⟨b, o, none⟩ ∧ cs[i]? = some v ∧ (∀ hp, At hp G b (o + i * 1) [v]) ∧ G b ≠ none := by
 obtain ⟨h1, h2, h3, h4⟩ := h
 obtain ⟨b, o, full, rfl, hg, hv⟩ := h4.resolve_left (by omega)
 have hlt : i < cs.length := by omega
 refine ⟨b, o, cs[i], rfl, List.getElem?_eq_getElem hlt, fun hp => at_im hg ?_, by rw [hg]; simp⟩
 intro j v hj
 cases j with
 | zero => simp at hj; subst hj; simpa using hv i _ (List.getElem?_eq_getElem hlt)
 | succ j => simp at hj
theorem ints_get {l : List Int} {i : Nat} {v : Value} (h : (ints l)[i]? = some v) : ∃ hi : i < l.length, v = .int .i64 l[i] := by
 have hi : i < l.length := by have := (List.getElem?_eq_some_iff.1 h).1; rwa [ints_len] at this
 refine ⟨hi, ?_⟩
 simp [ints, hi] at h
 exact h.symm
theorem Sl.le {G : IM} {p : Option Addr} {n c sz : Nat} {cs : List Value} (h : Sl G p n c sz cs) : n ≤ 9223372036854775807 := by
 have h1 := h.2.1; have h2 := h.2.2.1; unfold maxLen at h2; omega

theorem eqTypeS_of (ks : List Ty) (ih : ∀ t ∈ ks, ∀ (G : IM) (cells cells' : List Value), RTy G t cells → RTy G t cells' → Fn Tryz.prog 27 [.agg ⟨cells⟩, .agg ⟨cells'⟩] [] G (Val (.bool true) G))
  (G : IM) (p p' : Option Addr) (c c' : Nat) (es es' : List (List Value)) (hsl : SlE G p ks.length c 2 es) (hkl : RTyL G ks es) (hsl' : SlE G p' ks.length c' 2 es') (hkl' : RTyL G ks es') :
  Fn Tryz.prog 50 [.slice p ks.length c, .slice p' ks.length c'] [] G (Val (.bool true) G) := by
 have hn := hsl.le
 refine fn_enter Tryz.func50 rfl Tryz.ntmps50 Tryz.results50 rfl ?_
 intro w0
 refine tS (tR (sQ (pA rfl) rfl (sD (nS (tS (tS ?_))))))
 refine tR (sQ (pM rfl) rfl (sQ (pLn rfl rfl) rfl (sQ (pM rfl) rfl (sQ (pLn rfl rfl) rfl (sP (pure_neq_f rfl rfl (by omega)) rfl rfl ?_)))))
 refine sD (nS (cF rfl ?_))
 refine tK (nS (tS (tS (tR (sQ (pA rfl) rfl (sD ?_))))))
 refine nS (tri_block (tri_loopN (fun (i : Nat) => ⟨[(5, .int .i64 i), (1, .slice p' ks.length c'), (0, .slice p ks.length c)], [], G⟩) (fun i => i ≤ ks.length) (fun i => ks.length - i) 0 ?_ ?_ ?_))
 exact sMk
 exact Nat.zero_le _
 rintro i hi
 refine tS (tS (tR (sQ (pM rfl) rfl (sQ (pM rfl) rfl (sQ (pLn rfl rfl) rfl (sB (pure_lss rfl rfl) rfl rfl (fun h36 => ?_) (fun h36 => ?_)))))))
 refine sD (nS (cT rfl ?_))
 refine tK (nS (tS (tri_block (tS ?_))))
 (obtain ⟨b, o, p2, c2, rfl, hat, hre, hgb⟩ := hsl.kidTy hkl (i := i) (by omega) (by omega); obtain ⟨b', o', p2', c2', rfl, hat', hre', hgb'⟩ := hsl'.kidTy hkl' (i := i) (by omega) (by omega); refine tri_draw mixed rfl ?_)
 refine any_pure (i := 0) (l' := [tt,ff,ff,ff,ff,ff,ff,ff,ff,ff]) rfl npI (pM rfl) rfl (by kernel_rfl) rfl rfl ?_
 refine aP 1 rfl (pM rfl) rfl ?_
 refine aP 2 rfl (pIN rfl rfl rfl (by omega)) rfl ?_
 refine aL 3 rfl (load_a rfl rfl (hat _) rfl) rfl ?_
 refine aP 4 rfl (pM rfl) rfl ?_
 refine aP 5 rfl (pM rfl) rfl ?_
 refine aP 6 rfl (pIN rfl rfl rfl (by omega)) rfl ?_
 refine aL 7 rfl (load_a rfl rfl (hat' _) rfl) rfl ?_
 refine aO' 8 ?_
 refine one_val rfl rfl (ih ks[i] (List.getElem_mem (by omega)) _ _ _ hre hre') rfl rfl rfl ?_
 refine aP 9 rfl (pNt rfl) rfl ?_
 refine aD' ?_
 refine nS (cF rfl ?_)
 refine tK (nrm_block (nS (tR (sQ (pM rfl) rfl (sP (pure_add rfl rfl (by omega) (by omega)) rfl rfl ?_)))))
 refine sQ (pA rfl) rfl (sD (nrm_loopN (i + 1) ?_ ?_ ?_))
 exact sMk
 omega
 omega
 refine sD (nS (cF rfl ?_))
 refine tri_exit ?_
 refine ext_seq ?_
 refine ext_loopN ?_
 refine ext_block_eq ?_
 refine nS (tS (tR (sQ (pA rfl) rfl (sD (nS (tT ?_))))))
 refine rF1 (rT rfl) ?_
 exact ⟨rfl, rfl, rfl⟩
theorem eqType_fn : ∀ (t : Ty) (G : IM) (cells cells' : List Value), RTy G t cells → RTy G t cells' → Fn Tryz.prog 27 [.agg ⟨cells⟩, .agg ⟨cells'⟩] [] G (Val (.bool true) G) := by
 refine Ty.ind fun k ks ih G cells cells' hr hr' => ?_
 obtain ⟨p, c, es, rfl, hk, hsl, hkl⟩ := hr.open
 obtain ⟨p', c', es', rfl, hk', hsl', hkl'⟩ := hr'.open
 simp only [Ty.k, Ty.ks] at hk hsl hkl hk' hsl' hkl' ⊢
 have hS := eqTypeS_of ks ih G p p' c c' es es' hsl hkl hsl' hkl'
 refine fn_enter Tryz.func27 rfl Tryz.ntmps27 Tryz.results27 rfl ?_
 intro w0
 refine tS (tR ?_)
 refine sE (step_box_a rfl rfl) rfl (fun b3 => ?_)
 refine sE (step_box_a rfl rfl) rfl (fun b4 => ?_)
 refine sQ (pA rfl) rfl (sD (nS (tS (tS (tR (sQ (pF0 rfl) rfl ?_))))))
 refine sL (lBs rfl rfl) rfl rfl ?_
 refine sQ (pF0 rfl) rfl (sL (lBs rfl rfl) rfl rfl ?_)
 refine sP (pure_neq_f rfl rfl (by omega)) rfl rfl ?_
 refine sD (nS (cF rfl ?_))
 refine tK (nS (tS (tS (tR (sQ (pF0 rfl) rfl (sL (lBs rfl rfl) rfl rfl ?_))))))
 refine sQ (pF0 rfl) rfl (sL (lBs rfl rfl) rfl rfl ?_)
 refine seq_val rfl (hS) rfl rfl ?_
 refine sQ (pNt rfl) rfl (sD (nS (cF rfl ?_)))
 refine tK (nS (tS (tR (sQ (pA rfl) rfl (sD (nS ?_))))))
 refine tT (rF1 (rT rfl) ?_)
 exact ⟨rfl, rfl, rfl⟩
theorem eqTermS_of (ks : List Tm) (ih : ∀ t ∈ ks, ∀ (G : IM) (cells cells' : List Value), RTm G t cells → RTm G t cells' → Fn Tryz.prog 9 [.agg ⟨cells⟩, .agg ⟨cells'⟩] [] G (Val (.bool true) G))
  (G : IM) (p p' : Option Addr) (c c' : Nat) (es es' : List (List Value)) (hsl : SlE G p ks.length c 9 es) (hkl : RTmL G ks es) (hsl' : SlE G p' ks.length c' 9 es') (hkl' : RTmL G ks es') :
  Fn Tryz.prog 28 [.slice p ks.length c, .slice p' ks.length c'] [] G (Val (.bool true) G) := by
 have hn := hsl.le
 refine fn_enter Tryz.func28 rfl Tryz.ntmps28 Tryz.results28 rfl ?_
 intro w0
 refine tS (tR (sQ (pA rfl) rfl (sD (nS (tS (tS ?_))))))
 refine tR (sQ (pM rfl) rfl (sQ (pLn rfl rfl) rfl (sQ (pM rfl) rfl (sQ (pLn rfl rfl) rfl (sP (pure_neq_f rfl rfl (by omega)) rfl rfl ?_)))))
 refine sD (nS (cF rfl ?_))
 refine tK (nS (tS (tS (tR (sQ (pA rfl) rfl (sD ?_))))))
 refine nS (tri_block (tri_loopN (fun (i : Nat) => ⟨[(5, .int .i64 i), (1, .slice p' ks.length c'), (0, .slice p ks.length c)], [], G⟩) (fun i => i ≤ ks.length) (fun i => ks.length - i) 0 ?_ ?_ ?_))
 exact sMk
 exact Nat.zero_le _
 rintro i hi
 refine tS (tS (tR (sQ (pM rfl) rfl (sQ (pM rfl) rfl (sQ (pLn rfl rfl) rfl (sB (pure_lss rfl rfl) rfl rfl (fun h36 => ?_) (fun h36 => ?_)))))))
 refine sD (nS (cT rfl ?_))
 refine tK (nS (tS (tri_block (tS ?_))))
 (obtain ⟨b, o, e, rfl, hl, hat, hre, hgb⟩ := hsl.kidTm hkl (i := i) (by omega) (by omega); obtain ⟨b', o', e', rfl, hl', hat', hre', hgb'⟩ := hsl'.kidTm hkl' (i := i) (by omega) (by omega); refine tri_draw mixed rfl ?_)
 refine any_pure (i := 0) (l' := [tt,ff,ff,ff,ff,ff,ff,ff,ff,ff]) rfl npI (pM rfl) rfl (by kernel_rfl) rfl rfl ?_
 refine aP 1 rfl (pM rfl) rfl ?_
 refine aP 2 rfl (pIN rfl rfl rfl (by omega)) rfl ?_
 refine aL 3 rfl (load_a rfl rfl (hat _) hl) rfl ?_
 refine aP 4 rfl (pM rfl) rfl ?_
 refine aP 5 rfl (pM rfl) rfl ?_
 refine aP 6 rfl (pIN rfl rfl rfl (by omega)) rfl ?_
 refine aL 7 rfl (load_a rfl rfl (hat' _) hl') rfl ?_
 refine aO' 8 ?_
 refine one_val rfl rfl (ih ks[i] (List.getElem_mem (by omega)) _ _ _ hre hre') rfl rfl rfl ?_
 refine aP 9 rfl (pNt rfl) rfl ?_
 refine aD' ?_
 refine nS (cF rfl ?_)
 refine tK (nrm_block (nS (tR (sQ (pM rfl) rfl (sP (pure_add rfl rfl (by omega) (by omega)) rfl rfl ?_)))))
 refine sQ (pA rfl) rfl (sD (nrm_loopN (i + 1) ?_ ?_ ?_))
 exact sMk
 omega
 omega
 refine sD (nS (cF rfl ?_))
 refine tri_exit ?_
 refine ext_seq ?_
 refine ext_loopN ?_
 refine ext_block_eq ?_
 refine nS (tS (tR (sQ (pA rfl) rfl (sD (nS (tT ?_))))))
 refine rF1 (rT rfl) ?_
 exact ⟨rfl, rfl, rfl⟩
theorem eqTerm_fn : ∀ (t : Tm) (G : IM) (cells cells' : List Value), RTm G t cells → RTm G t cells' → Fn Tryz.prog 9 [.agg ⟨cells⟩, .agg ⟨cells'⟩] [] G (Val (.bool true) G) := by
 refine Tm.ind fun k nm num ty fr lb ks ih G cells cells' hr hr' => ?_
 obtain ⟨tk, tks⟩ := ty
 obtain ⟨fk, fks⟩ := fr
 obtain ⟨pt, ct, pf, cf, p, c, es, rfl, hk, hnum, hlb, hty, hfr, hsl, hkl⟩ := hr.open9
 obtain ⟨pt', ct', pf', cf', p', c', es', rfl, hk', hnum', hlb', hty', hfr', hsl', hkl'⟩ := hr'.open9
 have hS := eqTermS_of ks ih G p p' c c' es es' hsl hkl hsl' hkl'
 have hT := eqType_fn _ G _ _ hty hty'
 have hF := eqType_fn _ G _ _ hfr hfr'
 refine fn_enter Tryz.func9 rfl Tryz.ntmps9 Tryz.results9 rfl ?_
 intro w0
 refine tS (tR ?_)
 refine sE (step_box_a rfl rfl) rfl (fun b3 => ?_)
 refine sE (step_box_a rfl rfl) rfl (fun b4 => ?_)
 refine sQ (pA rfl) rfl (sD (nS (tS (tS (tR (sQ (pF0 rfl) rfl ?_))))))
 refine sL (lBs rfl rfl) rfl rfl ?_
 refine sQ (pF0 rfl) rfl (sL (lBs rfl rfl) rfl rfl ?_)
 refine sP (pure_neq_f rfl rfl (by omega)) rfl rfl ?_
 refine sD (nS (cF rfl ?_))
 refine tK (nS (tS (tS (tR (sQ (pF0 rfl) rfl (sL (lBs rfl rfl) rfl rfl ?_))))))
 refine sQ (pF0 rfl) rfl (sL (lBs rfl rfl) rfl rfl ?_)
 refine sQ (pure_sneq_s rfl rfl) rfl (sD (nS (cF rfl ?_)))
 refine tK (nS (tS (tS (tR (sQ (pF0 rfl) rfl (sL (lBs rfl rfl) rfl rfl ?_))))))
 refine sQ (pF0 rfl) rfl (sL (lBs rfl rfl) rfl rfl ?_)
 refine sP (pure_neq_f rfl rfl (by omega)) rfl rfl ?_
 refine sD (nS (cF rfl ?_))
 refine tK (nS (tS (tS (tR (sQ (pF0 rfl) rfl (sL (lBa rfl rfl) rfl rfl ?_))))))
 refine sQ (pF0 rfl) rfl (sL (lBa rfl rfl) rfl rfl ?_)
 refine seq_val rfl (hT) rfl rfl ?_
 refine sQ (pNt rfl) rfl (sD (nS (cF rfl ?_)))
 refine tK (nS (tS (tS (tR (sQ (pF0 rfl) rfl (sL (lBa rfl rfl) rfl rfl ?_))))))
 refine sQ (pF0 rfl) rfl (sL (lBa rfl rfl) rfl rfl ?_)
 refine seq_val rfl (hF) rfl rfl ?_
 refine sQ (pNt rfl) rfl (sD (nS (cF rfl ?_)))
 refine tK (nS (tS (tS (tR (sQ (pF0 rfl) rfl (sL (lBs rfl rfl) rfl rfl ?_))))))
 refine sQ (pF0 rfl) rfl (sL (lBs rfl rfl) rfl rfl ?_)
 refine sP (pure_neq_f rfl rfl (by omega)) rfl rfl ?_
 refine sD (nS (cF rfl ?_))
 refine tK (nS (tS (tS (tR (sQ (pF0 rfl) rfl (sL (lBs rfl rfl) rfl rfl ?_))))))
 refine sQ (pF0 rfl) rfl (sL (lBs rfl rfl) rfl rfl ?_)
 refine seq_val rfl (hS) rfl rfl ?_
 refine sQ (pNt rfl) rfl (sD (nS (cF rfl ?_)))
 refine tK (nS (tS (tR (sQ (pA rfl) rfl (sD (nS ?_))))))
 refine tT (rF1 (rT rfl) ?_)
 exact ⟨rfl, rfl, rfl⟩
theorem eqIntS_fn (l : List Int) (G : IM) (p p' : Option Addr) (c c' : Nat) (h : Sl G p l.length c 1 (ints l)) (h' : Sl G p' l.length c' 1 (ints l)) :
  Fn Tryz.prog 12 [.slice p l.length c, .slice p' l.length c'] [] G (Val (.bool true) G) := by
 have hn := h.le
 refine fn_enter Tryz.func12 rfl Tryz.ntmps12 Tryz.results12 rfl ?_
 intro w0
 refine tS (tR (sQ (pA rfl) rfl (sD (nS (tS (tS ?_))))))
 refine tR (sQ (pM rfl) rfl (sQ (pLn rfl rfl) rfl (sQ (pM rfl) rfl (sQ (pLn rfl rfl) rfl (sP (pure_neq_f rfl rfl (by omega)) rfl rfl ?_)))))
 refine sD (nS (cF rfl ?_))
 refine tK (nS (tS (tS (tR (sQ (pA rfl) rfl (sD ?_))))))
 refine nS (tri_block (tri_loopN (fun (i : Nat) => ⟨[(5, .int .i64 i), (1, .slice p' l.length c'), (0, .slice p l.length c)], [], G⟩) (fun i => i ≤ l.length) (fun i => l.length - i) 0 ?_ ?_ ?_))
 exact sMk
 exact Nat.zero_le _
 rintro i hi
 refine tS (tS (tR (sQ (pM rfl) rfl (sQ (pM rfl) rfl (sQ (pLn rfl rfl) rfl (sB (pure_lss rfl rfl) rfl rfl (fun h36 => ?_) (fun h36 => ?_)))))))
 refine sD (nS (cT rfl ?_))
 refine tK (nS (tS (tri_block (tS ?_))))
 (obtain ⟨b, o, v, rfl, hv, hat, hgb⟩ := h.kid (i := i) (by omega); obtain ⟨_, rfl⟩ := ints_get hv; obtain ⟨b', o', v', rfl, hv', hat', hgb'⟩ := h'.kid (i := i) (by omega); obtain ⟨_, rfl⟩ := ints_get hv'; refine tri_draw mixed rfl ?_)
 refine any_pure (i := 0) (l' := [tt,ff,ff,ff,ff,ff,ff,ff,ff]) rfl npI (pM rfl) rfl (by kernel_rfl) rfl rfl ?_
 refine aP 1 rfl (pM rfl) rfl ?_
 refine aP 2 rfl (pIN rfl rfl rfl (by omega)) rfl ?_
 refine aL 3 rfl (load_s rfl rfl (hat _)) rfl ?_
 refine aP 4 rfl (pM rfl) rfl ?_
 refine aP 5 rfl (pM rfl) rfl ?_
 refine aP 6 rfl (pIN rfl rfl rfl (by omega)) rfl ?_
 refine aL 7 rfl (load_s rfl rfl (hat' _)) rfl ?_
 refine aP 8 rfl (pure_neq_f rfl rfl (by omega)) rfl ?_
 refine aD' ?_
 refine nS (cF rfl ?_)
 refine tK (nrm_block (nS (tR (sQ (pM rfl) rfl (sP (pure_add rfl rfl (by omega) (by omega)) rfl rfl ?_)))))
 refine sQ (pA rfl) rfl (sD (nrm_loopN (i + 1) ?_ ?_ ?_))
 exact sMk
 omega
 omega
 refine sD (nS (cF rfl ?_))
 refine tri_exit ?_
 refine ext_seq ?_
 refine ext_loopN ?_
 refine ext_block_eq ?_
 refine nS (tS (tR (sQ (pA rfl) rfl (sD (nS (tT ?_))))))
 refine rF1 (rT rfl) ?_
 exact ⟨rfl, rfl, rfl⟩

abbrev Blks := List (Nat × List Value)

/- Types: each slice in a block of the call's own. -/
mutual
def OTy : Ty → List Value → Blks → Prop
 | .mk k ks, cells, bs => ∃ p c, cells = [.int .i64 k, .slice p ks.length c] ∧ I64 k ∧ ks.length ≤ c ∧ c ≤ maxLen ∧ ((ks = [] ∧ bs = []) ∨ ∃ b A C es r, p = some ⟨b, A.length, none⟩ ∧ bs = (b, A ++ (es.flatten ++ C)) :: r ∧ OTyL ks es r)
def OTyL : List Ty → List (List Value) → Blks → Prop
 | [], es, bs => es = [] ∧ bs = []
 | t :: ts, es, bs => ∃ e e' r1 r2, es = e :: e' ∧ bs = r1 ++ r2 ∧ OTy t e r1 ∧ OTyL ts e' r2
end
def OTyS (ks : List Ty) (p : Option Addr) (c : Nat) (bs : Blks) : Prop :=
 ks.length ≤ c ∧ c ≤ maxLen ∧ ((ks = [] ∧ bs = []) ∨ ∃ b A C es r, p = some ⟨b, A.length, none⟩ ∧ bs = (b, A ++ (es.flatten ++ C)) :: r ∧ OTyL ks es r)
theorem OTy.open {t : Ty} {cells : List Value} {bs : Blks} (h : OTy t cells bs) : ∃ p c, cells = [.int .i64 t.k, .slice p t.ks.length c] ∧ I64 t.k ∧ OTyS t.ks p c bs := by
 cases t
 simp only [OTy] at h
 obtain ⟨p, c, h1, h2, h3, h4, h5⟩ := h
 exact ⟨p, c, h1, h2, h3, h4, h5⟩
theorem OTyS.ty {k : Int} {ks : List Ty} {p : Option Addr} {c : Nat} {bs : Blks} (h : OTyS ks p c bs) (hk : I64 k) : OTy (.mk k ks) [.int .i64 k, .slice p ks.length c] bs := by
 simp only [OTy]
 exact ⟨p, c, rfl, hk, h.1, h.2.1, h.2.2⟩
theorem OTy.len {t : Ty} {cells : List Value} {bs : Blks} (h : OTy t cells bs) : cells.length = 2 := by
 obtain ⟨_, _, rfl, _⟩ := h.open; rfl
theorem OTyL.len : ∀ {ts : List Ty} {es : List (List Value)} {bs : Blks}, OTyL ts es bs → es.length = ts.length
 | [], es, bs, h => by simp only [OTyL] at h; rw [h.1]; rfl
 | t :: ts, es, bs, h => by
  simp only [OTyL] at h
  obtain ⟨e, e', r1, r2, rfl, rfl, h1, h2⟩ := h
  simp [OTyL.len h2]
theorem OTyL.all : ∀ {ts : List Ty} {es : List (List Value)} {bs : Blks}, OTyL ts es bs → ∀ e ∈ es, e.length = 2
 | [], es, bs, h => by simp only [OTyL] at h; rw [h.1]; simp
 | t :: ts, es, bs, h => by
  simp only [OTyL] at h
  obtain ⟨e, e', r1, r2, rfl, rfl, h1, h2⟩ := h
  intro x hx
  rcases List.mem_cons.1 hx with rfl | hx
  ·exact h1.len
  ·exact OTyL.all h2 x hx
theorem OTyL.snoc : ∀ {ts : List Ty} {es : List (List Value)} {bs : Blks} {t : Ty} {e : List Value} {r : Blks}, OTyL ts es bs → OTy t e r → OTyL (ts ++ [t]) (es ++ [e]) (bs ++ r)
 | [], es, bs, t, e, r, h, h2 => by
  simp only [OTyL] at h
  obtain ⟨rfl, rfl⟩ := h
  simp only [List.nil_append, OTyL]
  exact ⟨e, [], r, [], rfl, by simp, h2, rfl, rfl⟩
 | t' :: ts, es, bs, t, e, r, h, h2 => by
  simp only [OTyL] at h
  obtain ⟨a, a', r1, r2, rfl, rfl, h3, h4⟩ := h
  simp only [List.cons_append, OTyL]
  exact ⟨a, a' ++ [e], r1, r2 ++ r, rfl, by rw [List.append_assoc], h3, OTyL.snoc h4 h2⟩
theorem OTyL.cons {t : Ty} {ts : List Ty} {es : List (List Value)} {bs : Blks} (h : OTyL (t :: ts) es bs) : ∃ p c e' r1 r2, es = [.int .i64 t.k, .slice p t.ks.length c] :: e' ∧ bs = r1 ++ r2 ∧ OTyS t.ks p c r1 ∧ OTyL ts e' r2 := by
 simp only [OTyL] at h
 obtain ⟨e, e', r1, r2, rfl, rfl, h3, h4⟩ := h
 obtain ⟨p, c, rfl, _, h5⟩ := h3.open
 exact ⟨p, c, e', r1, r2, rfl, rfl, h5, h4⟩

/- Terms. -/
mutual
def OTm : Tm → List Value → Blks → Prop
 | .mk k nm num ty fr lb ks, cells, bs => ∃ tc fc p c bt bf bk, cells = [.int .i64 k, .string nm, .int .i64 num] ++ tc ++ fc ++ [.int .i64 lb, .slice p ks.length c] ∧ I64 k ∧ I64 num ∧ I64 lb ∧ OTy ty tc bt ∧ OTy fr fc bf ∧
   ks.length ≤ c ∧ c ≤ maxLen ∧ ((ks = [] ∧ bk = []) ∨ ∃ b A C es r, p = some ⟨b, A.length, none⟩ ∧ bk = (b, A ++ (es.flatten ++ C)) :: r ∧ OTmL ks es r) ∧ bs = bt ++ (bf ++ bk)
def OTmL : List Tm → List (List Value) → Blks → Prop
 | [], es, bs => es = [] ∧ bs = []
 | t :: ts, es, bs => ∃ e e' r1 r2, es = e :: e' ∧ bs = r1 ++ r2 ∧ OTm t e r1 ∧ OTmL ts e' r2
end
def OTmS (ks : List Tm) (p : Option Addr) (c : Nat) (bs : Blks) : Prop :=
 ks.length ≤ c ∧ c ≤ maxLen ∧ ((ks = [] ∧ bs = []) ∨ ∃ b A C es r, p = some ⟨b, A.length, none⟩ ∧ bs = (b, A ++ (es.flatten ++ C)) :: r ∧ OTmL ks es r)
theorem OTm.open {t : Tm} {cells : List Value} {bs : Blks} (h : OTm t cells bs) : ∃ pt ct pf cf p c bt bf bk,
  cells = [.int .i64 t.k, .string t.nm, .int .i64 t.num, .int .i64 t.ty.k, .slice pt t.ty.ks.length ct, .int .i64 t.fr.k, .slice pf t.fr.ks.length cf, .int .i64 t.lb, .slice p t.ks.length c] ∧
  OTyS t.ty.ks pt ct bt ∧ OTyS t.fr.ks pf cf bf ∧ OTmS t.ks p c bk ∧ bs = bt ++ (bf ++ bk) := by
 cases t
 simp only [OTm] at h
 obtain ⟨tc, fc, p, c, bt, bf, bk, h1, _, _, _, h5, h6, h7, h8, h9, h10⟩ := h
 obtain ⟨pt, ct, rfl, _, ht⟩ := h5.open
 obtain ⟨pf, cf, rfl, _, hf⟩ := h6.open
 exact ⟨pt, ct, pf, cf, p, c, bt, bf, bk, h1, ht, hf, ⟨h7, h8, h9⟩, h10⟩
theorem OTm.mk {k : Int} {nm : ByteArray} {num tk fk lb : Int} {tks fks : List Ty} {ks : List Tm} {pt pf p : Option Addr} {ct cf c : Nat} {bt bf bk : Blks} (hk : I64 k) (hn : I64 num) (htk : I64 tk) (hfk : I64 fk) (hlb : I64 lb)
  (ht : OTyS tks pt ct bt) (hf : OTyS fks pf cf bf) (h : OTmS ks p c bk) :
  OTm (.mk k nm num (.mk tk tks) (.mk fk fks) lb ks) [.int .i64 k, .string nm, .int .i64 num, .int .i64 tk, .slice pt tks.length ct, .int .i64 fk, .slice pf fks.length cf, .int .i64 lb, .slice p ks.length c] (bt ++ (bf ++ bk)) := by
 simp only [OTm]
 exact ⟨_, _, p, c, bt, bf, bk, rfl, hk, hn, hlb, ht.ty htk, hf.ty hfk, h.1, h.2.1, h.2.2, rfl⟩
theorem OTm.len {t : Tm} {cells : List Value} {bs : Blks} (h : OTm t cells bs) : cells.length = 9 := by
 obtain ⟨_, _, _, _, _, _, _, _, _, rfl, _⟩ := h.open; rfl
theorem OTmL.len : ∀ {ts : List Tm} {es : List (List Value)} {bs : Blks}, OTmL ts es bs → es.length = ts.length
 | [], es, bs, h => by simp only [OTmL] at h; rw [h.1]; rfl
 | t :: ts, es, bs, h => by
  simp only [OTmL] at h
  obtain ⟨e, e', r1, r2, rfl, rfl, h1, h2⟩ := h
  simp [OTmL.len h2]
theorem OTmL.all : ∀ {ts : List Tm} {es : List (List Value)} {bs : Blks}, OTmL ts es bs → ∀ e ∈ es, e.length = 9
 | [], es, bs, h => by simp only [OTmL] at h; rw [h.1]; simp
 | t :: ts, es, bs, h => by
  simp only [OTmL] at h
  obtain ⟨e, e', r1, r2, rfl, rfl, h1, h2⟩ := h
  intro x hx
  rcases List.mem_cons.1 hx with rfl | hx
  ·exact h1.len
  ·exact OTmL.all h2 x hx
theorem OTmL.snoc : ∀ {ts : List Tm} {es : List (List Value)} {bs : Blks} {t : Tm} {e : List Value} {r : Blks}, OTmL ts es bs → OTm t e r → OTmL (ts ++ [t]) (es ++ [e]) (bs ++ r)
 | [], es, bs, t, e, r, h, h2 => by
  simp only [OTmL] at h
  obtain ⟨rfl, rfl⟩ := h
  simp only [List.nil_append, OTmL]
  exact ⟨e, [], r, [], rfl, by simp, h2, rfl, rfl⟩
 | t' :: ts, es, bs, t, e, r, h, h2 => by
  simp only [OTmL] at h
  obtain ⟨a, a', r1, r2, rfl, rfl, h3, h4⟩ := h
  simp only [List.cons_append, OTmL]
  exact ⟨a, a' ++ [e], r1, r2 ++ r, rfl, by rw [List.append_assoc], h3, OTmL.snoc h4 h2⟩
theorem OTmL.cons {t : Tm} {ts : List Tm} {es : List (List Value)} {bs : Blks} (h : OTmL (t :: ts) es bs) : ∃ e e' r1 r2, es = e :: e' ∧ bs = r1 ++ r2 ∧ OTm t e r1 ∧ OTmL ts e' r2 := by
 simpa only [OTmL] using h

/- How many marks are written, and what the data are then. -/
mutual
def cntTy : Ty → Int
 | .mk _ ks => 1 + cntTyL ks
def cntTyL : List Ty → Int
 | [] => 0
 | t :: ts => cntTy t + cntTyL ts
end
mutual
def mkTy : Ty → Int → Ty
 | .mk _ ks, k => .mk k (mkTyL ks (k + 1))
def mkTyL : List Ty → Int → List Ty
 | [], _ => []
 | t :: ts, k => mkTy t k :: mkTyL ts (k + cntTy t)
end
mutual
def cntTm : Tm → Int
 | .mk _ _ _ ty fr _ ks => 6 + cntTyL ty.ks + cntTyL fr.ks + cntTmL ks
def cntTmL : List Tm → Int
 | [] => 0
 | t :: ts => cntTm t + cntTmL ts
end
mutual
def mkTm : Tm → Int → Tm
 | .mk _ _ _ ty fr _ ks, k => .mk k (mText (k + 1).toNat) (k + 1 + 1) (.mk (k + 1 + 1 + 1) (mkTyL ty.ks (k + 1 + 1 + 1 + 1))) (.mk (k + 1 + 1 + 1 + 1 + cntTyL ty.ks) (mkTyL fr.ks (k + 1 + 1 + 1 + 1 + cntTyL ty.ks + 1))) (k + 1 + 1 + 1 + 1 + cntTyL ty.ks + 1 + cntTyL fr.ks) (mkTmL ks (k + 1 + 1 + 1 + 1 + cntTyL ty.ks + 1 + cntTyL fr.ks + 1))
def mkTmL : List Tm → Int → List Tm
 | [], _ => []
 | t :: ts, k => mkTm t k :: mkTmL ts (k + cntTm t)
end
mutual
theorem cntTy_pos : ∀ t : Ty, 1 ≤ cntTy t
 | .mk _ ks => by have := cntTyL_nn ks; rw [cntTy]; omega
theorem cntTyL_nn : ∀ ts : List Ty, 0 ≤ cntTyL ts
 | [] => by rw [cntTyL]; omega
 | t :: ts => by have := cntTy_pos t; have := cntTyL_nn ts; rw [cntTyL]; omega
end
mutual
theorem cntTm_pos : ∀ t : Tm, 6 ≤ cntTm t
 | .mk _ _ _ ty fr _ ks => by have := cntTmL_nn ks; have := cntTyL_nn ty.ks; have := cntTyL_nn fr.ks; rw [cntTm]; omega
theorem cntTmL_nn : ∀ ts : List Tm, 0 ≤ cntTmL ts
 | [] => by rw [cntTmL]; omega
 | t :: ts => by have := cntTm_pos t; have := cntTmL_nn ts; rw [cntTmL]; omega
end
theorem cntTyL_append : ∀ a b : List Ty, cntTyL (a ++ b) = cntTyL a + cntTyL b
 | [], b => by simp [cntTyL]
 | t :: a, b => by rw [List.cons_append, cntTyL, cntTyL, cntTyL_append a b]; omega
theorem cntTmL_append : ∀ a b : List Tm, cntTmL (a ++ b) = cntTmL a + cntTmL b
 | [], b => by simp [cntTmL]
 | t :: a, b => by rw [List.cons_append, cntTmL, cntTmL, cntTmL_append a b]; omega
theorem cntTyL_succ {ks : List Ty} {i : Nat} (hi : i < ks.length) : cntTyL (ks.take (i + 1)) = cntTyL (ks.take i) + cntTy ks[i] := by
 rw [List.take_succ_eq_append_getElem hi, cntTyL_append, cntTyL, cntTyL]; omega
theorem cntTmL_succ {ks : List Tm} {i : Nat} (hi : i < ks.length) : cntTmL (ks.take (i + 1)) = cntTmL (ks.take i) + cntTm ks[i] := by
 rw [List.take_succ_eq_append_getElem hi, cntTmL_append, cntTmL, cntTmL]; omega
theorem cntTyL_take (ks : List Ty) (i : Nat) : cntTyL (ks.take i) ≤ cntTyL ks := by
 have h := cntTyL_append (ks.take i) (ks.drop i)
 rw [List.take_append_drop] at h
 have := cntTyL_nn (ks.drop i); omega
theorem cntTmL_take (ks : List Tm) (i : Nat) : cntTmL (ks.take i) ≤ cntTmL ks := by
 have h := cntTmL_append (ks.take i) (ks.drop i)
 rw [List.take_append_drop] at h
 have := cntTmL_nn (ks.drop i); omega
theorem cntTy_eq (t : Ty) : cntTy t = 1 + cntTyL t.ks := by cases t; rw [cntTy]; rfl
theorem cntTm_eq (t : Tm) : cntTm t = 6 + cntTyL t.ty.ks + cntTyL t.fr.ks + cntTmL t.ks := by cases t; rw [cntTm]; rfl
theorem mkTyL_snoc : ∀ (ts : List Ty) (t : Ty) (k : Int), mkTyL (ts ++ [t]) k = mkTyL ts k ++ [mkTy t (k + cntTyL ts)]
 | [], t, k => by simp [mkTyL, cntTyL]
 | t' :: ts, t, k => by rw [List.cons_append, mkTyL, mkTyL_snoc ts t, mkTyL, cntTyL, List.cons_append, Int.add_assoc]
theorem mkTmL_snoc : ∀ (ts : List Tm) (t : Tm) (k : Int), mkTmL (ts ++ [t]) k = mkTmL ts k ++ [mkTm t (k + cntTmL ts)]
 | [], t, k => by simp [mkTmL, cntTmL]
 | t' :: ts, t, k => by rw [List.cons_append, mkTmL, mkTmL_snoc ts t, mkTmL, cntTmL, List.cons_append, Int.add_assoc]
theorem mkTyL_take {ks : List Ty} {i : Nat} (hi : i < ks.length) (k : Int) : mkTyL (ks.take (i + 1)) k = mkTyL (ks.take i) k ++ [mkTy ks[i] (k + cntTyL (ks.take i))] := by
 rw [List.take_succ_eq_append_getElem hi, mkTyL_snoc]
theorem mkTmL_take {ks : List Tm} {i : Nat} (hi : i < ks.length) (k : Int) : mkTmL (ks.take (i + 1)) k = mkTmL (ks.take i) k ++ [mkTm ks[i] (k + cntTmL (ks.take i))] := by
 rw [List.take_succ_eq_append_getElem hi, mkTmL_snoc]
theorem mkTyL_len : ∀ (ts : List Ty) (k : Int), (mkTyL ts k).length = ts.length
 | [], k => rfl
 | t :: ts, k => by rw [mkTyL, List.length_cons, mkTyL_len ts, List.length_cons]
theorem mkTmL_len : ∀ (ts : List Tm) (k : Int), (mkTmL ts k).length = ts.length
 | [], k => rfl
 | t :: ts, k => by rw [mkTmL, List.length_cons, mkTmL_len ts, List.length_cons]
theorem mkTy_eq (t : Ty) (k : Int) : mkTy t k = .mk k (mkTyL t.ks (k + 1)) := by cases t; rw [mkTy]; rfl
theorem mkTm_eq (t : Tm) (k : Int) : mkTm t k = .mk k (mText (k + 1).toNat) (k + 1 + 1) (.mk (k + 1 + 1 + 1) (mkTyL t.ty.ks (k + 1 + 1 + 1 + 1))) (.mk (k + 1 + 1 + 1 + 1 + cntTyL t.ty.ks) (mkTyL t.fr.ks (k + 1 + 1 + 1 + 1 + cntTyL t.ty.ks + 1))) (k + 1 + 1 + 1 + 1 + cntTyL t.ty.ks + 1 + cntTyL t.fr.ks) (mkTmL t.ks (k + 1 + 1 + 1 + 1 + cntTyL t.ty.ks + 1 + cntTyL t.fr.ks + 1)) := by cases t; rw [mkTm]; rfl

/- One element of a block. -/
theorem upd_in : ∀ {X e e' Y vs : List Value} {o : Nat}, upd e o vs = some e' → upd (X ++ (e ++ Y)) (X.length + o) vs = some (X ++ (e' ++ Y))
 | [], e, e', Y, vs, o, h => by
  obtain ⟨h1, h2⟩ := upd_spec h
  simp only [List.nil_append, List.length_nil, Nat.zero_add]
  have := upd_at (A := e.take o) (B := (e.drop o).take vs.length) (C := (e.drop o).drop vs.length ++ Y) (V := vs) (o := o) (by simp; omega) (by simp; omega)
  rw [show e.take o ++ ((e.drop o).take vs.length ++ ((e.drop o).drop vs.length ++ Y)) = e ++ Y from by
   rw [← List.append_assoc ((e.drop o).take vs.length), List.take_append_drop, ← List.append_assoc, List.take_append_drop]] at this
  rw [this, h1, List.drop_drop]
  simp
 | x :: X, e, e', Y, vs, o, h => by
  have := upd_in (X := X) (Y := Y) h
  rw [List.length_cons, show X.length + 1 + o = (X.length + o) + 1 by omega]
  simp only [List.cons_append, upd, this]
theorem upd_el {A : List Value} {D : List (List Value)} {e e' R vs : List Value} {i sz off : Nat} (hD : D.length = i) (ha : ∀ x ∈ D, x.length = sz) (he : upd e off vs = some e') :
  upd (A ++ (D.flatten ++ (e ++ R))) (A.length + i * sz + off) vs = some (A ++ (D.flatten ++ (e' ++ R))) := by
 have := upd_in (X := A ++ D.flatten) (Y := R) he
 rw [List.length_append, flat_len ha, hD, List.append_assoc, List.append_assoc] at this
 exact this
theorem get_el {A : List Value} {D : List (List Value)} {e R : List Value} {i sz off : Nat} {v : Value} (hD : D.length = i) (ha : ∀ x ∈ D, x.length = sz) (he : e[off]? = some v) :
  (A ++ (D.flatten ++ (e ++ R)))[A.length + i * sz + off]? = some v := by
 have hlt : off < e.length := (List.getElem?_eq_some_iff.1 he).1
 have hf := flat_len ha
 rw [hD] at hf
 rw [List.getElem?_append, if_neg (by omega), List.getElem?_append, if_neg (by omega), List.getElem?_append, if_pos (by omega)]
 rw [show A.length + i * sz + off - A.length - D.flatten.length = off by omega]
 exact he
theorem at_el {hp : List Ent} {G : IM} {b : Nat} {A : List Value} {D : List (List Value)} {e R : List Value} {i sz off : Nat} {v : Value} (hm : Ent.blk b (A ++ (D.flatten ++ (e ++ R))) ∈ hp) (hD : D.length = i) (ha : ∀ x ∈ D, x.length = sz) (he : e[off]? = some v) :
  At hp G b (A.length + i * sz + off) [v] := at_blk_s hm (get_el hD ha he)

section lend
variable {P : Program} {Γ : Ctx} {env : Env} {hp : List Ent} {G : IM} {K : Po} {ops : Array Oper} {rest : List Oper} {ty : TypeId} {pos : String} {af : Array Edge} {gd : Option (Nat × Bool)}
/-- A call that is lent blocks, gives a value and hands blocks back. -/
def Lent (v0 : Value) (G : IM) (Φ : Blks → Prop) : IM → Value → List Ent → Prop := fun G' v outs => G' = G ∧ v = v0 ∧ ∃ bs', outs = blks bs' ∧ Φ bs'
theorem perm_lend (x : Ent) (r0 r1 r2 : Blks) : (x :: blks (r0 ++ (r1 ++ r2))).Perm (blks r1 ++ (x :: blks (r0 ++ r2))) := by
 simp only [blks_append]
 refine List.Perm.trans ?_ List.perm_middle.symm
 refine List.Perm.cons x ?_
 rw [← List.append_assoc, ← List.append_assoc]
 exact List.Perm.append_right _ List.perm_append_comm
theorem seq_lend {d : Nat} {f : FuncId} [hF : FunI P f] {xs : List Operand} {ats : Array TypeId} {vs : List Value} {v0 : Value} {Φ : Blks → Prop} {x : Ent} {R r0 r1 r2 : Blks}
  (hx : evl env xs = some vs) (h : Fn P f vs (blks r1) G (Lent v0 G Φ)) (hR : R = r0 ++ (r1 ++ r2)) (hw : wantG ops env gd = some true) (hd : Nat.blt d Γ.n = true)
  (k : ∀ r1', Φ r1' → TriL P Γ ops rest K ⟨(d, v0) :: env, x :: blks (r0 ++ (r1' ++ r2)), G⟩) : TriL P Γ ops (⟨some d, .call ⟨.value (.func f), ⟨xs⟩, ats⟩, ty, pos, af, gd⟩ :: rest) K ⟨env, x :: blks R, G⟩ := by
 subst hR
 refine seq_step (step_call_own hx h (perm_lend x r0 r1 r2) hd) hw ?_
 rintro _ ⟨v, G', outs, rfl, _, rfl, rfl, r1', rfl, hΦ⟩
 exact triL_perm (perm_lend x r0 r1' r2).symm (k r1' hΦ)
end lend
theorem flat_step (D : List (List Value)) (e R : List Value) : D.flatten ++ (e ++ R) = (D ++ [e]).flatten ++ R := by simp
theorem OTyS.ty_mk {k k' : Int} {ks : List Ty} {p : Option Addr} {c : Nat} {bs : Blks} (h : OTyS (mkTyL ks k') p c bs) (hk : I64 k) : OTy (.mk k (mkTyL ks k')) [.int .i64 k, .slice p ks.length c] bs := by
 have := h.ty hk; rwa [mkTyL_len] at this
theorem OTyL.drop {ks : List Ty} {i : Nat} {T : List (List Value)} {r : Blks} (hi : i < ks.length) (h : OTyL (ks.drop i) T r) : ∃ p c e' r1 r2, T = [.int .i64 ks[i].k, .slice p ks[i].ks.length c] :: e' ∧ r = r1 ++ r2 ∧ OTyS ks[i].ks p c r1 ∧ OTyL (ks.drop (i + 1)) e' r2 := by
 rw [List.drop_eq_getElem_cons hi] at h; exact h.cons
theorem OTyL.fin {ks : List Ty} {T : List (List Value)} {r : Blks} (h : OTyL (ks.drop ks.length) T r) : T = [] ∧ r = [] := by
 rw [List.drop_length] at h; simpa only [OTyL] using h
theorem OTyL.done {ks : List Ty} {k : Int} {c : Nat} {b : Nat} {A C : List Value} {D T : List (List Value)} {r0 r1 : Blks} (hc : ks.length ≤ c) (hm : c ≤ maxLen) (hD : OTyL (mkTyL (ks.take ks.length) k) D r0) (hT : OTyL (ks.drop ks.length) T r1) :
  ∃ bs', (Ent.blk b (A ++ (D.flatten ++ (T.flatten ++ C))) :: blks (r0 ++ r1)) = blks bs' ∧ OTyS (mkTyL ks k) (some ⟨b, A.length, none⟩) c bs' := by
 obtain ⟨rfl, rfl⟩ := hT.fin
 rw [List.take_length] at hD
 exact ⟨(b, A ++ (D.flatten ++ C)) :: r0, by simp [blks], by rw [mkTyL_len]; exact hc, hm, .inr ⟨b, A, C, D, r0, rfl, rfl, hD⟩⟩
theorem markTypeS_fn : ∀ (t : Ty) (k : Int) (G : IM) (p : Option Addr) (c : Nat) (bs : Blks), OTyS t.ks p c bs → 0 < k → k + cntTyL t.ks ≤ 1099511627776 →
  Fn Tryz.prog 59 [.slice p t.ks.length c, .int .i64 k] (blks bs) G (Lent (.int .i64 (k + cntTyL t.ks)) G (OTyS (mkTyL t.ks k) p c)) := by
 refine Ty.ind fun k0 ks ih k G p c bs ho hk hb => ?_
 simp only [Ty.ks] at ho hb ⊢
 obtain ⟨hc, hm, h⟩ := ho
 rcases h with ⟨rfl, rfl⟩ | ⟨b, A, C, es, r, rfl, rfl, hL⟩
 ·refine fn_enter Tryz.func59 rfl Tryz.ntmps59 Tryz.results59 rfl ?_
  intro w0
  refine tS ?_
  refine tR ?_
  refine sQ (pA rfl) rfl ?_
  refine sD ?_
  refine nS ?_
  refine tS ?_
  refine tS ?_
  refine tR ?_
  refine sQ (pA rfl) rfl ?_
  refine sD ?_
  refine nS ?_
  refine tri_block ?_
  refine tri_loopN (fun (_ : Unit) => ⟨[(5, .int .i64 0), (1, .int .i64 k), (0, .slice p 0 c)], [], G⟩) (fun _ => True) (fun _ => 0) () ?_ ?_ ?_
  ·exact sMk
  ·trivial
  ·(rintro _ _)
   refine tS ?_
   refine tS ?_
   refine tR ?_
   refine sQ (pM rfl) rfl ?_
   refine sQ (pM rfl) rfl ?_
   refine sQ (pLn rfl rfl) rfl ?_
   refine sP (pure_lss_f rfl rfl (by omega)) rfl rfl ?_
   refine sD ?_
   refine nS ?_
   refine cF rfl ?_
   refine tri_exit ?_
   refine ext_seq ?_
   refine ext_loopN ?_
   refine ext_block_eq ?_
   refine nS ?_
   refine tS ?_
   refine tR ?_
   refine sQ (pM rfl) rfl ?_
   refine sQ (pA rfl) rfl ?_
   refine sD ?_
   refine nS ?_
   refine tT ?_
   refine ret_own1 (rT rfl) SubH.refl ?_
   exact ⟨rfl, by rw [cntTyL, Int.add_zero], [], rfl, ⟨hc, hm, .inl ⟨rfl, rfl⟩⟩⟩
 ·have hcm := hm
  unfold maxLen at hcm
  have hn : ks.length ≤ 9223372036854775807 := by omega
  refine fn_enter (ins := .blk b (A ++ (es.flatten ++ C)) :: blks r) Tryz.func59 rfl Tryz.ntmps59 Tryz.results59 rfl ?_
  intro w0
  refine tS (tR (sQ (pA rfl) rfl (sD (nS (tS (tS ?_))))))
  refine tR (sQ (pA rfl) rfl (sD (nS (tri_block (tri_loopN (fun (x : Nat × Int × List (List Value) × List (List Value) × Blks × Blks) => ⟨[(5, .int .i64 x.1), (1, .int .i64 x.2.1), (0, .slice (some ⟨b, A.length, none⟩) ks.length c)], .blk b (A ++ (x.2.2.1.flatten ++ (x.2.2.2.1.flatten ++ C))) :: blks (x.2.2.2.2.1 ++ x.2.2.2.2.2), G⟩) (fun x => x.1 ≤ ks.length ∧ x.2.1 = k + cntTyL (ks.take x.1) ∧ OTyL (mkTyL (ks.take x.1) k) x.2.2.1 x.2.2.2.2.1 ∧ OTyL (ks.drop x.1) x.2.2.2.1 x.2.2.2.2.2) (fun x => ks.length - x.1) (0, k, [], es, [], r) ?_ ?_ ?_)))))
  (simp only [flat_snoc]; exact sMk)
  exact ⟨by simp, by simp [cntTyL], by simp [OTyL, mkTyL], by simpa using hL⟩
  (rintro ⟨i, kk, D, T, r0, r1⟩ ⟨hi, hkk, hD, hT⟩; simp only [] at hi hkk hD hT ⊢; have hDl : D.length = i := (by rw [hD.len, mkTyL_len, List.length_take]; omega); have hall := hD.all; have hnn := cntTyL_nn (ks.take i); have htk := cntTyL_take ks i)
  refine tS (tS (tR (sQ (pM rfl) rfl (sQ (pM rfl) rfl (sQ (pLn rfl rfl) rfl (sB (pure_lss rfl rfl) rfl rfl (fun h23 => ?_) (fun h23 => ?_)))))))
  refine sD (nS (cT rfl ?_))
  refine tK (nS (tS (tri_block (tS (tR (sQ (pM rfl) rfl ?_))))))
  refine sQ (pM rfl) rfl (sQ (pM rfl) rfl (sP (pIN rfl rfl rfl (by omega)) rfl rfl ?_))
  refine sQ (pF rfl) rfl ?_
  (obtain ⟨p3, c3, T', r1a, r1b, rfl, rfl, hos, hT'⟩ := hT.drop (by omega); rw [List.flatten_cons, List.append_assoc]; refine seq_store rfl rfl rfl rfl rfl rfl Sw.here (upd_el hDl hall rfl) ?_)
  refine sD (nS (tS (tR (sQ (pM rfl) rfl (sP (pure_add rfl rfl (by omega) (by omega)) rfl rfl ?_)))))
  refine sQ (pA rfl) rfl (sD (nS (tR (sQ (pM rfl) rfl (sQ (pM rfl) rfl (sP (pIN rfl rfl rfl (by omega)) rfl rfl ?_))))))
  refine sQ (pF rfl) rfl (sL (load_s rfl rfl (at_el (List.Mem.head _) hDl hall rfl)) rfl rfl ?_)
  refine sQ (pM rfl) rfl ?_
  (have hsu := cntTyL_succ (ks := ks) (i := i) (by omega); have hta := cntTyL_take ks (i + 1); have hce := cntTy_eq ks[i]; refine seq_lend rfl (ih ks[i] (List.getElem_mem (by omega)) (kk + 1) G p3 c3 r1a hos (by omega) (by omega)) rfl rfl rfl (fun r1' hr1 => ?_))
  refine sQ (pA rfl) rfl (sD (nrm_block (nS (tR (sQ (pM rfl) rfl (sP (pure_add rfl rfl (by omega) (by omega)) rfl rfl ?_))))))
  refine sQ (pA rfl) rfl (sD ?_)
  (rw [flat_step D, ← List.append_assoc r0]; refine nrm_loopN (i + 1, kk + 1 + cntTyL ks[i].ks, D ++ [[.int .i64 kk, .slice p3 ks[i].ks.length c3]], T', r0 ++ r1', r1b) ?_ ?_ ?_)
  (simp only [flat_snoc]; exact sMk)
  (dsimp only; exact ⟨by omega, by omega, by rw [mkTyL_take (by omega), mkTy_eq, ← hkk]; exact hD.snoc (hr1.ty_mk ⟨by omega, by omega⟩), hT'⟩)
  (show ks.length - (i + 1) < ks.length - i; omega)
  refine sD (nS (cF rfl ?_))
  refine tri_exit ?_
  refine ext_seq ?_
  refine ext_loopN ?_
  refine ext_block_eq ?_
  refine nS (tS (tR (sQ (pM rfl) rfl (sQ (pA rfl) rfl (sD (nS ?_))))))
  refine tT ?_
  (obtain rfl : i = ks.length := (by omega); refine ret_own1 (rT rfl) SubH.refl ?_)
  exact ⟨rfl, by rw [hkk, List.take_length], OTyL.done hc hm hD hT⟩
theorem markType_fn (t : Ty) (k : Int) (G : IM) (cells : List Value) (bs : Blks) (ho : OTy t cells bs) (hk : 0 < k) (hb : k + cntTyL t.ks ≤ 1099511627776) :
  Fn Tryz.prog 34 [.agg ⟨cells⟩, .int .i64 k] (blks bs) G (Lent (.int .i64 (k + cntTyL t.ks)) G (fun bs' => ∃ p c, cells = [.int .i64 t.k, .slice p t.ks.length c] ∧ OTyS (mkTyL t.ks k) p c bs')) := by
 obtain ⟨p, c, rfl, hi, ho⟩ := ho.open
 have hM := markTypeS_fn t k G p c bs ho hk hb
 refine fn_enter Tryz.func34 rfl Tryz.ntmps34 Tryz.results34 rfl ?_
 intro w0
 refine tS (tR ?_)
 refine sE (step_box_a rfl rfl) rfl (fun b3 => ?_)
 refine sQ (pA rfl) rfl (sD (nS (tS (tR (sQ (pF0 rfl) rfl (sL (lBs rfl rfl) rfl rfl ?_))))))
 refine sQ (pM rfl) rfl ?_
 (refine seq_lend (r0 := []) (r2 := []) rfl hM (by simp) rfl rfl (fun r1' hr1 => ?_); rw [List.nil_append, List.append_nil])
 refine sQ (pA rfl) rfl (sD (nS (tS (tR (sQ (pM rfl) rfl (sQ (pA rfl) rfl ?_))))))
 refine sD (nS (tT (ret_own1 (rT rfl) (SubH.drop SubH.refl) ?_)))
 exact ⟨rfl, rfl, _, rfl, p, c, rfl, hr1⟩
theorem at_el2 {hp : List Ent} {G : IM} {b : Nat} {A : List Value} {D : List (List Value)} {e R : List Value} {i sz o1 o2 : Nat} {v : Value} (hm : Ent.blk b (A ++ (D.flatten ++ (e ++ R))) ∈ hp) (hD : D.length = i) (ha : ∀ x ∈ D, x.length = sz) (he : e[o1 + o2]? = some v) :
  At hp G b (A.length + i * sz + o1 + o2) [v] := by rw [Nat.add_assoc]; exact at_el hm hD ha he
theorem OTm.mkm {k : Int} {nm : ByteArray} {num tk fk lb ka kb kd : Int} {a d : List Ty} {ks : List Tm} {pt pf p : Option Addr} {ct cf c : Nat} {bt bf bk : Blks} (ht : OTyS (mkTyL a ka) pt ct bt) (hf : OTyS (mkTyL d kb) pf cf bf) (h : OTmS (mkTmL ks kd) p c bk)
  (hk : I64 k) (hn : I64 num) (htk : I64 tk) (hfk : I64 fk) (hlb : I64 lb) :
  OTm (.mk k nm num (.mk tk (mkTyL a ka)) (.mk fk (mkTyL d kb)) lb (mkTmL ks kd)) [.int .i64 k, .string nm, .int .i64 num, .int .i64 tk, .slice pt a.length ct, .int .i64 fk, .slice pf d.length cf, .int .i64 lb, .slice p ks.length c] (bt ++ (bf ++ bk)) := by
 have := OTm.mk (nm := nm) hk hn htk hfk hlb ht hf h
 rwa [mkTyL_len a, mkTyL_len d, mkTmL_len] at this
theorem OTmL.drop {ks : List Tm} {i : Nat} {T : List (List Value)} {r : Blks} (hi : i < ks.length) (h : OTmL (ks.drop i) T r) : ∃ pt ct pf cf p c e' bt bf bk r2,
  T = [.int .i64 ks[i].k, .string ks[i].nm, .int .i64 ks[i].num, .int .i64 ks[i].ty.k, .slice pt ks[i].ty.ks.length ct, .int .i64 ks[i].fr.k, .slice pf ks[i].fr.ks.length cf, .int .i64 ks[i].lb, .slice p ks[i].ks.length c] :: e' ∧
  r = (bt ++ (bf ++ bk)) ++ r2 ∧ OTyS ks[i].ty.ks pt ct bt ∧ OTyS ks[i].fr.ks pf cf bf ∧ OTmS ks[i].ks p c bk ∧ OTmL (ks.drop (i + 1)) e' r2 := by
 rw [List.drop_eq_getElem_cons hi] at h
 obtain ⟨e, e', r1, r2, rfl, rfl, h1, h2⟩ := h.cons
 obtain ⟨pt, ct, pf, cf, p, c, bt, bf, bk, rfl, h3, h4, h5, rfl⟩ := h1.open
 exact ⟨pt, ct, pf, cf, p, c, e', bt, bf, bk, r2, rfl, rfl, h3, h4, h5, h2⟩
theorem OTmL.fin {ks : List Tm} {T : List (List Value)} {r : Blks} (h : OTmL (ks.drop ks.length) T r) : T = [] ∧ r = [] := by
 rw [List.drop_length] at h; simpa only [OTmL] using h
theorem OTmL.done {ks : List Tm} {k : Int} {c : Nat} {b : Nat} {A C : List Value} {D T : List (List Value)} {r0 r1 : Blks} (hc : ks.length ≤ c) (hm : c ≤ maxLen) (hD : OTmL (mkTmL (ks.take ks.length) k) D r0) (hT : OTmL (ks.drop ks.length) T r1) :
  ∃ bs', (Ent.blk b (A ++ (D.flatten ++ (T.flatten ++ C))) :: blks (r0 ++ r1)) = blks bs' ∧ OTmS (mkTmL ks k) (some ⟨b, A.length, none⟩) c bs' := by
 obtain ⟨rfl, rfl⟩ := hT.fin
 rw [List.take_length] at hD
 exact ⟨(b, A ++ (D.flatten ++ C)) :: r0, by simp [blks], by rw [mkTmL_len]; exact hc, hm, .inr ⟨b, A, C, D, r0, rfl, rfl, hD⟩⟩
theorem triL_hp {P : Program} {Γ : Ctx} {env : Env} {hp hp' : List Ent} {G : IM} {K : Po} {ops : Array Oper} {rest : List Oper} (e : hp = hp') (k : TriL P Γ ops rest K ⟨env, hp', G⟩) : TriL P Γ ops rest K ⟨env, hp, G⟩ := by rw [e]; exact k
theorem markText_int (k : Int) (h0 : 0 < k) (hk : k < 1000000000000000000) (G : IM) : Fn Tryz.prog 60 [.int .i64 k] [] G (Val (.string (mText k.toNat)) G) := by
 have h := markText_fn k.toNat (by omega) (by omega) G
 rwa [show ((k.toNat : Nat) : Int) = k by omega] at h
theorem markTermS_fn : ∀ (t : Tm) (k : Int) (G : IM) (p : Option Addr) (c : Nat) (bs : Blks), OTmS t.ks p c bs → 0 < k → k + cntTmL t.ks ≤ 1099511627776 →
  Fn Tryz.prog 35 [.slice p t.ks.length c, .int .i64 k] (blks bs) G (Lent (.int .i64 (k + cntTmL t.ks)) G (OTmS (mkTmL t.ks k) p c)) := by
 refine Tm.ind fun k0 nm0 num0 ty0 fr0 lb0 ks ih k G p c bs ho hk hb => ?_
 simp only [Tm.ks] at ho hb ⊢
 obtain ⟨hc, hm, h⟩ := ho
 rcases h with ⟨rfl, rfl⟩ | ⟨b, A, C, es, r, rfl, rfl, hL⟩
 ·refine fn_enter Tryz.func35 rfl Tryz.ntmps35 Tryz.results35 rfl ?_
  intro w0
  refine tS ?_
  refine tR ?_
  refine sQ (pA rfl) rfl ?_
  refine sD ?_
  refine nS ?_
  refine tS ?_
  refine tS ?_
  refine tR ?_
  refine sQ (pA rfl) rfl ?_
  refine sD ?_
  refine nS ?_
  refine tri_block ?_
  refine tri_loopN (fun (_ : Unit) => ⟨[(5, .int .i64 0), (1, .int .i64 k), (0, .slice p 0 c)], [], G⟩) (fun _ => True) (fun _ => 0) () ?_ ?_ ?_
  ·exact sMk
  ·trivial
  ·(rintro _ _)
   refine tS ?_
   refine tS ?_
   refine tR ?_
   refine sQ (pM rfl) rfl ?_
   refine sQ (pM rfl) rfl ?_
   refine sQ (pLn rfl rfl) rfl ?_
   refine sP (pure_lss_f rfl rfl (by omega)) rfl rfl ?_
   refine sD ?_
   refine nS ?_
   refine cF rfl ?_
   refine tri_exit ?_
   refine ext_seq ?_
   refine ext_loopN ?_
   refine ext_block_eq ?_
   refine nS ?_
   refine tS ?_
   refine tR ?_
   refine sQ (pM rfl) rfl ?_
   refine sQ (pA rfl) rfl ?_
   refine sD ?_
   refine nS ?_
   refine tT ?_
   refine ret_own1 (rT rfl) SubH.refl ?_
   exact ⟨rfl, by rw [cntTmL, Int.add_zero], [], rfl, ⟨hc, hm, .inl ⟨rfl, rfl⟩⟩⟩
 ·have hcm := hm
  unfold maxLen at hcm
  have hn : ks.length ≤ 9223372036854775807 := by omega
  refine fn_enter (ins := .blk b (A ++ (es.flatten ++ C)) :: blks r) Tryz.func35 rfl Tryz.ntmps35 Tryz.results35 rfl ?_
  intro w0
  refine tS (tR (sQ (pA rfl) rfl (sD (nS (tS (tS ?_))))))
  refine tR (sQ (pA rfl) rfl (sD (nS (tri_block (tri_loopN (fun (x : Nat × Int × List (List Value) × List (List Value) × Blks × Blks) => ⟨[(5, .int .i64 x.1), (1, .int .i64 x.2.1), (0, .slice (some ⟨b, A.length, none⟩) ks.length c)], .blk b (A ++ (x.2.2.1.flatten ++ (x.2.2.2.1.flatten ++ C))) :: blks (x.2.2.2.2.1 ++ x.2.2.2.2.2), G⟩) (fun x => x.1 ≤ ks.length ∧ x.2.1 = k + cntTmL (ks.take x.1) ∧ OTmL (mkTmL (ks.take x.1) k) x.2.2.1 x.2.2.2.2.1 ∧ OTmL (ks.drop x.1) x.2.2.2.1 x.2.2.2.2.2) (fun x => ks.length - x.1) (0, k, [], es, [], r) ?_ ?_ ?_)))))
  (simp only [flat_snoc]; exact sMk)
  exact ⟨by simp, by simp [cntTmL], by simp [OTmL, mkTmL], by simpa using hL⟩
  (rintro ⟨i, kk, D, T, r0, r1⟩ ⟨hi, hkk, hD, hT⟩; simp only [] at hi hkk hD hT ⊢; have hDl : D.length = i := (by rw [hD.len, mkTmL_len, List.length_take]; omega); have hall := hD.all; have hnn := cntTmL_nn (ks.take i); have htk := cntTmL_take ks i)
  refine tS (tS (tR (sQ (pM rfl) rfl (sQ (pM rfl) rfl (sQ (pLn rfl rfl) rfl (sB (pure_lss rfl rfl) rfl rfl (fun h23 => ?_) (fun h23 => ?_)))))))
  refine sD (nS (cT rfl ?_))
  refine tK (nS (tS (tri_block (tS (tR (sQ (pM rfl) rfl ?_))))))
  refine sQ (pM rfl) rfl (sQ (pM rfl) rfl (sP (pIN rfl rfl rfl (by omega)) rfl rfl ?_))
  refine sQ (pF rfl) rfl ?_
  (obtain ⟨pt3, ct3, pf3, cf3, p3, c3, T', bt, bf, bk, r1b, rfl, rfl, hot, hof, hos, hT'⟩ := hT.drop (by omega); have hsu := cntTmL_succ (ks := ks) (i := i) (by omega); have hta := cntTmL_take ks (i + 1); have hce := cntTm_eq ks[i]; have hn1 := cntTyL_nn ks[i].ty.ks; have hn2 := cntTyL_nn ks[i].fr.ks; have hn3 := cntTmL_nn ks[i].ks; rw [List.flatten_cons, List.append_assoc]; refine seq_store rfl rfl rfl rfl rfl rfl Sw.here (upd_el hDl hall rfl) ?_)
  refine sD (nS (tS (tR (sQ (pM rfl) rfl (sP (pure_add rfl rfl (by omega) (by omega)) rfl rfl ?_)))))
  refine sQ (pA rfl) rfl (sD (nS (tS (tR (sQ (pM rfl) rfl (sQ (pM rfl) rfl ?_))))))
  refine sQ (pM rfl) rfl (seq_val rfl (markText_int _ (by omega) (by omega) _) rfl rfl ?_)
  refine sP (pIN rfl rfl rfl (by omega)) rfl rfl ?_
  refine sQ (pF rfl) rfl (seq_store rfl rfl rfl rfl rfl rfl Sw.here (upd_el hDl hall rfl) ?_)
  refine sD (nS (tS (tR (sQ (pM rfl) rfl (sP (pure_add rfl rfl (by omega) (by omega)) rfl rfl ?_)))))
  refine sQ (pA rfl) rfl (sD (nS (tS (tR (sQ (pM rfl) rfl (sQ (pM rfl) rfl ?_))))))
  refine sQ (pM rfl) rfl (sP (pIN rfl rfl rfl (by omega)) rfl rfl ?_)
  refine sQ (pF rfl) rfl (seq_store rfl rfl rfl rfl rfl rfl Sw.here (upd_el hDl hall rfl) ?_)
  refine sD (nS (tS (tR (sQ (pM rfl) rfl (sP (pure_add rfl rfl (by omega) (by omega)) rfl rfl ?_)))))
  refine sQ (pA rfl) rfl (sD (nS (tS (tR (sQ (pM rfl) rfl (sQ (pM rfl) rfl ?_))))))
  refine sQ (pM rfl) rfl (sP (pIN rfl rfl rfl (by omega)) rfl rfl ?_)
  refine sQ (pF rfl) rfl (sQ (pF rfl) rfl (seq_store rfl rfl rfl rfl rfl rfl Sw.here (upd_el hDl hall rfl) ?_))
  refine sD (nS (tS (tR (sQ (pM rfl) rfl (sP (pure_add rfl rfl (by omega) (by omega)) rfl rfl ?_)))))
  refine sQ (pA rfl) rfl (sD (nS (tS (tR (sQ (pM rfl) rfl (sQ (pM rfl) rfl ?_))))))
  refine sP (pIN rfl rfl rfl (by omega)) rfl rfl ?_
  refine sQ (pF rfl) rfl (sQ (pF rfl) rfl (sL (load_s rfl rfl (at_el2 (List.Mem.head _) hDl hall rfl)) rfl rfl ?_))
  refine sQ (pM rfl) rfl ?_
  (refine seq_lend (r0 := r0) (r1 := bt) (r2 := bf ++ (bk ++ r1b)) rfl (markTypeS_fn ks[i].ty (kk + 1 + 1 + 1 + 1) G pt3 ct3 bt hot (by omega) (by omega)) (by simp) rfl rfl (fun bt' hbt => ?_))
  refine sQ (pA rfl) rfl (sD (nS (tS (tR (sQ (pM rfl) rfl (sQ (pM rfl) rfl ?_))))))
  refine sQ (pM rfl) rfl (sP (pIN rfl rfl rfl (by omega)) rfl rfl ?_)
  refine sQ (pF rfl) rfl (sQ (pF rfl) rfl (seq_store rfl rfl rfl rfl rfl rfl Sw.here (upd_el hDl hall rfl) ?_))
  refine sD (nS (tS (tR (sQ (pM rfl) rfl (sP (pure_add rfl rfl (by omega) (by omega)) rfl rfl ?_)))))
  refine sQ (pA rfl) rfl (sD (nS (tS (tR (sQ (pM rfl) rfl (sQ (pM rfl) rfl ?_))))))
  refine sP (pIN rfl rfl rfl (by omega)) rfl rfl ?_
  refine sQ (pF rfl) rfl (sQ (pF rfl) rfl (sL (load_s rfl rfl (at_el2 (List.Mem.head _) hDl hall rfl)) rfl rfl ?_))
  refine sQ (pM rfl) rfl ?_
  (refine seq_lend (r0 := r0 ++ bt') (r1 := bf) (r2 := bk ++ r1b) rfl (markTypeS_fn ks[i].fr (kk + 1 + 1 + 1 + 1 + cntTyL ks[i].ty.ks + 1) G pf3 cf3 bf hof (by omega) (by omega)) (by simp) rfl rfl (fun bf' hbf => ?_))
  refine sQ (pA rfl) rfl (sD (nS (tS (tR (sQ (pM rfl) rfl (sQ (pM rfl) rfl ?_))))))
  refine sQ (pM rfl) rfl (sP (pIN rfl rfl rfl (by omega)) rfl rfl ?_)
  refine sQ (pF rfl) rfl (seq_store rfl rfl rfl rfl rfl rfl Sw.here (upd_el hDl hall rfl) ?_)
  refine sD (nS (tS (tR (sQ (pM rfl) rfl (sP (pure_add rfl rfl (by omega) (by omega)) rfl rfl ?_)))))
  refine sQ (pA rfl) rfl (sD (nS (tR (sQ (pM rfl) rfl (sQ (pM rfl) rfl (sP (pIN rfl rfl rfl (by omega)) rfl rfl ?_))))))
  refine sQ (pF rfl) rfl (sL (load_s rfl rfl (at_el (List.Mem.head _) hDl hall rfl)) rfl rfl ?_)
  refine sQ (pM rfl) rfl ?_
  (refine seq_lend (r0 := r0 ++ bt' ++ bf') (r1 := bk) (r2 := r1b) rfl (ih ks[i] (List.getElem_mem (by omega)) (kk + 1 + 1 + 1 + 1 + cntTyL ks[i].ty.ks + 1 + cntTyL ks[i].fr.ks + 1) G p3 c3 bk hos (by omega) (by omega)) (by simp) rfl rfl (fun bk' hbk => ?_); refine triL_hp (hp' := .blk b (A ++ ((D ++ [([.int .i64 kk, .string (mText (kk + 1).toNat), .int .i64 (kk + 1 + 1), .int .i64 (kk + 1 + 1 + 1), .slice pt3 ks[i].ty.ks.length ct3, .int .i64 (kk + 1 + 1 + 1 + 1 + cntTyL ks[i].ty.ks), .slice pf3 ks[i].fr.ks.length cf3, .int .i64 (kk + 1 + 1 + 1 + 1 + cntTyL ks[i].ty.ks + 1 + cntTyL ks[i].fr.ks), .slice p3 ks[i].ks.length c3] : List Value)]).flatten ++ (T'.flatten ++ C))) :: blks ((r0 ++ (bt' ++ (bf' ++ bk'))) ++ r1b)) (by simp) ?_)
  refine sQ (pA rfl) rfl (sD (nrm_block (nS (tR (sQ (pM rfl) rfl (sP (pure_add rfl rfl (by omega) (by omega)) rfl rfl ?_))))))
  refine sQ (pA rfl) rfl (sD ?_)
  (refine nrm_loopN (i + 1, kk + 1 + 1 + 1 + 1 + cntTyL ks[i].ty.ks + 1 + cntTyL ks[i].fr.ks + 1 + cntTmL ks[i].ks, D ++ [[.int .i64 kk, .string (mText (kk + 1).toNat), .int .i64 (kk + 1 + 1), .int .i64 (kk + 1 + 1 + 1), .slice pt3 ks[i].ty.ks.length ct3, .int .i64 (kk + 1 + 1 + 1 + 1 + cntTyL ks[i].ty.ks), .slice pf3 ks[i].fr.ks.length cf3, .int .i64 (kk + 1 + 1 + 1 + 1 + cntTyL ks[i].ty.ks + 1 + cntTyL ks[i].fr.ks), .slice p3 ks[i].ks.length c3]], T', r0 ++ (bt' ++ (bf' ++ bk')), r1b) ?_ ?_ ?_)
  (simp only [flat_snoc]; exact sMk)
  (dsimp only; exact ⟨by omega, by omega, by rw [mkTmL_take (by omega), mkTm_eq, ← hkk]; exact hD.snoc (OTm.mkm hbt hbf hbk ⟨by omega, by omega⟩ ⟨by omega, by omega⟩ ⟨by omega, by omega⟩ ⟨by omega, by omega⟩ ⟨by omega, by omega⟩), hT'⟩)
  (show ks.length - (i + 1) < ks.length - i; omega)
  refine sD (nS (cF rfl ?_))
  refine tri_exit ?_
  refine ext_seq ?_
  refine ext_loopN ?_
  refine ext_block_eq ?_
  refine nS (tS (tR (sQ (pM rfl) rfl (sQ (pA rfl) rfl (sD (nS ?_))))))
  refine tT ?_
  (obtain rfl : i = ks.length := (by omega); refine ret_own1 (rT rfl) SubH.refl ?_)
  exact ⟨rfl, by rw [hkk, List.take_length], OTmL.done hc hm hD hT⟩
theorem OTm.open9 {k : Int} {nm : ByteArray} {num tk fk lb : Int} {tks fks : List Ty} {ks : List Tm} {cells : List Value} {bs : Blks} (h : OTm (.mk k nm num (.mk tk tks) (.mk fk fks) lb ks) cells bs) : ∃ pt ct pf cf p c bt bf bk,
  cells = [.int .i64 k, .string nm, .int .i64 num, .int .i64 tk, .slice pt tks.length ct, .int .i64 fk, .slice pf fks.length cf, .int .i64 lb, .slice p ks.length c] ∧
  OTy (.mk tk tks) [.int .i64 tk, .slice pt tks.length ct] bt ∧ OTy (.mk fk fks) [.int .i64 fk, .slice pf fks.length cf] bf ∧ OTmS ks p c bk ∧ bs = bt ++ (bf ++ bk) := by
 simp only [OTm] at h
 obtain ⟨tc, fc, p, c, bt, bf, bk, h1, _, _, _, h5, h6, h7, h8, h9, h10⟩ := h
 obtain ⟨pt, ct, rfl, _, _⟩ := h5.open
 obtain ⟨pf, cf, rfl, _, _⟩ := h6.open
 exact ⟨pt, ct, pf, cf, p, c, bt, bf, bk, h1, h5, h6, ⟨h7, h8, h9⟩, h10⟩
theorem triL_bl {P : Program} {Γ : Ctx} {env : Env} {x : Ent} {R R' : Blks} {G : IM} {K : Po} {ops : Array Oper} {rest : List Oper} (e : R = R') (k : TriL P Γ ops rest K ⟨env, x :: blks R', G⟩) : TriL P Γ ops rest K ⟨env, x :: blks R, G⟩ := by rw [e]; exact k
/-- What a marked term's memory is. -/
def MTm (t : Tm) (k : Int) (cells : List Value) (bs : Blks) : Prop := ∃ pt ct pf cf p c bt bf bk,
 cells = [.int .i64 t.k, .string t.nm, .int .i64 t.num, .int .i64 t.ty.k, .slice pt t.ty.ks.length ct, .int .i64 t.fr.k, .slice pf t.fr.ks.length cf, .int .i64 t.lb, .slice p t.ks.length c] ∧
 OTyS (mkTyL t.ty.ks k) pt ct bt ∧ OTyS (mkTyL t.fr.ks (k + cntTyL t.ty.ks)) pf cf bf ∧ OTmS (mkTmL t.ks (k + cntTyL t.ty.ks + cntTyL t.fr.ks)) p c bk ∧ bs = bt ++ (bf ++ bk)
theorem markTerm_fn (t : Tm) (k : Int) (G : IM) (cells : List Value) (bs : Blks) (ho : OTm t cells bs) (hk : 0 < k) (hb : k + cntTyL t.ty.ks + cntTyL t.fr.ks + cntTmL t.ks ≤ 1099511627776) :
  Fn Tryz.prog 13 [.agg ⟨cells⟩, .int .i64 k] (blks bs) G (Lent (.int .i64 (k + cntTyL t.ty.ks + cntTyL t.fr.ks + cntTmL t.ks)) G (MTm t k cells)) := by
 obtain ⟨k0, nm, num, ⟨tk, tks⟩, ⟨fk, fks⟩, lb, ks⟩ := t
 obtain ⟨pt, ct, pf, cf, p, c, bt, bf, bk, rfl, hot, hof, hos, rfl⟩ := ho.open9
 simp only [Tm.ty, Tm.fr, Tm.ks, Ty.ks] at hb ⊢
 have h1 := cntTyL_nn tks
 have h2 := cntTyL_nn fks
 have h3 := cntTmL_nn ks
 refine fn_enter Tryz.func13 rfl Tryz.ntmps13 Tryz.results13 rfl ?_
 intro w0
 refine tS (tR ?_)
 refine sE (step_box_a rfl rfl) rfl (fun b3 => ?_)
 refine sQ (pA rfl) rfl (sD (nS (tS (tR (sQ (pF0 rfl) rfl (sL (lBa rfl rfl) rfl rfl ?_))))))
 refine sQ (pM rfl) rfl ?_
 (refine seq_lend (r0 := []) (r1 := bt) (r2 := bf ++ bk) rfl (markType_fn (.mk tk tks) k G _ bt hot hk (by simp only [Ty.ks]; omega)) rfl rfl rfl (fun bt' hbt => ?_); obtain ⟨p1, c1, he1, hbt⟩ := hbt; simp only [Ty.k, Ty.ks, List.cons.injEq, Value.slice.injEq, true_and, and_true] at he1 hbt ⊢; obtain ⟨rfl, rfl⟩ := he1)
 refine sQ (pA rfl) rfl (sD (nS (tS (tR (sQ (pF0 rfl) rfl (sL (lBa rfl rfl) rfl rfl ?_))))))
 refine sQ (pM rfl) rfl ?_
 (refine seq_lend (r0 := bt') (r1 := bf) (r2 := bk) rfl (markType_fn (.mk fk fks) (k + cntTyL tks) G _ bf hof (by omega) (by simp only [Ty.ks]; omega)) rfl rfl rfl (fun bf' hbf => ?_); obtain ⟨p2, c2, he2, hbf⟩ := hbf; simp only [Ty.k, Ty.ks, List.cons.injEq, Value.slice.injEq, true_and, and_true] at he2 hbf ⊢; obtain ⟨rfl, rfl⟩ := he2)
 refine sQ (pA rfl) rfl (sD (nS (tS (tR (sQ (pF0 rfl) rfl (sL (lBs rfl rfl) rfl rfl ?_))))))
 refine sQ (pM rfl) rfl ?_
 (refine seq_lend (r0 := bt' ++ bf') (r1 := bk) (r2 := []) rfl (markTermS_fn (.mk k0 nm num (.mk tk tks) (.mk fk fks) lb ks) (k + cntTyL tks + cntTyL fks) G p c bk hos (by omega) (by simp only [Tm.ks]; omega)) (by simp) rfl rfl (fun bk' hbk => ?_); simp only [Tm.ks] at hbk ⊢; refine triL_bl (R' := bt' ++ (bf' ++ bk')) (by simp) ?_)
 refine sQ (pA rfl) rfl (sD (nS (tS (tR (sQ (pM rfl) rfl (sQ (pA rfl) rfl ?_))))))
 refine sD (nS (tT (ret_own1 (rT rfl) (SubH.drop SubH.refl) ?_)))
 exact ⟨rfl, rfl, _, rfl, _, _, _, _, _, _, _, _, _, rfl, hbt, hbf, hbk, rfl⟩

/- Paths. -/
def mkInts : Nat → Int → List Int
 | 0, _ => []
 | n + 1, k => k :: mkInts n (k + 1)
theorem mkInts_len : ∀ (n : Nat) (k : Int), (mkInts n k).length = n
 | 0, k => rfl
 | n + 1, k => by rw [mkInts, List.length_cons, mkInts_len n]
theorem mkInts_get : ∀ (n : Nat) (k : Int) (i : Nat) (h : i < (mkInts n k).length), (mkInts n k)[i] = k + i
 | 0, k, i, h => by simp [mkInts] at h
 | n + 1, k, 0, h => by simp [mkInts]
 | n + 1, k, i + 1, h => by
  have := mkInts_get n (k + 1) i (by rw [mkInts_len] at h ⊢; omega)
  simp only [mkInts, List.getElem_cons_succ, this]; omega
theorem mkInts_snoc : ∀ (n : Nat) (k : Int), mkInts (n + 1) k = mkInts n k ++ [k + n]
 | 0, k => by simp [mkInts]
 | n + 1, k => by rw [mkInts, mkInts_snoc n, mkInts, List.cons_append, show k + 1 + (n : Int) = k + ((n + 1 : Nat) : Int) by omega]
def OIs (l : List Int) (p : Option Addr) (c : Nat) (bs : Blks) : Prop :=
 l.length ≤ c ∧ c ≤ maxLen ∧ ((l = [] ∧ bs = []) ∨ ∃ b A C, p = some ⟨b, A.length, none⟩ ∧ bs = [(b, A ++ (ints l ++ C))])
theorem upd_int {A D R : List Value} {v u : Value} {i : Nat} (h : D.length = i) : upd (A ++ (D ++ (v :: R))) (A.length + i * 1) [u] = some (A ++ (D ++ (u :: R))) := by
 have := upd_in (X := A ++ D) (e := [v]) (e' := [u]) (Y := R) (vs := [u]) (o := 0) rfl
 simpa [h] using this
theorem ints_drop {l : List Int} {i : Nat} (hi : i < l.length) : ints (l.drop i) = .int .i64 l[i] :: ints (l.drop (i + 1)) := by
 rw [List.drop_eq_getElem_cons hi]; rfl
theorem markIntS_fn (l : List Int) (k : Int) (G : IM) (p : Option Addr) (c : Nat) (bs : Blks) (ho : OIs l p c bs) (hk : 0 < k) (hb : k + l.length ≤ 1099511627776) :
  Fn Tryz.prog 14 [.slice p l.length c, .int .i64 k] (blks bs) G (Lent (.int .i64 (k + l.length)) G (OIs (mkInts l.length k) p c)) := by
 obtain ⟨hc, hm, h⟩ := ho
 rcases h with ⟨rfl, rfl⟩ | ⟨b, A, C, rfl, rfl⟩
 ·refine fn_enter Tryz.func14 rfl Tryz.ntmps14 Tryz.results14 rfl ?_
  intro w0
  refine tS ?_
  refine tR ?_
  refine sQ (pA rfl) rfl ?_
  refine sD ?_
  refine nS ?_
  refine tS ?_
  refine tS ?_
  refine tR ?_
  refine sQ (pA rfl) rfl ?_
  refine sD ?_
  refine nS ?_
  refine tri_block ?_
  refine tri_loopN (fun (_ : Unit) => ⟨[(5, .int .i64 0), (1, .int .i64 k), (0, .slice p 0 c)], [], G⟩) (fun _ => True) (fun _ => 0) () ?_ ?_ ?_
  ·exact sMk
  ·trivial
  ·(rintro _ _)
   refine tS ?_
   refine tS ?_
   refine tR ?_
   refine sQ (pM rfl) rfl ?_
   refine sQ (pM rfl) rfl ?_
   refine sQ (pLn rfl rfl) rfl ?_
   refine sP (pure_lss_f rfl rfl (by omega)) rfl rfl ?_
   refine sD ?_
   refine nS ?_
   refine cF rfl ?_
   refine tri_exit ?_
   refine ext_seq ?_
   refine ext_loopN ?_
   refine ext_block_eq ?_
   refine nS ?_
   refine tS ?_
   refine tR ?_
   refine sQ (pM rfl) rfl ?_
   refine sQ (pA rfl) rfl ?_
   refine sD ?_
   refine nS ?_
   refine tT ?_
   refine ret_own1 (rT rfl) SubH.refl ?_
   exact ⟨rfl, by rw [List.length_nil]; simp, [], rfl, ⟨hc, hm, .inl ⟨rfl, rfl⟩⟩⟩
 ·refine fn_enter (ins := [.blk b (A ++ (ints l ++ C))]) Tryz.func14 rfl Tryz.ntmps14 Tryz.results14 rfl ?_
  intro w0
  refine tS (tR (sQ (pA rfl) rfl (sD (nS (tS (tS ?_))))))
  refine tR (sQ (pA rfl) rfl (sD (nS (tri_block (tri_loopN (fun (x : Nat × Int × List Value × List Value) => ⟨[(5, .int .i64 x.1), (1, .int .i64 x.2.1), (0, .slice (some ⟨b, A.length, none⟩) l.length c)], [.blk b (A ++ (x.2.2.1 ++ (x.2.2.2 ++ C)))], G⟩) (fun x => x.1 ≤ l.length ∧ x.2.1 = k + x.1 ∧ x.2.2.1 = ints (mkInts x.1 k) ∧ x.2.2.2 = ints (l.drop x.1)) (fun x => l.length - x.1) (0, k, [], ints l) ?_ ?_ ?_)))))
  (simp only [flat_snoc]; exact sMk)
  exact ⟨by simp, by simp, rfl, rfl⟩
  (rintro ⟨i, kk, D, T⟩ ⟨hi, hkk, hD, hT⟩; simp only [] at hi hkk hD hT ⊢; have hDl : D.length = i := (by rw [hD, ints_len, mkInts_len]))
  refine tS (tS (tR (sQ (pM rfl) rfl (sQ (pM rfl) rfl (sQ (pLn rfl rfl) rfl (sB (pure_lss rfl rfl) rfl rfl (fun h23 => ?_) (fun h23 => ?_)))))))
  refine sD (nS (cT rfl ?_))
  refine tK (nS (tS (tri_block (tS (tR (sQ (pM rfl) rfl ?_))))))
  refine sQ (pM rfl) rfl (sQ (pM rfl) rfl (sP (pIN rfl rfl rfl (by omega)) rfl rfl ?_))
  (rw [ints_drop (by omega)] at hT; subst hT; rw [List.cons_append]; refine seq_store rfl rfl rfl rfl rfl rfl Sw.here (upd_int hDl) ?_)
  refine sD (nS (tR (sQ (pM rfl) rfl (sP (pure_add rfl rfl (by omega) (by omega)) rfl rfl ?_))))
  refine sQ (pA rfl) rfl (sD (nrm_block (nS (tR (sQ (pM rfl) rfl (sP (pure_add rfl rfl (by omega) (by omega)) rfl rfl ?_))))))
  refine sQ (pA rfl) rfl (sD ?_)
  (rw [show D ++ (Value.int .i64 kk :: (ints (l.drop (i + 1)) ++ C)) = (D ++ [.int .i64 kk]) ++ (ints (l.drop (i + 1)) ++ C) from by simp]; refine nrm_loopN (i + 1, kk + 1, D ++ [.int .i64 kk], ints (l.drop (i + 1))) ?_ ?_ ?_)
  (simp only [flat_snoc]; exact sMk)
  (dsimp only; exact ⟨by omega, by omega, by rw [mkInts_snoc, hD, hkk]; simp [ints], rfl⟩)
  (show l.length - (i + 1) < l.length - i; omega)
  refine sD (nS (cF rfl ?_))
  refine tri_exit ?_
  refine ext_seq ?_
  refine ext_loopN ?_
  refine ext_block_eq ?_
  refine nS (tS (tR (sQ (pM rfl) rfl (sQ (pA rfl) rfl (sD (nS ?_))))))
  refine tT ?_
  (obtain rfl : i = l.length := (by omega); refine ret_own1 (rT rfl) SubH.refl ?_)
  (rw [List.drop_length] at hT; exact ⟨rfl, by rw [hkk], [(b, A ++ (D ++ (T ++ C)))], rfl, by rw [mkInts_len]; exact hc, hm, .inr ⟨b, A, C, rfl, by rw [hD, hT]; rfl⟩⟩)
/- Lists of paths. -/
def OPs : List (List Int) → List Value → Blks → Prop
 | [], es, bs => es = [] ∧ bs = []
 | l :: ls, es, bs => ∃ p c e' r1 r2, es = .slice p l.length c :: e' ∧ bs = r1 ++ r2 ∧ OIs l p c r1 ∧ OPs ls e' r2
def cntIs : List (List Int) → Int
 | [] => 0
 | l :: ls => l.length + cntIs ls
def mkIs : List (List Int) → Int → List (List Int)
 | [], _ => []
 | l :: ls, k => mkInts l.length k :: mkIs ls (k + l.length)
section lend0
variable {P : Program} {Γ : Ctx} {env : Env} {G : IM} {K : Po} {ops : Array Oper} {rest : List Oper} {ty : TypeId} {pos : String} {af : Array Edge} {gd : Option (Nat × Bool)}
end lend0
/-- Paths in memory that no longer changes. -/
def QPs (G : IM) : List (List Int) → List Value → Prop
 | [], es => es = []
 | l :: ls, es => ∃ p c r, es = .slice p l.length c :: r ∧ Sl G p l.length c 1 (ints l) ∧ QPs G ls r
theorem heldIntS_fn (n : Nat) (k : Int) (G : IM) (p : Option Addr) (c : Nat) (h : Sl G p n c 1 (ints (mkInts n k))) (hk : 0 < k) (hb : k + n ≤ 1099511627776) :
  Fn Tryz.prog 15 [.slice p n c, .int .i64 k] [] G (Val (.int .i64 (k + n)) G) := by
 refine fn_enter Tryz.func15 rfl Tryz.ntmps15 Tryz.results15 rfl ?_
 intro w0
 refine tS (tR (sQ (pA rfl) rfl (sD (nS (tS (tS ?_))))))
 refine tR (sQ (pA rfl) rfl (sD (nS (tri_block (tri_loopN (fun (x : Nat × Int) => ⟨[(5, .int .i64 x.1), (1, .int .i64 x.2), (0, .slice p n c)], [], G⟩) (fun x => x.1 ≤ n ∧ x.2 = k + x.1) (fun x => n - x.1) (0, k) ?_ ?_ ?_)))))
 (simp only [flat_snoc]; exact sMk)
 exact ⟨by simp, by simp⟩
 (rintro ⟨i, kk⟩ ⟨hi, hkk⟩; simp only [] at hi hkk ⊢)
 refine tS (tS (tR (sQ (pM rfl) rfl (sQ (pM rfl) rfl (sQ (pLn rfl rfl) rfl (sB (pure_lss rfl rfl) rfl rfl (fun h23 => ?_) (fun h23 => ?_)))))))
 refine sD (nS (cT rfl ?_))
 refine tK (nS (tS (tri_block (tS (tS (tR ?_))))))
 refine sQ (pM rfl) rfl (sQ (pM rfl) rfl ?_)
 (obtain ⟨b, o, v, rfl, hv, hat, hgb⟩ := h.kid (i := i) (by omega); obtain ⟨hi2, rfl⟩ := ints_get hv; have hg := mkInts_get n k i hi2; refine sP (pIN rfl rfl rfl (by omega)) rfl rfl ?_)
 refine sL (load_s rfl rfl (hat _)) rfl rfl ?_
 refine sQ (pM rfl) rfl (sP (pure_neq_f rfl rfl (by omega)) rfl rfl ?_)
 refine sD (nS (cF rfl ?_))
 refine tK (nS (tR (sQ (pM rfl) rfl (sP (pure_add rfl rfl (by omega) (by omega)) rfl rfl ?_))))
 refine sQ (pA rfl) rfl (sD (nrm_block (nS (tR (sQ (pM rfl) rfl (sP (pure_add rfl rfl (by omega) (by omega)) rfl rfl ?_))))))
 refine sQ (pA rfl) rfl (sD (nrm_loopN (i + 1, kk + 1) ?_ ?_ ?_))
 (simp only [flat_snoc]; exact sMk)
 (dsimp only; exact ⟨by omega, by omega⟩)
 (show n - (i + 1) < n - i; omega)
 refine sD (nS (cF rfl ?_))
 refine tri_exit ?_
 refine ext_seq ?_
 refine ext_loopN ?_
 refine ext_block_eq ?_
 refine nS (tS (tR (sQ (pM rfl) rfl (sQ (pA rfl) rfl (sD (nS ?_))))))
 refine tT (rF1 (rT rfl) ?_)
 (obtain rfl : i = n := (by omega); exact ⟨rfl, by rw [hkk], rfl⟩)
mutual
def szTy : Ty → Int
 | .mk _ ks => ks.length + sumTy ks
def sumTy : List Ty → Int
 | [] => 0
 | t :: ts => szTy t + sumTy ts
end
mutual
def szTm : Tm → Int
 | .mk _ nm _ ty fr _ ks => nm.size + szTy ty + szTy fr + (ks.length + sumTm ks)
def sumTm : List Tm → Int
 | [] => 0
 | t :: ts => szTm t + sumTm ts
end
mutual
theorem szTy_nn : ∀ t : Ty, 0 ≤ szTy t
 | .mk _ ks => by have := sumTy_nn ks; rw [szTy]; omega
theorem sumTy_nn : ∀ ts : List Ty, 0 ≤ sumTy ts
 | [] => by rw [sumTy]; omega
 | t :: ts => by have := szTy_nn t; have := sumTy_nn ts; rw [sumTy]; omega
end
mutual
theorem szTm_nn : ∀ t : Tm, 0 ≤ szTm t
 | .mk _ _ _ ty fr _ ks => by have := sumTm_nn ks; have := szTy_nn ty; have := szTy_nn fr; rw [szTm]; omega
theorem sumTm_nn : ∀ ts : List Tm, 0 ≤ sumTm ts
 | [] => by rw [sumTm]; omega
 | t :: ts => by have := szTm_nn t; have := sumTm_nn ts; rw [sumTm]; omega
end
theorem sumTy_append : ∀ a b : List Ty, sumTy (a ++ b) = sumTy a + sumTy b
 | [], b => by simp [sumTy]
 | t :: a, b => by rw [List.cons_append, sumTy, sumTy, sumTy_append a b]; omega
theorem sumTm_append : ∀ a b : List Tm, sumTm (a ++ b) = sumTm a + sumTm b
 | [], b => by simp [sumTm]
 | t :: a, b => by rw [List.cons_append, sumTm, sumTm, sumTm_append a b]; omega
theorem sumTy_succ {ks : List Ty} {i : Nat} (hi : i < ks.length) : sumTy (ks.take (i + 1)) = sumTy (ks.take i) + szTy ks[i] := by
 rw [List.take_succ_eq_append_getElem hi, sumTy_append, sumTy, sumTy]; omega
theorem sumTm_succ {ks : List Tm} {i : Nat} (hi : i < ks.length) : sumTm (ks.take (i + 1)) = sumTm (ks.take i) + szTm ks[i] := by
 rw [List.take_succ_eq_append_getElem hi, sumTm_append, sumTm, sumTm]; omega
theorem sumTy_take (ks : List Ty) (i : Nat) : sumTy (ks.take i) ≤ sumTy ks := by
 have h := sumTy_append (ks.take i) (ks.drop i)
 rw [List.take_append_drop] at h
 have := sumTy_nn (ks.drop i); omega
theorem sumTm_take (ks : List Tm) (i : Nat) : sumTm (ks.take i) ≤ sumTm ks := by
 have h := sumTm_append (ks.take i) (ks.drop i)
 rw [List.take_append_drop] at h
 have := sumTm_nn (ks.drop i); omega
/- No name is longer than Go's strings are. -/
mutual
def Tm.nok : Tm → Prop
 | .mk _ nm _ _ _ _ ks => nm.size ≤ 9223372036854775807 ∧ Tm.nokL ks
def Tm.nokL : List Tm → Prop
 | [] => True
 | t :: ts => t.nok ∧ Tm.nokL ts
end
theorem Tm.nokL_mem : ∀ {ts : List Tm}, Tm.nokL ts → ∀ t ∈ ts, t.nok
 | [], _, t, h => by simp at h
 | t' :: ts, h, t, ht => by
  simp only [Tm.nokL] at h
  rcases List.mem_cons.1 ht with rfl | ht
  ·exact h.1
  ·exact Tm.nokL_mem h.2 t ht
/-- What is left behind a measure. -/
def resI (left s : Int) : Int := if s ≤ left then left - s else -1
theorem res_cases (left s : Int) : (s ≤ left ∧ resI left s = left - s) ∨ (left < s ∧ resI left s = -1) := by
 unfold resI; split
 ·exact .inl ⟨by omega, rfl⟩
 ·exact .inr ⟨by omega, rfl⟩
theorem res_yes {left s : Int} (h : s ≤ left) : resI left s = left - s := if_pos h
theorem res_no {left s : Int} (h : left < s) : resI left s = -1 := if_neg (by omega)
theorem szTypeS_of (ks : List Ty) (ih : ∀ t ∈ ks, ∀ (left : Int) (G : IM) (cells : List Value), 0 ≤ left → left ≤ 1048576 → RTy G t cells → Fn Tryz.prog 16 [.agg ⟨cells⟩, .int .i64 left] [] G (Val (.int .i64 (resI left (szTy t))) G))
  (left : Int) (G : IM) (p : Option Addr) (c : Nat) (es : List (List Value)) (h0 : 0 ≤ left) (h1 : left ≤ 1048576) (hsl : SlE G p ks.length c 2 es) (hkl : RTyL G ks es) :
  Fn Tryz.prog 36 [.slice p ks.length c, .int .i64 left] [] G (Val (.int .i64 (resI left (ks.length + sumTy ks))) G) := by
 have hn := hsl.le
 have hs := sumTy_nn ks
 refine fn_enter Tryz.func36 rfl Tryz.ntmps36 Tryz.results36 rfl ?_
 intro w0
 refine tS (tR (sQ (pA rfl) rfl (sD (nS (tS (tR ?_))))))
 refine sQ (pM rfl) rfl (sQ (pM rfl) rfl (sQ (pLn rfl rfl) rfl (sP (pure_sub rfl rfl (by omega) (by omega)) rfl rfl ?_)))
 refine sQ (pA rfl) rfl (sD (nS (tS (tS (tR (sQ (pM rfl) rfl ?_))))))
 refine sB (pure_lss rfl rfl) rfl rfl (fun h19 => ?_) (fun h19 => ?_)
 refine sD (nS (cT rfl ?_))
 refine tS (tR (sQ (pA rfl) rfl (sD (nS (tT (rS ?_))))))
 refine rF1 (rT rfl) ?_
 exact ⟨rfl, by rw [res_no (by omega)], rfl⟩
 refine sD (nS (cF rfl ?_))
 refine tK (nS (tS (tS (tR (sQ (pA rfl) rfl (sD ?_))))))
 refine nS (tri_block (tri_loopN (fun (x : Nat × Int) => ⟨[(5, .int .i64 x.1), (1, .int .i64 x.2), (0, .slice p ks.length c)], [], G⟩) (fun x => x.1 ≤ ks.length ∧ x.2 = left - ks.length - sumTy (ks.take x.1) ∧ 0 ≤ x.2) (fun x => ks.length - x.1) (0, left - ks.length) ?_ ?_ ?_))
 (simp only [flat_snoc]; exact sMk)
 exact ⟨by simp, by simp [sumTy], by omega⟩
 (rintro ⟨i, l⟩ ⟨hi, hl, hl0⟩; simp only [] at hi hl hl0 ⊢; have hsn := sumTy_nn (ks.take i))
 refine tS (tS (tR (sQ (pM rfl) rfl (sQ (pM rfl) rfl (sQ (pLn rfl rfl) rfl (sB (pure_lss rfl rfl) rfl rfl (fun h54 => ?_) (fun h54 => ?_)))))))
 refine sD (nS (cT rfl ?_))
 refine tK (nS (tS (tri_block (tS (tR (sQ (pM rfl) rfl ?_))))))
 refine sQ (pM rfl) rfl ?_
 (obtain ⟨b, o, p2, c2, rfl, hat, hre, hgb⟩ := hsl.kidTy hkl (i := i) (by omega) (by omega); refine sP (pIN rfl rfl rfl (by omega)) rfl rfl ?_)
 refine sL (load_a rfl rfl (hat _) rfl) rfl rfl ?_
 refine sQ (pM rfl) rfl ?_
 (have hih := ih ks[i] (List.getElem_mem (by omega)) l G _ hl0 (by omega) hre; have hsu := sumTy_succ (ks := ks) (i := i) (by omega); have hta := sumTy_take ks (i + 1); rcases res_cases l (szTy ks[i]) with ⟨hc, hr⟩ | ⟨hc, hr⟩ <;> (rw [hr] at hih; refine seq_val rfl hih rfl rfl ?_))
 refine sQ (pA rfl) rfl (sD (nS (tS (tR (sQ (pM rfl) rfl (sP (pure_lss_f rfl rfl (by omega)) rfl rfl ?_))))))
 refine sD (nS (cF rfl ?_))
 refine tK (nrm_block (nS (tR (sQ (pM rfl) rfl (sP (pure_add rfl rfl (by omega) (by omega)) rfl rfl ?_)))))
 refine sQ (pA rfl) rfl (sD (nrm_loopN (i + 1, l - szTy ks[i]) ?_ ?_ ?_))
 (simp only [flat_snoc]; exact sMk)
 (dsimp only; exact ⟨by omega, by omega, by omega⟩)
 (show ks.length - (i + 1) < ks.length - i; omega)
 refine sQ (pA rfl) rfl (sD (nS (tS (tR (sQ (pM rfl) rfl (sP (pure_lss_t rfl rfl (by omega)) rfl rfl ?_))))))
 refine sD (nS (cT rfl ?_))
 refine tS (tR (sQ (pA rfl) rfl (sD (nS (tT (rB ?_))))))
 refine rS (ret_loopN (rB (rS (rF1 (rT rfl) ?_))))
 exact ⟨rfl, by rw [res_no (by omega)], rfl⟩
 refine sD (nS (cF rfl ?_))
 refine tri_exit ?_
 refine ext_seq ?_
 refine ext_loopN ?_
 refine ext_block_eq ?_
 refine nS (tS (tR (sQ (pM rfl) rfl (sQ (pA rfl) rfl (sD (nS ?_))))))
 refine tT (rF1 (rT rfl) ?_)
 (obtain rfl : i = ks.length := (by omega); rw [List.take_length] at hl; exact ⟨rfl, by rw [res_yes (by omega), hl]; congr 1; omega, rfl⟩)
theorem szType_fn : ∀ (t : Ty) (left : Int) (G : IM) (cells : List Value), 0 ≤ left → left ≤ 1048576 → RTy G t cells → Fn Tryz.prog 16 [.agg ⟨cells⟩, .int .i64 left] [] G (Val (.int .i64 (resI left (szTy t))) G) := by
 refine Ty.ind fun k ks ih left G cells h0 h1 hr => ?_
 obtain ⟨p, c, es, rfl, hk, hsl, hkl⟩ := hr.open
 simp only [Ty.k, Ty.ks] at hk hsl hkl ⊢
 have hS := szTypeS_of ks ih left G p c es h0 h1 hsl hkl
 rw [szTy]
 refine fn_enter Tryz.func16 rfl Tryz.ntmps16 Tryz.results16 rfl ?_
 intro w0
 refine tS (tR ?_)
 refine sE (step_box_a rfl rfl) rfl (fun b3 => ?_)
 refine sQ (pA rfl) rfl (sD (nS (tS (tR (sQ (pF0 rfl) rfl (sL (lBs rfl rfl) rfl rfl ?_))))))
 refine sQ (pM rfl) rfl ?_
 (rcases res_cases left (ks.length + sumTy ks) with ⟨hc, hr⟩ | ⟨hc, hr⟩ <;> (rw [hr] at hS; refine seq_val rfl hS rfl rfl ?_))
 refine sQ (pA rfl) rfl (sD (nS (tS (tS (tR (sQ (pM rfl) rfl ?_))))))
 refine sP (pure_lss_f rfl rfl (by omega)) rfl rfl ?_
 refine sD (nS (cF rfl ?_))
 refine tK (nS (tS (tR (sQ (pM rfl) rfl (sQ (pA rfl) rfl (sD ?_))))))
 refine nS (tT (rF1 (rT rfl) ?_))
 exact ⟨rfl, by rw [hr], rfl⟩
 refine sQ (pA rfl) rfl (sD (nS (tS (tS (tR (sQ (pM rfl) rfl ?_))))))
 refine sP (pure_lss_t rfl rfl (by omega)) rfl rfl ?_
 refine sD (nS (cT rfl ?_))
 refine tS (tR (sQ (pA rfl) rfl (sD (nS (tT (rS ?_))))))
 refine rF1 (rT rfl) ?_
 exact ⟨rfl, by rw [hr], rfl⟩
theorem szTermS_of (ks : List Tm) (ih : ∀ t ∈ ks, ∀ (left : Int) (G : IM) (cells : List Value), 0 ≤ left → left ≤ 1048576 → t.nok → RTm G t cells → Fn Tryz.prog 5 [.agg ⟨cells⟩, .int .i64 left] [] G (Val (.int .i64 (resI left (szTm t))) G))
  (left : Int) (G : IM) (p : Option Addr) (c : Nat) (es : List (List Value)) (h0 : 0 ≤ left) (h1 : left ≤ 1048576) (hnok : Tm.nokL ks) (hsl : SlE G p ks.length c 9 es) (hkl : RTmL G ks es) :
  Fn Tryz.prog 17 [.slice p ks.length c, .int .i64 left] [] G (Val (.int .i64 (resI left (ks.length + sumTm ks))) G) := by
 have hn := hsl.le
 have hs := sumTm_nn ks
 refine fn_enter Tryz.func17 rfl Tryz.ntmps17 Tryz.results17 rfl ?_
 intro w0
 refine tS (tR (sQ (pA rfl) rfl (sD (nS (tS (tR ?_))))))
 refine sQ (pM rfl) rfl (sQ (pM rfl) rfl (sQ (pLn rfl rfl) rfl (sP (pure_sub rfl rfl (by omega) (by omega)) rfl rfl ?_)))
 refine sQ (pA rfl) rfl (sD (nS (tS (tS (tR (sQ (pM rfl) rfl ?_))))))
 refine sB (pure_lss rfl rfl) rfl rfl (fun h19 => ?_) (fun h19 => ?_)
 refine sD (nS (cT rfl ?_))
 refine tS (tR (sQ (pA rfl) rfl (sD (nS (tT (rS ?_))))))
 refine rF1 (rT rfl) ?_
 exact ⟨rfl, by rw [res_no (by omega)], rfl⟩
 refine sD (nS (cF rfl ?_))
 refine tK (nS (tS (tS (tR (sQ (pA rfl) rfl (sD ?_))))))
 refine nS (tri_block (tri_loopN (fun (x : Nat × Int) => ⟨[(5, .int .i64 x.1), (1, .int .i64 x.2), (0, .slice p ks.length c)], [], G⟩) (fun x => x.1 ≤ ks.length ∧ x.2 = left - ks.length - sumTm (ks.take x.1) ∧ 0 ≤ x.2) (fun x => ks.length - x.1) (0, left - ks.length) ?_ ?_ ?_))
 (simp only [flat_snoc]; exact sMk)
 exact ⟨by simp, by simp [sumTm], by omega⟩
 (rintro ⟨i, l⟩ ⟨hi, hl, hl0⟩; simp only [] at hi hl hl0 ⊢; have hsn := sumTm_nn (ks.take i))
 refine tS (tS (tR (sQ (pM rfl) rfl (sQ (pM rfl) rfl (sQ (pLn rfl rfl) rfl (sB (pure_lss rfl rfl) rfl rfl (fun h54 => ?_) (fun h54 => ?_)))))))
 refine sD (nS (cT rfl ?_))
 refine tK (nS (tS (tri_block (tS (tR (sQ (pM rfl) rfl ?_))))))
 refine sQ (pM rfl) rfl ?_
 (obtain ⟨b, o, e, rfl, hle, hat, hre, hgb⟩ := hsl.kidTm hkl (i := i) (by omega) (by omega); refine sP (pIN rfl rfl rfl (by omega)) rfl rfl ?_)
 refine sL (load_a rfl rfl (hat _) hle) rfl rfl ?_
 refine sQ (pM rfl) rfl ?_
 (have hih := ih ks[i] (List.getElem_mem (by omega)) l G _ hl0 (by omega) (Tm.nokL_mem hnok _ (List.getElem_mem (by omega))) hre; have hsu := sumTm_succ (ks := ks) (i := i) (by omega); have hta := sumTm_take ks (i + 1); rcases res_cases l (szTm ks[i]) with ⟨hc, hr⟩ | ⟨hc, hr⟩ <;> (rw [hr] at hih; refine seq_val rfl hih rfl rfl ?_))
 refine sQ (pA rfl) rfl (sD (nS (tS (tR (sQ (pM rfl) rfl (sP (pure_lss_f rfl rfl (by omega)) rfl rfl ?_))))))
 refine sD (nS (cF rfl ?_))
 refine tK (nrm_block (nS (tR (sQ (pM rfl) rfl (sP (pure_add rfl rfl (by omega) (by omega)) rfl rfl ?_)))))
 refine sQ (pA rfl) rfl (sD (nrm_loopN (i + 1, l - szTm ks[i]) ?_ ?_ ?_))
 (simp only [flat_snoc]; exact sMk)
 (dsimp only; exact ⟨by omega, by omega, by omega⟩)
 (show ks.length - (i + 1) < ks.length - i; omega)
 refine sQ (pA rfl) rfl (sD (nS (tS (tR (sQ (pM rfl) rfl (sP (pure_lss_t rfl rfl (by omega)) rfl rfl ?_))))))
 refine sD (nS (cT rfl ?_))
 refine tS (tR (sQ (pA rfl) rfl (sD (nS (tT (rB ?_))))))
 refine rS (ret_loopN (rB (rS (rF1 (rT rfl) ?_))))
 exact ⟨rfl, by rw [res_no (by omega)], rfl⟩
 refine sD (nS (cF rfl ?_))
 refine tri_exit ?_
 refine ext_seq ?_
 refine ext_loopN ?_
 refine ext_block_eq ?_
 refine nS (tS (tR (sQ (pM rfl) rfl (sQ (pA rfl) rfl (sD (nS ?_))))))
 refine tT (rF1 (rT rfl) ?_)
 (obtain rfl : i = ks.length := (by omega); rw [List.take_length] at hl; exact ⟨rfl, by rw [res_yes (by omega), hl]; congr 1; omega, rfl⟩)
theorem szTerm_fn : ∀ (t : Tm) (left : Int) (G : IM) (cells : List Value), 0 ≤ left → left ≤ 1048576 → t.nok → RTm G t cells → Fn Tryz.prog 5 [.agg ⟨cells⟩, .int .i64 left] [] G (Val (.int .i64 (resI left (szTm t))) G) := by
 refine Tm.ind fun k nm num ty fr lb ks ih left G cells h0 h1 hno hr => ?_
 simp only [Tm.nok] at hno
 obtain ⟨hnm, hno⟩ := hno
 obtain ⟨tk, tks⟩ := ty
 obtain ⟨fk, fks⟩ := fr
 obtain ⟨pt, ct, pf, cf, p, c, es, rfl, hk, hnum, hlb, hty, hfr, hsl, hkl⟩ := hr.open9
 have n1 := szTy_nn (.mk tk tks)
 have n2 := szTy_nn (.mk fk fks)
 have n3 := sumTm_nn ks
 rw [szTm]
 generalize hs1 : szTy (.mk tk tks) = s1 at *
 generalize hs2 : szTy (.mk fk fks) = s2 at *
 refine fn_enter Tryz.func5 rfl Tryz.ntmps5 Tryz.results5 rfl ?_
 intro w0
 refine tS (tR ?_)
 refine sE (step_box_a rfl rfl) rfl (fun b3 => ?_)
 refine sQ (pA rfl) rfl (sD (nS (tS (tR (sQ (pM rfl) rfl (sQ (pF0 rfl) rfl ?_))))))
 refine sL (lBs rfl rfl) rfl rfl ?_
 refine sQ (pure_len_str rfl rfl) rfl (sP (pure_sub rfl rfl (by omega) (by omega)) rfl rfl ?_)
 refine sQ (pA rfl) rfl (sD (nS (tS (tS (tR (sQ (pM rfl) rfl ?_))))))
 refine sB (pure_lss rfl rfl) rfl rfl (fun h21 => ?_) (fun h21 => ?_)
 refine sD (nS (cT rfl ?_))
 refine tS (tR (sQ (pA rfl) rfl (sD (nS (tT (rS ?_))))))
 refine rF1 (rT rfl) ?_
 exact ⟨rfl, by rw [res_no (by omega)], rfl⟩
 refine sD (nS (cF rfl ?_))
 refine tK (nS (tS (tR (sQ (pF0 rfl) rfl (sL (lBa rfl rfl) rfl rfl ?_)))))
 refine sQ (pM rfl) rfl ?_
 (have hT := szType_fn (.mk tk tks) (left - nm.size) G _ (by omega) (by omega) hty; rw [hs1] at hT; rcases res_cases (left - nm.size) s1 with ⟨hc1, hr1⟩ | ⟨hc1, hr1⟩ <;> (rw [hr1] at hT; refine seq_val rfl hT rfl rfl ?_))
 refine sQ (pA rfl) rfl (sD (nS (tS (tS (tR (sQ (pM rfl) rfl ?_))))))
 refine sP (pure_lss_f rfl rfl (by omega)) rfl rfl ?_
 refine sD (nS (cF rfl ?_))
 refine tK (nS (tS (tR (sQ (pF0 rfl) rfl (sL (lBa rfl rfl) rfl rfl ?_)))))
 refine sQ (pM rfl) rfl ?_
 (have hF := szType_fn (.mk fk fks) (left - nm.size - s1) G _ (by omega) (by omega) hfr; rw [hs2] at hF; rcases res_cases (left - nm.size - s1) s2 with ⟨hc2, hr2⟩ | ⟨hc2, hr2⟩ <;> (rw [hr2] at hF; refine seq_val rfl hF rfl rfl ?_))
 refine sQ (pA rfl) rfl (sD (nS (tS (tS (tR (sQ (pM rfl) rfl ?_))))))
 refine sP (pure_lss_f rfl rfl (by omega)) rfl rfl ?_
 refine sD (nS (cF rfl ?_))
 refine tK (nS (tS (tR (sQ (pF0 rfl) rfl (sL (lBs rfl rfl) rfl rfl ?_)))))
 refine sQ (pM rfl) rfl ?_
 (have hS := szTermS_of ks ih (left - nm.size - s1 - s2) G p c es (by omega) (by omega) hno hsl hkl; rcases res_cases (left - nm.size - s1 - s2) (ks.length + sumTm ks) with ⟨hc3, hr3⟩ | ⟨hc3, hr3⟩ <;> (rw [hr3] at hS; refine seq_val rfl hS rfl rfl ?_))
 refine sQ (pA rfl) rfl (sD (nS (tS (tS (tR (sQ (pM rfl) rfl ?_))))))
 refine sP (pure_lss_f rfl rfl (by omega)) rfl rfl ?_
 refine sD (nS (cF rfl ?_))
 refine tK (nS (tS (tR (sQ (pM rfl) rfl (sQ (pA rfl) rfl (sD ?_))))))
 refine nS (tT (rF1 (rT rfl) ?_))
 exact ⟨rfl, by rw [res_yes (by omega)]; congr 1; omega, rfl⟩
 refine sQ (pA rfl) rfl (sD (nS (tS (tS (tR (sQ (pM rfl) rfl ?_))))))
 refine sP (pure_lss_t rfl rfl (by omega)) rfl rfl ?_
 refine sD (nS (cT rfl ?_))
 refine tS (tR (sQ (pA rfl) rfl (sD (nS (tT (rS ?_))))))
 refine rF1 (rT rfl) ?_
 exact ⟨rfl, by rw [res_no (by omega)], rfl⟩
 refine sQ (pA rfl) rfl (sD (nS (tS (tS (tR (sQ (pM rfl) rfl ?_))))))
 refine sP (pure_lss_t rfl rfl (by omega)) rfl rfl ?_
 refine sD (nS (cT rfl ?_))
 refine tS (tR (sQ (pA rfl) rfl (sD (nS (tT (rS ?_))))))
 refine rF1 (rT rfl) ?_
 exact ⟨rfl, by rw [res_no (by omega)], rfl⟩
 refine sQ (pA rfl) rfl (sD (nS (tS (tS (tR (sQ (pM rfl) rfl ?_))))))
 refine sP (pure_lss_t rfl rfl (by omega)) rfl rfl ?_
 refine sD (nS (cT rfl ?_))
 refine tS (tR (sQ (pA rfl) rfl (sD (nS (tT (rS ?_))))))
 refine rF1 (rT rfl) ?_
 exact ⟨rfl, by rw [res_no (by omega)], rfl⟩
end Gw
end Go.Proofs.YtmnfamimopcldaaGreatDoor
namespace Go.Proofs.YtmnfamimopcldaaGreatDoor
open Go Go.RowKit Go.ChangeShapes Go.WideShapes Go.ChangeAt
namespace Gw
/-- All that is there. -/
def GW (w : World) : IM := fun b => match w.heap[b]? with
 | some (.cells c _ _) => some c.toList
 | _ => none
theorem own_GW (w : World) : Own [] (GW w) w := by
 refine ⟨?_, by simp, by simp [Fp], by simp [Fp]⟩
 intro b l h
 unfold GW at h
 split at h
 ·rename_i c e f hb; cases h; exact ⟨e, f, by simpa using hb⟩
 ·cases h
theorem cell_GW {w : World} {b o : Nat} {v : Value} (h : w.cell? ⟨b, o, none⟩ = some v) : ∃ full, GW w b = some full ∧ full[o]? = some v := by
 unfold World.cell? at h
 simp only at h
 split at h
 ·rename_i c e f hb
  exact ⟨c.toList, by simp [GW, hb], by simpa using h⟩
 ·cases h
theorem flat_inv {sz : Nat} : ∀ {es : List (List Value)}, (∀ e ∈ es, e.length = sz) → ∀ {j : Nat} {v : Value}, es.flatten[j]? = some v → ∃ i e r, es[i]? = some e ∧ e[r]? = some v ∧ j = i * sz + r
 | [], _, j, v, h => by simp at h
 | a :: es, hall, j, v, h => by
  have ha := hall a List.mem_cons_self
  rw [List.flatten_cons, List.getElem?_append] at h
  split at h
  ·exact ⟨0, a, j, rfl, h, by simp⟩
  ·rename_i hj
   obtain ⟨i, e, r, h1, h2, h3⟩ := flat_inv (fun x hx => hall x (List.mem_cons_of_mem _ hx)) h
   exact ⟨i + 1, e, r, by simpa using h1, h2, by rw [Nat.succ_mul]; omega⟩
theorem sl_read {w : World} {a : Addr} {n c sz : Nat} {es : List (List Value)} (hl : es.length = n) (hsz : 0 < sz) (hc : n ≤ c) (hm : c ≤ maxLen) (h : ∀ i e, es[i]? = some e → w.cells? 0 (a.add (i * sz)) sz = some e) : Sl (GW w) (some a) n c sz es.flatten := by
 have hall : ∀ e ∈ es, e.length = sz := by
  intro e he
  obtain ⟨i, hi⟩ := List.getElem?_of_mem he
  exact (World.cells?_some (h i e hi)).2.1
 refine ⟨by rw [flat_len hall, hl], hc, hm, ?_⟩
 rcases Nat.eq_zero_or_pos n with h0 | h0
 ·exact .inl h0
 ·right
  obtain ⟨b, o, s⟩ := a
  have hs : s = none := by
   have h1 := (World.cells?_some (h 0 es[0] (List.getElem?_eq_getElem (by omega)))).2
   have h2 := h1.2 0 hsz
   rw [List.getElem?_eq_getElem (by omega)] at h2
   simp only [Nat.zero_mul, Addr.add, if_true] at h2
   unfold World.cell? at h2
   split at h2
   ·split at h2
    ·cases h2
    ·rename_i hn; cases s with
     | none => rfl
     | some x => simp at hn
   ·cases h2
  subst hs
  have key : ∀ j v, es.flatten[j]? = some v → w.cell? ⟨b, o + j, none⟩ = some v := by
   intro j v hj
   obtain ⟨i, e, r, h1, h2, rfl⟩ := flat_inv hall hj
   have h3 := (World.cells?_some (h i e h1)).2
   have hr : r < e.length := (List.getElem?_eq_some_iff.1 h2).1
   have h4 := h3.2 r (by omega)
   rw [h2, add_none, add_none] at h4
   rw [← Nat.add_assoc]; exact h4
  have hpos : 0 < es.flatten.length := by rw [flat_len hall, hl]; exact Nat.mul_pos h0 hsz
  obtain ⟨full, hg, _⟩ := cell_GW (key 0 es.flatten[0] (List.getElem?_eq_getElem hpos))
  refine ⟨b, o, full, rfl, hg, fun j v hj => ?_⟩
  obtain ⟨full', hg', hv⟩ := cell_GW (key j v hj)
  rw [hg] at hg'; cases hg'; exact hv
theorem RTyL.snoc {G : IM} : ∀ {ts : List Ty} {es : List (List Value)} {t : Ty} {e : List Value}, RTyL G ts es → RTy G t e → RTyL G (ts ++ [t]) (es ++ [e])
 | [], es, t, e, h, h2 => by
  simp only [RTyL] at h; subst h
  simp only [List.nil_append, RTyL]
  exact ⟨e, [], rfl, h2, rfl⟩
 | t' :: ts, es, t, e, h, h2 => by
  simp only [RTyL] at h
  obtain ⟨a, r, rfl, h3, h4⟩ := h
  simp only [List.cons_append, RTyL]
  exact ⟨a, r ++ [e], rfl, h3, RTyL.snoc h4 h2⟩
theorem RTmL.snoc {G : IM} : ∀ {ts : List Tm} {es : List (List Value)} {t : Tm} {e : List Value}, RTmL G ts es → RTm G t e → RTmL G (ts ++ [t]) (es ++ [e])
 | [], es, t, e, h, h2 => by
  simp only [RTmL] at h; subst h
  simp only [List.nil_append, RTmL]
  exact ⟨e, [], rfl, h2, rfl⟩
 | t' :: ts, es, t, e, h, h2 => by
  simp only [RTmL] at h
  obtain ⟨a, r, rfl, h3, h4⟩ := h
  simp only [List.cons_append, RTmL]
  exact ⟨a, r ++ [e], rfl, h3, RTmL.snoc h4 h2⟩
theorem Tm.nokL_snoc : ∀ {ts : List Tm} {t : Tm}, Tm.nokL ts → t.nok → Tm.nokL (ts ++ [t])
 | [], t, _, h => by simp only [List.nil_append, Tm.nokL]; exact ⟨h, trivial⟩
 | t' :: ts, t, h, h2 => by
  simp only [Tm.nokL] at h
  simp only [List.cons_append, Tm.nokL]
  exact ⟨h.1, Tm.nokL_snoc h.2 h2⟩
theorem build_ty {G : IM} {q : Nat → List Value → Prop} : ∀ {n : Nat}, (∀ i, i < n → ∃ e t, q i e ∧ RTy G t e) → ∃ ts es, ts.length = n ∧ RTyL G ts es ∧ ∀ i e, es[i]? = some e → q i e
 | 0, _ => ⟨[], [], rfl, by simp only [RTyL], by simp⟩
 | n + 1, h => by
  obtain ⟨ts, es, h1, h2, h3⟩ := build_ty (n := n) fun i hi => h i (by omega)
  obtain ⟨e, t, h4, h5⟩ := h n (by omega)
  refine ⟨ts ++ [t], es ++ [e], by simp [h1], h2.snoc h5, fun i x hx => ?_⟩
  have hl := h2.len
  rw [List.getElem?_append] at hx
  split at hx
  ·exact h3 i x hx
  ·rename_i hi
   have : i - es.length = 0 := by
    have := (List.getElem?_eq_some_iff.1 hx).1; simp at this; omega
   rw [this] at hx; simp at hx; subst hx
   rw [show i = n by omega]; exact h4
theorem build_tm {G : IM} {q : Nat → List Value → Prop} : ∀ {n : Nat}, (∀ i, i < n → ∃ e t, q i e ∧ RTm G t e ∧ t.nok) → ∃ ts es, ts.length = n ∧ RTmL G ts es ∧ Tm.nokL ts ∧ ∀ i e, es[i]? = some e → q i e
 | 0, _ => ⟨[], [], rfl, by simp only [RTmL], by simp only [Tm.nokL], by simp⟩
 | n + 1, h => by
  obtain ⟨ts, es, h1, h2, hn, h3⟩ := build_tm (n := n) fun i hi => h i (by omega)
  obtain ⟨e, t, h4, h5, h6⟩ := h n (by omega)
  refine ⟨ts ++ [t], es ++ [e], by simp [h1], h2.snoc h5, Tm.nokL_snoc hn h6, fun i x hx => ?_⟩
  have hl := h2.len
  rw [List.getElem?_append] at hx
  split at hx
  ·exact h3 i x hx
  ·rename_i hi
   have : i - es.length = 0 := by
    have := (List.getElem?_eq_some_iff.1 hx).1; simp at this; omega
   rw [this] at hx; simp at hx; subst hx
   rw [show i = n by omega]; exact h4
theorem SlE.mk' {G : IM} {p : Option Addr} {n c sz : Nat} {es : List (List Value)} (h : Sl G p n c sz es.flatten) (hl : es.length = n) (ha : ∀ e ∈ es, e.length = sz ∧ e.all (·.oneCell') = true) : SlE G p n c sz es := ⟨h, hl, fun e he => (ha e he).1, fun e he => (ha e he).2⟩
theorem RTyL.each {G : IM} {ts : List Ty} {es : List (List Value)} (h : RTyL G ts es) : ∀ e ∈ es, e.length = 2 ∧ e.all (·.oneCell') = true := by
 intro e he
 obtain ⟨i, hi⟩ := List.getElem?_of_mem he
 have := (h.inv hi ty0).2
 exact ⟨this.len, this.one⟩
theorem RTmL.each {G : IM} {ts : List Tm} {es : List (List Value)} (h : RTmL G ts es) : ∀ e ∈ es, e.length = 9 ∧ e.all (·.oneCell') = true := by
 intro e he
 obtain ⟨i, hi⟩ := List.getElem?_of_mem he
 have := (h.inv hi (.mk 0 ⟨#[]⟩ 0 ty0 ty0 0 [])).2
 exact ⟨this.len, this.one⟩
theorem i64_of {n : Int} (h : (Lit.int .i64 n).wf = true) : I64 n := by
 simpa [Lit.wf, IntKind.min, IntKind.max, IntKind.signed, IntKind.bits, I64] using h
section read
variable {H : Type} {enc : TypeId × Value → H} {w : World} {sp : Nat → Bool} {held : Bool}
theorem cells2 : Tryz.prog.cellsOf 24 = 2 := by kernel_rfl
theorem cells9 : Tryz.prog.cellsOf 27 = 9 := by kernel_rfl
theorem cellsI : Tryz.prog.cellsOf 3 = 1 := by kernel_rfl
theorem cellsS : Tryz.prog.cellsOf 9 = 1 := by kernel_rfl
theorem cellsT : Tryz.prog.cellsOf 22 = 1 := by kernel_rfl
theorem cellsM : Tryz.prog.cellsOf 25 = 1 := by kernel_rfl
theorem idx2 {α : Type} {xs : List α} {i : Nat} (h : i < xs.length) : ∃ y, xs[i]? = some y := ⟨_, List.getElem?_eq_getElem h⟩
theorem read_ty : ∀ (n : Nat) (cs : List Value) (x : DataW H × List MemPlace), DataW.trod enc Tryz.prog w 0 sp held n 24 cs = some x → ∃ t, RTy (GW w) t cs := by
 intro n
 induction n using Nat.strongRecOn with
 | _ n ih =>
 intro cs x h
 obtain ⟨xs, m, rfl, _, hl, hxl, hf⟩ := DataW.trod_struct Tryz.underlying24 h
 rw [cells2] at hl
 match cs, hl with
 | [a, b], _ =>
 obtain ⟨y0, e0⟩ := idx2 (xs := xs) (i := 0) (by simp [hxl])
 obtain ⟨y1, e1⟩ := idx2 (xs := xs) (i := 1) (by simp [hxl])
 have h0 := hf 0 _ rfl
 have h1 := hf 1 _ rfl
 rw [e0] at h0
 rw [e1] at h1
 simp only [List.getElem_toArray, List.getElem_cons_zero, List.getElem_cons_succ] at h0 h1
 simp only [cellsI, cellsT, List.drop, List.take] at h0 h1
 obtain ⟨k, hk, _, hwf⟩ := DataW.trod_int Tryz.underlying3 h0
 simp only [List.cons.injEq, and_true] at hk
 subst hk
 rcases DataW.trod_slice Tryz.underlying22 h1 with ⟨hb, _⟩ | ⟨ad, len, cap, elems, rest, n', rfl, hb, _, _, hlc, hcm, hel, hele, _, _⟩
 ·simp only [List.cons.injEq, and_true] at hb
  subst hb
  exact ⟨.mk k [], by simp only [RTy]; exact ⟨none, 0, [], rfl, i64_of hwf, SlE.nil _ _, by simp only [RTyL]⟩⟩
 ·simp only [List.cons.injEq, and_true] at hb
  subst hb
  rw [cells2] at hele
  obtain ⟨ts, es, t1, t2, t3⟩ := build_ty (G := GW w) (q := fun i e => w.cells? 0 (ad.add (i * 2)) 2 = some e) (n := len) fun i hi => by
   have := hele i hi
   rw [List.getElem?_eq_getElem (by omega)] at this
   obtain ⟨cs', c1, c2⟩ := Option.bind_eq_some_iff.1 this
   obtain ⟨t, ht⟩ := ih n' (by omega) cs' _ c2
   exact ⟨cs', t, c1, ht⟩
  subst t1
  refine ⟨.mk k ts, ?_⟩
  simp only [RTy]
  exact ⟨some ad, cap, es, rfl, i64_of hwf, SlE.mk' (sl_read t2.len (by omega) hlc hcm t3) t2.len t2.each, t2⟩
theorem read_tm : ∀ (n : Nat) (cs : List Value) (x : DataW H × List MemPlace), DataW.trod enc Tryz.prog w 0 sp held n 27 cs = some x → ∃ t, RTm (GW w) t cs ∧ t.nok := by
 intro n
 induction n using Nat.strongRecOn with
 | _ n ih =>
 intro cs x h
 obtain ⟨xs, m, rfl, _, hl, hxl, hf⟩ := DataW.trod_struct Tryz.underlying27 h
 rw [cells9] at hl
 match cs, hl with
 | [a0, a1, a2, a3, a4, a5, a6, a7, a8], _ =>
 obtain ⟨y0, e0⟩ := idx2 (xs := xs) (i := 0) (by simp [hxl])
 obtain ⟨y1, e1⟩ := idx2 (xs := xs) (i := 1) (by simp [hxl])
 obtain ⟨y2, e2⟩ := idx2 (xs := xs) (i := 2) (by simp [hxl])
 obtain ⟨y3, e3⟩ := idx2 (xs := xs) (i := 3) (by simp [hxl])
 obtain ⟨y4, e4⟩ := idx2 (xs := xs) (i := 4) (by simp [hxl])
 obtain ⟨y5, e5⟩ := idx2 (xs := xs) (i := 5) (by simp [hxl])
 obtain ⟨y6, e6⟩ := idx2 (xs := xs) (i := 6) (by simp [hxl])
 have h0 := hf 0 _ rfl
 have h1 := hf 1 _ rfl
 have h2 := hf 2 _ rfl
 have h3 := hf 3 _ rfl
 have h4 := hf 4 _ rfl
 have h5 := hf 5 _ rfl
 have h6 := hf 6 _ rfl
 rw [e0] at h0
 rw [e1] at h1
 rw [e2] at h2
 rw [e3] at h3
 rw [e4] at h4
 rw [e5] at h5
 rw [e6] at h6
 simp only [List.getElem_toArray, List.getElem_cons_zero, List.getElem_cons_succ] at h0 h1 h2 h3 h4 h5 h6
 simp only [cellsI, cellsS, cells2, cellsM, List.drop, List.take] at h0 h1 h2 h3 h4 h5 h6
 obtain ⟨k, hk, _, hwk⟩ := DataW.trod_int Tryz.underlying3 h0
 obtain ⟨nm, hnm, _, hsz⟩ := DataW.trod_string Tryz.underlying9 h1
 obtain ⟨num, hnum, _, hwn⟩ := DataW.trod_int Tryz.underlying3 h2
 obtain ⟨ty, hty⟩ := read_ty _ _ _ h3
 obtain ⟨fr, hfr⟩ := read_ty _ _ _ h4
 obtain ⟨lb, hlb, _, hwl⟩ := DataW.trod_int Tryz.underlying3 h5
 simp only [List.cons.injEq, and_true] at hk hnm hnum hlb
 subst hk hnm hnum hlb
 have hsz' : nm.size ≤ 9223372036854775807 := by unfold maxLen at hsz; omega
 rcases DataW.trod_slice Tryz.underlying25 h6 with ⟨hb, _⟩ | ⟨ad, len, cap, elems, rest, n', rfl, hb, _, _, hlc, hcm, hel, hele, _, _⟩
 ·simp only [List.cons.injEq, and_true] at hb
  subst hb
  refine ⟨.mk k nm num ty fr lb [], ?_, by simp only [Tm.nok, Tm.nokL]; exact ⟨hsz', trivial⟩⟩
  simp only [RTm]
  exact ⟨[a3, a4], [a5, a6], none, 0, [], rfl, i64_of hwk, i64_of hwn, i64_of hwl, hty, hfr, SlE.nil _ _, by simp only [RTmL]⟩
 ·simp only [List.cons.injEq, and_true] at hb
  subst hb
  rw [cells9] at hele
  obtain ⟨ts, es, t1, t2, t4, t3⟩ := build_tm (G := GW w) (q := fun i e => w.cells? 0 (ad.add (i * 9)) 9 = some e) (n := len) fun i hi => by
   have := hele i hi
   rw [List.getElem?_eq_getElem (by omega)] at this
   obtain ⟨cs', c1, c2⟩ := Option.bind_eq_some_iff.1 this
   obtain ⟨t, ht, hno⟩ := ih n' (by omega) cs' _ c2
   exact ⟨cs', t, c1, ht, hno⟩
  subst t1
  refine ⟨.mk k nm num ty fr lb ts, ?_, by simp only [Tm.nok]; exact ⟨hsz', t4⟩⟩
  simp only [RTm]
  exact ⟨[a3, a4], [a5, a6], some ad, cap, es, rfl, i64_of hwk, i64_of hwn, i64_of hwl, hty, hfr, SlE.mk' (sl_read t2.len (by omega) hlc hcm t3) t2.len t2.each, t2⟩
end read
theorem Ext.below {w w' : World} (h : Ext (Fp []) w w') : Below w.heap.size w w' := ⟨h.os, h.tape, h.output, h.size, fun k hk => h.block k hk (by simp [Fp])⟩
section post
variable {H : Type} {enc : TypeId × Value → H} {P : Program}
/-- Nothing that was there has turned: the arguments read as they did. -/
theorem post_below {f : Func} {s : ChangeSpec} {apart fresh handsOn again : Bool} {W W' : World} {args : Array Value} {v : Value} {ds gs : List (DataW H)} {before : List MemPlace}
  (hW : DataW.Whole enc P f.params.toList s.vars apart W args.toList ds gs before) (hb : Below W.heap.size W W') (hgs : s.vars = [])
  (hres : ∀ (b : Nat) (sp : Nat → Bool) (hd : Bool), DataW.TrodAll enc P W' b sp hd f.resultTypes.toList (v.resultList f.resultTypes.size) (s.fn H (ds ++ gs)).results [])
  (hargs : ∀ sp : Nat → Bool, (∀ p ∈ before, sp p.block = true) → DataW.TrodAll enc P W' 0 sp true f.params.toList args.toList (s.fn H (ds ++ gs)).args before)
  (hv : (s.fn H (ds ++ gs)).vars = [])
  (hok : ∀ (j : Nat) (t : TypeId) (r : Value), f.resultTypes[j]? = some t → (v.resultList f.resultTypes.size)[j]? = some r → Value.okWide P W' .any 0 t r) :
  s.post enc P f apart fresh handsOn again W args v W' := by
 have hold : ∀ p ∈ before, (fun b => decide (b < W.heap.size)) p.block = true := fun p hp => by simpa using hW.lt p hp
 have hvars : ∀ sp : Nat → Bool, DataW.TrodVars enc P W' sp s.vars (s.fn H (ds ++ gs)).vars [] := fun sp => by rw [hgs, hv]; rfl
 have hkept : W.keptBut W' (fun _ => False) := by
  refine ⟨hb.os, hb.output, fun i hi => ?_⟩
  rw [hb.block i hi]
  split
  ·rename_i h1 h2; cases h1.symm.trans h2; exact ⟨rfl, rfl, rfl, fun _ _ => rfl⟩
  ·rename_i h1 h2; cases h1.symm.trans h2; exact .inr ⟨rfl, rfl⟩
  ·rfl
 refine ⟨ds, gs, before, [], before, [], hW, hres _ _ _, hargs _ hold, hvars _, World.keptBut_mono (fun p hp => hp.elim) hkept, fun _ => ?_⟩
 obtain ⟨_, _, _, _, _, hz, hn⟩ := hW
 refine ⟨hok, _, _, ([] ++ before) ++ [], ⟨[] ++ before, [], trodAll_append (hargs _ (fun _ _ => rfl)) (hres _ _ _), hvars _, rfl, ?_, ?_⟩, ?_⟩
 ·intro b off hp
  have hp' : MemPlace.cell b off ∈ before := by simpa using hp
  have hlt : b < W.heap.size := of_decide_eq_true (hold _ hp')
  have := hz b off hp'
  unfold World.frozen? at this ⊢
  simp only [hb.block b hlt]
  exact this
 ·intro ha; simpa using hn ha
 ·intro p hp _; simpa using hp
end post
/-- The library's table of powers of ten lies in memory that no longer changes. -/
def TabG (G : IM) : Prop := ∃ g, Tryz.prog.globalNamed "internal/strconv.uint64pow10" = some g ∧ G g = some (Lib.pow10Tab.map fun z => Value.int .u64 z)
theorem TabG.mono {G G' : IM} (h : TabG G) (hg : IMle G G') : TabG G' := by
 obtain ⟨g, h1, h2⟩ := h
 exact ⟨g, h1, hg g _ h2⟩
theorem res_grow {G : IM} {w : World} (hw : Own [] G w) (k : Nat) (os : Array Obj) : Res [] G w [] G (Sort.grow (w.drewN k) os) := by
 have hb : ∀ b, b < w.heap.size → (Sort.grow (w.drewN k) os).heap[b]? = w.heap[b]? := by
  intro b h
  show (w.heap ++ os)[b]? = _
  rw [Array.getElem?_append_left h]
 refine ⟨⟨?_, by simp, by simp [Fp], by simp [Fp]⟩, ⟨rfl, rfl, rfl, ?_, fun b h _ => hb b h⟩, IMle.refl _, fun _ _ h => .inl h, by simp [Fp], fun b l h h0 => absurd h (by rw [h0]; simp)⟩
 ·intro b l h
  obtain ⟨e, f, hh⟩ := hw.inn b l h
  exact ⟨e, f, by rw [hb b (lt_of_some hh)]; exact hh⟩
 ·show w.heap.size ≤ (w.heap ++ os).size
  simp
theorem itoa_fn (n : Int) (G : IM) (h : TabG G) (h0 : 0 ≤ n) (h1 : n ≤ 999) : Fn Tryz.prog 113 [.int .i64 n] [] G (Val (.string ⟨(Lib.decDigits n.toNat).toArray⟩) G) := by
 refine ⟨fun w hw => ?_⟩
 have ht : Lib.TabIs Tryz.prog w "internal/strconv.uint64pow10" .u64 Lib.pow10Tab := by
  obtain ⟨g, hg, hG⟩ := h
  obtain ⟨e, f, hh⟩ := hw.inn g _ hG
  unfold Lib.TabIs World.var?
  rw [hg]
  simp only [Option.bind_some, hh]
 refine (Tryz.strconv_Itoa n (by omega) (by omega) w ht).mono ?_
 rintro e w' ⟨rfl, k, os, rfl⟩
 refine ⟨_, G, [], rfl, res_grow hw k os, rfl, ?_, rfl⟩
 unfold Lib.itoa
 rw [if_neg (by omega)]
end Gw
end Go.Proofs.YtmnfamimopcldaaGreatDoor
namespace Go.Proofs.YtmnfamimopcldaaGreatDoor
open Go Go.RowKit Go.ChangeShapes Go.WideShapes Go.ChangeAt
namespace Gw
theorem gPow : Tryz.prog.globalNamed "internal/strconv.uint64pow10" = some 0 := by kernel_rfl
theorem gPowT : (Tryz.prog.globals[0]?).map (·.type) = some 157 := by kernel_rfl
theorem cellsPow : Tryz.prog.cellsOf 157 = 20 := by kernel_rfl
theorem cellsU64 : Tryz.prog.cellsOf 149 = 1 := by kernel_rfl
/-- What the rows list. -/
def laidTabs : List (String × DataW Unit) := [("math/bits.deBruijn32tab", Rows.laid_math_bits_deBruijn32tab), ("math/bits.deBruijn64tab", Rows.laid_math_bits_deBruijn64tab), ("internal/strconv.uint64pow10", Rows.laid_internal_strconv_uint64pow10)]
theorem tabG_of_laid {W : World} (h : laidMetH Tryz.prog laidTabs W) : TabG (GW W) := by
 have h1 : laidMet Tryz.prog laidTabs W := h
 have h3 := h1.tail.tail
 have ht : Lib.TabIs Tryz.prog W "internal/strconv.uint64pow10" .u64 Lib.pow10Tab :=
  Lib.tabIs_of_head (rest := []) gPow gPowT Tryz.underlying157 Tryz.underlying149 cellsU64 cellsPow h3
 refine ⟨0, gPow, ?_⟩
 unfold Lib.TabIs World.var? at ht
 rw [gPow] at ht
 simp only [Option.bind_some] at ht
 unfold GW
 split at ht
 ·rename_i c e f hb
  rw [hb]
  have := Option.some.inj ht
  simp [this]
 ·cases ht
def tabVals : DataW Unit → Array Value
 | .agg xs => (xs.map fun | .lit (.int k n) => Value.int k n | _ => .int .i64 0).toArray
 | _ => #[]
def putTab (xs : Array Value) : Obj → Obj
 | .cells _ t f => .cells xs t f
 | o => o
/-- A world for the witness: the settled one, the tables holding what their initialisers lay. -/
noncomputable def laidWorld (os : Os) : World :=
 { World.holding Tryz.prog os ⟨#[], #[], []⟩ with heap := (((World.holding Tryz.prog os ⟨#[], #[], []⟩).heap.modify 0 (putTab (tabVals Rows.laid_internal_strconv_uint64pow10))).modify 1 (putTab (tabVals Rows.laid_math_bits_deBruijn32tab))).modify 2 (putTab (tabVals Rows.laid_math_bits_deBruijn64tab)) }
theorem split_full {full cs : List Value} {o : Nat} (h : ∀ j v, cs[j]? = some v → full[o + j]? = some v) (hc : cs ≠ []) : full = full.take o ++ (cs ++ full.drop (o + cs.length)) ∧ (full.take o).length = o := by
 have hpos : 0 < cs.length := List.length_pos_iff.2 hc
 have hl : o + cs.length ≤ full.length := by
  have := h (cs.length - 1) cs[cs.length - 1] (List.getElem?_eq_getElem (by omega))
  have := (List.getElem?_eq_some_iff.1 this).1; omega
 have ho : (full.take o).length = o := by simp; omega
 refine ⟨?_, ho⟩
 apply List.ext_getElem?
 intro i
 rw [List.getElem?_append, ho]
 split
 ·rename_i hi; rw [List.getElem?_take, if_pos hi]
 ·rename_i hi
  rw [List.getElem?_append]
  split
  ·rename_i h2
   have := h (i - o) cs[i - o] (List.getElem?_eq_getElem h2)
   rw [show o + (i - o) = i by omega] at this
   rw [this, List.getElem?_eq_getElem h2]
  ·rename_i h2
   rw [List.getElem?_drop, show o + cs.length + (i - o - cs.length) = i by omega]
theorem Sl.blk {G : IM} {p : Option Addr} {n c sz : Nat} {cs : List Value} (h : Sl G p n c sz cs) (hc : cs ≠ []) : ∃ b A C, p = some ⟨b, A.length, none⟩ ∧ G b = some (A ++ (cs ++ C)) := by
 obtain ⟨h1, h2, h3, h4⟩ := h
 have hn : n ≠ 0 := by
  rintro rfl
  simp at h1; exact hc h1
 obtain ⟨b, o, full, rfl, hg, hv⟩ := h4.resolve_left hn
 obtain ⟨e1, e2⟩ := split_full hv hc
 exact ⟨b, full.take o, full.drop (o + cs.length), by rw [e2], by rw [← e1]; exact hg⟩
theorem Sl.of_blk {G : IM} {b n c sz : Nat} {A C cs : List Value} (hl : cs.length = n * sz) (hc : n ≤ c) (hm : c ≤ maxLen) (hg : G b = some (A ++ (cs ++ C))) : Sl G (some ⟨b, A.length, none⟩) n c sz cs := by
 refine ⟨hl, hc, hm, .inr ⟨b, A.length, _, rfl, hg, fun j v hj => ?_⟩⟩
 have hlt : j < cs.length := (List.getElem?_eq_some_iff.1 hj).1
 rw [List.getElem?_append, if_neg (by omega), List.getElem?_append, if_pos (by omega), show A.length + j - A.length = j by omega]
 exact hj
/-- These blocks lie in G, and among F. -/
def InG (G : IM) (bs : Blks) (F : List Nat) : Prop := (bs.map Prod.fst).Sublist F ∧ ∀ q ∈ bs, G q.1 = some q.2
theorem InG.nil (G : IM) (F : List Nat) : InG G [] F := ⟨by simp, by simp⟩
theorem InG.app {G : IM} {a b : Blks} {F F' : List Nat} (h : InG G a F) (h' : InG G b F') : InG G (a ++ b) (F ++ F') := by
 refine ⟨by rw [List.map_append]; exact h.1.append h'.1, fun q hq => ?_⟩
 rcases List.mem_append.1 hq with hq | hq
 ·exact h.2 q hq
 ·exact h'.2 q hq
mutual
theorem STy.blks {G : IM} : ∀ {t : Ty} {cells : List Value} {F : List Nat}, STy G t cells F → ∃ bs, OTy t cells bs ∧ InG G bs F
 | .mk k ks, cells, F, h => by
  simp only [STy] at h
  obtain ⟨p, c, es, Fs, h1, hk, h2, h3, rfl, h5⟩ := h
  obtain ⟨r, hr1, hr2⟩ := STyL.blks h3
  simp only [OTy]
  have hc := h2.sl.2.1
  have hm := h2.sl.2.2.1
  cases ks with
  | nil => exact ⟨[], ⟨p, c, h1, hk, hc, hm, .inl ⟨rfl, rfl⟩⟩, InG.nil _ _⟩
  | cons t ts =>
   have hne : es.flatten ≠ [] := by
    intro h0
    have hl := h2.sl.1
    rw [h0] at hl; simp at hl
   obtain ⟨b, A, C, rfl, hg⟩ := h2.sl.blk hne
   refine ⟨(b, A ++ (es.flatten ++ C)) :: r, ⟨_, c, h1, hk, hc, hm, .inr ⟨b, A, C, es, r, rfl, rfl, hr1⟩⟩, ?_, ?_⟩
   ·simpa [vfp] using hr2.1
   ·intro q hq
    rcases List.mem_cons.1 hq with rfl | hq
    ·exact hg
    ·exact hr2.2 q hq
theorem STyL.blks {G : IM} : ∀ {ts : List Ty} {es : List (List Value)} {F : List Nat}, STyL G ts es F → ∃ bs, OTyL ts es bs ∧ InG G bs F
 | [], es, F, h => by
  simp only [STyL] at h
  exact ⟨[], by simp only [OTyL]; exact ⟨h.1, trivial⟩, InG.nil _ _⟩
 | t :: ts, es, F, h => by
  simp only [STyL] at h
  obtain ⟨a, r, Fa, Fr, rfl, h2, h3, rfl⟩ := h
  obtain ⟨b1, o1, i1⟩ := STy.blks h2
  obtain ⟨b2, o2, i2⟩ := STyL.blks h3
  exact ⟨b1 ++ b2, by simp only [OTyL]; exact ⟨a, r, b1, b2, rfl, rfl, o1, o2⟩, i1.app i2⟩
end
mutual
theorem STm.blks {G : IM} : ∀ {t : Tm} {cells : List Value} {F : List Nat}, STm G t cells F → ∃ bs, OTm t cells bs ∧ InG G bs F
 | .mk k nm num ty fr lb ks, cells, F, h => by
  simp only [STm] at h
  obtain ⟨tc, fc, p, c, es, Ft, Ff, Fs, h1, hk, hn, hl, h5, h6, h2, h3, rfl, h10⟩ := h
  obtain ⟨bt, ot, it⟩ := h5.blks
  obtain ⟨bf, of', if'⟩ := h6.blks
  obtain ⟨r, hr1, hr2⟩ := STmL.blks h3
  simp only [OTm]
  have hc := h2.sl.2.1
  have hm := h2.sl.2.2.1
  cases ks with
  | nil => exact ⟨bt ++ (bf ++ []), ⟨tc, fc, p, c, bt, bf, [], h1, hk, hn, hl, ot, of', hc, hm, .inl ⟨rfl, rfl⟩, rfl⟩, it.app (if'.app (InG.nil _ _))⟩
  | cons t ts =>
   have hne : es.flatten ≠ [] := by
    intro h0
    have hl := h2.sl.1
    rw [h0] at hl; simp at hl
   obtain ⟨b, A, C, rfl, hg⟩ := h2.sl.blk hne
   refine ⟨bt ++ (bf ++ ((b, A ++ (es.flatten ++ C)) :: r)), ⟨tc, fc, _, c, bt, bf, _, h1, hk, hn, hl, ot, of', hc, hm, .inr ⟨b, A, C, es, r, rfl, rfl, hr1⟩, rfl⟩, it.app (if'.app ⟨?_, ?_⟩)⟩
   ·simpa [vfp] using hr2.1
   ·intro q hq
    rcases List.mem_cons.1 hq with rfl | hq
    ·exact hg
    ·exact hr2.2 q hq
theorem STmL.blks {G : IM} : ∀ {ts : List Tm} {es : List (List Value)} {F : List Nat}, STmL G ts es F → ∃ bs, OTmL ts es bs ∧ InG G bs F
 | [], es, F, h => by
  simp only [STmL] at h
  exact ⟨[], by simp only [OTmL]; exact ⟨h.1, trivial⟩, InG.nil _ _⟩
 | t :: ts, es, F, h => by
  simp only [STmL] at h
  obtain ⟨a, r, Fa, Fr, rfl, h2, h3, rfl⟩ := h
  obtain ⟨b1, o1, i1⟩ := STm.blks h2
  obtain ⟨b2, o2, i2⟩ := STmL.blks h3
  exact ⟨b1 ++ b2, by simp only [OTmL]; exact ⟨a, r, b1, b2, rfl, rfl, o1, o2⟩, i1.app i2⟩
end
theorem OIs.sl {G : IM} {l : List Int} {p : Option Addr} {c : Nat} {bs : Blks} (h : OIs l p c bs) (hg : ∀ q ∈ bs, G q.1 = some q.2) : Sl G p l.length c 1 (ints l) := by
 obtain ⟨hc, hm, h⟩ := h
 rcases h with ⟨rfl, rfl⟩ | ⟨b, A, C, rfl, rfl⟩
 ·exact ⟨rfl, hc, hm, .inl rfl⟩
 ·exact Sl.of_blk (by rw [ints_len]; omega) hc hm (hg _ List.mem_cons_self)
/- Sizes. -/
mutual
theorem small_ty : ∀ t : Ty, szTy t ≤ 4294967296 → t.small
 | .mk _ ks, h => by
  rw [szTy] at h
  have := sumTy_nn ks
  simp only [Ty.small]
  exact ⟨by omega, small_tyL ks (by omega)⟩
theorem small_tyL : ∀ ts : List Ty, sumTy ts ≤ 4294967296 → Ty.smallL ts
 | [], _ => by simp [Ty.smallL]
 | t :: ts, h => by
  rw [sumTy] at h
  have := szTy_nn t
  have := sumTy_nn ts
  simp only [Ty.smallL]
  exact ⟨small_ty t (by omega), small_tyL ts (by omega)⟩
end
mutual
theorem small_tm : ∀ t : Tm, szTm t ≤ 4294967296 → t.small
 | .mk _ nm _ ty fr _ ks, h => by
  rw [szTm] at h
  have := sumTm_nn ks
  have := szTy_nn ty
  have := szTy_nn fr
  simp only [Tm.small]
  exact ⟨by omega, small_ty ty (by omega), small_ty fr (by omega), by omega, small_tmL ks (by omega)⟩
theorem small_tmL : ∀ ts : List Tm, sumTm ts ≤ 4294967296 → Tm.smallL ts
 | [], _ => by simp [Tm.smallL]
 | t :: ts, h => by
  rw [sumTm] at h
  have := szTm_nn t
  have := sumTm_nn ts
  simp only [Tm.smallL]
  exact ⟨small_tm t (by omega), small_tmL ts (by omega)⟩
end
mutual
theorem count_sz : ∀ t : Tm, (tmCount t : Int) ≤ szTm t + 1
 | .mk _ nm _ ty fr _ ks => by
  have := count_szL ks
  have := szTy_nn ty
  have := szTy_nn fr
  rw [szTm, tmCount]; omega
theorem count_szL : ∀ ts : List Tm, (tmCountL ts : Int) ≤ ts.length + sumTm ts
 | [] => by rw [sumTm, tmCountL]; simp
 | t :: ts => by
  have := count_sz t
  have := count_szL ts
  rw [sumTm, tmCountL, List.length_cons]; omega
end
mutual
theorem cnt_szTy : ∀ t : Ty, cntTy t = 1 + szTy t
 | .mk _ ks => by
  have := cnt_szTyL ks
  rw [cntTy, szTy]; omega
theorem cnt_szTyL : ∀ ts : List Ty, cntTyL ts = ts.length + sumTy ts
 | [] => by rw [cntTyL, sumTy]; simp
 | t :: ts => by
  have := cnt_szTy t
  have := cnt_szTyL ts
  rw [cntTyL, sumTy, List.length_cons]; omega
end
theorem szTy_eq (t : Ty) : szTy t = t.ks.length + sumTy t.ks := by cases t; rw [szTy]; rfl
mutual
theorem cnt_szTm : ∀ t : Tm, cntTm t ≤ 6 + 6 * szTm t
 | .mk _ nm _ ty fr _ ks => by
  have := cnt_szTmL ks
  have := cnt_szTyL ty.ks
  have := cnt_szTyL fr.ks
  have := szTy_eq ty
  have := szTy_eq fr
  have := szTy_nn ty
  have := szTy_nn fr
  rw [cntTm, szTm]; omega
theorem cnt_szTmL : ∀ ts : List Tm, cntTmL ts ≤ 6 * (ts.length + sumTm ts)
 | [] => by rw [cntTmL, sumTm]; simp
 | t :: ts => by
  have := cnt_szTm t
  have := cnt_szTmL ts
  rw [cntTmL, sumTm, List.length_cons]; omega
end
/-- How many marks a term takes. -/
theorem marks_sz (t : Tm) : cntTyL t.ty.ks + cntTyL t.fr.ks + cntTmL t.ks ≤ 6 * szTm t := by
 have h := cnt_szTm t
 rw [cntTm_eq] at h; omega
mutual
theorem paths_len : ∀ (t : Tm) (path : List Int), ∀ l ∈ mPaths t path, l.length ≤ path.length + tmCount t
 | .mk _ _ _ _ _ _ ks, path, l, h => by
  rw [mPaths] at h
  rw [tmCount]
  rcases List.mem_cons.1 h with rfl | h
  ·omega
  ·have := pathsL_len ks 0 path l h; omega
theorem pathsL_len : ∀ (ts : List Tm) (i : Nat) (path : List Int), ∀ l ∈ mPathsL ts i path, l.length ≤ path.length + 1 + tmCountL ts
 | [], i, path, l, h => by rw [mPathsL] at h; cases h
 | t :: ts, i, path, l, h => by
  rw [mPathsL] at h
  rw [tmCountL]
  rcases List.mem_append.1 h with h | h
  ·have := paths_len t _ l h
   simp at this; omega
  ·have := pathsL_len ts (i + 1) path l h; omega
end
/-- What a copy of a type comes to. -/
def ToTy (t : Ty) (G : IM) : IM → Value → List Ent → Prop := Imm fun G' v => ∃ cells' F, v = .agg ⟨cells'⟩ ∧ STy (Dif G' G) t cells' F ∧ F.Nodup
def ToTyS (ks : List Ty) (G : IM) : IM → Value → List Ent → Prop := Imm fun G' v => ∃ p c F, v = .slice p ks.length c ∧ STyS (Dif G' G) ks p c F ∧ F.Nodup
def ToTm (t : Tm) (G : IM) : IM → Value → List Ent → Prop := Imm fun G' v => ∃ cells' F, v = .agg ⟨cells'⟩ ∧ STm (Dif G' G) t cells' F ∧ F.Nodup
def ToTmS (ks : List Tm) (G : IM) : IM → Value → List Ent → Prop := Imm fun G' v => ∃ p c F, v = .slice p ks.length c ∧ STmS (Dif G' G) ks p c F ∧ F.Nodup
theorem toTypeS_of (ks : List Ty) (ih : ∀ t ∈ ks, ∀ (G : IM) (cells : List Value), t.small → RTy G t cells → Fn Tryz.prog 21 [.agg ⟨cells⟩] [] G (ToTy t G)) (hks : Ty.smallL ks) (hsm : ks.length ≤ 4294967296)
  (G : IM) (p : Option Addr) (c : Nat) (es : List (List Value)) (hsl : SlE G p ks.length c 2 es) (hkl : RTyL G ks es) :
  Fn Tryz.prog 42 [.slice p ks.length c] [] G (ToTyS ks G) := by
 have hn := hsl.le
 refine fn_enter Tryz.func42 rfl Tryz.ntmps42 Tryz.results42 rfl ?_
 intro w0
 refine tS (tR (sQ (pA rfl) rfl (sD (nS (tS (tR ?_))))))
 refine sQ (pM rfl) rfl (sQ (pLn rfl rfl) rfl ?_)
 (refine seq_makeBlk rfl rfl rfl (by omega) (by unfold maxLen; omega) rfl (fun bm => ?_))
 refine sQ (pA rfl) rfl (sD (nS (tS (tS (tR (sQ (pA rfl) rfl ?_))))))
 refine sD (nS (tri_block ?_))
 (refine tri_loopN (fun (x : Nat × List (List Value) × List Nat × IM) => ⟨[(4, .int .i64 x.1), (3, .slice (some ⟨bm, 0, none⟩) ks.length ks.length), (0, .slice p ks.length c)], [.blk bm (x.2.1.flatten ++ zrep (ks.length - x.1) [.int .i64 0, .slice none 0 0])], x.2.2.2⟩) (fun x => x.1 ≤ ks.length ∧ IMle G x.2.2.2 ∧ STyL (Dif x.2.2.2 G) (ks.take x.1) x.2.1 x.2.2.1 ∧ x.2.2.1.Nodup) (fun x => ks.length - x.1) (0, [], [], G) ?_ ?_ ?_)
 (simp only [flat_snoc]; exact sMk)
 exact ⟨by simp, IMle.refl _, by simp [STyL], by simp⟩
 (rintro ⟨i, es', F, Gi⟩ ⟨hi, hle, hst, hnd⟩; simp only [] at hi hle hst hnd ⊢; replace hsl := hsl.mono hle; replace hkl := hkl.mono hle)
 refine tS (tS (tR (sQ (pM rfl) rfl (sQ (pM rfl) rfl (sQ (pLn rfl rfl) rfl (sB (pure_lss rfl rfl) rfl rfl (fun h31 => ?_) (fun h31 => ?_)))))))
 refine sD (nS (cT rfl ?_))
 refine tK (nS (tS (tri_block (tR (sQ (pM rfl) rfl (sQ (pM rfl) rfl ?_))))))
 refine sQ (pM rfl) rfl (sQ (pM rfl) rfl ?_)
 (obtain ⟨b, o, p2, c2, rfl, hat, hre, hgb⟩ := hsl.kidTy hkl (i := i) (by omega) (by omega); refine sP (pIN rfl rfl rfl (by omega)) rfl rfl ?_)
 refine sL (load_a rfl rfl (hat _) rfl) rfl rfl ?_
 (refine seq_imm rfl (ih ks[i] (List.getElem_mem (by omega)) _ _ (Ty.smallL_mem hks _ (List.getElem_mem (by omega))) hre) rfl rfl (fun v G1 hle1 hh => ?_); obtain ⟨cells', F', rfl, hs', hnd'⟩ := hh; obtain ⟨p3, c3, rfl, _⟩ := hs'.open)
 refine sP (pIN rfl rfl rfl (by omega)) rfl rfl ?_
 (refine seq_store rfl rfl rfl rfl rfl rfl (by repeat first | exact Sw.here | apply Sw.there) (upd_next (by rw [hst.R.len, List.length_take]; omega) hst.R.all rfl rfl (by omega)) ?_)
 refine sD (nrm_block (nS (tR (sQ (pM rfl) rfl (sP (pure_add rfl rfl (by omega) (by omega)) rfl rfl ?_)))))
 refine sQ (pA rfl) rfl (sD (nrm_loopN (i + 1, es' ++ [[.int .i64 ks[i].k, .slice p3 ks[i].ks.length c3]], F ++ F', G1) ?_ ?_ ?_))
 (simp only [flat_snoc]; exact sMk)
 exact ⟨by omega, hle.trans hle1, STyL.step hst hnd hle hle1 (by omega) hs' hnd'⟩
 (show ks.length - (i + 1) < ks.length - i; omega)
 refine sD (nS (cF rfl ?_))
 refine tri_exit ?_
 refine ext_seq ?_
 refine ext_loopN ?_
 refine ext_block_eq ?_
 refine nS (tS (tR (sQ (pM rfl) rfl (sQ (pA rfl) rfl (sD (nS ?_))))))
 (obtain rfl : i = ks.length := (by omega); rw [zrep_self]; refine tri_freezes (bs := [(bm, es'.flatten)]) (List.Perm.refl _) (fun hn2 hd2 hle2 => ?_))
 refine tT (rF1 (rT rfl) ?_)
 (rw [List.take_length] at hst; obtain ⟨F2, hf1, hf2⟩ := STyS.fin hst hnd hle hle2 (sl_wi (by rw [flat_len hst.R.all, hst.R.len]) (by unfold maxLen; omega)) (wi_no hd2); exact ⟨rfl, _, _, F2, rfl, hf1, hf2⟩)
theorem toType_fn : ∀ (t : Ty) (G : IM) (cells : List Value), t.small → RTy G t cells → Fn Tryz.prog 21 [.agg ⟨cells⟩] [] G (ToTy t G) := by
 refine Ty.ind fun k ks ih G cells hts hr => ?_
 simp only [Ty.small] at hts
 obtain ⟨hsm, hks⟩ := hts
 obtain ⟨p, c, es, rfl, hk, hsl, hkl⟩ := hr.open
 simp only [Ty.k, Ty.ks] at hk hsl hkl ⊢
 have hS := toTypeS_of ks ih hks hsm G p c es hsl hkl
 refine fn_enter Tryz.func21 rfl Tryz.ntmps21 Tryz.results21 rfl ?_
 intro w0
 refine tS (tR ?_)
 refine sE (step_box_a rfl rfl) rfl (fun b3 => ?_)
 refine sE (step_alloc rfl) rfl (fun b4 => ?_)
 refine sD (nS (tS (tR ?_)))
 refine sE (step_alloc rfl) rfl (fun b9 => ?_)
 refine sD (nS (tS (tR (sQ (pF0 rfl) rfl (sL (lBs rfl rfl) rfl rfl ?_)))))
 refine sQ (pF0 rfl) rfl (sS' ?_)
 refine sD (nS (tS (tR (sQ (pF0 rfl) rfl (sL (lBs rfl rfl) rfl rfl ?_)))))
 (refine seq_imm rfl hS rfl rfl (fun v G1 hle1 hh => ?_); obtain ⟨p1, c1, F1, rfl, hs1, hn1⟩ := hh)
 refine sQ (pF0 rfl) rfl (sS' ?_)
 refine sD (nS (tS (tR (sL (lBa rfl rfl) rfl rfl ?_))))
 refine sS' ?_
 refine sD (nS (tT (rF1 (rC rfl (lBa rfl rfl)) ?_)))
 exact ⟨rfl, _, F1, rfl, hs1.ty hk, hn1⟩
theorem toTermS_of (ks : List Tm) (ih : ∀ t ∈ ks, ∀ (G : IM) (cells : List Value), t.small → RTm G t cells → Fn Tryz.prog 7 [.agg ⟨cells⟩] [] G (ToTm t G)) (hks : Tm.smallL ks) (hsm : ks.length ≤ 4294967296)
  (G : IM) (p : Option Addr) (c : Nat) (es : List (List Value)) (hsl : SlE G p ks.length c 9 es) (hkl : RTmL G ks es) :
  Fn Tryz.prog 22 [.slice p ks.length c] [] G (ToTmS ks G) := by
 have hn := hsl.le
 refine fn_enter Tryz.func22 rfl Tryz.ntmps22 Tryz.results22 rfl ?_
 intro w0
 refine tS (tR (sQ (pA rfl) rfl (sD (nS (tS (tR ?_))))))
 refine sQ (pM rfl) rfl (sQ (pLn rfl rfl) rfl ?_)
 (refine seq_makeBlk rfl rfl rfl (by omega) (by unfold maxLen; omega) rfl (fun bm => ?_))
 refine sQ (pA rfl) rfl (sD (nS (tS (tS (tR (sQ (pA rfl) rfl ?_))))))
 refine sD (nS (tri_block ?_))
 (refine tri_loopN (fun (x : Nat × List (List Value) × List Nat × IM) => ⟨[(4, .int .i64 x.1), (3, .slice (some ⟨bm, 0, none⟩) ks.length ks.length), (0, .slice p ks.length c)], [.blk bm (x.2.1.flatten ++ zrep (ks.length - x.1) [.int .i64 0, .string ⟨⟨[]⟩⟩, .int .i64 0, .int .i64 0, .slice none 0 0, .int .i64 0, .slice none 0 0, .int .i64 0, .slice none 0 0])], x.2.2.2⟩) (fun x => x.1 ≤ ks.length ∧ IMle G x.2.2.2 ∧ STmL (Dif x.2.2.2 G) (ks.take x.1) x.2.1 x.2.2.1 ∧ x.2.2.1.Nodup) (fun x => ks.length - x.1) (0, [], [], G) ?_ ?_ ?_)
 (simp only [flat_snoc]; exact sMk)
 exact ⟨by simp, IMle.refl _, by simp [STmL], by simp⟩
 (rintro ⟨i, es', F, Gi⟩ ⟨hi, hle, hst, hnd⟩; simp only [] at hi hle hst hnd ⊢; replace hsl := hsl.mono hle; replace hkl := hkl.mono hle)
 refine tS (tS (tR (sQ (pM rfl) rfl (sQ (pM rfl) rfl (sQ (pLn rfl rfl) rfl (sB (pure_lss rfl rfl) rfl rfl (fun h31 => ?_) (fun h31 => ?_)))))))
 refine sD (nS (cT rfl ?_))
 refine tK (nS (tS (tri_block (tR (sQ (pM rfl) rfl (sQ (pM rfl) rfl ?_))))))
 refine sQ (pM rfl) rfl (sQ (pM rfl) rfl ?_)
 (obtain ⟨b, o, e, rfl, hl, hat, hre, hgb⟩ := hsl.kidTm hkl (i := i) (by omega) (by omega); refine sP (pIN rfl rfl rfl (by omega)) rfl rfl ?_)
 refine sL (load_a rfl rfl (hat _) hl) rfl rfl ?_
 (refine seq_imm rfl (ih ks[i] (List.getElem_mem (by omega)) _ _ (Tm.smallL_mem hks _ (List.getElem_mem (by omega))) hre) rfl rfl (fun v G1 hle1 hh => ?_); obtain ⟨cells', F', rfl, hs', hnd'⟩ := hh; have hl9 := hs'.R.len; have hone := hs'.R.one)
 refine sP (pIN rfl rfl rfl (by omega)) rfl rfl ?_
 (refine seq_store rfl rfl rfl hl9 hone rfl (by repeat first | exact Sw.here | apply Sw.there) (upd_next (by rw [hst.R.len, List.length_take]; omega) hst.R.all rfl hl9 (by omega)) ?_)
 refine sD (nrm_block (nS (tR (sQ (pM rfl) rfl (sP (pure_add rfl rfl (by omega) (by omega)) rfl rfl ?_)))))
 refine sQ (pA rfl) rfl (sD (nrm_loopN (i + 1, es' ++ [cells'], F ++ F', G1) ?_ ?_ ?_))
 (simp only [flat_snoc]; exact sMk)
 exact ⟨by omega, hle.trans hle1, STmL.step hst hnd hle hle1 (by omega) hs' hnd'⟩
 (show ks.length - (i + 1) < ks.length - i; omega)
 refine sD (nS (cF rfl ?_))
 refine tri_exit ?_
 refine ext_seq ?_
 refine ext_loopN ?_
 refine ext_block_eq ?_
 refine nS (tS (tR (sQ (pM rfl) rfl (sQ (pA rfl) rfl (sD (nS ?_))))))
 (obtain rfl : i = ks.length := (by omega); rw [zrep_self]; refine tri_freezes (bs := [(bm, es'.flatten)]) (List.Perm.refl _) (fun hn2 hd2 hle2 => ?_))
 refine tT (rF1 (rT rfl) ?_)
 (rw [List.take_length] at hst; obtain ⟨F2, hf1, hf2⟩ := STmS.fin hst hnd hle hle2 (sl_wi (by rw [flat_len hst.R.all, hst.R.len]) (by unfold maxLen; omega)) (wi_no hd2); exact ⟨rfl, _, _, F2, rfl, hf1, hf2⟩)
theorem toTerm_fn : ∀ (t : Tm) (G : IM) (cells : List Value), t.small → RTm G t cells → Fn Tryz.prog 7 [.agg ⟨cells⟩] [] G (ToTm t G) := by
 refine Tm.ind fun k nm num ty fr lb ks ih G cells hts hr => ?_
 have hone := hr.one
 simp only [Tm.small] at hts
 obtain ⟨hnm, hty', hfr', hsm, hks⟩ := hts
 obtain ⟨tk, tks⟩ := ty
 obtain ⟨fk, fks⟩ := fr
 obtain ⟨pt, ct, pf, cf, p, c, es, rfl, hk, hnum, hlb, hty, hfr, hsl, hkl⟩ := hr.open9
 have hT := toType_fn (.mk tk tks) G _ hty' hty
 refine fn_enter Tryz.func7 rfl Tryz.ntmps7 Tryz.results7 rfl ?_
 intro w0
 refine tS (tR ?_)
 refine sE (step_box_a rfl rfl) rfl (fun b3 => ?_)
 refine sE (step_alloc rfl) rfl (fun b4 => ?_)
 refine sD (nS (tS (tR ?_)))
 refine sE (step_alloc rfl) rfl (fun b9 => ?_)
 refine sD (nS (tS (tR (sQ (pF0 rfl) rfl (sL (lBs rfl rfl) rfl rfl ?_)))))
 refine sQ (pF0 rfl) rfl (sS' ?_)
 refine sD (nS (tS (tR (sQ (pF0 rfl) rfl (sL (lBs rfl rfl) rfl rfl ?_)))))
 refine sQ (pF0 rfl) rfl (sS' ?_)
 refine sD (nS (tS (tR (sQ (pF0 rfl) rfl (sL (lBs rfl rfl) rfl rfl ?_)))))
 refine sQ (pF0 rfl) rfl (sS' ?_)
 refine sD (nS (tS (tR (sQ (pF0 rfl) rfl (sL (lBa rfl rfl) rfl rfl ?_)))))
 (refine seq_imm rfl hT rfl rfl (fun v G1 hle1 hh => ?_); obtain ⟨cs1, F1, rfl, hs1, hn1⟩ := hh; obtain ⟨p1, c1, rfl, _⟩ := hs1.open; have hF := toType_fn (.mk fk fks) G1 _ hfr' (hfr.mono hle1))
 refine sQ (pF0 rfl) rfl (sS' ?_)
 refine sD (nS (tS (tR (sQ (pF0 rfl) rfl (sL (lBa rfl rfl) rfl rfl ?_)))))
 (refine seq_imm rfl hF rfl rfl (fun v G2 hle2 hh => ?_); obtain ⟨cs2, F2, rfl, hs2, hn2⟩ := hh; obtain ⟨p2, c2, rfl, _⟩ := hs2.open; have hS := toTermS_of ks ih hks hsm G2 p c es (hsl.mono (hle1.trans hle2)) (hkl.mono (hle1.trans hle2)))
 refine sQ (pF0 rfl) rfl (sS' ?_)
 refine sD (nS (tS (tR (sQ (pF0 rfl) rfl (sL (lBs rfl rfl) rfl rfl ?_)))))
 refine sQ (pF0 rfl) rfl (sS' ?_)
 refine sD (nS (tS (tR (sQ (pF0 rfl) rfl (sL (lBs rfl rfl) rfl rfl ?_)))))
 (refine seq_imm rfl hS rfl rfl (fun v G3 hle3 hh => ?_); obtain ⟨p3, c3, F3, rfl, hs3, hn3⟩ := hh)
 refine sQ (pF0 rfl) rfl (sS' ?_)
 refine sD (nS (tS (tR (sL (lBa rfl rfl) rfl rfl ?_))))
 refine sS' ?_
 refine sD (nS (tT (rF1 (rC rfl (lBa rfl rfl)) ?_)))
 (obtain ⟨F, hf1, hf2⟩ := STm.mk3 (nm := nm) hk hnum hlb hle1 hle2 hle3 hs1 hn1 hs2 hn2 hs3 hn3; exact ⟨rfl, _, F, rfl, hf1, hf2⟩)
theorem indexFunc_Type (G : IM) (p : Option Addr) (n c : Nat) (es : List (List Value)) (hsl : SlE G p n c 2 es) (fid : FuncId) [FunI Tryz.prog fid] (us cs : List Value) (ins : List Ent) (q : Nat → Bool)
  (hq : ∀ i e, es[i]? = some e → Fn Tryz.prog fid (us ++ [.agg ⟨e⟩] ++ cs) ins G (ValO (.bool (q i)) ins G)) :
  Fn Tryz.prog 159 [.slice p n c, .func (.func fid) ⟨us⟩ ⟨cs⟩] ins G (ValO (.int .i64 (firstIx q n)) ins G) := by
 have hn := hsl.le
 refine fn_enter Tryz.func159 rfl Tryz.ntmps159 Tryz.results159 rfl ?_
 intro w0
 refine tS (tR (sQ (pA rfl) rfl (sD (nS (tS (tS ?_))))))
 refine tR (sQ (pM rfl) rfl (sQ (pLn rfl rfl) rfl (sQ (pM rfl) rfl (sD (nS (tri_block ?_))))))
 refine tri_loopN (fun i : Nat => ⟨[(8, .int .i64 i), (7, .int .i64 n), (1, .func (.func fid) ⟨us⟩ ⟨cs⟩), (0, .slice p n c)], ins, G⟩) (fun i => i ≤ n ∧ ∀ j, j < i → q j = false) (fun i => n - i) 0 ?_ ?_ ?_
 exact sMk
 exact ⟨by omega, by omega⟩
 rintro i ⟨hi, hf⟩
 refine tS (tR (sB (pure_lss rfl rfl) rfl rfl (fun h21 => ?_) (fun h21 => ?_)))
 refine sD (nS (tS (cT rfl ?_)))
 refine tK (nS (tS (tri_block (tS (tR (sQ (pM rfl) rfl ?_))))))
 refine sQ (pA rfl) rfl (sD (nS (tS (tR (sQ (pM rfl) rfl (sQ (pM rfl) rfl ?_))))))
 refine sQ (pM rfl) rfl ?_
 (obtain ⟨e, b, o, he, rfl, hl, _, hat, _⟩ := hsl.get (i := i) (by omega); refine sP (pIN rfl rfl rfl (by omega)) rfl rfl ?_)
 refine sL (load_a rfl rfl (hat _) hl) rfl rfl ?_
 refine seq_vvalbo rfl rfl (hq i e he) perm_all rfl rfl (fun h43 => ?_) (fun h43 => ?_)
 refine sD (nS (cT rfl ?_))
 refine tS (tR (sQ (pM rfl) rfl (sQ (pA rfl) rfl (sD (nS (tT ?_))))))
 refine rB (rS (ret_loopN (rB (rS (ret_own1 (rT rfl) SubH.refl ?_)))))
 exact ⟨rfl, by rw [firstIx_some (by omega) hf (by assumption)], rfl⟩
 refine sD (nS (cF rfl ?_))
 refine tK (nrm_block (nS (tR (sP (pure_add rfl rfl (by omega) (by omega)) rfl rfl ?_))))
 refine sQ (pM rfl) rfl (sD (nrm_loopN (i + 1) ?_ ?_ ?_))
 exact sMk
 exact ⟨by omega, fun j hj => by by_cases hji : j = i; (subst hji; assumption); exact hf j (by omega)⟩
 omega
 refine sD (nS (tS (cF rfl ?_)))
 refine tri_exit ?_
 refine ext_seq ?_
 refine ext_loopN ?_
 refine ext_block_eq ?_
 refine nS (tS (tR (sQ (pA rfl) rfl (sD (nS (tT ?_))))))
 refine ret_own1 (rT rfl) SubH.refl ?_
 exact ⟨rfl, by rw [firstIx_none (fun j hj => hf j (by omega))], rfl⟩
theorem containsFunc_Type (G : IM) (p : Option Addr) (n c : Nat) (es : List (List Value)) (hsl : SlE G p n c 2 es) (fid : FuncId) [FunI Tryz.prog fid] (us cs : List Value) (ins : List Ent) (q : Nat → Bool)
  (hq : ∀ i e, es[i]? = some e → Fn Tryz.prog fid (us ++ [.agg ⟨e⟩] ++ cs) ins G (ValO (.bool (q i)) ins G)) :
  Fn Tryz.prog 146 [.slice p n c, .func (.func fid) ⟨us⟩ ⟨cs⟩] ins G (ValO (.bool (decide (0 ≤ firstIx q n))) ins G) := by
 refine fn_enter Tryz.func146 rfl Tryz.ntmps146 Tryz.results146 rfl ?_
 intro w0
 refine tS (tR (sQ (pA rfl) rfl (sD (nS (tS (tR ?_))))))
 refine sQ (pM rfl) rfl (sQ (pM rfl) rfl (seq_valo rfl (indexFunc_Type G p n c es hsl fid us cs ins q hq) perm_all rfl rfl ?_))
 refine sQ (pure_geq rfl rfl) rfl (sQ (pA rfl) rfl (sD (nS (tT (ret_own1 (rT rfl) SubH.refl ?_)))))
 exact ⟨rfl, rfl, rfl⟩
theorem containsNot_Type (G : IM) (p : Option Addr) (n c : Nat) (es : List (List Value)) (hsl : SlE G p n c 2 es) (fid : FuncId) [FunI Tryz.prog fid] (us cs : List Value) (ins : List Ent) (f : Ty → Bool) (ks : List Ty)
  (hn : ks.length = n) {A : Bool} (hA : ks.all f = A) (hq : ∀ i e, es[i]? = some e → Fn Tryz.prog fid (us ++ [.agg ⟨e⟩] ++ cs) ins G (ValO (.bool (!f (ks.getD i ty0))) ins G)) :
  Fn Tryz.prog 146 [.slice p n c, .func (.func fid) ⟨us⟩ ⟨cs⟩] ins G (ValO (.bool (!A)) ins G) := by
 subst hn hA
 rw [← contains_not f ks ty0]
 exact containsFunc_Type G p _ c es hsl fid us cs ins _ hq
theorem equalFunc_Type (G : IM) (p p' : Option Addr) (n c n' c' : Nat) (es es' : List (List Value)) (hsl : SlE G p n c 2 es) (hsl' : SlE G p' n' c' 2 es') (fid : FuncId) [FunI Tryz.prog fid] (us cs : List Value) (ins : List Ent) (q : Nat → Bool)
  (A : Bool) (hA : A = true ↔ n = n' ∧ ∀ i, i < n → q i = true)
  (hq : ∀ i e e', es[i]? = some e → es'[i]? = some e' → Fn Tryz.prog fid (us ++ [.agg ⟨e⟩, .agg ⟨e'⟩] ++ cs) ins G (ValO (.bool (q i)) ins G)) :
  Fn Tryz.prog 77 [.slice p n c, .slice p' n' c', .func (.func fid) ⟨us⟩ ⟨cs⟩] ins G (ValO (.bool A) ins G) := by
 have hn := hsl.le
 have hn' := hsl'.le
 refine fn_enter Tryz.func77 rfl Tryz.ntmps77 Tryz.results77 rfl ?_
 intro w0
 refine tS (tR (sQ (pA rfl) rfl (sD (nS (tS (tS ?_))))))
 refine tR (sQ (pM rfl) rfl (sQ (pLn rfl rfl) rfl (sQ (pM rfl) rfl (sQ (pLn rfl rfl) rfl (sB (pure_neq rfl rfl) rfl rfl (fun h13 => ?_) (fun h13 => ?_))))))
 refine sD (nS (cT rfl ?_))
 refine tS (tR (sQ (pA rfl) rfl (sD (nS (tT (rS ?_))))))
 refine ret_own1 (outs := ins) (rT rfl) (by first | exact SubH.refl | exact SubH.drop (SubH.drop SubH.refl)) ?_
 exact ⟨rfl, by (cases A with | false => rfl | true => exact absurd (hA.1 rfl).1 (by omega)), rfl⟩
 refine sD (nS (cF rfl ?_))
 refine tK (nS (tS (tS (tR (sQ (pM rfl) rfl (sQ (pLn rfl rfl) rfl ?_))))))
 refine sQ (pM rfl) rfl (sD (nS (tri_block (tri_loopN (fun i : Nat => ⟨[(17, .int .i64 i), (16, .int .i64 n), (15, .slice p n c), (2, .func (.func fid) ⟨us⟩ ⟨cs⟩), (1, .slice p' n' c'), (0, .slice p n c)], ins, G⟩) (fun i => i ≤ n ∧ ∀ j, j < i → q j = true) (fun i => n - i) 0 ?_ ?_ ?_))))
 exact sMk
 exact ⟨by omega, by omega⟩
 rintro i ⟨hi, hf⟩
 refine tS (tR (sB (pure_lss rfl rfl) rfl rfl (fun h46 => ?_) (fun h46 => ?_)))
 refine sD (nS (tS (cT rfl ?_)))
 refine tK (nS (tS (tri_block (tS (tR (sQ (pM rfl) rfl ?_))))))
 (obtain ⟨e, b, o, he, rfl, hl, _, hat, _⟩ := hsl.get (i := i) (by omega); refine sP (pIN rfl rfl rfl (by omega)) rfl rfl ?_)
 refine sL (load_a rfl rfl (hat _) hl) rfl rfl ?_
 refine sE (step_alloc rfl) rfl (fun b60 => ?_)
 refine sQ (pA rfl) rfl (seq_store rfl rfl rfl (by assumption) (by assumption) rfl (by repeat first | exact Sw.here | apply Sw.there) (by exact upd_all (by symm; assumption)) ?_)
 refine sD (nS (tS (tR (sQ (pM rfl) rfl (sQ (pM rfl) rfl ?_)))))
 (obtain ⟨e', b', o', he', rfl, hl', _, hat', _⟩ := hsl'.get (i := i) (by omega); refine sP (pIN rfl rfl rfl (by omega)) rfl rfl ?_)
 refine sL (load_a rfl rfl (hat' _) hl') rfl rfl ?_
 refine sE (step_alloc rfl) rfl (fun b71 => ?_)
 refine seq_store rfl rfl rfl (by assumption) (by assumption) rfl (by repeat first | exact Sw.here | apply Sw.there) (by exact upd_all (by symm; assumption)) ?_
 refine sD (nS (tS (tR (sQ (pM rfl) rfl (sL (load_a rfl rfl (at_blk_all (by repeat first | exact mH | apply mT)) (by assumption)) rfl rfl ?_)))))
 refine sL (load_a rfl rfl (at_blk_all (by repeat first | exact mH | apply mT)) (by assumption)) rfl rfl ?_
 refine seq_vvalbo rfl rfl (hq i e e' he he') perm_two rfl rfl (fun h80 => ?_) (fun h80 => ?_)
 refine sQ (pNt rfl) rfl (sD (nS (cF rfl ?_)))
 refine tK (nrm_block (nS (tR (sP (pure_add rfl rfl (by omega) (by omega)) rfl rfl ?_))))
 refine sQ (pM rfl) rfl (sD (nrm_loopN (i + 1) ?_ ?_ ?_))
 exact sMk
 exact ⟨by omega, fun j hj => by by_cases hji : j = i; (subst hji; assumption); exact hf j (by omega)⟩
 omega
 refine sQ (pNf rfl) rfl (sD (nS (cT rfl ?_)))
 refine tS (tR (sQ (pA rfl) rfl (sD (nS (tT (rB ?_))))))
 refine rS (ret_loopN (rB (rS (ret_own1 (outs := ins) (rT rfl) (by first | exact SubH.refl | exact SubH.drop (SubH.drop SubH.refl)) ?_))))
 exact ⟨rfl, by (cases A with | false => rfl | true => have h0 := (hA.1 rfl).2 i (by omega); simp_all), rfl⟩
 refine sD (nS (tS (cF rfl ?_)))
 refine tri_exit ?_
 refine ext_seq ?_
 refine ext_loopN ?_
 refine ext_block_eq ?_
 refine nS (tS (tR (sQ (pA rfl) rfl (sD (nS (tT ?_))))))
 refine ret_own1 (outs := ins) (rT rfl) (by first | exact SubH.refl | exact SubH.drop (SubH.drop SubH.refl)) ?_
 exact ⟨rfl, by rw [hA.2 ⟨by omega, fun j hj => hf j (by omega)⟩], rfl⟩
theorem within_fn (n lo hi : Int) (G : IM) : Fn Tryz.prog 47 [.int .i64 n, .int .i64 lo, .int .i64 hi] [] G (Val (.bool (withinB n lo hi)) G) := by
 refine fn_enter Tryz.func47 rfl Tryz.ntmps47 Tryz.results47 rfl ?_
 intro w0
 refine tS (tR (sQ (pA rfl) rfl (sD (nS (tS (tR ?_))))))
 refine sQ (pM rfl) rfl (sQ (pM rfl) rfl (sB (pure_leq rfl rfl) rfl rfl (fun h10 => ?_) (fun h10 => ?_)))
 refine sQ (pM rfl) rfl (sQ (pM rfl) rfl (sQ (pM rfl) rfl (sB (pure_leq rfl rfl) rfl rfl (fun h14 => ?_) (fun h14 => ?_))))
 refine sQ (pPt rfl rfl) rfl (sQ (pA rfl) rfl (sD (nS (tT (rF1 (rT rfl) ?_)))))
 exact ⟨rfl, by simp [withinB]; omega, rfl⟩
 refine sQ (pPt rfl rfl) rfl (sQ (pA rfl) rfl (sD (nS (tT (rF1 (rT rfl) ?_)))))
 exact ⟨rfl, by simp [withinB]; omega, rfl⟩
 refine sQ (pM rfl) rfl (sK rfl rfl (sK rfl rfl (sK rfl rfl (sQ (pPf rfl rfl) rfl (sQ (pA rfl) rfl (sD ?_))))))
 refine nS (tT (rF1 (rT rfl) ?_))
 exact ⟨rfl, by simp [withinB]; omega, rfl⟩
theorem base_fn (k : Int) (G : IM) : Fn Tryz.prog 119 [.int .i64 k] [] G (Val (.agg ⟨[.int .i64 k, .slice none 0 0]⟩) G) := by
 refine fn_enter Tryz.func119 rfl Tryz.ntmps119 Tryz.results119 rfl ?_
 intro w0
 refine tS (tR ?_)
 refine sE (step_alloc rfl) rfl (fun b3 => ?_)
 refine sD (nS (tS (tR (sQ (pM rfl) rfl (sQ (pBd rfl rfl) rfl (sS' ?_))))))
 refine sD (nS (tT (rF1 (rC rfl (lBa rfl rfl)) ?_)))
 exact ⟨rfl, rfl, rfl⟩
theorem isLabel_fn (n : Int) (G : IM) : Fn Tryz.prog 139 [.int .i64 n] [] G (Val (.bool (labelOk n)) G) := by
 refine fn_enter Tryz.func139 rfl Tryz.ntmps139 Tryz.results139 rfl ?_
 intro w0
 refine tS (tR (sQ (pA rfl) rfl (sD (nS (tS (tR ?_))))))
 refine sQ (pM rfl) rfl (seq_valb rfl (within_fn _ _ _ _) rfl rfl (fun h9 => ?_) (fun h9 => ?_))
 refine sQ (pM rfl) rfl (sK rfl rfl (sK rfl rfl (sQ (pPt rfl rfl) rfl (sQ (pA rfl) rfl (sD (nS ?_))))))
 refine tT (rF1 (rT rfl) ?_)
 exact ⟨rfl, by simp [labelOk, *], rfl⟩
 refine sQ (pM rfl) rfl (sQ (pM rfl) rfl (seq_valb rfl (within_fn _ _ _ _) rfl rfl (fun h22 => ?_) (fun h22 => ?_)))
 refine sQ (pPf rfl rfl) rfl (sQ (pA rfl) rfl (sD (nS (tT (rF1 (rT rfl) ?_)))))
 exact ⟨rfl, by simp [labelOk, *], rfl⟩
 refine sQ (pPf rfl rfl) rfl (sQ (pA rfl) rfl (sD (nS (tT (rF1 (rT rfl) ?_)))))
 exact ⟨rfl, by simp [labelOk, *], rfl⟩
theorem isNoType_fn (t : Ty) (G : IM) (cells : List Value) (hr : RTy G t cells) : Fn Tryz.prog 137 [.agg ⟨cells⟩] [] G (Val (.bool (tNone t)) G) := by
 obtain ⟨p, c, es, rfl, hk, hsl, hkl⟩ := hr.open
 refine fn_enter Tryz.func137 rfl Tryz.ntmps137 Tryz.results137 rfl ?_
 intro w0
 refine tS (tR ?_)
 refine sE (step_box_a rfl rfl) rfl (fun b3 => ?_)
 refine sQ (pA rfl) rfl (sD (nS (tS (tR (sQ (pF0 rfl) rfl (sL (lBs rfl rfl) rfl rfl ?_))))))
 refine sB (pE rfl rfl) rfl rfl (fun h11 => ?_) (fun h11 => ?_)
 refine sQ (pM rfl) rfl (sQ (pF0 rfl) rfl (sL (lBs rfl rfl) rfl rfl ?_))
 refine sQ (pLn rfl rfl) rfl (sB (pE rfl rfl) rfl rfl (fun h16 => ?_) (fun h16 => ?_))
 refine sQ (pPt rfl rfl) rfl (sQ (pA rfl) rfl (sD (nS (tT (rF1 (rT rfl) ?_)))))
 exact ⟨rfl, by simp only [tNone]; (first | rw [decide_eq_true (by omega)] | rw [decide_eq_false (by omega)]), rfl⟩
 refine sQ (pPt rfl rfl) rfl (sQ (pA rfl) rfl (sD (nS (tT (rF1 (rT rfl) ?_)))))
 exact ⟨rfl, by simp only [tNone]; (first | rw [decide_eq_true (by omega)] | rw [decide_eq_false (by omega)]), rfl⟩
 refine sQ (pM rfl) rfl (sK rfl rfl (sK rfl rfl (sK rfl rfl (sK rfl rfl (sQ (pPf rfl rfl) rfl (sQ (pA rfl) rfl ?_))))))
 refine sD (nS (tT (rF1 (rT rfl) ?_)))
 exact ⟨rfl, by simp only [tNone]; (first | rw [decide_eq_true (by omega)] | rw [decide_eq_false (by omega)]), rfl⟩
theorem isName_fn (s : ByteArray) (G : IM) : Fn Tryz.prog 109 [.string s] [] G (Val (.bool (nameOk s)) G) := by
 refine fn_enter Tryz.func109 rfl Tryz.ntmps109 Tryz.results109 rfl ?_
 intro w0
 refine tS (tR (sQ (pA rfl) rfl (sD (nS (tS (tR ?_))))))
 refine sQ (pM rfl) rfl (sQ (pure_len_str rfl rfl) rfl (sB (pE rfl rfl) rfl rfl (fun h10 => ?_) (fun h10 => ?_)))
 refine sQ (pM rfl) rfl (sQ (pM rfl) rfl (sP (pure_sindex rfl rfl rfl (by omega) (ba_get (by omega))) rfl rfl ?_))
 refine sB (pure_geq rfl rfl) rfl rfl (fun h14 => ?_) (fun h14 => ?_)
 refine sQ (pPt rfl rfl) rfl (sQ (pM rfl) rfl (sQ (pM rfl) rfl (sP (pure_sindex rfl rfl rfl (by omega) (ba_get (by omega))) rfl rfl ?_)))
 refine sB (pure_leq rfl rfl) rfl rfl (fun h19 => ?_) (fun h19 => ?_)
 refine sQ (pPt rfl rfl) rfl (sQ (pA rfl) rfl (sD (nS (tT (rF1 (rT rfl) ?_)))))
 exact ⟨rfl, by simp only [nameOk]; (try simp only [Int.toNat_zero] at *); (first | rw [decide_eq_true (by omega)] | rw [decide_eq_false (by omega)]), rfl⟩
 refine sQ (pPt rfl rfl) rfl (sQ (pA rfl) rfl (sD (nS (tT (rF1 (rT rfl) ?_)))))
 exact ⟨rfl, by simp only [nameOk]; (try simp only [Int.toNat_zero] at *); (first | rw [decide_eq_true (by omega)] | rw [decide_eq_false (by omega)]), rfl⟩
 refine sQ (pPt rfl rfl) rfl (sQ (pM rfl) rfl (sK rfl rfl (sK rfl rfl (sK rfl rfl (sQ (pPf rfl rfl) rfl (sQ (pA rfl) rfl ?_))))))
 refine sD (nS (tT (rF1 (rT rfl) ?_)))
 exact ⟨rfl, by simp only [nameOk]; (try simp only [Int.toNat_zero] at *); (first | rw [decide_eq_true (by omega)] | rw [decide_eq_false (by omega)]), rfl⟩
 refine sQ (pM rfl) rfl (sK rfl rfl (sK rfl rfl (sK rfl rfl (sQ (pPf rfl rfl) rfl (sQ (pM rfl) rfl (sK rfl rfl ?_))))))
 refine sK rfl rfl (sK rfl rfl (sQ (pPf rfl rfl) rfl (sQ (pA rfl) rfl (sD (nS (tT ?_))))))
 refine rF1 (rT rfl) ?_
 exact ⟨rfl, by simp only [nameOk]; (try simp only [Int.toNat_zero] at *); (first | rw [decide_eq_true (by omega)] | rw [decide_eq_false (by omega)]), rfl⟩
end Gw
end Go.Proofs.YtmnfamimopcldaaGreatDoor
