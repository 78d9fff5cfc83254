/-
  The data of the program: types and terms as trees, and how they lie in memory. What the functions of the program compute, in plain words over trees. Terms in memory of their own; slices that were made, filled and given up. The laws' mark texts: the letter m and a number's digits. Lists of paths: what they are in plain words, and how fresh ones lie in memory. The laws' comparisons, at data that are the same. Data that the call owns, block by block: what the laws' marking writes. The laws' marking of types. The laws' marking of terms. The laws' marking of terms and paths, and the reading of the marks. The laws' measure of arguments. Arguments that can be read as data lie in memory as trees do; a law that answers true in memory that was there before meets its row. strconv.Itoa of a number from 0 to 999 is its decimal digits, where the library's table lies as it was laid. The library's tables as the rows list them. Slices of numbers read as arguments. The reference model's source of numbers: each draw stays in its bounds. Slices of bytes read as arguments. The laws' copies of types and terms. Fresh data taken back into the call's own hands, and given up again; sizes. Copies of types and terms: the reference model's, the program's, the laws' of paths. Terms each node of which is changed, operands first; own copies. The functions on types and the small tests of terms: each computes what the plain words say. The scans of types: typeScan, TypeValid, consistent, Consistent.
-/
import Derived.Test.YtfpgncjeejickaaGreatDoorKb0
import Derived.Laws.BytesArg
import Derived.WalkKit
import Derived.ProofKit
import Derived.OpenShut
import Derived.Carry
import Derived.Test.YtfpgncjeejickaaGreatDoorShelf
import Derived.Test.YtfpgncjeejickaaGreatDoorRows
import Derived.Deep.DeepHandedRow
import Derived.Lib.LaidTab
import Derived.Stop.LaidErr
set_option linter.unusedVariables false
set_option linter.unusedSimpArgs false
set_option maxHeartbeats 0
set_option maxRecDepth 100000
set_option synthInstance.maxSize 4000
set_option synthInstance.maxHeartbeats 0
namespace Go.Proofs.YtfpgncjeejickaaGreatDoor
open Go Go.RowKit
namespace Gw

structure C5 (G : IM) (p : Option Addr) (n c sz : Nat) (es : List (List Value)) : Prop where
 sl : Sl G p n c sz es.flatten
 len : es.length = n
 all : ∀ e ∈ es, e.length = sz
 one : ∀ e ∈ es, e.all (·.oneCell') = true

theorem C5.mono {G G' : IM} {p : Option Addr} {n c sz : Nat} {es : List (List Value)} (h : C5 G p n c sz es) (hg : B6 G G') : C5 G' p n c sz es := ⟨h.sl.mono hg, h.len, h.all, h.one⟩
theorem C5.nil (G : IM) (sz : Nat) : C5 G none 0 0 sz [] := ⟨Sl.nil G sz, rfl, by simp, by simp⟩

theorem A61 {sz : Nat} : ∀ {es : List (List Value)}, (∀ e ∈ es, e.length = sz) → ∀ {i : Nat} {e : List Value}, es[i]? = some e → ∀ j v, e[j]? = some v → es.flatten[i * sz + j]? = some v
 | [], _, i, e, h, _, _, _ => by simp at h
 | a :: r, hall, 0, e, h, j, v, hv => by
  simp at h; subst h
  have : j < a.length := (List.getElem?_eq_some_iff.1 hv).1
  simp [List.getElem?_append, this]
  simpa [List.getElem?_eq_getElem this] using hv
 | a :: r, hall, i + 1, e, h, j, v, hv => by
  have ih := A61 (es := r) (fun x hx => hall x (List.mem_cons_of_mem _ hx)) (i := i) (e := e) (by simpa using h) j v hv
  have ha := hall a List.mem_cons_self
  rw [List.flatten_cons, List.getElem?_append, if_neg (by rw [ha, Nat.succ_mul]; omega)]
  rw [show (i + 1) * sz + j - a.length = i * sz + j by rw [ha, Nat.succ_mul]; omega]
  exact ih

theorem C5.at {G : IM} {p : Option Addr} {n c sz : Nat} {es : List (List Value)} (h : C5 G p n c sz es) {i : Nat} {e : List Value} (hi : es[i]? = some e) :
  ∃ b o, p = some ⟨b, o, none⟩ ∧ ∀ hp, At hp G b (o + i * sz) e := by
 have hlt : i < es.length := (List.getElem?_eq_some_iff.1 hi).1
 obtain ⟨_, _, _, h4⟩ := h.sl
 have hn := h.len
 rcases h4 with h0 | ⟨b, o, full, hp, hg, hf⟩
 ·omega
 ·refine ⟨b, o, hp, fun hp => A3Q hg fun j v hv => ?_⟩
  rw [Nat.add_assoc]
  exact hf _ v (A61 h.all hi j v hv)

theorem C5.get {G : IM} {p : Option Addr} {n c sz : Nat} {es : List (List Value)} (h : C5 G p n c sz es) {i : Nat} (hi : i < n) :
  ∃ e b o, es[i]? = some e ∧ p = some ⟨b, o, none⟩ ∧ e.length = sz ∧ e.all (·.oneCell') = true ∧ (∀ hp, At hp G b (o + i * sz) e) ∧ G b ≠ none := by
 have hlt : i < es.length := by rw [h.len]; exact hi
 have he : es[i]? = some es[i] := List.getElem?_eq_getElem hlt
 obtain ⟨b, o, h1, h2⟩ := h.at he
 refine ⟨es[i], b, o, he, h1, h.all _ (List.getElem_mem hlt), h.one _ (List.getElem_mem hlt), h2, ?_⟩
 obtain ⟨_, _, _, h4⟩ := h.sl
 rcases h4 with h0 | ⟨b', o', full, hp, hg, hf⟩
 ·omega
 ·rw [h1] at hp; cases hp; rw [hg]; simp
theorem C5.le {G : IM} {p : Option Addr} {n c sz : Nat} {es : List (List Value)} (h : C5 G p n c sz es) : n ≤ 9223372036854775807 := by
 have h1 := h.sl.2.1; have h2 := h.sl.2.2.1; unfold maxLen at h2; omega

theorem C5.of {G : IM} {p : Option Addr} {n c sz : Nat} {es : List (List Value)} (h : Sl G p n c sz es.flatten) (hl : es.length = n) (ha : ∀ e ∈ es, e.length = sz) (ho : ∀ e ∈ es, e.all (·.oneCell') = true) : C5 G p n c sz es := ⟨h, hl, ha, ho⟩

def F4 (n : Int) : Prop := -9223372036854775808 ≤ n ∧ n ≤ 9223372036854775807

inductive Ty where
 | mk (k : Int) (ks : List Ty)

def Ty.k : Ty → Int | .mk k _ => k
def Ty.ks : Ty → List Ty | .mk _ ks => ks

inductive Tm where
 | mk (k : Int) (nm : ByteArray) (num : Int) (ty fr : Ty) (lb : Int) (ks : List Tm)

def Tm.k : Tm → Int | .mk k _ _ _ _ _ _ => k
def Tm.nm : Tm → ByteArray | .mk _ n _ _ _ _ _ => n
def Tm.num : Tm → Int | .mk _ _ n _ _ _ _ => n
def Tm.ty : Tm → Ty | .mk _ _ _ t _ _ _ => t
def Tm.fr : Tm → Ty | .mk _ _ _ _ f _ _ => f
def Tm.lb : Tm → Int | .mk _ _ _ _ _ l _ => l
def Tm.ks : Tm → List Tm | .mk _ _ _ _ _ _ ks => ks

mutual
def Ty.small : Ty → Prop
 | .mk _ ks => ks.length ≤ 4294967296 ∧ Ty.smallL ks
def Ty.smallL : List Ty → Prop
 | [] => True
 | t :: ts => t.small ∧ Ty.smallL ts
end
mutual
def Tm.small : Tm → Prop
 | .mk _ nm _ ty fr _ ks => nm.size ≤ 4294967296 ∧ ty.small ∧ fr.small ∧ ks.length ≤ 4294967296 ∧ Tm.smallL ks
def Tm.smallL : List Tm → Prop
 | [] => True
 | t :: ts => t.small ∧ Tm.smallL ts
end
theorem Ty.smallL_mem : ∀ {ts : List Ty}, Ty.smallL ts → ∀ t ∈ ts, t.small
 | [], _, t, h => by simp at h
 | t' :: ts, h, t, ht => by
  simp only [Ty.smallL] at h
  rcases List.mem_cons.1 ht with rfl | ht
  ·exact h.1
  ·exact Ty.smallL_mem h.2 t ht
theorem Tm.smallL_mem : ∀ {ts : List Tm}, Tm.smallL ts → ∀ t ∈ ts, t.small
 | [], _, t, h => by simp at h
 | t' :: ts, h, t, ht => by
  simp only [Tm.smallL] at h
  rcases List.mem_cons.1 ht with rfl | ht
  ·exact h.1
  ·exact Tm.smallL_mem h.2 t ht

mutual
def B3 (G : IM) : Ty → List Value → Prop
 | .mk k ks, cells => ∃ p c es, cells = [.int .i64 k, .slice p ks.length c] ∧ F4 k ∧ C5 G p ks.length c 2 es ∧ E3 G ks es
def E3 (G : IM) : List Ty → List (List Value) → Prop
 | [], es => es = []
 | t :: ts, es => ∃ a r, es = a :: r ∧ B3 G t a ∧ E3 G ts r
end

mutual
def A7 (G : IM) : Tm → List Value → Prop
 | .mk k nm num ty fr lb ks, cells => ∃ tc fc p c es, cells = [.int .i64 k, .string nm, .int .i64 num] ++ tc ++ fc ++ [.int .i64 lb, .slice p ks.length c] ∧ F4 k ∧ F4 num ∧ F4 lb ∧ B3 G ty tc ∧ B3 G fr fc ∧ C5 G p ks.length c 9 es ∧ C6 G ks es
def C6 (G : IM) : List Tm → List (List Value) → Prop
 | [], es => es = []
 | t :: ts, es => ∃ a r, es = a :: r ∧ A7 G t a ∧ C6 G ts r
end

mutual
theorem B3.mono {G G' : IM} (hg : B6 G G') : ∀ {t : Ty} {cells : List Value}, B3 G t cells → B3 G' t cells
 | .mk k ks, cells, h => by
  simp only [B3] at h ⊢
  obtain ⟨p, c, es, h1, h2, h3, h4⟩ := h
  exact ⟨p, c, es, h1, h2, h3.mono hg, E3.mono hg h4⟩
theorem E3.mono {G G' : IM} (hg : B6 G G') : ∀ {ts : List Ty} {es : List (List Value)}, E3 G ts es → E3 G' ts es
 | [], es, h => by simpa only [E3] using h
 | t :: ts, es, h => by
  simp only [E3] at h ⊢
  obtain ⟨a, r, h1, h2, h3⟩ := h
  exact ⟨a, r, h1, B3.mono hg h2, E3.mono hg h3⟩
end
mutual
theorem A7.mono {G G' : IM} (hg : B6 G G') : ∀ {t : Tm} {cells : List Value}, A7 G t cells → A7 G' t cells
 | .mk k nm num ty fr lb ks, cells, h => by
  simp only [A7] at h ⊢
  obtain ⟨tc, fc, p, c, es, h1, h2, h3, h4, h5, h6, h7, h8⟩ := h
  exact ⟨tc, fc, p, c, es, h1, h2, h3, h4, h5.mono hg, h6.mono hg, h7.mono hg, C6.mono hg h8⟩
theorem C6.mono {G G' : IM} (hg : B6 G G') : ∀ {ts : List Tm} {es : List (List Value)}, C6 G ts es → C6 G' ts es
 | [], es, h => by simpa only [C6] using h
 | t :: ts, es, h => by
  simp only [C6] at h ⊢
  obtain ⟨a, r, h1, h2, h3⟩ := h
  exact ⟨a, r, h1, A7.mono hg h2, C6.mono hg h3⟩
end

theorem B3.open {G : IM} {t : Ty} {cells : List Value} (h : B3 G t cells) : ∃ p c es, cells = [.int .i64 t.k, .slice p t.ks.length c] ∧ F4 t.k ∧ C5 G p t.ks.length c 2 es ∧ E3 G t.ks es := by
 cases t; simpa only [B3, Ty.k, Ty.ks] using h
theorem A7.open {G : IM} {t : Tm} {cells : List Value} (h : A7 G t cells) : ∃ pt ct et pf cf ef p c es,
  cells = [.int .i64 t.k, .string t.nm, .int .i64 t.num, .int .i64 t.ty.k, .slice pt t.ty.ks.length ct, .int .i64 t.fr.k, .slice pf t.fr.ks.length cf, .int .i64 t.lb, .slice p t.ks.length c] ∧
  F4 t.k ∧ F4 t.num ∧ F4 t.lb ∧ (F4 t.ty.k ∧ C5 G pt t.ty.ks.length ct 2 et ∧ E3 G t.ty.ks et) ∧ (F4 t.fr.k ∧ C5 G pf t.fr.ks.length cf 2 ef ∧ E3 G t.fr.ks ef) ∧ C5 G p t.ks.length c 9 es ∧ C6 G t.ks es := by
 obtain ⟨k, nm, num, ty, fr, lb, ks⟩ := t
 simp only [A7] at h
 obtain ⟨tc, fc, p, c, es, h1, h2, h3, h4, h5, h6, h7, h8⟩ := h
 obtain ⟨pt, ct, et, rfl, t1, t2, t3⟩ := h5.open
 obtain ⟨pf, cf, ef, rfl, f1, f2, f3⟩ := h6.open
 exact ⟨pt, ct, et, pf, cf, ef, p, c, es, h1, h2, h3, h4, ⟨t1, t2, t3⟩, ⟨f1, f2, f3⟩, h7, h8⟩
theorem A7.open9 {G : IM} {k : Int} {nm : ByteArray} {num : Int} {tk : Int} {tks : List Ty} {fk : Int} {fks : List Ty} {lb : Int} {ks : List Tm} {cells : List Value} (h : A7 G (.mk k nm num (.mk tk tks) (.mk fk fks) lb ks) cells) :
  ∃ pt ct pf cf p c es, cells = [.int .i64 k, .string nm, .int .i64 num, .int .i64 tk, .slice pt tks.length ct, .int .i64 fk, .slice pf fks.length cf, .int .i64 lb, .slice p ks.length c] ∧
  F4 k ∧ F4 num ∧ F4 lb ∧ B3 G (.mk tk tks) [.int .i64 tk, .slice pt tks.length ct] ∧ B3 G (.mk fk fks) [.int .i64 fk, .slice pf fks.length cf] ∧ C5 G p ks.length c 9 es ∧ C6 G ks es := by
 obtain ⟨pt, ct, et, pf, cf, ef, p, c, es, h1, h2, h3, h4, ⟨t1, t2, t3⟩, ⟨f1, f2, f3⟩, h7, h8⟩ := h.open
 simp only [Tm.k, Tm.nm, Tm.num, Tm.ty, Tm.fr, Tm.lb, Tm.ks, Ty.k, Ty.ks] at h1 h2 h3 h4 t1 t2 t3 f1 f2 f3 h7 h8
 exact ⟨pt, ct, pf, cf, p, c, es, h1, h2, h3, h4, by simp only [B3]; exact ⟨_, _, et, rfl, t1, t2, t3⟩, by simp only [B3]; exact ⟨_, _, ef, rfl, f1, f2, f3⟩, h7, h8⟩
theorem B3.len {G : IM} {t : Ty} {cells : List Value} (h : B3 G t cells) : cells.length = 2 := by
 obtain ⟨_, _, _, rfl, _⟩ := h.open; rfl
theorem A7.len {G : IM} {t : Tm} {cells : List Value} (h : A7 G t cells) : cells.length = 9 := by
 obtain ⟨_, _, _, _, _, _, _, _, _, rfl, _⟩ := h.open; rfl

theorem E3.len {G : IM} : ∀ {ts : List Ty} {es : List (List Value)}, E3 G ts es → es.length = ts.length
 | [], es, h => by simp only [E3] at h; subst h; rfl
 | t :: ts, es, h => by
  simp only [E3] at h
  obtain ⟨a, r, rfl, _, h3⟩ := h
  simp [h3.len]
theorem C6.len {G : IM} : ∀ {ts : List Tm} {es : List (List Value)}, C6 G ts es → es.length = ts.length
 | [], es, h => by simp only [C6] at h; subst h; rfl
 | t :: ts, es, h => by
  simp only [C6] at h
  obtain ⟨a, r, rfl, _, h3⟩ := h
  simp [h3.len]
theorem E3.get {G : IM} : ∀ {ts : List Ty} {es : List (List Value)}, E3 G ts es → ∀ {i : Nat} {t : Ty}, ts[i]? = some t → ∃ e, es[i]? = some e ∧ B3 G t e
 | [], es, h, i, t, hi => by simp at hi
 | t' :: ts, es, h, i, t, hi => by
  simp only [E3] at h
  obtain ⟨a, r, rfl, h2, h3⟩ := h
  cases i with
  | zero => simp at hi; subst hi; exact ⟨a, rfl, h2⟩
  | succ i => obtain ⟨e, he, hr⟩ := h3.get (i := i) (by simpa using hi); exact ⟨e, by simpa using he, hr⟩
theorem C6.get {G : IM} : ∀ {ts : List Tm} {es : List (List Value)}, C6 G ts es → ∀ {i : Nat} {t : Tm}, ts[i]? = some t → ∃ e, es[i]? = some e ∧ A7 G t e
 | [], es, h, i, t, hi => by simp at hi
 | t' :: ts, es, h, i, t, hi => by
  simp only [C6] at h
  obtain ⟨a, r, rfl, h2, h3⟩ := h
  cases i with
  | zero => simp at hi; subst hi; exact ⟨a, rfl, h2⟩
  | succ i => obtain ⟨e, he, hr⟩ := h3.get (i := i) (by simpa using hi); exact ⟨e, by simpa using he, hr⟩
theorem E3.all {G : IM} {ts : List Ty} {es : List (List Value)} (h : E3 G ts es) : ∀ e ∈ es, e.length = 2 := by
 intro e he
 obtain ⟨i, hi⟩ := List.getElem?_of_mem he
 have hlt : i < ts.length := by have := (List.getElem?_eq_some_iff.1 hi).1; rw [h.len] at this; exact this
 obtain ⟨e', he', hr⟩ := h.get (i := i) (t := ts[i]) (by simp [hlt])
 rw [hi] at he'; cases he'; exact hr.len
theorem C6.all {G : IM} {ts : List Tm} {es : List (List Value)} (h : C6 G ts es) : ∀ e ∈ es, e.length = 9 := by
 intro e he
 obtain ⟨i, hi⟩ := List.getElem?_of_mem he
 have hlt : i < ts.length := by have := (List.getElem?_eq_some_iff.1 hi).1; rw [h.len] at this; exact this
 obtain ⟨e', he', hr⟩ := h.get (i := i) (t := ts[i]) (by simp [hlt])
 rw [hi] at he'; cases he'; exact hr.len

theorem B3.one {G : IM} {t : Ty} {cells : List Value} (h : B3 G t cells) : cells.all (·.oneCell') = true := by
 obtain ⟨_, _, _, rfl, _⟩ := h.open; rfl
theorem A7.one {G : IM} {t : Tm} {cells : List Value} (h : A7 G t cells) : cells.all (·.oneCell') = true := by
 obtain ⟨_, _, _, _, _, _, _, _, _, rfl, _⟩ := h.open; rfl

theorem Ty.ind {C : Ty → Prop} (h : ∀ k ks, (∀ t ∈ ks, C t) → C (.mk k ks)) : ∀ t, C t
 | .mk k ks => h k ks fun t ht => Ty.ind h t
termination_by t => SizeOf.sizeOf t
decreasing_by
 have := List.sizeOf_lt_of_mem ht
 simp only [Ty.mk.sizeOf_spec]; omega
theorem Tm.ind {C : Tm → Prop} (h : ∀ k nm num ty fr lb ks, (∀ t ∈ ks, C t) → C (.mk k nm num ty fr lb ks)) : ∀ t, C t
 | .mk k nm num ty fr lb ks => h k nm num ty fr lb ks fun t ht => Tm.ind h t
termination_by t => SizeOf.sizeOf t
decreasing_by
 have := List.sizeOf_lt_of_mem ht
 simp only [Tm.mk.sizeOf_spec]; omega

def C1 (G' G : IM) : IM := fun b => match G b with | none => G' b | some _ => none
theorem C1.le (G' G : IM) : B6 (C1 G' G) G' := by
 intro b l h
 unfold C1 at h
 split at h
 ·exact h
 ·cases h
theorem C1.mono {G' G'' G : IM} (h : B6 G' G'') : B6 (C1 G' G) (C1 G'' G) := by
 intro b l hb
 unfold C1 at hb ⊢
 split at hb
 ·exact h b l hb
 ·cases hb
theorem C1.anti {G' G G0 : IM} (h : B6 G0 G) : B6 (C1 G' G) (C1 G' G0) := by
 intro b l hb
 unfold C1 at hb ⊢
 split at hb
 ·rename_i h0
  cases h1 : G0 b with
  | none => exact hb
  | some l' => rw [h b l' h1] at h0; cases h0
 ·cases hb
theorem C1.out {G' G : IM} {b : Nat} (h : C1 G' G b ≠ none) : G b = none := by
 unfold C1 at h
 split at h
 ·assumption
 ·exact absurd rfl h
theorem Sl.dif {G' G G0 : IM} {p : Option Addr} {n c sz : Nat} {cs : List Value} (h : Sl G' p n c sz cs) (hp : ∀ b ∈ J2 p, G b = none) (hle : B6 G0 G) : Sl (C1 G' G0) p n c sz cs := by
 obtain ⟨h1, h2, h3, h4⟩ := h
 refine ⟨h1, h2, h3, h4.imp id ?_⟩
 rintro ⟨b, o, full, rfl, e2, e3⟩
 refine ⟨b, o, full, rfl, ?_, e3⟩
 have hb := hp b (by simp [J2])
 have h0 : G0 b = none := by
  cases h1 : G0 b with
  | none => rfl
  | some l => rw [hle b l h1] at hb; cases hb
 simp [C1, h0, e2]

mutual
def O8 (G : IM) : Ty → List Value → List Nat → Prop
 | .mk k ks, cells, F => ∃ p c es Fs, cells = [.int .i64 k, .slice p ks.length c] ∧ F4 k ∧ C5 G p ks.length c 2 es ∧ M3 G ks es Fs ∧ F = J2 p ++ Fs ∧ (∀ b ∈ J2 p, G b ≠ none)
def M3 (G : IM) : List Ty → List (List Value) → List Nat → Prop
 | [], es, F => es = [] ∧ F = []
 | t :: ts, es, F => ∃ a r Fa Fr, es = a :: r ∧ O8 G t a Fa ∧ M3 G ts r Fr ∧ F = Fa ++ Fr
end
mutual
theorem O8.R {G : IM} : ∀ {t : Ty} {cells : List Value} {F : List Nat}, O8 G t cells F → B3 G t cells
 | .mk k ks, cells, F, h => by
  simp only [O8] at h
  obtain ⟨p, c, es, Fs, h1, h2, h3, h4, _⟩ := h
  simp only [B3]
  exact ⟨p, c, es, h1, h2, h3, M3.R h4⟩
theorem M3.R {G : IM} : ∀ {ts : List Ty} {es : List (List Value)} {F : List Nat}, M3 G ts es F → E3 G ts es
 | [], es, F, h => by simp only [M3] at h; simp only [E3]; exact h.1
 | t :: ts, es, F, h => by
  simp only [M3] at h
  obtain ⟨a, r, Fa, Fr, h1, h2, h3, _⟩ := h
  simp only [E3]
  exact ⟨a, r, h1, O8.R h2, M3.R h3⟩
end
mutual
theorem O8.mono {G G' : IM} (hg : B6 G G') : ∀ {t : Ty} {cells : List Value} {F : List Nat}, O8 G t cells F → O8 G' t cells F
 | .mk k ks, cells, F, h => by
  simp only [O8] at h ⊢
  obtain ⟨p, c, es, Fs, h1, h2, h3, h4, h5, h6⟩ := h
  exact ⟨p, c, es, Fs, h1, h2, h3.mono hg, M3.mono hg h4, h5, fun b hb => by cases hgb : G b with | none => exact absurd hgb (h6 b hb) | some l => rw [hg b l hgb]; simp⟩
theorem M3.mono {G G' : IM} (hg : B6 G G') : ∀ {ts : List Ty} {es : List (List Value)} {F : List Nat}, M3 G ts es F → M3 G' ts es F
 | [], es, F, h => by simpa only [M3] using h
 | t :: ts, es, F, h => by
  simp only [M3] at h ⊢
  obtain ⟨a, r, Fa, Fr, h1, h2, h3, h4⟩ := h
  exact ⟨a, r, Fa, Fr, h1, O8.mono hg h2, M3.mono hg h3, h4⟩
end
mutual
theorem O8.inG {G : IM} : ∀ {t : Ty} {cells : List Value} {F : List Nat}, O8 G t cells F → ∀ b ∈ F, G b ≠ none
 | .mk k ks, cells, F, h => by
  simp only [O8] at h
  obtain ⟨p, c, es, Fs, h1, h2, h3, h4, rfl, h6⟩ := h
  intro b hb
  rcases List.mem_append.1 hb with hb | hb
  ·exact h6 b hb
  ·exact M3.inG h4 b hb
theorem M3.inG {G : IM} : ∀ {ts : List Ty} {es : List (List Value)} {F : List Nat}, M3 G ts es F → ∀ b ∈ F, G b ≠ none
 | [], es, F, h => by simp only [M3] at h; rw [h.2]; simp
 | t :: ts, es, F, h => by
  simp only [M3] at h
  obtain ⟨a, r, Fa, Fr, h1, h2, h3, rfl⟩ := h
  intro b hb
  rcases List.mem_append.1 hb with hb | hb
  ·exact O8.inG h2 b hb
  ·exact M3.inG h3 b hb
end
theorem M3.snoc {G : IM} : ∀ {ts : List Ty} {es : List (List Value)} {F : List Nat} {t : Ty} {a : List Value} {Fa : List Nat}, M3 G ts es F → O8 G t a Fa → M3 G (ts ++ [t]) (es ++ [a]) (F ++ Fa)
 | [], es, F, t, a, Fa, h, h2 => by
  simp only [M3] at h
  obtain ⟨rfl, rfl⟩ := h
  simp only [List.nil_append, M3]
  exact ⟨a, [], Fa, [], rfl, h2, ⟨rfl, rfl⟩, by simp⟩
 | t' :: ts, es, F, t, a, Fa, h, h2 => by
  simp only [M3] at h
  obtain ⟨a', r, Fa', Fr, rfl, h3, h4, rfl⟩ := h
  simp only [List.cons_append, M3]
  exact ⟨a', r ++ [a], Fa', Fr ++ Fa, rfl, h3, M3.snoc h4 h2, by simp⟩

theorem C5.kidTy {G : IM} {p : Option Addr} {n c : Nat} {es : List (List Value)} {ks : List Ty} (h : C5 G p n c 2 es) (hk : E3 G ks es) {i : Nat} (hi : i < n) (hn : i < ks.length) :
  ∃ b o p2 c2, p = some ⟨b, o, none⟩ ∧ (∀ hp, At hp G b (o + i * 2) [.int .i64 ks[i].k, .slice p2 ks[i].ks.length c2]) ∧ B3 G ks[i] [.int .i64 ks[i].k, .slice p2 ks[i].ks.length c2] ∧ G b ≠ none := by
 obtain ⟨e, b, o, he, h1, h2, h3, h4, h5⟩ := h.get hi
 obtain ⟨e', he', hr⟩ := hk.get (i := i) (t := ks[i]) (by simp [hn])
 rw [he] at he'; cases he'
 obtain ⟨p2, c2, _, rfl, _⟩ := hr.open
 exact ⟨b, o, p2, c2, h1, h4, hr, h5⟩

theorem M3.step {G Gi G1 : IM} {ks : List Ty} {i : Nat} {es : List (List Value)} {F F' : List Nat} {a : List Value} (h : M3 (C1 Gi G) (ks.take i) es F) (hn : F.Nodup) (hle : B6 G Gi) (hle1 : B6 Gi G1) (hi : i < ks.length)
  (ha : O8 (C1 G1 Gi) ks[i] a F') (hn' : F'.Nodup) : M3 (C1 G1 G) (ks.take (i + 1)) (es ++ [a]) (F ++ F') ∧ (F ++ F').Nodup := by
 constructor
 ·rw [List.take_succ_eq_append_getElem hi]
  exact M3.snoc (h.mono (C1.mono hle1)) (ha.mono (C1.anti hle))
 ·rw [List.nodup_append]
  refine ⟨hn, hn', ?_⟩
  rintro x hx y hy rfl
  have h1 := h.inG x hx
  have h2 := C1.out (ha.inG x hy)
  apply h1
  cases hd : C1 Gi G x with
  | none => rfl
  | some l => rw [C1.le _ _ x l hd] at h2; cases h2
theorem O8.fin {G Gi G2 : IM} {k : Int} {ks : List Ty} {es : List (List Value)} {F : List Nat} {p : Option Addr} {c : Nat} (h : M3 (C1 Gi G) ks es F) (hn : F.Nodup) (hle : B6 G Gi) (hle2 : B6 Gi G2)
  (hsl : Sl G2 p ks.length c 2 es.flatten) (hnn : ∀ b ∈ J2 p, Gi b = none ∧ G2 b ≠ none) (hk : F4 k) :
  ∃ F', O8 (C1 G2 G) (.mk k ks) [.int .i64 k, .slice p ks.length c] F' ∧ F'.Nodup := by
 have hno := fun b hb => (hnn b hb).1
 have hin := fun b hb => (hnn b hb).2
 have hR := h.R
 refine ⟨J2 p ++ F, ?_, ?_⟩
 ·simp only [O8]
  refine ⟨p, c, es, F, rfl, hk, C5.of (hsl.dif hno hle) hR.len hR.all ?_, h.mono (C1.mono hle2), rfl, ?_⟩
  ·intro e he
   obtain ⟨i, hi⟩ := List.getElem?_of_mem he
   have hlt : i < ks.length := by have := (List.getElem?_eq_some_iff.1 hi).1; rw [hR.len] at this; exact this
   obtain ⟨e', he', hr⟩ := hR.get (i := i) (t := ks[i]) (by simp [hlt])
   rw [hi] at he'; cases he'; exact hr.one
  ·intro b hb
   have h0 := hno b hb
   cases hg : G b with
   | none => simpa [C1, hg] using hin b hb
   | some l => rw [hle b l hg] at h0; cases h0
 ·rw [List.nodup_append]
  refine ⟨by cases p <;> simp [J2], hn, ?_⟩
  rintro x hx y hy rfl
  have h1 := h.inG x hy
  have h2 := hno x hx
  apply h1
  cases hd : C1 Gi G x with
  | none => rfl
  | some l => rw [C1.le _ _ x l hd] at h2; cases h2

def A0v (q : Nat → Bool) (n : Nat) : Int := match (List.range n).find? q with | some i => i | none => -1
theorem A48 {q : Nat → Bool} {n : Nat} (h : ∀ j, j < n → q j = false) : A0v q n = -1 := by
 have : (List.range n).find? q = none := by
  rw [List.find?_eq_none]
  intro x hx
  rw [h x (List.mem_range.1 hx)]; simp
 simp [A0v, this]
theorem A62 {q : Nat → Bool} {n i : Nat} (hi : i < n) (h : ∀ j, j < i → q j = false) (hq : q i = true) : A0v q n = i := by
 have : (List.range n).find? q = some i := by
  rw [List.find?_eq_some_iff_append]
  refine ⟨hq, List.range i, (List.range n).drop (i + 1), ?_, ?_⟩
  ·apply List.ext_getElem?
   intro k
   simp only [List.getElem?_append, List.length_range, List.getElem?_range', List.getElem?_cons, List.getElem?_drop]
   by_cases h1 : k < i
   ·simp [h1, show k < n by omega]
   ·by_cases h2 : k = i
    ·subst h2; simp [hi]
    ·have h3 : k - i ≠ 0 := by omega
     simp only [h1, if_false, h3]
     rw [show i + 1 + (k - i - 1) = k by omega]
  ·intro a ha
   simp [h a (List.mem_range.1 ha)]
 simp [A0v, this]

def Q3 (n lo hi : Int) : Bool := decide (lo ≤ n ∧ n ≤ hi)
theorem A18 {n lo hi : Int} (h : Q3 n lo hi = true) : lo ≤ n ∧ n ≤ hi := by simpa [Q3] using h
theorem A49 {n lo hi : Int} (h : Q3 n lo hi = false) : ¬(lo ≤ n ∧ n ≤ hi) := by simpa [Q3] using h
def U6 (k : Int) : Int := if k = 1 ∨ k = 2 ∨ k = 3 then 0 else if k = 4 ∨ k = 5 then 2 else -1
theorem N1 (k : Int) : (k = 1 ∨ k = 2 ∨ k = 3 → U6 k = 0) ∧ (k = 4 ∨ k = 5 → U6 k = 2) ∧ (k ≠ 1 → k ≠ 2 → k ≠ 3 → k ≠ 4 → k ≠ 5 → U6 k = -1) := by
 unfold U6; split <;> try split
 all_goals omega
def E0 (k : Int) : Int := if k = 1 ∨ k = 2 ∨ k = 3 ∨ k = 4 then 0 else if k = 5 ∨ k = 11 ∨ k = 12 ∨ k = 13 ∨ k = 14 then 1 else if k = 6 ∨ k = 7 ∨ k = 8 ∨ k = 10 then 2 else if k = 9 then 3 else -1

mutual
def L6 : Ty → Int → Bool
 | .mk k ks, d => decide (d ≤ 4) && decide (U6 k = ks.length) && Z0 ks (d + 1)
def Z0 : List Ty → Int → Bool
 | [], _ => true
 | t :: ts, d => L6 t d && Z0 ts d
end
theorem A32 : ∀ (ts : List Ty) (d : Int), Z0 ts d = true ↔ ∀ i, (h : i < ts.length) → L6 ts[i] d = true
 | [], d => by simp [Z0]
 | t :: ts, d => by
  simp only [Z0, Bool.and_eq_true, A32 ts d]
  constructor
  ·rintro ⟨h1, h2⟩ i hi
   cases i with
   | zero => exact h1
   | succ i => exact h2 i (by simpa using hi)
  ·intro h
   exact ⟨h 0 (by simp), fun i hi => h (i + 1) (by simpa using hi)⟩
def M1 (t : Ty) : Bool := L6 t 1
def X2 (t : Ty) : Bool := decide (t.k = 0 ∧ t.ks.length = 0)

mutual
def O9 : Ty → Ty → Bool
 | .mk k ks, t => decide (k = 1) || decide (t.k = 1) || (decide (k = t.k) && U1 ks t.ks)
def U1 : List Ty → List Ty → Bool
 | [], [] => true
 | a :: xs, b :: ys => O9 a b && U1 xs ys
 | _, _ => false
end
theorem V2 (k k' : Int) (ks ks' : List Ty) : O9 (.mk k ks) (.mk k' ks') = (decide (k = 1) || decide (k' = 1) || (decide (k = k') && U1 ks ks')) := by rw [O9]; rfl
theorem A19 : ∀ (xs ys : List Ty), U1 xs ys = true ↔ xs.length = ys.length ∧ ∀ i, (h : i < xs.length) → (h' : i < ys.length) → O9 xs[i] ys[i] = true
 | [], [] => by simp [U1]
 | [], b :: ys => by simp [U1]
 | a :: xs, [] => by simp [U1]
 | a :: xs, b :: ys => by
  simp only [U1, Bool.and_eq_true, A19 xs ys, List.length_cons]
  constructor
  ·rintro ⟨h1, h2, h3⟩
   refine ⟨by omega, fun i hi hi' => ?_⟩
   cases i with
   | zero => exact h1
   | succ i => exact h3 i (by simpa using hi) (by simpa using hi')
  ·rintro ⟨h1, h2⟩
   exact ⟨h2 0 (by simp) (by simp), by omega, fun i hi hi' => h2 (i + 1) (by simpa using hi) (by simpa using hi')⟩
def A0D (a b : Ty) : Bool := M1 a && M1 b && O9 a b
def X3 (s : ByteArray) : Bool := decide (s.size = 1 ∧ 97 ≤ (s.data.getD 0 0).toNat ∧ (s.data.getD 0 0).toNat ≤ 122)
def Y3 (n : Int) : Bool := Q3 n 1 99 || Q3 n (-99) (-1)

theorem A33 {s : ByteArray} {j : Int} (h : j.toNat < s.size) : s[j.toNat]? = some (s.data.getD j.toNat 0) := by
 rw [getElem?_pos s j.toNat h]
 show some (s.data[j.toNat]'h) = _
 rw [Array.getD_eq_getD_getElem?, getElem?_pos s.data j.toNat h]
 rfl
theorem B0Z {q : Nat → Bool} {n : Nat} : A0v q n < 0 ↔ ∀ j, j < n → q j = false := by
 constructor
 ·intro h j hj
  unfold A0v at h
  split at h
  ·omega
  ·rename_i hf
   have := List.find?_eq_none.1 hf j (List.mem_range.2 hj)
   simpa using this
 ·intro h; rw [A48 h]; omega
theorem A63 {q : Nat → Bool} {n : Nat} : 0 ≤ A0v q n ↔ ∃ j, j < n ∧ q j = true := by
 have h := @B0Z q n
 constructor
 ·intro h0
  apply Classical.byContradiction
  intro hn
  have : A0v q n < 0 := h.2 fun j hj => by cases hq : q j with | false => rfl | true => exact absurd ⟨j, hj, hq⟩ hn
  omega
 ·rintro ⟨j, hj, hq⟩
  apply Classical.byContradiction
  intro hn
  rw [h.1 (by omega) j hj] at hq
  exact absurd hq (by simp)
theorem A64 {α : Type} (f : α → Bool) (ks : List α) (a : α) : decide (0 ≤ A0v (fun i => !f (ks.getD i a)) ks.length) = !ks.all f := by
 cases h : ks.all f with
 | true =>
  rw [List.all_eq_true] at h
  apply decide_eq_false
  rw [A63]
  rintro ⟨j, hj, hq⟩
  rw [List.getD_eq_getElem?_getD, List.getElem?_eq_getElem hj, Option.getD_some, h _ (List.getElem_mem hj)] at hq
  exact absurd hq (by simp)
 | false =>
  apply decide_eq_true
  rw [A63]
  apply Classical.byContradiction
  intro hn
  have : ks.all f = true := by
   rw [List.all_eq_true]
   intro x hx
   obtain ⟨j, hj, rfl⟩ := List.getElem_of_mem hx
   cases hf : f ks[j] with
   | true => rfl
   | false => exact absurd ⟨j, hj, by rw [List.getD_eq_getElem?_getD, List.getElem?_eq_getElem hj, Option.getD_some, hf]; rfl⟩ hn
  rw [h] at this
  exact absurd this (by simp)
theorem U7 : ∀ (ks : List Ty) (d : Int), Z0 ks d = ks.all (L6 · d)
 | [], d => rfl
 | t :: ts, d => by simp [Z0, U7 ts d]
theorem E3.inv {G : IM} : ∀ {ts : List Ty} {es : List (List Value)}, E3 G ts es → ∀ {i : Nat} {e : List Value}, es[i]? = some e → ∀ a, ts.getD i a ∈ ts ∧ B3 G (ts.getD i a) e
 | [], es, h, i, e, he, a => by
  have := h.len
  simp only [List.length_nil, List.length_eq_zero_iff] at this
  subst this; simp at he
 | t :: ts, es, h, i, e, he, a => by
  have hi : i < es.length := by
   apply Classical.byContradiction; intro hn; rw [List.getElem?_eq_none (by omega)] at he; simp at he
  have hl := h.len
  obtain ⟨e', he', hr⟩ := h.get (i := i) (t := (t :: ts)[i]'(by omega)) (by rw [List.getElem?_eq_getElem])
  rw [he] at he'
  obtain rfl := Option.some.inj he'
  rw [List.getD_eq_getElem?_getD, List.getElem?_eq_getElem (by omega), Option.getD_some]
  exact ⟨List.getElem_mem _, hr⟩
theorem C6.inv {G : IM} : ∀ {ts : List Tm} {es : List (List Value)}, C6 G ts es → ∀ {i : Nat} {e : List Value}, es[i]? = some e → ∀ a, ts.getD i a ∈ ts ∧ A7 G (ts.getD i a) e
 | [], es, h, i, e, he, a => by
  have := h.len
  simp only [List.length_nil, List.length_eq_zero_iff] at this
  subst this; simp at he
 | t :: ts, es, h, i, e, he, a => by
  have hi : i < es.length := by
   apply Classical.byContradiction; intro hn; rw [List.getElem?_eq_none (by omega)] at he; simp at he
  have hl := h.len
  obtain ⟨e', he', hr⟩ := h.get (i := i) (t := (t :: ts)[i]'(by omega)) (by rw [List.getElem?_eq_getElem])
  rw [he] at he'
  obtain rfl := Option.some.inj he'
  rw [List.getD_eq_getElem?_getD, List.getElem?_eq_getElem (by omega), Option.getD_some]
  exact ⟨List.getElem_mem _, hr⟩
def B1 : Ty := .mk 0 []
theorem B00 {p : Prop} [Decidable p] {x y : Bool} : ((if p then x else y) = true) ↔ ((p → x = true) ∧ (¬p → y = true)) := by by_cases h : p <;> simp [h]
theorem B01 {k : Int} (h : 1 ≤ k ∧ k ≤ 14) : ([Value.int .i64 0, .int .i64 0, .int .i64 0, .int .i64 0, .int .i64 1, .int .i64 2, .int .i64 2, .int .i64 2, .int .i64 3, .int .i64 2, .int .i64 1, .int .i64 1, .int .i64 1, .int .i64 1])[(k - 1).toNat]? = some (.int .i64 (E0 k)) := by
 have : k = 1 ∨ k = 2 ∨ k = 3 ∨ k = 4 ∨ k = 5 ∨ k = 6 ∨ k = 7 ∨ k = 8 ∨ k = 9 ∨ k = 10 ∨ k = 11 ∨ k = 12 ∨ k = 13 ∨ k = 14 := by omega
 rcases this with rfl | rfl | rfl | rfl | rfl | rfl | rfl | rfl | rfl | rfl | rfl | rfl | rfl | rfl <;> rfl
theorem A3i {k : Int} (h : ¬(1 ≤ k ∧ k ≤ 14)) : E0 k = -1 := by
 unfold E0; repeat (split; omega)
 rfl
theorem B02 {cs : List Value} {o : Nat} {v : Value} (h : cs[o]? = some v) : ∀ j u, [v][j]? = some u → cs[o + j]? = some u := by
 intro j u hj
 cases j with
 | zero => simpa using hj ▸ h
 | succ j => simp at hj
def U8 (k : Int) (nm : ByteArray) (num : Int) (ty fr : Ty) (lb : Int) (n : Nat) : Bool :=
 decide (E0 k = n) && (if k = 1 ∨ k = 5 then X3 nm else decide (nm = ⟨#[]⟩)) && (if k = 2 then Q3 num 0 999 else Q3 num 0 0) &&
 (if k = 5 ∨ k = 13 ∨ k = 14 then M1 ty else X2 ty) && (if k = 14 then A0D fr ty && Y3 lb else X2 fr && decide (lb = 0))
theorem V7 {k : Int} {nm : ByteArray} {num : Int} {ty fr : Ty} {lb : Int} {n : Nat} : U8 k nm num ty fr lb n = true ↔
  E0 k = n ∧ (k = 1 ∨ k = 5 → X3 nm = true) ∧ (¬(k = 1 ∨ k = 5) → nm = ⟨#[]⟩) ∧ (k = 2 → Q3 num 0 999 = true) ∧ (k ≠ 2 → Q3 num 0 0 = true) ∧
  (k = 5 ∨ k = 13 ∨ k = 14 → M1 ty = true) ∧ (¬(k = 5 ∨ k = 13 ∨ k = 14) → X2 ty = true) ∧ (k = 14 → A0D fr ty = true ∧ Y3 lb = true) ∧ (k ≠ 14 → X2 fr = true ∧ lb = 0) := by
 simp only [U8, Bool.and_eq_true, B00, decide_eq_true_eq, and_assoc, ne_eq]
mutual
def S0 (M D N : Int) : Tm → Int → Int → Bool × Int
 | .mk k nm num ty fr lb ks, deep, c => if c + 1 > M ∨ deep > D ∨ k = N ∨ U8 k nm num ty fr lb ks.length = false then (false, c + 1) else T6 M D N ks (deep + 1) (c + 1)
def T6 (M D N : Int) : List Tm → Int → Int → Bool × Int
 | [], _, c => (true, c)
 | t :: ts, deep, c => if (S0 M D N t deep c).1 = true then T6 M D N ts deep (S0 M D N t deep c).2 else (false, (S0 M D N t deep c).2)
end
mutual
theorem A5a (M D N : Int) : ∀ (t : Tm) (deep c : Int), 0 ≤ c → c ≤ M → c < (S0 M D N t deep c).2 ∧ (S0 M D N t deep c).2 ≤ M + 1 ∧ ((S0 M D N t deep c).1 = true → (S0 M D N t deep c).2 ≤ M)
 | .mk k nm num ty fr lb ks, deep, c, h0, h1 => by
  rw [S0]
  split
  ·simp; omega
  ·rename_i h
   have := A65 M D N ks (deep + 1) (c + 1) (by omega) (by omega)
   exact ⟨by omega, this.2⟩
theorem A65 (M D N : Int) : ∀ (ts : List Tm) (deep c : Int), 0 ≤ c → c ≤ M → c ≤ (T6 M D N ts deep c).2 ∧ (T6 M D N ts deep c).2 ≤ M + 1 ∧ ((T6 M D N ts deep c).1 = true → (T6 M D N ts deep c).2 ≤ M)
 | [], deep, c, h0, h1 => by rw [T6]; simp; omega
 | t :: ts, deep, c, h0, h1 => by
  have := A5a M D N t deep c h0 h1
  rw [T6]
  split
  ·rename_i h
   have h2 := A65 M D N ts deep (S0 M D N t deep c).2 (by omega) (this.2.2 h)
   exact ⟨by omega, h2.2⟩
  ·simp; omega
end
def I2 (t : Tm) : Bool := (S0 200 40 13 t 1 0).1
def A0E (t : Tm) : Bool := (S0 30 12 14 t 1 0).1
theorem C5.kidTm {G : IM} {p : Option Addr} {n c : Nat} {es : List (List Value)} {ks : List Tm} (h : C5 G p n c 9 es) (hk : C6 G ks es) {i : Nat} (hi : i < n) (hn : i < ks.length) :
  ∃ b o e, p = some ⟨b, o, none⟩ ∧ e.length = 9 ∧ (∀ hp, At hp G b (o + i * 9) e) ∧ A7 G ks[i] e ∧ G b ≠ none := by
 obtain ⟨e, b, o, he, hp, hl, _, hat, hg⟩ := h.get hi
 have := (hk.inv he (ks[i])).2
 rw [List.getD_eq_getElem?_getD, List.getElem?_eq_getElem hn, Option.getD_some] at this
 exact ⟨b, o, e, hp, hl, hat, this, hg⟩
theorem A34 {M D N : Int} {k : Int} {nm : ByteArray} {num : Int} {ty fr : Ty} {lb : Int} {ks : List Tm} {deep c : Int} (h : c + 1 > M ∨ deep > D ∨ k = N ∨ U8 k nm num ty fr lb ks.length = false) :
  S0 M D N (.mk k nm num ty fr lb ks) deep c = (false, c + 1) := by rw [S0, if_pos h]
theorem B03 {M D N : Int} {k : Int} {nm : ByteArray} {num : Int} {ty fr : Ty} {lb : Int} {ks : List Tm} {deep c : Int} (h1 : ¬(c + 1 > M ∨ deep > D ∨ k = N)) (h2 : U8 k nm num ty fr lb ks.length = true) :
  S0 M D N (.mk k nm num ty fr lb ks) deep c = T6 M D N ks (deep + 1) (c + 1) := by
 rw [S0, if_neg]
 rw [h2]
 intro h
 apply h1
 rcases h with h | h | h | h
 ·exact .inl h
 ·exact .inr (.inl h)
 ·exact .inr (.inr h)
 ·cases h
theorem B04 {M D N : Int} {ks : List Tm} {i : Nat} {deep c : Int} (hi : i < ks.length) (h : (S0 M D N ks[i] deep c).1 = true) : T6 M D N (ks.drop i) deep c = T6 M D N (ks.drop (i + 1)) deep (S0 M D N ks[i] deep c).2 := by
 rw [List.drop_eq_getElem_cons hi, T6, if_pos h]
theorem B05 {M D N : Int} {ks : List Tm} {i : Nat} {deep c : Int} (hi : i < ks.length) (h : (S0 M D N ks[i] deep c).1 = false) : T6 M D N (ks.drop i) deep c = (false, (S0 M D N ks[i] deep c).2) := by
 rw [List.drop_eq_getElem_cons hi, T6, if_neg (by rw [h]; simp)]
theorem B06 {M D N : Int} {ks : List Tm} {i : Nat} {deep c : Int} (hi : i = ks.length) : T6 M D N (ks.drop i) deep c = (true, c) := by
 rw [hi, List.drop_length, T6]
section blk
variable {P : Program} {Γ : L7} {env : M2} {hp : List A4} {G : IM} {K : Po} {ops : Array Oper} {rest : List Oper}
end blk

theorem A5b : ∀ {A B C V : List Value} {o : Nat}, A.length = o → B.length = V.length → R1 (A ++ (B ++ C)) o V = some (A ++ (V ++ C))
 | [], B, C, V, o, h, hv => by
  simp at h; subst h
  simp only [List.nil_append]
  induction B generalizing V with
  | nil => cases V with
   | nil => cases C <;> rfl
   | cons v V => simp at hv
  | cons b B ih => cases V with
   | nil => simp at hv
   | cons v V =>
    simp only [List.cons_append, R1, ih (V := V) (by simpa using hv)]
 | a :: A, B, C, V, o, h, hv => by
  simp at h; subst h
  simp only [List.cons_append, R1, A5b (A := A) (B := B) (C := C) rfl hv]
theorem A0U {sz : Nat} : ∀ {es : List (List Value)}, (∀ e ∈ es, e.length = sz) → es.flatten.length = es.length * sz
 | [], _ => by simp
 | e :: es, h => by
  rw [List.flatten_cons, List.length_append, h e List.mem_cons_self, A0U (es := es) fun x hx => h x (List.mem_cons_of_mem _ hx), List.length_cons, Nat.succ_mul]; omega
def A66 (G : IM) (ks : List Ty) (p : Option Addr) (c : Nat) (F : List Nat) : Prop := ∃ es Fs, C5 G p ks.length c 2 es ∧ M3 G ks es Fs ∧ F = J2 p ++ Fs ∧ (∀ b ∈ J2 p, G b ≠ none)
theorem O8.open {G : IM} {t : Ty} {cells : List Value} {F : List Nat} (h : O8 G t cells F) : ∃ p c, cells = [.int .i64 t.k, .slice p t.ks.length c] ∧ F4 t.k ∧ A66 G t.ks p c F := by
 cases t
 simp only [O8] at h
 obtain ⟨p, c, es, Fs, h0, hk, h1, h2, h3, h4⟩ := h
 exact ⟨p, c, h0, hk, es, Fs, h1, h2, h3, h4⟩
mutual
def P7 (G : IM) : Tm → List Value → List Nat → Prop
 | .mk k nm num ty fr lb ks, cells, F => ∃ tc fc p c es Ft Ff Fs, cells = [.int .i64 k, .string nm, .int .i64 num] ++ tc ++ fc ++ [.int .i64 lb, .slice p ks.length c] ∧ F4 k ∧ F4 num ∧ F4 lb ∧ O8 G ty tc Ft ∧ O8 G fr fc Ff ∧
   C5 G p ks.length c 9 es ∧ O1 G ks es Fs ∧ F = Ft ++ (Ff ++ (J2 p ++ Fs)) ∧ (∀ b ∈ J2 p, G b ≠ none)
def O1 (G : IM) : List Tm → List (List Value) → List Nat → Prop
 | [], es, F => es = [] ∧ F = []
 | t :: ts, es, F => ∃ a r Fa Fr, es = a :: r ∧ P7 G t a Fa ∧ O1 G ts r Fr ∧ F = Fa ++ Fr
end
def A2a (G : IM) (ks : List Tm) (p : Option Addr) (c : Nat) (F : List Nat) : Prop := ∃ es Fs, C5 G p ks.length c 9 es ∧ O1 G ks es Fs ∧ F = J2 p ++ Fs ∧ (∀ b ∈ J2 p, G b ≠ none)
mutual
theorem P7.R {G : IM} : ∀ {t : Tm} {cells : List Value} {F : List Nat}, P7 G t cells F → A7 G t cells
 | .mk k nm num ty fr lb ks, cells, F, h => by
  simp only [P7] at h
  obtain ⟨tc, fc, p, c, es, Ft, Ff, Fs, h1, h2, h3, h4, h5, h6, h7, h8, _⟩ := h
  simp only [A7]
  exact ⟨tc, fc, p, c, es, h1, h2, h3, h4, h5.R, h6.R, h7, O1.R h8⟩
theorem O1.R {G : IM} : ∀ {ts : List Tm} {es : List (List Value)} {F : List Nat}, O1 G ts es F → C6 G ts es
 | [], es, F, h => by simp only [O1] at h; simp only [C6]; exact h.1
 | t :: ts, es, F, h => by
  simp only [O1] at h
  obtain ⟨a, r, Fa, Fr, h1, h2, h3, _⟩ := h
  simp only [C6]
  exact ⟨a, r, h1, P7.R h2, O1.R h3⟩
end
theorem A2D {G G' : IM} (hg : B6 G G') {F : List Nat} (h : ∀ b ∈ F, G b ≠ none) : ∀ b ∈ F, G' b ≠ none := fun b hb => by
 cases hgb : G b with
 | none => exact absurd hgb (h b hb)
 | some l => rw [hg b l hgb]; simp
mutual
theorem P7.mono {G G' : IM} (hg : B6 G G') : ∀ {t : Tm} {cells : List Value} {F : List Nat}, P7 G t cells F → P7 G' t cells F
 | .mk k nm num ty fr lb ks, cells, F, h => by
  simp only [P7] at h ⊢
  obtain ⟨tc, fc, p, c, es, Ft, Ff, Fs, h1, h2, h3, h4, h5, h6, h7, h8, h9, h10⟩ := h
  exact ⟨tc, fc, p, c, es, Ft, Ff, Fs, h1, h2, h3, h4, h5.mono hg, h6.mono hg, h7.mono hg, O1.mono hg h8, h9, A2D hg h10⟩
theorem O1.mono {G G' : IM} (hg : B6 G G') : ∀ {ts : List Tm} {es : List (List Value)} {F : List Nat}, O1 G ts es F → O1 G' ts es F
 | [], es, F, h => by simpa only [O1] using h
 | t :: ts, es, F, h => by
  simp only [O1] at h ⊢
  obtain ⟨a, r, Fa, Fr, h1, h2, h3, h4⟩ := h
  exact ⟨a, r, Fa, Fr, h1, P7.mono hg h2, O1.mono hg h3, h4⟩
end
mutual
theorem P7.inG {G : IM} : ∀ {t : Tm} {cells : List Value} {F : List Nat}, P7 G t cells F → ∀ b ∈ F, G b ≠ none
 | .mk k nm num ty fr lb ks, cells, F, h => by
  simp only [P7] at h
  obtain ⟨tc, fc, p, c, es, Ft, Ff, Fs, h1, h2, h3, h4, h5, h6, h7, h8, rfl, h10⟩ := h
  intro b hb
  simp only [List.mem_append] at hb
  rcases hb with hb | hb | hb | hb
  ·exact h5.inG b hb
  ·exact h6.inG b hb
  ·exact h10 b hb
  ·exact O1.inG h8 b hb
theorem O1.inG {G : IM} : ∀ {ts : List Tm} {es : List (List Value)} {F : List Nat}, O1 G ts es F → ∀ b ∈ F, G b ≠ none
 | [], es, F, h => by simp only [O1] at h; rw [h.2]; simp
 | t :: ts, es, F, h => by
  simp only [O1] at h
  obtain ⟨a, r, Fa, Fr, h1, h2, h3, rfl⟩ := h
  intro b hb
  rcases List.mem_append.1 hb with hb | hb
  ·exact P7.inG h2 b hb
  ·exact O1.inG h3 b hb
end
theorem O1.snoc {G : IM} : ∀ {ts : List Tm} {es : List (List Value)} {F : List Nat} {t : Tm} {a : List Value} {Fa : List Nat}, O1 G ts es F → P7 G t a Fa → O1 G (ts ++ [t]) (es ++ [a]) (F ++ Fa)
 | [], es, F, t, a, Fa, h, h2 => by
  simp only [O1] at h
  obtain ⟨rfl, rfl⟩ := h
  simp only [List.nil_append, O1]
  exact ⟨a, [], Fa, [], rfl, h2, ⟨rfl, rfl⟩, by simp⟩
 | t' :: ts, es, F, t, a, Fa, h, h2 => by
  simp only [O1] at h
  obtain ⟨a', r, Fa', Fr, rfl, h3, h4, rfl⟩ := h
  simp only [List.cons_append, O1]
  exact ⟨a', r ++ [a], Fa', Fr ++ Fa, rfl, h3, O1.snoc h4 h2, by simp⟩
theorem A2b {G Gi : IM} {F F' : List Nat} {G1 : IM} (h : ∀ b ∈ F, C1 Gi G b ≠ none) (h' : ∀ b ∈ F', C1 G1 Gi b ≠ none) : ∀ x ∈ F, ∀ y ∈ F', x ≠ y := by
 rintro x hx y hy rfl
 have h1 := h x hx
 have h2 := C1.out (h' x hy)
 apply h1
 cases hd : C1 Gi G x with
 | none => rfl
 | some l => rw [C1.le _ _ x l hd] at h2; cases h2
theorem O1.step {G Gi G1 : IM} {ks : List Tm} {i : Nat} {es : List (List Value)} {F F' : List Nat} {a : List Value} (h : O1 (C1 Gi G) (ks.take i) es F) (hn : F.Nodup) (hle : B6 G Gi) (hle1 : B6 Gi G1) (hi : i < ks.length)
  (ha : P7 (C1 G1 Gi) ks[i] a F') (hn' : F'.Nodup) : O1 (C1 G1 G) (ks.take (i + 1)) (es ++ [a]) (F ++ F') ∧ (F ++ F').Nodup := by
 constructor
 ·rw [List.take_succ_eq_append_getElem hi]
  exact O1.snoc (h.mono (C1.mono hle1)) (ha.mono (C1.anti hle))
 ·rw [List.nodup_append]
  exact ⟨hn, hn', A2b h.inG ha.inG⟩
theorem B07 (p : Option Addr) : (J2 p).Nodup := by cases p <;> simp [J2]
theorem A2a.fin {G Gi G2 : IM} {ks : List Tm} {es : List (List Value)} {F : List Nat} {p : Option Addr} {c : Nat} (h : O1 (C1 Gi G) ks es F) (hn : F.Nodup) (hle : B6 G Gi) (hle2 : B6 Gi G2)
  (hsl : Sl G2 p ks.length c 9 es.flatten) (hnn : ∀ b ∈ J2 p, Gi b = none ∧ G2 b ≠ none) :
  ∃ F', A2a (C1 G2 G) ks p c F' ∧ F'.Nodup := by
 have hR := h.R
 have hin : ∀ b ∈ J2 p, C1 G2 G b ≠ none := by
  intro b hb
  have h0 := (hnn b hb).1
  cases hg : G b with
  | none => simpa [C1, hg] using (hnn b hb).2
  | some l => rw [hle b l hg] at h0; cases h0
 refine ⟨J2 p ++ F, ⟨es, F, C5.of (hsl.dif (fun b hb => (hnn b hb).1) hle) hR.len hR.all ?_, h.mono (C1.mono hle2), rfl, hin⟩, ?_⟩
 ·intro e he
  obtain ⟨i, hi⟩ := List.getElem?_of_mem he
  have hlt : i < ks.length := by have := (List.getElem?_eq_some_iff.1 hi).1; rw [hR.len] at this; exact this
  obtain ⟨e', he', hr⟩ := hR.get (i := i) (t := ks[i]) (by simp [hlt])
  rw [hi] at he'; cases he'; exact hr.one
 ·rw [List.nodup_append]
  refine ⟨B07 p, hn, ?_⟩
  rintro x hx y hy rfl
  have h1 := h.inG x hy
  have h2 := (hnn x hx).1
  apply h1
  cases hd : C1 Gi G x with
  | none => rfl
  | some l => rw [C1.le _ _ x l hd] at h2; cases h2
theorem P7.mk3 {G G1 G2 G3 : IM} {k : Int} {nm : ByteArray} {num : Int} {ty fr : Ty} {lb : Int} {ks : List Tm} {tc fc : List Value} {p : Option Addr} {c : Nat} {F1 F2 F3 : List Nat} (hk : F4 k) (hnum : F4 num) (hlb : F4 lb)
  (hl1 : B6 G G1) (hl2 : B6 G1 G2) (hl3 : B6 G2 G3) (h1 : O8 (C1 G1 G) ty tc F1) (n1 : F1.Nodup) (h2 : O8 (C1 G2 G1) fr fc F2) (n2 : F2.Nodup) (h3 : A2a (C1 G3 G2) ks p c F3) (n3 : F3.Nodup) :
  ∃ F, P7 (C1 G3 G) (.mk k nm num ty fr lb ks) ([.int .i64 k, .string nm, .int .i64 num] ++ tc ++ fc ++ [.int .i64 lb, .slice p ks.length c]) F ∧ F.Nodup := by
 obtain ⟨es, Fs, e1, e2, rfl, e4⟩ := h3
 have i3 : ∀ b ∈ J2 p ++ Fs, C1 G3 G2 b ≠ none := by
  intro b hb
  rcases List.mem_append.1 hb with hb | hb
  ·exact e4 b hb
  ·exact e2.inG b hb
 have a2 : B6 (C1 G2 G1) (C1 G3 G) := fun b l h => C1.mono hl3 b l (C1.anti hl1 b l h)
 have a3 : B6 (C1 G3 G2) (C1 G3 G) := C1.anti (hl1.trans hl2)
 refine ⟨F1 ++ (F2 ++ (J2 p ++ Fs)), ?_, ?_⟩
 ·simp only [P7]
  exact ⟨tc, fc, p, c, es, F1, F2, Fs, rfl, hk, hnum, hlb, h1.mono (C1.mono (hl2.trans hl3)), h2.mono a2, e1.mono a3, e2.mono a3, rfl, A2D a3 e4⟩
 ·rw [List.nodup_append, List.nodup_append]
  refine ⟨n1, ⟨n2, n3, A2b h2.inG i3⟩, ?_⟩
  rintro x hx y hy rfl
  rcases List.mem_append.1 hy with hy | hy
  ·exact A2b h1.inG h2.inG x hx x hy rfl
  ·have h1' : ∀ b ∈ F1, C1 G2 G b ≠ none := A2D (C1.mono hl2) h1.inG
   exact A2b h1' i3 x hx x hy rfl
section clawss
variable {P : Program} {Γ : L7} {env : M2} {hp : List A4} {G : IM} {ty : TypeId}
theorem A67 {x y : Operand} {t t' : TypeId} {m n : Nat} (hx : evo env x = some (.int .i64 (m : Int))) (hy : evo env y = some (.int .i64 (n : Int))) (hn : 0 < n) :
  J1 P Γ ⟨env, hp, G⟩ (.binOp .rem t x y t') ty (.int .i64 ((m % n : Nat) : Int)) := by
 have h := A3c (P := P) (Γ := Γ) (hp := hp) (G := G) (ty := ty) (t := t) (t' := t') hx hy (by omega)
 rwa [show ((m : Int).tmod n) = ((m % n : Nat) : Int) from rfl] at h
theorem A68 {x y : Operand} {t t' : TypeId} {m n : Nat} (hx : evo env x = some (.int .i64 (m : Int))) (hy : evo env y = some (.int .i64 (n : Int))) (hn : 0 < n) (hm : m ≤ 9223372036854775807) :
  J1 P Γ ⟨env, hp, G⟩ (.binOp .quo t x y t') ty (.int .i64 ((m / n : Nat) : Int)) := by
 have hd : m / n ≤ m := Nat.div_le_self _ _
 have e : ((m : Int).tdiv n) = ((m / n : Nat) : Int) := rfl
 have h := B0o (P := P) (Γ := Γ) (hp := hp) (G := G) (ty := ty) (t := t) (t' := t') hx hy (by omega) (by rw [e]; generalize m / n = q at *; omega) (by rw [e]; generalize m / n = q at *; omega)
 rwa [e] at h
end clawss
def dgi (k : Nat) : Int := 48 + ((k % 10 : Nat) : Int)
def A69 : Nat → Nat → ByteArray → ByteArray
 | 0, _, out => out
 | f + 1, k, out => if 0 < k then A69 f (k / 10) (strOfNums [dgi k] ++ out) else out
def B08 (k : Nat) : ByteArray := ⟨#[109]⟩ ++ A69 20 k ⟨⟨[]⟩⟩
def S4 (l : List Int) : List Value := l.map (Value.int .i64 ·)
theorem A7a (l : List Int) : (S4 l).length = l.length := by simp [S4]
theorem B09 (l : List Int) (i : Int) : S4 (l ++ [i]) = S4 l ++ [.int .i64 i] := by simp [S4]
mutual
def C7 : Tm → Nat
 | .mk _ _ _ _ _ _ ks => E5 ks + 1
def E5 : List Tm → Nat
 | [] => 0
 | t :: ts => C7 t + E5 ts
end
mutual
def A35 : Tm → List Int → List (List Int)
 | .mk _ _ _ _ _ _ ks, path => path :: A7b ks 0 path
def A7b : List Tm → Nat → List Int → List (List Int)
 | [], _, _ => []
 | t :: ts, i, path => A35 t (path ++ [(i : Int)]) ++ A7b ts (i + 1) path
end
theorem A7c : ∀ {ks : List Tm} {t : Tm}, t ∈ ks → C7 t ≤ E5 ks
 | [], t, h => by simp at h
 | t' :: ts, t, h => by
  rw [E5]
  rcases List.mem_cons.1 h with rfl | h
  ·omega
  ·have := A7c h; omega
theorem A36 : ∀ (a b : List Tm), E5 (a ++ b) = E5 a + E5 b
 | [], b => by simp [E5]
 | t :: a, b => by rw [List.cons_append, E5, E5, A36 a b]; omega
theorem A2c {ks : List Tm} {i : Nat} (hi : i < ks.length) : E5 (ks.take i) + C7 ks[i] ≤ E5 ks := by
 have h := A36 (ks.take (i + 1)) (ks.drop (i + 1))
 rw [List.take_append_drop, List.take_succ_eq_append_getElem hi, A36] at h
 simp only [E5] at h
 omega
theorem A2E {ks : List Tm} {i : Nat} (hi : i < ks.length) : E5 (ks.take (i + 1)) = E5 (ks.take i) + C7 ks[i] := by
 rw [List.take_succ_eq_append_getElem hi, A36]
 simp only [E5]; omega
theorem Sl.nn {G : IM} {p : Option Addr} {n c sz : Nat} {cs : List Value} (h : Sl G p n c sz cs) : p = none → n = 0 := by
 rintro rfl
 rcases h.2.2.2 with h | ⟨b, o, full, h, _⟩
 ·exact h
 ·cases h
def SPs (G : IM) : List (List Int) → List Value → List Nat → Prop
 | [], es, F => es = [] ∧ F = []
 | l :: ls, es, F => ∃ p c r Fr, es = .slice p l.length c :: r ∧ F = J2 p ++ Fr ∧ Sl G p l.length c 1 (S4 l) ∧ (∀ b ∈ J2 p, G b ≠ none) ∧ (p = none → l.length = 0) ∧ SPs G ls r Fr
def RPs (G : IM) (ls : List (List Int)) (p : Option Addr) (c : Nat) : Prop := ∃ es F, Sl G p ls.length c 1 es ∧ (∀ b ∈ J2 p, G b ≠ none) ∧ SPs G ls es F ∧ (J2 p ++ F).Nodup
mutual
theorem A5c (M D N : Int) : ∀ (t : Tm) (deep c : Int), (S0 M D N t deep c).1 = true → (S0 M D N t deep c).2 = c + C7 t
 | .mk k nm num ty fr lb ks, deep, c, h => by
  rw [S0] at h ⊢
  split at h
  ·cases h
  ·rename_i hc
   rw [if_neg hc, A7d M D N ks (deep + 1) (c + 1) h, C7]
   omega
theorem A7d (M D N : Int) : ∀ (ts : List Tm) (deep c : Int), (T6 M D N ts deep c).1 = true → (T6 M D N ts deep c).2 = c + E5 ts
 | [], deep, c, h => by rw [T6, E5]; simp
 | t :: ts, deep, c, h => by
  rw [T6] at h ⊢
  split at h
  ·rename_i h1
   rw [if_pos h1, A7d M D N ts deep _ h, A5c M D N t deep c h1, E5]
   omega
  ·cases h
end
theorem B1a {t : Tm} (h : I2 t = true) : C7 t ≤ 200 := by
 have h1 := A5c 200 40 13 t 1 0 h
 have h2 := (A5a 200 40 13 t 1 0 (by omega) (by omega)).2.2 h
 omega
def B1b (t : Tm) : List (List Int) := if I2 t = true then A35 t [] else []
section slaws
variable {P : Program} {Γ : L7} {env : M2} {hp : List A4} {G : IM} {ty : TypeId}
end slaws
theorem Sl.kid {G : IM} {p : Option Addr} {n c : Nat} {cs : List Value} (h : Sl G p n c 1 cs) {i : Nat} (hi : i < n) :
  ∃ b o v, p = some ⟨b, o, none⟩ ∧ cs[i]? = some v ∧ (∀ hp, At hp G b (o + i * 1) [v]) ∧ G b ≠ none := by
 obtain ⟨h1, h2, h3, h4⟩ := h
 obtain ⟨b, o, full, rfl, hg, hv⟩ := h4.resolve_left (by omega)
 have hlt : i < cs.length := by omega
 refine ⟨b, o, cs[i], rfl, List.getElem?_eq_getElem hlt, fun hp => A3Q hg ?_, by rw [hg]; simp⟩
 intro j v hj
 cases j with
 | zero => simp at hj; subst hj; simpa using hv i _ (List.getElem?_eq_getElem hlt)
 | succ j => simp at hj
theorem Sl.le {G : IM} {p : Option Addr} {n c sz : Nat} {cs : List Value} (h : Sl G p n c sz cs) : n ≤ 9223372036854775807 := by
 have h1 := h.2.1; have h2 := h.2.2.1; unfold maxLen at h2; omega


abbrev A0V := List (Nat × List Value)

mutual
def OTy : Ty → List Value → A0V → Prop
 | .mk k ks, cells, bs => ∃ p c, cells = [.int .i64 k, .slice p ks.length c] ∧ F4 k ∧ ks.length ≤ c ∧ c ≤ maxLen ∧ ((ks = [] ∧ bs = []) ∨ ∃ b A C es r, p = some ⟨b, A.length, none⟩ ∧ bs = (b, A ++ (es.flatten ++ C)) :: r ∧ A5d ks es r)
def A5d : List Ty → List (List Value) → A0V → Prop
 | [], es, bs => es = [] ∧ bs = []
 | t :: ts, es, bs => ∃ e e' r1 r2, es = e :: e' ∧ bs = r1 ++ r2 ∧ OTy t e r1 ∧ A5d ts e' r2
end
def A7e (ks : List Ty) (p : Option Addr) (c : Nat) (bs : A0V) : Prop :=
 ks.length ≤ c ∧ c ≤ maxLen ∧ ((ks = [] ∧ bs = []) ∨ ∃ b A C es r, p = some ⟨b, A.length, none⟩ ∧ bs = (b, A ++ (es.flatten ++ C)) :: r ∧ A5d ks es r)
mutual
def OTm : Tm → List Value → A0V → Prop
 | .mk k nm num ty fr lb ks, cells, bs => ∃ tc fc p c bt bf bk, cells = [.int .i64 k, .string nm, .int .i64 num] ++ tc ++ fc ++ [.int .i64 lb, .slice p ks.length c] ∧ F4 k ∧ F4 num ∧ F4 lb ∧ OTy ty tc bt ∧ OTy fr fc bf ∧
   ks.length ≤ c ∧ c ≤ maxLen ∧ ((ks = [] ∧ bk = []) ∨ ∃ b A C es r, p = some ⟨b, A.length, none⟩ ∧ bk = (b, A ++ (es.flatten ++ C)) :: r ∧ A5e ks es r) ∧ bs = bt ++ (bf ++ bk)
def A5e : List Tm → List (List Value) → A0V → Prop
 | [], es, bs => es = [] ∧ bs = []
 | t :: ts, es, bs => ∃ e e' r1 r2, es = e :: e' ∧ bs = r1 ++ r2 ∧ OTm t e r1 ∧ A5e ts e' r2
end
def B1c (ks : List Tm) (p : Option Addr) (c : Nat) (bs : A0V) : Prop :=
 ks.length ≤ c ∧ c ≤ maxLen ∧ ((ks = [] ∧ bs = []) ∨ ∃ b A C es r, p = some ⟨b, A.length, none⟩ ∧ bs = (b, A ++ (es.flatten ++ C)) :: r ∧ A5e ks es r)
mutual
def A7f : Ty → Int
 | .mk _ ks => 1 + Z1 ks
def Z1 : List Ty → Int
 | [] => 0
 | t :: ts => A7f t + Z1 ts
end
mutual
def B1d : Ty → Int → Ty
 | .mk _ ks, k => .mk k (A1I ks (k + 1))
def A1I : List Ty → Int → List Ty
 | [], _ => []
 | t :: ts, k => B1d t k :: A1I ts (k + A7f t)
end
mutual
def A7g : Tm → Int
 | .mk _ _ _ ty fr _ ks => 6 + Z1 ty.ks + Z1 fr.ks + A7h ks
def A7h : List Tm → Int
 | [] => 0
 | t :: ts => A7g t + A7h ts
end
mutual
def B1e : Tm → Int → Tm
 | .mk _ _ _ ty fr _ ks, k => .mk k (B08 (k + 1).toNat) (k + 1 + 1) (.mk (k + 1 + 1 + 1) (A1I ty.ks (k + 1 + 1 + 1 + 1))) (.mk (k + 1 + 1 + 1 + 1 + Z1 ty.ks) (A1I fr.ks (k + 1 + 1 + 1 + 1 + Z1 ty.ks + 1))) (k + 1 + 1 + 1 + 1 + Z1 ty.ks + 1 + Z1 fr.ks) (A37 ks (k + 1 + 1 + 1 + 1 + Z1 ty.ks + 1 + Z1 fr.ks + 1))
def A37 : List Tm → Int → List Tm
 | [], _ => []
 | t :: ts, k => B1e t k :: A37 ts (k + A7g t)
end
theorem A7i : ∀ {X e e' Y vs : List Value} {o : Nat}, R1 e o vs = some e' → R1 (X ++ (e ++ Y)) (X.length + o) vs = some (X ++ (e' ++ Y))
 | [], e, e', Y, vs, o, h => by
  obtain ⟨h1, h2⟩ := A3d h
  simp only [List.nil_append, List.length_nil, Nat.zero_add]
  have := A5b (A := e.take o) (B := (e.drop o).take vs.length) (C := (e.drop o).drop vs.length ++ Y) (V := vs) (o := o) (by simp; omega) (by simp; omega)
  rw [show e.take o ++ ((e.drop o).take vs.length ++ ((e.drop o).drop vs.length ++ Y)) = e ++ Y from by
   rw [← List.append_assoc ((e.drop o).take vs.length), List.take_append_drop, ← List.append_assoc, List.take_append_drop]] at this
  rw [this, h1, List.drop_drop]
  simp
 | x :: X, e, e', Y, vs, o, h => by
  have := A7i (X := X) (Y := Y) h
  rw [List.length_cons, show X.length + 1 + o = (X.length + o) + 1 by omega]
  simp only [List.cons_append, R1, this]
theorem B1f {A : List Value} {D : List (List Value)} {e e' R vs : List Value} {i sz off : Nat} (hD : D.length = i) (ha : ∀ x ∈ D, x.length = sz) (he : R1 e off vs = some e') :
  R1 (A ++ (D.flatten ++ (e ++ R))) (A.length + i * sz + off) vs = some (A ++ (D.flatten ++ (e' ++ R))) := by
 have := A7i (X := A ++ D.flatten) (Y := R) he
 rw [List.length_append, A0U ha, hD, List.append_assoc, List.append_assoc] at this
 exact this
section lend
variable {P : Program} {Γ : L7} {env : M2} {hp : List A4} {G : IM} {K : Po} {ops : Array Oper} {rest : List Oper} {ty : TypeId} {pos : String} {af : Array Edge} {gd : Option (Nat × Bool)}
def B6a (v0 : Value) (G : IM) (Φ : A0V → Prop) : IM → Value → List A4 → Prop := fun G' v outs => G' = G ∧ v = v0 ∧ ∃ bs', outs = A0C bs' ∧ Φ bs'
end lend
def MTm (t : Tm) (k : Int) (cells : List Value) (bs : A0V) : Prop := ∃ pt ct pf cf p c bt bf bk,
 cells = [.int .i64 t.k, .string t.nm, .int .i64 t.num, .int .i64 t.ty.k, .slice pt t.ty.ks.length ct, .int .i64 t.fr.k, .slice pf t.fr.ks.length cf, .int .i64 t.lb, .slice p t.ks.length c] ∧
 A7e (A1I t.ty.ks k) pt ct bt ∧ A7e (A1I t.fr.ks (k + Z1 t.ty.ks)) pf cf bf ∧ B1c (A37 t.ks (k + Z1 t.ty.ks + Z1 t.fr.ks)) p c bk ∧ bs = bt ++ (bf ++ bk)
def A7j : Nat → Int → List Int
 | 0, _ => []
 | n + 1, k => k :: A7j n (k + 1)
def OIs (l : List Int) (p : Option Addr) (c : Nat) (bs : A0V) : Prop :=
 l.length ≤ c ∧ c ≤ maxLen ∧ ((l = [] ∧ bs = []) ∨ ∃ b A C, p = some ⟨b, A.length, none⟩ ∧ bs = [(b, A ++ (S4 l ++ C))])
def OPs : List (List Int) → List Value → A0V → Prop
 | [], es, bs => es = [] ∧ bs = []
 | l :: ls, es, bs => ∃ p c e' r1 r2, es = .slice p l.length c :: e' ∧ bs = r1 ++ r2 ∧ OIs l p c r1 ∧ OPs ls e' r2
def B1g : List (List Int) → Int
 | [] => 0
 | l :: ls => l.length + B1g ls
def B1h : List (List Int) → Int → List (List Int)
 | [], _ => []
 | l :: ls, k => A7j l.length k :: B1h ls (k + l.length)
section lend0
variable {P : Program} {Γ : L7} {env : M2} {G : IM} {K : Po} {ops : Array Oper} {rest : List Oper} {ty : TypeId} {pos : String} {af : Array Edge} {gd : Option (Nat × Bool)}
end lend0
def QPs (G : IM) : List (List Int) → List Value → Prop
 | [], es => es = []
 | l :: ls, es => ∃ p c r, es = .slice p l.length c :: r ∧ Sl G p l.length c 1 (S4 l) ∧ QPs G ls r
mutual
def H2 : Ty → Int
 | .mk _ ks => ks.length + L4 ks
def L4 : List Ty → Int
 | [] => 0
 | t :: ts => H2 t + L4 ts
end
mutual
def A0c : Tm → Int
 | .mk _ nm _ ty fr _ ks => nm.size + H2 ty + H2 fr + (ks.length + W3 ks)
def W3 : List Tm → Int
 | [] => 0
 | t :: ts => A0c t + W3 ts
end
mutual
theorem A0d : ∀ t : Ty, 0 ≤ H2 t
 | .mk _ ks => by have := A08 ks; rw [H2]; omega
theorem A08 : ∀ ts : List Ty, 0 ≤ L4 ts
 | [] => by rw [L4]; omega
 | t :: ts => by have := A0d t; have := A08 ts; rw [L4]; omega
end
mutual
theorem A7k : ∀ t : Tm, 0 ≤ A0c t
 | .mk _ _ _ ty fr _ ks => by have := A38 ks; have := A0d ty; have := A0d fr; rw [A0c]; omega
theorem A38 : ∀ ts : List Tm, 0 ≤ W3 ts
 | [] => by rw [W3]; omega
 | t :: ts => by have := A7k t; have := A38 ts; rw [W3]; omega
end
theorem A5f : ∀ a b : List Ty, L4 (a ++ b) = L4 a + L4 b
 | [], b => by simp [L4]
 | t :: a, b => by rw [List.cons_append, L4, L4, A5f a b]; omega
theorem A3j {ks : List Ty} {i : Nat} (hi : i < ks.length) : L4 (ks.take (i + 1)) = L4 (ks.take i) + H2 ks[i] := by
 rw [List.take_succ_eq_append_getElem hi, A5f, L4, L4]; omega
theorem A39 (ks : List Ty) (i : Nat) : L4 (ks.take i) ≤ L4 ks := by
 have h := A5f (ks.take i) (ks.drop i)
 rw [List.take_append_drop] at h
 have := A08 (ks.drop i); omega
mutual
def Tm.nok : Tm → Prop
 | .mk _ nm _ _ _ _ ks => nm.size ≤ 9223372036854775807 ∧ Tm.nokL ks
def Tm.nokL : List Tm → Prop
 | [] => True
 | t :: ts => t.nok ∧ Tm.nokL ts
end
def B6b (left s : Int) : Int := if s ≤ left then left - s else -1
end Gw
end Go.Proofs.YtfpgncjeejickaaGreatDoor
namespace Go.Proofs.YtfpgncjeejickaaGreatDoor
open Go Go.RowKit Go.ChangeShapes Go.WideShapes Go.ChangeAt
namespace Gw
def GW (w : World) : IM := fun b => match w.heap[b]? with
 | some (.cells c _ _) => some c.toList
 | _ => none
theorem A7l (w : World) : S3 [] (GW w) w := by
 refine ⟨?_, by simp, by simp [Fp], by simp [Fp]⟩
 intro b l h
 unfold GW at h
 split at h
 ·rename_i c e f hb; cases h; exact ⟨e, f, by simpa using hb⟩
 ·cases h
theorem A7m {w : World} {b o : Nat} {v : Value} (h : w.cell? ⟨b, o, none⟩ = some v) : ∃ full, GW w b = some full ∧ full[o]? = some v := by
 unfold World.cell? at h
 simp only at h
 split at h
 ·rename_i c e f hb
  exact ⟨c.toList, by simp [GW, hb], by simpa using h⟩
 ·cases h
theorem A7n {sz : Nat} : ∀ {es : List (List Value)}, (∀ e ∈ es, e.length = sz) → ∀ {j : Nat} {v : Value}, es.flatten[j]? = some v → ∃ i e r, es[i]? = some e ∧ e[r]? = some v ∧ j = i * sz + r
 | [], _, j, v, h => by simp at h
 | a :: es, hall, j, v, h => by
  have ha := hall a List.mem_cons_self
  rw [List.flatten_cons, List.getElem?_append] at h
  split at h
  ·exact ⟨0, a, j, rfl, h, by simp⟩
  ·rename_i hj
   obtain ⟨i, e, r, h1, h2, h3⟩ := A7n (fun x hx => hall x (List.mem_cons_of_mem _ hx)) h
   exact ⟨i + 1, e, r, by simpa using h1, h2, by rw [Nat.succ_mul]; omega⟩
theorem B1i {w : World} {a : Addr} {n c sz : Nat} {es : List (List Value)} (hl : es.length = n) (hsz : 0 < sz) (hc : n ≤ c) (hm : c ≤ maxLen) (h : ∀ i e, es[i]? = some e → w.cells? 0 (a.add (i * sz)) sz = some e) : Sl (GW w) (some a) n c sz es.flatten := by
 have hall : ∀ e ∈ es, e.length = sz := by
  intro e he
  obtain ⟨i, hi⟩ := List.getElem?_of_mem he
  exact (World.cells?_some (h i e hi)).2.1
 refine ⟨by rw [A0U hall, hl], hc, hm, ?_⟩
 rcases Nat.eq_zero_or_pos n with h0 | h0
 ·exact .inl h0
 ·right
  obtain ⟨b, o, s⟩ := a
  have hs : s = none := by
   have h1 := (World.cells?_some (h 0 es[0] (List.getElem?_eq_getElem (by omega)))).2
   have h2 := h1.2 0 hsz
   rw [List.getElem?_eq_getElem (by omega)] at h2
   simp only [Nat.zero_mul, Addr.add, if_true] at h2
   unfold World.cell? at h2
   split at h2
   ·split at h2
    ·cases h2
    ·rename_i hn; cases s with
     | none => rfl
     | some x => simp at hn
   ·cases h2
  subst hs
  have key : ∀ j v, es.flatten[j]? = some v → w.cell? ⟨b, o + j, none⟩ = some v := by
   intro j v hj
   obtain ⟨i, e, r, h1, h2, rfl⟩ := A7n hall hj
   have h3 := (World.cells?_some (h i e h1)).2
   have hr : r < e.length := (List.getElem?_eq_some_iff.1 h2).1
   have h4 := h3.2 r (by omega)
   rw [h2, A2v, A2v] at h4
   rw [← Nat.add_assoc]; exact h4
  have hpos : 0 < es.flatten.length := by rw [A0U hall, hl]; exact Nat.mul_pos h0 hsz
  obtain ⟨full, hg, _⟩ := A7m (key 0 es.flatten[0] (List.getElem?_eq_getElem hpos))
  refine ⟨b, o, full, rfl, hg, fun j v hj => ?_⟩
  obtain ⟨full', hg', hv⟩ := A7m (key j v hj)
  rw [hg] at hg'; cases hg'; exact hv
theorem E3.snoc {G : IM} : ∀ {ts : List Ty} {es : List (List Value)} {t : Ty} {e : List Value}, E3 G ts es → B3 G t e → E3 G (ts ++ [t]) (es ++ [e])
 | [], es, t, e, h, h2 => by
  simp only [E3] at h; subst h
  simp only [List.nil_append, E3]
  exact ⟨e, [], rfl, h2, rfl⟩
 | t' :: ts, es, t, e, h, h2 => by
  simp only [E3] at h
  obtain ⟨a, r, rfl, h3, h4⟩ := h
  simp only [List.cons_append, E3]
  exact ⟨a, r ++ [e], rfl, h3, E3.snoc h4 h2⟩
theorem C6.snoc {G : IM} : ∀ {ts : List Tm} {es : List (List Value)} {t : Tm} {e : List Value}, C6 G ts es → A7 G t e → C6 G (ts ++ [t]) (es ++ [e])
 | [], es, t, e, h, h2 => by
  simp only [C6] at h; subst h
  simp only [List.nil_append, C6]
  exact ⟨e, [], rfl, h2, rfl⟩
 | t' :: ts, es, t, e, h, h2 => by
  simp only [C6] at h
  obtain ⟨a, r, rfl, h3, h4⟩ := h
  simp only [List.cons_append, C6]
  exact ⟨a, r ++ [e], rfl, h3, C6.snoc h4 h2⟩
theorem E3.each {G : IM} {ts : List Ty} {es : List (List Value)} (h : E3 G ts es) : ∀ e ∈ es, e.length = 2 ∧ e.all (·.oneCell') = true := by
 intro e he
 obtain ⟨i, hi⟩ := List.getElem?_of_mem he
 have := (h.inv hi B1).2
 exact ⟨this.len, this.one⟩
theorem C6.each {G : IM} {ts : List Tm} {es : List (List Value)} (h : C6 G ts es) : ∀ e ∈ es, e.length = 9 ∧ e.all (·.oneCell') = true := by
 intro e he
 obtain ⟨i, hi⟩ := List.getElem?_of_mem he
 have := (h.inv hi (.mk 0 ⟨#[]⟩ 0 B1 B1 0 [])).2
 exact ⟨this.len, this.one⟩
section read
variable {H : Type} {enc : TypeId × Value → H} {w : World} {sp : Nat → Bool} {held : Bool}
end read
theorem Ext.below {w w' : World} (h : Ext (Fp []) w w') : Below w.heap.size w w' := ⟨h.os, h.tape, h.output, h.size, fun k hk => h.block k hk (by simp [Fp])⟩
section post
variable {H : Type} {enc : TypeId × Value → H} {P : Program}
theorem A7o {f : Func} {s : ChangeSpec} {apart fresh handsOn again : Bool} {W W' : World} {args : Array Value} {v : Value} {ds gs : List (DataW H)} {before : List MemPlace}
  (hW : DataW.Whole enc P f.params.toList s.vars apart W args.toList ds gs before) (hb : Below W.heap.size W W') (hgs : s.vars = [])
  (hres : ∀ (b : Nat) (sp : Nat → Bool) (hd : Bool), DataW.TrodAll enc P W' b sp hd f.resultTypes.toList (v.resultList f.resultTypes.size) (s.fn H (ds ++ gs)).results [])
  (hargs : ∀ sp : Nat → Bool, (∀ p ∈ before, sp p.block = true) → DataW.TrodAll enc P W' 0 sp true f.params.toList args.toList (s.fn H (ds ++ gs)).args before)
  (hv : (s.fn H (ds ++ gs)).vars = [])
  (hok : ∀ (j : Nat) (t : TypeId) (r : Value), f.resultTypes[j]? = some t → (v.resultList f.resultTypes.size)[j]? = some r → Value.okWide P W' .any 0 t r) :
  s.post enc P f apart fresh handsOn again W args v W' := by
 have hold : ∀ p ∈ before, (fun b => decide (b < W.heap.size)) p.block = true := fun p hp => by simpa using hW.lt p hp
 have hvars : ∀ sp : Nat → Bool, DataW.TrodVars enc P W' sp s.vars (s.fn H (ds ++ gs)).vars [] := fun sp => by rw [hgs, hv]; rfl
 have hkept : W.keptBut W' (fun _ => False) := by
  refine ⟨hb.os, hb.output, fun i hi => ?_⟩
  rw [hb.block i hi]
  split
  ·rename_i h1 h2; cases h1.symm.trans h2; exact ⟨rfl, rfl, rfl, fun _ _ => rfl⟩
  ·rename_i h1 h2; cases h1.symm.trans h2; exact .inr ⟨rfl, rfl⟩
  ·rfl
 refine ⟨ds, gs, before, [], before, [], hW, hres _ _ _, hargs _ hold, hvars _, World.keptBut_mono (fun p hp => hp.elim) hkept, fun _ => ?_⟩
 obtain ⟨_, _, _, _, _, hz, hn⟩ := hW
 refine ⟨hok, _, _, ([] ++ before) ++ [], ⟨[] ++ before, [], trodAll_append (hargs _ (fun _ _ => rfl)) (hres _ _ _), hvars _, rfl, ?_, ?_⟩, ?_⟩
 ·intro b off hp
  have hp' : MemPlace.cell b off ∈ before := by simpa using hp
  have hlt : b < W.heap.size := of_decide_eq_true (hold _ hp')
  have := hz b off hp'
  unfold World.frozen? at this ⊢
  simp only [hb.block b hlt]
  exact this
 ·intro ha; simpa using hn ha
 ·intro p hp _; simpa using hp
end post
def A0F (G : IM) : Prop := ∃ g, Tryz.prog.globalNamed "internal/strconv.uint64pow10" = some g ∧ G g = some (Lib.pow10Tab.map fun z => Value.int .u64 z)
theorem A0F.mono {G G' : IM} (h : A0F G) (hg : B6 G G') : A0F G' := by
 obtain ⟨g, h1, h2⟩ := h
 exact ⟨g, h1, hg g _ h2⟩
theorem B1j {G : IM} {w : World} (hw : S3 [] G w) (k : Nat) (os : Array Obj) : P1 [] G w [] G (Sort.grow (w.drewN k) os) := by
 have hb : ∀ b, b < w.heap.size → (Sort.grow (w.drewN k) os).heap[b]? = w.heap[b]? := by
  intro b h
  show (w.heap ++ os)[b]? = _
  rw [Array.getElem?_append_left h]
 refine ⟨⟨?_, by simp, by simp [Fp], by simp [Fp]⟩, ⟨rfl, rfl, rfl, ?_, fun b h _ => hb b h⟩, B6.refl _, fun _ _ h => .inl h, by simp [Fp], fun b l h h0 => absurd h (by rw [h0]; simp)⟩
 ·intro b l h
  obtain ⟨e, f, hh⟩ := hw.inn b l h
  exact ⟨e, f, by rw [hb b (A0g hh)]; exact hh⟩
 ·show w.heap.size ≤ (w.heap ++ os).size
  simp
theorem B1k (n : Int) (G : IM) (h : A0F G) (h0 : 0 ≤ n) (h1 : n ≤ 999) : Fn Tryz.prog 175 [.int .i64 n] [] G (I0 (.string ⟨(Lib.decDigits n.toNat).toArray⟩) G) := by
 refine ⟨fun w hw => ?_⟩
 have ht : Lib.TabIs Tryz.prog w "internal/strconv.uint64pow10" .u64 Lib.pow10Tab := by
  obtain ⟨g, hg, hG⟩ := h
  obtain ⟨e, f, hh⟩ := hw.inn g _ hG
  unfold Lib.TabIs World.var?
  rw [hg]
  simp only [Option.bind_some, hh]
 refine (Tryz.strconv_Itoa n (by omega) (by omega) w ht).mono ?_
 rintro e w' ⟨rfl, k, os, rfl⟩
 refine ⟨_, G, [], rfl, B1j hw k os, rfl, ?_, rfl⟩
 unfold Lib.itoa
 rw [if_neg (by omega)]
end Gw
end Go.Proofs.YtfpgncjeejickaaGreatDoor
namespace Go.Proofs.YtfpgncjeejickaaGreatDoor
open Go Go.RowKit Go.ChangeShapes Go.WideShapes Go.ChangeAt
namespace Gw
theorem A5g : Tryz.prog.globalNamed "internal/strconv.uint64pow10" = some 1 := by kernel_rfl
theorem B1l : (Tryz.prog.globals[1]?).map (·.type) = some 180 := by kernel_rfl
theorem B1m : Tryz.prog.cellsOf 180 = 20 := by kernel_rfl
theorem B1n : Tryz.prog.cellsOf 152 = 1 := by kernel_rfl
def A7p : List (String × DataW Unit) := [("math/bits.deBruijn32tab", Rows.laid_math_bits_deBruijn32tab), ("math/bits.deBruijn64tab", Rows.laid_math_bits_deBruijn64tab), ("internal/strconv.uint64pow10", Rows.laid_internal_strconv_uint64pow10)]
theorem A7q {W : World} (h : laidMetH Tryz.prog A7p W) : A0F (GW W) := by
 have h1 : laidMet Tryz.prog A7p W := h
 have h3 := h1.tail.tail
 have ht : Lib.TabIs Tryz.prog W "internal/strconv.uint64pow10" .u64 Lib.pow10Tab :=
  Lib.tabIs_of_head (rest := []) A5g B1l Tryz.underlying180 Tryz.underlying152 B1n B1m h3
 refine ⟨1, A5g, ?_⟩
 unfold Lib.TabIs World.var? at ht
 rw [A5g] at ht
 simp only [Option.bind_some] at ht
 unfold GW
 split at ht
 ·rename_i c e f hb
  rw [hb]
  have := Option.some.inj ht
  simp [this]
 ·cases ht
def A5h : DataW Unit → Array Value
 | .agg xs => (xs.map fun | .lit (.int k n) => Value.int k n | _ => .int .i64 0).toArray
 | _ => #[]
def A5i (xs : Array Value) : Obj → Obj
 | .cells _ t f => .cells xs t f
 | o => o
noncomputable def A2F (os : Os) : World :=
 { World.holding Tryz.prog os ⟨#[], #[], []⟩ with heap := (((World.holding Tryz.prog os ⟨#[], #[], []⟩).heap.modify 1 (A5i (A5h Rows.laid_internal_strconv_uint64pow10))).modify 2 (A5i (A5h Rows.laid_math_bits_deBruijn32tab))).modify 3 (A5i (A5h Rows.laid_math_bits_deBruijn64tab)) }
end Gw
end Go.Proofs.YtfpgncjeejickaaGreatDoor
namespace Go.Proofs.YtfpgncjeejickaaGreatDoor
open Go Go.RowKit Go.ChangeShapes Go.WideShapes Go.ChangeAt
namespace Gw
section read2
variable {H : Type} {enc : TypeId × Value → H} {w : World} {sp : Nat → Bool} {held : Bool}
end read2
section rlaws
variable {P : Program} {Γ : L7} {env : M2} {hp : List A4} {G : IM} {ty : TypeId}
theorem B1o {m n : Nat} (hm : m < 4611686018427387904) (hn : n < 4611686018427387904) : m ^^^ n < 4611686018427387904 := by
 have := @Nat.xor_lt_two_pow m n 62 (by omega) (by omega)
 simpa using this
theorem B1p {x y : Operand} {t t' : TypeId} {m n : Nat} (hx : evo env x = some (.int .i64 (m : Int))) (hy : evo env y = some (.int .i64 (n : Int))) (hm : m < 4611686018427387904) (hn : n < 4611686018427387904) :
  J1 P Γ ⟨env, hp, G⟩ (.binOp .xor t x y t') ty (.int .i64 ((m ^^^ n : Nat) : Int)) := by
 refine ⟨fun a _ hs _ _ _ _ w => ?_⟩
 have hlt := B1o hm hn
 have e : (BitVec.ofInt 64 (m : Int) ^^^ BitVec.ofInt 64 (n : Int)).toNat = m ^^^ n := by
  rw [BitVec.toNat_xor, BitVec.toNat_ofInt, BitVec.toNat_ofInt]
  congr 1 <;> omega
 have hw : IntKind.i64.wrap (((BitVec.ofInt 64 (m : Int) ^^^ BitVec.ofInt 64 (n : Int)).toNat : Nat) : Int) = ((m ^^^ n : Nat) : Int) := by
  rw [e]; exact A11 _ rfl (by omega) (by omega)
 simp only [execOp, eqGuard, binOp, Op.intBits, (hs.evo hx : a.eval x = _), (hs.evo hy : a.eval y = _), ne_eq, not_true_eq_false, if_false, Sem.run_bind, Sem.run_pure, Result.andThen_ok]
 rw [show IntKind.bits .i64 = 64 from rfl] at *
 simp only [hw]
 simp
theorem A3k {x y : Operand} {t t' : TypeId} {m n : Nat} (hx : evo env x = some (.int .i64 (m : Int))) (hy : evo env y = some (.int .i64 (n : Int))) (h : m * n ≤ 9223372036854775807) :
  J1 P Γ ⟨env, hp, G⟩ (.binOp .mul t x y t') ty (.int .i64 ((m * n : Nat) : Int)) := by
 have e : ((m : Int) * (n : Int)) = ((m * n : Nat) : Int) := by simp
 have h2 := B0n (P := P) (Γ := Γ) (hp := hp) (G := G) (ty := ty) (t := t) (t' := t') hx hy (by rw [e]; omega) (by rw [e]; omega)
 rwa [e] at h2
theorem A1t {x y : Operand} {t t' : TypeId} {m n : Nat} (hx : evo env x = some (.int .i64 (m : Int))) (hy : evo env y = some (.int .i64 (n : Int))) (h : m + n ≤ 9223372036854775807) :
  J1 P Γ ⟨env, hp, G⟩ (.binOp .add t x y t') ty (.int .i64 ((m + n : Nat) : Int)) := by
 have e : ((m : Int) + (n : Int)) = ((m + n : Nat) : Int) := by simp
 have h2 := J6 (P := P) (Γ := Γ) (hp := hp) (G := G) (ty := ty) (t := t) (t' := t') hx hy (by rw [e]; omega) (by rw [e]; omega)
 rwa [e] at h2
theorem A09 {x y : Operand} {t t' : TypeId} {m : Nat} (hx : evo env x = some (.int .i64 ((m + 1 : Nat) : Int))) (hy : evo env y = some (.int .i64 1)) (h : m ≤ 9223372036854775807) :
  J1 P Γ ⟨env, hp, G⟩ (.binOp .sub t x y t') ty (.int .i64 (m : Int)) := by
 have e : (((m + 1 : Nat) : Int) - 1) = (m : Int) := by omega
 have h2 := O4 (P := P) (Γ := Γ) (hp := hp) (G := G) (ty := ty) (t := t) (t' := t') hx hy (by rw [e]; omega) (by rw [e]; omega)
 rwa [e] at h2
theorem A5j {s d : TypeId} {is id : L5} [hS : J3 P s is] [hD : J3 P d id] (hd : id.desc = .int .i64) {k : IntKind} (hs : is.desc = .int k) {x : Operand} {n : Int} (hx : evo env x = some (.int k n)) (h0 : -9223372036854775808 ≤ n) (h1 : n ≤ 9223372036854775807) :
  J1 P Γ ⟨env, hp, G⟩ (.convert s d x) ty (.int .i64 n) := by
 refine ⟨fun a _ hst _ _ _ _ w => ?_⟩
 have hu := hD.und
 rw [hd] at hu
 have hus := hS.und
 rw [hs] at hus
 have hw : IntKind.i64.wrap n = n := A11 n rfl h0 h1
 simp [execOp, convert, run_underlying hus, run_underlying hu, (hst.evo hx : a.eval x = _), Conv.intToInt, hw]
theorem A7r {x y : Operand} {t el : TypeId} {i : L5} {sz by' : Nat} {zs : List Value} [hI : J3 P t i] (hd' : i.desc = .slice el) [hE : X1 P el sz by' zs] {p : Option Addr} {n c l : Nat}
  (hx : evo env x = some (.slice p n c)) (hy : evo env y = some (.int .i64 (l : Int))) (hl : l ≤ c) :
  J1 P Γ ⟨env, hp, G⟩ (.slice t x none (some y) none) ty (.slice p l c) := by
 refine ⟨fun a _ hs _ _ _ _ w => ?_⟩
 have hu := hI.und
 rw [hd'] at hu
 obtain ⟨d, hE⟩ := hE.ok
 obtain ⟨inf, z, t1, t2, t3, _⟩ := A3f (P := P) (t := el)
 have e1 : a.eval x = _ := hs.evo hx
 have e2 : a.eval y = _ := hs.evo hy
 have hb : ∀ code, (Instr.sliceBound (.int .i64 (l : Int)) c code).run P w = .ok l w := fun code => by
  unfold Instr.sliceBound
  simp only [asIntOf, Sem.run_bind, Sem.run_pure, Result.andThen_ok]
  rw [if_pos ⟨by omega, by omega⟩]
  simp
 simp only [execOp, Option.map, e1, e2, Instr.sliceAt, Sem.run_bind, run_underlying hu, Result.andThen_ok, Instr.slice, Instr.sliceBounds, Sem.run_pure, hb, t3]
 by_cases h : c = 0
 ·subst h; simp
 ·rw [if_neg h]; simp; cases p <;> simp [Addr.add]
end rlaws
def N7 (bs : List UInt8) : List Value := bs.map fun b => .int .u8 (b.toNat : Int)
theorem A7s (bs : List UInt8) : (N7 bs).length = bs.length := by simp [N7]
theorem A5k {bs : List UInt8} {i : Nat} {v : Value} (h : (N7 bs)[i]? = some v) : ∃ b : Nat, b < 256 ∧ v = .int .u8 (b : Int) := by
 unfold N7 at h
 rw [List.getElem?_map] at h
 cases hb : bs[i]? with
 | none => rw [hb] at h; simp at h
 | some b => rw [hb] at h; simp at h; exact ⟨b.toNat, b.toNat_lt, h.symm⟩
def rd (br : Nat) (pb : Option Addr) (nb cb p : Nat) : A4 := .blk br [.slice pb nb cb, .int .i64 (p : Int)]
def Z2 (br : Nat) (pb : Option Addr) (nb cb p B : Nat) (Φ : IM → Value → Prop) : IM → Value → List A4 → Prop := fun G' v outs => ∃ p', p ≤ p' ∧ p' ≤ p + B ∧ outs = [rd br pb nb cb p'] ∧ Φ G' v
theorem S8 (G : IM) (br : Nat) (pb : Option Addr) (nb cb p : Nat) (bs : List UInt8) (n : Int) (hb : Sl G pb nb cb 1 (N7 bs)) (hnb : nb ≤ 2000) (hp : p < 1099511627776) :
  Fn Tryz.prog 46 [.pointer (some ⟨br, 0, none⟩), .int .i64 n] [rd br pb nb cb p] G (fun G' v outs => G' = G ∧ outs = [rd br pb nb cb (p + 1)] ∧ ∃ k, v = .int .i64 k ∧ 0 ≤ k ∧ (1 ≤ n → k < n)) := by
 unfold rd
 have hm1 : ∀ q, 0 < nb → q % nb < nb := fun q h => Nat.mod_lt _ h
 have hdv : p / nb ≤ p := Nat.div_le_self _ _
 refine B5 Tryz.func46 rfl Tryz.ntmps46 Tryz.results46 rfl ?_
 intro w0
 refine D7 ?_
 refine sQ (A0h rfl) rfl ?_
 refine sQ (A9 rfl) rfl (sL (B7 rfl rfl) rfl rfl ?_)
 refine sP (A1t (n := 1) rfl rfl (by omega)) rfl rfl ?_
 refine sQ (A0h rfl) rfl ?_
 refine D8 ?_
 refine sB (K1 rfl rfl) rfl rfl (fun h23 => ?_) (fun h23 => ?_)
 refine T4 ?_
 refine H4 (rT rfl) A0.refl ?_
 exact ⟨rfl, rfl, 0, rfl, Int.le_refl _, fun h => by omega⟩
 refine sQ (qM rfl) rfl (sQ (qM rfl) rfl ?_)
 refine sQ (A0h rfl) rfl ?_
 refine I6 ?_
 refine sB (qE rfl rfl) rfl rfl (fun h50 => ?_) (fun h50 => ?_)
 refine J7 ?_
 refine H4 (rT rfl) A0.refl ?_
 exact ⟨rfl, rfl, 0, rfl, Int.le_refl _, fun h => by omega⟩
 refine D7 ?_
 refine sQ (A0h rfl) rfl ?_
 refine sQ (A9 rfl) rfl (sL (B7 rfl rfl) rfl rfl ?_)
 refine sP (A09 rfl rfl (by omega)) rfl rfl ?_
 refine D8 ?_
 refine sQ (A0h rfl) rfl ?_
 refine I6 ?_
 refine sB (K1 rfl rfl) rfl rfl (fun h89 => ?_) (fun h89 => ?_)
 refine sD (nS (qT rfl (tS (tR (sQ (qM rfl) rfl ?_)))))
 refine sQ (A0h rfl) rfl ?_
 refine I6 ?_
 (obtain ⟨b, o, v, rfl, hv, hat, hgb⟩ := hb.kid (i := p) (by omega); obtain ⟨y, hy, rfl⟩ := A5k hv; refine sP (B0 rfl rfl rfl (by omega)) rfl rfl ?_)
 refine sL (U5 rfl rfl (hat _)) rfl rfl ?_
 refine sP (A5j rfl rfl rfl (by omega) (by omega)) rfl rfl ?_
 refine sQ (qM rfl) rfl ?_
 refine sP (A3c rfl rfl (by omega)) rfl rfl ?_
 refine sQ (qA rfl) rfl (sD (nS (tT (rS ?_))))
 refine H4 (rT rfl) A0.refl ?_
 exact ⟨rfl, rfl, _, rfl, Int.tmod_nonneg _ (by omega), fun h => Int.tmod_lt_of_pos _ (by omega)⟩
 refine sD (nS (cF rfl (tK (nS (tS ?_)))))
 (obtain ⟨b, o, v1, rfl, hv1, hat1, _⟩ := hb.kid (i := HMod.hMod p nb) (hm1 _ (by omega)); obtain ⟨y1, hy1, rfl⟩ := A5k hv1; obtain ⟨b', o', v2, hbb, hv2, hat2, _⟩ := hb.kid (i := HMod.hMod (p * 7 + 3) nb) (hm1 _ (by omega)); obtain ⟨y2, hy2, rfl⟩ := A5k hv2; cases hbb; have hl1 := hm1 p (by omega); have hl2 := hm1 (p * 7 + 3) (by omega); refine C9 D1 rfl ?_)
 refine H6 (i := 0) (l' := [tt,ff,ff,ff,ff,ff,ff,ff,ff,ff,ff,ff,ff,ff,ff,ff,ff,ff,ff,ff,ff,ff,ff,ff,ff,ff,ff,ff,ff,ff,ff,ff,ff,ff,ff,ff,ff,ff,ff,ff,ff,ff,ff,ff,ff,ff]) rfl C4 (qM rfl) rfl (by kernel_rfl) rfl rfl ?_
 refine aP 1 rfl (A0h rfl) rfl ?_
 refine aP 2 rfl (A9 rfl) rfl ?_
 refine aL 3 rfl (B7 rfl rfl) rfl ?_
 refine aP 4 rfl (qM rfl) rfl ?_
 refine aP 5 rfl (qM rfl) rfl ?_
 refine aP 6 rfl (A0h rfl) rfl ?_
 refine aP 7 rfl (A9 rfl) rfl ?_
 refine aL 8 rfl (B7 rfl rfl) rfl ?_
 refine aP 9 rfl (pLn rfl rfl) rfl ?_
 refine aP 10 rfl (A67 rfl rfl (by omega)) rfl ?_
 refine aP 11 rfl (B0 rfl rfl rfl (by first | exact hl1 | exact hl2)) rfl ?_
 refine aL 12 rfl (U5 rfl rfl (hat1 _)) rfl ?_
 refine aP 13 rfl (A5j rfl rfl rfl (by omega) (by omega)) rfl ?_
 refine aP 14 rfl (A3k (n := 131) rfl rfl (by omega)) rfl ?_
 refine aP 15 rfl (qM rfl) rfl ?_
 refine aP 16 rfl (A0h rfl) rfl ?_
 refine aP 17 rfl (A9 rfl) rfl ?_
 refine aL 18 rfl (B7 rfl rfl) rfl ?_
 refine aP 19 rfl (qM rfl) rfl ?_
 refine aP 20 rfl (A3k (n := 7) rfl rfl (by omega)) rfl ?_
 refine aP 21 rfl (A1t (n := 3) rfl rfl (by omega)) rfl ?_
 refine aP 22 rfl (qM rfl) rfl ?_
 refine aP 23 rfl (A0h rfl) rfl ?_
 refine aP 24 rfl (A9 rfl) rfl ?_
 refine aL 25 rfl (B7 rfl rfl) rfl ?_
 refine aP 26 rfl (pLn rfl rfl) rfl ?_
 refine aP 27 rfl (A67 rfl rfl (by omega)) rfl ?_
 refine aP 28 rfl (B0 rfl rfl rfl (by first | exact hl1 | exact hl2)) rfl ?_
 refine aL 29 rfl (U5 rfl rfl (hat2 _)) rfl ?_
 refine aP 30 rfl (A5j rfl rfl rfl (by omega) (by omega)) rfl ?_
 refine aP 31 rfl (A3k (n := 1117) rfl rfl (by omega)) rfl ?_
 refine aP 32 rfl (A1t rfl rfl (by omega)) rfl ?_
 refine aP 33 rfl (qM rfl) rfl ?_
 refine aP 34 rfl (A3k (n := 29) rfl rfl (by omega)) rfl ?_
 refine aP 35 rfl (A1t rfl rfl (by omega)) rfl ?_
 refine aP 36 rfl (qM rfl) rfl ?_
 refine aP 37 rfl (qM rfl) rfl ?_
 refine aP 38 rfl (A0h rfl) rfl ?_
 refine aP 39 rfl (A9 rfl) rfl ?_
 refine aL 40 rfl (B7 rfl rfl) rfl ?_
 refine aP 41 rfl (pLn rfl rfl) rfl ?_
 refine aP 42 rfl (A68 rfl rfl (by omega) (by omega)) rfl ?_
 refine aP 43 rfl (A3k (n := 53) rfl rfl (by omega)) rfl ?_
 refine aP 44 rfl (A1t rfl rfl (by omega)) rfl ?_
 refine aP 45 rfl (qA rfl) rfl ?_
 refine B8 (nS (tS (tR (sQ (qM rfl) rfl (sQ (qM rfl) rfl ?_)))))
 refine sP (A68 (n := 64) rfl rfl (by omega) (by omega)) rfl rfl ?_
 refine sP (B1p rfl rfl (by omega) (by omega)) rfl rfl ?_
 refine D0 ?_
 refine sP (A3c rfl rfl (by omega)) rfl rfl ?_
 refine sQ (qA rfl) rfl (sD (nS (tT ?_)))
 refine H4 (rT rfl) A0.refl ?_
 exact ⟨rfl, rfl, _, rfl, Int.tmod_nonneg _ (by omega), fun h => Int.tmod_lt_of_pos _ (by omega)⟩
end Gw
end Go.Proofs.YtfpgncjeejickaaGreatDoor
namespace Go.Proofs.YtfpgncjeejickaaGreatDoor
open Go Go.RowKit Go.ChangeShapes Go.WideShapes Go.ChangeAt
namespace Gw
theorem B1q : Tryz.prog.cellsOf 5 = 1 := by kernel_rfl
theorem A7t {q : Nat → Value → Prop} : ∀ {n : Nat}, (∀ i, i < n → ∃ k : UInt8, q i (.int .u8 (k.toNat : Int))) → ∃ l : List UInt8, l.length = n ∧ ∀ i v, (N7 l)[i]? = some v → q i v
 | 0, _ => ⟨[], rfl, by simp [N7]⟩
 | n + 1, h => by
  obtain ⟨l, h1, h2⟩ := A7t (n := n) fun i hi => h i (by omega)
  obtain ⟨k, hk⟩ := h n (by omega)
  refine ⟨l ++ [k], by simp [h1], fun i v hv => ?_⟩
  rw [show N7 (l ++ [k]) = N7 l ++ [.int .u8 (k.toNat : Int)] from by simp [N7], List.getElem?_append] at hv
  split at hv
  ·exact h2 i v hv
  ·rename_i hi
   rw [A7s] at hi hv
   have : i - l.length = 0 := by
    have := (List.getElem?_eq_some_iff.1 hv).1; simp at this; omega
   rw [this] at hv; simp at hv; subst hv
   rw [show i = n by omega]; exact hk
section read2
variable {H : Type} {enc : TypeId × Value → H} {w : World} {sp : Nat → Bool} {held : Bool}
theorem A7u (n : Nat) (cs : List Value) (x : DataW H × List MemPlace) (h : DataW.trod enc Tryz.prog w 0 sp held n 22 cs = some x) : ∃ (l : List UInt8) (p : Option Addr) (c : Nat), cs = [.slice p l.length c] ∧ Sl (GW w) p l.length c 1 (N7 l) := by
 rcases DataW.trod_slice Tryz.underlying22 h with ⟨rfl, _⟩ | ⟨ad, len, cap, elems, rest, n', rfl, rfl, _, _, hlc, hcm, hel, hele, _, _⟩
 ·exact ⟨[], none, 0, rfl, Sl.nil _ _⟩
 ·rw [B1q] at hele
  obtain ⟨l, h1, h2⟩ := A7t (q := fun i v => w.cells? 0 (ad.add (i * 1)) 1 = some [v]) (n := len) fun i hi => by
   have := hele i hi
   rw [List.getElem?_eq_getElem (by omega)] at this
   obtain ⟨cs', c1, c2⟩ := Option.bind_eq_some_iff.1 this
   obtain ⟨k, rfl, _, hw⟩ := DataW.trod_int Tryz.underlying5 c2
   have hk : 0 ≤ k ∧ k < 256 := by
    have hw2 : (decide ((0 : Int) ≤ k) && decide (k ≤ (255 : Int))) = true := hw
    simp only [Bool.and_eq_true, decide_eq_true_eq] at hw2
    omega
   refine ⟨UInt8.ofNat k.toNat, ?_⟩
   rw [show ((UInt8.ofNat k.toNat).toNat : Int) = k from by
    rw [UInt8.toNat_ofNat']; omega]
   exact c1
  subst h1
  refine ⟨l, some ad, cap, rfl, ?_⟩
  have := B1i (w := w) (a := ad) (n := l.length) (c := cap) (sz := 1) (es := (N7 l).map fun v => [v]) (by simp [A7s]) (by omega) hlc hcm fun i e he => by
   rw [List.getElem?_map] at he
   cases hv : (N7 l)[i]? with
   | none => rw [hv] at he; simp at he
   | some v => rw [hv] at he; simp at he; subst he; exact h2 i v hv
  have hf : ((N7 l).map fun v => [v]).flatten = N7 l := by
   generalize N7 l = L
   induction L with
   | nil => rfl
   | cons a L ih => simp [ih]
  rwa [hf] at this
end read2
theorem A1u : ∀ (t : Ty) (G : IM) (cells : List Value), t.small → B3 G t cells →
  Fn Tryz.prog 50 [.agg ⟨cells⟩] [] G (K4 fun G' v => ∃ cells' F, v = .agg ⟨cells'⟩ ∧ O8 (C1 G' G) t cells' F ∧ F.Nodup) := by
 refine Ty.ind fun k ks ih G cells hts hr => ?_
 simp only [Ty.small] at hts
 obtain ⟨hsm, hks⟩ := hts
 obtain ⟨p, c, es, rfl, hk, hsl, hkl⟩ := hr.open
 simp only [Ty.k, Ty.ks] at hk hsl hkl ⊢
 have hn := hsl.le
 refine B5 Tryz.func50 rfl Tryz.ntmps50 Tryz.results50 rfl ?_
 intro w0
 refine tS (tR ?_)
 refine sE (C0 rfl rfl) rfl (fun b3 => ?_)
 refine sE (A5 rfl) rfl (fun b4 => ?_)
 refine D0 ?_
 refine sE (A5 rfl) rfl (fun b12 => ?_)
 refine M9 ?_
 refine B9 ?_
 (refine T9 25 2 ?_; refine K3 (fun (x : Nat × Option Addr × Nat × List (List Value) × List Nat × IM) => ⟨[(12, .int .i64 x.1), (11, .int .i64 ks.length), (10, .slice p ks.length c), (3, .pointer (some ⟨b12, 0, none⟩)), (2, .pointer (some ⟨b4, 0, none⟩))], [.blk b12 [.int .i64 k, .slice x.2.1 x.1 x.2.2.1], .slc x.2.1 x.2.2.1 25 2 x.1 x.2.2.2.1.flatten, .blk b4 [.int .i64 0, .slice none 0 0]], x.2.2.2.2.2⟩) (fun x => x.1 ≤ ks.length ∧ B6 G x.2.2.2.2.2 ∧ M3 (C1 x.2.2.2.2.2 G) (ks.take x.1) x.2.2.2.1 x.2.2.2.2.1 ∧ x.2.2.2.2.1.Nodup) (fun x => ks.length - x.1) (0, none, 0, [], [], G) ?_ ?_ ?_)
 (simp only [I5]; exact N3 (by repeat (first | exact E9.nil | refine E9.cons rfl ?_)) (by repeat (first | exact A0.refl | exact A0.nil | refine A0.cons (by repeat (first | exact Pk.here | apply Pk.there)) ?_)))
 exact ⟨by simp, B6.refl _, by simp [M3], by simp⟩
 (rintro ⟨i, pn, cn, es', F, Gi⟩ ⟨hi, hle, hst, hnd⟩; simp only [] at hi hle hst hnd ⊢; replace hsl := hsl.mono hle; replace hkl := hkl.mono hle)
 refine tS (tR ?_)
 refine sB (K1 rfl rfl) rfl rfl (fun h32 => ?_) (fun h32 => ?_)
 refine sD (nS (tS (qT rfl (tK (nS (tS ?_))))))
 refine B9 ?_
 refine tS (tR ?_)
 (obtain ⟨b, o, p2, c2, rfl, hat, hre, hgb⟩ := hsl.kidTy hkl (i := i) (by omega) (by omega); refine sP (B0 rfl rfl rfl (by omega)) rfl rfl ?_)
 refine sL (A2 rfl rfl (hat _) rfl) rfl rfl ?_
 refine sE (A5 rfl) rfl (fun b45 => ?_)
 refine F8 ?_
 refine sD (nS ?_)
 refine C9 D1 rfl ?_
 refine H6 (i := 0) (l' := [tt,ff,ff,ff,ff,ff,ff,ff]) rfl C4 (A9 rfl) rfl (by kernel_rfl) rfl rfl ?_
 refine aL 1 rfl (B7 rfl rfl) rfl ?_
 refine aL 2 rfl (A3 rfl rfl) rfl ?_
 refine A1 3 ?_
 (refine E1 rfl rfl (ih _ (List.getElem_mem (by omega)) _ _ (Ty.smallL_mem hks _ (List.getElem_mem (by omega))) hre) rfl rfl rfl (fun v G1 hle1 hh => ?_); obtain ⟨cells', F', rfl, hs', hnd'⟩ := hh; obtain ⟨p3, c3, es3, rfl, _⟩ := hs'.R.open)
 refine A1 4 ?_
 (refine D9 rfl (C8 rfl rfl rfl (by omega) (by unfold maxLen; omega) rfl) rfl rfl ?_; rintro _ ⟨b56, rfl⟩)
 refine A1 5 ?_
 refine T5 rfl rfl rfl rfl rfl rfl (fun _ _ => by repeat (first | exact Sw.here | apply Sw.there)) (P9 (by repeat first | exact mH | apply mT)) rfl (by simp [Value.oneCell']) (by unfold maxLen; omega) (by omega) rfl rfl (by repeat (first | exact A8.nil | apply A8.dep (by kernel_rfl) | apply A8.blk (by kernel_rfl) (by repeat (first | exact Pk.here | apply Pk.there)) (by repeat first | exact mH | apply mT))) (fun pn' cn' => ?_)
 refine aP 6 rfl (A9 rfl) rfl ?_
 refine A1 7 ?_
 refine N4 rfl rfl rfl rfl rfl rfl rfl rfl (by kernel_rfl) (by repeat first | exact Sw.here | apply Sw.there) (by rfl) ?_
 refine B8 (M8 (nS (tR ?_)))
 refine sP (J6 rfl rfl (by omega) (by omega)) rfl rfl ?_
 refine sQ (qM rfl) rfl (sD ?_)
 refine K0 (i + 1, pn', cn', es' ++ [[.int .i64 ks[i].k, .slice p3 ks[i].ks.length c3]], F ++ F', G1) ?_ ?_ ?_
 (simp only [I5]; exact N3 (by repeat (first | exact E9.nil | refine E9.cons rfl ?_)) (by repeat (first | exact A0.refl | exact A0.nil | refine A0.cons (by repeat (first | exact Pk.here | apply Pk.there)) ?_)))
 exact ⟨by omega, hle.trans hle1, M3.step hst hnd hle hle1 (by omega) hs' hnd'⟩
 (show ks.length - (i + 1) < ks.length - i; omega)
 refine I7 ?_
 (refine H7 (by repeat (first | exact Pk.here | apply Pk.there)) (fun G2 hle2 hsl2 hno2 => ?_); obtain rfl : i = ks.length := by omega)
 refine tT ?_
 refine E2 (rC rfl (A3 rfl rfl)) ?_
 (rw [List.take_length] at hst; obtain ⟨F2, hf1, hf2⟩ := O8.fin hst hnd hle hle2 hsl2 hno2 hk; exact ⟨rfl, _, F2, rfl, hf1, hf2⟩)
def B1r (t : Ty) (G : IM) : IM → Value → List A4 → Prop := K4 fun G' v => ∃ cells' F, v = .agg ⟨cells'⟩ ∧ O8 (C1 G' G) t cells' F ∧ F.Nodup
def B6c (ks : List Ty) (G : IM) : IM → Value → List A4 → Prop := K4 fun G' v => ∃ p c F, v = .slice p ks.length c ∧ A66 (C1 G' G) ks p c F ∧ F.Nodup
def A5l (t : Tm) (G : IM) : IM → Value → List A4 → Prop := K4 fun G' v => ∃ cells' F, v = .agg ⟨cells'⟩ ∧ P7 (C1 G' G) t cells' F ∧ F.Nodup
def B6d (ks : List Tm) (G : IM) : IM → Value → List A4 → Prop := K4 fun G' v => ∃ p c F, v = .slice p ks.length c ∧ A2a (C1 G' G) ks p c F ∧ F.Nodup
theorem B1s {full cs : List Value} {o : Nat} (h : ∀ j v, cs[j]? = some v → full[o + j]? = some v) (hc : cs ≠ []) : full = full.take o ++ (cs ++ full.drop (o + cs.length)) ∧ (full.take o).length = o := by
 have hpos : 0 < cs.length := List.length_pos_iff.2 hc
 have hl : o + cs.length ≤ full.length := by
  have := h (cs.length - 1) cs[cs.length - 1] (List.getElem?_eq_getElem (by omega))
  have := (List.getElem?_eq_some_iff.1 this).1; omega
 have ho : (full.take o).length = o := by simp; omega
 refine ⟨?_, ho⟩
 apply List.ext_getElem?
 intro i
 rw [List.getElem?_append, ho]
 split
 ·rename_i hi; rw [List.getElem?_take, if_pos hi]
 ·rename_i hi
  rw [List.getElem?_append]
  split
  ·rename_i h2
   have := h (i - o) cs[i - o] (List.getElem?_eq_getElem h2)
   rw [show o + (i - o) = i by omega] at this
   rw [this, List.getElem?_eq_getElem h2]
  ·rename_i h2
   rw [List.getElem?_drop, show o + cs.length + (i - o - cs.length) = i by omega]
theorem Sl.blk {G : IM} {p : Option Addr} {n c sz : Nat} {cs : List Value} (h : Sl G p n c sz cs) (hc : cs ≠ []) : ∃ b A C, p = some ⟨b, A.length, none⟩ ∧ G b = some (A ++ (cs ++ C)) := by
 obtain ⟨h1, h2, h3, h4⟩ := h
 have hn : n ≠ 0 := by
  rintro rfl
  simp at h1; exact hc h1
 obtain ⟨b, o, full, rfl, hg, hv⟩ := h4.resolve_left hn
 obtain ⟨e1, e2⟩ := B1s hv hc
 exact ⟨b, full.take o, full.drop (o + cs.length), by rw [e2], by rw [← e1]; exact hg⟩
theorem Sl.of_blk {G : IM} {b n c sz : Nat} {A C cs : List Value} (hl : cs.length = n * sz) (hc : n ≤ c) (hm : c ≤ maxLen) (hg : G b = some (A ++ (cs ++ C))) : Sl G (some ⟨b, A.length, none⟩) n c sz cs := by
 refine ⟨hl, hc, hm, .inr ⟨b, A.length, _, rfl, hg, fun j v hj => ?_⟩⟩
 have hlt : j < cs.length := (List.getElem?_eq_some_iff.1 hj).1
 rw [List.getElem?_append, if_neg (by omega), List.getElem?_append, if_pos (by omega), show A.length + j - A.length = j by omega]
 exact hj
def InG (G : IM) (bs : A0V) (F : List Nat) : Prop := (bs.map Prod.fst).Sublist F ∧ ∀ q ∈ bs, G q.1 = some q.2
mutual
theorem A2G : ∀ t : Ty, H2 t ≤ 4294967296 → t.small
 | .mk _ ks, h => by
  rw [H2] at h
  have := A08 ks
  simp only [Ty.small]
  exact ⟨by omega, A7v ks (by omega)⟩
theorem A7v : ∀ ts : List Ty, L4 ts ≤ 4294967296 → Ty.smallL ts
 | [], _ => by simp [Ty.smallL]
 | t :: ts, h => by
  rw [L4] at h
  have := A0d t
  have := A08 ts
  simp only [Ty.smallL]
  exact ⟨A2G t (by omega), A7v ts (by omega)⟩
end
mutual
theorem A7w : ∀ t : Tm, A0c t ≤ 4294967296 → t.small
 | .mk _ nm _ ty fr _ ks, h => by
  rw [A0c] at h
  have := A38 ks
  have := A0d ty
  have := A0d fr
  simp only [Tm.small]
  exact ⟨by omega, A2G ty (by omega), A2G fr (by omega), by omega, A7x ks (by omega)⟩
theorem A7x : ∀ ts : List Tm, W3 ts ≤ 4294967296 → Tm.smallL ts
 | [], _ => by simp [Tm.smallL]
 | t :: ts, h => by
  rw [W3] at h
  have := A7k t
  have := A38 ts
  simp only [Tm.smallL]
  exact ⟨A7w t (by omega), A7x ts (by omega)⟩
end
mutual
theorem A5m : ∀ t : Tm, (C7 t : Int) ≤ A0c t + 1
 | .mk _ nm _ ty fr _ ks => by
  have := A7y ks
  have := A0d ty
  have := A0d fr
  rw [A0c, C7]; omega
theorem A7y : ∀ ts : List Tm, (E5 ts : Int) ≤ ts.length + W3 ts
 | [] => by rw [W3, E5]; simp
 | t :: ts => by
  have := A5m t
  have := A7y ts
  rw [W3, E5, List.length_cons]; omega
end
theorem O6 : ∀ (t : Ty) (G : IM) (cells : List Value), t.small → B3 G t cells → Fn Tryz.prog 152 [.agg ⟨cells⟩] [] G (B1r t G) := by
 refine Ty.ind fun k ks ih G cells hts hr => ?_
 simp only [Ty.small] at hts
 obtain ⟨hsm, hks⟩ := hts
 obtain ⟨p, c, es, rfl, hk, hsl, hkl⟩ := hr.open
 simp only [Ty.k, Ty.ks] at hk hsl hkl ⊢
 have hn := hsl.le
 refine B5 Tryz.func152 rfl Tryz.ntmps152 Tryz.results152 rfl ?_
 intro w0
 refine tS (tR ?_)
 refine sE (C0 rfl rfl) rfl (fun b3 => ?_)
 refine sE (A5 rfl) rfl (fun b4 => ?_)
 refine D0 ?_
 refine sE (A5 rfl) rfl (fun b12 => ?_)
 refine F8 ?_
 refine sD (nS (tS (tS (tR (sQ (qA rfl) rfl (sD (nS ?_)))))))
 refine B9 ?_
 (refine T9 25 2 ?_; refine K3 (fun (x : Nat × Option Addr × Nat × List (List Value) × List Nat × IM) => ⟨[(4, .int .i64 x.1), (3, .pointer (some ⟨b12, 0, none⟩)), (1, .pointer (some ⟨b3, 0, none⟩)), (2, .pointer (some ⟨b4, 0, none⟩))], [.blk b12 [.int .i64 k, .slice x.2.1 x.1 x.2.2.1], .slc x.2.1 x.2.2.1 25 2 x.1 x.2.2.2.1.flatten, .blk b4 [.int .i64 0, .slice none 0 0], .blk b3 [.int .i64 k, .slice p ks.length c]], x.2.2.2.2.2⟩) (fun x => x.1 ≤ ks.length ∧ B6 G x.2.2.2.2.2 ∧ M3 (C1 x.2.2.2.2.2 G) (ks.take x.1) x.2.2.2.1 x.2.2.2.2.1 ∧ x.2.2.2.2.1.Nodup) (fun x => ks.length - x.1) (0, none, 0, [], [], G) ?_ ?_ ?_)
 (simp only [I5]; exact D5)
 exact ⟨by simp, B6.refl _, by simp [M3], by simp⟩
 (rintro ⟨i, pn, cn, es', F, Gi⟩ ⟨hi, hle, hst, hnd⟩; simp only [] at hi hle hst hnd ⊢; replace hsl := hsl.mono hle; replace hkl := hkl.mono hle)
 refine D0 ?_
 refine sB (K1 rfl rfl) rfl rfl (fun h34 => ?_) (fun h34 => ?_)
 refine sD (nS (qT rfl (tK (nS (tS ?_)))))
 refine B9 ?_
 (obtain ⟨b, o, p2, c2, rfl, hat, hre, hgb⟩ := hsl.kidTy hkl (i := i) (by omega) (by omega); refine C9 D1 rfl ?_)
 refine H6 (i := 0) (l' := [tt,ff,ff,ff,ff,ff,ff,ff,ff,ff,ff,ff]) rfl C4 (A9 rfl) rfl (by kernel_rfl) rfl rfl ?_
 refine aL 1 rfl (B7 rfl rfl) rfl ?_
 refine aP 2 rfl (A9 rfl) rfl ?_
 refine aL 3 rfl (B7 rfl rfl) rfl ?_
 refine aP 4 rfl (qM rfl) rfl ?_
 refine aP 5 rfl (B0 rfl rfl rfl (by omega)) rfl ?_
 refine aL 6 rfl (A2 rfl rfl (hat _) rfl) rfl ?_
 refine A1 7 ?_
 (refine E1 rfl rfl (ih ks[i] (List.getElem_mem (by omega)) _ _ (Ty.smallL_mem hks _ (List.getElem_mem (by omega))) hre) rfl rfl rfl (fun v G1 hle1 hh => ?_); obtain ⟨cells', F', rfl, hs', hnd'⟩ := hh; obtain ⟨p3, c3, es3, rfl, _⟩ := hs'.R.open)
 refine A1 8 ?_
 (refine D9 rfl (C8 rfl rfl rfl (by omega) (by unfold maxLen; omega) rfl) rfl rfl ?_; rintro _ ⟨b53, rfl⟩)
 refine A1 9 ?_
 refine T5 rfl rfl rfl rfl rfl rfl (fun _ _ => by repeat (first | exact Sw.here | apply Sw.there)) (P9 (by repeat first | exact mH | apply mT)) rfl (by simp [Value.oneCell']) (by unfold maxLen; omega) (by omega) rfl rfl (by repeat (first | exact A8.nil | apply A8.dep (by decide +kernel) | apply A8.blk (by decide +kernel) (by repeat (first | exact Pk.here | apply Pk.there)) (by repeat first | exact mH | apply mT))) (fun pn' cn' => ?_)
 refine aP 10 rfl (A9 rfl) rfl ?_
 refine A1 11 ?_
 refine N4 rfl rfl rfl rfl rfl rfl rfl rfl (by kernel_rfl) (by repeat first | exact Sw.here | apply Sw.there) (by rfl) ?_
 refine B8 (M8 (nS (tR (sQ (qM rfl) rfl ?_))))
 refine sP (J6 rfl rfl (by omega) (by omega)) rfl rfl ?_
 refine sQ (qA rfl) rfl (sD ?_)
 refine K0 (i + 1, pn', cn', es' ++ [[.int .i64 ks[i].k, .slice p3 ks[i].ks.length c3]], F ++ F', G1) ?_ ?_ ?_
 (simp only [I5]; exact D5)
 exact ⟨by omega, hle.trans hle1, M3.step hst hnd hle hle1 (by omega) hs' hnd'⟩
 (show ks.length - (i + 1) < ks.length - i; omega)
 refine L1 ?_
 (refine H7 (by repeat (first | exact Pk.here | apply Pk.there)) (fun G2 hle2 hsl2 hno2 => ?_); obtain rfl : i = ks.length := (by omega))
 refine tT ?_
 refine E2 (rC rfl (A3 rfl rfl)) ?_
 (rw [List.take_length] at hst; obtain ⟨F2, hf1, hf2⟩ := O8.fin hst hnd hle hle2 hsl2 hno2 hk; exact ⟨rfl, _, F2, rfl, hf1, hf2⟩)
theorem A1J : ∀ (t : Tm) (G : IM) (cells : List Value), t.small → A7 G t cells → Fn Tryz.prog 94 [.agg ⟨cells⟩] [] G (A5l t G) := by
 refine Tm.ind fun k nm num ty fr lb ks ih G cells hts hr => ?_
 have hone := hr.one
 simp only [Tm.small] at hts
 obtain ⟨hnm, hty', hfr', hsm, hks⟩ := hts
 obtain ⟨tk, tks⟩ := ty
 obtain ⟨fk, fks⟩ := fr
 obtain ⟨pt, ct, pf, cf, p, c, es, rfl, hk, hnum, hlb, hty, hfr, hsl, hkl⟩ := hr.open9
 have hn := hsl.le
 have hT := O6 (.mk tk tks) G _ hty' hty
 refine B5 Tryz.func94 rfl Tryz.ntmps94 Tryz.results94 rfl ?_
 intro w0
 refine tS (tR ?_)
 refine sE (C0 rfl rfl) rfl (fun b3 => ?_)
 refine sE (A5 rfl) rfl (fun b4 => ?_)
 refine sD (nS (tS (tR (sL (A3 rfl rfl) rfl rfl ?_))))
 refine sE (A5 rfl) rfl (fun b10 => ?_)
 refine D0 ?_
 (refine D3 rfl hT rfl rfl (fun v G1 hle1 hh => ?_); obtain ⟨N6, F1, rfl, hs1, hn1⟩ := hh; obtain ⟨p1, c1, rfl, _⟩ := hs1.open; have hF := O6 (.mk fk fks) G1 _ hfr' (hfr.mono hle1))
 refine D8 ?_
 (refine D3 rfl hF rfl rfl (fun v G2 hle2 hh => ?_); obtain ⟨cs2, F2, rfl, hs2, hn2⟩ := hh; obtain ⟨p2, c2, rfl, _⟩ := hs2.open; replace hsl := hsl.mono (hle1.trans hle2); replace hkl := hkl.mono (hle1.trans hle2))
 refine K5 ?_
 refine B9 ?_
 (refine T9 28 9 ?_; refine K3 (fun (x : Nat × Option Addr × Nat × List (List Value) × List Nat × IM) => ⟨[(4, .int .i64 x.1), (3, .pointer (some ⟨b10, 0, none⟩)), (1, .pointer (some ⟨b3, 0, none⟩)), (2, .pointer (some ⟨b4, 0, none⟩))], [.blk b10 [.int .i64 k, .string nm, .int .i64 num, .int .i64 tk, .slice p1 tks.length c1, .int .i64 fk, .slice p2 fks.length c2, .int .i64 lb, .slice x.2.1 x.1 x.2.2.1], .slc x.2.1 x.2.2.1 28 9 x.1 x.2.2.2.1.flatten, .blk b4 [.int .i64 0, .string ⟨⟨[]⟩⟩, .int .i64 0, .int .i64 0, .slice none 0 0, .int .i64 0, .slice none 0 0, .int .i64 0, .slice none 0 0], .blk b3 [.int .i64 k, .string nm, .int .i64 num, .int .i64 tk, .slice pt tks.length ct, .int .i64 fk, .slice pf fks.length cf, .int .i64 lb, .slice p ks.length c]], x.2.2.2.2.2⟩) (fun x => x.1 ≤ ks.length ∧ B6 G2 x.2.2.2.2.2 ∧ O1 (C1 x.2.2.2.2.2 G2) (ks.take x.1) x.2.2.2.1 x.2.2.2.2.1 ∧ x.2.2.2.2.1.Nodup) (fun x => ks.length - x.1) (0, none, 0, [], [], G2) ?_ ?_ ?_)
 (simp only [I5]; exact D5)
 exact ⟨by simp, B6.refl _, by simp [O1], by simp⟩
 (rintro ⟨i, pn, cn, es', F, Gi⟩ ⟨hi, hle, hst, hnd⟩; simp only [] at hi hle hst hnd ⊢; replace hsl := hsl.mono hle; replace hkl := hkl.mono hle)
 refine D0 ?_
 refine sB (K1 rfl rfl) rfl rfl (fun h56 => ?_) (fun h56 => ?_)
 refine sD (nS (qT rfl (tK (nS (tS ?_)))))
 refine B9 ?_
 (obtain ⟨b, o, e, rfl, hl, hat, hre, hgb⟩ := hsl.kidTm hkl (i := i) (by omega) (by omega); have hone := hre.one; refine C9 D1 rfl ?_)
 refine H6 (i := 0) (l' := [tt,ff,ff,ff,ff,ff,ff,ff,ff,ff,ff,ff]) rfl C4 (A9 rfl) rfl (by kernel_rfl) rfl rfl ?_
 refine aL 1 rfl (B7 rfl rfl) rfl ?_
 refine aP 2 rfl (A9 rfl) rfl ?_
 refine aL 3 rfl (B7 rfl rfl) rfl ?_
 refine aP 4 rfl (qM rfl) rfl ?_
 refine aP 5 rfl (B0 rfl rfl rfl (by omega)) rfl ?_
 refine aL 6 rfl (A2 rfl rfl (hat _) hl) rfl ?_
 refine A1 7 ?_
 (refine E1 rfl rfl (ih ks[i] (List.getElem_mem (by omega)) _ _ (Tm.smallL_mem hks _ (List.getElem_mem (by omega))) hre) rfl rfl rfl (fun v G3 hle3 hh => ?_); obtain ⟨cells', F', rfl, hs', hnd'⟩ := hh; obtain ⟨qt, dt, et', qf, df, ef', q3, d3, es3, rfl, _⟩ := hs'.R.open)
 refine A1 8 ?_
 (refine D9 rfl (C8 rfl rfl rfl (by omega) (by unfold maxLen; omega) rfl) rfl rfl ?_; rintro _ ⟨b75, rfl⟩)
 refine A1 9 ?_
 refine T5 rfl rfl rfl rfl rfl rfl (fun _ _ => by repeat (first | exact Sw.here | apply Sw.there)) (P9 (by repeat first | exact mH | apply mT)) rfl (by simp [Value.oneCell']) (by unfold maxLen; omega) (by omega) rfl rfl (by repeat (first | exact A8.nil | apply A8.dep (by decide +kernel) | apply A8.blk (by decide +kernel) (by repeat (first | exact Pk.here | apply Pk.there)) (by repeat first | exact mH | apply mT))) (fun pn' cn' => ?_)
 refine aP 10 rfl (A9 rfl) rfl ?_
 refine A1 11 ?_
 refine N4 rfl rfl rfl rfl rfl rfl rfl rfl (by kernel_rfl) (by repeat first | exact Sw.here | apply Sw.there) (by rfl) ?_
 refine B8 (M8 (nS (tR (sQ (qM rfl) rfl ?_))))
 refine sP (J6 rfl rfl (by omega) (by omega)) rfl rfl ?_
 refine sQ (qA rfl) rfl (sD ?_)
 refine K0 (i + 1, pn', cn', es' ++ [[.int .i64 ks[i].k, .string ks[i].nm, .int .i64 ks[i].num, .int .i64 ks[i].ty.k, .slice qt ks[i].ty.ks.length dt, .int .i64 ks[i].fr.k, .slice qf ks[i].fr.ks.length df, .int .i64 ks[i].lb, .slice q3 ks[i].ks.length d3]], F ++ F', G3) ?_ ?_ ?_
 (simp only [I5]; exact D5)
 exact ⟨by omega, hle.trans hle3, O1.step hst hnd hle hle3 (by omega) hs' hnd'⟩
 (show ks.length - (i + 1) < ks.length - i; omega)
 refine L1 ?_
 (refine H7 (by repeat (first | exact Pk.here | apply Pk.there)) (fun G4 hle4 hsl4 hno4 => ?_); obtain rfl : i = ks.length := (by omega))
 refine tT ?_
 refine E2 (rC rfl (A3 rfl rfl)) ?_
 (rw [List.take_length] at hst; obtain ⟨F3, hf1, hf2⟩ := A2a.fin hst hnd hle hle4 hsl4 hno4; obtain ⟨F5, hg1, hg2⟩ := P7.mk3 (nm := nm) hk hnum hlb hle1 hle2 (hle.trans hle4) hs1 hn1 hs2 hn2 hf1 hf2; exact ⟨rfl, _, F5, rfl, hg1, hg2⟩)
mutual
def A1v (g : Tm → Tm) : Tm → Tm
 | .mk k nm num ty fr lb ks => g (.mk k nm num ty fr lb (A0W g ks))
def A0W (g : Tm → Tm) : List Tm → List Tm
 | [] => []
 | t :: ts => A1v g t :: A0W g ts
end
theorem A5n (g : Tm → Tm) : ∀ ks, A0W g ks = ks.map (A1v g)
 | [] => rfl
 | t :: ts => by rw [A0W, A5n g ts, List.map_cons]
mutual
theorem A7z : ∀ t, A1v id t = t
 | .mk k nm num ty fr lb ks => by rw [A1v, A7A ks]; rfl
theorem A7A : ∀ ks, A0W id ks = ks
 | [] => rfl
 | t :: ts => by rw [A0W, A7z t, A7A ts]
end
theorem P7.mk3k {G G1 G2 G3 : IM} {k : Int} {nm : ByteArray} {num : Int} {ty fr : Ty} {lb : Int} {ks : List Tm} {tc fc : List Value} {p : Option Addr} {c : Nat} {F1 F2 F3 : List Nat} (hk : F4 k) (hnum : F4 num) (hlb : F4 lb)
  (hl1 : B6 G G1) (hl2 : B6 G1 G2) (hl3 : B6 G2 G3) (h3 : A2a (C1 G1 G) ks p c F3) (n3 : F3.Nodup) (h1 : O8 (C1 G2 G1) ty tc F1) (n1 : F1.Nodup) (h2 : O8 (C1 G3 G2) fr fc F2) (n2 : F2.Nodup) :
  ∃ F, P7 (C1 G3 G) (.mk k nm num ty fr lb ks) ([.int .i64 k, .string nm, .int .i64 num] ++ tc ++ fc ++ [.int .i64 lb, .slice p ks.length c]) F ∧ F.Nodup := by
 obtain ⟨es, Fs, e1, e2, rfl, e4⟩ := h3
 have i3 : ∀ b ∈ J2 p ++ Fs, C1 G1 G b ≠ none := by
  intro b hb
  rcases List.mem_append.1 hb with hb | hb
  ·exact e4 b hb
  ·exact e2.inG b hb
 have a1 : B6 (C1 G1 G) (C1 G3 G) := C1.mono (hl2.trans hl3)
 have a2 : B6 (C1 G2 G1) (C1 G3 G) := fun b l h => C1.mono hl3 b l (C1.anti hl1 b l h)
 have a3 : B6 (C1 G3 G2) (C1 G3 G) := C1.anti (hl1.trans hl2)
 refine ⟨F1 ++ (F2 ++ (J2 p ++ Fs)), ?_, ?_⟩
 ·simp only [P7]
  exact ⟨tc, fc, p, c, es, F1, F2, Fs, rfl, hk, hnum, hlb, h1.mono a2, h2.mono a3, e1.mono a1, e2.mono a1, rfl, A2D a1 e4⟩
 ·rw [List.nodup_append, List.nodup_append]
  refine ⟨n1, ⟨n2, n3, ?_⟩, ?_⟩
  ·rintro x hx y hy rfl
   exact A2b (A2D (C1.mono hl2) i3) h2.inG x hy x hx rfl
  ·rintro x hx y hy rfl
   rcases List.mem_append.1 hy with hy | hy
   ·exact A2b (A2D (C1.anti hl1) h1.inG) h2.inG x hx x hy rfl
   ·exact A2b i3 h1.inG x hy x hx rfl
mutual
def mOk (Q : Tm → Prop) (g : Tm → Tm) : Tm → Prop
 | .mk k nm num ty fr lb ks => A2d Q g ks ∧ Q (.mk k nm num ty fr lb (A0W g ks))
def A2d (Q : Tm → Prop) (g : Tm → Tm) : List Tm → Prop
 | [] => True
 | t :: ts => mOk Q g t ∧ A2d Q g ts
end
theorem A7B {Q : Tm → Prop} {g : Tm → Tm} : ∀ {ts : List Tm}, A2d Q g ts → ∀ t ∈ ts, mOk Q g t
 | [], _, t, h => by simp at h
 | t' :: ts, h, t, ht => by
  simp only [A2d] at h
  rcases List.mem_cons.1 ht with rfl | ht
  ·exact h.1
  ·exact A7B h.2 t ht
mutual
theorem A7C (g : Tm → Tm) : ∀ t, mOk (fun _ => True) g t
 | .mk k nm num ty fr lb ks => by rw [mOk]; exact ⟨A7D g ks, trivial⟩
theorem A7D (g : Tm → Tm) : ∀ ts, A2d (fun _ => True) g ts
 | [] => by rw [A2d]; trivial
 | t :: ts => by rw [A2d]; exact ⟨A7C g t, A7D g ts⟩
end
def A7E (g : Tm → Tm) (Q : Tm → Prop) (fid : FuncId) (us cs : List Value) : Prop := ∀ (t : Tm) (G0 G1 : IM) (cells : List Value) (F : List Nat), Q t → B6 G0 G1 → P7 (C1 G1 G0) t cells F → F.Nodup →
 Fn Tryz.prog fid (us ++ [.agg ⟨cells⟩] ++ cs) [] G1 (K4 fun G2 v => ∃ cells' F', v = .agg ⟨cells'⟩ ∧ P7 (C1 G2 G0) (g t) cells' F' ∧ F'.Nodup)
theorem B1t (g : Tm → Tm) (Q : Tm → Prop) (fid : FuncId) [B4 Tryz.prog fid] (us cs : List Value) (hg : A7E g Q fid us cs) : ∀ (t : Tm) (G : IM) (cells : List Value), mOk Q g t → t.small → A7 G t cells →
  Fn Tryz.prog 76 [.agg ⟨cells⟩, .func (.func fid) ⟨us⟩ ⟨cs⟩] [] G (A5l (A1v g t) G) := by
 refine Tm.ind fun k nm num ty fr lb ks ih G cells hmo hts hr => ?_
 have hone := hr.one
 simp only [mOk] at hmo
 obtain ⟨hmoL, hQ⟩ := hmo
 simp only [Tm.small] at hts
 obtain ⟨hnm, hty', hfr', hsm, hks⟩ := hts
 obtain ⟨tk, tks⟩ := ty
 obtain ⟨fk, fks⟩ := fr
 obtain ⟨pt, ct, pf, cf, p, c, es, rfl, hk, hnum, hlb, hty, hfr, hsl, hkl⟩ := hr.open9
 have hn := hsl.le
 have hlen : (A0W g ks).length = ks.length := by rw [A5n, List.length_map]
 have hget : ∀ i (h : i < ks.length) (h' : i < (A0W g ks).length), (A0W g ks)[i] = A1v g ks[i] := fun i h h' => by simp [A5n]
 refine B5 Tryz.func76 rfl Tryz.ntmps76 Tryz.results76 rfl ?_
 intro w0
 refine tS (tR ?_)
 refine sE (C0 rfl rfl) rfl (fun b3 => ?_)
 refine sE (A5 rfl) rfl (fun b4 => ?_)
 refine K5 ?_
 refine B9 ?_
 (refine T9 28 9 ?_; refine K3 (fun (x : Nat × Option Addr × Nat × List (List Value) × List Nat × IM) => ⟨[(11, .int .i64 x.1), (10, .int .i64 ks.length), (9, .slice p ks.length c), (5, .slice x.2.1 x.1 x.2.2.1), (2, .pointer (some ⟨b3, 0, none⟩)), (1, .func (.func fid) ⟨us⟩ ⟨cs⟩), (4, .pointer (some ⟨b4, 0, none⟩))], [.slc x.2.1 x.2.2.1 28 9 x.1 x.2.2.2.1.flatten, .blk b4 [.int .i64 0, .string ⟨⟨[]⟩⟩, .int .i64 0, .int .i64 0, .slice none 0 0, .int .i64 0, .slice none 0 0, .int .i64 0, .slice none 0 0], .blk b3 [.int .i64 k, .string nm, .int .i64 num, .int .i64 tk, .slice pt tks.length ct, .int .i64 fk, .slice pf fks.length cf, .int .i64 lb, .slice p ks.length c]], x.2.2.2.2.2⟩) (fun x => x.1 ≤ ks.length ∧ B6 G x.2.2.2.2.2 ∧ O1 (C1 x.2.2.2.2.2 G) ((A0W g ks).take x.1) x.2.2.2.1 x.2.2.2.2.1 ∧ x.2.2.2.2.1.Nodup) (fun x => ks.length - x.1) (0, none, 0, [], [], G) ?_ ?_ ?_)
 (simp only [I5]; exact D5)
 exact ⟨by simp, B6.refl _, by simp [O1], by simp⟩
 (rintro ⟨i, pn, cn, es', F, Gi⟩ ⟨hi, hle, hst, hnd⟩; simp only [] at hi hle hst hnd ⊢; replace hsl := hsl.mono hle; replace hkl := hkl.mono hle)
 refine tS (tR ?_)
 refine sB (K1 rfl rfl) rfl rfl (fun h28 => ?_) (fun h28 => ?_)
 refine sD (nS (tS (qT rfl (tK (nS (tS ?_))))))
 refine B9 ?_
 refine tS (tR ?_)
 (obtain ⟨b, o, e, rfl, hl, hat, hre, hgb⟩ := hsl.kidTm hkl (i := i) (by omega) (by omega); have hone := hre.one; refine sP (B0 rfl rfl rfl (by omega)) rfl rfl ?_)
 refine sL (A2 rfl rfl (hat _) hl) rfl rfl ?_
 refine sE (A5 rfl) rfl (fun b41 => ?_)
 refine sS rfl rfl rfl hl hone rfl ?_ (hu := by exact C2 hl.symm)
 refine sD (nS (tR (sQ (qM rfl) rfl ?_)))
 refine sL (A2 rfl rfl (A6 (by repeat first | exact mH | apply mT)) (by assumption)) rfl rfl ?_
 refine sQ (qM rfl) rfl ?_
 (refine D3 rfl (ih ks[i] (List.getElem_mem (by omega)) _ _ (A7B hmoL _ (List.getElem_mem (by omega))) (Tm.smallL_mem hks _ (List.getElem_mem (by omega))) hre) rfl rfl (fun v G3 hle3 hh => ?_); obtain ⟨cells', F', rfl, hs', hnd'⟩ := hh; rw [← hget i (by omega) (by omega)] at hs'; have hlc := hs'.R.len; have hoc := hs'.R.one)
 (obtain ⟨v1, v2, v3, v4, v5, v6, v7, v8, v9, rfl⟩ : ∃ v1 v2 v3 v4 v5 v6 v7 v8 v9, cells' = [v1, v2, v3, v4, v5, v6, v7, v8, v9] := by obtain ⟨_, _, _, _, _, _, _, _, _, rfl, _⟩ := hs'.R.open; exact ⟨_, _, _, _, _, _, _, _, _, rfl⟩)
 (refine J5 (C8 rfl rfl rfl (by omega) (by unfold maxLen; omega) rfl) rfl ?_; rintro _ ⟨b51, rfl⟩)
 refine A07 rfl rfl rfl rfl rfl (fun _ _ => by repeat (first | exact Sw.here | apply Sw.there)) (P9 (by repeat first | exact mH | apply mT)) rfl (fun u hu => List.all_eq_true.1 hoc u hu) (by unfold maxLen; omega) (by omega) rfl (fun pn' cn' => ?_)
 refine sQ (qA rfl) rfl (sD (M8 (nS (tR ?_))))
 refine sP (J6 rfl rfl (by omega) (by omega)) rfl rfl ?_
 refine sQ (qM rfl) rfl (sD ?_)
 refine K0 (i + 1, pn', cn', es' ++ [[v1, v2, v3, v4, v5, v6, v7, v8, v9]], F ++ F', G3) ?_ ?_ ?_
 (simp only [I5]; exact D5)
 exact ⟨by omega, hle.trans hle3, O1.step hst hnd hle hle3 (by omega) hs' hnd'⟩
 (show ks.length - (i + 1) < ks.length - i; omega)
 refine H8 ?_
 (obtain rfl : i = ks.length := (by omega); refine A0j (by repeat (first | exact Pk.here | apply Pk.there)) (fun G2 hle2 hsl2 hno2 => ?_); rw [← hlen, List.take_length] at hst; rw [← hlen] at hsl2; obtain ⟨F3, hf1, hf2⟩ := A2a.fin hst hnd hle hle2 hsl2 hno2; have hleG := hle.trans hle2; have hT := A1u (.mk tk tks) G2 _ hty' (hty.mono hleG); refine C9 D1 rfl ?_)
 refine H6 (i := 0) (l' := [tt,ff,ff,ff,ff,ff,ff,ff,ff,ff,ff,ff,ff]) rfl C4 (A9 rfl) rfl (by kernel_rfl) rfl rfl ?_
 refine aL 1 rfl (A3 rfl rfl) rfl ?_
 refine aP 3 rfl (A9 rfl) rfl ?_
 refine aL 4 rfl (A3 rfl rfl) rfl ?_
 refine aP 6 rfl (qM rfl) rfl ?_
 refine A1 2 ?_
 (refine E1 rfl rfl hT rfl rfl rfl (fun v G4 hle4 hh => ?_); obtain ⟨N6, F1, rfl, hs1, hn1⟩ := hh; obtain ⟨p1, c1, rfl, _⟩ := hs1.open; have hF := A1u (.mk fk fks) G4 _ hfr' (hfr.mono (hleG.trans hle4)))
 refine aP 7 rfl (A9 rfl) rfl ?_
 refine A1 5 ?_
 (refine E1 rfl rfl hF rfl rfl rfl (fun v G5 hle5 hh => ?_); obtain ⟨cs2, F2, rfl, hs2, hn2⟩ := hh; obtain ⟨p2, c2, rfl, _⟩ := hs2.open; obtain ⟨F6, hg1, hg2⟩ := P7.mk3k (nm := nm) hk hnum hlb hleG hle4 hle5 hf1 hf2 hs1 hn1 hs2 hn2; rw [hlen] at hg1; have hch := hg _ G G5 _ F6 hQ (hleG.trans (hle4.trans hle5)) hg1 hg2)
 refine A1 8 ?_
 refine N4 rfl rfl rfl rfl rfl rfl rfl rfl (by kernel_rfl) (by repeat first | exact Sw.here | apply Sw.there) (by rfl) ?_
 refine aP 9 rfl (A9 rfl) rfl ?_
 refine A1 10 ?_
 refine N4 rfl rfl rfl rfl rfl rfl rfl rfl (by kernel_rfl) (by repeat first | exact Sw.here | apply Sw.there) (by rfl) ?_
 refine aP 11 rfl (A9 rfl) rfl ?_
 refine A1 12 ?_
 refine N4 rfl rfl rfl rfl rfl rfl rfl rfl (by kernel_rfl) (by repeat first | exact Sw.here | apply Sw.there) (by rfl) ?_
 refine I1 ?_
 (refine J5 (A3U rfl rfl hch (List.Perm.refl _) rfl) rfl ?_; rintro _ ⟨v, G7, outs, rfl, hle7, rfl, cells7, F7, rfl, hs7, hn7⟩; have hl7 := hs7.R.len; have ho7 := hs7.R.one)
 refine sS rfl rfl rfl hl7 ho7 rfl ?_ (hu := by exact C2 hl7.symm)
 refine sD (nS (tT ?_))
 refine E2 (rC rfl (A2 rfl rfl (A6 (by repeat first | exact mH | apply mT)) hl7)) ?_
 (rw [A1v]; exact ⟨rfl, cells7, F7, rfl, hs7, hn7⟩)
theorem B1u (G : IM) (cells : List Value) (hl : cells.length = 9) (hone : cells.all (·.oneCell') = true) : Fn Tryz.prog 192 [.agg ⟨cells⟩] [] G (I0 (.agg ⟨cells⟩) G) := by
 refine B5 Tryz.func192 rfl Tryz.ntmps192 Tryz.results192 rfl ?_
 intro w0
 refine tS (tR ?_)
 refine sE (C0 rfl rfl) rfl (fun b3 => ?_)
 refine sE (A5 rfl) rfl (fun b4 => ?_)
 refine sD (nS (tS (tR ?_)))
 refine sL (A2 rfl rfl (A6 (by repeat first | exact mH | apply mT)) (by assumption)) rfl rfl ?_
 refine sS rfl rfl rfl hl hone rfl ?_ (hu := by exact C2 hl.symm)
 refine sD (nS (tT ?_))
 refine E2 (rC rfl (A2 rfl rfl (A6 (by repeat first | exact mH | apply mT)) hl)) ?_
 exact ⟨rfl, rfl, rfl⟩
theorem B1v : A7E id (fun _ => True) 192 [] [] := fun t G0 G1 cells F _ hle hs hn =>
 (B1u G1 cells hs.R.len hs.R.one).mono fun G' v outs _ ⟨h1, h2, h3⟩ => ⟨h3, cells, F, h2, by rw [h1]; exact hs, hn⟩
theorem A7F (t : Tm) (G : IM) (cells : List Value) (hts : t.small) (hr : A7 G t cells) : Fn Tryz.prog 140 [.agg ⟨cells⟩] [] G (A5l t G) := by
 have hl := hr.len
 have hone := hr.one
 have hM := B1t id (fun _ => True) 192 [] [] B1v t G cells (A7C _ t) hts hr
 rw [A7z] at hM
 refine B5 Tryz.func140 rfl Tryz.ntmps140 Tryz.results140 rfl ?_
 intro w0
 refine tS (tR ?_)
 refine sE (C0 rfl rfl) rfl (fun b3 => ?_)
 refine sE (A5 rfl) rfl (fun b4 => ?_)
 refine sD (nS (tS (tR ?_)))
 refine sL (A2 rfl rfl (A6 (by repeat first | exact mH | apply mT)) (by assumption)) rfl rfl ?_
 (refine D3 rfl hM rfl rfl (fun v G3 hle3 hh => ?_); obtain ⟨cells', F', rfl, hs', hnd'⟩ := hh; have hl' := hs'.R.len; have ho' := hs'.R.one)
 refine sS rfl rfl rfl hl' ho' rfl ?_ (hu := by exact C2 hl'.symm)
 refine sD (nS (tT ?_))
 refine E2 (rC rfl (A2 rfl rfl (A6 (by repeat first | exact mH | apply mT)) hl')) ?_
 exact ⟨rfl, cells', F', rfl, hs', hnd'⟩
theorem B1w (G : IM) (p : Option Addr) (n c : Nat) (es : List (List Value)) (hsl : C5 G p n c 2 es) (fid : FuncId) [B4 Tryz.prog fid] (us cs : List Value) (ins : List A4) (q : Nat → Bool)
  (hq : ∀ i e, es[i]? = some e → Fn Tryz.prog fid (us ++ [.agg ⟨e⟩] ++ cs) ins G (U0 (.bool (q i)) ins G)) :
  Fn Tryz.prog 143 [.slice p n c, .func (.func fid) ⟨us⟩ ⟨cs⟩] ins G (U0 (.int .i64 (A0v q n)) ins G) := by
 have hn := hsl.le
 refine B5 Tryz.func143 rfl Tryz.ntmps143 Tryz.results143 rfl ?_
 intro w0
 refine J4 ?_
 refine B9 ?_
 refine K3 (fun i : Nat => ⟨[(8, .int .i64 i), (7, .int .i64 n), (1, .func (.func fid) ⟨us⟩ ⟨cs⟩), (0, .slice p n c)], ins, G⟩) (fun i => i ≤ n ∧ ∀ j, j < i → q j = false) (fun i => n - i) 0 ?_ ?_ ?_
 exact D5
 exact ⟨by omega, by omega⟩
 rintro i ⟨hi, hf⟩
 refine tS (tR ?_)
 refine sB (K1 rfl rfl) rfl rfl (fun h21 => ?_) (fun h21 => ?_)
 refine sD (nS (tS (qT rfl (tK (nS (tS ?_))))))
 refine B9 ?_
 refine J7 ?_
 (obtain ⟨e, b, o, he, rfl, hl, _, hat, _⟩ := hsl.get (i := i) (by omega); refine sP (B0 rfl rfl rfl (by omega)) rfl rfl ?_)
 refine sL (A2 rfl rfl (hat _) hl) rfl rfl ?_
 refine A31 rfl rfl (hq i e he) A0t rfl rfl (fun h43 => ?_) (fun h43 => ?_)
 refine I7 ?_
 refine H4 (rT rfl) A0.refl ?_
 exact ⟨rfl, by rw [A62 (by omega) hf (by assumption)], rfl⟩
 refine sD (nS (cF rfl (tK (M8 (nS (tR ?_))))))
 refine sP (J6 rfl rfl (by omega) (by omega)) rfl rfl ?_
 refine sQ (qM rfl) rfl (sD ?_)
 refine K0 (i + 1) ?_ ?_ ?_
 exact D5
 exact ⟨by omega, fun j hj => by by_cases hji : j = i; (subst hji; assumption); exact hf j (by omega)⟩
 omega
 refine I7 ?_
 refine H4 (rT rfl) A0.refl ?_
 exact ⟨rfl, by rw [A48 (fun j hj => hf j (by omega))], rfl⟩
theorem B1x (G : IM) (p : Option Addr) (n c : Nat) (es : List (List Value)) (hsl : C5 G p n c 2 es) (fid : FuncId) [B4 Tryz.prog fid] (us cs : List Value) (ins : List A4) (q : Nat → Bool)
  (hq : ∀ i e, es[i]? = some e → Fn Tryz.prog fid (us ++ [.agg ⟨e⟩] ++ cs) ins G (U0 (.bool (q i)) ins G)) :
  Fn Tryz.prog 71 [.slice p n c, .func (.func fid) ⟨us⟩ ⟨cs⟩] ins G (U0 (.bool (decide (0 ≤ A0v q n))) ins G) := by
 refine B5 Tryz.func71 rfl Tryz.ntmps71 Tryz.results71 rfl ?_
 intro w0
 refine D7 ?_
 refine A17 rfl (B1w G p n c es hsl fid us cs ins q hq) A0t rfl rfl ?_
 refine sQ (A0R rfl rfl) rfl ?_
 refine sQ (qA rfl) rfl (sD (nS (tT ?_)))
 refine H4 (rT rfl) A0.refl ?_
 exact ⟨rfl, rfl, rfl⟩
theorem A3l (G : IM) (p : Option Addr) (n c : Nat) (es : List (List Value)) (hsl : C5 G p n c 2 es) (fid : FuncId) [B4 Tryz.prog fid] (us cs : List Value) (ins : List A4) (f : Ty → Bool) (ks : List Ty)
  (hn : ks.length = n) {A : Bool} (hA : ks.all f = A) (hq : ∀ i e, es[i]? = some e → Fn Tryz.prog fid (us ++ [.agg ⟨e⟩] ++ cs) ins G (U0 (.bool (!f (ks.getD i B1))) ins G)) :
  Fn Tryz.prog 71 [.slice p n c, .func (.func fid) ⟨us⟩ ⟨cs⟩] ins G (U0 (.bool (!A)) ins G) := by
 subst hn hA
 rw [← A64 f ks B1]
 exact B1x G p _ c es hsl fid us cs ins _ hq
theorem A5o (G : IM) (p p' : Option Addr) (n c n' c' : Nat) (es es' : List (List Value)) (hsl : C5 G p n c 2 es) (hsl' : C5 G p' n' c' 2 es') (fid : FuncId) [B4 Tryz.prog fid] (us cs : List Value) (ins : List A4) (q : Nat → Bool)
  (A : Bool) (hA : A = true ↔ n = n' ∧ ∀ i, i < n → q i = true)
  (hq : ∀ i e e', es[i]? = some e → es'[i]? = some e' → Fn Tryz.prog fid (us ++ [.agg ⟨e⟩, .agg ⟨e'⟩] ++ cs) ins G (U0 (.bool (q i)) ins G)) :
  Fn Tryz.prog 84 [.slice p n c, .slice p' n' c', .func (.func fid) ⟨us⟩ ⟨cs⟩] ins G (U0 (.bool A) ins G) := by
 have hn := hsl.le
 have hn' := hsl'.le
 refine B5 Tryz.func84 rfl Tryz.ntmps84 Tryz.results84 rfl ?_
 intro w0
 refine M9 ?_
 refine sB (O5 rfl rfl) rfl rfl (fun h13 => ?_) (fun h13 => ?_)
 refine H8 ?_
 refine H4 (outs := ins) (rT rfl) (by first | exact A0.refl | exact A0.drop (A0.drop A0.refl)) ?_
 exact ⟨rfl, by (cases A with | false => rfl | true => exact absurd (hA.1 rfl).1 (by omega)), rfl⟩
 refine J4 ?_
 refine B9 (K3 (fun i : Nat => ⟨[(17, .int .i64 i), (16, .int .i64 n), (15, .slice p n c), (2, .func (.func fid) ⟨us⟩ ⟨cs⟩), (1, .slice p' n' c'), (0, .slice p n c)], ins, G⟩) (fun i => i ≤ n ∧ ∀ j, j < i → q j = true) (fun i => n - i) 0 ?_ ?_ ?_)
 exact D5
 exact ⟨by omega, by omega⟩
 rintro i ⟨hi, hf⟩
 refine tS (tR ?_)
 refine sB (K1 rfl rfl) rfl rfl (fun h46 => ?_) (fun h46 => ?_)
 refine sD (nS (tS (qT rfl (tK (nS (tS ?_))))))
 refine B9 ?_
 refine tS (tR (sQ (qM rfl) rfl ?_))
 (obtain ⟨e, b, o, he, rfl, hl, _, hat, _⟩ := hsl.get (i := i) (by omega); refine sP (B0 rfl rfl rfl (by omega)) rfl rfl ?_)
 refine sL (A2 rfl rfl (hat _) hl) rfl rfl ?_
 refine sE (A5 rfl) rfl (fun b60 => ?_)
 refine sQ (qA rfl) rfl ?_
 refine O0 rfl rfl rfl (by assumption) (by assumption) rfl (by repeat first | exact Sw.here | apply Sw.there) (by exact C2 (by symm; assumption)) ?_
 refine sD (nS (tS (tR (sQ (qM rfl) rfl (sQ (qM rfl) rfl ?_)))))
 (obtain ⟨e', b', o', he', rfl, hl', _, hat', _⟩ := hsl'.get (i := i) (by omega); refine sP (B0 rfl rfl rfl (by omega)) rfl rfl ?_)
 refine sL (A2 rfl rfl (hat' _) hl') rfl rfl ?_
 refine sE (A5 rfl) rfl (fun b71 => ?_)
 refine O0 rfl rfl rfl (by assumption) (by assumption) rfl (by repeat first | exact Sw.here | apply Sw.there) (by exact C2 (by symm; assumption)) ?_
 refine sD (nS (tS (tR (sQ (qM rfl) rfl ?_))))
 refine sL (A2 rfl rfl (A6 (by repeat first | exact mH | apply mT)) (by assumption)) rfl rfl ?_
 refine sL (A2 rfl rfl (A6 (by repeat first | exact mH | apply mT)) (by assumption)) rfl rfl ?_
 refine A31 rfl rfl (hq i e e' he he') A6X rfl rfl (fun h80 => ?_) (fun h80 => ?_)
 refine D8 ?_
 refine sP (J6 rfl rfl (by omega) (by omega)) rfl rfl ?_
 refine sQ (qM rfl) rfl (sD ?_)
 refine K0 (i + 1) ?_ ?_ ?_
 exact D5
 exact ⟨by omega, fun j hj => by by_cases hji : j = i; (subst hji; assumption); exact hf j (by omega)⟩
 omega
 refine I7 ?_
 refine H4 (outs := ins) (rT rfl) (by first | exact A0.refl | exact A0.drop (A0.drop A0.refl)) ?_
 exact ⟨rfl, by (cases A with | false => rfl | true => have h0 := (hA.1 rfl).2 i (by omega); simp_all), rfl⟩
 refine I7 ?_
 refine H4 (outs := ins) (rT rfl) (by first | exact A0.refl | exact A0.drop (A0.drop A0.refl)) ?_
 exact ⟨rfl, by rw [hA.2 ⟨by omega, fun j hj => hf j (by omega)⟩], rfl⟩
theorem A1a (n lo hi : Int) (G : IM) : Fn Tryz.prog 123 [.int .i64 n, .int .i64 lo, .int .i64 hi] [] G (I0 (.bool (Q3 n lo hi)) G) := by
 refine B5 Tryz.func123 rfl Tryz.ntmps123 Tryz.results123 rfl ?_
 intro w0
 refine D7 ?_
 refine sB (A0a rfl rfl) rfl rfl (fun h10 => ?_) (fun h10 => ?_)
 refine sQ (qM rfl) rfl (sQ (qM rfl) rfl (sQ (qM rfl) rfl ?_))
 refine sB (A0a rfl rfl) rfl rfl (fun h14 => ?_) (fun h14 => ?_)
 refine I1 ?_
 exact ⟨rfl, by simp [Q3]; omega, rfl⟩
 refine I1 ?_
 exact ⟨rfl, by simp [Q3]; omega, rfl⟩
 refine H8 ?_
 exact ⟨rfl, by simp [Q3]; omega, rfl⟩
theorem A1w (k : Int) (G : IM) : Fn Tryz.prog 78 [.int .i64 k] [] G (I0 (.agg ⟨[.int .i64 k, .slice none 0 0]⟩) G) := by
 refine B5 Tryz.func78 rfl Tryz.ntmps78 Tryz.results78 rfl ?_
 intro w0
 refine tS (tR ?_)
 refine sE (A5 rfl) rfl (fun b3 => ?_)
 refine H8 ?_
 refine E2 (rC rfl (A3 rfl rfl)) ?_
 exact ⟨rfl, rfl, rfl⟩
theorem B1y (n : Int) (G : IM) : Fn Tryz.prog 90 [.int .i64 n] [] G (I0 (.bool (Y3 n)) G) := by
 refine B5 Tryz.func90 rfl Tryz.ntmps90 Tryz.results90 rfl ?_
 intro w0
 refine D8 ?_
 refine F9 rfl (A1a _ _ _ _) rfl rfl (fun h9 => ?_) (fun h9 => ?_)
 refine D7 ?_
 exact ⟨rfl, by simp [Y3, *], rfl⟩
 refine sQ (qM rfl) rfl (sQ (qM rfl) rfl ?_)
 refine F9 rfl (A1a _ _ _ _) rfl rfl (fun h22 => ?_) (fun h22 => ?_)
 refine I1 ?_
 exact ⟨rfl, by simp [Y3, *], rfl⟩
 refine I1 ?_
 exact ⟨rfl, by simp [Y3, *], rfl⟩
theorem A7G (t : Ty) (G : IM) (cells : List Value) (hr : B3 G t cells) : Fn Tryz.prog 172 [.agg ⟨cells⟩] [] G (I0 (.bool (X2 t)) G) := by
 obtain ⟨p, c, es, rfl, hk, hsl, hkl⟩ := hr.open
 refine B5 Tryz.func172 rfl Tryz.ntmps172 Tryz.results172 rfl ?_
 intro w0
 refine tS (tR ?_)
 refine sE (C0 rfl rfl) rfl (fun b3 => ?_)
 refine D0 ?_
 refine sB (qE rfl rfl) rfl rfl (fun h11 => ?_) (fun h11 => ?_)
 refine I8 ?_
 refine sB (qE rfl rfl) rfl rfl (fun h16 => ?_) (fun h16 => ?_)
 refine I1 ?_
 exact ⟨rfl, by simp only [X2]; (first | rw [decide_eq_true (by omega)] | rw [decide_eq_false (by omega)]), rfl⟩
 refine I1 ?_
 exact ⟨rfl, by simp only [X2]; (first | rw [decide_eq_true (by omega)] | rw [decide_eq_false (by omega)]), rfl⟩
 refine J7 ?_
 exact ⟨rfl, by simp only [X2]; (first | rw [decide_eq_true (by omega)] | rw [decide_eq_false (by omega)]), rfl⟩
theorem B1z (s : ByteArray) (G : IM) : Fn Tryz.prog 171 [.string s] [] G (I0 (.bool (X3 s)) G) := by
 refine B5 Tryz.func171 rfl Tryz.ntmps171 Tryz.results171 rfl ?_
 intro w0
 refine D8 ?_
 refine sQ (A12 rfl rfl) rfl (sB (qE rfl rfl) rfl rfl (fun h10 => ?_) (fun h10 => ?_))
 refine sQ (qM rfl) rfl (sQ (qM rfl) rfl ?_)
 refine sP (A3R rfl rfl rfl (by omega) (A33 (by omega))) rfl rfl ?_
 refine sB (A0R rfl rfl) rfl rfl (fun h14 => ?_) (fun h14 => ?_)
 refine sQ (H9 rfl rfl) rfl (sQ (qM rfl) rfl (sQ (qM rfl) rfl ?_))
 refine sP (A3R rfl rfl rfl (by omega) (A33 (by omega))) rfl rfl ?_
 refine sB (A0a rfl rfl) rfl rfl (fun h19 => ?_) (fun h19 => ?_)
 refine I1 ?_
 exact ⟨rfl, by simp only [X3]; (try simp only [Int.toNat_zero] at *); (first | rw [decide_eq_true (by omega)] | rw [decide_eq_false (by omega)]), rfl⟩
 refine I1 ?_
 exact ⟨rfl, by simp only [X3]; (try simp only [Int.toNat_zero] at *); (first | rw [decide_eq_true (by omega)] | rw [decide_eq_false (by omega)]), rfl⟩
 refine J7 ?_
 exact ⟨rfl, by simp only [X3]; (try simp only [Int.toNat_zero] at *); (first | rw [decide_eq_true (by omega)] | rw [decide_eq_false (by omega)]), rfl⟩
 refine I7 ?_
 exact ⟨rfl, by simp only [X3]; (try simp only [Int.toNat_zero] at *); (first | rw [decide_eq_true (by omega)] | rw [decide_eq_false (by omega)]), rfl⟩
theorem A3m (G : IM) (e : List Value) (d : Int) (b : Bool) (bd : Nat) (hl : e.length = 2) (hd : 0 ≤ d ∧ d ≤ 5) (h : Fn Tryz.prog 164 [.agg ⟨e⟩, .int .i64 (d + 1)] [] G (I0 (.bool b) G)) :
  Fn Tryz.prog 214 [.agg ⟨e⟩, .pointer (some ⟨bd, 0, none⟩)] [.blk bd [.int .i64 d]] G (U0 (.bool (!b)) [.blk bd [.int .i64 d]] G) := by
 refine B5 Tryz.func214 rfl Tryz.ntmps214 Tryz.results214 rfl ?_
 intro w0
 refine tS (tR ?_)
 refine sE (C0 rfl rfl) rfl (fun b3 => ?_)
 refine sQ (qA rfl) rfl (sD (nS (tS (tR ?_))))
 refine sL (A2 rfl rfl (A6 (by repeat first | exact mH | apply mT)) (by assumption)) rfl rfl ?_
 refine sL (B7 rfl rfl) rfl rfl ?_
 refine sP (J6 rfl rfl (by omega) (by omega)) rfl rfl ?_
 refine F9 rfl (h) rfl rfl (fun h12 => ?_) (fun h12 => ?_)
 refine sQ (S6 rfl) rfl (sQ (qA rfl) rfl (sD (nS (tT ?_))))
 refine H4 (rT rfl) (A0.cons (Pk.there Pk.here) A0.nil) ?_
 exact ⟨rfl, by simp [*], rfl⟩
 refine sQ (Z9 rfl) rfl (sQ (qA rfl) rfl (sD (nS (tT ?_))))
 refine H4 (rT rfl) (A0.cons (Pk.there Pk.here) A0.nil) ?_
 exact ⟨rfl, by simp [*], rfl⟩
theorem B1A : ∀ (t : Ty) (d : Int) (G : IM) (cells : List Value), 0 ≤ d ∧ d ≤ 5 → B3 G t cells →
  Fn Tryz.prog 164 [.agg ⟨cells⟩, .int .i64 d] [] G (I0 (.bool (L6 t d)) G) := by
 refine Ty.ind fun k ks ih d G cells hd hr => ?_
 obtain ⟨p, c, es, rfl, hk, hsl, hkl⟩ := hr.open
 simp only [Ty.k, Ty.ks] at hk hsl hkl ⊢
 have hn := hsl.le
 obtain ⟨A, hA⟩ : ∃ A, ks.all (L6 · (d + 1)) = A := ⟨_, rfl⟩
 refine B5 Tryz.func164 rfl Tryz.ntmps164 Tryz.results164 rfl ?_
 intro w0
 refine tS (tR ?_)
 refine sE (C0 rfl rfl) rfl (fun b3 => ?_)
 (refine J5 (B0z rfl rfl rfl) rfl ?_; rintro _ ⟨b4, rfl⟩)
 refine I7 ?_
 refine B9 (tS (tS (tR (sB (qE rfl rfl) rfl rfl (fun h24 => ?_) (fun h24 => ?_)))))
 refine I7 ?_
 refine sB (A0a rfl rfl) rfl rfl (fun h40 => ?_) (fun h40 => ?_)
 refine P6 ?_
 refine sB (qE rfl rfl) rfl rfl (fun h46 => ?_) (fun h46 => ?_)
 refine I8 ?_
 refine sQ (A13 rfl rfl) rfl (A3g rfl (A3l _ _ _ _ _ hsl _ [] _ [.blk b4 [.int .i64 d]] (L6 · (d + 1)) ks rfl hA (fun i e he => A3m _ _ _ _ _ (hsl.all e (List.mem_of_getElem? he)) hd (ih _ (hkl.inv he B1).1 _ _ _ (by omega) (hkl.inv he B1).2))) A0t rfl rfl (fun h52 => ?_) (fun h52 => ?_))
 simp only [Bool.not_eq_true', Bool.not_eq_false'] at h52
 refine D0 ?_
 exact ⟨rfl, by (rw [L6, U7, hA]; have := N1 k; first | (rw [decide_eq_true (by omega), decide_eq_true (by omega)]; simp only [*]; done) | (rw [decide_eq_true (by omega), decide_eq_true (by omega)]; simp only [*]; rfl) | (rw [decide_eq_false (by omega)]; rfl) | (rw [decide_eq_true (by omega), decide_eq_false (by omega)]; rfl)), rfl⟩
 simp only [Bool.not_eq_true', Bool.not_eq_false'] at h52
 refine D0 ?_
 exact ⟨rfl, by (rw [L6, U7, hA]; have := N1 k; first | (rw [decide_eq_true (by omega), decide_eq_true (by omega)]; simp only [*]; done) | (rw [decide_eq_true (by omega), decide_eq_true (by omega)]; simp only [*]; rfl) | (rw [decide_eq_false (by omega)]; rfl) | (rw [decide_eq_true (by omega), decide_eq_false (by omega)]; rfl)), rfl⟩
 refine J4 ?_
 exact ⟨rfl, by (rw [L6, U7, hA]; have := N1 k; first | (rw [decide_eq_true (by omega), decide_eq_true (by omega)]; simp only [*]; done) | (rw [decide_eq_true (by omega), decide_eq_true (by omega)]; simp only [*]; rfl) | (rw [decide_eq_false (by omega)]; rfl) | (rw [decide_eq_true (by omega), decide_eq_false (by omega)]; rfl)), rfl⟩
 refine A0b ?_
 exact ⟨rfl, by (rw [L6, U7, hA]; have := N1 k; first | (rw [decide_eq_true (by omega), decide_eq_true (by omega)]; simp only [*]; done) | (rw [decide_eq_true (by omega), decide_eq_true (by omega)]; simp only [*]; rfl) | (rw [decide_eq_false (by omega)]; rfl) | (rw [decide_eq_true (by omega), decide_eq_false (by omega)]; rfl)), rfl⟩
 refine sQ (qA rfl) rfl (sD (nS (cF rfl (tS (tR ?_)))))
 refine sB (qE rfl rfl) rfl rfl (fun h109 => ?_) (fun h109 => ?_)
 refine I7 ?_
 refine sB (A0a rfl rfl) rfl rfl (fun h125 => ?_) (fun h125 => ?_)
 refine P6 ?_
 refine sB (qE rfl rfl) rfl rfl (fun h131 => ?_) (fun h131 => ?_)
 refine I8 ?_
 refine sQ (A13 rfl rfl) rfl (A3g rfl (A3l _ _ _ _ _ hsl _ [] _ [.blk b4 [.int .i64 d]] (L6 · (d + 1)) ks rfl hA (fun i e he => A3m _ _ _ _ _ (hsl.all e (List.mem_of_getElem? he)) hd (ih _ (hkl.inv he B1).1 _ _ _ (by omega) (hkl.inv he B1).2))) A0t rfl rfl (fun h137 => ?_) (fun h137 => ?_))
 simp only [Bool.not_eq_true', Bool.not_eq_false'] at h137
 refine D0 ?_
 exact ⟨rfl, by (rw [L6, U7, hA]; have := N1 k; first | (rw [decide_eq_true (by omega), decide_eq_true (by omega)]; simp only [*]; done) | (rw [decide_eq_true (by omega), decide_eq_true (by omega)]; simp only [*]; rfl) | (rw [decide_eq_false (by omega)]; rfl) | (rw [decide_eq_true (by omega), decide_eq_false (by omega)]; rfl)), rfl⟩
 simp only [Bool.not_eq_true', Bool.not_eq_false'] at h137
 refine D0 ?_
 exact ⟨rfl, by (rw [L6, U7, hA]; have := N1 k; first | (rw [decide_eq_true (by omega), decide_eq_true (by omega)]; simp only [*]; done) | (rw [decide_eq_true (by omega), decide_eq_true (by omega)]; simp only [*]; rfl) | (rw [decide_eq_false (by omega)]; rfl) | (rw [decide_eq_true (by omega), decide_eq_false (by omega)]; rfl)), rfl⟩
 refine J4 ?_
 exact ⟨rfl, by (rw [L6, U7, hA]; have := N1 k; first | (rw [decide_eq_true (by omega), decide_eq_true (by omega)]; simp only [*]; done) | (rw [decide_eq_true (by omega), decide_eq_true (by omega)]; simp only [*]; rfl) | (rw [decide_eq_false (by omega)]; rfl) | (rw [decide_eq_true (by omega), decide_eq_false (by omega)]; rfl)), rfl⟩
 refine A0b ?_
 exact ⟨rfl, by (rw [L6, U7, hA]; have := N1 k; first | (rw [decide_eq_true (by omega), decide_eq_true (by omega)]; simp only [*]; done) | (rw [decide_eq_true (by omega), decide_eq_true (by omega)]; simp only [*]; rfl) | (rw [decide_eq_false (by omega)]; rfl) | (rw [decide_eq_true (by omega), decide_eq_false (by omega)]; rfl)), rfl⟩
 refine sQ (qA rfl) rfl (sD (nS (cF rfl (tR ?_))))
 refine sB (qE rfl rfl) rfl rfl (fun h193 => ?_) (fun h193 => ?_)
 refine M9 ?_
 refine sB (A0a rfl rfl) rfl rfl (fun h206 => ?_) (fun h206 => ?_)
 refine P6 ?_
 refine sB (qE rfl rfl) rfl rfl (fun h212 => ?_) (fun h212 => ?_)
 refine I8 ?_
 refine sQ (A13 rfl rfl) rfl (A3g rfl (A3l _ _ _ _ _ hsl _ [] _ [.blk b4 [.int .i64 d]] (L6 · (d + 1)) ks rfl hA (fun i e he => A3m _ _ _ _ _ (hsl.all e (List.mem_of_getElem? he)) hd (ih _ (hkl.inv he B1).1 _ _ _ (by omega) (hkl.inv he B1).2))) A0t rfl rfl (fun h218 => ?_) (fun h218 => ?_))
 simp only [Bool.not_eq_true', Bool.not_eq_false'] at h218
 refine D0 ?_
 exact ⟨rfl, by (rw [L6, U7, hA]; have := N1 k; first | (rw [decide_eq_true (by omega), decide_eq_true (by omega)]; simp only [*]; done) | (rw [decide_eq_true (by omega), decide_eq_true (by omega)]; simp only [*]; rfl) | (rw [decide_eq_false (by omega)]; rfl) | (rw [decide_eq_true (by omega), decide_eq_false (by omega)]; rfl)), rfl⟩
 simp only [Bool.not_eq_true', Bool.not_eq_false'] at h218
 refine D0 ?_
 exact ⟨rfl, by (rw [L6, U7, hA]; have := N1 k; first | (rw [decide_eq_true (by omega), decide_eq_true (by omega)]; simp only [*]; done) | (rw [decide_eq_true (by omega), decide_eq_true (by omega)]; simp only [*]; rfl) | (rw [decide_eq_false (by omega)]; rfl) | (rw [decide_eq_true (by omega), decide_eq_false (by omega)]; rfl)), rfl⟩
 refine J4 ?_
 exact ⟨rfl, by (rw [L6, U7, hA]; have := N1 k; first | (rw [decide_eq_true (by omega), decide_eq_true (by omega)]; simp only [*]; done) | (rw [decide_eq_true (by omega), decide_eq_true (by omega)]; simp only [*]; rfl) | (rw [decide_eq_false (by omega)]; rfl) | (rw [decide_eq_true (by omega), decide_eq_false (by omega)]; rfl)), rfl⟩
 refine A0b ?_
 exact ⟨rfl, by (rw [L6, U7, hA]; have := N1 k; first | (rw [decide_eq_true (by omega), decide_eq_true (by omega)]; simp only [*]; done) | (rw [decide_eq_true (by omega), decide_eq_true (by omega)]; simp only [*]; rfl) | (rw [decide_eq_false (by omega)]; rfl) | (rw [decide_eq_true (by omega), decide_eq_false (by omega)]; rfl)), rfl⟩
 refine sQ (qA rfl) rfl (sD (nS (cF rfl (tS (tS (tR ?_))))))
 refine sB (qE rfl rfl) rfl rfl (fun h276 => ?_) (fun h276 => ?_)
 refine I7 ?_
 refine sB (A0a rfl rfl) rfl rfl (fun h292 => ?_) (fun h292 => ?_)
 refine P6 ?_
 refine sB (qE rfl rfl) rfl rfl (fun h298 => ?_) (fun h298 => ?_)
 refine I8 ?_
 refine sQ (A13 rfl rfl) rfl (A3g rfl (A3l _ _ _ _ _ hsl _ [] _ [.blk b4 [.int .i64 d]] (L6 · (d + 1)) ks rfl hA (fun i e he => A3m _ _ _ _ _ (hsl.all e (List.mem_of_getElem? he)) hd (ih _ (hkl.inv he B1).1 _ _ _ (by omega) (hkl.inv he B1).2))) A0t rfl rfl (fun h304 => ?_) (fun h304 => ?_))
 simp only [Bool.not_eq_true', Bool.not_eq_false'] at h304
 refine D0 ?_
 exact ⟨rfl, by (rw [L6, U7, hA]; have := N1 k; first | (rw [decide_eq_true (by omega), decide_eq_true (by omega)]; simp only [*]; done) | (rw [decide_eq_true (by omega), decide_eq_true (by omega)]; simp only [*]; rfl) | (rw [decide_eq_false (by omega)]; rfl) | (rw [decide_eq_true (by omega), decide_eq_false (by omega)]; rfl)), rfl⟩
 simp only [Bool.not_eq_true', Bool.not_eq_false'] at h304
 refine D0 ?_
 exact ⟨rfl, by (rw [L6, U7, hA]; have := N1 k; first | (rw [decide_eq_true (by omega), decide_eq_true (by omega)]; simp only [*]; done) | (rw [decide_eq_true (by omega), decide_eq_true (by omega)]; simp only [*]; rfl) | (rw [decide_eq_false (by omega)]; rfl) | (rw [decide_eq_true (by omega), decide_eq_false (by omega)]; rfl)), rfl⟩
 refine J4 ?_
 exact ⟨rfl, by (rw [L6, U7, hA]; have := N1 k; first | (rw [decide_eq_true (by omega), decide_eq_true (by omega)]; simp only [*]; done) | (rw [decide_eq_true (by omega), decide_eq_true (by omega)]; simp only [*]; rfl) | (rw [decide_eq_false (by omega)]; rfl) | (rw [decide_eq_true (by omega), decide_eq_false (by omega)]; rfl)), rfl⟩
 refine A0b ?_
 exact ⟨rfl, by (rw [L6, U7, hA]; have := N1 k; first | (rw [decide_eq_true (by omega), decide_eq_true (by omega)]; simp only [*]; done) | (rw [decide_eq_true (by omega), decide_eq_true (by omega)]; simp only [*]; rfl) | (rw [decide_eq_false (by omega)]; rfl) | (rw [decide_eq_true (by omega), decide_eq_false (by omega)]; rfl)), rfl⟩
 refine sQ (qA rfl) rfl (sD (nS (cF rfl (tR ?_))))
 refine sB (qE rfl rfl) rfl rfl (fun h360 => ?_) (fun h360 => ?_)
 refine M9 ?_
 refine sB (A0a rfl rfl) rfl rfl (fun h373 => ?_) (fun h373 => ?_)
 refine P6 ?_
 refine sB (qE rfl rfl) rfl rfl (fun h379 => ?_) (fun h379 => ?_)
 refine I8 ?_
 refine sQ (A13 rfl rfl) rfl (A3g rfl (A3l _ _ _ _ _ hsl _ [] _ [.blk b4 [.int .i64 d]] (L6 · (d + 1)) ks rfl hA (fun i e he => A3m _ _ _ _ _ (hsl.all e (List.mem_of_getElem? he)) hd (ih _ (hkl.inv he B1).1 _ _ _ (by omega) (hkl.inv he B1).2))) A0t rfl rfl (fun h385 => ?_) (fun h385 => ?_))
 simp only [Bool.not_eq_true', Bool.not_eq_false'] at h385
 refine D0 ?_
 exact ⟨rfl, by (rw [L6, U7, hA]; have := N1 k; first | (rw [decide_eq_true (by omega), decide_eq_true (by omega)]; simp only [*]; done) | (rw [decide_eq_true (by omega), decide_eq_true (by omega)]; simp only [*]; rfl) | (rw [decide_eq_false (by omega)]; rfl) | (rw [decide_eq_true (by omega), decide_eq_false (by omega)]; rfl)), rfl⟩
 simp only [Bool.not_eq_true', Bool.not_eq_false'] at h385
 refine D0 ?_
 exact ⟨rfl, by (rw [L6, U7, hA]; have := N1 k; first | (rw [decide_eq_true (by omega), decide_eq_true (by omega)]; simp only [*]; done) | (rw [decide_eq_true (by omega), decide_eq_true (by omega)]; simp only [*]; rfl) | (rw [decide_eq_false (by omega)]; rfl) | (rw [decide_eq_true (by omega), decide_eq_false (by omega)]; rfl)), rfl⟩
 refine J4 ?_
 exact ⟨rfl, by (rw [L6, U7, hA]; have := N1 k; first | (rw [decide_eq_true (by omega), decide_eq_true (by omega)]; simp only [*]; done) | (rw [decide_eq_true (by omega), decide_eq_true (by omega)]; simp only [*]; rfl) | (rw [decide_eq_false (by omega)]; rfl) | (rw [decide_eq_true (by omega), decide_eq_false (by omega)]; rfl)), rfl⟩
 refine A0b ?_
 exact ⟨rfl, by (rw [L6, U7, hA]; have := N1 k; first | (rw [decide_eq_true (by omega), decide_eq_true (by omega)]; simp only [*]; done) | (rw [decide_eq_true (by omega), decide_eq_true (by omega)]; simp only [*]; rfl) | (rw [decide_eq_false (by omega)]; rfl) | (rw [decide_eq_true (by omega), decide_eq_false (by omega)]; rfl)), rfl⟩
 refine H8 ?_
 refine sB (A0a rfl rfl) rfl rfl (fun h446 => ?_) (fun h446 => ?_)
 refine P6 ?_
 refine sP (E4 rfl rfl (by omega)) rfl rfl ?_
 refine J4 ?_
 exact ⟨rfl, by (rw [L6, U7, hA]; have := N1 k; first | (rw [decide_eq_true (by omega), decide_eq_true (by omega)]; simp only [*]; done) | (rw [decide_eq_true (by omega), decide_eq_true (by omega)]; simp only [*]; rfl) | (rw [decide_eq_false (by omega)]; rfl) | (rw [decide_eq_true (by omega), decide_eq_false (by omega)]; rfl)), rfl⟩
 refine A0b ?_
 exact ⟨rfl, by (rw [L6, U7, hA]; have := N1 k; first | (rw [decide_eq_true (by omega), decide_eq_true (by omega)]; simp only [*]; done) | (rw [decide_eq_true (by omega), decide_eq_true (by omega)]; simp only [*]; rfl) | (rw [decide_eq_false (by omega)]; rfl) | (rw [decide_eq_true (by omega), decide_eq_false (by omega)]; rfl)), rfl⟩
theorem A4a (t : Ty) (G : IM) (cells : List Value) (hr : B3 G t cells) : Fn Tryz.prog 118 [.agg ⟨cells⟩] [] G (I0 (.bool (M1 t)) G) := by
 have hl := hr.len
 have hv := B1A t 1 G cells (by omega) hr
 refine B5 Tryz.func118 rfl Tryz.ntmps118 Tryz.results118 rfl ?_
 intro w0
 refine tS (tR ?_)
 refine sE (C0 rfl rfl) rfl (fun b3 => ?_)
 refine sQ (qA rfl) rfl (sD (nS (tS (tR ?_))))
 refine sL (A2 rfl rfl (A6 (by repeat first | exact mH | apply mT)) (by assumption)) rfl rfl ?_
 refine E8 rfl (hv) rfl rfl ?_
 refine sQ (qA rfl) rfl (sD (nS (tT (E2 (rT rfl) ?_))))
 exact ⟨rfl, rfl, rfl⟩
theorem Y4 : ∀ (t t' : Ty) (G : IM) (cells cells' : List Value), B3 G t cells → B3 G t' cells' →
  Fn Tryz.prog 162 [.agg ⟨cells⟩, .agg ⟨cells'⟩] [] G (I0 (.bool (O9 t t')) G) := by
 refine Ty.ind fun k ks ih t' G cells cells' hr hr' => ?_
 obtain ⟨k', ks'⟩ := t'
 obtain ⟨p, c, es, rfl, hk, hsl, hkl⟩ := hr.open
 obtain ⟨p', c', es', rfl, hk', hsl', hkl'⟩ := hr'.open
 simp only [Ty.k, Ty.ks] at hk hsl hkl hk' hsl' hkl' ⊢
 have hn := hsl.le
 have hn' := hsl'.le
 obtain ⟨A, hA⟩ : ∃ A, U1 ks ks' = A := ⟨_, rfl⟩
 have hA' : A = true ↔ ks.length = ks'.length ∧ ∀ i, i < ks.length → O9 (ks.getD i B1) (ks'.getD i B1) = true := by
  rw [← hA, A19]
  constructor
  ·rintro ⟨h1, h2⟩
   refine ⟨h1, fun i hi => ?_⟩
   have := h2 i hi (by omega)
   simpa [List.getD_eq_getElem?_getD, List.getElem?_eq_getElem hi, List.getElem?_eq_getElem (show i < ks'.length by omega)] using this
  ·rintro ⟨h1, h2⟩
   refine ⟨h1, fun i hi hi' => ?_⟩
   have := h2 i hi
   simpa [List.getD_eq_getElem?_getD, List.getElem?_eq_getElem hi, List.getElem?_eq_getElem hi'] using this
 refine B5 Tryz.func162 rfl Tryz.ntmps162 Tryz.results162 rfl ?_
 intro w0
 refine tS (tR ?_)
 refine sE (C0 rfl rfl) rfl (fun b3 => ?_)
 refine sE (C0 rfl rfl) rfl (fun b4 => ?_)
 refine D0 ?_
 refine sB (qE rfl rfl) rfl rfl (fun h12 => ?_) (fun h12 => ?_)
 refine A2A ?_
 exact ⟨rfl, by (rw [V2, hA]; first | (rw [decide_eq_true (p := k = 1) (by omega)]; rfl) | (rw [decide_eq_false (p := k = 1) (by omega), decide_eq_true (p := k' = 1) (by omega)]; rfl) | (rw [decide_eq_false (p := k = 1) (by omega), decide_eq_false (p := k' = 1) (by omega), decide_eq_false (p := k = k') (by omega)]; rfl) | (rw [decide_eq_false (p := k = 1) (by omega), decide_eq_false (p := k' = 1) (by omega), decide_eq_true (p := k = k') (by omega)]; simp only [*]; rfl)), rfl⟩
 refine I6 ?_
 refine sB (qE rfl rfl) rfl rfl (fun h41 => ?_) (fun h41 => ?_)
 refine Y9 ?_
 exact ⟨rfl, by (rw [V2, hA]; first | (rw [decide_eq_true (p := k = 1) (by omega)]; rfl) | (rw [decide_eq_false (p := k = 1) (by omega), decide_eq_true (p := k' = 1) (by omega)]; rfl) | (rw [decide_eq_false (p := k = 1) (by omega), decide_eq_false (p := k' = 1) (by omega), decide_eq_false (p := k = k') (by omega)]; rfl) | (rw [decide_eq_false (p := k = 1) (by omega), decide_eq_false (p := k' = 1) (by omega), decide_eq_true (p := k = k') (by omega)]; simp only [*]; rfl)), rfl⟩
 refine I1 ?_
 refine sB (qE rfl rfl) rfl rfl (fun h69 => ?_) (fun h69 => ?_)
 refine P6 ?_
 refine F9 rfl (A5o _ _ _ _ _ _ _ _ _ hsl hsl' _ [] [] [] (fun i => O9 (ks.getD i B1) (ks'.getD i B1)) A hA' (fun i e e' he he' => ih _ (hkl.inv he B1).1 _ _ _ _ (hkl.inv he B1).2 (hkl'.inv he' B1).2)) rfl rfl (fun h75 => ?_) (fun h75 => ?_)
 refine D0 ?_
 exact ⟨rfl, by (rw [V2, hA]; first | (rw [decide_eq_true (p := k = 1) (by omega)]; rfl) | (rw [decide_eq_false (p := k = 1) (by omega), decide_eq_true (p := k' = 1) (by omega)]; rfl) | (rw [decide_eq_false (p := k = 1) (by omega), decide_eq_false (p := k' = 1) (by omega), decide_eq_false (p := k = k') (by omega)]; rfl) | (rw [decide_eq_false (p := k = 1) (by omega), decide_eq_false (p := k' = 1) (by omega), decide_eq_true (p := k = k') (by omega)]; simp only [*]; rfl)), rfl⟩
 refine D0 ?_
 exact ⟨rfl, by (rw [V2, hA]; first | (rw [decide_eq_true (p := k = 1) (by omega)]; rfl) | (rw [decide_eq_false (p := k = 1) (by omega), decide_eq_true (p := k' = 1) (by omega)]; rfl) | (rw [decide_eq_false (p := k = 1) (by omega), decide_eq_false (p := k' = 1) (by omega), decide_eq_false (p := k = k') (by omega)]; rfl) | (rw [decide_eq_false (p := k = 1) (by omega), decide_eq_false (p := k' = 1) (by omega), decide_eq_true (p := k = k') (by omega)]; simp only [*]; rfl)), rfl⟩
 refine J4 ?_
 exact ⟨rfl, by (rw [V2, hA]; first | (rw [decide_eq_true (p := k = 1) (by omega)]; rfl) | (rw [decide_eq_false (p := k = 1) (by omega), decide_eq_true (p := k' = 1) (by omega)]; rfl) | (rw [decide_eq_false (p := k = 1) (by omega), decide_eq_false (p := k' = 1) (by omega), decide_eq_false (p := k = k') (by omega)]; rfl) | (rw [decide_eq_false (p := k = 1) (by omega), decide_eq_false (p := k' = 1) (by omega), decide_eq_true (p := k = k') (by omega)]; simp only [*]; rfl)), rfl⟩
theorem B1B (t t' : Ty) (G : IM) (cells cells' : List Value) (hr : B3 G t cells) (hr' : B3 G t' cells') :
  Fn Tryz.prog 173 [.agg ⟨cells⟩, .agg ⟨cells'⟩] [] G (I0 (.bool (A0D t t')) G) := by
 have hl := hr.len
 have hl' := hr'.len
 have hv := A4a t G cells hr
 have hv' := A4a t' G cells' hr'
 have hc := Y4 t t' G cells cells' hr hr'
 refine B5 Tryz.func173 rfl Tryz.ntmps173 Tryz.results173 rfl ?_
 intro w0
 refine tS (tR ?_)
 refine sE (C0 rfl rfl) rfl (fun b3 => ?_)
 refine sE (C0 rfl rfl) rfl (fun b4 => ?_)
 refine sQ (qA rfl) rfl (sD (nS (tS (tR ?_))))
 refine sL (A2 rfl rfl (A6 (by repeat first | exact mH | apply mT)) (by assumption)) rfl rfl ?_
 refine F9 rfl (hv) rfl rfl (fun h11 => ?_) (fun h11 => ?_)
 refine sQ (qM rfl) rfl ?_
 refine sL (A2 rfl rfl (A6 (by repeat first | exact mH | apply mT)) (by assumption)) rfl rfl ?_
 refine F9 rfl (hv') rfl rfl (fun h14 => ?_) (fun h14 => ?_)
 refine sQ (H9 rfl rfl) rfl (sQ (qM rfl) rfl ?_)
 refine sL (A2 rfl rfl (A6 (by repeat first | exact mH | apply mT)) (by assumption)) rfl rfl ?_
 refine sL (A2 rfl rfl (A6 (by repeat first | exact mH | apply mT)) (by assumption)) rfl rfl ?_
 refine F9 rfl (hc) rfl rfl (fun h19 => ?_) (fun h19 => ?_)
 refine I1 ?_
 exact ⟨rfl, by simp only [A0D]; simp only [*, Bool.true_and, Bool.false_and, Bool.and_true], rfl⟩
 refine I1 ?_
 exact ⟨rfl, by simp only [A0D]; simp only [*, Bool.true_and, Bool.false_and, Bool.and_true], rfl⟩
 refine J7 ?_
 exact ⟨rfl, by simp only [A0D]; simp only [*, Bool.true_and, Bool.false_and, Bool.and_true], rfl⟩
 refine L1 ?_
 exact ⟨rfl, by simp only [A0D]; simp only [*, Bool.true_and, Bool.false_and, Bool.and_true], rfl⟩
end Gw
end Go.Proofs.YtfpgncjeejickaaGreatDoor
