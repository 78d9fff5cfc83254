/-
  The data of the program: types and terms as trees, and how they lie in memory. What the functions of the program compute, in plain words over trees. Terms in memory of their own; slices that were made, filled and given up. The laws' mark texts: the letter m and a number's digits. Lists of paths: what they are in plain words, and how fresh ones lie in memory. The laws' comparisons, at data that are the same. Data that the call owns, block by block: what the laws' marking writes. The laws' marking of types. The laws' marking of terms. The laws' marking of terms and paths, and the reading of the marks. The laws' measure of arguments. Arguments that can be read as data lie in memory as trees do; a law that answers true in memory that was there before meets its row. strconv.Itoa of a number from 0 to 999 is its decimal digits, where the library's table lies as it was laid. The library's tables as the rows list them. Slices of numbers read as arguments. The reference model's source of numbers: each draw stays in its bounds. Slices of bytes read as arguments. The laws' copies of types and terms. Fresh data taken back into the call's own hands, and given up again; sizes. Copies of types and terms: the reference model's, the program's, the laws' of paths. Terms each node of which is changed, operands first; own copies. The functions on types and the small tests of terms: each computes what the plain words say. The scans of types: typeScan, TypeValid, consistent, Consistent.
-/
import Derived.Test.YtfpgncjeejickaaGreatDoorKa0
import Derived.Laws.BytesArg
import Derived.WalkKit
import Derived.ProofKit
import Derived.OpenShut
import Derived.Carry
import Derived.Test.YtfpgncjeejickaaGreatDoorShelf
import Derived.Test.YtfpgncjeejickaaGreatDoorRows
import Derived.Deep.DeepHandedRow
import Derived.Lib.LaidTab
import Derived.Stop.LaidErr
set_option linter.unusedVariables false
set_option linter.unusedSimpArgs false
set_option maxHeartbeats 0
set_option maxRecDepth 100000
set_option synthInstance.maxSize 4000
set_option synthInstance.maxHeartbeats 0
namespace Go.Proofs.YtfpgncjeejickaaGreatDoor
open Go Go.RowKit
namespace Gw

structure C9 (G : IM) (p : Option Addr) (n c sz : Nat) (es : List (List Value)) : Prop where
 sl : Sl G p n c sz es.flatten
 len : es.length = n
 all : ∀ e ∈ es, e.length = sz
 one : ∀ e ∈ es, e.all (·.oneCell') = true

theorem C9.mono {G G' : IM} {p : Option Addr} {n c sz : Nat} {es : List (List Value)} (h : C9 G p n c sz es) (hg : B8 G G') : C9 G' p n c sz es := ⟨h.sl.mono hg, h.len, h.all, h.one⟩
theorem C9.nil (G : IM) (sz : Nat) : C9 G none 0 0 sz [] := ⟨Sl.nil G sz, rfl, by simp, by simp⟩

theorem A7F {sz : Nat} : ∀ {es : List (List Value)}, (∀ e ∈ es, e.length = sz) → ∀ {i : Nat} {e : List Value}, es[i]? = some e → ∀ j v, e[j]? = some v → es.flatten[i * sz + j]? = some v
 | [], _, i, e, h, _, _, _ => by simp at h
 | a :: r, hall, 0, e, h, j, v, hv => by
  simp at h; subst h
  have : j < a.length := (List.getElem?_eq_some_iff.1 hv).1
  simp [List.getElem?_append, this]
  simpa [List.getElem?_eq_getElem this] using hv
 | a :: r, hall, i + 1, e, h, j, v, hv => by
  have ih := A7F (es := r) (fun x hx => hall x (List.mem_cons_of_mem _ hx)) (i := i) (e := e) (by simpa using h) j v hv
  have ha := hall a List.mem_cons_self
  rw [List.flatten_cons, List.getElem?_append, if_neg (by rw [ha, Nat.succ_mul]; omega)]
  rw [show (i + 1) * sz + j - a.length = i * sz + j by rw [ha, Nat.succ_mul]; omega]
  exact ih

theorem C9.at {G : IM} {p : Option Addr} {n c sz : Nat} {es : List (List Value)} (h : C9 G p n c sz es) {i : Nat} {e : List Value} (hi : es[i]? = some e) :
  ∃ b o, p = some ⟨b, o, none⟩ ∧ ∀ hp, At hp G b (o + i * sz) e := by
 have hlt : i < es.length := (List.getElem?_eq_some_iff.1 hi).1
 obtain ⟨_, _, _, h4⟩ := h.sl
 have hn := h.len
 rcases h4 with h0 | ⟨b, o, full, hp, hg, hf⟩
 ·omega
 ·refine ⟨b, o, hp, fun hp => A4a hg fun j v hv => ?_⟩
  rw [Nat.add_assoc]
  exact hf _ v (A7F h.all hi j v hv)

theorem C9.get {G : IM} {p : Option Addr} {n c sz : Nat} {es : List (List Value)} (h : C9 G p n c sz es) {i : Nat} (hi : i < n) :
  ∃ e b o, es[i]? = some e ∧ p = some ⟨b, o, none⟩ ∧ e.length = sz ∧ e.all (·.oneCell') = true ∧ (∀ hp, At hp G b (o + i * sz) e) ∧ G b ≠ none := by
 have hlt : i < es.length := by rw [h.len]; exact hi
 have he : es[i]? = some es[i] := List.getElem?_eq_getElem hlt
 obtain ⟨b, o, h1, h2⟩ := h.at he
 refine ⟨es[i], b, o, he, h1, h.all _ (List.getElem_mem hlt), h.one _ (List.getElem_mem hlt), h2, ?_⟩
 obtain ⟨_, _, _, h4⟩ := h.sl
 rcases h4 with h0 | ⟨b', o', full, hp, hg, hf⟩
 ·omega
 ·rw [h1] at hp; cases hp; rw [hg]; simp
theorem C9.le {G : IM} {p : Option Addr} {n c sz : Nat} {es : List (List Value)} (h : C9 G p n c sz es) : n ≤ 9223372036854775807 := by
 have h1 := h.sl.2.1; have h2 := h.sl.2.2.1; unfold maxLen at h2; omega

theorem C9.of {G : IM} {p : Option Addr} {n c sz : Nat} {es : List (List Value)} (h : Sl G p n c sz es.flatten) (hl : es.length = n) (ha : ∀ e ∈ es, e.length = sz) (ho : ∀ e ∈ es, e.all (·.oneCell') = true) : C9 G p n c sz es := ⟨h, hl, ha, ho⟩

def E9 (n : Int) : Prop := -9223372036854775808 ≤ n ∧ n ≤ 9223372036854775807

inductive Ty where
 | mk (k : Int) (ks : List Ty)

def Ty.k : Ty → Int | .mk k _ => k
def Ty.ks : Ty → List Ty | .mk _ ks => ks

inductive Tm where
 | mk (k : Int) (nm : ByteArray) (num : Int) (ty fr : Ty) (lb : Int) (ks : List Tm)

def Tm.k : Tm → Int | .mk k _ _ _ _ _ _ => k
def Tm.nm : Tm → ByteArray | .mk _ n _ _ _ _ _ => n
def Tm.num : Tm → Int | .mk _ _ n _ _ _ _ => n
def Tm.ty : Tm → Ty | .mk _ _ _ t _ _ _ => t
def Tm.fr : Tm → Ty | .mk _ _ _ _ f _ _ => f
def Tm.lb : Tm → Int | .mk _ _ _ _ _ l _ => l
def Tm.ks : Tm → List Tm | .mk _ _ _ _ _ _ ks => ks

mutual
def Ty.small : Ty → Prop
 | .mk _ ks => ks.length ≤ 4294967296 ∧ Ty.smallL ks
def Ty.smallL : List Ty → Prop
 | [] => True
 | t :: ts => t.small ∧ Ty.smallL ts
end
mutual
def Tm.small : Tm → Prop
 | .mk _ nm _ ty fr _ ks => nm.size ≤ 4294967296 ∧ ty.small ∧ fr.small ∧ ks.length ≤ 4294967296 ∧ Tm.smallL ks
def Tm.smallL : List Tm → Prop
 | [] => True
 | t :: ts => t.small ∧ Tm.smallL ts
end
theorem Ty.smallL_mem : ∀ {ts : List Ty}, Ty.smallL ts → ∀ t ∈ ts, t.small
 | [], _, t, h => by simp at h
 | t' :: ts, h, t, ht => by
  simp only [Ty.smallL] at h
  rcases List.mem_cons.1 ht with rfl | ht
  ·exact h.1
  ·exact Ty.smallL_mem h.2 t ht
theorem Tm.smallL_mem : ∀ {ts : List Tm}, Tm.smallL ts → ∀ t ∈ ts, t.small
 | [], _, t, h => by simp at h
 | t' :: ts, h, t, ht => by
  simp only [Tm.smallL] at h
  rcases List.mem_cons.1 ht with rfl | ht
  ·exact h.1
  ·exact Tm.smallL_mem h.2 t ht

mutual
def B2 (G : IM) : Ty → List Value → Prop
 | .mk k ks, cells => ∃ p c es, cells = [.int .i64 k, .slice p ks.length c] ∧ E9 k ∧ C9 G p ks.length c 2 es ∧ E0 G ks es
def E0 (G : IM) : List Ty → List (List Value) → Prop
 | [], es => es = []
 | t :: ts, es => ∃ a r, es = a :: r ∧ B2 G t a ∧ E0 G ts r
end

mutual
def A8 (G : IM) : Tm → List Value → Prop
 | .mk k nm num ty fr lb ks, cells => ∃ tc fc p c es, cells = [.int .i64 k, .string nm, .int .i64 num] ++ tc ++ fc ++ [.int .i64 lb, .slice p ks.length c] ∧ E9 k ∧ E9 num ∧ E9 lb ∧ B2 G ty tc ∧ B2 G fr fc ∧ C9 G p ks.length c 9 es ∧ E5 G ks es
def E5 (G : IM) : List Tm → List (List Value) → Prop
 | [], es => es = []
 | t :: ts, es => ∃ a r, es = a :: r ∧ A8 G t a ∧ E5 G ts r
end

mutual
theorem B2.mono {G G' : IM} (hg : B8 G G') : ∀ {t : Ty} {cells : List Value}, B2 G t cells → B2 G' t cells
 | .mk k ks, cells, h => by
  simp only [B2] at h ⊢
  obtain ⟨p, c, es, h1, h2, h3, h4⟩ := h
  exact ⟨p, c, es, h1, h2, h3.mono hg, E0.mono hg h4⟩
theorem E0.mono {G G' : IM} (hg : B8 G G') : ∀ {ts : List Ty} {es : List (List Value)}, E0 G ts es → E0 G' ts es
 | [], es, h => by simpa only [E0] using h
 | t :: ts, es, h => by
  simp only [E0] at h ⊢
  obtain ⟨a, r, h1, h2, h3⟩ := h
  exact ⟨a, r, h1, B2.mono hg h2, E0.mono hg h3⟩
end
mutual
theorem A8.mono {G G' : IM} (hg : B8 G G') : ∀ {t : Tm} {cells : List Value}, A8 G t cells → A8 G' t cells
 | .mk k nm num ty fr lb ks, cells, h => by
  simp only [A8] at h ⊢
  obtain ⟨tc, fc, p, c, es, h1, h2, h3, h4, h5, h6, h7, h8⟩ := h
  exact ⟨tc, fc, p, c, es, h1, h2, h3, h4, h5.mono hg, h6.mono hg, h7.mono hg, E5.mono hg h8⟩
theorem E5.mono {G G' : IM} (hg : B8 G G') : ∀ {ts : List Tm} {es : List (List Value)}, E5 G ts es → E5 G' ts es
 | [], es, h => by simpa only [E5] using h
 | t :: ts, es, h => by
  simp only [E5] at h ⊢
  obtain ⟨a, r, h1, h2, h3⟩ := h
  exact ⟨a, r, h1, A8.mono hg h2, E5.mono hg h3⟩
end

theorem B2.open {G : IM} {t : Ty} {cells : List Value} (h : B2 G t cells) : ∃ p c es, cells = [.int .i64 t.k, .slice p t.ks.length c] ∧ E9 t.k ∧ C9 G p t.ks.length c 2 es ∧ E0 G t.ks es := by
 cases t; simpa only [B2, Ty.k, Ty.ks] using h
theorem A8.open {G : IM} {t : Tm} {cells : List Value} (h : A8 G t cells) : ∃ pt ct et pf cf ef p c es,
  cells = [.int .i64 t.k, .string t.nm, .int .i64 t.num, .int .i64 t.ty.k, .slice pt t.ty.ks.length ct, .int .i64 t.fr.k, .slice pf t.fr.ks.length cf, .int .i64 t.lb, .slice p t.ks.length c] ∧
  E9 t.k ∧ E9 t.num ∧ E9 t.lb ∧ (E9 t.ty.k ∧ C9 G pt t.ty.ks.length ct 2 et ∧ E0 G t.ty.ks et) ∧ (E9 t.fr.k ∧ C9 G pf t.fr.ks.length cf 2 ef ∧ E0 G t.fr.ks ef) ∧ C9 G p t.ks.length c 9 es ∧ E5 G t.ks es := by
 obtain ⟨k, nm, num, ty, fr, lb, ks⟩ := t
 simp only [A8] at h
 obtain ⟨tc, fc, p, c, es, h1, h2, h3, h4, h5, h6, h7, h8⟩ := h
 obtain ⟨pt, ct, et, rfl, t1, t2, t3⟩ := h5.open
 obtain ⟨pf, cf, ef, rfl, f1, f2, f3⟩ := h6.open
 exact ⟨pt, ct, et, pf, cf, ef, p, c, es, h1, h2, h3, h4, ⟨t1, t2, t3⟩, ⟨f1, f2, f3⟩, h7, h8⟩
theorem A8.open9 {G : IM} {k : Int} {nm : ByteArray} {num : Int} {tk : Int} {tks : List Ty} {fk : Int} {fks : List Ty} {lb : Int} {ks : List Tm} {cells : List Value} (h : A8 G (.mk k nm num (.mk tk tks) (.mk fk fks) lb ks) cells) :
  ∃ pt ct pf cf p c es, cells = [.int .i64 k, .string nm, .int .i64 num, .int .i64 tk, .slice pt tks.length ct, .int .i64 fk, .slice pf fks.length cf, .int .i64 lb, .slice p ks.length c] ∧
  E9 k ∧ E9 num ∧ E9 lb ∧ B2 G (.mk tk tks) [.int .i64 tk, .slice pt tks.length ct] ∧ B2 G (.mk fk fks) [.int .i64 fk, .slice pf fks.length cf] ∧ C9 G p ks.length c 9 es ∧ E5 G ks es := by
 obtain ⟨pt, ct, et, pf, cf, ef, p, c, es, h1, h2, h3, h4, ⟨t1, t2, t3⟩, ⟨f1, f2, f3⟩, h7, h8⟩ := h.open
 simp only [Tm.k, Tm.nm, Tm.num, Tm.ty, Tm.fr, Tm.lb, Tm.ks, Ty.k, Ty.ks] at h1 h2 h3 h4 t1 t2 t3 f1 f2 f3 h7 h8
 exact ⟨pt, ct, pf, cf, p, c, es, h1, h2, h3, h4, by simp only [B2]; exact ⟨_, _, et, rfl, t1, t2, t3⟩, by simp only [B2]; exact ⟨_, _, ef, rfl, f1, f2, f3⟩, h7, h8⟩
theorem B2.len {G : IM} {t : Ty} {cells : List Value} (h : B2 G t cells) : cells.length = 2 := by
 obtain ⟨_, _, _, rfl, _⟩ := h.open; rfl
theorem A8.len {G : IM} {t : Tm} {cells : List Value} (h : A8 G t cells) : cells.length = 9 := by
 obtain ⟨_, _, _, _, _, _, _, _, _, rfl, _⟩ := h.open; rfl

theorem E0.len {G : IM} : ∀ {ts : List Ty} {es : List (List Value)}, E0 G ts es → es.length = ts.length
 | [], es, h => by simp only [E0] at h; subst h; rfl
 | t :: ts, es, h => by
  simp only [E0] at h
  obtain ⟨a, r, rfl, _, h3⟩ := h
  simp [h3.len]
theorem E5.len {G : IM} : ∀ {ts : List Tm} {es : List (List Value)}, E5 G ts es → es.length = ts.length
 | [], es, h => by simp only [E5] at h; subst h; rfl
 | t :: ts, es, h => by
  simp only [E5] at h
  obtain ⟨a, r, rfl, _, h3⟩ := h
  simp [h3.len]
theorem E0.get {G : IM} : ∀ {ts : List Ty} {es : List (List Value)}, E0 G ts es → ∀ {i : Nat} {t : Ty}, ts[i]? = some t → ∃ e, es[i]? = some e ∧ B2 G t e
 | [], es, h, i, t, hi => by simp at hi
 | t' :: ts, es, h, i, t, hi => by
  simp only [E0] at h
  obtain ⟨a, r, rfl, h2, h3⟩ := h
  cases i with
  | zero => simp at hi; subst hi; exact ⟨a, rfl, h2⟩
  | succ i => obtain ⟨e, he, hr⟩ := h3.get (i := i) (by simpa using hi); exact ⟨e, by simpa using he, hr⟩
theorem E5.get {G : IM} : ∀ {ts : List Tm} {es : List (List Value)}, E5 G ts es → ∀ {i : Nat} {t : Tm}, ts[i]? = some t → ∃ e, es[i]? = some e ∧ A8 G t e
 | [], es, h, i, t, hi => by simp at hi
 | t' :: ts, es, h, i, t, hi => by
  simp only [E5] at h
  obtain ⟨a, r, rfl, h2, h3⟩ := h
  cases i with
  | zero => simp at hi; subst hi; exact ⟨a, rfl, h2⟩
  | succ i => obtain ⟨e, he, hr⟩ := h3.get (i := i) (by simpa using hi); exact ⟨e, by simpa using he, hr⟩
theorem E0.all {G : IM} {ts : List Ty} {es : List (List Value)} (h : E0 G ts es) : ∀ e ∈ es, e.length = 2 := by
 intro e he
 obtain ⟨i, hi⟩ := List.getElem?_of_mem he
 have hlt : i < ts.length := by have := (List.getElem?_eq_some_iff.1 hi).1; rw [h.len] at this; exact this
 obtain ⟨e', he', hr⟩ := h.get (i := i) (t := ts[i]) (by simp [hlt])
 rw [hi] at he'; cases he'; exact hr.len
theorem E5.all {G : IM} {ts : List Tm} {es : List (List Value)} (h : E5 G ts es) : ∀ e ∈ es, e.length = 9 := by
 intro e he
 obtain ⟨i, hi⟩ := List.getElem?_of_mem he
 have hlt : i < ts.length := by have := (List.getElem?_eq_some_iff.1 hi).1; rw [h.len] at this; exact this
 obtain ⟨e', he', hr⟩ := h.get (i := i) (t := ts[i]) (by simp [hlt])
 rw [hi] at he'; cases he'; exact hr.len

theorem B2.one {G : IM} {t : Ty} {cells : List Value} (h : B2 G t cells) : cells.all (·.oneCell') = true := by
 obtain ⟨_, _, _, rfl, _⟩ := h.open; rfl
theorem A8.one {G : IM} {t : Tm} {cells : List Value} (h : A8 G t cells) : cells.all (·.oneCell') = true := by
 obtain ⟨_, _, _, _, _, _, _, _, _, rfl, _⟩ := h.open; rfl

theorem Ty.ind {C : Ty → Prop} (h : ∀ k ks, (∀ t ∈ ks, C t) → C (.mk k ks)) : ∀ t, C t
 | .mk k ks => h k ks fun t ht => Ty.ind h t
termination_by t => SizeOf.sizeOf t
decreasing_by
 have := List.sizeOf_lt_of_mem ht
 simp only [Ty.mk.sizeOf_spec]; omega
theorem Tm.ind {C : Tm → Prop} (h : ∀ k nm num ty fr lb ks, (∀ t ∈ ks, C t) → C (.mk k nm num ty fr lb ks)) : ∀ t, C t
 | .mk k nm num ty fr lb ks => h k nm num ty fr lb ks fun t ht => Tm.ind h t
termination_by t => SizeOf.sizeOf t
decreasing_by
 have := List.sizeOf_lt_of_mem ht
 simp only [Tm.mk.sizeOf_spec]; omega

def C2 (G' G : IM) : IM := fun b => match G b with | none => G' b | some _ => none
theorem C2.le (G' G : IM) : B8 (C2 G' G) G' := by
 intro b l h
 unfold C2 at h
 split at h
 ·exact h
 ·cases h
theorem C2.mono {G' G'' G : IM} (h : B8 G' G'') : B8 (C2 G' G) (C2 G'' G) := by
 intro b l hb
 unfold C2 at hb ⊢
 split at hb
 ·exact h b l hb
 ·cases hb
theorem C2.anti {G' G G0 : IM} (h : B8 G0 G) : B8 (C2 G' G) (C2 G' G0) := by
 intro b l hb
 unfold C2 at hb ⊢
 split at hb
 ·rename_i h0
  cases h1 : G0 b with
  | none => exact hb
  | some l' => rw [h b l' h1] at h0; cases h0
 ·cases hb
theorem C2.out {G' G : IM} {b : Nat} (h : C2 G' G b ≠ none) : G b = none := by
 unfold C2 at h
 split at h
 ·assumption
 ·exact absurd rfl h
theorem Sl.dif {G' G G0 : IM} {p : Option Addr} {n c sz : Nat} {cs : List Value} (h : Sl G' p n c sz cs) (hp : ∀ b ∈ K2 p, G b = none) (hle : B8 G0 G) : Sl (C2 G' G0) p n c sz cs := by
 obtain ⟨h1, h2, h3, h4⟩ := h
 refine ⟨h1, h2, h3, h4.imp id ?_⟩
 rintro ⟨b, o, full, rfl, e2, e3⟩
 refine ⟨b, o, full, rfl, ?_, e3⟩
 have hb := hp b (by simp [K2])
 have h0 : G0 b = none := by
  cases h1 : G0 b with
  | none => rfl
  | some l => rw [hle b l h1] at hb; cases hb
 simp [C2, h0, e2]

mutual
def P0 (G : IM) : Ty → List Value → List Nat → Prop
 | .mk k ks, cells, F => ∃ p c es Fs, cells = [.int .i64 k, .slice p ks.length c] ∧ E9 k ∧ C9 G p ks.length c 2 es ∧ N0 G ks es Fs ∧ F = K2 p ++ Fs ∧ (∀ b ∈ K2 p, G b ≠ none)
def N0 (G : IM) : List Ty → List (List Value) → List Nat → Prop
 | [], es, F => es = [] ∧ F = []
 | t :: ts, es, F => ∃ a r Fa Fr, es = a :: r ∧ P0 G t a Fa ∧ N0 G ts r Fr ∧ F = Fa ++ Fr
end
mutual
theorem P0.R {G : IM} : ∀ {t : Ty} {cells : List Value} {F : List Nat}, P0 G t cells F → B2 G t cells
 | .mk k ks, cells, F, h => by
  simp only [P0] at h
  obtain ⟨p, c, es, Fs, h1, h2, h3, h4, _⟩ := h
  simp only [B2]
  exact ⟨p, c, es, h1, h2, h3, N0.R h4⟩
theorem N0.R {G : IM} : ∀ {ts : List Ty} {es : List (List Value)} {F : List Nat}, N0 G ts es F → E0 G ts es
 | [], es, F, h => by simp only [N0] at h; simp only [E0]; exact h.1
 | t :: ts, es, F, h => by
  simp only [N0] at h
  obtain ⟨a, r, Fa, Fr, h1, h2, h3, _⟩ := h
  simp only [E0]
  exact ⟨a, r, h1, P0.R h2, N0.R h3⟩
end
mutual
theorem P0.mono {G G' : IM} (hg : B8 G G') : ∀ {t : Ty} {cells : List Value} {F : List Nat}, P0 G t cells F → P0 G' t cells F
 | .mk k ks, cells, F, h => by
  simp only [P0] at h ⊢
  obtain ⟨p, c, es, Fs, h1, h2, h3, h4, h5, h6⟩ := h
  exact ⟨p, c, es, Fs, h1, h2, h3.mono hg, N0.mono hg h4, h5, fun b hb => by cases hgb : G b with | none => exact absurd hgb (h6 b hb) | some l => rw [hg b l hgb]; simp⟩
theorem N0.mono {G G' : IM} (hg : B8 G G') : ∀ {ts : List Ty} {es : List (List Value)} {F : List Nat}, N0 G ts es F → N0 G' ts es F
 | [], es, F, h => by simpa only [N0] using h
 | t :: ts, es, F, h => by
  simp only [N0] at h ⊢
  obtain ⟨a, r, Fa, Fr, h1, h2, h3, h4⟩ := h
  exact ⟨a, r, Fa, Fr, h1, P0.mono hg h2, N0.mono hg h3, h4⟩
end
mutual
theorem P0.inG {G : IM} : ∀ {t : Ty} {cells : List Value} {F : List Nat}, P0 G t cells F → ∀ b ∈ F, G b ≠ none
 | .mk k ks, cells, F, h => by
  simp only [P0] at h
  obtain ⟨p, c, es, Fs, h1, h2, h3, h4, rfl, h6⟩ := h
  intro b hb
  rcases List.mem_append.1 hb with hb | hb
  ·exact h6 b hb
  ·exact N0.inG h4 b hb
theorem N0.inG {G : IM} : ∀ {ts : List Ty} {es : List (List Value)} {F : List Nat}, N0 G ts es F → ∀ b ∈ F, G b ≠ none
 | [], es, F, h => by simp only [N0] at h; rw [h.2]; simp
 | t :: ts, es, F, h => by
  simp only [N0] at h
  obtain ⟨a, r, Fa, Fr, h1, h2, h3, rfl⟩ := h
  intro b hb
  rcases List.mem_append.1 hb with hb | hb
  ·exact P0.inG h2 b hb
  ·exact N0.inG h3 b hb
end
theorem N0.snoc {G : IM} : ∀ {ts : List Ty} {es : List (List Value)} {F : List Nat} {t : Ty} {a : List Value} {Fa : List Nat}, N0 G ts es F → P0 G t a Fa → N0 G (ts ++ [t]) (es ++ [a]) (F ++ Fa)
 | [], es, F, t, a, Fa, h, h2 => by
  simp only [N0] at h
  obtain ⟨rfl, rfl⟩ := h
  simp only [List.nil_append, N0]
  exact ⟨a, [], Fa, [], rfl, h2, ⟨rfl, rfl⟩, by simp⟩
 | t' :: ts, es, F, t, a, Fa, h, h2 => by
  simp only [N0] at h
  obtain ⟨a', r, Fa', Fr, rfl, h3, h4, rfl⟩ := h
  simp only [List.cons_append, N0]
  exact ⟨a', r ++ [a], Fa', Fr ++ Fa, rfl, h3, N0.snoc h4 h2, by simp⟩

theorem C9.kidTy {G : IM} {p : Option Addr} {n c : Nat} {es : List (List Value)} {ks : List Ty} (h : C9 G p n c 2 es) (hk : E0 G ks es) {i : Nat} (hi : i < n) (hn : i < ks.length) :
  ∃ b o p2 c2, p = some ⟨b, o, none⟩ ∧ (∀ hp, At hp G b (o + i * 2) [.int .i64 ks[i].k, .slice p2 ks[i].ks.length c2]) ∧ B2 G ks[i] [.int .i64 ks[i].k, .slice p2 ks[i].ks.length c2] ∧ G b ≠ none := by
 obtain ⟨e, b, o, he, h1, h2, h3, h4, h5⟩ := h.get hi
 obtain ⟨e', he', hr⟩ := hk.get (i := i) (t := ks[i]) (by simp [hn])
 rw [he] at he'; cases he'
 obtain ⟨p2, c2, _, rfl, _⟩ := hr.open
 exact ⟨b, o, p2, c2, h1, h4, hr, h5⟩

theorem N0.step {G Gi G1 : IM} {ks : List Ty} {i : Nat} {es : List (List Value)} {F F' : List Nat} {a : List Value} (h : N0 (C2 Gi G) (ks.take i) es F) (hn : F.Nodup) (hle : B8 G Gi) (hle1 : B8 Gi G1) (hi : i < ks.length)
  (ha : P0 (C2 G1 Gi) ks[i] a F') (hn' : F'.Nodup) : N0 (C2 G1 G) (ks.take (i + 1)) (es ++ [a]) (F ++ F') ∧ (F ++ F').Nodup := by
 constructor
 ·rw [List.take_succ_eq_append_getElem hi]
  exact N0.snoc (h.mono (C2.mono hle1)) (ha.mono (C2.anti hle))
 ·rw [List.nodup_append]
  refine ⟨hn, hn', ?_⟩
  rintro x hx y hy rfl
  have h1 := h.inG x hx
  have h2 := C2.out (ha.inG x hy)
  apply h1
  cases hd : C2 Gi G x with
  | none => rfl
  | some l => rw [C2.le _ _ x l hd] at h2; cases h2
theorem P0.fin {G Gi G2 : IM} {k : Int} {ks : List Ty} {es : List (List Value)} {F : List Nat} {p : Option Addr} {c : Nat} (h : N0 (C2 Gi G) ks es F) (hn : F.Nodup) (hle : B8 G Gi) (hle2 : B8 Gi G2)
  (hsl : Sl G2 p ks.length c 2 es.flatten) (hnn : ∀ b ∈ K2 p, Gi b = none ∧ G2 b ≠ none) (hk : E9 k) :
  ∃ F', P0 (C2 G2 G) (.mk k ks) [.int .i64 k, .slice p ks.length c] F' ∧ F'.Nodup := by
 have hno := fun b hb => (hnn b hb).1
 have hin := fun b hb => (hnn b hb).2
 have hR := h.R
 refine ⟨K2 p ++ F, ?_, ?_⟩
 ·simp only [P0]
  refine ⟨p, c, es, F, rfl, hk, C9.of (hsl.dif hno hle) hR.len hR.all ?_, h.mono (C2.mono hle2), rfl, ?_⟩
  ·intro e he
   obtain ⟨i, hi⟩ := List.getElem?_of_mem he
   have hlt : i < ks.length := by have := (List.getElem?_eq_some_iff.1 hi).1; rw [hR.len] at this; exact this
   obtain ⟨e', he', hr⟩ := hR.get (i := i) (t := ks[i]) (by simp [hlt])
   rw [hi] at he'; cases he'; exact hr.one
  ·intro b hb
   have h0 := hno b hb
   cases hg : G b with
   | none => simpa [C2, hg] using hin b hb
   | some l => rw [hle b l hg] at h0; cases h0
 ·rw [List.nodup_append]
  refine ⟨by cases p <;> simp [K2], hn, ?_⟩
  rintro x hx y hy rfl
  have h1 := h.inG x hy
  have h2 := hno x hx
  apply h1
  cases hd : C2 Gi G x with
  | none => rfl
  | some l => rw [C2.le _ _ x l hd] at h2; cases h2

def A0C (q : Nat → Bool) (n : Nat) : Int := match (List.range n).find? q with | some i => i | none => -1
theorem A5w {q : Nat → Bool} {n : Nat} (h : ∀ j, j < n → q j = false) : A0C q n = -1 := by
 have : (List.range n).find? q = none := by
  rw [List.find?_eq_none]
  intro x hx
  rw [h x (List.mem_range.1 hx)]; simp
 simp [A0C, this]
theorem A7G {q : Nat → Bool} {n i : Nat} (hi : i < n) (h : ∀ j, j < i → q j = false) (hq : q i = true) : A0C q n = i := by
 have : (List.range n).find? q = some i := by
  rw [List.find?_eq_some_iff_append]
  refine ⟨hq, List.range i, (List.range n).drop (i + 1), ?_, ?_⟩
  ·apply List.ext_getElem?
   intro k
   simp only [List.getElem?_append, List.length_range, List.getElem?_range', List.getElem?_cons, List.getElem?_drop]
   by_cases h1 : k < i
   ·simp [h1, show k < n by omega]
   ·by_cases h2 : k = i
    ·subst h2; simp [hi]
    ·have h3 : k - i ≠ 0 := by omega
     simp only [h1, if_false, h3]
     rw [show i + 1 + (k - i - 1) = k by omega]
  ·intro a ha
   simp [h a (List.mem_range.1 ha)]
 simp [A0C, this]

def S4 (n lo hi : Int) : Bool := decide (lo ≤ n ∧ n ≤ hi)
theorem A4k {n lo hi : Int} (h : S4 n lo hi = true) : lo ≤ n ∧ n ≤ hi := by simpa [S4] using h
theorem A7H {n lo hi : Int} (h : S4 n lo hi = false) : ¬(lo ≤ n ∧ n ≤ hi) := by simpa [S4] using h
def V0 (k : Int) : Int := if k = 1 ∨ k = 2 ∨ k = 3 then 0 else if k = 4 ∨ k = 5 then 2 else -1
theorem N4 (k : Int) : (k = 1 ∨ k = 2 ∨ k = 3 → V0 k = 0) ∧ (k = 4 ∨ k = 5 → V0 k = 2) ∧ (k ≠ 1 → k ≠ 2 → k ≠ 3 → k ≠ 4 → k ≠ 5 → V0 k = -1) := by
 unfold V0; split <;> try split
 all_goals omega
def D3 (k : Int) : Int := if k = 1 ∨ k = 2 ∨ k = 3 ∨ k = 4 then 0 else if k = 5 ∨ k = 11 ∨ k = 12 ∨ k = 13 ∨ k = 14 then 1 else if k = 6 ∨ k = 7 ∨ k = 8 ∨ k = 10 then 2 else if k = 9 then 3 else -1

mutual
def M0 : Ty → Int → Bool
 | .mk k ks, d => decide (d ≤ 4) && decide (V0 k = ks.length) && Z4 ks (d + 1)
def Z4 : List Ty → Int → Bool
 | [], _ => true
 | t :: ts, d => M0 t d && Z4 ts d
end
theorem A4l : ∀ (ts : List Ty) (d : Int), Z4 ts d = true ↔ ∀ i, (h : i < ts.length) → M0 ts[i] d = true
 | [], d => by simp [Z4]
 | t :: ts, d => by
  simp only [Z4, Bool.and_eq_true, A4l ts d]
  constructor
  ·rintro ⟨h1, h2⟩ i hi
   cases i with
   | zero => exact h1
   | succ i => exact h2 i (by simpa using hi)
  ·intro h
   exact ⟨h 0 (by simp), fun i hi => h (i + 1) (by simpa using hi)⟩
def M5 (t : Ty) : Bool := M0 t 1
def X6 (t : Ty) : Bool := decide (t.k = 0 ∧ t.ks.length = 0)

mutual
def P1 : Ty → Ty → Bool
 | .mk k ks, t => decide (k = 1) || decide (t.k = 1) || (decide (k = t.k) && U3 ks t.ks)
def U3 : List Ty → List Ty → Bool
 | [], [] => true
 | a :: xs, b :: ys => P1 a b && U3 xs ys
 | _, _ => false
end
theorem V9 (k k' : Int) (ks ks' : List Ty) : P1 (.mk k ks) (.mk k' ks') = (decide (k = 1) || decide (k' = 1) || (decide (k = k') && U3 ks ks')) := by rw [P1]; rfl
theorem A2i : ∀ (xs ys : List Ty), U3 xs ys = true ↔ xs.length = ys.length ∧ ∀ i, (h : i < xs.length) → (h' : i < ys.length) → P1 xs[i] ys[i] = true
 | [], [] => by simp [U3]
 | [], b :: ys => by simp [U3]
 | a :: xs, [] => by simp [U3]
 | a :: xs, b :: ys => by
  simp only [U3, Bool.and_eq_true, A2i xs ys, List.length_cons]
  constructor
  ·rintro ⟨h1, h2, h3⟩
   refine ⟨by omega, fun i hi hi' => ?_⟩
   cases i with
   | zero => exact h1
   | succ i => exact h3 i (by simpa using hi) (by simpa using hi')
  ·rintro ⟨h1, h2⟩
   exact ⟨h2 0 (by simp) (by simp), by omega, fun i hi hi' => h2 (i + 1) (by simpa using hi) (by simpa using hi')⟩
def A0K (a b : Ty) : Bool := M5 a && M5 b && P1 a b
def X7 (s : ByteArray) : Bool := decide (s.size = 1 ∧ 97 ≤ (s.data.getD 0 0).toNat ∧ (s.data.getD 0 0).toNat ≤ 122)
def W2 (n : Int) : Bool := S4 n 1 99 || S4 n (-99) (-1)

theorem A4m {s : ByteArray} {j : Int} (h : j.toNat < s.size) : s[j.toNat]? = some (s.data.getD j.toNat 0) := by
 rw [getElem?_pos s j.toNat h]
 show some (s.data[j.toNat]'h) = _
 rw [Array.getD_eq_getD_getElem?, getElem?_pos s.data j.toNat h]
 rfl
theorem B1Y {q : Nat → Bool} {n : Nat} : A0C q n < 0 ↔ ∀ j, j < n → q j = false := by
 constructor
 ·intro h j hj
  unfold A0C at h
  split at h
  ·omega
  ·rename_i hf
   have := List.find?_eq_none.1 hf j (List.mem_range.2 hj)
   simpa using this
 ·intro h; rw [A5w h]; omega
theorem A7I {q : Nat → Bool} {n : Nat} : 0 ≤ A0C q n ↔ ∃ j, j < n ∧ q j = true := by
 have h := @B1Y q n
 constructor
 ·intro h0
  apply Classical.byContradiction
  intro hn
  have : A0C q n < 0 := h.2 fun j hj => by cases hq : q j with | false => rfl | true => exact absurd ⟨j, hj, hq⟩ hn
  omega
 ·rintro ⟨j, hj, hq⟩
  apply Classical.byContradiction
  intro hn
  rw [h.1 (by omega) j hj] at hq
  exact absurd hq (by simp)
theorem A7J {α : Type} (f : α → Bool) (ks : List α) (a : α) : decide (0 ≤ A0C (fun i => !f (ks.getD i a)) ks.length) = !ks.all f := by
 cases h : ks.all f with
 | true =>
  rw [List.all_eq_true] at h
  apply decide_eq_false
  rw [A7I]
  rintro ⟨j, hj, hq⟩
  rw [List.getD_eq_getElem?_getD, List.getElem?_eq_getElem hj, Option.getD_some, h _ (List.getElem_mem hj)] at hq
  exact absurd hq (by simp)
 | false =>
  apply decide_eq_true
  rw [A7I]
  apply Classical.byContradiction
  intro hn
  have : ks.all f = true := by
   rw [List.all_eq_true]
   intro x hx
   obtain ⟨j, hj, rfl⟩ := List.getElem_of_mem hx
   cases hf : f ks[j] with
   | true => rfl
   | false => exact absurd ⟨j, hj, by rw [List.getD_eq_getElem?_getD, List.getElem?_eq_getElem hj, Option.getD_some, hf]; rfl⟩ hn
  rw [h] at this
  exact absurd this (by simp)
theorem V1 : ∀ (ks : List Ty) (d : Int), Z4 ks d = ks.all (M0 · d)
 | [], d => rfl
 | t :: ts, d => by simp [Z4, V1 ts d]
theorem E0.inv {G : IM} : ∀ {ts : List Ty} {es : List (List Value)}, E0 G ts es → ∀ {i : Nat} {e : List Value}, es[i]? = some e → ∀ a, ts.getD i a ∈ ts ∧ B2 G (ts.getD i a) e
 | [], es, h, i, e, he, a => by
  have := h.len
  simp only [List.length_nil, List.length_eq_zero_iff] at this
  subst this; simp at he
 | t :: ts, es, h, i, e, he, a => by
  have hi : i < es.length := by
   apply Classical.byContradiction; intro hn; rw [List.getElem?_eq_none (by omega)] at he; simp at he
  have hl := h.len
  obtain ⟨e', he', hr⟩ := h.get (i := i) (t := (t :: ts)[i]'(by omega)) (by rw [List.getElem?_eq_getElem])
  rw [he] at he'
  obtain rfl := Option.some.inj he'
  rw [List.getD_eq_getElem?_getD, List.getElem?_eq_getElem (by omega), Option.getD_some]
  exact ⟨List.getElem_mem _, hr⟩
theorem E5.inv {G : IM} : ∀ {ts : List Tm} {es : List (List Value)}, E5 G ts es → ∀ {i : Nat} {e : List Value}, es[i]? = some e → ∀ a, ts.getD i a ∈ ts ∧ A8 G (ts.getD i a) e
 | [], es, h, i, e, he, a => by
  have := h.len
  simp only [List.length_nil, List.length_eq_zero_iff] at this
  subst this; simp at he
 | t :: ts, es, h, i, e, he, a => by
  have hi : i < es.length := by
   apply Classical.byContradiction; intro hn; rw [List.getElem?_eq_none (by omega)] at he; simp at he
  have hl := h.len
  obtain ⟨e', he', hr⟩ := h.get (i := i) (t := (t :: ts)[i]'(by omega)) (by rw [List.getElem?_eq_getElem])
  rw [he] at he'
  obtain rfl := Option.some.inj he'
  rw [List.getD_eq_getElem?_getD, List.getElem?_eq_getElem (by omega), Option.getD_some]
  exact ⟨List.getElem_mem _, hr⟩
def B1 : Ty := .mk 0 []
theorem B1Z {p : Prop} [Decidable p] {x y : Bool} : ((if p then x else y) = true) ↔ ((p → x = true) ∧ (¬p → y = true)) := by by_cases h : p <;> simp [h]
theorem B10 {k : Int} (h : 1 ≤ k ∧ k ≤ 14) : ([Value.int .i64 0, .int .i64 0, .int .i64 0, .int .i64 0, .int .i64 1, .int .i64 2, .int .i64 2, .int .i64 2, .int .i64 3, .int .i64 2, .int .i64 1, .int .i64 1, .int .i64 1, .int .i64 1])[(k - 1).toNat]? = some (.int .i64 (D3 k)) := by
 have : k = 1 ∨ k = 2 ∨ k = 3 ∨ k = 4 ∨ k = 5 ∨ k = 6 ∨ k = 7 ∨ k = 8 ∨ k = 9 ∨ k = 10 ∨ k = 11 ∨ k = 12 ∨ k = 13 ∨ k = 14 := by omega
 rcases this with rfl | rfl | rfl | rfl | rfl | rfl | rfl | rfl | rfl | rfl | rfl | rfl | rfl | rfl <;> rfl
theorem A3w {k : Int} (h : ¬(1 ≤ k ∧ k ≤ 14)) : D3 k = -1 := by
 unfold D3; repeat (split; omega)
 rfl
theorem B11 {cs : List Value} {o : Nat} {v : Value} (h : cs[o]? = some v) : ∀ j u, [v][j]? = some u → cs[o + j]? = some u := by
 intro j u hj
 cases j with
 | zero => simpa using hj ▸ h
 | succ j => simp at hj
def U4 (k : Int) (nm : ByteArray) (num : Int) (ty fr : Ty) (lb : Int) (n : Nat) : Bool :=
 decide (D3 k = n) && (if k = 1 ∨ k = 5 then X7 nm else decide (nm = ⟨#[]⟩)) && (if k = 2 then S4 num 0 999 else S4 num 0 0) &&
 (if k = 5 ∨ k = 13 ∨ k = 14 then M5 ty else X6 ty) && (if k = 14 then A0K fr ty && W2 lb else X6 fr && decide (lb = 0))
theorem X8 {k : Int} {nm : ByteArray} {num : Int} {ty fr : Ty} {lb : Int} {n : Nat} : U4 k nm num ty fr lb n = true ↔
  D3 k = n ∧ (k = 1 ∨ k = 5 → X7 nm = true) ∧ (¬(k = 1 ∨ k = 5) → nm = ⟨#[]⟩) ∧ (k = 2 → S4 num 0 999 = true) ∧ (k ≠ 2 → S4 num 0 0 = true) ∧
  (k = 5 ∨ k = 13 ∨ k = 14 → M5 ty = true) ∧ (¬(k = 5 ∨ k = 13 ∨ k = 14) → X6 ty = true) ∧ (k = 14 → A0K fr ty = true ∧ W2 lb = true) ∧ (k ≠ 14 → X6 fr = true ∧ lb = 0) := by
 simp only [U4, Bool.and_eq_true, B1Z, decide_eq_true_eq, and_assoc, ne_eq]
mutual
def S0 (M D N : Int) : Tm → Int → Int → Bool × Int
 | .mk k nm num ty fr lb ks, deep, c => if c + 1 > M ∨ deep > D ∨ k = N ∨ U4 k nm num ty fr lb ks.length = false then (false, c + 1) else T3 M D N ks (deep + 1) (c + 1)
def T3 (M D N : Int) : List Tm → Int → Int → Bool × Int
 | [], _, c => (true, c)
 | t :: ts, deep, c => if (S0 M D N t deep c).1 = true then T3 M D N ts deep (S0 M D N t deep c).2 else (false, (S0 M D N t deep c).2)
end
mutual
theorem A7K (M D N : Int) : ∀ (t : Tm) (deep c : Int), 0 ≤ c → c ≤ M → c < (S0 M D N t deep c).2 ∧ (S0 M D N t deep c).2 ≤ M + 1 ∧ ((S0 M D N t deep c).1 = true → (S0 M D N t deep c).2 ≤ M)
 | .mk k nm num ty fr lb ks, deep, c, h0, h1 => by
  rw [S0]
  split
  ·simp; omega
  ·rename_i h
   have := A7L M D N ks (deep + 1) (c + 1) (by omega) (by omega)
   exact ⟨by omega, this.2⟩
theorem A7L (M D N : Int) : ∀ (ts : List Tm) (deep c : Int), 0 ≤ c → c ≤ M → c ≤ (T3 M D N ts deep c).2 ∧ (T3 M D N ts deep c).2 ≤ M + 1 ∧ ((T3 M D N ts deep c).1 = true → (T3 M D N ts deep c).2 ≤ M)
 | [], deep, c, h0, h1 => by rw [T3]; simp; omega
 | t :: ts, deep, c, h0, h1 => by
  have := A7K M D N t deep c h0 h1
  rw [T3]
  split
  ·rename_i h
   have h2 := A7L M D N ts deep (S0 M D N t deep c).2 (by omega) (this.2.2 h)
   exact ⟨by omega, h2.2⟩
  ·simp; omega
end
def I3 (t : Tm) : Bool := (S0 200 40 13 t 1 0).1
def A0L (t : Tm) : Bool := (S0 30 12 14 t 1 0).1
theorem C9.kidTm {G : IM} {p : Option Addr} {n c : Nat} {es : List (List Value)} {ks : List Tm} (h : C9 G p n c 9 es) (hk : E5 G ks es) {i : Nat} (hi : i < n) (hn : i < ks.length) :
  ∃ b o e, p = some ⟨b, o, none⟩ ∧ e.length = 9 ∧ (∀ hp, At hp G b (o + i * 9) e) ∧ A8 G ks[i] e ∧ G b ≠ none := by
 obtain ⟨e, b, o, he, hp, hl, _, hat, hg⟩ := h.get hi
 have := (hk.inv he (ks[i])).2
 rw [List.getD_eq_getElem?_getD, List.getElem?_eq_getElem hn, Option.getD_some] at this
 exact ⟨b, o, e, hp, hl, hat, this, hg⟩
theorem A4n {M D N : Int} {k : Int} {nm : ByteArray} {num : Int} {ty fr : Ty} {lb : Int} {ks : List Tm} {deep c : Int} (h : c + 1 > M ∨ deep > D ∨ k = N ∨ U4 k nm num ty fr lb ks.length = false) :
  S0 M D N (.mk k nm num ty fr lb ks) deep c = (false, c + 1) := by rw [S0, if_pos h]
theorem B12 {M D N : Int} {k : Int} {nm : ByteArray} {num : Int} {ty fr : Ty} {lb : Int} {ks : List Tm} {deep c : Int} (h1 : ¬(c + 1 > M ∨ deep > D ∨ k = N)) (h2 : U4 k nm num ty fr lb ks.length = true) :
  S0 M D N (.mk k nm num ty fr lb ks) deep c = T3 M D N ks (deep + 1) (c + 1) := by
 rw [S0, if_neg]
 rw [h2]
 intro h
 apply h1
 rcases h with h | h | h | h
 ·exact .inl h
 ·exact .inr (.inl h)
 ·exact .inr (.inr h)
 ·cases h
theorem B13 {M D N : Int} {ks : List Tm} {i : Nat} {deep c : Int} (hi : i < ks.length) (h : (S0 M D N ks[i] deep c).1 = true) : T3 M D N (ks.drop i) deep c = T3 M D N (ks.drop (i + 1)) deep (S0 M D N ks[i] deep c).2 := by
 rw [List.drop_eq_getElem_cons hi, T3, if_pos h]
theorem B14 {M D N : Int} {ks : List Tm} {i : Nat} {deep c : Int} (hi : i < ks.length) (h : (S0 M D N ks[i] deep c).1 = false) : T3 M D N (ks.drop i) deep c = (false, (S0 M D N ks[i] deep c).2) := by
 rw [List.drop_eq_getElem_cons hi, T3, if_neg (by rw [h]; simp)]
theorem B15 {M D N : Int} {ks : List Tm} {i : Nat} {deep c : Int} (hi : i = ks.length) : T3 M D N (ks.drop i) deep c = (true, c) := by
 rw [hi, List.drop_length, T3]
section blk
variable {P : Program} {Γ : M1} {env : M7} {hp : List A5} {G : IM} {K : Po} {ops : Array Oper} {rest : List Oper}
end blk

theorem A5x : ∀ {A B C V : List Value} {o : Nat}, A.length = o → B.length = V.length → Q7 (A ++ (B ++ C)) o V = some (A ++ (V ++ C))
 | [], B, C, V, o, h, hv => by
  simp at h; subst h
  simp only [List.nil_append]
  induction B generalizing V with
  | nil => cases V with
   | nil => cases C <;> rfl
   | cons v V => simp at hv
  | cons b B ih => cases V with
   | nil => simp at hv
   | cons v V =>
    simp only [List.cons_append, Q7, ih (V := V) (by simpa using hv)]
 | a :: A, B, C, V, o, h, hv => by
  simp at h; subst h
  simp only [List.cons_append, Q7, A5x (A := A) (B := B) (C := C) rfl hv]
theorem A1A {sz : Nat} : ∀ {es : List (List Value)}, (∀ e ∈ es, e.length = sz) → es.flatten.length = es.length * sz
 | [], _ => by simp
 | e :: es, h => by
  rw [List.flatten_cons, List.length_append, h e List.mem_cons_self, A1A (es := es) fun x hx => h x (List.mem_cons_of_mem _ hx), List.length_cons, Nat.succ_mul]; omega
def A7M (G : IM) (ks : List Ty) (p : Option Addr) (c : Nat) (F : List Nat) : Prop := ∃ es Fs, C9 G p ks.length c 2 es ∧ N0 G ks es Fs ∧ F = K2 p ++ Fs ∧ (∀ b ∈ K2 p, G b ≠ none)
theorem P0.open {G : IM} {t : Ty} {cells : List Value} {F : List Nat} (h : P0 G t cells F) : ∃ p c, cells = [.int .i64 t.k, .slice p t.ks.length c] ∧ E9 t.k ∧ A7M G t.ks p c F := by
 cases t
 simp only [P0] at h
 obtain ⟨p, c, es, Fs, h0, hk, h1, h2, h3, h4⟩ := h
 exact ⟨p, c, h0, hk, es, Fs, h1, h2, h3, h4⟩
mutual
def P6 (G : IM) : Tm → List Value → List Nat → Prop
 | .mk k nm num ty fr lb ks, cells, F => ∃ tc fc p c es Ft Ff Fs, cells = [.int .i64 k, .string nm, .int .i64 num] ++ tc ++ fc ++ [.int .i64 lb, .slice p ks.length c] ∧ E9 k ∧ E9 num ∧ E9 lb ∧ P0 G ty tc Ft ∧ P0 G fr fc Ff ∧
   C9 G p ks.length c 9 es ∧ O3 G ks es Fs ∧ F = Ft ++ (Ff ++ (K2 p ++ Fs)) ∧ (∀ b ∈ K2 p, G b ≠ none)
def O3 (G : IM) : List Tm → List (List Value) → List Nat → Prop
 | [], es, F => es = [] ∧ F = []
 | t :: ts, es, F => ∃ a r Fa Fr, es = a :: r ∧ P6 G t a Fa ∧ O3 G ts r Fr ∧ F = Fa ++ Fr
end
def A2j (G : IM) (ks : List Tm) (p : Option Addr) (c : Nat) (F : List Nat) : Prop := ∃ es Fs, C9 G p ks.length c 9 es ∧ O3 G ks es Fs ∧ F = K2 p ++ Fs ∧ (∀ b ∈ K2 p, G b ≠ none)
mutual
theorem P6.R {G : IM} : ∀ {t : Tm} {cells : List Value} {F : List Nat}, P6 G t cells F → A8 G t cells
 | .mk k nm num ty fr lb ks, cells, F, h => by
  simp only [P6] at h
  obtain ⟨tc, fc, p, c, es, Ft, Ff, Fs, h1, h2, h3, h4, h5, h6, h7, h8, _⟩ := h
  simp only [A8]
  exact ⟨tc, fc, p, c, es, h1, h2, h3, h4, h5.R, h6.R, h7, O3.R h8⟩
theorem O3.R {G : IM} : ∀ {ts : List Tm} {es : List (List Value)} {F : List Nat}, O3 G ts es F → E5 G ts es
 | [], es, F, h => by simp only [O3] at h; simp only [E5]; exact h.1
 | t :: ts, es, F, h => by
  simp only [O3] at h
  obtain ⟨a, r, Fa, Fr, h1, h2, h3, _⟩ := h
  simp only [E5]
  exact ⟨a, r, h1, P6.R h2, O3.R h3⟩
end
theorem A2N {G G' : IM} (hg : B8 G G') {F : List Nat} (h : ∀ b ∈ F, G b ≠ none) : ∀ b ∈ F, G' b ≠ none := fun b hb => by
 cases hgb : G b with
 | none => exact absurd hgb (h b hb)
 | some l => rw [hg b l hgb]; simp
mutual
theorem P6.mono {G G' : IM} (hg : B8 G G') : ∀ {t : Tm} {cells : List Value} {F : List Nat}, P6 G t cells F → P6 G' t cells F
 | .mk k nm num ty fr lb ks, cells, F, h => by
  simp only [P6] at h ⊢
  obtain ⟨tc, fc, p, c, es, Ft, Ff, Fs, h1, h2, h3, h4, h5, h6, h7, h8, h9, h10⟩ := h
  exact ⟨tc, fc, p, c, es, Ft, Ff, Fs, h1, h2, h3, h4, h5.mono hg, h6.mono hg, h7.mono hg, O3.mono hg h8, h9, A2N hg h10⟩
theorem O3.mono {G G' : IM} (hg : B8 G G') : ∀ {ts : List Tm} {es : List (List Value)} {F : List Nat}, O3 G ts es F → O3 G' ts es F
 | [], es, F, h => by simpa only [O3] using h
 | t :: ts, es, F, h => by
  simp only [O3] at h ⊢
  obtain ⟨a, r, Fa, Fr, h1, h2, h3, h4⟩ := h
  exact ⟨a, r, Fa, Fr, h1, P6.mono hg h2, O3.mono hg h3, h4⟩
end
mutual
theorem P6.inG {G : IM} : ∀ {t : Tm} {cells : List Value} {F : List Nat}, P6 G t cells F → ∀ b ∈ F, G b ≠ none
 | .mk k nm num ty fr lb ks, cells, F, h => by
  simp only [P6] at h
  obtain ⟨tc, fc, p, c, es, Ft, Ff, Fs, h1, h2, h3, h4, h5, h6, h7, h8, rfl, h10⟩ := h
  intro b hb
  simp only [List.mem_append] at hb
  rcases hb with hb | hb | hb | hb
  ·exact h5.inG b hb
  ·exact h6.inG b hb
  ·exact h10 b hb
  ·exact O3.inG h8 b hb
theorem O3.inG {G : IM} : ∀ {ts : List Tm} {es : List (List Value)} {F : List Nat}, O3 G ts es F → ∀ b ∈ F, G b ≠ none
 | [], es, F, h => by simp only [O3] at h; rw [h.2]; simp
 | t :: ts, es, F, h => by
  simp only [O3] at h
  obtain ⟨a, r, Fa, Fr, h1, h2, h3, rfl⟩ := h
  intro b hb
  rcases List.mem_append.1 hb with hb | hb
  ·exact P6.inG h2 b hb
  ·exact O3.inG h3 b hb
end
theorem O3.snoc {G : IM} : ∀ {ts : List Tm} {es : List (List Value)} {F : List Nat} {t : Tm} {a : List Value} {Fa : List Nat}, O3 G ts es F → P6 G t a Fa → O3 G (ts ++ [t]) (es ++ [a]) (F ++ Fa)
 | [], es, F, t, a, Fa, h, h2 => by
  simp only [O3] at h
  obtain ⟨rfl, rfl⟩ := h
  simp only [List.nil_append, O3]
  exact ⟨a, [], Fa, [], rfl, h2, ⟨rfl, rfl⟩, by simp⟩
 | t' :: ts, es, F, t, a, Fa, h, h2 => by
  simp only [O3] at h
  obtain ⟨a', r, Fa', Fr, rfl, h3, h4, rfl⟩ := h
  simp only [List.cons_append, O3]
  exact ⟨a', r ++ [a], Fa', Fr ++ Fa, rfl, h3, O3.snoc h4 h2, by simp⟩
theorem A2k {G Gi : IM} {F F' : List Nat} {G1 : IM} (h : ∀ b ∈ F, C2 Gi G b ≠ none) (h' : ∀ b ∈ F', C2 G1 Gi b ≠ none) : ∀ x ∈ F, ∀ y ∈ F', x ≠ y := by
 rintro x hx y hy rfl
 have h1 := h x hx
 have h2 := C2.out (h' x hy)
 apply h1
 cases hd : C2 Gi G x with
 | none => rfl
 | some l => rw [C2.le _ _ x l hd] at h2; cases h2
theorem O3.step {G Gi G1 : IM} {ks : List Tm} {i : Nat} {es : List (List Value)} {F F' : List Nat} {a : List Value} (h : O3 (C2 Gi G) (ks.take i) es F) (hn : F.Nodup) (hle : B8 G Gi) (hle1 : B8 Gi G1) (hi : i < ks.length)
  (ha : P6 (C2 G1 Gi) ks[i] a F') (hn' : F'.Nodup) : O3 (C2 G1 G) (ks.take (i + 1)) (es ++ [a]) (F ++ F') ∧ (F ++ F').Nodup := by
 constructor
 ·rw [List.take_succ_eq_append_getElem hi]
  exact O3.snoc (h.mono (C2.mono hle1)) (ha.mono (C2.anti hle))
 ·rw [List.nodup_append]
  exact ⟨hn, hn', A2k h.inG ha.inG⟩
theorem B16 (p : Option Addr) : (K2 p).Nodup := by cases p <;> simp [K2]
theorem A2j.fin {G Gi G2 : IM} {ks : List Tm} {es : List (List Value)} {F : List Nat} {p : Option Addr} {c : Nat} (h : O3 (C2 Gi G) ks es F) (hn : F.Nodup) (hle : B8 G Gi) (hle2 : B8 Gi G2)
  (hsl : Sl G2 p ks.length c 9 es.flatten) (hnn : ∀ b ∈ K2 p, Gi b = none ∧ G2 b ≠ none) :
  ∃ F', A2j (C2 G2 G) ks p c F' ∧ F'.Nodup := by
 have hR := h.R
 have hin : ∀ b ∈ K2 p, C2 G2 G b ≠ none := by
  intro b hb
  have h0 := (hnn b hb).1
  cases hg : G b with
  | none => simpa [C2, hg] using (hnn b hb).2
  | some l => rw [hle b l hg] at h0; cases h0
 refine ⟨K2 p ++ F, ⟨es, F, C9.of (hsl.dif (fun b hb => (hnn b hb).1) hle) hR.len hR.all ?_, h.mono (C2.mono hle2), rfl, hin⟩, ?_⟩
 ·intro e he
  obtain ⟨i, hi⟩ := List.getElem?_of_mem he
  have hlt : i < ks.length := by have := (List.getElem?_eq_some_iff.1 hi).1; rw [hR.len] at this; exact this
  obtain ⟨e', he', hr⟩ := hR.get (i := i) (t := ks[i]) (by simp [hlt])
  rw [hi] at he'; cases he'; exact hr.one
 ·rw [List.nodup_append]
  refine ⟨B16 p, hn, ?_⟩
  rintro x hx y hy rfl
  have h1 := h.inG x hy
  have h2 := (hnn x hx).1
  apply h1
  cases hd : C2 Gi G x with
  | none => rfl
  | some l => rw [C2.le _ _ x l hd] at h2; cases h2
theorem P6.mk3 {G G1 G2 G3 : IM} {k : Int} {nm : ByteArray} {num : Int} {ty fr : Ty} {lb : Int} {ks : List Tm} {tc fc : List Value} {p : Option Addr} {c : Nat} {F1 F2 F3 : List Nat} (hk : E9 k) (hnum : E9 num) (hlb : E9 lb)
  (hl1 : B8 G G1) (hl2 : B8 G1 G2) (hl3 : B8 G2 G3) (h1 : P0 (C2 G1 G) ty tc F1) (n1 : F1.Nodup) (h2 : P0 (C2 G2 G1) fr fc F2) (n2 : F2.Nodup) (h3 : A2j (C2 G3 G2) ks p c F3) (n3 : F3.Nodup) :
  ∃ F, P6 (C2 G3 G) (.mk k nm num ty fr lb ks) ([.int .i64 k, .string nm, .int .i64 num] ++ tc ++ fc ++ [.int .i64 lb, .slice p ks.length c]) F ∧ F.Nodup := by
 obtain ⟨es, Fs, e1, e2, rfl, e4⟩ := h3
 have i3 : ∀ b ∈ K2 p ++ Fs, C2 G3 G2 b ≠ none := by
  intro b hb
  rcases List.mem_append.1 hb with hb | hb
  ·exact e4 b hb
  ·exact e2.inG b hb
 have a2 : B8 (C2 G2 G1) (C2 G3 G) := fun b l h => C2.mono hl3 b l (C2.anti hl1 b l h)
 have a3 : B8 (C2 G3 G2) (C2 G3 G) := C2.anti (hl1.trans hl2)
 refine ⟨F1 ++ (F2 ++ (K2 p ++ Fs)), ?_, ?_⟩
 ·simp only [P6]
  exact ⟨tc, fc, p, c, es, F1, F2, Fs, rfl, hk, hnum, hlb, h1.mono (C2.mono (hl2.trans hl3)), h2.mono a2, e1.mono a3, e2.mono a3, rfl, A2N a3 e4⟩
 ·rw [List.nodup_append, List.nodup_append]
  refine ⟨n1, ⟨n2, n3, A2k h2.inG i3⟩, ?_⟩
  rintro x hx y hy rfl
  rcases List.mem_append.1 hy with hy | hy
  ·exact A2k h1.inG h2.inG x hx x hy rfl
  ·have h1' : ∀ b ∈ F1, C2 G2 G b ≠ none := A2N (C2.mono hl2) h1.inG
   exact A2k h1' i3 x hx x hy rfl
section clawss
variable {P : Program} {Γ : M1} {env : M7} {hp : List A5} {G : IM} {ty : TypeId}
theorem A7N {x y : Operand} {t t' : TypeId} {m n : Nat} (hx : evo env x = some (.int .i64 (m : Int))) (hy : evo env y = some (.int .i64 (n : Int))) (hn : 0 < n) :
  J1 P Γ ⟨env, hp, G⟩ (.binOp .rem t x y t') ty (.int .i64 ((m % n : Nat) : Int)) := by
 have h := A39 (P := P) (Γ := Γ) (hp := hp) (G := G) (ty := ty) (t := t) (t' := t') hx hy (by omega)
 rwa [show ((m : Int).tmod n) = ((m % n : Nat) : Int) from rfl] at h
theorem A7O {x y : Operand} {t t' : TypeId} {m n : Nat} (hx : evo env x = some (.int .i64 (m : Int))) (hy : evo env y = some (.int .i64 (n : Int))) (hn : 0 < n) (hm : m ≤ 9223372036854775807) :
  J1 P Γ ⟨env, hp, G⟩ (.binOp .quo t x y t') ty (.int .i64 ((m / n : Nat) : Int)) := by
 have hd : m / n ≤ m := Nat.div_le_self _ _
 have e : ((m : Int).tdiv n) = ((m / n : Nat) : Int) := rfl
 have h := B1o (P := P) (Γ := Γ) (hp := hp) (G := G) (ty := ty) (t := t) (t' := t') hx hy (by omega) (by rw [e]; generalize m / n = q at *; omega) (by rw [e]; generalize m / n = q at *; omega)
 rwa [e] at h
end clawss
def dgi (k : Nat) : Int := 48 + ((k % 10 : Nat) : Int)
def A7P : Nat → Nat → ByteArray → ByteArray
 | 0, _, out => out
 | f + 1, k, out => if 0 < k then A7P f (k / 10) (strOfNums [dgi k] ++ out) else out
def B17 (k : Nat) : ByteArray := ⟨#[109]⟩ ++ A7P 20 k ⟨⟨[]⟩⟩
def A3x (l : List Int) : List Value := l.map (Value.int .i64 ·)
mutual
def E7 : Tm → Nat
 | .mk _ _ _ _ _ _ ks => H3 ks + 1
def H3 : List Tm → Nat
 | [] => 0
 | t :: ts => E7 t + H3 ts
end
mutual
def A4o : Tm → List Int → List (List Int)
 | .mk _ _ _ _ _ _ ks, path => path :: A7Q ks 0 path
def A7Q : List Tm → Nat → List Int → List (List Int)
 | [], _, _ => []
 | t :: ts, i, path => A4o t (path ++ [(i : Int)]) ++ A7Q ts (i + 1) path
end
theorem A4p : ∀ (a b : List Tm), H3 (a ++ b) = H3 a + H3 b
 | [], b => by simp [H3]
 | t :: a, b => by rw [List.cons_append, H3, H3, A4p a b]; omega
theorem A5y {ks : List Tm} {i : Nat} (hi : i < ks.length) : H3 (ks.take i) + E7 ks[i] ≤ H3 ks := by
 have h := A4p (ks.take (i + 1)) (ks.drop (i + 1))
 rw [List.take_append_drop, List.take_succ_eq_append_getElem hi, A4p] at h
 simp only [H3] at h
 omega
theorem A4q {ks : List Tm} {i : Nat} (hi : i < ks.length) : H3 (ks.take (i + 1)) = H3 (ks.take i) + E7 ks[i] := by
 rw [List.take_succ_eq_append_getElem hi, A4p]
 simp only [H3]; omega
theorem Sl.nn {G : IM} {p : Option Addr} {n c sz : Nat} {cs : List Value} (h : Sl G p n c sz cs) : p = none → n = 0 := by
 rintro rfl
 rcases h.2.2.2 with h | ⟨b, o, full, h, _⟩
 ·exact h
 ·cases h
def SPs (G : IM) : List (List Int) → List Value → List Nat → Prop
 | [], es, F => es = [] ∧ F = []
 | l :: ls, es, F => ∃ p c r Fr, es = .slice p l.length c :: r ∧ F = K2 p ++ Fr ∧ Sl G p l.length c 1 (A3x l) ∧ (∀ b ∈ K2 p, G b ≠ none) ∧ (p = none → l.length = 0) ∧ SPs G ls r Fr
def RPs (G : IM) (ls : List (List Int)) (p : Option Addr) (c : Nat) : Prop := ∃ es F, Sl G p ls.length c 1 es ∧ (∀ b ∈ K2 p, G b ≠ none) ∧ SPs G ls es F ∧ (K2 p ++ F).Nodup
mutual
theorem A7R (M D N : Int) : ∀ (t : Tm) (deep c : Int), (S0 M D N t deep c).1 = true → (S0 M D N t deep c).2 = c + E7 t
 | .mk k nm num ty fr lb ks, deep, c, h => by
  rw [S0] at h ⊢
  split at h
  ·cases h
  ·rename_i hc
   rw [if_neg hc, A7S M D N ks (deep + 1) (c + 1) h, E7]
   omega
theorem A7S (M D N : Int) : ∀ (ts : List Tm) (deep c : Int), (T3 M D N ts deep c).1 = true → (T3 M D N ts deep c).2 = c + H3 ts
 | [], deep, c, h => by rw [T3, H3]; simp
 | t :: ts, deep, c, h => by
  rw [T3] at h ⊢
  split at h
  ·rename_i h1
   rw [if_pos h1, A7S M D N ts deep _ h, A7R M D N t deep c h1, H3]
   omega
  ·cases h
end
def B18 (t : Tm) : List (List Int) := if I3 t = true then A4o t [] else []
section slaws
variable {P : Program} {Γ : M1} {env : M7} {hp : List A5} {G : IM} {ty : TypeId}
end slaws
theorem Sl.kid {G : IM} {p : Option Addr} {n c : Nat} {cs : List Value} (h : Sl G p n c 1 cs) {i : Nat} (hi : i < n) :
  ∃ b o v, p = some ⟨b, o, none⟩ ∧ cs[i]? = some v ∧ (∀ hp, At hp G b (o + i * 1) [v]) ∧ G b ≠ none := by
 obtain ⟨h1, h2, h3, h4⟩ := h
 obtain ⟨b, o, full, rfl, hg, hv⟩ := h4.resolve_left (by omega)
 have hlt : i < cs.length := by omega
 refine ⟨b, o, cs[i], rfl, List.getElem?_eq_getElem hlt, fun hp => A4a hg ?_, by rw [hg]; simp⟩
 intro j v hj
 cases j with
 | zero => simp at hj; subst hj; simpa using hv i _ (List.getElem?_eq_getElem hlt)
 | succ j => simp at hj
theorem Sl.le {G : IM} {p : Option Addr} {n c sz : Nat} {cs : List Value} (h : Sl G p n c sz cs) : n ≤ 9223372036854775807 := by
 have h1 := h.2.1; have h2 := h.2.2.1; unfold maxLen at h2; omega


abbrev A04 := List (Nat × List Value)

mutual
def OTy : Ty → List Value → A04 → Prop
 | .mk k ks, cells, bs => ∃ p c, cells = [.int .i64 k, .slice p ks.length c] ∧ E9 k ∧ ks.length ≤ c ∧ c ≤ maxLen ∧ ((ks = [] ∧ bs = []) ∨ ∃ b A C es r, p = some ⟨b, A.length, none⟩ ∧ bs = (b, A ++ (es.flatten ++ C)) :: r ∧ A5z ks es r)
def A5z : List Ty → List (List Value) → A04 → Prop
 | [], es, bs => es = [] ∧ bs = []
 | t :: ts, es, bs => ∃ e e' r1 r2, es = e :: e' ∧ bs = r1 ++ r2 ∧ OTy t e r1 ∧ A5z ts e' r2
end
def A7T (ks : List Ty) (p : Option Addr) (c : Nat) (bs : A04) : Prop :=
 ks.length ≤ c ∧ c ≤ maxLen ∧ ((ks = [] ∧ bs = []) ∨ ∃ b A C es r, p = some ⟨b, A.length, none⟩ ∧ bs = (b, A ++ (es.flatten ++ C)) :: r ∧ A5z ks es r)
mutual
def OTm : Tm → List Value → A04 → Prop
 | .mk k nm num ty fr lb ks, cells, bs => ∃ tc fc p c bt bf bk, cells = [.int .i64 k, .string nm, .int .i64 num] ++ tc ++ fc ++ [.int .i64 lb, .slice p ks.length c] ∧ E9 k ∧ E9 num ∧ E9 lb ∧ OTy ty tc bt ∧ OTy fr fc bf ∧
   ks.length ≤ c ∧ c ≤ maxLen ∧ ((ks = [] ∧ bk = []) ∨ ∃ b A C es r, p = some ⟨b, A.length, none⟩ ∧ bk = (b, A ++ (es.flatten ++ C)) :: r ∧ A5A ks es r) ∧ bs = bt ++ (bf ++ bk)
def A5A : List Tm → List (List Value) → A04 → Prop
 | [], es, bs => es = [] ∧ bs = []
 | t :: ts, es, bs => ∃ e e' r1 r2, es = e :: e' ∧ bs = r1 ++ r2 ∧ OTm t e r1 ∧ A5A ts e' r2
end
def B19 (ks : List Tm) (p : Option Addr) (c : Nat) (bs : A04) : Prop :=
 ks.length ≤ c ∧ c ≤ maxLen ∧ ((ks = [] ∧ bs = []) ∨ ∃ b A C es r, p = some ⟨b, A.length, none⟩ ∧ bs = (b, A ++ (es.flatten ++ C)) :: r ∧ A5A ks es r)
mutual
def A7U : Ty → Int
 | .mk _ ks => 1 + Z5 ks
def Z5 : List Ty → Int
 | [] => 0
 | t :: ts => A7U t + Z5 ts
end
mutual
def B2a : Ty → Int → Ty
 | .mk _ ks, k => .mk k (A1U ks (k + 1))
def A1U : List Ty → Int → List Ty
 | [], _ => []
 | t :: ts, k => B2a t k :: A1U ts (k + A7U t)
end
mutual
def A7V : Tm → Int
 | .mk _ _ _ ty fr _ ks => 6 + Z5 ty.ks + Z5 fr.ks + A7W ks
def A7W : List Tm → Int
 | [] => 0
 | t :: ts => A7V t + A7W ts
end
mutual
def B2b : Tm → Int → Tm
 | .mk _ _ _ ty fr _ ks, k => .mk k (B17 (k + 1).toNat) (k + 1 + 1) (.mk (k + 1 + 1 + 1) (A1U ty.ks (k + 1 + 1 + 1 + 1))) (.mk (k + 1 + 1 + 1 + 1 + Z5 ty.ks) (A1U fr.ks (k + 1 + 1 + 1 + 1 + Z5 ty.ks + 1))) (k + 1 + 1 + 1 + 1 + Z5 ty.ks + 1 + Z5 fr.ks) (A4r ks (k + 1 + 1 + 1 + 1 + Z5 ty.ks + 1 + Z5 fr.ks + 1))
def A4r : List Tm → Int → List Tm
 | [], _ => []
 | t :: ts, k => B2b t k :: A4r ts (k + A7V t)
end
theorem A7X : ∀ {X e e' Y vs : List Value} {o : Nat}, Q7 e o vs = some e' → Q7 (X ++ (e ++ Y)) (X.length + o) vs = some (X ++ (e' ++ Y))
 | [], e, e', Y, vs, o, h => by
  obtain ⟨h1, h2⟩ := A3o h
  simp only [List.nil_append, List.length_nil, Nat.zero_add]
  have := A5x (A := e.take o) (B := (e.drop o).take vs.length) (C := (e.drop o).drop vs.length ++ Y) (V := vs) (o := o) (by simp; omega) (by simp; omega)
  rw [show e.take o ++ ((e.drop o).take vs.length ++ ((e.drop o).drop vs.length ++ Y)) = e ++ Y from by
   rw [← List.append_assoc ((e.drop o).take vs.length), List.take_append_drop, ← List.append_assoc, List.take_append_drop]] at this
  rw [this, h1, List.drop_drop]
  simp
 | x :: X, e, e', Y, vs, o, h => by
  have := A7X (X := X) (Y := Y) h
  rw [List.length_cons, show X.length + 1 + o = (X.length + o) + 1 by omega]
  simp only [List.cons_append, Q7, this]
theorem B2c {A : List Value} {D : List (List Value)} {e e' R vs : List Value} {i sz off : Nat} (hD : D.length = i) (ha : ∀ x ∈ D, x.length = sz) (he : Q7 e off vs = some e') :
  Q7 (A ++ (D.flatten ++ (e ++ R))) (A.length + i * sz + off) vs = some (A ++ (D.flatten ++ (e' ++ R))) := by
 have := A7X (X := A ++ D.flatten) (Y := R) he
 rw [List.length_append, A1A ha, hD, List.append_assoc, List.append_assoc] at this
 exact this
section lend
variable {P : Program} {Γ : M1} {env : M7} {hp : List A5} {G : IM} {K : Po} {ops : Array Oper} {rest : List Oper} {ty : TypeId} {pos : String} {af : Array Edge} {gd : Option (Nat × Bool)}
def B6I (v0 : Value) (G : IM) (Φ : A04 → Prop) : IM → Value → List A5 → Prop := fun G' v outs => G' = G ∧ v = v0 ∧ ∃ bs', outs = A0J bs' ∧ Φ bs'
end lend
def MTm (t : Tm) (k : Int) (cells : List Value) (bs : A04) : Prop := ∃ pt ct pf cf p c bt bf bk,
 cells = [.int .i64 t.k, .string t.nm, .int .i64 t.num, .int .i64 t.ty.k, .slice pt t.ty.ks.length ct, .int .i64 t.fr.k, .slice pf t.fr.ks.length cf, .int .i64 t.lb, .slice p t.ks.length c] ∧
 A7T (A1U t.ty.ks k) pt ct bt ∧ A7T (A1U t.fr.ks (k + Z5 t.ty.ks)) pf cf bf ∧ B19 (A4r t.ks (k + Z5 t.ty.ks + Z5 t.fr.ks)) p c bk ∧ bs = bt ++ (bf ++ bk)
def A7Y : Nat → Int → List Int
 | 0, _ => []
 | n + 1, k => k :: A7Y n (k + 1)
def OIs (l : List Int) (p : Option Addr) (c : Nat) (bs : A04) : Prop :=
 l.length ≤ c ∧ c ≤ maxLen ∧ ((l = [] ∧ bs = []) ∨ ∃ b A C, p = some ⟨b, A.length, none⟩ ∧ bs = [(b, A ++ (A3x l ++ C))])
def OPs : List (List Int) → List Value → A04 → Prop
 | [], es, bs => es = [] ∧ bs = []
 | l :: ls, es, bs => ∃ p c e' r1 r2, es = .slice p l.length c :: e' ∧ bs = r1 ++ r2 ∧ OIs l p c r1 ∧ OPs ls e' r2
def B2d : List (List Int) → Int
 | [] => 0
 | l :: ls => l.length + B2d ls
def B2e : List (List Int) → Int → List (List Int)
 | [], _ => []
 | l :: ls, k => A7Y l.length k :: B2e ls (k + l.length)
section lend0
variable {P : Program} {Γ : M1} {env : M7} {G : IM} {K : Po} {ops : Array Oper} {rest : List Oper} {ty : TypeId} {pos : String} {af : Array Edge} {gd : Option (Nat × Bool)}
end lend0
def QPs (G : IM) : List (List Int) → List Value → Prop
 | [], es => es = []
 | l :: ls, es => ∃ p c r, es = .slice p l.length c :: r ∧ Sl G p l.length c 1 (A3x l) ∧ QPs G ls r
mutual
def H4 : Ty → Int
 | .mk _ ks => ks.length + L7 ks
def L7 : List Ty → Int
 | [] => 0
 | t :: ts => H4 t + L7 ts
end
mutual
def A0e : Tm → Int
 | .mk _ nm _ ty fr _ ks => nm.size + H4 ty + H4 fr + (ks.length + W8 ks)
def W8 : List Tm → Int
 | [] => 0
 | t :: ts => A0e t + W8 ts
end
mutual
theorem A0f : ∀ t : Ty, 0 ≤ H4 t
 | .mk _ ks => by have := A1b ks; rw [H4]; omega
theorem A1b : ∀ ts : List Ty, 0 ≤ L7 ts
 | [] => by rw [L7]; omega
 | t :: ts => by have := A0f t; have := A1b ts; rw [L7]; omega
end
mutual
theorem A7Z : ∀ t : Tm, 0 ≤ A0e t
 | .mk _ _ _ ty fr _ ks => by have := A4s ks; have := A0f ty; have := A0f fr; rw [A0e]; omega
theorem A4s : ∀ ts : List Tm, 0 ≤ W8 ts
 | [] => by rw [W8]; omega
 | t :: ts => by have := A7Z t; have := A4s ts; rw [W8]; omega
end
theorem A5B : ∀ a b : List Ty, L7 (a ++ b) = L7 a + L7 b
 | [], b => by simp [L7]
 | t :: a, b => by rw [List.cons_append, L7, L7, A5B a b]; omega
theorem A3y {ks : List Ty} {i : Nat} (hi : i < ks.length) : L7 (ks.take (i + 1)) = L7 (ks.take i) + H4 ks[i] := by
 rw [List.take_succ_eq_append_getElem hi, A5B, L7, L7]; omega
theorem A4t (ks : List Ty) (i : Nat) : L7 (ks.take i) ≤ L7 ks := by
 have h := A5B (ks.take i) (ks.drop i)
 rw [List.take_append_drop] at h
 have := A1b (ks.drop i); omega
mutual
def Tm.nok : Tm → Prop
 | .mk _ nm _ _ _ _ ks => nm.size ≤ 9223372036854775807 ∧ Tm.nokL ks
def Tm.nokL : List Tm → Prop
 | [] => True
 | t :: ts => t.nok ∧ Tm.nokL ts
end
def B6J (left s : Int) : Int := if s ≤ left then left - s else -1
end Gw
end Go.Proofs.YtfpgncjeejickaaGreatDoor
namespace Go.Proofs.YtfpgncjeejickaaGreatDoor
open Go Go.RowKit Go.ChangeShapes Go.WideShapes Go.ChangeAt
namespace Gw
def GW (w : World) : IM := fun b => match w.heap[b]? with
 | some (.cells c _ _) => some c.toList
 | _ => none
theorem A5C (w : World) : S3 [] (GW w) w := by
 refine ⟨?_, by simp, by simp [Fp], by simp [Fp]⟩
 intro b l h
 unfold GW at h
 split at h
 ·rename_i c e f hb; cases h; exact ⟨e, f, by simpa using hb⟩
 ·cases h
theorem A70 {w : World} {b o : Nat} {v : Value} (h : w.cell? ⟨b, o, none⟩ = some v) : ∃ full, GW w b = some full ∧ full[o]? = some v := by
 unfold World.cell? at h
 simp only at h
 split at h
 ·rename_i c e f hb
  exact ⟨c.toList, by simp [GW, hb], by simpa using h⟩
 ·cases h
theorem A71 {sz : Nat} : ∀ {es : List (List Value)}, (∀ e ∈ es, e.length = sz) → ∀ {j : Nat} {v : Value}, es.flatten[j]? = some v → ∃ i e r, es[i]? = some e ∧ e[r]? = some v ∧ j = i * sz + r
 | [], _, j, v, h => by simp at h
 | a :: es, hall, j, v, h => by
  have ha := hall a List.mem_cons_self
  rw [List.flatten_cons, List.getElem?_append] at h
  split at h
  ·exact ⟨0, a, j, rfl, h, by simp⟩
  ·rename_i hj
   obtain ⟨i, e, r, h1, h2, h3⟩ := A71 (fun x hx => hall x (List.mem_cons_of_mem _ hx)) h
   exact ⟨i + 1, e, r, by simpa using h1, h2, by rw [Nat.succ_mul]; omega⟩
theorem B2f {w : World} {a : Addr} {n c sz : Nat} {es : List (List Value)} (hl : es.length = n) (hsz : 0 < sz) (hc : n ≤ c) (hm : c ≤ maxLen) (h : ∀ i e, es[i]? = some e → w.cells? 0 (a.add (i * sz)) sz = some e) : Sl (GW w) (some a) n c sz es.flatten := by
 have hall : ∀ e ∈ es, e.length = sz := by
  intro e he
  obtain ⟨i, hi⟩ := List.getElem?_of_mem he
  exact (World.cells?_some (h i e hi)).2.1
 refine ⟨by rw [A1A hall, hl], hc, hm, ?_⟩
 rcases Nat.eq_zero_or_pos n with h0 | h0
 ·exact .inl h0
 ·right
  obtain ⟨b, o, s⟩ := a
  have hs : s = none := by
   have h1 := (World.cells?_some (h 0 es[0] (List.getElem?_eq_getElem (by omega)))).2
   have h2 := h1.2 0 hsz
   rw [List.getElem?_eq_getElem (by omega)] at h2
   simp only [Nat.zero_mul, Addr.add, if_true] at h2
   unfold World.cell? at h2
   split at h2
   ·split at h2
    ·cases h2
    ·rename_i hn; cases s with
     | none => rfl
     | some x => simp at hn
   ·cases h2
  subst hs
  have key : ∀ j v, es.flatten[j]? = some v → w.cell? ⟨b, o + j, none⟩ = some v := by
   intro j v hj
   obtain ⟨i, e, r, h1, h2, rfl⟩ := A71 hall hj
   have h3 := (World.cells?_some (h i e h1)).2
   have hr : r < e.length := (List.getElem?_eq_some_iff.1 h2).1
   have h4 := h3.2 r (by omega)
   rw [h2, A2I, A2I] at h4
   rw [← Nat.add_assoc]; exact h4
  have hpos : 0 < es.flatten.length := by rw [A1A hall, hl]; exact Nat.mul_pos h0 hsz
  obtain ⟨full, hg, _⟩ := A70 (key 0 es.flatten[0] (List.getElem?_eq_getElem hpos))
  refine ⟨b, o, full, rfl, hg, fun j v hj => ?_⟩
  obtain ⟨full', hg', hv⟩ := A70 (key j v hj)
  rw [hg] at hg'; cases hg'; exact hv
theorem E0.snoc {G : IM} : ∀ {ts : List Ty} {es : List (List Value)} {t : Ty} {e : List Value}, E0 G ts es → B2 G t e → E0 G (ts ++ [t]) (es ++ [e])
 | [], es, t, e, h, h2 => by
  simp only [E0] at h; subst h
  simp only [List.nil_append, E0]
  exact ⟨e, [], rfl, h2, rfl⟩
 | t' :: ts, es, t, e, h, h2 => by
  simp only [E0] at h
  obtain ⟨a, r, rfl, h3, h4⟩ := h
  simp only [List.cons_append, E0]
  exact ⟨a, r ++ [e], rfl, h3, E0.snoc h4 h2⟩
theorem E5.snoc {G : IM} : ∀ {ts : List Tm} {es : List (List Value)} {t : Tm} {e : List Value}, E5 G ts es → A8 G t e → E5 G (ts ++ [t]) (es ++ [e])
 | [], es, t, e, h, h2 => by
  simp only [E5] at h; subst h
  simp only [List.nil_append, E5]
  exact ⟨e, [], rfl, h2, rfl⟩
 | t' :: ts, es, t, e, h, h2 => by
  simp only [E5] at h
  obtain ⟨a, r, rfl, h3, h4⟩ := h
  simp only [List.cons_append, E5]
  exact ⟨a, r ++ [e], rfl, h3, E5.snoc h4 h2⟩
theorem E0.each {G : IM} {ts : List Ty} {es : List (List Value)} (h : E0 G ts es) : ∀ e ∈ es, e.length = 2 ∧ e.all (·.oneCell') = true := by
 intro e he
 obtain ⟨i, hi⟩ := List.getElem?_of_mem he
 have := (h.inv hi B1).2
 exact ⟨this.len, this.one⟩
theorem E5.each {G : IM} {ts : List Tm} {es : List (List Value)} (h : E5 G ts es) : ∀ e ∈ es, e.length = 9 ∧ e.all (·.oneCell') = true := by
 intro e he
 obtain ⟨i, hi⟩ := List.getElem?_of_mem he
 have := (h.inv hi (.mk 0 ⟨#[]⟩ 0 B1 B1 0 [])).2
 exact ⟨this.len, this.one⟩
section read
variable {H : Type} {enc : TypeId × Value → H} {w : World} {sp : Nat → Bool} {held : Bool}
end read
theorem Ext.below {w w' : World} (h : Ext (Fp []) w w') : Below w.heap.size w w' := ⟨h.os, h.tape, h.output, h.size, fun k hk => h.block k hk (by simp [Fp])⟩
section post
variable {H : Type} {enc : TypeId × Value → H} {P : Program}
theorem A5D {f : Func} {s : ChangeSpec} {apart fresh handsOn again : Bool} {W W' : World} {args : Array Value} {v : Value} {ds gs : List (DataW H)} {before : List MemPlace}
  (hW : DataW.Whole enc P f.params.toList s.vars apart W args.toList ds gs before) (hb : Below W.heap.size W W') (hgs : s.vars = [])
  (hres : ∀ (b : Nat) (sp : Nat → Bool) (hd : Bool), DataW.TrodAll enc P W' b sp hd f.resultTypes.toList (v.resultList f.resultTypes.size) (s.fn H (ds ++ gs)).results [])
  (hargs : ∀ sp : Nat → Bool, (∀ p ∈ before, sp p.block = true) → DataW.TrodAll enc P W' 0 sp true f.params.toList args.toList (s.fn H (ds ++ gs)).args before)
  (hv : (s.fn H (ds ++ gs)).vars = [])
  (hok : ∀ (j : Nat) (t : TypeId) (r : Value), f.resultTypes[j]? = some t → (v.resultList f.resultTypes.size)[j]? = some r → Value.okWide P W' .any 0 t r) :
  s.post enc P f apart fresh handsOn again W args v W' := by
 have hold : ∀ p ∈ before, (fun b => decide (b < W.heap.size)) p.block = true := fun p hp => by simpa using hW.lt p hp
 have hvars : ∀ sp : Nat → Bool, DataW.TrodVars enc P W' sp s.vars (s.fn H (ds ++ gs)).vars [] := fun sp => by rw [hgs, hv]; rfl
 have hkept : W.keptBut W' (fun _ => False) := by
  refine ⟨hb.os, hb.output, fun i hi => ?_⟩
  rw [hb.block i hi]
  split
  ·rename_i h1 h2; cases h1.symm.trans h2; exact ⟨rfl, rfl, rfl, fun _ _ => rfl⟩
  ·rename_i h1 h2; cases h1.symm.trans h2; exact .inr ⟨rfl, rfl⟩
  ·rfl
 refine ⟨ds, gs, before, [], before, [], hW, hres _ _ _, hargs _ hold, hvars _, World.keptBut_mono (fun p hp => hp.elim) hkept, fun _ => ?_⟩
 obtain ⟨_, _, _, _, _, hz, hn⟩ := hW
 refine ⟨hok, _, _, ([] ++ before) ++ [], ⟨[] ++ before, [], trodAll_append (hargs _ (fun _ _ => rfl)) (hres _ _ _), hvars _, rfl, ?_, ?_⟩, ?_⟩
 ·intro b off hp
  have hp' : MemPlace.cell b off ∈ before := by simpa using hp
  have hlt : b < W.heap.size := of_decide_eq_true (hold _ hp')
  have := hz b off hp'
  unfold World.frozen? at this ⊢
  simp only [hb.block b hlt]
  exact this
 ·intro ha; simpa using hn ha
 ·intro p hp _; simpa using hp
end post
def A0o (G : IM) : Prop := ∃ g, Tryz.prog.globalNamed "internal/strconv.uint64pow10" = some g ∧ G g = some (Lib.pow10Tab.map fun z => Value.int .u64 z)
theorem A0o.mono {G G' : IM} (h : A0o G) (hg : B8 G G') : A0o G' := by
 obtain ⟨g, h1, h2⟩ := h
 exact ⟨g, h1, hg g _ h2⟩
theorem B2g {G : IM} {w : World} (hw : S3 [] G w) (k : Nat) (os : Array Obj) : P9 [] G w [] G (Sort.grow (w.drewN k) os) := by
 have hb : ∀ b, b < w.heap.size → (Sort.grow (w.drewN k) os).heap[b]? = w.heap[b]? := by
  intro b h
  show (w.heap ++ os)[b]? = _
  rw [Array.getElem?_append_left h]
 refine ⟨⟨?_, by simp, by simp [Fp], by simp [Fp]⟩, ⟨rfl, rfl, rfl, ?_, fun b h _ => hb b h⟩, B8.refl _, fun _ _ h => .inl h, by simp [Fp], fun b l h h0 => absurd h (by rw [h0]; simp)⟩
 ·intro b l h
  obtain ⟨e, f, hh⟩ := hw.inn b l h
  exact ⟨e, f, by rw [hb b (A0Y hh)]; exact hh⟩
 ·show w.heap.size ≤ (w.heap ++ os).size
  simp
theorem B2h (n : Int) (G : IM) (h : A0o G) (h0 : 0 ≤ n) (h1 : n ≤ 999) : Fn Tryz.prog 175 [.int .i64 n] [] G (J3 (.string ⟨(Lib.decDigits n.toNat).toArray⟩) G) := by
 refine ⟨fun w hw => ?_⟩
 have ht : Lib.TabIs Tryz.prog w "internal/strconv.uint64pow10" .u64 Lib.pow10Tab := by
  obtain ⟨g, hg, hG⟩ := h
  obtain ⟨e, f, hh⟩ := hw.inn g _ hG
  unfold Lib.TabIs World.var?
  rw [hg]
  simp only [Option.bind_some, hh]
 refine (Tryz.strconv_Itoa n (by omega) (by omega) w ht).mono ?_
 rintro e w' ⟨rfl, k, os, rfl⟩
 refine ⟨_, G, [], rfl, B2g hw k os, rfl, ?_, rfl⟩
 unfold Lib.itoa
 rw [if_neg (by omega)]
end Gw
end Go.Proofs.YtfpgncjeejickaaGreatDoor
namespace Go.Proofs.YtfpgncjeejickaaGreatDoor
open Go Go.RowKit Go.ChangeShapes Go.WideShapes Go.ChangeAt
namespace Gw
theorem A5E : Tryz.prog.globalNamed "internal/strconv.uint64pow10" = some 1 := by kernel_rfl
theorem B2i : (Tryz.prog.globals[1]?).map (·.type) = some 180 := by kernel_rfl
theorem B2j : Tryz.prog.cellsOf 180 = 20 := by kernel_rfl
theorem B2k : Tryz.prog.cellsOf 152 = 1 := by kernel_rfl
def A72 : List (String × DataW Unit) := [("math/bits.deBruijn32tab", Rows.laid_math_bits_deBruijn32tab), ("math/bits.deBruijn64tab", Rows.laid_math_bits_deBruijn64tab), ("internal/strconv.uint64pow10", Rows.laid_internal_strconv_uint64pow10)]
theorem A5F {W : World} (h : laidMetH Tryz.prog A72 W) : A0o (GW W) := by
 have h1 : laidMet Tryz.prog A72 W := h
 have h3 := h1.tail.tail
 have ht : Lib.TabIs Tryz.prog W "internal/strconv.uint64pow10" .u64 Lib.pow10Tab :=
  Lib.tabIs_of_head (rest := []) A5E B2i Tryz.underlying180 Tryz.underlying152 B2k B2j h3
 refine ⟨1, A5E, ?_⟩
 unfold Lib.TabIs World.var? at ht
 rw [A5E] at ht
 simp only [Option.bind_some] at ht
 unfold GW
 split at ht
 ·rename_i c e f hb
  rw [hb]
  have := Option.some.inj ht
  simp [this]
 ·cases ht
def A5G : DataW Unit → Array Value
 | .agg xs => (xs.map fun | .lit (.int k n) => Value.int k n | _ => .int .i64 0).toArray
 | _ => #[]
def A5H (xs : Array Value) : Obj → Obj
 | .cells _ t f => .cells xs t f
 | o => o
noncomputable def A1B (os : Os) : World :=
 { World.holding Tryz.prog os ⟨#[], #[], []⟩ with heap := (((World.holding Tryz.prog os ⟨#[], #[], []⟩).heap.modify 1 (A5H (A5G Rows.laid_internal_strconv_uint64pow10))).modify 2 (A5H (A5G Rows.laid_math_bits_deBruijn32tab))).modify 3 (A5H (A5G Rows.laid_math_bits_deBruijn64tab)) }
end Gw
end Go.Proofs.YtfpgncjeejickaaGreatDoor
namespace Go.Proofs.YtfpgncjeejickaaGreatDoor
open Go Go.RowKit Go.ChangeShapes Go.WideShapes Go.ChangeAt
namespace Gw
section read2
variable {H : Type} {enc : TypeId × Value → H} {w : World} {sp : Nat → Bool} {held : Bool}
end read2
section rlaws
variable {P : Program} {Γ : M1} {env : M7} {hp : List A5} {G : IM} {ty : TypeId}
theorem B2l {m n : Nat} (hm : m < 4611686018427387904) (hn : n < 4611686018427387904) : m ^^^ n < 4611686018427387904 := by
 have := @Nat.xor_lt_two_pow m n 62 (by omega) (by omega)
 simpa using this
theorem B2m {x y : Operand} {t t' : TypeId} {m n : Nat} (hx : evo env x = some (.int .i64 (m : Int))) (hy : evo env y = some (.int .i64 (n : Int))) (hm : m < 4611686018427387904) (hn : n < 4611686018427387904) :
  J1 P Γ ⟨env, hp, G⟩ (.binOp .xor t x y t') ty (.int .i64 ((m ^^^ n : Nat) : Int)) := by
 refine ⟨fun a _ hs _ _ _ _ w => ?_⟩
 have hlt := B2l hm hn
 have e : (BitVec.ofInt 64 (m : Int) ^^^ BitVec.ofInt 64 (n : Int)).toNat = m ^^^ n := by
  rw [BitVec.toNat_xor, BitVec.toNat_ofInt, BitVec.toNat_ofInt]
  congr 1 <;> omega
 have hw : IntKind.i64.wrap (((BitVec.ofInt 64 (m : Int) ^^^ BitVec.ofInt 64 (n : Int)).toNat : Nat) : Int) = ((m ^^^ n : Nat) : Int) := by
  rw [e]; exact A2b _ rfl (by omega) (by omega)
 simp only [execOp, eqGuard, binOp, Op.intBits, (hs.evo hx : a.eval x = _), (hs.evo hy : a.eval y = _), ne_eq, not_true_eq_false, if_false, Sem.run_bind, Sem.run_pure, Result.andThen_ok]
 rw [show IntKind.bits .i64 = 64 from rfl] at *
 simp only [hw]
 simp
theorem A3z {x y : Operand} {t t' : TypeId} {m n : Nat} (hx : evo env x = some (.int .i64 (m : Int))) (hy : evo env y = some (.int .i64 (n : Int))) (h : m * n ≤ 9223372036854775807) :
  J1 P Γ ⟨env, hp, G⟩ (.binOp .mul t x y t') ty (.int .i64 ((m * n : Nat) : Int)) := by
 have e : ((m : Int) * (n : Int)) = ((m * n : Nat) : Int) := by simp
 have h2 := B1n (P := P) (Γ := Γ) (hp := hp) (G := G) (ty := ty) (t := t) (t' := t') hx hy (by rw [e]; omega) (by rw [e]; omega)
 rwa [e] at h2
theorem A1C {x y : Operand} {t t' : TypeId} {m n : Nat} (hx : evo env x = some (.int .i64 (m : Int))) (hy : evo env y = some (.int .i64 (n : Int))) (h : m + n ≤ 9223372036854775807) :
  J1 P Γ ⟨env, hp, G⟩ (.binOp .add t x y t') ty (.int .i64 ((m + n : Nat) : Int)) := by
 have e : ((m : Int) + (n : Int)) = ((m + n : Nat) : Int) := by simp
 have h2 := M8 (P := P) (Γ := Γ) (hp := hp) (G := G) (ty := ty) (t := t) (t' := t') hx hy (by rw [e]; omega) (by rw [e]; omega)
 rwa [e] at h2
theorem A1c {x y : Operand} {t t' : TypeId} {m : Nat} (hx : evo env x = some (.int .i64 ((m + 1 : Nat) : Int))) (hy : evo env y = some (.int .i64 1)) (h : m ≤ 9223372036854775807) :
  J1 P Γ ⟨env, hp, G⟩ (.binOp .sub t x y t') ty (.int .i64 (m : Int)) := by
 have e : (((m + 1 : Nat) : Int) - 1) = (m : Int) := by omega
 have h2 := O8 (P := P) (Γ := Γ) (hp := hp) (G := G) (ty := ty) (t := t) (t' := t') hx hy (by rw [e]; omega) (by rw [e]; omega)
 rwa [e] at h2
theorem A5I {s d : TypeId} {is id : L9} [hS : J2 P s is] [hD : J2 P d id] (hd : id.desc = .int .i64) {k : IntKind} (hs : is.desc = .int k) {x : Operand} {n : Int} (hx : evo env x = some (.int k n)) (h0 : -9223372036854775808 ≤ n) (h1 : n ≤ 9223372036854775807) :
  J1 P Γ ⟨env, hp, G⟩ (.convert s d x) ty (.int .i64 n) := by
 refine ⟨fun a _ hst _ _ _ _ w => ?_⟩
 have hu := hD.und
 rw [hd] at hu
 have hus := hS.und
 rw [hs] at hus
 have hw : IntKind.i64.wrap n = n := A2b n rfl h0 h1
 simp [execOp, convert, run_underlying hus, run_underlying hu, (hst.evo hx : a.eval x = _), Conv.intToInt, hw]
theorem A73 {x y : Operand} {t el : TypeId} {i : L9} {sz by' : Nat} {zs : List Value} [hI : J2 P t i] (hd' : i.desc = .slice el) [hE : X5 P el sz by' zs] {p : Option Addr} {n c l : Nat}
  (hx : evo env x = some (.slice p n c)) (hy : evo env y = some (.int .i64 (l : Int))) (hl : l ≤ c) :
  J1 P Γ ⟨env, hp, G⟩ (.slice t x none (some y) none) ty (.slice p l c) := by
 refine ⟨fun a _ hs _ _ _ _ w => ?_⟩
 have hu := hI.und
 rw [hd'] at hu
 obtain ⟨d, hE⟩ := hE.ok
 obtain ⟨inf, z, t1, t2, t3, _⟩ := A3r (P := P) (t := el)
 have e1 : a.eval x = _ := hs.evo hx
 have e2 : a.eval y = _ := hs.evo hy
 have hb : ∀ code, (Instr.sliceBound (.int .i64 (l : Int)) c code).run P w = .ok l w := fun code => by
  unfold Instr.sliceBound
  simp only [asIntOf, Sem.run_bind, Sem.run_pure, Result.andThen_ok]
  rw [if_pos ⟨by omega, by omega⟩]
  simp
 simp only [execOp, Option.map, e1, e2, Instr.sliceAt, Sem.run_bind, run_underlying hu, Result.andThen_ok, Instr.slice, Instr.sliceBounds, Sem.run_pure, hb, t3]
 by_cases h : c = 0
 ·subst h; simp
 ·rw [if_neg h]; simp; cases p <;> simp [Addr.add]
end rlaws
def N5 (bs : List UInt8) : List Value := bs.map fun b => .int .u8 (b.toNat : Int)
theorem A74 (bs : List UInt8) : (N5 bs).length = bs.length := by simp [N5]
theorem A5J {bs : List UInt8} {i : Nat} {v : Value} (h : (N5 bs)[i]? = some v) : ∃ b : Nat, b < 256 ∧ v = .int .u8 (b : Int) := by
 unfold N5 at h
 rw [List.getElem?_map] at h
 cases hb : bs[i]? with
 | none => rw [hb] at h; simp at h
 | some b => rw [hb] at h; simp at h; exact ⟨b.toNat, b.toNat_lt, h.symm⟩
def rd (br : Nat) (pb : Option Addr) (nb cb p : Nat) : A5 := .blk br [.slice pb nb cb, .int .i64 (p : Int)]
def Z6 (br : Nat) (pb : Option Addr) (nb cb p B : Nat) (Φ : IM → Value → Prop) : IM → Value → List A5 → Prop := fun G' v outs => ∃ p', p ≤ p' ∧ p' ≤ p + B ∧ outs = [rd br pb nb cb p'] ∧ Φ G' v
theorem T4 (G : IM) (br : Nat) (pb : Option Addr) (nb cb p : Nat) (bs : List UInt8) (n : Int) (hb : Sl G pb nb cb 1 (N5 bs)) (hnb : nb ≤ 2000) (hp : p < 1099511627776) :
  Fn Tryz.prog 46 [.pointer (some ⟨br, 0, none⟩), .int .i64 n] [rd br pb nb cb p] G (fun G' v outs => G' = G ∧ outs = [rd br pb nb cb (p + 1)] ∧ ∃ k, v = .int .i64 k ∧ 0 ≤ k ∧ (1 ≤ n → k < n)) := by
 unfold rd
 have hm1 : ∀ q, 0 < nb → q % nb < nb := fun q h => Nat.mod_lt _ h
 have hdv : p / nb ≤ p := Nat.div_le_self _ _
 refine B6 Tryz.func46 rfl Tryz.ntmps46 Tryz.results46 rfl ?_
 intro w0
 refine D8 ?_
 refine sQ (A0j rfl) rfl ?_
 refine sQ (B5 rfl) rfl (sL (C7 rfl rfl) rfl rfl ?_)
 refine sP (A1C (n := 1) rfl rfl (by omega)) rfl rfl ?_
 refine sQ (A0j rfl) rfl ?_
 refine F8 ?_
 refine sB (M2 rfl rfl) rfl rfl (fun h23 => ?_) (fun h23 => ?_)
 refine U9 ?_
 refine I1 (rT rfl) A1.refl ?_
 exact ⟨rfl, rfl, 0, rfl, Int.le_refl _, fun h => by omega⟩
 refine sQ (qM rfl) rfl (sQ (qM rfl) rfl ?_)
 refine sQ (A0j rfl) rfl ?_
 refine H9 ?_
 refine sB (qE rfl rfl) rfl rfl (fun h50 => ?_) (fun h50 => ?_)
 refine J6 ?_
 refine I1 (rT rfl) A1.refl ?_
 exact ⟨rfl, rfl, 0, rfl, Int.le_refl _, fun h => by omega⟩
 refine D8 ?_
 refine sQ (A0j rfl) rfl ?_
 refine sQ (B5 rfl) rfl (sL (C7 rfl rfl) rfl rfl ?_)
 refine sP (A1c rfl rfl (by omega)) rfl rfl ?_
 refine F8 ?_
 refine sQ (A0j rfl) rfl ?_
 refine H9 ?_
 refine sB (M2 rfl rfl) rfl rfl (fun h89 => ?_) (fun h89 => ?_)
 refine sD (nS (qT rfl (tS (tR (sQ (qM rfl) rfl ?_)))))
 refine sQ (A0j rfl) rfl ?_
 refine H9 ?_
 (obtain ⟨b, o, v, rfl, hv, hat, hgb⟩ := hb.kid (i := p) (by omega); obtain ⟨y, hy, rfl⟩ := A5J hv; refine sP (B4 rfl rfl rfl (by omega)) rfl rfl ?_)
 refine sL (V4 rfl rfl (hat _)) rfl rfl ?_
 refine sP (A5I rfl rfl rfl (by omega) (by omega)) rfl rfl ?_
 refine sQ (qM rfl) rfl ?_
 refine sP (A39 rfl rfl (by omega)) rfl rfl ?_
 refine sQ (qA rfl) rfl (sD (nS (tT (rS ?_))))
 refine I1 (rT rfl) A1.refl ?_
 exact ⟨rfl, rfl, _, rfl, Int.tmod_nonneg _ (by omega), fun h => Int.tmod_lt_of_pos _ (by omega)⟩
 refine sD (nS (cF rfl (tK (nS (tS ?_)))))
 (obtain ⟨b, o, v1, rfl, hv1, hat1, _⟩ := hb.kid (i := HMod.hMod p nb) (hm1 _ (by omega)); obtain ⟨y1, hy1, rfl⟩ := A5J hv1; obtain ⟨b', o', v2, hbb, hv2, hat2, _⟩ := hb.kid (i := HMod.hMod (p * 7 + 3) nb) (hm1 _ (by omega)); obtain ⟨y2, hy2, rfl⟩ := A5J hv2; cases hbb; have hl1 := hm1 p (by omega); have hl2 := hm1 (p * 7 + 3) (by omega); refine D1 D2 rfl ?_)
 refine I4 (i := 0) (l' := [tt,ff,ff,ff,ff,ff,ff,ff,ff,ff,ff,ff,ff,ff,ff,ff,ff,ff,ff,ff,ff,ff,ff,ff,ff,ff,ff,ff,ff,ff,ff,ff,ff,ff,ff,ff,ff,ff,ff,ff,ff,ff,ff,ff,ff,ff]) rfl C8 (qM rfl) rfl (by kernel_rfl) rfl rfl ?_
 refine aP 1 rfl (A0j rfl) rfl ?_
 refine aP 2 rfl (B5 rfl) rfl ?_
 refine aL 3 rfl (C7 rfl rfl) rfl ?_
 refine aP 4 rfl (qM rfl) rfl ?_
 refine aP 5 rfl (qM rfl) rfl ?_
 refine aP 6 rfl (A0j rfl) rfl ?_
 refine aP 7 rfl (B5 rfl) rfl ?_
 refine aL 8 rfl (C7 rfl rfl) rfl ?_
 refine aP 9 rfl (pLn rfl rfl) rfl ?_
 refine aP 10 rfl (A7N rfl rfl (by omega)) rfl ?_
 refine aP 11 rfl (B4 rfl rfl rfl (by first | exact hl1 | exact hl2)) rfl ?_
 refine aL 12 rfl (V4 rfl rfl (hat1 _)) rfl ?_
 refine aP 13 rfl (A5I rfl rfl rfl (by omega) (by omega)) rfl ?_
 refine aP 14 rfl (A3z (n := 131) rfl rfl (by omega)) rfl ?_
 refine aP 15 rfl (qM rfl) rfl ?_
 refine aP 16 rfl (A0j rfl) rfl ?_
 refine aP 17 rfl (B5 rfl) rfl ?_
 refine aL 18 rfl (C7 rfl rfl) rfl ?_
 refine aP 19 rfl (qM rfl) rfl ?_
 refine aP 20 rfl (A3z (n := 7) rfl rfl (by omega)) rfl ?_
 refine aP 21 rfl (A1C (n := 3) rfl rfl (by omega)) rfl ?_
 refine aP 22 rfl (qM rfl) rfl ?_
 refine aP 23 rfl (A0j rfl) rfl ?_
 refine aP 24 rfl (B5 rfl) rfl ?_
 refine aL 25 rfl (C7 rfl rfl) rfl ?_
 refine aP 26 rfl (pLn rfl rfl) rfl ?_
 refine aP 27 rfl (A7N rfl rfl (by omega)) rfl ?_
 refine aP 28 rfl (B4 rfl rfl rfl (by first | exact hl1 | exact hl2)) rfl ?_
 refine aL 29 rfl (V4 rfl rfl (hat2 _)) rfl ?_
 refine aP 30 rfl (A5I rfl rfl rfl (by omega) (by omega)) rfl ?_
 refine aP 31 rfl (A3z (n := 1117) rfl rfl (by omega)) rfl ?_
 refine aP 32 rfl (A1C rfl rfl (by omega)) rfl ?_
 refine aP 33 rfl (qM rfl) rfl ?_
 refine aP 34 rfl (A3z (n := 29) rfl rfl (by omega)) rfl ?_
 refine aP 35 rfl (A1C rfl rfl (by omega)) rfl ?_
 refine aP 36 rfl (qM rfl) rfl ?_
 refine aP 37 rfl (qM rfl) rfl ?_
 refine aP 38 rfl (A0j rfl) rfl ?_
 refine aP 39 rfl (B5 rfl) rfl ?_
 refine aL 40 rfl (C7 rfl rfl) rfl ?_
 refine aP 41 rfl (pLn rfl rfl) rfl ?_
 refine aP 42 rfl (A7O rfl rfl (by omega) (by omega)) rfl ?_
 refine aP 43 rfl (A3z (n := 53) rfl rfl (by omega)) rfl ?_
 refine aP 44 rfl (A1C rfl rfl (by omega)) rfl ?_
 refine aP 45 rfl (qA rfl) rfl ?_
 refine C0 (nS (tS (tR (sQ (qM rfl) rfl (sQ (qM rfl) rfl ?_)))))
 refine sP (A7O (n := 64) rfl rfl (by omega) (by omega)) rfl rfl ?_
 refine sP (B2m rfl rfl (by omega) (by omega)) rfl rfl ?_
 refine D5 ?_
 refine sP (A39 rfl rfl (by omega)) rfl rfl ?_
 refine sQ (qA rfl) rfl (sD (nS (tT ?_)))
 refine I1 (rT rfl) A1.refl ?_
 exact ⟨rfl, rfl, _, rfl, Int.tmod_nonneg _ (by omega), fun h => Int.tmod_lt_of_pos _ (by omega)⟩
end Gw
end Go.Proofs.YtfpgncjeejickaaGreatDoor
namespace Go.Proofs.YtfpgncjeejickaaGreatDoor
open Go Go.RowKit Go.ChangeShapes Go.WideShapes Go.ChangeAt
namespace Gw
theorem B2n : Tryz.prog.cellsOf 5 = 1 := by kernel_rfl
theorem A75 {q : Nat → Value → Prop} : ∀ {n : Nat}, (∀ i, i < n → ∃ k : UInt8, q i (.int .u8 (k.toNat : Int))) → ∃ l : List UInt8, l.length = n ∧ ∀ i v, (N5 l)[i]? = some v → q i v
 | 0, _ => ⟨[], rfl, by simp [N5]⟩
 | n + 1, h => by
  obtain ⟨l, h1, h2⟩ := A75 (n := n) fun i hi => h i (by omega)
  obtain ⟨k, hk⟩ := h n (by omega)
  refine ⟨l ++ [k], by simp [h1], fun i v hv => ?_⟩
  rw [show N5 (l ++ [k]) = N5 l ++ [.int .u8 (k.toNat : Int)] from by simp [N5], List.getElem?_append] at hv
  split at hv
  ·exact h2 i v hv
  ·rename_i hi
   rw [A74] at hi hv
   have : i - l.length = 0 := by
    have := (List.getElem?_eq_some_iff.1 hv).1; simp at this; omega
   rw [this] at hv; simp at hv; subst hv
   rw [show i = n by omega]; exact hk
section read2
variable {H : Type} {enc : TypeId × Value → H} {w : World} {sp : Nat → Bool} {held : Bool}
theorem A5K (n : Nat) (cs : List Value) (x : DataW H × List MemPlace) (h : DataW.trod enc Tryz.prog w 0 sp held n 22 cs = some x) : ∃ (l : List UInt8) (p : Option Addr) (c : Nat), cs = [.slice p l.length c] ∧ Sl (GW w) p l.length c 1 (N5 l) := by
 rcases DataW.trod_slice Tryz.underlying22 h with ⟨rfl, _⟩ | ⟨ad, len, cap, elems, rest, n', rfl, rfl, _, _, hlc, hcm, hel, hele, _, _⟩
 ·exact ⟨[], none, 0, rfl, Sl.nil _ _⟩
 ·rw [B2n] at hele
  obtain ⟨l, h1, h2⟩ := A75 (q := fun i v => w.cells? 0 (ad.add (i * 1)) 1 = some [v]) (n := len) fun i hi => by
   have := hele i hi
   rw [List.getElem?_eq_getElem (by omega)] at this
   obtain ⟨cs', c1, c2⟩ := Option.bind_eq_some_iff.1 this
   obtain ⟨k, rfl, _, hw⟩ := DataW.trod_int Tryz.underlying5 c2
   have hk : 0 ≤ k ∧ k < 256 := by
    have hw2 : (decide ((0 : Int) ≤ k) && decide (k ≤ (255 : Int))) = true := hw
    simp only [Bool.and_eq_true, decide_eq_true_eq] at hw2
    omega
   refine ⟨UInt8.ofNat k.toNat, ?_⟩
   rw [show ((UInt8.ofNat k.toNat).toNat : Int) = k from by
    rw [UInt8.toNat_ofNat']; omega]
   exact c1
  subst h1
  refine ⟨l, some ad, cap, rfl, ?_⟩
  have := B2f (w := w) (a := ad) (n := l.length) (c := cap) (sz := 1) (es := (N5 l).map fun v => [v]) (by simp [A74]) (by omega) hlc hcm fun i e he => by
   rw [List.getElem?_map] at he
   cases hv : (N5 l)[i]? with
   | none => rw [hv] at he; simp at he
   | some v => rw [hv] at he; simp at he; subst he; exact h2 i v hv
  have hf : ((N5 l).map fun v => [v]).flatten = N5 l := by
   generalize N5 l = L
   induction L with
   | nil => rfl
   | cons a L ih => simp [ih]
  rwa [hf] at this
end read2
theorem A1V : ∀ (t : Ty) (G : IM) (cells : List Value), t.small → B2 G t cells →
  Fn Tryz.prog 50 [.agg ⟨cells⟩] [] G (L2 fun G' v => ∃ cells' F, v = .agg ⟨cells'⟩ ∧ P0 (C2 G' G) t cells' F ∧ F.Nodup) := by
 refine Ty.ind fun k ks ih G cells hts hr => ?_
 simp only [Ty.small] at hts
 obtain ⟨hsm, hks⟩ := hts
 obtain ⟨p, c, es, rfl, hk, hsl, hkl⟩ := hr.open
 simp only [Ty.k, Ty.ks] at hk hsl hkl ⊢
 have hn := hsl.le
 refine B6 Tryz.func50 rfl Tryz.ntmps50 Tryz.results50 rfl ?_
 intro w0
 refine tS (tR ?_)
 refine sE (C4 rfl rfl) rfl (fun b3 => ?_)
 refine sE (A6 rfl) rfl (fun b4 => ?_)
 refine D5 ?_
 refine sE (A6 rfl) rfl (fun b12 => ?_)
 refine N2 ?_
 refine C3 ?_
 (refine Y3 25 2 ?_; refine M6 (fun (x : Nat × Option Addr × Nat × List (List Value) × List Nat × IM) => ⟨[(12, .int .i64 x.1), (11, .int .i64 ks.length), (10, .slice p ks.length c), (3, .pointer (some ⟨b12, 0, none⟩)), (2, .pointer (some ⟨b4, 0, none⟩))], [.blk b12 [.int .i64 k, .slice x.2.1 x.1 x.2.2.1], .slc x.2.1 x.2.2.1 25 2 x.1 x.2.2.2.1.flatten, .blk b4 [.int .i64 0, .slice none 0 0]], x.2.2.2.2.2⟩) (fun x => x.1 ≤ ks.length ∧ B8 G x.2.2.2.2.2 ∧ N0 (C2 x.2.2.2.2.2 G) (ks.take x.1) x.2.2.2.1 x.2.2.2.2.1 ∧ x.2.2.2.2.1.Nodup) (fun x => ks.length - x.1) (0, none, 0, [], [], G) ?_ ?_ ?_)
 (simp only [K4]; exact O9 (by repeat (first | exact H8.nil | refine H8.cons rfl ?_)) (by repeat (first | exact A1.refl | exact A1.nil | refine A1.cons (by repeat (first | exact Pk.here | apply Pk.there)) ?_)))
 exact ⟨by simp, B8.refl _, by simp [N0], by simp⟩
 (rintro ⟨i, pn, cn, es', F, Gi⟩ ⟨hi, hle, hst, hnd⟩; simp only [] at hi hle hst hnd ⊢; replace hsl := hsl.mono hle; replace hkl := hkl.mono hle)
 refine tS (tR ?_)
 refine sB (M2 rfl rfl) rfl rfl (fun h32 => ?_) (fun h32 => ?_)
 refine sD (nS (tS (qT rfl (tK (nS (tS ?_))))))
 refine C3 ?_
 refine tS (tR ?_)
 (obtain ⟨b, o, p2, c2, rfl, hat, hre, hgb⟩ := hsl.kidTy hkl (i := i) (by omega) (by omega); refine sP (B4 rfl rfl rfl (by omega)) rfl rfl ?_)
 refine sL (A3 rfl rfl (hat _) rfl) rfl rfl ?_
 refine sE (A6 rfl) rfl (fun b45 => ?_)
 refine H6 ?_
 refine sD (nS ?_)
 refine D1 D2 rfl ?_
 refine I4 (i := 0) (l' := [tt,ff,ff,ff,ff,ff,ff,ff]) rfl C8 (B5 rfl) rfl (by kernel_rfl) rfl rfl ?_
 refine aL 1 rfl (C7 rfl rfl) rfl ?_
 refine aL 2 rfl (A4 rfl rfl) rfl ?_
 refine A2 3 ?_
 (refine E3 rfl rfl (ih _ (List.getElem_mem (by omega)) _ _ (Ty.smallL_mem hks _ (List.getElem_mem (by omega))) hre) rfl rfl rfl (fun v G1 hle1 hh => ?_); obtain ⟨cells', F', rfl, hs', hnd'⟩ := hh; obtain ⟨p3, c3, es3, rfl, _⟩ := hs'.R.open)
 refine A2 4 ?_
 (refine D9 rfl (D0 rfl rfl rfl (by omega) (by unfold maxLen; omega) rfl) rfl rfl ?_; rintro _ ⟨b56, rfl⟩)
 refine A2 5 ?_
 refine V8 rfl rfl rfl rfl rfl rfl (fun _ _ => by repeat (first | exact Sw.here | apply Sw.there)) (R9 (by repeat first | exact mH | apply mT)) rfl (by simp [Value.oneCell']) (by unfold maxLen; omega) (by omega) rfl rfl (by repeat (first | exact A9.nil | apply A9.dep (by kernel_rfl) | apply A9.blk (by kernel_rfl) (by repeat (first | exact Pk.here | apply Pk.there)) (by repeat first | exact mH | apply mT))) (fun pn' cn' => ?_)
 refine aP 6 rfl (B5 rfl) rfl ?_
 refine A2 7 ?_
 refine M3 rfl rfl rfl rfl rfl rfl rfl rfl (by kernel_rfl) (by repeat first | exact Sw.here | apply Sw.there) (by rfl) ?_
 refine C0 (O2 (nS (tR ?_)))
 refine sP (M8 rfl rfl (by omega) (by omega)) rfl rfl ?_
 refine sQ (qM rfl) rfl (sD ?_)
 refine L8 (i + 1, pn', cn', es' ++ [[.int .i64 ks[i].k, .slice p3 ks[i].ks.length c3]], F ++ F', G1) ?_ ?_ ?_
 (simp only [K4]; exact O9 (by repeat (first | exact H8.nil | refine H8.cons rfl ?_)) (by repeat (first | exact A1.refl | exact A1.nil | refine A1.cons (by repeat (first | exact Pk.here | apply Pk.there)) ?_)))
 exact ⟨by omega, hle.trans hle1, N0.step hst hnd hle hle1 (by omega) hs' hnd'⟩
 (show ks.length - (i + 1) < ks.length - i; omega)
 refine K0 ?_
 (refine I6 (by repeat (first | exact Pk.here | apply Pk.there)) (fun G2 hle2 hsl2 hno2 => ?_); obtain rfl : i = ks.length := by omega)
 refine tT ?_
 refine D6 (rC rfl (A4 rfl rfl)) ?_
 (rw [List.take_length] at hst; obtain ⟨F2, hf1, hf2⟩ := P0.fin hst hnd hle hle2 hsl2 hno2 hk; exact ⟨rfl, _, F2, rfl, hf1, hf2⟩)
def B2o (t : Ty) (G : IM) : IM → Value → List A5 → Prop := L2 fun G' v => ∃ cells' F, v = .agg ⟨cells'⟩ ∧ P0 (C2 G' G) t cells' F ∧ F.Nodup
def B6K (ks : List Ty) (G : IM) : IM → Value → List A5 → Prop := L2 fun G' v => ∃ p c F, v = .slice p ks.length c ∧ A7M (C2 G' G) ks p c F ∧ F.Nodup
def A5L (t : Tm) (G : IM) : IM → Value → List A5 → Prop := L2 fun G' v => ∃ cells' F, v = .agg ⟨cells'⟩ ∧ P6 (C2 G' G) t cells' F ∧ F.Nodup
def B6L (ks : List Tm) (G : IM) : IM → Value → List A5 → Prop := L2 fun G' v => ∃ p c F, v = .slice p ks.length c ∧ A2j (C2 G' G) ks p c F ∧ F.Nodup
theorem B2p {full cs : List Value} {o : Nat} (h : ∀ j v, cs[j]? = some v → full[o + j]? = some v) (hc : cs ≠ []) : full = full.take o ++ (cs ++ full.drop (o + cs.length)) ∧ (full.take o).length = o := by
 have hpos : 0 < cs.length := List.length_pos_iff.2 hc
 have hl : o + cs.length ≤ full.length := by
  have := h (cs.length - 1) cs[cs.length - 1] (List.getElem?_eq_getElem (by omega))
  have := (List.getElem?_eq_some_iff.1 this).1; omega
 have ho : (full.take o).length = o := by simp; omega
 refine ⟨?_, ho⟩
 apply List.ext_getElem?
 intro i
 rw [List.getElem?_append, ho]
 split
 ·rename_i hi; rw [List.getElem?_take, if_pos hi]
 ·rename_i hi
  rw [List.getElem?_append]
  split
  ·rename_i h2
   have := h (i - o) cs[i - o] (List.getElem?_eq_getElem h2)
   rw [show o + (i - o) = i by omega] at this
   rw [this, List.getElem?_eq_getElem h2]
  ·rename_i h2
   rw [List.getElem?_drop, show o + cs.length + (i - o - cs.length) = i by omega]
theorem Sl.blk {G : IM} {p : Option Addr} {n c sz : Nat} {cs : List Value} (h : Sl G p n c sz cs) (hc : cs ≠ []) : ∃ b A C, p = some ⟨b, A.length, none⟩ ∧ G b = some (A ++ (cs ++ C)) := by
 obtain ⟨h1, h2, h3, h4⟩ := h
 have hn : n ≠ 0 := by
  rintro rfl
  simp at h1; exact hc h1
 obtain ⟨b, o, full, rfl, hg, hv⟩ := h4.resolve_left hn
 obtain ⟨e1, e2⟩ := B2p hv hc
 exact ⟨b, full.take o, full.drop (o + cs.length), by rw [e2], by rw [← e1]; exact hg⟩
theorem Sl.of_blk {G : IM} {b n c sz : Nat} {A C cs : List Value} (hl : cs.length = n * sz) (hc : n ≤ c) (hm : c ≤ maxLen) (hg : G b = some (A ++ (cs ++ C))) : Sl G (some ⟨b, A.length, none⟩) n c sz cs := by
 refine ⟨hl, hc, hm, .inr ⟨b, A.length, _, rfl, hg, fun j v hj => ?_⟩⟩
 have hlt : j < cs.length := (List.getElem?_eq_some_iff.1 hj).1
 rw [List.getElem?_append, if_neg (by omega), List.getElem?_append, if_pos (by omega), show A.length + j - A.length = j by omega]
 exact hj
def InG (G : IM) (bs : A04) (F : List Nat) : Prop := (bs.map Prod.fst).Sublist F ∧ ∀ q ∈ bs, G q.1 = some q.2
mutual
theorem A2O : ∀ t : Ty, H4 t ≤ 4294967296 → t.small
 | .mk _ ks, h => by
  rw [H4] at h
  have := A1b ks
  simp only [Ty.small]
  exact ⟨by omega, A76 ks (by omega)⟩
theorem A76 : ∀ ts : List Ty, L7 ts ≤ 4294967296 → Ty.smallL ts
 | [], _ => by simp [Ty.smallL]
 | t :: ts, h => by
  rw [L7] at h
  have := A0f t
  have := A1b ts
  simp only [Ty.smallL]
  exact ⟨A2O t (by omega), A76 ts (by omega)⟩
end
mutual
theorem A77 : ∀ t : Tm, A0e t ≤ 4294967296 → t.small
 | .mk _ nm _ ty fr _ ks, h => by
  rw [A0e] at h
  have := A4s ks
  have := A0f ty
  have := A0f fr
  simp only [Tm.small]
  exact ⟨by omega, A2O ty (by omega), A2O fr (by omega), by omega, A78 ks (by omega)⟩
theorem A78 : ∀ ts : List Tm, W8 ts ≤ 4294967296 → Tm.smallL ts
 | [], _ => by simp [Tm.smallL]
 | t :: ts, h => by
  rw [W8] at h
  have := A7Z t
  have := A4s ts
  simp only [Tm.smallL]
  exact ⟨A77 t (by omega), A78 ts (by omega)⟩
end
mutual
theorem A5M : ∀ t : Tm, (E7 t : Int) ≤ A0e t + 1
 | .mk _ nm _ ty fr _ ks => by
  have := A79 ks
  have := A0f ty
  have := A0f fr
  rw [A0e, E7]; omega
theorem A79 : ∀ ts : List Tm, (H3 ts : Int) ≤ ts.length + W8 ts
 | [] => by rw [W8, H3]; simp
 | t :: ts => by
  have := A5M t
  have := A79 ts
  rw [W8, H3, List.length_cons]; omega
end
theorem Q3 : ∀ (t : Ty) (G : IM) (cells : List Value), t.small → B2 G t cells → Fn Tryz.prog 152 [.agg ⟨cells⟩] [] G (B2o t G) := by
 refine Ty.ind fun k ks ih G cells hts hr => ?_
 simp only [Ty.small] at hts
 obtain ⟨hsm, hks⟩ := hts
 obtain ⟨p, c, es, rfl, hk, hsl, hkl⟩ := hr.open
 simp only [Ty.k, Ty.ks] at hk hsl hkl ⊢
 have hn := hsl.le
 refine B6 Tryz.func152 rfl Tryz.ntmps152 Tryz.results152 rfl ?_
 intro w0
 refine tS (tR ?_)
 refine sE (C4 rfl rfl) rfl (fun b3 => ?_)
 refine sE (A6 rfl) rfl (fun b4 => ?_)
 refine D5 ?_
 refine sE (A6 rfl) rfl (fun b12 => ?_)
 refine H6 ?_
 refine sD (nS (tS (tS (tR (sQ (qA rfl) rfl (sD (nS ?_)))))))
 refine C3 ?_
 (refine Y3 25 2 ?_; refine M6 (fun (x : Nat × Option Addr × Nat × List (List Value) × List Nat × IM) => ⟨[(4, .int .i64 x.1), (3, .pointer (some ⟨b12, 0, none⟩)), (1, .pointer (some ⟨b3, 0, none⟩)), (2, .pointer (some ⟨b4, 0, none⟩))], [.blk b12 [.int .i64 k, .slice x.2.1 x.1 x.2.2.1], .slc x.2.1 x.2.2.1 25 2 x.1 x.2.2.2.1.flatten, .blk b4 [.int .i64 0, .slice none 0 0], .blk b3 [.int .i64 k, .slice p ks.length c]], x.2.2.2.2.2⟩) (fun x => x.1 ≤ ks.length ∧ B8 G x.2.2.2.2.2 ∧ N0 (C2 x.2.2.2.2.2 G) (ks.take x.1) x.2.2.2.1 x.2.2.2.2.1 ∧ x.2.2.2.2.1.Nodup) (fun x => ks.length - x.1) (0, none, 0, [], [], G) ?_ ?_ ?_)
 (simp only [K4]; exact E1)
 exact ⟨by simp, B8.refl _, by simp [N0], by simp⟩
 (rintro ⟨i, pn, cn, es', F, Gi⟩ ⟨hi, hle, hst, hnd⟩; simp only [] at hi hle hst hnd ⊢; replace hsl := hsl.mono hle; replace hkl := hkl.mono hle)
 refine D5 ?_
 refine sB (M2 rfl rfl) rfl rfl (fun h34 => ?_) (fun h34 => ?_)
 refine sD (nS (qT rfl (tK (nS (tS ?_)))))
 refine C3 ?_
 (obtain ⟨b, o, p2, c2, rfl, hat, hre, hgb⟩ := hsl.kidTy hkl (i := i) (by omega) (by omega); refine D1 D2 rfl ?_)
 refine I4 (i := 0) (l' := [tt,ff,ff,ff,ff,ff,ff,ff,ff,ff,ff,ff]) rfl C8 (B5 rfl) rfl (by kernel_rfl) rfl rfl ?_
 refine aL 1 rfl (C7 rfl rfl) rfl ?_
 refine aP 2 rfl (B5 rfl) rfl ?_
 refine aL 3 rfl (C7 rfl rfl) rfl ?_
 refine aP 4 rfl (qM rfl) rfl ?_
 refine aP 5 rfl (B4 rfl rfl rfl (by omega)) rfl ?_
 refine aL 6 rfl (A3 rfl rfl (hat _) rfl) rfl ?_
 refine A2 7 ?_
 (refine E3 rfl rfl (ih ks[i] (List.getElem_mem (by omega)) _ _ (Ty.smallL_mem hks _ (List.getElem_mem (by omega))) hre) rfl rfl rfl (fun v G1 hle1 hh => ?_); obtain ⟨cells', F', rfl, hs', hnd'⟩ := hh; obtain ⟨p3, c3, es3, rfl, _⟩ := hs'.R.open)
 refine A2 8 ?_
 (refine D9 rfl (D0 rfl rfl rfl (by omega) (by unfold maxLen; omega) rfl) rfl rfl ?_; rintro _ ⟨b53, rfl⟩)
 refine A2 9 ?_
 refine V8 rfl rfl rfl rfl rfl rfl (fun _ _ => by repeat (first | exact Sw.here | apply Sw.there)) (R9 (by repeat first | exact mH | apply mT)) rfl (by simp [Value.oneCell']) (by unfold maxLen; omega) (by omega) rfl rfl (by repeat (first | exact A9.nil | apply A9.dep (by decide +kernel) | apply A9.blk (by decide +kernel) (by repeat (first | exact Pk.here | apply Pk.there)) (by repeat first | exact mH | apply mT))) (fun pn' cn' => ?_)
 refine aP 10 rfl (B5 rfl) rfl ?_
 refine A2 11 ?_
 refine M3 rfl rfl rfl rfl rfl rfl rfl rfl (by kernel_rfl) (by repeat first | exact Sw.here | apply Sw.there) (by rfl) ?_
 refine C0 (O2 (nS (tR (sQ (qM rfl) rfl ?_))))
 refine sP (M8 rfl rfl (by omega) (by omega)) rfl rfl ?_
 refine sQ (qA rfl) rfl (sD ?_)
 refine L8 (i + 1, pn', cn', es' ++ [[.int .i64 ks[i].k, .slice p3 ks[i].ks.length c3]], F ++ F', G1) ?_ ?_ ?_
 (simp only [K4]; exact E1)
 exact ⟨by omega, hle.trans hle1, N0.step hst hnd hle hle1 (by omega) hs' hnd'⟩
 (show ks.length - (i + 1) < ks.length - i; omega)
 refine O0 ?_
 (refine I6 (by repeat (first | exact Pk.here | apply Pk.there)) (fun G2 hle2 hsl2 hno2 => ?_); obtain rfl : i = ks.length := (by omega))
 refine tT ?_
 refine D6 (rC rfl (A4 rfl rfl)) ?_
 (rw [List.take_length] at hst; obtain ⟨F2, hf1, hf2⟩ := P0.fin hst hnd hle hle2 hsl2 hno2 hk; exact ⟨rfl, _, F2, rfl, hf1, hf2⟩)
theorem A2l : ∀ (t : Tm) (G : IM) (cells : List Value), t.small → A8 G t cells → Fn Tryz.prog 94 [.agg ⟨cells⟩] [] G (A5L t G) := by
 refine Tm.ind fun k nm num ty fr lb ks ih G cells hts hr => ?_
 have hone := hr.one
 simp only [Tm.small] at hts
 obtain ⟨hnm, hty', hfr', hsm, hks⟩ := hts
 obtain ⟨tk, tks⟩ := ty
 obtain ⟨fk, fks⟩ := fr
 obtain ⟨pt, ct, pf, cf, p, c, es, rfl, hk, hnum, hlb, hty, hfr, hsl, hkl⟩ := hr.open9
 have hn := hsl.le
 have hT := Q3 (.mk tk tks) G _ hty' hty
 refine B6 Tryz.func94 rfl Tryz.ntmps94 Tryz.results94 rfl ?_
 intro w0
 refine tS (tR ?_)
 refine sE (C4 rfl rfl) rfl (fun b3 => ?_)
 refine sE (A6 rfl) rfl (fun b4 => ?_)
 refine sD (nS (tS (tR (sL (A4 rfl rfl) rfl rfl ?_))))
 refine sE (A6 rfl) rfl (fun b10 => ?_)
 refine D5 ?_
 (refine D7 rfl hT rfl rfl (fun v G1 hle1 hh => ?_); obtain ⟨K9, F1, rfl, hs1, hn1⟩ := hh; obtain ⟨p1, c1, rfl, _⟩ := hs1.open; have hF := Q3 (.mk fk fks) G1 _ hfr' (hfr.mono hle1))
 refine F8 ?_
 (refine D7 rfl hF rfl rfl (fun v G2 hle2 hh => ?_); obtain ⟨cs2, F2, rfl, hs2, hn2⟩ := hh; obtain ⟨p2, c2, rfl, _⟩ := hs2.open; replace hsl := hsl.mono (hle1.trans hle2); replace hkl := hkl.mono (hle1.trans hle2))
 refine M9 ?_
 refine C3 ?_
 (refine Y3 28 9 ?_; refine M6 (fun (x : Nat × Option Addr × Nat × List (List Value) × List Nat × IM) => ⟨[(4, .int .i64 x.1), (3, .pointer (some ⟨b10, 0, none⟩)), (1, .pointer (some ⟨b3, 0, none⟩)), (2, .pointer (some ⟨b4, 0, none⟩))], [.blk b10 [.int .i64 k, .string nm, .int .i64 num, .int .i64 tk, .slice p1 tks.length c1, .int .i64 fk, .slice p2 fks.length c2, .int .i64 lb, .slice x.2.1 x.1 x.2.2.1], .slc x.2.1 x.2.2.1 28 9 x.1 x.2.2.2.1.flatten, .blk b4 [.int .i64 0, .string ⟨⟨[]⟩⟩, .int .i64 0, .int .i64 0, .slice none 0 0, .int .i64 0, .slice none 0 0, .int .i64 0, .slice none 0 0], .blk b3 [.int .i64 k, .string nm, .int .i64 num, .int .i64 tk, .slice pt tks.length ct, .int .i64 fk, .slice pf fks.length cf, .int .i64 lb, .slice p ks.length c]], x.2.2.2.2.2⟩) (fun x => x.1 ≤ ks.length ∧ B8 G2 x.2.2.2.2.2 ∧ O3 (C2 x.2.2.2.2.2 G2) (ks.take x.1) x.2.2.2.1 x.2.2.2.2.1 ∧ x.2.2.2.2.1.Nodup) (fun x => ks.length - x.1) (0, none, 0, [], [], G2) ?_ ?_ ?_)
 (simp only [K4]; exact E1)
 exact ⟨by simp, B8.refl _, by simp [O3], by simp⟩
 (rintro ⟨i, pn, cn, es', F, Gi⟩ ⟨hi, hle, hst, hnd⟩; simp only [] at hi hle hst hnd ⊢; replace hsl := hsl.mono hle; replace hkl := hkl.mono hle)
 refine D5 ?_
 refine sB (M2 rfl rfl) rfl rfl (fun h56 => ?_) (fun h56 => ?_)
 refine sD (nS (qT rfl (tK (nS (tS ?_)))))
 refine C3 ?_
 (obtain ⟨b, o, e, rfl, hl, hat, hre, hgb⟩ := hsl.kidTm hkl (i := i) (by omega) (by omega); have hone := hre.one; refine D1 D2 rfl ?_)
 refine I4 (i := 0) (l' := [tt,ff,ff,ff,ff,ff,ff,ff,ff,ff,ff,ff]) rfl C8 (B5 rfl) rfl (by kernel_rfl) rfl rfl ?_
 refine aL 1 rfl (C7 rfl rfl) rfl ?_
 refine aP 2 rfl (B5 rfl) rfl ?_
 refine aL 3 rfl (C7 rfl rfl) rfl ?_
 refine aP 4 rfl (qM rfl) rfl ?_
 refine aP 5 rfl (B4 rfl rfl rfl (by omega)) rfl ?_
 refine aL 6 rfl (A3 rfl rfl (hat _) hl) rfl ?_
 refine A2 7 ?_
 (refine E3 rfl rfl (ih ks[i] (List.getElem_mem (by omega)) _ _ (Tm.smallL_mem hks _ (List.getElem_mem (by omega))) hre) rfl rfl rfl (fun v G3 hle3 hh => ?_); obtain ⟨cells', F', rfl, hs', hnd'⟩ := hh; obtain ⟨qt, dt, et', qf, df, ef', q3, d3, es3, rfl, _⟩ := hs'.R.open)
 refine A2 8 ?_
 (refine D9 rfl (D0 rfl rfl rfl (by omega) (by unfold maxLen; omega) rfl) rfl rfl ?_; rintro _ ⟨b75, rfl⟩)
 refine A2 9 ?_
 refine V8 rfl rfl rfl rfl rfl rfl (fun _ _ => by repeat (first | exact Sw.here | apply Sw.there)) (R9 (by repeat first | exact mH | apply mT)) rfl (by simp [Value.oneCell']) (by unfold maxLen; omega) (by omega) rfl rfl (by repeat (first | exact A9.nil | apply A9.dep (by decide +kernel) | apply A9.blk (by decide +kernel) (by repeat (first | exact Pk.here | apply Pk.there)) (by repeat first | exact mH | apply mT))) (fun pn' cn' => ?_)
 refine aP 10 rfl (B5 rfl) rfl ?_
 refine A2 11 ?_
 refine M3 rfl rfl rfl rfl rfl rfl rfl rfl (by kernel_rfl) (by repeat first | exact Sw.here | apply Sw.there) (by rfl) ?_
 refine C0 (O2 (nS (tR (sQ (qM rfl) rfl ?_))))
 refine sP (M8 rfl rfl (by omega) (by omega)) rfl rfl ?_
 refine sQ (qA rfl) rfl (sD ?_)
 refine L8 (i + 1, pn', cn', es' ++ [[.int .i64 ks[i].k, .string ks[i].nm, .int .i64 ks[i].num, .int .i64 ks[i].ty.k, .slice qt ks[i].ty.ks.length dt, .int .i64 ks[i].fr.k, .slice qf ks[i].fr.ks.length df, .int .i64 ks[i].lb, .slice q3 ks[i].ks.length d3]], F ++ F', G3) ?_ ?_ ?_
 (simp only [K4]; exact E1)
 exact ⟨by omega, hle.trans hle3, O3.step hst hnd hle hle3 (by omega) hs' hnd'⟩
 (show ks.length - (i + 1) < ks.length - i; omega)
 refine O0 ?_
 (refine I6 (by repeat (first | exact Pk.here | apply Pk.there)) (fun G4 hle4 hsl4 hno4 => ?_); obtain rfl : i = ks.length := (by omega))
 refine tT ?_
 refine D6 (rC rfl (A4 rfl rfl)) ?_
 (rw [List.take_length] at hst; obtain ⟨F3, hf1, hf2⟩ := A2j.fin hst hnd hle hle4 hsl4 hno4; obtain ⟨F5, hg1, hg2⟩ := P6.mk3 (nm := nm) hk hnum hlb hle1 hle2 (hle.trans hle4) hs1 hn1 hs2 hn2 hf1 hf2; exact ⟨rfl, _, F5, rfl, hg1, hg2⟩)
mutual
def J7 (g : Tm → Tm) : Tm → Tm
 | .mk k nm num ty fr lb ks => g (.mk k nm num ty fr lb (H1 g ks))
def H1 (g : Tm → Tm) : List Tm → List Tm
 | [] => []
 | t :: ts => J7 g t :: H1 g ts
end
theorem A1d (g : Tm → Tm) : ∀ ks, H1 g ks = ks.map (J7 g)
 | [] => rfl
 | t :: ts => by rw [H1, A1d g ts, List.map_cons]
mutual
theorem A8a : ∀ t, J7 id t = t
 | .mk k nm num ty fr lb ks => by rw [J7, A8b ks]; rfl
theorem A8b : ∀ ks, H1 id ks = ks
 | [] => rfl
 | t :: ts => by rw [H1, A8a t, A8b ts]
end
theorem P6.mk3k {G G1 G2 G3 : IM} {k : Int} {nm : ByteArray} {num : Int} {ty fr : Ty} {lb : Int} {ks : List Tm} {tc fc : List Value} {p : Option Addr} {c : Nat} {F1 F2 F3 : List Nat} (hk : E9 k) (hnum : E9 num) (hlb : E9 lb)
  (hl1 : B8 G G1) (hl2 : B8 G1 G2) (hl3 : B8 G2 G3) (h3 : A2j (C2 G1 G) ks p c F3) (n3 : F3.Nodup) (h1 : P0 (C2 G2 G1) ty tc F1) (n1 : F1.Nodup) (h2 : P0 (C2 G3 G2) fr fc F2) (n2 : F2.Nodup) :
  ∃ F, P6 (C2 G3 G) (.mk k nm num ty fr lb ks) ([.int .i64 k, .string nm, .int .i64 num] ++ tc ++ fc ++ [.int .i64 lb, .slice p ks.length c]) F ∧ F.Nodup := by
 obtain ⟨es, Fs, e1, e2, rfl, e4⟩ := h3
 have i3 : ∀ b ∈ K2 p ++ Fs, C2 G1 G b ≠ none := by
  intro b hb
  rcases List.mem_append.1 hb with hb | hb
  ·exact e4 b hb
  ·exact e2.inG b hb
 have a1 : B8 (C2 G1 G) (C2 G3 G) := C2.mono (hl2.trans hl3)
 have a2 : B8 (C2 G2 G1) (C2 G3 G) := fun b l h => C2.mono hl3 b l (C2.anti hl1 b l h)
 have a3 : B8 (C2 G3 G2) (C2 G3 G) := C2.anti (hl1.trans hl2)
 refine ⟨F1 ++ (F2 ++ (K2 p ++ Fs)), ?_, ?_⟩
 ·simp only [P6]
  exact ⟨tc, fc, p, c, es, F1, F2, Fs, rfl, hk, hnum, hlb, h1.mono a2, h2.mono a3, e1.mono a1, e2.mono a1, rfl, A2N a1 e4⟩
 ·rw [List.nodup_append, List.nodup_append]
  refine ⟨n1, ⟨n2, n3, ?_⟩, ?_⟩
  ·rintro x hx y hy rfl
   exact A2k (A2N (C2.mono hl2) i3) h2.inG x hy x hx rfl
  ·rintro x hx y hy rfl
   rcases List.mem_append.1 hy with hy | hy
   ·exact A2k (A2N (C2.anti hl1) h1.inG) h2.inG x hx x hy rfl
   ·exact A2k i3 h1.inG x hy x hx rfl
mutual
def mOk (Q : Tm → Prop) (g : Tm → Tm) : Tm → Prop
 | .mk k nm num ty fr lb ks => A0g Q g ks ∧ Q (.mk k nm num ty fr lb (H1 g ks))
def A0g (Q : Tm → Prop) (g : Tm → Tm) : List Tm → Prop
 | [] => True
 | t :: ts => mOk Q g t ∧ A0g Q g ts
end
theorem A8c {Q : Tm → Prop} {g : Tm → Tm} : ∀ {ts : List Tm}, A0g Q g ts → ∀ t ∈ ts, mOk Q g t
 | [], _, t, h => by simp at h
 | t' :: ts, h, t, ht => by
  simp only [A0g] at h
  rcases List.mem_cons.1 ht with rfl | ht
  ·exact h.1
  ·exact A8c h.2 t ht
mutual
theorem A8d (g : Tm → Tm) : ∀ t, mOk (fun _ => True) g t
 | .mk k nm num ty fr lb ks => by rw [mOk]; exact ⟨A8e g ks, trivial⟩
theorem A8e (g : Tm → Tm) : ∀ ts, A0g (fun _ => True) g ts
 | [] => by rw [A0g]; trivial
 | t :: ts => by rw [A0g]; exact ⟨A8d g t, A8e g ts⟩
end
def A8f (g : Tm → Tm) (Q : Tm → Prop) (fid : FuncId) (us cs : List Value) : Prop := ∀ (t : Tm) (G0 G1 : IM) (cells : List Value) (F : List Nat), Q t → B8 G0 G1 → P6 (C2 G1 G0) t cells F → F.Nodup →
 Fn Tryz.prog fid (us ++ [.agg ⟨cells⟩] ++ cs) [] G1 (L2 fun G2 v => ∃ cells' F', v = .agg ⟨cells'⟩ ∧ P6 (C2 G2 G0) (g t) cells' F' ∧ F'.Nodup)
theorem B2q (g : Tm → Tm) (Q : Tm → Prop) (fid : FuncId) [B7 Tryz.prog fid] (us cs : List Value) (hg : A8f g Q fid us cs) : ∀ (t : Tm) (G : IM) (cells : List Value), mOk Q g t → t.small → A8 G t cells →
  Fn Tryz.prog 76 [.agg ⟨cells⟩, .func (.func fid) ⟨us⟩ ⟨cs⟩] [] G (A5L (J7 g t) G) := by
 refine Tm.ind fun k nm num ty fr lb ks ih G cells hmo hts hr => ?_
 have hone := hr.one
 simp only [mOk] at hmo
 obtain ⟨hmoL, hQ⟩ := hmo
 simp only [Tm.small] at hts
 obtain ⟨hnm, hty', hfr', hsm, hks⟩ := hts
 obtain ⟨tk, tks⟩ := ty
 obtain ⟨fk, fks⟩ := fr
 obtain ⟨pt, ct, pf, cf, p, c, es, rfl, hk, hnum, hlb, hty, hfr, hsl, hkl⟩ := hr.open9
 have hn := hsl.le
 have hlen : (H1 g ks).length = ks.length := by rw [A1d, List.length_map]
 have hget : ∀ i (h : i < ks.length) (h' : i < (H1 g ks).length), (H1 g ks)[i] = J7 g ks[i] := fun i h h' => by simp [A1d]
 refine B6 Tryz.func76 rfl Tryz.ntmps76 Tryz.results76 rfl ?_
 intro w0
 refine tS (tR ?_)
 refine sE (C4 rfl rfl) rfl (fun b3 => ?_)
 refine sE (A6 rfl) rfl (fun b4 => ?_)
 refine M9 ?_
 refine C3 ?_
 (refine Y3 28 9 ?_; refine M6 (fun (x : Nat × Option Addr × Nat × List (List Value) × List Nat × IM) => ⟨[(11, .int .i64 x.1), (10, .int .i64 ks.length), (9, .slice p ks.length c), (5, .slice x.2.1 x.1 x.2.2.1), (2, .pointer (some ⟨b3, 0, none⟩)), (1, .func (.func fid) ⟨us⟩ ⟨cs⟩), (4, .pointer (some ⟨b4, 0, none⟩))], [.slc x.2.1 x.2.2.1 28 9 x.1 x.2.2.2.1.flatten, .blk b4 [.int .i64 0, .string ⟨⟨[]⟩⟩, .int .i64 0, .int .i64 0, .slice none 0 0, .int .i64 0, .slice none 0 0, .int .i64 0, .slice none 0 0], .blk b3 [.int .i64 k, .string nm, .int .i64 num, .int .i64 tk, .slice pt tks.length ct, .int .i64 fk, .slice pf fks.length cf, .int .i64 lb, .slice p ks.length c]], x.2.2.2.2.2⟩) (fun x => x.1 ≤ ks.length ∧ B8 G x.2.2.2.2.2 ∧ O3 (C2 x.2.2.2.2.2 G) ((H1 g ks).take x.1) x.2.2.2.1 x.2.2.2.2.1 ∧ x.2.2.2.2.1.Nodup) (fun x => ks.length - x.1) (0, none, 0, [], [], G) ?_ ?_ ?_)
 (simp only [K4]; exact E1)
 exact ⟨by simp, B8.refl _, by simp [O3], by simp⟩
 (rintro ⟨i, pn, cn, es', F, Gi⟩ ⟨hi, hle, hst, hnd⟩; simp only [] at hi hle hst hnd ⊢; replace hsl := hsl.mono hle; replace hkl := hkl.mono hle)
 refine tS (tR ?_)
 refine sB (M2 rfl rfl) rfl rfl (fun h28 => ?_) (fun h28 => ?_)
 refine sD (nS (tS (qT rfl (tK (nS (tS ?_))))))
 refine C3 ?_
 refine tS (tR ?_)
 (obtain ⟨b, o, e, rfl, hl, hat, hre, hgb⟩ := hsl.kidTm hkl (i := i) (by omega) (by omega); have hone := hre.one; refine sP (B4 rfl rfl rfl (by omega)) rfl rfl ?_)
 refine sL (A3 rfl rfl (hat _) hl) rfl rfl ?_
 refine sE (A6 rfl) rfl (fun b41 => ?_)
 refine sS rfl rfl rfl hl hone rfl ?_ (hu := by exact C1 hl.symm)
 refine sD (nS (tR (sQ (qM rfl) rfl ?_)))
 refine sL (A3 rfl rfl (A7 (by repeat first | exact mH | apply mT)) (by assumption)) rfl rfl ?_
 refine sQ (qM rfl) rfl ?_
 (refine D7 rfl (ih ks[i] (List.getElem_mem (by omega)) _ _ (A8c hmoL _ (List.getElem_mem (by omega))) (Tm.smallL_mem hks _ (List.getElem_mem (by omega))) hre) rfl rfl (fun v G3 hle3 hh => ?_); obtain ⟨cells', F', rfl, hs', hnd'⟩ := hh; rw [← hget i (by omega) (by omega)] at hs'; have hlc := hs'.R.len; have hoc := hs'.R.one)
 (obtain ⟨v1, v2, v3, v4, v5, v6, v7, v8, v9, rfl⟩ : ∃ v1 v2 v3 v4 v5 v6 v7 v8 v9, cells' = [v1, v2, v3, v4, v5, v6, v7, v8, v9] := by obtain ⟨_, _, _, _, _, _, _, _, _, rfl, _⟩ := hs'.R.open; exact ⟨_, _, _, _, _, _, _, _, _, rfl⟩)
 (refine K7 (D0 rfl rfl rfl (by omega) (by unfold maxLen; omega) rfl) rfl ?_; rintro _ ⟨b51, rfl⟩)
 refine A1S rfl rfl rfl rfl rfl (fun _ _ => by repeat (first | exact Sw.here | apply Sw.there)) (R9 (by repeat first | exact mH | apply mT)) rfl (fun u hu => List.all_eq_true.1 hoc u hu) (by unfold maxLen; omega) (by omega) rfl (fun pn' cn' => ?_)
 refine sQ (qA rfl) rfl (sD (O2 (nS (tR ?_))))
 refine sP (M8 rfl rfl (by omega) (by omega)) rfl rfl ?_
 refine sQ (qM rfl) rfl (sD ?_)
 refine L8 (i + 1, pn', cn', es' ++ [[v1, v2, v3, v4, v5, v6, v7, v8, v9]], F ++ F', G3) ?_ ?_ ?_
 (simp only [K4]; exact E1)
 exact ⟨by omega, hle.trans hle3, O3.step hst hnd hle hle3 (by omega) hs' hnd'⟩
 (show ks.length - (i + 1) < ks.length - i; omega)
 refine I8 ?_
 (obtain rfl : i = ks.length := (by omega); refine A0l (by repeat (first | exact Pk.here | apply Pk.there)) (fun G2 hle2 hsl2 hno2 => ?_); rw [← hlen, List.take_length] at hst; rw [← hlen] at hsl2; obtain ⟨F3, hf1, hf2⟩ := A2j.fin hst hnd hle hle2 hsl2 hno2; have hleG := hle.trans hle2; have hT := A1V (.mk tk tks) G2 _ hty' (hty.mono hleG); refine D1 D2 rfl ?_)
 refine I4 (i := 0) (l' := [tt,ff,ff,ff,ff,ff,ff,ff,ff,ff,ff,ff,ff]) rfl C8 (B5 rfl) rfl (by kernel_rfl) rfl rfl ?_
 refine aL 1 rfl (A4 rfl rfl) rfl ?_
 refine aP 3 rfl (B5 rfl) rfl ?_
 refine aL 4 rfl (A4 rfl rfl) rfl ?_
 refine aP 6 rfl (qM rfl) rfl ?_
 refine A2 2 ?_
 (refine E3 rfl rfl hT rfl rfl rfl (fun v G4 hle4 hh => ?_); obtain ⟨K9, F1, rfl, hs1, hn1⟩ := hh; obtain ⟨p1, c1, rfl, _⟩ := hs1.open; have hF := A1V (.mk fk fks) G4 _ hfr' (hfr.mono (hleG.trans hle4)))
 refine aP 7 rfl (B5 rfl) rfl ?_
 refine A2 5 ?_
 (refine E3 rfl rfl hF rfl rfl rfl (fun v G5 hle5 hh => ?_); obtain ⟨cs2, F2, rfl, hs2, hn2⟩ := hh; obtain ⟨p2, c2, rfl, _⟩ := hs2.open; obtain ⟨F6, hg1, hg2⟩ := P6.mk3k (nm := nm) hk hnum hlb hleG hle4 hle5 hf1 hf2 hs1 hn1 hs2 hn2; rw [hlen] at hg1; have hch := hg _ G G5 _ F6 hQ (hleG.trans (hle4.trans hle5)) hg1 hg2)
 refine A2 8 ?_
 refine M3 rfl rfl rfl rfl rfl rfl rfl rfl (by kernel_rfl) (by repeat first | exact Sw.here | apply Sw.there) (by rfl) ?_
 refine aP 9 rfl (B5 rfl) rfl ?_
 refine A2 10 ?_
 refine M3 rfl rfl rfl rfl rfl rfl rfl rfl (by kernel_rfl) (by repeat first | exact Sw.here | apply Sw.there) (by rfl) ?_
 refine aP 11 rfl (B5 rfl) rfl ?_
 refine A2 12 ?_
 refine M3 rfl rfl rfl rfl rfl rfl rfl rfl (by kernel_rfl) (by repeat first | exact Sw.here | apply Sw.there) (by rfl) ?_
 refine J9 ?_
 (refine K7 (A4e rfl rfl hch (List.Perm.refl _) rfl) rfl ?_; rintro _ ⟨v, G7, outs, rfl, hle7, rfl, cells7, F7, rfl, hs7, hn7⟩; have hl7 := hs7.R.len; have ho7 := hs7.R.one)
 refine sS rfl rfl rfl hl7 ho7 rfl ?_ (hu := by exact C1 hl7.symm)
 refine sD (nS (tT ?_))
 refine D6 (rC rfl (A3 rfl rfl (A7 (by repeat first | exact mH | apply mT)) hl7)) ?_
 (rw [J7]; exact ⟨rfl, cells7, F7, rfl, hs7, hn7⟩)
theorem B2r (G : IM) (cells : List Value) (hl : cells.length = 9) (hone : cells.all (·.oneCell') = true) : Fn Tryz.prog 192 [.agg ⟨cells⟩] [] G (J3 (.agg ⟨cells⟩) G) := by
 refine B6 Tryz.func192 rfl Tryz.ntmps192 Tryz.results192 rfl ?_
 intro w0
 refine tS (tR ?_)
 refine sE (C4 rfl rfl) rfl (fun b3 => ?_)
 refine sE (A6 rfl) rfl (fun b4 => ?_)
 refine sD (nS (tS (tR ?_)))
 refine sL (A3 rfl rfl (A7 (by repeat first | exact mH | apply mT)) (by assumption)) rfl rfl ?_
 refine sS rfl rfl rfl hl hone rfl ?_ (hu := by exact C1 hl.symm)
 refine sD (nS (tT ?_))
 refine D6 (rC rfl (A3 rfl rfl (A7 (by repeat first | exact mH | apply mT)) hl)) ?_
 exact ⟨rfl, rfl, rfl⟩
theorem B2s : A8f id (fun _ => True) 192 [] [] := fun t G0 G1 cells F _ hle hs hn =>
 (B2r G1 cells hs.R.len hs.R.one).mono fun G' v outs _ ⟨h1, h2, h3⟩ => ⟨h3, cells, F, h2, by rw [h1]; exact hs, hn⟩
theorem A5N (t : Tm) (G : IM) (cells : List Value) (hts : t.small) (hr : A8 G t cells) : Fn Tryz.prog 140 [.agg ⟨cells⟩] [] G (A5L t G) := by
 have hl := hr.len
 have hone := hr.one
 have hM := B2q id (fun _ => True) 192 [] [] B2s t G cells (A8d _ t) hts hr
 rw [A8a] at hM
 refine B6 Tryz.func140 rfl Tryz.ntmps140 Tryz.results140 rfl ?_
 intro w0
 refine tS (tR ?_)
 refine sE (C4 rfl rfl) rfl (fun b3 => ?_)
 refine sE (A6 rfl) rfl (fun b4 => ?_)
 refine sD (nS (tS (tR ?_)))
 refine sL (A3 rfl rfl (A7 (by repeat first | exact mH | apply mT)) (by assumption)) rfl rfl ?_
 (refine D7 rfl hM rfl rfl (fun v G3 hle3 hh => ?_); obtain ⟨cells', F', rfl, hs', hnd'⟩ := hh; have hl' := hs'.R.len; have ho' := hs'.R.one)
 refine sS rfl rfl rfl hl' ho' rfl ?_ (hu := by exact C1 hl'.symm)
 refine sD (nS (tT ?_))
 refine D6 (rC rfl (A3 rfl rfl (A7 (by repeat first | exact mH | apply mT)) hl')) ?_
 exact ⟨rfl, cells', F', rfl, hs', hnd'⟩
theorem B2t (G : IM) (p : Option Addr) (n c : Nat) (es : List (List Value)) (hsl : C9 G p n c 2 es) (fid : FuncId) [B7 Tryz.prog fid] (us cs : List Value) (ins : List A5) (q : Nat → Bool)
  (hq : ∀ i e, es[i]? = some e → Fn Tryz.prog fid (us ++ [.agg ⟨e⟩] ++ cs) ins G (U2 (.bool (q i)) ins G)) :
  Fn Tryz.prog 143 [.slice p n c, .func (.func fid) ⟨us⟩ ⟨cs⟩] ins G (U2 (.int .i64 (A0C q n)) ins G) := by
 have hn := hsl.le
 refine B6 Tryz.func143 rfl Tryz.ntmps143 Tryz.results143 rfl ?_
 intro w0
 refine J4 ?_
 refine C3 ?_
 refine M6 (fun i : Nat => ⟨[(8, .int .i64 i), (7, .int .i64 n), (1, .func (.func fid) ⟨us⟩ ⟨cs⟩), (0, .slice p n c)], ins, G⟩) (fun i => i ≤ n ∧ ∀ j, j < i → q j = false) (fun i => n - i) 0 ?_ ?_ ?_
 exact E1
 exact ⟨by omega, by omega⟩
 rintro i ⟨hi, hf⟩
 refine tS (tR ?_)
 refine sB (M2 rfl rfl) rfl rfl (fun h21 => ?_) (fun h21 => ?_)
 refine sD (nS (tS (qT rfl (tK (nS (tS ?_))))))
 refine C3 ?_
 refine J6 ?_
 (obtain ⟨e, b, o, he, rfl, hl, _, hat, _⟩ := hsl.get (i := i) (by omega); refine sP (B4 rfl rfl rfl (by omega)) rfl rfl ?_)
 refine sL (A3 rfl rfl (hat _) hl) rfl rfl ?_
 refine A4j rfl rfl (hq i e he) A0z rfl rfl (fun h43 => ?_) (fun h43 => ?_)
 refine K0 ?_
 refine I1 (rT rfl) A1.refl ?_
 exact ⟨rfl, by rw [A7G (by omega) hf (by assumption)], rfl⟩
 refine sD (nS (cF rfl (tK (O2 (nS (tR ?_))))))
 refine sP (M8 rfl rfl (by omega) (by omega)) rfl rfl ?_
 refine sQ (qM rfl) rfl (sD ?_)
 refine L8 (i + 1) ?_ ?_ ?_
 exact E1
 exact ⟨by omega, fun j hj => by by_cases hji : j = i; (subst hji; assumption); exact hf j (by omega)⟩
 omega
 refine K0 ?_
 refine I1 (rT rfl) A1.refl ?_
 exact ⟨rfl, by rw [A5w (fun j hj => hf j (by omega))], rfl⟩
theorem B2u (G : IM) (p : Option Addr) (n c : Nat) (es : List (List Value)) (hsl : C9 G p n c 2 es) (fid : FuncId) [B7 Tryz.prog fid] (us cs : List Value) (ins : List A5) (q : Nat → Bool)
  (hq : ∀ i e, es[i]? = some e → Fn Tryz.prog fid (us ++ [.agg ⟨e⟩] ++ cs) ins G (U2 (.bool (q i)) ins G)) :
  Fn Tryz.prog 71 [.slice p n c, .func (.func fid) ⟨us⟩ ⟨cs⟩] ins G (U2 (.bool (decide (0 ≤ A0C q n))) ins G) := by
 refine B6 Tryz.func71 rfl Tryz.ntmps71 Tryz.results71 rfl ?_
 intro w0
 refine D8 ?_
 refine A2g rfl (B2t G p n c es hsl fid us cs ins q hq) A0z rfl rfl ?_
 refine sQ (A0G rfl rfl) rfl ?_
 refine sQ (qA rfl) rfl (sD (nS (tT ?_)))
 refine I1 (rT rfl) A1.refl ?_
 exact ⟨rfl, rfl, rfl⟩
theorem A3A (G : IM) (p : Option Addr) (n c : Nat) (es : List (List Value)) (hsl : C9 G p n c 2 es) (fid : FuncId) [B7 Tryz.prog fid] (us cs : List Value) (ins : List A5) (f : Ty → Bool) (ks : List Ty)
  (hn : ks.length = n) {A : Bool} (hA : ks.all f = A) (hq : ∀ i e, es[i]? = some e → Fn Tryz.prog fid (us ++ [.agg ⟨e⟩] ++ cs) ins G (U2 (.bool (!f (ks.getD i B1))) ins G)) :
  Fn Tryz.prog 71 [.slice p n c, .func (.func fid) ⟨us⟩ ⟨cs⟩] ins G (U2 (.bool (!A)) ins G) := by
 subst hn hA
 rw [← A7J f ks B1]
 exact B2u G p _ c es hsl fid us cs ins _ hq
theorem A5O (G : IM) (p p' : Option Addr) (n c n' c' : Nat) (es es' : List (List Value)) (hsl : C9 G p n c 2 es) (hsl' : C9 G p' n' c' 2 es') (fid : FuncId) [B7 Tryz.prog fid] (us cs : List Value) (ins : List A5) (q : Nat → Bool)
  (A : Bool) (hA : A = true ↔ n = n' ∧ ∀ i, i < n → q i = true)
  (hq : ∀ i e e', es[i]? = some e → es'[i]? = some e' → Fn Tryz.prog fid (us ++ [.agg ⟨e⟩, .agg ⟨e'⟩] ++ cs) ins G (U2 (.bool (q i)) ins G)) :
  Fn Tryz.prog 84 [.slice p n c, .slice p' n' c', .func (.func fid) ⟨us⟩ ⟨cs⟩] ins G (U2 (.bool A) ins G) := by
 have hn := hsl.le
 have hn' := hsl'.le
 refine B6 Tryz.func84 rfl Tryz.ntmps84 Tryz.results84 rfl ?_
 intro w0
 refine N2 ?_
 refine sB (Q6 rfl rfl) rfl rfl (fun h13 => ?_) (fun h13 => ?_)
 refine I8 ?_
 refine I1 (outs := ins) (rT rfl) (by first | exact A1.refl | exact A1.drop (A1.drop A1.refl)) ?_
 exact ⟨rfl, by (cases A with | false => rfl | true => exact absurd (hA.1 rfl).1 (by omega)), rfl⟩
 refine J4 ?_
 refine C3 (M6 (fun i : Nat => ⟨[(17, .int .i64 i), (16, .int .i64 n), (15, .slice p n c), (2, .func (.func fid) ⟨us⟩ ⟨cs⟩), (1, .slice p' n' c'), (0, .slice p n c)], ins, G⟩) (fun i => i ≤ n ∧ ∀ j, j < i → q j = true) (fun i => n - i) 0 ?_ ?_ ?_)
 exact E1
 exact ⟨by omega, by omega⟩
 rintro i ⟨hi, hf⟩
 refine tS (tR ?_)
 refine sB (M2 rfl rfl) rfl rfl (fun h46 => ?_) (fun h46 => ?_)
 refine sD (nS (tS (qT rfl (tK (nS (tS ?_))))))
 refine C3 ?_
 refine tS (tR (sQ (qM rfl) rfl ?_))
 (obtain ⟨e, b, o, he, rfl, hl, _, hat, _⟩ := hsl.get (i := i) (by omega); refine sP (B4 rfl rfl rfl (by omega)) rfl rfl ?_)
 refine sL (A3 rfl rfl (hat _) hl) rfl rfl ?_
 refine sE (A6 rfl) rfl (fun b60 => ?_)
 refine sQ (qA rfl) rfl ?_
 refine P5 rfl rfl rfl (by assumption) (by assumption) rfl (by repeat first | exact Sw.here | apply Sw.there) (by exact C1 (by symm; assumption)) ?_
 refine sD (nS (tS (tR (sQ (qM rfl) rfl (sQ (qM rfl) rfl ?_)))))
 (obtain ⟨e', b', o', he', rfl, hl', _, hat', _⟩ := hsl'.get (i := i) (by omega); refine sP (B4 rfl rfl rfl (by omega)) rfl rfl ?_)
 refine sL (A3 rfl rfl (hat' _) hl') rfl rfl ?_
 refine sE (A6 rfl) rfl (fun b71 => ?_)
 refine P5 rfl rfl rfl (by assumption) (by assumption) rfl (by repeat first | exact Sw.here | apply Sw.there) (by exact C1 (by symm; assumption)) ?_
 refine sD (nS (tS (tR (sQ (qM rfl) rfl ?_))))
 refine sL (A3 rfl rfl (A7 (by repeat first | exact mH | apply mT)) (by assumption)) rfl rfl ?_
 refine sL (A3 rfl rfl (A7 (by repeat first | exact mH | apply mT)) (by assumption)) rfl rfl ?_
 refine A4j rfl rfl (hq i e e' he he') A7z rfl rfl (fun h80 => ?_) (fun h80 => ?_)
 refine F8 ?_
 refine sP (M8 rfl rfl (by omega) (by omega)) rfl rfl ?_
 refine sQ (qM rfl) rfl (sD ?_)
 refine L8 (i + 1) ?_ ?_ ?_
 exact E1
 exact ⟨by omega, fun j hj => by by_cases hji : j = i; (subst hji; assumption); exact hf j (by omega)⟩
 omega
 refine K0 ?_
 refine I1 (outs := ins) (rT rfl) (by first | exact A1.refl | exact A1.drop (A1.drop A1.refl)) ?_
 exact ⟨rfl, by (cases A with | false => rfl | true => have h0 := (hA.1 rfl).2 i (by omega); simp_all), rfl⟩
 refine K0 ?_
 refine I1 (outs := ins) (rT rfl) (by first | exact A1.refl | exact A1.drop (A1.drop A1.refl)) ?_
 exact ⟨rfl, by rw [hA.2 ⟨by omega, fun j hj => hf j (by omega)⟩], rfl⟩
theorem A1e (n lo hi : Int) (G : IM) : Fn Tryz.prog 123 [.int .i64 n, .int .i64 lo, .int .i64 hi] [] G (J3 (.bool (S4 n lo hi)) G) := by
 refine B6 Tryz.func123 rfl Tryz.ntmps123 Tryz.results123 rfl ?_
 intro w0
 refine D8 ?_
 refine sB (A0c rfl rfl) rfl rfl (fun h10 => ?_) (fun h10 => ?_)
 refine sQ (qM rfl) rfl (sQ (qM rfl) rfl (sQ (qM rfl) rfl ?_))
 refine sB (A0c rfl rfl) rfl rfl (fun h14 => ?_) (fun h14 => ?_)
 refine J9 ?_
 exact ⟨rfl, by simp [S4]; omega, rfl⟩
 refine J9 ?_
 exact ⟨rfl, by simp [S4]; omega, rfl⟩
 refine I8 ?_
 exact ⟨rfl, by simp [S4]; omega, rfl⟩
theorem A05 (k : Int) (G : IM) : Fn Tryz.prog 78 [.int .i64 k] [] G (J3 (.agg ⟨[.int .i64 k, .slice none 0 0]⟩) G) := by
 refine B6 Tryz.func78 rfl Tryz.ntmps78 Tryz.results78 rfl ?_
 intro w0
 refine tS (tR ?_)
 refine sE (A6 rfl) rfl (fun b3 => ?_)
 refine I8 ?_
 refine D6 (rC rfl (A4 rfl rfl)) ?_
 exact ⟨rfl, rfl, rfl⟩
theorem A8g (n : Int) (G : IM) : Fn Tryz.prog 90 [.int .i64 n] [] G (J3 (.bool (W2 n)) G) := by
 refine B6 Tryz.func90 rfl Tryz.ntmps90 Tryz.results90 rfl ?_
 intro w0
 refine F8 ?_
 refine F4 rfl (A1e _ _ _ _) rfl rfl (fun h9 => ?_) (fun h9 => ?_)
 refine D8 ?_
 exact ⟨rfl, by simp [W2, *], rfl⟩
 refine sQ (qM rfl) rfl (sQ (qM rfl) rfl ?_)
 refine F4 rfl (A1e _ _ _ _) rfl rfl (fun h22 => ?_) (fun h22 => ?_)
 refine J9 ?_
 exact ⟨rfl, by simp [W2, *], rfl⟩
 refine J9 ?_
 exact ⟨rfl, by simp [W2, *], rfl⟩
theorem A8h (t : Ty) (G : IM) (cells : List Value) (hr : B2 G t cells) : Fn Tryz.prog 172 [.agg ⟨cells⟩] [] G (J3 (.bool (X6 t)) G) := by
 obtain ⟨p, c, es, rfl, hk, hsl, hkl⟩ := hr.open
 refine B6 Tryz.func172 rfl Tryz.ntmps172 Tryz.results172 rfl ?_
 intro w0
 refine tS (tR ?_)
 refine sE (C4 rfl rfl) rfl (fun b3 => ?_)
 refine D5 ?_
 refine sB (qE rfl rfl) rfl rfl (fun h11 => ?_) (fun h11 => ?_)
 refine J8 ?_
 refine sB (qE rfl rfl) rfl rfl (fun h16 => ?_) (fun h16 => ?_)
 refine J9 ?_
 exact ⟨rfl, by simp only [X6]; (first | rw [decide_eq_true (by omega)] | rw [decide_eq_false (by omega)]), rfl⟩
 refine J9 ?_
 exact ⟨rfl, by simp only [X6]; (first | rw [decide_eq_true (by omega)] | rw [decide_eq_false (by omega)]), rfl⟩
 refine J6 ?_
 exact ⟨rfl, by simp only [X6]; (first | rw [decide_eq_true (by omega)] | rw [decide_eq_false (by omega)]), rfl⟩
theorem B2v (s : ByteArray) (G : IM) : Fn Tryz.prog 171 [.string s] [] G (J3 (.bool (X7 s)) G) := by
 refine B6 Tryz.func171 rfl Tryz.ntmps171 Tryz.results171 rfl ?_
 intro w0
 refine F8 ?_
 refine sQ (A2c rfl rfl) rfl (sB (qE rfl rfl) rfl rfl (fun h10 => ?_) (fun h10 => ?_))
 refine sQ (qM rfl) rfl (sQ (qM rfl) rfl ?_)
 refine sP (A4b rfl rfl rfl (by omega) (A4m (by omega))) rfl rfl ?_
 refine sB (A0G rfl rfl) rfl rfl (fun h14 => ?_) (fun h14 => ?_)
 refine sQ (K1 rfl rfl) rfl (sQ (qM rfl) rfl (sQ (qM rfl) rfl ?_))
 refine sP (A4b rfl rfl rfl (by omega) (A4m (by omega))) rfl rfl ?_
 refine sB (A0c rfl rfl) rfl rfl (fun h19 => ?_) (fun h19 => ?_)
 refine J9 ?_
 exact ⟨rfl, by simp only [X7]; (try simp only [Int.toNat_zero] at *); (first | rw [decide_eq_true (by omega)] | rw [decide_eq_false (by omega)]), rfl⟩
 refine J9 ?_
 exact ⟨rfl, by simp only [X7]; (try simp only [Int.toNat_zero] at *); (first | rw [decide_eq_true (by omega)] | rw [decide_eq_false (by omega)]), rfl⟩
 refine J6 ?_
 exact ⟨rfl, by simp only [X7]; (try simp only [Int.toNat_zero] at *); (first | rw [decide_eq_true (by omega)] | rw [decide_eq_false (by omega)]), rfl⟩
 refine K0 ?_
 exact ⟨rfl, by simp only [X7]; (try simp only [Int.toNat_zero] at *); (first | rw [decide_eq_true (by omega)] | rw [decide_eq_false (by omega)]), rfl⟩
theorem A3B (G : IM) (e : List Value) (d : Int) (b : Bool) (bd : Nat) (hl : e.length = 2) (hd : 0 ≤ d ∧ d ≤ 5) (h : Fn Tryz.prog 164 [.agg ⟨e⟩, .int .i64 (d + 1)] [] G (J3 (.bool b) G)) :
  Fn Tryz.prog 214 [.agg ⟨e⟩, .pointer (some ⟨bd, 0, none⟩)] [.blk bd [.int .i64 d]] G (U2 (.bool (!b)) [.blk bd [.int .i64 d]] G) := by
 refine B6 Tryz.func214 rfl Tryz.ntmps214 Tryz.results214 rfl ?_
 intro w0
 refine tS (tR ?_)
 refine sE (C4 rfl rfl) rfl (fun b3 => ?_)
 refine sQ (qA rfl) rfl (sD (nS (tS (tR ?_))))
 refine sL (A3 rfl rfl (A7 (by repeat first | exact mH | apply mT)) (by assumption)) rfl rfl ?_
 refine sL (C7 rfl rfl) rfl rfl ?_
 refine sP (M8 rfl rfl (by omega) (by omega)) rfl rfl ?_
 refine F4 rfl (h) rfl rfl (fun h12 => ?_) (fun h12 => ?_)
 refine sQ (Q5 rfl) rfl (sQ (qA rfl) rfl (sD (nS (tT ?_))))
 refine I1 (rT rfl) (A1.cons (Pk.there Pk.here) A1.nil) ?_
 exact ⟨rfl, by simp [*], rfl⟩
 refine sQ (pNf rfl) rfl (sQ (qA rfl) rfl (sD (nS (tT ?_))))
 refine I1 (rT rfl) (A1.cons (Pk.there Pk.here) A1.nil) ?_
 exact ⟨rfl, by simp [*], rfl⟩
theorem B2w : ∀ (t : Ty) (d : Int) (G : IM) (cells : List Value), 0 ≤ d ∧ d ≤ 5 → B2 G t cells →
  Fn Tryz.prog 164 [.agg ⟨cells⟩, .int .i64 d] [] G (J3 (.bool (M0 t d)) G) := by
 refine Ty.ind fun k ks ih d G cells hd hr => ?_
 obtain ⟨p, c, es, rfl, hk, hsl, hkl⟩ := hr.open
 simp only [Ty.k, Ty.ks] at hk hsl hkl ⊢
 have hn := hsl.le
 obtain ⟨A, hA⟩ : ∃ A, ks.all (M0 · (d + 1)) = A := ⟨_, rfl⟩
 refine B6 Tryz.func164 rfl Tryz.ntmps164 Tryz.results164 rfl ?_
 intro w0
 refine tS (tR ?_)
 refine sE (C4 rfl rfl) rfl (fun b3 => ?_)
 (refine K7 (B1z rfl rfl rfl) rfl ?_; rintro _ ⟨b4, rfl⟩)
 refine K0 ?_
 refine C3 (tS (tS (tR (sB (qE rfl rfl) rfl rfl (fun h24 => ?_) (fun h24 => ?_)))))
 refine K0 ?_
 refine sB (A0c rfl rfl) rfl rfl (fun h40 => ?_) (fun h40 => ?_)
 refine R0 ?_
 refine sB (qE rfl rfl) rfl rfl (fun h46 => ?_) (fun h46 => ?_)
 refine J8 ?_
 refine sQ (A2J rfl rfl) rfl (A3t rfl (A3A _ _ _ _ _ hsl _ [] _ [.blk b4 [.int .i64 d]] (M0 · (d + 1)) ks rfl hA (fun i e he => A3B _ _ _ _ _ (hsl.all e (List.mem_of_getElem? he)) hd (ih _ (hkl.inv he B1).1 _ _ _ (by omega) (hkl.inv he B1).2))) A0z rfl rfl (fun h52 => ?_) (fun h52 => ?_))
 simp only [Bool.not_eq_true', Bool.not_eq_false'] at h52
 refine D5 ?_
 exact ⟨rfl, by (rw [M0, V1, hA]; have := N4 k; first | (rw [decide_eq_true (by omega), decide_eq_true (by omega)]; simp only [*]; done) | (rw [decide_eq_true (by omega), decide_eq_true (by omega)]; simp only [*]; rfl) | (rw [decide_eq_false (by omega)]; rfl) | (rw [decide_eq_true (by omega), decide_eq_false (by omega)]; rfl)), rfl⟩
 simp only [Bool.not_eq_true', Bool.not_eq_false'] at h52
 refine D5 ?_
 exact ⟨rfl, by (rw [M0, V1, hA]; have := N4 k; first | (rw [decide_eq_true (by omega), decide_eq_true (by omega)]; simp only [*]; done) | (rw [decide_eq_true (by omega), decide_eq_true (by omega)]; simp only [*]; rfl) | (rw [decide_eq_false (by omega)]; rfl) | (rw [decide_eq_true (by omega), decide_eq_false (by omega)]; rfl)), rfl⟩
 refine J4 ?_
 exact ⟨rfl, by (rw [M0, V1, hA]; have := N4 k; first | (rw [decide_eq_true (by omega), decide_eq_true (by omega)]; simp only [*]; done) | (rw [decide_eq_true (by omega), decide_eq_true (by omega)]; simp only [*]; rfl) | (rw [decide_eq_false (by omega)]; rfl) | (rw [decide_eq_true (by omega), decide_eq_false (by omega)]; rfl)), rfl⟩
 refine A0m ?_
 exact ⟨rfl, by (rw [M0, V1, hA]; have := N4 k; first | (rw [decide_eq_true (by omega), decide_eq_true (by omega)]; simp only [*]; done) | (rw [decide_eq_true (by omega), decide_eq_true (by omega)]; simp only [*]; rfl) | (rw [decide_eq_false (by omega)]; rfl) | (rw [decide_eq_true (by omega), decide_eq_false (by omega)]; rfl)), rfl⟩
 refine sQ (qA rfl) rfl (sD (nS (cF rfl (tS (tR ?_)))))
 refine sB (qE rfl rfl) rfl rfl (fun h109 => ?_) (fun h109 => ?_)
 refine K0 ?_
 refine sB (A0c rfl rfl) rfl rfl (fun h125 => ?_) (fun h125 => ?_)
 refine R0 ?_
 refine sB (qE rfl rfl) rfl rfl (fun h131 => ?_) (fun h131 => ?_)
 refine J8 ?_
 refine sQ (A2J rfl rfl) rfl (A3t rfl (A3A _ _ _ _ _ hsl _ [] _ [.blk b4 [.int .i64 d]] (M0 · (d + 1)) ks rfl hA (fun i e he => A3B _ _ _ _ _ (hsl.all e (List.mem_of_getElem? he)) hd (ih _ (hkl.inv he B1).1 _ _ _ (by omega) (hkl.inv he B1).2))) A0z rfl rfl (fun h137 => ?_) (fun h137 => ?_))
 simp only [Bool.not_eq_true', Bool.not_eq_false'] at h137
 refine D5 ?_
 exact ⟨rfl, by (rw [M0, V1, hA]; have := N4 k; first | (rw [decide_eq_true (by omega), decide_eq_true (by omega)]; simp only [*]; done) | (rw [decide_eq_true (by omega), decide_eq_true (by omega)]; simp only [*]; rfl) | (rw [decide_eq_false (by omega)]; rfl) | (rw [decide_eq_true (by omega), decide_eq_false (by omega)]; rfl)), rfl⟩
 simp only [Bool.not_eq_true', Bool.not_eq_false'] at h137
 refine D5 ?_
 exact ⟨rfl, by (rw [M0, V1, hA]; have := N4 k; first | (rw [decide_eq_true (by omega), decide_eq_true (by omega)]; simp only [*]; done) | (rw [decide_eq_true (by omega), decide_eq_true (by omega)]; simp only [*]; rfl) | (rw [decide_eq_false (by omega)]; rfl) | (rw [decide_eq_true (by omega), decide_eq_false (by omega)]; rfl)), rfl⟩
 refine J4 ?_
 exact ⟨rfl, by (rw [M0, V1, hA]; have := N4 k; first | (rw [decide_eq_true (by omega), decide_eq_true (by omega)]; simp only [*]; done) | (rw [decide_eq_true (by omega), decide_eq_true (by omega)]; simp only [*]; rfl) | (rw [decide_eq_false (by omega)]; rfl) | (rw [decide_eq_true (by omega), decide_eq_false (by omega)]; rfl)), rfl⟩
 refine A0m ?_
 exact ⟨rfl, by (rw [M0, V1, hA]; have := N4 k; first | (rw [decide_eq_true (by omega), decide_eq_true (by omega)]; simp only [*]; done) | (rw [decide_eq_true (by omega), decide_eq_true (by omega)]; simp only [*]; rfl) | (rw [decide_eq_false (by omega)]; rfl) | (rw [decide_eq_true (by omega), decide_eq_false (by omega)]; rfl)), rfl⟩
 refine sQ (qA rfl) rfl (sD (nS (cF rfl (tR ?_))))
 refine sB (qE rfl rfl) rfl rfl (fun h193 => ?_) (fun h193 => ?_)
 refine N2 ?_
 refine sB (A0c rfl rfl) rfl rfl (fun h206 => ?_) (fun h206 => ?_)
 refine R0 ?_
 refine sB (qE rfl rfl) rfl rfl (fun h212 => ?_) (fun h212 => ?_)
 refine J8 ?_
 refine sQ (A2J rfl rfl) rfl (A3t rfl (A3A _ _ _ _ _ hsl _ [] _ [.blk b4 [.int .i64 d]] (M0 · (d + 1)) ks rfl hA (fun i e he => A3B _ _ _ _ _ (hsl.all e (List.mem_of_getElem? he)) hd (ih _ (hkl.inv he B1).1 _ _ _ (by omega) (hkl.inv he B1).2))) A0z rfl rfl (fun h218 => ?_) (fun h218 => ?_))
 simp only [Bool.not_eq_true', Bool.not_eq_false'] at h218
 refine D5 ?_
 exact ⟨rfl, by (rw [M0, V1, hA]; have := N4 k; first | (rw [decide_eq_true (by omega), decide_eq_true (by omega)]; simp only [*]; done) | (rw [decide_eq_true (by omega), decide_eq_true (by omega)]; simp only [*]; rfl) | (rw [decide_eq_false (by omega)]; rfl) | (rw [decide_eq_true (by omega), decide_eq_false (by omega)]; rfl)), rfl⟩
 simp only [Bool.not_eq_true', Bool.not_eq_false'] at h218
 refine D5 ?_
 exact ⟨rfl, by (rw [M0, V1, hA]; have := N4 k; first | (rw [decide_eq_true (by omega), decide_eq_true (by omega)]; simp only [*]; done) | (rw [decide_eq_true (by omega), decide_eq_true (by omega)]; simp only [*]; rfl) | (rw [decide_eq_false (by omega)]; rfl) | (rw [decide_eq_true (by omega), decide_eq_false (by omega)]; rfl)), rfl⟩
 refine J4 ?_
 exact ⟨rfl, by (rw [M0, V1, hA]; have := N4 k; first | (rw [decide_eq_true (by omega), decide_eq_true (by omega)]; simp only [*]; done) | (rw [decide_eq_true (by omega), decide_eq_true (by omega)]; simp only [*]; rfl) | (rw [decide_eq_false (by omega)]; rfl) | (rw [decide_eq_true (by omega), decide_eq_false (by omega)]; rfl)), rfl⟩
 refine A0m ?_
 exact ⟨rfl, by (rw [M0, V1, hA]; have := N4 k; first | (rw [decide_eq_true (by omega), decide_eq_true (by omega)]; simp only [*]; done) | (rw [decide_eq_true (by omega), decide_eq_true (by omega)]; simp only [*]; rfl) | (rw [decide_eq_false (by omega)]; rfl) | (rw [decide_eq_true (by omega), decide_eq_false (by omega)]; rfl)), rfl⟩
 refine sQ (qA rfl) rfl (sD (nS (cF rfl (tS (tS (tR ?_))))))
 refine sB (qE rfl rfl) rfl rfl (fun h276 => ?_) (fun h276 => ?_)
 refine K0 ?_
 refine sB (A0c rfl rfl) rfl rfl (fun h292 => ?_) (fun h292 => ?_)
 refine R0 ?_
 refine sB (qE rfl rfl) rfl rfl (fun h298 => ?_) (fun h298 => ?_)
 refine J8 ?_
 refine sQ (A2J rfl rfl) rfl (A3t rfl (A3A _ _ _ _ _ hsl _ [] _ [.blk b4 [.int .i64 d]] (M0 · (d + 1)) ks rfl hA (fun i e he => A3B _ _ _ _ _ (hsl.all e (List.mem_of_getElem? he)) hd (ih _ (hkl.inv he B1).1 _ _ _ (by omega) (hkl.inv he B1).2))) A0z rfl rfl (fun h304 => ?_) (fun h304 => ?_))
 simp only [Bool.not_eq_true', Bool.not_eq_false'] at h304
 refine D5 ?_
 exact ⟨rfl, by (rw [M0, V1, hA]; have := N4 k; first | (rw [decide_eq_true (by omega), decide_eq_true (by omega)]; simp only [*]; done) | (rw [decide_eq_true (by omega), decide_eq_true (by omega)]; simp only [*]; rfl) | (rw [decide_eq_false (by omega)]; rfl) | (rw [decide_eq_true (by omega), decide_eq_false (by omega)]; rfl)), rfl⟩
 simp only [Bool.not_eq_true', Bool.not_eq_false'] at h304
 refine D5 ?_
 exact ⟨rfl, by (rw [M0, V1, hA]; have := N4 k; first | (rw [decide_eq_true (by omega), decide_eq_true (by omega)]; simp only [*]; done) | (rw [decide_eq_true (by omega), decide_eq_true (by omega)]; simp only [*]; rfl) | (rw [decide_eq_false (by omega)]; rfl) | (rw [decide_eq_true (by omega), decide_eq_false (by omega)]; rfl)), rfl⟩
 refine J4 ?_
 exact ⟨rfl, by (rw [M0, V1, hA]; have := N4 k; first | (rw [decide_eq_true (by omega), decide_eq_true (by omega)]; simp only [*]; done) | (rw [decide_eq_true (by omega), decide_eq_true (by omega)]; simp only [*]; rfl) | (rw [decide_eq_false (by omega)]; rfl) | (rw [decide_eq_true (by omega), decide_eq_false (by omega)]; rfl)), rfl⟩
 refine A0m ?_
 exact ⟨rfl, by (rw [M0, V1, hA]; have := N4 k; first | (rw [decide_eq_true (by omega), decide_eq_true (by omega)]; simp only [*]; done) | (rw [decide_eq_true (by omega), decide_eq_true (by omega)]; simp only [*]; rfl) | (rw [decide_eq_false (by omega)]; rfl) | (rw [decide_eq_true (by omega), decide_eq_false (by omega)]; rfl)), rfl⟩
 refine sQ (qA rfl) rfl (sD (nS (cF rfl (tR ?_))))
 refine sB (qE rfl rfl) rfl rfl (fun h360 => ?_) (fun h360 => ?_)
 refine N2 ?_
 refine sB (A0c rfl rfl) rfl rfl (fun h373 => ?_) (fun h373 => ?_)
 refine R0 ?_
 refine sB (qE rfl rfl) rfl rfl (fun h379 => ?_) (fun h379 => ?_)
 refine J8 ?_
 refine sQ (A2J rfl rfl) rfl (A3t rfl (A3A _ _ _ _ _ hsl _ [] _ [.blk b4 [.int .i64 d]] (M0 · (d + 1)) ks rfl hA (fun i e he => A3B _ _ _ _ _ (hsl.all e (List.mem_of_getElem? he)) hd (ih _ (hkl.inv he B1).1 _ _ _ (by omega) (hkl.inv he B1).2))) A0z rfl rfl (fun h385 => ?_) (fun h385 => ?_))
 simp only [Bool.not_eq_true', Bool.not_eq_false'] at h385
 refine D5 ?_
 exact ⟨rfl, by (rw [M0, V1, hA]; have := N4 k; first | (rw [decide_eq_true (by omega), decide_eq_true (by omega)]; simp only [*]; done) | (rw [decide_eq_true (by omega), decide_eq_true (by omega)]; simp only [*]; rfl) | (rw [decide_eq_false (by omega)]; rfl) | (rw [decide_eq_true (by omega), decide_eq_false (by omega)]; rfl)), rfl⟩
 simp only [Bool.not_eq_true', Bool.not_eq_false'] at h385
 refine D5 ?_
 exact ⟨rfl, by (rw [M0, V1, hA]; have := N4 k; first | (rw [decide_eq_true (by omega), decide_eq_true (by omega)]; simp only [*]; done) | (rw [decide_eq_true (by omega), decide_eq_true (by omega)]; simp only [*]; rfl) | (rw [decide_eq_false (by omega)]; rfl) | (rw [decide_eq_true (by omega), decide_eq_false (by omega)]; rfl)), rfl⟩
 refine J4 ?_
 exact ⟨rfl, by (rw [M0, V1, hA]; have := N4 k; first | (rw [decide_eq_true (by omega), decide_eq_true (by omega)]; simp only [*]; done) | (rw [decide_eq_true (by omega), decide_eq_true (by omega)]; simp only [*]; rfl) | (rw [decide_eq_false (by omega)]; rfl) | (rw [decide_eq_true (by omega), decide_eq_false (by omega)]; rfl)), rfl⟩
 refine A0m ?_
 exact ⟨rfl, by (rw [M0, V1, hA]; have := N4 k; first | (rw [decide_eq_true (by omega), decide_eq_true (by omega)]; simp only [*]; done) | (rw [decide_eq_true (by omega), decide_eq_true (by omega)]; simp only [*]; rfl) | (rw [decide_eq_false (by omega)]; rfl) | (rw [decide_eq_true (by omega), decide_eq_false (by omega)]; rfl)), rfl⟩
 refine I8 ?_
 refine sB (A0c rfl rfl) rfl rfl (fun h446 => ?_) (fun h446 => ?_)
 refine R0 ?_
 refine sP (E6 rfl rfl (by omega)) rfl rfl ?_
 refine J4 ?_
 exact ⟨rfl, by (rw [M0, V1, hA]; have := N4 k; first | (rw [decide_eq_true (by omega), decide_eq_true (by omega)]; simp only [*]; done) | (rw [decide_eq_true (by omega), decide_eq_true (by omega)]; simp only [*]; rfl) | (rw [decide_eq_false (by omega)]; rfl) | (rw [decide_eq_true (by omega), decide_eq_false (by omega)]; rfl)), rfl⟩
 refine A0m ?_
 exact ⟨rfl, by (rw [M0, V1, hA]; have := N4 k; first | (rw [decide_eq_true (by omega), decide_eq_true (by omega)]; simp only [*]; done) | (rw [decide_eq_true (by omega), decide_eq_true (by omega)]; simp only [*]; rfl) | (rw [decide_eq_false (by omega)]; rfl) | (rw [decide_eq_true (by omega), decide_eq_false (by omega)]; rfl)), rfl⟩
theorem A4u (t : Ty) (G : IM) (cells : List Value) (hr : B2 G t cells) : Fn Tryz.prog 118 [.agg ⟨cells⟩] [] G (J3 (.bool (M5 t)) G) := by
 have hl := hr.len
 have hv := B2w t 1 G cells (by omega) hr
 refine B6 Tryz.func118 rfl Tryz.ntmps118 Tryz.results118 rfl ?_
 intro w0
 refine tS (tR ?_)
 refine sE (C4 rfl rfl) rfl (fun b3 => ?_)
 refine sQ (qA rfl) rfl (sD (nS (tS (tR ?_))))
 refine sL (A3 rfl rfl (A7 (by repeat first | exact mH | apply mT)) (by assumption)) rfl rfl ?_
 refine E8 rfl (hv) rfl rfl ?_
 refine sQ (qA rfl) rfl (sD (nS (tT (D6 (rT rfl) ?_))))
 exact ⟨rfl, rfl, rfl⟩
theorem Y5 : ∀ (t t' : Ty) (G : IM) (cells cells' : List Value), B2 G t cells → B2 G t' cells' →
  Fn Tryz.prog 162 [.agg ⟨cells⟩, .agg ⟨cells'⟩] [] G (J3 (.bool (P1 t t')) G) := by
 refine Ty.ind fun k ks ih t' G cells cells' hr hr' => ?_
 obtain ⟨k', ks'⟩ := t'
 obtain ⟨p, c, es, rfl, hk, hsl, hkl⟩ := hr.open
 obtain ⟨p', c', es', rfl, hk', hsl', hkl'⟩ := hr'.open
 simp only [Ty.k, Ty.ks] at hk hsl hkl hk' hsl' hkl' ⊢
 have hn := hsl.le
 have hn' := hsl'.le
 obtain ⟨A, hA⟩ : ∃ A, U3 ks ks' = A := ⟨_, rfl⟩
 have hA' : A = true ↔ ks.length = ks'.length ∧ ∀ i, i < ks.length → P1 (ks.getD i B1) (ks'.getD i B1) = true := by
  rw [← hA, A2i]
  constructor
  ·rintro ⟨h1, h2⟩
   refine ⟨h1, fun i hi => ?_⟩
   have := h2 i hi (by omega)
   simpa [List.getD_eq_getElem?_getD, List.getElem?_eq_getElem hi, List.getElem?_eq_getElem (show i < ks'.length by omega)] using this
  ·rintro ⟨h1, h2⟩
   refine ⟨h1, fun i hi hi' => ?_⟩
   have := h2 i hi
   simpa [List.getD_eq_getElem?_getD, List.getElem?_eq_getElem hi, List.getElem?_eq_getElem hi'] using this
 refine B6 Tryz.func162 rfl Tryz.ntmps162 Tryz.results162 rfl ?_
 intro w0
 refine tS (tR ?_)
 refine sE (C4 rfl rfl) rfl (fun b3 => ?_)
 refine sE (C4 rfl rfl) rfl (fun b4 => ?_)
 refine D5 ?_
 refine sB (qE rfl rfl) rfl rfl (fun h12 => ?_) (fun h12 => ?_)
 refine A1R ?_
 exact ⟨rfl, by (rw [V9, hA]; first | (rw [decide_eq_true (p := k = 1) (by omega)]; rfl) | (rw [decide_eq_false (p := k = 1) (by omega), decide_eq_true (p := k' = 1) (by omega)]; rfl) | (rw [decide_eq_false (p := k = 1) (by omega), decide_eq_false (p := k' = 1) (by omega), decide_eq_false (p := k = k') (by omega)]; rfl) | (rw [decide_eq_false (p := k = 1) (by omega), decide_eq_false (p := k' = 1) (by omega), decide_eq_true (p := k = k') (by omega)]; simp only [*]; rfl)), rfl⟩
 refine H9 ?_
 refine sB (qE rfl rfl) rfl rfl (fun h41 => ?_) (fun h41 => ?_)
 refine A0d ?_
 exact ⟨rfl, by (rw [V9, hA]; first | (rw [decide_eq_true (p := k = 1) (by omega)]; rfl) | (rw [decide_eq_false (p := k = 1) (by omega), decide_eq_true (p := k' = 1) (by omega)]; rfl) | (rw [decide_eq_false (p := k = 1) (by omega), decide_eq_false (p := k' = 1) (by omega), decide_eq_false (p := k = k') (by omega)]; rfl) | (rw [decide_eq_false (p := k = 1) (by omega), decide_eq_false (p := k' = 1) (by omega), decide_eq_true (p := k = k') (by omega)]; simp only [*]; rfl)), rfl⟩
 refine J9 ?_
 refine sB (qE rfl rfl) rfl rfl (fun h69 => ?_) (fun h69 => ?_)
 refine R0 ?_
 refine F4 rfl (A5O _ _ _ _ _ _ _ _ _ hsl hsl' _ [] [] [] (fun i => P1 (ks.getD i B1) (ks'.getD i B1)) A hA' (fun i e e' he he' => ih _ (hkl.inv he B1).1 _ _ _ _ (hkl.inv he B1).2 (hkl'.inv he' B1).2)) rfl rfl (fun h75 => ?_) (fun h75 => ?_)
 refine D5 ?_
 exact ⟨rfl, by (rw [V9, hA]; first | (rw [decide_eq_true (p := k = 1) (by omega)]; rfl) | (rw [decide_eq_false (p := k = 1) (by omega), decide_eq_true (p := k' = 1) (by omega)]; rfl) | (rw [decide_eq_false (p := k = 1) (by omega), decide_eq_false (p := k' = 1) (by omega), decide_eq_false (p := k = k') (by omega)]; rfl) | (rw [decide_eq_false (p := k = 1) (by omega), decide_eq_false (p := k' = 1) (by omega), decide_eq_true (p := k = k') (by omega)]; simp only [*]; rfl)), rfl⟩
 refine D5 ?_
 exact ⟨rfl, by (rw [V9, hA]; first | (rw [decide_eq_true (p := k = 1) (by omega)]; rfl) | (rw [decide_eq_false (p := k = 1) (by omega), decide_eq_true (p := k' = 1) (by omega)]; rfl) | (rw [decide_eq_false (p := k = 1) (by omega), decide_eq_false (p := k' = 1) (by omega), decide_eq_false (p := k = k') (by omega)]; rfl) | (rw [decide_eq_false (p := k = 1) (by omega), decide_eq_false (p := k' = 1) (by omega), decide_eq_true (p := k = k') (by omega)]; simp only [*]; rfl)), rfl⟩
 refine J4 ?_
 exact ⟨rfl, by (rw [V9, hA]; first | (rw [decide_eq_true (p := k = 1) (by omega)]; rfl) | (rw [decide_eq_false (p := k = 1) (by omega), decide_eq_true (p := k' = 1) (by omega)]; rfl) | (rw [decide_eq_false (p := k = 1) (by omega), decide_eq_false (p := k' = 1) (by omega), decide_eq_false (p := k = k') (by omega)]; rfl) | (rw [decide_eq_false (p := k = 1) (by omega), decide_eq_false (p := k' = 1) (by omega), decide_eq_true (p := k = k') (by omega)]; simp only [*]; rfl)), rfl⟩
theorem B2x (t t' : Ty) (G : IM) (cells cells' : List Value) (hr : B2 G t cells) (hr' : B2 G t' cells') :
  Fn Tryz.prog 173 [.agg ⟨cells⟩, .agg ⟨cells'⟩] [] G (J3 (.bool (A0K t t')) G) := by
 have hl := hr.len
 have hl' := hr'.len
 have hv := A4u t G cells hr
 have hv' := A4u t' G cells' hr'
 have hc := Y5 t t' G cells cells' hr hr'
 refine B6 Tryz.func173 rfl Tryz.ntmps173 Tryz.results173 rfl ?_
 intro w0
 refine tS (tR ?_)
 refine sE (C4 rfl rfl) rfl (fun b3 => ?_)
 refine sE (C4 rfl rfl) rfl (fun b4 => ?_)
 refine sQ (qA rfl) rfl (sD (nS (tS (tR ?_))))
 refine sL (A3 rfl rfl (A7 (by repeat first | exact mH | apply mT)) (by assumption)) rfl rfl ?_
 refine F4 rfl (hv) rfl rfl (fun h11 => ?_) (fun h11 => ?_)
 refine sQ (qM rfl) rfl ?_
 refine sL (A3 rfl rfl (A7 (by repeat first | exact mH | apply mT)) (by assumption)) rfl rfl ?_
 refine F4 rfl (hv') rfl rfl (fun h14 => ?_) (fun h14 => ?_)
 refine sQ (K1 rfl rfl) rfl (sQ (qM rfl) rfl ?_)
 refine sL (A3 rfl rfl (A7 (by repeat first | exact mH | apply mT)) (by assumption)) rfl rfl ?_
 refine sL (A3 rfl rfl (A7 (by repeat first | exact mH | apply mT)) (by assumption)) rfl rfl ?_
 refine F4 rfl (hc) rfl rfl (fun h19 => ?_) (fun h19 => ?_)
 refine J9 ?_
 exact ⟨rfl, by simp only [A0K]; simp only [*, Bool.true_and, Bool.false_and, Bool.and_true], rfl⟩
 refine J9 ?_
 exact ⟨rfl, by simp only [A0K]; simp only [*, Bool.true_and, Bool.false_and, Bool.and_true], rfl⟩
 refine J6 ?_
 exact ⟨rfl, by simp only [A0K]; simp only [*, Bool.true_and, Bool.false_and, Bool.and_true], rfl⟩
 refine O0 ?_
 exact ⟨rfl, by simp only [A0K]; simp only [*, Bool.true_and, Bool.false_and, Bool.and_true], rfl⟩
end Gw
end Go.Proofs.YtfpgncjeejickaaGreatDoor
