/-
  The data of the program: types and terms as trees, and how they lie in memory.
-/
import Derived.Test.YtfpgncjeejickaaGreatKg0
import Derived.Laws.BytesArg
import Derived.WalkKit
import Derived.ProofKit
import Derived.OpenShut
import Derived.Carry
import Init
set_option linter.unusedVariables false
set_option linter.unusedSimpArgs false
set_option maxHeartbeats 0
set_option maxRecDepth 100000
set_option synthInstance.maxSize 4000
set_option synthInstance.maxHeartbeats 0
namespace Go.Proofs.YtfpgncjeejickaaGreat
open Go Go.RowKit
namespace Gw

structure D1 (G : IM) (p : Option Addr) (n c sz : Nat) (es : List (List Value)) : Prop where
 sl : Sl G p n c sz es.flatten
 len : es.length = n
 all : ∀ e ∈ es, e.length = sz
 one : ∀ e ∈ es, e.all (·.oneCell') = true

theorem D1.mono {G G' : IM} {p : Option Addr} {n c sz : Nat} {es : List (List Value)} (h : D1 G p n c sz es) (hg : B9 G G') : D1 G' p n c sz es := ⟨h.sl.mono hg, h.len, h.all, h.one⟩
theorem D1.nil (G : IM) (sz : Nat) : D1 G none 0 0 sz [] := ⟨Sl.nil G sz, rfl, by simp, by simp⟩

theorem A7D {sz : Nat} : ∀ {es : List (List Value)}, (∀ e ∈ es, e.length = sz) → ∀ {i : Nat} {e : List Value}, es[i]? = some e → ∀ j v, e[j]? = some v → es.flatten[i * sz + j]? = some v
 | [], _, i, e, h, _, _, _ => by simp at h
 | a :: r, hall, 0, e, h, j, v, hv => by
  simp at h; subst h
  have : j < a.length := (List.getElem?_eq_some_iff.1 hv).1
  simp [List.getElem?_append, this]
  simpa [List.getElem?_eq_getElem this] using hv
 | a :: r, hall, i + 1, e, h, j, v, hv => by
  have ih := A7D (es := r) (fun x hx => hall x (List.mem_cons_of_mem _ hx)) (i := i) (e := e) (by simpa using h) j v hv
  have ha := hall a List.mem_cons_self
  rw [List.flatten_cons, List.getElem?_append, if_neg (by rw [ha, Nat.succ_mul]; omega)]
  rw [show (i + 1) * sz + j - a.length = i * sz + j by rw [ha, Nat.succ_mul]; omega]
  exact ih

theorem D1.at {G : IM} {p : Option Addr} {n c sz : Nat} {es : List (List Value)} (h : D1 G p n c sz es) {i : Nat} {e : List Value} (hi : es[i]? = some e) :
  ∃ b o, p = some ⟨b, o, none⟩ ∧ ∀ hp, At hp G b (o + i * sz) e := by
 have hlt : i < es.length := (List.getElem?_eq_some_iff.1 hi).1
 obtain ⟨_, _, _, h4⟩ := h.sl
 have hn := h.len
 rcases h4 with h0 | ⟨b, o, full, hp, hg, hf⟩
 ·omega
 ·refine ⟨b, o, hp, fun hp => A4g hg fun j v hv => ?_⟩
  rw [Nat.add_assoc]
  exact hf _ v (A7D h.all hi j v hv)

theorem D1.get {G : IM} {p : Option Addr} {n c sz : Nat} {es : List (List Value)} (h : D1 G p n c sz es) {i : Nat} (hi : i < n) :
  ∃ e b o, es[i]? = some e ∧ p = some ⟨b, o, none⟩ ∧ e.length = sz ∧ e.all (·.oneCell') = true ∧ (∀ hp, At hp G b (o + i * sz) e) ∧ G b ≠ none := by
 have hlt : i < es.length := by rw [h.len]; exact hi
 have he : es[i]? = some es[i] := List.getElem?_eq_getElem hlt
 obtain ⟨b, o, h1, h2⟩ := h.at he
 refine ⟨es[i], b, o, he, h1, h.all _ (List.getElem_mem hlt), h.one _ (List.getElem_mem hlt), h2, ?_⟩
 obtain ⟨_, _, _, h4⟩ := h.sl
 rcases h4 with h0 | ⟨b', o', full, hp, hg, hf⟩
 ·omega
 ·rw [h1] at hp; cases hp; rw [hg]; simp
theorem D1.le {G : IM} {p : Option Addr} {n c sz : Nat} {es : List (List Value)} (h : D1 G p n c sz es) : n ≤ 9223372036854775807 := by
 have h1 := h.sl.2.1; have h2 := h.sl.2.2.1; unfold maxLen at h2; omega

theorem D1.of {G : IM} {p : Option Addr} {n c sz : Nat} {es : List (List Value)} (h : Sl G p n c sz es.flatten) (hl : es.length = n) (ha : ∀ e ∈ es, e.length = sz) (ho : ∀ e ∈ es, e.all (·.oneCell') = true) : D1 G p n c sz es := ⟨h, hl, ha, ho⟩

def F8 (n : Int) : Prop := -9223372036854775808 ≤ n ∧ n ≤ 9223372036854775807

inductive Ty where
 | mk (k : Int) (ks : List Ty)

def Ty.k : Ty → Int | .mk k _ => k
def Ty.ks : Ty → List Ty | .mk _ ks => ks

inductive Tm where
 | mk (k : Int) (nm : ByteArray) (num : Int) (ty fr : Ty) (lb : Int) (ks : List Tm)

def Tm.k : Tm → Int | .mk k _ _ _ _ _ _ => k
def Tm.nm : Tm → ByteArray | .mk _ n _ _ _ _ _ => n
def Tm.num : Tm → Int | .mk _ _ n _ _ _ _ => n
def Tm.ty : Tm → Ty | .mk _ _ _ t _ _ _ => t
def Tm.fr : Tm → Ty | .mk _ _ _ _ f _ _ => f
def Tm.lb : Tm → Int | .mk _ _ _ _ _ l _ => l
def Tm.ks : Tm → List Tm | .mk _ _ _ _ _ _ ks => ks

mutual
def Ty.small : Ty → Prop
 | .mk _ ks => ks.length ≤ 4294967296 ∧ Ty.smallL ks
def Ty.smallL : List Ty → Prop
 | [] => True
 | t :: ts => t.small ∧ Ty.smallL ts
end
mutual
def Tm.small : Tm → Prop
 | .mk _ nm _ ty fr _ ks => nm.size ≤ 4294967296 ∧ ty.small ∧ fr.small ∧ ks.length ≤ 4294967296 ∧ Tm.smallL ks
def Tm.smallL : List Tm → Prop
 | [] => True
 | t :: ts => t.small ∧ Tm.smallL ts
end
theorem Ty.smallL_mem : ∀ {ts : List Ty}, Ty.smallL ts → ∀ t ∈ ts, t.small
 | [], _, t, h => by simp at h
 | t' :: ts, h, t, ht => by
  simp only [Ty.smallL] at h
  rcases List.mem_cons.1 ht with rfl | ht
  ·exact h.1
  ·exact Ty.smallL_mem h.2 t ht
theorem Tm.smallL_mem : ∀ {ts : List Tm}, Tm.smallL ts → ∀ t ∈ ts, t.small
 | [], _, t, h => by simp at h
 | t' :: ts, h, t, ht => by
  simp only [Tm.smallL] at h
  rcases List.mem_cons.1 ht with rfl | ht
  ·exact h.1
  ·exact Tm.smallL_mem h.2 t ht

mutual
def C1 (G : IM) : Ty → List Value → Prop
 | .mk k ks, cells => ∃ p c es, cells = [.int .i64 k, .slice p ks.length c] ∧ F8 k ∧ D1 G p ks.length c 2 es ∧ C8 G ks es
def C8 (G : IM) : List Ty → List (List Value) → Prop
 | [], es => es = []
 | t :: ts, es => ∃ a r, es = a :: r ∧ C1 G t a ∧ C8 G ts r
end

mutual
def A8 (G : IM) : Tm → List Value → Prop
 | .mk k nm num ty fr lb ks, cells => ∃ tc fc p c es, cells = [.int .i64 k, .string nm, .int .i64 num] ++ tc ++ fc ++ [.int .i64 lb, .slice p ks.length c] ∧ F8 k ∧ F8 num ∧ F8 lb ∧ C1 G ty tc ∧ C1 G fr fc ∧ D1 G p ks.length c 9 es ∧ C6 G ks es
def C6 (G : IM) : List Tm → List (List Value) → Prop
 | [], es => es = []
 | t :: ts, es => ∃ a r, es = a :: r ∧ A8 G t a ∧ C6 G ts r
end

mutual
theorem C1.mono {G G' : IM} (hg : B9 G G') : ∀ {t : Ty} {cells : List Value}, C1 G t cells → C1 G' t cells
 | .mk k ks, cells, h => by
  simp only [C1] at h ⊢
  obtain ⟨p, c, es, h1, h2, h3, h4⟩ := h
  exact ⟨p, c, es, h1, h2, h3.mono hg, C8.mono hg h4⟩
theorem C8.mono {G G' : IM} (hg : B9 G G') : ∀ {ts : List Ty} {es : List (List Value)}, C8 G ts es → C8 G' ts es
 | [], es, h => by simpa only [C8] using h
 | t :: ts, es, h => by
  simp only [C8] at h ⊢
  obtain ⟨a, r, h1, h2, h3⟩ := h
  exact ⟨a, r, h1, C1.mono hg h2, C8.mono hg h3⟩
end
mutual
theorem A8.mono {G G' : IM} (hg : B9 G G') : ∀ {t : Tm} {cells : List Value}, A8 G t cells → A8 G' t cells
 | .mk k nm num ty fr lb ks, cells, h => by
  simp only [A8] at h ⊢
  obtain ⟨tc, fc, p, c, es, h1, h2, h3, h4, h5, h6, h7, h8⟩ := h
  exact ⟨tc, fc, p, c, es, h1, h2, h3, h4, h5.mono hg, h6.mono hg, h7.mono hg, C6.mono hg h8⟩
theorem C6.mono {G G' : IM} (hg : B9 G G') : ∀ {ts : List Tm} {es : List (List Value)}, C6 G ts es → C6 G' ts es
 | [], es, h => by simpa only [C6] using h
 | t :: ts, es, h => by
  simp only [C6] at h ⊢
  obtain ⟨a, r, h1, h2, h3⟩ := h
  exact ⟨a, r, h1, A8.mono hg h2, C6.mono hg h3⟩
end

theorem C1.open {G : IM} {t : Ty} {cells : List Value} (h : C1 G t cells) : ∃ p c es, cells = [.int .i64 t.k, .slice p t.ks.length c] ∧ F8 t.k ∧ D1 G p t.ks.length c 2 es ∧ C8 G t.ks es := by
 cases t; simpa only [C1, Ty.k, Ty.ks] using h
theorem A8.open {G : IM} {t : Tm} {cells : List Value} (h : A8 G t cells) : ∃ pt ct et pf cf ef p c es,
  cells = [.int .i64 t.k, .string t.nm, .int .i64 t.num, .int .i64 t.ty.k, .slice pt t.ty.ks.length ct, .int .i64 t.fr.k, .slice pf t.fr.ks.length cf, .int .i64 t.lb, .slice p t.ks.length c] ∧
  F8 t.k ∧ F8 t.num ∧ F8 t.lb ∧ (F8 t.ty.k ∧ D1 G pt t.ty.ks.length ct 2 et ∧ C8 G t.ty.ks et) ∧ (F8 t.fr.k ∧ D1 G pf t.fr.ks.length cf 2 ef ∧ C8 G t.fr.ks ef) ∧ D1 G p t.ks.length c 9 es ∧ C6 G t.ks es := by
 obtain ⟨k, nm, num, ty, fr, lb, ks⟩ := t
 simp only [A8] at h
 obtain ⟨tc, fc, p, c, es, h1, h2, h3, h4, h5, h6, h7, h8⟩ := h
 obtain ⟨pt, ct, et, rfl, t1, t2, t3⟩ := h5.open
 obtain ⟨pf, cf, ef, rfl, f1, f2, f3⟩ := h6.open
 exact ⟨pt, ct, et, pf, cf, ef, p, c, es, h1, h2, h3, h4, ⟨t1, t2, t3⟩, ⟨f1, f2, f3⟩, h7, h8⟩
theorem A8.open9 {G : IM} {k : Int} {nm : ByteArray} {num : Int} {tk : Int} {tks : List Ty} {fk : Int} {fks : List Ty} {lb : Int} {ks : List Tm} {cells : List Value} (h : A8 G (.mk k nm num (.mk tk tks) (.mk fk fks) lb ks) cells) :
  ∃ pt ct pf cf p c es, cells = [.int .i64 k, .string nm, .int .i64 num, .int .i64 tk, .slice pt tks.length ct, .int .i64 fk, .slice pf fks.length cf, .int .i64 lb, .slice p ks.length c] ∧
  F8 k ∧ F8 num ∧ F8 lb ∧ C1 G (.mk tk tks) [.int .i64 tk, .slice pt tks.length ct] ∧ C1 G (.mk fk fks) [.int .i64 fk, .slice pf fks.length cf] ∧ D1 G p ks.length c 9 es ∧ C6 G ks es := by
 obtain ⟨pt, ct, et, pf, cf, ef, p, c, es, h1, h2, h3, h4, ⟨t1, t2, t3⟩, ⟨f1, f2, f3⟩, h7, h8⟩ := h.open
 simp only [Tm.k, Tm.nm, Tm.num, Tm.ty, Tm.fr, Tm.lb, Tm.ks, Ty.k, Ty.ks] at h1 h2 h3 h4 t1 t2 t3 f1 f2 f3 h7 h8
 exact ⟨pt, ct, pf, cf, p, c, es, h1, h2, h3, h4, by simp only [C1]; exact ⟨_, _, et, rfl, t1, t2, t3⟩, by simp only [C1]; exact ⟨_, _, ef, rfl, f1, f2, f3⟩, h7, h8⟩
theorem C1.len {G : IM} {t : Ty} {cells : List Value} (h : C1 G t cells) : cells.length = 2 := by
 obtain ⟨_, _, _, rfl, _⟩ := h.open; rfl
theorem A8.len {G : IM} {t : Tm} {cells : List Value} (h : A8 G t cells) : cells.length = 9 := by
 obtain ⟨_, _, _, _, _, _, _, _, _, rfl, _⟩ := h.open; rfl

theorem C8.len {G : IM} : ∀ {ts : List Ty} {es : List (List Value)}, C8 G ts es → es.length = ts.length
 | [], es, h => by simp only [C8] at h; subst h; rfl
 | t :: ts, es, h => by
  simp only [C8] at h
  obtain ⟨a, r, rfl, _, h3⟩ := h
  simp [h3.len]
theorem C6.len {G : IM} : ∀ {ts : List Tm} {es : List (List Value)}, C6 G ts es → es.length = ts.length
 | [], es, h => by simp only [C6] at h; subst h; rfl
 | t :: ts, es, h => by
  simp only [C6] at h
  obtain ⟨a, r, rfl, _, h3⟩ := h
  simp [h3.len]
theorem C8.get {G : IM} : ∀ {ts : List Ty} {es : List (List Value)}, C8 G ts es → ∀ {i : Nat} {t : Ty}, ts[i]? = some t → ∃ e, es[i]? = some e ∧ C1 G t e
 | [], es, h, i, t, hi => by simp at hi
 | t' :: ts, es, h, i, t, hi => by
  simp only [C8] at h
  obtain ⟨a, r, rfl, h2, h3⟩ := h
  cases i with
  | zero => simp at hi; subst hi; exact ⟨a, rfl, h2⟩
  | succ i => obtain ⟨e, he, hr⟩ := h3.get (i := i) (by simpa using hi); exact ⟨e, by simpa using he, hr⟩
theorem C6.get {G : IM} : ∀ {ts : List Tm} {es : List (List Value)}, C6 G ts es → ∀ {i : Nat} {t : Tm}, ts[i]? = some t → ∃ e, es[i]? = some e ∧ A8 G t e
 | [], es, h, i, t, hi => by simp at hi
 | t' :: ts, es, h, i, t, hi => by
  simp only [C6] at h
  obtain ⟨a, r, rfl, h2, h3⟩ := h
  cases i with
  | zero => simp at hi; subst hi; exact ⟨a, rfl, h2⟩
  | succ i => obtain ⟨e, he, hr⟩ := h3.get (i := i) (by simpa using hi); exact ⟨e, by simpa using he, hr⟩
theorem C8.all {G : IM} {ts : List Ty} {es : List (List Value)} (h : C8 G ts es) : ∀ e ∈ es, e.length = 2 := by
 intro e he
 obtain ⟨i, hi⟩ := List.getElem?_of_mem he
 have hlt : i < ts.length := by have := (List.getElem?_eq_some_iff.1 hi).1; rw [h.len] at this; exact this
 obtain ⟨e', he', hr⟩ := h.get (i := i) (t := ts[i]) (by simp [hlt])
 rw [hi] at he'; cases he'; exact hr.len
theorem C6.all {G : IM} {ts : List Tm} {es : List (List Value)} (h : C6 G ts es) : ∀ e ∈ es, e.length = 9 := by
 intro e he
 obtain ⟨i, hi⟩ := List.getElem?_of_mem he
 have hlt : i < ts.length := by have := (List.getElem?_eq_some_iff.1 hi).1; rw [h.len] at this; exact this
 obtain ⟨e', he', hr⟩ := h.get (i := i) (t := ts[i]) (by simp [hlt])
 rw [hi] at he'; cases he'; exact hr.len

theorem C1.one {G : IM} {t : Ty} {cells : List Value} (h : C1 G t cells) : cells.all (·.oneCell') = true := by
 obtain ⟨_, _, _, rfl, _⟩ := h.open; rfl
theorem A8.one {G : IM} {t : Tm} {cells : List Value} (h : A8 G t cells) : cells.all (·.oneCell') = true := by
 obtain ⟨_, _, _, _, _, _, _, _, _, rfl, _⟩ := h.open; rfl

theorem Ty.ind {C : Ty → Prop} (h : ∀ k ks, (∀ t ∈ ks, C t) → C (.mk k ks)) : ∀ t, C t
 | .mk k ks => h k ks fun t ht => Ty.ind h t
termination_by t => SizeOf.sizeOf t
decreasing_by
 have := List.sizeOf_lt_of_mem ht
 simp only [Ty.mk.sizeOf_spec]; omega
theorem Tm.ind {C : Tm → Prop} (h : ∀ k nm num ty fr lb ks, (∀ t ∈ ks, C t) → C (.mk k nm num ty fr lb ks)) : ∀ t, C t
 | .mk k nm num ty fr lb ks => h k nm num ty fr lb ks fun t ht => Tm.ind h t
termination_by t => SizeOf.sizeOf t
decreasing_by
 have := List.sizeOf_lt_of_mem ht
 simp only [Tm.mk.sizeOf_spec]; omega

def C4 (G' G : IM) : IM := fun b => match G b with | none => G' b | some _ => none
theorem C4.le (G' G : IM) : B9 (C4 G' G) G' := by
 intro b l h
 unfold C4 at h
 split at h
 ·exact h
 ·cases h
theorem C4.mono {G' G'' G : IM} (h : B9 G' G'') : B9 (C4 G' G) (C4 G'' G) := by
 intro b l hb
 unfold C4 at hb ⊢
 split at hb
 ·exact h b l hb
 ·cases hb
theorem C4.anti {G' G G0 : IM} (h : B9 G0 G) : B9 (C4 G' G) (C4 G' G0) := by
 intro b l hb
 unfold C4 at hb ⊢
 split at hb
 ·rename_i h0
  cases h1 : G0 b with
  | none => exact hb
  | some l' => rw [h b l' h1] at h0; cases h0
 ·cases hb
theorem C4.out {G' G : IM} {b : Nat} (h : C4 G' G b ≠ none) : G b = none := by
 unfold C4 at h
 split at h
 ·assumption
 ·exact absurd rfl h
theorem Sl.dif {G' G G0 : IM} {p : Option Addr} {n c sz : Nat} {cs : List Value} (h : Sl G' p n c sz cs) (hp : ∀ b ∈ J0 p, G b = none) (hle : B9 G0 G) : Sl (C4 G' G0) p n c sz cs := by
 obtain ⟨h1, h2, h3, h4⟩ := h
 refine ⟨h1, h2, h3, h4.imp id ?_⟩
 rintro ⟨b, o, full, rfl, e2, e3⟩
 refine ⟨b, o, full, rfl, ?_, e3⟩
 have hb := hp b (by simp [J0])
 have h0 : G0 b = none := by
  cases h1 : G0 b with
  | none => rfl
  | some l => rw [hle b l h1] at hb; cases hb
 simp [C4, h0, e2]

mutual
def Q8 (G : IM) : Ty → List Value → List Nat → Prop
 | .mk k ks, cells, F => ∃ p c es Fs, cells = [.int .i64 k, .slice p ks.length c] ∧ F8 k ∧ D1 G p ks.length c 2 es ∧ O5 G ks es Fs ∧ F = J0 p ++ Fs ∧ (∀ b ∈ J0 p, G b ≠ none)
def O5 (G : IM) : List Ty → List (List Value) → List Nat → Prop
 | [], es, F => es = [] ∧ F = []
 | t :: ts, es, F => ∃ a r Fa Fr, es = a :: r ∧ Q8 G t a Fa ∧ O5 G ts r Fr ∧ F = Fa ++ Fr
end
mutual
theorem Q8.R {G : IM} : ∀ {t : Ty} {cells : List Value} {F : List Nat}, Q8 G t cells F → C1 G t cells
 | .mk k ks, cells, F, h => by
  simp only [Q8] at h
  obtain ⟨p, c, es, Fs, h1, h2, h3, h4, _⟩ := h
  simp only [C1]
  exact ⟨p, c, es, h1, h2, h3, O5.R h4⟩
theorem O5.R {G : IM} : ∀ {ts : List Ty} {es : List (List Value)} {F : List Nat}, O5 G ts es F → C8 G ts es
 | [], es, F, h => by simp only [O5] at h; simp only [C8]; exact h.1
 | t :: ts, es, F, h => by
  simp only [O5] at h
  obtain ⟨a, r, Fa, Fr, h1, h2, h3, _⟩ := h
  simp only [C8]
  exact ⟨a, r, h1, Q8.R h2, O5.R h3⟩
end
mutual
theorem Q8.mono {G G' : IM} (hg : B9 G G') : ∀ {t : Ty} {cells : List Value} {F : List Nat}, Q8 G t cells F → Q8 G' t cells F
 | .mk k ks, cells, F, h => by
  simp only [Q8] at h ⊢
  obtain ⟨p, c, es, Fs, h1, h2, h3, h4, h5, h6⟩ := h
  exact ⟨p, c, es, Fs, h1, h2, h3.mono hg, O5.mono hg h4, h5, fun b hb => by cases hgb : G b with | none => exact absurd hgb (h6 b hb) | some l => rw [hg b l hgb]; simp⟩
theorem O5.mono {G G' : IM} (hg : B9 G G') : ∀ {ts : List Ty} {es : List (List Value)} {F : List Nat}, O5 G ts es F → O5 G' ts es F
 | [], es, F, h => by simpa only [O5] using h
 | t :: ts, es, F, h => by
  simp only [O5] at h ⊢
  obtain ⟨a, r, Fa, Fr, h1, h2, h3, h4⟩ := h
  exact ⟨a, r, Fa, Fr, h1, Q8.mono hg h2, O5.mono hg h3, h4⟩
end
mutual
theorem Q8.inG {G : IM} : ∀ {t : Ty} {cells : List Value} {F : List Nat}, Q8 G t cells F → ∀ b ∈ F, G b ≠ none
 | .mk k ks, cells, F, h => by
  simp only [Q8] at h
  obtain ⟨p, c, es, Fs, h1, h2, h3, h4, rfl, h6⟩ := h
  intro b hb
  rcases List.mem_append.1 hb with hb | hb
  ·exact h6 b hb
  ·exact O5.inG h4 b hb
theorem O5.inG {G : IM} : ∀ {ts : List Ty} {es : List (List Value)} {F : List Nat}, O5 G ts es F → ∀ b ∈ F, G b ≠ none
 | [], es, F, h => by simp only [O5] at h; rw [h.2]; simp
 | t :: ts, es, F, h => by
  simp only [O5] at h
  obtain ⟨a, r, Fa, Fr, h1, h2, h3, rfl⟩ := h
  intro b hb
  rcases List.mem_append.1 hb with hb | hb
  ·exact Q8.inG h2 b hb
  ·exact O5.inG h3 b hb
end
theorem O5.snoc {G : IM} : ∀ {ts : List Ty} {es : List (List Value)} {F : List Nat} {t : Ty} {a : List Value} {Fa : List Nat}, O5 G ts es F → Q8 G t a Fa → O5 G (ts ++ [t]) (es ++ [a]) (F ++ Fa)
 | [], es, F, t, a, Fa, h, h2 => by
  simp only [O5] at h
  obtain ⟨rfl, rfl⟩ := h
  simp only [List.nil_append, O5]
  exact ⟨a, [], Fa, [], rfl, h2, ⟨rfl, rfl⟩, by simp⟩
 | t' :: ts, es, F, t, a, Fa, h, h2 => by
  simp only [O5] at h
  obtain ⟨a', r, Fa', Fr, rfl, h3, h4, rfl⟩ := h
  simp only [List.cons_append, O5]
  exact ⟨a', r ++ [a], Fa', Fr ++ Fa, rfl, h3, O5.snoc h4 h2, by simp⟩

theorem D1.kidTy {G : IM} {p : Option Addr} {n c : Nat} {es : List (List Value)} {ks : List Ty} (h : D1 G p n c 2 es) (hk : C8 G ks es) {i : Nat} (hi : i < n) (hn : i < ks.length) :
  ∃ b o p2 c2, p = some ⟨b, o, none⟩ ∧ (∀ hp, At hp G b (o + i * 2) [.int .i64 ks[i].k, .slice p2 ks[i].ks.length c2]) ∧ C1 G ks[i] [.int .i64 ks[i].k, .slice p2 ks[i].ks.length c2] ∧ G b ≠ none := by
 obtain ⟨e, b, o, he, h1, h2, h3, h4, h5⟩ := h.get hi
 obtain ⟨e', he', hr⟩ := hk.get (i := i) (t := ks[i]) (by simp [hn])
 rw [he] at he'; cases he'
 obtain ⟨p2, c2, _, rfl, _⟩ := hr.open
 exact ⟨b, o, p2, c2, h1, h4, hr, h5⟩

theorem O5.step {G Gi G1 : IM} {ks : List Ty} {i : Nat} {es : List (List Value)} {F F' : List Nat} {a : List Value} (h : O5 (C4 Gi G) (ks.take i) es F) (hn : F.Nodup) (hle : B9 G Gi) (hle1 : B9 Gi G1) (hi : i < ks.length)
  (ha : Q8 (C4 G1 Gi) ks[i] a F') (hn' : F'.Nodup) : O5 (C4 G1 G) (ks.take (i + 1)) (es ++ [a]) (F ++ F') ∧ (F ++ F').Nodup := by
 constructor
 ·rw [List.take_succ_eq_append_getElem hi]
  exact O5.snoc (h.mono (C4.mono hle1)) (ha.mono (C4.anti hle))
 ·rw [List.nodup_append]
  refine ⟨hn, hn', ?_⟩
  rintro x hx y hy rfl
  have h1 := h.inG x hx
  have h2 := C4.out (ha.inG x hy)
  apply h1
  cases hd : C4 Gi G x with
  | none => rfl
  | some l => rw [C4.le _ _ x l hd] at h2; cases h2
theorem Q8.fin {G Gi G2 : IM} {k : Int} {ks : List Ty} {es : List (List Value)} {F : List Nat} {p : Option Addr} {c : Nat} (h : O5 (C4 Gi G) ks es F) (hn : F.Nodup) (hle : B9 G Gi) (hle2 : B9 Gi G2)
  (hsl : Sl G2 p ks.length c 2 es.flatten) (hnn : ∀ b ∈ J0 p, Gi b = none ∧ G2 b ≠ none) (hk : F8 k) :
  ∃ F', Q8 (C4 G2 G) (.mk k ks) [.int .i64 k, .slice p ks.length c] F' ∧ F'.Nodup := by
 have hno := fun b hb => (hnn b hb).1
 have hin := fun b hb => (hnn b hb).2
 have hR := h.R
 refine ⟨J0 p ++ F, ?_, ?_⟩
 ·simp only [Q8]
  refine ⟨p, c, es, F, rfl, hk, D1.of (hsl.dif hno hle) hR.len hR.all ?_, h.mono (C4.mono hle2), rfl, ?_⟩
  ·intro e he
   obtain ⟨i, hi⟩ := List.getElem?_of_mem he
   have hlt : i < ks.length := by have := (List.getElem?_eq_some_iff.1 hi).1; rw [hR.len] at this; exact this
   obtain ⟨e', he', hr⟩ := hR.get (i := i) (t := ks[i]) (by simp [hlt])
   rw [hi] at he'; cases he'; exact hr.one
  ·intro b hb
   have h0 := hno b hb
   cases hg : G b with
   | none => simpa [C4, hg] using hin b hb
   | some l => rw [hle b l hg] at h0; cases h0
 ·rw [List.nodup_append]
  refine ⟨by cases p <;> simp [J0], hn, ?_⟩
  rintro x hx y hy rfl
  have h1 := h.inG x hy
  have h2 := hno x hx
  apply h1
  cases hd : C4 Gi G x with
  | none => rfl
  | some l => rw [C4.le _ _ x l hd] at h2; cases h2

def A0L (q : Nat → Bool) (n : Nat) : Int := match (List.range n).find? q with | some i => i | none => -1
theorem A5I {q : Nat → Bool} {n : Nat} (h : ∀ j, j < n → q j = false) : A0L q n = -1 := by
 have : (List.range n).find? q = none := by
  rw [List.find?_eq_none]
  intro x hx
  rw [h x (List.mem_range.1 hx)]; simp
 simp [A0L, this]
theorem A7E {q : Nat → Bool} {n i : Nat} (hi : i < n) (h : ∀ j, j < i → q j = false) (hq : q i = true) : A0L q n = i := by
 have : (List.range n).find? q = some i := by
  rw [List.find?_eq_some_iff_append]
  refine ⟨hq, List.range i, (List.range n).drop (i + 1), ?_, ?_⟩
  ·apply List.ext_getElem?
   intro k
   simp only [List.getElem?_append, List.length_range, List.getElem?_range', List.getElem?_cons, List.getElem?_drop]
   by_cases h1 : k < i
   ·simp [h1, show k < n by omega]
   ·by_cases h2 : k = i
    ·subst h2; simp [hi]
    ·have h3 : k - i ≠ 0 := by omega
     simp only [h1, if_false, h3]
     rw [show i + 1 + (k - i - 1) = k by omega]
  ·intro a ha
   simp [h a (List.mem_range.1 ha)]
 simp [A0L, this]

def R8 (n lo hi : Int) : Bool := decide (lo ≤ n ∧ n ≤ hi)
theorem A4r {n lo hi : Int} (h : R8 n lo hi = true) : lo ≤ n ∧ n ≤ hi := by simpa [R8] using h
theorem A7F {n lo hi : Int} (h : R8 n lo hi = false) : ¬(lo ≤ n ∧ n ≤ hi) := by simpa [R8] using h
def V0 (k : Int) : Int := if k = 1 ∨ k = 2 ∨ k = 3 then 0 else if k = 4 ∨ k = 5 then 2 else -1
theorem N5 (k : Int) : (k = 1 ∨ k = 2 ∨ k = 3 → V0 k = 0) ∧ (k = 4 ∨ k = 5 → V0 k = 2) ∧ (k ≠ 1 → k ≠ 2 → k ≠ 3 → k ≠ 4 → k ≠ 5 → V0 k = -1) := by
 unfold V0; split <;> try split
 all_goals omega
def E2 (k : Int) : Int := if k = 1 ∨ k = 2 ∨ k = 3 ∨ k = 4 then 0 else if k = 5 ∨ k = 11 ∨ k = 12 ∨ k = 13 ∨ k = 14 then 1 else if k = 6 ∨ k = 7 ∨ k = 8 ∨ k = 10 then 2 else if k = 9 then 3 else -1

mutual
def K9 : Ty → Int → Bool
 | .mk k ks, d => decide (d ≤ 4) && decide (V0 k = ks.length) && U1 ks (d + 1)
def U1 : List Ty → Int → Bool
 | [], _ => true
 | t :: ts, d => K9 t d && U1 ts d
end
theorem A4s : ∀ (ts : List Ty) (d : Int), U1 ts d = true ↔ ∀ i, (h : i < ts.length) → K9 ts[i] d = true
 | [], d => by simp [U1]
 | t :: ts, d => by
  simp only [U1, Bool.and_eq_true, A4s ts d]
  constructor
  ·rintro ⟨h1, h2⟩ i hi
   cases i with
   | zero => exact h1
   | succ i => exact h2 i (by simpa using hi)
  ·intro h
   exact ⟨h 0 (by simp), fun i hi => h (i + 1) (by simpa using hi)⟩
def F9 (t : Ty) : Bool := K9 t 1
def Y1 (t : Ty) : Bool := decide (t.k = 0 ∧ t.ks.length = 0)

mutual
def K0 : Ty → Ty → Bool
 | .mk k ks, t => decide (k = 1) || decide (t.k = 1) || (decide (k = t.k) && M9 ks t.ks)
def M9 : List Ty → List Ty → Bool
 | [], [] => true
 | a :: xs, b :: ys => K0 a b && M9 xs ys
 | _, _ => false
end
theorem S7 (k k' : Int) (ks ks' : List Ty) : K0 (.mk k ks) (.mk k' ks') = (decide (k = 1) || decide (k' = 1) || (decide (k = k') && M9 ks ks')) := by rw [K0]; rfl
theorem A1Y : ∀ (xs ys : List Ty), M9 xs ys = true ↔ xs.length = ys.length ∧ ∀ i, (h : i < xs.length) → (h' : i < ys.length) → K0 xs[i] ys[i] = true
 | [], [] => by simp [M9]
 | [], b :: ys => by simp [M9]
 | a :: xs, [] => by simp [M9]
 | a :: xs, b :: ys => by
  simp only [M9, Bool.and_eq_true, A1Y xs ys, List.length_cons]
  constructor
  ·rintro ⟨h1, h2, h3⟩
   refine ⟨by omega, fun i hi hi' => ?_⟩
   cases i with
   | zero => exact h1
   | succ i => exact h3 i (by simpa using hi) (by simpa using hi')
  ·rintro ⟨h1, h2⟩
   exact ⟨h2 0 (by simp) (by simp), by omega, fun i hi hi' => h2 (i + 1) (by simpa using hi) (by simpa using hi')⟩
def A00 (a b : Ty) : Bool := F9 a && F9 b && K0 a b
def Y2 (s : ByteArray) : Bool := decide (s.size = 1 ∧ 97 ≤ (s.data.getD 0 0).toNat ∧ (s.data.getD 0 0).toNat ≤ 122)
def A01 (n : Int) : Bool := R8 n 1 99 || R8 n (-99) (-1)

theorem A4t {s : ByteArray} {j : Int} (h : j.toNat < s.size) : s[j.toNat]? = some (s.data.getD j.toNat 0) := by
 rw [getElem?_pos s j.toNat h]
 show some (s.data[j.toNat]'h) = _
 rw [Array.getD_eq_getD_getElem?, getElem?_pos s.data j.toNat h]
 rfl
theorem B1J {q : Nat → Bool} {n : Nat} : A0L q n < 0 ↔ ∀ j, j < n → q j = false := by
 constructor
 ·intro h j hj
  unfold A0L at h
  split at h
  ·omega
  ·rename_i hf
   have := List.find?_eq_none.1 hf j (List.mem_range.2 hj)
   simpa using this
 ·intro h; rw [A5I h]; omega
theorem A7G {q : Nat → Bool} {n : Nat} : 0 ≤ A0L q n ↔ ∃ j, j < n ∧ q j = true := by
 have h := @B1J q n
 constructor
 ·intro h0
  apply Classical.byContradiction
  intro hn
  have : A0L q n < 0 := h.2 fun j hj => by cases hq : q j with | false => rfl | true => exact absurd ⟨j, hj, hq⟩ hn
  omega
 ·rintro ⟨j, hj, hq⟩
  apply Classical.byContradiction
  intro hn
  rw [h.1 (by omega) j hj] at hq
  exact absurd hq (by simp)
theorem A7H {α : Type} (f : α → Bool) (ks : List α) (a : α) : decide (0 ≤ A0L (fun i => !f (ks.getD i a)) ks.length) = !ks.all f := by
 cases h : ks.all f with
 | true =>
  rw [List.all_eq_true] at h
  apply decide_eq_false
  rw [A7G]
  rintro ⟨j, hj, hq⟩
  rw [List.getD_eq_getElem?_getD, List.getElem?_eq_getElem hj, Option.getD_some, h _ (List.getElem_mem hj)] at hq
  exact absurd hq (by simp)
 | false =>
  apply decide_eq_true
  rw [A7G]
  apply Classical.byContradiction
  intro hn
  have : ks.all f = true := by
   rw [List.all_eq_true]
   intro x hx
   obtain ⟨j, hj, rfl⟩ := List.getElem_of_mem hx
   cases hf : f ks[j] with
   | true => rfl
   | false => exact absurd ⟨j, hj, by rw [List.getD_eq_getElem?_getD, List.getElem?_eq_getElem hj, Option.getD_some, hf]; rfl⟩ hn
  rw [h] at this
  exact absurd this (by simp)
theorem V4 : ∀ (ks : List Ty) (d : Int), U1 ks d = ks.all (K9 · d)
 | [], d => rfl
 | t :: ts, d => by simp [U1, V4 ts d]
theorem C8.inv {G : IM} : ∀ {ts : List Ty} {es : List (List Value)}, C8 G ts es → ∀ {i : Nat} {e : List Value}, es[i]? = some e → ∀ a, ts.getD i a ∈ ts ∧ C1 G (ts.getD i a) e
 | [], es, h, i, e, he, a => by
  have := h.len
  simp only [List.length_nil, List.length_eq_zero_iff] at this
  subst this; simp at he
 | t :: ts, es, h, i, e, he, a => by
  have hi : i < es.length := by
   apply Classical.byContradiction; intro hn; rw [List.getElem?_eq_none (by omega)] at he; simp at he
  have hl := h.len
  obtain ⟨e', he', hr⟩ := h.get (i := i) (t := (t :: ts)[i]'(by omega)) (by rw [List.getElem?_eq_getElem])
  rw [he] at he'
  obtain rfl := Option.some.inj he'
  rw [List.getD_eq_getElem?_getD, List.getElem?_eq_getElem (by omega), Option.getD_some]
  exact ⟨List.getElem_mem _, hr⟩
theorem C6.inv {G : IM} : ∀ {ts : List Tm} {es : List (List Value)}, C6 G ts es → ∀ {i : Nat} {e : List Value}, es[i]? = some e → ∀ a, ts.getD i a ∈ ts ∧ A8 G (ts.getD i a) e
 | [], es, h, i, e, he, a => by
  have := h.len
  simp only [List.length_nil, List.length_eq_zero_iff] at this
  subst this; simp at he
 | t :: ts, es, h, i, e, he, a => by
  have hi : i < es.length := by
   apply Classical.byContradiction; intro hn; rw [List.getElem?_eq_none (by omega)] at he; simp at he
  have hl := h.len
  obtain ⟨e', he', hr⟩ := h.get (i := i) (t := (t :: ts)[i]'(by omega)) (by rw [List.getElem?_eq_getElem])
  rw [he] at he'
  obtain rfl := Option.some.inj he'
  rw [List.getD_eq_getElem?_getD, List.getElem?_eq_getElem (by omega), Option.getD_some]
  exact ⟨List.getElem_mem _, hr⟩
def B2 : Ty := .mk 0 []
theorem B1K {p : Prop} [Decidable p] {x y : Bool} : ((if p then x else y) = true) ↔ ((p → x = true) ∧ (¬p → y = true)) := by by_cases h : p <;> simp [h]
theorem B1L {k : Int} (h : 1 ≤ k ∧ k ≤ 14) : ([Value.int .i64 0, .int .i64 0, .int .i64 0, .int .i64 0, .int .i64 1, .int .i64 2, .int .i64 2, .int .i64 2, .int .i64 3, .int .i64 2, .int .i64 1, .int .i64 1, .int .i64 1, .int .i64 1])[(k - 1).toNat]? = some (.int .i64 (E2 k)) := by
 have : k = 1 ∨ k = 2 ∨ k = 3 ∨ k = 4 ∨ k = 5 ∨ k = 6 ∨ k = 7 ∨ k = 8 ∨ k = 9 ∨ k = 10 ∨ k = 11 ∨ k = 12 ∨ k = 13 ∨ k = 14 := by omega
 rcases this with rfl | rfl | rfl | rfl | rfl | rfl | rfl | rfl | rfl | rfl | rfl | rfl | rfl | rfl <;> rfl
theorem A4u {k : Int} (h : ¬(1 ≤ k ∧ k ≤ 14)) : E2 k = -1 := by
 unfold E2; repeat (split; omega)
 rfl
theorem B1M {cs : List Value} {o : Nat} {v : Value} (h : cs[o]? = some v) : ∀ j u, [v][j]? = some u → cs[o + j]? = some u := by
 intro j u hj
 cases j with
 | zero => simpa using hj ▸ h
 | succ j => simp at hj
def V5 (k : Int) (nm : ByteArray) (num : Int) (ty fr : Ty) (lb : Int) (n : Nat) : Bool :=
 decide (E2 k = n) && (if k = 1 ∨ k = 5 then Y2 nm else decide (nm = ⟨#[]⟩)) && (if k = 2 then R8 num 0 999 else R8 num 0 0) &&
 (if k = 5 ∨ k = 13 ∨ k = 14 then F9 ty else Y1 ty) && (if k = 14 then A00 fr ty && A01 lb else Y1 fr && decide (lb = 0))
theorem U2 {k : Int} {nm : ByteArray} {num : Int} {ty fr : Ty} {lb : Int} {n : Nat} : V5 k nm num ty fr lb n = true ↔
  E2 k = n ∧ (k = 1 ∨ k = 5 → Y2 nm = true) ∧ (¬(k = 1 ∨ k = 5) → nm = ⟨#[]⟩) ∧ (k = 2 → R8 num 0 999 = true) ∧ (k ≠ 2 → R8 num 0 0 = true) ∧
  (k = 5 ∨ k = 13 ∨ k = 14 → F9 ty = true) ∧ (¬(k = 5 ∨ k = 13 ∨ k = 14) → Y1 ty = true) ∧ (k = 14 → A00 fr ty = true ∧ A01 lb = true) ∧ (k ≠ 14 → Y1 fr = true ∧ lb = 0) := by
 simp only [V5, Bool.and_eq_true, B1K, decide_eq_true_eq, and_assoc, ne_eq]
mutual
def T5 (M D N : Int) : Tm → Int → Int → Bool × Int
 | .mk k nm num ty fr lb ks, deep, c => if c + 1 > M ∨ deep > D ∨ k = N ∨ V5 k nm num ty fr lb ks.length = false then (false, c + 1) else U6 M D N ks (deep + 1) (c + 1)
def U6 (M D N : Int) : List Tm → Int → Int → Bool × Int
 | [], _, c => (true, c)
 | t :: ts, deep, c => if (T5 M D N t deep c).1 = true then U6 M D N ts deep (T5 M D N t deep c).2 else (false, (T5 M D N t deep c).2)
end
mutual
theorem A5J (M D N : Int) : ∀ (t : Tm) (deep c : Int), 0 ≤ c → c ≤ M → c < (T5 M D N t deep c).2 ∧ (T5 M D N t deep c).2 ≤ M + 1 ∧ ((T5 M D N t deep c).1 = true → (T5 M D N t deep c).2 ≤ M)
 | .mk k nm num ty fr lb ks, deep, c, h0, h1 => by
  rw [T5]
  split
  ·simp; omega
  ·rename_i h
   have := A7I M D N ks (deep + 1) (c + 1) (by omega) (by omega)
   exact ⟨by omega, this.2⟩
theorem A7I (M D N : Int) : ∀ (ts : List Tm) (deep c : Int), 0 ≤ c → c ≤ M → c ≤ (U6 M D N ts deep c).2 ∧ (U6 M D N ts deep c).2 ≤ M + 1 ∧ ((U6 M D N ts deep c).1 = true → (U6 M D N ts deep c).2 ≤ M)
 | [], deep, c, h0, h1 => by rw [U6]; simp; omega
 | t :: ts, deep, c, h0, h1 => by
  have := A5J M D N t deep c h0 h1
  rw [U6]
  split
  ·rename_i h
   have h2 := A7I M D N ts deep (T5 M D N t deep c).2 (by omega) (this.2.2 h)
   exact ⟨by omega, h2.2⟩
  ·simp; omega
end
def P0 (t : Tm) : Bool := (T5 200 40 13 t 1 0).1
def N8 (t : Tm) : Bool := (T5 30 12 14 t 1 0).1
theorem D1.kidTm {G : IM} {p : Option Addr} {n c : Nat} {es : List (List Value)} {ks : List Tm} (h : D1 G p n c 9 es) (hk : C6 G ks es) {i : Nat} (hi : i < n) (hn : i < ks.length) :
  ∃ b o e, p = some ⟨b, o, none⟩ ∧ e.length = 9 ∧ (∀ hp, At hp G b (o + i * 9) e) ∧ A8 G ks[i] e ∧ G b ≠ none := by
 obtain ⟨e, b, o, he, hp, hl, _, hat, hg⟩ := h.get hi
 have := (hk.inv he (ks[i])).2
 rw [List.getD_eq_getElem?_getD, List.getElem?_eq_getElem hn, Option.getD_some] at this
 exact ⟨b, o, e, hp, hl, hat, this, hg⟩
theorem A4v {M D N : Int} {k : Int} {nm : ByteArray} {num : Int} {ty fr : Ty} {lb : Int} {ks : List Tm} {deep c : Int} (h : c + 1 > M ∨ deep > D ∨ k = N ∨ V5 k nm num ty fr lb ks.length = false) :
  T5 M D N (.mk k nm num ty fr lb ks) deep c = (false, c + 1) := by rw [T5, if_pos h]
theorem B1N {M D N : Int} {k : Int} {nm : ByteArray} {num : Int} {ty fr : Ty} {lb : Int} {ks : List Tm} {deep c : Int} (h1 : ¬(c + 1 > M ∨ deep > D ∨ k = N)) (h2 : V5 k nm num ty fr lb ks.length = true) :
  T5 M D N (.mk k nm num ty fr lb ks) deep c = U6 M D N ks (deep + 1) (c + 1) := by
 rw [T5, if_neg]
 rw [h2]
 intro h
 apply h1
 rcases h with h | h | h | h
 ·exact .inl h
 ·exact .inr (.inl h)
 ·exact .inr (.inr h)
 ·cases h
theorem B1O {M D N : Int} {ks : List Tm} {i : Nat} {deep c : Int} (hi : i < ks.length) (h : (T5 M D N ks[i] deep c).1 = true) : U6 M D N (ks.drop i) deep c = U6 M D N (ks.drop (i + 1)) deep (T5 M D N ks[i] deep c).2 := by
 rw [List.drop_eq_getElem_cons hi, U6, if_pos h]
theorem B1P {M D N : Int} {ks : List Tm} {i : Nat} {deep c : Int} (hi : i < ks.length) (h : (T5 M D N ks[i] deep c).1 = false) : U6 M D N (ks.drop i) deep c = (false, (T5 M D N ks[i] deep c).2) := by
 rw [List.drop_eq_getElem_cons hi, U6, if_neg (by rw [h]; simp)]
theorem B1Q {M D N : Int} {ks : List Tm} {i : Nat} {deep c : Int} (hi : i = ks.length) : U6 M D N (ks.drop i) deep c = (true, c) := by
 rw [hi, List.drop_length, U6]
section blk
variable {P : Program} {Γ : L9} {env : M4} {hp : List A5} {G : IM} {K : Po} {ops : Array Oper} {rest : List Oper}
end blk

theorem A5K : ∀ {A B C V : List Value} {o : Nat}, A.length = o → B.length = V.length → T4 (A ++ (B ++ C)) o V = some (A ++ (V ++ C))
 | [], B, C, V, o, h, hv => by
  simp at h; subst h
  simp only [List.nil_append]
  induction B generalizing V with
  | nil => cases V with
   | nil => cases C <;> rfl
   | cons v V => simp at hv
  | cons b B ih => cases V with
   | nil => simp at hv
   | cons v V =>
    simp only [List.cons_append, T4, ih (V := V) (by simpa using hv)]
 | a :: A, B, C, V, o, h, hv => by
  simp at h; subst h
  simp only [List.cons_append, T4, A5K (A := A) (B := B) (C := C) rfl hv]
theorem A02 {sz : Nat} : ∀ {es : List (List Value)}, (∀ e ∈ es, e.length = sz) → es.flatten.length = es.length * sz
 | [], _ => by simp
 | e :: es, h => by
  rw [List.flatten_cons, List.length_append, h e List.mem_cons_self, A02 (es := es) fun x hx => h x (List.mem_cons_of_mem _ hx), List.length_cons, Nat.succ_mul]; omega
def A7J (G : IM) (ks : List Ty) (p : Option Addr) (c : Nat) (F : List Nat) : Prop := ∃ es Fs, D1 G p ks.length c 2 es ∧ O5 G ks es Fs ∧ F = J0 p ++ Fs ∧ (∀ b ∈ J0 p, G b ≠ none)
theorem Q8.open {G : IM} {t : Ty} {cells : List Value} {F : List Nat} (h : Q8 G t cells F) : ∃ p c, cells = [.int .i64 t.k, .slice p t.ks.length c] ∧ F8 t.k ∧ A7J G t.ks p c F := by
 cases t
 simp only [Q8] at h
 obtain ⟨p, c, es, Fs, h0, hk, h1, h2, h3, h4⟩ := h
 exact ⟨p, c, h0, hk, es, Fs, h1, h2, h3, h4⟩
mutual
def Q1 (G : IM) : Tm → List Value → List Nat → Prop
 | .mk k nm num ty fr lb ks, cells, F => ∃ tc fc p c es Ft Ff Fs, cells = [.int .i64 k, .string nm, .int .i64 num] ++ tc ++ fc ++ [.int .i64 lb, .slice p ks.length c] ∧ F8 k ∧ F8 num ∧ F8 lb ∧ Q8 G ty tc Ft ∧ Q8 G fr fc Ff ∧
   D1 G p ks.length c 9 es ∧ O6 G ks es Fs ∧ F = Ft ++ (Ff ++ (J0 p ++ Fs)) ∧ (∀ b ∈ J0 p, G b ≠ none)
def O6 (G : IM) : List Tm → List (List Value) → List Nat → Prop
 | [], es, F => es = [] ∧ F = []
 | t :: ts, es, F => ∃ a r Fa Fr, es = a :: r ∧ Q1 G t a Fa ∧ O6 G ts r Fr ∧ F = Fa ++ Fr
end
def A2r (G : IM) (ks : List Tm) (p : Option Addr) (c : Nat) (F : List Nat) : Prop := ∃ es Fs, D1 G p ks.length c 9 es ∧ O6 G ks es Fs ∧ F = J0 p ++ Fs ∧ (∀ b ∈ J0 p, G b ≠ none)
mutual
theorem Q1.R {G : IM} : ∀ {t : Tm} {cells : List Value} {F : List Nat}, Q1 G t cells F → A8 G t cells
 | .mk k nm num ty fr lb ks, cells, F, h => by
  simp only [Q1] at h
  obtain ⟨tc, fc, p, c, es, Ft, Ff, Fs, h1, h2, h3, h4, h5, h6, h7, h8, _⟩ := h
  simp only [A8]
  exact ⟨tc, fc, p, c, es, h1, h2, h3, h4, h5.R, h6.R, h7, O6.R h8⟩
theorem O6.R {G : IM} : ∀ {ts : List Tm} {es : List (List Value)} {F : List Nat}, O6 G ts es F → C6 G ts es
 | [], es, F, h => by simp only [O6] at h; simp only [C6]; exact h.1
 | t :: ts, es, F, h => by
  simp only [O6] at h
  obtain ⟨a, r, Fa, Fr, h1, h2, h3, _⟩ := h
  simp only [C6]
  exact ⟨a, r, h1, Q1.R h2, O6.R h3⟩
end
theorem A2X {G G' : IM} (hg : B9 G G') {F : List Nat} (h : ∀ b ∈ F, G b ≠ none) : ∀ b ∈ F, G' b ≠ none := fun b hb => by
 cases hgb : G b with
 | none => exact absurd hgb (h b hb)
 | some l => rw [hg b l hgb]; simp
mutual
theorem Q1.mono {G G' : IM} (hg : B9 G G') : ∀ {t : Tm} {cells : List Value} {F : List Nat}, Q1 G t cells F → Q1 G' t cells F
 | .mk k nm num ty fr lb ks, cells, F, h => by
  simp only [Q1] at h ⊢
  obtain ⟨tc, fc, p, c, es, Ft, Ff, Fs, h1, h2, h3, h4, h5, h6, h7, h8, h9, h10⟩ := h
  exact ⟨tc, fc, p, c, es, Ft, Ff, Fs, h1, h2, h3, h4, h5.mono hg, h6.mono hg, h7.mono hg, O6.mono hg h8, h9, A2X hg h10⟩
theorem O6.mono {G G' : IM} (hg : B9 G G') : ∀ {ts : List Tm} {es : List (List Value)} {F : List Nat}, O6 G ts es F → O6 G' ts es F
 | [], es, F, h => by simpa only [O6] using h
 | t :: ts, es, F, h => by
  simp only [O6] at h ⊢
  obtain ⟨a, r, Fa, Fr, h1, h2, h3, h4⟩ := h
  exact ⟨a, r, Fa, Fr, h1, Q1.mono hg h2, O6.mono hg h3, h4⟩
end
mutual
theorem Q1.inG {G : IM} : ∀ {t : Tm} {cells : List Value} {F : List Nat}, Q1 G t cells F → ∀ b ∈ F, G b ≠ none
 | .mk k nm num ty fr lb ks, cells, F, h => by
  simp only [Q1] at h
  obtain ⟨tc, fc, p, c, es, Ft, Ff, Fs, h1, h2, h3, h4, h5, h6, h7, h8, rfl, h10⟩ := h
  intro b hb
  simp only [List.mem_append] at hb
  rcases hb with hb | hb | hb | hb
  ·exact h5.inG b hb
  ·exact h6.inG b hb
  ·exact h10 b hb
  ·exact O6.inG h8 b hb
theorem O6.inG {G : IM} : ∀ {ts : List Tm} {es : List (List Value)} {F : List Nat}, O6 G ts es F → ∀ b ∈ F, G b ≠ none
 | [], es, F, h => by simp only [O6] at h; rw [h.2]; simp
 | t :: ts, es, F, h => by
  simp only [O6] at h
  obtain ⟨a, r, Fa, Fr, h1, h2, h3, rfl⟩ := h
  intro b hb
  rcases List.mem_append.1 hb with hb | hb
  ·exact Q1.inG h2 b hb
  ·exact O6.inG h3 b hb
end
theorem O6.snoc {G : IM} : ∀ {ts : List Tm} {es : List (List Value)} {F : List Nat} {t : Tm} {a : List Value} {Fa : List Nat}, O6 G ts es F → Q1 G t a Fa → O6 G (ts ++ [t]) (es ++ [a]) (F ++ Fa)
 | [], es, F, t, a, Fa, h, h2 => by
  simp only [O6] at h
  obtain ⟨rfl, rfl⟩ := h
  simp only [List.nil_append, O6]
  exact ⟨a, [], Fa, [], rfl, h2, ⟨rfl, rfl⟩, by simp⟩
 | t' :: ts, es, F, t, a, Fa, h, h2 => by
  simp only [O6] at h
  obtain ⟨a', r, Fa', Fr, rfl, h3, h4, rfl⟩ := h
  simp only [List.cons_append, O6]
  exact ⟨a', r ++ [a], Fa', Fr ++ Fa, rfl, h3, O6.snoc h4 h2, by simp⟩
theorem A2s {G Gi : IM} {F F' : List Nat} {G1 : IM} (h : ∀ b ∈ F, C4 Gi G b ≠ none) (h' : ∀ b ∈ F', C4 G1 Gi b ≠ none) : ∀ x ∈ F, ∀ y ∈ F', x ≠ y := by
 rintro x hx y hy rfl
 have h1 := h x hx
 have h2 := C4.out (h' x hy)
 apply h1
 cases hd : C4 Gi G x with
 | none => rfl
 | some l => rw [C4.le _ _ x l hd] at h2; cases h2
theorem O6.step {G Gi G1 : IM} {ks : List Tm} {i : Nat} {es : List (List Value)} {F F' : List Nat} {a : List Value} (h : O6 (C4 Gi G) (ks.take i) es F) (hn : F.Nodup) (hle : B9 G Gi) (hle1 : B9 Gi G1) (hi : i < ks.length)
  (ha : Q1 (C4 G1 Gi) ks[i] a F') (hn' : F'.Nodup) : O6 (C4 G1 G) (ks.take (i + 1)) (es ++ [a]) (F ++ F') ∧ (F ++ F').Nodup := by
 constructor
 ·rw [List.take_succ_eq_append_getElem hi]
  exact O6.snoc (h.mono (C4.mono hle1)) (ha.mono (C4.anti hle))
 ·rw [List.nodup_append]
  exact ⟨hn, hn', A2s h.inG ha.inG⟩
theorem B1R (p : Option Addr) : (J0 p).Nodup := by cases p <;> simp [J0]
theorem A2r.fin {G Gi G2 : IM} {ks : List Tm} {es : List (List Value)} {F : List Nat} {p : Option Addr} {c : Nat} (h : O6 (C4 Gi G) ks es F) (hn : F.Nodup) (hle : B9 G Gi) (hle2 : B9 Gi G2)
  (hsl : Sl G2 p ks.length c 9 es.flatten) (hnn : ∀ b ∈ J0 p, Gi b = none ∧ G2 b ≠ none) :
  ∃ F', A2r (C4 G2 G) ks p c F' ∧ F'.Nodup := by
 have hR := h.R
 have hin : ∀ b ∈ J0 p, C4 G2 G b ≠ none := by
  intro b hb
  have h0 := (hnn b hb).1
  cases hg : G b with
  | none => simpa [C4, hg] using (hnn b hb).2
  | some l => rw [hle b l hg] at h0; cases h0
 refine ⟨J0 p ++ F, ⟨es, F, D1.of (hsl.dif (fun b hb => (hnn b hb).1) hle) hR.len hR.all ?_, h.mono (C4.mono hle2), rfl, hin⟩, ?_⟩
 ·intro e he
  obtain ⟨i, hi⟩ := List.getElem?_of_mem he
  have hlt : i < ks.length := by have := (List.getElem?_eq_some_iff.1 hi).1; rw [hR.len] at this; exact this
  obtain ⟨e', he', hr⟩ := hR.get (i := i) (t := ks[i]) (by simp [hlt])
  rw [hi] at he'; cases he'; exact hr.one
 ·rw [List.nodup_append]
  refine ⟨B1R p, hn, ?_⟩
  rintro x hx y hy rfl
  have h1 := h.inG x hy
  have h2 := (hnn x hx).1
  apply h1
  cases hd : C4 Gi G x with
  | none => rfl
  | some l => rw [C4.le _ _ x l hd] at h2; cases h2
theorem Q1.mk3 {G G1 G2 G3 : IM} {k : Int} {nm : ByteArray} {num : Int} {ty fr : Ty} {lb : Int} {ks : List Tm} {tc fc : List Value} {p : Option Addr} {c : Nat} {F1 F2 F3 : List Nat} (hk : F8 k) (hnum : F8 num) (hlb : F8 lb)
  (hl1 : B9 G G1) (hl2 : B9 G1 G2) (hl3 : B9 G2 G3) (h1 : Q8 (C4 G1 G) ty tc F1) (n1 : F1.Nodup) (h2 : Q8 (C4 G2 G1) fr fc F2) (n2 : F2.Nodup) (h3 : A2r (C4 G3 G2) ks p c F3) (n3 : F3.Nodup) :
  ∃ F, Q1 (C4 G3 G) (.mk k nm num ty fr lb ks) ([.int .i64 k, .string nm, .int .i64 num] ++ tc ++ fc ++ [.int .i64 lb, .slice p ks.length c]) F ∧ F.Nodup := by
 obtain ⟨es, Fs, e1, e2, rfl, e4⟩ := h3
 have i3 : ∀ b ∈ J0 p ++ Fs, C4 G3 G2 b ≠ none := by
  intro b hb
  rcases List.mem_append.1 hb with hb | hb
  ·exact e4 b hb
  ·exact e2.inG b hb
 have a2 : B9 (C4 G2 G1) (C4 G3 G) := fun b l h => C4.mono hl3 b l (C4.anti hl1 b l h)
 have a3 : B9 (C4 G3 G2) (C4 G3 G) := C4.anti (hl1.trans hl2)
 refine ⟨F1 ++ (F2 ++ (J0 p ++ Fs)), ?_, ?_⟩
 ·simp only [Q1]
  exact ⟨tc, fc, p, c, es, F1, F2, Fs, rfl, hk, hnum, hlb, h1.mono (C4.mono (hl2.trans hl3)), h2.mono a2, e1.mono a3, e2.mono a3, rfl, A2X a3 e4⟩
 ·rw [List.nodup_append, List.nodup_append]
  refine ⟨n1, ⟨n2, n3, A2s h2.inG i3⟩, ?_⟩
  rintro x hx y hy rfl
  rcases List.mem_append.1 hy with hy | hy
  ·exact A2s h1.inG h2.inG x hx x hy rfl
  ·have h1' : ∀ b ∈ F1, C4 G2 G b ≠ none := A2X (C4.mono hl2) h1.inG
   exact A2s h1' i3 x hx x hy rfl
section clawss
variable {P : Program} {Γ : L9} {env : M4} {hp : List A5} {G : IM} {ty : TypeId}
theorem A7K {x y : Operand} {t t' : TypeId} {m n : Nat} (hx : evo env x = some (.int .i64 (m : Int))) (hy : evo env y = some (.int .i64 (n : Int))) (hn : 0 < n) :
  I7 P Γ ⟨env, hp, G⟩ (.binOp .rem t x y t') ty (.int .i64 ((m % n : Nat) : Int)) := by
 have h := A3v (P := P) (Γ := Γ) (hp := hp) (G := G) (ty := ty) (t := t) (t' := t') hx hy (by omega)
 rwa [show ((m : Int).tmod n) = ((m % n : Nat) : Int) from rfl] at h
theorem A7L {x y : Operand} {t t' : TypeId} {m n : Nat} (hx : evo env x = some (.int .i64 (m : Int))) (hy : evo env y = some (.int .i64 (n : Int))) (hn : 0 < n) (hm : m ≤ 9223372036854775807) :
  I7 P Γ ⟨env, hp, G⟩ (.binOp .quo t x y t') ty (.int .i64 ((m / n : Nat) : Int)) := by
 have hd : m / n ≤ m := Nat.div_le_self _ _
 have e : ((m : Int).tdiv n) = ((m / n : Nat) : Int) := rfl
 have h := B1b (P := P) (Γ := Γ) (hp := hp) (G := G) (ty := ty) (t := t) (t' := t') hx hy (by omega) (by rw [e]; generalize m / n = q at *; omega) (by rw [e]; generalize m / n = q at *; omega)
 rwa [e] at h
end clawss
def dgi (k : Nat) : Int := 48 + ((k % 10 : Nat) : Int)
def A7M : Nat → Nat → ByteArray → ByteArray
 | 0, _, out => out
 | f + 1, k, out => if 0 < k then A7M f (k / 10) (strOfNums [dgi k] ++ out) else out
def B1S (k : Nat) : ByteArray := ⟨#[109]⟩ ++ A7M 20 k ⟨⟨[]⟩⟩
def N6 (l : List Int) : List Value := l.map (Value.int .i64 ·)
theorem A5L (l : List Int) : (N6 l).length = l.length := by simp [N6]
theorem A4w (l : List Int) (i : Int) : N6 (l ++ [i]) = N6 l ++ [.int .i64 i] := by simp [N6]
mutual
def D0 : Tm → Nat
 | .mk _ _ _ _ _ _ ks => E7 ks + 1
def E7 : List Tm → Nat
 | [] => 0
 | t :: ts => D0 t + E7 ts
end
mutual
def A4x : Tm → List Int → List (List Int)
 | .mk _ _ _ _ _ _ ks, path => path :: A7N ks 0 path
def A7N : List Tm → Nat → List Int → List (List Int)
 | [], _, _ => []
 | t :: ts, i, path => A4x t (path ++ [(i : Int)]) ++ A7N ts (i + 1) path
end
theorem A5M : ∀ {ks : List Tm} {t : Tm}, t ∈ ks → D0 t ≤ E7 ks
 | [], t, h => by simp at h
 | t' :: ts, t, h => by
  rw [E7]
  rcases List.mem_cons.1 h with rfl | h
  ·omega
  ·have := A5M h; omega
theorem A4y : ∀ (a b : List Tm), E7 (a ++ b) = E7 a + E7 b
 | [], b => by simp [E7]
 | t :: a, b => by rw [List.cons_append, E7, E7, A4y a b]; omega
theorem Z6 {ks : List Tm} {i : Nat} (hi : i < ks.length) : E7 (ks.take i) + D0 ks[i] ≤ E7 ks := by
 have h := A4y (ks.take (i + 1)) (ks.drop (i + 1))
 rw [List.take_append_drop, List.take_succ_eq_append_getElem hi, A4y] at h
 simp only [E7] at h
 omega
theorem A0p {ks : List Tm} {i : Nat} (hi : i < ks.length) : E7 (ks.take (i + 1)) = E7 (ks.take i) + D0 ks[i] := by
 rw [List.take_succ_eq_append_getElem hi, A4y]
 simp only [E7]; omega
theorem B1T (t : Tm) : 0 < D0 t := by cases t; rw [D0]; omega
theorem A4z : ∀ (ks : List Tm), ks.length ≤ E7 ks
 | [] => by simp
 | .mk _ _ _ _ _ _ _ :: ts => by have := A4z ts; simp only [List.length_cons, E7, D0]; omega

theorem Sl.nn {G : IM} {p : Option Addr} {n c sz : Nat} {cs : List Value} (h : Sl G p n c sz cs) : p = none → n = 0 := by
 rintro rfl
 rcases h.2.2.2 with h | ⟨b, o, full, h, _⟩
 ·exact h
 ·cases h
def SPs (G : IM) : List (List Int) → List Value → List Nat → Prop
 | [], es, F => es = [] ∧ F = []
 | l :: ls, es, F => ∃ p c r Fr, es = .slice p l.length c :: r ∧ F = J0 p ++ Fr ∧ Sl G p l.length c 1 (N6 l) ∧ (∀ b ∈ J0 p, G b ≠ none) ∧ (p = none → l.length = 0) ∧ SPs G ls r Fr
theorem A3C {G Gi G2 : IM} {b : Nat} (hle : B9 G Gi) (h : Gi b = none ∧ G2 b ≠ none) : C4 G2 G b ≠ none := by
 cases hg : G b with
 | none => simpa [C4, hg] using h.2
 | some l => rw [hle b l hg] at h; exact absurd h.1 (by simp)
def RPs (G : IM) (ls : List (List Int)) (p : Option Addr) (c : Nat) : Prop := ∃ es F, Sl G p ls.length c 1 es ∧ (∀ b ∈ J0 p, G b ≠ none) ∧ SPs G ls es F ∧ (J0 p ++ F).Nodup
mutual
theorem A5N (M D N : Int) : ∀ (t : Tm) (deep c : Int), (T5 M D N t deep c).1 = true → (T5 M D N t deep c).2 = c + D0 t
 | .mk k nm num ty fr lb ks, deep, c, h => by
  rw [T5] at h ⊢
  split at h
  ·cases h
  ·rename_i hc
   rw [if_neg hc, A7O M D N ks (deep + 1) (c + 1) h, D0]
   omega
theorem A7O (M D N : Int) : ∀ (ts : List Tm) (deep c : Int), (U6 M D N ts deep c).1 = true → (U6 M D N ts deep c).2 = c + E7 ts
 | [], deep, c, h => by rw [U6, E7]; simp
 | t :: ts, deep, c, h => by
  rw [U6] at h ⊢
  split at h
  ·rename_i h1
   rw [if_pos h1, A7O M D N ts deep _ h, A5N M D N t deep c h1, E7]
   omega
  ·cases h
end
theorem B1U {t : Tm} (h : P0 t = true) : D0 t ≤ 200 := by
 have h1 := A5N 200 40 13 t 1 0 h
 have h2 := (A5J 200 40 13 t 1 0 (by omega) (by omega)).2.2 h
 omega
def B1V (t : Tm) : List (List Int) := if P0 t = true then A4x t [] else []
section slaws
variable {P : Program} {Γ : L9} {env : M4} {hp : List A5} {G : IM} {ty : TypeId}
end slaws
theorem Sl.kid {G : IM} {p : Option Addr} {n c : Nat} {cs : List Value} (h : Sl G p n c 1 cs) {i : Nat} (hi : i < n) :
  ∃ b o v, p = some ⟨b, o, none⟩ ∧ cs[i]? = some v ∧ (∀ hp, At hp G b (o + i * 1) [v]) ∧ G b ≠ none := by
 obtain ⟨h1, h2, h3, h4⟩ := h
 obtain ⟨b, o, full, rfl, hg, hv⟩ := h4.resolve_left (by omega)
 have hlt : i < cs.length := by omega
 refine ⟨b, o, cs[i], rfl, List.getElem?_eq_getElem hlt, fun hp => A4g hg ?_, by rw [hg]; simp⟩
 intro j v hj
 cases j with
 | zero => simp at hj; subst hj; simpa using hv i _ (List.getElem?_eq_getElem hlt)
 | succ j => simp at hj
theorem A3D {l : List Int} {i : Nat} {v : Value} (h : (N6 l)[i]? = some v) : ∃ hi : i < l.length, v = .int .i64 l[i] := by
 have hi : i < l.length := by have := (List.getElem?_eq_some_iff.1 h).1; rwa [A5L] at this
 refine ⟨hi, ?_⟩
 simp [N6, hi] at h
 exact h.symm
theorem Sl.le {G : IM} {p : Option Addr} {n c sz : Nat} {cs : List Value} (h : Sl G p n c sz cs) : n ≤ 9223372036854775807 := by
 have h1 := h.2.1; have h2 := h.2.2.1; unfold maxLen at h2; omega


abbrev A03 := List (Nat × List Value)

mutual
def OTy : Ty → List Value → A03 → Prop
 | .mk k ks, cells, bs => ∃ p c, cells = [.int .i64 k, .slice p ks.length c] ∧ F8 k ∧ ks.length ≤ c ∧ c ≤ maxLen ∧ ((ks = [] ∧ bs = []) ∨ ∃ b A C es r, p = some ⟨b, A.length, none⟩ ∧ bs = (b, A ++ (es.flatten ++ C)) :: r ∧ A5O ks es r)
def A5O : List Ty → List (List Value) → A03 → Prop
 | [], es, bs => es = [] ∧ bs = []
 | t :: ts, es, bs => ∃ e e' r1 r2, es = e :: e' ∧ bs = r1 ++ r2 ∧ OTy t e r1 ∧ A5O ts e' r2
end
def A7P (ks : List Ty) (p : Option Addr) (c : Nat) (bs : A03) : Prop :=
 ks.length ≤ c ∧ c ≤ maxLen ∧ ((ks = [] ∧ bs = []) ∨ ∃ b A C es r, p = some ⟨b, A.length, none⟩ ∧ bs = (b, A ++ (es.flatten ++ C)) :: r ∧ A5O ks es r)
mutual
def OTm : Tm → List Value → A03 → Prop
 | .mk k nm num ty fr lb ks, cells, bs => ∃ tc fc p c bt bf bk, cells = [.int .i64 k, .string nm, .int .i64 num] ++ tc ++ fc ++ [.int .i64 lb, .slice p ks.length c] ∧ F8 k ∧ F8 num ∧ F8 lb ∧ OTy ty tc bt ∧ OTy fr fc bf ∧
   ks.length ≤ c ∧ c ≤ maxLen ∧ ((ks = [] ∧ bk = []) ∨ ∃ b A C es r, p = some ⟨b, A.length, none⟩ ∧ bk = (b, A ++ (es.flatten ++ C)) :: r ∧ A5P ks es r) ∧ bs = bt ++ (bf ++ bk)
def A5P : List Tm → List (List Value) → A03 → Prop
 | [], es, bs => es = [] ∧ bs = []
 | t :: ts, es, bs => ∃ e e' r1 r2, es = e :: e' ∧ bs = r1 ++ r2 ∧ OTm t e r1 ∧ A5P ts e' r2
end
def B1W (ks : List Tm) (p : Option Addr) (c : Nat) (bs : A03) : Prop :=
 ks.length ≤ c ∧ c ≤ maxLen ∧ ((ks = [] ∧ bs = []) ∨ ∃ b A C es r, p = some ⟨b, A.length, none⟩ ∧ bs = (b, A ++ (es.flatten ++ C)) :: r ∧ A5P ks es r)
mutual
def A7Q : Ty → Int
 | .mk _ ks => 1 + A0d ks
def A0d : List Ty → Int
 | [] => 0
 | t :: ts => A7Q t + A0d ts
end
mutual
def B1X : Ty → Int → Ty
 | .mk _ ks, k => .mk k (A1Z ks (k + 1))
def A1Z : List Ty → Int → List Ty
 | [], _ => []
 | t :: ts, k => B1X t k :: A1Z ts (k + A7Q t)
end
mutual
def A7R : Tm → Int
 | .mk _ _ _ ty fr _ ks => 6 + A0d ty.ks + A0d fr.ks + A7S ks
def A7S : List Tm → Int
 | [] => 0
 | t :: ts => A7R t + A7S ts
end
mutual
def B1Y : Tm → Int → Tm
 | .mk _ _ _ ty fr _ ks, k => .mk k (B1S (k + 1).toNat) (k + 1 + 1) (.mk (k + 1 + 1 + 1) (A1Z ty.ks (k + 1 + 1 + 1 + 1))) (.mk (k + 1 + 1 + 1 + 1 + A0d ty.ks) (A1Z fr.ks (k + 1 + 1 + 1 + 1 + A0d ty.ks + 1))) (k + 1 + 1 + 1 + 1 + A0d ty.ks + 1 + A0d fr.ks) (A4A ks (k + 1 + 1 + 1 + 1 + A0d ty.ks + 1 + A0d fr.ks + 1))
def A4A : List Tm → Int → List Tm
 | [], _ => []
 | t :: ts, k => B1Y t k :: A4A ts (k + A7R t)
end
section lend
variable {P : Program} {Γ : L9} {env : M4} {hp : List A5} {G : IM} {K : Po} {ops : Array Oper} {rest : List Oper} {ty : TypeId} {pos : String} {af : Array Edge} {gd : Option (Nat × Bool)}
def B6F (v0 : Value) (G : IM) (Φ : A03 → Prop) : IM → Value → List A5 → Prop := fun G' v outs => G' = G ∧ v = v0 ∧ ∃ bs', outs = A1F bs' ∧ Φ bs'
end lend
def MTm (t : Tm) (k : Int) (cells : List Value) (bs : A03) : Prop := ∃ pt ct pf cf p c bt bf bk,
 cells = [.int .i64 t.k, .string t.nm, .int .i64 t.num, .int .i64 t.ty.k, .slice pt t.ty.ks.length ct, .int .i64 t.fr.k, .slice pf t.fr.ks.length cf, .int .i64 t.lb, .slice p t.ks.length c] ∧
 A7P (A1Z t.ty.ks k) pt ct bt ∧ A7P (A1Z t.fr.ks (k + A0d t.ty.ks)) pf cf bf ∧ B1W (A4A t.ks (k + A0d t.ty.ks + A0d t.fr.ks)) p c bk ∧ bs = bt ++ (bf ++ bk)
def A7T : Nat → Int → List Int
 | 0, _ => []
 | n + 1, k => k :: A7T n (k + 1)
def OIs (l : List Int) (p : Option Addr) (c : Nat) (bs : A03) : Prop :=
 l.length ≤ c ∧ c ≤ maxLen ∧ ((l = [] ∧ bs = []) ∨ ∃ b A C, p = some ⟨b, A.length, none⟩ ∧ bs = [(b, A ++ (N6 l ++ C))])
def OPs : List (List Int) → List Value → A03 → Prop
 | [], es, bs => es = [] ∧ bs = []
 | l :: ls, es, bs => ∃ p c e' r1 r2, es = .slice p l.length c :: e' ∧ bs = r1 ++ r2 ∧ OIs l p c r1 ∧ OPs ls e' r2
def B1Z : List (List Int) → Int
 | [] => 0
 | l :: ls => l.length + B1Z ls
def B10 : List (List Int) → Int → List (List Int)
 | [], _ => []
 | l :: ls, k => A7T l.length k :: B10 ls (k + l.length)
section lend0
variable {P : Program} {Γ : L9} {env : M4} {G : IM} {K : Po} {ops : Array Oper} {rest : List Oper} {ty : TypeId} {pos : String} {af : Array Edge} {gd : Option (Nat × Bool)}
end lend0
def QPs (G : IM) : List (List Int) → List Value → Prop
 | [], es => es = []
 | l :: ls, es => ∃ p c r, es = .slice p l.length c :: r ∧ Sl G p l.length c 1 (N6 l) ∧ QPs G ls r
mutual
def J7 : Ty → Int
 | .mk _ ks => ks.length + O3 ks
def O3 : List Ty → Int
 | [] => 0
 | t :: ts => J7 t + O3 ts
end
mutual
def A0q : Tm → Int
 | .mk _ nm _ ty fr _ ks => nm.size + J7 ty + J7 fr + (ks.length + X5 ks)
def X5 : List Tm → Int
 | [] => 0
 | t :: ts => A0q t + X5 ts
end
mutual
theorem A04 : ∀ t : Ty, 0 ≤ J7 t
 | .mk _ ks => by have := A1G ks; rw [J7]; omega
theorem A1G : ∀ ts : List Ty, 0 ≤ O3 ts
 | [] => by rw [O3]; omega
 | t :: ts => by have := A04 t; have := A1G ts; rw [O3]; omega
end
mutual
theorem A7U : ∀ t : Tm, 0 ≤ A0q t
 | .mk _ _ _ ty fr _ ks => by have := A4B ks; have := A04 ty; have := A04 fr; rw [A0q]; omega
theorem A4B : ∀ ts : List Tm, 0 ≤ X5 ts
 | [] => by rw [X5]; omega
 | t :: ts => by have := A7U t; have := A4B ts; rw [X5]; omega
end
theorem A5Q : ∀ a b : List Ty, O3 (a ++ b) = O3 a + O3 b
 | [], b => by simp [O3]
 | t :: a, b => by rw [List.cons_append, O3, O3, A5Q a b]; omega
theorem B11 {ks : List Ty} {i : Nat} (hi : i < ks.length) : O3 (ks.take (i + 1)) = O3 (ks.take i) + J7 ks[i] := by
 rw [List.take_succ_eq_append_getElem hi, A5Q, O3, O3]; omega
theorem A7V (ks : List Ty) (i : Nat) : O3 (ks.take i) ≤ O3 ks := by
 have h := A5Q (ks.take i) (ks.drop i)
 rw [List.take_append_drop] at h
 have := A1G (ks.drop i); omega
mutual
def Tm.nok : Tm → Prop
 | .mk _ nm _ _ _ _ ks => nm.size ≤ 9223372036854775807 ∧ Tm.nokL ks
def Tm.nokL : List Tm → Prop
 | [] => True
 | t :: ts => t.nok ∧ Tm.nokL ts
end
def B6G (left s : Int) : Int := if s ≤ left then left - s else -1
end Gw
end Go.Proofs.YtfpgncjeejickaaGreat
namespace Go.Proofs.YtfpgncjeejickaaGreat
open Go Go.RowKit Go.ChangeShapes Go.WideShapes Go.ChangeAt
namespace Gw
def GW (w : World) : IM := fun b => match w.heap[b]? with
 | some (.cells c _ _) => some c.toList
 | _ => none
theorem A7W (w : World) : T8 [] (GW w) w := by
 refine ⟨?_, by simp, by simp [Fp], by simp [Fp]⟩
 intro b l h
 unfold GW at h
 split at h
 ·rename_i c e f hb; cases h; exact ⟨e, f, by simpa using hb⟩
 ·cases h
theorem A7X {w : World} {b o : Nat} {v : Value} (h : w.cell? ⟨b, o, none⟩ = some v) : ∃ full, GW w b = some full ∧ full[o]? = some v := by
 unfold World.cell? at h
 simp only at h
 split at h
 ·rename_i c e f hb
  exact ⟨c.toList, by simp [GW, hb], by simpa using h⟩
 ·cases h
theorem A7Y {sz : Nat} : ∀ {es : List (List Value)}, (∀ e ∈ es, e.length = sz) → ∀ {j : Nat} {v : Value}, es.flatten[j]? = some v → ∃ i e r, es[i]? = some e ∧ e[r]? = some v ∧ j = i * sz + r
 | [], _, j, v, h => by simp at h
 | a :: es, hall, j, v, h => by
  have ha := hall a List.mem_cons_self
  rw [List.flatten_cons, List.getElem?_append] at h
  split at h
  ·exact ⟨0, a, j, rfl, h, by simp⟩
  ·rename_i hj
   obtain ⟨i, e, r, h1, h2, h3⟩ := A7Y (fun x hx => hall x (List.mem_cons_of_mem _ hx)) h
   exact ⟨i + 1, e, r, by simpa using h1, h2, by rw [Nat.succ_mul]; omega⟩
theorem B12 {w : World} {a : Addr} {n c sz : Nat} {es : List (List Value)} (hl : es.length = n) (hsz : 0 < sz) (hc : n ≤ c) (hm : c ≤ maxLen) (h : ∀ i e, es[i]? = some e → w.cells? 0 (a.add (i * sz)) sz = some e) : Sl (GW w) (some a) n c sz es.flatten := by
 have hall : ∀ e ∈ es, e.length = sz := by
  intro e he
  obtain ⟨i, hi⟩ := List.getElem?_of_mem he
  exact (World.cells?_some (h i e hi)).2.1
 refine ⟨by rw [A02 hall, hl], hc, hm, ?_⟩
 rcases Nat.eq_zero_or_pos n with h0 | h0
 ·exact .inl h0
 ·right
  obtain ⟨b, o, s⟩ := a
  have hs : s = none := by
   have h1 := (World.cells?_some (h 0 es[0] (List.getElem?_eq_getElem (by omega)))).2
   have h2 := h1.2 0 hsz
   rw [List.getElem?_eq_getElem (by omega)] at h2
   simp only [Nat.zero_mul, Addr.add, if_true] at h2
   unfold World.cell? at h2
   split at h2
   ·split at h2
    ·cases h2
    ·rename_i hn; cases s with
     | none => rfl
     | some x => simp at hn
   ·cases h2
  subst hs
  have key : ∀ j v, es.flatten[j]? = some v → w.cell? ⟨b, o + j, none⟩ = some v := by
   intro j v hj
   obtain ⟨i, e, r, h1, h2, rfl⟩ := A7Y hall hj
   have h3 := (World.cells?_some (h i e h1)).2
   have hr : r < e.length := (List.getElem?_eq_some_iff.1 h2).1
   have h4 := h3.2 r (by omega)
   rw [h2, A2j, A2j] at h4
   rw [← Nat.add_assoc]; exact h4
  have hpos : 0 < es.flatten.length := by rw [A02 hall, hl]; exact Nat.mul_pos h0 hsz
  obtain ⟨full, hg, _⟩ := A7X (key 0 es.flatten[0] (List.getElem?_eq_getElem hpos))
  refine ⟨b, o, full, rfl, hg, fun j v hj => ?_⟩
  obtain ⟨full', hg', hv⟩ := A7X (key j v hj)
  rw [hg] at hg'; cases hg'; exact hv
theorem C8.snoc {G : IM} : ∀ {ts : List Ty} {es : List (List Value)} {t : Ty} {e : List Value}, C8 G ts es → C1 G t e → C8 G (ts ++ [t]) (es ++ [e])
 | [], es, t, e, h, h2 => by
  simp only [C8] at h; subst h
  simp only [List.nil_append, C8]
  exact ⟨e, [], rfl, h2, rfl⟩
 | t' :: ts, es, t, e, h, h2 => by
  simp only [C8] at h
  obtain ⟨a, r, rfl, h3, h4⟩ := h
  simp only [List.cons_append, C8]
  exact ⟨a, r ++ [e], rfl, h3, C8.snoc h4 h2⟩
theorem C6.snoc {G : IM} : ∀ {ts : List Tm} {es : List (List Value)} {t : Tm} {e : List Value}, C6 G ts es → A8 G t e → C6 G (ts ++ [t]) (es ++ [e])
 | [], es, t, e, h, h2 => by
  simp only [C6] at h; subst h
  simp only [List.nil_append, C6]
  exact ⟨e, [], rfl, h2, rfl⟩
 | t' :: ts, es, t, e, h, h2 => by
  simp only [C6] at h
  obtain ⟨a, r, rfl, h3, h4⟩ := h
  simp only [List.cons_append, C6]
  exact ⟨a, r ++ [e], rfl, h3, C6.snoc h4 h2⟩
theorem C8.each {G : IM} {ts : List Ty} {es : List (List Value)} (h : C8 G ts es) : ∀ e ∈ es, e.length = 2 ∧ e.all (·.oneCell') = true := by
 intro e he
 obtain ⟨i, hi⟩ := List.getElem?_of_mem he
 have := (h.inv hi B2).2
 exact ⟨this.len, this.one⟩
theorem C6.each {G : IM} {ts : List Tm} {es : List (List Value)} (h : C6 G ts es) : ∀ e ∈ es, e.length = 9 ∧ e.all (·.oneCell') = true := by
 intro e he
 obtain ⟨i, hi⟩ := List.getElem?_of_mem he
 have := (h.inv hi (.mk 0 ⟨#[]⟩ 0 B2 B2 0 [])).2
 exact ⟨this.len, this.one⟩
section read
variable {H : Type} {enc : TypeId × Value → H} {w : World} {sp : Nat → Bool} {held : Bool}
end read
theorem Ext.below {w w' : World} (h : Ext (Fp []) w w') : Below w.heap.size w w' := ⟨h.os, h.tape, h.output, h.size, fun k hk => h.block k hk (by simp [Fp])⟩
section post
variable {H : Type} {enc : TypeId × Value → H} {P : Program}
theorem A7Z {f : Func} {s : ChangeSpec} {apart fresh handsOn again : Bool} {W W' : World} {args : Array Value} {v : Value} {ds gs : List (DataW H)} {before : List MemPlace}
  (hW : DataW.Whole enc P f.params.toList s.vars apart W args.toList ds gs before) (hb : Below W.heap.size W W') (hgs : s.vars = [])
  (hres : ∀ (b : Nat) (sp : Nat → Bool) (hd : Bool), DataW.TrodAll enc P W' b sp hd f.resultTypes.toList (v.resultList f.resultTypes.size) (s.fn H (ds ++ gs)).results [])
  (hargs : ∀ sp : Nat → Bool, (∀ p ∈ before, sp p.block = true) → DataW.TrodAll enc P W' 0 sp true f.params.toList args.toList (s.fn H (ds ++ gs)).args before)
  (hv : (s.fn H (ds ++ gs)).vars = [])
  (hok : ∀ (j : Nat) (t : TypeId) (r : Value), f.resultTypes[j]? = some t → (v.resultList f.resultTypes.size)[j]? = some r → Value.okWide P W' .any 0 t r) :
  s.post enc P f apart fresh handsOn again W args v W' := by
 have hold : ∀ p ∈ before, (fun b => decide (b < W.heap.size)) p.block = true := fun p hp => by simpa using hW.lt p hp
 have hvars : ∀ sp : Nat → Bool, DataW.TrodVars enc P W' sp s.vars (s.fn H (ds ++ gs)).vars [] := fun sp => by rw [hgs, hv]; rfl
 have hkept : W.keptBut W' (fun _ => False) := by
  refine ⟨hb.os, hb.output, fun i hi => ?_⟩
  rw [hb.block i hi]
  split
  ·rename_i h1 h2; cases h1.symm.trans h2; exact ⟨rfl, rfl, rfl, fun _ _ => rfl⟩
  ·rename_i h1 h2; cases h1.symm.trans h2; exact .inr ⟨rfl, rfl⟩
  ·rfl
 refine ⟨ds, gs, before, [], before, [], hW, hres _ _ _, hargs _ hold, hvars _, World.keptBut_mono (fun p hp => hp.elim) hkept, fun _ => ?_⟩
 obtain ⟨_, _, _, _, _, hz, hn⟩ := hW
 refine ⟨hok, _, _, ([] ++ before) ++ [], ⟨[] ++ before, [], trodAll_append (hargs _ (fun _ _ => rfl)) (hres _ _ _), hvars _, rfl, ?_, ?_⟩, ?_⟩
 ·intro b off hp
  have hp' : MemPlace.cell b off ∈ before := by simpa using hp
  have hlt : b < W.heap.size := of_decide_eq_true (hold _ hp')
  have := hz b off hp'
  unfold World.frozen? at this ⊢
  simp only [hb.block b hlt]
  exact this
 ·intro ha; simpa using hn ha
 ·intro p hp _; simpa using hp
end post
end Gw
end Go.Proofs.YtfpgncjeejickaaGreat
namespace Go.Proofs.YtfpgncjeejickaaGreat
open Go Go.RowKit Go.ChangeShapes Go.WideShapes Go.ChangeAt
namespace Gw
section read2
variable {H : Type} {enc : TypeId × Value → H} {w : World} {sp : Nat → Bool} {held : Bool}
end read2
section rlaws
variable {P : Program} {Γ : L9} {env : M4} {hp : List A5} {G : IM} {ty : TypeId}
theorem B13 {m n : Nat} (hm : m < 4611686018427387904) (hn : n < 4611686018427387904) : m ^^^ n < 4611686018427387904 := by
 have := @Nat.xor_lt_two_pow m n 62 (by omega) (by omega)
 simpa using this
theorem B14 {x y : Operand} {t t' : TypeId} {m n : Nat} (hx : evo env x = some (.int .i64 (m : Int))) (hy : evo env y = some (.int .i64 (n : Int))) (hm : m < 4611686018427387904) (hn : n < 4611686018427387904) :
  I7 P Γ ⟨env, hp, G⟩ (.binOp .xor t x y t') ty (.int .i64 ((m ^^^ n : Nat) : Int)) := by
 refine ⟨fun a _ hs _ _ _ _ w => ?_⟩
 have hlt := B13 hm hn
 have e : (BitVec.ofInt 64 (m : Int) ^^^ BitVec.ofInt 64 (n : Int)).toNat = m ^^^ n := by
  rw [BitVec.toNat_xor, BitVec.toNat_ofInt, BitVec.toNat_ofInt]
  congr 1 <;> omega
 have hw : IntKind.i64.wrap (((BitVec.ofInt 64 (m : Int) ^^^ BitVec.ofInt 64 (n : Int)).toNat : Nat) : Int) = ((m ^^^ n : Nat) : Int) := by
  rw [e]; exact A1A _ rfl (by omega) (by omega)
 simp only [execOp, eqGuard, binOp, Op.intBits, (hs.evo hx : a.eval x = _), (hs.evo hy : a.eval y = _), ne_eq, not_true_eq_false, if_false, Sem.run_bind, Sem.run_pure, Result.andThen_ok]
 rw [show IntKind.bits .i64 = 64 from rfl] at *
 simp only [hw]
 simp
theorem A3E {x y : Operand} {t t' : TypeId} {m n : Nat} (hx : evo env x = some (.int .i64 (m : Int))) (hy : evo env y = some (.int .i64 (n : Int))) (h : m * n ≤ 9223372036854775807) :
  I7 P Γ ⟨env, hp, G⟩ (.binOp .mul t x y t') ty (.int .i64 ((m * n : Nat) : Int)) := by
 have e : ((m : Int) * (n : Int)) = ((m * n : Nat) : Int) := by simp
 have h2 := B1a (P := P) (Γ := Γ) (hp := hp) (G := G) (ty := ty) (t := t) (t' := t') hx hy (by rw [e]; omega) (by rw [e]; omega)
 rwa [e] at h2
theorem A1H {x y : Operand} {t t' : TypeId} {m n : Nat} (hx : evo env x = some (.int .i64 (m : Int))) (hy : evo env y = some (.int .i64 (n : Int))) (h : m + n ≤ 9223372036854775807) :
  I7 P Γ ⟨env, hp, G⟩ (.binOp .add t x y t') ty (.int .i64 ((m + n : Nat) : Int)) := by
 have e : ((m : Int) + (n : Int)) = ((m + n : Nat) : Int) := by simp
 have h2 := H2 (P := P) (Γ := Γ) (hp := hp) (G := G) (ty := ty) (t := t) (t' := t') hx hy (by rw [e]; omega) (by rw [e]; omega)
 rwa [e] at h2
theorem A4C {x y : Operand} {t t' : TypeId} {m : Nat} (hx : evo env x = some (.int .i64 ((m + 1 : Nat) : Int))) (hy : evo env y = some (.int .i64 1)) (h : m ≤ 9223372036854775807) :
  I7 P Γ ⟨env, hp, G⟩ (.binOp .sub t x y t') ty (.int .i64 (m : Int)) := by
 have e : (((m + 1 : Nat) : Int) - 1) = (m : Int) := by omega
 have h2 := P2 (P := P) (Γ := Γ) (hp := hp) (G := G) (ty := ty) (t := t) (t' := t') hx hy (by rw [e]; omega) (by rw [e]; omega)
 rwa [e] at h2
theorem A5R {s d : TypeId} {is id : L5} [hS : I9 P s is] [hD : I9 P d id] (hd : id.desc = .int .i64) {k : IntKind} (hs : is.desc = .int k) {x : Operand} {n : Int} (hx : evo env x = some (.int k n)) (h0 : -9223372036854775808 ≤ n) (h1 : n ≤ 9223372036854775807) :
  I7 P Γ ⟨env, hp, G⟩ (.convert s d x) ty (.int .i64 n) := by
 refine ⟨fun a _ hst _ _ _ _ w => ?_⟩
 have hu := hD.und
 rw [hd] at hu
 have hus := hS.und
 rw [hs] at hus
 have hw : IntKind.i64.wrap n = n := A1A n rfl h0 h1
 simp [execOp, convert, run_underlying hus, run_underlying hu, (hst.evo hx : a.eval x = _), Conv.intToInt, hw]
theorem A70 {x y : Operand} {t el : TypeId} {i : L5} {sz by' : Nat} {zs : List Value} [hI : I9 P t i] (hd' : i.desc = .slice el) [hE : X1 P el sz by' zs] {p : Option Addr} {n c l : Nat}
  (hx : evo env x = some (.slice p n c)) (hy : evo env y = some (.int .i64 (l : Int))) (hl : l ≤ c) :
  I7 P Γ ⟨env, hp, G⟩ (.slice t x none (some y) none) ty (.slice p l c) := by
 refine ⟨fun a _ hs _ _ _ _ w => ?_⟩
 have hu := hI.und
 rw [hd'] at hu
 obtain ⟨d, hE⟩ := hE.ok
 obtain ⟨inf, z, t1, t2, t3, _⟩ := A2U (P := P) (t := el)
 have e1 : a.eval x = _ := hs.evo hx
 have e2 : a.eval y = _ := hs.evo hy
 have hb : ∀ code, (Instr.sliceBound (.int .i64 (l : Int)) c code).run P w = .ok l w := fun code => by
  unfold Instr.sliceBound
  simp only [asIntOf, Sem.run_bind, Sem.run_pure, Result.andThen_ok]
  rw [if_pos ⟨by omega, by omega⟩]
  simp
 simp only [execOp, Option.map, e1, e2, Instr.sliceAt, Sem.run_bind, run_underlying hu, Result.andThen_ok, Instr.slice, Instr.sliceBounds, Sem.run_pure, hb, t3]
 by_cases h : c = 0
 ·subst h; simp
 ·rw [if_neg h]; simp; cases p <;> simp [Addr.add]
end rlaws
def N9 (bs : List UInt8) : List Value := bs.map fun b => .int .u8 (b.toNat : Int)
theorem A71 (bs : List UInt8) : (N9 bs).length = bs.length := by simp [N9]
theorem A5S {bs : List UInt8} {i : Nat} {v : Value} (h : (N9 bs)[i]? = some v) : ∃ b : Nat, b < 256 ∧ v = .int .u8 (b : Int) := by
 unfold N9 at h
 rw [List.getElem?_map] at h
 cases hb : bs[i]? with
 | none => rw [hb] at h; simp at h
 | some b => rw [hb] at h; simp at h; exact ⟨b.toNat, b.toNat_lt, h.symm⟩
def rd (br : Nat) (pb : Option Addr) (nb cb p : Nat) : A5 := .blk br [.slice pb nb cb, .int .i64 (p : Int)]
def A0e (br : Nat) (pb : Option Addr) (nb cb p B : Nat) (Φ : IM → Value → Prop) : IM → Value → List A5 → Prop := fun G' v outs => ∃ p', p ≤ p' ∧ p' ≤ p + B ∧ outs = [rd br pb nb cb p'] ∧ Φ G' v
theorem Y3 (G : IM) (br : Nat) (pb : Option Addr) (nb cb p : Nat) (bs : List UInt8) (n : Int) (hb : Sl G pb nb cb 1 (N9 bs)) (hnb : nb ≤ 2000) (hp : p < 1099511627776) :
  Fn Tryz.prog 109 [.pointer (some ⟨br, 0, none⟩), .int .i64 n] [rd br pb nb cb p] G (fun G' v outs => G' = G ∧ outs = [rd br pb nb cb (p + 1)] ∧ ∃ k, v = .int .i64 k ∧ 0 ≤ k ∧ (1 ≤ n → k < n)) := by
 unfold rd
 have hm1 : ∀ q, 0 < nb → q % nb < nb := fun q h => Nat.mod_lt _ h
 have hdv : p / nb ≤ p := Nat.div_le_self _ _
 refine C0 Tryz.func109 rfl Tryz.ntmps109 Tryz.results109 rfl ?_
 intro w0
 refine E4 ?_
 refine sQ (Z4 rfl) rfl ?_
 refine D7 ?_
 refine sP (A1H (n := 1) rfl rfl (by omega)) rfl rfl ?_
 refine sQ (Z4 rfl) rfl ?_
 refine D6 ?_
 refine sB (I0 rfl rfl) rfl rfl (fun h23 => ?_) (fun h23 => ?_)
 refine U4 ?_
 refine H7 (rT rfl) A0.refl ?_
 exact ⟨rfl, rfl, 0, rfl, Int.le_refl _, fun h => by omega⟩
 refine D7 ?_
 refine sQ (Z4 rfl) rfl ?_
 refine E3 ?_
 refine sB (qE rfl rfl) rfl rfl (fun h50 => ?_) (fun h50 => ?_)
 refine J2 ?_
 refine H7 (rT rfl) A0.refl ?_
 exact ⟨rfl, rfl, 0, rfl, Int.le_refl _, fun h => by omega⟩
 refine E4 ?_
 refine sQ (Z4 rfl) rfl ?_
 refine D7 ?_
 refine sP (A4C rfl rfl (by omega)) rfl rfl ?_
 refine D6 ?_
 refine sQ (Z4 rfl) rfl ?_
 refine E3 ?_
 refine sB (I0 rfl rfl) rfl rfl (fun h89 => ?_) (fun h89 => ?_)
 refine A7 ?_
 refine sQ (Z4 rfl) rfl ?_
 refine E3 ?_
 (obtain ⟨b, o, v, rfl, hv, hat, hgb⟩ := hb.kid (i := p) (by omega); obtain ⟨y, hy, rfl⟩ := A5S hv; refine sP (B3 rfl rfl rfl (by omega)) rfl rfl ?_)
 refine sL (R3 rfl rfl (hat _)) rfl rfl ?_
 refine sP (A5R rfl rfl rfl (by omega) (by omega)) rfl rfl ?_
 refine sQ (qM rfl) rfl ?_
 refine sP (A3v rfl rfl (by omega)) rfl rfl ?_
 refine B0 ?_
 refine H7 (rT rfl) A0.refl ?_
 exact ⟨rfl, rfl, _, rfl, Int.tmod_nonneg _ (by omega), fun h => Int.tmod_lt_of_pos _ (by omega)⟩
 refine A7 ?_
 (obtain ⟨b, o, v1, rfl, hv1, hat1, _⟩ := hb.kid (i := HMod.hMod p nb) (hm1 _ (by omega)); obtain ⟨y1, hy1, rfl⟩ := A5S hv1; obtain ⟨b', o', v2, hbb, hv2, hat2, _⟩ := hb.kid (i := HMod.hMod (p * 7 + 3) nb) (hm1 _ (by omega)); obtain ⟨y2, hy2, rfl⟩ := A5S hv2; cases hbb; have hl1 := hm1 p (by omega); have hl2 := hm1 (p * 7 + 3) (by omega); refine E0 E1 rfl ?_)
 refine I8 (i := 0) (l' := [tt,ff,ff,ff,ff,ff,ff,ff,ff,ff,ff,ff,ff,ff,ff,ff,ff,ff,ff,ff,ff,ff,ff,ff,ff,ff,ff,ff,ff,ff,ff,ff,ff,ff,ff,ff,ff,ff,ff,ff,ff,ff,ff,ff,ff,ff]) rfl D2 (qM rfl) rfl (by kernel_rfl) rfl rfl ?_
 refine aP 1 rfl (Z4 rfl) rfl ?_
 refine aP 2 rfl (B7 rfl) rfl ?_
 refine aL 3 rfl (C7 rfl rfl) rfl ?_
 refine aP 4 rfl (qM rfl) rfl ?_
 refine aP 5 rfl (qM rfl) rfl ?_
 refine aP 6 rfl (Z4 rfl) rfl ?_
 refine aP 7 rfl (B7 rfl) rfl ?_
 refine aL 8 rfl (C7 rfl rfl) rfl ?_
 refine aP 9 rfl (pLn rfl rfl) rfl ?_
 refine aP 10 rfl (A7K rfl rfl (by omega)) rfl ?_
 refine aP 11 rfl (B3 rfl rfl rfl (by first | exact hl1 | exact hl2)) rfl ?_
 refine aL 12 rfl (R3 rfl rfl (hat1 _)) rfl ?_
 refine aP 13 rfl (A5R rfl rfl rfl (by omega) (by omega)) rfl ?_
 refine aP 14 rfl (A3E (n := 131) rfl rfl (by omega)) rfl ?_
 refine aP 15 rfl (qM rfl) rfl ?_
 refine aP 16 rfl (Z4 rfl) rfl ?_
 refine aP 17 rfl (B7 rfl) rfl ?_
 refine aL 18 rfl (C7 rfl rfl) rfl ?_
 refine aP 19 rfl (qM rfl) rfl ?_
 refine aP 20 rfl (A3E (n := 7) rfl rfl (by omega)) rfl ?_
 refine aP 21 rfl (A1H (n := 3) rfl rfl (by omega)) rfl ?_
 refine aP 22 rfl (qM rfl) rfl ?_
 refine aP 23 rfl (Z4 rfl) rfl ?_
 refine aP 24 rfl (B7 rfl) rfl ?_
 refine aL 25 rfl (C7 rfl rfl) rfl ?_
 refine aP 26 rfl (pLn rfl rfl) rfl ?_
 refine aP 27 rfl (A7K rfl rfl (by omega)) rfl ?_
 refine aP 28 rfl (B3 rfl rfl rfl (by first | exact hl1 | exact hl2)) rfl ?_
 refine aL 29 rfl (R3 rfl rfl (hat2 _)) rfl ?_
 refine aP 30 rfl (A5R rfl rfl rfl (by omega) (by omega)) rfl ?_
 refine aP 31 rfl (A3E (n := 1117) rfl rfl (by omega)) rfl ?_
 refine aP 32 rfl (A1H rfl rfl (by omega)) rfl ?_
 refine aP 33 rfl (qM rfl) rfl ?_
 refine aP 34 rfl (A3E (n := 29) rfl rfl (by omega)) rfl ?_
 refine aP 35 rfl (A1H rfl rfl (by omega)) rfl ?_
 refine aP 36 rfl (qM rfl) rfl ?_
 refine aP 37 rfl (qM rfl) rfl ?_
 refine aP 38 rfl (Z4 rfl) rfl ?_
 refine aP 39 rfl (B7 rfl) rfl ?_
 refine aL 40 rfl (C7 rfl rfl) rfl ?_
 refine aP 41 rfl (pLn rfl rfl) rfl ?_
 refine aP 42 rfl (A7L rfl rfl (by omega) (by omega)) rfl ?_
 refine aP 43 rfl (A3E (n := 53) rfl rfl (by omega)) rfl ?_
 refine aP 44 rfl (A1H rfl rfl (by omega)) rfl ?_
 refine aP 45 rfl (qA rfl) rfl ?_
 refine A7 ?_
 refine sP (A7L (n := 64) rfl rfl (by omega) (by omega)) rfl rfl ?_
 refine sP (B14 rfl rfl (by omega) (by omega)) rfl rfl ?_
 refine B4 ?_
 refine sP (A3v rfl rfl (by omega)) rfl rfl ?_
 refine B6 ?_
 refine H7 (rT rfl) A0.refl ?_
 exact ⟨rfl, rfl, _, rfl, Int.tmod_nonneg _ (by omega), fun h => Int.tmod_lt_of_pos _ (by omega)⟩
end Gw
end Go.Proofs.YtfpgncjeejickaaGreat
namespace Go.Proofs.YtfpgncjeejickaaGreat
open Go Go.RowKit Go.ChangeShapes Go.WideShapes Go.ChangeAt
namespace Gw
theorem B15 : Tryz.prog.cellsOf 5 = 1 := by kernel_rfl
theorem A72 {q : Nat → Value → Prop} : ∀ {n : Nat}, (∀ i, i < n → ∃ k : UInt8, q i (.int .u8 (k.toNat : Int))) → ∃ l : List UInt8, l.length = n ∧ ∀ i v, (N9 l)[i]? = some v → q i v
 | 0, _ => ⟨[], rfl, by simp [N9]⟩
 | n + 1, h => by
  obtain ⟨l, h1, h2⟩ := A72 (n := n) fun i hi => h i (by omega)
  obtain ⟨k, hk⟩ := h n (by omega)
  refine ⟨l ++ [k], by simp [h1], fun i v hv => ?_⟩
  rw [show N9 (l ++ [k]) = N9 l ++ [.int .u8 (k.toNat : Int)] from by simp [N9], List.getElem?_append] at hv
  split at hv
  ·exact h2 i v hv
  ·rename_i hi
   rw [A71] at hi hv
   have : i - l.length = 0 := by
    have := (List.getElem?_eq_some_iff.1 hv).1; simp at this; omega
   rw [this] at hv; simp at hv; subst hv
   rw [show i = n by omega]; exact hk
section read2
variable {H : Type} {enc : TypeId × Value → H} {w : World} {sp : Nat → Bool} {held : Bool}
theorem A73 (n : Nat) (cs : List Value) (x : DataW H × List MemPlace) (h : DataW.trod enc Tryz.prog w 0 sp held n 22 cs = some x) : ∃ (l : List UInt8) (p : Option Addr) (c : Nat), cs = [.slice p l.length c] ∧ Sl (GW w) p l.length c 1 (N9 l) := by
 rcases DataW.trod_slice Tryz.underlying22 h with ⟨rfl, _⟩ | ⟨ad, len, cap, elems, rest, n', rfl, rfl, _, _, hlc, hcm, hel, hele, _, _⟩
 ·exact ⟨[], none, 0, rfl, Sl.nil _ _⟩
 ·rw [B15] at hele
  obtain ⟨l, h1, h2⟩ := A72 (q := fun i v => w.cells? 0 (ad.add (i * 1)) 1 = some [v]) (n := len) fun i hi => by
   have := hele i hi
   rw [List.getElem?_eq_getElem (by omega)] at this
   obtain ⟨cs', c1, c2⟩ := Option.bind_eq_some_iff.1 this
   obtain ⟨k, rfl, _, hw⟩ := DataW.trod_int Tryz.underlying5 c2
   have hk : 0 ≤ k ∧ k < 256 := by
    have hw2 : (decide ((0 : Int) ≤ k) && decide (k ≤ (255 : Int))) = true := hw
    simp only [Bool.and_eq_true, decide_eq_true_eq] at hw2
    omega
   refine ⟨UInt8.ofNat k.toNat, ?_⟩
   rw [show ((UInt8.ofNat k.toNat).toNat : Int) = k from by
    rw [UInt8.toNat_ofNat']; omega]
   exact c1
  subst h1
  refine ⟨l, some ad, cap, rfl, ?_⟩
  have := B12 (w := w) (a := ad) (n := l.length) (c := cap) (sz := 1) (es := (N9 l).map fun v => [v]) (by simp [A71]) (by omega) hlc hcm fun i e he => by
   rw [List.getElem?_map] at he
   cases hv : (N9 l)[i]? with
   | none => rw [hv] at he; simp at he
   | some v => rw [hv] at he; simp at he; subst he; exact h2 i v hv
  have hf : ((N9 l).map fun v => [v]).flatten = N9 l := by
   generalize N9 l = L
   induction L with
   | nil => rfl
   | cons a L ih => simp [ih]
  rwa [hf] at this
end read2
end Gw
end Go.Proofs.YtfpgncjeejickaaGreat
namespace Go.Proofs.YtfpgncjeejickaaGreat
namespace Gw
inductive GT where
 | any | int | bool
 | fn (a b : GT)
 | pr (a b : GT)
inductive GE where
 | var (x : ByteArray)
 | num (n : Int)
 | tru (b : Bool)
 | lam (x : ByteArray) (A : GT) (e : GE)
 | app (f a : GE)
 | ar (s : Bool) (a b : GE)
 | ite (c a b : GE)
 | pair (a b : GE)
 | part (s : Bool) (e : GE)
 | cast (A B : GT) (l : Int) (e : GE)
def GT.gr : GT → GT
 | .any => .any
 | .int => .int
 | .bool => .bool
 | .fn _ _ => .fn .any .any
 | .pr _ _ => .pr .any .any
def GT.Gd (t : GT) : Prop := t ≠ .any ∧ t.gr = t
inductive Co : GT → GT → Prop
 | l {b} : Co .any b
 | r {a} : Co a .any
 | int : Co .int .int
 | bool : Co .bool .bool
 | fn {a b a' b'} : Co a a' → Co b b' → Co (.fn a b) (.fn a' b')
 | pr {a b a' b'} : Co a a' → Co b b' → Co (.pr a b) (.pr a' b')
inductive Le : GT → GT → Prop
 | any {a} : Le a .any
 | int : Le .int .int
 | bool : Le .bool .bool
 | fn {a b a' b'} : Le a a' → Le b b' → Le (.fn a b) (.fn a' b')
 | pr {a b a' b'} : Le a a' → Le b b' → Le (.pr a b) (.pr a' b')
theorem Co.symm {a b : GT} (h : Co a b) : Co b a := by
 induction h with
 | l => exact .r
 | r => exact .l
 | int => exact .int
 | bool => exact .bool
 | fn _ _ i j => exact .fn i j
 | pr _ _ i j => exact .pr i j
theorem Co.refl : ∀ {a : GT}, Co a a
 | .any => .l
 | .int => .int
 | .bool => .bool
 | .fn _ _ => .fn Co.refl Co.refl
 | .pr _ _ => .pr Co.refl Co.refl
theorem Le.refl : ∀ {a : GT}, Le a a
 | .any => .any
 | .int => .int
 | .bool => .bool
 | .fn _ _ => .fn Le.refl Le.refl
 | .pr _ _ => .pr Le.refl Le.refl
theorem Le.trans {a b : GT} (h : Le a b) : ∀ {c : GT}, Le b c → Le a c := by
 induction h with
 | any => intro c h; cases h; exact .any
 | int => exact fun h => h
 | bool => exact fun h => h
 | fn _ _ i j =>
  intro c h
  cases h with
  | any => exact .any
  | fn h1 h2 => exact .fn (i h1) (j h2)
 | pr _ _ i j =>
  intro c h
  cases h with
  | any => exact .any
  | pr h1 h2 => exact .pr (i h1) (j h2)
theorem Co.up {a b : GT} (h : Co a b) : ∀ {a' b' : GT}, Le a a' → Le b b' → Co a' b' := by
 induction h with
 | l => intro a' b' h1 _; cases h1; exact .l
 | r => intro a' b' _ h2; cases h2; exact .r
 | int => intro a' b' h1 h2; cases h1 <;> cases h2 <;> first | exact .l | exact .r | exact .int
 | bool => intro a' b' h1 h2; cases h1 <;> cases h2 <;> first | exact .l | exact .r | exact .bool
 | fn _ _ i j =>
  intro a' b' h1 h2
  cases h1 with
  | any => exact .l
  | fn p q => cases h2 with
   | any => exact .r
   | fn r s => exact .fn (i p r) (j q s)
 | pr _ _ i j =>
  intro a' b' h1 h2
  cases h1 with
  | any => exact .l
  | pr p q => cases h2 with
   | any => exact .r
   | pr r s => exact .pr (i p r) (j q s)
theorem Le.co {a b : GT} (h : Le a b) : Co a b := Co.refl.up Le.refl h
def GE.sub : GE → ByteArray → GE → GE
 | .var y, x, v => if y = x then v else .var y
 | .num n, _, _ => .num n
 | .tru b, _, _ => .tru b
 | .lam y A e, x, v => if y = x then .lam y A e else .lam y A (e.sub x v)
 | .app f a, x, v => .app (f.sub x v) (a.sub x v)
 | .ar s a b, x, v => .ar s (a.sub x v) (b.sub x v)
 | .ite c a b, x, v => .ite (c.sub x v) (a.sub x v) (b.sub x v)
 | .pair a b, x, v => .pair (a.sub x v) (b.sub x v)
 | .part s e, x, v => .part s (e.sub x v)
 | .cast A B l e, x, v => .cast A B l (e.sub x v)
inductive GV : GE → Prop
 | num {n} : GV (.num n)
 | tru {b} : GV (.tru b)
 | lam {x A e} : GV (.lam x A e)
 | pair {a b} : GV a → GV b → GV (.pair a b)
 | pf {a b c d l e} : GV e → GV (.cast (.fn a b) (.fn c d) l e)
 | pp {a b c d l e} : GV e → GV (.cast (.pr a b) (.pr c d) l e)
 | inj {A l e} : GV e → A.Gd → GV (.cast A .any l e)
def B16 (s : Bool) (m n : Int) : GE := if s = true then .tru (decide (m < n)) else .num ((m + n) % 1000)
inductive GS : GE → GE → Prop
 | app1 {f f' a} : GS f f' → GS (.app f a) (.app f' a)
 | app2 {f a a'} : GV f → GS a a' → GS (.app f a) (.app f a')
 | ar1 {s a a' b} : GS a a' → GS (.ar s a b) (.ar s a' b)
 | ar2 {s a b b'} : GV a → GS b b' → GS (.ar s a b) (.ar s a b')
 | ite1 {c c' a b} : GS c c' → GS (.ite c a b) (.ite c' a b)
 | pair1 {a a' b} : GS a a' → GS (.pair a b) (.pair a' b)
 | pair2 {a b b'} : GV a → GS b b' → GS (.pair a b) (.pair a b')
 | part1 {s e e'} : GS e e' → GS (.part s e) (.part s e')
 | cast1 {A B l e e'} : GS e e' → GS (.cast A B l e) (.cast A B l e')
 | beta {x A b v} : GV v → GS (.app (.lam x A b) v) (b.sub x v)
 | appx {a b c d l f v} : GV f → GV v → GS (.app (.cast (.fn a b) (.fn c d) l f) v) (.cast b d l (.app f (.cast c a (-l) v)))
 | ar {s m n} : GS (.ar s (.num m) (.num n)) (B16 s m n)
 | ite {b x y} : GS (.ite (.tru b) x y) (if b = true then x else y)
 | part {s a b} : GV a → GV b → GS (.part s (.pair a b)) (if s = true then b else a)
 | partx {s a b c d l e} : GV e → GS (.part s (.cast (.pr a b) (.pr c d) l e)) (.cast (if s = true then b else a) (if s = true then d else c) l (.part s e))
 | cid {A l v} : GV v → (A = .any ∨ A = .int ∨ A = .bool) → GS (.cast A A l v) v
 | up {A l v} : GV v → A ≠ .any → A.gr ≠ A → GS (.cast A .any l v) (.cast A.gr .any l (.cast A A.gr l v))
 | down {B l v} : GV v → B ≠ .any → B.gr ≠ B → GS (.cast .any B l v) (.cast B.gr B l (.cast .any B.gr l v))
 | hit {G l m w} : GV w → G.Gd → GS (.cast .any G l (.cast G .any m w)) w
inductive Ss : GE → GE → Prop
 | refl {e} : Ss e e
 | step {a b c} : GS a b → Ss b c → Ss a c
abbrev GC := ByteArray → Option (GT × GT)
def emp : GC := fun _ => none
def gup (Γ : GC) (x : ByteArray) (A A' : GT) : GC := fun y => if x = y then some (A, A') else Γ y
inductive GP : GC → GE → GE → GT → GT → Prop
 | var {Γ x A A'} : Γ x = some (A, A') → Le A A' → GP Γ (.var x) (.var x) A A'
 | num {Γ n} : GP Γ (.num n) (.num n) .int .int
 | tru {Γ b} : GP Γ (.tru b) (.tru b) .bool .bool
 | lam {Γ x A A' B B' e e'} : Le A A' → GP (gup Γ x A A') e e' B B' → GP Γ (.lam x A e) (.lam x A' e') (.fn A B) (.fn A' B')
 | app {Γ f f' a a' A A' B B'} : GP Γ f f' (.fn A B) (.fn A' B') → GP Γ a a' A A' → GP Γ (.app f a) (.app f' a') B B'
 | ar {Γ s a a' b b'} : GP Γ a a' .int .int → GP Γ b b' .int .int → GP Γ (.ar s a b) (.ar s a' b') (if s = true then .bool else .int) (if s = true then .bool else .int)
 | ite {Γ c c' a a' b b' A A'} : GP Γ c c' .bool .bool → GP Γ a a' A A' → GP Γ b b' A A' → GP Γ (.ite c a b) (.ite c' a' b') A A'
 | pair {Γ a a' b b' A A' B B'} : GP Γ a a' A A' → GP Γ b b' B B' → GP Γ (.pair a b) (.pair a' b') (.pr A B) (.pr A' B')
 | part {Γ s e e' A A' B B'} : GP Γ e e' (.pr A B) (.pr A' B') → GP Γ (.part s e) (.part s e') (if s = true then B else A) (if s = true then B' else A')
 | castL {Γ e e' A B A' l} : GP Γ e e' A A' → Co A B → Le B A' → GP Γ (.cast A B l e) e' B A'
 | castR {Γ e e' A A' B' l} : GP Γ e e' A A' → Co A' B' → Le A B' → GP Γ e (.cast A' B' l e') A B'
 | castB {Γ e e' A B A' B' l l'} : GP Γ e e' A A' → Co A B → Co A' B' → Le B B' → GP Γ (.cast A B l e) (.cast A' B' l' e') B B'
theorem GP.le {Γ : GC} {e e' : GE} {A A' : GT} (h : GP Γ e e' A A') : Le A A' := by
 induction h with
 | var _ h => exact h
 | num => exact .int
 | tru => exact .bool
 | lam h _ i => exact .fn h i
 | app _ _ i _ => cases i with | fn _ h => exact h
 | ar => exact Le.refl
 | ite _ _ _ _ i _ => exact i
 | pair _ _ i j => exact .pr i j
 | @part Γ s _ _ _ _ _ _ _ i => cases i with | pr h1 h2 => cases s <;> assumption
 | castL _ _ h _ => exact h
 | castR _ _ h _ => exact h
 | castB _ _ _ h _ => exact h
inductive GX where
 | n (n : Int) | b (b : Bool) | p | f
def GE.tx : GE → GX
 | .num n => .n n
 | .tru b => .b b
 | .pair _ _ => .p
 | .cast _ (.fn _ _) _ _ => .f
 | .cast _ (.pr _ _) _ _ => .p
 | .cast _ _ _ e => e.tx
 | _ => .f
theorem B17 (G : IM) (p : Option Addr) (n c : Nat) (es : List (List Value)) (hsl : D1 G p n c 2 es) (fid : FuncId) [B5 Tryz.prog fid] (us cs : List Value) (ins : List A5) (q : Nat → Bool)
  (hq : ∀ i e, es[i]? = some e → Fn Tryz.prog fid (us ++ [.agg ⟨e⟩] ++ cs) ins G (U9 (.bool (q i)) ins G)) :
  Fn Tryz.prog 116 [.slice p n c, .func (.func fid) ⟨us⟩ ⟨cs⟩] ins G (U9 (.int .i64 (A0L q n)) ins G) := by
 have hn := hsl.le
 refine C0 Tryz.func116 rfl Tryz.ntmps116 Tryz.results116 rfl ?_
 intro w0
 refine K3 ?_
 refine B8 ?_
 refine I2 (fun i : Nat => ⟨[(8, .int .i64 i), (7, .int .i64 n), (1, .func (.func fid) ⟨us⟩ ⟨cs⟩), (0, .slice p n c)], ins, G⟩) (fun i => i ≤ n ∧ ∀ j, j < i → q j = false) (fun i => n - i) 0 ?_ ?_ ?_
 exact D3
 exact ⟨by omega, by omega⟩
 rintro i ⟨hi, hf⟩
 refine tS (tR ?_)
 refine sB (I0 rfl rfl) rfl rfl (fun h21 => ?_) (fun h21 => ?_)
 refine B4 ?_
 refine B8 ?_
 refine J2 ?_
 (obtain ⟨e, b, o, he, rfl, hl, _, hat, _⟩ := hsl.get (i := i) (by omega); refine sP (B3 rfl rfl rfl (by omega)) rfl rfl ?_)
 refine sL (A2 rfl rfl (hat _) hl) rfl rfl ?_
 refine A5G rfl rfl (hq i e he) A0l rfl rfl (fun h43 => ?_) (fun h43 => ?_)
 refine I6 ?_
 refine H7 (rT rfl) A0.refl ?_
 exact ⟨rfl, by rw [A7E (by omega) hf (by assumption)], rfl⟩
 refine B4 ?_
 refine sP (H2 rfl rfl (by omega) (by omega)) rfl rfl ?_
 refine D7 ?_
 refine H9 (i + 1) ?_ ?_ ?_
 exact D3
 exact ⟨by omega, fun j hj => by by_cases hji : j = i; (subst hji; assumption); exact hf j (by omega)⟩
 omega
 refine I6 ?_
 refine H7 (rT rfl) A0.refl ?_
 exact ⟨rfl, by rw [A5I (fun j hj => hf j (by omega))], rfl⟩
theorem B18 (G : IM) (p : Option Addr) (n c : Nat) (es : List (List Value)) (hsl : D1 G p n c 2 es) (fid : FuncId) [B5 Tryz.prog fid] (us cs : List Value) (ins : List A5) (q : Nat → Bool)
  (hq : ∀ i e, es[i]? = some e → Fn Tryz.prog fid (us ++ [.agg ⟨e⟩] ++ cs) ins G (U9 (.bool (q i)) ins G)) :
  Fn Tryz.prog 80 [.slice p n c, .func (.func fid) ⟨us⟩ ⟨cs⟩] ins G (U9 (.bool (decide (0 ≤ A0L q n))) ins G) := by
 refine C0 Tryz.func80 rfl Tryz.ntmps80 Tryz.results80 rfl ?_
 intro w0
 refine E4 ?_
 refine A2p rfl (B17 G p n c es hsl fid us cs ins q hq) A0l rfl rfl ?_
 refine sQ (A0J rfl rfl) rfl ?_
 refine B6 ?_
 refine H7 (rT rfl) A0.refl ?_
 exact ⟨rfl, rfl, rfl⟩
theorem A2Y (G : IM) (p : Option Addr) (n c : Nat) (es : List (List Value)) (hsl : D1 G p n c 2 es) (fid : FuncId) [B5 Tryz.prog fid] (us cs : List Value) (ins : List A5) (f : Ty → Bool) (ks : List Ty)
  (hn : ks.length = n) {A : Bool} (hA : ks.all f = A) (hq : ∀ i e, es[i]? = some e → Fn Tryz.prog fid (us ++ [.agg ⟨e⟩] ++ cs) ins G (U9 (.bool (!f (ks.getD i B2))) ins G)) :
  Fn Tryz.prog 80 [.slice p n c, .func (.func fid) ⟨us⟩ ⟨cs⟩] ins G (U9 (.bool (!A)) ins G) := by
 subst hn hA
 rw [← A7H f ks B2]
 exact B18 G p _ c es hsl fid us cs ins _ hq
theorem A74 (G : IM) (p p' : Option Addr) (n c n' c' : Nat) (es es' : List (List Value)) (hsl : D1 G p n c 2 es) (hsl' : D1 G p' n' c' 2 es') (fid : FuncId) [B5 Tryz.prog fid] (us cs : List Value) (ins : List A5) (q : Nat → Bool)
  (A : Bool) (hA : A = true ↔ n = n' ∧ ∀ i, i < n → q i = true)
  (hq : ∀ i e e', es[i]? = some e → es'[i]? = some e' → Fn Tryz.prog fid (us ++ [.agg ⟨e⟩, .agg ⟨e'⟩] ++ cs) ins G (U9 (.bool (q i)) ins G)) :
  Fn Tryz.prog 190 [.slice p n c, .slice p' n' c', .func (.func fid) ⟨us⟩ ⟨cs⟩] ins G (U9 (.bool A) ins G) := by
 have hn := hsl.le
 have hn' := hsl'.le
 refine C0 Tryz.func190 rfl Tryz.ntmps190 Tryz.results190 rfl ?_
 intro w0
 refine K8 ?_
 refine sB (O9 rfl rfl) rfl rfl (fun h13 => ?_) (fun h13 => ?_)
 refine J5 ?_
 refine H7 (outs := ins) (rT rfl) (by first | exact A0.refl | exact A0.drop (A0.drop A0.refl)) ?_
 exact ⟨rfl, by (cases A with | false => rfl | true => exact absurd (hA.1 rfl).1 (by omega)), rfl⟩
 refine K3 ?_
 refine B8 (I2 (fun i : Nat => ⟨[(17, .int .i64 i), (16, .int .i64 n), (15, .slice p n c), (2, .func (.func fid) ⟨us⟩ ⟨cs⟩), (1, .slice p' n' c'), (0, .slice p n c)], ins, G⟩) (fun i => i ≤ n ∧ ∀ j, j < i → q j = true) (fun i => n - i) 0 ?_ ?_ ?_)
 exact D3
 exact ⟨by omega, by omega⟩
 rintro i ⟨hi, hf⟩
 refine tS (tR ?_)
 refine sB (I0 rfl rfl) rfl rfl (fun h46 => ?_) (fun h46 => ?_)
 refine B4 ?_
 refine B8 ?_
 refine E3 ?_
 (obtain ⟨e, b, o, he, rfl, hl, _, hat, _⟩ := hsl.get (i := i) (by omega); refine sP (B3 rfl rfl rfl (by omega)) rfl rfl ?_)
 refine sL (A2 rfl rfl (hat _) hl) rfl rfl ?_
 refine sE (A6 rfl) rfl (fun b60 => ?_)
 refine sQ (qA rfl) rfl ?_
 refine U8 rfl rfl rfl (by assumption) (by assumption) rfl (by repeat first | exact Sw.here | apply Sw.there) (by exact D5 (by symm; assumption)) ?_
 refine A7 ?_
 (obtain ⟨e', b', o', he', rfl, hl', _, hat', _⟩ := hsl'.get (i := i) (by omega); refine sP (B3 rfl rfl rfl (by omega)) rfl rfl ?_)
 refine sL (A2 rfl rfl (hat' _) hl') rfl rfl ?_
 refine sE (A6 rfl) rfl (fun b71 => ?_)
 refine U8 rfl rfl rfl (by assumption) (by assumption) rfl (by repeat first | exact Sw.here | apply Sw.there) (by exact D5 (by symm; assumption)) ?_
 refine B0 ?_
 refine sL (A2 rfl rfl (A9 (by repeat first | exact mH | apply mT)) (by assumption)) rfl rfl ?_
 refine sL (A2 rfl rfl (A9 (by repeat first | exact mH | apply mT)) (by assumption)) rfl rfl ?_
 refine A5G rfl rfl (hq i e e' he he') B1D rfl rfl (fun h80 => ?_) (fun h80 => ?_)
 refine D6 ?_
 refine sP (H2 rfl rfl (by omega) (by omega)) rfl rfl ?_
 refine D7 ?_
 refine H9 (i + 1) ?_ ?_ ?_
 exact D3
 exact ⟨by omega, fun j hj => by by_cases hji : j = i; (subst hji; assumption); exact hf j (by omega)⟩
 omega
 refine I6 ?_
 refine H7 (outs := ins) (rT rfl) (by first | exact A0.refl | exact A0.drop (A0.drop A0.refl)) ?_
 exact ⟨rfl, by (cases A with | false => rfl | true => have h0 := (hA.1 rfl).2 i (by omega); simp_all), rfl⟩
 refine I6 ?_
 refine H7 (outs := ins) (rT rfl) (by first | exact A0.refl | exact A0.drop (A0.drop A0.refl)) ?_
 exact ⟨rfl, by rw [hA.2 ⟨by omega, fun j hj => hf j (by omega)⟩], rfl⟩
theorem A05 (n lo hi : Int) (G : IM) : Fn Tryz.prog 74 [.int .i64 n, .int .i64 lo, .int .i64 hi] [] G (I5 (.bool (R8 n lo hi)) G) := by
 refine C0 Tryz.func74 rfl Tryz.ntmps74 Tryz.results74 rfl ?_
 intro w0
 refine E4 ?_
 refine sB (Y0 rfl rfl) rfl rfl (fun h10 => ?_) (fun h10 => ?_)
 refine E3 ?_
 refine sB (Y0 rfl rfl) rfl rfl (fun h14 => ?_) (fun h14 => ?_)
 refine A7 ?_
 exact ⟨rfl, by simp [R8]; omega, rfl⟩
 refine A7 ?_
 exact ⟨rfl, by simp [R8]; omega, rfl⟩
 refine J5 ?_
 exact ⟨rfl, by simp [R8]; omega, rfl⟩
theorem A1k (k : Int) (G : IM) : Fn Tryz.prog 44 [.int .i64 k] [] G (I5 (.agg ⟨[.int .i64 k, .slice none 0 0]⟩) G) := by
 refine C0 Tryz.func44 rfl Tryz.ntmps44 Tryz.results44 rfl ?_
 intro w0
 refine tS (tR ?_)
 refine sE (A6 rfl) rfl (fun b3 => ?_)
 refine J5 ?_
 refine K7 (rC rfl (A4 rfl rfl)) ?_
 exact ⟨rfl, rfl, rfl⟩
theorem B19 (n : Int) (G : IM) : Fn Tryz.prog 189 [.int .i64 n] [] G (I5 (.bool (A01 n)) G) := by
 refine C0 Tryz.func189 rfl Tryz.ntmps189 Tryz.results189 rfl ?_
 intro w0
 refine D6 ?_
 refine H4 rfl (A05 _ _ _ _) rfl rfl (fun h9 => ?_) (fun h9 => ?_)
 refine E4 ?_
 exact ⟨rfl, by simp [A01, *], rfl⟩
 refine D7 ?_
 refine H4 rfl (A05 _ _ _ _) rfl rfl (fun h22 => ?_) (fun h22 => ?_)
 refine A7 ?_
 exact ⟨rfl, by simp [A01, *], rfl⟩
 refine A7 ?_
 exact ⟨rfl, by simp [A01, *], rfl⟩
theorem A75 (t : Ty) (G : IM) (cells : List Value) (hr : C1 G t cells) : Fn Tryz.prog 187 [.agg ⟨cells⟩] [] G (I5 (.bool (Y1 t)) G) := by
 obtain ⟨p, c, es, rfl, hk, hsl, hkl⟩ := hr.open
 refine C0 Tryz.func187 rfl Tryz.ntmps187 Tryz.results187 rfl ?_
 intro w0
 refine tS (tR ?_)
 refine sE (C5 rfl rfl) rfl (fun b3 => ?_)
 refine B4 ?_
 refine sB (qE rfl rfl) rfl rfl (fun h11 => ?_) (fun h11 => ?_)
 refine B6 ?_
 refine sB (qE rfl rfl) rfl rfl (fun h16 => ?_) (fun h16 => ?_)
 refine A7 ?_
 exact ⟨rfl, by simp only [Y1]; (first | rw [decide_eq_true (by omega)] | rw [decide_eq_false (by omega)]), rfl⟩
 refine A7 ?_
 exact ⟨rfl, by simp only [Y1]; (first | rw [decide_eq_true (by omega)] | rw [decide_eq_false (by omega)]), rfl⟩
 refine J2 ?_
 exact ⟨rfl, by simp only [Y1]; (first | rw [decide_eq_true (by omega)] | rw [decide_eq_false (by omega)]), rfl⟩
theorem B2a (s : ByteArray) (G : IM) : Fn Tryz.prog 186 [.string s] [] G (I5 (.bool (Y2 s)) G) := by
 refine C0 Tryz.func186 rfl Tryz.ntmps186 Tryz.results186 rfl ?_
 intro w0
 refine D6 ?_
 refine sQ (A2k rfl rfl) rfl (sB (qE rfl rfl) rfl rfl (fun h10 => ?_) (fun h10 => ?_))
 refine D7 ?_
 refine sP (A4h rfl rfl rfl (by omega) (A4t (by omega))) rfl rfl ?_
 refine sB (A0J rfl rfl) rfl rfl (fun h14 => ?_) (fun h14 => ?_)
 refine E3 ?_
 refine sP (A4h rfl rfl rfl (by omega) (A4t (by omega))) rfl rfl ?_
 refine sB (Y0 rfl rfl) rfl rfl (fun h19 => ?_) (fun h19 => ?_)
 refine A7 ?_
 exact ⟨rfl, by simp only [Y2]; (try simp only [Int.toNat_zero] at *); (first | rw [decide_eq_true (by omega)] | rw [decide_eq_false (by omega)]), rfl⟩
 refine A7 ?_
 exact ⟨rfl, by simp only [Y2]; (try simp only [Int.toNat_zero] at *); (first | rw [decide_eq_true (by omega)] | rw [decide_eq_false (by omega)]), rfl⟩
 refine J2 ?_
 exact ⟨rfl, by simp only [Y2]; (try simp only [Int.toNat_zero] at *); (first | rw [decide_eq_true (by omega)] | rw [decide_eq_false (by omega)]), rfl⟩
 refine I6 ?_
 exact ⟨rfl, by simp only [Y2]; (try simp only [Int.toNat_zero] at *); (first | rw [decide_eq_true (by omega)] | rw [decide_eq_false (by omega)]), rfl⟩
theorem A3F (G : IM) (e : List Value) (d : Int) (b : Bool) (bd : Nat) (hl : e.length = 2) (hd : 0 ≤ d ∧ d ≤ 5) (h : Fn Tryz.prog 137 [.agg ⟨e⟩, .int .i64 (d + 1)] [] G (I5 (.bool b) G)) :
  Fn Tryz.prog 191 [.agg ⟨e⟩, .pointer (some ⟨bd, 0, none⟩)] [.blk bd [.int .i64 d]] G (U9 (.bool (!b)) [.blk bd [.int .i64 d]] G) := by
 refine C0 Tryz.func191 rfl Tryz.ntmps191 Tryz.results191 rfl ?_
 intro w0
 refine tS (tR ?_)
 refine sE (C5 rfl rfl) rfl (fun b3 => ?_)
 refine B0 ?_
 refine sL (A2 rfl rfl (A9 (by repeat first | exact mH | apply mT)) (by assumption)) rfl rfl ?_
 refine P3 ?_
 refine sP (H2 rfl rfl (by omega) (by omega)) rfl rfl ?_
 refine H4 rfl (h) rfl rfl (fun h12 => ?_) (fun h12 => ?_)
 refine B0 ?_
 refine H7 (rT rfl) (A0.cons (Pk.there Pk.here) A0.nil) ?_
 exact ⟨rfl, by simp [*], rfl⟩
 refine B0 ?_
 refine H7 (rT rfl) (A0.cons (Pk.there Pk.here) A0.nil) ?_
 exact ⟨rfl, by simp [*], rfl⟩
theorem B2b : ∀ (t : Ty) (d : Int) (G : IM) (cells : List Value), 0 ≤ d ∧ d ≤ 5 → C1 G t cells →
  Fn Tryz.prog 137 [.agg ⟨cells⟩, .int .i64 d] [] G (I5 (.bool (K9 t d)) G) := by
 refine Ty.ind fun k ks ih d G cells hd hr => ?_
 obtain ⟨p, c, es, rfl, hk, hsl, hkl⟩ := hr.open
 simp only [Ty.k, Ty.ks] at hk hsl hkl ⊢
 have hn := hsl.le
 obtain ⟨A, hA⟩ : ∃ A, ks.all (K9 · (d + 1)) = A := ⟨_, rfl⟩
 refine C0 Tryz.func137 rfl Tryz.ntmps137 Tryz.results137 rfl ?_
 intro w0
 refine tS (tR ?_)
 refine sE (C5 rfl rfl) rfl (fun b3 => ?_)
 (refine I1 (A7j rfl rfl rfl) rfl ?_; rintro _ ⟨b4, rfl⟩)
 refine I6 ?_
 refine B8 (tS (tS (tR (sB (qE rfl rfl) rfl rfl (fun h24 => ?_) (fun h24 => ?_)))))
 refine I6 ?_
 refine sB (Y0 rfl rfl) rfl rfl (fun h40 => ?_) (fun h40 => ?_)
 refine B0 ?_
 refine sB (qE rfl rfl) rfl rfl (fun h46 => ?_) (fun h46 => ?_)
 refine B6 ?_
 refine sQ (A2Q rfl rfl) rfl (A2V rfl (A2Y _ _ _ _ _ hsl _ [] _ [.blk b4 [.int .i64 d]] (K9 · (d + 1)) ks rfl hA (fun i e he => A3F _ _ _ _ _ (hsl.all e (List.mem_of_getElem? he)) hd (ih _ (hkl.inv he B2).1 _ _ _ (by omega) (hkl.inv he B2).2))) A0l rfl rfl (fun h52 => ?_) (fun h52 => ?_))
 simp only [Bool.not_eq_true', Bool.not_eq_false'] at h52
 refine B4 ?_
 exact ⟨rfl, by (rw [K9, V4, hA]; have := N5 k; first | (rw [decide_eq_true (by omega), decide_eq_true (by omega)]; simp only [*]; done) | (rw [decide_eq_true (by omega), decide_eq_true (by omega)]; simp only [*]; rfl) | (rw [decide_eq_false (by omega)]; rfl) | (rw [decide_eq_true (by omega), decide_eq_false (by omega)]; rfl)), rfl⟩
 simp only [Bool.not_eq_true', Bool.not_eq_false'] at h52
 refine B4 ?_
 exact ⟨rfl, by (rw [K9, V4, hA]; have := N5 k; first | (rw [decide_eq_true (by omega), decide_eq_true (by omega)]; simp only [*]; done) | (rw [decide_eq_true (by omega), decide_eq_true (by omega)]; simp only [*]; rfl) | (rw [decide_eq_false (by omega)]; rfl) | (rw [decide_eq_true (by omega), decide_eq_false (by omega)]; rfl)), rfl⟩
 refine K3 ?_
 exact ⟨rfl, by (rw [K9, V4, hA]; have := N5 k; first | (rw [decide_eq_true (by omega), decide_eq_true (by omega)]; simp only [*]; done) | (rw [decide_eq_true (by omega), decide_eq_true (by omega)]; simp only [*]; rfl) | (rw [decide_eq_false (by omega)]; rfl) | (rw [decide_eq_true (by omega), decide_eq_false (by omega)]; rfl)), rfl⟩
 refine A0m ?_
 exact ⟨rfl, by (rw [K9, V4, hA]; have := N5 k; first | (rw [decide_eq_true (by omega), decide_eq_true (by omega)]; simp only [*]; done) | (rw [decide_eq_true (by omega), decide_eq_true (by omega)]; simp only [*]; rfl) | (rw [decide_eq_false (by omega)]; rfl) | (rw [decide_eq_true (by omega), decide_eq_false (by omega)]; rfl)), rfl⟩
 refine A7 ?_
 refine sB (qE rfl rfl) rfl rfl (fun h109 => ?_) (fun h109 => ?_)
 refine I6 ?_
 refine sB (Y0 rfl rfl) rfl rfl (fun h125 => ?_) (fun h125 => ?_)
 refine B0 ?_
 refine sB (qE rfl rfl) rfl rfl (fun h131 => ?_) (fun h131 => ?_)
 refine B6 ?_
 refine sQ (A2Q rfl rfl) rfl (A2V rfl (A2Y _ _ _ _ _ hsl _ [] _ [.blk b4 [.int .i64 d]] (K9 · (d + 1)) ks rfl hA (fun i e he => A3F _ _ _ _ _ (hsl.all e (List.mem_of_getElem? he)) hd (ih _ (hkl.inv he B2).1 _ _ _ (by omega) (hkl.inv he B2).2))) A0l rfl rfl (fun h137 => ?_) (fun h137 => ?_))
 simp only [Bool.not_eq_true', Bool.not_eq_false'] at h137
 refine B4 ?_
 exact ⟨rfl, by (rw [K9, V4, hA]; have := N5 k; first | (rw [decide_eq_true (by omega), decide_eq_true (by omega)]; simp only [*]; done) | (rw [decide_eq_true (by omega), decide_eq_true (by omega)]; simp only [*]; rfl) | (rw [decide_eq_false (by omega)]; rfl) | (rw [decide_eq_true (by omega), decide_eq_false (by omega)]; rfl)), rfl⟩
 simp only [Bool.not_eq_true', Bool.not_eq_false'] at h137
 refine B4 ?_
 exact ⟨rfl, by (rw [K9, V4, hA]; have := N5 k; first | (rw [decide_eq_true (by omega), decide_eq_true (by omega)]; simp only [*]; done) | (rw [decide_eq_true (by omega), decide_eq_true (by omega)]; simp only [*]; rfl) | (rw [decide_eq_false (by omega)]; rfl) | (rw [decide_eq_true (by omega), decide_eq_false (by omega)]; rfl)), rfl⟩
 refine K3 ?_
 exact ⟨rfl, by (rw [K9, V4, hA]; have := N5 k; first | (rw [decide_eq_true (by omega), decide_eq_true (by omega)]; simp only [*]; done) | (rw [decide_eq_true (by omega), decide_eq_true (by omega)]; simp only [*]; rfl) | (rw [decide_eq_false (by omega)]; rfl) | (rw [decide_eq_true (by omega), decide_eq_false (by omega)]; rfl)), rfl⟩
 refine A0m ?_
 exact ⟨rfl, by (rw [K9, V4, hA]; have := N5 k; first | (rw [decide_eq_true (by omega), decide_eq_true (by omega)]; simp only [*]; done) | (rw [decide_eq_true (by omega), decide_eq_true (by omega)]; simp only [*]; rfl) | (rw [decide_eq_false (by omega)]; rfl) | (rw [decide_eq_true (by omega), decide_eq_false (by omega)]; rfl)), rfl⟩
 refine B0 ?_
 refine sB (qE rfl rfl) rfl rfl (fun h193 => ?_) (fun h193 => ?_)
 refine K8 ?_
 refine sB (Y0 rfl rfl) rfl rfl (fun h206 => ?_) (fun h206 => ?_)
 refine B0 ?_
 refine sB (qE rfl rfl) rfl rfl (fun h212 => ?_) (fun h212 => ?_)
 refine B6 ?_
 refine sQ (A2Q rfl rfl) rfl (A2V rfl (A2Y _ _ _ _ _ hsl _ [] _ [.blk b4 [.int .i64 d]] (K9 · (d + 1)) ks rfl hA (fun i e he => A3F _ _ _ _ _ (hsl.all e (List.mem_of_getElem? he)) hd (ih _ (hkl.inv he B2).1 _ _ _ (by omega) (hkl.inv he B2).2))) A0l rfl rfl (fun h218 => ?_) (fun h218 => ?_))
 simp only [Bool.not_eq_true', Bool.not_eq_false'] at h218
 refine B4 ?_
 exact ⟨rfl, by (rw [K9, V4, hA]; have := N5 k; first | (rw [decide_eq_true (by omega), decide_eq_true (by omega)]; simp only [*]; done) | (rw [decide_eq_true (by omega), decide_eq_true (by omega)]; simp only [*]; rfl) | (rw [decide_eq_false (by omega)]; rfl) | (rw [decide_eq_true (by omega), decide_eq_false (by omega)]; rfl)), rfl⟩
 simp only [Bool.not_eq_true', Bool.not_eq_false'] at h218
 refine B4 ?_
 exact ⟨rfl, by (rw [K9, V4, hA]; have := N5 k; first | (rw [decide_eq_true (by omega), decide_eq_true (by omega)]; simp only [*]; done) | (rw [decide_eq_true (by omega), decide_eq_true (by omega)]; simp only [*]; rfl) | (rw [decide_eq_false (by omega)]; rfl) | (rw [decide_eq_true (by omega), decide_eq_false (by omega)]; rfl)), rfl⟩
 refine K3 ?_
 exact ⟨rfl, by (rw [K9, V4, hA]; have := N5 k; first | (rw [decide_eq_true (by omega), decide_eq_true (by omega)]; simp only [*]; done) | (rw [decide_eq_true (by omega), decide_eq_true (by omega)]; simp only [*]; rfl) | (rw [decide_eq_false (by omega)]; rfl) | (rw [decide_eq_true (by omega), decide_eq_false (by omega)]; rfl)), rfl⟩
 refine A0m ?_
 exact ⟨rfl, by (rw [K9, V4, hA]; have := N5 k; first | (rw [decide_eq_true (by omega), decide_eq_true (by omega)]; simp only [*]; done) | (rw [decide_eq_true (by omega), decide_eq_true (by omega)]; simp only [*]; rfl) | (rw [decide_eq_false (by omega)]; rfl) | (rw [decide_eq_true (by omega), decide_eq_false (by omega)]; rfl)), rfl⟩
 refine B4 ?_
 refine sB (qE rfl rfl) rfl rfl (fun h276 => ?_) (fun h276 => ?_)
 refine I6 ?_
 refine sB (Y0 rfl rfl) rfl rfl (fun h292 => ?_) (fun h292 => ?_)
 refine B0 ?_
 refine sB (qE rfl rfl) rfl rfl (fun h298 => ?_) (fun h298 => ?_)
 refine B6 ?_
 refine sQ (A2Q rfl rfl) rfl (A2V rfl (A2Y _ _ _ _ _ hsl _ [] _ [.blk b4 [.int .i64 d]] (K9 · (d + 1)) ks rfl hA (fun i e he => A3F _ _ _ _ _ (hsl.all e (List.mem_of_getElem? he)) hd (ih _ (hkl.inv he B2).1 _ _ _ (by omega) (hkl.inv he B2).2))) A0l rfl rfl (fun h304 => ?_) (fun h304 => ?_))
 simp only [Bool.not_eq_true', Bool.not_eq_false'] at h304
 refine B4 ?_
 exact ⟨rfl, by (rw [K9, V4, hA]; have := N5 k; first | (rw [decide_eq_true (by omega), decide_eq_true (by omega)]; simp only [*]; done) | (rw [decide_eq_true (by omega), decide_eq_true (by omega)]; simp only [*]; rfl) | (rw [decide_eq_false (by omega)]; rfl) | (rw [decide_eq_true (by omega), decide_eq_false (by omega)]; rfl)), rfl⟩
 simp only [Bool.not_eq_true', Bool.not_eq_false'] at h304
 refine B4 ?_
 exact ⟨rfl, by (rw [K9, V4, hA]; have := N5 k; first | (rw [decide_eq_true (by omega), decide_eq_true (by omega)]; simp only [*]; done) | (rw [decide_eq_true (by omega), decide_eq_true (by omega)]; simp only [*]; rfl) | (rw [decide_eq_false (by omega)]; rfl) | (rw [decide_eq_true (by omega), decide_eq_false (by omega)]; rfl)), rfl⟩
 refine K3 ?_
 exact ⟨rfl, by (rw [K9, V4, hA]; have := N5 k; first | (rw [decide_eq_true (by omega), decide_eq_true (by omega)]; simp only [*]; done) | (rw [decide_eq_true (by omega), decide_eq_true (by omega)]; simp only [*]; rfl) | (rw [decide_eq_false (by omega)]; rfl) | (rw [decide_eq_true (by omega), decide_eq_false (by omega)]; rfl)), rfl⟩
 refine A0m ?_
 exact ⟨rfl, by (rw [K9, V4, hA]; have := N5 k; first | (rw [decide_eq_true (by omega), decide_eq_true (by omega)]; simp only [*]; done) | (rw [decide_eq_true (by omega), decide_eq_true (by omega)]; simp only [*]; rfl) | (rw [decide_eq_false (by omega)]; rfl) | (rw [decide_eq_true (by omega), decide_eq_false (by omega)]; rfl)), rfl⟩
 refine B0 ?_
 refine sB (qE rfl rfl) rfl rfl (fun h360 => ?_) (fun h360 => ?_)
 refine K8 ?_
 refine sB (Y0 rfl rfl) rfl rfl (fun h373 => ?_) (fun h373 => ?_)
 refine B0 ?_
 refine sB (qE rfl rfl) rfl rfl (fun h379 => ?_) (fun h379 => ?_)
 refine B6 ?_
 refine sQ (A2Q rfl rfl) rfl (A2V rfl (A2Y _ _ _ _ _ hsl _ [] _ [.blk b4 [.int .i64 d]] (K9 · (d + 1)) ks rfl hA (fun i e he => A3F _ _ _ _ _ (hsl.all e (List.mem_of_getElem? he)) hd (ih _ (hkl.inv he B2).1 _ _ _ (by omega) (hkl.inv he B2).2))) A0l rfl rfl (fun h385 => ?_) (fun h385 => ?_))
 simp only [Bool.not_eq_true', Bool.not_eq_false'] at h385
 refine B4 ?_
 exact ⟨rfl, by (rw [K9, V4, hA]; have := N5 k; first | (rw [decide_eq_true (by omega), decide_eq_true (by omega)]; simp only [*]; done) | (rw [decide_eq_true (by omega), decide_eq_true (by omega)]; simp only [*]; rfl) | (rw [decide_eq_false (by omega)]; rfl) | (rw [decide_eq_true (by omega), decide_eq_false (by omega)]; rfl)), rfl⟩
 simp only [Bool.not_eq_true', Bool.not_eq_false'] at h385
 refine B4 ?_
 exact ⟨rfl, by (rw [K9, V4, hA]; have := N5 k; first | (rw [decide_eq_true (by omega), decide_eq_true (by omega)]; simp only [*]; done) | (rw [decide_eq_true (by omega), decide_eq_true (by omega)]; simp only [*]; rfl) | (rw [decide_eq_false (by omega)]; rfl) | (rw [decide_eq_true (by omega), decide_eq_false (by omega)]; rfl)), rfl⟩
 refine K3 ?_
 exact ⟨rfl, by (rw [K9, V4, hA]; have := N5 k; first | (rw [decide_eq_true (by omega), decide_eq_true (by omega)]; simp only [*]; done) | (rw [decide_eq_true (by omega), decide_eq_true (by omega)]; simp only [*]; rfl) | (rw [decide_eq_false (by omega)]; rfl) | (rw [decide_eq_true (by omega), decide_eq_false (by omega)]; rfl)), rfl⟩
 refine A0m ?_
 exact ⟨rfl, by (rw [K9, V4, hA]; have := N5 k; first | (rw [decide_eq_true (by omega), decide_eq_true (by omega)]; simp only [*]; done) | (rw [decide_eq_true (by omega), decide_eq_true (by omega)]; simp only [*]; rfl) | (rw [decide_eq_false (by omega)]; rfl) | (rw [decide_eq_true (by omega), decide_eq_false (by omega)]; rfl)), rfl⟩
 refine J5 ?_
 refine sB (Y0 rfl rfl) rfl rfl (fun h446 => ?_) (fun h446 => ?_)
 refine B0 ?_
 refine sP (J3 rfl rfl (by omega)) rfl rfl ?_
 refine K3 ?_
 exact ⟨rfl, by (rw [K9, V4, hA]; have := N5 k; first | (rw [decide_eq_true (by omega), decide_eq_true (by omega)]; simp only [*]; done) | (rw [decide_eq_true (by omega), decide_eq_true (by omega)]; simp only [*]; rfl) | (rw [decide_eq_false (by omega)]; rfl) | (rw [decide_eq_true (by omega), decide_eq_false (by omega)]; rfl)), rfl⟩
 refine A0m ?_
 exact ⟨rfl, by (rw [K9, V4, hA]; have := N5 k; first | (rw [decide_eq_true (by omega), decide_eq_true (by omega)]; simp only [*]; done) | (rw [decide_eq_true (by omega), decide_eq_true (by omega)]; simp only [*]; rfl) | (rw [decide_eq_false (by omega)]; rfl) | (rw [decide_eq_true (by omega), decide_eq_false (by omega)]; rfl)), rfl⟩
theorem A3G (t : Ty) (G : IM) (cells : List Value) (hr : C1 G t cells) : Fn Tryz.prog 92 [.agg ⟨cells⟩] [] G (I5 (.bool (F9 t)) G) := by
 have hl := hr.len
 have hv := B2b t 1 G cells (by omega) hr
 refine C0 Tryz.func92 rfl Tryz.ntmps92 Tryz.results92 rfl ?_
 intro w0
 refine tS (tR ?_)
 refine sE (C5 rfl rfl) rfl (fun b3 => ?_)
 refine B0 ?_
 refine sL (A2 rfl rfl (A9 (by repeat first | exact mH | apply mT)) (by assumption)) rfl rfl ?_
 refine H3 rfl (hv) rfl rfl ?_
 refine B0 ?_
 exact ⟨rfl, rfl, rfl⟩
theorem Z7 : ∀ (t t' : Ty) (G : IM) (cells cells' : List Value), C1 G t cells → C1 G t' cells' →
  Fn Tryz.prog 135 [.agg ⟨cells⟩, .agg ⟨cells'⟩] [] G (I5 (.bool (K0 t t')) G) := by
 refine Ty.ind fun k ks ih t' G cells cells' hr hr' => ?_
 obtain ⟨k', ks'⟩ := t'
 obtain ⟨p, c, es, rfl, hk, hsl, hkl⟩ := hr.open
 obtain ⟨p', c', es', rfl, hk', hsl', hkl'⟩ := hr'.open
 simp only [Ty.k, Ty.ks] at hk hsl hkl hk' hsl' hkl' ⊢
 have hn := hsl.le
 have hn' := hsl'.le
 obtain ⟨A, hA⟩ : ∃ A, M9 ks ks' = A := ⟨_, rfl⟩
 have hA' : A = true ↔ ks.length = ks'.length ∧ ∀ i, i < ks.length → K0 (ks.getD i B2) (ks'.getD i B2) = true := by
  rw [← hA, A1Y]
  constructor
  ·rintro ⟨h1, h2⟩
   refine ⟨h1, fun i hi => ?_⟩
   have := h2 i hi (by omega)
   simpa [List.getD_eq_getElem?_getD, List.getElem?_eq_getElem hi, List.getElem?_eq_getElem (show i < ks'.length by omega)] using this
  ·rintro ⟨h1, h2⟩
   refine ⟨h1, fun i hi hi' => ?_⟩
   have := h2 i hi
   simpa [List.getD_eq_getElem?_getD, List.getElem?_eq_getElem hi, List.getElem?_eq_getElem hi'] using this
 refine C0 Tryz.func135 rfl Tryz.ntmps135 Tryz.results135 rfl ?_
 intro w0
 refine tS (tR ?_)
 refine sE (C5 rfl rfl) rfl (fun b3 => ?_)
 refine sE (C5 rfl rfl) rfl (fun b4 => ?_)
 refine B4 ?_
 refine sB (qE rfl rfl) rfl rfl (fun h12 => ?_) (fun h12 => ?_)
 refine A2W ?_
 exact ⟨rfl, by (rw [S7, hA]; first | (rw [decide_eq_true (p := k = 1) (by omega)]; rfl) | (rw [decide_eq_false (p := k = 1) (by omega), decide_eq_true (p := k' = 1) (by omega)]; rfl) | (rw [decide_eq_false (p := k = 1) (by omega), decide_eq_false (p := k' = 1) (by omega), decide_eq_false (p := k = k') (by omega)]; rfl) | (rw [decide_eq_false (p := k = 1) (by omega), decide_eq_false (p := k' = 1) (by omega), decide_eq_true (p := k = k') (by omega)]; simp only [*]; rfl)), rfl⟩
 refine E3 ?_
 refine sB (qE rfl rfl) rfl rfl (fun h41 => ?_) (fun h41 => ?_)
 refine A0n ?_
 exact ⟨rfl, by (rw [S7, hA]; first | (rw [decide_eq_true (p := k = 1) (by omega)]; rfl) | (rw [decide_eq_false (p := k = 1) (by omega), decide_eq_true (p := k' = 1) (by omega)]; rfl) | (rw [decide_eq_false (p := k = 1) (by omega), decide_eq_false (p := k' = 1) (by omega), decide_eq_false (p := k = k') (by omega)]; rfl) | (rw [decide_eq_false (p := k = 1) (by omega), decide_eq_false (p := k' = 1) (by omega), decide_eq_true (p := k = k') (by omega)]; simp only [*]; rfl)), rfl⟩
 refine A7 ?_
 refine sB (qE rfl rfl) rfl rfl (fun h69 => ?_) (fun h69 => ?_)
 refine B0 ?_
 refine H4 rfl (A74 _ _ _ _ _ _ _ _ _ hsl hsl' _ [] [] [] (fun i => K0 (ks.getD i B2) (ks'.getD i B2)) A hA' (fun i e e' he he' => ih _ (hkl.inv he B2).1 _ _ _ _ (hkl.inv he B2).2 (hkl'.inv he' B2).2)) rfl rfl (fun h75 => ?_) (fun h75 => ?_)
 refine B4 ?_
 exact ⟨rfl, by (rw [S7, hA]; first | (rw [decide_eq_true (p := k = 1) (by omega)]; rfl) | (rw [decide_eq_false (p := k = 1) (by omega), decide_eq_true (p := k' = 1) (by omega)]; rfl) | (rw [decide_eq_false (p := k = 1) (by omega), decide_eq_false (p := k' = 1) (by omega), decide_eq_false (p := k = k') (by omega)]; rfl) | (rw [decide_eq_false (p := k = 1) (by omega), decide_eq_false (p := k' = 1) (by omega), decide_eq_true (p := k = k') (by omega)]; simp only [*]; rfl)), rfl⟩
 refine B4 ?_
 exact ⟨rfl, by (rw [S7, hA]; first | (rw [decide_eq_true (p := k = 1) (by omega)]; rfl) | (rw [decide_eq_false (p := k = 1) (by omega), decide_eq_true (p := k' = 1) (by omega)]; rfl) | (rw [decide_eq_false (p := k = 1) (by omega), decide_eq_false (p := k' = 1) (by omega), decide_eq_false (p := k = k') (by omega)]; rfl) | (rw [decide_eq_false (p := k = 1) (by omega), decide_eq_false (p := k' = 1) (by omega), decide_eq_true (p := k = k') (by omega)]; simp only [*]; rfl)), rfl⟩
 refine K3 ?_
 exact ⟨rfl, by (rw [S7, hA]; first | (rw [decide_eq_true (p := k = 1) (by omega)]; rfl) | (rw [decide_eq_false (p := k = 1) (by omega), decide_eq_true (p := k' = 1) (by omega)]; rfl) | (rw [decide_eq_false (p := k = 1) (by omega), decide_eq_false (p := k' = 1) (by omega), decide_eq_false (p := k = k') (by omega)]; rfl) | (rw [decide_eq_false (p := k = 1) (by omega), decide_eq_false (p := k' = 1) (by omega), decide_eq_true (p := k = k') (by omega)]; simp only [*]; rfl)), rfl⟩
theorem B2c (t t' : Ty) (G : IM) (cells cells' : List Value) (hr : C1 G t cells) (hr' : C1 G t' cells') :
  Fn Tryz.prog 188 [.agg ⟨cells⟩, .agg ⟨cells'⟩] [] G (I5 (.bool (A00 t t')) G) := by
 have hl := hr.len
 have hl' := hr'.len
 have hv := A3G t G cells hr
 have hv' := A3G t' G cells' hr'
 have hc := Z7 t t' G cells cells' hr hr'
 refine C0 Tryz.func188 rfl Tryz.ntmps188 Tryz.results188 rfl ?_
 intro w0
 refine tS (tR ?_)
 refine sE (C5 rfl rfl) rfl (fun b3 => ?_)
 refine sE (C5 rfl rfl) rfl (fun b4 => ?_)
 refine B0 ?_
 refine sL (A2 rfl rfl (A9 (by repeat first | exact mH | apply mT)) (by assumption)) rfl rfl ?_
 refine H4 rfl (hv) rfl rfl (fun h11 => ?_) (fun h11 => ?_)
 refine sQ (qM rfl) rfl ?_
 refine sL (A2 rfl rfl (A9 (by repeat first | exact mH | apply mT)) (by assumption)) rfl rfl ?_
 refine H4 rfl (hv') rfl rfl (fun h14 => ?_) (fun h14 => ?_)
 refine D7 ?_
 refine sL (A2 rfl rfl (A9 (by repeat first | exact mH | apply mT)) (by assumption)) rfl rfl ?_
 refine sL (A2 rfl rfl (A9 (by repeat first | exact mH | apply mT)) (by assumption)) rfl rfl ?_
 refine H4 rfl (hc) rfl rfl (fun h19 => ?_) (fun h19 => ?_)
 refine A7 ?_
 exact ⟨rfl, by simp only [A00]; simp only [*, Bool.true_and, Bool.false_and, Bool.and_true], rfl⟩
 refine A7 ?_
 exact ⟨rfl, by simp only [A00]; simp only [*, Bool.true_and, Bool.false_and, Bool.and_true], rfl⟩
 refine J2 ?_
 exact ⟨rfl, by simp only [A00]; simp only [*, Bool.true_and, Bool.false_and, Bool.and_true], rfl⟩
 refine K5 ?_
 exact ⟨rfl, by simp only [A00]; simp only [*, Bool.true_and, Bool.false_and, Bool.and_true], rfl⟩
theorem B2d (k : Int) (G : IM) (hk : F8 k) : Fn Tryz.prog 185 [.int .i64 k] [] G (I5 (.int .i64 (E2 k)) G) := by
 unfold F8 at hk
 refine C0 Tryz.func185 rfl Tryz.ntmps185 Tryz.results185 rfl ?_
 intro w0
 refine E4 ?_
 refine H4 rfl (A05 _ _ _ _) rfl rfl (fun h10 => ?_) (fun h10 => ?_)
 refine D6 ?_
 (refine I1 (C9 rfl rfl rfl (by omega) (by unfold maxLen; omega) rfl) rfl ?_; rintro _ ⟨b19, rfl⟩)
 refine sQ (qM rfl) rfl ?_
 (have hkk : 1 ≤ k ∧ k ≤ 14 := A4r (by assumption); refine sP (P2 rfl rfl (by omega) (by omega)) rfl rfl ?_)
 refine sP (A7e rfl rfl rfl (by omega) (by omega)) rfl rfl ?_
 refine sL (R3 rfl rfl (B1i (by repeat first | exact mH | apply mT) (B1M (by rw [Nat.zero_add, Nat.mul_one]; exact B1L hkk)))) rfl rfl ?_
 refine B0 ?_
 exact ⟨rfl, rfl, rfl⟩
 refine K8 ?_
 exact ⟨rfl, by rw [A4u (A7F (by assumption))], rfl⟩
theorem B2e (k : Int) (nm : ByteArray) (num : Int) (ty fr : Ty) (lb : Int) (ks : List Tm) (G : IM) (cells : List Value) (hr : A8 G (.mk k nm num ty fr lb ks) cells) :
  Fn Tryz.prog 131 [.agg ⟨cells⟩] [] G (I5 (.bool (V5 k nm num ty fr lb ks.length)) G) := by
 obtain ⟨tk, tks⟩ := ty
 obtain ⟨fk, fks⟩ := fr
 obtain ⟨pt, ct, pf, cf, p, c, es, rfl, hk, hnum, hlb, hty, hfr, hsl, hkl⟩ := hr.open9
 have hi := @U2 k nm num (.mk tk tks) (.mk fk fks) lb ks.length
 obtain ⟨R, hR⟩ : ∃ R, V5 k nm num (.mk tk tks) (.mk fk fks) lb ks.length = R := ⟨_, rfl⟩
 rw [hR] at hi ⊢
 clear hR hr
 have o1 := B2d k G hk
 have o2 := B2a nm G
 have o3 := A3G _ G _ hty
 have o4 := A75 _ G _ hty
 have o5 := B2c _ _ G _ _ hfr hty
 have o6 := B19 lb G
 have o7 := A75 _ G _ hfr
 refine C0 Tryz.func131 rfl Tryz.ntmps131 Tryz.results131 rfl ?_
 intro w0
 refine tS (tR ?_)
 refine sE (C5 rfl rfl) rfl (fun b3 => ?_)
 refine B0 ?_
 refine E0 E1 rfl ?_
 refine I8 (i := 0) (l' := [tt,ff,ff,ff,ff,ff,ff]) rfl D2 (B7 rfl) rfl (by kernel_rfl) rfl rfl ?_
 refine aL 1 rfl (C7 rfl rfl) rfl ?_
 refine aP 3 rfl (B7 rfl) rfl ?_
 refine aL 4 rfl (C7 rfl rfl) rfl ?_
 refine aP 5 rfl (pLn rfl rfl) rfl ?_
 refine A3 2 ?_
 refine O2 rfl rfl (o1) rfl rfl rfl ?_
 refine A0w (i := 6) (l' := [tt,tt,tt,tt,tt,tt,tt]) rfl D2 (O9 rfl rfl) rfl (by kernel_rfl) rfl rfl (fun h17 => ?_) (fun h17 => ?_)
 refine J2 ?_
 exact ⟨rfl, by (cases R with | false => rfl | true => (exfalso; obtain ⟨i1, i2, i3, i4, i5, i6, i7, i8, i9⟩ := hi.1 rfl; first | omega | (have j := i2 (by omega); simp_all; done) | (have j := i3 (by omega); simp_all; done) | (have j := i4 (by omega); simp_all; done) | (have j := i5 (by omega); simp_all; done) | (have j := i6 (by omega); simp_all; done) | (have j := i7 (by omega); simp_all; done) | (have j := i8 (by omega); simp_all; done) | (have j := i9 (by omega); simp_all; done))), rfl⟩
 refine E4 ?_
 refine sB (qE rfl rfl) rfl rfl (fun h39 => ?_) (fun h39 => ?_)
 refine K8 ?_
 refine sP (J3 rfl rfl (by omega)) rfl rfl ?_
 refine E3 ?_
 refine sP (J3 rfl rfl (by omega)) rfl rfl ?_
 refine B6 ?_
 refine sP (J3 rfl rfl (by omega)) rfl rfl ?_
 refine D6 ?_
 refine sP (J3 rfl rfl (by omega)) rfl rfl ?_
 refine K3 ?_
 refine sP (J3 rfl rfl (by omega)) rfl rfl ?_
 refine A7 ?_
 refine B8 ?_
 refine B4 ?_
 refine H4 rfl (o2) rfl rfl (fun h99 => ?_) (fun h99 => ?_)
 refine A1j ?_
 refine H4 rfl (A05 _ _ _ _) rfl rfl (fun h123 => ?_) (fun h123 => ?_)
 refine A3z ?_
 refine H4 rfl (o4) rfl rfl (fun h149 => ?_) (fun h149 => ?_)
 refine A0c ?_
 refine B6 ?_
 refine H4 rfl (o7) rfl rfl (fun h184 => ?_) (fun h184 => ?_)
 refine B6 ?_
 refine sB (O9 rfl rfl) rfl rfl (fun h189 => ?_) (fun h189 => ?_)
 refine I6 ?_
 exact ⟨rfl, by (cases R with | false => rfl | true => (exfalso; obtain ⟨i1, i2, i3, i4, i5, i6, i7, i8, i9⟩ := hi.1 rfl; first | omega | (have j := i2 (by omega); simp_all; done) | (have j := i3 (by omega); simp_all; done) | (have j := i4 (by omega); simp_all; done) | (have j := i5 (by omega); simp_all; done) | (have j := i6 (by omega); simp_all; done) | (have j := i7 (by omega); simp_all; done) | (have j := i8 (by omega); simp_all; done) | (have j := i9 (by omega); simp_all; done))), rfl⟩
 refine J9 ?_
 exact ⟨rfl, by rw [hi.2 ⟨by omega, fun _ => by (first | assumption | (exfalso; omega) | exact Classical.not_not.1 (by assumption)), fun _ => by (first | assumption | (exfalso; omega) | exact Classical.not_not.1 (by assumption)), fun _ => by (first | assumption | (exfalso; omega) | exact Classical.not_not.1 (by assumption)), fun _ => by (first | assumption | (exfalso; omega) | exact Classical.not_not.1 (by assumption)), fun _ => by (first | assumption | (exfalso; omega) | exact Classical.not_not.1 (by assumption)), fun _ => by (first | assumption | (exfalso; omega) | exact Classical.not_not.1 (by assumption)), fun _ => ⟨by (first | assumption | (exfalso; omega)), by (first | assumption | (exfalso; omega))⟩, fun _ => ⟨by (first | assumption | (exfalso; omega)), by (first | assumption | omega)⟩⟩], rfl⟩
 refine A0n ?_
 exact ⟨rfl, by (cases R with | false => rfl | true => (exfalso; obtain ⟨i1, i2, i3, i4, i5, i6, i7, i8, i9⟩ := hi.1 rfl; first | omega | (have j := i2 (by omega); simp_all; done) | (have j := i3 (by omega); simp_all; done) | (have j := i4 (by omega); simp_all; done) | (have j := i5 (by omega); simp_all; done) | (have j := i6 (by omega); simp_all; done) | (have j := i7 (by omega); simp_all; done) | (have j := i8 (by omega); simp_all; done) | (have j := i9 (by omega); simp_all; done))), rfl⟩
 refine I6 ?_
 exact ⟨rfl, by (cases R with | false => rfl | true => (exfalso; obtain ⟨i1, i2, i3, i4, i5, i6, i7, i8, i9⟩ := hi.1 rfl; first | omega | (have j := i2 (by omega); simp_all; done) | (have j := i3 (by omega); simp_all; done) | (have j := i4 (by omega); simp_all; done) | (have j := i5 (by omega); simp_all; done) | (have j := i6 (by omega); simp_all; done) | (have j := i7 (by omega); simp_all; done) | (have j := i8 (by omega); simp_all; done) | (have j := i9 (by omega); simp_all; done))), rfl⟩
 refine K5 ?_
 exact ⟨rfl, by (cases R with | false => rfl | true => (exfalso; obtain ⟨i1, i2, i3, i4, i5, i6, i7, i8, i9⟩ := hi.1 rfl; first | omega | (have j := i2 (by omega); simp_all; done) | (have j := i3 (by omega); simp_all; done) | (have j := i4 (by omega); simp_all; done) | (have j := i5 (by omega); simp_all; done) | (have j := i6 (by omega); simp_all; done) | (have j := i7 (by omega); simp_all; done) | (have j := i8 (by omega); simp_all; done) | (have j := i9 (by omega); simp_all; done))), rfl⟩
 refine U4 ?_
 exact ⟨rfl, by (cases R with | false => rfl | true => (exfalso; obtain ⟨i1, i2, i3, i4, i5, i6, i7, i8, i9⟩ := hi.1 rfl; first | omega | (have j := i2 (by omega); simp_all; done) | (have j := i3 (by omega); simp_all; done) | (have j := i4 (by omega); simp_all; done) | (have j := i5 (by omega); simp_all; done) | (have j := i6 (by omega); simp_all; done) | (have j := i7 (by omega); simp_all; done) | (have j := i8 (by omega); simp_all; done) | (have j := i9 (by omega); simp_all; done))), rfl⟩
 refine E3 ?_
 refine sB (qE rfl rfl) rfl rfl (fun h297 => ?_) (fun h297 => ?_)
 refine D6 ?_
 refine sP (Z5 rfl rfl (by omega)) rfl rfl ?_
 refine S6 ?_
 refine sP (J3 rfl rfl (by omega)) rfl rfl ?_
 refine K3 ?_
 refine sP (J3 rfl rfl (by omega)) rfl rfl ?_
 refine A7 ?_
 refine B8 ?_
 refine B4 ?_
 refine H4 rfl (o2) rfl rfl (fun h353 => ?_) (fun h353 => ?_)
 refine A1j ?_
 refine H4 rfl (A05 _ _ _ _) rfl rfl (fun h377 => ?_) (fun h377 => ?_)
 refine K8 ?_
 refine H4 rfl (o3) rfl rfl (fun h390 => ?_) (fun h390 => ?_)
 refine A0c ?_
 refine S6 ?_
 refine H4 rfl (o7) rfl rfl (fun h438 => ?_) (fun h438 => ?_)
 refine B6 ?_
 refine sB (O9 rfl rfl) rfl rfl (fun h443 => ?_) (fun h443 => ?_)
 refine I6 ?_
 exact ⟨rfl, by (cases R with | false => rfl | true => (exfalso; obtain ⟨i1, i2, i3, i4, i5, i6, i7, i8, i9⟩ := hi.1 rfl; first | omega | (have j := i2 (by omega); simp_all; done) | (have j := i3 (by omega); simp_all; done) | (have j := i4 (by omega); simp_all; done) | (have j := i5 (by omega); simp_all; done) | (have j := i6 (by omega); simp_all; done) | (have j := i7 (by omega); simp_all; done) | (have j := i8 (by omega); simp_all; done) | (have j := i9 (by omega); simp_all; done))), rfl⟩
 refine J9 ?_
 exact ⟨rfl, by rw [hi.2 ⟨by omega, fun _ => by (first | assumption | (exfalso; omega) | exact Classical.not_not.1 (by assumption)), fun _ => by (first | assumption | (exfalso; omega) | exact Classical.not_not.1 (by assumption)), fun _ => by (first | assumption | (exfalso; omega) | exact Classical.not_not.1 (by assumption)), fun _ => by (first | assumption | (exfalso; omega) | exact Classical.not_not.1 (by assumption)), fun _ => by (first | assumption | (exfalso; omega) | exact Classical.not_not.1 (by assumption)), fun _ => by (first | assumption | (exfalso; omega) | exact Classical.not_not.1 (by assumption)), fun _ => ⟨by (first | assumption | (exfalso; omega)), by (first | assumption | (exfalso; omega))⟩, fun _ => ⟨by (first | assumption | (exfalso; omega)), by (first | assumption | omega)⟩⟩], rfl⟩
 refine A0n ?_
 exact ⟨rfl, by (cases R with | false => rfl | true => (exfalso; obtain ⟨i1, i2, i3, i4, i5, i6, i7, i8, i9⟩ := hi.1 rfl; first | omega | (have j := i2 (by omega); simp_all; done) | (have j := i3 (by omega); simp_all; done) | (have j := i4 (by omega); simp_all; done) | (have j := i5 (by omega); simp_all; done) | (have j := i6 (by omega); simp_all; done) | (have j := i7 (by omega); simp_all; done) | (have j := i8 (by omega); simp_all; done) | (have j := i9 (by omega); simp_all; done))), rfl⟩
 refine U4 ?_
 exact ⟨rfl, by (cases R with | false => rfl | true => (exfalso; obtain ⟨i1, i2, i3, i4, i5, i6, i7, i8, i9⟩ := hi.1 rfl; first | omega | (have j := i2 (by omega); simp_all; done) | (have j := i3 (by omega); simp_all; done) | (have j := i4 (by omega); simp_all; done) | (have j := i5 (by omega); simp_all; done) | (have j := i6 (by omega); simp_all; done) | (have j := i7 (by omega); simp_all; done) | (have j := i8 (by omega); simp_all; done) | (have j := i9 (by omega); simp_all; done))), rfl⟩
 refine K5 ?_
 exact ⟨rfl, by (cases R with | false => rfl | true => (exfalso; obtain ⟨i1, i2, i3, i4, i5, i6, i7, i8, i9⟩ := hi.1 rfl; first | omega | (have j := i2 (by omega); simp_all; done) | (have j := i3 (by omega); simp_all; done) | (have j := i4 (by omega); simp_all; done) | (have j := i5 (by omega); simp_all; done) | (have j := i6 (by omega); simp_all; done) | (have j := i7 (by omega); simp_all; done) | (have j := i8 (by omega); simp_all; done) | (have j := i9 (by omega); simp_all; done))), rfl⟩
 refine U4 ?_
 exact ⟨rfl, by (cases R with | false => rfl | true => (exfalso; obtain ⟨i1, i2, i3, i4, i5, i6, i7, i8, i9⟩ := hi.1 rfl; first | omega | (have j := i2 (by omega); simp_all; done) | (have j := i3 (by omega); simp_all; done) | (have j := i4 (by omega); simp_all; done) | (have j := i5 (by omega); simp_all; done) | (have j := i6 (by omega); simp_all; done) | (have j := i7 (by omega); simp_all; done) | (have j := i8 (by omega); simp_all; done) | (have j := i9 (by omega); simp_all; done))), rfl⟩
 refine D6 ?_
 refine sP (J3 rfl rfl (by omega)) rfl rfl ?_
 refine E3 ?_
 refine sB (qE rfl rfl) rfl rfl (fun h563 => ?_) (fun h563 => ?_)
 refine K3 ?_
 refine sP (J3 rfl rfl (by omega)) rfl rfl ?_
 refine K3 ?_
 refine sP (J3 rfl rfl (by omega)) rfl rfl ?_
 refine A7 ?_
 refine B8 ?_
 refine A0K ?_
 refine sB (A2l rfl rfl) rfl rfl (fun h620 => ?_) (fun h620 => ?_)
 refine S6 ?_
 exact ⟨rfl, by (cases R with | false => rfl | true => (exfalso; obtain ⟨i1, i2, i3, i4, i5, i6, i7, i8, i9⟩ := hi.1 rfl; first | omega | (have j := i2 (by omega); simp_all; done) | (have j := i3 (by omega); simp_all; done) | (have j := i4 (by omega); simp_all; done) | (have j := i5 (by omega); simp_all; done) | (have j := i6 (by omega); simp_all; done) | (have j := i7 (by omega); simp_all; done) | (have j := i8 (by omega); simp_all; done) | (have j := i9 (by omega); simp_all; done))), rfl⟩
 refine E4 ?_
 refine H4 rfl (A05 _ _ _ _) rfl rfl (fun h648 => ?_) (fun h648 => ?_)
 refine K8 ?_
 refine H4 rfl (o3) rfl rfl (fun h661 => ?_) (fun h661 => ?_)
 refine A0c ?_
 refine S6 ?_
 refine H4 rfl (o7) rfl rfl (fun h709 => ?_) (fun h709 => ?_)
 refine B6 ?_
 refine sB (O9 rfl rfl) rfl rfl (fun h714 => ?_) (fun h714 => ?_)
 refine I6 ?_
 exact ⟨rfl, by (cases R with | false => rfl | true => (exfalso; obtain ⟨i1, i2, i3, i4, i5, i6, i7, i8, i9⟩ := hi.1 rfl; first | omega | (have j := i2 (by omega); simp_all; done) | (have j := i3 (by omega); simp_all; done) | (have j := i4 (by omega); simp_all; done) | (have j := i5 (by omega); simp_all; done) | (have j := i6 (by omega); simp_all; done) | (have j := i7 (by omega); simp_all; done) | (have j := i8 (by omega); simp_all; done) | (have j := i9 (by omega); simp_all; done))), rfl⟩
 refine J9 ?_
 exact ⟨rfl, by rw [hi.2 ⟨by omega, fun _ => by (first | assumption | (exfalso; omega) | exact Classical.not_not.1 (by assumption)), fun _ => by (first | assumption | (exfalso; omega) | exact Classical.not_not.1 (by assumption)), fun _ => by (first | assumption | (exfalso; omega) | exact Classical.not_not.1 (by assumption)), fun _ => by (first | assumption | (exfalso; omega) | exact Classical.not_not.1 (by assumption)), fun _ => by (first | assumption | (exfalso; omega) | exact Classical.not_not.1 (by assumption)), fun _ => by (first | assumption | (exfalso; omega) | exact Classical.not_not.1 (by assumption)), fun _ => ⟨by (first | assumption | (exfalso; omega)), by (first | assumption | (exfalso; omega))⟩, fun _ => ⟨by (first | assumption | (exfalso; omega)), by (first | assumption | omega)⟩⟩], rfl⟩
 refine A0n ?_
 exact ⟨rfl, by (cases R with | false => rfl | true => (exfalso; obtain ⟨i1, i2, i3, i4, i5, i6, i7, i8, i9⟩ := hi.1 rfl; first | omega | (have j := i2 (by omega); simp_all; done) | (have j := i3 (by omega); simp_all; done) | (have j := i4 (by omega); simp_all; done) | (have j := i5 (by omega); simp_all; done) | (have j := i6 (by omega); simp_all; done) | (have j := i7 (by omega); simp_all; done) | (have j := i8 (by omega); simp_all; done) | (have j := i9 (by omega); simp_all; done))), rfl⟩
 refine U4 ?_
 exact ⟨rfl, by (cases R with | false => rfl | true => (exfalso; obtain ⟨i1, i2, i3, i4, i5, i6, i7, i8, i9⟩ := hi.1 rfl; first | omega | (have j := i2 (by omega); simp_all; done) | (have j := i3 (by omega); simp_all; done) | (have j := i4 (by omega); simp_all; done) | (have j := i5 (by omega); simp_all; done) | (have j := i6 (by omega); simp_all; done) | (have j := i7 (by omega); simp_all; done) | (have j := i8 (by omega); simp_all; done) | (have j := i9 (by omega); simp_all; done))), rfl⟩
 refine K5 ?_
 exact ⟨rfl, by (cases R with | false => rfl | true => (exfalso; obtain ⟨i1, i2, i3, i4, i5, i6, i7, i8, i9⟩ := hi.1 rfl; first | omega | (have j := i2 (by omega); simp_all; done) | (have j := i3 (by omega); simp_all; done) | (have j := i4 (by omega); simp_all; done) | (have j := i5 (by omega); simp_all; done) | (have j := i6 (by omega); simp_all; done) | (have j := i7 (by omega); simp_all; done) | (have j := i8 (by omega); simp_all; done) | (have j := i9 (by omega); simp_all; done))), rfl⟩
 refine B6 ?_
 refine sB (qE rfl rfl) rfl rfl (fun h807 => ?_) (fun h807 => ?_)
 refine D6 ?_
 refine sP (Z5 rfl rfl (by omega)) rfl rfl ?_
 refine K3 ?_
 refine sP (J3 rfl rfl (by omega)) rfl rfl ?_
 refine A7 ?_
 refine B8 ?_
 refine A0K ?_
 refine sB (A2l rfl rfl) rfl rfl (fun h859 => ?_) (fun h859 => ?_)
 refine S6 ?_
 exact ⟨rfl, by (cases R with | false => rfl | true => (exfalso; obtain ⟨i1, i2, i3, i4, i5, i6, i7, i8, i9⟩ := hi.1 rfl; first | omega | (have j := i2 (by omega); simp_all; done) | (have j := i3 (by omega); simp_all; done) | (have j := i4 (by omega); simp_all; done) | (have j := i5 (by omega); simp_all; done) | (have j := i6 (by omega); simp_all; done) | (have j := i7 (by omega); simp_all; done) | (have j := i8 (by omega); simp_all; done) | (have j := i9 (by omega); simp_all; done))), rfl⟩
 refine E4 ?_
 refine H4 rfl (A05 _ _ _ _) rfl rfl (fun h887 => ?_) (fun h887 => ?_)
 refine K8 ?_
 refine H4 rfl (o3) rfl rfl (fun h900 => ?_) (fun h900 => ?_)
 refine A7A ?_
 refine H4 rfl (o5) rfl rfl (fun h929 => ?_) (fun h929 => ?_)
 refine B6 ?_
 refine H4 rfl (o6) rfl rfl (fun h934 => ?_) (fun h934 => ?_)
 refine A0c ?_
 refine B0 ?_
 exact ⟨rfl, by rw [hi.2 ⟨by omega, fun _ => by (first | assumption | (exfalso; omega) | exact Classical.not_not.1 (by assumption)), fun _ => by (first | assumption | (exfalso; omega) | exact Classical.not_not.1 (by assumption)), fun _ => by (first | assumption | (exfalso; omega) | exact Classical.not_not.1 (by assumption)), fun _ => by (first | assumption | (exfalso; omega) | exact Classical.not_not.1 (by assumption)), fun _ => by (first | assumption | (exfalso; omega) | exact Classical.not_not.1 (by assumption)), fun _ => by (first | assumption | (exfalso; omega) | exact Classical.not_not.1 (by assumption)), fun _ => ⟨by (first | assumption | (exfalso; omega)), by (first | assumption | (exfalso; omega))⟩, fun _ => ⟨by (first | assumption | (exfalso; omega)), by (first | assumption | omega)⟩⟩], rfl⟩
 refine A0m ?_
 exact ⟨rfl, by (cases R with | false => rfl | true => (exfalso; obtain ⟨i1, i2, i3, i4, i5, i6, i7, i8, i9⟩ := hi.1 rfl; first | omega | (have j := i2 (by omega); simp_all; done) | (have j := i3 (by omega); simp_all; done) | (have j := i4 (by omega); simp_all; done) | (have j := i5 (by omega); simp_all; done) | (have j := i6 (by omega); simp_all; done) | (have j := i7 (by omega); simp_all; done) | (have j := i8 (by omega); simp_all; done) | (have j := i9 (by omega); simp_all; done))), rfl⟩
 refine A2W ?_
 exact ⟨rfl, by (cases R with | false => rfl | true => (exfalso; obtain ⟨i1, i2, i3, i4, i5, i6, i7, i8, i9⟩ := hi.1 rfl; first | omega | (have j := i2 (by omega); simp_all; done) | (have j := i3 (by omega); simp_all; done) | (have j := i4 (by omega); simp_all; done) | (have j := i5 (by omega); simp_all; done) | (have j := i6 (by omega); simp_all; done) | (have j := i7 (by omega); simp_all; done) | (have j := i8 (by omega); simp_all; done) | (have j := i9 (by omega); simp_all; done))), rfl⟩
 refine U4 ?_
 exact ⟨rfl, by (cases R with | false => rfl | true => (exfalso; obtain ⟨i1, i2, i3, i4, i5, i6, i7, i8, i9⟩ := hi.1 rfl; first | omega | (have j := i2 (by omega); simp_all; done) | (have j := i3 (by omega); simp_all; done) | (have j := i4 (by omega); simp_all; done) | (have j := i5 (by omega); simp_all; done) | (have j := i6 (by omega); simp_all; done) | (have j := i7 (by omega); simp_all; done) | (have j := i8 (by omega); simp_all; done) | (have j := i9 (by omega); simp_all; done))), rfl⟩
 refine K5 ?_
 exact ⟨rfl, by (cases R with | false => rfl | true => (exfalso; obtain ⟨i1, i2, i3, i4, i5, i6, i7, i8, i9⟩ := hi.1 rfl; first | omega | (have j := i2 (by omega); simp_all; done) | (have j := i3 (by omega); simp_all; done) | (have j := i4 (by omega); simp_all; done) | (have j := i5 (by omega); simp_all; done) | (have j := i6 (by omega); simp_all; done) | (have j := i7 (by omega); simp_all; done) | (have j := i8 (by omega); simp_all; done) | (have j := i9 (by omega); simp_all; done))), rfl⟩
 refine D6 ?_
 refine sP (J3 rfl rfl (by omega)) rfl rfl ?_
 refine K3 ?_
 refine sB (qE rfl rfl) rfl rfl (fun h1072 => ?_) (fun h1072 => ?_)
 refine D6 ?_
 refine B8 ?_
 refine A0K ?_
 refine sB (A2l rfl rfl) rfl rfl (fun h1103 => ?_) (fun h1103 => ?_)
 refine S6 ?_
 exact ⟨rfl, by (cases R with | false => rfl | true => (exfalso; obtain ⟨i1, i2, i3, i4, i5, i6, i7, i8, i9⟩ := hi.1 rfl; first | omega | (have j := i2 (by omega); simp_all; done) | (have j := i3 (by omega); simp_all; done) | (have j := i4 (by omega); simp_all; done) | (have j := i5 (by omega); simp_all; done) | (have j := i6 (by omega); simp_all; done) | (have j := i7 (by omega); simp_all; done) | (have j := i8 (by omega); simp_all; done) | (have j := i9 (by omega); simp_all; done))), rfl⟩
 refine E4 ?_
 refine H4 rfl (A05 _ _ _ _) rfl rfl (fun h1131 => ?_) (fun h1131 => ?_)
 refine A3z ?_
 refine H4 rfl (o4) rfl rfl (fun h1157 => ?_) (fun h1157 => ?_)
 refine A0c ?_
 refine B6 ?_
 refine H4 rfl (o7) rfl rfl (fun h1192 => ?_) (fun h1192 => ?_)
 refine B6 ?_
 refine sB (O9 rfl rfl) rfl rfl (fun h1197 => ?_) (fun h1197 => ?_)
 refine I6 ?_
 exact ⟨rfl, by (cases R with | false => rfl | true => (exfalso; obtain ⟨i1, i2, i3, i4, i5, i6, i7, i8, i9⟩ := hi.1 rfl; first | omega | (have j := i2 (by omega); simp_all; done) | (have j := i3 (by omega); simp_all; done) | (have j := i4 (by omega); simp_all; done) | (have j := i5 (by omega); simp_all; done) | (have j := i6 (by omega); simp_all; done) | (have j := i7 (by omega); simp_all; done) | (have j := i8 (by omega); simp_all; done) | (have j := i9 (by omega); simp_all; done))), rfl⟩
 refine J9 ?_
 exact ⟨rfl, by rw [hi.2 ⟨by omega, fun _ => by (first | assumption | (exfalso; omega) | exact Classical.not_not.1 (by assumption)), fun _ => by (first | assumption | (exfalso; omega) | exact Classical.not_not.1 (by assumption)), fun _ => by (first | assumption | (exfalso; omega) | exact Classical.not_not.1 (by assumption)), fun _ => by (first | assumption | (exfalso; omega) | exact Classical.not_not.1 (by assumption)), fun _ => by (first | assumption | (exfalso; omega) | exact Classical.not_not.1 (by assumption)), fun _ => by (first | assumption | (exfalso; omega) | exact Classical.not_not.1 (by assumption)), fun _ => ⟨by (first | assumption | (exfalso; omega)), by (first | assumption | (exfalso; omega))⟩, fun _ => ⟨by (first | assumption | (exfalso; omega)), by (first | assumption | omega)⟩⟩], rfl⟩
 refine A0n ?_
 exact ⟨rfl, by (cases R with | false => rfl | true => (exfalso; obtain ⟨i1, i2, i3, i4, i5, i6, i7, i8, i9⟩ := hi.1 rfl; first | omega | (have j := i2 (by omega); simp_all; done) | (have j := i3 (by omega); simp_all; done) | (have j := i4 (by omega); simp_all; done) | (have j := i5 (by omega); simp_all; done) | (have j := i6 (by omega); simp_all; done) | (have j := i7 (by omega); simp_all; done) | (have j := i8 (by omega); simp_all; done) | (have j := i9 (by omega); simp_all; done))), rfl⟩
 refine I6 ?_
 exact ⟨rfl, by (cases R with | false => rfl | true => (exfalso; obtain ⟨i1, i2, i3, i4, i5, i6, i7, i8, i9⟩ := hi.1 rfl; first | omega | (have j := i2 (by omega); simp_all; done) | (have j := i3 (by omega); simp_all; done) | (have j := i4 (by omega); simp_all; done) | (have j := i5 (by omega); simp_all; done) | (have j := i6 (by omega); simp_all; done) | (have j := i7 (by omega); simp_all; done) | (have j := i8 (by omega); simp_all; done) | (have j := i9 (by omega); simp_all; done))), rfl⟩
 refine K5 ?_
 exact ⟨rfl, by (cases R with | false => rfl | true => (exfalso; obtain ⟨i1, i2, i3, i4, i5, i6, i7, i8, i9⟩ := hi.1 rfl; first | omega | (have j := i2 (by omega); simp_all; done) | (have j := i3 (by omega); simp_all; done) | (have j := i4 (by omega); simp_all; done) | (have j := i5 (by omega); simp_all; done) | (have j := i6 (by omega); simp_all; done) | (have j := i7 (by omega); simp_all; done) | (have j := i8 (by omega); simp_all; done) | (have j := i9 (by omega); simp_all; done))), rfl⟩
 refine A7 ?_
 refine B8 ?_
 refine A0K ?_
 refine sB (A2l rfl rfl) rfl rfl (fun h1311 => ?_) (fun h1311 => ?_)
 refine S6 ?_
 exact ⟨rfl, by (cases R with | false => rfl | true => (exfalso; obtain ⟨i1, i2, i3, i4, i5, i6, i7, i8, i9⟩ := hi.1 rfl; first | omega | (have j := i2 (by omega); simp_all; done) | (have j := i3 (by omega); simp_all; done) | (have j := i4 (by omega); simp_all; done) | (have j := i5 (by omega); simp_all; done) | (have j := i6 (by omega); simp_all; done) | (have j := i7 (by omega); simp_all; done) | (have j := i8 (by omega); simp_all; done) | (have j := i9 (by omega); simp_all; done))), rfl⟩
 refine E4 ?_
 refine H4 rfl (A05 _ _ _ _) rfl rfl (fun h1339 => ?_) (fun h1339 => ?_)
 refine A3z ?_
 refine H4 rfl (o4) rfl rfl (fun h1365 => ?_) (fun h1365 => ?_)
 refine A0c ?_
 refine B6 ?_
 refine H4 rfl (o7) rfl rfl (fun h1400 => ?_) (fun h1400 => ?_)
 refine B6 ?_
 refine sB (O9 rfl rfl) rfl rfl (fun h1405 => ?_) (fun h1405 => ?_)
 refine I6 ?_
 exact ⟨rfl, by (cases R with | false => rfl | true => (exfalso; obtain ⟨i1, i2, i3, i4, i5, i6, i7, i8, i9⟩ := hi.1 rfl; first | omega | (have j := i2 (by omega); simp_all; done) | (have j := i3 (by omega); simp_all; done) | (have j := i4 (by omega); simp_all; done) | (have j := i5 (by omega); simp_all; done) | (have j := i6 (by omega); simp_all; done) | (have j := i7 (by omega); simp_all; done) | (have j := i8 (by omega); simp_all; done) | (have j := i9 (by omega); simp_all; done))), rfl⟩
 refine J9 ?_
 exact ⟨rfl, by rw [hi.2 ⟨by omega, fun _ => by (first | assumption | (exfalso; omega) | exact Classical.not_not.1 (by assumption)), fun _ => by (first | assumption | (exfalso; omega) | exact Classical.not_not.1 (by assumption)), fun _ => by (first | assumption | (exfalso; omega) | exact Classical.not_not.1 (by assumption)), fun _ => by (first | assumption | (exfalso; omega) | exact Classical.not_not.1 (by assumption)), fun _ => by (first | assumption | (exfalso; omega) | exact Classical.not_not.1 (by assumption)), fun _ => by (first | assumption | (exfalso; omega) | exact Classical.not_not.1 (by assumption)), fun _ => ⟨by (first | assumption | (exfalso; omega)), by (first | assumption | (exfalso; omega))⟩, fun _ => ⟨by (first | assumption | (exfalso; omega)), by (first | assumption | omega)⟩⟩], rfl⟩
 refine A0n ?_
 exact ⟨rfl, by (cases R with | false => rfl | true => (exfalso; obtain ⟨i1, i2, i3, i4, i5, i6, i7, i8, i9⟩ := hi.1 rfl; first | omega | (have j := i2 (by omega); simp_all; done) | (have j := i3 (by omega); simp_all; done) | (have j := i4 (by omega); simp_all; done) | (have j := i5 (by omega); simp_all; done) | (have j := i6 (by omega); simp_all; done) | (have j := i7 (by omega); simp_all; done) | (have j := i8 (by omega); simp_all; done) | (have j := i9 (by omega); simp_all; done))), rfl⟩
 refine I6 ?_
 exact ⟨rfl, by (cases R with | false => rfl | true => (exfalso; obtain ⟨i1, i2, i3, i4, i5, i6, i7, i8, i9⟩ := hi.1 rfl; first | omega | (have j := i2 (by omega); simp_all; done) | (have j := i3 (by omega); simp_all; done) | (have j := i4 (by omega); simp_all; done) | (have j := i5 (by omega); simp_all; done) | (have j := i6 (by omega); simp_all; done) | (have j := i7 (by omega); simp_all; done) | (have j := i8 (by omega); simp_all; done) | (have j := i9 (by omega); simp_all; done))), rfl⟩
 refine K5 ?_
 exact ⟨rfl, by (cases R with | false => rfl | true => (exfalso; obtain ⟨i1, i2, i3, i4, i5, i6, i7, i8, i9⟩ := hi.1 rfl; first | omega | (have j := i2 (by omega); simp_all; done) | (have j := i3 (by omega); simp_all; done) | (have j := i4 (by omega); simp_all; done) | (have j := i5 (by omega); simp_all; done) | (have j := i6 (by omega); simp_all; done) | (have j := i7 (by omega); simp_all; done) | (have j := i8 (by omega); simp_all; done) | (have j := i9 (by omega); simp_all; done))), rfl⟩
theorem A76 (M D N : Int) (hM : 0 ≤ M ∧ M ≤ 1000) (hD : 0 ≤ D ∧ D ≤ 1000) (bc : Nat) : ∀ (t : Tm) (deep c : Int) (G : IM) (cells : List Value), 0 ≤ deep ∧ deep ≤ D + 1 → 0 ≤ c ∧ c ≤ M → A8 G t cells →
  Fn Tryz.prog 89 [.agg ⟨cells⟩, .int .i64 deep, .int .i64 M, .int .i64 D, .int .i64 N, .pointer (some ⟨bc, 0, none⟩)] [.blk bc [.int .i64 c]] G
   (U9 (.bool (T5 M D N t deep c).1) [.blk bc [.int .i64 (T5 M D N t deep c).2]] G) := by
 refine Tm.ind fun k nm num ty fr lb ks ih deep c G cells hd hc hr => ?_
 have hno := B2e k nm num ty fr lb ks G cells hr
 obtain ⟨tk, tks⟩ := ty
 obtain ⟨fk, fks⟩ := fr
 obtain ⟨pt, ct, pf, cf, p, cp, es, rfl, hk, hnum, hlb, hty, hfr, hsl, hkl⟩ := hr.open9
 have hn := hsl.le
 obtain ⟨R, hR⟩ : ∃ R, V5 k nm num (.mk tk tks) (.mk fk fks) lb ks.length = R := ⟨_, rfl⟩
 rw [hR] at hno
 refine C0 Tryz.func89 rfl Tryz.ntmps89 Tryz.results89 rfl ?_
 intro w0
 refine tS (tR ?_)
 refine sE (C5 rfl rfl) rfl (fun b3 => ?_)
 refine A7 ?_
 refine sQ (Z4 rfl) rfl ?_
 refine P3 ?_
 refine sP (H2 rfl rfl (by omega) (by omega)) rfl rfl ?_
 refine sQ (Z4 rfl) rfl ?_
 refine B4 ?_
 refine sQ (Z4 rfl) rfl ?_
 refine D7 ?_
 refine sB (X2 rfl rfl) rfl rfl (fun h24 => ?_) (fun h24 => ?_)
 refine A4p ?_
 refine H7 (outs := [.blk bc [.int .i64 _]]) (rT rfl) (A0.cons (by repeat (first | exact Pk.here | apply Pk.there)) A0.nil) ?_
 (rw [A4v (by rw [hR]; first | omega | exact Or.inr (Or.inr (Or.inr (by assumption)))) ]; exact ⟨rfl, rfl, rfl⟩)
 refine E3 ?_
 refine sB (X2 rfl rfl) rfl rfl (fun h56 => ?_) (fun h56 => ?_)
 refine A7y ?_
 refine H7 (outs := [.blk bc [.int .i64 _]]) (rT rfl) (A0.cons (by repeat (first | exact Pk.here | apply Pk.there)) A0.nil) ?_
 (rw [A4v (by rw [hR]; first | omega | exact Or.inr (Or.inr (Or.inr (by assumption)))) ]; exact ⟨rfl, rfl, rfl⟩)
 refine B0 ?_
 refine sB (qE rfl rfl) rfl rfl (fun h86 => ?_) (fun h86 => ?_)
 refine J9 ?_
 refine H7 (outs := [.blk bc [.int .i64 _]]) (rT rfl) (A0.cons (by repeat (first | exact Pk.here | apply Pk.there)) A0.nil) ?_
 (rw [A4v (by rw [hR]; first | omega | exact Or.inr (Or.inr (Or.inr (by assumption)))) ]; exact ⟨rfl, rfl, rfl⟩)
 refine E3 ?_
 refine H4 rfl (hno) rfl rfl (fun h108 => ?_) (fun h108 => ?_)
 refine J9 ?_
 refine B8 ?_
 (have hmk := B1N (M := M) (D := D) (N := N) (deep := deep) (c := c) (by omega) (hR.trans (by assumption)); refine I2 (fun (x : Nat × Int) => ⟨[(44, .int .i64 x.1), (43, .int .i64 ks.length), (42, .slice p ks.length cp), (5, .pointer (some ⟨bc, 0, none⟩)), (4, .int .i64 N), (3, .int .i64 D), (2, .int .i64 M), (1, .int .i64 deep)], [.blk bc [.int .i64 x.2]], G⟩) (fun x => x.1 ≤ ks.length ∧ 0 ≤ x.2 ∧ x.2 ≤ M ∧ U6 M D N ks (deep + 1) (c + 1) = U6 M D N (ks.drop x.1) (deep + 1) x.2) (fun x => ks.length - x.1) (0, c + 1) ?_ ?_ ?_)
 (simp only [H6]; exact D3)
 exact ⟨by simp, by simp; omega, by simp; omega, by simp⟩
 (rintro ⟨i, ci⟩ ⟨hi, hc0, hc1, hst⟩; simp only [] at hi hc0 hc1 hst ⊢)
 refine tS (tR ?_)
 refine sB (I0 rfl rfl) rfl rfl (fun h132 => ?_) (fun h132 => ?_)
 refine B4 ?_
 refine B8 ?_
 refine tS (tR ?_)
 (obtain ⟨b, o, e, rfl, hl, hat, hre, hgb⟩ := hsl.kidTm hkl (i := i) (by omega) (by omega); have hone := hre.one; have hle := A5J M D N ks[i] (deep + 1) ci hc0 hc1; refine sP (B3 rfl rfl rfl (by omega)) rfl rfl ?_)
 refine sL (A2 rfl rfl (hat _) hl) rfl rfl ?_
 refine sE (A6 rfl) rfl (fun b145 => ?_)
 refine U8 rfl rfl rfl (by assumption) (by assumption) rfl (by repeat first | exact Sw.here | apply Sw.there) (by exact D5 (by symm; assumption)) ?_
 refine sD (nS (tS (tR ?_)))
 refine sL (A2 rfl rfl (A9 (by repeat first | exact mH | apply mT)) (by assumption)) rfl rfl ?_
 refine sQ (qM rfl) rfl ?_
 refine sP (H2 rfl rfl (by omega) (by omega)) rfl rfl ?_
 refine B6 ?_
 refine B1C rfl (ih ks[i] (List.getElem_mem _) (deep + 1) ci G e (by omega) (by omega) hre) (Pk.perm (by repeat (first | exact Pk.here | apply Pk.there))) rfl rfl (fun h158 => ?_) (fun h158 => ?_)
 refine D6 ?_
 refine sP (H2 rfl rfl (by omega) (by omega)) rfl rfl ?_
 refine D7 ?_
 refine H9 (i + 1, (T5 M D N ks[i] (deep + 1) ci).2) ?_ ?_ ?_
 (simp only [H6]; exact D3)
 exact ⟨by omega, by omega, hle.2.2 (by assumption), by rw [hst, B1O (by omega) (by assumption)]⟩
 (show ks.length - (i + 1) < ks.length - i; omega)
 refine I6 ?_
 refine H7 (outs := [.blk bc [.int .i64 _]]) (rT rfl) (A0.cons (by repeat (first | exact Pk.here | apply Pk.there)) A0.nil) ?_
 (rw [hmk, hst, B1P (by omega) (by assumption)]; exact ⟨rfl, rfl, rfl⟩)
 refine I6 ?_
 refine H7 (outs := [.blk bc [.int .i64 _]]) (rT rfl) (A0.cons (by repeat (first | exact Pk.here | apply Pk.there)) A0.nil) ?_
 (rw [hmk, hst, B1Q (by omega)]; exact ⟨rfl, rfl, rfl⟩)
 refine K8 ?_
 refine H7 (outs := [.blk bc [.int .i64 _]]) (rT rfl) (A0.cons (by repeat (first | exact Pk.here | apply Pk.there)) A0.nil) ?_
 (rw [A4v (by rw [hR]; first | omega | exact Or.inr (Or.inr (Or.inr (by assumption)))) ]; exact ⟨rfl, rfl, rfl⟩)
theorem A4D (t : Tm) (G : IM) (cells : List Value) (hr : A8 G t cells) : Fn Tryz.prog 77 [.agg ⟨cells⟩] [] G (I5 (.bool (P0 t)) G) := by
 have hl := hr.len
 refine C0 Tryz.func77 rfl Tryz.ntmps77 Tryz.results77 rfl ?_
 intro w0
 refine tS (tR ?_)
 refine sE (C5 rfl rfl) rfl (fun b3 => ?_)
 refine B0 ?_
 refine sE (A6 rfl) rfl (fun b9 => ?_)
 refine B0 ?_
 refine sL (A2 rfl rfl (A9 (by repeat first | exact mH | apply mT)) (by assumption)) rfl rfl ?_
 refine A4o rfl (A76 200 40 13 (by omega) (by omega) _ t 1 0 G cells (by omega) (by omega) hr) A0l rfl rfl ?_
 refine B0 ?_
 exact ⟨rfl, rfl, rfl⟩
theorem A4E (t : Tm) (G : IM) (cells : List Value) (hr : A8 G t cells) : Fn Tryz.prog 40 [.agg ⟨cells⟩] [] G (I5 (.bool (N8 t)) G) := by
 have hl := hr.len
 refine C0 Tryz.func40 rfl Tryz.ntmps40 Tryz.results40 rfl ?_
 intro w0
 refine tS (tR ?_)
 refine sE (C5 rfl rfl) rfl (fun b3 => ?_)
 refine B0 ?_
 refine sE (A6 rfl) rfl (fun b9 => ?_)
 refine B0 ?_
 refine sL (A2 rfl rfl (A9 (by repeat first | exact mH | apply mT)) (by assumption)) rfl rfl ?_
 refine A4o rfl (A76 30 12 14 (by omega) (by omega) _ t 1 0 G cells (by omega) (by omega) hr) A0l rfl rfl ?_
 refine B0 ?_
 exact ⟨rfl, rfl, rfl⟩
end Gw
end Go.Proofs.YtfpgncjeejickaaGreat
