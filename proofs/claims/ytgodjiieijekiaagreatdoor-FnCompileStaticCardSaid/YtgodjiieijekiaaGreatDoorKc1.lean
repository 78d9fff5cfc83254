/-
  The data of the program: types and terms as trees, and how they lie in memory.
-/
import Derived.Test.YtgodjiieijekiaaGreatDoorKc0
import Derived.Laws.BytesArg
import Derived.WalkKit
import Derived.ProofKit
import Derived.OpenShut
import Derived.Carry
import Derived.Test.YtgodjiieijekiaaGreatDoorKS
import Derived.Lib.ItoaNum
import Derived.Lib.LaidTab
import Derived.Test.YtgodjiieijekiaaGreatDoorRows
import Derived.Deep.DeepHandedRow
import Derived.Stop.LaidErr
set_option linter.unusedVariables false
set_option linter.unusedSimpArgs false
set_option maxHeartbeats 0
set_option maxRecDepth 100000
set_option synthInstance.maxSize 4000
set_option synthInstance.maxHeartbeats 0
namespace Go.Proofs.YtgodjiieijekiaaGreatDoor
open Go Go.RowKit
namespace Gw

structure C0 (G : IM) (p : Option Addr) (n c sz : Nat) (es : List (List Value)) : Prop where
 sl : Sl G p n c sz es.flatten
 len : es.length = n
 all : ∀ e ∈ es, e.length = sz
 one : ∀ e ∈ es, e.all (·.oneCell') = true

theorem C0.mono {G G' : IM} {p : Option Addr} {n c sz : Nat} {es : List (List Value)} (h : C0 G p n c sz es) (hg : A7 G G') : C0 G' p n c sz es := ⟨h.sl.mono hg, h.len, h.all, h.one⟩
theorem C0.nil (G : IM) (sz : Nat) : C0 G none 0 0 sz [] := ⟨Sl.nil G sz, rfl, by simp, by simp⟩

theorem A3K {sz : Nat} : ∀ {es : List (List Value)}, (∀ e ∈ es, e.length = sz) → ∀ {i : Nat} {e : List Value}, es[i]? = some e → ∀ j v, e[j]? = some v → es.flatten[i * sz + j]? = some v
 | [], _, i, e, h, _, _, _ => by simp at h
 | a :: r, hall, 0, e, h, j, v, hv => by
  simp at h; subst h
  have : j < a.length := (List.getElem?_eq_some_iff.1 hv).1
  simp [List.getElem?_append, this]
  simpa [List.getElem?_eq_getElem this] using hv
 | a :: r, hall, i + 1, e, h, j, v, hv => by
  have ih := A3K (es := r) (fun x hx => hall x (List.mem_cons_of_mem _ hx)) (i := i) (e := e) (by simpa using h) j v hv
  have ha := hall a List.mem_cons_self
  rw [List.flatten_cons, List.getElem?_append, if_neg (by rw [ha, Nat.succ_mul]; omega)]
  rw [show (i + 1) * sz + j - a.length = i * sz + j by rw [ha, Nat.succ_mul]; omega]
  exact ih

theorem C0.at {G : IM} {p : Option Addr} {n c sz : Nat} {es : List (List Value)} (h : C0 G p n c sz es) {i : Nat} {e : List Value} (hi : es[i]? = some e) :
  ∃ b o, p = some ⟨b, o, none⟩ ∧ ∀ hp, At hp G b (o + i * sz) e := by
 have hlt : i < es.length := (List.getElem?_eq_some_iff.1 hi).1
 obtain ⟨_, _, _, h4⟩ := h.sl
 have hn := h.len
 rcases h4 with h0 | ⟨b, o, full, hp, hg, hf⟩
 ·omega
 ·refine ⟨b, o, hp, fun hp => A5O hg fun j v hv => ?_⟩
  rw [Nat.add_assoc]
  exact hf _ v (A3K h.all hi j v hv)

theorem C0.get {G : IM} {p : Option Addr} {n c sz : Nat} {es : List (List Value)} (h : C0 G p n c sz es) {i : Nat} (hi : i < n) :
  ∃ e b o, es[i]? = some e ∧ p = some ⟨b, o, none⟩ ∧ e.length = sz ∧ e.all (·.oneCell') = true ∧ (∀ hp, At hp G b (o + i * sz) e) ∧ G b ≠ none := by
 have hlt : i < es.length := by rw [h.len]; exact hi
 have he : es[i]? = some es[i] := List.getElem?_eq_getElem hlt
 obtain ⟨b, o, h1, h2⟩ := h.at he
 refine ⟨es[i], b, o, he, h1, h.all _ (List.getElem_mem hlt), h.one _ (List.getElem_mem hlt), h2, ?_⟩
 obtain ⟨_, _, _, h4⟩ := h.sl
 rcases h4 with h0 | ⟨b', o', full, hp, hg, hf⟩
 ·omega
 ·rw [h1] at hp; cases hp; rw [hg]; simp
theorem C0.le {G : IM} {p : Option Addr} {n c sz : Nat} {es : List (List Value)} (h : C0 G p n c sz es) : n ≤ 9223372036854775807 := by
 have h1 := h.sl.2.1; have h2 := h.sl.2.2.1; unfold maxLen at h2; omega

theorem C0.of {G : IM} {p : Option Addr} {n c sz : Nat} {es : List (List Value)} (h : Sl G p n c sz es.flatten) (hl : es.length = n) (ha : ∀ e ∈ es, e.length = sz) (ho : ∀ e ∈ es, e.all (·.oneCell') = true) : C0 G p n c sz es := ⟨h, hl, ha, ho⟩

def C1 (n : Int) : Prop := -9223372036854775808 ≤ n ∧ n ≤ 9223372036854775807

inductive Ty where
 | mk (k : Int) (ks : List Ty)

def Ty.k : Ty → Int | .mk k _ => k
def Ty.ks : Ty → List Ty | .mk _ ks => ks

inductive Tm where
 | mk (k : Int) (nm : ByteArray) (num : Int) (ty fr : Ty) (lb : Int) (ks : List Tm)

def Tm.k : Tm → Int | .mk k _ _ _ _ _ _ => k
def Tm.nm : Tm → ByteArray | .mk _ n _ _ _ _ _ => n
def Tm.num : Tm → Int | .mk _ _ n _ _ _ _ => n
def Tm.ty : Tm → Ty | .mk _ _ _ t _ _ _ => t
def Tm.fr : Tm → Ty | .mk _ _ _ _ f _ _ => f
def Tm.lb : Tm → Int | .mk _ _ _ _ _ l _ => l
def Tm.ks : Tm → List Tm | .mk _ _ _ _ _ _ ks => ks

mutual
def Ty.small : Ty → Prop
 | .mk _ ks => ks.length ≤ 4294967296 ∧ Ty.smallL ks
def Ty.smallL : List Ty → Prop
 | [] => True
 | t :: ts => t.small ∧ Ty.smallL ts
end
mutual
def Tm.small : Tm → Prop
 | .mk _ nm _ ty fr _ ks => nm.size ≤ 4294967296 ∧ ty.small ∧ fr.small ∧ ks.length ≤ 4294967296 ∧ Tm.smallL ks
def Tm.smallL : List Tm → Prop
 | [] => True
 | t :: ts => t.small ∧ Tm.smallL ts
end
theorem Ty.smallL_mem : ∀ {ts : List Ty}, Ty.smallL ts → ∀ t ∈ ts, t.small
 | [], _, t, h => by simp at h
 | t' :: ts, h, t, ht => by
  simp only [Ty.smallL] at h
  rcases List.mem_cons.1 ht with rfl | ht
  ·exact h.1
  ·exact Ty.smallL_mem h.2 t ht
theorem Tm.smallL_mem : ∀ {ts : List Tm}, Tm.smallL ts → ∀ t ∈ ts, t.small
 | [], _, t, h => by simp at h
 | t' :: ts, h, t, ht => by
  simp only [Tm.smallL] at h
  rcases List.mem_cons.1 ht with rfl | ht
  ·exact h.1
  ·exact Tm.smallL_mem h.2 t ht

mutual
def A8 (G : IM) : Ty → List Value → Prop
 | .mk k ks, cells => ∃ p c es, cells = [.int .i64 k, .slice p ks.length c] ∧ C1 k ∧ C0 G p ks.length c 2 es ∧ C3 G ks es
def C3 (G : IM) : List Ty → List (List Value) → Prop
 | [], es => es = []
 | t :: ts, es => ∃ a r, es = a :: r ∧ A8 G t a ∧ C3 G ts r
end

mutual
def B5 (G : IM) : Tm → List Value → Prop
 | .mk k nm num ty fr lb ks, cells => ∃ tc fc p c es, cells = [.int .i64 k, .string nm, .int .i64 num] ++ tc ++ fc ++ [.int .i64 lb, .slice p ks.length c] ∧ C1 k ∧ C1 num ∧ C1 lb ∧ A8 G ty tc ∧ A8 G fr fc ∧ C0 G p ks.length c 9 es ∧ F4 G ks es
def F4 (G : IM) : List Tm → List (List Value) → Prop
 | [], es => es = []
 | t :: ts, es => ∃ a r, es = a :: r ∧ B5 G t a ∧ F4 G ts r
end

mutual
theorem A8.mono {G G' : IM} (hg : A7 G G') : ∀ {t : Ty} {cells : List Value}, A8 G t cells → A8 G' t cells
 | .mk k ks, cells, h => by
  simp only [A8] at h ⊢
  obtain ⟨p, c, es, h1, h2, h3, h4⟩ := h
  exact ⟨p, c, es, h1, h2, h3.mono hg, C3.mono hg h4⟩
theorem C3.mono {G G' : IM} (hg : A7 G G') : ∀ {ts : List Ty} {es : List (List Value)}, C3 G ts es → C3 G' ts es
 | [], es, h => by simpa only [C3] using h
 | t :: ts, es, h => by
  simp only [C3] at h ⊢
  obtain ⟨a, r, h1, h2, h3⟩ := h
  exact ⟨a, r, h1, A8.mono hg h2, C3.mono hg h3⟩
end
mutual
theorem B5.mono {G G' : IM} (hg : A7 G G') : ∀ {t : Tm} {cells : List Value}, B5 G t cells → B5 G' t cells
 | .mk k nm num ty fr lb ks, cells, h => by
  simp only [B5] at h ⊢
  obtain ⟨tc, fc, p, c, es, h1, h2, h3, h4, h5, h6, h7, h8⟩ := h
  exact ⟨tc, fc, p, c, es, h1, h2, h3, h4, h5.mono hg, h6.mono hg, h7.mono hg, F4.mono hg h8⟩
theorem F4.mono {G G' : IM} (hg : A7 G G') : ∀ {ts : List Tm} {es : List (List Value)}, F4 G ts es → F4 G' ts es
 | [], es, h => by simpa only [F4] using h
 | t :: ts, es, h => by
  simp only [F4] at h ⊢
  obtain ⟨a, r, h1, h2, h3⟩ := h
  exact ⟨a, r, h1, B5.mono hg h2, F4.mono hg h3⟩
end

theorem A8.open {G : IM} {t : Ty} {cells : List Value} (h : A8 G t cells) : ∃ p c es, cells = [.int .i64 t.k, .slice p t.ks.length c] ∧ C1 t.k ∧ C0 G p t.ks.length c 2 es ∧ C3 G t.ks es := by
 cases t; simpa only [A8, Ty.k, Ty.ks] using h
theorem B5.open {G : IM} {t : Tm} {cells : List Value} (h : B5 G t cells) : ∃ pt ct et pf cf ef p c es,
  cells = [.int .i64 t.k, .string t.nm, .int .i64 t.num, .int .i64 t.ty.k, .slice pt t.ty.ks.length ct, .int .i64 t.fr.k, .slice pf t.fr.ks.length cf, .int .i64 t.lb, .slice p t.ks.length c] ∧
  C1 t.k ∧ C1 t.num ∧ C1 t.lb ∧ (C1 t.ty.k ∧ C0 G pt t.ty.ks.length ct 2 et ∧ C3 G t.ty.ks et) ∧ (C1 t.fr.k ∧ C0 G pf t.fr.ks.length cf 2 ef ∧ C3 G t.fr.ks ef) ∧ C0 G p t.ks.length c 9 es ∧ F4 G t.ks es := by
 obtain ⟨k, nm, num, ty, fr, lb, ks⟩ := t
 simp only [B5] at h
 obtain ⟨tc, fc, p, c, es, h1, h2, h3, h4, h5, h6, h7, h8⟩ := h
 obtain ⟨pt, ct, et, rfl, t1, t2, t3⟩ := h5.open
 obtain ⟨pf, cf, ef, rfl, f1, f2, f3⟩ := h6.open
 exact ⟨pt, ct, et, pf, cf, ef, p, c, es, h1, h2, h3, h4, ⟨t1, t2, t3⟩, ⟨f1, f2, f3⟩, h7, h8⟩
theorem B5.open9 {G : IM} {k : Int} {nm : ByteArray} {num : Int} {tk : Int} {tks : List Ty} {fk : Int} {fks : List Ty} {lb : Int} {ks : List Tm} {cells : List Value} (h : B5 G (.mk k nm num (.mk tk tks) (.mk fk fks) lb ks) cells) :
  ∃ pt ct pf cf p c es, cells = [.int .i64 k, .string nm, .int .i64 num, .int .i64 tk, .slice pt tks.length ct, .int .i64 fk, .slice pf fks.length cf, .int .i64 lb, .slice p ks.length c] ∧
  C1 k ∧ C1 num ∧ C1 lb ∧ A8 G (.mk tk tks) [.int .i64 tk, .slice pt tks.length ct] ∧ A8 G (.mk fk fks) [.int .i64 fk, .slice pf fks.length cf] ∧ C0 G p ks.length c 9 es ∧ F4 G ks es := by
 obtain ⟨pt, ct, et, pf, cf, ef, p, c, es, h1, h2, h3, h4, ⟨t1, t2, t3⟩, ⟨f1, f2, f3⟩, h7, h8⟩ := h.open
 simp only [Tm.k, Tm.nm, Tm.num, Tm.ty, Tm.fr, Tm.lb, Tm.ks, Ty.k, Ty.ks] at h1 h2 h3 h4 t1 t2 t3 f1 f2 f3 h7 h8
 exact ⟨pt, ct, pf, cf, p, c, es, h1, h2, h3, h4, by simp only [A8]; exact ⟨_, _, et, rfl, t1, t2, t3⟩, by simp only [A8]; exact ⟨_, _, ef, rfl, f1, f2, f3⟩, h7, h8⟩
theorem A8.len {G : IM} {t : Ty} {cells : List Value} (h : A8 G t cells) : cells.length = 2 := by
 obtain ⟨_, _, _, rfl, _⟩ := h.open; rfl
theorem B5.len {G : IM} {t : Tm} {cells : List Value} (h : B5 G t cells) : cells.length = 9 := by
 obtain ⟨_, _, _, _, _, _, _, _, _, rfl, _⟩ := h.open; rfl

theorem C3.len {G : IM} : ∀ {ts : List Ty} {es : List (List Value)}, C3 G ts es → es.length = ts.length
 | [], es, h => by simp only [C3] at h; subst h; rfl
 | t :: ts, es, h => by
  simp only [C3] at h
  obtain ⟨a, r, rfl, _, h3⟩ := h
  simp [h3.len]
theorem F4.len {G : IM} : ∀ {ts : List Tm} {es : List (List Value)}, F4 G ts es → es.length = ts.length
 | [], es, h => by simp only [F4] at h; subst h; rfl
 | t :: ts, es, h => by
  simp only [F4] at h
  obtain ⟨a, r, rfl, _, h3⟩ := h
  simp [h3.len]
theorem C3.get {G : IM} : ∀ {ts : List Ty} {es : List (List Value)}, C3 G ts es → ∀ {i : Nat} {t : Ty}, ts[i]? = some t → ∃ e, es[i]? = some e ∧ A8 G t e
 | [], es, h, i, t, hi => by simp at hi
 | t' :: ts, es, h, i, t, hi => by
  simp only [C3] at h
  obtain ⟨a, r, rfl, h2, h3⟩ := h
  cases i with
  | zero => simp at hi; subst hi; exact ⟨a, rfl, h2⟩
  | succ i => obtain ⟨e, he, hr⟩ := h3.get (i := i) (by simpa using hi); exact ⟨e, by simpa using he, hr⟩
theorem F4.get {G : IM} : ∀ {ts : List Tm} {es : List (List Value)}, F4 G ts es → ∀ {i : Nat} {t : Tm}, ts[i]? = some t → ∃ e, es[i]? = some e ∧ B5 G t e
 | [], es, h, i, t, hi => by simp at hi
 | t' :: ts, es, h, i, t, hi => by
  simp only [F4] at h
  obtain ⟨a, r, rfl, h2, h3⟩ := h
  cases i with
  | zero => simp at hi; subst hi; exact ⟨a, rfl, h2⟩
  | succ i => obtain ⟨e, he, hr⟩ := h3.get (i := i) (by simpa using hi); exact ⟨e, by simpa using he, hr⟩
theorem C3.all {G : IM} {ts : List Ty} {es : List (List Value)} (h : C3 G ts es) : ∀ e ∈ es, e.length = 2 := by
 intro e he
 obtain ⟨i, hi⟩ := List.getElem?_of_mem he
 have hlt : i < ts.length := by have := (List.getElem?_eq_some_iff.1 hi).1; rw [h.len] at this; exact this
 obtain ⟨e', he', hr⟩ := h.get (i := i) (t := ts[i]) (by simp [hlt])
 rw [hi] at he'; cases he'; exact hr.len
theorem F4.all {G : IM} {ts : List Tm} {es : List (List Value)} (h : F4 G ts es) : ∀ e ∈ es, e.length = 9 := by
 intro e he
 obtain ⟨i, hi⟩ := List.getElem?_of_mem he
 have hlt : i < ts.length := by have := (List.getElem?_eq_some_iff.1 hi).1; rw [h.len] at this; exact this
 obtain ⟨e', he', hr⟩ := h.get (i := i) (t := ts[i]) (by simp [hlt])
 rw [hi] at he'; cases he'; exact hr.len

theorem A8.one {G : IM} {t : Ty} {cells : List Value} (h : A8 G t cells) : cells.all (·.oneCell') = true := by
 obtain ⟨_, _, _, rfl, _⟩ := h.open; rfl
theorem B5.one {G : IM} {t : Tm} {cells : List Value} (h : B5 G t cells) : cells.all (·.oneCell') = true := by
 obtain ⟨_, _, _, _, _, _, _, _, _, rfl, _⟩ := h.open; rfl

theorem Ty.ind {C : Ty → Prop} (h : ∀ k ks, (∀ t ∈ ks, C t) → C (.mk k ks)) : ∀ t, C t
 | .mk k ks => h k ks fun t ht => Ty.ind h t
termination_by t => SizeOf.sizeOf t
decreasing_by
 have := List.sizeOf_lt_of_mem ht
 simp only [Ty.mk.sizeOf_spec]; omega
theorem Tm.ind {C : Tm → Prop} (h : ∀ k nm num ty fr lb ks, (∀ t ∈ ks, C t) → C (.mk k nm num ty fr lb ks)) : ∀ t, C t
 | .mk k nm num ty fr lb ks => h k nm num ty fr lb ks fun t ht => Tm.ind h t
termination_by t => SizeOf.sizeOf t
decreasing_by
 have := List.sizeOf_lt_of_mem ht
 simp only [Tm.mk.sizeOf_spec]; omega

def B7 (G' G : IM) : IM := fun b => match G b with | none => G' b | some _ => none
theorem B7.le (G' G : IM) : A7 (B7 G' G) G' := by
 intro b l h
 unfold B7 at h
 split at h
 ·exact h
 ·cases h
theorem B7.mono {G' G'' G : IM} (h : A7 G' G'') : A7 (B7 G' G) (B7 G'' G) := by
 intro b l hb
 unfold B7 at hb ⊢
 split at hb
 ·exact h b l hb
 ·cases hb
theorem B7.anti {G' G G0 : IM} (h : A7 G0 G) : A7 (B7 G' G) (B7 G' G0) := by
 intro b l hb
 unfold B7 at hb ⊢
 split at hb
 ·rename_i h0
  cases h1 : G0 b with
  | none => exact hb
  | some l' => rw [h b l' h1] at h0; cases h0
 ·cases hb
theorem B7.out {G' G : IM} {b : Nat} (h : B7 G' G b ≠ none) : G b = none := by
 unfold B7 at h
 split at h
 ·assumption
 ·exact absurd rfl h
theorem Sl.dif {G' G G0 : IM} {p : Option Addr} {n c sz : Nat} {cs : List Value} (h : Sl G' p n c sz cs) (hp : ∀ b ∈ H1 p, G b = none) (hle : A7 G0 G) : Sl (B7 G' G0) p n c sz cs := by
 obtain ⟨h1, h2, h3, h4⟩ := h
 refine ⟨h1, h2, h3, h4.imp id ?_⟩
 rintro ⟨b, o, full, rfl, e2, e3⟩
 refine ⟨b, o, full, rfl, ?_, e3⟩
 have hb := hp b (by simp [H1])
 have h0 : G0 b = none := by
  cases h1 : G0 b with
  | none => rfl
  | some l => rw [hle b l h1] at hb; cases hb
 simp [B7, h0, e2]

mutual
def O9 (G : IM) : Ty → List Value → List Nat → Prop
 | .mk k ks, cells, F => ∃ p c es Fs, cells = [.int .i64 k, .slice p ks.length c] ∧ C1 k ∧ C0 G p ks.length c 2 es ∧ N5 G ks es Fs ∧ F = H1 p ++ Fs ∧ (∀ b ∈ H1 p, G b ≠ none)
def N5 (G : IM) : List Ty → List (List Value) → List Nat → Prop
 | [], es, F => es = [] ∧ F = []
 | t :: ts, es, F => ∃ a r Fa Fr, es = a :: r ∧ O9 G t a Fa ∧ N5 G ts r Fr ∧ F = Fa ++ Fr
end
mutual
theorem O9.R {G : IM} : ∀ {t : Ty} {cells : List Value} {F : List Nat}, O9 G t cells F → A8 G t cells
 | .mk k ks, cells, F, h => by
  simp only [O9] at h
  obtain ⟨p, c, es, Fs, h1, h2, h3, h4, _⟩ := h
  simp only [A8]
  exact ⟨p, c, es, h1, h2, h3, N5.R h4⟩
theorem N5.R {G : IM} : ∀ {ts : List Ty} {es : List (List Value)} {F : List Nat}, N5 G ts es F → C3 G ts es
 | [], es, F, h => by simp only [N5] at h; simp only [C3]; exact h.1
 | t :: ts, es, F, h => by
  simp only [N5] at h
  obtain ⟨a, r, Fa, Fr, h1, h2, h3, _⟩ := h
  simp only [C3]
  exact ⟨a, r, h1, O9.R h2, N5.R h3⟩
end
mutual
theorem O9.mono {G G' : IM} (hg : A7 G G') : ∀ {t : Ty} {cells : List Value} {F : List Nat}, O9 G t cells F → O9 G' t cells F
 | .mk k ks, cells, F, h => by
  simp only [O9] at h ⊢
  obtain ⟨p, c, es, Fs, h1, h2, h3, h4, h5, h6⟩ := h
  exact ⟨p, c, es, Fs, h1, h2, h3.mono hg, N5.mono hg h4, h5, fun b hb => by cases hgb : G b with | none => exact absurd hgb (h6 b hb) | some l => rw [hg b l hgb]; simp⟩
theorem N5.mono {G G' : IM} (hg : A7 G G') : ∀ {ts : List Ty} {es : List (List Value)} {F : List Nat}, N5 G ts es F → N5 G' ts es F
 | [], es, F, h => by simpa only [N5] using h
 | t :: ts, es, F, h => by
  simp only [N5] at h ⊢
  obtain ⟨a, r, Fa, Fr, h1, h2, h3, h4⟩ := h
  exact ⟨a, r, Fa, Fr, h1, O9.mono hg h2, N5.mono hg h3, h4⟩
end
mutual
theorem O9.inG {G : IM} : ∀ {t : Ty} {cells : List Value} {F : List Nat}, O9 G t cells F → ∀ b ∈ F, G b ≠ none
 | .mk k ks, cells, F, h => by
  simp only [O9] at h
  obtain ⟨p, c, es, Fs, h1, h2, h3, h4, rfl, h6⟩ := h
  intro b hb
  rcases List.mem_append.1 hb with hb | hb
  ·exact h6 b hb
  ·exact N5.inG h4 b hb
theorem N5.inG {G : IM} : ∀ {ts : List Ty} {es : List (List Value)} {F : List Nat}, N5 G ts es F → ∀ b ∈ F, G b ≠ none
 | [], es, F, h => by simp only [N5] at h; rw [h.2]; simp
 | t :: ts, es, F, h => by
  simp only [N5] at h
  obtain ⟨a, r, Fa, Fr, h1, h2, h3, rfl⟩ := h
  intro b hb
  rcases List.mem_append.1 hb with hb | hb
  ·exact O9.inG h2 b hb
  ·exact N5.inG h3 b hb
end
theorem N5.snoc {G : IM} : ∀ {ts : List Ty} {es : List (List Value)} {F : List Nat} {t : Ty} {a : List Value} {Fa : List Nat}, N5 G ts es F → O9 G t a Fa → N5 G (ts ++ [t]) (es ++ [a]) (F ++ Fa)
 | [], es, F, t, a, Fa, h, h2 => by
  simp only [N5] at h
  obtain ⟨rfl, rfl⟩ := h
  simp only [List.nil_append, N5]
  exact ⟨a, [], Fa, [], rfl, h2, ⟨rfl, rfl⟩, by simp⟩
 | t' :: ts, es, F, t, a, Fa, h, h2 => by
  simp only [N5] at h
  obtain ⟨a', r, Fa', Fr, rfl, h3, h4, rfl⟩ := h
  simp only [List.cons_append, N5]
  exact ⟨a', r ++ [a], Fa', Fr ++ Fa, rfl, h3, N5.snoc h4 h2, by simp⟩

theorem C0.kidTy {G : IM} {p : Option Addr} {n c : Nat} {es : List (List Value)} {ks : List Ty} (h : C0 G p n c 2 es) (hk : C3 G ks es) {i : Nat} (hi : i < n) (hn : i < ks.length) :
  ∃ b o p2 c2, p = some ⟨b, o, none⟩ ∧ (∀ hp, At hp G b (o + i * 2) [.int .i64 ks[i].k, .slice p2 ks[i].ks.length c2]) ∧ A8 G ks[i] [.int .i64 ks[i].k, .slice p2 ks[i].ks.length c2] ∧ G b ≠ none := by
 obtain ⟨e, b, o, he, h1, h2, h3, h4, h5⟩ := h.get hi
 obtain ⟨e', he', hr⟩ := hk.get (i := i) (t := ks[i]) (by simp [hn])
 rw [he] at he'; cases he'
 obtain ⟨p2, c2, _, rfl, _⟩ := hr.open
 exact ⟨b, o, p2, c2, h1, h4, hr, h5⟩

theorem N5.step {G Gi G1 : IM} {ks : List Ty} {i : Nat} {es : List (List Value)} {F F' : List Nat} {a : List Value} (h : N5 (B7 Gi G) (ks.take i) es F) (hn : F.Nodup) (hle : A7 G Gi) (hle1 : A7 Gi G1) (hi : i < ks.length)
  (ha : O9 (B7 G1 Gi) ks[i] a F') (hn' : F'.Nodup) : N5 (B7 G1 G) (ks.take (i + 1)) (es ++ [a]) (F ++ F') ∧ (F ++ F').Nodup := by
 constructor
 ·rw [List.take_succ_eq_append_getElem hi]
  exact N5.snoc (h.mono (B7.mono hle1)) (ha.mono (B7.anti hle))
 ·rw [List.nodup_append]
  refine ⟨hn, hn', ?_⟩
  rintro x hx y hy rfl
  have h1 := h.inG x hx
  have h2 := B7.out (ha.inG x hy)
  apply h1
  cases hd : B7 Gi G x with
  | none => rfl
  | some l => rw [B7.le _ _ x l hd] at h2; cases h2
theorem O9.fin {G Gi G2 : IM} {k : Int} {ks : List Ty} {es : List (List Value)} {F : List Nat} {p : Option Addr} {c : Nat} (h : N5 (B7 Gi G) ks es F) (hn : F.Nodup) (hle : A7 G Gi) (hle2 : A7 Gi G2)
  (hsl : Sl G2 p ks.length c 2 es.flatten) (hnn : ∀ b ∈ H1 p, Gi b = none ∧ G2 b ≠ none) (hk : C1 k) :
  ∃ F', O9 (B7 G2 G) (.mk k ks) [.int .i64 k, .slice p ks.length c] F' ∧ F'.Nodup := by
 have hno := fun b hb => (hnn b hb).1
 have hin := fun b hb => (hnn b hb).2
 have hR := h.R
 refine ⟨H1 p ++ F, ?_, ?_⟩
 ·simp only [O9]
  refine ⟨p, c, es, F, rfl, hk, C0.of (hsl.dif hno hle) hR.len hR.all ?_, h.mono (B7.mono hle2), rfl, ?_⟩
  ·intro e he
   obtain ⟨i, hi⟩ := List.getElem?_of_mem he
   have hlt : i < ks.length := by have := (List.getElem?_eq_some_iff.1 hi).1; rw [hR.len] at this; exact this
   obtain ⟨e', he', hr⟩ := hR.get (i := i) (t := ks[i]) (by simp [hlt])
   rw [hi] at he'; cases he'; exact hr.one
  ·intro b hb
   have h0 := hno b hb
   cases hg : G b with
   | none => simpa [B7, hg] using hin b hb
   | some l => rw [hle b l hg] at h0; cases h0
 ·rw [List.nodup_append]
  refine ⟨by cases p <;> simp [H1], hn, ?_⟩
  rintro x hx y hy rfl
  have h1 := h.inG x hy
  have h2 := hno x hx
  apply h1
  cases hd : B7 Gi G x with
  | none => rfl
  | some l => rw [B7.le _ _ x l hd] at h2; cases h2

def A07 (q : Nat → Bool) (n : Nat) : Int := match (List.range n).find? q with | some i => i | none => -1
theorem A77 {q : Nat → Bool} {n : Nat} (h : ∀ j, j < n → q j = false) : A07 q n = -1 := by
 have : (List.range n).find? q = none := by
  rw [List.find?_eq_none]
  intro x hx
  rw [h x (List.mem_range.1 hx)]; simp
 simp [A07, this]
theorem B2d {q : Nat → Bool} {n i : Nat} (hi : i < n) (h : ∀ j, j < i → q j = false) (hq : q i = true) : A07 q n = i := by
 have : (List.range n).find? q = some i := by
  rw [List.find?_eq_some_iff_append]
  refine ⟨hq, List.range i, (List.range n).drop (i + 1), ?_, ?_⟩
  ·apply List.ext_getElem?
   intro k
   simp only [List.getElem?_append, List.length_range, List.getElem?_range', List.getElem?_cons, List.getElem?_drop]
   by_cases h1 : k < i
   ·simp [h1, show k < n by omega]
   ·by_cases h2 : k = i
    ·subst h2; simp [hi]
    ·have h3 : k - i ≠ 0 := by omega
     simp only [h1, if_false, h3]
     rw [show i + 1 + (k - i - 1) = k by omega]
  ·intro a ha
   simp [h a (List.mem_range.1 ha)]
 simp [A07, this]

def U1 (n lo hi : Int) : Bool := decide (lo ≤ n ∧ n ≤ hi)
theorem B2e {n lo hi : Int} (h : U1 n lo hi = true) : lo ≤ n ∧ n ≤ hi := by simpa [U1] using h
theorem B2f {n lo hi : Int} (h : U1 n lo hi = false) : ¬(lo ≤ n ∧ n ≤ hi) := by simpa [U1] using h
def V9 (k : Int) : Int := if k = 1 ∨ k = 2 ∨ k = 3 then 0 else if k = 4 ∨ k = 5 then 2 else -1
theorem N2 (k : Int) : (k = 1 ∨ k = 2 ∨ k = 3 → V9 k = 0) ∧ (k = 4 ∨ k = 5 → V9 k = 2) ∧ (k ≠ 1 → k ≠ 2 → k ≠ 3 → k ≠ 4 → k ≠ 5 → V9 k = -1) := by
 unfold V9; split <;> try split
 all_goals omega
def D5 (k : Int) : Int := if k = 1 ∨ k = 2 ∨ k = 3 ∨ k = 4 then 0 else if k = 5 ∨ k = 11 ∨ k = 12 ∨ k = 13 ∨ k = 14 then 1 else if k = 6 ∨ k = 7 ∨ k = 8 ∨ k = 10 then 2 else if k = 9 then 3 else -1

mutual
def K3 : Ty → Int → Bool
 | .mk k ks, d => decide (d ≤ 4) && decide (V9 k = ks.length) && U2 ks (d + 1)
def U2 : List Ty → Int → Bool
 | [], _ => true
 | t :: ts, d => K3 t d && U2 ts d
end
theorem A4C : ∀ (ts : List Ty) (d : Int), U2 ts d = true ↔ ∀ i, (h : i < ts.length) → K3 ts[i] d = true
 | [], d => by simp [U2]
 | t :: ts, d => by
  simp only [U2, Bool.and_eq_true, A4C ts d]
  constructor
  ·rintro ⟨h1, h2⟩ i hi
   cases i with
   | zero => exact h1
   | succ i => exact h2 i (by simpa using hi)
  ·intro h
   exact ⟨h 0 (by simp), fun i hi => h (i + 1) (by simpa using hi)⟩
def E4 (t : Ty) : Bool := K3 t 1
def Z5 (t : Ty) : Bool := decide (t.k = 0 ∧ t.ks.length = 0)

mutual
def J6 : Ty → Ty → Bool
 | .mk k ks, t => decide (k = 1) || decide (t.k = 1) || (decide (k = t.k) && M6 ks t.ks)
def M6 : List Ty → List Ty → Bool
 | [], [] => true
 | a :: xs, b :: ys => J6 a b && M6 xs ys
 | _, _ => false
end
theorem T0 (k k' : Int) (ks ks' : List Ty) : J6 (.mk k ks) (.mk k' ks') = (decide (k = 1) || decide (k' = 1) || (decide (k = k') && M6 ks ks')) := by rw [J6]; rfl
theorem A2z : ∀ (xs ys : List Ty), M6 xs ys = true ↔ xs.length = ys.length ∧ ∀ i, (h : i < xs.length) → (h' : i < ys.length) → J6 xs[i] ys[i] = true
 | [], [] => by simp [M6]
 | [], b :: ys => by simp [M6]
 | a :: xs, [] => by simp [M6]
 | a :: xs, b :: ys => by
  simp only [M6, Bool.and_eq_true, A2z xs ys, List.length_cons]
  constructor
  ·rintro ⟨h1, h2, h3⟩
   refine ⟨by omega, fun i hi hi' => ?_⟩
   cases i with
   | zero => exact h1
   | succ i => exact h3 i (by simpa using hi) (by simpa using hi')
  ·rintro ⟨h1, h2⟩
   exact ⟨h2 0 (by simp) (by simp), by omega, fun i hi hi' => h2 (i + 1) (by simpa using hi) (by simpa using hi')⟩
def A16 (a b : Ty) : Bool := E4 a && E4 b && J6 a b
def Y4 (s : ByteArray) : Bool := decide (s.size = 1 ∧ 97 ≤ (s.data.getD 0 0).toNat ∧ (s.data.getD 0 0).toNat ≤ 122)
def A1n (n : Int) : Bool := U1 n 1 99 || U1 n (-99) (-1)

theorem A4D {s : ByteArray} {j : Int} (h : j.toNat < s.size) : s[j.toNat]? = some (s.data.getD j.toNat 0) := by
 rw [getElem?_pos s j.toNat h]
 show some (s.data[j.toNat]'h) = _
 rw [Array.getD_eq_getD_getElem?, getElem?_pos s.data j.toNat h]
 rfl
theorem B2g {q : Nat → Bool} {n : Nat} : A07 q n < 0 ↔ ∀ j, j < n → q j = false := by
 constructor
 ·intro h j hj
  unfold A07 at h
  split at h
  ·omega
  ·rename_i hf
   have := List.find?_eq_none.1 hf j (List.mem_range.2 hj)
   simpa using this
 ·intro h; rw [A77 h]; omega
theorem A78 {q : Nat → Bool} {n : Nat} : 0 ≤ A07 q n ↔ ∃ j, j < n ∧ q j = true := by
 have h := @B2g q n
 constructor
 ·intro h0
  apply Classical.byContradiction
  intro hn
  have : A07 q n < 0 := h.2 fun j hj => by cases hq : q j with | false => rfl | true => exact absurd ⟨j, hj, hq⟩ hn
  omega
 ·rintro ⟨j, hj, hq⟩
  apply Classical.byContradiction
  intro hn
  rw [h.1 (by omega) j hj] at hq
  exact absurd hq (by simp)
theorem B2h {α : Type} (f : α → Bool) (ks : List α) (a : α) : decide (0 ≤ A07 (fun i => !f (ks.getD i a)) ks.length) = !ks.all f := by
 cases h : ks.all f with
 | true =>
  rw [List.all_eq_true] at h
  apply decide_eq_false
  rw [A78]
  rintro ⟨j, hj, hq⟩
  rw [List.getD_eq_getElem?_getD, List.getElem?_eq_getElem hj, Option.getD_some, h _ (List.getElem_mem hj)] at hq
  exact absurd hq (by simp)
 | false =>
  apply decide_eq_true
  rw [A78]
  apply Classical.byContradiction
  intro hn
  have : ks.all f = true := by
   rw [List.all_eq_true]
   intro x hx
   obtain ⟨j, hj, rfl⟩ := List.getElem_of_mem hx
   cases hf : f ks[j] with
   | true => rfl
   | false => exact absurd ⟨j, hj, by rw [List.getD_eq_getElem?_getD, List.getElem?_eq_getElem hj, Option.getD_some, hf]; rfl⟩ hn
  rw [h] at this
  exact absurd this (by simp)
theorem W3 : ∀ (ks : List Ty) (d : Int), U2 ks d = ks.all (K3 · d)
 | [], d => rfl
 | t :: ts, d => by simp [U2, W3 ts d]
theorem C3.inv {G : IM} : ∀ {ts : List Ty} {es : List (List Value)}, C3 G ts es → ∀ {i : Nat} {e : List Value}, es[i]? = some e → ∀ a, ts.getD i a ∈ ts ∧ A8 G (ts.getD i a) e
 | [], es, h, i, e, he, a => by
  have := h.len
  simp only [List.length_nil, List.length_eq_zero_iff] at this
  subst this; simp at he
 | t :: ts, es, h, i, e, he, a => by
  have hi : i < es.length := by
   apply Classical.byContradiction; intro hn; rw [List.getElem?_eq_none (by omega)] at he; simp at he
  have hl := h.len
  obtain ⟨e', he', hr⟩ := h.get (i := i) (t := (t :: ts)[i]'(by omega)) (by rw [List.getElem?_eq_getElem])
  rw [he] at he'
  obtain rfl := Option.some.inj he'
  rw [List.getD_eq_getElem?_getD, List.getElem?_eq_getElem (by omega), Option.getD_some]
  exact ⟨List.getElem_mem _, hr⟩
theorem F4.inv {G : IM} : ∀ {ts : List Tm} {es : List (List Value)}, F4 G ts es → ∀ {i : Nat} {e : List Value}, es[i]? = some e → ∀ a, ts.getD i a ∈ ts ∧ B5 G (ts.getD i a) e
 | [], es, h, i, e, he, a => by
  have := h.len
  simp only [List.length_nil, List.length_eq_zero_iff] at this
  subst this; simp at he
 | t :: ts, es, h, i, e, he, a => by
  have hi : i < es.length := by
   apply Classical.byContradiction; intro hn; rw [List.getElem?_eq_none (by omega)] at he; simp at he
  have hl := h.len
  obtain ⟨e', he', hr⟩ := h.get (i := i) (t := (t :: ts)[i]'(by omega)) (by rw [List.getElem?_eq_getElem])
  rw [he] at he'
  obtain rfl := Option.some.inj he'
  rw [List.getD_eq_getElem?_getD, List.getElem?_eq_getElem (by omega), Option.getD_some]
  exact ⟨List.getElem_mem _, hr⟩
def A5 : Ty := .mk 0 []
theorem B2i {p : Prop} [Decidable p] {x y : Bool} : ((if p then x else y) = true) ↔ ((p → x = true) ∧ (¬p → y = true)) := by by_cases h : p <;> simp [h]
theorem B2j {k : Int} (h : 1 ≤ k ∧ k ≤ 14) : ([Value.int .i64 0, .int .i64 0, .int .i64 0, .int .i64 0, .int .i64 1, .int .i64 2, .int .i64 2, .int .i64 2, .int .i64 3, .int .i64 2, .int .i64 1, .int .i64 1, .int .i64 1, .int .i64 1])[(k - 1).toNat]? = some (.int .i64 (D5 k)) := by
 have : k = 1 ∨ k = 2 ∨ k = 3 ∨ k = 4 ∨ k = 5 ∨ k = 6 ∨ k = 7 ∨ k = 8 ∨ k = 9 ∨ k = 10 ∨ k = 11 ∨ k = 12 ∨ k = 13 ∨ k = 14 := by omega
 rcases this with rfl | rfl | rfl | rfl | rfl | rfl | rfl | rfl | rfl | rfl | rfl | rfl | rfl | rfl <;> rfl
theorem A4E {k : Int} (h : ¬(1 ≤ k ∧ k ≤ 14)) : D5 k = -1 := by
 unfold D5; repeat (split; omega)
 rfl
theorem B2k {cs : List Value} {o : Nat} {v : Value} (h : cs[o]? = some v) : ∀ j u, [v][j]? = some u → cs[o + j]? = some u := by
 intro j u hj
 cases j with
 | zero => simpa using hj ▸ h
 | succ j => simp at hj
def X7 (k : Int) (nm : ByteArray) (num : Int) (ty fr : Ty) (lb : Int) (n : Nat) : Bool :=
 decide (D5 k = n) && (if k = 1 ∨ k = 5 then Y4 nm else decide (nm = ⟨#[]⟩)) && (if k = 2 then U1 num 0 999 else U1 num 0 0) &&
 (if k = 5 ∨ k = 13 ∨ k = 14 then E4 ty else Z5 ty) && (if k = 14 then A16 fr ty && A1n lb else Z5 fr && decide (lb = 0))
theorem R7 {k : Int} {nm : ByteArray} {num : Int} {ty fr : Ty} {lb : Int} {n : Nat} : X7 k nm num ty fr lb n = true ↔
  D5 k = n ∧ (k = 1 ∨ k = 5 → Y4 nm = true) ∧ (¬(k = 1 ∨ k = 5) → nm = ⟨#[]⟩) ∧ (k = 2 → U1 num 0 999 = true) ∧ (k ≠ 2 → U1 num 0 0 = true) ∧
  (k = 5 ∨ k = 13 ∨ k = 14 → E4 ty = true) ∧ (¬(k = 5 ∨ k = 13 ∨ k = 14) → Z5 ty = true) ∧ (k = 14 → A16 fr ty = true ∧ A1n lb = true) ∧ (k ≠ 14 → Z5 fr = true ∧ lb = 0) := by
 simp only [X7, Bool.and_eq_true, B2i, decide_eq_true_eq, and_assoc, ne_eq]
mutual
def T1 (M D N : Int) : Tm → Int → Int → Bool × Int
 | .mk k nm num ty fr lb ks, deep, c => if c + 1 > M ∨ deep > D ∨ k = N ∨ X7 k nm num ty fr lb ks.length = false then (false, c + 1) else V0 M D N ks (deep + 1) (c + 1)
def V0 (M D N : Int) : List Tm → Int → Int → Bool × Int
 | [], _, c => (true, c)
 | t :: ts, deep, c => if (T1 M D N t deep c).1 = true then V0 M D N ts deep (T1 M D N t deep c).2 else (false, (T1 M D N t deep c).2)
end
mutual
theorem A79 (M D N : Int) : ∀ (t : Tm) (deep c : Int), 0 ≤ c → c ≤ M → c < (T1 M D N t deep c).2 ∧ (T1 M D N t deep c).2 ≤ M + 1 ∧ ((T1 M D N t deep c).1 = true → (T1 M D N t deep c).2 ≤ M)
 | .mk k nm num ty fr lb ks, deep, c, h0, h1 => by
  rw [T1]
  split
  ·simp; omega
  ·rename_i h
   have := A8a M D N ks (deep + 1) (c + 1) (by omega) (by omega)
   exact ⟨by omega, this.2⟩
theorem A8a (M D N : Int) : ∀ (ts : List Tm) (deep c : Int), 0 ≤ c → c ≤ M → c ≤ (V0 M D N ts deep c).2 ∧ (V0 M D N ts deep c).2 ≤ M + 1 ∧ ((V0 M D N ts deep c).1 = true → (V0 M D N ts deep c).2 ≤ M)
 | [], deep, c, h0, h1 => by rw [V0]; simp; omega
 | t :: ts, deep, c, h0, h1 => by
  have := A79 M D N t deep c h0 h1
  rw [V0]
  split
  ·rename_i h
   have h2 := A8a M D N ts deep (T1 M D N t deep c).2 (by omega) (this.2.2 h)
   exact ⟨by omega, h2.2⟩
  ·simp; omega
end
def W4 (t : Tm) : Bool := (T1 200 40 13 t 1 0).1
def O6 (t : Tm) : Bool := (T1 30 12 14 t 1 0).1
theorem C0.kidTm {G : IM} {p : Option Addr} {n c : Nat} {es : List (List Value)} {ks : List Tm} (h : C0 G p n c 9 es) (hk : F4 G ks es) {i : Nat} (hi : i < n) (hn : i < ks.length) :
  ∃ b o e, p = some ⟨b, o, none⟩ ∧ e.length = 9 ∧ (∀ hp, At hp G b (o + i * 9) e) ∧ B5 G ks[i] e ∧ G b ≠ none := by
 obtain ⟨e, b, o, he, hp, hl, _, hat, hg⟩ := h.get hi
 have := (hk.inv he (ks[i])).2
 rw [List.getD_eq_getElem?_getD, List.getElem?_eq_getElem hn, Option.getD_some] at this
 exact ⟨b, o, e, hp, hl, hat, this, hg⟩
theorem A4F {M D N : Int} {k : Int} {nm : ByteArray} {num : Int} {ty fr : Ty} {lb : Int} {ks : List Tm} {deep c : Int} (h : c + 1 > M ∨ deep > D ∨ k = N ∨ X7 k nm num ty fr lb ks.length = false) :
  T1 M D N (.mk k nm num ty fr lb ks) deep c = (false, c + 1) := by rw [T1, if_pos h]
theorem B2l {M D N : Int} {k : Int} {nm : ByteArray} {num : Int} {ty fr : Ty} {lb : Int} {ks : List Tm} {deep c : Int} (h1 : ¬(c + 1 > M ∨ deep > D ∨ k = N)) (h2 : X7 k nm num ty fr lb ks.length = true) :
  T1 M D N (.mk k nm num ty fr lb ks) deep c = V0 M D N ks (deep + 1) (c + 1) := by
 rw [T1, if_neg]
 rw [h2]
 intro h
 apply h1
 rcases h with h | h | h | h
 ·exact .inl h
 ·exact .inr (.inl h)
 ·exact .inr (.inr h)
 ·cases h
theorem B2m {M D N : Int} {ks : List Tm} {i : Nat} {deep c : Int} (hi : i < ks.length) (h : (T1 M D N ks[i] deep c).1 = true) : V0 M D N (ks.drop i) deep c = V0 M D N (ks.drop (i + 1)) deep (T1 M D N ks[i] deep c).2 := by
 rw [List.drop_eq_getElem_cons hi, V0, if_pos h]
theorem B2n {M D N : Int} {ks : List Tm} {i : Nat} {deep c : Int} (hi : i < ks.length) (h : (T1 M D N ks[i] deep c).1 = false) : V0 M D N (ks.drop i) deep c = (false, (T1 M D N ks[i] deep c).2) := by
 rw [List.drop_eq_getElem_cons hi, V0, if_neg (by rw [h]; simp)]
theorem B2o {M D N : Int} {ks : List Tm} {i : Nat} {deep c : Int} (hi : i = ks.length) : V0 M D N (ks.drop i) deep c = (true, c) := by
 rw [hi, List.drop_length, V0]
section blk
variable {P : Program} {Γ : I3} {env : J0} {hp : List A1} {G : IM} {K : Po} {ops : Array Oper} {rest : List Oper}
end blk

theorem A56 : ∀ {A B C V : List Value} {o : Nat}, A.length = o → B.length = V.length → R1 (A ++ (B ++ C)) o V = some (A ++ (V ++ C))
 | [], B, C, V, o, h, hv => by
  simp at h; subst h
  simp only [List.nil_append]
  induction B generalizing V with
  | nil => cases V with
   | nil => cases C <;> rfl
   | cons v V => simp at hv
  | cons b B ih => cases V with
   | nil => simp at hv
   | cons v V =>
    simp only [List.cons_append, R1, ih (V := V) (by simpa using hv)]
 | a :: A, B, C, V, o, h, hv => by
  simp at h; subst h
  simp only [List.cons_append, R1, A56 (A := A) (B := B) (C := C) rfl hv]
theorem A17 {sz : Nat} : ∀ {es : List (List Value)}, (∀ e ∈ es, e.length = sz) → es.flatten.length = es.length * sz
 | [], _ => by simp
 | e :: es, h => by
  rw [List.flatten_cons, List.length_append, h e List.mem_cons_self, A17 (es := es) fun x hx => h x (List.mem_cons_of_mem _ hx), List.length_cons, Nat.succ_mul]; omega
def A8b (G : IM) (ks : List Ty) (p : Option Addr) (c : Nat) (F : List Nat) : Prop := ∃ es Fs, C0 G p ks.length c 2 es ∧ N5 G ks es Fs ∧ F = H1 p ++ Fs ∧ (∀ b ∈ H1 p, G b ≠ none)
theorem O9.open {G : IM} {t : Ty} {cells : List Value} {F : List Nat} (h : O9 G t cells F) : ∃ p c, cells = [.int .i64 t.k, .slice p t.ks.length c] ∧ C1 t.k ∧ A8b G t.ks p c F := by
 cases t
 simp only [O9] at h
 obtain ⟨p, c, es, Fs, h0, hk, h1, h2, h3, h4⟩ := h
 exact ⟨p, c, h0, hk, es, Fs, h1, h2, h3, h4⟩
mutual
def P0 (G : IM) : Tm → List Value → List Nat → Prop
 | .mk k nm num ty fr lb ks, cells, F => ∃ tc fc p c es Ft Ff Fs, cells = [.int .i64 k, .string nm, .int .i64 num] ++ tc ++ fc ++ [.int .i64 lb, .slice p ks.length c] ∧ C1 k ∧ C1 num ∧ C1 lb ∧ O9 G ty tc Ft ∧ O9 G fr fc Ff ∧
   C0 G p ks.length c 9 es ∧ L8 G ks es Fs ∧ F = Ft ++ (Ff ++ (H1 p ++ Fs)) ∧ (∀ b ∈ H1 p, G b ≠ none)
def L8 (G : IM) : List Tm → List (List Value) → List Nat → Prop
 | [], es, F => es = [] ∧ F = []
 | t :: ts, es, F => ∃ a r Fa Fr, es = a :: r ∧ P0 G t a Fa ∧ L8 G ts r Fr ∧ F = Fa ++ Fr
end
def A08 (G : IM) (ks : List Tm) (p : Option Addr) (c : Nat) (F : List Nat) : Prop := ∃ es Fs, C0 G p ks.length c 9 es ∧ L8 G ks es Fs ∧ F = H1 p ++ Fs ∧ (∀ b ∈ H1 p, G b ≠ none)
mutual
theorem P0.R {G : IM} : ∀ {t : Tm} {cells : List Value} {F : List Nat}, P0 G t cells F → B5 G t cells
 | .mk k nm num ty fr lb ks, cells, F, h => by
  simp only [P0] at h
  obtain ⟨tc, fc, p, c, es, Ft, Ff, Fs, h1, h2, h3, h4, h5, h6, h7, h8, _⟩ := h
  simp only [B5]
  exact ⟨tc, fc, p, c, es, h1, h2, h3, h4, h5.R, h6.R, h7, L8.R h8⟩
theorem L8.R {G : IM} : ∀ {ts : List Tm} {es : List (List Value)} {F : List Nat}, L8 G ts es F → F4 G ts es
 | [], es, F, h => by simp only [L8] at h; simp only [F4]; exact h.1
 | t :: ts, es, F, h => by
  simp only [L8] at h
  obtain ⟨a, r, Fa, Fr, h1, h2, h3, _⟩ := h
  simp only [F4]
  exact ⟨a, r, h1, P0.R h2, L8.R h3⟩
end
theorem A26 {G G' : IM} (hg : A7 G G') {F : List Nat} (h : ∀ b ∈ F, G b ≠ none) : ∀ b ∈ F, G' b ≠ none := fun b hb => by
 cases hgb : G b with
 | none => exact absurd hgb (h b hb)
 | some l => rw [hg b l hgb]; simp
mutual
theorem P0.mono {G G' : IM} (hg : A7 G G') : ∀ {t : Tm} {cells : List Value} {F : List Nat}, P0 G t cells F → P0 G' t cells F
 | .mk k nm num ty fr lb ks, cells, F, h => by
  simp only [P0] at h ⊢
  obtain ⟨tc, fc, p, c, es, Ft, Ff, Fs, h1, h2, h3, h4, h5, h6, h7, h8, h9, h10⟩ := h
  exact ⟨tc, fc, p, c, es, Ft, Ff, Fs, h1, h2, h3, h4, h5.mono hg, h6.mono hg, h7.mono hg, L8.mono hg h8, h9, A26 hg h10⟩
theorem L8.mono {G G' : IM} (hg : A7 G G') : ∀ {ts : List Tm} {es : List (List Value)} {F : List Nat}, L8 G ts es F → L8 G' ts es F
 | [], es, F, h => by simpa only [L8] using h
 | t :: ts, es, F, h => by
  simp only [L8] at h ⊢
  obtain ⟨a, r, Fa, Fr, h1, h2, h3, h4⟩ := h
  exact ⟨a, r, Fa, Fr, h1, P0.mono hg h2, L8.mono hg h3, h4⟩
end
mutual
theorem P0.inG {G : IM} : ∀ {t : Tm} {cells : List Value} {F : List Nat}, P0 G t cells F → ∀ b ∈ F, G b ≠ none
 | .mk k nm num ty fr lb ks, cells, F, h => by
  simp only [P0] at h
  obtain ⟨tc, fc, p, c, es, Ft, Ff, Fs, h1, h2, h3, h4, h5, h6, h7, h8, rfl, h10⟩ := h
  intro b hb
  simp only [List.mem_append] at hb
  rcases hb with hb | hb | hb | hb
  ·exact h5.inG b hb
  ·exact h6.inG b hb
  ·exact h10 b hb
  ·exact L8.inG h8 b hb
theorem L8.inG {G : IM} : ∀ {ts : List Tm} {es : List (List Value)} {F : List Nat}, L8 G ts es F → ∀ b ∈ F, G b ≠ none
 | [], es, F, h => by simp only [L8] at h; rw [h.2]; simp
 | t :: ts, es, F, h => by
  simp only [L8] at h
  obtain ⟨a, r, Fa, Fr, h1, h2, h3, rfl⟩ := h
  intro b hb
  rcases List.mem_append.1 hb with hb | hb
  ·exact P0.inG h2 b hb
  ·exact L8.inG h3 b hb
end
theorem L8.snoc {G : IM} : ∀ {ts : List Tm} {es : List (List Value)} {F : List Nat} {t : Tm} {a : List Value} {Fa : List Nat}, L8 G ts es F → P0 G t a Fa → L8 G (ts ++ [t]) (es ++ [a]) (F ++ Fa)
 | [], es, F, t, a, Fa, h, h2 => by
  simp only [L8] at h
  obtain ⟨rfl, rfl⟩ := h
  simp only [List.nil_append, L8]
  exact ⟨a, [], Fa, [], rfl, h2, ⟨rfl, rfl⟩, by simp⟩
 | t' :: ts, es, F, t, a, Fa, h, h2 => by
  simp only [L8] at h
  obtain ⟨a', r, Fa', Fr, rfl, h3, h4, rfl⟩ := h
  simp only [List.cons_append, L8]
  exact ⟨a', r ++ [a], Fa', Fr ++ Fa, rfl, h3, L8.snoc h4 h2, by simp⟩
theorem A2A {G Gi : IM} {F F' : List Nat} {G1 : IM} (h : ∀ b ∈ F, B7 Gi G b ≠ none) (h' : ∀ b ∈ F', B7 G1 Gi b ≠ none) : ∀ x ∈ F, ∀ y ∈ F', x ≠ y := by
 rintro x hx y hy rfl
 have h1 := h x hx
 have h2 := B7.out (h' x hy)
 apply h1
 cases hd : B7 Gi G x with
 | none => rfl
 | some l => rw [B7.le _ _ x l hd] at h2; cases h2
theorem L8.step {G Gi G1 : IM} {ks : List Tm} {i : Nat} {es : List (List Value)} {F F' : List Nat} {a : List Value} (h : L8 (B7 Gi G) (ks.take i) es F) (hn : F.Nodup) (hle : A7 G Gi) (hle1 : A7 Gi G1) (hi : i < ks.length)
  (ha : P0 (B7 G1 Gi) ks[i] a F') (hn' : F'.Nodup) : L8 (B7 G1 G) (ks.take (i + 1)) (es ++ [a]) (F ++ F') ∧ (F ++ F').Nodup := by
 constructor
 ·rw [List.take_succ_eq_append_getElem hi]
  exact L8.snoc (h.mono (B7.mono hle1)) (ha.mono (B7.anti hle))
 ·rw [List.nodup_append]
  exact ⟨hn, hn', A2A h.inG ha.inG⟩
theorem B2p (p : Option Addr) : (H1 p).Nodup := by cases p <;> simp [H1]
theorem A08.fin {G Gi G2 : IM} {ks : List Tm} {es : List (List Value)} {F : List Nat} {p : Option Addr} {c : Nat} (h : L8 (B7 Gi G) ks es F) (hn : F.Nodup) (hle : A7 G Gi) (hle2 : A7 Gi G2)
  (hsl : Sl G2 p ks.length c 9 es.flatten) (hnn : ∀ b ∈ H1 p, Gi b = none ∧ G2 b ≠ none) :
  ∃ F', A08 (B7 G2 G) ks p c F' ∧ F'.Nodup := by
 have hR := h.R
 have hin : ∀ b ∈ H1 p, B7 G2 G b ≠ none := by
  intro b hb
  have h0 := (hnn b hb).1
  cases hg : G b with
  | none => simpa [B7, hg] using (hnn b hb).2
  | some l => rw [hle b l hg] at h0; cases h0
 refine ⟨H1 p ++ F, ⟨es, F, C0.of (hsl.dif (fun b hb => (hnn b hb).1) hle) hR.len hR.all ?_, h.mono (B7.mono hle2), rfl, hin⟩, ?_⟩
 ·intro e he
  obtain ⟨i, hi⟩ := List.getElem?_of_mem he
  have hlt : i < ks.length := by have := (List.getElem?_eq_some_iff.1 hi).1; rw [hR.len] at this; exact this
  obtain ⟨e', he', hr⟩ := hR.get (i := i) (t := ks[i]) (by simp [hlt])
  rw [hi] at he'; cases he'; exact hr.one
 ·rw [List.nodup_append]
  refine ⟨B2p p, hn, ?_⟩
  rintro x hx y hy rfl
  have h1 := h.inG x hy
  have h2 := (hnn x hx).1
  apply h1
  cases hd : B7 Gi G x with
  | none => rfl
  | some l => rw [B7.le _ _ x l hd] at h2; cases h2
theorem P0.mk3 {G G1 G2 G3 : IM} {k : Int} {nm : ByteArray} {num : Int} {ty fr : Ty} {lb : Int} {ks : List Tm} {tc fc : List Value} {p : Option Addr} {c : Nat} {F1 F2 F3 : List Nat} (hk : C1 k) (hnum : C1 num) (hlb : C1 lb)
  (hl1 : A7 G G1) (hl2 : A7 G1 G2) (hl3 : A7 G2 G3) (h1 : O9 (B7 G1 G) ty tc F1) (n1 : F1.Nodup) (h2 : O9 (B7 G2 G1) fr fc F2) (n2 : F2.Nodup) (h3 : A08 (B7 G3 G2) ks p c F3) (n3 : F3.Nodup) :
  ∃ F, P0 (B7 G3 G) (.mk k nm num ty fr lb ks) ([.int .i64 k, .string nm, .int .i64 num] ++ tc ++ fc ++ [.int .i64 lb, .slice p ks.length c]) F ∧ F.Nodup := by
 obtain ⟨es, Fs, e1, e2, rfl, e4⟩ := h3
 have i3 : ∀ b ∈ H1 p ++ Fs, B7 G3 G2 b ≠ none := by
  intro b hb
  rcases List.mem_append.1 hb with hb | hb
  ·exact e4 b hb
  ·exact e2.inG b hb
 have a2 : A7 (B7 G2 G1) (B7 G3 G) := fun b l h => B7.mono hl3 b l (B7.anti hl1 b l h)
 have a3 : A7 (B7 G3 G2) (B7 G3 G) := B7.anti (hl1.trans hl2)
 refine ⟨F1 ++ (F2 ++ (H1 p ++ Fs)), ?_, ?_⟩
 ·simp only [P0]
  exact ⟨tc, fc, p, c, es, F1, F2, Fs, rfl, hk, hnum, hlb, h1.mono (B7.mono (hl2.trans hl3)), h2.mono a2, e1.mono a3, e2.mono a3, rfl, A26 a3 e4⟩
 ·rw [List.nodup_append, List.nodup_append]
  refine ⟨n1, ⟨n2, n3, A2A h2.inG i3⟩, ?_⟩
  rintro x hx y hy rfl
  rcases List.mem_append.1 hy with hy | hy
  ·exact A2A h1.inG h2.inG x hx x hy rfl
  ·have h1' : ∀ b ∈ F1, B7 G2 G b ≠ none := A26 (B7.mono hl2) h1.inG
   exact A2A h1' i3 x hx x hy rfl
section clawss
variable {P : Program} {Γ : I3} {env : J0} {hp : List A1} {G : IM} {ty : TypeId}
theorem B2q {s d : TypeId} {is id : H7} [hS : C7 P s is] [hD : C7 P d id] (hd : id.desc = .int .u8) {k : IntKind} (hs : is.desc = .int k) {x : Operand} {n : Int} (hx : evo env x = some (.int k n)) (h0 : 0 ≤ n) (h1 : n ≤ 255) :
  E6 P Γ ⟨env, hp, G⟩ (.convert s d x) ty (.int .u8 n) := by
 refine ⟨fun a _ hst _ _ _ _ w => ?_⟩
 have hu := hD.und
 rw [hd] at hu
 have hus := hS.und
 rw [hs] at hus
 have hw : IntKind.u8.wrap n = n := IntWalk.u8_in n ⟨h0, h1⟩
 simp [execOp, convert, run_underlying hus, run_underlying hu, (hst.evo hx : a.eval x = _), Conv.intToInt, hw]
theorem B2r {s d e : TypeId} {is id ie : H7} [hS : C7 P s is] [hD : C7 P d id] [hE : C7 P e ie] (hs : is.desc = .slice e) (he : ie.desc = .int .u8) (hd : id.desc = .string) {x : Operand} {b o n c : Nat} {xs : List Int}
  (hx : evo env x = some (.slice (some ⟨b, o, none⟩) n c)) (hl : xs.length = n) (hv : At hp G b o (xs.map (Value.int .u8))) : A1D P Γ ⟨env, hp, G⟩ (.convert s d x) ty b (.string (strOfNums xs)) := by
 refine ⟨fun a w hst => ?_⟩
 obtain ⟨full, e', f, hb, hf⟩ := hv.read hst
 refine ⟨A0P hb, fun w' hw' d' pos af gd => ?_⟩
 have hus := hS.und
 rw [hs] at hus
 have hue := hE.und
 rw [he] at hue
 have hud := hD.und
 rw [hd] at hud
 have hc := run_convert_bytes_arg (P := P) w' s e hus hue b o n c xs hl (fun i hi => by
  have := hf i (.int .u8 (xs.getD i 0)) (by simp [List.getD, List.getElem?_eq_getElem (show i < xs.length by omega)])
  simp [World.cell?, hw', hb, this]) d hud
 have hx' : a.eval x = _ := hst.evo hx
 simp only [execOp, hx', Sem.run_bind]
 rw [hc]
 rfl
theorem A8c {x y : Operand} {t t' : TypeId} {m n : Nat} (hx : evo env x = some (.int .i64 (m : Int))) (hy : evo env y = some (.int .i64 (n : Int))) (hn : 0 < n) :
  E6 P Γ ⟨env, hp, G⟩ (.binOp .rem t x y t') ty (.int .i64 ((m % n : Nat) : Int)) := by
 have h := A4w (P := P) (Γ := Γ) (hp := hp) (G := G) (ty := ty) (t := t) (t' := t') hx hy (by omega)
 rwa [show ((m : Int).tmod n) = ((m % n : Nat) : Int) from rfl] at h
theorem A8d {x y : Operand} {t t' : TypeId} {m n : Nat} (hx : evo env x = some (.int .i64 (m : Int))) (hy : evo env y = some (.int .i64 (n : Int))) (hn : 0 < n) (hm : m ≤ 9223372036854775807) :
  E6 P Γ ⟨env, hp, G⟩ (.binOp .quo t x y t') ty (.int .i64 ((m / n : Nat) : Int)) := by
 have hd : m / n ≤ m := Nat.div_le_self _ _
 have e : ((m : Int).tdiv n) = ((m / n : Nat) : Int) := rfl
 have h := B1J (P := P) (Γ := Γ) (hp := hp) (G := G) (ty := ty) (t := t) (t' := t') hx hy (by omega) (by rw [e]; generalize m / n = q at *; omega) (by rw [e]; generalize m / n = q at *; omega)
 rwa [e] at h
end clawss
def dgi (k : Nat) : Int := 48 + ((k % 10 : Nat) : Int)
def A8e : Nat → Nat → ByteArray → ByteArray
 | 0, _, out => out
 | f + 1, k, out => if 0 < k then A8e f (k / 10) (strOfNums [dgi k] ++ out) else out
def B2s (k : Nat) : ByteArray := ⟨#[109]⟩ ++ A8e 20 k ⟨⟨[]⟩⟩
def A3L (l : List Int) : List Value := l.map (Value.int .i64 ·)
mutual
def C9 : Tm → Nat
 | .mk _ _ _ _ _ _ ks => D2 ks + 1
def D2 : List Tm → Nat
 | [] => 0
 | t :: ts => C9 t + D2 ts
end
mutual
def A4G : Tm → List Int → List (List Int)
 | .mk _ _ _ _ _ _ ks, path => path :: A8f ks 0 path
def A8f : List Tm → Nat → List Int → List (List Int)
 | [], _, _ => []
 | t :: ts, i, path => A4G t (path ++ [(i : Int)]) ++ A8f ts (i + 1) path
end
theorem A8g : ∀ {ks : List Tm} {t : Tm}, t ∈ ks → C9 t ≤ D2 ks
 | [], t, h => by simp at h
 | t' :: ts, t, h => by
  rw [D2]
  rcases List.mem_cons.1 h with rfl | h
  ·omega
  ·have := A8g h; omega
theorem A4H : ∀ (a b : List Tm), D2 (a ++ b) = D2 a + D2 b
 | [], b => by simp [D2]
 | t :: a, b => by rw [List.cons_append, D2, D2, A4H a b]; omega
theorem A4I {ks : List Tm} {i : Nat} (hi : i < ks.length) : D2 (ks.take i) + C9 ks[i] ≤ D2 ks := by
 have h := A4H (ks.take (i + 1)) (ks.drop (i + 1))
 rw [List.take_append_drop, List.take_succ_eq_append_getElem hi, A4H] at h
 simp only [D2] at h
 omega
theorem A4J {ks : List Tm} {i : Nat} (hi : i < ks.length) : D2 (ks.take (i + 1)) = D2 (ks.take i) + C9 ks[i] := by
 rw [List.take_succ_eq_append_getElem hi, A4H]
 simp only [D2]; omega
theorem B2t (t : Tm) : 0 < C9 t := by cases t; rw [C9]; omega
theorem A8h : ∀ (ks : List Tm), ks.length ≤ D2 ks
 | [] => by simp
 | .mk _ _ _ _ _ _ _ :: ts => by have := A8h ts; simp only [List.length_cons, D2, C9]; omega

theorem Sl.nn {G : IM} {p : Option Addr} {n c sz : Nat} {cs : List Value} (h : Sl G p n c sz cs) : p = none → n = 0 := by
 rintro rfl
 rcases h.2.2.2 with h | ⟨b, o, full, h, _⟩
 ·exact h
 ·cases h
def SPs (G : IM) : List (List Int) → List Value → List Nat → Prop
 | [], es, F => es = [] ∧ F = []
 | l :: ls, es, F => ∃ p c r Fr, es = .slice p l.length c :: r ∧ F = H1 p ++ Fr ∧ Sl G p l.length c 1 (A3L l) ∧ (∀ b ∈ H1 p, G b ≠ none) ∧ (p = none → l.length = 0) ∧ SPs G ls r Fr
def RPs (G : IM) (ls : List (List Int)) (p : Option Addr) (c : Nat) : Prop := ∃ es F, Sl G p ls.length c 1 es ∧ (∀ b ∈ H1 p, G b ≠ none) ∧ SPs G ls es F ∧ (H1 p ++ F).Nodup
mutual
theorem A8i (M D N : Int) : ∀ (t : Tm) (deep c : Int), (T1 M D N t deep c).1 = true → (T1 M D N t deep c).2 = c + C9 t
 | .mk k nm num ty fr lb ks, deep, c, h => by
  rw [T1] at h ⊢
  split at h
  ·cases h
  ·rename_i hc
   rw [if_neg hc, A8j M D N ks (deep + 1) (c + 1) h, C9]
   omega
theorem A8j (M D N : Int) : ∀ (ts : List Tm) (deep c : Int), (V0 M D N ts deep c).1 = true → (V0 M D N ts deep c).2 = c + D2 ts
 | [], deep, c, h => by rw [V0, D2]; simp
 | t :: ts, deep, c, h => by
  rw [V0] at h ⊢
  split at h
  ·rename_i h1
   rw [if_pos h1, A8j M D N ts deep _ h, A8i M D N t deep c h1, D2]
   omega
  ·cases h
end
def B2u (t : Tm) : List (List Int) := if W4 t = true then A4G t [] else []
section slaws
variable {P : Program} {Γ : I3} {env : J0} {hp : List A1} {G : IM} {ty : TypeId}
end slaws
theorem Sl.kid {G : IM} {p : Option Addr} {n c : Nat} {cs : List Value} (h : Sl G p n c 1 cs) {i : Nat} (hi : i < n) :
  ∃ b o v, p = some ⟨b, o, none⟩ ∧ cs[i]? = some v ∧ (∀ hp, At hp G b (o + i * 1) [v]) ∧ G b ≠ none := by
 obtain ⟨h1, h2, h3, h4⟩ := h
 obtain ⟨b, o, full, rfl, hg, hv⟩ := h4.resolve_left (by omega)
 have hlt : i < cs.length := by omega
 refine ⟨b, o, cs[i], rfl, List.getElem?_eq_getElem hlt, fun hp => A5O hg ?_, by rw [hg]; simp⟩
 intro j v hj
 cases j with
 | zero => simp at hj; subst hj; simpa using hv i _ (List.getElem?_eq_getElem hlt)
 | succ j => simp at hj
theorem Sl.le {G : IM} {p : Option Addr} {n c sz : Nat} {cs : List Value} (h : Sl G p n c sz cs) : n ≤ 9223372036854775807 := by
 have h1 := h.2.1; have h2 := h.2.2.1; unfold maxLen at h2; omega


abbrev A09 := List (Nat × List Value)

mutual
def OTy : Ty → List Value → A09 → Prop
 | .mk k ks, cells, bs => ∃ p c, cells = [.int .i64 k, .slice p ks.length c] ∧ C1 k ∧ ks.length ≤ c ∧ c ≤ maxLen ∧ ((ks = [] ∧ bs = []) ∨ ∃ b A C es r, p = some ⟨b, A.length, none⟩ ∧ bs = (b, A ++ (es.flatten ++ C)) :: r ∧ A57 ks es r)
def A57 : List Ty → List (List Value) → A09 → Prop
 | [], es, bs => es = [] ∧ bs = []
 | t :: ts, es, bs => ∃ e e' r1 r2, es = e :: e' ∧ bs = r1 ++ r2 ∧ OTy t e r1 ∧ A57 ts e' r2
end
def A8k (ks : List Ty) (p : Option Addr) (c : Nat) (bs : A09) : Prop :=
 ks.length ≤ c ∧ c ≤ maxLen ∧ ((ks = [] ∧ bs = []) ∨ ∃ b A C es r, p = some ⟨b, A.length, none⟩ ∧ bs = (b, A ++ (es.flatten ++ C)) :: r ∧ A57 ks es r)
mutual
def OTm : Tm → List Value → A09 → Prop
 | .mk k nm num ty fr lb ks, cells, bs => ∃ tc fc p c bt bf bk, cells = [.int .i64 k, .string nm, .int .i64 num] ++ tc ++ fc ++ [.int .i64 lb, .slice p ks.length c] ∧ C1 k ∧ C1 num ∧ C1 lb ∧ OTy ty tc bt ∧ OTy fr fc bf ∧
   ks.length ≤ c ∧ c ≤ maxLen ∧ ((ks = [] ∧ bk = []) ∨ ∃ b A C es r, p = some ⟨b, A.length, none⟩ ∧ bk = (b, A ++ (es.flatten ++ C)) :: r ∧ A58 ks es r) ∧ bs = bt ++ (bf ++ bk)
def A58 : List Tm → List (List Value) → A09 → Prop
 | [], es, bs => es = [] ∧ bs = []
 | t :: ts, es, bs => ∃ e e' r1 r2, es = e :: e' ∧ bs = r1 ++ r2 ∧ OTm t e r1 ∧ A58 ts e' r2
end
def B2v (ks : List Tm) (p : Option Addr) (c : Nat) (bs : A09) : Prop :=
 ks.length ≤ c ∧ c ≤ maxLen ∧ ((ks = [] ∧ bs = []) ∨ ∃ b A C es r, p = some ⟨b, A.length, none⟩ ∧ bs = (b, A ++ (es.flatten ++ C)) :: r ∧ A58 ks es r)
mutual
def A8l : Ty → Int
 | .mk _ ks => 1 + A0h ks
def A0h : List Ty → Int
 | [] => 0
 | t :: ts => A8l t + A0h ts
end
mutual
def B2w : Ty → Int → Ty
 | .mk _ ks, k => .mk k (A18 ks (k + 1))
def A18 : List Ty → Int → List Ty
 | [], _ => []
 | t :: ts, k => B2w t k :: A18 ts (k + A8l t)
end
mutual
def A8m : Tm → Int
 | .mk _ _ _ ty fr _ ks => 6 + A0h ty.ks + A0h fr.ks + A8n ks
def A8n : List Tm → Int
 | [] => 0
 | t :: ts => A8m t + A8n ts
end
mutual
def B2x : Tm → Int → Tm
 | .mk _ _ _ ty fr _ ks, k => .mk k (B2s (k + 1).toNat) (k + 1 + 1) (.mk (k + 1 + 1 + 1) (A18 ty.ks (k + 1 + 1 + 1 + 1))) (.mk (k + 1 + 1 + 1 + 1 + A0h ty.ks) (A18 fr.ks (k + 1 + 1 + 1 + 1 + A0h ty.ks + 1))) (k + 1 + 1 + 1 + 1 + A0h ty.ks + 1 + A0h fr.ks) (A4K ks (k + 1 + 1 + 1 + 1 + A0h ty.ks + 1 + A0h fr.ks + 1))
def A4K : List Tm → Int → List Tm
 | [], _ => []
 | t :: ts, k => B2x t k :: A4K ts (k + A8m t)
end
section lend
variable {P : Program} {Γ : I3} {env : J0} {hp : List A1} {G : IM} {K : Po} {ops : Array Oper} {rest : List Oper} {ty : TypeId} {pos : String} {af : Array Edge} {gd : Option (Nat × Bool)}
def B7I (v0 : Value) (G : IM) (Φ : A09 → Prop) : IM → Value → List A1 → Prop := fun G' v outs => G' = G ∧ v = v0 ∧ ∃ bs', outs = A1L bs' ∧ Φ bs'
end lend
def MTm (t : Tm) (k : Int) (cells : List Value) (bs : A09) : Prop := ∃ pt ct pf cf p c bt bf bk,
 cells = [.int .i64 t.k, .string t.nm, .int .i64 t.num, .int .i64 t.ty.k, .slice pt t.ty.ks.length ct, .int .i64 t.fr.k, .slice pf t.fr.ks.length cf, .int .i64 t.lb, .slice p t.ks.length c] ∧
 A8k (A18 t.ty.ks k) pt ct bt ∧ A8k (A18 t.fr.ks (k + A0h t.ty.ks)) pf cf bf ∧ B2v (A4K t.ks (k + A0h t.ty.ks + A0h t.fr.ks)) p c bk ∧ bs = bt ++ (bf ++ bk)
def A8o : Nat → Int → List Int
 | 0, _ => []
 | n + 1, k => k :: A8o n (k + 1)
def OIs (l : List Int) (p : Option Addr) (c : Nat) (bs : A09) : Prop :=
 l.length ≤ c ∧ c ≤ maxLen ∧ ((l = [] ∧ bs = []) ∨ ∃ b A C, p = some ⟨b, A.length, none⟩ ∧ bs = [(b, A ++ (A3L l ++ C))])
def OPs : List (List Int) → List Value → A09 → Prop
 | [], es, bs => es = [] ∧ bs = []
 | l :: ls, es, bs => ∃ p c e' r1 r2, es = .slice p l.length c :: e' ∧ bs = r1 ++ r2 ∧ OIs l p c r1 ∧ OPs ls e' r2
def B2y : List (List Int) → Int
 | [] => 0
 | l :: ls => l.length + B2y ls
def B2z : List (List Int) → Int → List (List Int)
 | [], _ => []
 | l :: ls, k => A8o l.length k :: B2z ls (k + l.length)
section lend0
variable {P : Program} {Γ : I3} {env : J0} {G : IM} {K : Po} {ops : Array Oper} {rest : List Oper} {ty : TypeId} {pos : String} {af : Array Edge} {gd : Option (Nat × Bool)}
end lend0
def QPs (G : IM) : List (List Int) → List Value → Prop
 | [], es => es = []
 | l :: ls, es => ∃ p c r, es = .slice p l.length c :: r ∧ Sl G p l.length c 1 (A3L l) ∧ QPs G ls r
mutual
def I0 : Ty → Int
 | .mk _ ks => ks.length + O0 ks
def O0 : List Ty → Int
 | [] => 0
 | t :: ts => I0 t + O0 ts
end
mutual
def A0i : Tm → Int
 | .mk _ nm _ ty fr _ ks => nm.size + I0 ty + I0 fr + (ks.length + Y5 ks)
def Y5 : List Tm → Int
 | [] => 0
 | t :: ts => A0i t + Y5 ts
end
mutual
theorem A1a : ∀ t : Ty, 0 ≤ I0 t
 | .mk _ ks => by have := A1M ks; rw [I0]; omega
theorem A1M : ∀ ts : List Ty, 0 ≤ O0 ts
 | [] => by rw [O0]; omega
 | t :: ts => by have := A1a t; have := A1M ts; rw [O0]; omega
end
mutual
theorem A8p : ∀ t : Tm, 0 ≤ A0i t
 | .mk _ _ _ ty fr _ ks => by have := A4L ks; have := A1a ty; have := A1a fr; rw [A0i]; omega
theorem A4L : ∀ ts : List Tm, 0 ≤ Y5 ts
 | [] => by rw [Y5]; omega
 | t :: ts => by have := A8p t; have := A4L ts; rw [Y5]; omega
end
theorem A59 : ∀ a b : List Ty, O0 (a ++ b) = O0 a + O0 b
 | [], b => by simp [O0]
 | t :: a, b => by rw [List.cons_append, O0, O0, A59 a b]; omega
theorem B2A {ks : List Ty} {i : Nat} (hi : i < ks.length) : O0 (ks.take (i + 1)) = O0 (ks.take i) + I0 ks[i] := by
 rw [List.take_succ_eq_append_getElem hi, A59, O0, O0]; omega
theorem A8q (ks : List Ty) (i : Nat) : O0 (ks.take i) ≤ O0 ks := by
 have h := A59 (ks.take i) (ks.drop i)
 rw [List.take_append_drop] at h
 have := A1M (ks.drop i); omega
mutual
def Tm.nok : Tm → Prop
 | .mk _ nm _ _ _ _ ks => nm.size ≤ 9223372036854775807 ∧ Tm.nokL ks
def Tm.nokL : List Tm → Prop
 | [] => True
 | t :: ts => t.nok ∧ Tm.nokL ts
end
def B7J (left s : Int) : Int := if s ≤ left then left - s else -1
end Gw
end Go.Proofs.YtgodjiieijekiaaGreatDoor
namespace Go.Proofs.YtgodjiieijekiaaGreatDoor
open Go Go.RowKit Go.ChangeShapes Go.WideShapes Go.ChangeAt
namespace Gw
def GW (w : World) : IM := fun b => match w.heap[b]? with
 | some (.cells c _ _) => some c.toList
 | _ => none
theorem B2B (w : World) : S7 [] (GW w) w := by
 refine ⟨?_, by simp, by simp [Fp], by simp [Fp]⟩
 intro b l h
 unfold GW at h
 split at h
 ·rename_i c e f hb; cases h; exact ⟨e, f, by simpa using hb⟩
 ·cases h
theorem A8r {w : World} {b o : Nat} {v : Value} (h : w.cell? ⟨b, o, none⟩ = some v) : ∃ full, GW w b = some full ∧ full[o]? = some v := by
 unfold World.cell? at h
 simp only at h
 split at h
 ·rename_i c e f hb
  exact ⟨c.toList, by simp [GW, hb], by simpa using h⟩
 ·cases h
theorem A8s {sz : Nat} : ∀ {es : List (List Value)}, (∀ e ∈ es, e.length = sz) → ∀ {j : Nat} {v : Value}, es.flatten[j]? = some v → ∃ i e r, es[i]? = some e ∧ e[r]? = some v ∧ j = i * sz + r
 | [], _, j, v, h => by simp at h
 | a :: es, hall, j, v, h => by
  have ha := hall a List.mem_cons_self
  rw [List.flatten_cons, List.getElem?_append] at h
  split at h
  ·exact ⟨0, a, j, rfl, h, by simp⟩
  ·rename_i hj
   obtain ⟨i, e, r, h1, h2, h3⟩ := A8s (fun x hx => hall x (List.mem_cons_of_mem _ hx)) h
   exact ⟨i + 1, e, r, by simpa using h1, h2, by rw [Nat.succ_mul]; omega⟩
theorem B2C {w : World} {a : Addr} {n c sz : Nat} {es : List (List Value)} (hl : es.length = n) (hsz : 0 < sz) (hc : n ≤ c) (hm : c ≤ maxLen) (h : ∀ i e, es[i]? = some e → w.cells? 0 (a.add (i * sz)) sz = some e) : Sl (GW w) (some a) n c sz es.flatten := by
 have hall : ∀ e ∈ es, e.length = sz := by
  intro e he
  obtain ⟨i, hi⟩ := List.getElem?_of_mem he
  exact (World.cells?_some (h i e hi)).2.1
 refine ⟨by rw [A17 hall, hl], hc, hm, ?_⟩
 rcases Nat.eq_zero_or_pos n with h0 | h0
 ·exact .inl h0
 ·right
  obtain ⟨b, o, s⟩ := a
  have hs : s = none := by
   have h1 := (World.cells?_some (h 0 es[0] (List.getElem?_eq_getElem (by omega)))).2
   have h2 := h1.2 0 hsz
   rw [List.getElem?_eq_getElem (by omega)] at h2
   simp only [Nat.zero_mul, Addr.add, if_true] at h2
   unfold World.cell? at h2
   split at h2
   ·split at h2
    ·cases h2
    ·rename_i hn; cases s with
     | none => rfl
     | some x => simp at hn
   ·cases h2
  subst hs
  have key : ∀ j v, es.flatten[j]? = some v → w.cell? ⟨b, o + j, none⟩ = some v := by
   intro j v hj
   obtain ⟨i, e, r, h1, h2, rfl⟩ := A8s hall hj
   have h3 := (World.cells?_some (h i e h1)).2
   have hr : r < e.length := (List.getElem?_eq_some_iff.1 h2).1
   have h4 := h3.2 r (by omega)
   rw [h2, A13, A13] at h4
   rw [← Nat.add_assoc]; exact h4
  have hpos : 0 < es.flatten.length := by rw [A17 hall, hl]; exact Nat.mul_pos h0 hsz
  obtain ⟨full, hg, _⟩ := A8r (key 0 es.flatten[0] (List.getElem?_eq_getElem hpos))
  refine ⟨b, o, full, rfl, hg, fun j v hj => ?_⟩
  obtain ⟨full', hg', hv⟩ := A8r (key j v hj)
  rw [hg] at hg'; cases hg'; exact hv
theorem C3.snoc {G : IM} : ∀ {ts : List Ty} {es : List (List Value)} {t : Ty} {e : List Value}, C3 G ts es → A8 G t e → C3 G (ts ++ [t]) (es ++ [e])
 | [], es, t, e, h, h2 => by
  simp only [C3] at h; subst h
  simp only [List.nil_append, C3]
  exact ⟨e, [], rfl, h2, rfl⟩
 | t' :: ts, es, t, e, h, h2 => by
  simp only [C3] at h
  obtain ⟨a, r, rfl, h3, h4⟩ := h
  simp only [List.cons_append, C3]
  exact ⟨a, r ++ [e], rfl, h3, C3.snoc h4 h2⟩
theorem F4.snoc {G : IM} : ∀ {ts : List Tm} {es : List (List Value)} {t : Tm} {e : List Value}, F4 G ts es → B5 G t e → F4 G (ts ++ [t]) (es ++ [e])
 | [], es, t, e, h, h2 => by
  simp only [F4] at h; subst h
  simp only [List.nil_append, F4]
  exact ⟨e, [], rfl, h2, rfl⟩
 | t' :: ts, es, t, e, h, h2 => by
  simp only [F4] at h
  obtain ⟨a, r, rfl, h3, h4⟩ := h
  simp only [List.cons_append, F4]
  exact ⟨a, r ++ [e], rfl, h3, F4.snoc h4 h2⟩
theorem C3.each {G : IM} {ts : List Ty} {es : List (List Value)} (h : C3 G ts es) : ∀ e ∈ es, e.length = 2 ∧ e.all (·.oneCell') = true := by
 intro e he
 obtain ⟨i, hi⟩ := List.getElem?_of_mem he
 have := (h.inv hi A5).2
 exact ⟨this.len, this.one⟩
theorem F4.each {G : IM} {ts : List Tm} {es : List (List Value)} (h : F4 G ts es) : ∀ e ∈ es, e.length = 9 ∧ e.all (·.oneCell') = true := by
 intro e he
 obtain ⟨i, hi⟩ := List.getElem?_of_mem he
 have := (h.inv hi (.mk 0 ⟨#[]⟩ 0 A5 A5 0 [])).2
 exact ⟨this.len, this.one⟩
section read
variable {H : Type} {enc : TypeId × Value → H} {w : World} {sp : Nat → Bool} {held : Bool}
end read
theorem Ext.below {w w' : World} (h : Ext (Fp []) w w') : Below w.heap.size w w' := ⟨h.os, h.tape, h.output, h.size, fun k hk => h.block k hk (by simp [Fp])⟩
section post
variable {H : Type} {enc : TypeId × Value → H} {P : Program}
theorem B2D {f : Func} {s : ChangeSpec} {apart fresh handsOn again : Bool} {W W' : World} {args : Array Value} {v : Value} {ds gs : List (DataW H)} {before : List MemPlace}
  (hW : DataW.Whole enc P f.params.toList s.vars apart W args.toList ds gs before) (hb : Below W.heap.size W W') (hgs : s.vars = [])
  (hres : ∀ (b : Nat) (sp : Nat → Bool) (hd : Bool), DataW.TrodAll enc P W' b sp hd f.resultTypes.toList (v.resultList f.resultTypes.size) (s.fn H (ds ++ gs)).results [])
  (hargs : ∀ sp : Nat → Bool, (∀ p ∈ before, sp p.block = true) → DataW.TrodAll enc P W' 0 sp true f.params.toList args.toList (s.fn H (ds ++ gs)).args before)
  (hv : (s.fn H (ds ++ gs)).vars = [])
  (hok : ∀ (j : Nat) (t : TypeId) (r : Value), f.resultTypes[j]? = some t → (v.resultList f.resultTypes.size)[j]? = some r → Value.okWide P W' .any 0 t r) :
  s.post enc P f apart fresh handsOn again W args v W' := by
 have hold : ∀ p ∈ before, (fun b => decide (b < W.heap.size)) p.block = true := fun p hp => by simpa using hW.lt p hp
 have hvars : ∀ sp : Nat → Bool, DataW.TrodVars enc P W' sp s.vars (s.fn H (ds ++ gs)).vars [] := fun sp => by rw [hgs, hv]; rfl
 have hkept : W.keptBut W' (fun _ => False) := by
  refine ⟨hb.os, hb.output, fun i hi => ?_⟩
  rw [hb.block i hi]
  split
  ·rename_i h1 h2; cases h1.symm.trans h2; exact ⟨rfl, rfl, rfl, fun _ _ => rfl⟩
  ·rename_i h1 h2; cases h1.symm.trans h2; exact .inr ⟨rfl, rfl⟩
  ·rfl
 refine ⟨ds, gs, before, [], before, [], hW, hres _ _ _, hargs _ hold, hvars _, World.keptBut_mono (fun p hp => hp.elim) hkept, fun _ => ?_⟩
 obtain ⟨_, _, _, _, _, hz, hn⟩ := hW
 refine ⟨hok, _, _, ([] ++ before) ++ [], ⟨[] ++ before, [], trodAll_append (hargs _ (fun _ _ => rfl)) (hres _ _ _), hvars _, rfl, ?_, ?_⟩, ?_⟩
 ·intro b off hp
  have hp' : MemPlace.cell b off ∈ before := by simpa using hp
  have hlt : b < W.heap.size := of_decide_eq_true (hold _ hp')
  have := hz b off hp'
  unfold World.frozen? at this ⊢
  simp only [hb.block b hlt]
  exact this
 ·intro ha; simpa using hn ha
 ·intro p hp _; simpa using hp
end post
def A1N (G : IM) : Prop := ∃ g, Tryz.prog.globalNamed "internal/strconv.uint64pow10" = some g ∧ G g = some (Lib.pow10Tab.map fun z => Value.int .u64 z)
theorem A1N.mono {G G' : IM} (h : A1N G) (hg : A7 G G') : A1N G' := by
 obtain ⟨g, h1, h2⟩ := h
 exact ⟨g, h1, hg g _ h2⟩
theorem A8t {G : IM} {w : World} (hw : S7 [] G w) (k : Nat) (os : Array Obj) : P4 [] G w [] G (Sort.grow (w.drewN k) os) := by
 have hb : ∀ b, b < w.heap.size → (Sort.grow (w.drewN k) os).heap[b]? = w.heap[b]? := by
  intro b h
  show (w.heap ++ os)[b]? = _
  rw [Array.getElem?_append_left h]
 refine ⟨⟨?_, by simp, by simp [Fp], by simp [Fp]⟩, ⟨rfl, rfl, rfl, ?_, fun b h _ => hb b h⟩, A7.refl _, fun _ _ h => .inl h, by simp [Fp], fun b l h h0 => absurd h (by rw [h0]; simp)⟩
 ·intro b l h
  obtain ⟨e, f, hh⟩ := hw.inn b l h
  exact ⟨e, f, by rw [hb b (A0P hh)]; exact hh⟩
 ·show w.heap.size ≤ (w.heap ++ os).size
  simp
theorem B2E (n : Int) (G : IM) (h : A1N G) (h0 : 0 ≤ n) (h1 : n ≤ 999) : Fn Tryz.prog 85 [.int .i64 n] [] G (J1 (.string ⟨(Lib.decDigits n.toNat).toArray⟩) G) := by
 refine ⟨fun w hw => ?_⟩
 have ht : Lib.TabIs Tryz.prog w "internal/strconv.uint64pow10" .u64 Lib.pow10Tab := by
  obtain ⟨g, hg, hG⟩ := h
  obtain ⟨e, f, hh⟩ := hw.inn g _ hG
  unfold Lib.TabIs World.var?
  rw [hg]
  simp only [Option.bind_some, hh]
 refine (Tryz.strconv_Itoa n (by omega) (by omega) w ht).mono ?_
 rintro e w' ⟨rfl, k, os, rfl⟩
 refine ⟨_, G, [], rfl, A8t hw k os, rfl, ?_, rfl⟩
 unfold Lib.itoa
 rw [if_neg (by omega)]
end Gw
end Go.Proofs.YtgodjiieijekiaaGreatDoor
namespace Go.Proofs.YtgodjiieijekiaaGreatDoor
open Go Go.RowKit Go.ChangeShapes Go.WideShapes Go.ChangeAt
namespace Gw
theorem A6a : Tryz.prog.globalNamed "internal/strconv.uint64pow10" = some 1 := by kernel_rfl
theorem B2F : (Tryz.prog.globals[1]?).map (·.type) = some 212 := by kernel_rfl
theorem B2G : Tryz.prog.cellsOf 212 = 20 := by kernel_rfl
theorem B2H : Tryz.prog.cellsOf 194 = 1 := by kernel_rfl
def A8u : List (String × DataW Unit) := [("math/bits.deBruijn32tab", Rows.laid_math_bits_deBruijn32tab), ("math/bits.deBruijn64tab", Rows.laid_math_bits_deBruijn64tab), ("internal/strconv.uint64pow10", Rows.laid_internal_strconv_uint64pow10)]
theorem B2I {W : World} (h : laidMetH Tryz.prog A8u W) : A1N (GW W) := by
 have h1 : laidMet Tryz.prog A8u W := h
 have h3 := h1.tail.tail
 have ht : Lib.TabIs Tryz.prog W "internal/strconv.uint64pow10" .u64 Lib.pow10Tab :=
  Lib.tabIs_of_head (rest := []) A6a B2F Tryz.underlying212 Tryz.underlying194 B2H B2G h3
 refine ⟨1, A6a, ?_⟩
 unfold Lib.TabIs World.var? at ht
 rw [A6a] at ht
 simp only [Option.bind_some] at ht
 unfold GW
 split at ht
 ·rename_i c e f hb
  rw [hb]
  have := Option.some.inj ht
  simp [this]
 ·cases ht
def A6b : DataW Unit → Array Value
 | .agg xs => (xs.map fun | .lit (.int k n) => Value.int k n | _ => .int .i64 0).toArray
 | _ => #[]
def A6c (xs : Array Value) : Obj → Obj
 | .cells _ t f => .cells xs t f
 | o => o
noncomputable def A6d (os : Os) : World :=
 { World.holding Tryz.prog os ⟨#[], #[], []⟩ with heap := (((World.holding Tryz.prog os ⟨#[], #[], []⟩).heap.modify 1 (A6c (A6b Rows.laid_internal_strconv_uint64pow10))).modify 4 (A6c (A6b Rows.laid_math_bits_deBruijn32tab))).modify 5 (A6c (A6b Rows.laid_math_bits_deBruijn64tab)) }
end Gw
end Go.Proofs.YtgodjiieijekiaaGreatDoor
namespace Go.Proofs.YtgodjiieijekiaaGreatDoor
open Go Go.RowKit Go.ChangeShapes Go.WideShapes Go.ChangeAt
namespace Gw
section read2
variable {H : Type} {enc : TypeId × Value → H} {w : World} {sp : Nat → Bool} {held : Bool}
end read2
section rlaws
variable {P : Program} {Γ : I3} {env : J0} {hp : List A1} {G : IM} {ty : TypeId}
theorem B2J {m n : Nat} (hm : m < 4611686018427387904) (hn : n < 4611686018427387904) : m ^^^ n < 4611686018427387904 := by
 have := @Nat.xor_lt_two_pow m n 62 (by omega) (by omega)
 simpa using this
theorem B2K {x y : Operand} {t t' : TypeId} {m n : Nat} (hx : evo env x = some (.int .i64 (m : Int))) (hy : evo env y = some (.int .i64 (n : Int))) (hm : m < 4611686018427387904) (hn : n < 4611686018427387904) :
  E6 P Γ ⟨env, hp, G⟩ (.binOp .xor t x y t') ty (.int .i64 ((m ^^^ n : Nat) : Int)) := by
 refine ⟨fun a _ hs _ _ _ _ w => ?_⟩
 have hlt := B2J hm hn
 have e : (BitVec.ofInt 64 (m : Int) ^^^ BitVec.ofInt 64 (n : Int)).toNat = m ^^^ n := by
  rw [BitVec.toNat_xor, BitVec.toNat_ofInt, BitVec.toNat_ofInt]
  congr 1 <;> omega
 have hw : IntKind.i64.wrap (((BitVec.ofInt 64 (m : Int) ^^^ BitVec.ofInt 64 (n : Int)).toNat : Nat) : Int) = ((m ^^^ n : Nat) : Int) := by
  rw [e]; exact A2Z _ rfl (by omega) (by omega)
 simp only [execOp, eqGuard, binOp, Op.intBits, (hs.evo hx : a.eval x = _), (hs.evo hy : a.eval y = _), ne_eq, not_true_eq_false, if_false, Sem.run_bind, Sem.run_pure, Result.andThen_ok]
 rw [show IntKind.bits .i64 = 64 from rfl] at *
 simp only [hw]
 simp
theorem A3M {x y : Operand} {t t' : TypeId} {m n : Nat} (hx : evo env x = some (.int .i64 (m : Int))) (hy : evo env y = some (.int .i64 (n : Int))) (h : m * n ≤ 9223372036854775807) :
  E6 P Γ ⟨env, hp, G⟩ (.binOp .mul t x y t') ty (.int .i64 ((m * n : Nat) : Int)) := by
 have e : ((m : Int) * (n : Int)) = ((m * n : Nat) : Int) := by simp
 have h2 := B1I (P := P) (Γ := Γ) (hp := hp) (G := G) (ty := ty) (t := t) (t' := t') hx hy (by rw [e]; omega) (by rw [e]; omega)
 rwa [e] at h2
theorem A0j {x y : Operand} {t t' : TypeId} {m n : Nat} (hx : evo env x = some (.int .i64 (m : Int))) (hy : evo env y = some (.int .i64 (n : Int))) (h : m + n ≤ 9223372036854775807) :
  E6 P Γ ⟨env, hp, G⟩ (.binOp .add t x y t') ty (.int .i64 ((m + n : Nat) : Int)) := by
 have e : ((m : Int) + (n : Int)) = ((m + n : Nat) : Int) := by simp
 have h2 := H2 (P := P) (Γ := Γ) (hp := hp) (G := G) (ty := ty) (t := t) (t' := t') hx hy (by rw [e]; omega) (by rw [e]; omega)
 rwa [e] at h2
theorem A4M {x y : Operand} {t t' : TypeId} {m : Nat} (hx : evo env x = some (.int .i64 ((m + 1 : Nat) : Int))) (hy : evo env y = some (.int .i64 1)) (h : m ≤ 9223372036854775807) :
  E6 P Γ ⟨env, hp, G⟩ (.binOp .sub t x y t') ty (.int .i64 (m : Int)) := by
 have e : (((m + 1 : Nat) : Int) - 1) = (m : Int) := by omega
 have h2 := N1 (P := P) (Γ := Γ) (hp := hp) (G := G) (ty := ty) (t := t) (t' := t') hx hy (by rw [e]; omega) (by rw [e]; omega)
 rwa [e] at h2
theorem A6e {s d : TypeId} {is id : H7} [hS : C7 P s is] [hD : C7 P d id] (hd : id.desc = .int .i64) {k : IntKind} (hs : is.desc = .int k) {x : Operand} {n : Int} (hx : evo env x = some (.int k n)) (h0 : -9223372036854775808 ≤ n) (h1 : n ≤ 9223372036854775807) :
  E6 P Γ ⟨env, hp, G⟩ (.convert s d x) ty (.int .i64 n) := by
 refine ⟨fun a _ hst _ _ _ _ w => ?_⟩
 have hu := hD.und
 rw [hd] at hu
 have hus := hS.und
 rw [hs] at hus
 have hw : IntKind.i64.wrap n = n := A2Z n rfl h0 h1
 simp [execOp, convert, run_underlying hus, run_underlying hu, (hst.evo hx : a.eval x = _), Conv.intToInt, hw]
theorem A1O {x y : Operand} {t el : TypeId} {i : H7} {sz by' : Nat} {zs : List Value} [hI : C7 P t i] (hd' : i.desc = .slice el) [hE : S8 P el sz by' zs] {p : Option Addr} {n c l : Nat}
  (hx : evo env x = some (.slice p n c)) (hy : evo env y = some (.int .i64 (l : Int))) (hl : l ≤ c) :
  E6 P Γ ⟨env, hp, G⟩ (.slice t x none (some y) none) ty (.slice p l c) := by
 refine ⟨fun a _ hs _ _ _ _ w => ?_⟩
 have hu := hI.und
 rw [hd'] at hu
 obtain ⟨d, hE⟩ := hE.ok
 obtain ⟨inf, z, t1, t2, t3, _⟩ := A15 (P := P) (t := el)
 have e1 : a.eval x = _ := hs.evo hx
 have e2 : a.eval y = _ := hs.evo hy
 have hb : ∀ code, (Instr.sliceBound (.int .i64 (l : Int)) c code).run P w = .ok l w := fun code => by
  unfold Instr.sliceBound
  simp only [asIntOf, Sem.run_bind, Sem.run_pure, Result.andThen_ok]
  rw [if_pos ⟨by omega, by omega⟩]
  simp
 simp only [execOp, Option.map, e1, e2, Instr.sliceAt, Sem.run_bind, run_underlying hu, Result.andThen_ok, Instr.slice, Instr.sliceBounds, Sem.run_pure, hb, t3]
 by_cases h : c = 0
 ·subst h; simp
 ·rw [if_neg h]; simp; cases p <;> simp [Addr.add]
end rlaws
def O7 (bs : List UInt8) : List Value := bs.map fun b => .int .u8 (b.toNat : Int)
theorem A8v (bs : List UInt8) : (O7 bs).length = bs.length := by simp [O7]
theorem A6f {bs : List UInt8} {i : Nat} {v : Value} (h : (O7 bs)[i]? = some v) : ∃ b : Nat, b < 256 ∧ v = .int .u8 (b : Int) := by
 unfold O7 at h
 rw [List.getElem?_map] at h
 cases hb : bs[i]? with
 | none => rw [hb] at h; simp at h
 | some b => rw [hb] at h; simp at h; exact ⟨b.toNat, b.toNat_lt, h.symm⟩
def rd (br : Nat) (pb : Option Addr) (nb cb p : Nat) : A1 := .blk br [.slice pb nb cb, .int .i64 (p : Int)]
def A0y (br : Nat) (pb : Option Addr) (nb cb p B : Nat) (Φ : IM → Value → Prop) : IM → Value → List A1 → Prop := fun G' v outs => ∃ p', p ≤ p' ∧ p' ≤ p + B ∧ outs = [rd br pb nb cb p'] ∧ Φ G' v
theorem Y6 (G : IM) (br : Nat) (pb : Option Addr) (nb cb p : Nat) (bs : List UInt8) (n : Int) (hb : Sl G pb nb cb 1 (O7 bs)) (hnb : nb ≤ 2000) (hp : p < 1099511627776) :
  Fn Tryz.prog 59 [.pointer (some ⟨br, 0, none⟩), .int .i64 n] [rd br pb nb cb p] G (fun G' v outs => G' = G ∧ outs = [rd br pb nb cb (p + 1)] ∧ ∃ k, v = .int .i64 k ∧ 0 ≤ k ∧ (1 ≤ n → k < n)) := by
 unfold rd
 have hm1 : ∀ q, 0 < nb → q % nb < nb := fun q h => Nat.mod_lt _ h
 have hdv : p / nb ≤ p := Nat.div_le_self _ _
 refine B6 Tryz.func59 rfl Tryz.ntmps59 Tryz.results59 rfl ?_
 intro w0
 refine E8 ?_
 refine sQ (I4 rfl) rfl ?_
 refine sQ (B1 rfl) rfl (sL (D4 rfl rfl) rfl rfl ?_)
 refine sP (A0j (n := 1) rfl rfl (by omega)) rfl rfl ?_
 refine sQ (I4 rfl) rfl ?_
 refine E1 ?_
 refine sB (I7 rfl rfl) rfl rfl (fun h23 => ?_) (fun h23 => ?_)
 refine A0g ?_
 refine E3 (rT rfl) A0.refl ?_
 exact ⟨rfl, rfl, 0, rfl, Int.le_refl _, fun h => by omega⟩
 refine sQ (qM rfl) rfl (sQ (qM rfl) rfl ?_)
 refine sQ (I4 rfl) rfl ?_
 refine M3 ?_
 refine sB (qE rfl rfl) rfl rfl (fun h50 => ?_) (fun h50 => ?_)
 refine J3 ?_
 refine E3 (rT rfl) A0.refl ?_
 exact ⟨rfl, rfl, 0, rfl, Int.le_refl _, fun h => by omega⟩
 refine E8 ?_
 refine sQ (I4 rfl) rfl ?_
 refine sQ (B1 rfl) rfl (sL (D4 rfl rfl) rfl rfl ?_)
 refine sP (A4M rfl rfl (by omega)) rfl rfl ?_
 refine E1 ?_
 refine sQ (I4 rfl) rfl ?_
 refine M3 ?_
 refine sB (I7 rfl rfl) rfl rfl (fun h89 => ?_) (fun h89 => ?_)
 refine sD (nS (qT rfl (tS (tR (sQ (qM rfl) rfl ?_)))))
 refine sQ (I4 rfl) rfl ?_
 refine M3 ?_
 (obtain ⟨b, o, v, rfl, hv, hat, hgb⟩ := hb.kid (i := p) (by omega); obtain ⟨y, hy, rfl⟩ := A6f hv; refine sP (B3 rfl rfl rfl (by omega)) rfl rfl ?_)
 refine sL (Q8 rfl rfl (hat _)) rfl rfl ?_
 refine sP (A6e rfl rfl rfl (by omega) (by omega)) rfl rfl ?_
 refine sQ (qM rfl) rfl ?_
 refine sP (A4w rfl rfl (by omega)) rfl rfl ?_
 refine sQ (qA rfl) rfl (sD (nS (tT (rS ?_))))
 refine E3 (rT rfl) A0.refl ?_
 exact ⟨rfl, rfl, _, rfl, Int.tmod_nonneg _ (by omega), fun h => Int.tmod_lt_of_pos _ (by omega)⟩
 refine sD (nS (cF rfl (tK (nS (tS ?_)))))
 (obtain ⟨b, o, v1, rfl, hv1, hat1, _⟩ := hb.kid (i := HMod.hMod p nb) (hm1 _ (by omega)); obtain ⟨y1, hy1, rfl⟩ := A6f hv1; obtain ⟨b', o', v2, hbb, hv2, hat2, _⟩ := hb.kid (i := HMod.hMod (p * 7 + 3) nb) (hm1 _ (by omega)); obtain ⟨y2, hy2, rfl⟩ := A6f hv2; cases hbb; have hl1 := hm1 p (by omega); have hl2 := hm1 (p * 7 + 3) (by omega); refine D7 D8 rfl ?_)
 refine H4 (i := 0) (l' := [tt,ff,ff,ff,ff,ff,ff,ff,ff,ff,ff,ff,ff,ff,ff,ff,ff,ff,ff,ff,ff,ff,ff,ff,ff,ff,ff,ff,ff,ff,ff,ff,ff,ff,ff,ff,ff,ff,ff,ff,ff,ff,ff,ff,ff,ff]) rfl D3 (qM rfl) rfl (by kernel_rfl) rfl rfl ?_
 refine aP 1 rfl (I4 rfl) rfl ?_
 refine aP 2 rfl (B1 rfl) rfl ?_
 refine aL 3 rfl (D4 rfl rfl) rfl ?_
 refine aP 4 rfl (qM rfl) rfl ?_
 refine aP 5 rfl (qM rfl) rfl ?_
 refine aP 6 rfl (I4 rfl) rfl ?_
 refine aP 7 rfl (B1 rfl) rfl ?_
 refine aL 8 rfl (D4 rfl rfl) rfl ?_
 refine aP 9 rfl (W0 rfl rfl) rfl ?_
 refine aP 10 rfl (A8c rfl rfl (by omega)) rfl ?_
 refine aP 11 rfl (B3 rfl rfl rfl (by first | exact hl1 | exact hl2)) rfl ?_
 refine aL 12 rfl (Q8 rfl rfl (hat1 _)) rfl ?_
 refine aP 13 rfl (A6e rfl rfl rfl (by omega) (by omega)) rfl ?_
 refine aP 14 rfl (A3M (n := 131) rfl rfl (by omega)) rfl ?_
 refine aP 15 rfl (qM rfl) rfl ?_
 refine aP 16 rfl (I4 rfl) rfl ?_
 refine aP 17 rfl (B1 rfl) rfl ?_
 refine aL 18 rfl (D4 rfl rfl) rfl ?_
 refine aP 19 rfl (qM rfl) rfl ?_
 refine aP 20 rfl (A3M (n := 7) rfl rfl (by omega)) rfl ?_
 refine aP 21 rfl (A0j (n := 3) rfl rfl (by omega)) rfl ?_
 refine aP 22 rfl (qM rfl) rfl ?_
 refine aP 23 rfl (I4 rfl) rfl ?_
 refine aP 24 rfl (B1 rfl) rfl ?_
 refine aL 25 rfl (D4 rfl rfl) rfl ?_
 refine aP 26 rfl (W0 rfl rfl) rfl ?_
 refine aP 27 rfl (A8c rfl rfl (by omega)) rfl ?_
 refine aP 28 rfl (B3 rfl rfl rfl (by first | exact hl1 | exact hl2)) rfl ?_
 refine aL 29 rfl (Q8 rfl rfl (hat2 _)) rfl ?_
 refine aP 30 rfl (A6e rfl rfl rfl (by omega) (by omega)) rfl ?_
 refine aP 31 rfl (A3M (n := 1117) rfl rfl (by omega)) rfl ?_
 refine aP 32 rfl (A0j rfl rfl (by omega)) rfl ?_
 refine aP 33 rfl (qM rfl) rfl ?_
 refine aP 34 rfl (A3M (n := 29) rfl rfl (by omega)) rfl ?_
 refine aP 35 rfl (A0j rfl rfl (by omega)) rfl ?_
 refine aP 36 rfl (qM rfl) rfl ?_
 refine aP 37 rfl (qM rfl) rfl ?_
 refine aP 38 rfl (I4 rfl) rfl ?_
 refine aP 39 rfl (B1 rfl) rfl ?_
 refine aL 40 rfl (D4 rfl rfl) rfl ?_
 refine aP 41 rfl (W0 rfl rfl) rfl ?_
 refine aP 42 rfl (A8d rfl rfl (by omega) (by omega)) rfl ?_
 refine aP 43 rfl (A3M (n := 53) rfl rfl (by omega)) rfl ?_
 refine aP 44 rfl (A0j rfl rfl (by omega)) rfl ?_
 refine aP 45 rfl (qA rfl) rfl ?_
 refine B9 (nS (tS (tR (sQ (qM rfl) rfl (sQ (qM rfl) rfl ?_)))))
 refine sP (A8d (n := 64) rfl rfl (by omega) (by omega)) rfl rfl ?_
 refine sP (B2K rfl rfl (by omega) (by omega)) rfl rfl ?_
 refine C5 ?_
 refine sP (A4w rfl rfl (by omega)) rfl rfl ?_
 refine sQ (qA rfl) rfl (sD (nS (tT ?_)))
 refine E3 (rT rfl) A0.refl ?_
 exact ⟨rfl, rfl, _, rfl, Int.tmod_nonneg _ (by omega), fun h => Int.tmod_lt_of_pos _ (by omega)⟩
end Gw
end Go.Proofs.YtgodjiieijekiaaGreatDoor
namespace Go.Proofs.YtgodjiieijekiaaGreatDoor
open Go Go.RowKit Go.ChangeShapes Go.WideShapes Go.ChangeAt
namespace Gw
theorem B2L : Tryz.prog.cellsOf 5 = 1 := by kernel_rfl
theorem A8w {q : Nat → Value → Prop} : ∀ {n : Nat}, (∀ i, i < n → ∃ k : UInt8, q i (.int .u8 (k.toNat : Int))) → ∃ l : List UInt8, l.length = n ∧ ∀ i v, (O7 l)[i]? = some v → q i v
 | 0, _ => ⟨[], rfl, by simp [O7]⟩
 | n + 1, h => by
  obtain ⟨l, h1, h2⟩ := A8w (n := n) fun i hi => h i (by omega)
  obtain ⟨k, hk⟩ := h n (by omega)
  refine ⟨l ++ [k], by simp [h1], fun i v hv => ?_⟩
  rw [show O7 (l ++ [k]) = O7 l ++ [.int .u8 (k.toNat : Int)] from by simp [O7], List.getElem?_append] at hv
  split at hv
  ·exact h2 i v hv
  ·rename_i hi
   rw [A8v] at hi hv
   have : i - l.length = 0 := by
    have := (List.getElem?_eq_some_iff.1 hv).1; simp at this; omega
   rw [this] at hv; simp at hv; subst hv
   rw [show i = n by omega]; exact hk
section read2
variable {H : Type} {enc : TypeId × Value → H} {w : World} {sp : Nat → Bool} {held : Bool}
theorem B2M (n : Nat) (cs : List Value) (x : DataW H × List MemPlace) (h : DataW.trod enc Tryz.prog w 0 sp held n 22 cs = some x) : ∃ (l : List UInt8) (p : Option Addr) (c : Nat), cs = [.slice p l.length c] ∧ Sl (GW w) p l.length c 1 (O7 l) := by
 rcases DataW.trod_slice Tryz.underlying22 h with ⟨rfl, _⟩ | ⟨ad, len, cap, elems, rest, n', rfl, rfl, _, _, hlc, hcm, hel, hele, _, _⟩
 ·exact ⟨[], none, 0, rfl, Sl.nil _ _⟩
 ·rw [B2L] at hele
  obtain ⟨l, h1, h2⟩ := A8w (q := fun i v => w.cells? 0 (ad.add (i * 1)) 1 = some [v]) (n := len) fun i hi => by
   have := hele i hi
   rw [List.getElem?_eq_getElem (by omega)] at this
   obtain ⟨cs', c1, c2⟩ := Option.bind_eq_some_iff.1 this
   obtain ⟨k, rfl, _, hw⟩ := DataW.trod_int Tryz.underlying5 c2
   have hk : 0 ≤ k ∧ k < 256 := by
    have hw2 : (decide ((0 : Int) ≤ k) && decide (k ≤ (255 : Int))) = true := hw
    simp only [Bool.and_eq_true, decide_eq_true_eq] at hw2
    omega
   refine ⟨UInt8.ofNat k.toNat, ?_⟩
   rw [show ((UInt8.ofNat k.toNat).toNat : Int) = k from by
    rw [UInt8.toNat_ofNat']; omega]
   exact c1
  subst h1
  refine ⟨l, some ad, cap, rfl, ?_⟩
  have := B2C (w := w) (a := ad) (n := l.length) (c := cap) (sz := 1) (es := (O7 l).map fun v => [v]) (by simp [A8v]) (by omega) hlc hcm fun i e he => by
   rw [List.getElem?_map] at he
   cases hv : (O7 l)[i]? with
   | none => rw [hv] at he; simp at he
   | some v => rw [hv] at he; simp at he; subst he; exact h2 i v hv
  have hf : ((O7 l).map fun v => [v]).flatten = O7 l := by
   generalize O7 l = L
   induction L with
   | nil => rfl
   | cons a L ih => simp [ih]
  rwa [hf] at this
end read2
theorem A2B : ∀ (t : Ty) (G : IM) (cells : List Value), t.small → A8 G t cells →
  Fn Tryz.prog 135 [.agg ⟨cells⟩] [] G (I8 fun G' v => ∃ cells' F, v = .agg ⟨cells'⟩ ∧ O9 (B7 G' G) t cells' F ∧ F.Nodup) := by
 refine Ty.ind fun k ks ih G cells hts hr => ?_
 simp only [Ty.small] at hts
 obtain ⟨hsm, hks⟩ := hts
 obtain ⟨p, c, es, rfl, hk, hsl, hkl⟩ := hr.open
 simp only [Ty.k, Ty.ks] at hk hsl hkl ⊢
 have hn := hsl.le
 refine B6 Tryz.func135 rfl Tryz.ntmps135 Tryz.results135 rfl ?_
 intro w0
 refine tS (tR ?_)
 refine sE (E2 rfl rfl) rfl (fun b3 => ?_)
 refine sE (B0 rfl) rfl (fun b4 => ?_)
 refine C5 ?_
 refine sE (B0 rfl) rfl (fun b12 => ?_)
 refine L4 ?_
 refine B2 ?_
 (refine W9 25 2 ?_; refine J8 (fun (x : Nat × Option Addr × Nat × List (List Value) × List Nat × IM) => ⟨[(12, .int .i64 x.1), (11, .int .i64 ks.length), (10, .slice p ks.length c), (3, .pointer (some ⟨b12, 0, none⟩)), (2, .pointer (some ⟨b4, 0, none⟩))], [.blk b12 [.int .i64 k, .slice x.2.1 x.1 x.2.2.1], .slc x.2.1 x.2.2.1 25 2 x.1 x.2.2.2.1.flatten, .blk b4 [.int .i64 0, .slice none 0 0]], x.2.2.2.2.2⟩) (fun x => x.1 ≤ ks.length ∧ A7 G x.2.2.2.2.2 ∧ N5 (B7 x.2.2.2.2.2 G) (ks.take x.1) x.2.2.2.1 x.2.2.2.2.1 ∧ x.2.2.2.2.1.Nodup) (fun x => ks.length - x.1) (0, none, 0, [], [], G) ?_ ?_ ?_)
 (simp only [E7]; exact M4 (by repeat (first | exact C8.nil | refine C8.cons rfl ?_)) (by repeat (first | exact A0.refl | exact A0.nil | refine A0.cons (by repeat (first | exact Pk.here | apply Pk.there)) ?_)))
 exact ⟨by simp, A7.refl _, by simp [N5], by simp⟩
 (rintro ⟨i, pn, cn, es', F, Gi⟩ ⟨hi, hle, hst, hnd⟩; simp only [] at hi hle hst hnd ⊢; replace hsl := hsl.mono hle; replace hkl := hkl.mono hle)
 refine tS (tR ?_)
 refine sB (I7 rfl rfl) rfl rfl (fun h32 => ?_) (fun h32 => ?_)
 refine sD (nS (tS (qT rfl (tK (nS (tS ?_))))))
 refine B2 ?_
 refine tS (tR ?_)
 (obtain ⟨b, o, p2, c2, rfl, hat, hre, hgb⟩ := hsl.kidTy hkl (i := i) (by omega) (by omega); refine sP (B3 rfl rfl rfl (by omega)) rfl rfl ?_)
 refine sL (A6 rfl rfl (hat _) rfl) rfl rfl ?_
 refine sE (B0 rfl) rfl (fun b45 => ?_)
 refine I1 ?_
 refine sD (nS ?_)
 refine D7 D8 rfl ?_
 refine H4 (i := 0) (l' := [tt,ff,ff,ff,ff,ff,ff,ff]) rfl D3 (B1 rfl) rfl (by kernel_rfl) rfl rfl ?_
 refine aL 1 rfl (D4 rfl rfl) rfl ?_
 refine aL 2 rfl (A3 rfl rfl) rfl ?_
 refine A2 3 ?_
 (refine P2 rfl rfl (ih _ (List.getElem_mem (by omega)) _ _ (Ty.smallL_mem hks _ (List.getElem_mem (by omega))) hre) rfl rfl rfl (fun v G1 hle1 hh => ?_); obtain ⟨cells', F', rfl, hs', hnd'⟩ := hh; obtain ⟨p3, c3, es3, rfl, _⟩ := hs'.R.open)
 refine A2 4 ?_
 (refine D6 rfl (B4 rfl rfl rfl (by omega) (by unfold maxLen; omega) rfl) rfl rfl ?_; rintro _ ⟨b56, rfl⟩)
 refine A2 5 ?_
 refine Q9 rfl rfl rfl rfl rfl rfl (fun _ _ => by repeat (first | exact Sw.here | apply Sw.there)) (J9 (by repeat first | exact mH | apply mT)) rfl (by simp [Value.oneCell']) (by unfold maxLen; omega) (by omega) rfl rfl (by repeat (first | exact A4.nil | apply A4.dep (by kernel_rfl) | apply A4.blk (by kernel_rfl) (by repeat (first | exact Pk.here | apply Pk.there)) (by repeat first | exact mH | apply mT))) (fun pn' cn' => ?_)
 refine aP 6 rfl (B1 rfl) rfl ?_
 refine A2 7 ?_
 refine R2 rfl rfl rfl rfl rfl rfl rfl rfl (by kernel_rfl) (by repeat first | exact Sw.here | apply Sw.there) (by rfl) ?_
 refine B9 (M2 (nS (tR ?_)))
 refine sP (H2 rfl rfl (by omega) (by omega)) rfl rfl ?_
 refine sQ (qM rfl) rfl (sD ?_)
 refine J4 (i + 1, pn', cn', es' ++ [[.int .i64 ks[i].k, .slice p3 ks[i].ks.length c3]], F ++ F', G1) ?_ ?_ ?_
 (simp only [E7]; exact M4 (by repeat (first | exact C8.nil | refine C8.cons rfl ?_)) (by repeat (first | exact A0.refl | exact A0.nil | refine A0.cons (by repeat (first | exact Pk.here | apply Pk.there)) ?_)))
 exact ⟨by omega, hle.trans hle1, N5.step hst hnd hle hle1 (by omega) hs' hnd'⟩
 (show ks.length - (i + 1) < ks.length - i; omega)
 refine J5 ?_
 (refine I5 (by repeat (first | exact Pk.here | apply Pk.there)) (fun G2 hle2 hsl2 hno2 => ?_); obtain rfl : i = ks.length := by omega)
 refine tT ?_
 refine I6 (rC rfl (A3 rfl rfl)) ?_
 (rw [List.take_length] at hst; obtain ⟨F2, hf1, hf2⟩ := O9.fin hst hnd hle hle2 hsl2 hno2 hk; exact ⟨rfl, _, F2, rfl, hf1, hf2⟩)
def B2N (t : Ty) (G : IM) : IM → Value → List A1 → Prop := I8 fun G' v => ∃ cells' F, v = .agg ⟨cells'⟩ ∧ O9 (B7 G' G) t cells' F ∧ F.Nodup
def B7K (ks : List Ty) (G : IM) : IM → Value → List A1 → Prop := I8 fun G' v => ∃ p c F, v = .slice p ks.length c ∧ A8b (B7 G' G) ks p c F ∧ F.Nodup
def A4N (t : Tm) (G : IM) : IM → Value → List A1 → Prop := I8 fun G' v => ∃ cells' F, v = .agg ⟨cells'⟩ ∧ P0 (B7 G' G) t cells' F ∧ F.Nodup
def B7L (ks : List Tm) (G : IM) : IM → Value → List A1 → Prop := I8 fun G' v => ∃ p c F, v = .slice p ks.length c ∧ A08 (B7 G' G) ks p c F ∧ F.Nodup
theorem Sl.of_blk {G : IM} {b n c sz : Nat} {A C cs : List Value} (hl : cs.length = n * sz) (hc : n ≤ c) (hm : c ≤ maxLen) (hg : G b = some (A ++ (cs ++ C))) : Sl G (some ⟨b, A.length, none⟩) n c sz cs := by
 refine ⟨hl, hc, hm, .inr ⟨b, A.length, _, rfl, hg, fun j v hj => ?_⟩⟩
 have hlt : j < cs.length := (List.getElem?_eq_some_iff.1 hj).1
 rw [List.getElem?_append, if_neg (by omega), List.getElem?_append, if_pos (by omega), show A.length + j - A.length = j by omega]
 exact hj
def InG (G : IM) (bs : A09) (F : List Nat) : Prop := (bs.map Prod.fst).Sublist F ∧ ∀ q ∈ bs, G q.1 = some q.2
mutual
theorem A3N : ∀ t : Ty, I0 t ≤ 4294967296 → t.small
 | .mk _ ks, h => by
  rw [I0] at h
  have := A1M ks
  simp only [Ty.small]
  exact ⟨by omega, A8x ks (by omega)⟩
theorem A8x : ∀ ts : List Ty, O0 ts ≤ 4294967296 → Ty.smallL ts
 | [], _ => by simp [Ty.smallL]
 | t :: ts, h => by
  rw [O0] at h
  have := A1a t
  have := A1M ts
  simp only [Ty.smallL]
  exact ⟨A3N t (by omega), A8x ts (by omega)⟩
end
mutual
theorem A6g : ∀ t : Tm, A0i t ≤ 4294967296 → t.small
 | .mk _ nm _ ty fr _ ks, h => by
  rw [A0i] at h
  have := A4L ks
  have := A1a ty
  have := A1a fr
  simp only [Tm.small]
  exact ⟨by omega, A3N ty (by omega), A3N fr (by omega), by omega, A8y ks (by omega)⟩
theorem A8y : ∀ ts : List Tm, Y5 ts ≤ 4294967296 → Tm.smallL ts
 | [], _ => by simp [Tm.smallL]
 | t :: ts, h => by
  rw [Y5] at h
  have := A8p t
  have := A4L ts
  simp only [Tm.smallL]
  exact ⟨A6g t (by omega), A8y ts (by omega)⟩
end
mutual
theorem A3O : ∀ t : Tm, (C9 t : Int) ≤ A0i t + 1
 | .mk _ nm _ ty fr _ ks => by
  have := A8z ks
  have := A1a ty
  have := A1a fr
  rw [A0i, C9]; omega
theorem A8z : ∀ ts : List Tm, (D2 ts : Int) ≤ ts.length + Y5 ts
 | [] => by rw [Y5, D2]; simp
 | t :: ts => by
  have := A3O t
  have := A8z ts
  rw [Y5, D2, List.length_cons]; omega
end
theorem A0k : ∀ (t : Ty) (G : IM) (cells : List Value), t.small → A8 G t cells → Fn Tryz.prog 170 [.agg ⟨cells⟩] [] G (B2N t G) := by
 refine Ty.ind fun k ks ih G cells hts hr => ?_
 simp only [Ty.small] at hts
 obtain ⟨hsm, hks⟩ := hts
 obtain ⟨p, c, es, rfl, hk, hsl, hkl⟩ := hr.open
 simp only [Ty.k, Ty.ks] at hk hsl hkl ⊢
 have hn := hsl.le
 refine B6 Tryz.func170 rfl Tryz.ntmps170 Tryz.results170 rfl ?_
 intro w0
 refine tS (tR ?_)
 refine sE (E2 rfl rfl) rfl (fun b3 => ?_)
 refine sE (B0 rfl) rfl (fun b4 => ?_)
 refine C5 ?_
 refine sE (B0 rfl) rfl (fun b12 => ?_)
 refine I1 ?_
 refine sD (nS (tS (tS (tR (sQ (qA rfl) rfl (sD (nS ?_)))))))
 refine B2 ?_
 (refine W9 25 2 ?_; refine J8 (fun (x : Nat × Option Addr × Nat × List (List Value) × List Nat × IM) => ⟨[(4, .int .i64 x.1), (3, .pointer (some ⟨b12, 0, none⟩)), (1, .pointer (some ⟨b3, 0, none⟩)), (2, .pointer (some ⟨b4, 0, none⟩))], [.blk b12 [.int .i64 k, .slice x.2.1 x.1 x.2.2.1], .slc x.2.1 x.2.2.1 25 2 x.1 x.2.2.2.1.flatten, .blk b4 [.int .i64 0, .slice none 0 0], .blk b3 [.int .i64 k, .slice p ks.length c]], x.2.2.2.2.2⟩) (fun x => x.1 ≤ ks.length ∧ A7 G x.2.2.2.2.2 ∧ N5 (B7 x.2.2.2.2.2 G) (ks.take x.1) x.2.2.2.1 x.2.2.2.2.1 ∧ x.2.2.2.2.1.Nodup) (fun x => ks.length - x.1) (0, none, 0, [], [], G) ?_ ?_ ?_)
 (simp only [E7]; exact C2)
 exact ⟨by simp, A7.refl _, by simp [N5], by simp⟩
 (rintro ⟨i, pn, cn, es', F, Gi⟩ ⟨hi, hle, hst, hnd⟩; simp only [] at hi hle hst hnd ⊢; replace hsl := hsl.mono hle; replace hkl := hkl.mono hle)
 refine C5 ?_
 refine sB (I7 rfl rfl) rfl rfl (fun h34 => ?_) (fun h34 => ?_)
 refine sD (nS (qT rfl (tK (nS (tS ?_)))))
 refine B2 ?_
 (obtain ⟨b, o, p2, c2, rfl, hat, hre, hgb⟩ := hsl.kidTy hkl (i := i) (by omega) (by omega); refine D7 D8 rfl ?_)
 refine H4 (i := 0) (l' := [tt,ff,ff,ff,ff,ff,ff,ff,ff,ff,ff,ff]) rfl D3 (B1 rfl) rfl (by kernel_rfl) rfl rfl ?_
 refine aL 1 rfl (D4 rfl rfl) rfl ?_
 refine aP 2 rfl (B1 rfl) rfl ?_
 refine aL 3 rfl (D4 rfl rfl) rfl ?_
 refine aP 4 rfl (qM rfl) rfl ?_
 refine aP 5 rfl (B3 rfl rfl rfl (by omega)) rfl ?_
 refine aL 6 rfl (A6 rfl rfl (hat _) rfl) rfl ?_
 refine A2 7 ?_
 (refine P2 rfl rfl (ih ks[i] (List.getElem_mem (by omega)) _ _ (Ty.smallL_mem hks _ (List.getElem_mem (by omega))) hre) rfl rfl rfl (fun v G1 hle1 hh => ?_); obtain ⟨cells', F', rfl, hs', hnd'⟩ := hh; obtain ⟨p3, c3, es3, rfl, _⟩ := hs'.R.open)
 refine A2 8 ?_
 (refine D6 rfl (B4 rfl rfl rfl (by omega) (by unfold maxLen; omega) rfl) rfl rfl ?_; rintro _ ⟨b53, rfl⟩)
 refine A2 9 ?_
 refine Q9 rfl rfl rfl rfl rfl rfl (fun _ _ => by repeat (first | exact Sw.here | apply Sw.there)) (J9 (by repeat first | exact mH | apply mT)) rfl (by simp [Value.oneCell']) (by unfold maxLen; omega) (by omega) rfl rfl (by repeat (first | exact A4.nil | apply A4.dep (by decide +kernel) | apply A4.blk (by decide +kernel) (by repeat (first | exact Pk.here | apply Pk.there)) (by repeat first | exact mH | apply mT))) (fun pn' cn' => ?_)
 refine aP 10 rfl (B1 rfl) rfl ?_
 refine A2 11 ?_
 refine R2 rfl rfl rfl rfl rfl rfl rfl rfl (by kernel_rfl) (by repeat first | exact Sw.here | apply Sw.there) (by rfl) ?_
 refine B9 (M2 (nS (tR (sQ (qM rfl) rfl ?_))))
 refine sP (H2 rfl rfl (by omega) (by omega)) rfl rfl ?_
 refine sQ (qA rfl) rfl (sD ?_)
 refine J4 (i + 1, pn', cn', es' ++ [[.int .i64 ks[i].k, .slice p3 ks[i].ks.length c3]], F ++ F', G1) ?_ ?_ ?_
 (simp only [E7]; exact C2)
 exact ⟨by omega, hle.trans hle1, N5.step hst hnd hle hle1 (by omega) hs' hnd'⟩
 (show ks.length - (i + 1) < ks.length - i; omega)
 refine M5 ?_
 (refine I5 (by repeat (first | exact Pk.here | apply Pk.there)) (fun G2 hle2 hsl2 hno2 => ?_); obtain rfl : i = ks.length := (by omega))
 refine tT ?_
 refine I6 (rC rfl (A3 rfl rfl)) ?_
 (rw [List.take_length] at hst; obtain ⟨F2, hf1, hf2⟩ := O9.fin hst hnd hle hle2 hsl2 hno2 hk; exact ⟨rfl, _, F2, rfl, hf1, hf2⟩)
theorem B2O : ∀ (t : Tm) (G : IM) (cells : List Value), t.small → B5 G t cells → Fn Tryz.prog 113 [.agg ⟨cells⟩] [] G (A4N t G) := by
 refine Tm.ind fun k nm num ty fr lb ks ih G cells hts hr => ?_
 have hone := hr.one
 simp only [Tm.small] at hts
 obtain ⟨hnm, hty', hfr', hsm, hks⟩ := hts
 obtain ⟨tk, tks⟩ := ty
 obtain ⟨fk, fks⟩ := fr
 obtain ⟨pt, ct, pf, cf, p, c, es, rfl, hk, hnum, hlb, hty, hfr, hsl, hkl⟩ := hr.open9
 have hn := hsl.le
 have hT := A0k (.mk tk tks) G _ hty' hty
 refine B6 Tryz.func113 rfl Tryz.ntmps113 Tryz.results113 rfl ?_
 intro w0
 refine tS (tR ?_)
 refine sE (E2 rfl rfl) rfl (fun b3 => ?_)
 refine sE (B0 rfl) rfl (fun b4 => ?_)
 refine sD (nS (tS (tR (sL (A3 rfl rfl) rfl rfl ?_))))
 refine sE (B0 rfl) rfl (fun b10 => ?_)
 refine C5 ?_
 (refine M0 rfl hT rfl rfl (fun v G1 hle1 hh => ?_); obtain ⟨Y3, F1, rfl, hs1, hn1⟩ := hh; obtain ⟨p1, c1, rfl, _⟩ := hs1.open; have hF := A0k (.mk fk fks) G1 _ hfr' (hfr.mono hle1))
 refine E1 ?_
 (refine M0 rfl hF rfl rfl (fun v G2 hle2 hh => ?_); obtain ⟨cs2, F2, rfl, hs2, hn2⟩ := hh; obtain ⟨p2, c2, rfl, _⟩ := hs2.open; replace hsl := hsl.mono (hle1.trans hle2); replace hkl := hkl.mono (hle1.trans hle2))
 refine N9 ?_
 refine B2 ?_
 (refine W9 28 9 ?_; refine J8 (fun (x : Nat × Option Addr × Nat × List (List Value) × List Nat × IM) => ⟨[(4, .int .i64 x.1), (3, .pointer (some ⟨b10, 0, none⟩)), (1, .pointer (some ⟨b3, 0, none⟩)), (2, .pointer (some ⟨b4, 0, none⟩))], [.blk b10 [.int .i64 k, .string nm, .int .i64 num, .int .i64 tk, .slice p1 tks.length c1, .int .i64 fk, .slice p2 fks.length c2, .int .i64 lb, .slice x.2.1 x.1 x.2.2.1], .slc x.2.1 x.2.2.1 28 9 x.1 x.2.2.2.1.flatten, .blk b4 [.int .i64 0, .string ⟨⟨[]⟩⟩, .int .i64 0, .int .i64 0, .slice none 0 0, .int .i64 0, .slice none 0 0, .int .i64 0, .slice none 0 0], .blk b3 [.int .i64 k, .string nm, .int .i64 num, .int .i64 tk, .slice pt tks.length ct, .int .i64 fk, .slice pf fks.length cf, .int .i64 lb, .slice p ks.length c]], x.2.2.2.2.2⟩) (fun x => x.1 ≤ ks.length ∧ A7 G2 x.2.2.2.2.2 ∧ L8 (B7 x.2.2.2.2.2 G2) (ks.take x.1) x.2.2.2.1 x.2.2.2.2.1 ∧ x.2.2.2.2.1.Nodup) (fun x => ks.length - x.1) (0, none, 0, [], [], G2) ?_ ?_ ?_)
 (simp only [E7]; exact C2)
 exact ⟨by simp, A7.refl _, by simp [L8], by simp⟩
 (rintro ⟨i, pn, cn, es', F, Gi⟩ ⟨hi, hle, hst, hnd⟩; simp only [] at hi hle hst hnd ⊢; replace hsl := hsl.mono hle; replace hkl := hkl.mono hle)
 refine C5 ?_
 refine sB (I7 rfl rfl) rfl rfl (fun h56 => ?_) (fun h56 => ?_)
 refine sD (nS (qT rfl (tK (nS (tS ?_)))))
 refine B2 ?_
 (obtain ⟨b, o, e, rfl, hl, hat, hre, hgb⟩ := hsl.kidTm hkl (i := i) (by omega) (by omega); have hone := hre.one; refine D7 D8 rfl ?_)
 refine H4 (i := 0) (l' := [tt,ff,ff,ff,ff,ff,ff,ff,ff,ff,ff,ff]) rfl D3 (B1 rfl) rfl (by kernel_rfl) rfl rfl ?_
 refine aL 1 rfl (D4 rfl rfl) rfl ?_
 refine aP 2 rfl (B1 rfl) rfl ?_
 refine aL 3 rfl (D4 rfl rfl) rfl ?_
 refine aP 4 rfl (qM rfl) rfl ?_
 refine aP 5 rfl (B3 rfl rfl rfl (by omega)) rfl ?_
 refine aL 6 rfl (A6 rfl rfl (hat _) hl) rfl ?_
 refine A2 7 ?_
 (refine P2 rfl rfl (ih ks[i] (List.getElem_mem (by omega)) _ _ (Tm.smallL_mem hks _ (List.getElem_mem (by omega))) hre) rfl rfl rfl (fun v G3 hle3 hh => ?_); obtain ⟨cells', F', rfl, hs', hnd'⟩ := hh; obtain ⟨qt, dt, et', qf, df, ef', q3, d3, es3, rfl, _⟩ := hs'.R.open)
 refine A2 8 ?_
 (refine D6 rfl (B4 rfl rfl rfl (by omega) (by unfold maxLen; omega) rfl) rfl rfl ?_; rintro _ ⟨b75, rfl⟩)
 refine A2 9 ?_
 refine Q9 rfl rfl rfl rfl rfl rfl (fun _ _ => by repeat (first | exact Sw.here | apply Sw.there)) (J9 (by repeat first | exact mH | apply mT)) rfl (by simp [Value.oneCell']) (by unfold maxLen; omega) (by omega) rfl rfl (by repeat (first | exact A4.nil | apply A4.dep (by decide +kernel) | apply A4.blk (by decide +kernel) (by repeat (first | exact Pk.here | apply Pk.there)) (by repeat first | exact mH | apply mT))) (fun pn' cn' => ?_)
 refine aP 10 rfl (B1 rfl) rfl ?_
 refine A2 11 ?_
 refine R2 rfl rfl rfl rfl rfl rfl rfl rfl (by kernel_rfl) (by repeat first | exact Sw.here | apply Sw.there) (by rfl) ?_
 refine B9 (M2 (nS (tR (sQ (qM rfl) rfl ?_))))
 refine sP (H2 rfl rfl (by omega) (by omega)) rfl rfl ?_
 refine sQ (qA rfl) rfl (sD ?_)
 refine J4 (i + 1, pn', cn', es' ++ [[.int .i64 ks[i].k, .string ks[i].nm, .int .i64 ks[i].num, .int .i64 ks[i].ty.k, .slice qt ks[i].ty.ks.length dt, .int .i64 ks[i].fr.k, .slice qf ks[i].fr.ks.length df, .int .i64 ks[i].lb, .slice q3 ks[i].ks.length d3]], F ++ F', G3) ?_ ?_ ?_
 (simp only [E7]; exact C2)
 exact ⟨by omega, hle.trans hle3, L8.step hst hnd hle hle3 (by omega) hs' hnd'⟩
 (show ks.length - (i + 1) < ks.length - i; omega)
 refine M5 ?_
 (refine I5 (by repeat (first | exact Pk.here | apply Pk.there)) (fun G4 hle4 hsl4 hno4 => ?_); obtain rfl : i = ks.length := (by omega))
 refine tT ?_
 refine I6 (rC rfl (A3 rfl rfl)) ?_
 (rw [List.take_length] at hst; obtain ⟨F3, hf1, hf2⟩ := A08.fin hst hnd hle hle4 hsl4 hno4; obtain ⟨F5, hg1, hg2⟩ := P0.mk3 (nm := nm) hk hnum hlb hle1 hle2 (hle.trans hle4) hs1 hn1 hs2 hn2 hf1 hf2; exact ⟨rfl, _, F5, rfl, hg1, hg2⟩)
mutual
def A1P (g : Tm → Tm) : Tm → Tm
 | .mk k nm num ty fr lb ks => g (.mk k nm num ty fr lb (A0T g ks))
def A0T (g : Tm → Tm) : List Tm → List Tm
 | [] => []
 | t :: ts => A1P g t :: A0T g ts
end
theorem A6h (g : Tm → Tm) : ∀ ks, A0T g ks = ks.map (A1P g)
 | [] => rfl
 | t :: ts => by rw [A0T, A6h g ts, List.map_cons]
theorem P0.mk3k {G G1 G2 G3 : IM} {k : Int} {nm : ByteArray} {num : Int} {ty fr : Ty} {lb : Int} {ks : List Tm} {tc fc : List Value} {p : Option Addr} {c : Nat} {F1 F2 F3 : List Nat} (hk : C1 k) (hnum : C1 num) (hlb : C1 lb)
  (hl1 : A7 G G1) (hl2 : A7 G1 G2) (hl3 : A7 G2 G3) (h3 : A08 (B7 G1 G) ks p c F3) (n3 : F3.Nodup) (h1 : O9 (B7 G2 G1) ty tc F1) (n1 : F1.Nodup) (h2 : O9 (B7 G3 G2) fr fc F2) (n2 : F2.Nodup) :
  ∃ F, P0 (B7 G3 G) (.mk k nm num ty fr lb ks) ([.int .i64 k, .string nm, .int .i64 num] ++ tc ++ fc ++ [.int .i64 lb, .slice p ks.length c]) F ∧ F.Nodup := by
 obtain ⟨es, Fs, e1, e2, rfl, e4⟩ := h3
 have i3 : ∀ b ∈ H1 p ++ Fs, B7 G1 G b ≠ none := by
  intro b hb
  rcases List.mem_append.1 hb with hb | hb
  ·exact e4 b hb
  ·exact e2.inG b hb
 have a1 : A7 (B7 G1 G) (B7 G3 G) := B7.mono (hl2.trans hl3)
 have a2 : A7 (B7 G2 G1) (B7 G3 G) := fun b l h => B7.mono hl3 b l (B7.anti hl1 b l h)
 have a3 : A7 (B7 G3 G2) (B7 G3 G) := B7.anti (hl1.trans hl2)
 refine ⟨F1 ++ (F2 ++ (H1 p ++ Fs)), ?_, ?_⟩
 ·simp only [P0]
  exact ⟨tc, fc, p, c, es, F1, F2, Fs, rfl, hk, hnum, hlb, h1.mono a2, h2.mono a3, e1.mono a1, e2.mono a1, rfl, A26 a1 e4⟩
 ·rw [List.nodup_append, List.nodup_append]
  refine ⟨n1, ⟨n2, n3, ?_⟩, ?_⟩
  ·rintro x hx y hy rfl
   exact A2A (A26 (B7.mono hl2) i3) h2.inG x hy x hx rfl
  ·rintro x hx y hy rfl
   rcases List.mem_append.1 hy with hy | hy
   ·exact A2A (A26 (B7.anti hl1) h1.inG) h2.inG x hx x hy rfl
   ·exact A2A i3 h1.inG x hy x hx rfl
mutual
def mOk (Q : Tm → Prop) (g : Tm → Tm) : Tm → Prop
 | .mk k nm num ty fr lb ks => A2C Q g ks ∧ Q (.mk k nm num ty fr lb (A0T g ks))
def A2C (Q : Tm → Prop) (g : Tm → Tm) : List Tm → Prop
 | [] => True
 | t :: ts => mOk Q g t ∧ A2C Q g ts
end
theorem A8A {Q : Tm → Prop} {g : Tm → Tm} : ∀ {ts : List Tm}, A2C Q g ts → ∀ t ∈ ts, mOk Q g t
 | [], _, t, h => by simp at h
 | t' :: ts, h, t, ht => by
  simp only [A2C] at h
  rcases List.mem_cons.1 ht with rfl | ht
  ·exact h.1
  ·exact A8A h.2 t ht
def A8B (g : Tm → Tm) (Q : Tm → Prop) (fid : FuncId) (us cs : List Value) : Prop := ∀ (t : Tm) (G0 G1 : IM) (cells : List Value) (F : List Nat), Q t → A7 G0 G1 → P0 (B7 G1 G0) t cells F → F.Nodup →
 Fn Tryz.prog fid (us ++ [.agg ⟨cells⟩] ++ cs) [] G1 (I8 fun G2 v => ∃ cells' F', v = .agg ⟨cells'⟩ ∧ P0 (B7 G2 G0) (g t) cells' F' ∧ F'.Nodup)
theorem B2P (g : Tm → Tm) (Q : Tm → Prop) (fid : FuncId) [A9 Tryz.prog fid] (us cs : List Value) (hg : A8B g Q fid us cs) : ∀ (t : Tm) (G : IM) (cells : List Value), mOk Q g t → t.small → B5 G t cells →
  Fn Tryz.prog 121 [.agg ⟨cells⟩, .func (.func fid) ⟨us⟩ ⟨cs⟩] [] G (A4N (A1P g t) G) := by
 refine Tm.ind fun k nm num ty fr lb ks ih G cells hmo hts hr => ?_
 have hone := hr.one
 simp only [mOk] at hmo
 obtain ⟨hmoL, hQ⟩ := hmo
 simp only [Tm.small] at hts
 obtain ⟨hnm, hty', hfr', hsm, hks⟩ := hts
 obtain ⟨tk, tks⟩ := ty
 obtain ⟨fk, fks⟩ := fr
 obtain ⟨pt, ct, pf, cf, p, c, es, rfl, hk, hnum, hlb, hty, hfr, hsl, hkl⟩ := hr.open9
 have hn := hsl.le
 have hlen : (A0T g ks).length = ks.length := by rw [A6h, List.length_map]
 have hget : ∀ i (h : i < ks.length) (h' : i < (A0T g ks).length), (A0T g ks)[i] = A1P g ks[i] := fun i h h' => by simp [A6h]
 refine B6 Tryz.func121 rfl Tryz.ntmps121 Tryz.results121 rfl ?_
 intro w0
 refine tS (tR ?_)
 refine sE (E2 rfl rfl) rfl (fun b3 => ?_)
 refine sE (B0 rfl) rfl (fun b4 => ?_)
 refine N9 ?_
 refine B2 ?_
 (refine W9 28 9 ?_; refine J8 (fun (x : Nat × Option Addr × Nat × List (List Value) × List Nat × IM) => ⟨[(11, .int .i64 x.1), (10, .int .i64 ks.length), (9, .slice p ks.length c), (5, .slice x.2.1 x.1 x.2.2.1), (2, .pointer (some ⟨b3, 0, none⟩)), (1, .func (.func fid) ⟨us⟩ ⟨cs⟩), (4, .pointer (some ⟨b4, 0, none⟩))], [.slc x.2.1 x.2.2.1 28 9 x.1 x.2.2.2.1.flatten, .blk b4 [.int .i64 0, .string ⟨⟨[]⟩⟩, .int .i64 0, .int .i64 0, .slice none 0 0, .int .i64 0, .slice none 0 0, .int .i64 0, .slice none 0 0], .blk b3 [.int .i64 k, .string nm, .int .i64 num, .int .i64 tk, .slice pt tks.length ct, .int .i64 fk, .slice pf fks.length cf, .int .i64 lb, .slice p ks.length c]], x.2.2.2.2.2⟩) (fun x => x.1 ≤ ks.length ∧ A7 G x.2.2.2.2.2 ∧ L8 (B7 x.2.2.2.2.2 G) ((A0T g ks).take x.1) x.2.2.2.1 x.2.2.2.2.1 ∧ x.2.2.2.2.1.Nodup) (fun x => ks.length - x.1) (0, none, 0, [], [], G) ?_ ?_ ?_)
 (simp only [E7]; exact C2)
 exact ⟨by simp, A7.refl _, by simp [L8], by simp⟩
 (rintro ⟨i, pn, cn, es', F, Gi⟩ ⟨hi, hle, hst, hnd⟩; simp only [] at hi hle hst hnd ⊢; replace hsl := hsl.mono hle; replace hkl := hkl.mono hle)
 refine tS (tR ?_)
 refine sB (I7 rfl rfl) rfl rfl (fun h28 => ?_) (fun h28 => ?_)
 refine sD (nS (tS (qT rfl (tK (nS (tS ?_))))))
 refine B2 ?_
 refine tS (tR ?_)
 (obtain ⟨b, o, e, rfl, hl, hat, hre, hgb⟩ := hsl.kidTm hkl (i := i) (by omega) (by omega); have hone := hre.one; refine sP (B3 rfl rfl rfl (by omega)) rfl rfl ?_)
 refine sL (A6 rfl rfl (hat _) hl) rfl rfl ?_
 refine sE (B0 rfl) rfl (fun b41 => ?_)
 refine sS rfl rfl rfl hl hone rfl ?_ (hu := by exact O5 hl.symm)
 refine sD (nS (tR (sQ (qM rfl) rfl ?_)))
 refine sL (A6 rfl rfl (H0 (by repeat first | exact mH | apply mT)) (by assumption)) rfl rfl ?_
 refine sQ (qM rfl) rfl ?_
 (refine M0 rfl (ih ks[i] (List.getElem_mem (by omega)) _ _ (A8A hmoL _ (List.getElem_mem (by omega))) (Tm.smallL_mem hks _ (List.getElem_mem (by omega))) hre) rfl rfl (fun v G3 hle3 hh => ?_); obtain ⟨cells', F', rfl, hs', hnd'⟩ := hh; rw [← hget i (by omega) (by omega)] at hs'; have hlc := hs'.R.len; have hoc := hs'.R.one)
 (obtain ⟨v1, v2, v3, v4, v5, v6, v7, v8, v9, rfl⟩ : ∃ v1 v2 v3 v4 v5 v6 v7 v8 v9, cells' = [v1, v2, v3, v4, v5, v6, v7, v8, v9] := by obtain ⟨_, _, _, _, _, _, _, _, _, rfl, _⟩ := hs'.R.open; exact ⟨_, _, _, _, _, _, _, _, _, rfl⟩)
 (refine E9 (B4 rfl rfl rfl (by omega) (by unfold maxLen; omega) rfl) rfl ?_; rintro _ ⟨b51, rfl⟩)
 refine U9 rfl rfl rfl rfl rfl (fun _ _ => by repeat (first | exact Sw.here | apply Sw.there)) (J9 (by repeat first | exact mH | apply mT)) rfl (fun u hu => List.all_eq_true.1 hoc u hu) (by unfold maxLen; omega) (by omega) rfl (fun pn' cn' => ?_)
 refine sQ (qA rfl) rfl (sD (M2 (nS (tR ?_))))
 refine sP (H2 rfl rfl (by omega) (by omega)) rfl rfl ?_
 refine sQ (qM rfl) rfl (sD ?_)
 refine J4 (i + 1, pn', cn', es' ++ [[v1, v2, v3, v4, v5, v6, v7, v8, v9]], F ++ F', G3) ?_ ?_ ?_
 (simp only [E7]; exact C2)
 exact ⟨by omega, hle.trans hle3, L8.step hst hnd hle hle3 (by omega) hs' hnd'⟩
 (show ks.length - (i + 1) < ks.length - i; omega)
 refine H9 ?_
 (obtain rfl : i = ks.length := (by omega); refine A1k (by repeat (first | exact Pk.here | apply Pk.there)) (fun G2 hle2 hsl2 hno2 => ?_); rw [← hlen, List.take_length] at hst; rw [← hlen] at hsl2; obtain ⟨F3, hf1, hf2⟩ := A08.fin hst hnd hle hle2 hsl2 hno2; have hleG := hle.trans hle2; have hT := A2B (.mk tk tks) G2 _ hty' (hty.mono hleG); refine D7 D8 rfl ?_)
 refine H4 (i := 0) (l' := [tt,ff,ff,ff,ff,ff,ff,ff,ff,ff,ff,ff,ff]) rfl D3 (B1 rfl) rfl (by kernel_rfl) rfl rfl ?_
 refine aL 1 rfl (A3 rfl rfl) rfl ?_
 refine aP 3 rfl (B1 rfl) rfl ?_
 refine aL 4 rfl (A3 rfl rfl) rfl ?_
 refine aP 6 rfl (qM rfl) rfl ?_
 refine A2 2 ?_
 (refine P2 rfl rfl hT rfl rfl rfl (fun v G4 hle4 hh => ?_); obtain ⟨Y3, F1, rfl, hs1, hn1⟩ := hh; obtain ⟨p1, c1, rfl, _⟩ := hs1.open; have hF := A2B (.mk fk fks) G4 _ hfr' (hfr.mono (hleG.trans hle4)))
 refine aP 7 rfl (B1 rfl) rfl ?_
 refine A2 5 ?_
 (refine P2 rfl rfl hF rfl rfl rfl (fun v G5 hle5 hh => ?_); obtain ⟨cs2, F2, rfl, hs2, hn2⟩ := hh; obtain ⟨p2, c2, rfl, _⟩ := hs2.open; obtain ⟨F6, hg1, hg2⟩ := P0.mk3k (nm := nm) hk hnum hlb hleG hle4 hle5 hf1 hf2 hs1 hn1 hs2 hn2; rw [hlen] at hg1; have hch := hg _ G G5 _ F6 hQ (hleG.trans (hle4.trans hle5)) hg1 hg2)
 refine A2 8 ?_
 refine R2 rfl rfl rfl rfl rfl rfl rfl rfl (by kernel_rfl) (by repeat first | exact Sw.here | apply Sw.there) (by rfl) ?_
 refine aP 9 rfl (B1 rfl) rfl ?_
 refine A2 10 ?_
 refine R2 rfl rfl rfl rfl rfl rfl rfl rfl (by kernel_rfl) (by repeat first | exact Sw.here | apply Sw.there) (by rfl) ?_
 refine aP 11 rfl (B1 rfl) rfl ?_
 refine A2 12 ?_
 refine R2 rfl rfl rfl rfl rfl rfl rfl rfl (by kernel_rfl) (by repeat first | exact Sw.here | apply Sw.there) (by rfl) ?_
 refine N6 ?_
 (refine E9 (A1h rfl rfl hch (List.Perm.refl _) rfl) rfl ?_; rintro _ ⟨v, G7, outs, rfl, hle7, rfl, cells7, F7, rfl, hs7, hn7⟩; have hl7 := hs7.R.len; have ho7 := hs7.R.one)
 refine sS rfl rfl rfl hl7 ho7 rfl ?_ (hu := by exact O5 hl7.symm)
 refine sD (nS (tT ?_))
 refine I6 (rC rfl (A6 rfl rfl (H0 (by repeat first | exact mH | apply mT)) hl7)) ?_
 (rw [A1P]; exact ⟨rfl, cells7, F7, rfl, hs7, hn7⟩)
theorem B2Q (G : IM) (p : Option Addr) (n c : Nat) (es : List (List Value)) (hsl : C0 G p n c 2 es) (fid : FuncId) [A9 Tryz.prog fid] (us cs : List Value) (ins : List A1) (q : Nat → Bool)
  (hq : ∀ i e, es[i]? = some e → Fn Tryz.prog fid (us ++ [.agg ⟨e⟩] ++ cs) ins G (Z8 (.bool (q i)) ins G)) :
  Fn Tryz.prog 136 [.slice p n c, .func (.func fid) ⟨us⟩ ⟨cs⟩] ins G (Z8 (.int .i64 (A07 q n)) ins G) := by
 have hn := hsl.le
 refine B6 Tryz.func136 rfl Tryz.ntmps136 Tryz.results136 rfl ?_
 intro w0
 refine L7 ?_
 refine B2 ?_
 refine J8 (fun i : Nat => ⟨[(8, .int .i64 i), (7, .int .i64 n), (1, .func (.func fid) ⟨us⟩ ⟨cs⟩), (0, .slice p n c)], ins, G⟩) (fun i => i ≤ n ∧ ∀ j, j < i → q j = false) (fun i => n - i) 0 ?_ ?_ ?_
 exact C2
 exact ⟨by omega, by omega⟩
 rintro i ⟨hi, hf⟩
 refine tS (tR ?_)
 refine sB (I7 rfl rfl) rfl rfl (fun h21 => ?_) (fun h21 => ?_)
 refine sD (nS (tS (qT rfl (tK (nS (tS ?_))))))
 refine B2 ?_
 refine J3 ?_
 (obtain ⟨e, b, o, he, rfl, hl, _, hat, _⟩ := hsl.get (i := i) (by omega); refine sP (B3 rfl rfl rfl (by omega)) rfl rfl ?_)
 refine sL (A6 rfl rfl (hat _) hl) rfl rfl ?_
 refine A72 rfl rfl (hq i e he) A1J rfl rfl (fun h43 => ?_) (fun h43 => ?_)
 refine J5 ?_
 refine E3 (rT rfl) A0.refl ?_
 exact ⟨rfl, by rw [B2d (by omega) hf (by assumption)], rfl⟩
 refine sD (nS (cF rfl (tK (M2 (nS (tR ?_))))))
 refine sP (H2 rfl rfl (by omega) (by omega)) rfl rfl ?_
 refine sQ (qM rfl) rfl (sD ?_)
 refine J4 (i + 1) ?_ ?_ ?_
 exact C2
 exact ⟨by omega, fun j hj => by by_cases hji : j = i; (subst hji; assumption); exact hf j (by omega)⟩
 omega
 refine J5 ?_
 refine E3 (rT rfl) A0.refl ?_
 exact ⟨rfl, by rw [A77 (fun j hj => hf j (by omega))], rfl⟩
theorem B2R (G : IM) (p : Option Addr) (n c : Nat) (es : List (List Value)) (hsl : C0 G p n c 2 es) (fid : FuncId) [A9 Tryz.prog fid] (us cs : List Value) (ins : List A1) (q : Nat → Bool)
  (hq : ∀ i e, es[i]? = some e → Fn Tryz.prog fid (us ++ [.agg ⟨e⟩] ++ cs) ins G (Z8 (.bool (q i)) ins G)) :
  Fn Tryz.prog 73 [.slice p n c, .func (.func fid) ⟨us⟩ ⟨cs⟩] ins G (Z8 (.bool (decide (0 ≤ A07 q n))) ins G) := by
 refine B6 Tryz.func73 rfl Tryz.ntmps73 Tryz.results73 rfl ?_
 intro w0
 refine E8 ?_
 refine A50 rfl (B2Q G p n c es hsl fid us cs ins q hq) A1J rfl rfl ?_
 refine sQ (Y2 rfl rfl) rfl ?_
 refine sQ (qA rfl) rfl (sD (nS (tT ?_)))
 refine E3 (rT rfl) A0.refl ?_
 exact ⟨rfl, rfl, rfl⟩
theorem A27 (G : IM) (p : Option Addr) (n c : Nat) (es : List (List Value)) (hsl : C0 G p n c 2 es) (fid : FuncId) [A9 Tryz.prog fid] (us cs : List Value) (ins : List A1) (f : Ty → Bool) (ks : List Ty)
  (hn : ks.length = n) {A : Bool} (hA : ks.all f = A) (hq : ∀ i e, es[i]? = some e → Fn Tryz.prog fid (us ++ [.agg ⟨e⟩] ++ cs) ins G (Z8 (.bool (!f (ks.getD i A5))) ins G)) :
  Fn Tryz.prog 73 [.slice p n c, .func (.func fid) ⟨us⟩ ⟨cs⟩] ins G (Z8 (.bool (!A)) ins G) := by
 subst hn hA
 rw [← B2h f ks A5]
 exact B2R G p _ c es hsl fid us cs ins _ hq
theorem A8C (G : IM) (p p' : Option Addr) (n c n' c' : Nat) (es es' : List (List Value)) (hsl : C0 G p n c 2 es) (hsl' : C0 G p' n' c' 2 es') (fid : FuncId) [A9 Tryz.prog fid] (us cs : List Value) (ins : List A1) (q : Nat → Bool)
  (A : Bool) (hA : A = true ↔ n = n' ∧ ∀ i, i < n → q i = true)
  (hq : ∀ i e e', es[i]? = some e → es'[i]? = some e' → Fn Tryz.prog fid (us ++ [.agg ⟨e⟩, .agg ⟨e'⟩] ++ cs) ins G (Z8 (.bool (q i)) ins G)) :
  Fn Tryz.prog 95 [.slice p n c, .slice p' n' c', .func (.func fid) ⟨us⟩ ⟨cs⟩] ins G (Z8 (.bool A) ins G) := by
 have hn := hsl.le
 have hn' := hsl'.le
 refine B6 Tryz.func95 rfl Tryz.ntmps95 Tryz.results95 rfl ?_
 intro w0
 refine L4 ?_
 refine sB (X4 rfl rfl) rfl rfl (fun h13 => ?_) (fun h13 => ?_)
 refine H9 ?_
 refine E3 (outs := ins) (rT rfl) (by first | exact A0.refl | exact A0.drop (A0.drop A0.refl)) ?_
 exact ⟨rfl, by (cases A with | false => rfl | true => exact absurd (hA.1 rfl).1 (by omega)), rfl⟩
 refine L7 ?_
 refine B2 (J8 (fun i : Nat => ⟨[(17, .int .i64 i), (16, .int .i64 n), (15, .slice p n c), (2, .func (.func fid) ⟨us⟩ ⟨cs⟩), (1, .slice p' n' c'), (0, .slice p n c)], ins, G⟩) (fun i => i ≤ n ∧ ∀ j, j < i → q j = true) (fun i => n - i) 0 ?_ ?_ ?_)
 exact C2
 exact ⟨by omega, by omega⟩
 rintro i ⟨hi, hf⟩
 refine tS (tR ?_)
 refine sB (I7 rfl rfl) rfl rfl (fun h46 => ?_) (fun h46 => ?_)
 refine sD (nS (tS (qT rfl (tK (nS (tS ?_))))))
 refine B2 ?_
 refine tS (tR (sQ (qM rfl) rfl ?_))
 (obtain ⟨e, b, o, he, rfl, hl, _, hat, _⟩ := hsl.get (i := i) (by omega); refine sP (B3 rfl rfl rfl (by omega)) rfl rfl ?_)
 refine sL (A6 rfl rfl (hat _) hl) rfl rfl ?_
 refine sE (B0 rfl) rfl (fun b60 => ?_)
 refine sQ (qA rfl) rfl ?_
 refine A1H rfl rfl rfl (by assumption) (by assumption) rfl (by repeat first | exact Sw.here | apply Sw.there) (by exact O5 (by symm; assumption)) ?_
 refine sD (nS (tS (tR (sQ (qM rfl) rfl (sQ (qM rfl) rfl ?_)))))
 (obtain ⟨e', b', o', he', rfl, hl', _, hat', _⟩ := hsl'.get (i := i) (by omega); refine sP (B3 rfl rfl rfl (by omega)) rfl rfl ?_)
 refine sL (A6 rfl rfl (hat' _) hl') rfl rfl ?_
 refine sE (B0 rfl) rfl (fun b71 => ?_)
 refine A1H rfl rfl rfl (by assumption) (by assumption) rfl (by repeat first | exact Sw.here | apply Sw.there) (by exact O5 (by symm; assumption)) ?_
 refine sD (nS (tS (tR (sQ (qM rfl) rfl ?_))))
 refine sL (A6 rfl rfl (H0 (by repeat first | exact mH | apply mT)) (by assumption)) rfl rfl ?_
 refine sL (A6 rfl rfl (H0 (by repeat first | exact mH | apply mT)) (by assumption)) rfl rfl ?_
 refine A72 rfl rfl (hq i e e' he he') B18 rfl rfl (fun h80 => ?_) (fun h80 => ?_)
 refine E1 ?_
 refine sP (H2 rfl rfl (by omega) (by omega)) rfl rfl ?_
 refine sQ (qM rfl) rfl (sD ?_)
 refine J4 (i + 1) ?_ ?_ ?_
 exact C2
 exact ⟨by omega, fun j hj => by by_cases hji : j = i; (subst hji; assumption); exact hf j (by omega)⟩
 omega
 refine J5 ?_
 refine E3 (outs := ins) (rT rfl) (by first | exact A0.refl | exact A0.drop (A0.drop A0.refl)) ?_
 exact ⟨rfl, by (cases A with | false => rfl | true => have h0 := (hA.1 rfl).2 i (by omega); simp_all), rfl⟩
 refine J5 ?_
 refine E3 (outs := ins) (rT rfl) (by first | exact A0.refl | exact A0.drop (A0.drop A0.refl)) ?_
 exact ⟨rfl, by rw [hA.2 ⟨by omega, fun j hj => hf j (by omega)⟩], rfl⟩
theorem A0J (n lo hi : Int) (G : IM) : Fn Tryz.prog 69 [.int .i64 n, .int .i64 lo, .int .i64 hi] [] G (J1 (.bool (U1 n lo hi)) G) := by
 refine B6 Tryz.func69 rfl Tryz.ntmps69 Tryz.results69 rfl ?_
 intro w0
 refine E8 ?_
 refine sB (V6 rfl rfl) rfl rfl (fun h10 => ?_) (fun h10 => ?_)
 refine sQ (qM rfl) rfl (sQ (qM rfl) rfl (sQ (qM rfl) rfl ?_))
 refine sB (V6 rfl rfl) rfl rfl (fun h14 => ?_) (fun h14 => ?_)
 refine N6 ?_
 exact ⟨rfl, by simp [U1]; omega, rfl⟩
 refine N6 ?_
 exact ⟨rfl, by simp [U1]; omega, rfl⟩
 refine H9 ?_
 exact ⟨rfl, by simp [U1]; omega, rfl⟩
theorem A3P (k : Int) (G : IM) : Fn Tryz.prog 123 [.int .i64 k] [] G (J1 (.agg ⟨[.int .i64 k, .slice none 0 0]⟩) G) := by
 refine B6 Tryz.func123 rfl Tryz.ntmps123 Tryz.results123 rfl ?_
 intro w0
 refine tS (tR ?_)
 refine sE (B0 rfl) rfl (fun b3 => ?_)
 refine H9 ?_
 refine I6 (rC rfl (A3 rfl rfl)) ?_
 exact ⟨rfl, rfl, rfl⟩
theorem B2S (n : Int) (G : IM) : Fn Tryz.prog 162 [.int .i64 n] [] G (J1 (.bool (A1n n)) G) := by
 refine B6 Tryz.func162 rfl Tryz.ntmps162 Tryz.results162 rfl ?_
 intro w0
 refine E1 ?_
 refine H8 rfl (A0J _ _ _ _) rfl rfl (fun h9 => ?_) (fun h9 => ?_)
 refine E8 ?_
 exact ⟨rfl, by simp [A1n, *], rfl⟩
 refine sQ (qM rfl) rfl (sQ (qM rfl) rfl ?_)
 refine H8 rfl (A0J _ _ _ _) rfl rfl (fun h22 => ?_) (fun h22 => ?_)
 refine N6 ?_
 exact ⟨rfl, by simp [A1n, *], rfl⟩
 refine N6 ?_
 exact ⟨rfl, by simp [A1n, *], rfl⟩
theorem A8D (t : Ty) (G : IM) (cells : List Value) (hr : A8 G t cells) : Fn Tryz.prog 160 [.agg ⟨cells⟩] [] G (J1 (.bool (Z5 t)) G) := by
 obtain ⟨p, c, es, rfl, hk, hsl, hkl⟩ := hr.open
 refine B6 Tryz.func160 rfl Tryz.ntmps160 Tryz.results160 rfl ?_
 intro w0
 refine tS (tR ?_)
 refine sE (E2 rfl rfl) rfl (fun b3 => ?_)
 refine C5 ?_
 refine sB (qE rfl rfl) rfl rfl (fun h11 => ?_) (fun h11 => ?_)
 refine K5 ?_
 refine sB (qE rfl rfl) rfl rfl (fun h16 => ?_) (fun h16 => ?_)
 refine N6 ?_
 exact ⟨rfl, by simp only [Z5]; (first | rw [decide_eq_true (by omega)] | rw [decide_eq_false (by omega)]), rfl⟩
 refine N6 ?_
 exact ⟨rfl, by simp only [Z5]; (first | rw [decide_eq_true (by omega)] | rw [decide_eq_false (by omega)]), rfl⟩
 refine J3 ?_
 exact ⟨rfl, by simp only [Z5]; (first | rw [decide_eq_true (by omega)] | rw [decide_eq_false (by omega)]), rfl⟩
theorem B2T (s : ByteArray) (G : IM) : Fn Tryz.prog 158 [.string s] [] G (J1 (.bool (Y4 s)) G) := by
 refine B6 Tryz.func158 rfl Tryz.ntmps158 Tryz.results158 rfl ?_
 intro w0
 refine E1 ?_
 refine sQ (A0w rfl rfl) rfl (sB (qE rfl rfl) rfl rfl (fun h10 => ?_) (fun h10 => ?_))
 refine sQ (qM rfl) rfl (sQ (qM rfl) rfl ?_)
 refine sP (A3C rfl rfl rfl (by omega) (A4D (by omega))) rfl rfl ?_
 refine sB (Y2 rfl rfl) rfl rfl (fun h14 => ?_) (fun h14 => ?_)
 refine sQ (N4 rfl rfl) rfl (sQ (qM rfl) rfl (sQ (qM rfl) rfl ?_))
 refine sP (A3C rfl rfl rfl (by omega) (A4D (by omega))) rfl rfl ?_
 refine sB (V6 rfl rfl) rfl rfl (fun h19 => ?_) (fun h19 => ?_)
 refine N6 ?_
 exact ⟨rfl, by simp only [Y4]; (try simp only [Int.toNat_zero] at *); (first | rw [decide_eq_true (by omega)] | rw [decide_eq_false (by omega)]), rfl⟩
 refine N6 ?_
 exact ⟨rfl, by simp only [Y4]; (try simp only [Int.toNat_zero] at *); (first | rw [decide_eq_true (by omega)] | rw [decide_eq_false (by omega)]), rfl⟩
 refine J3 ?_
 exact ⟨rfl, by simp only [Y4]; (try simp only [Int.toNat_zero] at *); (first | rw [decide_eq_true (by omega)] | rw [decide_eq_false (by omega)]), rfl⟩
 refine J5 ?_
 exact ⟨rfl, by simp only [Y4]; (try simp only [Int.toNat_zero] at *); (first | rw [decide_eq_true (by omega)] | rw [decide_eq_false (by omega)]), rfl⟩
theorem A3Q (G : IM) (e : List Value) (d : Int) (b : Bool) (bd : Nat) (hl : e.length = 2) (hd : 0 ≤ d ∧ d ≤ 5) (h : Fn Tryz.prog 192 [.agg ⟨e⟩, .int .i64 (d + 1)] [] G (J1 (.bool b) G)) :
  Fn Tryz.prog 217 [.agg ⟨e⟩, .pointer (some ⟨bd, 0, none⟩)] [.blk bd [.int .i64 d]] G (Z8 (.bool (!b)) [.blk bd [.int .i64 d]] G) := by
 refine B6 Tryz.func217 rfl Tryz.ntmps217 Tryz.results217 rfl ?_
 intro w0
 refine tS (tR ?_)
 refine sE (E2 rfl rfl) rfl (fun b3 => ?_)
 refine sQ (qA rfl) rfl (sD (nS (tS (tR ?_))))
 refine sL (A6 rfl rfl (H0 (by repeat first | exact mH | apply mT)) (by assumption)) rfl rfl ?_
 refine sL (D4 rfl rfl) rfl rfl ?_
 refine sP (H2 rfl rfl (by omega) (by omega)) rfl rfl ?_
 refine H8 rfl (h) rfl rfl (fun h12 => ?_) (fun h12 => ?_)
 refine sQ (pNt rfl) rfl (sQ (qA rfl) rfl (sD (nS (tT ?_))))
 refine E3 (rT rfl) (A0.cons (Pk.there Pk.here) A0.nil) ?_
 exact ⟨rfl, by simp [*], rfl⟩
 refine sQ (pNf rfl) rfl (sQ (qA rfl) rfl (sD (nS (tT ?_))))
 refine E3 (rT rfl) (A0.cons (Pk.there Pk.here) A0.nil) ?_
 exact ⟨rfl, by simp [*], rfl⟩
theorem B2U : ∀ (t : Ty) (d : Int) (G : IM) (cells : List Value), 0 ≤ d ∧ d ≤ 5 → A8 G t cells →
  Fn Tryz.prog 192 [.agg ⟨cells⟩, .int .i64 d] [] G (J1 (.bool (K3 t d)) G) := by
 refine Ty.ind fun k ks ih d G cells hd hr => ?_
 obtain ⟨p, c, es, rfl, hk, hsl, hkl⟩ := hr.open
 simp only [Ty.k, Ty.ks] at hk hsl hkl ⊢
 have hn := hsl.le
 obtain ⟨A, hA⟩ : ∃ A, ks.all (K3 · (d + 1)) = A := ⟨_, rfl⟩
 refine B6 Tryz.func192 rfl Tryz.ntmps192 Tryz.results192 rfl ?_
 intro w0
 refine tS (tR ?_)
 refine sE (E2 rfl rfl) rfl (fun b3 => ?_)
 (refine E9 (B1R rfl rfl rfl) rfl ?_; rintro _ ⟨b4, rfl⟩)
 refine J5 ?_
 refine B2 (tS (tS (tR (sB (qE rfl rfl) rfl rfl (fun h24 => ?_) (fun h24 => ?_)))))
 refine J5 ?_
 refine sB (V6 rfl rfl) rfl rfl (fun h40 => ?_) (fun h40 => ?_)
 refine W1 ?_
 refine sB (qE rfl rfl) rfl rfl (fun h46 => ?_) (fun h46 => ?_)
 refine K5 ?_
 refine sQ (A3A rfl rfl) rfl (A24 rfl (A27 _ _ _ _ _ hsl _ [] _ [.blk b4 [.int .i64 d]] (K3 · (d + 1)) ks rfl hA (fun i e he => A3Q _ _ _ _ _ (hsl.all e (List.mem_of_getElem? he)) hd (ih _ (hkl.inv he A5).1 _ _ _ (by omega) (hkl.inv he A5).2))) A1J rfl rfl (fun h52 => ?_) (fun h52 => ?_))
 simp only [Bool.not_eq_true', Bool.not_eq_false'] at h52
 refine C5 ?_
 exact ⟨rfl, by (rw [K3, W3, hA]; have := N2 k; first | (rw [decide_eq_true (by omega), decide_eq_true (by omega)]; simp only [*]; done) | (rw [decide_eq_true (by omega), decide_eq_true (by omega)]; simp only [*]; rfl) | (rw [decide_eq_false (by omega)]; rfl) | (rw [decide_eq_true (by omega), decide_eq_false (by omega)]; rfl)), rfl⟩
 simp only [Bool.not_eq_true', Bool.not_eq_false'] at h52
 refine C5 ?_
 exact ⟨rfl, by (rw [K3, W3, hA]; have := N2 k; first | (rw [decide_eq_true (by omega), decide_eq_true (by omega)]; simp only [*]; done) | (rw [decide_eq_true (by omega), decide_eq_true (by omega)]; simp only [*]; rfl) | (rw [decide_eq_false (by omega)]; rfl) | (rw [decide_eq_true (by omega), decide_eq_false (by omega)]; rfl)), rfl⟩
 refine L7 ?_
 exact ⟨rfl, by (rw [K3, W3, hA]; have := N2 k; first | (rw [decide_eq_true (by omega), decide_eq_true (by omega)]; simp only [*]; done) | (rw [decide_eq_true (by omega), decide_eq_true (by omega)]; simp only [*]; rfl) | (rw [decide_eq_false (by omega)]; rfl) | (rw [decide_eq_true (by omega), decide_eq_false (by omega)]; rfl)), rfl⟩
 refine A1l ?_
 exact ⟨rfl, by (rw [K3, W3, hA]; have := N2 k; first | (rw [decide_eq_true (by omega), decide_eq_true (by omega)]; simp only [*]; done) | (rw [decide_eq_true (by omega), decide_eq_true (by omega)]; simp only [*]; rfl) | (rw [decide_eq_false (by omega)]; rfl) | (rw [decide_eq_true (by omega), decide_eq_false (by omega)]; rfl)), rfl⟩
 refine sQ (qA rfl) rfl (sD (nS (cF rfl (tS (tR ?_)))))
 refine sB (qE rfl rfl) rfl rfl (fun h109 => ?_) (fun h109 => ?_)
 refine J5 ?_
 refine sB (V6 rfl rfl) rfl rfl (fun h125 => ?_) (fun h125 => ?_)
 refine W1 ?_
 refine sB (qE rfl rfl) rfl rfl (fun h131 => ?_) (fun h131 => ?_)
 refine K5 ?_
 refine sQ (A3A rfl rfl) rfl (A24 rfl (A27 _ _ _ _ _ hsl _ [] _ [.blk b4 [.int .i64 d]] (K3 · (d + 1)) ks rfl hA (fun i e he => A3Q _ _ _ _ _ (hsl.all e (List.mem_of_getElem? he)) hd (ih _ (hkl.inv he A5).1 _ _ _ (by omega) (hkl.inv he A5).2))) A1J rfl rfl (fun h137 => ?_) (fun h137 => ?_))
 simp only [Bool.not_eq_true', Bool.not_eq_false'] at h137
 refine C5 ?_
 exact ⟨rfl, by (rw [K3, W3, hA]; have := N2 k; first | (rw [decide_eq_true (by omega), decide_eq_true (by omega)]; simp only [*]; done) | (rw [decide_eq_true (by omega), decide_eq_true (by omega)]; simp only [*]; rfl) | (rw [decide_eq_false (by omega)]; rfl) | (rw [decide_eq_true (by omega), decide_eq_false (by omega)]; rfl)), rfl⟩
 simp only [Bool.not_eq_true', Bool.not_eq_false'] at h137
 refine C5 ?_
 exact ⟨rfl, by (rw [K3, W3, hA]; have := N2 k; first | (rw [decide_eq_true (by omega), decide_eq_true (by omega)]; simp only [*]; done) | (rw [decide_eq_true (by omega), decide_eq_true (by omega)]; simp only [*]; rfl) | (rw [decide_eq_false (by omega)]; rfl) | (rw [decide_eq_true (by omega), decide_eq_false (by omega)]; rfl)), rfl⟩
 refine L7 ?_
 exact ⟨rfl, by (rw [K3, W3, hA]; have := N2 k; first | (rw [decide_eq_true (by omega), decide_eq_true (by omega)]; simp only [*]; done) | (rw [decide_eq_true (by omega), decide_eq_true (by omega)]; simp only [*]; rfl) | (rw [decide_eq_false (by omega)]; rfl) | (rw [decide_eq_true (by omega), decide_eq_false (by omega)]; rfl)), rfl⟩
 refine A1l ?_
 exact ⟨rfl, by (rw [K3, W3, hA]; have := N2 k; first | (rw [decide_eq_true (by omega), decide_eq_true (by omega)]; simp only [*]; done) | (rw [decide_eq_true (by omega), decide_eq_true (by omega)]; simp only [*]; rfl) | (rw [decide_eq_false (by omega)]; rfl) | (rw [decide_eq_true (by omega), decide_eq_false (by omega)]; rfl)), rfl⟩
 refine sQ (qA rfl) rfl (sD (nS (cF rfl (tR ?_))))
 refine sB (qE rfl rfl) rfl rfl (fun h193 => ?_) (fun h193 => ?_)
 refine L4 ?_
 refine sB (V6 rfl rfl) rfl rfl (fun h206 => ?_) (fun h206 => ?_)
 refine W1 ?_
 refine sB (qE rfl rfl) rfl rfl (fun h212 => ?_) (fun h212 => ?_)
 refine K5 ?_
 refine sQ (A3A rfl rfl) rfl (A24 rfl (A27 _ _ _ _ _ hsl _ [] _ [.blk b4 [.int .i64 d]] (K3 · (d + 1)) ks rfl hA (fun i e he => A3Q _ _ _ _ _ (hsl.all e (List.mem_of_getElem? he)) hd (ih _ (hkl.inv he A5).1 _ _ _ (by omega) (hkl.inv he A5).2))) A1J rfl rfl (fun h218 => ?_) (fun h218 => ?_))
 simp only [Bool.not_eq_true', Bool.not_eq_false'] at h218
 refine C5 ?_
 exact ⟨rfl, by (rw [K3, W3, hA]; have := N2 k; first | (rw [decide_eq_true (by omega), decide_eq_true (by omega)]; simp only [*]; done) | (rw [decide_eq_true (by omega), decide_eq_true (by omega)]; simp only [*]; rfl) | (rw [decide_eq_false (by omega)]; rfl) | (rw [decide_eq_true (by omega), decide_eq_false (by omega)]; rfl)), rfl⟩
 simp only [Bool.not_eq_true', Bool.not_eq_false'] at h218
 refine C5 ?_
 exact ⟨rfl, by (rw [K3, W3, hA]; have := N2 k; first | (rw [decide_eq_true (by omega), decide_eq_true (by omega)]; simp only [*]; done) | (rw [decide_eq_true (by omega), decide_eq_true (by omega)]; simp only [*]; rfl) | (rw [decide_eq_false (by omega)]; rfl) | (rw [decide_eq_true (by omega), decide_eq_false (by omega)]; rfl)), rfl⟩
 refine L7 ?_
 exact ⟨rfl, by (rw [K3, W3, hA]; have := N2 k; first | (rw [decide_eq_true (by omega), decide_eq_true (by omega)]; simp only [*]; done) | (rw [decide_eq_true (by omega), decide_eq_true (by omega)]; simp only [*]; rfl) | (rw [decide_eq_false (by omega)]; rfl) | (rw [decide_eq_true (by omega), decide_eq_false (by omega)]; rfl)), rfl⟩
 refine A1l ?_
 exact ⟨rfl, by (rw [K3, W3, hA]; have := N2 k; first | (rw [decide_eq_true (by omega), decide_eq_true (by omega)]; simp only [*]; done) | (rw [decide_eq_true (by omega), decide_eq_true (by omega)]; simp only [*]; rfl) | (rw [decide_eq_false (by omega)]; rfl) | (rw [decide_eq_true (by omega), decide_eq_false (by omega)]; rfl)), rfl⟩
 refine sQ (qA rfl) rfl (sD (nS (cF rfl (tS (tS (tR ?_))))))
 refine sB (qE rfl rfl) rfl rfl (fun h276 => ?_) (fun h276 => ?_)
 refine J5 ?_
 refine sB (V6 rfl rfl) rfl rfl (fun h292 => ?_) (fun h292 => ?_)
 refine W1 ?_
 refine sB (qE rfl rfl) rfl rfl (fun h298 => ?_) (fun h298 => ?_)
 refine K5 ?_
 refine sQ (A3A rfl rfl) rfl (A24 rfl (A27 _ _ _ _ _ hsl _ [] _ [.blk b4 [.int .i64 d]] (K3 · (d + 1)) ks rfl hA (fun i e he => A3Q _ _ _ _ _ (hsl.all e (List.mem_of_getElem? he)) hd (ih _ (hkl.inv he A5).1 _ _ _ (by omega) (hkl.inv he A5).2))) A1J rfl rfl (fun h304 => ?_) (fun h304 => ?_))
 simp only [Bool.not_eq_true', Bool.not_eq_false'] at h304
 refine C5 ?_
 exact ⟨rfl, by (rw [K3, W3, hA]; have := N2 k; first | (rw [decide_eq_true (by omega), decide_eq_true (by omega)]; simp only [*]; done) | (rw [decide_eq_true (by omega), decide_eq_true (by omega)]; simp only [*]; rfl) | (rw [decide_eq_false (by omega)]; rfl) | (rw [decide_eq_true (by omega), decide_eq_false (by omega)]; rfl)), rfl⟩
 simp only [Bool.not_eq_true', Bool.not_eq_false'] at h304
 refine C5 ?_
 exact ⟨rfl, by (rw [K3, W3, hA]; have := N2 k; first | (rw [decide_eq_true (by omega), decide_eq_true (by omega)]; simp only [*]; done) | (rw [decide_eq_true (by omega), decide_eq_true (by omega)]; simp only [*]; rfl) | (rw [decide_eq_false (by omega)]; rfl) | (rw [decide_eq_true (by omega), decide_eq_false (by omega)]; rfl)), rfl⟩
 refine L7 ?_
 exact ⟨rfl, by (rw [K3, W3, hA]; have := N2 k; first | (rw [decide_eq_true (by omega), decide_eq_true (by omega)]; simp only [*]; done) | (rw [decide_eq_true (by omega), decide_eq_true (by omega)]; simp only [*]; rfl) | (rw [decide_eq_false (by omega)]; rfl) | (rw [decide_eq_true (by omega), decide_eq_false (by omega)]; rfl)), rfl⟩
 refine A1l ?_
 exact ⟨rfl, by (rw [K3, W3, hA]; have := N2 k; first | (rw [decide_eq_true (by omega), decide_eq_true (by omega)]; simp only [*]; done) | (rw [decide_eq_true (by omega), decide_eq_true (by omega)]; simp only [*]; rfl) | (rw [decide_eq_false (by omega)]; rfl) | (rw [decide_eq_true (by omega), decide_eq_false (by omega)]; rfl)), rfl⟩
 refine sQ (qA rfl) rfl (sD (nS (cF rfl (tR ?_))))
 refine sB (qE rfl rfl) rfl rfl (fun h360 => ?_) (fun h360 => ?_)
 refine L4 ?_
 refine sB (V6 rfl rfl) rfl rfl (fun h373 => ?_) (fun h373 => ?_)
 refine W1 ?_
 refine sB (qE rfl rfl) rfl rfl (fun h379 => ?_) (fun h379 => ?_)
 refine K5 ?_
 refine sQ (A3A rfl rfl) rfl (A24 rfl (A27 _ _ _ _ _ hsl _ [] _ [.blk b4 [.int .i64 d]] (K3 · (d + 1)) ks rfl hA (fun i e he => A3Q _ _ _ _ _ (hsl.all e (List.mem_of_getElem? he)) hd (ih _ (hkl.inv he A5).1 _ _ _ (by omega) (hkl.inv he A5).2))) A1J rfl rfl (fun h385 => ?_) (fun h385 => ?_))
 simp only [Bool.not_eq_true', Bool.not_eq_false'] at h385
 refine C5 ?_
 exact ⟨rfl, by (rw [K3, W3, hA]; have := N2 k; first | (rw [decide_eq_true (by omega), decide_eq_true (by omega)]; simp only [*]; done) | (rw [decide_eq_true (by omega), decide_eq_true (by omega)]; simp only [*]; rfl) | (rw [decide_eq_false (by omega)]; rfl) | (rw [decide_eq_true (by omega), decide_eq_false (by omega)]; rfl)), rfl⟩
 simp only [Bool.not_eq_true', Bool.not_eq_false'] at h385
 refine C5 ?_
 exact ⟨rfl, by (rw [K3, W3, hA]; have := N2 k; first | (rw [decide_eq_true (by omega), decide_eq_true (by omega)]; simp only [*]; done) | (rw [decide_eq_true (by omega), decide_eq_true (by omega)]; simp only [*]; rfl) | (rw [decide_eq_false (by omega)]; rfl) | (rw [decide_eq_true (by omega), decide_eq_false (by omega)]; rfl)), rfl⟩
 refine L7 ?_
 exact ⟨rfl, by (rw [K3, W3, hA]; have := N2 k; first | (rw [decide_eq_true (by omega), decide_eq_true (by omega)]; simp only [*]; done) | (rw [decide_eq_true (by omega), decide_eq_true (by omega)]; simp only [*]; rfl) | (rw [decide_eq_false (by omega)]; rfl) | (rw [decide_eq_true (by omega), decide_eq_false (by omega)]; rfl)), rfl⟩
 refine A1l ?_
 exact ⟨rfl, by (rw [K3, W3, hA]; have := N2 k; first | (rw [decide_eq_true (by omega), decide_eq_true (by omega)]; simp only [*]; done) | (rw [decide_eq_true (by omega), decide_eq_true (by omega)]; simp only [*]; rfl) | (rw [decide_eq_false (by omega)]; rfl) | (rw [decide_eq_true (by omega), decide_eq_false (by omega)]; rfl)), rfl⟩
 refine H9 ?_
 refine sB (V6 rfl rfl) rfl rfl (fun h446 => ?_) (fun h446 => ?_)
 refine W1 ?_
 refine sP (K9 rfl rfl (by omega)) rfl rfl ?_
 refine L7 ?_
 exact ⟨rfl, by (rw [K3, W3, hA]; have := N2 k; first | (rw [decide_eq_true (by omega), decide_eq_true (by omega)]; simp only [*]; done) | (rw [decide_eq_true (by omega), decide_eq_true (by omega)]; simp only [*]; rfl) | (rw [decide_eq_false (by omega)]; rfl) | (rw [decide_eq_true (by omega), decide_eq_false (by omega)]; rfl)), rfl⟩
 refine A1l ?_
 exact ⟨rfl, by (rw [K3, W3, hA]; have := N2 k; first | (rw [decide_eq_true (by omega), decide_eq_true (by omega)]; simp only [*]; done) | (rw [decide_eq_true (by omega), decide_eq_true (by omega)]; simp only [*]; rfl) | (rw [decide_eq_false (by omega)]; rfl) | (rw [decide_eq_true (by omega), decide_eq_false (by omega)]; rfl)), rfl⟩
theorem A3R (t : Ty) (G : IM) (cells : List Value) (hr : A8 G t cells) : Fn Tryz.prog 159 [.agg ⟨cells⟩] [] G (J1 (.bool (E4 t)) G) := by
 have hl := hr.len
 have hv := B2U t 1 G cells (by omega) hr
 refine B6 Tryz.func159 rfl Tryz.ntmps159 Tryz.results159 rfl ?_
 intro w0
 refine tS (tR ?_)
 refine sE (E2 rfl rfl) rfl (fun b3 => ?_)
 refine sQ (qA rfl) rfl (sD (nS (tS (tR ?_))))
 refine sL (A6 rfl rfl (H0 (by repeat first | exact mH | apply mT)) (by assumption)) rfl rfl ?_
 refine H6 rfl (hv) rfl rfl ?_
 refine sQ (qA rfl) rfl (sD (nS (tT (I6 (rT rfl) ?_))))
 exact ⟨rfl, rfl, rfl⟩
theorem Z9 : ∀ (t t' : Ty) (G : IM) (cells cells' : List Value), A8 G t cells → A8 G t' cells' →
  Fn Tryz.prog 193 [.agg ⟨cells⟩, .agg ⟨cells'⟩] [] G (J1 (.bool (J6 t t')) G) := by
 refine Ty.ind fun k ks ih t' G cells cells' hr hr' => ?_
 obtain ⟨k', ks'⟩ := t'
 obtain ⟨p, c, es, rfl, hk, hsl, hkl⟩ := hr.open
 obtain ⟨p', c', es', rfl, hk', hsl', hkl'⟩ := hr'.open
 simp only [Ty.k, Ty.ks] at hk hsl hkl hk' hsl' hkl' ⊢
 have hn := hsl.le
 have hn' := hsl'.le
 obtain ⟨A, hA⟩ : ∃ A, M6 ks ks' = A := ⟨_, rfl⟩
 have hA' : A = true ↔ ks.length = ks'.length ∧ ∀ i, i < ks.length → J6 (ks.getD i A5) (ks'.getD i A5) = true := by
  rw [← hA, A2z]
  constructor
  ·rintro ⟨h1, h2⟩
   refine ⟨h1, fun i hi => ?_⟩
   have := h2 i hi (by omega)
   simpa [List.getD_eq_getElem?_getD, List.getElem?_eq_getElem hi, List.getElem?_eq_getElem (show i < ks'.length by omega)] using this
  ·rintro ⟨h1, h2⟩
   refine ⟨h1, fun i hi hi' => ?_⟩
   have := h2 i hi
   simpa [List.getD_eq_getElem?_getD, List.getElem?_eq_getElem hi, List.getElem?_eq_getElem hi'] using this
 refine B6 Tryz.func193 rfl Tryz.ntmps193 Tryz.results193 rfl ?_
 intro w0
 refine tS (tR ?_)
 refine sE (E2 rfl rfl) rfl (fun b3 => ?_)
 refine sE (E2 rfl rfl) rfl (fun b4 => ?_)
 refine C5 ?_
 refine sB (qE rfl rfl) rfl rfl (fun h12 => ?_) (fun h12 => ?_)
 refine A25 ?_
 exact ⟨rfl, by (rw [T0, hA]; first | (rw [decide_eq_true (p := k = 1) (by omega)]; rfl) | (rw [decide_eq_false (p := k = 1) (by omega), decide_eq_true (p := k' = 1) (by omega)]; rfl) | (rw [decide_eq_false (p := k = 1) (by omega), decide_eq_false (p := k' = 1) (by omega), decide_eq_false (p := k = k') (by omega)]; rfl) | (rw [decide_eq_false (p := k = 1) (by omega), decide_eq_false (p := k' = 1) (by omega), decide_eq_true (p := k = k') (by omega)]; simp only [*]; rfl)), rfl⟩
 refine M3 ?_
 refine sB (qE rfl rfl) rfl rfl (fun h41 => ?_) (fun h41 => ?_)
 refine A1K ?_
 exact ⟨rfl, by (rw [T0, hA]; first | (rw [decide_eq_true (p := k = 1) (by omega)]; rfl) | (rw [decide_eq_false (p := k = 1) (by omega), decide_eq_true (p := k' = 1) (by omega)]; rfl) | (rw [decide_eq_false (p := k = 1) (by omega), decide_eq_false (p := k' = 1) (by omega), decide_eq_false (p := k = k') (by omega)]; rfl) | (rw [decide_eq_false (p := k = 1) (by omega), decide_eq_false (p := k' = 1) (by omega), decide_eq_true (p := k = k') (by omega)]; simp only [*]; rfl)), rfl⟩
 refine N6 ?_
 refine sB (qE rfl rfl) rfl rfl (fun h69 => ?_) (fun h69 => ?_)
 refine W1 ?_
 refine H8 rfl (A8C _ _ _ _ _ _ _ _ _ hsl hsl' _ [] [] [] (fun i => J6 (ks.getD i A5) (ks'.getD i A5)) A hA' (fun i e e' he he' => ih _ (hkl.inv he A5).1 _ _ _ _ (hkl.inv he A5).2 (hkl'.inv he' A5).2)) rfl rfl (fun h75 => ?_) (fun h75 => ?_)
 refine C5 ?_
 exact ⟨rfl, by (rw [T0, hA]; first | (rw [decide_eq_true (p := k = 1) (by omega)]; rfl) | (rw [decide_eq_false (p := k = 1) (by omega), decide_eq_true (p := k' = 1) (by omega)]; rfl) | (rw [decide_eq_false (p := k = 1) (by omega), decide_eq_false (p := k' = 1) (by omega), decide_eq_false (p := k = k') (by omega)]; rfl) | (rw [decide_eq_false (p := k = 1) (by omega), decide_eq_false (p := k' = 1) (by omega), decide_eq_true (p := k = k') (by omega)]; simp only [*]; rfl)), rfl⟩
 refine C5 ?_
 exact ⟨rfl, by (rw [T0, hA]; first | (rw [decide_eq_true (p := k = 1) (by omega)]; rfl) | (rw [decide_eq_false (p := k = 1) (by omega), decide_eq_true (p := k' = 1) (by omega)]; rfl) | (rw [decide_eq_false (p := k = 1) (by omega), decide_eq_false (p := k' = 1) (by omega), decide_eq_false (p := k = k') (by omega)]; rfl) | (rw [decide_eq_false (p := k = 1) (by omega), decide_eq_false (p := k' = 1) (by omega), decide_eq_true (p := k = k') (by omega)]; simp only [*]; rfl)), rfl⟩
 refine L7 ?_
 exact ⟨rfl, by (rw [T0, hA]; first | (rw [decide_eq_true (p := k = 1) (by omega)]; rfl) | (rw [decide_eq_false (p := k = 1) (by omega), decide_eq_true (p := k' = 1) (by omega)]; rfl) | (rw [decide_eq_false (p := k = 1) (by omega), decide_eq_false (p := k' = 1) (by omega), decide_eq_false (p := k = k') (by omega)]; rfl) | (rw [decide_eq_false (p := k = 1) (by omega), decide_eq_false (p := k' = 1) (by omega), decide_eq_true (p := k = k') (by omega)]; simp only [*]; rfl)), rfl⟩
theorem B2V (t t' : Ty) (G : IM) (cells cells' : List Value) (hr : A8 G t cells) (hr' : A8 G t' cells') :
  Fn Tryz.prog 161 [.agg ⟨cells⟩, .agg ⟨cells'⟩] [] G (J1 (.bool (A16 t t')) G) := by
 have hl := hr.len
 have hl' := hr'.len
 have hv := A3R t G cells hr
 have hv' := A3R t' G cells' hr'
 have hc := Z9 t t' G cells cells' hr hr'
 refine B6 Tryz.func161 rfl Tryz.ntmps161 Tryz.results161 rfl ?_
 intro w0
 refine tS (tR ?_)
 refine sE (E2 rfl rfl) rfl (fun b3 => ?_)
 refine sE (E2 rfl rfl) rfl (fun b4 => ?_)
 refine sQ (qA rfl) rfl (sD (nS (tS (tR ?_))))
 refine sL (A6 rfl rfl (H0 (by repeat first | exact mH | apply mT)) (by assumption)) rfl rfl ?_
 refine H8 rfl (hv) rfl rfl (fun h11 => ?_) (fun h11 => ?_)
 refine sQ (qM rfl) rfl ?_
 refine sL (A6 rfl rfl (H0 (by repeat first | exact mH | apply mT)) (by assumption)) rfl rfl ?_
 refine H8 rfl (hv') rfl rfl (fun h14 => ?_) (fun h14 => ?_)
 refine sQ (N4 rfl rfl) rfl (sQ (qM rfl) rfl ?_)
 refine sL (A6 rfl rfl (H0 (by repeat first | exact mH | apply mT)) (by assumption)) rfl rfl ?_
 refine sL (A6 rfl rfl (H0 (by repeat first | exact mH | apply mT)) (by assumption)) rfl rfl ?_
 refine H8 rfl (hc) rfl rfl (fun h19 => ?_) (fun h19 => ?_)
 refine N6 ?_
 exact ⟨rfl, by simp only [A16]; simp only [*, Bool.true_and, Bool.false_and, Bool.and_true], rfl⟩
 refine N6 ?_
 exact ⟨rfl, by simp only [A16]; simp only [*, Bool.true_and, Bool.false_and, Bool.and_true], rfl⟩
 refine J3 ?_
 exact ⟨rfl, by simp only [A16]; simp only [*, Bool.true_and, Bool.false_and, Bool.and_true], rfl⟩
 refine M5 ?_
 exact ⟨rfl, by simp only [A16]; simp only [*, Bool.true_and, Bool.false_and, Bool.and_true], rfl⟩
end Gw
end Go.Proofs.YtgodjiieijekiaaGreatDoor
