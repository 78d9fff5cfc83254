/-
  The data of the program: types and terms as trees, and how they lie in memory.
-/
import Derived.Test.YtmceanphadildaaGreatDoorKb0
import Derived.Laws.BytesArg
import Derived.WalkKit
import Derived.ProofKit
import Derived.OpenShut
import Derived.Carry
import Derived.Test.YtmceanphadildaaGreatDoorShelf
import Derived.Lib.ItoaNum
import Derived.Lib.LaidTab
import Derived.Test.YtmceanphadildaaGreatDoorRows
import Derived.Deep.DeepHandedRow
import Derived.Stop.LaidErr
import Init
set_option linter.unusedVariables false
set_option linter.unusedSimpArgs false
set_option maxHeartbeats 0
set_option maxRecDepth 100000
set_option synthInstance.maxSize 4000
set_option synthInstance.maxHeartbeats 0
namespace Go.Proofs.YtmceanphadildaaGreatDoor
open Go Go.RowKit
namespace Gw

structure C8 (G : IM) (p : Option Addr) (n c sz : Nat) (es : List (List Value)) : Prop where
 sl : Sl G p n c sz es.flatten
 len : es.length = n
 all : ∀ e ∈ es, e.length = sz
 one : ∀ e ∈ es, e.all (·.oneCell') = true

theorem C8.mono {G G' : IM} {p : Option Addr} {n c sz : Nat} {es : List (List Value)} (h : C8 G p n c sz es) (hg : D2 G G') : C8 G' p n c sz es := ⟨h.sl.mono hg, h.len, h.all, h.one⟩
theorem C8.nil (G : IM) (sz : Nat) : C8 G none 0 0 sz [] := ⟨Sl.nil G sz, rfl, by simp, by simp⟩

theorem A6v {sz : Nat} : ∀ {es : List (List Value)}, (∀ e ∈ es, e.length = sz) → ∀ {i : Nat} {e : List Value}, es[i]? = some e → ∀ j v, e[j]? = some v → es.flatten[i * sz + j]? = some v
 | [], _, i, e, h, _, _, _ => by simp at h
 | a :: r, hall, 0, e, h, j, v, hv => by
  simp at h; subst h
  have : j < a.length := (List.getElem?_eq_some_iff.1 hv).1
  simp [List.getElem?_append, this]
  simpa [List.getElem?_eq_getElem this] using hv
 | a :: r, hall, i + 1, e, h, j, v, hv => by
  have ih := A6v (es := r) (fun x hx => hall x (List.mem_cons_of_mem _ hx)) (i := i) (e := e) (by simpa using h) j v hv
  have ha := hall a List.mem_cons_self
  rw [List.flatten_cons, List.getElem?_append, if_neg (by rw [ha, Nat.succ_mul]; omega)]
  rw [show (i + 1) * sz + j - a.length = i * sz + j by rw [ha, Nat.succ_mul]; omega]
  exact ih

theorem C8.at {G : IM} {p : Option Addr} {n c sz : Nat} {es : List (List Value)} (h : C8 G p n c sz es) {i : Nat} {e : List Value} (hi : es[i]? = some e) :
  ∃ b o, p = some ⟨b, o, none⟩ ∧ ∀ hp, At hp G b (o + i * sz) e := by
 have hlt : i < es.length := (List.getElem?_eq_some_iff.1 hi).1
 obtain ⟨_, _, _, h4⟩ := h.sl
 have hn := h.len
 rcases h4 with h0 | ⟨b, o, full, hp, hg, hf⟩
 ·omega
 ·refine ⟨b, o, hp, fun hp => A4L hg fun j v hv => ?_⟩
  rw [Nat.add_assoc]
  exact hf _ v (A6v h.all hi j v hv)

theorem C8.get {G : IM} {p : Option Addr} {n c sz : Nat} {es : List (List Value)} (h : C8 G p n c sz es) {i : Nat} (hi : i < n) :
  ∃ e b o, es[i]? = some e ∧ p = some ⟨b, o, none⟩ ∧ e.length = sz ∧ e.all (·.oneCell') = true ∧ (∀ hp, At hp G b (o + i * sz) e) ∧ G b ≠ none := by
 have hlt : i < es.length := by rw [h.len]; exact hi
 have he : es[i]? = some es[i] := List.getElem?_eq_getElem hlt
 obtain ⟨b, o, h1, h2⟩ := h.at he
 refine ⟨es[i], b, o, he, h1, h.all _ (List.getElem_mem hlt), h.one _ (List.getElem_mem hlt), h2, ?_⟩
 obtain ⟨_, _, _, h4⟩ := h.sl
 rcases h4 with h0 | ⟨b', o', full, hp, hg, hf⟩
 ·omega
 ·rw [h1] at hp; cases hp; rw [hg]; simp
theorem C8.le {G : IM} {p : Option Addr} {n c sz : Nat} {es : List (List Value)} (h : C8 G p n c sz es) : n ≤ 9223372036854775807 := by
 have h1 := h.sl.2.1; have h2 := h.sl.2.2.1; unfold maxLen at h2; omega

theorem C8.of {G : IM} {p : Option Addr} {n c sz : Nat} {es : List (List Value)} (h : Sl G p n c sz es.flatten) (hl : es.length = n) (ha : ∀ e ∈ es, e.length = sz) (ho : ∀ e ∈ es, e.all (·.oneCell') = true) : C8 G p n c sz es := ⟨h, hl, ha, ho⟩

def F9 (n : Int) : Prop := -9223372036854775808 ≤ n ∧ n ≤ 9223372036854775807

inductive Ty where
 | mk (k : Int) (ks : List Ty)

def Ty.k : Ty → Int | .mk k _ => k
def Ty.ks : Ty → List Ty | .mk _ ks => ks

inductive Tm where
 | mk (k : Int) (nm : ByteArray) (num : Int) (ty fr : Ty) (lb : Int) (ks : List Tm)

def Tm.k : Tm → Int | .mk k _ _ _ _ _ _ => k
def Tm.nm : Tm → ByteArray | .mk _ n _ _ _ _ _ => n
def Tm.num : Tm → Int | .mk _ _ n _ _ _ _ => n
def Tm.ty : Tm → Ty | .mk _ _ _ t _ _ _ => t
def Tm.fr : Tm → Ty | .mk _ _ _ _ f _ _ => f
def Tm.lb : Tm → Int | .mk _ _ _ _ _ l _ => l
def Tm.ks : Tm → List Tm | .mk _ _ _ _ _ _ ks => ks

mutual
def Ty.small : Ty → Prop
 | .mk _ ks => ks.length ≤ 4294967296 ∧ Ty.smallL ks
def Ty.smallL : List Ty → Prop
 | [] => True
 | t :: ts => t.small ∧ Ty.smallL ts
end
mutual
def Tm.small : Tm → Prop
 | .mk _ nm _ ty fr _ ks => nm.size ≤ 4294967296 ∧ ty.small ∧ fr.small ∧ ks.length ≤ 4294967296 ∧ Tm.smallL ks
def Tm.smallL : List Tm → Prop
 | [] => True
 | t :: ts => t.small ∧ Tm.smallL ts
end
theorem Ty.smallL_mem : ∀ {ts : List Ty}, Ty.smallL ts → ∀ t ∈ ts, t.small
 | [], _, t, h => by simp at h
 | t' :: ts, h, t, ht => by
  simp only [Ty.smallL] at h
  rcases List.mem_cons.1 ht with rfl | ht
  ·exact h.1
  ·exact Ty.smallL_mem h.2 t ht
theorem Tm.smallL_mem : ∀ {ts : List Tm}, Tm.smallL ts → ∀ t ∈ ts, t.small
 | [], _, t, h => by simp at h
 | t' :: ts, h, t, ht => by
  simp only [Tm.smallL] at h
  rcases List.mem_cons.1 ht with rfl | ht
  ·exact h.1
  ·exact Tm.smallL_mem h.2 t ht

mutual
def C7 (G : IM) : Ty → List Value → Prop
 | .mk k ks, cells => ∃ p c es, cells = [.int .i64 k, .slice p ks.length c] ∧ F9 k ∧ C8 G p ks.length c 2 es ∧ F4 G ks es
def F4 (G : IM) : List Ty → List (List Value) → Prop
 | [], es => es = []
 | t :: ts, es => ∃ a r, es = a :: r ∧ C7 G t a ∧ F4 G ts r
end

mutual
def D1 (G : IM) : Tm → List Value → Prop
 | .mk k nm num ty fr lb ks, cells => ∃ tc fc p c es, cells = [.int .i64 k, .string nm, .int .i64 num] ++ tc ++ fc ++ [.int .i64 lb, .slice p ks.length c] ∧ F9 k ∧ F9 num ∧ F9 lb ∧ C7 G ty tc ∧ C7 G fr fc ∧ C8 G p ks.length c 9 es ∧ H4 G ks es
def H4 (G : IM) : List Tm → List (List Value) → Prop
 | [], es => es = []
 | t :: ts, es => ∃ a r, es = a :: r ∧ D1 G t a ∧ H4 G ts r
end

mutual
theorem C7.mono {G G' : IM} (hg : D2 G G') : ∀ {t : Ty} {cells : List Value}, C7 G t cells → C7 G' t cells
 | .mk k ks, cells, h => by
  simp only [C7] at h ⊢
  obtain ⟨p, c, es, h1, h2, h3, h4⟩ := h
  exact ⟨p, c, es, h1, h2, h3.mono hg, F4.mono hg h4⟩
theorem F4.mono {G G' : IM} (hg : D2 G G') : ∀ {ts : List Ty} {es : List (List Value)}, F4 G ts es → F4 G' ts es
 | [], es, h => by simpa only [F4] using h
 | t :: ts, es, h => by
  simp only [F4] at h ⊢
  obtain ⟨a, r, h1, h2, h3⟩ := h
  exact ⟨a, r, h1, C7.mono hg h2, F4.mono hg h3⟩
end
mutual
theorem D1.mono {G G' : IM} (hg : D2 G G') : ∀ {t : Tm} {cells : List Value}, D1 G t cells → D1 G' t cells
 | .mk k nm num ty fr lb ks, cells, h => by
  simp only [D1] at h ⊢
  obtain ⟨tc, fc, p, c, es, h1, h2, h3, h4, h5, h6, h7, h8⟩ := h
  exact ⟨tc, fc, p, c, es, h1, h2, h3, h4, h5.mono hg, h6.mono hg, h7.mono hg, H4.mono hg h8⟩
theorem H4.mono {G G' : IM} (hg : D2 G G') : ∀ {ts : List Tm} {es : List (List Value)}, H4 G ts es → H4 G' ts es
 | [], es, h => by simpa only [H4] using h
 | t :: ts, es, h => by
  simp only [H4] at h ⊢
  obtain ⟨a, r, h1, h2, h3⟩ := h
  exact ⟨a, r, h1, D1.mono hg h2, H4.mono hg h3⟩
end

theorem C7.open {G : IM} {t : Ty} {cells : List Value} (h : C7 G t cells) : ∃ p c es, cells = [.int .i64 t.k, .slice p t.ks.length c] ∧ F9 t.k ∧ C8 G p t.ks.length c 2 es ∧ F4 G t.ks es := by
 cases t; simpa only [C7, Ty.k, Ty.ks] using h
theorem D1.open {G : IM} {t : Tm} {cells : List Value} (h : D1 G t cells) : ∃ pt ct et pf cf ef p c es,
  cells = [.int .i64 t.k, .string t.nm, .int .i64 t.num, .int .i64 t.ty.k, .slice pt t.ty.ks.length ct, .int .i64 t.fr.k, .slice pf t.fr.ks.length cf, .int .i64 t.lb, .slice p t.ks.length c] ∧
  F9 t.k ∧ F9 t.num ∧ F9 t.lb ∧ (F9 t.ty.k ∧ C8 G pt t.ty.ks.length ct 2 et ∧ F4 G t.ty.ks et) ∧ (F9 t.fr.k ∧ C8 G pf t.fr.ks.length cf 2 ef ∧ F4 G t.fr.ks ef) ∧ C8 G p t.ks.length c 9 es ∧ H4 G t.ks es := by
 obtain ⟨k, nm, num, ty, fr, lb, ks⟩ := t
 simp only [D1] at h
 obtain ⟨tc, fc, p, c, es, h1, h2, h3, h4, h5, h6, h7, h8⟩ := h
 obtain ⟨pt, ct, et, rfl, t1, t2, t3⟩ := h5.open
 obtain ⟨pf, cf, ef, rfl, f1, f2, f3⟩ := h6.open
 exact ⟨pt, ct, et, pf, cf, ef, p, c, es, h1, h2, h3, h4, ⟨t1, t2, t3⟩, ⟨f1, f2, f3⟩, h7, h8⟩
theorem D1.open9 {G : IM} {k : Int} {nm : ByteArray} {num : Int} {tk : Int} {tks : List Ty} {fk : Int} {fks : List Ty} {lb : Int} {ks : List Tm} {cells : List Value} (h : D1 G (.mk k nm num (.mk tk tks) (.mk fk fks) lb ks) cells) :
  ∃ pt ct pf cf p c es, cells = [.int .i64 k, .string nm, .int .i64 num, .int .i64 tk, .slice pt tks.length ct, .int .i64 fk, .slice pf fks.length cf, .int .i64 lb, .slice p ks.length c] ∧
  F9 k ∧ F9 num ∧ F9 lb ∧ C7 G (.mk tk tks) [.int .i64 tk, .slice pt tks.length ct] ∧ C7 G (.mk fk fks) [.int .i64 fk, .slice pf fks.length cf] ∧ C8 G p ks.length c 9 es ∧ H4 G ks es := by
 obtain ⟨pt, ct, et, pf, cf, ef, p, c, es, h1, h2, h3, h4, ⟨t1, t2, t3⟩, ⟨f1, f2, f3⟩, h7, h8⟩ := h.open
 simp only [Tm.k, Tm.nm, Tm.num, Tm.ty, Tm.fr, Tm.lb, Tm.ks, Ty.k, Ty.ks] at h1 h2 h3 h4 t1 t2 t3 f1 f2 f3 h7 h8
 exact ⟨pt, ct, pf, cf, p, c, es, h1, h2, h3, h4, by simp only [C7]; exact ⟨_, _, et, rfl, t1, t2, t3⟩, by simp only [C7]; exact ⟨_, _, ef, rfl, f1, f2, f3⟩, h7, h8⟩
theorem C7.len {G : IM} {t : Ty} {cells : List Value} (h : C7 G t cells) : cells.length = 2 := by
 obtain ⟨_, _, _, rfl, _⟩ := h.open; rfl
theorem D1.len {G : IM} {t : Tm} {cells : List Value} (h : D1 G t cells) : cells.length = 9 := by
 obtain ⟨_, _, _, _, _, _, _, _, _, rfl, _⟩ := h.open; rfl

theorem F4.len {G : IM} : ∀ {ts : List Ty} {es : List (List Value)}, F4 G ts es → es.length = ts.length
 | [], es, h => by simp only [F4] at h; subst h; rfl
 | t :: ts, es, h => by
  simp only [F4] at h
  obtain ⟨a, r, rfl, _, h3⟩ := h
  simp [h3.len]
theorem H4.len {G : IM} : ∀ {ts : List Tm} {es : List (List Value)}, H4 G ts es → es.length = ts.length
 | [], es, h => by simp only [H4] at h; subst h; rfl
 | t :: ts, es, h => by
  simp only [H4] at h
  obtain ⟨a, r, rfl, _, h3⟩ := h
  simp [h3.len]
theorem F4.get {G : IM} : ∀ {ts : List Ty} {es : List (List Value)}, F4 G ts es → ∀ {i : Nat} {t : Ty}, ts[i]? = some t → ∃ e, es[i]? = some e ∧ C7 G t e
 | [], es, h, i, t, hi => by simp at hi
 | t' :: ts, es, h, i, t, hi => by
  simp only [F4] at h
  obtain ⟨a, r, rfl, h2, h3⟩ := h
  cases i with
  | zero => simp at hi; subst hi; exact ⟨a, rfl, h2⟩
  | succ i => obtain ⟨e, he, hr⟩ := h3.get (i := i) (by simpa using hi); exact ⟨e, by simpa using he, hr⟩
theorem H4.get {G : IM} : ∀ {ts : List Tm} {es : List (List Value)}, H4 G ts es → ∀ {i : Nat} {t : Tm}, ts[i]? = some t → ∃ e, es[i]? = some e ∧ D1 G t e
 | [], es, h, i, t, hi => by simp at hi
 | t' :: ts, es, h, i, t, hi => by
  simp only [H4] at h
  obtain ⟨a, r, rfl, h2, h3⟩ := h
  cases i with
  | zero => simp at hi; subst hi; exact ⟨a, rfl, h2⟩
  | succ i => obtain ⟨e, he, hr⟩ := h3.get (i := i) (by simpa using hi); exact ⟨e, by simpa using he, hr⟩
theorem F4.all {G : IM} {ts : List Ty} {es : List (List Value)} (h : F4 G ts es) : ∀ e ∈ es, e.length = 2 := by
 intro e he
 obtain ⟨i, hi⟩ := List.getElem?_of_mem he
 have hlt : i < ts.length := by have := (List.getElem?_eq_some_iff.1 hi).1; rw [h.len] at this; exact this
 obtain ⟨e', he', hr⟩ := h.get (i := i) (t := ts[i]) (by simp [hlt])
 rw [hi] at he'; cases he'; exact hr.len
theorem H4.all {G : IM} {ts : List Tm} {es : List (List Value)} (h : H4 G ts es) : ∀ e ∈ es, e.length = 9 := by
 intro e he
 obtain ⟨i, hi⟩ := List.getElem?_of_mem he
 have hlt : i < ts.length := by have := (List.getElem?_eq_some_iff.1 hi).1; rw [h.len] at this; exact this
 obtain ⟨e', he', hr⟩ := h.get (i := i) (t := ts[i]) (by simp [hlt])
 rw [hi] at he'; cases he'; exact hr.len

theorem C7.one {G : IM} {t : Ty} {cells : List Value} (h : C7 G t cells) : cells.all (·.oneCell') = true := by
 obtain ⟨_, _, _, rfl, _⟩ := h.open; rfl
theorem D1.one {G : IM} {t : Tm} {cells : List Value} (h : D1 G t cells) : cells.all (·.oneCell') = true := by
 obtain ⟨_, _, _, _, _, _, _, _, _, rfl, _⟩ := h.open; rfl

theorem Ty.ind {C : Ty → Prop} (h : ∀ k ks, (∀ t ∈ ks, C t) → C (.mk k ks)) : ∀ t, C t
 | .mk k ks => h k ks fun t ht => Ty.ind h t
termination_by t => SizeOf.sizeOf t
decreasing_by
 have := List.sizeOf_lt_of_mem ht
 simp only [Ty.mk.sizeOf_spec]; omega
theorem Tm.ind {C : Tm → Prop} (h : ∀ k nm num ty fr lb ks, (∀ t ∈ ks, C t) → C (.mk k nm num ty fr lb ks)) : ∀ t, C t
 | .mk k nm num ty fr lb ks => h k nm num ty fr lb ks fun t ht => Tm.ind h t
termination_by t => SizeOf.sizeOf t
decreasing_by
 have := List.sizeOf_lt_of_mem ht
 simp only [Tm.mk.sizeOf_spec]; omega

def E2 (G' G : IM) : IM := fun b => match G b with | none => G' b | some _ => none
theorem E2.le (G' G : IM) : D2 (E2 G' G) G' := by
 intro b l h
 unfold E2 at h
 split at h
 ·exact h
 ·cases h
theorem E2.mono {G' G'' G : IM} (h : D2 G' G'') : D2 (E2 G' G) (E2 G'' G) := by
 intro b l hb
 unfold E2 at hb ⊢
 split at hb
 ·exact h b l hb
 ·cases hb
theorem E2.anti {G' G G0 : IM} (h : D2 G0 G) : D2 (E2 G' G) (E2 G' G0) := by
 intro b l hb
 unfold E2 at hb ⊢
 split at hb
 ·rename_i h0
  cases h1 : G0 b with
  | none => exact hb
  | some l' => rw [h b l' h1] at h0; cases h0
 ·cases hb
theorem E2.out {G' G : IM} {b : Nat} (h : E2 G' G b ≠ none) : G b = none := by
 unfold E2 at h
 split at h
 ·assumption
 ·exact absurd rfl h
theorem Sl.dif {G' G G0 : IM} {p : Option Addr} {n c sz : Nat} {cs : List Value} (h : Sl G' p n c sz cs) (hp : ∀ b ∈ I2 p, G b = none) (hle : D2 G0 G) : Sl (E2 G' G0) p n c sz cs := by
 obtain ⟨h1, h2, h3, h4⟩ := h
 refine ⟨h1, h2, h3, h4.imp id ?_⟩
 rintro ⟨b, o, full, rfl, e2, e3⟩
 refine ⟨b, o, full, rfl, ?_, e3⟩
 have hb := hp b (by simp [I2])
 have h0 : G0 b = none := by
  cases h1 : G0 b with
  | none => rfl
  | some l => rw [hle b l h1] at hb; cases hb
 simp [E2, h0, e2]

mutual
def N5 (G : IM) : Ty → List Value → List Nat → Prop
 | .mk k ks, cells, F => ∃ p c es Fs, cells = [.int .i64 k, .slice p ks.length c] ∧ F9 k ∧ C8 G p ks.length c 2 es ∧ L5 G ks es Fs ∧ F = I2 p ++ Fs ∧ (∀ b ∈ I2 p, G b ≠ none)
def L5 (G : IM) : List Ty → List (List Value) → List Nat → Prop
 | [], es, F => es = [] ∧ F = []
 | t :: ts, es, F => ∃ a r Fa Fr, es = a :: r ∧ N5 G t a Fa ∧ L5 G ts r Fr ∧ F = Fa ++ Fr
end
mutual
theorem N5.R {G : IM} : ∀ {t : Ty} {cells : List Value} {F : List Nat}, N5 G t cells F → C7 G t cells
 | .mk k ks, cells, F, h => by
  simp only [N5] at h
  obtain ⟨p, c, es, Fs, h1, h2, h3, h4, _⟩ := h
  simp only [C7]
  exact ⟨p, c, es, h1, h2, h3, L5.R h4⟩
theorem L5.R {G : IM} : ∀ {ts : List Ty} {es : List (List Value)} {F : List Nat}, L5 G ts es F → F4 G ts es
 | [], es, F, h => by simp only [L5] at h; simp only [F4]; exact h.1
 | t :: ts, es, F, h => by
  simp only [L5] at h
  obtain ⟨a, r, Fa, Fr, h1, h2, h3, _⟩ := h
  simp only [F4]
  exact ⟨a, r, h1, N5.R h2, L5.R h3⟩
end
mutual
theorem N5.mono {G G' : IM} (hg : D2 G G') : ∀ {t : Ty} {cells : List Value} {F : List Nat}, N5 G t cells F → N5 G' t cells F
 | .mk k ks, cells, F, h => by
  simp only [N5] at h ⊢
  obtain ⟨p, c, es, Fs, h1, h2, h3, h4, h5, h6⟩ := h
  exact ⟨p, c, es, Fs, h1, h2, h3.mono hg, L5.mono hg h4, h5, fun b hb => by cases hgb : G b with | none => exact absurd hgb (h6 b hb) | some l => rw [hg b l hgb]; simp⟩
theorem L5.mono {G G' : IM} (hg : D2 G G') : ∀ {ts : List Ty} {es : List (List Value)} {F : List Nat}, L5 G ts es F → L5 G' ts es F
 | [], es, F, h => by simpa only [L5] using h
 | t :: ts, es, F, h => by
  simp only [L5] at h ⊢
  obtain ⟨a, r, Fa, Fr, h1, h2, h3, h4⟩ := h
  exact ⟨a, r, Fa, Fr, h1, N5.mono hg h2, L5.mono hg h3, h4⟩
end
mutual
theorem N5.inG {G : IM} : ∀ {t : Ty} {cells : List Value} {F : List Nat}, N5 G t cells F → ∀ b ∈ F, G b ≠ none
 | .mk k ks, cells, F, h => by
  simp only [N5] at h
  obtain ⟨p, c, es, Fs, h1, h2, h3, h4, rfl, h6⟩ := h
  intro b hb
  rcases List.mem_append.1 hb with hb | hb
  ·exact h6 b hb
  ·exact L5.inG h4 b hb
theorem L5.inG {G : IM} : ∀ {ts : List Ty} {es : List (List Value)} {F : List Nat}, L5 G ts es F → ∀ b ∈ F, G b ≠ none
 | [], es, F, h => by simp only [L5] at h; rw [h.2]; simp
 | t :: ts, es, F, h => by
  simp only [L5] at h
  obtain ⟨a, r, Fa, Fr, h1, h2, h3, rfl⟩ := h
  intro b hb
  rcases List.mem_append.1 hb with hb | hb
  ·exact N5.inG h2 b hb
  ·exact L5.inG h3 b hb
end
theorem L5.snoc {G : IM} : ∀ {ts : List Ty} {es : List (List Value)} {F : List Nat} {t : Ty} {a : List Value} {Fa : List Nat}, L5 G ts es F → N5 G t a Fa → L5 G (ts ++ [t]) (es ++ [a]) (F ++ Fa)
 | [], es, F, t, a, Fa, h, h2 => by
  simp only [L5] at h
  obtain ⟨rfl, rfl⟩ := h
  simp only [List.nil_append, L5]
  exact ⟨a, [], Fa, [], rfl, h2, ⟨rfl, rfl⟩, by simp⟩
 | t' :: ts, es, F, t, a, Fa, h, h2 => by
  simp only [L5] at h
  obtain ⟨a', r, Fa', Fr, rfl, h3, h4, rfl⟩ := h
  simp only [List.cons_append, L5]
  exact ⟨a', r ++ [a], Fa', Fr ++ Fa, rfl, h3, L5.snoc h4 h2, by simp⟩

theorem C8.kidTy {G : IM} {p : Option Addr} {n c : Nat} {es : List (List Value)} {ks : List Ty} (h : C8 G p n c 2 es) (hk : F4 G ks es) {i : Nat} (hi : i < n) (hn : i < ks.length) :
  ∃ b o p2 c2, p = some ⟨b, o, none⟩ ∧ (∀ hp, At hp G b (o + i * 2) [.int .i64 ks[i].k, .slice p2 ks[i].ks.length c2]) ∧ C7 G ks[i] [.int .i64 ks[i].k, .slice p2 ks[i].ks.length c2] ∧ G b ≠ none := by
 obtain ⟨e, b, o, he, h1, h2, h3, h4, h5⟩ := h.get hi
 obtain ⟨e', he', hr⟩ := hk.get (i := i) (t := ks[i]) (by simp [hn])
 rw [he] at he'; cases he'
 obtain ⟨p2, c2, _, rfl, _⟩ := hr.open
 exact ⟨b, o, p2, c2, h1, h4, hr, h5⟩

theorem L5.step {G Gi G1 : IM} {ks : List Ty} {i : Nat} {es : List (List Value)} {F F' : List Nat} {a : List Value} (h : L5 (E2 Gi G) (ks.take i) es F) (hn : F.Nodup) (hle : D2 G Gi) (hle1 : D2 Gi G1) (hi : i < ks.length)
  (ha : N5 (E2 G1 Gi) ks[i] a F') (hn' : F'.Nodup) : L5 (E2 G1 G) (ks.take (i + 1)) (es ++ [a]) (F ++ F') ∧ (F ++ F').Nodup := by
 constructor
 ·rw [List.take_succ_eq_append_getElem hi]
  exact L5.snoc (h.mono (E2.mono hle1)) (ha.mono (E2.anti hle))
 ·rw [List.nodup_append]
  refine ⟨hn, hn', ?_⟩
  rintro x hx y hy rfl
  have h1 := h.inG x hx
  have h2 := E2.out (ha.inG x hy)
  apply h1
  cases hd : E2 Gi G x with
  | none => rfl
  | some l => rw [E2.le _ _ x l hd] at h2; cases h2
theorem N5.fin {G Gi G2 : IM} {k : Int} {ks : List Ty} {es : List (List Value)} {F : List Nat} {p : Option Addr} {c : Nat} (h : L5 (E2 Gi G) ks es F) (hn : F.Nodup) (hle : D2 G Gi) (hle2 : D2 Gi G2)
  (hsl : Sl G2 p ks.length c 2 es.flatten) (hnn : ∀ b ∈ I2 p, Gi b = none ∧ G2 b ≠ none) (hk : F9 k) :
  ∃ F', N5 (E2 G2 G) (.mk k ks) [.int .i64 k, .slice p ks.length c] F' ∧ F'.Nodup := by
 have hno := fun b hb => (hnn b hb).1
 have hin := fun b hb => (hnn b hb).2
 have hR := h.R
 refine ⟨I2 p ++ F, ?_, ?_⟩
 ·simp only [N5]
  refine ⟨p, c, es, F, rfl, hk, C8.of (hsl.dif hno hle) hR.len hR.all ?_, h.mono (E2.mono hle2), rfl, ?_⟩
  ·intro e he
   obtain ⟨i, hi⟩ := List.getElem?_of_mem he
   have hlt : i < ks.length := by have := (List.getElem?_eq_some_iff.1 hi).1; rw [hR.len] at this; exact this
   obtain ⟨e', he', hr⟩ := hR.get (i := i) (t := ks[i]) (by simp [hlt])
   rw [hi] at he'; cases he'; exact hr.one
  ·intro b hb
   have h0 := hno b hb
   cases hg : G b with
   | none => simpa [E2, hg] using hin b hb
   | some l => rw [hle b l hg] at h0; cases h0
 ·rw [List.nodup_append]
  refine ⟨by cases p <;> simp [I2], hn, ?_⟩
  rintro x hx y hy rfl
  have h1 := h.inG x hy
  have h2 := hno x hx
  apply h1
  cases hd : E2 Gi G x with
  | none => rfl
  | some l => rw [E2.le _ _ x l hd] at h2; cases h2

def X9 (q : Nat → Bool) (n : Nat) : Int := match (List.range n).find? q with | some i => i | none => -1
theorem A4Z {q : Nat → Bool} {n : Nat} (h : ∀ j, j < n → q j = false) : X9 q n = -1 := by
 have : (List.range n).find? q = none := by
  rw [List.find?_eq_none]
  intro x hx
  rw [h x (List.mem_range.1 hx)]; simp
 simp [X9, this]
theorem A6w {q : Nat → Bool} {n i : Nat} (hi : i < n) (h : ∀ j, j < i → q j = false) (hq : q i = true) : X9 q n = i := by
 have : (List.range n).find? q = some i := by
  rw [List.find?_eq_some_iff_append]
  refine ⟨hq, List.range i, (List.range n).drop (i + 1), ?_, ?_⟩
  ·apply List.ext_getElem?
   intro k
   simp only [List.getElem?_append, List.length_range, List.getElem?_range', List.getElem?_cons, List.getElem?_drop]
   by_cases h1 : k < i
   ·simp [h1, show k < n by omega]
   ·by_cases h2 : k = i
    ·subst h2; simp [hi]
    ·have h3 : k - i ≠ 0 := by omega
     simp only [h1, if_false, h3]
     rw [show i + 1 + (k - i - 1) = k by omega]
  ·intro a ha
   simp [h a (List.mem_range.1 ha)]
 simp [X9, this]

def Q6 (n lo hi : Int) : Bool := decide (lo ≤ n ∧ n ≤ hi)
theorem A40 {n lo hi : Int} (h : Q6 n lo hi = true) : lo ≤ n ∧ n ≤ hi := by simpa [Q6] using h
theorem A6x {n lo hi : Int} (h : Q6 n lo hi = false) : ¬(lo ≤ n ∧ n ≤ hi) := by simpa [Q6] using h
def Z9 (k : Int) : Int := if k = 1 ∨ k = 2 ∨ k = 3 then 0 else if k = 4 ∨ k = 5 then 2 else -1
theorem M0 (k : Int) : (k = 1 ∨ k = 2 ∨ k = 3 → Z9 k = 0) ∧ (k = 4 ∨ k = 5 → Z9 k = 2) ∧ (k ≠ 1 → k ≠ 2 → k ≠ 3 → k ≠ 4 → k ≠ 5 → Z9 k = -1) := by
 unfold Z9; split <;> try split
 all_goals omega
def H8 (k : Int) : Int := if k = 1 ∨ k = 2 ∨ k = 3 ∨ k = 4 then 0 else if k = 5 ∨ k = 11 ∨ k = 12 ∨ k = 13 ∨ k = 14 then 1 else if k = 6 ∨ k = 7 ∨ k = 8 ∨ k = 10 then 2 else if k = 9 then 3 else -1

mutual
def J6 : Ty → Int → Bool
 | .mk k ks, d => decide (d ≤ 4) && decide (Z9 k = ks.length) && R2 ks (d + 1)
def R2 : List Ty → Int → Bool
 | [], _ => true
 | t :: ts, d => J6 t d && R2 ts d
end
theorem A3C : ∀ (ts : List Ty) (d : Int), R2 ts d = true ↔ ∀ i, (h : i < ts.length) → J6 ts[i] d = true
 | [], d => by simp [R2]
 | t :: ts, d => by
  simp only [R2, Bool.and_eq_true, A3C ts d]
  constructor
  ·rintro ⟨h1, h2⟩ i hi
   cases i with
   | zero => exact h1
   | succ i => exact h2 i (by simpa using hi)
  ·intro h
   exact ⟨h 0 zW, fun i hi => h (i + 1) (by simpa using hi)⟩
def H0 (t : Ty) : Bool := J6 t 1
def V0 (t : Ty) : Bool := decide (t.k = 0 ∧ t.ks.length = 0)

mutual
def J0 : Ty → Ty → Bool
 | .mk k ks, t => decide (k = 1) || decide (t.k = 1) || (decide (k = t.k) && M3 ks t.ks)
def M3 : List Ty → List Ty → Bool
 | [], [] => true
 | a :: xs, b :: ys => J0 a b && M3 xs ys
 | _, _ => false
end
theorem P6 (k k' : Int) (ks ks' : List Ty) : J0 (.mk k ks) (.mk k' ks') = (decide (k = 1) || decide (k' = 1) || (decide (k = k') && M3 ks ks')) := by rw [J0]; rfl
theorem A1q : ∀ (xs ys : List Ty), M3 xs ys = true ↔ xs.length = ys.length ∧ ∀ i, (h : i < xs.length) → (h' : i < ys.length) → J0 xs[i] ys[i] = true
 | [], [] => by simp [M3]
 | [], b :: ys => by simp [M3]
 | a :: xs, [] => by simp [M3]
 | a :: xs, b :: ys => by
  simp only [M3, Bool.and_eq_true, A1q xs ys, List.length_cons]
  constructor
  ·rintro ⟨h1, h2, h3⟩
   refine ⟨by omega, fun i hi hi' => ?_⟩
   cases i with
   | zero => exact h1
   | succ i => exact h3 i (by simpa using hi) (by simpa using hi')
  ·rintro ⟨h1, h2⟩
   exact ⟨h2 0 zW zW, by omega, fun i hi hi' => h2 (i + 1) (by simpa using hi) (by simpa using hi')⟩
def A0a (a b : Ty) : Bool := H0 a && H0 b && J0 a b
def V1 (s : ByteArray) : Bool := decide (s.size = 1 ∧ 97 ≤ (s.data.getD 0 0).toNat ∧ (s.data.getD 0 0).toNat ≤ 122)
def A0b (n : Int) : Bool := Q6 n 1 99 || Q6 n (-99) (-1)

theorem A3D {s : ByteArray} {j : Int} (h : j.toNat < s.size) : s[j.toNat]? = some (s.data.getD j.toNat 0) := by
 rw [getElem?_pos s j.toNat h]
 show some (s.data[j.toNat]'h) = _
 rw [Array.getD_eq_getD_getElem?, getElem?_pos s.data j.toNat h]
 rfl
theorem B0D {q : Nat → Bool} {n : Nat} : X9 q n < 0 ↔ ∀ j, j < n → q j = false := by
 constructor
 ·intro h j hj
  unfold X9 at h
  split at h
  ·omega
  ·rename_i hf
   have := List.find?_eq_none.1 hf j (List.mem_range.2 hj)
   simpa using this
 ·intro h; rw [A4Z h]; omega
theorem A6y {q : Nat → Bool} {n : Nat} : 0 ≤ X9 q n ↔ ∃ j, j < n ∧ q j = true := by
 have h := @B0D q n
 constructor
 ·intro h0
  apply Classical.byContradiction
  intro hn
  have : X9 q n < 0 := h.2 fun j hj => by cases hq : q j with | false => rfl | true => exact absurd ⟨j, hj, hq⟩ hn
  omega
 ·rintro ⟨j, hj, hq⟩
  apply Classical.byContradiction
  intro hn
  rw [h.1 zV j hj] at hq
  exact absurd hq zW
theorem B0E {α : Type} (f : α → Bool) (ks : List α) (a : α) : decide (0 ≤ X9 (fun i => !f (ks.getD i a)) ks.length) = !ks.all f := by
 cases h : ks.all f with
 | true =>
  rw [List.all_eq_true] at h
  apply decide_eq_false
  rw [A6y]
  rintro ⟨j, hj, hq⟩
  rw [List.getD_eq_getElem?_getD, List.getElem?_eq_getElem hj, Option.getD_some, h _ (List.getElem_mem hj)] at hq
  exact absurd hq zW
 | false =>
  apply decide_eq_true
  rw [A6y]
  apply Classical.byContradiction
  intro hn
  have : ks.all f = true := by
   rw [List.all_eq_true]
   intro x hx
   obtain ⟨j, hj, rfl⟩ := List.getElem_of_mem hx
   cases hf : f ks[j] with
   | true => rfl
   | false => exact absurd ⟨j, hj, by rw [List.getD_eq_getElem?_getD, List.getElem?_eq_getElem hj, Option.getD_some, hf]; rfl⟩ hn
  rw [h] at this
  exact absurd this zW
theorem R3 : ∀ (ks : List Ty) (d : Int), R2 ks d = ks.all (J6 · d)
 | [], d => rfl
 | t :: ts, d => by simp [R2, R3 ts d]
theorem F4.inv {G : IM} : ∀ {ts : List Ty} {es : List (List Value)}, F4 G ts es → ∀ {i : Nat} {e : List Value}, es[i]? = some e → ∀ a, ts.getD i a ∈ ts ∧ C7 G (ts.getD i a) e
 | [], es, h, i, e, he, a => by
  have := h.len
  simp only [List.length_nil, List.length_eq_zero_iff] at this
  subst this; simp at he
 | t :: ts, es, h, i, e, he, a => by
  have hi : i < es.length := by
   apply Classical.byContradiction; intro hn; rw [List.getElem?_eq_none zV] at he; simp at he
  have hl := h.len
  obtain ⟨e', he', hr⟩ := h.get (i := i) (t := (t :: ts)[i]'zV) (by rw [List.getElem?_eq_getElem])
  rw [he] at he'
  obtain rfl := Option.some.inj he'
  rw [List.getD_eq_getElem?_getD, List.getElem?_eq_getElem zV, Option.getD_some]
  exact ⟨List.getElem_mem _, hr⟩
theorem H4.inv {G : IM} : ∀ {ts : List Tm} {es : List (List Value)}, H4 G ts es → ∀ {i : Nat} {e : List Value}, es[i]? = some e → ∀ a, ts.getD i a ∈ ts ∧ D1 G (ts.getD i a) e
 | [], es, h, i, e, he, a => by
  have := h.len
  simp only [List.length_nil, List.length_eq_zero_iff] at this
  subst this; simp at he
 | t :: ts, es, h, i, e, he, a => by
  have hi : i < es.length := by
   apply Classical.byContradiction; intro hn; rw [List.getElem?_eq_none zV] at he; simp at he
  have hl := h.len
  obtain ⟨e', he', hr⟩ := h.get (i := i) (t := (t :: ts)[i]'zV) (by rw [List.getElem?_eq_getElem])
  rw [he] at he'
  obtain rfl := Option.some.inj he'
  rw [List.getD_eq_getElem?_getD, List.getElem?_eq_getElem zV, Option.getD_some]
  exact ⟨List.getElem_mem _, hr⟩
def C6 : Ty := .mk 0 []
theorem B0F {p : Prop} [Decidable p] {x y : Bool} : ((if p then x else y) = true) ↔ ((p → x = true) ∧ (¬p → y = true)) := by by_cases h : p <;> simp [h]
theorem B0G {k : Int} (h : 1 ≤ k ∧ k ≤ 14) : ([Value.int .i64 0, .int .i64 0, .int .i64 0, .int .i64 0, .int .i64 1, .int .i64 2, .int .i64 2, .int .i64 2, .int .i64 3, .int .i64 2, .int .i64 1, .int .i64 1, .int .i64 1, .int .i64 1])[(k - 1).toNat]? = some (.int .i64 (H8 k)) := by
 have : k = 1 ∨ k = 2 ∨ k = 3 ∨ k = 4 ∨ k = 5 ∨ k = 6 ∨ k = 7 ∨ k = 8 ∨ k = 9 ∨ k = 10 ∨ k = 11 ∨ k = 12 ∨ k = 13 ∨ k = 14 := by omega
 rcases this with rfl | rfl | rfl | rfl | rfl | rfl | rfl | rfl | rfl | rfl | rfl | rfl | rfl | rfl <;> rfl
theorem A3E {k : Int} (h : ¬(1 ≤ k ∧ k ≤ 14)) : H8 k = -1 := by
 unfold H8; repeat (split; omega)
 rfl
theorem B0H {cs : List Value} {o : Nat} {v : Value} (h : cs[o]? = some v) : ∀ j u, [v][j]? = some u → cs[o + j]? = some u := by
 intro j u hj
 cases j with
 | zero => simpa using hj ▸ h
 | succ j => simp at hj
def R4 (k : Int) (nm : ByteArray) (num : Int) (ty fr : Ty) (lb : Int) (n : Nat) : Bool :=
 decide (H8 k = n) && (if k = 1 ∨ k = 5 then V1 nm else decide (nm = ⟨#[]⟩)) && (if k = 2 then Q6 num 0 999 else Q6 num 0 0) &&
 (if k = 5 ∨ k = 13 ∨ k = 14 then H0 ty else V0 ty) && (if k = 14 then A0a fr ty && A0b lb else V0 fr && decide (lb = 0))
theorem S8 {k : Int} {nm : ByteArray} {num : Int} {ty fr : Ty} {lb : Int} {n : Nat} : R4 k nm num ty fr lb n = true ↔
  H8 k = n ∧ (k = 1 ∨ k = 5 → V1 nm = true) ∧ (¬(k = 1 ∨ k = 5) → nm = ⟨#[]⟩) ∧ (k = 2 → Q6 num 0 999 = true) ∧ (k ≠ 2 → Q6 num 0 0 = true) ∧
  (k = 5 ∨ k = 13 ∨ k = 14 → H0 ty = true) ∧ (¬(k = 5 ∨ k = 13 ∨ k = 14) → V0 ty = true) ∧ (k = 14 → A0a fr ty = true ∧ A0b lb = true) ∧ (k ≠ 14 → V0 fr = true ∧ lb = 0) := by
 simp only [R4, Bool.and_eq_true, B0F, decide_eq_true_eq, and_assoc, ne_eq]
mutual
def P1 (M D N : Int) : Tm → Int → Int → Bool × Int
 | .mk k nm num ty fr lb ks, deep, c => if c + 1 > M ∨ deep > D ∨ k = N ∨ R4 k nm num ty fr lb ks.length = false then (false, c + 1) else Q4 M D N ks (deep + 1) (c + 1)
def Q4 (M D N : Int) : List Tm → Int → Int → Bool × Int
 | [], _, c => (true, c)
 | t :: ts, deep, c => if (P1 M D N t deep c).1 = true then Q4 M D N ts deep (P1 M D N t deep c).2 else (false, (P1 M D N t deep c).2)
end
mutual
theorem A6z (M D N : Int) : ∀ (t : Tm) (deep c : Int), 0 ≤ c → c ≤ M → c < (P1 M D N t deep c).2 ∧ (P1 M D N t deep c).2 ≤ M + 1 ∧ ((P1 M D N t deep c).1 = true → (P1 M D N t deep c).2 ≤ M)
 | .mk k nm num ty fr lb ks, deep, c, h0, h1 => by
  rw [P1]
  split
  ·simp; omega
  ·rename_i h
   have := A6A M D N ks (deep + 1) (c + 1) zV zV
   exact ⟨by omega, this.2⟩
theorem A6A (M D N : Int) : ∀ (ts : List Tm) (deep c : Int), 0 ≤ c → c ≤ M → c ≤ (Q4 M D N ts deep c).2 ∧ (Q4 M D N ts deep c).2 ≤ M + 1 ∧ ((Q4 M D N ts deep c).1 = true → (Q4 M D N ts deep c).2 ≤ M)
 | [], deep, c, h0, h1 => by rw [Q4]; simp; omega
 | t :: ts, deep, c, h0, h1 => by
  have := A6z M D N t deep c h0 h1
  rw [Q4]
  split
  ·rename_i h
   have h2 := A6A M D N ts deep (P1 M D N t deep c).2 zV (this.2.2 h)
   exact ⟨by omega, h2.2⟩
  ·simp; omega
end
def T5 (t : Tm) : Bool := (P1 200 40 13 t 1 0).1
def V7 (t : Tm) : Bool := (P1 30 12 14 t 1 0).1
theorem C8.kidTm {G : IM} {p : Option Addr} {n c : Nat} {es : List (List Value)} {ks : List Tm} (h : C8 G p n c 9 es) (hk : H4 G ks es) {i : Nat} (hi : i < n) (hn : i < ks.length) :
  ∃ b o e, p = some ⟨b, o, none⟩ ∧ e.length = 9 ∧ (∀ hp, At hp G b (o + i * 9) e) ∧ D1 G ks[i] e ∧ G b ≠ none := by
 obtain ⟨e, b, o, he, hp, hl, _, hat, hg⟩ := h.get hi
 have := (hk.inv he (ks[i])).2
 rw [List.getD_eq_getElem?_getD, List.getElem?_eq_getElem hn, Option.getD_some] at this
 exact ⟨b, o, e, hp, hl, hat, this, hg⟩
theorem A3F {M D N : Int} {k : Int} {nm : ByteArray} {num : Int} {ty fr : Ty} {lb : Int} {ks : List Tm} {deep c : Int} (h : c + 1 > M ∨ deep > D ∨ k = N ∨ R4 k nm num ty fr lb ks.length = false) :
  P1 M D N (.mk k nm num ty fr lb ks) deep c = (false, c + 1) := by rw [P1, if_pos h]
theorem B0I {M D N : Int} {k : Int} {nm : ByteArray} {num : Int} {ty fr : Ty} {lb : Int} {ks : List Tm} {deep c : Int} (h1 : ¬(c + 1 > M ∨ deep > D ∨ k = N)) (h2 : R4 k nm num ty fr lb ks.length = true) :
  P1 M D N (.mk k nm num ty fr lb ks) deep c = Q4 M D N ks (deep + 1) (c + 1) := by
 rw [P1, if_neg]
 rw [h2]
 intro h
 apply h1
 rcases h with h | h | h | h
 ·exact .inl h
 ·exact .inr (.inl h)
 ·exact .inr (.inr h)
 ·cases h
theorem B0J {M D N : Int} {ks : List Tm} {i : Nat} {deep c : Int} (hi : i < ks.length) (h : (P1 M D N ks[i] deep c).1 = true) : Q4 M D N (ks.drop i) deep c = Q4 M D N (ks.drop (i + 1)) deep (P1 M D N ks[i] deep c).2 := by
 rw [List.drop_eq_getElem_cons hi, Q4, if_pos h]
theorem B0K {M D N : Int} {ks : List Tm} {i : Nat} {deep c : Int} (hi : i < ks.length) (h : (P1 M D N ks[i] deep c).1 = false) : Q4 M D N (ks.drop i) deep c = (false, (P1 M D N ks[i] deep c).2) := by
 rw [List.drop_eq_getElem_cons hi, Q4, if_neg (by rw [h]; simp)]
theorem B0L {M D N : Int} {ks : List Tm} {i : Nat} {deep c : Int} (hi : i = ks.length) : Q4 M D N (ks.drop i) deep c = (true, c) := by
 rw [hi, List.drop_length, Q4]
section blk
variable {P : Program} {Γ : K7} {env : L4} {hp : List A5} {G : IM} {K : Po} {ops : Array Oper} {rest : List Oper}
theorem St.slc_blk {a : Act} {w : World} {b el sz n : Nat} {cs : List Value} {hp' : List A5} (hs : St Γ ⟨env, hp, G⟩ a w) (hk : Pk hp (.slc (some ⟨b, 0, none⟩) n el sz n cs) hp') :
  St Γ ⟨env, .blk b cs :: hp', G⟩ a w := by
 have hown : P9 [.slc (some ⟨b, 0, none⟩) n el sz n cs] G w := hs.res.own.of_mem hk.perm
 have hr : O5 [.slc (some ⟨b, 0, none⟩) n el sz n cs] G w [.blk b cs] G w := by
  refine ⟨⟨hown.inn, ?_, by simp [Fp, A5.fp], ?_⟩, Y8.refl _ _, D2.refl _, fun _ _ h => .inl h, ?_, fun b l h h0 => absurd h (by rw [h0]; simp)⟩
  ·intro e he
   simp at he; subst he
   obtain ⟨hl, h⟩ := hown.ok _ List.mem_cons_self
   rcases h with ⟨hv, _⟩ | ⟨g, cap, cur, hv, _, hg, _, _, hsz, ht⟩
   ·cases hv
   ·cases hv
    refine ⟨el, ?_⟩
    rw [hg]
    have : cur.toList = cs := by rw [← ht, List.take_of_length_le]; simp [hsz]
    rw [← this]
  ·intro b' hb; exact hown.disj b' (by simpa [Fp, A5.fp, I2] using hb)
  ·intro b' hb; exact .inr (by simpa [Fp, A5.fp, I2] using hb)
 exact ⟨hs.size, hs.nod, hs.env, by have := (hs.res.perm hk.perm).frame hr; simpa using this⟩
theorem B0M {b el sz n : Nat} {cs : List Value} {hp' : List A5} (hk : Pk hp (.slc (some ⟨b, 0, none⟩) n el sz n cs) hp') (h : H6 P Γ ops rest K ⟨env, .blk b cs :: hp', G⟩) : H6 P Γ ops rest K ⟨env, hp, G⟩ :=
 ⟨fun a w hs => h.run a w (hs.slc_blk hk)⟩
theorem A6B {d : Nat} {t el : TypeId} {i : K4} {sz by' : Nat} {zs : List Value} {ty : TypeId} {pos : String} {af : Array Edge} {gd : Option (Nat × Bool)} [hI : H2 P t i] (hd' : i.desc = .slice el) [hE : Q5 P el sz by' zs] {x : Operand} {n : Nat}
  (hd : Nat.blt d Γ.n = true) (hx : evo env x = some (.int .i64 (n : Int))) (hb : by' * n ≤ 281474976710656) (hm : n ≤ maxLen) (hw : K2 ops env gd = some true)
  (k : ∀ b, H6 P Γ ops rest K ⟨(d, .slice (some ⟨b, 0, none⟩) n n) :: env, .blk b (T3 n zs) :: hp, G⟩) :
  H6 P Γ ops (⟨some d, .makeSlice t x x, ty, pos, af, gd⟩ :: rest) K ⟨env, hp, G⟩ :=
 F0 (B0s hd' hd hx hb hm) hw (by rintro _ ⟨b, rfl⟩; exact B0M .here (k b))
end blk

theorem A41 : ∀ {A B C V : List Value} {o : Nat}, A.length = o → B.length = V.length → Q2 (A ++ (B ++ C)) o V = some (A ++ (V ++ C))
 | [], B, C, V, o, h, hv => by
  simp at h; subst h
  simp only [List.nil_append]
  induction B generalizing V with
  | nil => cases V with
   | nil => cases C <;> rfl
   | cons v V => simp at hv
  | cons b B ih => cases V with
   | nil => simp at hv
   | cons v V =>
    simp only [List.cons_append, Q2, ih (V := V) (by simpa using hv)]
 | a :: A, B, C, V, o, h, hv => by
  simp at h; subst h
  simp only [List.cons_append, Q2, A41 (A := A) (B := B) (C := C) rfl hv]
theorem V8 {sz : Nat} : ∀ {es : List (List Value)}, (∀ e ∈ es, e.length = sz) → es.flatten.length = es.length * sz
 | [], _ => by simp
 | e :: es, h => by
  rw [List.flatten_cons, List.length_append, h e List.mem_cons_self, V8 (es := es) fun x hx => h x (List.mem_cons_of_mem _ hx), List.length_cons, Nat.succ_mul]; omega
theorem A6C {es : List (List Value)} {n i sz : Nat} {Z V : List Value} (hl : es.length = i) (ha : ∀ e ∈ es, e.length = sz) (hz : Z.length = sz) (hv : V.length = sz) (hi : i < n) :
  Q2 (es.flatten ++ T3 (n - i) Z) (0 + i * sz) V = some ((es ++ [V]).flatten ++ T3 (n - (i + 1)) Z) := by
 have hz' : T3 (n - i) Z = Z ++ T3 (n - (i + 1)) Z := by
  rw [show n - i = (n - (i + 1)) + 1 by omega]; rfl
 rw [hz', A41 (by rw [V8 ha, hl]; omega) (by rw [hz, hv])]
 simp
theorem A6D (X Z : List Value) (n : Nat) : X ++ T3 (n - n) Z = X := by rw [Nat.sub_self]; simp [T3]
theorem A6E {G : IM} {b n sz : Nat} {cs : List Value} (hl : cs.length = n * sz) (hn : n ≤ maxLen) : Sl (Wi G [(b, cs)]) (some ⟨b, 0, none⟩) n n sz cs :=
 ⟨hl, Nat.le_refl _, hn, .inr ⟨b, 0, cs, rfl, by simp [Wi, List.lookup], fun j v h => by simpa using h⟩⟩
theorem A6F {G : IM} {b : Nat} {cs : List Value} (hd : ∀ q ∈ [((b, cs) : Nat × List Value)], G q.1 = none) : ∀ x ∈ I2 (some ⟨b, 0, none⟩), G x = none ∧ Wi G [(b, cs)] x ≠ none := by
 intro x hx
 simp [I2] at hx; subst hx
 exact ⟨hd _ List.mem_cons_self, by simp [Wi, List.lookup]⟩

def A1M (G : IM) (ks : List Ty) (p : Option Addr) (c : Nat) (F : List Nat) : Prop := ∃ es Fs, C8 G p ks.length c 2 es ∧ L5 G ks es Fs ∧ F = I2 p ++ Fs ∧ (∀ b ∈ I2 p, G b ≠ none)
theorem A1M.ty {G : IM} {k : Int} {ks : List Ty} {p : Option Addr} {c : Nat} {F : List Nat} (h : A1M G ks p c F) (hk : F9 k) : N5 G (.mk k ks) [.int .i64 k, .slice p ks.length c] F := by
 obtain ⟨es, Fs, h1, h2, h3, h4⟩ := h
 simp only [N5]
 exact ⟨p, c, es, Fs, rfl, hk, h1, h2, h3, h4⟩
theorem N5.open {G : IM} {t : Ty} {cells : List Value} {F : List Nat} (h : N5 G t cells F) : ∃ p c, cells = [.int .i64 t.k, .slice p t.ks.length c] ∧ F9 t.k ∧ A1M G t.ks p c F := by
 cases t
 simp only [N5] at h
 obtain ⟨p, c, es, Fs, h0, hk, h1, h2, h3, h4⟩ := h
 exact ⟨p, c, h0, hk, es, Fs, h1, h2, h3, h4⟩
theorem A1M.fin {G Gi G2 : IM} {ks : List Ty} {es : List (List Value)} {F : List Nat} {p : Option Addr} {c : Nat} (h : L5 (E2 Gi G) ks es F) (hn : F.Nodup) (hle : D2 G Gi) (hle2 : D2 Gi G2)
  (hsl : Sl G2 p ks.length c 2 es.flatten) (hnn : ∀ b ∈ I2 p, Gi b = none ∧ G2 b ≠ none) :
  ∃ F', A1M (E2 G2 G) ks p c F' ∧ F'.Nodup := by
 obtain ⟨F', h1, h2⟩ := N5.fin (k := 0) h hn hle hle2 hsl hnn ⟨by omega, by omega⟩
 obtain ⟨p', c', h3, _, h4⟩ := h1.open
 simp only [Ty.ks, Ty.k, List.cons.injEq, Value.slice.injEq, true_and, and_true] at h3
 obtain ⟨rfl, rfl⟩ := h3
 exact ⟨F', h4, h2⟩

mutual
def O2 (G : IM) : Tm → List Value → List Nat → Prop
 | .mk k nm num ty fr lb ks, cells, F => ∃ tc fc p c es Ft Ff Fs, cells = [.int .i64 k, .string nm, .int .i64 num] ++ tc ++ fc ++ [.int .i64 lb, .slice p ks.length c] ∧ F9 k ∧ F9 num ∧ F9 lb ∧ N5 G ty tc Ft ∧ N5 G fr fc Ff ∧
   C8 G p ks.length c 9 es ∧ L8 G ks es Fs ∧ F = Ft ++ (Ff ++ (I2 p ++ Fs)) ∧ (∀ b ∈ I2 p, G b ≠ none)
def L8 (G : IM) : List Tm → List (List Value) → List Nat → Prop
 | [], es, F => es = [] ∧ F = []
 | t :: ts, es, F => ∃ a r Fa Fr, es = a :: r ∧ O2 G t a Fa ∧ L8 G ts r Fr ∧ F = Fa ++ Fr
end
def A1r (G : IM) (ks : List Tm) (p : Option Addr) (c : Nat) (F : List Nat) : Prop := ∃ es Fs, C8 G p ks.length c 9 es ∧ L8 G ks es Fs ∧ F = I2 p ++ Fs ∧ (∀ b ∈ I2 p, G b ≠ none)
mutual
theorem O2.R {G : IM} : ∀ {t : Tm} {cells : List Value} {F : List Nat}, O2 G t cells F → D1 G t cells
 | .mk k nm num ty fr lb ks, cells, F, h => by
  simp only [O2] at h
  obtain ⟨tc, fc, p, c, es, Ft, Ff, Fs, h1, h2, h3, h4, h5, h6, h7, h8, _⟩ := h
  simp only [D1]
  exact ⟨tc, fc, p, c, es, h1, h2, h3, h4, h5.R, h6.R, h7, L8.R h8⟩
theorem L8.R {G : IM} : ∀ {ts : List Tm} {es : List (List Value)} {F : List Nat}, L8 G ts es F → H4 G ts es
 | [], es, F, h => by simp only [L8] at h; simp only [H4]; exact h.1
 | t :: ts, es, F, h => by
  simp only [L8] at h
  obtain ⟨a, r, Fa, Fr, h1, h2, h3, _⟩ := h
  simp only [H4]
  exact ⟨a, r, h1, O2.R h2, L8.R h3⟩
end
theorem A2j {G G' : IM} (hg : D2 G G') {F : List Nat} (h : ∀ b ∈ F, G b ≠ none) : ∀ b ∈ F, G' b ≠ none := fun b hb => by
 cases hgb : G b with
 | none => exact absurd hgb (h b hb)
 | some l => rw [hg b l hgb]; simp
mutual
theorem O2.mono {G G' : IM} (hg : D2 G G') : ∀ {t : Tm} {cells : List Value} {F : List Nat}, O2 G t cells F → O2 G' t cells F
 | .mk k nm num ty fr lb ks, cells, F, h => by
  simp only [O2] at h ⊢
  obtain ⟨tc, fc, p, c, es, Ft, Ff, Fs, h1, h2, h3, h4, h5, h6, h7, h8, h9, h10⟩ := h
  exact ⟨tc, fc, p, c, es, Ft, Ff, Fs, h1, h2, h3, h4, h5.mono hg, h6.mono hg, h7.mono hg, L8.mono hg h8, h9, A2j hg h10⟩
theorem L8.mono {G G' : IM} (hg : D2 G G') : ∀ {ts : List Tm} {es : List (List Value)} {F : List Nat}, L8 G ts es F → L8 G' ts es F
 | [], es, F, h => by simpa only [L8] using h
 | t :: ts, es, F, h => by
  simp only [L8] at h ⊢
  obtain ⟨a, r, Fa, Fr, h1, h2, h3, h4⟩ := h
  exact ⟨a, r, Fa, Fr, h1, O2.mono hg h2, L8.mono hg h3, h4⟩
end
mutual
theorem O2.inG {G : IM} : ∀ {t : Tm} {cells : List Value} {F : List Nat}, O2 G t cells F → ∀ b ∈ F, G b ≠ none
 | .mk k nm num ty fr lb ks, cells, F, h => by
  simp only [O2] at h
  obtain ⟨tc, fc, p, c, es, Ft, Ff, Fs, h1, h2, h3, h4, h5, h6, h7, h8, rfl, h10⟩ := h
  intro b hb
  simp only [List.mem_append] at hb
  rcases hb with hb | hb | hb | hb
  ·exact h5.inG b hb
  ·exact h6.inG b hb
  ·exact h10 b hb
  ·exact L8.inG h8 b hb
theorem L8.inG {G : IM} : ∀ {ts : List Tm} {es : List (List Value)} {F : List Nat}, L8 G ts es F → ∀ b ∈ F, G b ≠ none
 | [], es, F, h => by simp only [L8] at h; rw [h.2]; simp
 | t :: ts, es, F, h => by
  simp only [L8] at h
  obtain ⟨a, r, Fa, Fr, h1, h2, h3, rfl⟩ := h
  intro b hb
  rcases List.mem_append.1 hb with hb | hb
  ·exact O2.inG h2 b hb
  ·exact L8.inG h3 b hb
end
theorem L8.snoc {G : IM} : ∀ {ts : List Tm} {es : List (List Value)} {F : List Nat} {t : Tm} {a : List Value} {Fa : List Nat}, L8 G ts es F → O2 G t a Fa → L8 G (ts ++ [t]) (es ++ [a]) (F ++ Fa)
 | [], es, F, t, a, Fa, h, h2 => by
  simp only [L8] at h
  obtain ⟨rfl, rfl⟩ := h
  simp only [List.nil_append, L8]
  exact ⟨a, [], Fa, [], rfl, h2, ⟨rfl, rfl⟩, by simp⟩
 | t' :: ts, es, F, t, a, Fa, h, h2 => by
  simp only [L8] at h
  obtain ⟨a', r, Fa', Fr, rfl, h3, h4, rfl⟩ := h
  simp only [List.cons_append, L8]
  exact ⟨a', r ++ [a], Fa', Fr ++ Fa, rfl, h3, L8.snoc h4 h2, by simp⟩
theorem A1N {G Gi : IM} {F F' : List Nat} {G1 : IM} (h : ∀ b ∈ F, E2 Gi G b ≠ none) (h' : ∀ b ∈ F', E2 G1 Gi b ≠ none) : ∀ x ∈ F, ∀ y ∈ F', x ≠ y := by
 rintro x hx y hy rfl
 have h1 := h x hx
 have h2 := E2.out (h' x hy)
 apply h1
 cases hd : E2 Gi G x with
 | none => rfl
 | some l => rw [E2.le _ _ x l hd] at h2; cases h2
theorem L8.step {G Gi G1 : IM} {ks : List Tm} {i : Nat} {es : List (List Value)} {F F' : List Nat} {a : List Value} (h : L8 (E2 Gi G) (ks.take i) es F) (hn : F.Nodup) (hle : D2 G Gi) (hle1 : D2 Gi G1) (hi : i < ks.length)
  (ha : O2 (E2 G1 Gi) ks[i] a F') (hn' : F'.Nodup) : L8 (E2 G1 G) (ks.take (i + 1)) (es ++ [a]) (F ++ F') ∧ (F ++ F').Nodup := by
 constructor
 ·rw [List.take_succ_eq_append_getElem hi]
  exact L8.snoc (h.mono (E2.mono hle1)) (ha.mono (E2.anti hle))
 ·rw [List.nodup_append]
  exact ⟨hn, hn', A1N h.inG ha.inG⟩
theorem B0N (p : Option Addr) : (I2 p).Nodup := by cases p <;> simp [I2]
theorem A1r.fin {G Gi G2 : IM} {ks : List Tm} {es : List (List Value)} {F : List Nat} {p : Option Addr} {c : Nat} (h : L8 (E2 Gi G) ks es F) (hn : F.Nodup) (hle : D2 G Gi) (hle2 : D2 Gi G2)
  (hsl : Sl G2 p ks.length c 9 es.flatten) (hnn : ∀ b ∈ I2 p, Gi b = none ∧ G2 b ≠ none) :
  ∃ F', A1r (E2 G2 G) ks p c F' ∧ F'.Nodup := by
 have hR := h.R
 have hin : ∀ b ∈ I2 p, E2 G2 G b ≠ none := by
  intro b hb
  have h0 := (hnn b hb).1
  cases hg : G b with
  | none => simpa [E2, hg] using (hnn b hb).2
  | some l => rw [hle b l hg] at h0; cases h0
 refine ⟨I2 p ++ F, ⟨es, F, C8.of (hsl.dif (fun b hb => (hnn b hb).1) hle) hR.len hR.all ?_, h.mono (E2.mono hle2), rfl, hin⟩, ?_⟩
 ·intro e he
  obtain ⟨i, hi⟩ := List.getElem?_of_mem he
  have hlt : i < ks.length := by have := (List.getElem?_eq_some_iff.1 hi).1; rw [hR.len] at this; exact this
  obtain ⟨e', he', hr⟩ := hR.get (i := i) (t := ks[i]) (by simp [hlt])
  rw [hi] at he'; cases he'; exact hr.one
 ·rw [List.nodup_append]
  refine ⟨B0N p, hn, ?_⟩
  rintro x hx y hy rfl
  have h1 := h.inG x hy
  have h2 := (hnn x hx).1
  apply h1
  cases hd : E2 Gi G x with
  | none => rfl
  | some l => rw [E2.le _ _ x l hd] at h2; cases h2
theorem O2.mk3 {G G1 G2 G3 : IM} {k : Int} {nm : ByteArray} {num : Int} {ty fr : Ty} {lb : Int} {ks : List Tm} {tc fc : List Value} {p : Option Addr} {c : Nat} {F1 F2 F3 : List Nat} (hk : F9 k) (hnum : F9 num) (hlb : F9 lb)
  (hl1 : D2 G G1) (hl2 : D2 G1 G2) (hl3 : D2 G2 G3) (h1 : N5 (E2 G1 G) ty tc F1) (n1 : F1.Nodup) (h2 : N5 (E2 G2 G1) fr fc F2) (n2 : F2.Nodup) (h3 : A1r (E2 G3 G2) ks p c F3) (n3 : F3.Nodup) :
  ∃ F, O2 (E2 G3 G) (.mk k nm num ty fr lb ks) ([.int .i64 k, .string nm, .int .i64 num] ++ tc ++ fc ++ [.int .i64 lb, .slice p ks.length c]) F ∧ F.Nodup := by
 obtain ⟨es, Fs, e1, e2, rfl, e4⟩ := h3
 have i3 : ∀ b ∈ I2 p ++ Fs, E2 G3 G2 b ≠ none := by
  intro b hb
  rcases List.mem_append.1 hb with hb | hb
  ·exact e4 b hb
  ·exact e2.inG b hb
 have a2 : D2 (E2 G2 G1) (E2 G3 G) := fun b l h => E2.mono hl3 b l (E2.anti hl1 b l h)
 have a3 : D2 (E2 G3 G2) (E2 G3 G) := E2.anti (hl1.trans hl2)
 refine ⟨F1 ++ (F2 ++ (I2 p ++ Fs)), ?_, ?_⟩
 ·simp only [O2]
  exact ⟨tc, fc, p, c, es, F1, F2, Fs, rfl, hk, hnum, hlb, h1.mono (E2.mono (hl2.trans hl3)), h2.mono a2, e1.mono a3, e2.mono a3, rfl, A2j a3 e4⟩
 ·rw [List.nodup_append, List.nodup_append]
  refine ⟨n1, ⟨n2, n3, A1N h2.inG i3⟩, ?_⟩
  rintro x hx y hy rfl
  rcases List.mem_append.1 hy with hy | hy
  ·exact A1N h1.inG h2.inG x hx x hy rfl
  ·have h1' : ∀ b ∈ F1, E2 G2 G b ≠ none := A2j (E2.mono hl2) h1.inG
   exact A1N h1' i3 x hx x hy rfl
section clawss
variable {P : Program} {Γ : K7} {env : L4} {hp : List A5} {G : IM} {ty : TypeId}
theorem A6G {s d : TypeId} {is id : K4} [hS : H2 P s is] [hD : H2 P d id] (hd : id.desc = .int .u8) {k : IntKind} (hs : is.desc = .int k) {x : Operand} {n : Int} (hx : evo env x = some (.int k n)) (h0 : 0 ≤ n) (h1 : n ≤ 255) :
  I8 P Γ ⟨env, hp, G⟩ (.convert s d x) ty (.int .u8 n) := by
 refine ⟨fun a _ hst _ _ _ _ w => ?_⟩
 have hu := hD.und
 rw [hd] at hu
 have hus := hS.und
 rw [hs] at hus
 have hw : IntKind.u8.wrap n = n := IntWalk.u8_in n ⟨h0, h1⟩
 simp [execOp, convert, run_underlying hus, run_underlying hu, (hst.evo hx : a.eval x = _), Conv.intToInt, hw]
theorem A6H {s d e : TypeId} {is id ie : K4} [hS : H2 P s is] [hD : H2 P d id] [hE : H2 P e ie] (hs : is.desc = .slice e) (he : ie.desc = .int .u8) (hd : id.desc = .string) {x : Operand} {b o n c : Nat} {xs : List Int}
  (hx : evo env x = some (.slice (some ⟨b, o, none⟩) n c)) (hl : xs.length = n) (hv : At hp G b o (xs.map (Value.int .u8))) : A00 P Γ ⟨env, hp, G⟩ (.convert s d x) ty b (.string (strOfNums xs)) := by
 refine ⟨fun a w hst => ?_⟩
 obtain ⟨full, e', f, hb, hf⟩ := hv.read hst
 refine ⟨A0g hb, fun w' hw' d' pos af gd => ?_⟩
 have hus := hS.und
 rw [hs] at hus
 have hue := hE.und
 rw [he] at hue
 have hud := hD.und
 rw [hd] at hud
 have hc := run_convert_bytes_arg (P := P) w' s e hus hue b o n c xs hl (fun i hi => by
  have := hf i (.int .u8 (xs.getD i 0)) (by simp [List.getD, List.getElem?_eq_getElem (show i < xs.length by omega)])
  simp [World.cell?, hw', hb, this]) d hud
 have hx' : a.eval x = _ := hst.evo hx
 simp only [execOp, hx', Sem.run_bind]
 rw [hc]
 rfl
theorem B0O {x y : Operand} {t t' : TypeId} {m n : Nat} (hx : evo env x = some (.int .i64 (m : Int))) (hy : evo env y = some (.int .i64 (n : Int))) (hn : 0 < n) :
  I8 P Γ ⟨env, hp, G⟩ (.binOp .rem t x y t') ty (.int .i64 ((m % n : Nat) : Int)) := by
 have h := A4J (P := P) (Γ := Γ) (hp := hp) (G := G) (ty := ty) (t := t) (t' := t') hx hy zV
 rwa [show ((m : Int).tmod n) = ((m % n : Nat) : Int) from rfl] at h
theorem B0P {x y : Operand} {t t' : TypeId} {m n : Nat} (hx : evo env x = some (.int .i64 (m : Int))) (hy : evo env y = some (.int .i64 (n : Int))) (hn : 0 < n) (hm : m ≤ 9223372036854775807) :
  I8 P Γ ⟨env, hp, G⟩ (.binOp .quo t x y t') ty (.int .i64 ((m / n : Nat) : Int)) := by
 have hd : m / n ≤ m := Nat.div_le_self _ _
 have e : ((m : Int).tdiv n) = ((m / n : Nat) : Int) := rfl
 have h := A94 (P := P) (Γ := Γ) (hp := hp) (G := G) (ty := ty) (t := t) (t' := t') hx hy zV (by rw [e]; generalize m / n = q at *; omega) (by rw [e]; generalize m / n = q at *; omega)
 rwa [e] at h
end clawss
def Z2 (k : Nat) : Int := 48 + ((k % 10 : Nat) : Int)
def A6I : Nat → Nat → ByteArray → ByteArray
 | 0, _, out => out
 | f + 1, k, out => if 0 < k then A6I f (k / 10) (strOfNums [Z2 k] ++ out) else out
def B0Q (k : Nat) : ByteArray := ⟨#[109]⟩ ++ A6I 20 k ⟨⟨[]⟩⟩
def ints (l : List Int) : List Value := l.map (Value.int .i64 ·)
mutual
def J1 : Tm → Nat
 | .mk _ _ _ _ _ _ ks => I4 ks + 1
def I4 : List Tm → Nat
 | [] => 0
 | t :: ts => J1 t + I4 ts
end
mutual
def A6J : Tm → List Int → List (List Int)
 | .mk _ _ _ _ _ _ ks, path => path :: A6K ks 0 path
def A6K : List Tm → Nat → List Int → List (List Int)
 | [], _, _ => []
 | t :: ts, i, path => A6J t (path ++ [(i : Int)]) ++ A6K ts (i + 1) path
end
theorem A6L : ∀ {ks : List Tm} {t : Tm}, t ∈ ks → J1 t ≤ I4 ks
 | [], t, h => by simp at h
 | t' :: ts, t, h => by
  rw [I4]
  rcases List.mem_cons.1 h with rfl | h
  ·omega
  ·have := A6L h; omega
theorem A3G : ∀ (a b : List Tm), I4 (a ++ b) = I4 a + I4 b
 | [], b => by simp [I4]
 | t :: a, b => by rw [List.cons_append, I4, I4, A3G a b]; omega
theorem A42 {ks : List Tm} {i : Nat} (hi : i < ks.length) : I4 (ks.take i) + J1 ks[i] ≤ I4 ks := by
 have h := A3G (ks.take (i + 1)) (ks.drop (i + 1))
 rw [List.take_append_drop, List.take_succ_eq_append_getElem hi, A3G] at h
 simp only [I4] at h
 omega
theorem A43 {ks : List Tm} {i : Nat} (hi : i < ks.length) : I4 (ks.take (i + 1)) = I4 (ks.take i) + J1 ks[i] := by
 rw [List.take_succ_eq_append_getElem hi, A3G]
 simp only [I4]; omega
theorem B0R (t : Tm) : 0 < J1 t := by cases t; rw [J1]; omega
theorem A6M : ∀ (ks : List Tm), ks.length ≤ I4 ks
 | [] => by simp
 | .mk _ _ _ _ _ _ _ :: ts => by have := A6M ts; simp only [List.length_cons, I4, J1]; omega

theorem Sl.nn {G : IM} {p : Option Addr} {n c sz : Nat} {cs : List Value} (h : Sl G p n c sz cs) : p = none → n = 0 := by
 rintro rfl
 rcases h.2.2.2 with h | ⟨b, o, full, h, _⟩
 ·exact h
 ·cases h
def SPs (G : IM) : List (List Int) → List Value → List Nat → Prop
 | [], es, F => es = [] ∧ F = []
 | l :: ls, es, F => ∃ p c r Fr, es = .slice p l.length c :: r ∧ F = I2 p ++ Fr ∧ Sl G p l.length c 1 (ints l) ∧ (∀ b ∈ I2 p, G b ≠ none) ∧ (p = none → l.length = 0) ∧ SPs G ls r Fr
def RPs (G : IM) (ls : List (List Int)) (p : Option Addr) (c : Nat) : Prop := ∃ es F, Sl G p ls.length c 1 es ∧ (∀ b ∈ I2 p, G b ≠ none) ∧ SPs G ls es F ∧ (I2 p ++ F).Nodup
mutual
theorem A6N (M D N : Int) : ∀ (t : Tm) (deep c : Int), (P1 M D N t deep c).1 = true → (P1 M D N t deep c).2 = c + J1 t
 | .mk k nm num ty fr lb ks, deep, c, h => by
  rw [P1] at h ⊢
  split at h
  ·cases h
  ·rename_i hc
   rw [if_neg hc, A6O M D N ks (deep + 1) (c + 1) h, J1]
   omega
theorem A6O (M D N : Int) : ∀ (ts : List Tm) (deep c : Int), (Q4 M D N ts deep c).1 = true → (Q4 M D N ts deep c).2 = c + I4 ts
 | [], deep, c, h => by rw [Q4, I4]; simp
 | t :: ts, deep, c, h => by
  rw [Q4] at h ⊢
  split at h
  ·rename_i h1
   rw [if_pos h1, A6O M D N ts deep _ h, A6N M D N t deep c h1, I4]
   omega
  ·cases h
end
def B0S (t : Tm) : List (List Int) := if T5 t = true then A6J t [] else []
section slaws
variable {P : Program} {Γ : K7} {env : L4} {hp : List A5} {G : IM} {ty : TypeId}
theorem B0T {x y : Operand} {t t' : TypeId} {r : ByteArray} (hx : evo env x = some (.string r)) (hy : evo env y = some (.string r)) :
  I8 P Γ ⟨env, hp, G⟩ (.binOp .neq t x y t') ty (.bool false) := by
 have h := A04 (P := P) (Γ := Γ) (hp := hp) (G := G) (t := t) (t' := t') (ty := ty) hx hy
 rwa [decide_eq_false zW] at h
end slaws
theorem B0U (ks : List Ty) (ih : ∀ t ∈ ks, ∀ (G : IM) (cells cells' : List Value), C7 G t cells → C7 G t cells' → Fn Tryz.prog 45 [.agg ⟨cells⟩, .agg ⟨cells'⟩] [] G (F8 (.bool true) G))
  (G : IM) (p p' : Option Addr) (c c' : Nat) (es es' : List (List Value)) (hsl : C8 G p ks.length c 2 es) (hkl : F4 G ks es) (hsl' : C8 G p' ks.length c' 2 es') (hkl' : F4 G ks es') :
  Fn Tryz.prog 90 [.slice p ks.length c, .slice p' ks.length c'] [] G (F8 (.bool true) G) := by
 have hn := hsl.le
 refine D5 Tryz.func90 rfl Tryz.ntmps90 Tryz.results90 rfl ?_
 intro w0
 refine K1 ?_
 refine sP (Y9 rfl rfl zV) rfl rfl ?_
 refine E8 ?_
 refine B7 (J3 (fun (i : Nat) => ⟨[(5, .int .i64 i), (1, .slice p' ks.length c'), (0, .slice p ks.length c)], [], G⟩) (fun i => i ≤ ks.length) (fun i => ks.length - i) 0 ?_ ?_ ?_)
 exact E3
 exact Nat.zero_le _
 rintro i hi
 refine A7 ?_
 refine sB (I3 rfl rfl) rfl rfl (fun h36 => ?_) (fun h36 => ?_)
 refine A7 ?_
 refine B7 ?_
 refine tS ?_
 (obtain ⟨b, o, p2, c2, rfl, hat, hre, hgb⟩ := hsl.kidTy hkl (i := i) zV zV; obtain ⟨b', o', p2', c2', rfl, hat', hre', hgb'⟩ := hsl'.kidTy hkl' (i := i) zV zV; refine D3 D4 rfl ?_)
 refine E9 (i := 0) (l' := [tt,ff,ff,ff,ff,ff,ff,ff,ff,ff]) rfl C1 (qM rfl) rfl zT rfl rfl ?_
 refine aP 1 rfl (qM rfl) rfl ?_
 refine aP 2 rfl (A6 rfl rfl rfl zV) rfl ?_
 refine aL 3 rfl (A2 rfl rfl (hat _) rfl) rfl ?_
 refine aP 4 rfl (qM rfl) rfl ?_
 refine aP 5 rfl (qM rfl) rfl ?_
 refine aP 6 rfl (A6 rfl rfl rfl zV) rfl ?_
 refine aL 7 rfl (A2 rfl rfl (hat' _) rfl) rfl ?_
 refine A0 8 ?_
 refine M8 rfl rfl (ih ks[i] (List.getElem_mem zV) _ _ _ hre hre') rfl rfl rfl ?_
 refine aP 9 rfl (Z6 rfl) rfl ?_
 refine B4 ?_
 refine sP (H9 rfl rfl zV zV) rfl rfl ?_
 refine A3 ?_
 refine I6 (i + 1) ?_ ?_ ?_
 exact E3
 omega
 omega
 refine I9 ?_
 exact ⟨rfl, rfl, rfl⟩
theorem A6P : ∀ (t : Ty) (G : IM) (cells cells' : List Value), C7 G t cells → C7 G t cells' → Fn Tryz.prog 45 [.agg ⟨cells⟩, .agg ⟨cells'⟩] [] G (F8 (.bool true) G) := by
 refine Ty.ind fun k ks ih G cells cells' hr hr' => ?_
 obtain ⟨p, c, es, rfl, hk, hsl, hkl⟩ := hr.open
 obtain ⟨p', c', es', rfl, hk', hsl', hkl'⟩ := hr'.open
 simp only [Ty.k, Ty.ks] at hk hsl hkl hk' hsl' hkl' ⊢
 have hS := B0U ks ih G p p' c c' es es' hsl hkl hsl' hkl'
 refine D5 Tryz.func45 rfl Tryz.ntmps45 Tryz.results45 rfl ?_
 intro w0
 refine A3 ?_
 refine sE (D8 rfl rfl) rfl (fun b3 => ?_)
 refine sE (D8 rfl rfl) rfl (fun b4 => ?_)
 refine H3 ?_
 refine sP (Y9 rfl rfl zV) rfl rfl ?_
 refine K1 ?_
 refine E5 rfl (hS) rfl rfl ?_
 refine G9 ?_
 exact ⟨rfl, rfl, rfl⟩
theorem B0V (ks : List Tm) (ih : ∀ t ∈ ks, ∀ (G : IM) (cells cells' : List Value), D1 G t cells → D1 G t cells' → Fn Tryz.prog 17 [.agg ⟨cells⟩, .agg ⟨cells'⟩] [] G (F8 (.bool true) G))
  (G : IM) (p p' : Option Addr) (c c' : Nat) (es es' : List (List Value)) (hsl : C8 G p ks.length c 9 es) (hkl : H4 G ks es) (hsl' : C8 G p' ks.length c' 9 es') (hkl' : H4 G ks es') :
  Fn Tryz.prog 46 [.slice p ks.length c, .slice p' ks.length c'] [] G (F8 (.bool true) G) := by
 have hn := hsl.le
 refine D5 Tryz.func46 rfl Tryz.ntmps46 Tryz.results46 rfl ?_
 intro w0
 refine K1 ?_
 refine sP (Y9 rfl rfl zV) rfl rfl ?_
 refine E8 ?_
 refine B7 (J3 (fun (i : Nat) => ⟨[(5, .int .i64 i), (1, .slice p' ks.length c'), (0, .slice p ks.length c)], [], G⟩) (fun i => i ≤ ks.length) (fun i => ks.length - i) 0 ?_ ?_ ?_)
 exact E3
 exact Nat.zero_le _
 rintro i hi
 refine A7 ?_
 refine sB (I3 rfl rfl) rfl rfl (fun h36 => ?_) (fun h36 => ?_)
 refine A7 ?_
 refine B7 ?_
 refine tS ?_
 (obtain ⟨b, o, e, rfl, hl, hat, hre, hgb⟩ := hsl.kidTm hkl (i := i) zV zV; obtain ⟨b', o', e', rfl, hl', hat', hre', hgb'⟩ := hsl'.kidTm hkl' (i := i) zV zV; refine D3 D4 rfl ?_)
 refine E9 (i := 0) (l' := [tt,ff,ff,ff,ff,ff,ff,ff,ff,ff]) rfl C1 (qM rfl) rfl zT rfl rfl ?_
 refine aP 1 rfl (qM rfl) rfl ?_
 refine aP 2 rfl (A6 rfl rfl rfl zV) rfl ?_
 refine aL 3 rfl (A2 rfl rfl (hat _) hl) rfl ?_
 refine aP 4 rfl (qM rfl) rfl ?_
 refine aP 5 rfl (qM rfl) rfl ?_
 refine aP 6 rfl (A6 rfl rfl rfl zV) rfl ?_
 refine aL 7 rfl (A2 rfl rfl (hat' _) hl') rfl ?_
 refine A0 8 ?_
 refine M8 rfl rfl (ih ks[i] (List.getElem_mem zV) _ _ _ hre hre') rfl rfl rfl ?_
 refine aP 9 rfl (Z6 rfl) rfl ?_
 refine B4 ?_
 refine sP (H9 rfl rfl zV zV) rfl rfl ?_
 refine A3 ?_
 refine I6 (i + 1) ?_ ?_ ?_
 exact E3
 omega
 omega
 refine I9 ?_
 exact ⟨rfl, rfl, rfl⟩
theorem B0W : ∀ (t : Tm) (G : IM) (cells cells' : List Value), D1 G t cells → D1 G t cells' → Fn Tryz.prog 17 [.agg ⟨cells⟩, .agg ⟨cells'⟩] [] G (F8 (.bool true) G) := by
 refine Tm.ind fun k nm num ty fr lb ks ih G cells cells' hr hr' => ?_
 obtain ⟨tk, tks⟩ := ty
 obtain ⟨fk, fks⟩ := fr
 obtain ⟨pt, ct, pf, cf, p, c, es, rfl, hk, hnum, hlb, hty, hfr, hsl, hkl⟩ := hr.open9
 obtain ⟨pt', ct', pf', cf', p', c', es', rfl, hk', hnum', hlb', hty', hfr', hsl', hkl'⟩ := hr'.open9
 have hS := B0V ks ih G p p' c c' es es' hsl hkl hsl' hkl'
 have hT := A6P _ G _ _ hty hty'
 have hF := A6P _ G _ _ hfr hfr'
 refine D5 Tryz.func17 rfl Tryz.ntmps17 Tryz.results17 rfl ?_
 intro w0
 refine A3 ?_
 refine sE (D8 rfl rfl) rfl (fun b3 => ?_)
 refine sE (D8 rfl rfl) rfl (fun b4 => ?_)
 refine H3 ?_
 refine sP (Y9 rfl rfl zV) rfl rfl ?_
 refine K1 ?_
 refine sQ (B0T rfl rfl) rfl ?_
 refine K1 ?_
 refine sP (Y9 rfl rfl zV) rfl rfl ?_
 refine K1 ?_
 refine E5 rfl (hT) rfl rfl ?_
 refine G9 ?_
 refine E5 rfl (hF) rfl rfl ?_
 refine G9 ?_
 refine sP (Y9 rfl rfl zV) rfl rfl ?_
 refine K1 ?_
 refine E5 rfl (hS) rfl rfl ?_
 refine G9 ?_
 exact ⟨rfl, rfl, rfl⟩

abbrev A0x := List (Nat × List Value)

mutual
def OTy : Ty → List Value → A0x → Prop
 | .mk k ks, cells, bs => ∃ p c, cells = [.int .i64 k, .slice p ks.length c] ∧ F9 k ∧ ks.length ≤ c ∧ c ≤ maxLen ∧ ((ks = [] ∧ bs = []) ∨ ∃ b A C es r, p = some ⟨b, A.length, none⟩ ∧ bs = (b, A ++ (es.flatten ++ C)) :: r ∧ A44 ks es r)
def A44 : List Ty → List (List Value) → A0x → Prop
 | [], es, bs => es = [] ∧ bs = []
 | t :: ts, es, bs => ∃ e e' r1 r2, es = e :: e' ∧ bs = r1 ++ r2 ∧ OTy t e r1 ∧ A44 ts e' r2
end
def A6Q (ks : List Ty) (p : Option Addr) (c : Nat) (bs : A0x) : Prop :=
 ks.length ≤ c ∧ c ≤ maxLen ∧ ((ks = [] ∧ bs = []) ∨ ∃ b A C es r, p = some ⟨b, A.length, none⟩ ∧ bs = (b, A ++ (es.flatten ++ C)) :: r ∧ A44 ks es r)
mutual
def OTm : Tm → List Value → A0x → Prop
 | .mk k nm num ty fr lb ks, cells, bs => ∃ tc fc p c bt bf bk, cells = [.int .i64 k, .string nm, .int .i64 num] ++ tc ++ fc ++ [.int .i64 lb, .slice p ks.length c] ∧ F9 k ∧ F9 num ∧ F9 lb ∧ OTy ty tc bt ∧ OTy fr fc bf ∧
   ks.length ≤ c ∧ c ≤ maxLen ∧ ((ks = [] ∧ bk = []) ∨ ∃ b A C es r, p = some ⟨b, A.length, none⟩ ∧ bk = (b, A ++ (es.flatten ++ C)) :: r ∧ A45 ks es r) ∧ bs = bt ++ (bf ++ bk)
def A45 : List Tm → List (List Value) → A0x → Prop
 | [], es, bs => es = [] ∧ bs = []
 | t :: ts, es, bs => ∃ e e' r1 r2, es = e :: e' ∧ bs = r1 ++ r2 ∧ OTm t e r1 ∧ A45 ts e' r2
end
def B0X (ks : List Tm) (p : Option Addr) (c : Nat) (bs : A0x) : Prop :=
 ks.length ≤ c ∧ c ≤ maxLen ∧ ((ks = [] ∧ bs = []) ∨ ∃ b A C es r, p = some ⟨b, A.length, none⟩ ∧ bs = (b, A ++ (es.flatten ++ C)) :: r ∧ A45 ks es r)
mutual
def A6R : Ty → Int
 | .mk _ ks => 1 + W9 ks
def W9 : List Ty → Int
 | [] => 0
 | t :: ts => A6R t + W9 ts
end
mutual
def B0Y : Ty → Int → Ty
 | .mk _ ks, k => .mk k (A1s ks (k + 1))
def A1s : List Ty → Int → List Ty
 | [], _ => []
 | t :: ts, k => B0Y t k :: A1s ts (k + A6R t)
end
mutual
def A6S : Tm → Int
 | .mk _ _ _ ty fr _ ks => 6 + W9 ty.ks + W9 fr.ks + A6T ks
def A6T : List Tm → Int
 | [] => 0
 | t :: ts => A6S t + A6T ts
end
mutual
def B0Z : Tm → Int → Tm
 | .mk _ _ _ ty fr _ ks, k => .mk k (B0Q (k + 1).toNat) (k + 1 + 1) (.mk (k + 1 + 1 + 1) (A1s ty.ks (k + 1 + 1 + 1 + 1))) (.mk (k + 1 + 1 + 1 + 1 + W9 ty.ks) (A1s fr.ks (k + 1 + 1 + 1 + 1 + W9 ty.ks + 1))) (k + 1 + 1 + 1 + 1 + W9 ty.ks + 1 + W9 fr.ks) (A3H ks (k + 1 + 1 + 1 + 1 + W9 ty.ks + 1 + W9 fr.ks + 1))
def A3H : List Tm → Int → List Tm
 | [], _ => []
 | t :: ts, k => B0Z t k :: A3H ts (k + A6S t)
end
section lend
variable {P : Program} {Γ : K7} {env : L4} {hp : List A5} {G : IM} {K : Po} {ops : Array Oper} {rest : List Oper} {ty : TypeId} {pos : String} {af : Array Edge} {gd : Option (Nat × Bool)}
def B4V (v0 : Value) (G : IM) (Φ : A0x → Prop) : IM → Value → List A5 → Prop := fun G' v outs => G' = G ∧ v = v0 ∧ ∃ bs', outs = A08 bs' ∧ Φ bs'
end lend
def MTm (t : Tm) (k : Int) (cells : List Value) (bs : A0x) : Prop := ∃ pt ct pf cf p c bt bf bk,
 cells = [.int .i64 t.k, .string t.nm, .int .i64 t.num, .int .i64 t.ty.k, .slice pt t.ty.ks.length ct, .int .i64 t.fr.k, .slice pf t.fr.ks.length cf, .int .i64 t.lb, .slice p t.ks.length c] ∧
 A6Q (A1s t.ty.ks k) pt ct bt ∧ A6Q (A1s t.fr.ks (k + W9 t.ty.ks)) pf cf bf ∧ B0X (A3H t.ks (k + W9 t.ty.ks + W9 t.fr.ks)) p c bk ∧ bs = bt ++ (bf ++ bk)
def A6U : Nat → Int → List Int
 | 0, _ => []
 | n + 1, k => k :: A6U n (k + 1)
def OIs (l : List Int) (p : Option Addr) (c : Nat) (bs : A0x) : Prop :=
 l.length ≤ c ∧ c ≤ maxLen ∧ ((l = [] ∧ bs = []) ∨ ∃ b A C, p = some ⟨b, A.length, none⟩ ∧ bs = [(b, A ++ (ints l ++ C))])
def OPs : List (List Int) → List Value → A0x → Prop
 | [], es, bs => es = [] ∧ bs = []
 | l :: ls, es, bs => ∃ p c e' r1 r2, es = .slice p l.length c :: e' ∧ bs = r1 ++ r2 ∧ OIs l p c r1 ∧ OPs ls e' r2
def B00 : List (List Int) → Int
 | [] => 0
 | l :: ls => l.length + B00 ls
def B01 : List (List Int) → Int → List (List Int)
 | [], _ => []
 | l :: ls, k => A6U l.length k :: B01 ls (k + l.length)
section lend0
variable {P : Program} {Γ : K7} {env : L4} {G : IM} {K : Po} {ops : Array Oper} {rest : List Oper} {ty : TypeId} {pos : String} {af : Array Edge} {gd : Option (Nat × Bool)}
end lend0
def QPs (G : IM) : List (List Int) → List Value → Prop
 | [], es => es = []
 | l :: ls, es => ∃ p c r, es = .slice p l.length c :: r ∧ Sl G p l.length c 1 (ints l) ∧ QPs G ls r
mutual
def O7 : Ty → Int
 | .mk _ ks => ks.length + Q0 ks
def Q0 : List Ty → Int
 | [] => 0
 | t :: ts => O7 t + Q0 ts
end
mutual
def Z3 : Tm → Int
 | .mk _ nm _ ty fr _ ks => nm.size + O7 ty + O7 fr + (ks.length + Q1 ks)
def Q1 : List Tm → Int
 | [] => 0
 | t :: ts => Z3 t + Q1 ts
end
mutual
theorem A0L : ∀ t : Ty, 0 ≤ O7 t
 | .mk _ ks => by have := A1O ks; rw [O7]; omega
theorem A1O : ∀ ts : List Ty, 0 ≤ Q0 ts
 | [] => by rw [Q0]; omega
 | t :: ts => by have := A0L t; have := A1O ts; rw [Q0]; omega
end
mutual
theorem A46 : ∀ t : Tm, 0 ≤ Z3 t
 | .mk _ _ _ ty fr _ ks => by have := A1t ks; have := A0L ty; have := A0L fr; rw [Z3]; omega
theorem A1t : ∀ ts : List Tm, 0 ≤ Q1 ts
 | [] => by rw [Q1]; omega
 | t :: ts => by have := A46 t; have := A1t ts; rw [Q1]; omega
end
theorem A47 : ∀ a b : List Ty, Q0 (a ++ b) = Q0 a + Q0 b
 | [], b => by simp [Q0]
 | t :: a, b => by rw [List.cons_append, Q0, Q0, A47 a b]; omega
theorem A48 : ∀ a b : List Tm, Q1 (a ++ b) = Q1 a + Q1 b
 | [], b => by simp [Q1]
 | t :: a, b => by rw [List.cons_append, Q1, Q1, A48 a b]; omega
theorem B02 {ks : List Ty} {i : Nat} (hi : i < ks.length) : Q0 (ks.take (i + 1)) = Q0 (ks.take i) + O7 ks[i] := by
 rw [List.take_succ_eq_append_getElem hi, A47, Q0, Q0]; omega
theorem B03 {ks : List Tm} {i : Nat} (hi : i < ks.length) : Q1 (ks.take (i + 1)) = Q1 (ks.take i) + Z3 ks[i] := by
 rw [List.take_succ_eq_append_getElem hi, A48, Q1, Q1]; omega
theorem B04 (ks : List Ty) (i : Nat) : Q0 (ks.take i) ≤ Q0 ks := by
 have h := A47 (ks.take i) (ks.drop i)
 rw [List.take_append_drop] at h
 have := A1O (ks.drop i); omega
theorem B05 (ks : List Tm) (i : Nat) : Q1 (ks.take i) ≤ Q1 ks := by
 have h := A48 (ks.take i) (ks.drop i)
 rw [List.take_append_drop] at h
 have := A1t (ks.drop i); omega
mutual
def Tm.nok : Tm → Prop
 | .mk _ nm _ _ _ _ ks => nm.size ≤ 9223372036854775807 ∧ Tm.nokL ks
def Tm.nokL : List Tm → Prop
 | [] => True
 | t :: ts => t.nok ∧ Tm.nokL ts
end
theorem Tm.nokL_mem : ∀ {ts : List Tm}, Tm.nokL ts → ∀ t ∈ ts, t.nok
 | [], _, t, h => by simp at h
 | t' :: ts, h, t, ht => by
  simp only [Tm.nokL] at h
  rcases List.mem_cons.1 ht with rfl | ht
  ·exact h.1
  ·exact Tm.nokL_mem h.2 t ht
def A0y (left s : Int) : Int := if s ≤ left then left - s else -1
theorem A1P (left s : Int) : (s ≤ left ∧ A0y left s = left - s) ∨ (left < s ∧ A0y left s = -1) := by
 unfold A0y; split
 ·exact .inl ⟨by omega, rfl⟩
 ·exact .inr ⟨by omega, rfl⟩
theorem A49 {left s : Int} (h : s ≤ left) : A0y left s = left - s := if_pos h
theorem A1u {left s : Int} (h : left < s) : A0y left s = -1 := if_neg zV
theorem B06 (ks : List Ty) (ih : ∀ t ∈ ks, ∀ (left : Int) (G : IM) (cells : List Value), 0 ≤ left → left ≤ 1048576 → C7 G t cells → Fn Tryz.prog 38 [.agg ⟨cells⟩, .int .i64 left] [] G (F8 (.int .i64 (A0y left (O7 t))) G))
  (left : Int) (G : IM) (p : Option Addr) (c : Nat) (es : List (List Value)) (h0 : 0 ≤ left) (h1 : left ≤ 1048576) (hsl : C8 G p ks.length c 2 es) (hkl : F4 G ks es) :
  Fn Tryz.prog 77 [.slice p ks.length c, .int .i64 left] [] G (F8 (.int .i64 (A0y left (ks.length + Q0 ks))) G) := by
 have hn := hsl.le
 have hs := A1O ks
 refine D5 Tryz.func77 rfl Tryz.ntmps77 Tryz.results77 rfl ?_
 intro w0
 refine H3 ?_
 refine sP (R9 rfl rfl zV zV) rfl rfl ?_
 refine A8 ?_
 refine sB (I3 rfl rfl) rfl rfl (fun h19 => ?_) (fun h19 => ?_)
 refine E8 ?_
 exact ⟨rfl, by rw [A1u zV], rfl⟩
 refine E8 ?_
 refine B7 (J3 (fun (x : Nat × Int) => ⟨[(5, .int .i64 x.1), (1, .int .i64 x.2), (0, .slice p ks.length c)], [], G⟩) (fun x => x.1 ≤ ks.length ∧ x.2 = left - ks.length - Q0 (ks.take x.1) ∧ 0 ≤ x.2) (fun x => ks.length - x.1) (0, left - ks.length) ?_ ?_ ?_)
 (simp only [J4]; exact E3)
 exact ⟨by simp, by simp [Q0], by omega⟩
 (rintro ⟨i, l⟩ ⟨hi, hl, hl0⟩; simp only [] at hi hl hl0 ⊢; have hsn := A1O (ks.take i))
 refine A7 ?_
 refine sB (I3 rfl rfl) rfl rfl (fun h54 => ?_) (fun h54 => ?_)
 refine A7 ?_
 refine B7 ?_
 refine C3 ?_
 (obtain ⟨b, o, p2, c2, rfl, hat, hre, hgb⟩ := hsl.kidTy hkl (i := i) zV zV; refine sP (A6 rfl rfl rfl zV) rfl rfl ?_)
 refine sL (A2 rfl rfl (hat _) rfl) rfl rfl ?_
 refine I0 ?_
 (have hih := ih ks[i] (List.getElem_mem zV) l G _ hl0 zV hre; have hsu := B02 (ks := ks) (i := i) zV; have hta := B04 ks (i + 1); rcases A1P l (O7 ks[i]) with ⟨hc, hr⟩ | ⟨hc, hr⟩ <;> (rw [hr] at hih; refine E5 rfl hih rfl rfl ?_))
 refine A7 ?_
 refine sP (A0j rfl rfl zV) rfl rfl ?_
 refine B4 ?_
 refine sP (H9 rfl rfl zV zV) rfl rfl ?_
 refine A3 ?_
 refine I6 (i + 1, l - O7 ks[i]) ?_ ?_ ?_
 (simp only [J4]; exact E3)
 (dsimp only; exact ⟨by omega, by omega, by omega⟩)
 (show ks.length - (i + 1) < ks.length - i; omega)
 refine A7 ?_
 refine sP (A1J rfl rfl zV) rfl rfl ?_
 refine I9 ?_
 exact ⟨rfl, by rw [A1u zV], rfl⟩
 refine K0 ?_
 (obtain rfl : i = ks.length := zV; rw [List.take_length] at hl; exact ⟨rfl, by rw [A49 zV, hl]; congr 1; omega, rfl⟩)
theorem A6V : ∀ (t : Ty) (left : Int) (G : IM) (cells : List Value), 0 ≤ left → left ≤ 1048576 → C7 G t cells → Fn Tryz.prog 38 [.agg ⟨cells⟩, .int .i64 left] [] G (F8 (.int .i64 (A0y left (O7 t))) G) := by
 refine Ty.ind fun k ks ih left G cells h0 h1 hr => ?_
 obtain ⟨p, c, es, rfl, hk, hsl, hkl⟩ := hr.open
 simp only [Ty.k, Ty.ks] at hk hsl hkl ⊢
 have hS := B06 ks ih left G p c es h0 h1 hsl hkl
 rw [O7]
 refine D5 Tryz.func38 rfl Tryz.ntmps38 Tryz.results38 rfl ?_
 intro w0
 refine A3 ?_
 refine sE (D8 rfl rfl) rfl (fun b3 => ?_)
 refine B4 ?_
 (rcases A1P left (ks.length + Q0 ks) with ⟨hc, hr⟩ | ⟨hc, hr⟩ <;> (rw [hr] at hS; refine E5 rfl hS rfl rfl ?_))
 refine A8 ?_
 refine sP (A0j rfl rfl zV) rfl rfl ?_
 refine G9 ?_
 exact ⟨rfl, by rw [hr], rfl⟩
 refine A8 ?_
 refine sP (A1J rfl rfl zV) rfl rfl ?_
 refine E8 ?_
 exact ⟨rfl, by rw [hr], rfl⟩
theorem B07 (ks : List Tm) (ih : ∀ t ∈ ks, ∀ (left : Int) (G : IM) (cells : List Value), 0 ≤ left → left ≤ 1048576 → t.nok → D1 G t cells → Fn Tryz.prog 13 [.agg ⟨cells⟩, .int .i64 left] [] G (F8 (.int .i64 (A0y left (Z3 t))) G))
  (left : Int) (G : IM) (p : Option Addr) (c : Nat) (es : List (List Value)) (h0 : 0 ≤ left) (h1 : left ≤ 1048576) (hnok : Tm.nokL ks) (hsl : C8 G p ks.length c 9 es) (hkl : H4 G ks es) :
  Fn Tryz.prog 39 [.slice p ks.length c, .int .i64 left] [] G (F8 (.int .i64 (A0y left (ks.length + Q1 ks))) G) := by
 have hn := hsl.le
 have hs := A1t ks
 refine D5 Tryz.func39 rfl Tryz.ntmps39 Tryz.results39 rfl ?_
 intro w0
 refine H3 ?_
 refine sP (R9 rfl rfl zV zV) rfl rfl ?_
 refine A8 ?_
 refine sB (I3 rfl rfl) rfl rfl (fun h19 => ?_) (fun h19 => ?_)
 refine E8 ?_
 exact ⟨rfl, by rw [A1u zV], rfl⟩
 refine E8 ?_
 refine B7 (J3 (fun (x : Nat × Int) => ⟨[(5, .int .i64 x.1), (1, .int .i64 x.2), (0, .slice p ks.length c)], [], G⟩) (fun x => x.1 ≤ ks.length ∧ x.2 = left - ks.length - Q1 (ks.take x.1) ∧ 0 ≤ x.2) (fun x => ks.length - x.1) (0, left - ks.length) ?_ ?_ ?_)
 (simp only [J4]; exact E3)
 exact ⟨by simp, by simp [Q1], by omega⟩
 (rintro ⟨i, l⟩ ⟨hi, hl, hl0⟩; simp only [] at hi hl hl0 ⊢; have hsn := A1t (ks.take i))
 refine A7 ?_
 refine sB (I3 rfl rfl) rfl rfl (fun h54 => ?_) (fun h54 => ?_)
 refine A7 ?_
 refine B7 ?_
 refine C3 ?_
 (obtain ⟨b, o, e, rfl, hle, hat, hre, hgb⟩ := hsl.kidTm hkl (i := i) zV zV; refine sP (A6 rfl rfl rfl zV) rfl rfl ?_)
 refine sL (A2 rfl rfl (hat _) hle) rfl rfl ?_
 refine I0 ?_
 (have hih := ih ks[i] (List.getElem_mem zV) l G _ hl0 zV (Tm.nokL_mem hnok _ (List.getElem_mem zV)) hre; have hsu := B03 (ks := ks) (i := i) zV; have hta := B05 ks (i + 1); rcases A1P l (Z3 ks[i]) with ⟨hc, hr⟩ | ⟨hc, hr⟩ <;> (rw [hr] at hih; refine E5 rfl hih rfl rfl ?_))
 refine A7 ?_
 refine sP (A0j rfl rfl zV) rfl rfl ?_
 refine B4 ?_
 refine sP (H9 rfl rfl zV zV) rfl rfl ?_
 refine A3 ?_
 refine I6 (i + 1, l - Z3 ks[i]) ?_ ?_ ?_
 (simp only [J4]; exact E3)
 (dsimp only; exact ⟨by omega, by omega, by omega⟩)
 (show ks.length - (i + 1) < ks.length - i; omega)
 refine A7 ?_
 refine sP (A1J rfl rfl zV) rfl rfl ?_
 refine I9 ?_
 exact ⟨rfl, by rw [A1u zV], rfl⟩
 refine K0 ?_
 (obtain rfl : i = ks.length := zV; rw [List.take_length] at hl; exact ⟨rfl, by rw [A49 zV, hl]; congr 1; omega, rfl⟩)
theorem B08 : ∀ (t : Tm) (left : Int) (G : IM) (cells : List Value), 0 ≤ left → left ≤ 1048576 → t.nok → D1 G t cells → Fn Tryz.prog 13 [.agg ⟨cells⟩, .int .i64 left] [] G (F8 (.int .i64 (A0y left (Z3 t))) G) := by
 refine Tm.ind fun k nm num ty fr lb ks ih left G cells h0 h1 hno hr => ?_
 simp only [Tm.nok] at hno
 obtain ⟨hnm, hno⟩ := hno
 obtain ⟨tk, tks⟩ := ty
 obtain ⟨fk, fks⟩ := fr
 obtain ⟨pt, ct, pf, cf, p, c, es, rfl, hk, hnum, hlb, hty, hfr, hsl, hkl⟩ := hr.open9
 have n1 := A0L (.mk tk tks)
 have n2 := A0L (.mk fk fks)
 have n3 := A1t ks
 rw [Z3]
 generalize hs1 : O7 (.mk tk tks) = s1 at *
 generalize hs2 : O7 (.mk fk fks) = s2 at *
 refine D5 Tryz.func13 rfl Tryz.ntmps13 Tryz.results13 rfl ?_
 intro w0
 refine A3 ?_
 refine sE (D8 rfl rfl) rfl (fun b3 => ?_)
 refine B4 ?_
 refine sQ (A4K rfl rfl) rfl ?_
 refine sP (R9 rfl rfl zV zV) rfl rfl ?_
 refine A8 ?_
 refine sB (I3 rfl rfl) rfl rfl (fun h21 => ?_) (fun h21 => ?_)
 refine E8 ?_
 exact ⟨rfl, by rw [A1u zV], rfl⟩
 refine H3 ?_
 (have hT := A6V (.mk tk tks) (left - nm.size) G _ zV zV hty; rw [hs1] at hT; rcases A1P (left - nm.size) s1 with ⟨hc1, hr1⟩ | ⟨hc1, hr1⟩ <;> (rw [hr1] at hT; refine E5 rfl hT rfl rfl ?_))
 refine A8 ?_
 refine sP (A0j rfl rfl zV) rfl rfl ?_
 refine H3 ?_
 (have hF := A6V (.mk fk fks) (left - nm.size - s1) G _ zV zV hfr; rw [hs2] at hF; rcases A1P (left - nm.size - s1) s2 with ⟨hc2, hr2⟩ | ⟨hc2, hr2⟩ <;> (rw [hr2] at hF; refine E5 rfl hF rfl rfl ?_))
 refine A8 ?_
 refine sP (A0j rfl rfl zV) rfl rfl ?_
 refine H3 ?_
 (have hS := B07 ks ih (left - nm.size - s1 - s2) G p c es zV zV hno hsl hkl; rcases A1P (left - nm.size - s1 - s2) (ks.length + Q1 ks) with ⟨hc3, hr3⟩ | ⟨hc3, hr3⟩ <;> (rw [hr3] at hS; refine E5 rfl hS rfl rfl ?_))
 refine A8 ?_
 refine sP (A0j rfl rfl zV) rfl rfl ?_
 refine G9 ?_
 exact ⟨rfl, by rw [A49 zV]; congr 1; omega, rfl⟩
 refine A8 ?_
 refine sP (A1J rfl rfl zV) rfl rfl ?_
 refine E8 ?_
 exact ⟨rfl, by rw [A1u zV], rfl⟩
 refine A8 ?_
 refine sP (A1J rfl rfl zV) rfl rfl ?_
 refine E8 ?_
 exact ⟨rfl, by rw [A1u zV], rfl⟩
 refine A8 ?_
 refine sP (A1J rfl rfl zV) rfl rfl ?_
 refine E8 ?_
 exact ⟨rfl, by rw [A1u zV], rfl⟩
end Gw
end Go.Proofs.YtmceanphadildaaGreatDoor
namespace Go.Proofs.YtmceanphadildaaGreatDoor
open Go Go.RowKit Go.ChangeShapes Go.WideShapes Go.ChangeAt
namespace Gw
def GW (w : World) : IM := fun b => match w.heap[b]? with
 | some (.cells c _ _) => some c.toList
 | _ => none
theorem B09 (w : World) : P9 [] (GW w) w := by
 refine ⟨?_, by simp, by simp [Fp], by simp [Fp]⟩
 intro b l h
 unfold GW at h
 split at h
 ·rename_i c e f hb; cases h; exact ⟨e, f, by simpa using hb⟩
 ·cases h
theorem A6W {w : World} {b o : Nat} {v : Value} (h : w.cell? ⟨b, o, none⟩ = some v) : ∃ full, GW w b = some full ∧ full[o]? = some v := by
 unfold World.cell? at h
 simp only at h
 split at h
 ·rename_i c e f hb
  exact ⟨c.toList, by simp [GW, hb], by simpa using h⟩
 ·cases h
theorem A6X {sz : Nat} : ∀ {es : List (List Value)}, (∀ e ∈ es, e.length = sz) → ∀ {j : Nat} {v : Value}, es.flatten[j]? = some v → ∃ i e r, es[i]? = some e ∧ e[r]? = some v ∧ j = i * sz + r
 | [], _, j, v, h => by simp at h
 | a :: es, hall, j, v, h => by
  have ha := hall a List.mem_cons_self
  rw [List.flatten_cons, List.getElem?_append] at h
  split at h
  ·exact ⟨0, a, j, rfl, h, by simp⟩
  ·rename_i hj
   obtain ⟨i, e, r, h1, h2, h3⟩ := A6X (fun x hx => hall x (List.mem_cons_of_mem _ hx)) h
   exact ⟨i + 1, e, r, by simpa using h1, h2, by rw [Nat.succ_mul]; omega⟩
theorem A6Y {w : World} {a : Addr} {n c sz : Nat} {es : List (List Value)} (hl : es.length = n) (hsz : 0 < sz) (hc : n ≤ c) (hm : c ≤ maxLen) (h : ∀ i e, es[i]? = some e → w.cells? 0 (a.add (i * sz)) sz = some e) : Sl (GW w) (some a) n c sz es.flatten := by
 have hall : ∀ e ∈ es, e.length = sz := by
  intro e he
  obtain ⟨i, hi⟩ := List.getElem?_of_mem he
  exact (World.cells?_some (h i e hi)).2.1
 refine ⟨by rw [V8 hall, hl], hc, hm, ?_⟩
 rcases Nat.eq_zero_or_pos n with h0 | h0
 ·exact .inl h0
 ·right
  obtain ⟨b, o, s⟩ := a
  have hs : s = none := by
   have h1 := (World.cells?_some (h 0 es[0] (List.getElem?_eq_getElem zV))).2
   have h2 := h1.2 0 hsz
   rw [List.getElem?_eq_getElem zV] at h2
   simp only [Nat.zero_mul, Addr.add, if_true] at h2
   unfold World.cell? at h2
   split at h2
   ·split at h2
    ·cases h2
    ·rename_i hn; cases s with
     | none => rfl
     | some x => simp at hn
   ·cases h2
  subst hs
  have key : ∀ j v, es.flatten[j]? = some v → w.cell? ⟨b, o + j, none⟩ = some v := by
   intro j v hj
   obtain ⟨i, e, r, h1, h2, rfl⟩ := A6X hall hj
   have h3 := (World.cells?_some (h i e h1)).2
   have hr : r < e.length := (List.getElem?_eq_some_iff.1 h2).1
   have h4 := h3.2 r zV
   rw [h2, A2c, A2c] at h4
   rw [← Nat.add_assoc]; exact h4
  have hpos : 0 < es.flatten.length := by rw [V8 hall, hl]; exact Nat.mul_pos h0 hsz
  obtain ⟨full, hg, _⟩ := A6W (key 0 es.flatten[0] (List.getElem?_eq_getElem hpos))
  refine ⟨b, o, full, rfl, hg, fun j v hj => ?_⟩
  obtain ⟨full', hg', hv⟩ := A6W (key j v hj)
  rw [hg] at hg'; cases hg'; exact hv
theorem F4.snoc {G : IM} : ∀ {ts : List Ty} {es : List (List Value)} {t : Ty} {e : List Value}, F4 G ts es → C7 G t e → F4 G (ts ++ [t]) (es ++ [e])
 | [], es, t, e, h, h2 => by
  simp only [F4] at h; subst h
  simp only [List.nil_append, F4]
  exact ⟨e, [], rfl, h2, rfl⟩
 | t' :: ts, es, t, e, h, h2 => by
  simp only [F4] at h
  obtain ⟨a, r, rfl, h3, h4⟩ := h
  simp only [List.cons_append, F4]
  exact ⟨a, r ++ [e], rfl, h3, F4.snoc h4 h2⟩
theorem H4.snoc {G : IM} : ∀ {ts : List Tm} {es : List (List Value)} {t : Tm} {e : List Value}, H4 G ts es → D1 G t e → H4 G (ts ++ [t]) (es ++ [e])
 | [], es, t, e, h, h2 => by
  simp only [H4] at h; subst h
  simp only [List.nil_append, H4]
  exact ⟨e, [], rfl, h2, rfl⟩
 | t' :: ts, es, t, e, h, h2 => by
  simp only [H4] at h
  obtain ⟨a, r, rfl, h3, h4⟩ := h
  simp only [List.cons_append, H4]
  exact ⟨a, r ++ [e], rfl, h3, H4.snoc h4 h2⟩
theorem Tm.nokL_snoc : ∀ {ts : List Tm} {t : Tm}, Tm.nokL ts → t.nok → Tm.nokL (ts ++ [t])
 | [], t, _, h => by simp only [List.nil_append, Tm.nokL]; exact ⟨h, trivial⟩
 | t' :: ts, t, h, h2 => by
  simp only [Tm.nokL] at h
  simp only [List.cons_append, Tm.nokL]
  exact ⟨h.1, Tm.nokL_snoc h.2 h2⟩
theorem A6Z {G : IM} {q : Nat → List Value → Prop} : ∀ {n : Nat}, (∀ i, i < n → ∃ e t, q i e ∧ C7 G t e) → ∃ ts es, ts.length = n ∧ F4 G ts es ∧ ∀ i e, es[i]? = some e → q i e
 | 0, _ => ⟨[], [], rfl, by simp only [F4], by simp⟩
 | n + 1, h => by
  obtain ⟨ts, es, h1, h2, h3⟩ := A6Z (n := n) fun i hi => h i zV
  obtain ⟨e, t, h4, h5⟩ := h n zV
  refine ⟨ts ++ [t], es ++ [e], by simp [h1], h2.snoc h5, fun i x hx => ?_⟩
  have hl := h2.len
  rw [List.getElem?_append] at hx
  split at hx
  ·exact h3 i x hx
  ·rename_i hi
   have : i - es.length = 0 := by
    have := (List.getElem?_eq_some_iff.1 hx).1; simp at this; omega
   rw [this] at hx; simp at hx; subst hx
   rw [show i = n by omega]; exact h4
theorem A60 {G : IM} {q : Nat → List Value → Prop} : ∀ {n : Nat}, (∀ i, i < n → ∃ e t, q i e ∧ D1 G t e ∧ t.nok) → ∃ ts es, ts.length = n ∧ H4 G ts es ∧ Tm.nokL ts ∧ ∀ i e, es[i]? = some e → q i e
 | 0, _ => ⟨[], [], rfl, by simp only [H4], by simp only [Tm.nokL], by simp⟩
 | n + 1, h => by
  obtain ⟨ts, es, h1, h2, hn, h3⟩ := A60 (n := n) fun i hi => h i zV
  obtain ⟨e, t, h4, h5, h6⟩ := h n zV
  refine ⟨ts ++ [t], es ++ [e], by simp [h1], h2.snoc h5, Tm.nokL_snoc hn h6, fun i x hx => ?_⟩
  have hl := h2.len
  rw [List.getElem?_append] at hx
  split at hx
  ·exact h3 i x hx
  ·rename_i hi
   have : i - es.length = 0 := by
    have := (List.getElem?_eq_some_iff.1 hx).1; simp at this; omega
   rw [this] at hx; simp at hx; subst hx
   rw [show i = n by omega]; exact h4
theorem C8.mk' {G : IM} {p : Option Addr} {n c sz : Nat} {es : List (List Value)} (h : Sl G p n c sz es.flatten) (hl : es.length = n) (ha : ∀ e ∈ es, e.length = sz ∧ e.all (·.oneCell') = true) : C8 G p n c sz es := ⟨h, hl, fun e he => (ha e he).1, fun e he => (ha e he).2⟩
theorem F4.each {G : IM} {ts : List Ty} {es : List (List Value)} (h : F4 G ts es) : ∀ e ∈ es, e.length = 2 ∧ e.all (·.oneCell') = true := by
 intro e he
 obtain ⟨i, hi⟩ := List.getElem?_of_mem he
 have := (h.inv hi C6).2
 exact ⟨this.len, this.one⟩
theorem H4.each {G : IM} {ts : List Tm} {es : List (List Value)} (h : H4 G ts es) : ∀ e ∈ es, e.length = 9 ∧ e.all (·.oneCell') = true := by
 intro e he
 obtain ⟨i, hi⟩ := List.getElem?_of_mem he
 have := (h.inv hi (.mk 0 ⟨#[]⟩ 0 C6 C6 0 [])).2
 exact ⟨this.len, this.one⟩
theorem A09 {n : Int} (h : (Lit.int .i64 n).wf = true) : F9 n := by
 simpa [Lit.wf, IntKind.min, IntKind.max, IntKind.signed, IntKind.bits, F9] using h
section read
variable {H : Type} {enc : TypeId × Value → H} {w : World} {sp : Nat → Bool} {held : Bool}
theorem A5a : Tryz.prog.cellsOf 41 = 2 := by kernel_rfl
theorem A61 : Tryz.prog.cellsOf 44 = 9 := by kernel_rfl
theorem A62 : Tryz.prog.cellsOf 3 = 1 := by kernel_rfl
theorem B1a : Tryz.prog.cellsOf 9 = 1 := by kernel_rfl
theorem B1b : Tryz.prog.cellsOf 39 = 1 := by kernel_rfl
theorem B1c : Tryz.prog.cellsOf 42 = 1 := by kernel_rfl
theorem A1a {α : Type} {xs : List α} {i : Nat} (h : i < xs.length) : ∃ y, xs[i]? = some y := ⟨_, List.getElem?_eq_getElem h⟩
theorem A63 : ∀ (n : Nat) (cs : List Value) (x : DataW H × List MemPlace), DataW.trod enc Tryz.prog w 0 sp held n 41 cs = some x → ∃ t, C7 (GW w) t cs := by
 intro n
 induction n using Nat.strongRecOn with
 | _ n ih =>
 intro cs x h
 obtain ⟨xs, m, rfl, _, hl, hxl, hf⟩ := DataW.trod_struct Tryz.underlying41 h
 rw [A5a] at hl
 match cs, hl with
 | [a, b], _ =>
 obtain ⟨y0, e0⟩ := A1a (xs := xs) (i := 0) (by simp [hxl])
 obtain ⟨y1, e1⟩ := A1a (xs := xs) (i := 1) (by simp [hxl])
 have h0 := hf 0 _ rfl
 have h1 := hf 1 _ rfl
 rw [e0] at h0
 rw [e1] at h1
 simp only [List.getElem_toArray, List.getElem_cons_zero, List.getElem_cons_succ] at h0 h1
 simp only [A62, B1b, List.drop, List.take] at h0 h1
 obtain ⟨k, hk, _, hwf⟩ := DataW.trod_int Tryz.underlying3 h0
 simp only [List.cons.injEq, and_true] at hk
 subst hk
 rcases DataW.trod_slice Tryz.underlying39 h1 with ⟨hb, _⟩ | ⟨ad, len, cap, elems, rest, n', rfl, hb, _, _, hlc, hcm, hel, hele, _, _⟩
 ·simp only [List.cons.injEq, and_true] at hb
  subst hb
  exact ⟨.mk k [], by simp only [C7]; exact ⟨none, 0, [], rfl, A09 hwf, C8.nil _ _, by simp only [F4]⟩⟩
 ·simp only [List.cons.injEq, and_true] at hb
  subst hb
  rw [A5a] at hele
  obtain ⟨ts, es, t1, t2, t3⟩ := A6Z (G := GW w) (q := fun i e => w.cells? 0 (ad.add (i * 2)) 2 = some e) (n := len) fun i hi => by
   have := hele i hi
   rw [List.getElem?_eq_getElem zV] at this
   obtain ⟨cs', c1, c2⟩ := Option.bind_eq_some_iff.1 this
   obtain ⟨t, ht⟩ := ih n' zV cs' _ c2
   exact ⟨cs', t, c1, ht⟩
  subst t1
  refine ⟨.mk k ts, ?_⟩
  simp only [C7]
  exact ⟨some ad, cap, es, rfl, A09 hwf, C8.mk' (A6Y t2.len zV hlc hcm t3) t2.len t2.each, t2⟩
theorem B1d : ∀ (n : Nat) (cs : List Value) (x : DataW H × List MemPlace), DataW.trod enc Tryz.prog w 0 sp held n 44 cs = some x → ∃ t, D1 (GW w) t cs ∧ t.nok := by
 intro n
 induction n using Nat.strongRecOn with
 | _ n ih =>
 intro cs x h
 obtain ⟨xs, m, rfl, _, hl, hxl, hf⟩ := DataW.trod_struct Tryz.underlying44 h
 rw [A61] at hl
 match cs, hl with
 | [a0, a1, a2, a3, a4, a5, a6, a7, a8], _ =>
 obtain ⟨y0, e0⟩ := A1a (xs := xs) (i := 0) (by simp [hxl])
 obtain ⟨y1, e1⟩ := A1a (xs := xs) (i := 1) (by simp [hxl])
 obtain ⟨y2, e2⟩ := A1a (xs := xs) (i := 2) (by simp [hxl])
 obtain ⟨y3, e3⟩ := A1a (xs := xs) (i := 3) (by simp [hxl])
 obtain ⟨y4, e4⟩ := A1a (xs := xs) (i := 4) (by simp [hxl])
 obtain ⟨y5, e5⟩ := A1a (xs := xs) (i := 5) (by simp [hxl])
 obtain ⟨y6, e6⟩ := A1a (xs := xs) (i := 6) (by simp [hxl])
 have h0 := hf 0 _ rfl
 have h1 := hf 1 _ rfl
 have h2 := hf 2 _ rfl
 have h3 := hf 3 _ rfl
 have h4 := hf 4 _ rfl
 have h5 := hf 5 _ rfl
 have h6 := hf 6 _ rfl
 rw [e0] at h0
 rw [e1] at h1
 rw [e2] at h2
 rw [e3] at h3
 rw [e4] at h4
 rw [e5] at h5
 rw [e6] at h6
 simp only [List.getElem_toArray, List.getElem_cons_zero, List.getElem_cons_succ] at h0 h1 h2 h3 h4 h5 h6
 simp only [A62, B1a, A5a, B1c, List.drop, List.take] at h0 h1 h2 h3 h4 h5 h6
 obtain ⟨k, hk, _, hwk⟩ := DataW.trod_int Tryz.underlying3 h0
 obtain ⟨nm, hnm, _, hsz⟩ := DataW.trod_string Tryz.underlying9 h1
 obtain ⟨num, hnum, _, hwn⟩ := DataW.trod_int Tryz.underlying3 h2
 obtain ⟨ty, hty⟩ := A63 _ _ _ h3
 obtain ⟨fr, hfr⟩ := A63 _ _ _ h4
 obtain ⟨lb, hlb, _, hwl⟩ := DataW.trod_int Tryz.underlying3 h5
 simp only [List.cons.injEq, and_true] at hk hnm hnum hlb
 subst hk hnm hnum hlb
 have hsz' : nm.size ≤ 9223372036854775807 := by unfold maxLen at hsz; omega
 rcases DataW.trod_slice Tryz.underlying42 h6 with ⟨hb, _⟩ | ⟨ad, len, cap, elems, rest, n', rfl, hb, _, _, hlc, hcm, hel, hele, _, _⟩
 ·simp only [List.cons.injEq, and_true] at hb
  subst hb
  refine ⟨.mk k nm num ty fr lb [], ?_, by simp only [Tm.nok, Tm.nokL]; exact ⟨hsz', trivial⟩⟩
  simp only [D1]
  exact ⟨[a3, a4], [a5, a6], none, 0, [], rfl, A09 hwk, A09 hwn, A09 hwl, hty, hfr, C8.nil _ _, by simp only [H4]⟩
 ·simp only [List.cons.injEq, and_true] at hb
  subst hb
  rw [A61] at hele
  obtain ⟨ts, es, t1, t2, t4, t3⟩ := A60 (G := GW w) (q := fun i e => w.cells? 0 (ad.add (i * 9)) 9 = some e) (n := len) fun i hi => by
   have := hele i hi
   rw [List.getElem?_eq_getElem zV] at this
   obtain ⟨cs', c1, c2⟩ := Option.bind_eq_some_iff.1 this
   obtain ⟨t, ht, hno⟩ := ih n' zV cs' _ c2
   exact ⟨cs', t, c1, ht, hno⟩
  subst t1
  refine ⟨.mk k nm num ty fr lb ts, ?_, by simp only [Tm.nok]; exact ⟨hsz', t4⟩⟩
  simp only [D1]
  exact ⟨[a3, a4], [a5, a6], some ad, cap, es, rfl, A09 hwk, A09 hwn, A09 hwl, hty, hfr, C8.mk' (A6Y t2.len zV hlc hcm t3) t2.len t2.each, t2⟩
end read
theorem Y8.below {w w' : World} (h : Y8 (Fp []) w w') : Below w.heap.size w w' := ⟨h.os, h.tape, h.output, h.size, fun k hk => h.block k hk (by simp [Fp])⟩
section post
variable {H : Type} {enc : TypeId × Value → H} {P : Program}
theorem B1e {f : Func} {s : ChangeSpec} {apart fresh handsOn again : Bool} {W W' : World} {args : Array Value} {v : Value} {ds gs : List (DataW H)} {before : List MemPlace}
  (hW : DataW.Whole enc P f.params.toList s.vars apart W args.toList ds gs before) (hb : Below W.heap.size W W') (hgs : s.vars = [])
  (hres : ∀ (b : Nat) (sp : Nat → Bool) (hd : Bool), DataW.TrodAll enc P W' b sp hd f.resultTypes.toList (v.resultList f.resultTypes.size) (s.fn H (ds ++ gs)).results [])
  (hargs : ∀ sp : Nat → Bool, (∀ p ∈ before, sp p.block = true) → DataW.TrodAll enc P W' 0 sp true f.params.toList args.toList (s.fn H (ds ++ gs)).args before)
  (hv : (s.fn H (ds ++ gs)).vars = [])
  (hok : ∀ (j : Nat) (t : TypeId) (r : Value), f.resultTypes[j]? = some t → (v.resultList f.resultTypes.size)[j]? = some r → Value.okWide P W' .any 0 t r) :
  s.post enc P f apart fresh handsOn again W args v W' := by
 have hold : ∀ p ∈ before, (fun b => decide (b < W.heap.size)) p.block = true := fun p hp => by simpa using hW.lt p hp
 have hvars : ∀ sp : Nat → Bool, DataW.TrodVars enc P W' sp s.vars (s.fn H (ds ++ gs)).vars [] := fun sp => by rw [hgs, hv]; rfl
 have hkept : W.keptBut W' (fun _ => False) := by
  refine ⟨hb.os, hb.output, fun i hi => ?_⟩
  rw [hb.block i hi]
  split
  ·rename_i h1 h2; cases h1.symm.trans h2; exact ⟨rfl, rfl, rfl, fun _ _ => rfl⟩
  ·rename_i h1 h2; cases h1.symm.trans h2; exact .inr ⟨rfl, rfl⟩
  ·rfl
 refine ⟨ds, gs, before, [], before, [], hW, hres _ _ _, hargs _ hold, hvars _, World.keptBut_mono (fun p hp => hp.elim) hkept, fun _ => ?_⟩
 obtain ⟨_, _, _, _, _, hz, hn⟩ := hW
 refine ⟨hok, _, _, ([] ++ before) ++ [], ⟨[] ++ before, [], trodAll_append (hargs _ (fun _ _ => rfl)) (hres _ _ _), hvars _, rfl, ?_, ?_⟩, ?_⟩
 ·intro b off hp
  have hp' : MemPlace.cell b off ∈ before := by simpa using hp
  have hlt : b < W.heap.size := of_decide_eq_true (hold _ hp')
  have := hz b off hp'
  unfold World.frozen? at this ⊢
  simp only [hb.block b hlt]
  exact this
 ·intro ha; simpa using hn ha
 ·intro p hp _; simpa using hp
end post
def A0z (G : IM) : Prop := ∃ g, Tryz.prog.globalNamed "internal/strconv.uint64pow10" = some g ∧ G g = some (Lib.pow10Tab.map fun z => Value.int .u64 z)
theorem A0z.mono {G G' : IM} (h : A0z G) (hg : D2 G G') : A0z G' := by
 obtain ⟨g, h1, h2⟩ := h
 exact ⟨g, h1, hg g _ h2⟩
theorem B1f {G : IM} {w : World} (hw : P9 [] G w) (k : Nat) (os : Array Obj) : O5 [] G w [] G (Sort.grow (w.drewN k) os) := by
 have hb : ∀ b, b < w.heap.size → (Sort.grow (w.drewN k) os).heap[b]? = w.heap[b]? := by
  intro b h
  show (w.heap ++ os)[b]? = _
  rw [Array.getElem?_append_left h]
 refine ⟨⟨?_, by simp, by simp [Fp], by simp [Fp]⟩, ⟨rfl, rfl, rfl, ?_, fun b h _ => hb b h⟩, D2.refl _, fun _ _ h => .inl h, by simp [Fp], fun b l h h0 => absurd h (by rw [h0]; simp)⟩
 ·intro b l h
  obtain ⟨e, f, hh⟩ := hw.inn b l h
  exact ⟨e, f, by rw [hb b (A0g hh)]; exact hh⟩
 ·show w.heap.size ≤ (w.heap ++ os).size
  simp
theorem B1g (n : Int) (G : IM) (h : A0z G) (h0 : 0 ≤ n) (h1 : n ≤ 999) : Fn Tryz.prog 124 [.int .i64 n] [] G (F8 (.string ⟨(Lib.decDigits n.toNat).toArray⟩) G) := by
 refine ⟨fun w hw => ?_⟩
 have ht : Lib.TabIs Tryz.prog w "internal/strconv.uint64pow10" .u64 Lib.pow10Tab := by
  obtain ⟨g, hg, hG⟩ := h
  obtain ⟨e, f, hh⟩ := hw.inn g _ hG
  unfold Lib.TabIs World.var?
  rw [hg]
  simp only [Option.bind_some, hh]
 refine (Tryz.strconv_Itoa n zV zV w ht).mono ?_
 rintro e w' ⟨rfl, k, os, rfl⟩
 refine ⟨_, G, [], rfl, B1f hw k os, rfl, ?_, rfl⟩
 unfold Lib.itoa
 rw [if_neg zV]
end Gw
end Go.Proofs.YtmceanphadildaaGreatDoor
namespace Go.Proofs.YtmceanphadildaaGreatDoor
open Go Go.RowKit Go.ChangeShapes Go.WideShapes Go.ChangeAt
namespace Gw
theorem A5b : Tryz.prog.globalNamed "internal/strconv.uint64pow10" = some 0 := by kernel_rfl
theorem B1h : (Tryz.prog.globals[0]?).map (·.type) = some 201 := by kernel_rfl
theorem B1i : Tryz.prog.cellsOf 201 = 20 := by kernel_rfl
theorem B1j : Tryz.prog.cellsOf 194 = 1 := by kernel_rfl
def A64 : List (String × DataW Unit) := [("math/bits.deBruijn32tab", Rows.laid_math_bits_deBruijn32tab), ("math/bits.deBruijn64tab", Rows.laid_math_bits_deBruijn64tab), ("internal/strconv.uint64pow10", Rows.laid_internal_strconv_uint64pow10)]
theorem B1k {W : World} (h : laidMetH Tryz.prog A64 W) : A0z (GW W) := by
 have h1 : laidMet Tryz.prog A64 W := h
 have h3 := h1.tail.tail
 have ht : Lib.TabIs Tryz.prog W "internal/strconv.uint64pow10" .u64 Lib.pow10Tab :=
  Lib.tabIs_of_head (rest := []) A5b B1h Tryz.underlying201 Tryz.underlying194 B1j B1i h3
 refine ⟨0, A5b, ?_⟩
 unfold Lib.TabIs World.var? at ht
 rw [A5b] at ht
 simp only [Option.bind_some] at ht
 unfold GW
 split at ht
 ·rename_i c e f hb
  rw [hb]
  have := Option.some.inj ht
  simp [this]
 ·cases ht
def A5c : DataW Unit → Array Value
 | .agg xs => (xs.map fun | .lit (.int k n) => Value.int k n | _ => .int .i64 0).toArray
 | _ => #[]
def A5d (xs : Array Value) : Obj → Obj
 | .cells _ t f => .cells xs t f
 | o => o
noncomputable def A5e (os : Os) : World :=
 { World.holding Tryz.prog os ⟨#[], #[], []⟩ with heap := (((World.holding Tryz.prog os ⟨#[], #[], []⟩).heap.modify 0 (A5d (A5c Rows.laid_internal_strconv_uint64pow10))).modify 1 (A5d (A5c Rows.laid_math_bits_deBruijn32tab))).modify 2 (A5d (A5c Rows.laid_math_bits_deBruijn64tab)) }
end Gw
end Go.Proofs.YtmceanphadildaaGreatDoor
namespace Go.Proofs.YtmceanphadildaaGreatDoor
namespace Gw
inductive GT where
 | any | int | bool
 | fn (a b : GT)
 | pr (a b : GT)
inductive GE where
 | var (x : ByteArray)
 | num (n : Int)
 | tru (b : Bool)
 | lam (x : ByteArray) (A : GT) (e : GE)
 | app (f a : GE)
 | ar (s : Bool) (a b : GE)
 | ite (c a b : GE)
 | pair (a b : GE)
 | part (s : Bool) (e : GE)
 | cast (A B : GT) (l : Int) (e : GE)
def GT.gr : GT → GT
 | .any => .any
 | .int => .int
 | .bool => .bool
 | .fn _ _ => .fn .any .any
 | .pr _ _ => .pr .any .any
def GT.Gd (t : GT) : Prop := t ≠ .any ∧ t.gr = t
inductive Co : GT → GT → Prop
 | l {b} : Co .any b
 | r {a} : Co a .any
 | int : Co .int .int
 | bool : Co .bool .bool
 | fn {a b a' b'} : Co a a' → Co b b' → Co (.fn a b) (.fn a' b')
 | pr {a b a' b'} : Co a a' → Co b b' → Co (.pr a b) (.pr a' b')
inductive Le : GT → GT → Prop
 | any {a} : Le a .any
 | int : Le .int .int
 | bool : Le .bool .bool
 | fn {a b a' b'} : Le a a' → Le b b' → Le (.fn a b) (.fn a' b')
 | pr {a b a' b'} : Le a a' → Le b b' → Le (.pr a b) (.pr a' b')
theorem Co.symm {a b : GT} (h : Co a b) : Co b a := by
 induction h with
 | l => exact .r
 | r => exact .l
 | int => exact .int
 | bool => exact .bool
 | fn _ _ i j => exact .fn i j
 | pr _ _ i j => exact .pr i j
theorem Co.refl : ∀ {a : GT}, Co a a
 | .any => .l
 | .int => .int
 | .bool => .bool
 | .fn _ _ => .fn Co.refl Co.refl
 | .pr _ _ => .pr Co.refl Co.refl
theorem Le.refl : ∀ {a : GT}, Le a a
 | .any => .any
 | .int => .int
 | .bool => .bool
 | .fn _ _ => .fn Le.refl Le.refl
 | .pr _ _ => .pr Le.refl Le.refl
theorem Co.gr {a : GT} : Co a a.gr := by
 cases a with
 | fn _ _ => exact .fn .r .r
 | pr _ _ => exact .pr .r .r
 | _ => exact Co.refl
def GE.sub : GE → ByteArray → GE → GE
 | .var y, x, v => if y = x then v else .var y
 | .num n, _, _ => .num n
 | .tru b, _, _ => .tru b
 | .lam y A e, x, v => if y = x then .lam y A e else .lam y A (e.sub x v)
 | .app f a, x, v => .app (f.sub x v) (a.sub x v)
 | .ar s a b, x, v => .ar s (a.sub x v) (b.sub x v)
 | .ite c a b, x, v => .ite (c.sub x v) (a.sub x v) (b.sub x v)
 | .pair a b, x, v => .pair (a.sub x v) (b.sub x v)
 | .part s e, x, v => .part s (e.sub x v)
 | .cast A B l e, x, v => .cast A B l (e.sub x v)
inductive GV : GE → Prop
 | num {n} : GV (.num n)
 | tru {b} : GV (.tru b)
 | lam {x A e} : GV (.lam x A e)
 | pair {a b} : GV a → GV b → GV (.pair a b)
 | pf {a b c d l e} : GV e → GV (.cast (.fn a b) (.fn c d) l e)
 | pp {a b c d l e} : GV e → GV (.cast (.pr a b) (.pr c d) l e)
 | inj {A l e} : GV e → A.Gd → GV (.cast A .any l e)
def B1l (s : Bool) (m n : Int) : GE := if s = true then .tru (decide (m < n)) else .num ((m + n) % 1000)
inductive GS : GE → GE → Prop
 | app1 {f f' a} : GS f f' → GS (.app f a) (.app f' a)
 | app2 {f a a'} : GV f → GS a a' → GS (.app f a) (.app f a')
 | ar1 {s a a' b} : GS a a' → GS (.ar s a b) (.ar s a' b)
 | ar2 {s a b b'} : GV a → GS b b' → GS (.ar s a b) (.ar s a b')
 | ite1 {c c' a b} : GS c c' → GS (.ite c a b) (.ite c' a b)
 | pair1 {a a' b} : GS a a' → GS (.pair a b) (.pair a' b)
 | pair2 {a b b'} : GV a → GS b b' → GS (.pair a b) (.pair a b')
 | part1 {s e e'} : GS e e' → GS (.part s e) (.part s e')
 | cast1 {A B l e e'} : GS e e' → GS (.cast A B l e) (.cast A B l e')
 | beta {x A b v} : GV v → GS (.app (.lam x A b) v) (b.sub x v)
 | appx {a b c d l f v} : GV f → GV v → GS (.app (.cast (.fn a b) (.fn c d) l f) v) (.cast b d l (.app f (.cast c a (-l) v)))
 | ar {s m n} : GS (.ar s (.num m) (.num n)) (B1l s m n)
 | ite {b x y} : GS (.ite (.tru b) x y) (if b = true then x else y)
 | part {s a b} : GV a → GV b → GS (.part s (.pair a b)) (if s = true then b else a)
 | partx {s a b c d l e} : GV e → GS (.part s (.cast (.pr a b) (.pr c d) l e)) (.cast (if s = true then b else a) (if s = true then d else c) l (.part s e))
 | cid {A l v} : GV v → (A = .any ∨ A = .int ∨ A = .bool) → GS (.cast A A l v) v
 | up {A l v} : GV v → A ≠ .any → A.gr ≠ A → GS (.cast A .any l v) (.cast A.gr .any l (.cast A A.gr l v))
 | down {B l v} : GV v → B ≠ .any → B.gr ≠ B → GS (.cast .any B l v) (.cast B.gr B l (.cast .any B.gr l v))
 | hit {G l m w} : GV w → G.Gd → GS (.cast .any G l (.cast G .any m w)) w
inductive Ss : GE → GE → Prop
 | refl {e} : Ss e e
 | step {a b c} : GS a b → Ss b c → Ss a c
abbrev GC := ByteArray → Option (GT × GT)
def M9 : GC := fun _ => none
def Y0 (Γ : GC) (x : ByteArray) (A A' : GT) : GC := fun y => if x = y then some (A, A') else Γ y
inductive GP : GC → GE → GE → GT → GT → Prop
 | var {Γ x A A'} : Γ x = some (A, A') → Le A A' → GP Γ (.var x) (.var x) A A'
 | num {Γ n} : GP Γ (.num n) (.num n) .int .int
 | tru {Γ b} : GP Γ (.tru b) (.tru b) .bool .bool
 | lam {Γ x A A' B B' e e'} : Le A A' → GP (Y0 Γ x A A') e e' B B' → GP Γ (.lam x A e) (.lam x A' e') (.fn A B) (.fn A' B')
 | app {Γ f f' a a' A A' B B'} : GP Γ f f' (.fn A B) (.fn A' B') → GP Γ a a' A A' → GP Γ (.app f a) (.app f' a') B B'
 | ar {Γ s a a' b b'} : GP Γ a a' .int .int → GP Γ b b' .int .int → GP Γ (.ar s a b) (.ar s a' b') (if s = true then .bool else .int) (if s = true then .bool else .int)
 | ite {Γ c c' a a' b b' A A'} : GP Γ c c' .bool .bool → GP Γ a a' A A' → GP Γ b b' A A' → GP Γ (.ite c a b) (.ite c' a' b') A A'
 | pair {Γ a a' b b' A A' B B'} : GP Γ a a' A A' → GP Γ b b' B B' → GP Γ (.pair a b) (.pair a' b') (.pr A B) (.pr A' B')
 | part {Γ s e e' A A' B B'} : GP Γ e e' (.pr A B) (.pr A' B') → GP Γ (.part s e) (.part s e') (if s = true then B else A) (if s = true then B' else A')
 | castL {Γ e e' A B A' l} : GP Γ e e' A A' → Co A B → Le B A' → GP Γ (.cast A B l e) e' B A'
 | castR {Γ e e' A A' B' l} : GP Γ e e' A A' → Co A' B' → Le A B' → GP Γ e (.cast A' B' l e') A B'
 | castB {Γ e e' A B A' B' l l'} : GP Γ e e' A A' → Co A B → Co A' B' → Le B B' → GP Γ (.cast A B l e) (.cast A' B' l' e') B B'
inductive GX where
 | n (n : Int) | b (b : Bool) | p | f
def GE.tx : GE → GX
 | .num n => .n n
 | .tru b => .b b
 | .pair _ _ => .p
 | .cast _ (.fn _ _) _ _ => .f
 | .cast _ (.pr _ _) _ _ => .p
 | .cast _ _ _ e => e.tx
 | _ => .f
end Gw
end Go.Proofs.YtmceanphadildaaGreatDoor
namespace Go.Proofs.YtmceanphadildaaGreatDoor
namespace Gw
inductive GK where
 | ida | idi | idb
 | fn (c d : GK)
 | pr (c d : GK)
 | inj (c : GK)
 | prj (l : Int) (c : GK)
 | fl (l t : Int)
def GK.tg : GK → Int
 | .ida => 1
 | .idi => 2
 | .idb => 3
 | .fn _ _ => 4
 | .pr _ _ => 5
 | .inj c => c.tg
 | .prj _ _ => 0
 | .fl _ t => t
def GK.pl : GK → Bool
 | .idi => true
 | .idb => true
 | .fn _ _ => true
 | .pr _ _ => true
 | _ => false
def GK.md : GK → Bool
 | .ida => false
 | .prj _ _ => false
 | _ => true
def cmp : GK → GK → GK
 | .ida, b => b
 | .idi, b => b
 | .idb, b => b
 | .prj l a, b => .prj l (cmp a b)
 | .fl l t, _ => .fl l t
 | .inj a, .prj l d => if a.tg = d.tg then cmp a d else .fl l a.tg
 | .inj a, _ => .inj a
 | .fn c d, .fn c' d' => .fn (cmp c' c) (cmp d d')
 | .fn c d, .inj e => .inj (cmp (.fn c d) e)
 | .fn _ _, b => b
 | .pr c d, .pr c' d' => .pr (cmp c c') (cmp d d')
 | .pr c d, .inj e => .inj (cmp (.pr c d) e)
 | .pr _ _, b => b
termination_by a b => SizeOf.sizeOf a + SizeOf.sizeOf b
def fit : GK → GK → Bool
 | .ida, b => !b.md
 | .prj _ a, b => fit a b
 | .fl _ _, _ => true
 | .inj a, .prj _ d => if a.tg = d.tg then fit a d else true
 | .inj _, .ida => true
 | .inj _, _ => false
 | .idi, .fl _ t => decide (2 = t)
 | .idi, .inj e => fit .idi e
 | .idi, .idi => true
 | .idb, .fl _ t => decide (3 = t)
 | .idb, .inj e => fit .idb e
 | .idb, .idb => true
 | .fn _ _, .fl _ t => decide (4 = t)
 | .fn c d, .inj e => fit (.fn c d) e
 | .fn c d, .fn c' d' => fit c' c && fit d d'
 | .pr _ _, .fl _ t => decide (5 = t)
 | .pr c d, .inj e => fit (.pr c d) e
 | .pr c d, .pr c' d' => fit c c' && fit d d'
 | _, _ => false
termination_by a b => SizeOf.sizeOf a + SizeOf.sizeOf b
theorem A2V (a : GK) : cmp (.inj a) .ida = .inj a := by rw [cmp]; simp
theorem A65 (c d : GK) (l t : Int) : cmp (.fn c d) (.fl l t) = .fl l t := by rw [cmp] <;> simp
theorem A66 (c d : GK) (l t : Int) : cmp (.pr c d) (.fl l t) = .fl l t := by rw [cmp] <;> simp
def GT.tg : GT → Int
 | .any => 1
 | .int => 2
 | .bool => 3
 | .fn _ _ => 4
 | .pr _ _ => 5
inductive CT : GK → GT → GT → Prop
 | ida : CT .ida .any .any
 | idi : CT .idi .int .int
 | idb : CT .idb .bool .bool
 | fn {c d a b a' b'} : CT c a' a → CT d b b' → CT (.fn c d) (.fn a b) (.fn a' b')
 | pr {c d a b a' b'} : CT c a a' → CT d b b' → CT (.pr c d) (.pr a b) (.pr a' b')
 | inj {c A G} : CT c A G → c.pl = true → G.Gd → CT (.inj c) A .any
 | prj {l c G B} : CT c G B → c.md = true → G.Gd → l ≠ 0 → CT (.prj l c) .any B
 | fl {l t A B} : A ≠ .any → A.tg = t → l ≠ 0 → CT (.fl l t) A B
theorem B1m {c : GK} (h : c.pl = true) : c.md = true := by cases c <;> first | rfl | cases h
theorem CT.plg {c : GK} {A B : GT} (h : CT c A B) (hp : c.pl = true) : A ≠ .any ∧ B ≠ .any ∧ A.gr = B.gr ∧ c.tg = A.tg ∧ A.tg = B.tg := by
 cases h with
 | idi => exact ⟨by simp, by simp, rfl, rfl, rfl⟩
 | idb => exact ⟨by simp, by simp, rfl, rfl, rfl⟩
 | fn _ _ => exact ⟨by simp, by simp, rfl, rfl, rfl⟩
 | pr _ _ => exact ⟨by simp, by simp, rfl, rfl, rfl⟩
 | _ => cases hp
theorem CT.src {c : GK} {A B : GT} (h : CT c A B) (hm : c.md = true) : A ≠ .any ∧ c.tg = A.tg := by
 cases h with
 | inj h hp _ => have := h.plg hp; exact ⟨this.1, this.2.2.2.1⟩
 | fl h1 h2 _ => exact ⟨h1, h2.symm⟩
 | idi => exact ⟨by simp, rfl⟩
 | idb => exact ⟨by simp, rfl⟩
 | fn _ _ => exact ⟨by simp, rfl⟩
 | pr _ _ => exact ⟨by simp, rfl⟩
 | _ => cases hm
theorem CT.any {c : GK} {B : GT} (h : CT c .any B) : c.md = false := by
 cases h with
 | ida => rfl
 | prj _ _ _ _ => rfl
 | inj h hp _ => exact absurd rfl (h.plg hp).1
 | fl h _ _ => exact absurd rfl h
theorem CT.mid {c : GK} {A B : GT} (h : CT c A B) (hA : A ≠ .any) : c.md = true := by
 cases h <;> first | rfl | exact absurd rfl hA
theorem A67 {G H : GT} (hG : G.Gd) (hH : H.Gd) (h : G.tg = H.tg) : G = H := by
 rw [← hG.2, ← hH.2]
 cases G <;> cases H <;> first | rfl | (simp [GT.tg] at h)
theorem sz_pos (c : GK) : 0 < SizeOf.sizeOf c := by cases c <;> simp <;> omega
theorem A68 : ∀ (n : Nat) {a b : GK} {A B C : GT}, SizeOf.sizeOf a + SizeOf.sizeOf b ≤ n → CT a A B → CT b B C → fit a b = true ∧ CT (cmp a b) A C ∧ (a.pl = true → b.pl = true → (cmp a b).pl = true) ∧ (a.md = true → (cmp a b).md = true) := by
 intro n
 induction n with
 | zero => intro a b A B C h _ _; have := sz_pos a; have := sz_pos b; omega
 | succ n ih =>
  intro a b A B C hn ha hb
  cases ha with
  | ida => rw [fit, cmp]; exact ⟨by rw [hb.any]; rfl, hb, fun h => (by cases h), fun h => (by cases h)⟩
  | idi =>
   rw [cmp]
   refine ⟨?_, hb, fun _ h => h, fun _ => hb.mid zW⟩
   cases hb with
   | idi => rw [fit]
   | inj h hp hG =>
    rw [fit]
    have := (ih (a := .idi) (by simp at hn ⊢; omega) .idi h).1
    exact this
   | fl _ h _ => rw [fit]; exact decide_eq_true h
  | idb =>
   rw [cmp]
   refine ⟨?_, hb, fun _ h => h, fun _ => hb.mid zW⟩
   cases hb with
   | idb => rw [fit]
   | inj h hp hG =>
    rw [fit]
    have := (ih (a := .idb) (by simp at hn ⊢; omega) .idb h).1
    exact this
   | fl _ h _ => rw [fit]; exact decide_eq_true h
  | prj h hm hG hl =>
   rw [fit, cmp]
   obtain ⟨h1, h2, h3, h4⟩ := ih (by simp at hn ⊢; omega) h hb
   exact ⟨h1, .prj h2 (h4 hm) hG hl, fun h => (by cases h), fun h => (by cases h)⟩
  | fl h1 h2 h3 => rw [fit, cmp]; exact ⟨rfl, .fl h1 h2 h3, fun h => (by cases h), fun _ => rfl⟩
  | @inj c _ G h hp hG =>
   have hb0 := hb.any
   cases hb with
   | ida => rw [fit, A2V]; exact ⟨rfl, .inj h hp hG, fun h => (by cases h), fun _ => rfl⟩
   | @prj l d H _ hd hm hH hl =>
    rw [fit, cmp]
    by_cases ht : c.tg = d.tg
    ·rw [if_pos ht, if_pos ht]
     obtain ⟨p1, p2, p3, p4, p5⟩ := h.plg hp
     obtain ⟨q1, q2⟩ := hd.src hm
     have : G = H := A67 hG hH (by rw [← p5, ← p4, ht, q2])
     subst this
     obtain ⟨h1, h2, h3, h4⟩ := ih (by simp at hn ⊢; omega) h hd
     exact ⟨h1, h2, fun h => (by cases h), fun _ => h4 (B1m hp)⟩
    ·rw [if_neg ht, if_neg ht]
     have := h.plg hp
     exact ⟨rfl, .fl this.1 this.2.2.2.1.symm hl, fun h => (by cases h), fun _ => rfl⟩
   | inj _ _ _ => cases hb0
   | fl _ _ _ => cases hb0
  | @fn c d a b a' b' hc hd =>
   cases hb with
   | @fn c' d' _ _ a2 b2 hc' hd' =>
    rw [fit, cmp]
    obtain ⟨h1, h2, _, _⟩ := ih (a := c') (b := c) (by simp at hn ⊢; omega) hc' hc
    obtain ⟨h3, h4, _, _⟩ := ih (a := d) (b := d') (by simp at hn ⊢; omega) hd hd'
    exact ⟨by rw [h1, h3]; rfl, .fn h2 h4, fun _ _ => rfl, fun _ => rfl⟩
   | inj h hp hG =>
    rw [fit, cmp]
    obtain ⟨h1, h2, h3, h4⟩ := ih (by simp at hn ⊢; omega) (CT.fn hc hd) h
    exact ⟨h1, .inj h2 (h3 rfl hp) hG, fun _ h => (by cases h), fun _ => rfl⟩
   | fl h1 h2 h3 => rw [fit, A65]; exact ⟨decide_eq_true h2, .fl zW h2 h3, fun _ h => (by cases h), fun _ => rfl⟩
  | @pr c d a b a' b' hc hd =>
   cases hb with
   | @pr c' d' _ _ a2 b2 hc' hd' =>
    rw [fit, cmp]
    obtain ⟨h1, h2, _, _⟩ := ih (a := c) (b := c') (by simp at hn ⊢; omega) hc hc'
    obtain ⟨h3, h4, _, _⟩ := ih (a := d) (b := d') (by simp at hn ⊢; omega) hd hd'
    exact ⟨by rw [h1, h3]; rfl, .pr h2 h4, fun _ _ => rfl, fun _ => rfl⟩
   | inj h hp hG =>
    rw [fit, cmp]
    obtain ⟨h1, h2, h3, h4⟩ := ih (by simp at hn ⊢; omega) (CT.pr hc hd) h
    exact ⟨h1, .inj h2 (h3 rfl hp) hG, fun _ h => (by cases h), fun _ => rfl⟩
   | fl h1 h2 h3 => rw [fit, A66]; exact ⟨decide_eq_true h2, .fl zW h2 h3, fun _ h => (by cases h), fun _ => rfl⟩
theorem CT.cmp {a b : GK} {A B C : GT} (ha : CT a A B) (hb : CT b B C) : CT (cmp a b) A C := (A68 _ (Nat.le_refl _) ha hb).2.1
theorem CT.fit {a b : GK} {A B C : GT} (ha : CT a A B) (hb : CT b B C) : fit a b = true := (A68 _ (Nat.le_refl _) ha hb).1
theorem A2W {a : GK} {l t : Int} (h : a.pl = true) : Gw.cmp a (.fl l t) = .fl l t := by
 cases a with
 | idi => rw [Gw.cmp]
 | idb => rw [Gw.cmp]
 | fn _ _ => exact A65 _ _ _ _
 | pr _ _ => exact A66 _ _ _ _
 | _ => cases h
theorem A2k {a d : GK} (h : a.pl = true) : Gw.cmp a (.inj d) = .inj (Gw.cmp a d) := by
 cases a with
 | idi => rw [Gw.cmp, Gw.cmp]
 | idb => rw [Gw.cmp, Gw.cmp]
 | fn _ _ => rw [Gw.cmp]
 | pr _ _ => rw [Gw.cmp]
 | _ => cases h
mutual
def V9 : GT → Int → GK
 | .any, _ => .ida
 | .int, _ => .inj .idi
 | .bool, _ => .inj .idb
 | .fn a b, l => .inj (.fn (U2 a (-l)) (V9 b l))
 | .pr a b, l => .inj (.pr (V9 a l) (V9 b l))
def U2 : GT → Int → GK
 | .any, _ => .ida
 | .int, l => .prj l .idi
 | .bool, l => .prj l .idb
 | .fn a b, l => .prj l (.fn (V9 a (-l)) (U2 b l))
 | .pr a b, l => .prj l (.pr (U2 a l) (U2 b l))
end
def kc : GT → GT → Int → GK
 | .any, B, l => U2 B l
 | A, .any, l => V9 A l
 | .int, _, _ => .idi
 | .bool, _, _ => .idb
 | .fn a b, .fn c d, l => .fn (kc c a (-l)) (kc b d l)
 | .pr a b, .pr c d, l => .pr (kc a c l) (kc b d l)
 | _, _, _ => .ida
termination_by A B => SizeOf.sizeOf A + SizeOf.sizeOf B
theorem A69 : GT.int.Gd := ⟨by simp, rfl⟩
theorem A7a : GT.bool.Gd := ⟨by simp, rfl⟩
theorem A7b : (GT.fn .any .any).Gd := ⟨by simp, rfl⟩
theorem A7c : (GT.pr .any .any).Gd := ⟨by simp, rfl⟩
mutual
theorem A2l : ∀ (A : GT) (l : Int), l ≠ 0 → CT (V9 A l) A .any
 | .any, l, _ => by rw [V9]; exact .ida
 | .int, l, _ => by rw [V9]; exact .inj .idi rfl A69
 | .bool, l, _ => by rw [V9]; exact .inj .idb rfl A7a
 | .fn a b, l, h => by rw [V9]; exact .inj (.fn (A2m a (-l) zV) (A2l b l h)) rfl A7b
 | .pr a b, l, h => by rw [V9]; exact .inj (.pr (A2l a l h) (A2l b l h)) rfl A7c
theorem A2m : ∀ (A : GT) (l : Int), l ≠ 0 → CT (U2 A l) .any A
 | .any, l, _ => by rw [U2]; exact .ida
 | .int, l, h => by rw [U2]; exact .prj .idi rfl A69 h
 | .bool, l, h => by rw [U2]; exact .prj .idb rfl A7a h
 | .fn a b, l, h => by rw [U2]; exact .prj (.fn (A2l a (-l) zV) (A2m b l h)) rfl A7b h
 | .pr a b, l, h => by rw [U2]; exact .prj (.pr (A2m a l h) (A2m b l h)) rfl A7c h
end
theorem A1b (B : GT) (l : Int) : kc .any B l = U2 B l := by rw [kc]
theorem A1Q (A : GT) (l : Int) : kc A .any l = V9 A l := by cases A <;> first | (rw [kc, U2, V9]; done) | rw [kc] <;> simp
theorem A1R (a b c d : GT) (l : Int) : kc (.fn a b) (.fn c d) l = .fn (kc c a (-l)) (kc b d l) := by rw [kc]
theorem A1S (a b c d : GT) (l : Int) : kc (.pr a b) (.pr c d) l = .pr (kc a c l) (kc b d l) := by rw [kc]
theorem A3I (l : Int) : kc .int .int l = .idi := by rw [kc]; simp
theorem A3J (l : Int) : kc .bool .bool l = .idb := by rw [kc]; simp
theorem B1n {A B : GT} (h : Co A B) : ∀ (l : Int), l ≠ 0 → CT (kc A B l) A B ∧ CT (kc B A l) B A := by
 induction h with
 | l => intro l h; rw [A1b, A1Q]; exact ⟨A2m _ l h, A2l _ l h⟩
 | r => intro l h; rw [A1b, A1Q]; exact ⟨A2l _ l h, A2m _ l h⟩
 | int => intro l _; rw [A3I]; exact ⟨.idi, .idi⟩
 | bool => intro l _; rw [A3J]; exact ⟨.idb, .idb⟩
 | fn h1 h2 i j =>
  intro l h
  rw [A1R, A1R]
  exact ⟨.fn (i (-l) zV).2 (j l h).1, .fn (i (-l) zV).1 (j l h).2⟩
 | pr _ _ i j => intro l h; rw [A1S, A1S]; exact ⟨.pr (i l h).1 (j l h).1, .pr (i l h).2 (j l h).2⟩
theorem B1o {A B : GT} (h : Co A B) (l : Int) (hl : l ≠ 0) : CT (kc A B l) A B := (B1n h l hl).1
end Gw
end Go.Proofs.YtmceanphadildaaGreatDoor
namespace Go.Proofs.YtmceanphadildaaGreatDoor
namespace Gw
inductive TH where
 | var (x : ByteArray)
 | num (n : Int)
 | tru (b : Bool)
 | lam (x : ByteArray) (A : GT) (e : TH)
 | app (f a : TH)
 | ar (s : Bool) (a b : TH)
 | ite (c a b : TH)
 | pair (a b : TH)
 | part (s : Bool) (e : TH)
 | conv (c : GK) (e : TH)
def TH.sub : TH → ByteArray → TH → TH
 | .var y, x, v => if y = x then v else .var y
 | .num n, _, _ => .num n
 | .tru b, _, _ => .tru b
 | .lam y A e, x, v => if y = x then .lam y A e else .lam y A (e.sub x v)
 | .app f a, x, v => .app (f.sub x v) (a.sub x v)
 | .ar s a b, x, v => .ar s (a.sub x v) (b.sub x v)
 | .ite c a b, x, v => .ite (c.sub x v) (a.sub x v) (b.sub x v)
 | .pair a b, x, v => .pair (a.sub x v) (b.sub x v)
 | .part s e, x, v => .part s (e.sub x v)
 | .conv c e, x, v => .conv c (e.sub x v)
def GK.vl : GK → Bool
 | .inj _ => true
 | .fn _ _ => true
 | .pr _ _ => true
 | _ => false
mutual
def TH.pln : TH → Bool
 | .var _ => false
 | .num _ => true
 | .tru _ => true
 | .lam _ _ _ => true
 | .app _ _ => false
 | .ar _ _ _ => false
 | .ite _ _ _ => false
 | .pair a b => a.val && b.val
 | .part _ _ => false
 | .conv _ _ => false
def TH.val : TH → Bool
 | .var _ => false
 | .num _ => true
 | .tru _ => true
 | .lam _ _ _ => true
 | .app _ _ => false
 | .ar _ _ _ => false
 | .ite _ _ _ => false
 | .pair a b => a.val && b.val
 | .part _ _ => false
 | .conv c e => c.vl && e.pln
end
def TH.cnv : TH → Bool
 | .conv _ _ => true
 | _ => false
theorem B1p {t : TH} (h : t.pln = true) : t.val = true := by
 cases t <;> first | rfl | (rw [TH.pln] at h; rw [TH.val]; exact h) | (rw [TH.pln] at h; cases h)
theorem A1T {t : TH} (h : t.val = true) (hc : t.cnv = false) : t.pln = true := by
 cases t <;> first | rfl | (rw [TH.val] at h; rw [TH.pln]; exact h) | (rw [TH.val] at h; cases h) | cases hc
def arT (s : Bool) (m n : Int) : TH := if s = true then .tru (decide (m < n)) else .num ((m + n) % 1000)
abbrev V2 := TH × Int × Int
def TH.nul : TH := .num 0
def S9 (C : TH → TH) (r : V2) : V2 := (C r.1, r.2.1, r.2.2)
def plS (e : TH) : GK → V2
 | .ida => (e, 1, 0)
 | .idi => (e, 1, 0)
 | .idb => (e, 1, 0)
 | .fl l _ => (.nul, 2, l)
 | _ => (.nul, 3, 0)
def cvS (c : GK) : TH → V2 → V2
 | .conv c0 u, _ => if fit c0 c = true then (.conv (cmp c0 c) u, 1, 0) else (.nul, 3, 0)
 | e, r => if e.pln = false then S9 (fun x => .conv c x) r else plS e c
theorem T6 {c : GK} {e : TH} {r : V2} (h : e.cnv = false) : cvS c e r = if e.pln = false then S9 (fun x => .conv c x) r else plS e c := by
 cases e <;> first | rfl | cases h
theorem A5f {c c0 : GK} {u : TH} {r : V2} (h : fit c0 c = true) : cvS c (.conv c0 u) r = (.conv (cmp c0 c) u, 1, 0) := if_pos h
def apS (a : TH) : TH → V2
 | .lam x _ b => (b.sub x a, 1, 0)
 | .conv (.fn c d) (.lam x A b) => (.conv d (.app (.lam x A b) (.conv c a)), 1, 0)
 | _ => (.nul, 3, 0)
def arS (s : Bool) : TH → TH → V2
 | .num m, .num n => (arT s m n, 1, 0)
 | _, _ => (.nul, 3, 0)
def itS (a b : TH) : TH → V2
 | .tru s => (if s = true then a else b, 1, 0)
 | _ => (.nul, 3, 0)
def ptS (s : Bool) : TH → V2
 | .pair a b => (if s = true then b else a, 1, 0)
 | .conv (.pr c d) (.pair a b) => (.conv (if s = true then d else c) (.part s (.pair a b)), 1, 0)
 | _ => (.nul, 3, 0)
def TH.stp : TH → V2
 | .app f a => if f.val = false then S9 (fun x => .app x a) f.stp else if a.val = false then S9 (fun x => .app f x) a.stp else apS a f
 | .ar s a b => if a.val = false then S9 (fun x => .ar s x b) a.stp else if b.val = false then S9 (fun x => .ar s a x) b.stp else arS s a b
 | .ite c a b => if c.val = false then S9 (fun x => .ite x a b) c.stp else itS a b c
 | .pair a b => if a.val = false then S9 (fun x => .pair x b) a.stp else S9 (fun x => .pair a x) b.stp
 | .part s e => if e.val = false then S9 (fun x => .part s x) e.stp else ptS s e
 | .conv c e => cvS c e e.stp
 | .var _ => (.nul, 3, 0)
 | .num _ => (.nul, 3, 0)
 | .tru _ => (.nul, 3, 0)
 | .lam _ _ _ => (.nul, 3, 0)
def A7d (s : Bool) : GT := if s = true then .bool else .int
inductive ST : GC → TH → GT → Prop
 | var {Γ x A} : Γ x = some (A, A) → ST Γ (.var x) A
 | num {Γ n} : ST Γ (.num n) .int
 | tru {Γ b} : ST Γ (.tru b) .bool
 | lam {Γ x A B e} : ST (Y0 Γ x A A) e B → ST Γ (.lam x A e) (.fn A B)
 | app {Γ f a A B} : ST Γ f (.fn A B) → ST Γ a A → ST Γ (.app f a) B
 | ar {Γ s a b T} : ST Γ a .int → ST Γ b .int → T = A7d s → ST Γ (.ar s a b) T
 | ite {Γ c a b A} : ST Γ c .bool → ST Γ a A → ST Γ b A → ST Γ (.ite c a b) A
 | pair {Γ a b A B} : ST Γ a A → ST Γ b B → ST Γ (.pair a b) (.pr A B)
 | part {Γ s e A B T} : ST Γ e (.pr A B) → T = (if s = true then B else A) → ST Γ (.part s e) T
 | conv {Γ c e A B} : ST Γ e A → CT c A B → ST Γ (.conv c e) B
theorem ST.weak {Γ : GC} {e : TH} {A : GT} (h : ST Γ e A) : ∀ {Δ : GC}, (∀ y p, Γ y = some p → Δ y = some p) → ST Δ e A := by
 induction h with
 | var h => intro Δ hD; exact .var (hD _ _ h)
 | num => intro _ _; exact .num
 | tru => intro _ _; exact .tru
 | lam _ i =>
  intro Δ hD
  refine .lam (i fun z p hz => ?_)
  unfold Y0 at hz ⊢
  split
  ·rename_i h2; rw [if_pos h2] at hz; exact hz
  ·rename_i h2; rw [if_neg h2] at hz; exact hD z p hz
 | app _ _ i j => intro Δ hD; exact .app (i hD) (j hD)
 | ar _ _ hT i j => intro Δ hD; exact .ar (i hD) (j hD) hT
 | ite _ _ _ i j k => intro Δ hD; exact .ite (i hD) (j hD) (k hD)
 | pair _ _ i j => intro Δ hD; exact .pair (i hD) (j hD)
 | part _ hT i => intro Δ hD; exact .part (i hD) hT
 | conv _ c i => intro Δ hD; exact .conv (i hD) c
theorem ST.sub {x : ByteArray} {v : TH} {A : GT} (hv : ST M9 v A) {Γ : GC} {e : TH} {B : GT} (h : ST Γ e B) :
  ∀ {Δ : GC}, (∀ y, x ≠ y → Γ y = Δ y) → Γ x = some (A, A) → ST Δ (e.sub x v) B := by
 induction h with
 | @var Γ y C hy =>
  intro Δ hD hx
  simp only [TH.sub]
  split
  ·rename_i he
   subst he
   rw [hx] at hy
   cases hy
   exact hv.weak fun z p hz => by cases hz
  ·rename_i he
   exact .var (by rw [← hD y (fun e => he e.symm)]; exact hy)
 | num => intro _ _ _; exact .num
 | tru => intro _ _ _; exact .tru
 | @lam Γ y C D e h i =>
  intro Δ hD hx
  simp only [TH.sub]
  by_cases he : y = x
  ·rw [if_pos he]
   refine .lam (h.weak fun z p hz => ?_)
   unfold Y0 at hz ⊢
   split
   ·rename_i h2; rw [if_pos h2] at hz; exact hz
   ·rename_i h2; rw [if_neg h2] at hz; rw [← hD z (fun e => h2 (he.trans e))]; exact hz
  ·rw [if_neg he]
   refine .lam (i (fun z hz => ?_) ?_)
   ·unfold Y0
    split
    ·rfl
    ·exact hD z hz
   ·unfold Y0; rw [if_neg he]; exact hx
 | app _ _ i j => intro Δ hD hx; exact .app (i hD hx) (j hD hx)
 | ar _ _ hT i j => intro Δ hD hx; exact .ar (i hD hx) (j hD hx) hT
 | ite _ _ _ i j k => intro Δ hD hx; exact .ite (i hD hx) (j hD hx) (k hD hx)
 | pair _ _ i j => intro Δ hD hx; exact .pair (i hD hx) (j hD hx)
 | part _ hT i => intro Δ hD hx; exact .part (i hD hx) hT
 | conv _ c i => intro Δ hD hx; exact .conv (i hD hx) c
theorem A7e {u : TH} {A : GT} (h : ST M9 u A) (hp : u.pln = true) : A ≠ .any := by
 cases h <;> first | (simp; done) | (rw [TH.pln] at hp; cases hp)
theorem B1q {u : TH} (h : ST M9 u .int) (hp : u.pln = true) : ∃ n, u = .num n := by
 cases h <;> first | exact ⟨_, rfl⟩ | (rw [TH.pln] at hp; cases hp)
theorem B1r {u : TH} (h : ST M9 u .bool) (hp : u.pln = true) : ∃ n, u = .tru n := by
 cases h <;> first | exact ⟨_, rfl⟩ | (rw [TH.pln] at hp; cases hp)
theorem A7f {u : TH} {A B : GT} (h : ST M9 u (.fn A B)) (hp : u.pln = true) : ∃ x e, u = .lam x A e ∧ ST (Y0 M9 x A A) e B := by
 cases h <;> first | exact ⟨_, _, rfl, by assumption⟩ | (rw [TH.pln] at hp; cases hp)
theorem A7g {u : TH} {A B : GT} (h : ST M9 u (.pr A B)) (hp : u.pln = true) : ∃ a b, u = .pair a b ∧ a.val = true ∧ b.val = true ∧ ST M9 a A ∧ ST M9 b B := by
 cases h <;> first | (rw [TH.pln, Bool.and_eq_true] at hp; exact ⟨_, _, rfl, hp.1, hp.2, by assumption, by assumption⟩) | (rw [TH.pln] at hp; cases hp)
theorem A7h {c : GK} {A B : GT} (h : CT c A B) (hv : c.vl = true) : B ≠ .int ∧ B ≠ .bool := by
 cases h <;> first | (cases hv; done) | (exact ⟨by simp, by simp⟩)
theorem A3K {v : TH} (h : ST M9 v .int) (hv : v.val = true) : ∃ n, v = .num n := by
 by_cases hc : v.cnv = false
 ·exact B1q h (A1T hv hc)
 ·cases h with
  | conv hu hk =>
   rw [TH.val, Bool.and_eq_true] at hv
   exact absurd rfl (A7h hk hv.1).1
  | _ => exact absurd rfl hc
theorem A7i {v : TH} (h : ST M9 v .bool) (hv : v.val = true) : ∃ n, v = .tru n := by
 by_cases hc : v.cnv = false
 ·exact B1r h (A1T hv hc)
 ·cases h with
  | conv hu hk =>
   rw [TH.val, Bool.and_eq_true] at hv
   exact absurd rfl (A7h hk hv.1).2
  | _ => exact absurd rfl hc
theorem A7j {v : TH} {A B : GT} (h : ST M9 v (.fn A B)) (hv : v.val = true) : (∃ x e, v = .lam x A e ∧ ST (Y0 M9 x A A) e B) ∨
  ∃ c d x e A' B', v = .conv (.fn c d) (.lam x A' e) ∧ CT c A A' ∧ CT d B' B ∧ ST (Y0 M9 x A' A') e B' := by
 by_cases hc : v.cnv = false
 ·exact .inl (A7f h (A1T hv hc))
 ·cases h with
  | @conv _ c u C _ hu hk =>
   rw [TH.val, Bool.and_eq_true] at hv
   cases hk with
   | fn h1 h2 =>
    obtain ⟨x, e, rfl, he⟩ := A7f hu hv.2
    exact .inr ⟨_, _, _, _, _, _, rfl, h1, h2, he⟩
   | _ => cases hv.1
  | _ => exact absurd rfl hc
theorem A7k {v : TH} {A B : GT} (h : ST M9 v (.pr A B)) (hv : v.val = true) : (∃ a b, v = .pair a b ∧ a.val = true ∧ b.val = true ∧ ST M9 a A ∧ ST M9 b B) ∨
  ∃ c d a b A' B', v = .conv (.pr c d) (.pair a b) ∧ CT c A' A ∧ CT d B' B ∧ a.val = true ∧ b.val = true ∧ ST M9 a A' ∧ ST M9 b B' := by
 by_cases hc : v.cnv = false
 ·exact .inl (A7g h (A1T hv hc))
 ·cases h with
  | @conv _ c u C _ hu hk =>
   rw [TH.val, Bool.and_eq_true] at hv
   cases hk with
   | pr h1 h2 =>
    obtain ⟨a, b, rfl, h3, h4, h5, h6⟩ := A7g hu hv.2
    exact .inr ⟨_, _, _, _, _, _, rfl, h1, h2, h3, h4, h5, h6⟩
   | _ => cases hv.1
  | _ => exact absurd rfl hc
def A3L (A : GT) (r : V2) : Prop := (r.2.1 = 1 ∧ r.2.2 = 0 ∧ ST M9 r.1 A) ∨ (r.2.1 = 2 ∧ r.2.2 ≠ 0)
theorem A3L.lift {A B : GT} {r : V2} (C : TH → TH) (h : A3L A r) (hC : ∀ t, ST M9 t A → ST M9 (C t) B) : A3L B (S9 C r) := by
 rcases h with ⟨h1, h2, h3⟩ | ⟨h1, h2⟩
 ·exact .inl ⟨h1, h2, hC _ h3⟩
 ·exact .inr ⟨h1, h2⟩
theorem nf {b : Bool} (h : ¬ b = false) : b = true := by cases b <;> first | rfl | exact absurd rfl h
theorem B1s {Γ : GC} {t : TH} {A : GT} (h : ST Γ t A) : Γ = M9 → t.val = false → A3L A t.stp := by
 induction h with
 | var hx => intro hE; subst hE; cases hx
 | num => intro _ hv; cases hv
 | tru => intro _ hv; cases hv
 | lam _ _ => intro _ hv; cases hv
 | @app Γ f a A B hf ha i j =>
  intro hE _
  subst hE
  rw [TH.stp]
  split
  ·rename_i h1; exact (i rfl h1).lift _ fun t ht => .app ht ha
  ·split
   ·rename_i h1; exact (j rfl h1).lift _ fun t ht => .app hf ht
   ·rename_i h1 h2
    rcases A7j hf (nf h1) with ⟨x, e, rfl, he⟩ | ⟨c, d, x, e, A', B', rfl, hc, hd, he⟩
    ·exact .inl ⟨rfl, rfl, ha.sub he (fun y hy => by unfold Y0; rw [if_neg hy]) (by unfold Y0; rw [if_pos rfl])⟩
    ·exact .inl ⟨rfl, rfl, .conv (.app (.lam he) (.conv ha hc)) hd⟩
 | @ar Γ s a b T ha hb hT i j =>
  intro hE _
  subst hE hT
  rw [TH.stp]
  split
  ·rename_i h1; exact (i rfl h1).lift _ fun t ht => (.ar ht hb rfl)
  ·split
   ·rename_i h1; exact (j rfl h1).lift _ fun t ht => (.ar ha ht rfl)
   ·rename_i h1 h2
    obtain ⟨m, rfl⟩ := A3K ha (nf h1)
    obtain ⟨n, rfl⟩ := A3K hb (nf h2)
    refine .inl ⟨rfl, rfl, ?_⟩
    show ST M9 (arT s m n) (A7d s)
    unfold arT
    cases s
    ·exact .num
    ·exact .tru
 | @ite Γ c a b A hc ha hb i _ _ =>
  intro hE _
  subst hE
  rw [TH.stp]
  split
  ·rename_i h1; exact (i rfl h1).lift _ fun t ht => .ite ht ha hb
  ·rename_i h1
   obtain ⟨m, rfl⟩ := A7i hc (nf h1)
   refine .inl ⟨rfl, rfl, ?_⟩
   cases m
   ·exact hb
   ·exact ha
 | @pair Γ a b A B ha hb i j =>
  intro hE hv
  subst hE
  rw [TH.stp]
  split
  ·rename_i h1; exact (i rfl h1).lift _ fun t ht => .pair ht hb
  ·rename_i h1
   refine (j rfl ?_).lift _ fun t ht => .pair ha ht
   rw [TH.val, nf h1, Bool.true_and] at hv
   exact hv
 | @part Γ s e A B T he hT i =>
  intro hE _
  subst hE hT
  rw [TH.stp]
  by_cases h1 : e.val = false
  ·rw [if_pos h1]; exact (i rfl h1).lift _ fun t ht => .part ht rfl
  ·rw [if_neg h1]
   rcases A7k he (nf h1) with ⟨a, b, rfl, _, _, ha, hb⟩ | ⟨c, d, a, b, A', B', rfl, hc, hd, _, _, ha, hb⟩
   ·refine .inl ⟨rfl, rfl, ?_⟩
    cases s
    ·exact ha
    ·exact hb
   ·refine .inl ⟨rfl, rfl, ?_⟩
    have := ST.part (s := s) (ST.pair ha hb) rfl
    cases s
    ·exact .conv this hc
    ·exact .conv this hd
 | @conv Γ c e A B he hc i =>
  intro hE hv
  subst hE
  rw [TH.stp]
  by_cases hcn : e.cnv = false
  ·rw [T6 hcn]
   split
   ·rename_i h1
    refine (i rfl ?_).lift _ fun t ht => .conv ht hc
    cases hv2 : e.val with
    | false => rfl
    | true => rw [A1T hv2 hcn] at h1; cases h1
   ·rename_i h1
    have hp := nf h1
    cases hc with
    | ida => exact absurd rfl (A7e he hp)
    | idi => exact .inl ⟨rfl, rfl, he⟩
    | idb => exact .inl ⟨rfl, rfl, he⟩
    | fl _ _ hl => exact .inr ⟨rfl, hl⟩
    | prj _ _ _ _ => exact absurd rfl (A7e he hp)
    | _ => rw [TH.val] at hv; rw [hp] at hv; cases hv
  ·cases he with
   | conv hu h0 =>
    rw [A5f (h0.fit hc)]
    exact .inl ⟨rfl, rfl, .conv hu (h0.cmp hc)⟩
   | _ => exact absurd rfl hcn
end Gw
end Go.Proofs.YtmceanphadildaaGreatDoor
namespace Go.Proofs.YtmceanphadildaaGreatDoor
namespace Gw
inductive Rs where
 | v (t : TH)
 | b (l : Int)
def fin (u : TH) : GK → Option Rs
 | .ida => some (.v u)
 | .idi => some (.v u)
 | .idb => some (.v u)
 | .fl l _ => some (.b l)
 | .prj _ _ => none
 | .inj c => some (.v (.conv (.inj c) u))
 | .fn c d => some (.v (.conv (.fn c d) u))
 | .pr c d => some (.v (.conv (.pr c d) u))
def A2X (c : GK) : TH → Option Rs
 | .conv c0 u => fin u (cmp c0 c)
 | u => fin u c
def after (d : GK) : Rs → Option Rs
 | .v t => A2X d t
 | .b l => some (.b l)
theorem A3M {Γ : GC} {c : GK} {u : TH} {B : GT} (h : ST Γ (.conv c u) B) : ∃ A, ST Γ u A ∧ CT c A B := by
 cases h with
 | conv h1 h2 => exact ⟨_, h1, h2⟩
inductive K6 : TH → Rs → Prop
 | num {n} : K6 (.num n) (.v (.num n))
 | tru {n} : K6 (.tru n) (.v (.tru n))
 | lam {x A e} : K6 (.lam x A e) (.v (.lam x A e))
 | pair {a b x y} : K6 a (.v x) → K6 b (.v y) → K6 (.pair a b) (.v (.pair x y))
 | pair1 {a b l} : K6 a (.b l) → K6 (.pair a b) (.b l)
 | pair2 {a b x l} : K6 a (.v x) → K6 b (.b l) → K6 (.pair a b) (.b l)
 | conv {c e x r} : K6 e (.v x) → A2X c x = some r → K6 (.conv c e) r
 | conv1 {c e l} : K6 e (.b l) → K6 (.conv c e) (.b l)
 | app {f a x A e w r} : K6 f (.v (.lam x A e)) → K6 a (.v w) → K6 (e.sub x w) r → K6 (.app f a) r
 | appc {f a c d x A e w z r r'} : K6 f (.v (.conv (.fn c d) (.lam x A e))) → K6 a (.v w) → A2X c w = some (.v z) → K6 (e.sub x z) r → after d r = some r' → K6 (.app f a) r'
 | appb {f a c d x A e w l} : K6 f (.v (.conv (.fn c d) (.lam x A e))) → K6 a (.v w) → A2X c w = some (.b l) → K6 (.app f a) (.b l)
 | app1 {f a l} : K6 f (.b l) → K6 (.app f a) (.b l)
 | app2 {f a w l} : K6 f (.v w) → K6 a (.b l) → K6 (.app f a) (.b l)
 | ar {s a b m n} : K6 a (.v (.num m)) → K6 b (.v (.num n)) → K6 (.ar s a b) (.v (arT s m n))
 | ar1 {s a b l} : K6 a (.b l) → K6 (.ar s a b) (.b l)
 | ar2 {s a b w l} : K6 a (.v w) → K6 b (.b l) → K6 (.ar s a b) (.b l)
 | ite {c a b s r} : K6 c (.v (.tru s)) → K6 (if s = true then a else b) r → K6 (.ite c a b) r
 | ite1 {c a b l} : K6 c (.b l) → K6 (.ite c a b) (.b l)
 | part {s e a b r} : K6 e (.v (.pair a b)) → r = .v (if s = true then b else a) → K6 (.part s e) r
 | partc {s e c d a b r} : K6 e (.v (.conv (.pr c d) (.pair a b))) → A2X (if s = true then d else c) (if s = true then b else a) = some r → K6 (.part s e) r
 | part1 {s e l} : K6 e (.b l) → K6 (.part s e) (.b l)
end Gw
end Go.Proofs.YtmceanphadildaaGreatDoor
namespace Go.Proofs.YtmceanphadildaaGreatDoor
namespace Gw
end Gw
end Go.Proofs.YtmceanphadildaaGreatDoor
namespace Go.Proofs.YtmceanphadildaaGreatDoor
namespace Gw
def GK.idn : GK → Bool
 | .ida => true
 | .idi => true
 | .idb => true
 | .fn c d => c.idn && d.idn
 | .pr c d => c.idn && d.idn
 | _ => false
inductive U : TH → TH → Prop
 | var {x} : U (.var x) (.var x)
 | num {n} : U (.num n) (.num n)
 | tru {b} : U (.tru b) (.tru b)
 | lam {x A e e'} : U e e' → U (.lam x A e) (.lam x A e')
 | app {f a f' a'} : U f f' → U a a' → U (.app f a) (.app f' a')
 | ar {s a b a' b'} : U a a' → U b b' → U (.ar s a b) (.ar s a' b')
 | ite {c a b c' a' b'} : U c c' → U a a' → U b b' → U (.ite c a b) (.ite c' a' b')
 | pair {a b a' b'} : U a a' → U b b' → U (.pair a b) (.pair a' b')
 | part {s e e'} : U e e' → U (.part s e) (.part s e')
 | conv {c e e'} : U e e' → U (.conv c e) (.conv c e')
 | mrg {c d e u} : U e (.conv d u) → U (.conv c e) (.conv (cmp d c) u)
 | idn {c e e'} : U e e' → c.idn = true → U (.conv c e) e'
 | back {c d e u} : U e (.conv d u) → (cmp d c).idn = true → U (.conv c e) u
inductive UR : Rs → Rs → Prop
 | v {t t'} : U t t' → UR (.v t) (.v t')
 | b {l} : UR (.b l) (.b l)
theorem B1t {c : GK} {u : TH} (h : (TH.conv c u).val = true) : c.vl = true ∧ u.pln = true := by rw [TH.val, Bool.and_eq_true] at h; exact h
theorem B1u (G : IM) (p : Option Addr) (n c : Nat) (es : List (List Value)) (hsl : C8 G p n c 2 es) (fid : FuncId) [B9 Tryz.prog fid] (us cs : List Value) (ins : List A5) (q : Nat → Bool)
  (hq : ∀ i e, es[i]? = some e → Fn Tryz.prog fid (us ++ [.agg ⟨e⟩] ++ cs) ins G (S0 (.bool (q i)) ins G)) :
  Fn Tryz.prog 191 [.slice p n c, .func (.func fid) ⟨us⟩ ⟨cs⟩] ins G (S0 (.int .i64 (X9 q n)) ins G) := by
 have hn := hsl.le
 refine D5 Tryz.func191 rfl Tryz.ntmps191 Tryz.results191 rfl ?_
 intro w0
 refine G9 ?_
 refine B7 ?_
 refine J3 (fun i : Nat => ⟨[(8, .int .i64 i), (7, .int .i64 n), (1, .func (.func fid) ⟨us⟩ ⟨cs⟩), (0, .slice p n c)], ins, G⟩) (fun i => i ≤ n ∧ ∀ j, j < i → q j = false) (fun i => n - i) 0 ?_ ?_ ?_
 exact E3
 exact ⟨by omega, by omega⟩
 rintro i ⟨hi, hf⟩
 refine A3 ?_
 refine sB (I3 rfl rfl) rfl rfl (fun h21 => ?_) (fun h21 => ?_)
 refine A8 ?_
 refine B7 ?_
 refine E8 ?_
 (obtain ⟨e, b, o, he, rfl, hl, _, hat, _⟩ := hsl.get (i := i) zV; refine sP (A6 rfl rfl rfl zV) rfl rfl ?_)
 refine sL (A2 rfl rfl (hat _) hl) rfl rfl ?_
 refine A4V rfl rfl (hq i e he) A0k rfl rfl (fun h43 => ?_) (fun h43 => ?_)
 refine I9 ?_
 refine S1 (rT rfl) D0.refl ?_
 exact ⟨rfl, by rw [A6w zV hf zS], rfl⟩
 refine A8 ?_
 refine sP (H9 rfl rfl zV zV) rfl rfl ?_
 refine A3 ?_
 refine I6 (i + 1) ?_ ?_ ?_
 exact E3
 exact ⟨by omega, fun j hj => by by_cases hji : j = i; (subst hji; assumption); exact hf j zV⟩
 omega
 refine I9 ?_
 refine S1 (rT rfl) D0.refl ?_
 exact ⟨rfl, by rw [A4Z (fun j hj => hf j zV)], rfl⟩
theorem B1v (G : IM) (p : Option Addr) (n c : Nat) (es : List (List Value)) (hsl : C8 G p n c 2 es) (fid : FuncId) [B9 Tryz.prog fid] (us cs : List Value) (ins : List A5) (q : Nat → Bool)
  (hq : ∀ i e, es[i]? = some e → Fn Tryz.prog fid (us ++ [.agg ⟨e⟩] ++ cs) ins G (S0 (.bool (q i)) ins G)) :
  Fn Tryz.prog 160 [.slice p n c, .func (.func fid) ⟨us⟩ ⟨cs⟩] ins G (S0 (.bool (decide (0 ≤ X9 q n))) ins G) := by
 refine D5 Tryz.func160 rfl Tryz.ntmps160 Tryz.results160 rfl ?_
 intro w0
 refine C2 ?_
 refine A2P rfl (B1u G p n c es hsl fid us cs ins q hq) A0k rfl rfl ?_
 refine sQ (A1p rfl rfl) rfl ?_
 refine C3 ?_
 refine S1 (rT rfl) D0.refl ?_
 exact ⟨rfl, rfl, rfl⟩
theorem A2Y (G : IM) (p : Option Addr) (n c : Nat) (es : List (List Value)) (hsl : C8 G p n c 2 es) (fid : FuncId) [B9 Tryz.prog fid] (us cs : List Value) (ins : List A5) (f : Ty → Bool) (ks : List Ty)
  (hn : ks.length = n) {A : Bool} (hA : ks.all f = A) (hq : ∀ i e, es[i]? = some e → Fn Tryz.prog fid (us ++ [.agg ⟨e⟩] ++ cs) ins G (S0 (.bool (!f (ks.getD i C6))) ins G)) :
  Fn Tryz.prog 160 [.slice p n c, .func (.func fid) ⟨us⟩ ⟨cs⟩] ins G (S0 (.bool (!A)) ins G) := by
 subst hn hA
 rw [← B0E f ks C6]
 exact B1v G p _ c es hsl fid us cs ins _ hq
theorem A7l (G : IM) (p p' : Option Addr) (n c n' c' : Nat) (es es' : List (List Value)) (hsl : C8 G p n c 2 es) (hsl' : C8 G p' n' c' 2 es') (fid : FuncId) [B9 Tryz.prog fid] (us cs : List Value) (ins : List A5) (q : Nat → Bool)
  (A : Bool) (hA : A = true ↔ n = n' ∧ ∀ i, i < n → q i = true)
  (hq : ∀ i e e', es[i]? = some e → es'[i]? = some e' → Fn Tryz.prog fid (us ++ [.agg ⟨e⟩, .agg ⟨e'⟩] ++ cs) ins G (S0 (.bool (q i)) ins G)) :
  Fn Tryz.prog 65 [.slice p n c, .slice p' n' c', .func (.func fid) ⟨us⟩ ⟨cs⟩] ins G (S0 (.bool A) ins G) := by
 have hn := hsl.le
 have hn' := hsl'.le
 refine D5 Tryz.func65 rfl Tryz.ntmps65 Tryz.results65 rfl ?_
 intro w0
 refine K1 ?_
 refine sB (O6 rfl rfl) rfl rfl (fun h13 => ?_) (fun h13 => ?_)
 refine H3 ?_
 refine S1 (outs := ins) (rT rfl) (by first | exact D0.refl | exact D0.drop (D0.drop D0.refl)) ?_
 exact ⟨rfl, by (cases A with | false => rfl | true => exact absurd (hA.1 rfl).1 zV), rfl⟩
 refine G9 ?_
 refine B7 (J3 (fun i : Nat => ⟨[(17, .int .i64 i), (16, .int .i64 n), (15, .slice p n c), (2, .func (.func fid) ⟨us⟩ ⟨cs⟩), (1, .slice p' n' c'), (0, .slice p n c)], ins, G⟩) (fun i => i ≤ n ∧ ∀ j, j < i → q j = true) (fun i => n - i) 0 ?_ ?_ ?_)
 exact E3
 exact ⟨by omega, by omega⟩
 rintro i ⟨hi, hf⟩
 refine A3 ?_
 refine sB (I3 rfl rfl) rfl rfl (fun h46 => ?_) (fun h46 => ?_)
 refine A8 ?_
 refine B7 ?_
 refine B2 ?_
 (obtain ⟨e, b, o, he, rfl, hl, _, hat, _⟩ := hsl.get (i := i) zV; refine sP (A6 rfl rfl rfl zV) rfl rfl ?_)
 refine sL (A2 rfl rfl (hat _) hl) rfl rfl ?_
 refine sE (A4 rfl) rfl (fun b60 => ?_)
 refine I0 ?_
 refine U8 rfl rfl rfl zS zS rfl zN (by exact D7 (by symm; assumption)) ?_
 refine A7 ?_
 (obtain ⟨e', b', o', he', rfl, hl', _, hat', _⟩ := hsl'.get (i := i) zV; refine sP (A6 rfl rfl rfl zV) rfl rfl ?_)
 refine sL (A2 rfl rfl (hat' _) hl') rfl rfl ?_
 refine sE (A4 rfl) rfl (fun b71 => ?_)
 refine U8 rfl rfl rfl zS zS rfl zN (by exact D7 (by symm; assumption)) ?_
 refine A9 ?_
 refine sL (A2 rfl rfl (C9 zO) zS) rfl rfl ?_
 refine sL (A2 rfl rfl (C9 zO) zS) rfl rfl ?_
 refine A4V rfl rfl (hq i e e' he he') B0y rfl rfl (fun h80 => ?_) (fun h80 => ?_)
 refine B4 ?_
 refine sP (H9 rfl rfl zV zV) rfl rfl ?_
 refine A3 ?_
 refine I6 (i + 1) ?_ ?_ ?_
 exact E3
 exact ⟨by omega, fun j hj => by by_cases hji : j = i; (subst hji; assumption); exact hf j zV⟩
 omega
 refine I9 ?_
 refine S1 (outs := ins) (rT rfl) (by first | exact D0.refl | exact D0.drop (D0.drop D0.refl)) ?_
 exact ⟨rfl, by (cases A with | false => rfl | true => have h0 := (hA.1 rfl).2 i zV; simp_all), rfl⟩
 refine I9 ?_
 refine S1 (outs := ins) (rT rfl) (by first | exact D0.refl | exact D0.drop (D0.drop D0.refl)) ?_
 exact ⟨rfl, by rw [hA.2 ⟨by omega, fun j hj => hf j zV⟩], rfl⟩
theorem A0M (n lo hi : Int) (G : IM) : Fn Tryz.prog 66 [.int .i64 n, .int .i64 lo, .int .i64 hi] [] G (F8 (.bool (Q6 n lo hi)) G) := by
 refine D5 Tryz.func66 rfl Tryz.ntmps66 Tryz.results66 rfl ?_
 intro w0
 refine C2 ?_
 refine sB (W8 rfl rfl) rfl rfl (fun h10 => ?_) (fun h10 => ?_)
 refine B2 ?_
 refine sB (W8 rfl rfl) rfl rfl (fun h14 => ?_) (fun h14 => ?_)
 refine A7 ?_
 exact ⟨rfl, by simp [Q6]; omega, rfl⟩
 refine A7 ?_
 exact ⟨rfl, by simp [Q6]; omega, rfl⟩
 refine H3 ?_
 exact ⟨rfl, by simp [Q6]; omega, rfl⟩
theorem A1c (k : Int) (G : IM) : Fn Tryz.prog 112 [.int .i64 k] [] G (F8 (.agg ⟨[.int .i64 k, .slice none 0 0]⟩) G) := by
 refine D5 Tryz.func112 rfl Tryz.ntmps112 Tryz.results112 rfl ?_
 intro w0
 refine A3 ?_
 refine sE (A4 rfl) rfl (fun b3 => ?_)
 refine H3 ?_
 refine I7 (rC rfl (A1 rfl rfl)) ?_
 exact ⟨rfl, rfl, rfl⟩
theorem B1w (n : Int) (G : IM) : Fn Tryz.prog 155 [.int .i64 n] [] G (F8 (.bool (A0b n)) G) := by
 refine D5 Tryz.func155 rfl Tryz.ntmps155 Tryz.results155 rfl ?_
 intro w0
 refine B4 ?_
 refine I5 rfl (A0M _ _ _ _) rfl rfl (fun h9 => ?_) (fun h9 => ?_)
 refine C2 ?_
 exact ⟨rfl, by simp [A0b, *], rfl⟩
 refine A3 ?_
 refine I5 rfl (A0M _ _ _ _) rfl rfl (fun h22 => ?_) (fun h22 => ?_)
 refine A7 ?_
 exact ⟨rfl, by simp [A0b, *], rfl⟩
 refine A7 ?_
 exact ⟨rfl, by simp [A0b, *], rfl⟩
theorem A7m (t : Ty) (G : IM) (cells : List Value) (hr : C7 G t cells) : Fn Tryz.prog 153 [.agg ⟨cells⟩] [] G (F8 (.bool (V0 t)) G) := by
 obtain ⟨p, c, es, rfl, hk, hsl, hkl⟩ := hr.open
 refine D5 Tryz.func153 rfl Tryz.ntmps153 Tryz.results153 rfl ?_
 intro w0
 refine A3 ?_
 refine sE (D8 rfl rfl) rfl (fun b3 => ?_)
 refine A8 ?_
 refine sB (qE rfl rfl) rfl rfl (fun h11 => ?_) (fun h11 => ?_)
 refine C3 ?_
 refine sB (qE rfl rfl) rfl rfl (fun h16 => ?_) (fun h16 => ?_)
 refine A7 ?_
 exact ⟨rfl, by simp only [V0]; (first | rw [decide_eq_true zV] | rw [decide_eq_false zV]), rfl⟩
 refine A7 ?_
 exact ⟨rfl, by simp only [V0]; (first | rw [decide_eq_true zV] | rw [decide_eq_false zV]), rfl⟩
 refine E8 ?_
 exact ⟨rfl, by simp only [V0]; (first | rw [decide_eq_true zV] | rw [decide_eq_false zV]), rfl⟩
theorem B1x (s : ByteArray) (G : IM) : Fn Tryz.prog 152 [.string s] [] G (F8 (.bool (V1 s)) G) := by
 refine D5 Tryz.func152 rfl Tryz.ntmps152 Tryz.results152 rfl ?_
 intro w0
 refine B4 ?_
 refine sQ (A4K rfl rfl) rfl (sB (qE rfl rfl) rfl rfl (fun h10 => ?_) (fun h10 => ?_))
 refine A3 ?_
 refine sP (A3v rfl rfl rfl zV (A3D zV)) rfl rfl ?_
 refine sB (A1p rfl rfl) rfl rfl (fun h14 => ?_) (fun h14 => ?_)
 refine B2 ?_
 refine sP (A3v rfl rfl rfl zV (A3D zV)) rfl rfl ?_
 refine sB (W8 rfl rfl) rfl rfl (fun h19 => ?_) (fun h19 => ?_)
 refine A7 ?_
 exact ⟨rfl, by simp only [V1]; (try simp only [Int.toNat_zero] at *); (first | rw [decide_eq_true zV] | rw [decide_eq_false zV]), rfl⟩
 refine A7 ?_
 exact ⟨rfl, by simp only [V1]; (try simp only [Int.toNat_zero] at *); (first | rw [decide_eq_true zV] | rw [decide_eq_false zV]), rfl⟩
 refine E8 ?_
 exact ⟨rfl, by simp only [V1]; (try simp only [Int.toNat_zero] at *); (first | rw [decide_eq_true zV] | rw [decide_eq_false zV]), rfl⟩
 refine I9 ?_
 exact ⟨rfl, by simp only [V1]; (try simp only [Int.toNat_zero] at *); (first | rw [decide_eq_true zV] | rw [decide_eq_false zV]), rfl⟩
theorem A2Z (G : IM) (e : List Value) (d : Int) (b : Bool) (bd : Nat) (hl : e.length = 2) (hd : 0 ≤ d ∧ d ≤ 5) (h : Fn Tryz.prog 118 [.agg ⟨e⟩, .int .i64 (d + 1)] [] G (F8 (.bool b) G)) :
  Fn Tryz.prog 161 [.agg ⟨e⟩, .pointer (some ⟨bd, 0, none⟩)] [.blk bd [.int .i64 d]] G (S0 (.bool (!b)) [.blk bd [.int .i64 d]] G) := by
 refine D5 Tryz.func161 rfl Tryz.ntmps161 Tryz.results161 rfl ?_
 intro w0
 refine A3 ?_
 refine sE (D8 rfl rfl) rfl (fun b3 => ?_)
 refine A9 ?_
 refine sL (A2 rfl rfl (C9 zO) zS) rfl rfl ?_
 refine I0 ?_
 refine sP (H9 rfl rfl zV zV) rfl rfl ?_
 refine I5 rfl (h) rfl rfl (fun h12 => ?_) (fun h12 => ?_)
 refine A9 ?_
 refine S1 (rT rfl) (D0.cons (Pk.there Pk.here) D0.nil) ?_
 exact ⟨rfl, by simp [*], rfl⟩
 refine A9 ?_
 refine S1 (rT rfl) (D0.cons (Pk.there Pk.here) D0.nil) ?_
 exact ⟨rfl, by simp [*], rfl⟩
theorem B1y : ∀ (t : Ty) (d : Int) (G : IM) (cells : List Value), 0 ≤ d ∧ d ≤ 5 → C7 G t cells →
  Fn Tryz.prog 118 [.agg ⟨cells⟩, .int .i64 d] [] G (F8 (.bool (J6 t d)) G) := by
 refine Ty.ind fun k ks ih d G cells hd hr => ?_
 obtain ⟨p, c, es, rfl, hk, hsl, hkl⟩ := hr.open
 simp only [Ty.k, Ty.ks] at hk hsl hkl ⊢
 have hn := hsl.le
 obtain ⟨A, hA⟩ : ∃ A, ks.all (J6 · (d + 1)) = A := ⟨_, rfl⟩
 refine D5 Tryz.func118 rfl Tryz.ntmps118 Tryz.results118 rfl ?_
 intro w0
 refine A3 ?_
 refine sE (D8 rfl rfl) rfl (fun b3 => ?_)
 (refine F0 (B0f rfl rfl rfl) rfl ?_; rintro _ ⟨b4, rfl⟩)
 refine I9 ?_
 refine B7 (tS (tS (tR (sB (qE rfl rfl) rfl rfl (fun h24 => ?_) (fun h24 => ?_)))))
 refine I9 ?_
 refine sB (W8 rfl rfl) rfl rfl (fun h40 => ?_) (fun h40 => ?_)
 refine A9 ?_
 refine sB (qE rfl rfl) rfl rfl (fun h46 => ?_) (fun h46 => ?_)
 refine C3 ?_
 refine sQ (A2d rfl rfl) rfl (A2Q rfl (A2Y _ _ _ _ _ hsl _ [] _ [.blk b4 [.int .i64 d]] (J6 · (d + 1)) ks rfl hA (fun i e he => A2Z _ _ _ _ _ (hsl.all e (List.mem_of_getElem? he)) hd (ih _ (hkl.inv he C6).1 _ _ _ zV (hkl.inv he C6).2))) A0k rfl rfl (fun h52 => ?_) (fun h52 => ?_))
 simp only [Bool.not_eq_true', Bool.not_eq_false'] at h52
 refine A8 ?_
 exact ⟨rfl, zF, rfl⟩
 simp only [Bool.not_eq_true', Bool.not_eq_false'] at h52
 refine A8 ?_
 exact ⟨rfl, zF, rfl⟩
 refine G9 ?_
 exact ⟨rfl, zF, rfl⟩
 refine Z7 ?_
 exact ⟨rfl, zF, rfl⟩
 refine A7 ?_
 refine sB (qE rfl rfl) rfl rfl (fun h109 => ?_) (fun h109 => ?_)
 refine I9 ?_
 refine sB (W8 rfl rfl) rfl rfl (fun h125 => ?_) (fun h125 => ?_)
 refine A9 ?_
 refine sB (qE rfl rfl) rfl rfl (fun h131 => ?_) (fun h131 => ?_)
 refine C3 ?_
 refine sQ (A2d rfl rfl) rfl (A2Q rfl (A2Y _ _ _ _ _ hsl _ [] _ [.blk b4 [.int .i64 d]] (J6 · (d + 1)) ks rfl hA (fun i e he => A2Z _ _ _ _ _ (hsl.all e (List.mem_of_getElem? he)) hd (ih _ (hkl.inv he C6).1 _ _ _ zV (hkl.inv he C6).2))) A0k rfl rfl (fun h137 => ?_) (fun h137 => ?_))
 simp only [Bool.not_eq_true', Bool.not_eq_false'] at h137
 refine A8 ?_
 exact ⟨rfl, zF, rfl⟩
 simp only [Bool.not_eq_true', Bool.not_eq_false'] at h137
 refine A8 ?_
 exact ⟨rfl, zF, rfl⟩
 refine G9 ?_
 exact ⟨rfl, zF, rfl⟩
 refine Z7 ?_
 exact ⟨rfl, zF, rfl⟩
 refine A9 ?_
 refine sB (qE rfl rfl) rfl rfl (fun h193 => ?_) (fun h193 => ?_)
 refine K1 ?_
 refine sB (W8 rfl rfl) rfl rfl (fun h206 => ?_) (fun h206 => ?_)
 refine A9 ?_
 refine sB (qE rfl rfl) rfl rfl (fun h212 => ?_) (fun h212 => ?_)
 refine C3 ?_
 refine sQ (A2d rfl rfl) rfl (A2Q rfl (A2Y _ _ _ _ _ hsl _ [] _ [.blk b4 [.int .i64 d]] (J6 · (d + 1)) ks rfl hA (fun i e he => A2Z _ _ _ _ _ (hsl.all e (List.mem_of_getElem? he)) hd (ih _ (hkl.inv he C6).1 _ _ _ zV (hkl.inv he C6).2))) A0k rfl rfl (fun h218 => ?_) (fun h218 => ?_))
 simp only [Bool.not_eq_true', Bool.not_eq_false'] at h218
 refine A8 ?_
 exact ⟨rfl, zF, rfl⟩
 simp only [Bool.not_eq_true', Bool.not_eq_false'] at h218
 refine A8 ?_
 exact ⟨rfl, zF, rfl⟩
 refine G9 ?_
 exact ⟨rfl, zF, rfl⟩
 refine Z7 ?_
 exact ⟨rfl, zF, rfl⟩
 refine A8 ?_
 refine sB (qE rfl rfl) rfl rfl (fun h276 => ?_) (fun h276 => ?_)
 refine I9 ?_
 refine sB (W8 rfl rfl) rfl rfl (fun h292 => ?_) (fun h292 => ?_)
 refine A9 ?_
 refine sB (qE rfl rfl) rfl rfl (fun h298 => ?_) (fun h298 => ?_)
 refine C3 ?_
 refine sQ (A2d rfl rfl) rfl (A2Q rfl (A2Y _ _ _ _ _ hsl _ [] _ [.blk b4 [.int .i64 d]] (J6 · (d + 1)) ks rfl hA (fun i e he => A2Z _ _ _ _ _ (hsl.all e (List.mem_of_getElem? he)) hd (ih _ (hkl.inv he C6).1 _ _ _ zV (hkl.inv he C6).2))) A0k rfl rfl (fun h304 => ?_) (fun h304 => ?_))
 simp only [Bool.not_eq_true', Bool.not_eq_false'] at h304
 refine A8 ?_
 exact ⟨rfl, zF, rfl⟩
 simp only [Bool.not_eq_true', Bool.not_eq_false'] at h304
 refine A8 ?_
 exact ⟨rfl, zF, rfl⟩
 refine G9 ?_
 exact ⟨rfl, zF, rfl⟩
 refine Z7 ?_
 exact ⟨rfl, zF, rfl⟩
 refine A9 ?_
 refine sB (qE rfl rfl) rfl rfl (fun h360 => ?_) (fun h360 => ?_)
 refine K1 ?_
 refine sB (W8 rfl rfl) rfl rfl (fun h373 => ?_) (fun h373 => ?_)
 refine A9 ?_
 refine sB (qE rfl rfl) rfl rfl (fun h379 => ?_) (fun h379 => ?_)
 refine C3 ?_
 refine sQ (A2d rfl rfl) rfl (A2Q rfl (A2Y _ _ _ _ _ hsl _ [] _ [.blk b4 [.int .i64 d]] (J6 · (d + 1)) ks rfl hA (fun i e he => A2Z _ _ _ _ _ (hsl.all e (List.mem_of_getElem? he)) hd (ih _ (hkl.inv he C6).1 _ _ _ zV (hkl.inv he C6).2))) A0k rfl rfl (fun h385 => ?_) (fun h385 => ?_))
 simp only [Bool.not_eq_true', Bool.not_eq_false'] at h385
 refine A8 ?_
 exact ⟨rfl, zF, rfl⟩
 simp only [Bool.not_eq_true', Bool.not_eq_false'] at h385
 refine A8 ?_
 exact ⟨rfl, zF, rfl⟩
 refine G9 ?_
 exact ⟨rfl, zF, rfl⟩
 refine Z7 ?_
 exact ⟨rfl, zF, rfl⟩
 refine H3 ?_
 refine sB (W8 rfl rfl) rfl rfl (fun h446 => ?_) (fun h446 => ?_)
 refine A9 ?_
 refine sP (E1 rfl rfl zV) rfl rfl ?_
 refine G9 ?_
 exact ⟨rfl, zF, rfl⟩
 refine Z7 ?_
 exact ⟨rfl, zF, rfl⟩
theorem A20 (t : Ty) (G : IM) (cells : List Value) (hr : C7 G t cells) : Fn Tryz.prog 64 [.agg ⟨cells⟩] [] G (F8 (.bool (H0 t)) G) := by
 have hl := hr.len
 have hv := B1y t 1 G cells zV hr
 refine D5 Tryz.func64 rfl Tryz.ntmps64 Tryz.results64 rfl ?_
 intro w0
 refine A3 ?_
 refine sE (D8 rfl rfl) rfl (fun b3 => ?_)
 refine A9 ?_
 refine sL (A2 rfl rfl (C9 zO) zS) rfl rfl ?_
 refine E5 rfl (hv) rfl rfl ?_
 refine A9 ?_
 exact ⟨rfl, rfl, rfl⟩
theorem W0 : ∀ (t t' : Ty) (G : IM) (cells cells' : List Value), C7 G t cells → C7 G t' cells' →
  Fn Tryz.prog 116 [.agg ⟨cells⟩, .agg ⟨cells'⟩] [] G (F8 (.bool (J0 t t')) G) := by
 refine Ty.ind fun k ks ih t' G cells cells' hr hr' => ?_
 obtain ⟨k', ks'⟩ := t'
 obtain ⟨p, c, es, rfl, hk, hsl, hkl⟩ := hr.open
 obtain ⟨p', c', es', rfl, hk', hsl', hkl'⟩ := hr'.open
 simp only [Ty.k, Ty.ks] at hk hsl hkl hk' hsl' hkl' ⊢
 have hn := hsl.le
 have hn' := hsl'.le
 obtain ⟨A, hA⟩ : ∃ A, M3 ks ks' = A := ⟨_, rfl⟩
 have hA' : A = true ↔ ks.length = ks'.length ∧ ∀ i, i < ks.length → J0 (ks.getD i C6) (ks'.getD i C6) = true := by
  rw [← hA, A1q]
  constructor
  ·rintro ⟨h1, h2⟩
   refine ⟨h1, fun i hi => ?_⟩
   have := h2 i hi zV
   simpa [List.getD_eq_getElem?_getD, List.getElem?_eq_getElem hi, List.getElem?_eq_getElem (show i < ks'.length by omega)] using this
  ·rintro ⟨h1, h2⟩
   refine ⟨h1, fun i hi hi' => ?_⟩
   have := h2 i hi
   simpa [List.getD_eq_getElem?_getD, List.getElem?_eq_getElem hi, List.getElem?_eq_getElem hi'] using this
 refine D5 Tryz.func116 rfl Tryz.ntmps116 Tryz.results116 rfl ?_
 intro w0
 refine A3 ?_
 refine sE (D8 rfl rfl) rfl (fun b3 => ?_)
 refine sE (D8 rfl rfl) rfl (fun b4 => ?_)
 refine A8 ?_
 refine sB (qE rfl rfl) rfl rfl (fun h12 => ?_) (fun h12 => ?_)
 refine A2i ?_
 exact ⟨rfl, zB, rfl⟩
 refine B2 ?_
 refine sB (qE rfl rfl) rfl rfl (fun h41 => ?_) (fun h41 => ?_)
 refine Z0 ?_
 exact ⟨rfl, zB, rfl⟩
 refine A7 ?_
 refine sB (qE rfl rfl) rfl rfl (fun h69 => ?_) (fun h69 => ?_)
 refine A9 ?_
 refine I5 rfl (A7l _ _ _ _ _ _ _ _ _ hsl hsl' _ [] [] [] (fun i => J0 (ks.getD i C6) (ks'.getD i C6)) A hA' (fun i e e' he he' => ih _ (hkl.inv he C6).1 _ _ _ _ (hkl.inv he C6).2 (hkl'.inv he' C6).2)) rfl rfl (fun h75 => ?_) (fun h75 => ?_)
 refine A8 ?_
 exact ⟨rfl, zB, rfl⟩
 refine A8 ?_
 exact ⟨rfl, zB, rfl⟩
 refine G9 ?_
 exact ⟨rfl, zB, rfl⟩
theorem B1z (t t' : Ty) (G : IM) (cells cells' : List Value) (hr : C7 G t cells) (hr' : C7 G t' cells') :
  Fn Tryz.prog 154 [.agg ⟨cells⟩, .agg ⟨cells'⟩] [] G (F8 (.bool (A0a t t')) G) := by
 have hl := hr.len
 have hl' := hr'.len
 have hv := A20 t G cells hr
 have hv' := A20 t' G cells' hr'
 have hc := W0 t t' G cells cells' hr hr'
 refine D5 Tryz.func154 rfl Tryz.ntmps154 Tryz.results154 rfl ?_
 intro w0
 refine A3 ?_
 refine sE (D8 rfl rfl) rfl (fun b3 => ?_)
 refine sE (D8 rfl rfl) rfl (fun b4 => ?_)
 refine A9 ?_
 refine sL (A2 rfl rfl (C9 zO) zS) rfl rfl ?_
 refine I5 rfl (hv) rfl rfl (fun h11 => ?_) (fun h11 => ?_)
 refine I0 ?_
 refine sL (A2 rfl rfl (C9 zO) zS) rfl rfl ?_
 refine I5 rfl (hv') rfl rfl (fun h14 => ?_) (fun h14 => ?_)
 refine A3 ?_
 refine sL (A2 rfl rfl (C9 zO) zS) rfl rfl ?_
 refine sL (A2 rfl rfl (C9 zO) zS) rfl rfl ?_
 refine I5 rfl (hc) rfl rfl (fun h19 => ?_) (fun h19 => ?_)
 refine A7 ?_
 exact ⟨rfl, by simp only [A0a]; simp only [*, Bool.true_and, Bool.false_and, Bool.and_true], rfl⟩
 refine A7 ?_
 exact ⟨rfl, by simp only [A0a]; simp only [*, Bool.true_and, Bool.false_and, Bool.and_true], rfl⟩
 refine E8 ?_
 exact ⟨rfl, by simp only [A0a]; simp only [*, Bool.true_and, Bool.false_and, Bool.and_true], rfl⟩
 refine J5 ?_
 exact ⟨rfl, by simp only [A0a]; simp only [*, Bool.true_and, Bool.false_and, Bool.and_true], rfl⟩
end Gw
end Go.Proofs.YtmceanphadildaaGreatDoor
