/-
  The data of the program: types and terms as trees, and how they lie in memory.
-/
import Derived.Test.YtgodjiieijekiaaGreatDoorKb0
import Derived.Laws.BytesArg
import Derived.WalkKit
import Derived.ProofKit
import Derived.OpenShut
import Derived.Carry
import Derived.Test.YtgodjiieijekiaaGreatDoorKS
import Derived.Lib.ItoaNum
import Derived.Lib.LaidTab
import Derived.Test.YtgodjiieijekiaaGreatDoorRows
import Derived.Deep.DeepHandedRow
import Derived.Stop.LaidErr
set_option linter.unusedVariables false
set_option linter.unusedSimpArgs false
set_option maxHeartbeats 0
set_option maxRecDepth 100000
set_option synthInstance.maxSize 4000
set_option synthInstance.maxHeartbeats 0
namespace Go.Proofs.YtgodjiieijekiaaGreatDoor
open Go Go.RowKit
namespace Gw

structure C5 (G : IM) (p : Option Addr) (n c sz : Nat) (es : List (List Value)) : Prop where
 sl : Sl G p n c sz es.flatten
 len : es.length = n
 all : ∀ e ∈ es, e.length = sz
 one : ∀ e ∈ es, e.all (·.oneCell') = true

theorem C5.mono {G G' : IM} {p : Option Addr} {n c sz : Nat} {es : List (List Value)} (h : C5 G p n c sz es) (hg : B4 G G') : C5 G' p n c sz es := ⟨h.sl.mono hg, h.len, h.all, h.one⟩
theorem C5.nil (G : IM) (sz : Nat) : C5 G none 0 0 sz [] := ⟨Sl.nil G sz, rfl, by simp, by simp⟩

theorem A3z {sz : Nat} : ∀ {es : List (List Value)}, (∀ e ∈ es, e.length = sz) → ∀ {i : Nat} {e : List Value}, es[i]? = some e → ∀ j v, e[j]? = some v → es.flatten[i * sz + j]? = some v
 | [], _, i, e, h, _, _, _ => by simp at h
 | a :: r, hall, 0, e, h, j, v, hv => by
  simp at h; subst h
  have : j < a.length := (List.getElem?_eq_some_iff.1 hv).1
  simp [List.getElem?_append, this]
  simpa [List.getElem?_eq_getElem this] using hv
 | a :: r, hall, i + 1, e, h, j, v, hv => by
  have ih := A3z (es := r) (fun x hx => hall x (List.mem_cons_of_mem _ hx)) (i := i) (e := e) (by simpa using h) j v hv
  have ha := hall a List.mem_cons_self
  rw [List.flatten_cons, List.getElem?_append, if_neg (by rw [ha, Nat.succ_mul]; omega)]
  rw [show (i + 1) * sz + j - a.length = i * sz + j by rw [ha, Nat.succ_mul]; omega]
  exact ih

theorem C5.at {G : IM} {p : Option Addr} {n c sz : Nat} {es : List (List Value)} (h : C5 G p n c sz es) {i : Nat} {e : List Value} (hi : es[i]? = some e) :
  ∃ b o, p = some ⟨b, o, none⟩ ∧ ∀ hp, At hp G b (o + i * sz) e := by
 have hlt : i < es.length := (List.getElem?_eq_some_iff.1 hi).1
 obtain ⟨_, _, _, h4⟩ := h.sl
 have hn := h.len
 rcases h4 with h0 | ⟨b, o, full, hp, hg, hf⟩
 ·omega
 ·refine ⟨b, o, hp, fun hp => A4a hg fun j v hv => ?_⟩
  rw [Nat.add_assoc]
  exact hf _ v (A3z h.all hi j v hv)

theorem C5.get {G : IM} {p : Option Addr} {n c sz : Nat} {es : List (List Value)} (h : C5 G p n c sz es) {i : Nat} (hi : i < n) :
  ∃ e b o, es[i]? = some e ∧ p = some ⟨b, o, none⟩ ∧ e.length = sz ∧ e.all (·.oneCell') = true ∧ (∀ hp, At hp G b (o + i * sz) e) ∧ G b ≠ none := by
 have hlt : i < es.length := by rw [h.len]; exact hi
 have he : es[i]? = some es[i] := List.getElem?_eq_getElem hlt
 obtain ⟨b, o, h1, h2⟩ := h.at he
 refine ⟨es[i], b, o, he, h1, h.all _ (List.getElem_mem hlt), h.one _ (List.getElem_mem hlt), h2, ?_⟩
 obtain ⟨_, _, _, h4⟩ := h.sl
 rcases h4 with h0 | ⟨b', o', full, hp, hg, hf⟩
 ·omega
 ·rw [h1] at hp; cases hp; rw [hg]; simp
theorem C5.le {G : IM} {p : Option Addr} {n c sz : Nat} {es : List (List Value)} (h : C5 G p n c sz es) : n ≤ 9223372036854775807 := by
 have h1 := h.sl.2.1; have h2 := h.sl.2.2.1; unfold maxLen at h2; omega

theorem C5.of {G : IM} {p : Option Addr} {n c sz : Nat} {es : List (List Value)} (h : Sl G p n c sz es.flatten) (hl : es.length = n) (ha : ∀ e ∈ es, e.length = sz) (ho : ∀ e ∈ es, e.all (·.oneCell') = true) : C5 G p n c sz es := ⟨h, hl, ha, ho⟩

def C6 (n : Int) : Prop := -9223372036854775808 ≤ n ∧ n ≤ 9223372036854775807

inductive Ty where
 | mk (k : Int) (ks : List Ty)

def Ty.k : Ty → Int | .mk k _ => k
def Ty.ks : Ty → List Ty | .mk _ ks => ks

inductive Tm where
 | mk (k : Int) (nm : ByteArray) (num : Int) (ty fr : Ty) (lb : Int) (ks : List Tm)

def Tm.k : Tm → Int | .mk k _ _ _ _ _ _ => k
def Tm.nm : Tm → ByteArray | .mk _ n _ _ _ _ _ => n
def Tm.num : Tm → Int | .mk _ _ n _ _ _ _ => n
def Tm.ty : Tm → Ty | .mk _ _ _ t _ _ _ => t
def Tm.fr : Tm → Ty | .mk _ _ _ _ f _ _ => f
def Tm.lb : Tm → Int | .mk _ _ _ _ _ l _ => l
def Tm.ks : Tm → List Tm | .mk _ _ _ _ _ _ ks => ks

mutual
def Ty.small : Ty → Prop
 | .mk _ ks => ks.length ≤ 4294967296 ∧ Ty.smallL ks
def Ty.smallL : List Ty → Prop
 | [] => True
 | t :: ts => t.small ∧ Ty.smallL ts
end
mutual
def Tm.small : Tm → Prop
 | .mk _ nm _ ty fr _ ks => nm.size ≤ 4294967296 ∧ ty.small ∧ fr.small ∧ ks.length ≤ 4294967296 ∧ Tm.smallL ks
def Tm.smallL : List Tm → Prop
 | [] => True
 | t :: ts => t.small ∧ Tm.smallL ts
end
theorem Ty.smallL_mem : ∀ {ts : List Ty}, Ty.smallL ts → ∀ t ∈ ts, t.small
 | [], _, t, h => by simp at h
 | t' :: ts, h, t, ht => by
  simp only [Ty.smallL] at h
  rcases List.mem_cons.1 ht with rfl | ht
  ·exact h.1
  ·exact Ty.smallL_mem h.2 t ht
theorem Tm.smallL_mem : ∀ {ts : List Tm}, Tm.smallL ts → ∀ t ∈ ts, t.small
 | [], _, t, h => by simp at h
 | t' :: ts, h, t, ht => by
  simp only [Tm.smallL] at h
  rcases List.mem_cons.1 ht with rfl | ht
  ·exact h.1
  ·exact Tm.smallL_mem h.2 t ht

mutual
def C3 (G : IM) : Ty → List Value → Prop
 | .mk k ks, cells => ∃ p c es, cells = [.int .i64 k, .slice p ks.length c] ∧ C6 k ∧ C5 G p ks.length c 2 es ∧ F8 G ks es
def F8 (G : IM) : List Ty → List (List Value) → Prop
 | [], es => es = []
 | t :: ts, es => ∃ a r, es = a :: r ∧ C3 G t a ∧ F8 G ts r
end

mutual
def B1 (G : IM) : Tm → List Value → Prop
 | .mk k nm num ty fr lb ks, cells => ∃ tc fc p c es, cells = [.int .i64 k, .string nm, .int .i64 num] ++ tc ++ fc ++ [.int .i64 lb, .slice p ks.length c] ∧ C6 k ∧ C6 num ∧ C6 lb ∧ C3 G ty tc ∧ C3 G fr fc ∧ C5 G p ks.length c 9 es ∧ E3 G ks es
def E3 (G : IM) : List Tm → List (List Value) → Prop
 | [], es => es = []
 | t :: ts, es => ∃ a r, es = a :: r ∧ B1 G t a ∧ E3 G ts r
end

mutual
theorem C3.mono {G G' : IM} (hg : B4 G G') : ∀ {t : Ty} {cells : List Value}, C3 G t cells → C3 G' t cells
 | .mk k ks, cells, h => by
  simp only [C3] at h ⊢
  obtain ⟨p, c, es, h1, h2, h3, h4⟩ := h
  exact ⟨p, c, es, h1, h2, h3.mono hg, F8.mono hg h4⟩
theorem F8.mono {G G' : IM} (hg : B4 G G') : ∀ {ts : List Ty} {es : List (List Value)}, F8 G ts es → F8 G' ts es
 | [], es, h => by simpa only [F8] using h
 | t :: ts, es, h => by
  simp only [F8] at h ⊢
  obtain ⟨a, r, h1, h2, h3⟩ := h
  exact ⟨a, r, h1, C3.mono hg h2, F8.mono hg h3⟩
end
mutual
theorem B1.mono {G G' : IM} (hg : B4 G G') : ∀ {t : Tm} {cells : List Value}, B1 G t cells → B1 G' t cells
 | .mk k nm num ty fr lb ks, cells, h => by
  simp only [B1] at h ⊢
  obtain ⟨tc, fc, p, c, es, h1, h2, h3, h4, h5, h6, h7, h8⟩ := h
  exact ⟨tc, fc, p, c, es, h1, h2, h3, h4, h5.mono hg, h6.mono hg, h7.mono hg, E3.mono hg h8⟩
theorem E3.mono {G G' : IM} (hg : B4 G G') : ∀ {ts : List Tm} {es : List (List Value)}, E3 G ts es → E3 G' ts es
 | [], es, h => by simpa only [E3] using h
 | t :: ts, es, h => by
  simp only [E3] at h ⊢
  obtain ⟨a, r, h1, h2, h3⟩ := h
  exact ⟨a, r, h1, B1.mono hg h2, E3.mono hg h3⟩
end

theorem C3.open {G : IM} {t : Ty} {cells : List Value} (h : C3 G t cells) : ∃ p c es, cells = [.int .i64 t.k, .slice p t.ks.length c] ∧ C6 t.k ∧ C5 G p t.ks.length c 2 es ∧ F8 G t.ks es := by
 cases t; simpa only [C3, Ty.k, Ty.ks] using h
theorem B1.open {G : IM} {t : Tm} {cells : List Value} (h : B1 G t cells) : ∃ pt ct et pf cf ef p c es,
  cells = [.int .i64 t.k, .string t.nm, .int .i64 t.num, .int .i64 t.ty.k, .slice pt t.ty.ks.length ct, .int .i64 t.fr.k, .slice pf t.fr.ks.length cf, .int .i64 t.lb, .slice p t.ks.length c] ∧
  C6 t.k ∧ C6 t.num ∧ C6 t.lb ∧ (C6 t.ty.k ∧ C5 G pt t.ty.ks.length ct 2 et ∧ F8 G t.ty.ks et) ∧ (C6 t.fr.k ∧ C5 G pf t.fr.ks.length cf 2 ef ∧ F8 G t.fr.ks ef) ∧ C5 G p t.ks.length c 9 es ∧ E3 G t.ks es := by
 obtain ⟨k, nm, num, ty, fr, lb, ks⟩ := t
 simp only [B1] at h
 obtain ⟨tc, fc, p, c, es, h1, h2, h3, h4, h5, h6, h7, h8⟩ := h
 obtain ⟨pt, ct, et, rfl, t1, t2, t3⟩ := h5.open
 obtain ⟨pf, cf, ef, rfl, f1, f2, f3⟩ := h6.open
 exact ⟨pt, ct, et, pf, cf, ef, p, c, es, h1, h2, h3, h4, ⟨t1, t2, t3⟩, ⟨f1, f2, f3⟩, h7, h8⟩
theorem B1.open9 {G : IM} {k : Int} {nm : ByteArray} {num : Int} {tk : Int} {tks : List Ty} {fk : Int} {fks : List Ty} {lb : Int} {ks : List Tm} {cells : List Value} (h : B1 G (.mk k nm num (.mk tk tks) (.mk fk fks) lb ks) cells) :
  ∃ pt ct pf cf p c es, cells = [.int .i64 k, .string nm, .int .i64 num, .int .i64 tk, .slice pt tks.length ct, .int .i64 fk, .slice pf fks.length cf, .int .i64 lb, .slice p ks.length c] ∧
  C6 k ∧ C6 num ∧ C6 lb ∧ C3 G (.mk tk tks) [.int .i64 tk, .slice pt tks.length ct] ∧ C3 G (.mk fk fks) [.int .i64 fk, .slice pf fks.length cf] ∧ C5 G p ks.length c 9 es ∧ E3 G ks es := by
 obtain ⟨pt, ct, et, pf, cf, ef, p, c, es, h1, h2, h3, h4, ⟨t1, t2, t3⟩, ⟨f1, f2, f3⟩, h7, h8⟩ := h.open
 simp only [Tm.k, Tm.nm, Tm.num, Tm.ty, Tm.fr, Tm.lb, Tm.ks, Ty.k, Ty.ks] at h1 h2 h3 h4 t1 t2 t3 f1 f2 f3 h7 h8
 exact ⟨pt, ct, pf, cf, p, c, es, h1, h2, h3, h4, by simp only [C3]; exact ⟨_, _, et, rfl, t1, t2, t3⟩, by simp only [C3]; exact ⟨_, _, ef, rfl, f1, f2, f3⟩, h7, h8⟩
theorem C3.len {G : IM} {t : Ty} {cells : List Value} (h : C3 G t cells) : cells.length = 2 := by
 obtain ⟨_, _, _, rfl, _⟩ := h.open; rfl
theorem B1.len {G : IM} {t : Tm} {cells : List Value} (h : B1 G t cells) : cells.length = 9 := by
 obtain ⟨_, _, _, _, _, _, _, _, _, rfl, _⟩ := h.open; rfl

theorem F8.len {G : IM} : ∀ {ts : List Ty} {es : List (List Value)}, F8 G ts es → es.length = ts.length
 | [], es, h => by simp only [F8] at h; subst h; rfl
 | t :: ts, es, h => by
  simp only [F8] at h
  obtain ⟨a, r, rfl, _, h3⟩ := h
  simp [h3.len]
theorem E3.len {G : IM} : ∀ {ts : List Tm} {es : List (List Value)}, E3 G ts es → es.length = ts.length
 | [], es, h => by simp only [E3] at h; subst h; rfl
 | t :: ts, es, h => by
  simp only [E3] at h
  obtain ⟨a, r, rfl, _, h3⟩ := h
  simp [h3.len]
theorem F8.get {G : IM} : ∀ {ts : List Ty} {es : List (List Value)}, F8 G ts es → ∀ {i : Nat} {t : Ty}, ts[i]? = some t → ∃ e, es[i]? = some e ∧ C3 G t e
 | [], es, h, i, t, hi => by simp at hi
 | t' :: ts, es, h, i, t, hi => by
  simp only [F8] at h
  obtain ⟨a, r, rfl, h2, h3⟩ := h
  cases i with
  | zero => simp at hi; subst hi; exact ⟨a, rfl, h2⟩
  | succ i => obtain ⟨e, he, hr⟩ := h3.get (i := i) (by simpa using hi); exact ⟨e, by simpa using he, hr⟩
theorem E3.get {G : IM} : ∀ {ts : List Tm} {es : List (List Value)}, E3 G ts es → ∀ {i : Nat} {t : Tm}, ts[i]? = some t → ∃ e, es[i]? = some e ∧ B1 G t e
 | [], es, h, i, t, hi => by simp at hi
 | t' :: ts, es, h, i, t, hi => by
  simp only [E3] at h
  obtain ⟨a, r, rfl, h2, h3⟩ := h
  cases i with
  | zero => simp at hi; subst hi; exact ⟨a, rfl, h2⟩
  | succ i => obtain ⟨e, he, hr⟩ := h3.get (i := i) (by simpa using hi); exact ⟨e, by simpa using he, hr⟩
theorem F8.all {G : IM} {ts : List Ty} {es : List (List Value)} (h : F8 G ts es) : ∀ e ∈ es, e.length = 2 := by
 intro e he
 obtain ⟨i, hi⟩ := List.getElem?_of_mem he
 have hlt : i < ts.length := by have := (List.getElem?_eq_some_iff.1 hi).1; rw [h.len] at this; exact this
 obtain ⟨e', he', hr⟩ := h.get (i := i) (t := ts[i]) (by simp [hlt])
 rw [hi] at he'; cases he'; exact hr.len
theorem E3.all {G : IM} {ts : List Tm} {es : List (List Value)} (h : E3 G ts es) : ∀ e ∈ es, e.length = 9 := by
 intro e he
 obtain ⟨i, hi⟩ := List.getElem?_of_mem he
 have hlt : i < ts.length := by have := (List.getElem?_eq_some_iff.1 hi).1; rw [h.len] at this; exact this
 obtain ⟨e', he', hr⟩ := h.get (i := i) (t := ts[i]) (by simp [hlt])
 rw [hi] at he'; cases he'; exact hr.len

theorem C3.one {G : IM} {t : Ty} {cells : List Value} (h : C3 G t cells) : cells.all (·.oneCell') = true := by
 obtain ⟨_, _, _, rfl, _⟩ := h.open; rfl
theorem B1.one {G : IM} {t : Tm} {cells : List Value} (h : B1 G t cells) : cells.all (·.oneCell') = true := by
 obtain ⟨_, _, _, _, _, _, _, _, _, rfl, _⟩ := h.open; rfl

theorem Ty.ind {C : Ty → Prop} (h : ∀ k ks, (∀ t ∈ ks, C t) → C (.mk k ks)) : ∀ t, C t
 | .mk k ks => h k ks fun t ht => Ty.ind h t
termination_by t => SizeOf.sizeOf t
decreasing_by
 have := List.sizeOf_lt_of_mem ht
 simp only [Ty.mk.sizeOf_spec]; omega
theorem Tm.ind {C : Tm → Prop} (h : ∀ k nm num ty fr lb ks, (∀ t ∈ ks, C t) → C (.mk k nm num ty fr lb ks)) : ∀ t, C t
 | .mk k nm num ty fr lb ks => h k nm num ty fr lb ks fun t ht => Tm.ind h t
termination_by t => SizeOf.sizeOf t
decreasing_by
 have := List.sizeOf_lt_of_mem ht
 simp only [Tm.mk.sizeOf_spec]; omega

def C4 (G' G : IM) : IM := fun b => match G b with | none => G' b | some _ => none
theorem C4.le (G' G : IM) : B4 (C4 G' G) G' := by
 intro b l h
 unfold C4 at h
 split at h
 ·exact h
 ·cases h
theorem C4.mono {G' G'' G : IM} (h : B4 G' G'') : B4 (C4 G' G) (C4 G'' G) := by
 intro b l hb
 unfold C4 at hb ⊢
 split at hb
 ·exact h b l hb
 ·cases hb
theorem C4.anti {G' G G0 : IM} (h : B4 G0 G) : B4 (C4 G' G) (C4 G' G0) := by
 intro b l hb
 unfold C4 at hb ⊢
 split at hb
 ·rename_i h0
  cases h1 : G0 b with
  | none => exact hb
  | some l' => rw [h b l' h1] at h0; cases h0
 ·cases hb
theorem C4.out {G' G : IM} {b : Nat} (h : C4 G' G b ≠ none) : G b = none := by
 unfold C4 at h
 split at h
 ·assumption
 ·exact absurd rfl h
theorem Sl.dif {G' G G0 : IM} {p : Option Addr} {n c sz : Nat} {cs : List Value} (h : Sl G' p n c sz cs) (hp : ∀ b ∈ H5 p, G b = none) (hle : B4 G0 G) : Sl (C4 G' G0) p n c sz cs := by
 obtain ⟨h1, h2, h3, h4⟩ := h
 refine ⟨h1, h2, h3, h4.imp id ?_⟩
 rintro ⟨b, o, full, rfl, e2, e3⟩
 refine ⟨b, o, full, rfl, ?_, e3⟩
 have hb := hp b (by simp [H5])
 have h0 : G0 b = none := by
  cases h1 : G0 b with
  | none => rfl
  | some l => rw [hle b l h1] at hb; cases hb
 simp [C4, h0, e2]

mutual
def N8 (G : IM) : Ty → List Value → List Nat → Prop
 | .mk k ks, cells, F => ∃ p c es Fs, cells = [.int .i64 k, .slice p ks.length c] ∧ C6 k ∧ C5 G p ks.length c 2 es ∧ L8 G ks es Fs ∧ F = H5 p ++ Fs ∧ (∀ b ∈ H5 p, G b ≠ none)
def L8 (G : IM) : List Ty → List (List Value) → List Nat → Prop
 | [], es, F => es = [] ∧ F = []
 | t :: ts, es, F => ∃ a r Fa Fr, es = a :: r ∧ N8 G t a Fa ∧ L8 G ts r Fr ∧ F = Fa ++ Fr
end
mutual
theorem N8.R {G : IM} : ∀ {t : Ty} {cells : List Value} {F : List Nat}, N8 G t cells F → C3 G t cells
 | .mk k ks, cells, F, h => by
  simp only [N8] at h
  obtain ⟨p, c, es, Fs, h1, h2, h3, h4, _⟩ := h
  simp only [C3]
  exact ⟨p, c, es, h1, h2, h3, L8.R h4⟩
theorem L8.R {G : IM} : ∀ {ts : List Ty} {es : List (List Value)} {F : List Nat}, L8 G ts es F → F8 G ts es
 | [], es, F, h => by simp only [L8] at h; simp only [F8]; exact h.1
 | t :: ts, es, F, h => by
  simp only [L8] at h
  obtain ⟨a, r, Fa, Fr, h1, h2, h3, _⟩ := h
  simp only [F8]
  exact ⟨a, r, h1, N8.R h2, L8.R h3⟩
end
mutual
theorem N8.mono {G G' : IM} (hg : B4 G G') : ∀ {t : Ty} {cells : List Value} {F : List Nat}, N8 G t cells F → N8 G' t cells F
 | .mk k ks, cells, F, h => by
  simp only [N8] at h ⊢
  obtain ⟨p, c, es, Fs, h1, h2, h3, h4, h5, h6⟩ := h
  exact ⟨p, c, es, Fs, h1, h2, h3.mono hg, L8.mono hg h4, h5, fun b hb => by cases hgb : G b with | none => exact absurd hgb (h6 b hb) | some l => rw [hg b l hgb]; simp⟩
theorem L8.mono {G G' : IM} (hg : B4 G G') : ∀ {ts : List Ty} {es : List (List Value)} {F : List Nat}, L8 G ts es F → L8 G' ts es F
 | [], es, F, h => by simpa only [L8] using h
 | t :: ts, es, F, h => by
  simp only [L8] at h ⊢
  obtain ⟨a, r, Fa, Fr, h1, h2, h3, h4⟩ := h
  exact ⟨a, r, Fa, Fr, h1, N8.mono hg h2, L8.mono hg h3, h4⟩
end
mutual
theorem N8.inG {G : IM} : ∀ {t : Ty} {cells : List Value} {F : List Nat}, N8 G t cells F → ∀ b ∈ F, G b ≠ none
 | .mk k ks, cells, F, h => by
  simp only [N8] at h
  obtain ⟨p, c, es, Fs, h1, h2, h3, h4, rfl, h6⟩ := h
  intro b hb
  rcases List.mem_append.1 hb with hb | hb
  ·exact h6 b hb
  ·exact L8.inG h4 b hb
theorem L8.inG {G : IM} : ∀ {ts : List Ty} {es : List (List Value)} {F : List Nat}, L8 G ts es F → ∀ b ∈ F, G b ≠ none
 | [], es, F, h => by simp only [L8] at h; rw [h.2]; simp
 | t :: ts, es, F, h => by
  simp only [L8] at h
  obtain ⟨a, r, Fa, Fr, h1, h2, h3, rfl⟩ := h
  intro b hb
  rcases List.mem_append.1 hb with hb | hb
  ·exact N8.inG h2 b hb
  ·exact L8.inG h3 b hb
end
theorem L8.snoc {G : IM} : ∀ {ts : List Ty} {es : List (List Value)} {F : List Nat} {t : Ty} {a : List Value} {Fa : List Nat}, L8 G ts es F → N8 G t a Fa → L8 G (ts ++ [t]) (es ++ [a]) (F ++ Fa)
 | [], es, F, t, a, Fa, h, h2 => by
  simp only [L8] at h
  obtain ⟨rfl, rfl⟩ := h
  simp only [List.nil_append, L8]
  exact ⟨a, [], Fa, [], rfl, h2, ⟨rfl, rfl⟩, by simp⟩
 | t' :: ts, es, F, t, a, Fa, h, h2 => by
  simp only [L8] at h
  obtain ⟨a', r, Fa', Fr, rfl, h3, h4, rfl⟩ := h
  simp only [List.cons_append, L8]
  exact ⟨a', r ++ [a], Fa', Fr ++ Fa, rfl, h3, L8.snoc h4 h2, by simp⟩

theorem C5.kidTy {G : IM} {p : Option Addr} {n c : Nat} {es : List (List Value)} {ks : List Ty} (h : C5 G p n c 2 es) (hk : F8 G ks es) {i : Nat} (hi : i < n) (hn : i < ks.length) :
  ∃ b o p2 c2, p = some ⟨b, o, none⟩ ∧ (∀ hp, At hp G b (o + i * 2) [.int .i64 ks[i].k, .slice p2 ks[i].ks.length c2]) ∧ C3 G ks[i] [.int .i64 ks[i].k, .slice p2 ks[i].ks.length c2] ∧ G b ≠ none := by
 obtain ⟨e, b, o, he, h1, h2, h3, h4, h5⟩ := h.get hi
 obtain ⟨e', he', hr⟩ := hk.get (i := i) (t := ks[i]) (by simp [hn])
 rw [he] at he'; cases he'
 obtain ⟨p2, c2, _, rfl, _⟩ := hr.open
 exact ⟨b, o, p2, c2, h1, h4, hr, h5⟩

theorem L8.step {G Gi G1 : IM} {ks : List Ty} {i : Nat} {es : List (List Value)} {F F' : List Nat} {a : List Value} (h : L8 (C4 Gi G) (ks.take i) es F) (hn : F.Nodup) (hle : B4 G Gi) (hle1 : B4 Gi G1) (hi : i < ks.length)
  (ha : N8 (C4 G1 Gi) ks[i] a F') (hn' : F'.Nodup) : L8 (C4 G1 G) (ks.take (i + 1)) (es ++ [a]) (F ++ F') ∧ (F ++ F').Nodup := by
 constructor
 ·rw [List.take_succ_eq_append_getElem hi]
  exact L8.snoc (h.mono (C4.mono hle1)) (ha.mono (C4.anti hle))
 ·rw [List.nodup_append]
  refine ⟨hn, hn', ?_⟩
  rintro x hx y hy rfl
  have h1 := h.inG x hx
  have h2 := C4.out (ha.inG x hy)
  apply h1
  cases hd : C4 Gi G x with
  | none => rfl
  | some l => rw [C4.le _ _ x l hd] at h2; cases h2
theorem N8.fin {G Gi G2 : IM} {k : Int} {ks : List Ty} {es : List (List Value)} {F : List Nat} {p : Option Addr} {c : Nat} (h : L8 (C4 Gi G) ks es F) (hn : F.Nodup) (hle : B4 G Gi) (hle2 : B4 Gi G2)
  (hsl : Sl G2 p ks.length c 2 es.flatten) (hnn : ∀ b ∈ H5 p, Gi b = none ∧ G2 b ≠ none) (hk : C6 k) :
  ∃ F', N8 (C4 G2 G) (.mk k ks) [.int .i64 k, .slice p ks.length c] F' ∧ F'.Nodup := by
 have hno := fun b hb => (hnn b hb).1
 have hin := fun b hb => (hnn b hb).2
 have hR := h.R
 refine ⟨H5 p ++ F, ?_, ?_⟩
 ·simp only [N8]
  refine ⟨p, c, es, F, rfl, hk, C5.of (hsl.dif hno hle) hR.len hR.all ?_, h.mono (C4.mono hle2), rfl, ?_⟩
  ·intro e he
   obtain ⟨i, hi⟩ := List.getElem?_of_mem he
   have hlt : i < ks.length := by have := (List.getElem?_eq_some_iff.1 hi).1; rw [hR.len] at this; exact this
   obtain ⟨e', he', hr⟩ := hR.get (i := i) (t := ks[i]) (by simp [hlt])
   rw [hi] at he'; cases he'; exact hr.one
  ·intro b hb
   have h0 := hno b hb
   cases hg : G b with
   | none => simpa [C4, hg] using hin b hb
   | some l => rw [hle b l hg] at h0; cases h0
 ·rw [List.nodup_append]
  refine ⟨by cases p <;> simp [H5], hn, ?_⟩
  rintro x hx y hy rfl
  have h1 := h.inG x hy
  have h2 := hno x hx
  apply h1
  cases hd : C4 Gi G x with
  | none => rfl
  | some l => rw [C4.le _ _ x l hd] at h2; cases h2

def A0A (q : Nat → Bool) (n : Nat) : Int := match (List.range n).find? q with | some i => i | none => -1
theorem A5w {q : Nat → Bool} {n : Nat} (h : ∀ j, j < n → q j = false) : A0A q n = -1 := by
 have : (List.range n).find? q = none := by
  rw [List.find?_eq_none]
  intro x hx
  rw [h x (List.mem_range.1 hx)]; simp
 simp [A0A, this]
theorem A7y {q : Nat → Bool} {n i : Nat} (hi : i < n) (h : ∀ j, j < i → q j = false) (hq : q i = true) : A0A q n = i := by
 have : (List.range n).find? q = some i := by
  rw [List.find?_eq_some_iff_append]
  refine ⟨hq, List.range i, (List.range n).drop (i + 1), ?_, ?_⟩
  ·apply List.ext_getElem?
   intro k
   simp only [List.getElem?_append, List.length_range, List.getElem?_range', List.getElem?_cons, List.getElem?_drop]
   by_cases h1 : k < i
   ·simp [h1, show k < n by omega]
   ·by_cases h2 : k = i
    ·subst h2; simp [hi]
    ·have h3 : k - i ≠ 0 := by omega
     simp only [h1, if_false, h3]
     rw [show i + 1 + (k - i - 1) = k by omega]
  ·intro a ha
   simp [h a (List.mem_range.1 ha)]
 simp [A0A, this]

def P4 (n lo hi : Int) : Bool := decide (lo ≤ n ∧ n ≤ hi)
theorem A5x {n lo hi : Int} (h : P4 n lo hi = true) : lo ≤ n ∧ n ≤ hi := by simpa [P4] using h
theorem A7z {n lo hi : Int} (h : P4 n lo hi = false) : ¬(lo ≤ n ∧ n ≤ hi) := by simpa [P4] using h
def U5 (k : Int) : Int := if k = 1 ∨ k = 2 ∨ k = 3 then 0 else if k = 4 ∨ k = 5 then 2 else -1
theorem L9 (k : Int) : (k = 1 ∨ k = 2 ∨ k = 3 → U5 k = 0) ∧ (k = 4 ∨ k = 5 → U5 k = 2) ∧ (k ≠ 1 → k ≠ 2 → k ≠ 3 → k ≠ 4 → k ≠ 5 → U5 k = -1) := by
 unfold U5; split <;> try split
 all_goals omega
def E7 (k : Int) : Int := if k = 1 ∨ k = 2 ∨ k = 3 ∨ k = 4 then 0 else if k = 5 ∨ k = 11 ∨ k = 12 ∨ k = 13 ∨ k = 14 then 1 else if k = 6 ∨ k = 7 ∨ k = 8 ∨ k = 10 then 2 else if k = 9 then 3 else -1

mutual
def K6 : Ty → Int → Bool
 | .mk k ks, d => decide (d ≤ 4) && decide (U5 k = ks.length) && U8 ks (d + 1)
def U8 : List Ty → Int → Bool
 | [], _ => true
 | t :: ts, d => K6 t d && U8 ts d
end
theorem A4g : ∀ (ts : List Ty) (d : Int), U8 ts d = true ↔ ∀ i, (h : i < ts.length) → K6 ts[i] d = true
 | [], d => by simp [U8]
 | t :: ts, d => by
  simp only [U8, Bool.and_eq_true, A4g ts d]
  constructor
  ·rintro ⟨h1, h2⟩ i hi
   cases i with
   | zero => exact h1
   | succ i => exact h2 i (by simpa using hi)
  ·intro h
   exact ⟨h 0 (by simp), fun i hi => h (i + 1) (by simpa using hi)⟩
def M0 (t : Ty) : Bool := K6 t 1
def Y1 (t : Ty) : Bool := decide (t.k = 0 ∧ t.ks.length = 0)

mutual
def O3 : Ty → Ty → Bool
 | .mk k ks, t => decide (k = 1) || decide (t.k = 1) || (decide (k = t.k) && Y2 ks t.ks)
def Y2 : List Ty → List Ty → Bool
 | [], [] => true
 | a :: xs, b :: ys => O3 a b && Y2 xs ys
 | _, _ => false
end
theorem A1a (k k' : Int) (ks ks' : List Ty) : O3 (.mk k ks) (.mk k' ks') = (decide (k = 1) || decide (k' = 1) || (decide (k = k') && Y2 ks ks')) := by rw [O3]; rfl
theorem A2V : ∀ (xs ys : List Ty), Y2 xs ys = true ↔ xs.length = ys.length ∧ ∀ i, (h : i < xs.length) → (h' : i < ys.length) → O3 xs[i] ys[i] = true
 | [], [] => by simp [Y2]
 | [], b :: ys => by simp [Y2]
 | a :: xs, [] => by simp [Y2]
 | a :: xs, b :: ys => by
  simp only [Y2, Bool.and_eq_true, A2V xs ys, List.length_cons]
  constructor
  ·rintro ⟨h1, h2, h3⟩
   refine ⟨by omega, fun i hi hi' => ?_⟩
   cases i with
   | zero => exact h1
   | succ i => exact h3 i (by simpa using hi) (by simpa using hi')
  ·rintro ⟨h1, h2⟩
   exact ⟨h2 0 (by simp) (by simp), by omega, fun i hi hi' => h2 (i + 1) (by simpa using hi) (by simpa using hi')⟩
def A1O (a b : Ty) : Bool := M0 a && M0 b && O3 a b
def X0 (s : ByteArray) : Bool := decide (s.size = 1 ∧ 97 ≤ (s.data.getD 0 0).toNat ∧ (s.data.getD 0 0).toNat ≤ 122)
def A1P (n : Int) : Bool := P4 n 1 99 || P4 n (-99) (-1)

theorem A4h {s : ByteArray} {j : Int} (h : j.toNat < s.size) : s[j.toNat]? = some (s.data.getD j.toNat 0) := by
 rw [getElem?_pos s j.toNat h]
 show some (s.data[j.toNat]'h) = _
 rw [Array.getD_eq_getD_getElem?, getElem?_pos s.data j.toNat h]
 rfl
theorem B1M {q : Nat → Bool} {n : Nat} : A0A q n < 0 ↔ ∀ j, j < n → q j = false := by
 constructor
 ·intro h j hj
  unfold A0A at h
  split at h
  ·omega
  ·rename_i hf
   have := List.find?_eq_none.1 hf j (List.mem_range.2 hj)
   simpa using this
 ·intro h; rw [A5w h]; omega
theorem A7A {q : Nat → Bool} {n : Nat} : 0 ≤ A0A q n ↔ ∃ j, j < n ∧ q j = true := by
 have h := @B1M q n
 constructor
 ·intro h0
  apply Classical.byContradiction
  intro hn
  have : A0A q n < 0 := h.2 fun j hj => by cases hq : q j with | false => rfl | true => exact absurd ⟨j, hj, hq⟩ hn
  omega
 ·rintro ⟨j, hj, hq⟩
  apply Classical.byContradiction
  intro hn
  rw [h.1 (by omega) j hj] at hq
  exact absurd hq (by simp)
theorem A7B {α : Type} (f : α → Bool) (ks : List α) (a : α) : decide (0 ≤ A0A (fun i => !f (ks.getD i a)) ks.length) = !ks.all f := by
 cases h : ks.all f with
 | true =>
  rw [List.all_eq_true] at h
  apply decide_eq_false
  rw [A7A]
  rintro ⟨j, hj, hq⟩
  rw [List.getD_eq_getElem?_getD, List.getElem?_eq_getElem hj, Option.getD_some, h _ (List.getElem_mem hj)] at hq
  exact absurd hq (by simp)
 | false =>
  apply decide_eq_true
  rw [A7A]
  apply Classical.byContradiction
  intro hn
  have : ks.all f = true := by
   rw [List.all_eq_true]
   intro x hx
   obtain ⟨j, hj, rfl⟩ := List.getElem_of_mem hx
   cases hf : f ks[j] with
   | true => rfl
   | false => exact absurd ⟨j, hj, by rw [List.getD_eq_getElem?_getD, List.getElem?_eq_getElem hj, Option.getD_some, hf]; rfl⟩ hn
  rw [h] at this
  exact absurd this (by simp)
theorem U6 : ∀ (ks : List Ty) (d : Int), U8 ks d = ks.all (K6 · d)
 | [], d => rfl
 | t :: ts, d => by simp [U8, U6 ts d]
theorem F8.inv {G : IM} : ∀ {ts : List Ty} {es : List (List Value)}, F8 G ts es → ∀ {i : Nat} {e : List Value}, es[i]? = some e → ∀ a, ts.getD i a ∈ ts ∧ C3 G (ts.getD i a) e
 | [], es, h, i, e, he, a => by
  have := h.len
  simp only [List.length_nil, List.length_eq_zero_iff] at this
  subst this; simp at he
 | t :: ts, es, h, i, e, he, a => by
  have hi : i < es.length := by
   apply Classical.byContradiction; intro hn; rw [List.getElem?_eq_none (by omega)] at he; simp at he
  have hl := h.len
  obtain ⟨e', he', hr⟩ := h.get (i := i) (t := (t :: ts)[i]'(by omega)) (by rw [List.getElem?_eq_getElem])
  rw [he] at he'
  obtain rfl := Option.some.inj he'
  rw [List.getD_eq_getElem?_getD, List.getElem?_eq_getElem (by omega), Option.getD_some]
  exact ⟨List.getElem_mem _, hr⟩
theorem E3.inv {G : IM} : ∀ {ts : List Tm} {es : List (List Value)}, E3 G ts es → ∀ {i : Nat} {e : List Value}, es[i]? = some e → ∀ a, ts.getD i a ∈ ts ∧ B1 G (ts.getD i a) e
 | [], es, h, i, e, he, a => by
  have := h.len
  simp only [List.length_nil, List.length_eq_zero_iff] at this
  subst this; simp at he
 | t :: ts, es, h, i, e, he, a => by
  have hi : i < es.length := by
   apply Classical.byContradiction; intro hn; rw [List.getElem?_eq_none (by omega)] at he; simp at he
  have hl := h.len
  obtain ⟨e', he', hr⟩ := h.get (i := i) (t := (t :: ts)[i]'(by omega)) (by rw [List.getElem?_eq_getElem])
  rw [he] at he'
  obtain rfl := Option.some.inj he'
  rw [List.getD_eq_getElem?_getD, List.getElem?_eq_getElem (by omega), Option.getD_some]
  exact ⟨List.getElem_mem _, hr⟩
def B8 : Ty := .mk 0 []
theorem B1N {p : Prop} [Decidable p] {x y : Bool} : ((if p then x else y) = true) ↔ ((p → x = true) ∧ (¬p → y = true)) := by by_cases h : p <;> simp [h]
theorem B1O {k : Int} (h : 1 ≤ k ∧ k ≤ 14) : ([Value.int .i64 0, .int .i64 0, .int .i64 0, .int .i64 0, .int .i64 1, .int .i64 2, .int .i64 2, .int .i64 2, .int .i64 3, .int .i64 2, .int .i64 1, .int .i64 1, .int .i64 1, .int .i64 1])[(k - 1).toNat]? = some (.int .i64 (E7 k)) := by
 have : k = 1 ∨ k = 2 ∨ k = 3 ∨ k = 4 ∨ k = 5 ∨ k = 6 ∨ k = 7 ∨ k = 8 ∨ k = 9 ∨ k = 10 ∨ k = 11 ∨ k = 12 ∨ k = 13 ∨ k = 14 := by omega
 rcases this with rfl | rfl | rfl | rfl | rfl | rfl | rfl | rfl | rfl | rfl | rfl | rfl | rfl | rfl <;> rfl
theorem A7C {k : Int} (h : ¬(1 ≤ k ∧ k ≤ 14)) : E7 k = -1 := by
 unfold E7; repeat (split; omega)
 rfl
theorem B1P {cs : List Value} {o : Nat} {v : Value} (h : cs[o]? = some v) : ∀ j u, [v][j]? = some u → cs[o + j]? = some u := by
 intro j u hj
 cases j with
 | zero => simpa using hj ▸ h
 | succ j => simp at hj
def W3 (k : Int) (nm : ByteArray) (num : Int) (ty fr : Ty) (lb : Int) (n : Nat) : Bool :=
 decide (E7 k = n) && (if k = 1 ∨ k = 5 then X0 nm else decide (nm = ⟨#[]⟩)) && (if k = 2 then P4 num 0 999 else P4 num 0 0) &&
 (if k = 5 ∨ k = 13 ∨ k = 14 then M0 ty else Y1 ty) && (if k = 14 then A1O fr ty && A1P lb else Y1 fr && decide (lb = 0))
theorem U9 {k : Int} {nm : ByteArray} {num : Int} {ty fr : Ty} {lb : Int} {n : Nat} : W3 k nm num ty fr lb n = true ↔
  E7 k = n ∧ (k = 1 ∨ k = 5 → X0 nm = true) ∧ (¬(k = 1 ∨ k = 5) → nm = ⟨#[]⟩) ∧ (k = 2 → P4 num 0 999 = true) ∧ (k ≠ 2 → P4 num 0 0 = true) ∧
  (k = 5 ∨ k = 13 ∨ k = 14 → M0 ty = true) ∧ (¬(k = 5 ∨ k = 13 ∨ k = 14) → Y1 ty = true) ∧ (k = 14 → A1O fr ty = true ∧ A1P lb = true) ∧ (k ≠ 14 → Y1 fr = true ∧ lb = 0) := by
 simp only [W3, Bool.and_eq_true, B1N, decide_eq_true_eq, and_assoc, ne_eq]
mutual
def S4 (M D N : Int) : Tm → Int → Int → Bool × Int
 | .mk k nm num ty fr lb ks, deep, c => if c + 1 > M ∨ deep > D ∨ k = N ∨ W3 k nm num ty fr lb ks.length = false then (false, c + 1) else T3 M D N ks (deep + 1) (c + 1)
def T3 (M D N : Int) : List Tm → Int → Int → Bool × Int
 | [], _, c => (true, c)
 | t :: ts, deep, c => if (S4 M D N t deep c).1 = true then T3 M D N ts deep (S4 M D N t deep c).2 else (false, (S4 M D N t deep c).2)
end
mutual
theorem A7D (M D N : Int) : ∀ (t : Tm) (deep c : Int), 0 ≤ c → c ≤ M → c < (S4 M D N t deep c).2 ∧ (S4 M D N t deep c).2 ≤ M + 1 ∧ ((S4 M D N t deep c).1 = true → (S4 M D N t deep c).2 ≤ M)
 | .mk k nm num ty fr lb ks, deep, c, h0, h1 => by
  rw [S4]
  split
  ·simp; omega
  ·rename_i h
   have := A7E M D N ks (deep + 1) (c + 1) (by omega) (by omega)
   exact ⟨by omega, this.2⟩
theorem A7E (M D N : Int) : ∀ (ts : List Tm) (deep c : Int), 0 ≤ c → c ≤ M → c ≤ (T3 M D N ts deep c).2 ∧ (T3 M D N ts deep c).2 ≤ M + 1 ∧ ((T3 M D N ts deep c).1 = true → (T3 M D N ts deep c).2 ≤ M)
 | [], deep, c, h0, h1 => by rw [T3]; simp; omega
 | t :: ts, deep, c, h0, h1 => by
  have := A7D M D N t deep c h0 h1
  rw [T3]
  split
  ·rename_i h
   have h2 := A7E M D N ts deep (S4 M D N t deep c).2 (by omega) (this.2.2 h)
   exact ⟨by omega, h2.2⟩
  ·simp; omega
end
def N0 (t : Tm) : Bool := (S4 200 40 13 t 1 0).1
def M5 (t : Tm) : Bool := (S4 30 12 14 t 1 0).1
theorem C5.kidTm {G : IM} {p : Option Addr} {n c : Nat} {es : List (List Value)} {ks : List Tm} (h : C5 G p n c 9 es) (hk : E3 G ks es) {i : Nat} (hi : i < n) (hn : i < ks.length) :
  ∃ b o e, p = some ⟨b, o, none⟩ ∧ e.length = 9 ∧ (∀ hp, At hp G b (o + i * 9) e) ∧ B1 G ks[i] e ∧ G b ≠ none := by
 obtain ⟨e, b, o, he, hp, hl, _, hat, hg⟩ := h.get hi
 have := (hk.inv he (ks[i])).2
 rw [List.getD_eq_getElem?_getD, List.getElem?_eq_getElem hn, Option.getD_some] at this
 exact ⟨b, o, e, hp, hl, hat, this, hg⟩
theorem A4i {M D N : Int} {k : Int} {nm : ByteArray} {num : Int} {ty fr : Ty} {lb : Int} {ks : List Tm} {deep c : Int} (h : c + 1 > M ∨ deep > D ∨ k = N ∨ W3 k nm num ty fr lb ks.length = false) :
  S4 M D N (.mk k nm num ty fr lb ks) deep c = (false, c + 1) := by rw [S4, if_pos h]
theorem B1Q {M D N : Int} {k : Int} {nm : ByteArray} {num : Int} {ty fr : Ty} {lb : Int} {ks : List Tm} {deep c : Int} (h1 : ¬(c + 1 > M ∨ deep > D ∨ k = N)) (h2 : W3 k nm num ty fr lb ks.length = true) :
  S4 M D N (.mk k nm num ty fr lb ks) deep c = T3 M D N ks (deep + 1) (c + 1) := by
 rw [S4, if_neg]
 rw [h2]
 intro h
 apply h1
 rcases h with h | h | h | h
 ·exact .inl h
 ·exact .inr (.inl h)
 ·exact .inr (.inr h)
 ·cases h
theorem B1R {M D N : Int} {ks : List Tm} {i : Nat} {deep c : Int} (hi : i < ks.length) (h : (S4 M D N ks[i] deep c).1 = true) : T3 M D N (ks.drop i) deep c = T3 M D N (ks.drop (i + 1)) deep (S4 M D N ks[i] deep c).2 := by
 rw [List.drop_eq_getElem_cons hi, T3, if_pos h]
theorem B1S {M D N : Int} {ks : List Tm} {i : Nat} {deep c : Int} (hi : i < ks.length) (h : (S4 M D N ks[i] deep c).1 = false) : T3 M D N (ks.drop i) deep c = (false, (S4 M D N ks[i] deep c).2) := by
 rw [List.drop_eq_getElem_cons hi, T3, if_neg (by rw [h]; simp)]
theorem B1T {M D N : Int} {ks : List Tm} {i : Nat} {deep c : Int} (hi : i = ks.length) : T3 M D N (ks.drop i) deep c = (true, c) := by
 rw [hi, List.drop_length, T3]
section blk
variable {P : Program} {Γ : J1} {env : J5} {hp : List A4} {G : IM} {K : Po} {ops : Array Oper} {rest : List Oper}
end blk

theorem A5y : ∀ {A B C V : List Value} {o : Nat}, A.length = o → B.length = V.length → Q3 (A ++ (B ++ C)) o V = some (A ++ (V ++ C))
 | [], B, C, V, o, h, hv => by
  simp at h; subst h
  simp only [List.nil_append]
  induction B generalizing V with
  | nil => cases V with
   | nil => cases C <;> rfl
   | cons v V => simp at hv
  | cons b B ih => cases V with
   | nil => simp at hv
   | cons v V =>
    simp only [List.cons_append, Q3, ih (V := V) (by simpa using hv)]
 | a :: A, B, C, V, o, h, hv => by
  simp at h; subst h
  simp only [List.cons_append, Q3, A5y (A := A) (B := B) (C := C) rfl hv]
theorem A2q {sz : Nat} : ∀ {es : List (List Value)}, (∀ e ∈ es, e.length = sz) → es.flatten.length = es.length * sz
 | [], _ => by simp
 | e :: es, h => by
  rw [List.flatten_cons, List.length_append, h e List.mem_cons_self, A2q (es := es) fun x hx => h x (List.mem_cons_of_mem _ hx), List.length_cons, Nat.succ_mul]; omega
def A7F (G : IM) (ks : List Ty) (p : Option Addr) (c : Nat) (F : List Nat) : Prop := ∃ es Fs, C5 G p ks.length c 2 es ∧ L8 G ks es Fs ∧ F = H5 p ++ Fs ∧ (∀ b ∈ H5 p, G b ≠ none)
theorem N8.open {G : IM} {t : Ty} {cells : List Value} {F : List Nat} (h : N8 G t cells F) : ∃ p c, cells = [.int .i64 t.k, .slice p t.ks.length c] ∧ C6 t.k ∧ A7F G t.ks p c F := by
 cases t
 simp only [N8] at h
 obtain ⟨p, c, es, Fs, h0, hk, h1, h2, h3, h4⟩ := h
 exact ⟨p, c, h0, hk, es, Fs, h1, h2, h3, h4⟩
mutual
def N4 (G : IM) : Tm → List Value → List Nat → Prop
 | .mk k nm num ty fr lb ks, cells, F => ∃ tc fc p c es Ft Ff Fs, cells = [.int .i64 k, .string nm, .int .i64 num] ++ tc ++ fc ++ [.int .i64 lb, .slice p ks.length c] ∧ C6 k ∧ C6 num ∧ C6 lb ∧ N8 G ty tc Ft ∧ N8 G fr fc Ff ∧
   C5 G p ks.length c 9 es ∧ L4 G ks es Fs ∧ F = Ft ++ (Ff ++ (H5 p ++ Fs)) ∧ (∀ b ∈ H5 p, G b ≠ none)
def L4 (G : IM) : List Tm → List (List Value) → List Nat → Prop
 | [], es, F => es = [] ∧ F = []
 | t :: ts, es, F => ∃ a r Fa Fr, es = a :: r ∧ N4 G t a Fa ∧ L4 G ts r Fr ∧ F = Fa ++ Fr
end
def A1b (G : IM) (ks : List Tm) (p : Option Addr) (c : Nat) (F : List Nat) : Prop := ∃ es Fs, C5 G p ks.length c 9 es ∧ L4 G ks es Fs ∧ F = H5 p ++ Fs ∧ (∀ b ∈ H5 p, G b ≠ none)
mutual
theorem N4.R {G : IM} : ∀ {t : Tm} {cells : List Value} {F : List Nat}, N4 G t cells F → B1 G t cells
 | .mk k nm num ty fr lb ks, cells, F, h => by
  simp only [N4] at h
  obtain ⟨tc, fc, p, c, es, Ft, Ff, Fs, h1, h2, h3, h4, h5, h6, h7, h8, _⟩ := h
  simp only [B1]
  exact ⟨tc, fc, p, c, es, h1, h2, h3, h4, h5.R, h6.R, h7, L4.R h8⟩
theorem L4.R {G : IM} : ∀ {ts : List Tm} {es : List (List Value)} {F : List Nat}, L4 G ts es F → E3 G ts es
 | [], es, F, h => by simp only [L4] at h; simp only [E3]; exact h.1
 | t :: ts, es, F, h => by
  simp only [L4] at h
  obtain ⟨a, r, Fa, Fr, h1, h2, h3, _⟩ := h
  simp only [E3]
  exact ⟨a, r, h1, N4.R h2, L4.R h3⟩
end
theorem A2W {G G' : IM} (hg : B4 G G') {F : List Nat} (h : ∀ b ∈ F, G b ≠ none) : ∀ b ∈ F, G' b ≠ none := fun b hb => by
 cases hgb : G b with
 | none => exact absurd hgb (h b hb)
 | some l => rw [hg b l hgb]; simp
mutual
theorem N4.mono {G G' : IM} (hg : B4 G G') : ∀ {t : Tm} {cells : List Value} {F : List Nat}, N4 G t cells F → N4 G' t cells F
 | .mk k nm num ty fr lb ks, cells, F, h => by
  simp only [N4] at h ⊢
  obtain ⟨tc, fc, p, c, es, Ft, Ff, Fs, h1, h2, h3, h4, h5, h6, h7, h8, h9, h10⟩ := h
  exact ⟨tc, fc, p, c, es, Ft, Ff, Fs, h1, h2, h3, h4, h5.mono hg, h6.mono hg, h7.mono hg, L4.mono hg h8, h9, A2W hg h10⟩
theorem L4.mono {G G' : IM} (hg : B4 G G') : ∀ {ts : List Tm} {es : List (List Value)} {F : List Nat}, L4 G ts es F → L4 G' ts es F
 | [], es, F, h => by simpa only [L4] using h
 | t :: ts, es, F, h => by
  simp only [L4] at h ⊢
  obtain ⟨a, r, Fa, Fr, h1, h2, h3, h4⟩ := h
  exact ⟨a, r, Fa, Fr, h1, N4.mono hg h2, L4.mono hg h3, h4⟩
end
mutual
theorem N4.inG {G : IM} : ∀ {t : Tm} {cells : List Value} {F : List Nat}, N4 G t cells F → ∀ b ∈ F, G b ≠ none
 | .mk k nm num ty fr lb ks, cells, F, h => by
  simp only [N4] at h
  obtain ⟨tc, fc, p, c, es, Ft, Ff, Fs, h1, h2, h3, h4, h5, h6, h7, h8, rfl, h10⟩ := h
  intro b hb
  simp only [List.mem_append] at hb
  rcases hb with hb | hb | hb | hb
  ·exact h5.inG b hb
  ·exact h6.inG b hb
  ·exact h10 b hb
  ·exact L4.inG h8 b hb
theorem L4.inG {G : IM} : ∀ {ts : List Tm} {es : List (List Value)} {F : List Nat}, L4 G ts es F → ∀ b ∈ F, G b ≠ none
 | [], es, F, h => by simp only [L4] at h; rw [h.2]; simp
 | t :: ts, es, F, h => by
  simp only [L4] at h
  obtain ⟨a, r, Fa, Fr, h1, h2, h3, rfl⟩ := h
  intro b hb
  rcases List.mem_append.1 hb with hb | hb
  ·exact N4.inG h2 b hb
  ·exact L4.inG h3 b hb
end
theorem L4.snoc {G : IM} : ∀ {ts : List Tm} {es : List (List Value)} {F : List Nat} {t : Tm} {a : List Value} {Fa : List Nat}, L4 G ts es F → N4 G t a Fa → L4 G (ts ++ [t]) (es ++ [a]) (F ++ Fa)
 | [], es, F, t, a, Fa, h, h2 => by
  simp only [L4] at h
  obtain ⟨rfl, rfl⟩ := h
  simp only [List.nil_append, L4]
  exact ⟨a, [], Fa, [], rfl, h2, ⟨rfl, rfl⟩, by simp⟩
 | t' :: ts, es, F, t, a, Fa, h, h2 => by
  simp only [L4] at h
  obtain ⟨a', r, Fa', Fr, rfl, h3, h4, rfl⟩ := h
  simp only [List.cons_append, L4]
  exact ⟨a', r ++ [a], Fa', Fr ++ Fa, rfl, h3, L4.snoc h4 h2, by simp⟩
theorem A2r {G Gi : IM} {F F' : List Nat} {G1 : IM} (h : ∀ b ∈ F, C4 Gi G b ≠ none) (h' : ∀ b ∈ F', C4 G1 Gi b ≠ none) : ∀ x ∈ F, ∀ y ∈ F', x ≠ y := by
 rintro x hx y hy rfl
 have h1 := h x hx
 have h2 := C4.out (h' x hy)
 apply h1
 cases hd : C4 Gi G x with
 | none => rfl
 | some l => rw [C4.le _ _ x l hd] at h2; cases h2
theorem L4.step {G Gi G1 : IM} {ks : List Tm} {i : Nat} {es : List (List Value)} {F F' : List Nat} {a : List Value} (h : L4 (C4 Gi G) (ks.take i) es F) (hn : F.Nodup) (hle : B4 G Gi) (hle1 : B4 Gi G1) (hi : i < ks.length)
  (ha : N4 (C4 G1 Gi) ks[i] a F') (hn' : F'.Nodup) : L4 (C4 G1 G) (ks.take (i + 1)) (es ++ [a]) (F ++ F') ∧ (F ++ F').Nodup := by
 constructor
 ·rw [List.take_succ_eq_append_getElem hi]
  exact L4.snoc (h.mono (C4.mono hle1)) (ha.mono (C4.anti hle))
 ·rw [List.nodup_append]
  exact ⟨hn, hn', A2r h.inG ha.inG⟩
theorem B1U (p : Option Addr) : (H5 p).Nodup := by cases p <;> simp [H5]
theorem A1b.fin {G Gi G2 : IM} {ks : List Tm} {es : List (List Value)} {F : List Nat} {p : Option Addr} {c : Nat} (h : L4 (C4 Gi G) ks es F) (hn : F.Nodup) (hle : B4 G Gi) (hle2 : B4 Gi G2)
  (hsl : Sl G2 p ks.length c 9 es.flatten) (hnn : ∀ b ∈ H5 p, Gi b = none ∧ G2 b ≠ none) :
  ∃ F', A1b (C4 G2 G) ks p c F' ∧ F'.Nodup := by
 have hR := h.R
 have hin : ∀ b ∈ H5 p, C4 G2 G b ≠ none := by
  intro b hb
  have h0 := (hnn b hb).1
  cases hg : G b with
  | none => simpa [C4, hg] using (hnn b hb).2
  | some l => rw [hle b l hg] at h0; cases h0
 refine ⟨H5 p ++ F, ⟨es, F, C5.of (hsl.dif (fun b hb => (hnn b hb).1) hle) hR.len hR.all ?_, h.mono (C4.mono hle2), rfl, hin⟩, ?_⟩
 ·intro e he
  obtain ⟨i, hi⟩ := List.getElem?_of_mem he
  have hlt : i < ks.length := by have := (List.getElem?_eq_some_iff.1 hi).1; rw [hR.len] at this; exact this
  obtain ⟨e', he', hr⟩ := hR.get (i := i) (t := ks[i]) (by simp [hlt])
  rw [hi] at he'; cases he'; exact hr.one
 ·rw [List.nodup_append]
  refine ⟨B1U p, hn, ?_⟩
  rintro x hx y hy rfl
  have h1 := h.inG x hy
  have h2 := (hnn x hx).1
  apply h1
  cases hd : C4 Gi G x with
  | none => rfl
  | some l => rw [C4.le _ _ x l hd] at h2; cases h2
theorem N4.mk3 {G G1 G2 G3 : IM} {k : Int} {nm : ByteArray} {num : Int} {ty fr : Ty} {lb : Int} {ks : List Tm} {tc fc : List Value} {p : Option Addr} {c : Nat} {F1 F2 F3 : List Nat} (hk : C6 k) (hnum : C6 num) (hlb : C6 lb)
  (hl1 : B4 G G1) (hl2 : B4 G1 G2) (hl3 : B4 G2 G3) (h1 : N8 (C4 G1 G) ty tc F1) (n1 : F1.Nodup) (h2 : N8 (C4 G2 G1) fr fc F2) (n2 : F2.Nodup) (h3 : A1b (C4 G3 G2) ks p c F3) (n3 : F3.Nodup) :
  ∃ F, N4 (C4 G3 G) (.mk k nm num ty fr lb ks) ([.int .i64 k, .string nm, .int .i64 num] ++ tc ++ fc ++ [.int .i64 lb, .slice p ks.length c]) F ∧ F.Nodup := by
 obtain ⟨es, Fs, e1, e2, rfl, e4⟩ := h3
 have i3 : ∀ b ∈ H5 p ++ Fs, C4 G3 G2 b ≠ none := by
  intro b hb
  rcases List.mem_append.1 hb with hb | hb
  ·exact e4 b hb
  ·exact e2.inG b hb
 have a2 : B4 (C4 G2 G1) (C4 G3 G) := fun b l h => C4.mono hl3 b l (C4.anti hl1 b l h)
 have a3 : B4 (C4 G3 G2) (C4 G3 G) := C4.anti (hl1.trans hl2)
 refine ⟨F1 ++ (F2 ++ (H5 p ++ Fs)), ?_, ?_⟩
 ·simp only [N4]
  exact ⟨tc, fc, p, c, es, F1, F2, Fs, rfl, hk, hnum, hlb, h1.mono (C4.mono (hl2.trans hl3)), h2.mono a2, e1.mono a3, e2.mono a3, rfl, A2W a3 e4⟩
 ·rw [List.nodup_append, List.nodup_append]
  refine ⟨n1, ⟨n2, n3, A2r h2.inG i3⟩, ?_⟩
  rintro x hx y hy rfl
  rcases List.mem_append.1 hy with hy | hy
  ·exact A2r h1.inG h2.inG x hx x hy rfl
  ·have h1' : ∀ b ∈ F1, C4 G2 G b ≠ none := A2W (C4.mono hl2) h1.inG
   exact A2r h1' i3 x hx x hy rfl
section clawss
variable {P : Program} {Γ : J1} {env : J5} {hp : List A4} {G : IM} {ty : TypeId}
theorem B1V {s d : TypeId} {is id : I7} [hS : D4 P s is] [hD : D4 P d id] (hd : id.desc = .int .u8) {k : IntKind} (hs : is.desc = .int k) {x : Operand} {n : Int} (hx : evo env x = some (.int k n)) (h0 : 0 ≤ n) (h1 : n ≤ 255) :
  E1 P Γ ⟨env, hp, G⟩ (.convert s d x) ty (.int .u8 n) := by
 refine ⟨fun a _ hst _ _ _ _ w => ?_⟩
 have hu := hD.und
 rw [hd] at hu
 have hus := hS.und
 rw [hs] at hus
 have hw : IntKind.u8.wrap n = n := IntWalk.u8_in n ⟨h0, h1⟩
 simp [execOp, convert, run_underlying hus, run_underlying hu, (hst.evo hx : a.eval x = _), Conv.intToInt, hw]
theorem B1W {s d e : TypeId} {is id ie : I7} [hS : D4 P s is] [hD : D4 P d id] [hE : D4 P e ie] (hs : is.desc = .slice e) (he : ie.desc = .int .u8) (hd : id.desc = .string) {x : Operand} {b o n c : Nat} {xs : List Int}
  (hx : evo env x = some (.slice (some ⟨b, o, none⟩) n c)) (hl : xs.length = n) (hv : At hp G b o (xs.map (Value.int .u8))) : A1G P Γ ⟨env, hp, G⟩ (.convert s d x) ty b (.string (strOfNums xs)) := by
 refine ⟨fun a w hst => ?_⟩
 obtain ⟨full, e', f, hb, hf⟩ := hv.read hst
 refine ⟨A0L hb, fun w' hw' d' pos af gd => ?_⟩
 have hus := hS.und
 rw [hs] at hus
 have hue := hE.und
 rw [he] at hue
 have hud := hD.und
 rw [hd] at hud
 have hc := run_convert_bytes_arg (P := P) w' s e hus hue b o n c xs hl (fun i hi => by
  have := hf i (.int .u8 (xs.getD i 0)) (by simp [List.getD, List.getElem?_eq_getElem (show i < xs.length by omega)])
  simp [World.cell?, hw', hb, this]) d hud
 have hx' : a.eval x = _ := hst.evo hx
 simp only [execOp, hx', Sem.run_bind]
 rw [hc]
 rfl
theorem A7G {x y : Operand} {t t' : TypeId} {m n : Nat} (hx : evo env x = some (.int .i64 (m : Int))) (hy : evo env y = some (.int .i64 (n : Int))) (hn : 0 < n) :
  E1 P Γ ⟨env, hp, G⟩ (.binOp .rem t x y t') ty (.int .i64 ((m % n : Nat) : Int)) := by
 have h := A3p (P := P) (Γ := Γ) (hp := hp) (G := G) (ty := ty) (t := t) (t' := t') hx hy (by omega)
 rwa [show ((m : Int).tmod n) = ((m % n : Nat) : Int) from rfl] at h
theorem A7H {x y : Operand} {t t' : TypeId} {m n : Nat} (hx : evo env x = some (.int .i64 (m : Int))) (hy : evo env y = some (.int .i64 (n : Int))) (hn : 0 < n) (hm : m ≤ 9223372036854775807) :
  E1 P Γ ⟨env, hp, G⟩ (.binOp .quo t x y t') ty (.int .i64 ((m / n : Nat) : Int)) := by
 have hd : m / n ≤ m := Nat.div_le_self _ _
 have e : ((m : Int).tdiv n) = ((m / n : Nat) : Int) := rfl
 have h := B1i (P := P) (Γ := Γ) (hp := hp) (G := G) (ty := ty) (t := t) (t' := t') hx hy (by omega) (by rw [e]; generalize m / n = q at *; omega) (by rw [e]; generalize m / n = q at *; omega)
 rwa [e] at h
end clawss
def dgi (k : Nat) : Int := 48 + ((k % 10 : Nat) : Int)
def A7I : Nat → Nat → ByteArray → ByteArray
 | 0, _, out => out
 | f + 1, k, out => if 0 < k then A7I f (k / 10) (strOfNums [dgi k] ++ out) else out
def B1X (k : Nat) : ByteArray := ⟨#[109]⟩ ++ A7I 20 k ⟨⟨[]⟩⟩
def A3A (l : List Int) : List Value := l.map (Value.int .i64 ·)
mutual
def E6 : Tm → Nat
 | .mk _ _ _ _ _ _ ks => I2 ks + 1
def I2 : List Tm → Nat
 | [] => 0
 | t :: ts => E6 t + I2 ts
end
mutual
def A4j : Tm → List Int → List (List Int)
 | .mk _ _ _ _ _ _ ks, path => path :: A7J ks 0 path
def A7J : List Tm → Nat → List Int → List (List Int)
 | [], _, _ => []
 | t :: ts, i, path => A4j t (path ++ [(i : Int)]) ++ A7J ts (i + 1) path
end
theorem A4k : ∀ (a b : List Tm), I2 (a ++ b) = I2 a + I2 b
 | [], b => by simp [I2]
 | t :: a, b => by rw [List.cons_append, I2, I2, A4k a b]; omega
theorem B1Y {ks : List Tm} {i : Nat} (hi : i < ks.length) : I2 (ks.take i) + E6 ks[i] ≤ I2 ks := by
 have h := A4k (ks.take (i + 1)) (ks.drop (i + 1))
 rw [List.take_append_drop, List.take_succ_eq_append_getElem hi, A4k] at h
 simp only [I2] at h
 omega
theorem B1Z {ks : List Tm} {i : Nat} (hi : i < ks.length) : I2 (ks.take (i + 1)) = I2 (ks.take i) + E6 ks[i] := by
 rw [List.take_succ_eq_append_getElem hi, A4k]
 simp only [I2]; omega
theorem Sl.nn {G : IM} {p : Option Addr} {n c sz : Nat} {cs : List Value} (h : Sl G p n c sz cs) : p = none → n = 0 := by
 rintro rfl
 rcases h.2.2.2 with h | ⟨b, o, full, h, _⟩
 ·exact h
 ·cases h
def SPs (G : IM) : List (List Int) → List Value → List Nat → Prop
 | [], es, F => es = [] ∧ F = []
 | l :: ls, es, F => ∃ p c r Fr, es = .slice p l.length c :: r ∧ F = H5 p ++ Fr ∧ Sl G p l.length c 1 (A3A l) ∧ (∀ b ∈ H5 p, G b ≠ none) ∧ (p = none → l.length = 0) ∧ SPs G ls r Fr
def RPs (G : IM) (ls : List (List Int)) (p : Option Addr) (c : Nat) : Prop := ∃ es F, Sl G p ls.length c 1 es ∧ (∀ b ∈ H5 p, G b ≠ none) ∧ SPs G ls es F ∧ (H5 p ++ F).Nodup
mutual
theorem A7K (M D N : Int) : ∀ (t : Tm) (deep c : Int), (S4 M D N t deep c).1 = true → (S4 M D N t deep c).2 = c + E6 t
 | .mk k nm num ty fr lb ks, deep, c, h => by
  rw [S4] at h ⊢
  split at h
  ·cases h
  ·rename_i hc
   rw [if_neg hc, A7L M D N ks (deep + 1) (c + 1) h, E6]
   omega
theorem A7L (M D N : Int) : ∀ (ts : List Tm) (deep c : Int), (T3 M D N ts deep c).1 = true → (T3 M D N ts deep c).2 = c + I2 ts
 | [], deep, c, h => by rw [T3, I2]; simp
 | t :: ts, deep, c, h => by
  rw [T3] at h ⊢
  split at h
  ·rename_i h1
   rw [if_pos h1, A7L M D N ts deep _ h, A7K M D N t deep c h1, I2]
   omega
  ·cases h
end
def B10 (t : Tm) : List (List Int) := if N0 t = true then A4j t [] else []
section slaws
variable {P : Program} {Γ : J1} {env : J5} {hp : List A4} {G : IM} {ty : TypeId}
end slaws
theorem Sl.kid {G : IM} {p : Option Addr} {n c : Nat} {cs : List Value} (h : Sl G p n c 1 cs) {i : Nat} (hi : i < n) :
  ∃ b o v, p = some ⟨b, o, none⟩ ∧ cs[i]? = some v ∧ (∀ hp, At hp G b (o + i * 1) [v]) ∧ G b ≠ none := by
 obtain ⟨h1, h2, h3, h4⟩ := h
 obtain ⟨b, o, full, rfl, hg, hv⟩ := h4.resolve_left (by omega)
 have hlt : i < cs.length := by omega
 refine ⟨b, o, cs[i], rfl, List.getElem?_eq_getElem hlt, fun hp => A4a hg ?_, by rw [hg]; simp⟩
 intro j v hj
 cases j with
 | zero => simp at hj; subst hj; simpa using hv i _ (List.getElem?_eq_getElem hlt)
 | succ j => simp at hj
theorem Sl.le {G : IM} {p : Option Addr} {n c sz : Nat} {cs : List Value} (h : Sl G p n c sz cs) : n ≤ 9223372036854775807 := by
 have h1 := h.2.1; have h2 := h.2.2.1; unfold maxLen at h2; omega


abbrev A1c := List (Nat × List Value)

mutual
def OTy : Ty → List Value → A1c → Prop
 | .mk k ks, cells, bs => ∃ p c, cells = [.int .i64 k, .slice p ks.length c] ∧ C6 k ∧ ks.length ≤ c ∧ c ≤ maxLen ∧ ((ks = [] ∧ bs = []) ∨ ∃ b A C es r, p = some ⟨b, A.length, none⟩ ∧ bs = (b, A ++ (es.flatten ++ C)) :: r ∧ A5z ks es r)
def A5z : List Ty → List (List Value) → A1c → Prop
 | [], es, bs => es = [] ∧ bs = []
 | t :: ts, es, bs => ∃ e e' r1 r2, es = e :: e' ∧ bs = r1 ++ r2 ∧ OTy t e r1 ∧ A5z ts e' r2
end
def A7M (ks : List Ty) (p : Option Addr) (c : Nat) (bs : A1c) : Prop :=
 ks.length ≤ c ∧ c ≤ maxLen ∧ ((ks = [] ∧ bs = []) ∨ ∃ b A C es r, p = some ⟨b, A.length, none⟩ ∧ bs = (b, A ++ (es.flatten ++ C)) :: r ∧ A5z ks es r)
mutual
def OTm : Tm → List Value → A1c → Prop
 | .mk k nm num ty fr lb ks, cells, bs => ∃ tc fc p c bt bf bk, cells = [.int .i64 k, .string nm, .int .i64 num] ++ tc ++ fc ++ [.int .i64 lb, .slice p ks.length c] ∧ C6 k ∧ C6 num ∧ C6 lb ∧ OTy ty tc bt ∧ OTy fr fc bf ∧
   ks.length ≤ c ∧ c ≤ maxLen ∧ ((ks = [] ∧ bk = []) ∨ ∃ b A C es r, p = some ⟨b, A.length, none⟩ ∧ bk = (b, A ++ (es.flatten ++ C)) :: r ∧ A5A ks es r) ∧ bs = bt ++ (bf ++ bk)
def A5A : List Tm → List (List Value) → A1c → Prop
 | [], es, bs => es = [] ∧ bs = []
 | t :: ts, es, bs => ∃ e e' r1 r2, es = e :: e' ∧ bs = r1 ++ r2 ∧ OTm t e r1 ∧ A5A ts e' r2
end
def B11 (ks : List Tm) (p : Option Addr) (c : Nat) (bs : A1c) : Prop :=
 ks.length ≤ c ∧ c ≤ maxLen ∧ ((ks = [] ∧ bs = []) ∨ ∃ b A C es r, p = some ⟨b, A.length, none⟩ ∧ bs = (b, A ++ (es.flatten ++ C)) :: r ∧ A5A ks es r)
mutual
def A7N : Ty → Int
 | .mk _ ks => 1 + Z6 ks
def Z6 : List Ty → Int
 | [] => 0
 | t :: ts => A7N t + Z6 ts
end
mutual
def B12 : Ty → Int → Ty
 | .mk _ ks, k => .mk k (A16 ks (k + 1))
def A16 : List Ty → Int → List Ty
 | [], _ => []
 | t :: ts, k => B12 t k :: A16 ts (k + A7N t)
end
mutual
def A7O : Tm → Int
 | .mk _ _ _ ty fr _ ks => 6 + Z6 ty.ks + Z6 fr.ks + A7P ks
def A7P : List Tm → Int
 | [] => 0
 | t :: ts => A7O t + A7P ts
end
mutual
def B13 : Tm → Int → Tm
 | .mk _ _ _ ty fr _ ks, k => .mk k (B1X (k + 1).toNat) (k + 1 + 1) (.mk (k + 1 + 1 + 1) (A16 ty.ks (k + 1 + 1 + 1 + 1))) (.mk (k + 1 + 1 + 1 + 1 + Z6 ty.ks) (A16 fr.ks (k + 1 + 1 + 1 + 1 + Z6 ty.ks + 1))) (k + 1 + 1 + 1 + 1 + Z6 ty.ks + 1 + Z6 fr.ks) (A4l ks (k + 1 + 1 + 1 + 1 + Z6 ty.ks + 1 + Z6 fr.ks + 1))
def A4l : List Tm → Int → List Tm
 | [], _ => []
 | t :: ts, k => B13 t k :: A4l ts (k + A7O t)
end
section lend
variable {P : Program} {Γ : J1} {env : J5} {hp : List A4} {G : IM} {K : Po} {ops : Array Oper} {rest : List Oper} {ty : TypeId} {pos : String} {af : Array Edge} {gd : Option (Nat × Bool)}
def B6Z (v0 : Value) (G : IM) (Φ : A1c → Prop) : IM → Value → List A4 → Prop := fun G' v outs => G' = G ∧ v = v0 ∧ ∃ bs', outs = A1N bs' ∧ Φ bs'
end lend
def MTm (t : Tm) (k : Int) (cells : List Value) (bs : A1c) : Prop := ∃ pt ct pf cf p c bt bf bk,
 cells = [.int .i64 t.k, .string t.nm, .int .i64 t.num, .int .i64 t.ty.k, .slice pt t.ty.ks.length ct, .int .i64 t.fr.k, .slice pf t.fr.ks.length cf, .int .i64 t.lb, .slice p t.ks.length c] ∧
 A7M (A16 t.ty.ks k) pt ct bt ∧ A7M (A16 t.fr.ks (k + Z6 t.ty.ks)) pf cf bf ∧ B11 (A4l t.ks (k + Z6 t.ty.ks + Z6 t.fr.ks)) p c bk ∧ bs = bt ++ (bf ++ bk)
def A7Q : Nat → Int → List Int
 | 0, _ => []
 | n + 1, k => k :: A7Q n (k + 1)
def OIs (l : List Int) (p : Option Addr) (c : Nat) (bs : A1c) : Prop :=
 l.length ≤ c ∧ c ≤ maxLen ∧ ((l = [] ∧ bs = []) ∨ ∃ b A C, p = some ⟨b, A.length, none⟩ ∧ bs = [(b, A ++ (A3A l ++ C))])
def OPs : List (List Int) → List Value → A1c → Prop
 | [], es, bs => es = [] ∧ bs = []
 | l :: ls, es, bs => ∃ p c e' r1 r2, es = .slice p l.length c :: e' ∧ bs = r1 ++ r2 ∧ OIs l p c r1 ∧ OPs ls e' r2
def B14 : List (List Int) → Int
 | [] => 0
 | l :: ls => l.length + B14 ls
def B15 : List (List Int) → Int → List (List Int)
 | [], _ => []
 | l :: ls, k => A7Q l.length k :: B15 ls (k + l.length)
section lend0
variable {P : Program} {Γ : J1} {env : J5} {G : IM} {K : Po} {ops : Array Oper} {rest : List Oper} {ty : TypeId} {pos : String} {af : Array Edge} {gd : Option (Nat × Bool)}
end lend0
def QPs (G : IM) : List (List Int) → List Value → Prop
 | [], es => es = []
 | l :: ls, es => ∃ p c r, es = .slice p l.length c :: r ∧ Sl G p l.length c 1 (A3A l) ∧ QPs G ls r
mutual
def K0 : Ty → Int
 | .mk _ ks => ks.length + N9 ks
def N9 : List Ty → Int
 | [] => 0
 | t :: ts => K0 t + N9 ts
end
mutual
def Z7 : Tm → Int
 | .mk _ nm _ ty fr _ ks => nm.size + K0 ty + K0 fr + (ks.length + X1 ks)
def X1 : List Tm → Int
 | [] => 0
 | t :: ts => Z7 t + X1 ts
end
mutual
theorem A1d : ∀ t : Ty, 0 ≤ K0 t
 | .mk _ ks => by have := A17 ks; rw [K0]; omega
theorem A17 : ∀ ts : List Ty, 0 ≤ N9 ts
 | [] => by rw [N9]; omega
 | t :: ts => by have := A1d t; have := A17 ts; rw [N9]; omega
end
mutual
theorem A7R : ∀ t : Tm, 0 ≤ Z7 t
 | .mk _ _ _ ty fr _ ks => by have := A4m ks; have := A1d ty; have := A1d fr; rw [Z7]; omega
theorem A4m : ∀ ts : List Tm, 0 ≤ X1 ts
 | [] => by rw [X1]; omega
 | t :: ts => by have := A7R t; have := A4m ts; rw [X1]; omega
end
theorem A5B : ∀ a b : List Ty, N9 (a ++ b) = N9 a + N9 b
 | [], b => by simp [N9]
 | t :: a, b => by rw [List.cons_append, N9, N9, A5B a b]; omega
theorem B16 {ks : List Ty} {i : Nat} (hi : i < ks.length) : N9 (ks.take (i + 1)) = N9 (ks.take i) + K0 ks[i] := by
 rw [List.take_succ_eq_append_getElem hi, A5B, N9, N9]; omega
theorem A7S (ks : List Ty) (i : Nat) : N9 (ks.take i) ≤ N9 ks := by
 have h := A5B (ks.take i) (ks.drop i)
 rw [List.take_append_drop] at h
 have := A17 (ks.drop i); omega
mutual
def Tm.nok : Tm → Prop
 | .mk _ nm _ _ _ _ ks => nm.size ≤ 9223372036854775807 ∧ Tm.nokL ks
def Tm.nokL : List Tm → Prop
 | [] => True
 | t :: ts => t.nok ∧ Tm.nokL ts
end
def B60 (left s : Int) : Int := if s ≤ left then left - s else -1
end Gw
end Go.Proofs.YtgodjiieijekiaaGreatDoor
namespace Go.Proofs.YtgodjiieijekiaaGreatDoor
open Go Go.RowKit Go.ChangeShapes Go.WideShapes Go.ChangeAt
namespace Gw
def GW (w : World) : IM := fun b => match w.heap[b]? with
 | some (.cells c _ _) => some c.toList
 | _ => none
theorem A7T (w : World) : S0 [] (GW w) w := by
 refine ⟨?_, by simp, by simp [Fp], by simp [Fp]⟩
 intro b l h
 unfold GW at h
 split at h
 ·rename_i c e f hb; cases h; exact ⟨e, f, by simpa using hb⟩
 ·cases h
theorem A7U {w : World} {b o : Nat} {v : Value} (h : w.cell? ⟨b, o, none⟩ = some v) : ∃ full, GW w b = some full ∧ full[o]? = some v := by
 unfold World.cell? at h
 simp only at h
 split at h
 ·rename_i c e f hb
  exact ⟨c.toList, by simp [GW, hb], by simpa using h⟩
 ·cases h
theorem A7V {sz : Nat} : ∀ {es : List (List Value)}, (∀ e ∈ es, e.length = sz) → ∀ {j : Nat} {v : Value}, es.flatten[j]? = some v → ∃ i e r, es[i]? = some e ∧ e[r]? = some v ∧ j = i * sz + r
 | [], _, j, v, h => by simp at h
 | a :: es, hall, j, v, h => by
  have ha := hall a List.mem_cons_self
  rw [List.flatten_cons, List.getElem?_append] at h
  split at h
  ·exact ⟨0, a, j, rfl, h, by simp⟩
  ·rename_i hj
   obtain ⟨i, e, r, h1, h2, h3⟩ := A7V (fun x hx => hall x (List.mem_cons_of_mem _ hx)) h
   exact ⟨i + 1, e, r, by simpa using h1, h2, by rw [Nat.succ_mul]; omega⟩
theorem B17 {w : World} {a : Addr} {n c sz : Nat} {es : List (List Value)} (hl : es.length = n) (hsz : 0 < sz) (hc : n ≤ c) (hm : c ≤ maxLen) (h : ∀ i e, es[i]? = some e → w.cells? 0 (a.add (i * sz)) sz = some e) : Sl (GW w) (some a) n c sz es.flatten := by
 have hall : ∀ e ∈ es, e.length = sz := by
  intro e he
  obtain ⟨i, hi⟩ := List.getElem?_of_mem he
  exact (World.cells?_some (h i e hi)).2.1
 refine ⟨by rw [A2q hall, hl], hc, hm, ?_⟩
 rcases Nat.eq_zero_or_pos n with h0 | h0
 ·exact .inl h0
 ·right
  obtain ⟨b, o, s⟩ := a
  have hs : s = none := by
   have h1 := (World.cells?_some (h 0 es[0] (List.getElem?_eq_getElem (by omega)))).2
   have h2 := h1.2 0 hsz
   rw [List.getElem?_eq_getElem (by omega)] at h2
   simp only [Nat.zero_mul, Addr.add, if_true] at h2
   unfold World.cell? at h2
   split at h2
   ·split at h2
    ·cases h2
    ·rename_i hn; cases s with
     | none => rfl
     | some x => simp at hn
   ·cases h2
  subst hs
  have key : ∀ j v, es.flatten[j]? = some v → w.cell? ⟨b, o + j, none⟩ = some v := by
   intro j v hj
   obtain ⟨i, e, r, h1, h2, rfl⟩ := A7V hall hj
   have h3 := (World.cells?_some (h i e h1)).2
   have hr : r < e.length := (List.getElem?_eq_some_iff.1 h2).1
   have h4 := h3.2 r (by omega)
   rw [h2, A13, A13] at h4
   rw [← Nat.add_assoc]; exact h4
  have hpos : 0 < es.flatten.length := by rw [A2q hall, hl]; exact Nat.mul_pos h0 hsz
  obtain ⟨full, hg, _⟩ := A7U (key 0 es.flatten[0] (List.getElem?_eq_getElem hpos))
  refine ⟨b, o, full, rfl, hg, fun j v hj => ?_⟩
  obtain ⟨full', hg', hv⟩ := A7U (key j v hj)
  rw [hg] at hg'; cases hg'; exact hv
theorem F8.snoc {G : IM} : ∀ {ts : List Ty} {es : List (List Value)} {t : Ty} {e : List Value}, F8 G ts es → C3 G t e → F8 G (ts ++ [t]) (es ++ [e])
 | [], es, t, e, h, h2 => by
  simp only [F8] at h; subst h
  simp only [List.nil_append, F8]
  exact ⟨e, [], rfl, h2, rfl⟩
 | t' :: ts, es, t, e, h, h2 => by
  simp only [F8] at h
  obtain ⟨a, r, rfl, h3, h4⟩ := h
  simp only [List.cons_append, F8]
  exact ⟨a, r ++ [e], rfl, h3, F8.snoc h4 h2⟩
theorem E3.snoc {G : IM} : ∀ {ts : List Tm} {es : List (List Value)} {t : Tm} {e : List Value}, E3 G ts es → B1 G t e → E3 G (ts ++ [t]) (es ++ [e])
 | [], es, t, e, h, h2 => by
  simp only [E3] at h; subst h
  simp only [List.nil_append, E3]
  exact ⟨e, [], rfl, h2, rfl⟩
 | t' :: ts, es, t, e, h, h2 => by
  simp only [E3] at h
  obtain ⟨a, r, rfl, h3, h4⟩ := h
  simp only [List.cons_append, E3]
  exact ⟨a, r ++ [e], rfl, h3, E3.snoc h4 h2⟩
theorem F8.each {G : IM} {ts : List Ty} {es : List (List Value)} (h : F8 G ts es) : ∀ e ∈ es, e.length = 2 ∧ e.all (·.oneCell') = true := by
 intro e he
 obtain ⟨i, hi⟩ := List.getElem?_of_mem he
 have := (h.inv hi B8).2
 exact ⟨this.len, this.one⟩
theorem E3.each {G : IM} {ts : List Tm} {es : List (List Value)} (h : E3 G ts es) : ∀ e ∈ es, e.length = 9 ∧ e.all (·.oneCell') = true := by
 intro e he
 obtain ⟨i, hi⟩ := List.getElem?_of_mem he
 have := (h.inv hi (.mk 0 ⟨#[]⟩ 0 B8 B8 0 [])).2
 exact ⟨this.len, this.one⟩
section read
variable {H : Type} {enc : TypeId × Value → H} {w : World} {sp : Nat → Bool} {held : Bool}
end read
theorem Ext.below {w w' : World} (h : Ext (Fp []) w w') : Below w.heap.size w w' := ⟨h.os, h.tape, h.output, h.size, fun k hk => h.block k hk (by simp [Fp])⟩
section post
variable {H : Type} {enc : TypeId × Value → H} {P : Program}
theorem A7W {f : Func} {s : ChangeSpec} {apart fresh handsOn again : Bool} {W W' : World} {args : Array Value} {v : Value} {ds gs : List (DataW H)} {before : List MemPlace}
  (hW : DataW.Whole enc P f.params.toList s.vars apart W args.toList ds gs before) (hb : Below W.heap.size W W') (hgs : s.vars = [])
  (hres : ∀ (b : Nat) (sp : Nat → Bool) (hd : Bool), DataW.TrodAll enc P W' b sp hd f.resultTypes.toList (v.resultList f.resultTypes.size) (s.fn H (ds ++ gs)).results [])
  (hargs : ∀ sp : Nat → Bool, (∀ p ∈ before, sp p.block = true) → DataW.TrodAll enc P W' 0 sp true f.params.toList args.toList (s.fn H (ds ++ gs)).args before)
  (hv : (s.fn H (ds ++ gs)).vars = [])
  (hok : ∀ (j : Nat) (t : TypeId) (r : Value), f.resultTypes[j]? = some t → (v.resultList f.resultTypes.size)[j]? = some r → Value.okWide P W' .any 0 t r) :
  s.post enc P f apart fresh handsOn again W args v W' := by
 have hold : ∀ p ∈ before, (fun b => decide (b < W.heap.size)) p.block = true := fun p hp => by simpa using hW.lt p hp
 have hvars : ∀ sp : Nat → Bool, DataW.TrodVars enc P W' sp s.vars (s.fn H (ds ++ gs)).vars [] := fun sp => by rw [hgs, hv]; rfl
 have hkept : W.keptBut W' (fun _ => False) := by
  refine ⟨hb.os, hb.output, fun i hi => ?_⟩
  rw [hb.block i hi]
  split
  ·rename_i h1 h2; cases h1.symm.trans h2; exact ⟨rfl, rfl, rfl, fun _ _ => rfl⟩
  ·rename_i h1 h2; cases h1.symm.trans h2; exact .inr ⟨rfl, rfl⟩
  ·rfl
 refine ⟨ds, gs, before, [], before, [], hW, hres _ _ _, hargs _ hold, hvars _, World.keptBut_mono (fun p hp => hp.elim) hkept, fun _ => ?_⟩
 obtain ⟨_, _, _, _, _, hz, hn⟩ := hW
 refine ⟨hok, _, _, ([] ++ before) ++ [], ⟨[] ++ before, [], trodAll_append (hargs _ (fun _ _ => rfl)) (hres _ _ _), hvars _, rfl, ?_, ?_⟩, ?_⟩
 ·intro b off hp
  have hp' : MemPlace.cell b off ∈ before := by simpa using hp
  have hlt : b < W.heap.size := of_decide_eq_true (hold _ hp')
  have := hz b off hp'
  unfold World.frozen? at this ⊢
  simp only [hb.block b hlt]
  exact this
 ·intro ha; simpa using hn ha
 ·intro p hp _; simpa using hp
end post
def A0p (G : IM) : Prop := ∃ g, Tryz.prog.globalNamed "internal/strconv.uint64pow10" = some g ∧ G g = some (Lib.pow10Tab.map fun z => Value.int .u64 z)
theorem A0p.mono {G G' : IM} (h : A0p G) (hg : B4 G G') : A0p G' := by
 obtain ⟨g, h1, h2⟩ := h
 exact ⟨g, h1, hg g _ h2⟩
theorem A7X {G : IM} {w : World} (hw : S0 [] G w) (k : Nat) (os : Array Obj) : O1 [] G w [] G (Sort.grow (w.drewN k) os) := by
 have hb : ∀ b, b < w.heap.size → (Sort.grow (w.drewN k) os).heap[b]? = w.heap[b]? := by
  intro b h
  show (w.heap ++ os)[b]? = _
  rw [Array.getElem?_append_left h]
 refine ⟨⟨?_, by simp, by simp [Fp], by simp [Fp]⟩, ⟨rfl, rfl, rfl, ?_, fun b h _ => hb b h⟩, B4.refl _, fun _ _ h => .inl h, by simp [Fp], fun b l h h0 => absurd h (by rw [h0]; simp)⟩
 ·intro b l h
  obtain ⟨e, f, hh⟩ := hw.inn b l h
  exact ⟨e, f, by rw [hb b (A0L hh)]; exact hh⟩
 ·show w.heap.size ≤ (w.heap ++ os).size
  simp
theorem A7Y (n : Int) (G : IM) (h : A0p G) (h0 : 0 ≤ n) (h1 : n ≤ 999) : Fn Tryz.prog 85 [.int .i64 n] [] G (H3 (.string ⟨(Lib.decDigits n.toNat).toArray⟩) G) := by
 refine ⟨fun w hw => ?_⟩
 have ht : Lib.TabIs Tryz.prog w "internal/strconv.uint64pow10" .u64 Lib.pow10Tab := by
  obtain ⟨g, hg, hG⟩ := h
  obtain ⟨e, f, hh⟩ := hw.inn g _ hG
  unfold Lib.TabIs World.var?
  rw [hg]
  simp only [Option.bind_some, hh]
 refine (Tryz.strconv_Itoa n (by omega) (by omega) w ht).mono ?_
 rintro e w' ⟨rfl, k, os, rfl⟩
 refine ⟨_, G, [], rfl, A7X hw k os, rfl, ?_, rfl⟩
 unfold Lib.itoa
 rw [if_neg (by omega)]
end Gw
end Go.Proofs.YtgodjiieijekiaaGreatDoor
namespace Go.Proofs.YtgodjiieijekiaaGreatDoor
open Go Go.RowKit Go.ChangeShapes Go.WideShapes Go.ChangeAt
namespace Gw
theorem A5C : Tryz.prog.globalNamed "internal/strconv.uint64pow10" = some 1 := by kernel_rfl
theorem B18 : (Tryz.prog.globals[1]?).map (·.type) = some 212 := by kernel_rfl
theorem B19 : Tryz.prog.cellsOf 212 = 20 := by kernel_rfl
theorem B2a : Tryz.prog.cellsOf 194 = 1 := by kernel_rfl
def A7Z : List (String × DataW Unit) := [("math/bits.deBruijn32tab", Rows.laid_math_bits_deBruijn32tab), ("math/bits.deBruijn64tab", Rows.laid_math_bits_deBruijn64tab), ("internal/strconv.uint64pow10", Rows.laid_internal_strconv_uint64pow10)]
theorem A70 {W : World} (h : laidMetH Tryz.prog A7Z W) : A0p (GW W) := by
 have h1 : laidMet Tryz.prog A7Z W := h
 have h3 := h1.tail.tail
 have ht : Lib.TabIs Tryz.prog W "internal/strconv.uint64pow10" .u64 Lib.pow10Tab :=
  Lib.tabIs_of_head (rest := []) A5C B18 Tryz.underlying212 Tryz.underlying194 B2a B19 h3
 refine ⟨1, A5C, ?_⟩
 unfold Lib.TabIs World.var? at ht
 rw [A5C] at ht
 simp only [Option.bind_some] at ht
 unfold GW
 split at ht
 ·rename_i c e f hb
  rw [hb]
  have := Option.some.inj ht
  simp [this]
 ·cases ht
def A5D : DataW Unit → Array Value
 | .agg xs => (xs.map fun | .lit (.int k n) => Value.int k n | _ => .int .i64 0).toArray
 | _ => #[]
def A5E (xs : Array Value) : Obj → Obj
 | .cells _ t f => .cells xs t f
 | o => o
noncomputable def A2X (os : Os) : World :=
 { World.holding Tryz.prog os ⟨#[], #[], []⟩ with heap := (((World.holding Tryz.prog os ⟨#[], #[], []⟩).heap.modify 1 (A5E (A5D Rows.laid_internal_strconv_uint64pow10))).modify 4 (A5E (A5D Rows.laid_math_bits_deBruijn32tab))).modify 5 (A5E (A5D Rows.laid_math_bits_deBruijn64tab)) }
end Gw
end Go.Proofs.YtgodjiieijekiaaGreatDoor
namespace Go.Proofs.YtgodjiieijekiaaGreatDoor
open Go Go.RowKit Go.ChangeShapes Go.WideShapes Go.ChangeAt
namespace Gw
section read2
variable {H : Type} {enc : TypeId × Value → H} {w : World} {sp : Nat → Bool} {held : Bool}
end read2
section rlaws
variable {P : Program} {Γ : J1} {env : J5} {hp : List A4} {G : IM} {ty : TypeId}
theorem B2b {m n : Nat} (hm : m < 4611686018427387904) (hn : n < 4611686018427387904) : m ^^^ n < 4611686018427387904 := by
 have := @Nat.xor_lt_two_pow m n 62 (by omega) (by omega)
 simpa using this
theorem B2c {x y : Operand} {t t' : TypeId} {m n : Nat} (hx : evo env x = some (.int .i64 (m : Int))) (hy : evo env y = some (.int .i64 (n : Int))) (hm : m < 4611686018427387904) (hn : n < 4611686018427387904) :
  E1 P Γ ⟨env, hp, G⟩ (.binOp .xor t x y t') ty (.int .i64 ((m ^^^ n : Nat) : Int)) := by
 refine ⟨fun a _ hs _ _ _ _ w => ?_⟩
 have hlt := B2b hm hn
 have e : (BitVec.ofInt 64 (m : Int) ^^^ BitVec.ofInt 64 (n : Int)).toNat = m ^^^ n := by
  rw [BitVec.toNat_xor, BitVec.toNat_ofInt, BitVec.toNat_ofInt]
  congr 1 <;> omega
 have hw : IntKind.i64.wrap (((BitVec.ofInt 64 (m : Int) ^^^ BitVec.ofInt 64 (n : Int)).toNat : Nat) : Int) = ((m ^^^ n : Nat) : Int) := by
  rw [e]; exact A2M _ rfl (by omega) (by omega)
 simp only [execOp, eqGuard, binOp, Op.intBits, (hs.evo hx : a.eval x = _), (hs.evo hy : a.eval y = _), ne_eq, not_true_eq_false, if_false, Sem.run_bind, Sem.run_pure, Result.andThen_ok]
 rw [show IntKind.bits .i64 = 64 from rfl] at *
 simp only [hw]
 simp
theorem A3B {x y : Operand} {t t' : TypeId} {m n : Nat} (hx : evo env x = some (.int .i64 (m : Int))) (hy : evo env y = some (.int .i64 (n : Int))) (h : m * n ≤ 9223372036854775807) :
  E1 P Γ ⟨env, hp, G⟩ (.binOp .mul t x y t') ty (.int .i64 ((m * n : Nat) : Int)) := by
 have e : ((m : Int) * (n : Int)) = ((m * n : Nat) : Int) := by simp
 have h2 := B1h (P := P) (Γ := Γ) (hp := hp) (G := G) (ty := ty) (t := t) (t' := t') hx hy (by rw [e]; omega) (by rw [e]; omega)
 rwa [e] at h2
theorem Z8 {x y : Operand} {t t' : TypeId} {m n : Nat} (hx : evo env x = some (.int .i64 (m : Int))) (hy : evo env y = some (.int .i64 (n : Int))) (h : m + n ≤ 9223372036854775807) :
  E1 P Γ ⟨env, hp, G⟩ (.binOp .add t x y t') ty (.int .i64 ((m + n : Nat) : Int)) := by
 have e : ((m : Int) + (n : Int)) = ((m + n : Nat) : Int) := by simp
 have h2 := H6 (P := P) (Γ := Γ) (hp := hp) (G := G) (ty := ty) (t := t) (t' := t') hx hy (by rw [e]; omega) (by rw [e]; omega)
 rwa [e] at h2
theorem A4n {x y : Operand} {t t' : TypeId} {m : Nat} (hx : evo env x = some (.int .i64 ((m + 1 : Nat) : Int))) (hy : evo env y = some (.int .i64 1)) (h : m ≤ 9223372036854775807) :
  E1 P Γ ⟨env, hp, G⟩ (.binOp .sub t x y t') ty (.int .i64 (m : Int)) := by
 have e : (((m + 1 : Nat) : Int) - 1) = (m : Int) := by omega
 have h2 := L7 (P := P) (Γ := Γ) (hp := hp) (G := G) (ty := ty) (t := t) (t' := t') hx hy (by rw [e]; omega) (by rw [e]; omega)
 rwa [e] at h2
theorem A5F {s d : TypeId} {is id : I7} [hS : D4 P s is] [hD : D4 P d id] (hd : id.desc = .int .i64) {k : IntKind} (hs : is.desc = .int k) {x : Operand} {n : Int} (hx : evo env x = some (.int k n)) (h0 : -9223372036854775808 ≤ n) (h1 : n ≤ 9223372036854775807) :
  E1 P Γ ⟨env, hp, G⟩ (.convert s d x) ty (.int .i64 n) := by
 refine ⟨fun a _ hst _ _ _ _ w => ?_⟩
 have hu := hD.und
 rw [hd] at hu
 have hus := hS.und
 rw [hs] at hus
 have hw : IntKind.i64.wrap n = n := A2M n rfl h0 h1
 simp [execOp, convert, run_underlying hus, run_underlying hu, (hst.evo hx : a.eval x = _), Conv.intToInt, hw]
theorem A1q {x y : Operand} {t el : TypeId} {i : I7} {sz by' : Nat} {zs : List Value} [hI : D4 P t i] (hd' : i.desc = .slice el) [hE : S1 P el sz by' zs] {p : Option Addr} {n c l : Nat}
  (hx : evo env x = some (.slice p n c)) (hy : evo env y = some (.int .i64 (l : Int))) (hl : l ≤ c) :
  E1 P Γ ⟨env, hp, G⟩ (.slice t x none (some y) none) ty (.slice p l c) := by
 refine ⟨fun a _ hs _ _ _ _ w => ?_⟩
 have hu := hI.und
 rw [hd'] at hu
 obtain ⟨d, hE⟩ := hE.ok
 obtain ⟨inf, z, t1, t2, t3, _⟩ := A15 (P := P) (t := el)
 have e1 : a.eval x = _ := hs.evo hx
 have e2 : a.eval y = _ := hs.evo hy
 have hb : ∀ code, (Instr.sliceBound (.int .i64 (l : Int)) c code).run P w = .ok l w := fun code => by
  unfold Instr.sliceBound
  simp only [asIntOf, Sem.run_bind, Sem.run_pure, Result.andThen_ok]
  rw [if_pos ⟨by omega, by omega⟩]
  simp
 simp only [execOp, Option.map, e1, e2, Instr.sliceAt, Sem.run_bind, run_underlying hu, Result.andThen_ok, Instr.slice, Instr.sliceBounds, Sem.run_pure, hb, t3]
 by_cases h : c = 0
 ·subst h; simp
 ·rw [if_neg h]; simp; cases p <;> simp [Addr.add]
end rlaws
def N1 (bs : List UInt8) : List Value := bs.map fun b => .int .u8 (b.toNat : Int)
theorem A71 (bs : List UInt8) : (N1 bs).length = bs.length := by simp [N1]
theorem A5G {bs : List UInt8} {i : Nat} {v : Value} (h : (N1 bs)[i]? = some v) : ∃ b : Nat, b < 256 ∧ v = .int .u8 (b : Int) := by
 unfold N1 at h
 rw [List.getElem?_map] at h
 cases hb : bs[i]? with
 | none => rw [hb] at h; simp at h
 | some b => rw [hb] at h; simp at h; exact ⟨b.toNat, b.toNat_lt, h.symm⟩
def rd (br : Nat) (pb : Option Addr) (nb cb p : Nat) : A4 := .blk br [.slice pb nb cb, .int .i64 (p : Int)]
def A0q (br : Nat) (pb : Option Addr) (nb cb p B : Nat) (Φ : IM → Value → Prop) : IM → Value → List A4 → Prop := fun G' v outs => ∃ p', p ≤ p' ∧ p' ≤ p + B ∧ outs = [rd br pb nb cb p'] ∧ Φ G' v
theorem X2 (G : IM) (br : Nat) (pb : Option Addr) (nb cb p : Nat) (bs : List UInt8) (n : Int) (hb : Sl G pb nb cb 1 (N1 bs)) (hnb : nb ≤ 2000) (hp : p < 1099511627776) :
  Fn Tryz.prog 59 [.pointer (some ⟨br, 0, none⟩), .int .i64 n] [rd br pb nb cb p] G (fun G' v outs => G' = G ∧ outs = [rd br pb nb cb (p + 1)] ∧ ∃ k, v = .int .i64 k ∧ 0 ≤ k ∧ (1 ≤ n → k < n)) := by
 unfold rd
 have hm1 : ∀ q, 0 < nb → q % nb < nb := fun q h => Nat.mod_lt _ h
 have hdv : p / nb ≤ p := Nat.div_le_self _ _
 refine B7 Tryz.func59 rfl Tryz.ntmps59 Tryz.results59 rfl ?_
 intro w0
 refine tS (tR (sQ (qA rfl) rfl (sD (nS (tS (tR (sQ (qM rfl) rfl (sQ (qM rfl) rfl ?_))))))))
 refine sQ (J6 rfl) rfl ?_
 refine sQ (A3 rfl) rfl (sL (A5 rfl rfl) rfl rfl ?_)
 refine sP (Z8 (n := 1) rfl rfl (by omega)) rfl rfl ?_
 refine sQ (J6 rfl) rfl ?_
 refine sQ (A3 rfl) rfl (B9 ?_)
 refine sD (nS (tS (tS (tR (sQ (qM rfl) rfl ?_)))))
 refine sB (J3 rfl rfl) rfl rfl (fun h23 => ?_) (fun h23 => ?_)
 refine V6 ?_
 refine E5 (rT rfl) A0.refl ?_
 exact ⟨rfl, rfl, 0, rfl, Int.le_refl _, fun h => by omega⟩
 refine sQ (qM rfl) rfl (sQ (qM rfl) rfl ?_)
 refine sQ (J6 rfl) rfl ?_
 refine sQ (A3 rfl) rfl (sL (A5 rfl rfl) rfl rfl (sQ (D8 rfl rfl) rfl ?_))
 refine sB (qE rfl rfl) rfl rfl (fun h50 => ?_) (fun h50 => ?_)
 refine sQ (D7 rfl rfl) rfl (sD (nS (qT rfl (tS (tR (sQ (qA rfl) rfl (sD (nS (tT (rS ?_))))))))))
 refine E5 (rT rfl) A0.refl ?_
 exact ⟨rfl, rfl, 0, rfl, Int.le_refl _, fun h => by omega⟩
 refine sQ (D7 rfl rfl) rfl (sD (nS (cF rfl (tK (nS (tS (tR (sQ (qM rfl) rfl ?_))))))))
 refine sQ (J6 rfl) rfl ?_
 refine sQ (A3 rfl) rfl (sL (A5 rfl rfl) rfl rfl ?_)
 refine sP (A4n rfl rfl (by omega)) rfl rfl ?_
 refine sQ (qA rfl) rfl (sD (nS (tS (tS (tR (sQ (qM rfl) rfl (sQ (qM rfl) rfl ?_)))))))
 refine sQ (J6 rfl) rfl ?_
 refine sQ (A3 rfl) rfl (sL (A5 rfl rfl) rfl rfl (sQ (D8 rfl rfl) rfl ?_))
 refine sB (J3 rfl rfl) rfl rfl (fun h89 => ?_) (fun h89 => ?_)
 refine sD (nS (qT rfl (tS (tR (sQ (qM rfl) rfl ?_)))))
 refine sQ (J6 rfl) rfl ?_
 refine sQ (A3 rfl) rfl (sL (A5 rfl rfl) rfl rfl (sQ (qM rfl) rfl ?_))
 (obtain ⟨b, o, v, rfl, hv, hat, hgb⟩ := hb.kid (i := p) (by omega); obtain ⟨y, hy, rfl⟩ := A5G hv; refine sP (C2 rfl rfl rfl (by omega)) rfl rfl ?_)
 refine sL (Q2 rfl rfl (hat _)) rfl rfl ?_
 refine sP (A5F rfl rfl rfl (by omega) (by omega)) rfl rfl ?_
 refine sQ (qM rfl) rfl ?_
 refine sP (A3p rfl rfl (by omega)) rfl rfl ?_
 refine sQ (qA rfl) rfl (sD (nS (tT (rS ?_))))
 refine E5 (rT rfl) A0.refl ?_
 exact ⟨rfl, rfl, _, rfl, Int.tmod_nonneg _ (by omega), fun h => Int.tmod_lt_of_pos _ (by omega)⟩
 refine sD (nS (cF rfl (tK (nS (tS ?_)))))
 (obtain ⟨b, o, v1, rfl, hv1, hat1, _⟩ := hb.kid (i := HMod.hMod p nb) (hm1 _ (by omega)); obtain ⟨y1, hy1, rfl⟩ := A5G hv1; obtain ⟨b', o', v2, hbb, hv2, hat2, _⟩ := hb.kid (i := HMod.hMod (p * 7 + 3) nb) (hm1 _ (by omega)); obtain ⟨y2, hy2, rfl⟩ := A5G hv2; cases hbb; have hl1 := hm1 p (by omega); have hl2 := hm1 (p * 7 + 3) (by omega); refine I0 I1 rfl ?_)
 refine J2 (i := 0) (l' := [tt,ff,ff,ff,ff,ff,ff,ff,ff,ff,ff,ff,ff,ff,ff,ff,ff,ff,ff,ff,ff,ff,ff,ff,ff,ff,ff,ff,ff,ff,ff,ff,ff,ff,ff,ff,ff,ff,ff,ff,ff,ff,ff,ff,ff,ff]) rfl F4 (qM rfl) rfl (by kernel_rfl) rfl rfl ?_
 refine aP 1 rfl (J6 rfl) rfl ?_
 refine aP 2 rfl (A3 rfl) rfl ?_
 refine aL 3 rfl (A5 rfl rfl) rfl ?_
 refine aP 4 rfl (qM rfl) rfl ?_
 refine aP 5 rfl (qM rfl) rfl ?_
 refine aP 6 rfl (J6 rfl) rfl ?_
 refine aP 7 rfl (A3 rfl) rfl ?_
 refine aL 8 rfl (A5 rfl rfl) rfl ?_
 refine aP 9 rfl (D8 rfl rfl) rfl ?_
 refine aP 10 rfl (A7G rfl rfl (by omega)) rfl ?_
 refine aP 11 rfl (C2 rfl rfl rfl (by first | exact hl1 | exact hl2)) rfl ?_
 refine aL 12 rfl (Q2 rfl rfl (hat1 _)) rfl ?_
 refine aP 13 rfl (A5F rfl rfl rfl (by omega) (by omega)) rfl ?_
 refine aP 14 rfl (A3B (n := 131) rfl rfl (by omega)) rfl ?_
 refine aP 15 rfl (qM rfl) rfl ?_
 refine aP 16 rfl (J6 rfl) rfl ?_
 refine aP 17 rfl (A3 rfl) rfl ?_
 refine aL 18 rfl (A5 rfl rfl) rfl ?_
 refine aP 19 rfl (qM rfl) rfl ?_
 refine aP 20 rfl (A3B (n := 7) rfl rfl (by omega)) rfl ?_
 refine aP 21 rfl (Z8 (n := 3) rfl rfl (by omega)) rfl ?_
 refine aP 22 rfl (qM rfl) rfl ?_
 refine aP 23 rfl (J6 rfl) rfl ?_
 refine aP 24 rfl (A3 rfl) rfl ?_
 refine aL 25 rfl (A5 rfl rfl) rfl ?_
 refine aP 26 rfl (D8 rfl rfl) rfl ?_
 refine aP 27 rfl (A7G rfl rfl (by omega)) rfl ?_
 refine aP 28 rfl (C2 rfl rfl rfl (by first | exact hl1 | exact hl2)) rfl ?_
 refine aL 29 rfl (Q2 rfl rfl (hat2 _)) rfl ?_
 refine aP 30 rfl (A5F rfl rfl rfl (by omega) (by omega)) rfl ?_
 refine aP 31 rfl (A3B (n := 1117) rfl rfl (by omega)) rfl ?_
 refine aP 32 rfl (Z8 rfl rfl (by omega)) rfl ?_
 refine aP 33 rfl (qM rfl) rfl ?_
 refine aP 34 rfl (A3B (n := 29) rfl rfl (by omega)) rfl ?_
 refine aP 35 rfl (Z8 rfl rfl (by omega)) rfl ?_
 refine aP 36 rfl (qM rfl) rfl ?_
 refine aP 37 rfl (qM rfl) rfl ?_
 refine aP 38 rfl (J6 rfl) rfl ?_
 refine aP 39 rfl (A3 rfl) rfl ?_
 refine aL 40 rfl (A5 rfl rfl) rfl ?_
 refine aP 41 rfl (D8 rfl rfl) rfl ?_
 refine aP 42 rfl (A7H rfl rfl (by omega) (by omega)) rfl ?_
 refine aP 43 rfl (A3B (n := 53) rfl rfl (by omega)) rfl ?_
 refine aP 44 rfl (Z8 rfl rfl (by omega)) rfl ?_
 refine aP 45 rfl (qA rfl) rfl ?_
 refine D6 (nS (tS (tR (sQ (qM rfl) rfl (sQ (qM rfl) rfl ?_)))))
 refine sP (A7H (n := 64) rfl rfl (by omega) (by omega)) rfl rfl ?_
 refine sP (B2c rfl rfl (by omega) (by omega)) rfl rfl ?_
 refine sQ (qA rfl) rfl (sD (nS (tS (tR (sQ (qM rfl) rfl (sQ (qM rfl) rfl ?_))))))
 refine sP (A3p rfl rfl (by omega)) rfl rfl ?_
 refine sQ (qA rfl) rfl (sD (nS (tT ?_)))
 refine E5 (rT rfl) A0.refl ?_
 exact ⟨rfl, rfl, _, rfl, Int.tmod_nonneg _ (by omega), fun h => Int.tmod_lt_of_pos _ (by omega)⟩
end Gw
end Go.Proofs.YtgodjiieijekiaaGreatDoor
namespace Go.Proofs.YtgodjiieijekiaaGreatDoor
open Go Go.RowKit Go.ChangeShapes Go.WideShapes Go.ChangeAt
namespace Gw
theorem B2d : Tryz.prog.cellsOf 5 = 1 := by kernel_rfl
theorem A72 {q : Nat → Value → Prop} : ∀ {n : Nat}, (∀ i, i < n → ∃ k : UInt8, q i (.int .u8 (k.toNat : Int))) → ∃ l : List UInt8, l.length = n ∧ ∀ i v, (N1 l)[i]? = some v → q i v
 | 0, _ => ⟨[], rfl, by simp [N1]⟩
 | n + 1, h => by
  obtain ⟨l, h1, h2⟩ := A72 (n := n) fun i hi => h i (by omega)
  obtain ⟨k, hk⟩ := h n (by omega)
  refine ⟨l ++ [k], by simp [h1], fun i v hv => ?_⟩
  rw [show N1 (l ++ [k]) = N1 l ++ [.int .u8 (k.toNat : Int)] from by simp [N1], List.getElem?_append] at hv
  split at hv
  ·exact h2 i v hv
  ·rename_i hi
   rw [A71] at hi hv
   have : i - l.length = 0 := by
    have := (List.getElem?_eq_some_iff.1 hv).1; simp at this; omega
   rw [this] at hv; simp at hv; subst hv
   rw [show i = n by omega]; exact hk
section read2
variable {H : Type} {enc : TypeId × Value → H} {w : World} {sp : Nat → Bool} {held : Bool}
theorem A5H (n : Nat) (cs : List Value) (x : DataW H × List MemPlace) (h : DataW.trod enc Tryz.prog w 0 sp held n 22 cs = some x) : ∃ (l : List UInt8) (p : Option Addr) (c : Nat), cs = [.slice p l.length c] ∧ Sl (GW w) p l.length c 1 (N1 l) := by
 rcases DataW.trod_slice Tryz.underlying22 h with ⟨rfl, _⟩ | ⟨ad, len, cap, elems, rest, n', rfl, rfl, _, _, hlc, hcm, hel, hele, _, _⟩
 ·exact ⟨[], none, 0, rfl, Sl.nil _ _⟩
 ·rw [B2d] at hele
  obtain ⟨l, h1, h2⟩ := A72 (q := fun i v => w.cells? 0 (ad.add (i * 1)) 1 = some [v]) (n := len) fun i hi => by
   have := hele i hi
   rw [List.getElem?_eq_getElem (by omega)] at this
   obtain ⟨cs', c1, c2⟩ := Option.bind_eq_some_iff.1 this
   obtain ⟨k, rfl, _, hw⟩ := DataW.trod_int Tryz.underlying5 c2
   have hk : 0 ≤ k ∧ k < 256 := by
    have hw2 : (decide ((0 : Int) ≤ k) && decide (k ≤ (255 : Int))) = true := hw
    simp only [Bool.and_eq_true, decide_eq_true_eq] at hw2
    omega
   refine ⟨UInt8.ofNat k.toNat, ?_⟩
   rw [show ((UInt8.ofNat k.toNat).toNat : Int) = k from by
    rw [UInt8.toNat_ofNat']; omega]
   exact c1
  subst h1
  refine ⟨l, some ad, cap, rfl, ?_⟩
  have := B17 (w := w) (a := ad) (n := l.length) (c := cap) (sz := 1) (es := (N1 l).map fun v => [v]) (by simp [A71]) (by omega) hlc hcm fun i e he => by
   rw [List.getElem?_map] at he
   cases hv : (N1 l)[i]? with
   | none => rw [hv] at he; simp at he
   | some v => rw [hv] at he; simp at he; subst he; exact h2 i v hv
  have hf : ((N1 l).map fun v => [v]).flatten = N1 l := by
   generalize N1 l = L
   induction L with
   | nil => rfl
   | cons a L ih => simp [ih]
  rwa [hf] at this
end read2
theorem A73 : ∀ (t : Ty) (G : IM) (cells : List Value), t.small → C3 G t cells →
  Fn Tryz.prog 135 [.agg ⟨cells⟩] [] G (I9 fun G' v => ∃ cells' F, v = .agg ⟨cells'⟩ ∧ N8 (C4 G' G) t cells' F ∧ F.Nodup) := by
 refine Ty.ind fun k ks ih G cells hts hr => ?_
 simp only [Ty.small] at hts
 obtain ⟨hsm, hks⟩ := hts
 obtain ⟨p, c, es, rfl, hk, hsl, hkl⟩ := hr.open
 simp only [Ty.k, Ty.ks] at hk hsl hkl ⊢
 have hn := hsl.le
 refine B7 Tryz.func135 rfl Tryz.ntmps135 Tryz.results135 rfl ?_
 intro w0
 refine tS (tR ?_)
 refine sE (D5 rfl rfl) rfl (fun b3 => ?_)
 refine sE (B6 rfl) rfl (fun b4 => ?_)
 refine sD (nS (tS (tR (sQ (A3 rfl) rfl (sL (A5 rfl rfl) rfl rfl (sQ (D9 rfl rfl) rfl ?_))))))
 refine sE (B6 rfl) rfl (fun b12 => ?_)
 refine B9 ?_
 refine sD (nS (tS (tS (tR (sQ (A3 rfl) rfl (sL (A5 rfl rfl) rfl rfl (sQ (D8 rfl rfl) rfl (sQ (qM rfl) rfl (sD (nS ?_))))))))))
 refine B5 ?_
 (refine W1 25 2 ?_; refine K4 (fun (x : Nat × Option Addr × Nat × List (List Value) × List Nat × IM) => ⟨[(12, .int .i64 x.1), (11, .int .i64 ks.length), (10, .slice p ks.length c), (3, .pointer (some ⟨b12, 0, none⟩)), (2, .pointer (some ⟨b4, 0, none⟩))], [.blk b12 [.int .i64 k, .slice x.2.1 x.1 x.2.2.1], .slc x.2.1 x.2.2.1 25 2 x.1 x.2.2.2.1.flatten, .blk b4 [.int .i64 0, .slice none 0 0]], x.2.2.2.2.2⟩) (fun x => x.1 ≤ ks.length ∧ B4 G x.2.2.2.2.2 ∧ L8 (C4 x.2.2.2.2.2 G) (ks.take x.1) x.2.2.2.1 x.2.2.2.2.1 ∧ x.2.2.2.2.1.Nodup) (fun x => ks.length - x.1) (0, none, 0, [], [], G) ?_ ?_ ?_)
 (simp only [E2]; exact O2 (by repeat (first | exact E4.nil | refine E4.cons rfl ?_)) (by repeat (first | exact A0.refl | exact A0.nil | refine A0.cons (by repeat (first | exact Pk.here | apply Pk.there)) ?_)))
 exact ⟨by simp, B4.refl _, by simp [L8], by simp⟩
 (rintro ⟨i, pn, cn, es', F, Gi⟩ ⟨hi, hle, hst, hnd⟩; simp only [] at hi hle hst hnd ⊢; replace hsl := hsl.mono hle; replace hkl := hkl.mono hle)
 refine tS (tR ?_)
 refine sB (J3 rfl rfl) rfl rfl (fun h32 => ?_) (fun h32 => ?_)
 refine sD (nS (tS (qT rfl (tK (nS (tS ?_))))))
 refine B5 ?_
 refine tS (tR ?_)
 (obtain ⟨b, o, p2, c2, rfl, hat, hre, hgb⟩ := hsl.kidTy hkl (i := i) (by omega) (by omega); refine sP (C2 rfl rfl rfl (by omega)) rfl rfl ?_)
 refine sL (A9 rfl rfl (hat _) rfl) rfl rfl ?_
 refine sE (B6 rfl) rfl (fun b45 => ?_)
 refine B9 ?_
 refine sD (nS ?_)
 refine I0 I1 rfl ?_
 refine J2 (i := 0) (l' := [tt,ff,ff,ff,ff,ff,ff,ff]) rfl F4 (A3 rfl) rfl (by kernel_rfl) rfl rfl ?_
 refine aL 1 rfl (A5 rfl rfl) rfl ?_
 refine aL 2 rfl (A7 rfl rfl) rfl ?_
 refine A8 3 ?_
 (refine Q0 rfl rfl (ih _ (List.getElem_mem (by omega)) _ _ (Ty.smallL_mem hks _ (List.getElem_mem (by omega))) hre) rfl rfl rfl (fun v G1 hle1 hh => ?_); obtain ⟨cells', F', rfl, hs', hnd'⟩ := hh; obtain ⟨p3, c3, es3, rfl, _⟩ := hs'.R.open)
 refine A8 4 ?_
 (refine J9 rfl (D0 rfl rfl rfl (by omega) (by unfold maxLen; omega) rfl) rfl rfl ?_; rintro _ ⟨b56, rfl⟩)
 refine A8 5 ?_
 refine S9 rfl rfl rfl rfl rfl rfl (fun _ _ => by repeat (first | exact Sw.here | apply Sw.there)) (K9 (by repeat first | exact mH | apply mT)) rfl (by simp [Value.oneCell']) (by unfold maxLen; omega) (by omega) rfl rfl (by repeat (first | exact B0.nil | apply B0.dep (by kernel_rfl) | apply B0.blk (by kernel_rfl) (by repeat (first | exact Pk.here | apply Pk.there)) (by repeat first | exact mH | apply mT))) (fun pn' cn' => ?_)
 refine aP 6 rfl (A3 rfl) rfl ?_
 refine A8 7 ?_
 refine P3 rfl rfl rfl rfl rfl rfl rfl rfl (by kernel_rfl) (by repeat first | exact Sw.here | apply Sw.there) (by rfl) ?_
 refine D6 (C8 (nS (tR ?_)))
 refine sP (H6 rfl rfl (by omega) (by omega)) rfl rfl ?_
 refine sQ (qM rfl) rfl (sD ?_)
 refine K3 (i + 1, pn', cn', es' ++ [[.int .i64 ks[i].k, .slice p3 ks[i].ks.length c3]], F ++ F', G1) ?_ ?_ ?_
 (simp only [E2]; exact O2 (by repeat (first | exact E4.nil | refine E4.cons rfl ?_)) (by repeat (first | exact A0.refl | exact A0.nil | refine A0.cons (by repeat (first | exact Pk.here | apply Pk.there)) ?_)))
 exact ⟨by omega, hle.trans hle1, L8.step hst hnd hle hle1 (by omega) hs' hnd'⟩
 (show ks.length - (i + 1) < ks.length - i; omega)
 refine sD (nS (tS (cF rfl (M7 (M8 (N3 (M9 (nS (tS (tR (sL (A7 rfl rfl) rfl rfl (B9 ?_))))))))))))
 refine sD (nS ?_)
 (refine Q4 (by repeat (first | exact Pk.here | apply Pk.there)) (fun G2 hle2 hsl2 hno2 => ?_); obtain rfl : i = ks.length := by omega)
 refine tT ?_
 refine A6 (rC rfl (A7 rfl rfl)) ?_
 (rw [List.take_length] at hst; obtain ⟨F2, hf1, hf2⟩ := N8.fin hst hnd hle hle2 hsl2 hno2 hk; exact ⟨rfl, _, F2, rfl, hf1, hf2⟩)
def B2e (t : Ty) (G : IM) : IM → Value → List A4 → Prop := I9 fun G' v => ∃ cells' F, v = .agg ⟨cells'⟩ ∧ N8 (C4 G' G) t cells' F ∧ F.Nodup
def B61 (ks : List Ty) (G : IM) : IM → Value → List A4 → Prop := I9 fun G' v => ∃ p c F, v = .slice p ks.length c ∧ A7F (C4 G' G) ks p c F ∧ F.Nodup
def A3C (t : Tm) (G : IM) : IM → Value → List A4 → Prop := I9 fun G' v => ∃ cells' F, v = .agg ⟨cells'⟩ ∧ N4 (C4 G' G) t cells' F ∧ F.Nodup
def B62 (ks : List Tm) (G : IM) : IM → Value → List A4 → Prop := I9 fun G' v => ∃ p c F, v = .slice p ks.length c ∧ A1b (C4 G' G) ks p c F ∧ F.Nodup
theorem Sl.of_blk {G : IM} {b n c sz : Nat} {A C cs : List Value} (hl : cs.length = n * sz) (hc : n ≤ c) (hm : c ≤ maxLen) (hg : G b = some (A ++ (cs ++ C))) : Sl G (some ⟨b, A.length, none⟩) n c sz cs := by
 refine ⟨hl, hc, hm, .inr ⟨b, A.length, _, rfl, hg, fun j v hj => ?_⟩⟩
 have hlt : j < cs.length := (List.getElem?_eq_some_iff.1 hj).1
 rw [List.getElem?_append, if_neg (by omega), List.getElem?_append, if_pos (by omega), show A.length + j - A.length = j by omega]
 exact hj
def InG (G : IM) (bs : A1c) (F : List Nat) : Prop := (bs.map Prod.fst).Sublist F ∧ ∀ q ∈ bs, G q.1 = some q.2
mutual
theorem A3D : ∀ t : Ty, K0 t ≤ 4294967296 → t.small
 | .mk _ ks, h => by
  rw [K0] at h
  have := A17 ks
  simp only [Ty.small]
  exact ⟨by omega, A74 ks (by omega)⟩
theorem A74 : ∀ ts : List Ty, N9 ts ≤ 4294967296 → Ty.smallL ts
 | [], _ => by simp [Ty.smallL]
 | t :: ts, h => by
  rw [N9] at h
  have := A1d t
  have := A17 ts
  simp only [Ty.smallL]
  exact ⟨A3D t (by omega), A74 ts (by omega)⟩
end
mutual
theorem A5I : ∀ t : Tm, Z7 t ≤ 4294967296 → t.small
 | .mk _ nm _ ty fr _ ks, h => by
  rw [Z7] at h
  have := A4m ks
  have := A1d ty
  have := A1d fr
  simp only [Tm.small]
  exact ⟨by omega, A3D ty (by omega), A3D fr (by omega), by omega, A75 ks (by omega)⟩
theorem A75 : ∀ ts : List Tm, X1 ts ≤ 4294967296 → Tm.smallL ts
 | [], _ => by simp [Tm.smallL]
 | t :: ts, h => by
  rw [X1] at h
  have := A7R t
  have := A4m ts
  simp only [Tm.smallL]
  exact ⟨A5I t (by omega), A75 ts (by omega)⟩
end
mutual
theorem A3E : ∀ t : Tm, (E6 t : Int) ≤ Z7 t + 1
 | .mk _ nm _ ty fr _ ks => by
  have := A76 ks
  have := A1d ty
  have := A1d fr
  rw [Z7, E6]; omega
theorem A76 : ∀ ts : List Tm, (I2 ts : Int) ≤ ts.length + X1 ts
 | [] => by rw [X1, I2]; simp
 | t :: ts => by
  have := A3E t
  have := A76 ts
  rw [X1, I2, List.length_cons]; omega
end
theorem Z9 : ∀ (t : Ty) (G : IM) (cells : List Value), t.small → C3 G t cells → Fn Tryz.prog 170 [.agg ⟨cells⟩] [] G (B2e t G) := by
 refine Ty.ind fun k ks ih G cells hts hr => ?_
 simp only [Ty.small] at hts
 obtain ⟨hsm, hks⟩ := hts
 obtain ⟨p, c, es, rfl, hk, hsl, hkl⟩ := hr.open
 simp only [Ty.k, Ty.ks] at hk hsl hkl ⊢
 have hn := hsl.le
 refine B7 Tryz.func170 rfl Tryz.ntmps170 Tryz.results170 rfl ?_
 intro w0
 refine tS (tR ?_)
 refine sE (D5 rfl rfl) rfl (fun b3 => ?_)
 refine sE (B6 rfl) rfl (fun b4 => ?_)
 refine sD (nS (tS (tR (sQ (A3 rfl) rfl (sL (A5 rfl rfl) rfl rfl (sQ (D9 rfl rfl) rfl ?_))))))
 refine sE (B6 rfl) rfl (fun b12 => ?_)
 refine B9 ?_
 refine sD (nS (tS (tS (tR (sQ (qA rfl) rfl (sD (nS ?_)))))))
 refine B5 ?_
 (refine W1 25 2 ?_; refine K4 (fun (x : Nat × Option Addr × Nat × List (List Value) × List Nat × IM) => ⟨[(4, .int .i64 x.1), (3, .pointer (some ⟨b12, 0, none⟩)), (1, .pointer (some ⟨b3, 0, none⟩)), (2, .pointer (some ⟨b4, 0, none⟩))], [.blk b12 [.int .i64 k, .slice x.2.1 x.1 x.2.2.1], .slc x.2.1 x.2.2.1 25 2 x.1 x.2.2.2.1.flatten, .blk b4 [.int .i64 0, .slice none 0 0], .blk b3 [.int .i64 k, .slice p ks.length c]], x.2.2.2.2.2⟩) (fun x => x.1 ≤ ks.length ∧ B4 G x.2.2.2.2.2 ∧ L8 (C4 x.2.2.2.2.2 G) (ks.take x.1) x.2.2.2.1 x.2.2.2.2.1 ∧ x.2.2.2.2.1.Nodup) (fun x => ks.length - x.1) (0, none, 0, [], [], G) ?_ ?_ ?_)
 (simp only [E2]; exact C9)
 exact ⟨by simp, B4.refl _, by simp [L8], by simp⟩
 (rintro ⟨i, pn, cn, es', F, Gi⟩ ⟨hi, hle, hst, hnd⟩; simp only [] at hi hle hst hnd ⊢; replace hsl := hsl.mono hle; replace hkl := hkl.mono hle)
 refine tS (tS (tR (sQ (qM rfl) rfl (sQ (A3 rfl) rfl (sL (A5 rfl rfl) rfl rfl (sQ (D8 rfl rfl) rfl ?_))))))
 refine sB (J3 rfl rfl) rfl rfl (fun h34 => ?_) (fun h34 => ?_)
 refine sD (nS (qT rfl (tK (nS (tS ?_)))))
 refine B5 ?_
 (obtain ⟨b, o, p2, c2, rfl, hat, hre, hgb⟩ := hsl.kidTy hkl (i := i) (by omega) (by omega); refine I0 I1 rfl ?_)
 refine J2 (i := 0) (l' := [tt,ff,ff,ff,ff,ff,ff,ff,ff,ff,ff,ff]) rfl F4 (A3 rfl) rfl (by kernel_rfl) rfl rfl ?_
 refine aL 1 rfl (A5 rfl rfl) rfl ?_
 refine aP 2 rfl (A3 rfl) rfl ?_
 refine aL 3 rfl (A5 rfl rfl) rfl ?_
 refine aP 4 rfl (qM rfl) rfl ?_
 refine aP 5 rfl (C2 rfl rfl rfl (by omega)) rfl ?_
 refine aL 6 rfl (A9 rfl rfl (hat _) rfl) rfl ?_
 refine A8 7 ?_
 (refine Q0 rfl rfl (ih ks[i] (List.getElem_mem (by omega)) _ _ (Ty.smallL_mem hks _ (List.getElem_mem (by omega))) hre) rfl rfl rfl (fun v G1 hle1 hh => ?_); obtain ⟨cells', F', rfl, hs', hnd'⟩ := hh; obtain ⟨p3, c3, es3, rfl, _⟩ := hs'.R.open)
 refine A8 8 ?_
 (refine J9 rfl (D0 rfl rfl rfl (by omega) (by unfold maxLen; omega) rfl) rfl rfl ?_; rintro _ ⟨b53, rfl⟩)
 refine A8 9 ?_
 refine S9 rfl rfl rfl rfl rfl rfl (fun _ _ => by repeat (first | exact Sw.here | apply Sw.there)) (K9 (by repeat first | exact mH | apply mT)) rfl (by simp [Value.oneCell']) (by unfold maxLen; omega) (by omega) rfl rfl (by repeat (first | exact B0.nil | apply B0.dep (by decide +kernel) | apply B0.blk (by decide +kernel) (by repeat (first | exact Pk.here | apply Pk.there)) (by repeat first | exact mH | apply mT))) (fun pn' cn' => ?_)
 refine aP 10 rfl (A3 rfl) rfl ?_
 refine A8 11 ?_
 refine P3 rfl rfl rfl rfl rfl rfl rfl rfl (by kernel_rfl) (by repeat first | exact Sw.here | apply Sw.there) (by rfl) ?_
 refine D6 (C8 (nS (tR (sQ (qM rfl) rfl ?_))))
 refine sP (H6 rfl rfl (by omega) (by omega)) rfl rfl ?_
 refine sQ (qA rfl) rfl (sD ?_)
 refine K3 (i + 1, pn', cn', es' ++ [[.int .i64 ks[i].k, .slice p3 ks[i].ks.length c3]], F ++ F', G1) ?_ ?_ ?_
 (simp only [E2]; exact C9)
 exact ⟨by omega, hle.trans hle1, L8.step hst hnd hle hle1 (by omega) hs' hnd'⟩
 (show ks.length - (i + 1) < ks.length - i; omega)
 refine sD (nS (cF rfl (M7 (M8 (N3 (M9 (nS (tS (tR (sL (A7 rfl rfl) rfl rfl (B9 ?_)))))))))))
 refine sD (nS ?_)
 (refine Q4 (by repeat (first | exact Pk.here | apply Pk.there)) (fun G2 hle2 hsl2 hno2 => ?_); obtain rfl : i = ks.length := (by omega))
 refine tT ?_
 refine A6 (rC rfl (A7 rfl rfl)) ?_
 (rw [List.take_length] at hst; obtain ⟨F2, hf1, hf2⟩ := N8.fin hst hnd hle hle2 hsl2 hno2 hk; exact ⟨rfl, _, F2, rfl, hf1, hf2⟩)
theorem B2f : ∀ (t : Tm) (G : IM) (cells : List Value), t.small → B1 G t cells → Fn Tryz.prog 113 [.agg ⟨cells⟩] [] G (A3C t G) := by
 refine Tm.ind fun k nm num ty fr lb ks ih G cells hts hr => ?_
 have hone := hr.one
 simp only [Tm.small] at hts
 obtain ⟨hnm, hty', hfr', hsm, hks⟩ := hts
 obtain ⟨tk, tks⟩ := ty
 obtain ⟨fk, fks⟩ := fr
 obtain ⟨pt, ct, pf, cf, p, c, es, rfl, hk, hnum, hlb, hty, hfr, hsl, hkl⟩ := hr.open9
 have hn := hsl.le
 have hT := Z9 (.mk tk tks) G _ hty' hty
 refine B7 Tryz.func113 rfl Tryz.ntmps113 Tryz.results113 rfl ?_
 intro w0
 refine tS (tR ?_)
 refine sE (D5 rfl rfl) rfl (fun b3 => ?_)
 refine sE (B6 rfl) rfl (fun b4 => ?_)
 refine sD (nS (tS (tR (sL (A7 rfl rfl) rfl rfl ?_))))
 refine sE (B6 rfl) rfl (fun b10 => ?_)
 refine B9 ?_
 refine sD (nS (tS (tR (sQ (A3 rfl) rfl (sL (A7 rfl rfl) rfl rfl ?_)))))
 (refine I5 rfl hT rfl rfl (fun v G1 hle1 hh => ?_); obtain ⟨Z4, F1, rfl, hs1, hn1⟩ := hh; obtain ⟨p1, c1, rfl, _⟩ := hs1.open; have hF := Z9 (.mk fk fks) G1 _ hfr' (hfr.mono hle1))
 refine sQ (A3 rfl) rfl (B9 ?_)
 refine sD (nS (tS (tR (sQ (A3 rfl) rfl (sL (A7 rfl rfl) rfl rfl ?_)))))
 (refine I5 rfl hF rfl rfl (fun v G2 hle2 hh => ?_); obtain ⟨cs2, F2, rfl, hs2, hn2⟩ := hh; obtain ⟨p2, c2, rfl, _⟩ := hs2.open; replace hsl := hsl.mono (hle1.trans hle2); replace hkl := hkl.mono (hle1.trans hle2))
 refine sQ (A3 rfl) rfl (B9 ?_)
 refine sD (nS (tS (tR (sQ (A3 rfl) rfl (B9 ?_)))))
 refine sD (nS (tS (tS (tR (sQ (qA rfl) rfl (sD (nS ?_)))))))
 refine B5 ?_
 (refine W1 28 9 ?_; refine K4 (fun (x : Nat × Option Addr × Nat × List (List Value) × List Nat × IM) => ⟨[(4, .int .i64 x.1), (3, .pointer (some ⟨b10, 0, none⟩)), (1, .pointer (some ⟨b3, 0, none⟩)), (2, .pointer (some ⟨b4, 0, none⟩))], [.blk b10 [.int .i64 k, .string nm, .int .i64 num, .int .i64 tk, .slice p1 tks.length c1, .int .i64 fk, .slice p2 fks.length c2, .int .i64 lb, .slice x.2.1 x.1 x.2.2.1], .slc x.2.1 x.2.2.1 28 9 x.1 x.2.2.2.1.flatten, .blk b4 [.int .i64 0, .string ⟨⟨[]⟩⟩, .int .i64 0, .int .i64 0, .slice none 0 0, .int .i64 0, .slice none 0 0, .int .i64 0, .slice none 0 0], .blk b3 [.int .i64 k, .string nm, .int .i64 num, .int .i64 tk, .slice pt tks.length ct, .int .i64 fk, .slice pf fks.length cf, .int .i64 lb, .slice p ks.length c]], x.2.2.2.2.2⟩) (fun x => x.1 ≤ ks.length ∧ B4 G2 x.2.2.2.2.2 ∧ L4 (C4 x.2.2.2.2.2 G2) (ks.take x.1) x.2.2.2.1 x.2.2.2.2.1 ∧ x.2.2.2.2.1.Nodup) (fun x => ks.length - x.1) (0, none, 0, [], [], G2) ?_ ?_ ?_)
 (simp only [E2]; exact C9)
 exact ⟨by simp, B4.refl _, by simp [L4], by simp⟩
 (rintro ⟨i, pn, cn, es', F, Gi⟩ ⟨hi, hle, hst, hnd⟩; simp only [] at hi hle hst hnd ⊢; replace hsl := hsl.mono hle; replace hkl := hkl.mono hle)
 refine tS (tS (tR (sQ (qM rfl) rfl (sQ (A3 rfl) rfl (sL (A5 rfl rfl) rfl rfl (sQ (D8 rfl rfl) rfl ?_))))))
 refine sB (J3 rfl rfl) rfl rfl (fun h56 => ?_) (fun h56 => ?_)
 refine sD (nS (qT rfl (tK (nS (tS ?_)))))
 refine B5 ?_
 (obtain ⟨b, o, e, rfl, hl, hat, hre, hgb⟩ := hsl.kidTm hkl (i := i) (by omega) (by omega); have hone := hre.one; refine I0 I1 rfl ?_)
 refine J2 (i := 0) (l' := [tt,ff,ff,ff,ff,ff,ff,ff,ff,ff,ff,ff]) rfl F4 (A3 rfl) rfl (by kernel_rfl) rfl rfl ?_
 refine aL 1 rfl (A5 rfl rfl) rfl ?_
 refine aP 2 rfl (A3 rfl) rfl ?_
 refine aL 3 rfl (A5 rfl rfl) rfl ?_
 refine aP 4 rfl (qM rfl) rfl ?_
 refine aP 5 rfl (C2 rfl rfl rfl (by omega)) rfl ?_
 refine aL 6 rfl (A9 rfl rfl (hat _) hl) rfl ?_
 refine A8 7 ?_
 (refine Q0 rfl rfl (ih ks[i] (List.getElem_mem (by omega)) _ _ (Tm.smallL_mem hks _ (List.getElem_mem (by omega))) hre) rfl rfl rfl (fun v G3 hle3 hh => ?_); obtain ⟨cells', F', rfl, hs', hnd'⟩ := hh; obtain ⟨qt, dt, et', qf, df, ef', q3, d3, es3, rfl, _⟩ := hs'.R.open)
 refine A8 8 ?_
 (refine J9 rfl (D0 rfl rfl rfl (by omega) (by unfold maxLen; omega) rfl) rfl rfl ?_; rintro _ ⟨b75, rfl⟩)
 refine A8 9 ?_
 refine S9 rfl rfl rfl rfl rfl rfl (fun _ _ => by repeat (first | exact Sw.here | apply Sw.there)) (K9 (by repeat first | exact mH | apply mT)) rfl (by simp [Value.oneCell']) (by unfold maxLen; omega) (by omega) rfl rfl (by repeat (first | exact B0.nil | apply B0.dep (by decide +kernel) | apply B0.blk (by decide +kernel) (by repeat (first | exact Pk.here | apply Pk.there)) (by repeat first | exact mH | apply mT))) (fun pn' cn' => ?_)
 refine aP 10 rfl (A3 rfl) rfl ?_
 refine A8 11 ?_
 refine P3 rfl rfl rfl rfl rfl rfl rfl rfl (by kernel_rfl) (by repeat first | exact Sw.here | apply Sw.there) (by rfl) ?_
 refine D6 (C8 (nS (tR (sQ (qM rfl) rfl ?_))))
 refine sP (H6 rfl rfl (by omega) (by omega)) rfl rfl ?_
 refine sQ (qA rfl) rfl (sD ?_)
 refine K3 (i + 1, pn', cn', es' ++ [[.int .i64 ks[i].k, .string ks[i].nm, .int .i64 ks[i].num, .int .i64 ks[i].ty.k, .slice qt ks[i].ty.ks.length dt, .int .i64 ks[i].fr.k, .slice qf ks[i].fr.ks.length df, .int .i64 ks[i].lb, .slice q3 ks[i].ks.length d3]], F ++ F', G3) ?_ ?_ ?_
 (simp only [E2]; exact C9)
 exact ⟨by omega, hle.trans hle3, L4.step hst hnd hle hle3 (by omega) hs' hnd'⟩
 (show ks.length - (i + 1) < ks.length - i; omega)
 refine sD (nS (cF rfl (M7 (M8 (N3 (M9 (nS (tS (tR (sL (A7 rfl rfl) rfl rfl (B9 ?_)))))))))))
 refine sD (nS ?_)
 (refine Q4 (by repeat (first | exact Pk.here | apply Pk.there)) (fun G4 hle4 hsl4 hno4 => ?_); obtain rfl : i = ks.length := (by omega))
 refine tT ?_
 refine A6 (rC rfl (A7 rfl rfl)) ?_
 (rw [List.take_length] at hst; obtain ⟨F3, hf1, hf2⟩ := A1b.fin hst hnd hle hle4 hsl4 hno4; obtain ⟨F5, hg1, hg2⟩ := N4.mk3 (nm := nm) hk hnum hlb hle1 hle2 (hle.trans hle4) hs1 hn1 hs2 hn2 hf1 hf2; exact ⟨rfl, _, F5, rfl, hg1, hg2⟩)
mutual
def A1e (g : Tm → Tm) : Tm → Tm
 | .mk k nm num ty fr lb ks => g (.mk k nm num ty fr lb (A0r g ks))
def A0r (g : Tm → Tm) : List Tm → List Tm
 | [] => []
 | t :: ts => A1e g t :: A0r g ts
end
theorem A5J (g : Tm → Tm) : ∀ ks, A0r g ks = ks.map (A1e g)
 | [] => rfl
 | t :: ts => by rw [A0r, A5J g ts, List.map_cons]
mutual
theorem A77 : ∀ t, A1e id t = t
 | .mk k nm num ty fr lb ks => by rw [A1e, A78 ks]; rfl
theorem A78 : ∀ ks, A0r id ks = ks
 | [] => rfl
 | t :: ts => by rw [A0r, A77 t, A78 ts]
end
theorem N4.mk3k {G G1 G2 G3 : IM} {k : Int} {nm : ByteArray} {num : Int} {ty fr : Ty} {lb : Int} {ks : List Tm} {tc fc : List Value} {p : Option Addr} {c : Nat} {F1 F2 F3 : List Nat} (hk : C6 k) (hnum : C6 num) (hlb : C6 lb)
  (hl1 : B4 G G1) (hl2 : B4 G1 G2) (hl3 : B4 G2 G3) (h3 : A1b (C4 G1 G) ks p c F3) (n3 : F3.Nodup) (h1 : N8 (C4 G2 G1) ty tc F1) (n1 : F1.Nodup) (h2 : N8 (C4 G3 G2) fr fc F2) (n2 : F2.Nodup) :
  ∃ F, N4 (C4 G3 G) (.mk k nm num ty fr lb ks) ([.int .i64 k, .string nm, .int .i64 num] ++ tc ++ fc ++ [.int .i64 lb, .slice p ks.length c]) F ∧ F.Nodup := by
 obtain ⟨es, Fs, e1, e2, rfl, e4⟩ := h3
 have i3 : ∀ b ∈ H5 p ++ Fs, C4 G1 G b ≠ none := by
  intro b hb
  rcases List.mem_append.1 hb with hb | hb
  ·exact e4 b hb
  ·exact e2.inG b hb
 have a1 : B4 (C4 G1 G) (C4 G3 G) := C4.mono (hl2.trans hl3)
 have a2 : B4 (C4 G2 G1) (C4 G3 G) := fun b l h => C4.mono hl3 b l (C4.anti hl1 b l h)
 have a3 : B4 (C4 G3 G2) (C4 G3 G) := C4.anti (hl1.trans hl2)
 refine ⟨F1 ++ (F2 ++ (H5 p ++ Fs)), ?_, ?_⟩
 ·simp only [N4]
  exact ⟨tc, fc, p, c, es, F1, F2, Fs, rfl, hk, hnum, hlb, h1.mono a2, h2.mono a3, e1.mono a1, e2.mono a1, rfl, A2W a1 e4⟩
 ·rw [List.nodup_append, List.nodup_append]
  refine ⟨n1, ⟨n2, n3, ?_⟩, ?_⟩
  ·rintro x hx y hy rfl
   exact A2r (A2W (C4.mono hl2) i3) h2.inG x hy x hx rfl
  ·rintro x hx y hy rfl
   rcases List.mem_append.1 hy with hy | hy
   ·exact A2r (A2W (C4.anti hl1) h1.inG) h2.inG x hx x hy rfl
   ·exact A2r i3 h1.inG x hy x hx rfl
mutual
def mOk (Q : Tm → Prop) (g : Tm → Tm) : Tm → Prop
 | .mk k nm num ty fr lb ks => A1r Q g ks ∧ Q (.mk k nm num ty fr lb (A0r g ks))
def A1r (Q : Tm → Prop) (g : Tm → Tm) : List Tm → Prop
 | [] => True
 | t :: ts => mOk Q g t ∧ A1r Q g ts
end
theorem A79 {Q : Tm → Prop} {g : Tm → Tm} : ∀ {ts : List Tm}, A1r Q g ts → ∀ t ∈ ts, mOk Q g t
 | [], _, t, h => by simp at h
 | t' :: ts, h, t, ht => by
  simp only [A1r] at h
  rcases List.mem_cons.1 ht with rfl | ht
  ·exact h.1
  ·exact A79 h.2 t ht
mutual
theorem A8a (g : Tm → Tm) : ∀ t, mOk (fun _ => True) g t
 | .mk k nm num ty fr lb ks => by rw [mOk]; exact ⟨A8b g ks, trivial⟩
theorem A8b (g : Tm → Tm) : ∀ ts, A1r (fun _ => True) g ts
 | [] => by rw [A1r]; trivial
 | t :: ts => by rw [A1r]; exact ⟨A8a g t, A8b g ts⟩
end
def A5K (g : Tm → Tm) (Q : Tm → Prop) (fid : FuncId) (us cs : List Value) : Prop := ∀ (t : Tm) (G0 G1 : IM) (cells : List Value) (F : List Nat), Q t → B4 G0 G1 → N4 (C4 G1 G0) t cells F → F.Nodup →
 Fn Tryz.prog fid (us ++ [.agg ⟨cells⟩] ++ cs) [] G1 (I9 fun G2 v => ∃ cells' F', v = .agg ⟨cells'⟩ ∧ N4 (C4 G2 G0) (g t) cells' F' ∧ F'.Nodup)
theorem A8c (g : Tm → Tm) (Q : Tm → Prop) (fid : FuncId) [B3 Tryz.prog fid] (us cs : List Value) (hg : A5K g Q fid us cs) : ∀ (t : Tm) (G : IM) (cells : List Value), mOk Q g t → t.small → B1 G t cells →
  Fn Tryz.prog 121 [.agg ⟨cells⟩, .func (.func fid) ⟨us⟩ ⟨cs⟩] [] G (A3C (A1e g t) G) := by
 refine Tm.ind fun k nm num ty fr lb ks ih G cells hmo hts hr => ?_
 have hone := hr.one
 simp only [mOk] at hmo
 obtain ⟨hmoL, hQ⟩ := hmo
 simp only [Tm.small] at hts
 obtain ⟨hnm, hty', hfr', hsm, hks⟩ := hts
 obtain ⟨tk, tks⟩ := ty
 obtain ⟨fk, fks⟩ := fr
 obtain ⟨pt, ct, pf, cf, p, c, es, rfl, hk, hnum, hlb, hty, hfr, hsl, hkl⟩ := hr.open9
 have hn := hsl.le
 have hlen : (A0r g ks).length = ks.length := by rw [A5J, List.length_map]
 have hget : ∀ i (h : i < ks.length) (h' : i < (A0r g ks).length), (A0r g ks)[i] = A1e g ks[i] := fun i h h' => by simp [A5J]
 refine B7 Tryz.func121 rfl Tryz.ntmps121 Tryz.results121 rfl ?_
 intro w0
 refine tS (tR ?_)
 refine sE (D5 rfl rfl) rfl (fun b3 => ?_)
 refine sE (B6 rfl) rfl (fun b4 => ?_)
 refine Q9 ?_
 refine B5 ?_
 (refine W1 28 9 ?_; refine K4 (fun (x : Nat × Option Addr × Nat × List (List Value) × List Nat × IM) => ⟨[(11, .int .i64 x.1), (10, .int .i64 ks.length), (9, .slice p ks.length c), (5, .slice x.2.1 x.1 x.2.2.1), (2, .pointer (some ⟨b3, 0, none⟩)), (1, .func (.func fid) ⟨us⟩ ⟨cs⟩), (4, .pointer (some ⟨b4, 0, none⟩))], [.slc x.2.1 x.2.2.1 28 9 x.1 x.2.2.2.1.flatten, .blk b4 [.int .i64 0, .string ⟨⟨[]⟩⟩, .int .i64 0, .int .i64 0, .slice none 0 0, .int .i64 0, .slice none 0 0, .int .i64 0, .slice none 0 0], .blk b3 [.int .i64 k, .string nm, .int .i64 num, .int .i64 tk, .slice pt tks.length ct, .int .i64 fk, .slice pf fks.length cf, .int .i64 lb, .slice p ks.length c]], x.2.2.2.2.2⟩) (fun x => x.1 ≤ ks.length ∧ B4 G x.2.2.2.2.2 ∧ L4 (C4 x.2.2.2.2.2 G) ((A0r g ks).take x.1) x.2.2.2.1 x.2.2.2.2.1 ∧ x.2.2.2.2.1.Nodup) (fun x => ks.length - x.1) (0, none, 0, [], [], G) ?_ ?_ ?_)
 (simp only [E2]; exact C9)
 exact ⟨by simp, B4.refl _, by simp [L4], by simp⟩
 (rintro ⟨i, pn, cn, es', F, Gi⟩ ⟨hi, hle, hst, hnd⟩; simp only [] at hi hle hst hnd ⊢; replace hsl := hsl.mono hle; replace hkl := hkl.mono hle)
 refine tS (tR ?_)
 refine sB (J3 rfl rfl) rfl rfl (fun h28 => ?_) (fun h28 => ?_)
 refine sD (nS (tS (qT rfl (tK (nS (tS ?_))))))
 refine B5 ?_
 refine tS (tR ?_)
 (obtain ⟨b, o, e, rfl, hl, hat, hre, hgb⟩ := hsl.kidTm hkl (i := i) (by omega) (by omega); have hone := hre.one; refine sP (C2 rfl rfl rfl (by omega)) rfl rfl ?_)
 refine sL (A9 rfl rfl (hat _) hl) rfl rfl ?_
 refine sE (B6 rfl) rfl (fun b41 => ?_)
 refine sS rfl rfl rfl hl hone rfl ?_ (hu := by exact I4 hl.symm)
 refine sD (nS (tR (sQ (qM rfl) rfl ?_)))
 refine sL (A9 rfl rfl (C7 (by repeat first | exact mH | apply mT)) (by assumption)) rfl rfl ?_
 refine sQ (qM rfl) rfl ?_
 (refine I5 rfl (ih ks[i] (List.getElem_mem (by omega)) _ _ (A79 hmoL _ (List.getElem_mem (by omega))) (Tm.smallL_mem hks _ (List.getElem_mem (by omega))) hre) rfl rfl (fun v G3 hle3 hh => ?_); obtain ⟨cells', F', rfl, hs', hnd'⟩ := hh; rw [← hget i (by omega) (by omega)] at hs'; have hlc := hs'.R.len; have hoc := hs'.R.one)
 (obtain ⟨v1, v2, v3, v4, v5, v6, v7, v8, v9, rfl⟩ : ∃ v1 v2 v3 v4 v5 v6 v7 v8 v9, cells' = [v1, v2, v3, v4, v5, v6, v7, v8, v9] := by obtain ⟨_, _, _, _, _, _, _, _, _, rfl, _⟩ := hs'.R.open; exact ⟨_, _, _, _, _, _, _, _, _, rfl⟩)
 (refine E0 (D0 rfl rfl rfl (by omega) (by unfold maxLen; omega) rfl) rfl ?_; rintro _ ⟨b51, rfl⟩)
 refine T1 rfl rfl rfl rfl rfl (fun _ _ => by repeat (first | exact Sw.here | apply Sw.there)) (K9 (by repeat first | exact mH | apply mT)) rfl (fun u hu => List.all_eq_true.1 hoc u hu) (by unfold maxLen; omega) (by omega) rfl (fun pn' cn' => ?_)
 refine sQ (qA rfl) rfl (sD (C8 (nS (tR ?_))))
 refine sP (H6 rfl rfl (by omega) (by omega)) rfl rfl ?_
 refine sQ (qM rfl) rfl (sD ?_)
 refine K3 (i + 1, pn', cn', es' ++ [[v1, v2, v3, v4, v5, v6, v7, v8, v9]], F ++ F', G3) ?_ ?_ ?_
 (simp only [E2]; exact C9)
 exact ⟨by omega, hle.trans hle3, L4.step hst hnd hle hle3 (by omega) hs' hnd'⟩
 (show ks.length - (i + 1) < ks.length - i; omega)
 refine sD (nS (tS (cF rfl (M7 (M8 (N3 (M9 (nS (tS ?_)))))))))
 (obtain rfl : i = ks.length := (by omega); refine A1p (by repeat (first | exact Pk.here | apply Pk.there)) (fun G2 hle2 hsl2 hno2 => ?_); rw [← hlen, List.take_length] at hst; rw [← hlen] at hsl2; obtain ⟨F3, hf1, hf2⟩ := A1b.fin hst hnd hle hle2 hsl2 hno2; have hleG := hle.trans hle2; have hT := A73 (.mk tk tks) G2 _ hty' (hty.mono hleG); refine I0 I1 rfl ?_)
 refine J2 (i := 0) (l' := [tt,ff,ff,ff,ff,ff,ff,ff,ff,ff,ff,ff,ff]) rfl F4 (A3 rfl) rfl (by kernel_rfl) rfl rfl ?_
 refine aL 1 rfl (A7 rfl rfl) rfl ?_
 refine aP 3 rfl (A3 rfl) rfl ?_
 refine aL 4 rfl (A7 rfl rfl) rfl ?_
 refine aP 6 rfl (qM rfl) rfl ?_
 refine A8 2 ?_
 (refine Q0 rfl rfl hT rfl rfl rfl (fun v G4 hle4 hh => ?_); obtain ⟨Z4, F1, rfl, hs1, hn1⟩ := hh; obtain ⟨p1, c1, rfl, _⟩ := hs1.open; have hF := A73 (.mk fk fks) G4 _ hfr' (hfr.mono (hleG.trans hle4)))
 refine aP 7 rfl (A3 rfl) rfl ?_
 refine A8 5 ?_
 (refine Q0 rfl rfl hF rfl rfl rfl (fun v G5 hle5 hh => ?_); obtain ⟨cs2, F2, rfl, hs2, hn2⟩ := hh; obtain ⟨p2, c2, rfl, _⟩ := hs2.open; obtain ⟨F6, hg1, hg2⟩ := N4.mk3k (nm := nm) hk hnum hlb hleG hle4 hle5 hf1 hf2 hs1 hn1 hs2 hn2; rw [hlen] at hg1; have hch := hg _ G G5 _ F6 hQ (hleG.trans (hle4.trans hle5)) hg1 hg2)
 refine A8 8 ?_
 refine P3 rfl rfl rfl rfl rfl rfl rfl rfl (by kernel_rfl) (by repeat first | exact Sw.here | apply Sw.there) (by rfl) ?_
 refine aP 9 rfl (A3 rfl) rfl ?_
 refine A8 10 ?_
 refine P3 rfl rfl rfl rfl rfl rfl rfl rfl (by kernel_rfl) (by repeat first | exact Sw.here | apply Sw.there) (by rfl) ?_
 refine aP 11 rfl (A3 rfl) rfl ?_
 refine A8 12 ?_
 refine P3 rfl rfl rfl rfl rfl rfl rfl rfl (by kernel_rfl) (by repeat first | exact Sw.here | apply Sw.there) (by rfl) ?_
 refine D6 (nS (tS (tR (sQ (qM rfl) rfl (sL (A7 rfl rfl) rfl rfl ?_)))))
 (refine E0 (A1m rfl rfl hch (List.Perm.refl _) rfl) rfl ?_; rintro _ ⟨v, G7, outs, rfl, hle7, rfl, cells7, F7, rfl, hs7, hn7⟩; have hl7 := hs7.R.len; have ho7 := hs7.R.one)
 refine sS rfl rfl rfl hl7 ho7 rfl ?_ (hu := by exact I4 hl7.symm)
 refine sD (nS (tT ?_))
 refine A6 (rC rfl (A9 rfl rfl (C7 (by repeat first | exact mH | apply mT)) hl7)) ?_
 (rw [A1e]; exact ⟨rfl, cells7, F7, rfl, hs7, hn7⟩)
theorem B2g (G : IM) (cells : List Value) (hl : cells.length = 9) (hone : cells.all (·.oneCell') = true) : Fn Tryz.prog 229 [.agg ⟨cells⟩] [] G (H3 (.agg ⟨cells⟩) G) := by
 refine B7 Tryz.func229 rfl Tryz.ntmps229 Tryz.results229 rfl ?_
 intro w0
 refine tS (tR ?_)
 refine sE (D5 rfl rfl) rfl (fun b3 => ?_)
 refine sE (B6 rfl) rfl (fun b4 => ?_)
 refine sD (nS (tS (tR ?_)))
 refine sL (A9 rfl rfl (C7 (by repeat first | exact mH | apply mT)) (by assumption)) rfl rfl ?_
 refine sS rfl rfl rfl hl hone rfl ?_ (hu := by exact I4 hl.symm)
 refine sD (nS (tT ?_))
 refine A6 (rC rfl (A9 rfl rfl (C7 (by repeat first | exact mH | apply mT)) hl)) ?_
 exact ⟨rfl, rfl, rfl⟩
theorem B2h : A5K id (fun _ => True) 229 [] [] := fun t G0 G1 cells F _ hle hs hn =>
 (B2g G1 cells hs.R.len hs.R.one).mono fun G' v outs _ ⟨h1, h2, h3⟩ => ⟨h3, cells, F, h2, by rw [h1]; exact hs, hn⟩
theorem A8d (t : Tm) (G : IM) (cells : List Value) (hts : t.small) (hr : B1 G t cells) : Fn Tryz.prog 207 [.agg ⟨cells⟩] [] G (A3C t G) := by
 have hl := hr.len
 have hone := hr.one
 have hM := A8c id (fun _ => True) 229 [] [] B2h t G cells (A8a _ t) hts hr
 rw [A77] at hM
 refine B7 Tryz.func207 rfl Tryz.ntmps207 Tryz.results207 rfl ?_
 intro w0
 refine tS (tR ?_)
 refine sE (D5 rfl rfl) rfl (fun b3 => ?_)
 refine sE (B6 rfl) rfl (fun b4 => ?_)
 refine sD (nS (tS (tR ?_)))
 refine sL (A9 rfl rfl (C7 (by repeat first | exact mH | apply mT)) (by assumption)) rfl rfl ?_
 (refine I5 rfl hM rfl rfl (fun v G3 hle3 hh => ?_); obtain ⟨cells', F', rfl, hs', hnd'⟩ := hh; have hl' := hs'.R.len; have ho' := hs'.R.one)
 refine sS rfl rfl rfl hl' ho' rfl ?_ (hu := by exact I4 hl'.symm)
 refine sD (nS (tT ?_))
 refine A6 (rC rfl (A9 rfl rfl (C7 (by repeat first | exact mH | apply mT)) hl')) ?_
 exact ⟨rfl, cells', F', rfl, hs', hnd'⟩
theorem B2i (G : IM) (p : Option Addr) (n c : Nat) (es : List (List Value)) (hsl : C5 G p n c 2 es) (fid : FuncId) [B3 Tryz.prog fid] (us cs : List Value) (ins : List A4) (q : Nat → Bool)
  (hq : ∀ i e, es[i]? = some e → Fn Tryz.prog fid (us ++ [.agg ⟨e⟩] ++ cs) ins G (T8 (.bool (q i)) ins G)) :
  Fn Tryz.prog 136 [.slice p n c, .func (.func fid) ⟨us⟩ ⟨cs⟩] ins G (T8 (.int .i64 (A0A q n)) ins G) := by
 have hn := hsl.le
 refine B7 Tryz.func136 rfl Tryz.ntmps136 Tryz.results136 rfl ?_
 intro w0
 refine tS (tR (sQ (qA rfl) rfl (sD (nS (tS (tS (tR (sQ (qM rfl) rfl (sQ (D8 rfl rfl) rfl (sQ (qM rfl) rfl (sD (nS ?_))))))))))))
 refine B5 ?_
 refine K4 (fun i : Nat => ⟨[(8, .int .i64 i), (7, .int .i64 n), (1, .func (.func fid) ⟨us⟩ ⟨cs⟩), (0, .slice p n c)], ins, G⟩) (fun i => i ≤ n ∧ ∀ j, j < i → q j = false) (fun i => n - i) 0 ?_ ?_ ?_
 exact C9
 exact ⟨by omega, by omega⟩
 rintro i ⟨hi, hf⟩
 refine tS (tR ?_)
 refine sB (J3 rfl rfl) rfl rfl (fun h21 => ?_) (fun h21 => ?_)
 refine sD (nS (tS (qT rfl (tK (nS (tS ?_))))))
 refine B5 ?_
 refine tS (tR (sQ (qM rfl) rfl (sQ (qA rfl) rfl (sD (nS (tS (tR (sQ (qM rfl) rfl (sQ (qM rfl) rfl (sQ (qM rfl) rfl ?_))))))))))
 (obtain ⟨e, b, o, he, rfl, hl, _, hat, _⟩ := hsl.get (i := i) (by omega); refine sP (C2 rfl rfl rfl (by omega)) rfl rfl ?_)
 refine sL (A9 rfl rfl (hat _) hl) rfl rfl ?_
 refine A5s rfl rfl (hq i e he) Z5 rfl rfl (fun h43 => ?_) (fun h43 => ?_)
 refine sD (nS (qT rfl (tS (tR (sQ (qM rfl) rfl (sQ (qA rfl) rfl (sD (nS (tT (rB (rS (U2 (rB (rS ?_))))))))))))))
 refine E5 (rT rfl) A0.refl ?_
 exact ⟨rfl, by rw [A7y (by omega) hf (by assumption)], rfl⟩
 refine sD (nS (cF rfl (tK (C8 (nS (tR ?_))))))
 refine sP (H6 rfl rfl (by omega) (by omega)) rfl rfl ?_
 refine sQ (qM rfl) rfl (sD ?_)
 refine K3 (i + 1) ?_ ?_ ?_
 exact C9
 exact ⟨by omega, fun j hj => by by_cases hji : j = i; (subst hji; assumption); exact hf j (by omega)⟩
 omega
 refine sD (nS (tS (cF rfl (M7 (M8 (N3 (M9 (nS (tS (tR (sQ (qA rfl) rfl (sD (nS (tT ?_))))))))))))))
 refine E5 (rT rfl) A0.refl ?_
 exact ⟨rfl, by rw [A5w (fun j hj => hf j (by omega))], rfl⟩
theorem B2j (G : IM) (p : Option Addr) (n c : Nat) (es : List (List Value)) (hsl : C5 G p n c 2 es) (fid : FuncId) [B3 Tryz.prog fid] (us cs : List Value) (ins : List A4) (q : Nat → Bool)
  (hq : ∀ i e, es[i]? = some e → Fn Tryz.prog fid (us ++ [.agg ⟨e⟩] ++ cs) ins G (T8 (.bool (q i)) ins G)) :
  Fn Tryz.prog 73 [.slice p n c, .func (.func fid) ⟨us⟩ ⟨cs⟩] ins G (T8 (.bool (decide (0 ≤ A0A q n))) ins G) := by
 refine B7 Tryz.func73 rfl Tryz.ntmps73 Tryz.results73 rfl ?_
 intro w0
 refine tS (tR (sQ (qA rfl) rfl (sD (nS (tS (tR (sQ (qM rfl) rfl (sQ (qM rfl) rfl ?_))))))))
 refine A1M rfl (B2i G p n c es hsl fid us cs ins q hq) Z5 rfl rfl ?_
 refine sQ (Y0 rfl rfl) rfl ?_
 refine sQ (qA rfl) rfl (sD (nS (tT ?_)))
 refine E5 (rT rfl) A0.refl ?_
 exact ⟨rfl, rfl, rfl⟩
theorem A3F (G : IM) (p : Option Addr) (n c : Nat) (es : List (List Value)) (hsl : C5 G p n c 2 es) (fid : FuncId) [B3 Tryz.prog fid] (us cs : List Value) (ins : List A4) (f : Ty → Bool) (ks : List Ty)
  (hn : ks.length = n) {A : Bool} (hA : ks.all f = A) (hq : ∀ i e, es[i]? = some e → Fn Tryz.prog fid (us ++ [.agg ⟨e⟩] ++ cs) ins G (T8 (.bool (!f (ks.getD i B8))) ins G)) :
  Fn Tryz.prog 73 [.slice p n c, .func (.func fid) ⟨us⟩ ⟨cs⟩] ins G (T8 (.bool (!A)) ins G) := by
 subst hn hA
 rw [← A7B f ks B8]
 exact B2j G p _ c es hsl fid us cs ins _ hq
theorem A8e (G : IM) (p p' : Option Addr) (n c n' c' : Nat) (es es' : List (List Value)) (hsl : C5 G p n c 2 es) (hsl' : C5 G p' n' c' 2 es') (fid : FuncId) [B3 Tryz.prog fid] (us cs : List Value) (ins : List A4) (q : Nat → Bool)
  (A : Bool) (hA : A = true ↔ n = n' ∧ ∀ i, i < n → q i = true)
  (hq : ∀ i e e', es[i]? = some e → es'[i]? = some e' → Fn Tryz.prog fid (us ++ [.agg ⟨e⟩, .agg ⟨e'⟩] ++ cs) ins G (T8 (.bool (q i)) ins G)) :
  Fn Tryz.prog 95 [.slice p n c, .slice p' n' c', .func (.func fid) ⟨us⟩ ⟨cs⟩] ins G (T8 (.bool A) ins G) := by
 have hn := hsl.le
 have hn' := hsl'.le
 refine B7 Tryz.func95 rfl Tryz.ntmps95 Tryz.results95 rfl ?_
 intro w0
 refine R5 ?_
 refine sB (P9 rfl rfl) rfl rfl (fun h13 => ?_) (fun h13 => ?_)
 refine sD (nS (qT rfl (tS (tR (sQ (qA rfl) rfl (sD (nS (tT (rS ?_)))))))))
 refine E5 (outs := ins) (rT rfl) (by first | exact A0.refl | exact A0.drop (A0.drop A0.refl)) ?_
 exact ⟨rfl, by (cases A with | false => rfl | true => exact absurd (hA.1 rfl).1 (by omega)), rfl⟩
 refine sD (nS (cF rfl (tK (nS (tS (tS (tR (sQ (qM rfl) rfl (sQ (D8 rfl rfl) rfl (sQ (qM rfl) rfl (sD (nS ?_))))))))))))
 refine B5 (K4 (fun i : Nat => ⟨[(17, .int .i64 i), (16, .int .i64 n), (15, .slice p n c), (2, .func (.func fid) ⟨us⟩ ⟨cs⟩), (1, .slice p' n' c'), (0, .slice p n c)], ins, G⟩) (fun i => i ≤ n ∧ ∀ j, j < i → q j = true) (fun i => n - i) 0 ?_ ?_ ?_)
 exact C9
 exact ⟨by omega, by omega⟩
 rintro i ⟨hi, hf⟩
 refine tS (tR ?_)
 refine sB (J3 rfl rfl) rfl rfl (fun h46 => ?_) (fun h46 => ?_)
 refine sD (nS (tS (qT rfl (tK (nS (tS ?_))))))
 refine B5 ?_
 refine tS (tR (sQ (qM rfl) rfl ?_))
 (obtain ⟨e, b, o, he, rfl, hl, _, hat, _⟩ := hsl.get (i := i) (by omega); refine sP (C2 rfl rfl rfl (by omega)) rfl rfl ?_)
 refine sL (A9 rfl rfl (hat _) hl) rfl rfl ?_
 refine sE (B6 rfl) rfl (fun b60 => ?_)
 refine sQ (qA rfl) rfl ?_
 refine A0h rfl rfl rfl (by assumption) (by assumption) rfl (by repeat first | exact Sw.here | apply Sw.there) (by exact I4 (by symm; assumption)) ?_
 refine sD (nS (tS (tR (sQ (qM rfl) rfl (sQ (qM rfl) rfl ?_)))))
 (obtain ⟨e', b', o', he', rfl, hl', _, hat', _⟩ := hsl'.get (i := i) (by omega); refine sP (C2 rfl rfl rfl (by omega)) rfl rfl ?_)
 refine sL (A9 rfl rfl (hat' _) hl') rfl rfl ?_
 refine sE (B6 rfl) rfl (fun b71 => ?_)
 refine A0h rfl rfl rfl (by assumption) (by assumption) rfl (by repeat first | exact Sw.here | apply Sw.there) (by exact I4 (by symm; assumption)) ?_
 refine sD (nS (tS (tR (sQ (qM rfl) rfl ?_))))
 refine sL (A9 rfl rfl (C7 (by repeat first | exact mH | apply mT)) (by assumption)) rfl rfl ?_
 refine sL (A9 rfl rfl (C7 (by repeat first | exact mH | apply mT)) (by assumption)) rfl rfl ?_
 refine A5s rfl rfl (hq i e e' he he') B1G rfl rfl (fun h80 => ?_) (fun h80 => ?_)
 refine sQ (M4 rfl) rfl (sD (nS (cF rfl (tK (C8 (nS (tR ?_)))))))
 refine sP (H6 rfl rfl (by omega) (by omega)) rfl rfl ?_
 refine sQ (qM rfl) rfl (sD ?_)
 refine K3 (i + 1) ?_ ?_ ?_
 exact C9
 exact ⟨by omega, fun j hj => by by_cases hji : j = i; (subst hji; assumption); exact hf j (by omega)⟩
 omega
 refine sQ (O5 rfl) rfl (sD (nS (qT rfl (tS (tR (sQ (qA rfl) rfl (sD (nS (tT (rB (rS (U2 (rB (rS ?_))))))))))))))
 refine E5 (outs := ins) (rT rfl) (by first | exact A0.refl | exact A0.drop (A0.drop A0.refl)) ?_
 exact ⟨rfl, by (cases A with | false => rfl | true => have h0 := (hA.1 rfl).2 i (by omega); simp_all), rfl⟩
 refine sD (nS (tS (cF rfl (M7 (M8 (N3 (M9 (nS (tS (tR (sQ (qA rfl) rfl (sD (nS (tT ?_))))))))))))))
 refine E5 (outs := ins) (rT rfl) (by first | exact A0.refl | exact A0.drop (A0.drop A0.refl)) ?_
 exact ⟨rfl, by rw [hA.2 ⟨by omega, fun j hj => hf j (by omega)⟩], rfl⟩
theorem A0s (n lo hi : Int) (G : IM) : Fn Tryz.prog 69 [.int .i64 n, .int .i64 lo, .int .i64 hi] [] G (H3 (.bool (P4 n lo hi)) G) := by
 refine B7 Tryz.func69 rfl Tryz.ntmps69 Tryz.results69 rfl ?_
 intro w0
 refine tS (tR (sQ (qA rfl) rfl (sD (nS (tS (tR (sQ (qM rfl) rfl (sQ (qM rfl) rfl ?_))))))))
 refine sB (T6 rfl rfl) rfl rfl (fun h10 => ?_) (fun h10 => ?_)
 refine sQ (qM rfl) rfl (sQ (qM rfl) rfl (sQ (qM rfl) rfl ?_))
 refine sB (T6 rfl rfl) rfl rfl (fun h14 => ?_) (fun h14 => ?_)
 refine sQ (C1 rfl rfl) rfl (sQ (qA rfl) rfl (sD (nS (tT (A6 (rT rfl) ?_)))))
 exact ⟨rfl, by simp [P4]; omega, rfl⟩
 refine sQ (C1 rfl rfl) rfl (sQ (qA rfl) rfl (sD (nS (tT (A6 (rT rfl) ?_)))))
 exact ⟨rfl, by simp [P4]; omega, rfl⟩
 refine sQ (qM rfl) rfl (sK rfl rfl (sK rfl rfl (sK rfl rfl (sQ (D7 rfl rfl) rfl (sQ (qA rfl) rfl (sD (nS (tT (A6 (rT rfl) ?_)))))))))
 exact ⟨rfl, by simp [P4]; omega, rfl⟩
theorem A2Y (k : Int) (G : IM) : Fn Tryz.prog 123 [.int .i64 k] [] G (H3 (.agg ⟨[.int .i64 k, .slice none 0 0]⟩) G) := by
 refine B7 Tryz.func123 rfl Tryz.ntmps123 Tryz.results123 rfl ?_
 intro w0
 refine tS (tR ?_)
 refine sE (B6 rfl) rfl (fun b3 => ?_)
 refine sD (nS (tS (tR (sQ (qM rfl) rfl (sQ (D9 rfl rfl) rfl (B9 ?_))))))
 refine sD (nS (tT ?_))
 refine A6 (rC rfl (A7 rfl rfl)) ?_
 exact ⟨rfl, rfl, rfl⟩
theorem B2k (n : Int) (G : IM) : Fn Tryz.prog 162 [.int .i64 n] [] G (H3 (.bool (A1P n)) G) := by
 refine B7 Tryz.func162 rfl Tryz.ntmps162 Tryz.results162 rfl ?_
 intro w0
 refine tS (tR (sQ (qA rfl) rfl (sD (nS (tS (tR (sQ (qM rfl) rfl ?_)))))))
 refine H1 rfl (A0s _ _ _ _) rfl rfl (fun h9 => ?_) (fun h9 => ?_)
 refine sQ (qM rfl) rfl (sK rfl rfl (sK rfl rfl (sQ (C1 rfl rfl) rfl (sQ (qA rfl) rfl (sD (nS (tT (A6 (rT rfl) ?_))))))))
 exact ⟨rfl, by simp [A1P, *], rfl⟩
 refine sQ (qM rfl) rfl (sQ (qM rfl) rfl ?_)
 refine H1 rfl (A0s _ _ _ _) rfl rfl (fun h22 => ?_) (fun h22 => ?_)
 refine sQ (D7 rfl rfl) rfl (sQ (qA rfl) rfl (sD (nS (tT (A6 (rT rfl) ?_)))))
 exact ⟨rfl, by simp [A1P, *], rfl⟩
 refine sQ (D7 rfl rfl) rfl (sQ (qA rfl) rfl (sD (nS (tT (A6 (rT rfl) ?_)))))
 exact ⟨rfl, by simp [A1P, *], rfl⟩
theorem A8f (t : Ty) (G : IM) (cells : List Value) (hr : C3 G t cells) : Fn Tryz.prog 160 [.agg ⟨cells⟩] [] G (H3 (.bool (Y1 t)) G) := by
 obtain ⟨p, c, es, rfl, hk, hsl, hkl⟩ := hr.open
 refine B7 Tryz.func160 rfl Tryz.ntmps160 Tryz.results160 rfl ?_
 intro w0
 refine tS (tR ?_)
 refine sE (D5 rfl rfl) rfl (fun b3 => ?_)
 refine sQ (qA rfl) rfl (sD (nS (tS (tR (sQ (A3 rfl) rfl (sL (A5 rfl rfl) rfl rfl ?_))))))
 refine sB (qE rfl rfl) rfl rfl (fun h11 => ?_) (fun h11 => ?_)
 refine sQ (qM rfl) rfl (sQ (A3 rfl) rfl (sL (A5 rfl rfl) rfl rfl (sQ (D8 rfl rfl) rfl ?_)))
 refine sB (qE rfl rfl) rfl rfl (fun h16 => ?_) (fun h16 => ?_)
 refine sQ (C1 rfl rfl) rfl (sQ (qA rfl) rfl (sD (nS (tT (A6 (rT rfl) ?_)))))
 exact ⟨rfl, by simp only [Y1]; (first | rw [decide_eq_true (by omega)] | rw [decide_eq_false (by omega)]), rfl⟩
 refine sQ (C1 rfl rfl) rfl (sQ (qA rfl) rfl (sD (nS (tT (A6 (rT rfl) ?_)))))
 exact ⟨rfl, by simp only [Y1]; (first | rw [decide_eq_true (by omega)] | rw [decide_eq_false (by omega)]), rfl⟩
 refine A0n ?_
 exact ⟨rfl, by simp only [Y1]; (first | rw [decide_eq_true (by omega)] | rw [decide_eq_false (by omega)]), rfl⟩
theorem B2l (s : ByteArray) (G : IM) : Fn Tryz.prog 158 [.string s] [] G (H3 (.bool (X0 s)) G) := by
 refine B7 Tryz.func158 rfl Tryz.ntmps158 Tryz.results158 rfl ?_
 intro w0
 refine tS (tR (sQ (qA rfl) rfl (sD (nS (tS (tR (sQ (qM rfl) rfl ?_)))))))
 refine sQ (A0m rfl rfl) rfl (sB (qE rfl rfl) rfl rfl (fun h10 => ?_) (fun h10 => ?_))
 refine sQ (qM rfl) rfl (sQ (qM rfl) rfl ?_)
 refine sP (A3r rfl rfl rfl (by omega) (A4h (by omega))) rfl rfl ?_
 refine sB (Y0 rfl rfl) rfl rfl (fun h14 => ?_) (fun h14 => ?_)
 refine sQ (C1 rfl rfl) rfl (sQ (qM rfl) rfl (sQ (qM rfl) rfl ?_))
 refine sP (A3r rfl rfl rfl (by omega) (A4h (by omega))) rfl rfl ?_
 refine sB (T6 rfl rfl) rfl rfl (fun h19 => ?_) (fun h19 => ?_)
 refine sQ (C1 rfl rfl) rfl (sQ (qA rfl) rfl (sD (nS (tT (A6 (rT rfl) ?_)))))
 exact ⟨rfl, by simp only [X0]; (try simp only [Int.toNat_zero] at *); (first | rw [decide_eq_true (by omega)] | rw [decide_eq_false (by omega)]), rfl⟩
 refine sQ (C1 rfl rfl) rfl (sQ (qA rfl) rfl (sD (nS (tT (A6 (rT rfl) ?_)))))
 exact ⟨rfl, by simp only [X0]; (try simp only [Int.toNat_zero] at *); (first | rw [decide_eq_true (by omega)] | rw [decide_eq_false (by omega)]), rfl⟩
 refine A0n ?_
 exact ⟨rfl, by simp only [X0]; (try simp only [Int.toNat_zero] at *); (first | rw [decide_eq_true (by omega)] | rw [decide_eq_false (by omega)]), rfl⟩
 refine N5 ?_
 exact ⟨rfl, by simp only [X0]; (try simp only [Int.toNat_zero] at *); (first | rw [decide_eq_true (by omega)] | rw [decide_eq_false (by omega)]), rfl⟩
theorem A3G (G : IM) (e : List Value) (d : Int) (b : Bool) (bd : Nat) (hl : e.length = 2) (hd : 0 ≤ d ∧ d ≤ 5) (h : Fn Tryz.prog 192 [.agg ⟨e⟩, .int .i64 (d + 1)] [] G (H3 (.bool b) G)) :
  Fn Tryz.prog 217 [.agg ⟨e⟩, .pointer (some ⟨bd, 0, none⟩)] [.blk bd [.int .i64 d]] G (T8 (.bool (!b)) [.blk bd [.int .i64 d]] G) := by
 refine B7 Tryz.func217 rfl Tryz.ntmps217 Tryz.results217 rfl ?_
 intro w0
 refine tS (tR ?_)
 refine sE (D5 rfl rfl) rfl (fun b3 => ?_)
 refine sQ (qA rfl) rfl (sD (nS (tS (tR ?_))))
 refine sL (A9 rfl rfl (C7 (by repeat first | exact mH | apply mT)) (by assumption)) rfl rfl ?_
 refine sL (A5 rfl rfl) rfl rfl ?_
 refine sP (H6 rfl rfl (by omega) (by omega)) rfl rfl ?_
 refine H1 rfl (h) rfl rfl (fun h12 => ?_) (fun h12 => ?_)
 refine sQ (M4 rfl) rfl (sQ (qA rfl) rfl (sD (nS (tT ?_))))
 refine E5 (rT rfl) (A0.cons (Pk.there Pk.here) A0.nil) ?_
 exact ⟨rfl, by simp [*], rfl⟩
 refine sQ (O5 rfl) rfl (sQ (qA rfl) rfl (sD (nS (tT ?_))))
 refine E5 (rT rfl) (A0.cons (Pk.there Pk.here) A0.nil) ?_
 exact ⟨rfl, by simp [*], rfl⟩
theorem B2m : ∀ (t : Ty) (d : Int) (G : IM) (cells : List Value), 0 ≤ d ∧ d ≤ 5 → C3 G t cells →
  Fn Tryz.prog 192 [.agg ⟨cells⟩, .int .i64 d] [] G (H3 (.bool (K6 t d)) G) := by
 refine Ty.ind fun k ks ih d G cells hd hr => ?_
 obtain ⟨p, c, es, rfl, hk, hsl, hkl⟩ := hr.open
 simp only [Ty.k, Ty.ks] at hk hsl hkl ⊢
 have hn := hsl.le
 obtain ⟨A, hA⟩ : ∃ A, ks.all (K6 · (d + 1)) = A := ⟨_, rfl⟩
 refine B7 Tryz.func192 rfl Tryz.ntmps192 Tryz.results192 rfl ?_
 intro w0
 refine tS (tR ?_)
 refine sE (D5 rfl rfl) rfl (fun b3 => ?_)
 (refine E0 (B1q rfl rfl rfl) rfl ?_; rintro _ ⟨b4, rfl⟩)
 refine N5 ?_
 refine B5 (tS (tS (tR (sB (qE rfl rfl) rfl rfl (fun h24 => ?_) (fun h24 => ?_)))))
 refine N5 ?_
 refine sB (T6 rfl rfl) rfl rfl (fun h40 => ?_) (fun h40 => ?_)
 refine sQ (qM rfl) rfl (sQ (qM rfl) rfl (sQ (A3 rfl) rfl (sL (A5 rfl rfl) rfl rfl (sQ (D8 rfl rfl) rfl ?_))))
 refine sB (qE rfl rfl) rfl rfl (fun h46 => ?_) (fun h46 => ?_)
 refine sQ (C1 rfl rfl) rfl (sQ (qM rfl) rfl (sQ (A3 rfl) rfl (sL (A5 rfl rfl) rfl rfl ?_)))
 refine sQ (A2N rfl rfl) rfl (A3w rfl (A3F _ _ _ _ _ hsl _ [] _ [.blk b4 [.int .i64 d]] (K6 · (d + 1)) ks rfl hA (fun i e he => A3G _ _ _ _ _ (hsl.all e (List.mem_of_getElem? he)) hd (ih _ (hkl.inv he B8).1 _ _ _ (by omega) (hkl.inv he B8).2))) Z5 rfl rfl (fun h52 => ?_) (fun h52 => ?_))
 simp only [Bool.not_eq_true', Bool.not_eq_false'] at h52
 refine sQ (M4 rfl) rfl (sQ (C1 rfl rfl) rfl (sQ (qA rfl) rfl (sD (nS (tT (A6 (rT rfl) ?_))))))
 exact ⟨rfl, by (rw [K6, U6, hA]; have := L9 k; first | (rw [decide_eq_true (by omega), decide_eq_true (by omega)]; simp only [*]; done) | (rw [decide_eq_true (by omega), decide_eq_true (by omega)]; simp only [*]; rfl) | (rw [decide_eq_false (by omega)]; rfl) | (rw [decide_eq_true (by omega), decide_eq_false (by omega)]; rfl)), rfl⟩
 simp only [Bool.not_eq_true', Bool.not_eq_false'] at h52
 refine sQ (O5 rfl) rfl (sQ (C1 rfl rfl) rfl (sQ (qA rfl) rfl (sD (nS (tT (A6 (rT rfl) ?_))))))
 exact ⟨rfl, by (rw [K6, U6, hA]; have := L9 k; first | (rw [decide_eq_true (by omega), decide_eq_true (by omega)]; simp only [*]; done) | (rw [decide_eq_true (by omega), decide_eq_true (by omega)]; simp only [*]; rfl) | (rw [decide_eq_false (by omega)]; rfl) | (rw [decide_eq_true (by omega), decide_eq_false (by omega)]; rfl)), rfl⟩
 refine W2 ?_
 exact ⟨rfl, by (rw [K6, U6, hA]; have := L9 k; first | (rw [decide_eq_true (by omega), decide_eq_true (by omega)]; simp only [*]; done) | (rw [decide_eq_true (by omega), decide_eq_true (by omega)]; simp only [*]; rfl) | (rw [decide_eq_false (by omega)]; rfl) | (rw [decide_eq_true (by omega), decide_eq_false (by omega)]; rfl)), rfl⟩
 refine A06 ?_
 exact ⟨rfl, by (rw [K6, U6, hA]; have := L9 k; first | (rw [decide_eq_true (by omega), decide_eq_true (by omega)]; simp only [*]; done) | (rw [decide_eq_true (by omega), decide_eq_true (by omega)]; simp only [*]; rfl) | (rw [decide_eq_false (by omega)]; rfl) | (rw [decide_eq_true (by omega), decide_eq_false (by omega)]; rfl)), rfl⟩
 refine sQ (qA rfl) rfl (sD (nS (cF rfl (tS (tR ?_)))))
 refine sB (qE rfl rfl) rfl rfl (fun h109 => ?_) (fun h109 => ?_)
 refine N5 ?_
 refine sB (T6 rfl rfl) rfl rfl (fun h125 => ?_) (fun h125 => ?_)
 refine sQ (qM rfl) rfl (sQ (qM rfl) rfl (sQ (A3 rfl) rfl (sL (A5 rfl rfl) rfl rfl (sQ (D8 rfl rfl) rfl ?_))))
 refine sB (qE rfl rfl) rfl rfl (fun h131 => ?_) (fun h131 => ?_)
 refine sQ (C1 rfl rfl) rfl (sQ (qM rfl) rfl (sQ (A3 rfl) rfl (sL (A5 rfl rfl) rfl rfl ?_)))
 refine sQ (A2N rfl rfl) rfl (A3w rfl (A3F _ _ _ _ _ hsl _ [] _ [.blk b4 [.int .i64 d]] (K6 · (d + 1)) ks rfl hA (fun i e he => A3G _ _ _ _ _ (hsl.all e (List.mem_of_getElem? he)) hd (ih _ (hkl.inv he B8).1 _ _ _ (by omega) (hkl.inv he B8).2))) Z5 rfl rfl (fun h137 => ?_) (fun h137 => ?_))
 simp only [Bool.not_eq_true', Bool.not_eq_false'] at h137
 refine sQ (M4 rfl) rfl (sQ (C1 rfl rfl) rfl (sQ (qA rfl) rfl (sD (nS (tT (A6 (rT rfl) ?_))))))
 exact ⟨rfl, by (rw [K6, U6, hA]; have := L9 k; first | (rw [decide_eq_true (by omega), decide_eq_true (by omega)]; simp only [*]; done) | (rw [decide_eq_true (by omega), decide_eq_true (by omega)]; simp only [*]; rfl) | (rw [decide_eq_false (by omega)]; rfl) | (rw [decide_eq_true (by omega), decide_eq_false (by omega)]; rfl)), rfl⟩
 simp only [Bool.not_eq_true', Bool.not_eq_false'] at h137
 refine sQ (O5 rfl) rfl (sQ (C1 rfl rfl) rfl (sQ (qA rfl) rfl (sD (nS (tT (A6 (rT rfl) ?_))))))
 exact ⟨rfl, by (rw [K6, U6, hA]; have := L9 k; first | (rw [decide_eq_true (by omega), decide_eq_true (by omega)]; simp only [*]; done) | (rw [decide_eq_true (by omega), decide_eq_true (by omega)]; simp only [*]; rfl) | (rw [decide_eq_false (by omega)]; rfl) | (rw [decide_eq_true (by omega), decide_eq_false (by omega)]; rfl)), rfl⟩
 refine W2 ?_
 exact ⟨rfl, by (rw [K6, U6, hA]; have := L9 k; first | (rw [decide_eq_true (by omega), decide_eq_true (by omega)]; simp only [*]; done) | (rw [decide_eq_true (by omega), decide_eq_true (by omega)]; simp only [*]; rfl) | (rw [decide_eq_false (by omega)]; rfl) | (rw [decide_eq_true (by omega), decide_eq_false (by omega)]; rfl)), rfl⟩
 refine A06 ?_
 exact ⟨rfl, by (rw [K6, U6, hA]; have := L9 k; first | (rw [decide_eq_true (by omega), decide_eq_true (by omega)]; simp only [*]; done) | (rw [decide_eq_true (by omega), decide_eq_true (by omega)]; simp only [*]; rfl) | (rw [decide_eq_false (by omega)]; rfl) | (rw [decide_eq_true (by omega), decide_eq_false (by omega)]; rfl)), rfl⟩
 refine sQ (qA rfl) rfl (sD (nS (cF rfl (tR ?_))))
 refine sB (qE rfl rfl) rfl rfl (fun h193 => ?_) (fun h193 => ?_)
 refine sQ (qA rfl) rfl (sD (nS (qT rfl (tR (sQ (qA rfl) rfl (sD (C8 (nS (tS (tR (sL (A5 rfl rfl) rfl rfl ?_)))))))))))
 refine sB (T6 rfl rfl) rfl rfl (fun h206 => ?_) (fun h206 => ?_)
 refine sQ (qM rfl) rfl (sQ (qM rfl) rfl (sQ (A3 rfl) rfl (sL (A5 rfl rfl) rfl rfl (sQ (D8 rfl rfl) rfl ?_))))
 refine sB (qE rfl rfl) rfl rfl (fun h212 => ?_) (fun h212 => ?_)
 refine sQ (C1 rfl rfl) rfl (sQ (qM rfl) rfl (sQ (A3 rfl) rfl (sL (A5 rfl rfl) rfl rfl ?_)))
 refine sQ (A2N rfl rfl) rfl (A3w rfl (A3F _ _ _ _ _ hsl _ [] _ [.blk b4 [.int .i64 d]] (K6 · (d + 1)) ks rfl hA (fun i e he => A3G _ _ _ _ _ (hsl.all e (List.mem_of_getElem? he)) hd (ih _ (hkl.inv he B8).1 _ _ _ (by omega) (hkl.inv he B8).2))) Z5 rfl rfl (fun h218 => ?_) (fun h218 => ?_))
 simp only [Bool.not_eq_true', Bool.not_eq_false'] at h218
 refine sQ (M4 rfl) rfl (sQ (C1 rfl rfl) rfl (sQ (qA rfl) rfl (sD (nS (tT (A6 (rT rfl) ?_))))))
 exact ⟨rfl, by (rw [K6, U6, hA]; have := L9 k; first | (rw [decide_eq_true (by omega), decide_eq_true (by omega)]; simp only [*]; done) | (rw [decide_eq_true (by omega), decide_eq_true (by omega)]; simp only [*]; rfl) | (rw [decide_eq_false (by omega)]; rfl) | (rw [decide_eq_true (by omega), decide_eq_false (by omega)]; rfl)), rfl⟩
 simp only [Bool.not_eq_true', Bool.not_eq_false'] at h218
 refine sQ (O5 rfl) rfl (sQ (C1 rfl rfl) rfl (sQ (qA rfl) rfl (sD (nS (tT (A6 (rT rfl) ?_))))))
 exact ⟨rfl, by (rw [K6, U6, hA]; have := L9 k; first | (rw [decide_eq_true (by omega), decide_eq_true (by omega)]; simp only [*]; done) | (rw [decide_eq_true (by omega), decide_eq_true (by omega)]; simp only [*]; rfl) | (rw [decide_eq_false (by omega)]; rfl) | (rw [decide_eq_true (by omega), decide_eq_false (by omega)]; rfl)), rfl⟩
 refine W2 ?_
 exact ⟨rfl, by (rw [K6, U6, hA]; have := L9 k; first | (rw [decide_eq_true (by omega), decide_eq_true (by omega)]; simp only [*]; done) | (rw [decide_eq_true (by omega), decide_eq_true (by omega)]; simp only [*]; rfl) | (rw [decide_eq_false (by omega)]; rfl) | (rw [decide_eq_true (by omega), decide_eq_false (by omega)]; rfl)), rfl⟩
 refine A06 ?_
 exact ⟨rfl, by (rw [K6, U6, hA]; have := L9 k; first | (rw [decide_eq_true (by omega), decide_eq_true (by omega)]; simp only [*]; done) | (rw [decide_eq_true (by omega), decide_eq_true (by omega)]; simp only [*]; rfl) | (rw [decide_eq_false (by omega)]; rfl) | (rw [decide_eq_true (by omega), decide_eq_false (by omega)]; rfl)), rfl⟩
 refine sQ (qA rfl) rfl (sD (nS (cF rfl (tS (tS (tR ?_))))))
 refine sB (qE rfl rfl) rfl rfl (fun h276 => ?_) (fun h276 => ?_)
 refine N5 ?_
 refine sB (T6 rfl rfl) rfl rfl (fun h292 => ?_) (fun h292 => ?_)
 refine sQ (qM rfl) rfl (sQ (qM rfl) rfl (sQ (A3 rfl) rfl (sL (A5 rfl rfl) rfl rfl (sQ (D8 rfl rfl) rfl ?_))))
 refine sB (qE rfl rfl) rfl rfl (fun h298 => ?_) (fun h298 => ?_)
 refine sQ (C1 rfl rfl) rfl (sQ (qM rfl) rfl (sQ (A3 rfl) rfl (sL (A5 rfl rfl) rfl rfl ?_)))
 refine sQ (A2N rfl rfl) rfl (A3w rfl (A3F _ _ _ _ _ hsl _ [] _ [.blk b4 [.int .i64 d]] (K6 · (d + 1)) ks rfl hA (fun i e he => A3G _ _ _ _ _ (hsl.all e (List.mem_of_getElem? he)) hd (ih _ (hkl.inv he B8).1 _ _ _ (by omega) (hkl.inv he B8).2))) Z5 rfl rfl (fun h304 => ?_) (fun h304 => ?_))
 simp only [Bool.not_eq_true', Bool.not_eq_false'] at h304
 refine sQ (M4 rfl) rfl (sQ (C1 rfl rfl) rfl (sQ (qA rfl) rfl (sD (nS (tT (A6 (rT rfl) ?_))))))
 exact ⟨rfl, by (rw [K6, U6, hA]; have := L9 k; first | (rw [decide_eq_true (by omega), decide_eq_true (by omega)]; simp only [*]; done) | (rw [decide_eq_true (by omega), decide_eq_true (by omega)]; simp only [*]; rfl) | (rw [decide_eq_false (by omega)]; rfl) | (rw [decide_eq_true (by omega), decide_eq_false (by omega)]; rfl)), rfl⟩
 simp only [Bool.not_eq_true', Bool.not_eq_false'] at h304
 refine sQ (O5 rfl) rfl (sQ (C1 rfl rfl) rfl (sQ (qA rfl) rfl (sD (nS (tT (A6 (rT rfl) ?_))))))
 exact ⟨rfl, by (rw [K6, U6, hA]; have := L9 k; first | (rw [decide_eq_true (by omega), decide_eq_true (by omega)]; simp only [*]; done) | (rw [decide_eq_true (by omega), decide_eq_true (by omega)]; simp only [*]; rfl) | (rw [decide_eq_false (by omega)]; rfl) | (rw [decide_eq_true (by omega), decide_eq_false (by omega)]; rfl)), rfl⟩
 refine W2 ?_
 exact ⟨rfl, by (rw [K6, U6, hA]; have := L9 k; first | (rw [decide_eq_true (by omega), decide_eq_true (by omega)]; simp only [*]; done) | (rw [decide_eq_true (by omega), decide_eq_true (by omega)]; simp only [*]; rfl) | (rw [decide_eq_false (by omega)]; rfl) | (rw [decide_eq_true (by omega), decide_eq_false (by omega)]; rfl)), rfl⟩
 refine A06 ?_
 exact ⟨rfl, by (rw [K6, U6, hA]; have := L9 k; first | (rw [decide_eq_true (by omega), decide_eq_true (by omega)]; simp only [*]; done) | (rw [decide_eq_true (by omega), decide_eq_true (by omega)]; simp only [*]; rfl) | (rw [decide_eq_false (by omega)]; rfl) | (rw [decide_eq_true (by omega), decide_eq_false (by omega)]; rfl)), rfl⟩
 refine sQ (qA rfl) rfl (sD (nS (cF rfl (tR ?_))))
 refine sB (qE rfl rfl) rfl rfl (fun h360 => ?_) (fun h360 => ?_)
 refine sQ (qA rfl) rfl (sD (nS (qT rfl (tR (sQ (qA rfl) rfl (sD (C8 (nS (tS (tR (sL (A5 rfl rfl) rfl rfl ?_)))))))))))
 refine sB (T6 rfl rfl) rfl rfl (fun h373 => ?_) (fun h373 => ?_)
 refine sQ (qM rfl) rfl (sQ (qM rfl) rfl (sQ (A3 rfl) rfl (sL (A5 rfl rfl) rfl rfl (sQ (D8 rfl rfl) rfl ?_))))
 refine sB (qE rfl rfl) rfl rfl (fun h379 => ?_) (fun h379 => ?_)
 refine sQ (C1 rfl rfl) rfl (sQ (qM rfl) rfl (sQ (A3 rfl) rfl (sL (A5 rfl rfl) rfl rfl ?_)))
 refine sQ (A2N rfl rfl) rfl (A3w rfl (A3F _ _ _ _ _ hsl _ [] _ [.blk b4 [.int .i64 d]] (K6 · (d + 1)) ks rfl hA (fun i e he => A3G _ _ _ _ _ (hsl.all e (List.mem_of_getElem? he)) hd (ih _ (hkl.inv he B8).1 _ _ _ (by omega) (hkl.inv he B8).2))) Z5 rfl rfl (fun h385 => ?_) (fun h385 => ?_))
 simp only [Bool.not_eq_true', Bool.not_eq_false'] at h385
 refine sQ (M4 rfl) rfl (sQ (C1 rfl rfl) rfl (sQ (qA rfl) rfl (sD (nS (tT (A6 (rT rfl) ?_))))))
 exact ⟨rfl, by (rw [K6, U6, hA]; have := L9 k; first | (rw [decide_eq_true (by omega), decide_eq_true (by omega)]; simp only [*]; done) | (rw [decide_eq_true (by omega), decide_eq_true (by omega)]; simp only [*]; rfl) | (rw [decide_eq_false (by omega)]; rfl) | (rw [decide_eq_true (by omega), decide_eq_false (by omega)]; rfl)), rfl⟩
 simp only [Bool.not_eq_true', Bool.not_eq_false'] at h385
 refine sQ (O5 rfl) rfl (sQ (C1 rfl rfl) rfl (sQ (qA rfl) rfl (sD (nS (tT (A6 (rT rfl) ?_))))))
 exact ⟨rfl, by (rw [K6, U6, hA]; have := L9 k; first | (rw [decide_eq_true (by omega), decide_eq_true (by omega)]; simp only [*]; done) | (rw [decide_eq_true (by omega), decide_eq_true (by omega)]; simp only [*]; rfl) | (rw [decide_eq_false (by omega)]; rfl) | (rw [decide_eq_true (by omega), decide_eq_false (by omega)]; rfl)), rfl⟩
 refine W2 ?_
 exact ⟨rfl, by (rw [K6, U6, hA]; have := L9 k; first | (rw [decide_eq_true (by omega), decide_eq_true (by omega)]; simp only [*]; done) | (rw [decide_eq_true (by omega), decide_eq_true (by omega)]; simp only [*]; rfl) | (rw [decide_eq_false (by omega)]; rfl) | (rw [decide_eq_true (by omega), decide_eq_false (by omega)]; rfl)), rfl⟩
 refine A06 ?_
 exact ⟨rfl, by (rw [K6, U6, hA]; have := L9 k; first | (rw [decide_eq_true (by omega), decide_eq_true (by omega)]; simp only [*]; done) | (rw [decide_eq_true (by omega), decide_eq_true (by omega)]; simp only [*]; rfl) | (rw [decide_eq_false (by omega)]; rfl) | (rw [decide_eq_true (by omega), decide_eq_false (by omega)]; rfl)), rfl⟩
 refine sQ (qA rfl) rfl (sD (nS (cF rfl (tK (C8 (nS (tS (tR (sL (A5 rfl rfl) rfl rfl ?_)))))))))
 refine sB (T6 rfl rfl) rfl rfl (fun h446 => ?_) (fun h446 => ?_)
 refine sQ (qM rfl) rfl (sQ (qM rfl) rfl (sQ (A3 rfl) rfl (sL (A5 rfl rfl) rfl rfl (sQ (D8 rfl rfl) rfl ?_))))
 refine sP (E9 rfl rfl (by omega)) rfl rfl ?_
 refine W2 ?_
 exact ⟨rfl, by (rw [K6, U6, hA]; have := L9 k; first | (rw [decide_eq_true (by omega), decide_eq_true (by omega)]; simp only [*]; done) | (rw [decide_eq_true (by omega), decide_eq_true (by omega)]; simp only [*]; rfl) | (rw [decide_eq_false (by omega)]; rfl) | (rw [decide_eq_true (by omega), decide_eq_false (by omega)]; rfl)), rfl⟩
 refine A06 ?_
 exact ⟨rfl, by (rw [K6, U6, hA]; have := L9 k; first | (rw [decide_eq_true (by omega), decide_eq_true (by omega)]; simp only [*]; done) | (rw [decide_eq_true (by omega), decide_eq_true (by omega)]; simp only [*]; rfl) | (rw [decide_eq_false (by omega)]; rfl) | (rw [decide_eq_true (by omega), decide_eq_false (by omega)]; rfl)), rfl⟩
theorem A5L (t : Ty) (G : IM) (cells : List Value) (hr : C3 G t cells) : Fn Tryz.prog 159 [.agg ⟨cells⟩] [] G (H3 (.bool (M0 t)) G) := by
 have hl := hr.len
 have hv := B2m t 1 G cells (by omega) hr
 refine B7 Tryz.func159 rfl Tryz.ntmps159 Tryz.results159 rfl ?_
 intro w0
 refine tS (tR ?_)
 refine sE (D5 rfl rfl) rfl (fun b3 => ?_)
 refine sQ (qA rfl) rfl (sD (nS (tS (tR ?_))))
 refine sL (A9 rfl rfl (C7 (by repeat first | exact mH | apply mT)) (by assumption)) rfl rfl ?_
 refine F0 rfl (hv) rfl rfl ?_
 refine sQ (qA rfl) rfl (sD (nS (tT (A6 (rT rfl) ?_))))
 exact ⟨rfl, rfl, rfl⟩
theorem B2n : ∀ (t t' : Ty) (G : IM) (cells cells' : List Value), C3 G t cells → C3 G t' cells' →
  Fn Tryz.prog 193 [.agg ⟨cells⟩, .agg ⟨cells'⟩] [] G (H3 (.bool (O3 t t')) G) := by
 refine Ty.ind fun k ks ih t' G cells cells' hr hr' => ?_
 obtain ⟨k', ks'⟩ := t'
 obtain ⟨p, c, es, rfl, hk, hsl, hkl⟩ := hr.open
 obtain ⟨p', c', es', rfl, hk', hsl', hkl'⟩ := hr'.open
 simp only [Ty.k, Ty.ks] at hk hsl hkl hk' hsl' hkl' ⊢
 have hn := hsl.le
 have hn' := hsl'.le
 obtain ⟨A, hA⟩ : ∃ A, Y2 ks ks' = A := ⟨_, rfl⟩
 have hA' : A = true ↔ ks.length = ks'.length ∧ ∀ i, i < ks.length → O3 (ks.getD i B8) (ks'.getD i B8) = true := by
  rw [← hA, A2V]
  constructor
  ·rintro ⟨h1, h2⟩
   refine ⟨h1, fun i hi => ?_⟩
   have := h2 i hi (by omega)
   simpa [List.getD_eq_getElem?_getD, List.getElem?_eq_getElem hi, List.getElem?_eq_getElem (show i < ks'.length by omega)] using this
  ·rintro ⟨h1, h2⟩
   refine ⟨h1, fun i hi hi' => ?_⟩
   have := h2 i hi
   simpa [List.getD_eq_getElem?_getD, List.getElem?_eq_getElem hi, List.getElem?_eq_getElem hi'] using this
 refine B7 Tryz.func193 rfl Tryz.ntmps193 Tryz.results193 rfl ?_
 intro w0
 refine tS (tR ?_)
 refine sE (D5 rfl rfl) rfl (fun b3 => ?_)
 refine sE (D5 rfl rfl) rfl (fun b4 => ?_)
 refine sQ (qA rfl) rfl (sD (nS (tS (tR (sQ (A3 rfl) rfl (sL (A5 rfl rfl) rfl rfl ?_))))))
 refine sB (qE rfl rfl) rfl rfl (fun h12 => ?_) (fun h12 => ?_)
 refine A2U ?_
 exact ⟨rfl, by (rw [A1a, hA]; first | (rw [decide_eq_true (p := k = 1) (by omega)]; rfl) | (rw [decide_eq_false (p := k = 1) (by omega), decide_eq_true (p := k' = 1) (by omega)]; rfl) | (rw [decide_eq_false (p := k = 1) (by omega), decide_eq_false (p := k' = 1) (by omega), decide_eq_false (p := k = k') (by omega)]; rfl) | (rw [decide_eq_false (p := k = 1) (by omega), decide_eq_false (p := k' = 1) (by omega), decide_eq_true (p := k = k') (by omega)]; simp only [*]; rfl)), rfl⟩
 refine sQ (qM rfl) rfl (sQ (A3 rfl) rfl (sL (A5 rfl rfl) rfl rfl ?_))
 refine sB (qE rfl rfl) rfl rfl (fun h41 => ?_) (fun h41 => ?_)
 refine A07 ?_
 exact ⟨rfl, by (rw [A1a, hA]; first | (rw [decide_eq_true (p := k = 1) (by omega)]; rfl) | (rw [decide_eq_false (p := k = 1) (by omega), decide_eq_true (p := k' = 1) (by omega)]; rfl) | (rw [decide_eq_false (p := k = 1) (by omega), decide_eq_false (p := k' = 1) (by omega), decide_eq_false (p := k = k') (by omega)]; rfl) | (rw [decide_eq_false (p := k = 1) (by omega), decide_eq_false (p := k' = 1) (by omega), decide_eq_true (p := k = k') (by omega)]; simp only [*]; rfl)), rfl⟩
 refine wk6 ?_
 refine sB (qE rfl rfl) rfl rfl (fun h69 => ?_) (fun h69 => ?_)
 refine sQ (qM rfl) rfl (sQ (A3 rfl) rfl (sL (A5 rfl rfl) rfl rfl (sQ (A3 rfl) rfl (sL (A5 rfl rfl) rfl rfl ?_))))
 refine H1 rfl (A8e _ _ _ _ _ _ _ _ _ hsl hsl' _ [] [] [] (fun i => O3 (ks.getD i B8) (ks'.getD i B8)) A hA' (fun i e e' he he' => ih _ (hkl.inv he B8).1 _ _ _ _ (hkl.inv he B8).2 (hkl'.inv he' B8).2)) rfl rfl (fun h75 => ?_) (fun h75 => ?_)
 refine sQ (C1 rfl rfl) rfl (sQ (D7 rfl rfl) rfl (sQ (qA rfl) rfl (sD (nS (tT (A6 (rT rfl) ?_))))))
 exact ⟨rfl, by (rw [A1a, hA]; first | (rw [decide_eq_true (p := k = 1) (by omega)]; rfl) | (rw [decide_eq_false (p := k = 1) (by omega), decide_eq_true (p := k' = 1) (by omega)]; rfl) | (rw [decide_eq_false (p := k = 1) (by omega), decide_eq_false (p := k' = 1) (by omega), decide_eq_false (p := k = k') (by omega)]; rfl) | (rw [decide_eq_false (p := k = 1) (by omega), decide_eq_false (p := k' = 1) (by omega), decide_eq_true (p := k = k') (by omega)]; simp only [*]; rfl)), rfl⟩
 refine sQ (C1 rfl rfl) rfl (sQ (D7 rfl rfl) rfl (sQ (qA rfl) rfl (sD (nS (tT (A6 (rT rfl) ?_))))))
 exact ⟨rfl, by (rw [A1a, hA]; first | (rw [decide_eq_true (p := k = 1) (by omega)]; rfl) | (rw [decide_eq_false (p := k = 1) (by omega), decide_eq_true (p := k' = 1) (by omega)]; rfl) | (rw [decide_eq_false (p := k = 1) (by omega), decide_eq_false (p := k' = 1) (by omega), decide_eq_false (p := k = k') (by omega)]; rfl) | (rw [decide_eq_false (p := k = 1) (by omega), decide_eq_false (p := k' = 1) (by omega), decide_eq_true (p := k = k') (by omega)]; simp only [*]; rfl)), rfl⟩
 refine W2 ?_
 exact ⟨rfl, by (rw [A1a, hA]; first | (rw [decide_eq_true (p := k = 1) (by omega)]; rfl) | (rw [decide_eq_false (p := k = 1) (by omega), decide_eq_true (p := k' = 1) (by omega)]; rfl) | (rw [decide_eq_false (p := k = 1) (by omega), decide_eq_false (p := k' = 1) (by omega), decide_eq_false (p := k = k') (by omega)]; rfl) | (rw [decide_eq_false (p := k = 1) (by omega), decide_eq_false (p := k' = 1) (by omega), decide_eq_true (p := k = k') (by omega)]; simp only [*]; rfl)), rfl⟩
theorem B2o (t t' : Ty) (G : IM) (cells cells' : List Value) (hr : C3 G t cells) (hr' : C3 G t' cells') :
  Fn Tryz.prog 161 [.agg ⟨cells⟩, .agg ⟨cells'⟩] [] G (H3 (.bool (A1O t t')) G) := by
 have hl := hr.len
 have hl' := hr'.len
 have hv := A5L t G cells hr
 have hv' := A5L t' G cells' hr'
 have hc := B2n t t' G cells cells' hr hr'
 refine B7 Tryz.func161 rfl Tryz.ntmps161 Tryz.results161 rfl ?_
 intro w0
 refine tS (tR ?_)
 refine sE (D5 rfl rfl) rfl (fun b3 => ?_)
 refine sE (D5 rfl rfl) rfl (fun b4 => ?_)
 refine sQ (qA rfl) rfl (sD (nS (tS (tR ?_))))
 refine sL (A9 rfl rfl (C7 (by repeat first | exact mH | apply mT)) (by assumption)) rfl rfl ?_
 refine H1 rfl (hv) rfl rfl (fun h11 => ?_) (fun h11 => ?_)
 refine sQ (qM rfl) rfl ?_
 refine sL (A9 rfl rfl (C7 (by repeat first | exact mH | apply mT)) (by assumption)) rfl rfl ?_
 refine H1 rfl (hv') rfl rfl (fun h14 => ?_) (fun h14 => ?_)
 refine sQ (C1 rfl rfl) rfl (sQ (qM rfl) rfl ?_)
 refine sL (A9 rfl rfl (C7 (by repeat first | exact mH | apply mT)) (by assumption)) rfl rfl ?_
 refine sL (A9 rfl rfl (C7 (by repeat first | exact mH | apply mT)) (by assumption)) rfl rfl ?_
 refine H1 rfl (hc) rfl rfl (fun h19 => ?_) (fun h19 => ?_)
 refine sQ (C1 rfl rfl) rfl (sQ (qA rfl) rfl (sD (nS (tT (A6 (rT rfl) ?_)))))
 exact ⟨rfl, by simp only [A1O]; simp only [*, Bool.true_and, Bool.false_and, Bool.and_true], rfl⟩
 refine sQ (C1 rfl rfl) rfl (sQ (qA rfl) rfl (sD (nS (tT (A6 (rT rfl) ?_)))))
 exact ⟨rfl, by simp only [A1O]; simp only [*, Bool.true_and, Bool.false_and, Bool.and_true], rfl⟩
 refine A0n ?_
 exact ⟨rfl, by simp only [A1O]; simp only [*, Bool.true_and, Bool.false_and, Bool.and_true], rfl⟩
 refine Y8 ?_
 exact ⟨rfl, by simp only [A1O]; simp only [*, Bool.true_and, Bool.false_and, Bool.and_true], rfl⟩
end Gw
end Go.Proofs.YtgodjiieijekiaaGreatDoor
