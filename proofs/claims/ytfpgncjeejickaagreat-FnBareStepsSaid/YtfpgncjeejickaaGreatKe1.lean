/-
  The data of the program: types and terms as trees, and how they lie in memory.
-/
import Derived.Test.YtfpgncjeejickaaGreatKe0
import Derived.Laws.BytesArg
import Derived.WalkKit
import Derived.ProofKit
import Derived.OpenShut
import Derived.Carry
import Init
set_option linter.unusedVariables false
set_option linter.unusedSimpArgs false
set_option maxHeartbeats 0
set_option maxRecDepth 100000
set_option synthInstance.maxSize 4000
set_option synthInstance.maxHeartbeats 0
namespace Go.Proofs.YtfpgncjeejickaaGreat
open Go Go.RowKit
namespace Gw

structure C9 (G : IM) (p : Option Addr) (n c sz : Nat) (es : List (List Value)) : Prop where
 sl : Sl G p n c sz es.flatten
 len : es.length = n
 all : ∀ e ∈ es, e.length = sz
 one : ∀ e ∈ es, e.all (·.oneCell') = true

theorem C9.mono {G G' : IM} {p : Option Addr} {n c sz : Nat} {es : List (List Value)} (h : C9 G p n c sz es) (hg : B6 G G') : C9 G' p n c sz es := ⟨h.sl.mono hg, h.len, h.all, h.one⟩
theorem C9.nil (G : IM) (sz : Nat) : C9 G none 0 0 sz [] := ⟨Sl.nil G sz, rfl, by simp, by simp⟩

theorem A6W {sz : Nat} : ∀ {es : List (List Value)}, (∀ e ∈ es, e.length = sz) → ∀ {i : Nat} {e : List Value}, es[i]? = some e → ∀ j v, e[j]? = some v → es.flatten[i * sz + j]? = some v
 | [], _, i, e, h, _, _, _ => by simp at h
 | a :: r, hall, 0, e, h, j, v, hv => by
  simp at h; subst h
  have : j < a.length := (List.getElem?_eq_some_iff.1 hv).1
  simp [List.getElem?_append, this]
  simpa [List.getElem?_eq_getElem this] using hv
 | a :: r, hall, i + 1, e, h, j, v, hv => by
  have ih := A6W (es := r) (fun x hx => hall x (List.mem_cons_of_mem _ hx)) (i := i) (e := e) (by simpa using h) j v hv
  have ha := hall a List.mem_cons_self
  rw [List.flatten_cons, List.getElem?_append, if_neg (by rw [ha, Nat.succ_mul]; omega)]
  rw [show (i + 1) * sz + j - a.length = i * sz + j by rw [ha, Nat.succ_mul]; omega]
  exact ih

theorem C9.at {G : IM} {p : Option Addr} {n c sz : Nat} {es : List (List Value)} (h : C9 G p n c sz es) {i : Nat} {e : List Value} (hi : es[i]? = some e) :
  ∃ b o, p = some ⟨b, o, none⟩ ∧ ∀ hp, At hp G b (o + i * sz) e := by
 have hlt : i < es.length := (List.getElem?_eq_some_iff.1 hi).1
 obtain ⟨_, _, _, h4⟩ := h.sl
 have hn := h.len
 rcases h4 with h0 | ⟨b, o, full, hp, hg, hf⟩
 ·omega
 ·refine ⟨b, o, hp, fun hp => A3V hg fun j v hv => ?_⟩
  rw [Nat.add_assoc]
  exact hf _ v (A6W h.all hi j v hv)

theorem C9.get {G : IM} {p : Option Addr} {n c sz : Nat} {es : List (List Value)} (h : C9 G p n c sz es) {i : Nat} (hi : i < n) :
  ∃ e b o, es[i]? = some e ∧ p = some ⟨b, o, none⟩ ∧ e.length = sz ∧ e.all (·.oneCell') = true ∧ (∀ hp, At hp G b (o + i * sz) e) ∧ G b ≠ none := by
 have hlt : i < es.length := by rw [h.len]; exact hi
 have he : es[i]? = some es[i] := List.getElem?_eq_getElem hlt
 obtain ⟨b, o, h1, h2⟩ := h.at he
 refine ⟨es[i], b, o, he, h1, h.all _ (List.getElem_mem hlt), h.one _ (List.getElem_mem hlt), h2, ?_⟩
 obtain ⟨_, _, _, h4⟩ := h.sl
 rcases h4 with h0 | ⟨b', o', full, hp, hg, hf⟩
 ·omega
 ·rw [h1] at hp; cases hp; rw [hg]; simp
theorem C9.le {G : IM} {p : Option Addr} {n c sz : Nat} {es : List (List Value)} (h : C9 G p n c sz es) : n ≤ 9223372036854775807 := by
 have h1 := h.sl.2.1; have h2 := h.sl.2.2.1; unfold maxLen at h2; omega

theorem C9.of {G : IM} {p : Option Addr} {n c sz : Nat} {es : List (List Value)} (h : Sl G p n c sz es.flatten) (hl : es.length = n) (ha : ∀ e ∈ es, e.length = sz) (ho : ∀ e ∈ es, e.all (·.oneCell') = true) : C9 G p n c sz es := ⟨h, hl, ha, ho⟩

def E3 (n : Int) : Prop := -9223372036854775808 ≤ n ∧ n ≤ 9223372036854775807

inductive Ty where
 | mk (k : Int) (ks : List Ty)

def Ty.k : Ty → Int | .mk k _ => k
def Ty.ks : Ty → List Ty | .mk _ ks => ks

inductive Tm where
 | mk (k : Int) (nm : ByteArray) (num : Int) (ty fr : Ty) (lb : Int) (ks : List Tm)

def Tm.k : Tm → Int | .mk k _ _ _ _ _ _ => k
def Tm.nm : Tm → ByteArray | .mk _ n _ _ _ _ _ => n
def Tm.num : Tm → Int | .mk _ _ n _ _ _ _ => n
def Tm.ty : Tm → Ty | .mk _ _ _ t _ _ _ => t
def Tm.fr : Tm → Ty | .mk _ _ _ _ f _ _ => f
def Tm.lb : Tm → Int | .mk _ _ _ _ _ l _ => l
def Tm.ks : Tm → List Tm | .mk _ _ _ _ _ _ ks => ks

mutual
def Ty.small : Ty → Prop
 | .mk _ ks => ks.length ≤ 4294967296 ∧ Ty.smallL ks
def Ty.smallL : List Ty → Prop
 | [] => True
 | t :: ts => t.small ∧ Ty.smallL ts
end
mutual
def Tm.small : Tm → Prop
 | .mk _ nm _ ty fr _ ks => nm.size ≤ 4294967296 ∧ ty.small ∧ fr.small ∧ ks.length ≤ 4294967296 ∧ Tm.smallL ks
def Tm.smallL : List Tm → Prop
 | [] => True
 | t :: ts => t.small ∧ Tm.smallL ts
end
theorem Ty.smallL_mem : ∀ {ts : List Ty}, Ty.smallL ts → ∀ t ∈ ts, t.small
 | [], _, t, h => by simp at h
 | t' :: ts, h, t, ht => by
  simp only [Ty.smallL] at h
  rcases List.mem_cons.1 ht with rfl | ht
  ·exact h.1
  ·exact Ty.smallL_mem h.2 t ht
theorem Tm.smallL_mem : ∀ {ts : List Tm}, Tm.smallL ts → ∀ t ∈ ts, t.small
 | [], _, t, h => by simp at h
 | t' :: ts, h, t, ht => by
  simp only [Tm.smallL] at h
  rcases List.mem_cons.1 ht with rfl | ht
  ·exact h.1
  ·exact Tm.smallL_mem h.2 t ht

mutual
def B5 (G : IM) : Ty → List Value → Prop
 | .mk k ks, cells => ∃ p c es, cells = [.int .i64 k, .slice p ks.length c] ∧ E3 k ∧ C9 G p ks.length c 2 es ∧ E6 G ks es
def E6 (G : IM) : List Ty → List (List Value) → Prop
 | [], es => es = []
 | t :: ts, es => ∃ a r, es = a :: r ∧ B5 G t a ∧ E6 G ts r
end

mutual
def A6 (G : IM) : Tm → List Value → Prop
 | .mk k nm num ty fr lb ks, cells => ∃ tc fc p c es, cells = [.int .i64 k, .string nm, .int .i64 num] ++ tc ++ fc ++ [.int .i64 lb, .slice p ks.length c] ∧ E3 k ∧ E3 num ∧ E3 lb ∧ B5 G ty tc ∧ B5 G fr fc ∧ C9 G p ks.length c 9 es ∧ D2 G ks es
def D2 (G : IM) : List Tm → List (List Value) → Prop
 | [], es => es = []
 | t :: ts, es => ∃ a r, es = a :: r ∧ A6 G t a ∧ D2 G ts r
end

mutual
theorem B5.mono {G G' : IM} (hg : B6 G G') : ∀ {t : Ty} {cells : List Value}, B5 G t cells → B5 G' t cells
 | .mk k ks, cells, h => by
  simp only [B5] at h ⊢
  obtain ⟨p, c, es, h1, h2, h3, h4⟩ := h
  exact ⟨p, c, es, h1, h2, h3.mono hg, E6.mono hg h4⟩
theorem E6.mono {G G' : IM} (hg : B6 G G') : ∀ {ts : List Ty} {es : List (List Value)}, E6 G ts es → E6 G' ts es
 | [], es, h => by simpa only [E6] using h
 | t :: ts, es, h => by
  simp only [E6] at h ⊢
  obtain ⟨a, r, h1, h2, h3⟩ := h
  exact ⟨a, r, h1, B5.mono hg h2, E6.mono hg h3⟩
end
mutual
theorem A6.mono {G G' : IM} (hg : B6 G G') : ∀ {t : Tm} {cells : List Value}, A6 G t cells → A6 G' t cells
 | .mk k nm num ty fr lb ks, cells, h => by
  simp only [A6] at h ⊢
  obtain ⟨tc, fc, p, c, es, h1, h2, h3, h4, h5, h6, h7, h8⟩ := h
  exact ⟨tc, fc, p, c, es, h1, h2, h3, h4, h5.mono hg, h6.mono hg, h7.mono hg, D2.mono hg h8⟩
theorem D2.mono {G G' : IM} (hg : B6 G G') : ∀ {ts : List Tm} {es : List (List Value)}, D2 G ts es → D2 G' ts es
 | [], es, h => by simpa only [D2] using h
 | t :: ts, es, h => by
  simp only [D2] at h ⊢
  obtain ⟨a, r, h1, h2, h3⟩ := h
  exact ⟨a, r, h1, A6.mono hg h2, D2.mono hg h3⟩
end

theorem B5.open {G : IM} {t : Ty} {cells : List Value} (h : B5 G t cells) : ∃ p c es, cells = [.int .i64 t.k, .slice p t.ks.length c] ∧ E3 t.k ∧ C9 G p t.ks.length c 2 es ∧ E6 G t.ks es := by
 cases t; simpa only [B5, Ty.k, Ty.ks] using h
theorem A6.open {G : IM} {t : Tm} {cells : List Value} (h : A6 G t cells) : ∃ pt ct et pf cf ef p c es,
  cells = [.int .i64 t.k, .string t.nm, .int .i64 t.num, .int .i64 t.ty.k, .slice pt t.ty.ks.length ct, .int .i64 t.fr.k, .slice pf t.fr.ks.length cf, .int .i64 t.lb, .slice p t.ks.length c] ∧
  E3 t.k ∧ E3 t.num ∧ E3 t.lb ∧ (E3 t.ty.k ∧ C9 G pt t.ty.ks.length ct 2 et ∧ E6 G t.ty.ks et) ∧ (E3 t.fr.k ∧ C9 G pf t.fr.ks.length cf 2 ef ∧ E6 G t.fr.ks ef) ∧ C9 G p t.ks.length c 9 es ∧ D2 G t.ks es := by
 obtain ⟨k, nm, num, ty, fr, lb, ks⟩ := t
 simp only [A6] at h
 obtain ⟨tc, fc, p, c, es, h1, h2, h3, h4, h5, h6, h7, h8⟩ := h
 obtain ⟨pt, ct, et, rfl, t1, t2, t3⟩ := h5.open
 obtain ⟨pf, cf, ef, rfl, f1, f2, f3⟩ := h6.open
 exact ⟨pt, ct, et, pf, cf, ef, p, c, es, h1, h2, h3, h4, ⟨t1, t2, t3⟩, ⟨f1, f2, f3⟩, h7, h8⟩
theorem A6.open9 {G : IM} {k : Int} {nm : ByteArray} {num : Int} {tk : Int} {tks : List Ty} {fk : Int} {fks : List Ty} {lb : Int} {ks : List Tm} {cells : List Value} (h : A6 G (.mk k nm num (.mk tk tks) (.mk fk fks) lb ks) cells) :
  ∃ pt ct pf cf p c es, cells = [.int .i64 k, .string nm, .int .i64 num, .int .i64 tk, .slice pt tks.length ct, .int .i64 fk, .slice pf fks.length cf, .int .i64 lb, .slice p ks.length c] ∧
  E3 k ∧ E3 num ∧ E3 lb ∧ B5 G (.mk tk tks) [.int .i64 tk, .slice pt tks.length ct] ∧ B5 G (.mk fk fks) [.int .i64 fk, .slice pf fks.length cf] ∧ C9 G p ks.length c 9 es ∧ D2 G ks es := by
 obtain ⟨pt, ct, et, pf, cf, ef, p, c, es, h1, h2, h3, h4, ⟨t1, t2, t3⟩, ⟨f1, f2, f3⟩, h7, h8⟩ := h.open
 simp only [Tm.k, Tm.nm, Tm.num, Tm.ty, Tm.fr, Tm.lb, Tm.ks, Ty.k, Ty.ks] at h1 h2 h3 h4 t1 t2 t3 f1 f2 f3 h7 h8
 exact ⟨pt, ct, pf, cf, p, c, es, h1, h2, h3, h4, by simp only [B5]; exact ⟨_, _, et, rfl, t1, t2, t3⟩, by simp only [B5]; exact ⟨_, _, ef, rfl, f1, f2, f3⟩, h7, h8⟩
theorem B5.len {G : IM} {t : Ty} {cells : List Value} (h : B5 G t cells) : cells.length = 2 := by
 obtain ⟨_, _, _, rfl, _⟩ := h.open; rfl
theorem A6.len {G : IM} {t : Tm} {cells : List Value} (h : A6 G t cells) : cells.length = 9 := by
 obtain ⟨_, _, _, _, _, _, _, _, _, rfl, _⟩ := h.open; rfl

theorem E6.len {G : IM} : ∀ {ts : List Ty} {es : List (List Value)}, E6 G ts es → es.length = ts.length
 | [], es, h => by simp only [E6] at h; subst h; rfl
 | t :: ts, es, h => by
  simp only [E6] at h
  obtain ⟨a, r, rfl, _, h3⟩ := h
  simp [h3.len]
theorem D2.len {G : IM} : ∀ {ts : List Tm} {es : List (List Value)}, D2 G ts es → es.length = ts.length
 | [], es, h => by simp only [D2] at h; subst h; rfl
 | t :: ts, es, h => by
  simp only [D2] at h
  obtain ⟨a, r, rfl, _, h3⟩ := h
  simp [h3.len]
theorem E6.get {G : IM} : ∀ {ts : List Ty} {es : List (List Value)}, E6 G ts es → ∀ {i : Nat} {t : Ty}, ts[i]? = some t → ∃ e, es[i]? = some e ∧ B5 G t e
 | [], es, h, i, t, hi => by simp at hi
 | t' :: ts, es, h, i, t, hi => by
  simp only [E6] at h
  obtain ⟨a, r, rfl, h2, h3⟩ := h
  cases i with
  | zero => simp at hi; subst hi; exact ⟨a, rfl, h2⟩
  | succ i => obtain ⟨e, he, hr⟩ := h3.get (i := i) (by simpa using hi); exact ⟨e, by simpa using he, hr⟩
theorem D2.get {G : IM} : ∀ {ts : List Tm} {es : List (List Value)}, D2 G ts es → ∀ {i : Nat} {t : Tm}, ts[i]? = some t → ∃ e, es[i]? = some e ∧ A6 G t e
 | [], es, h, i, t, hi => by simp at hi
 | t' :: ts, es, h, i, t, hi => by
  simp only [D2] at h
  obtain ⟨a, r, rfl, h2, h3⟩ := h
  cases i with
  | zero => simp at hi; subst hi; exact ⟨a, rfl, h2⟩
  | succ i => obtain ⟨e, he, hr⟩ := h3.get (i := i) (by simpa using hi); exact ⟨e, by simpa using he, hr⟩
theorem E6.all {G : IM} {ts : List Ty} {es : List (List Value)} (h : E6 G ts es) : ∀ e ∈ es, e.length = 2 := by
 intro e he
 obtain ⟨i, hi⟩ := List.getElem?_of_mem he
 have hlt : i < ts.length := by have := (List.getElem?_eq_some_iff.1 hi).1; rw [h.len] at this; exact this
 obtain ⟨e', he', hr⟩ := h.get (i := i) (t := ts[i]) (by simp [hlt])
 rw [hi] at he'; cases he'; exact hr.len
theorem D2.all {G : IM} {ts : List Tm} {es : List (List Value)} (h : D2 G ts es) : ∀ e ∈ es, e.length = 9 := by
 intro e he
 obtain ⟨i, hi⟩ := List.getElem?_of_mem he
 have hlt : i < ts.length := by have := (List.getElem?_eq_some_iff.1 hi).1; rw [h.len] at this; exact this
 obtain ⟨e', he', hr⟩ := h.get (i := i) (t := ts[i]) (by simp [hlt])
 rw [hi] at he'; cases he'; exact hr.len

theorem B5.one {G : IM} {t : Ty} {cells : List Value} (h : B5 G t cells) : cells.all (·.oneCell') = true := by
 obtain ⟨_, _, _, rfl, _⟩ := h.open; rfl
theorem A6.one {G : IM} {t : Tm} {cells : List Value} (h : A6 G t cells) : cells.all (·.oneCell') = true := by
 obtain ⟨_, _, _, _, _, _, _, _, _, rfl, _⟩ := h.open; rfl

theorem Ty.ind {C : Ty → Prop} (h : ∀ k ks, (∀ t ∈ ks, C t) → C (.mk k ks)) : ∀ t, C t
 | .mk k ks => h k ks fun t ht => Ty.ind h t
termination_by t => SizeOf.sizeOf t
decreasing_by
 have := List.sizeOf_lt_of_mem ht
 simp only [Ty.mk.sizeOf_spec]; omega
theorem Tm.ind {C : Tm → Prop} (h : ∀ k nm num ty fr lb ks, (∀ t ∈ ks, C t) → C (.mk k nm num ty fr lb ks)) : ∀ t, C t
 | .mk k nm num ty fr lb ks => h k nm num ty fr lb ks fun t ht => Tm.ind h t
termination_by t => SizeOf.sizeOf t
decreasing_by
 have := List.sizeOf_lt_of_mem ht
 simp only [Tm.mk.sizeOf_spec]; omega

def C1 (G' G : IM) : IM := fun b => match G b with | none => G' b | some _ => none
theorem C1.le (G' G : IM) : B6 (C1 G' G) G' := by
 intro b l h
 unfold C1 at h
 split at h
 ·exact h
 ·cases h
theorem C1.mono {G' G'' G : IM} (h : B6 G' G'') : B6 (C1 G' G) (C1 G'' G) := by
 intro b l hb
 unfold C1 at hb ⊢
 split at hb
 ·exact h b l hb
 ·cases hb
theorem C1.anti {G' G G0 : IM} (h : B6 G0 G) : B6 (C1 G' G) (C1 G' G0) := by
 intro b l hb
 unfold C1 at hb ⊢
 split at hb
 ·rename_i h0
  cases h1 : G0 b with
  | none => exact hb
  | some l' => rw [h b l' h1] at h0; cases h0
 ·cases hb
theorem C1.out {G' G : IM} {b : Nat} (h : C1 G' G b ≠ none) : G b = none := by
 unfold C1 at h
 split at h
 ·assumption
 ·exact absurd rfl h
theorem Sl.dif {G' G G0 : IM} {p : Option Addr} {n c sz : Nat} {cs : List Value} (h : Sl G' p n c sz cs) (hp : ∀ b ∈ J1 p, G b = none) (hle : B6 G0 G) : Sl (C1 G' G0) p n c sz cs := by
 obtain ⟨h1, h2, h3, h4⟩ := h
 refine ⟨h1, h2, h3, h4.imp id ?_⟩
 rintro ⟨b, o, full, rfl, e2, e3⟩
 refine ⟨b, o, full, rfl, ?_, e3⟩
 have hb := hp b (by simp [J1])
 have h0 : G0 b = none := by
  cases h1 : G0 b with
  | none => rfl
  | some l => rw [hle b l h1] at hb; cases hb
 simp [C1, h0, e2]

mutual
def P1 (G : IM) : Ty → List Value → List Nat → Prop
 | .mk k ks, cells, F => ∃ p c es Fs, cells = [.int .i64 k, .slice p ks.length c] ∧ E3 k ∧ C9 G p ks.length c 2 es ∧ N8 G ks es Fs ∧ F = J1 p ++ Fs ∧ (∀ b ∈ J1 p, G b ≠ none)
def N8 (G : IM) : List Ty → List (List Value) → List Nat → Prop
 | [], es, F => es = [] ∧ F = []
 | t :: ts, es, F => ∃ a r Fa Fr, es = a :: r ∧ P1 G t a Fa ∧ N8 G ts r Fr ∧ F = Fa ++ Fr
end
mutual
theorem P1.R {G : IM} : ∀ {t : Ty} {cells : List Value} {F : List Nat}, P1 G t cells F → B5 G t cells
 | .mk k ks, cells, F, h => by
  simp only [P1] at h
  obtain ⟨p, c, es, Fs, h1, h2, h3, h4, _⟩ := h
  simp only [B5]
  exact ⟨p, c, es, h1, h2, h3, N8.R h4⟩
theorem N8.R {G : IM} : ∀ {ts : List Ty} {es : List (List Value)} {F : List Nat}, N8 G ts es F → E6 G ts es
 | [], es, F, h => by simp only [N8] at h; simp only [E6]; exact h.1
 | t :: ts, es, F, h => by
  simp only [N8] at h
  obtain ⟨a, r, Fa, Fr, h1, h2, h3, _⟩ := h
  simp only [E6]
  exact ⟨a, r, h1, P1.R h2, N8.R h3⟩
end
mutual
theorem P1.mono {G G' : IM} (hg : B6 G G') : ∀ {t : Ty} {cells : List Value} {F : List Nat}, P1 G t cells F → P1 G' t cells F
 | .mk k ks, cells, F, h => by
  simp only [P1] at h ⊢
  obtain ⟨p, c, es, Fs, h1, h2, h3, h4, h5, h6⟩ := h
  exact ⟨p, c, es, Fs, h1, h2, h3.mono hg, N8.mono hg h4, h5, fun b hb => by cases hgb : G b with | none => exact absurd hgb (h6 b hb) | some l => rw [hg b l hgb]; simp⟩
theorem N8.mono {G G' : IM} (hg : B6 G G') : ∀ {ts : List Ty} {es : List (List Value)} {F : List Nat}, N8 G ts es F → N8 G' ts es F
 | [], es, F, h => by simpa only [N8] using h
 | t :: ts, es, F, h => by
  simp only [N8] at h ⊢
  obtain ⟨a, r, Fa, Fr, h1, h2, h3, h4⟩ := h
  exact ⟨a, r, Fa, Fr, h1, P1.mono hg h2, N8.mono hg h3, h4⟩
end
mutual
theorem P1.inG {G : IM} : ∀ {t : Ty} {cells : List Value} {F : List Nat}, P1 G t cells F → ∀ b ∈ F, G b ≠ none
 | .mk k ks, cells, F, h => by
  simp only [P1] at h
  obtain ⟨p, c, es, Fs, h1, h2, h3, h4, rfl, h6⟩ := h
  intro b hb
  rcases List.mem_append.1 hb with hb | hb
  ·exact h6 b hb
  ·exact N8.inG h4 b hb
theorem N8.inG {G : IM} : ∀ {ts : List Ty} {es : List (List Value)} {F : List Nat}, N8 G ts es F → ∀ b ∈ F, G b ≠ none
 | [], es, F, h => by simp only [N8] at h; rw [h.2]; simp
 | t :: ts, es, F, h => by
  simp only [N8] at h
  obtain ⟨a, r, Fa, Fr, h1, h2, h3, rfl⟩ := h
  intro b hb
  rcases List.mem_append.1 hb with hb | hb
  ·exact P1.inG h2 b hb
  ·exact N8.inG h3 b hb
end
theorem N8.snoc {G : IM} : ∀ {ts : List Ty} {es : List (List Value)} {F : List Nat} {t : Ty} {a : List Value} {Fa : List Nat}, N8 G ts es F → P1 G t a Fa → N8 G (ts ++ [t]) (es ++ [a]) (F ++ Fa)
 | [], es, F, t, a, Fa, h, h2 => by
  simp only [N8] at h
  obtain ⟨rfl, rfl⟩ := h
  simp only [List.nil_append, N8]
  exact ⟨a, [], Fa, [], rfl, h2, ⟨rfl, rfl⟩, by simp⟩
 | t' :: ts, es, F, t, a, Fa, h, h2 => by
  simp only [N8] at h
  obtain ⟨a', r, Fa', Fr, rfl, h3, h4, rfl⟩ := h
  simp only [List.cons_append, N8]
  exact ⟨a', r ++ [a], Fa', Fr ++ Fa, rfl, h3, N8.snoc h4 h2, by simp⟩

theorem C9.kidTy {G : IM} {p : Option Addr} {n c : Nat} {es : List (List Value)} {ks : List Ty} (h : C9 G p n c 2 es) (hk : E6 G ks es) {i : Nat} (hi : i < n) (hn : i < ks.length) :
  ∃ b o p2 c2, p = some ⟨b, o, none⟩ ∧ (∀ hp, At hp G b (o + i * 2) [.int .i64 ks[i].k, .slice p2 ks[i].ks.length c2]) ∧ B5 G ks[i] [.int .i64 ks[i].k, .slice p2 ks[i].ks.length c2] ∧ G b ≠ none := by
 obtain ⟨e, b, o, he, h1, h2, h3, h4, h5⟩ := h.get hi
 obtain ⟨e', he', hr⟩ := hk.get (i := i) (t := ks[i]) (by simp [hn])
 rw [he] at he'; cases he'
 obtain ⟨p2, c2, _, rfl, _⟩ := hr.open
 exact ⟨b, o, p2, c2, h1, h4, hr, h5⟩

theorem N8.step {G Gi G1 : IM} {ks : List Ty} {i : Nat} {es : List (List Value)} {F F' : List Nat} {a : List Value} (h : N8 (C1 Gi G) (ks.take i) es F) (hn : F.Nodup) (hle : B6 G Gi) (hle1 : B6 Gi G1) (hi : i < ks.length)
  (ha : P1 (C1 G1 Gi) ks[i] a F') (hn' : F'.Nodup) : N8 (C1 G1 G) (ks.take (i + 1)) (es ++ [a]) (F ++ F') ∧ (F ++ F').Nodup := by
 constructor
 ·rw [List.take_succ_eq_append_getElem hi]
  exact N8.snoc (h.mono (C1.mono hle1)) (ha.mono (C1.anti hle))
 ·rw [List.nodup_append]
  refine ⟨hn, hn', ?_⟩
  rintro x hx y hy rfl
  have h1 := h.inG x hx
  have h2 := C1.out (ha.inG x hy)
  apply h1
  cases hd : C1 Gi G x with
  | none => rfl
  | some l => rw [C1.le _ _ x l hd] at h2; cases h2
theorem P1.fin {G Gi G2 : IM} {k : Int} {ks : List Ty} {es : List (List Value)} {F : List Nat} {p : Option Addr} {c : Nat} (h : N8 (C1 Gi G) ks es F) (hn : F.Nodup) (hle : B6 G Gi) (hle2 : B6 Gi G2)
  (hsl : Sl G2 p ks.length c 2 es.flatten) (hnn : ∀ b ∈ J1 p, Gi b = none ∧ G2 b ≠ none) (hk : E3 k) :
  ∃ F', P1 (C1 G2 G) (.mk k ks) [.int .i64 k, .slice p ks.length c] F' ∧ F'.Nodup := by
 have hno := fun b hb => (hnn b hb).1
 have hin := fun b hb => (hnn b hb).2
 have hR := h.R
 refine ⟨J1 p ++ F, ?_, ?_⟩
 ·simp only [P1]
  refine ⟨p, c, es, F, rfl, hk, C9.of (hsl.dif hno hle) hR.len hR.all ?_, h.mono (C1.mono hle2), rfl, ?_⟩
  ·intro e he
   obtain ⟨i, hi⟩ := List.getElem?_of_mem he
   have hlt : i < ks.length := by have := (List.getElem?_eq_some_iff.1 hi).1; rw [hR.len] at this; exact this
   obtain ⟨e', he', hr⟩ := hR.get (i := i) (t := ks[i]) (by simp [hlt])
   rw [hi] at he'; cases he'; exact hr.one
  ·intro b hb
   have h0 := hno b hb
   cases hg : G b with
   | none => simpa [C1, hg] using hin b hb
   | some l => rw [hle b l hg] at h0; cases h0
 ·rw [List.nodup_append]
  refine ⟨by cases p <;> simp [J1], hn, ?_⟩
  rintro x hx y hy rfl
  have h1 := h.inG x hy
  have h2 := hno x hx
  apply h1
  cases hd : C1 Gi G x with
  | none => rfl
  | some l => rw [C1.le _ _ x l hd] at h2; cases h2

def A0y (q : Nat → Bool) (n : Nat) : Int := match (List.range n).find? q with | some i => i | none => -1
theorem A5q {q : Nat → Bool} {n : Nat} (h : ∀ j, j < n → q j = false) : A0y q n = -1 := by
 have : (List.range n).find? q = none := by
  rw [List.find?_eq_none]
  intro x hx
  rw [h x (List.mem_range.1 hx)]; simp
 simp [A0y, this]
theorem A6X {q : Nat → Bool} {n i : Nat} (hi : i < n) (h : ∀ j, j < i → q j = false) (hq : q i = true) : A0y q n = i := by
 have : (List.range n).find? q = some i := by
  rw [List.find?_eq_some_iff_append]
  refine ⟨hq, List.range i, (List.range n).drop (i + 1), ?_, ?_⟩
  ·apply List.ext_getElem?
   intro k
   simp only [List.getElem?_append, List.length_range, List.getElem?_range', List.getElem?_cons, List.getElem?_drop]
   by_cases h1 : k < i
   ·simp [h1, show k < n by omega]
   ·by_cases h2 : k = i
    ·subst h2; simp [hi]
    ·have h3 : k - i ≠ 0 := by omega
     simp only [h1, if_false, h3]
     rw [show i + 1 + (k - i - 1) = k by omega]
  ·intro a ha
   simp [h a (List.mem_range.1 ha)]
 simp [A0y, this]

def P6 (n lo hi : Int) : Bool := decide (lo ≤ n ∧ n ≤ hi)
theorem A07 {n lo hi : Int} (h : P6 n lo hi = true) : lo ≤ n ∧ n ≤ hi := by simpa [P6] using h
theorem A3i {n lo hi : Int} (h : P6 n lo hi = false) : ¬(lo ≤ n ∧ n ≤ hi) := by simpa [P6] using h
def U1 (k : Int) : Int := if k = 1 ∨ k = 2 ∨ k = 3 then 0 else if k = 4 ∨ k = 5 then 2 else -1
theorem M9 (k : Int) : (k = 1 ∨ k = 2 ∨ k = 3 → U1 k = 0) ∧ (k = 4 ∨ k = 5 → U1 k = 2) ∧ (k ≠ 1 → k ≠ 2 → k ≠ 3 → k ≠ 4 → k ≠ 5 → U1 k = -1) := by
 unfold U1; split <;> try split
 all_goals omega
def C5 (k : Int) : Int := if k = 1 ∨ k = 2 ∨ k = 3 ∨ k = 4 then 0 else if k = 5 ∨ k = 11 ∨ k = 12 ∨ k = 13 ∨ k = 14 then 1 else if k = 6 ∨ k = 7 ∨ k = 8 ∨ k = 10 then 2 else if k = 9 then 3 else -1

mutual
def K0 : Ty → Int → Bool
 | .mk k ks, d => decide (d ≤ 4) && decide (U1 k = ks.length) && S7 ks (d + 1)
def S7 : List Ty → Int → Bool
 | [], _ => true
 | t :: ts, d => K0 t d && S7 ts d
end
theorem A39 : ∀ (ts : List Ty) (d : Int), S7 ts d = true ↔ ∀ i, (h : i < ts.length) → K0 ts[i] d = true
 | [], d => by simp [S7]
 | t :: ts, d => by
  simp only [S7, Bool.and_eq_true, A39 ts d]
  constructor
  ·rintro ⟨h1, h2⟩ i hi
   cases i with
   | zero => exact h1
   | succ i => exact h2 i (by simpa using hi)
  ·intro h
   exact ⟨h 0 (by simp), fun i hi => h (i + 1) (by simpa using hi)⟩
def E8 (t : Ty) : Bool := K0 t 1
def X5 (t : Ty) : Bool := decide (t.k = 0 ∧ t.ks.length = 0)

mutual
def J6 : Ty → Ty → Bool
 | .mk k ks, t => decide (k = 1) || decide (t.k = 1) || (decide (k = t.k) && O0 ks t.ks)
def O0 : List Ty → List Ty → Bool
 | [], [] => true
 | a :: xs, b :: ys => J6 a b && O0 xs ys
 | _, _ => false
end
theorem S2 (k k' : Int) (ks ks' : List Ty) : J6 (.mk k ks) (.mk k' ks') = (decide (k = 1) || decide (k' = 1) || (decide (k = k') && O0 ks ks')) := by rw [J6]; rfl
theorem A1P : ∀ (xs ys : List Ty), O0 xs ys = true ↔ xs.length = ys.length ∧ ∀ i, (h : i < xs.length) → (h' : i < ys.length) → J6 xs[i] ys[i] = true
 | [], [] => by simp [O0]
 | [], b :: ys => by simp [O0]
 | a :: xs, [] => by simp [O0]
 | a :: xs, b :: ys => by
  simp only [O0, Bool.and_eq_true, A1P xs ys, List.length_cons]
  constructor
  ·rintro ⟨h1, h2, h3⟩
   refine ⟨by omega, fun i hi hi' => ?_⟩
   cases i with
   | zero => exact h1
   | succ i => exact h3 i (by simpa using hi) (by simpa using hi')
  ·rintro ⟨h1, h2⟩
   exact ⟨h2 0 (by simp) (by simp), by omega, fun i hi hi' => h2 (i + 1) (by simpa using hi) (by simpa using hi')⟩
def A0U (a b : Ty) : Bool := E8 a && E8 b && J6 a b
def X6 (s : ByteArray) : Bool := decide (s.size = 1 ∧ 97 ≤ (s.data.getD 0 0).toNat ∧ (s.data.getD 0 0).toNat ≤ 122)
def A0z (n : Int) : Bool := P6 n 1 99 || P6 n (-99) (-1)

theorem A4a {s : ByteArray} {j : Int} (h : j.toNat < s.size) : s[j.toNat]? = some (s.data.getD j.toNat 0) := by
 rw [getElem?_pos s j.toNat h]
 show some (s.data[j.toNat]'h) = _
 rw [Array.getD_eq_getD_getElem?, getElem?_pos s.data j.toNat h]
 rfl
theorem B00 {q : Nat → Bool} {n : Nat} : A0y q n < 0 ↔ ∀ j, j < n → q j = false := by
 constructor
 ·intro h j hj
  unfold A0y at h
  split at h
  ·omega
  ·rename_i hf
   have := List.find?_eq_none.1 hf j (List.mem_range.2 hj)
   simpa using this
 ·intro h; rw [A5q h]; omega
theorem A6Y {q : Nat → Bool} {n : Nat} : 0 ≤ A0y q n ↔ ∃ j, j < n ∧ q j = true := by
 have h := @B00 q n
 constructor
 ·intro h0
  apply Classical.byContradiction
  intro hn
  have : A0y q n < 0 := h.2 fun j hj => by cases hq : q j with | false => rfl | true => exact absurd ⟨j, hj, hq⟩ hn
  omega
 ·rintro ⟨j, hj, hq⟩
  apply Classical.byContradiction
  intro hn
  rw [h.1 (by omega) j hj] at hq
  exact absurd hq (by simp)
theorem A6Z {α : Type} (f : α → Bool) (ks : List α) (a : α) : decide (0 ≤ A0y (fun i => !f (ks.getD i a)) ks.length) = !ks.all f := by
 cases h : ks.all f with
 | true =>
  rw [List.all_eq_true] at h
  apply decide_eq_false
  rw [A6Y]
  rintro ⟨j, hj, hq⟩
  rw [List.getD_eq_getElem?_getD, List.getElem?_eq_getElem hj, Option.getD_some, h _ (List.getElem_mem hj)] at hq
  exact absurd hq (by simp)
 | false =>
  apply decide_eq_true
  rw [A6Y]
  apply Classical.byContradiction
  intro hn
  have : ks.all f = true := by
   rw [List.all_eq_true]
   intro x hx
   obtain ⟨j, hj, rfl⟩ := List.getElem_of_mem hx
   cases hf : f ks[j] with
   | true => rfl
   | false => exact absurd ⟨j, hj, by rw [List.getD_eq_getElem?_getD, List.getElem?_eq_getElem hj, Option.getD_some, hf]; rfl⟩ hn
  rw [h] at this
  exact absurd this (by simp)
theorem U7 : ∀ (ks : List Ty) (d : Int), S7 ks d = ks.all (K0 · d)
 | [], d => rfl
 | t :: ts, d => by simp [S7, U7 ts d]
theorem E6.inv {G : IM} : ∀ {ts : List Ty} {es : List (List Value)}, E6 G ts es → ∀ {i : Nat} {e : List Value}, es[i]? = some e → ∀ a, ts.getD i a ∈ ts ∧ B5 G (ts.getD i a) e
 | [], es, h, i, e, he, a => by
  have := h.len
  simp only [List.length_nil, List.length_eq_zero_iff] at this
  subst this; simp at he
 | t :: ts, es, h, i, e, he, a => by
  have hi : i < es.length := by
   apply Classical.byContradiction; intro hn; rw [List.getElem?_eq_none (by omega)] at he; simp at he
  have hl := h.len
  obtain ⟨e', he', hr⟩ := h.get (i := i) (t := (t :: ts)[i]'(by omega)) (by rw [List.getElem?_eq_getElem])
  rw [he] at he'
  obtain rfl := Option.some.inj he'
  rw [List.getD_eq_getElem?_getD, List.getElem?_eq_getElem (by omega), Option.getD_some]
  exact ⟨List.getElem_mem _, hr⟩
theorem D2.inv {G : IM} : ∀ {ts : List Tm} {es : List (List Value)}, D2 G ts es → ∀ {i : Nat} {e : List Value}, es[i]? = some e → ∀ a, ts.getD i a ∈ ts ∧ A6 G (ts.getD i a) e
 | [], es, h, i, e, he, a => by
  have := h.len
  simp only [List.length_nil, List.length_eq_zero_iff] at this
  subst this; simp at he
 | t :: ts, es, h, i, e, he, a => by
  have hi : i < es.length := by
   apply Classical.byContradiction; intro hn; rw [List.getElem?_eq_none (by omega)] at he; simp at he
  have hl := h.len
  obtain ⟨e', he', hr⟩ := h.get (i := i) (t := (t :: ts)[i]'(by omega)) (by rw [List.getElem?_eq_getElem])
  rw [he] at he'
  obtain rfl := Option.some.inj he'
  rw [List.getD_eq_getElem?_getD, List.getElem?_eq_getElem (by omega), Option.getD_some]
  exact ⟨List.getElem_mem _, hr⟩
def A8 : Ty := .mk 0 []
theorem B01 {p : Prop} [Decidable p] {x y : Bool} : ((if p then x else y) = true) ↔ ((p → x = true) ∧ (¬p → y = true)) := by by_cases h : p <;> simp [h]
theorem B02 {k : Int} (h : 1 ≤ k ∧ k ≤ 14) : ([Value.int .i64 0, .int .i64 0, .int .i64 0, .int .i64 0, .int .i64 1, .int .i64 2, .int .i64 2, .int .i64 2, .int .i64 3, .int .i64 2, .int .i64 1, .int .i64 1, .int .i64 1, .int .i64 1])[(k - 1).toNat]? = some (.int .i64 (C5 k)) := by
 have : k = 1 ∨ k = 2 ∨ k = 3 ∨ k = 4 ∨ k = 5 ∨ k = 6 ∨ k = 7 ∨ k = 8 ∨ k = 9 ∨ k = 10 ∨ k = 11 ∨ k = 12 ∨ k = 13 ∨ k = 14 := by omega
 rcases this with rfl | rfl | rfl | rfl | rfl | rfl | rfl | rfl | rfl | rfl | rfl | rfl | rfl | rfl <;> rfl
theorem A4b {k : Int} (h : ¬(1 ≤ k ∧ k ≤ 14)) : C5 k = -1 := by
 unfold C5; repeat (split; omega)
 rfl
theorem B03 {cs : List Value} {o : Nat} {v : Value} (h : cs[o]? = some v) : ∀ j u, [v][j]? = some u → cs[o + j]? = some u := by
 intro j u hj
 cases j with
 | zero => simpa using hj ▸ h
 | succ j => simp at hj
def U8 (k : Int) (nm : ByteArray) (num : Int) (ty fr : Ty) (lb : Int) (n : Nat) : Bool :=
 decide (C5 k = n) && (if k = 1 ∨ k = 5 then X6 nm else decide (nm = ⟨#[]⟩)) && (if k = 2 then P6 num 0 999 else P6 num 0 0) &&
 (if k = 5 ∨ k = 13 ∨ k = 14 then E8 ty else X5 ty) && (if k = 14 then A0U fr ty && A0z lb else X5 fr && decide (lb = 0))
theorem V3 {k : Int} {nm : ByteArray} {num : Int} {ty fr : Ty} {lb : Int} {n : Nat} : U8 k nm num ty fr lb n = true ↔
  C5 k = n ∧ (k = 1 ∨ k = 5 → X6 nm = true) ∧ (¬(k = 1 ∨ k = 5) → nm = ⟨#[]⟩) ∧ (k = 2 → P6 num 0 999 = true) ∧ (k ≠ 2 → P6 num 0 0 = true) ∧
  (k = 5 ∨ k = 13 ∨ k = 14 → E8 ty = true) ∧ (¬(k = 5 ∨ k = 13 ∨ k = 14) → X5 ty = true) ∧ (k = 14 → A0U fr ty = true ∧ A0z lb = true) ∧ (k ≠ 14 → X5 fr = true ∧ lb = 0) := by
 simp only [U8, Bool.and_eq_true, B01, decide_eq_true_eq, and_assoc, ne_eq]
mutual
def R9 (M D N : Int) : Tm → Int → Int → Bool × Int
 | .mk k nm num ty fr lb ks, deep, c => if c + 1 > M ∨ deep > D ∨ k = N ∨ U8 k nm num ty fr lb ks.length = false then (false, c + 1) else T5 M D N ks (deep + 1) (c + 1)
def T5 (M D N : Int) : List Tm → Int → Int → Bool × Int
 | [], _, c => (true, c)
 | t :: ts, deep, c => if (R9 M D N t deep c).1 = true then T5 M D N ts deep (R9 M D N t deep c).2 else (false, (R9 M D N t deep c).2)
end
mutual
theorem A60 (M D N : Int) : ∀ (t : Tm) (deep c : Int), 0 ≤ c → c ≤ M → c < (R9 M D N t deep c).2 ∧ (R9 M D N t deep c).2 ≤ M + 1 ∧ ((R9 M D N t deep c).1 = true → (R9 M D N t deep c).2 ≤ M)
 | .mk k nm num ty fr lb ks, deep, c, h0, h1 => by
  rw [R9]
  split
  ·simp; omega
  ·rename_i h
   have := A61 M D N ks (deep + 1) (c + 1) (by omega) (by omega)
   exact ⟨by omega, this.2⟩
theorem A61 (M D N : Int) : ∀ (ts : List Tm) (deep c : Int), 0 ≤ c → c ≤ M → c ≤ (T5 M D N ts deep c).2 ∧ (T5 M D N ts deep c).2 ≤ M + 1 ∧ ((T5 M D N ts deep c).1 = true → (T5 M D N ts deep c).2 ≤ M)
 | [], deep, c, h0, h1 => by rw [T5]; simp; omega
 | t :: ts, deep, c, h0, h1 => by
  have := A60 M D N t deep c h0 h1
  rw [T5]
  split
  ·rename_i h
   have h2 := A61 M D N ts deep (R9 M D N t deep c).2 (by omega) (this.2.2 h)
   exact ⟨by omega, h2.2⟩
  ·simp; omega
end
def O3 (t : Tm) : Bool := (R9 200 40 13 t 1 0).1
def O4 (t : Tm) : Bool := (R9 30 12 14 t 1 0).1
theorem C9.kidTm {G : IM} {p : Option Addr} {n c : Nat} {es : List (List Value)} {ks : List Tm} (h : C9 G p n c 9 es) (hk : D2 G ks es) {i : Nat} (hi : i < n) (hn : i < ks.length) :
  ∃ b o e, p = some ⟨b, o, none⟩ ∧ e.length = 9 ∧ (∀ hp, At hp G b (o + i * 9) e) ∧ A6 G ks[i] e ∧ G b ≠ none := by
 obtain ⟨e, b, o, he, hp, hl, _, hat, hg⟩ := h.get hi
 have := (hk.inv he (ks[i])).2
 rw [List.getD_eq_getElem?_getD, List.getElem?_eq_getElem hn, Option.getD_some] at this
 exact ⟨b, o, e, hp, hl, hat, this, hg⟩
theorem A4c {M D N : Int} {k : Int} {nm : ByteArray} {num : Int} {ty fr : Ty} {lb : Int} {ks : List Tm} {deep c : Int} (h : c + 1 > M ∨ deep > D ∨ k = N ∨ U8 k nm num ty fr lb ks.length = false) :
  R9 M D N (.mk k nm num ty fr lb ks) deep c = (false, c + 1) := by rw [R9, if_pos h]
theorem B04 {M D N : Int} {k : Int} {nm : ByteArray} {num : Int} {ty fr : Ty} {lb : Int} {ks : List Tm} {deep c : Int} (h1 : ¬(c + 1 > M ∨ deep > D ∨ k = N)) (h2 : U8 k nm num ty fr lb ks.length = true) :
  R9 M D N (.mk k nm num ty fr lb ks) deep c = T5 M D N ks (deep + 1) (c + 1) := by
 rw [R9, if_neg]
 rw [h2]
 intro h
 apply h1
 rcases h with h | h | h | h
 ·exact .inl h
 ·exact .inr (.inl h)
 ·exact .inr (.inr h)
 ·cases h
theorem B05 {M D N : Int} {ks : List Tm} {i : Nat} {deep c : Int} (hi : i < ks.length) (h : (R9 M D N ks[i] deep c).1 = true) : T5 M D N (ks.drop i) deep c = T5 M D N (ks.drop (i + 1)) deep (R9 M D N ks[i] deep c).2 := by
 rw [List.drop_eq_getElem_cons hi, T5, if_pos h]
theorem B06 {M D N : Int} {ks : List Tm} {i : Nat} {deep c : Int} (hi : i < ks.length) (h : (R9 M D N ks[i] deep c).1 = false) : T5 M D N (ks.drop i) deep c = (false, (R9 M D N ks[i] deep c).2) := by
 rw [List.drop_eq_getElem_cons hi, T5, if_neg (by rw [h]; simp)]
theorem B07 {M D N : Int} {ks : List Tm} {i : Nat} {deep c : Int} (hi : i = ks.length) : T5 M D N (ks.drop i) deep c = (true, c) := by
 rw [hi, List.drop_length, T5]
section blk
variable {P : Program} {Γ : K6} {env : L6} {hp : List A4} {G : IM} {K : Po} {ops : Array Oper} {rest : List Oper}
end blk

theorem A62 : ∀ {A B C V : List Value} {o : Nat}, A.length = o → B.length = V.length → T7 (A ++ (B ++ C)) o V = some (A ++ (V ++ C))
 | [], B, C, V, o, h, hv => by
  simp at h; subst h
  simp only [List.nil_append]
  induction B generalizing V with
  | nil => cases V with
   | nil => cases C <;> rfl
   | cons v V => simp at hv
  | cons b B ih => cases V with
   | nil => simp at hv
   | cons v V =>
    simp only [List.cons_append, T7, ih (V := V) (by simpa using hv)]
 | a :: A, B, C, V, o, h, hv => by
  simp at h; subst h
  simp only [List.cons_append, T7, A62 (A := A) (B := B) (C := C) rfl hv]
theorem A08 {sz : Nat} : ∀ {es : List (List Value)}, (∀ e ∈ es, e.length = sz) → es.flatten.length = es.length * sz
 | [], _ => by simp
 | e :: es, h => by
  rw [List.flatten_cons, List.length_append, h e List.mem_cons_self, A08 (es := es) fun x hx => h x (List.mem_cons_of_mem _ hx), List.length_cons, Nat.succ_mul]; omega
def A63 (G : IM) (ks : List Ty) (p : Option Addr) (c : Nat) (F : List Nat) : Prop := ∃ es Fs, C9 G p ks.length c 2 es ∧ N8 G ks es Fs ∧ F = J1 p ++ Fs ∧ (∀ b ∈ J1 p, G b ≠ none)
theorem P1.open {G : IM} {t : Ty} {cells : List Value} {F : List Nat} (h : P1 G t cells F) : ∃ p c, cells = [.int .i64 t.k, .slice p t.ks.length c] ∧ E3 t.k ∧ A63 G t.ks p c F := by
 cases t
 simp only [P1] at h
 obtain ⟨p, c, es, Fs, h0, hk, h1, h2, h3, h4⟩ := h
 exact ⟨p, c, h0, hk, es, Fs, h1, h2, h3, h4⟩
mutual
def P9 (G : IM) : Tm → List Value → List Nat → Prop
 | .mk k nm num ty fr lb ks, cells, F => ∃ tc fc p c es Ft Ff Fs, cells = [.int .i64 k, .string nm, .int .i64 num] ++ tc ++ fc ++ [.int .i64 lb, .slice p ks.length c] ∧ E3 k ∧ E3 num ∧ E3 lb ∧ P1 G ty tc Ft ∧ P1 G fr fc Ff ∧
   C9 G p ks.length c 9 es ∧ M2 G ks es Fs ∧ F = Ft ++ (Ff ++ (J1 p ++ Fs)) ∧ (∀ b ∈ J1 p, G b ≠ none)
def M2 (G : IM) : List Tm → List (List Value) → List Nat → Prop
 | [], es, F => es = [] ∧ F = []
 | t :: ts, es, F => ∃ a r Fa Fr, es = a :: r ∧ P9 G t a Fa ∧ M2 G ts r Fr ∧ F = Fa ++ Fr
end
def A0V (G : IM) (ks : List Tm) (p : Option Addr) (c : Nat) (F : List Nat) : Prop := ∃ es Fs, C9 G p ks.length c 9 es ∧ M2 G ks es Fs ∧ F = J1 p ++ Fs ∧ (∀ b ∈ J1 p, G b ≠ none)
mutual
theorem P9.R {G : IM} : ∀ {t : Tm} {cells : List Value} {F : List Nat}, P9 G t cells F → A6 G t cells
 | .mk k nm num ty fr lb ks, cells, F, h => by
  simp only [P9] at h
  obtain ⟨tc, fc, p, c, es, Ft, Ff, Fs, h1, h2, h3, h4, h5, h6, h7, h8, _⟩ := h
  simp only [A6]
  exact ⟨tc, fc, p, c, es, h1, h2, h3, h4, h5.R, h6.R, h7, M2.R h8⟩
theorem M2.R {G : IM} : ∀ {ts : List Tm} {es : List (List Value)} {F : List Nat}, M2 G ts es F → D2 G ts es
 | [], es, F, h => by simp only [M2] at h; simp only [D2]; exact h.1
 | t :: ts, es, F, h => by
  simp only [M2] at h
  obtain ⟨a, r, Fa, Fr, h1, h2, h3, _⟩ := h
  simp only [D2]
  exact ⟨a, r, h1, P9.R h2, M2.R h3⟩
end
theorem A2H {G G' : IM} (hg : B6 G G') {F : List Nat} (h : ∀ b ∈ F, G b ≠ none) : ∀ b ∈ F, G' b ≠ none := fun b hb => by
 cases hgb : G b with
 | none => exact absurd hgb (h b hb)
 | some l => rw [hg b l hgb]; simp
mutual
theorem P9.mono {G G' : IM} (hg : B6 G G') : ∀ {t : Tm} {cells : List Value} {F : List Nat}, P9 G t cells F → P9 G' t cells F
 | .mk k nm num ty fr lb ks, cells, F, h => by
  simp only [P9] at h ⊢
  obtain ⟨tc, fc, p, c, es, Ft, Ff, Fs, h1, h2, h3, h4, h5, h6, h7, h8, h9, h10⟩ := h
  exact ⟨tc, fc, p, c, es, Ft, Ff, Fs, h1, h2, h3, h4, h5.mono hg, h6.mono hg, h7.mono hg, M2.mono hg h8, h9, A2H hg h10⟩
theorem M2.mono {G G' : IM} (hg : B6 G G') : ∀ {ts : List Tm} {es : List (List Value)} {F : List Nat}, M2 G ts es F → M2 G' ts es F
 | [], es, F, h => by simpa only [M2] using h
 | t :: ts, es, F, h => by
  simp only [M2] at h ⊢
  obtain ⟨a, r, Fa, Fr, h1, h2, h3, h4⟩ := h
  exact ⟨a, r, Fa, Fr, h1, P9.mono hg h2, M2.mono hg h3, h4⟩
end
mutual
theorem P9.inG {G : IM} : ∀ {t : Tm} {cells : List Value} {F : List Nat}, P9 G t cells F → ∀ b ∈ F, G b ≠ none
 | .mk k nm num ty fr lb ks, cells, F, h => by
  simp only [P9] at h
  obtain ⟨tc, fc, p, c, es, Ft, Ff, Fs, h1, h2, h3, h4, h5, h6, h7, h8, rfl, h10⟩ := h
  intro b hb
  simp only [List.mem_append] at hb
  rcases hb with hb | hb | hb | hb
  ·exact h5.inG b hb
  ·exact h6.inG b hb
  ·exact h10 b hb
  ·exact M2.inG h8 b hb
theorem M2.inG {G : IM} : ∀ {ts : List Tm} {es : List (List Value)} {F : List Nat}, M2 G ts es F → ∀ b ∈ F, G b ≠ none
 | [], es, F, h => by simp only [M2] at h; rw [h.2]; simp
 | t :: ts, es, F, h => by
  simp only [M2] at h
  obtain ⟨a, r, Fa, Fr, h1, h2, h3, rfl⟩ := h
  intro b hb
  rcases List.mem_append.1 hb with hb | hb
  ·exact P9.inG h2 b hb
  ·exact M2.inG h3 b hb
end
theorem M2.snoc {G : IM} : ∀ {ts : List Tm} {es : List (List Value)} {F : List Nat} {t : Tm} {a : List Value} {Fa : List Nat}, M2 G ts es F → P9 G t a Fa → M2 G (ts ++ [t]) (es ++ [a]) (F ++ Fa)
 | [], es, F, t, a, Fa, h, h2 => by
  simp only [M2] at h
  obtain ⟨rfl, rfl⟩ := h
  simp only [List.nil_append, M2]
  exact ⟨a, [], Fa, [], rfl, h2, ⟨rfl, rfl⟩, by simp⟩
 | t' :: ts, es, F, t, a, Fa, h, h2 => by
  simp only [M2] at h
  obtain ⟨a', r, Fa', Fr, rfl, h3, h4, rfl⟩ := h
  simp only [List.cons_append, M2]
  exact ⟨a', r ++ [a], Fa', Fr ++ Fa, rfl, h3, M2.snoc h4 h2, by simp⟩
theorem A2i {G Gi : IM} {F F' : List Nat} {G1 : IM} (h : ∀ b ∈ F, C1 Gi G b ≠ none) (h' : ∀ b ∈ F', C1 G1 Gi b ≠ none) : ∀ x ∈ F, ∀ y ∈ F', x ≠ y := by
 rintro x hx y hy rfl
 have h1 := h x hx
 have h2 := C1.out (h' x hy)
 apply h1
 cases hd : C1 Gi G x with
 | none => rfl
 | some l => rw [C1.le _ _ x l hd] at h2; cases h2
theorem M2.step {G Gi G1 : IM} {ks : List Tm} {i : Nat} {es : List (List Value)} {F F' : List Nat} {a : List Value} (h : M2 (C1 Gi G) (ks.take i) es F) (hn : F.Nodup) (hle : B6 G Gi) (hle1 : B6 Gi G1) (hi : i < ks.length)
  (ha : P9 (C1 G1 Gi) ks[i] a F') (hn' : F'.Nodup) : M2 (C1 G1 G) (ks.take (i + 1)) (es ++ [a]) (F ++ F') ∧ (F ++ F').Nodup := by
 constructor
 ·rw [List.take_succ_eq_append_getElem hi]
  exact M2.snoc (h.mono (C1.mono hle1)) (ha.mono (C1.anti hle))
 ·rw [List.nodup_append]
  exact ⟨hn, hn', A2i h.inG ha.inG⟩
theorem B08 (p : Option Addr) : (J1 p).Nodup := by cases p <;> simp [J1]
theorem A0V.fin {G Gi G2 : IM} {ks : List Tm} {es : List (List Value)} {F : List Nat} {p : Option Addr} {c : Nat} (h : M2 (C1 Gi G) ks es F) (hn : F.Nodup) (hle : B6 G Gi) (hle2 : B6 Gi G2)
  (hsl : Sl G2 p ks.length c 9 es.flatten) (hnn : ∀ b ∈ J1 p, Gi b = none ∧ G2 b ≠ none) :
  ∃ F', A0V (C1 G2 G) ks p c F' ∧ F'.Nodup := by
 have hR := h.R
 have hin : ∀ b ∈ J1 p, C1 G2 G b ≠ none := by
  intro b hb
  have h0 := (hnn b hb).1
  cases hg : G b with
  | none => simpa [C1, hg] using (hnn b hb).2
  | some l => rw [hle b l hg] at h0; cases h0
 refine ⟨J1 p ++ F, ⟨es, F, C9.of (hsl.dif (fun b hb => (hnn b hb).1) hle) hR.len hR.all ?_, h.mono (C1.mono hle2), rfl, hin⟩, ?_⟩
 ·intro e he
  obtain ⟨i, hi⟩ := List.getElem?_of_mem he
  have hlt : i < ks.length := by have := (List.getElem?_eq_some_iff.1 hi).1; rw [hR.len] at this; exact this
  obtain ⟨e', he', hr⟩ := hR.get (i := i) (t := ks[i]) (by simp [hlt])
  rw [hi] at he'; cases he'; exact hr.one
 ·rw [List.nodup_append]
  refine ⟨B08 p, hn, ?_⟩
  rintro x hx y hy rfl
  have h1 := h.inG x hy
  have h2 := (hnn x hx).1
  apply h1
  cases hd : C1 Gi G x with
  | none => rfl
  | some l => rw [C1.le _ _ x l hd] at h2; cases h2
theorem P9.mk3 {G G1 G2 G3 : IM} {k : Int} {nm : ByteArray} {num : Int} {ty fr : Ty} {lb : Int} {ks : List Tm} {tc fc : List Value} {p : Option Addr} {c : Nat} {F1 F2 F3 : List Nat} (hk : E3 k) (hnum : E3 num) (hlb : E3 lb)
  (hl1 : B6 G G1) (hl2 : B6 G1 G2) (hl3 : B6 G2 G3) (h1 : P1 (C1 G1 G) ty tc F1) (n1 : F1.Nodup) (h2 : P1 (C1 G2 G1) fr fc F2) (n2 : F2.Nodup) (h3 : A0V (C1 G3 G2) ks p c F3) (n3 : F3.Nodup) :
  ∃ F, P9 (C1 G3 G) (.mk k nm num ty fr lb ks) ([.int .i64 k, .string nm, .int .i64 num] ++ tc ++ fc ++ [.int .i64 lb, .slice p ks.length c]) F ∧ F.Nodup := by
 obtain ⟨es, Fs, e1, e2, rfl, e4⟩ := h3
 have i3 : ∀ b ∈ J1 p ++ Fs, C1 G3 G2 b ≠ none := by
  intro b hb
  rcases List.mem_append.1 hb with hb | hb
  ·exact e4 b hb
  ·exact e2.inG b hb
 have a2 : B6 (C1 G2 G1) (C1 G3 G) := fun b l h => C1.mono hl3 b l (C1.anti hl1 b l h)
 have a3 : B6 (C1 G3 G2) (C1 G3 G) := C1.anti (hl1.trans hl2)
 refine ⟨F1 ++ (F2 ++ (J1 p ++ Fs)), ?_, ?_⟩
 ·simp only [P9]
  exact ⟨tc, fc, p, c, es, F1, F2, Fs, rfl, hk, hnum, hlb, h1.mono (C1.mono (hl2.trans hl3)), h2.mono a2, e1.mono a3, e2.mono a3, rfl, A2H a3 e4⟩
 ·rw [List.nodup_append, List.nodup_append]
  refine ⟨n1, ⟨n2, n3, A2i h2.inG i3⟩, ?_⟩
  rintro x hx y hy rfl
  rcases List.mem_append.1 hy with hy | hy
  ·exact A2i h1.inG h2.inG x hx x hy rfl
  ·have h1' : ∀ b ∈ F1, C1 G2 G b ≠ none := A2H (C1.mono hl2) h1.inG
   exact A2i h1' i3 x hx x hy rfl
section clawss
variable {P : Program} {Γ : K6} {env : L6} {hp : List A4} {G : IM} {ty : TypeId}
theorem A64 {x y : Operand} {t t' : TypeId} {m n : Nat} (hx : evo env x = some (.int .i64 (m : Int))) (hy : evo env y = some (.int .i64 (n : Int))) (hn : 0 < n) :
  I1 P Γ ⟨env, hp, G⟩ (.binOp .rem t x y t') ty (.int .i64 ((m % n : Nat) : Int)) := by
 have h := A28 (P := P) (Γ := Γ) (hp := hp) (G := G) (ty := ty) (t := t) (t' := t') hx hy (by omega)
 rwa [show ((m : Int).tmod n) = ((m % n : Nat) : Int) from rfl] at h
theorem A65 {x y : Operand} {t t' : TypeId} {m n : Nat} (hx : evo env x = some (.int .i64 (m : Int))) (hy : evo env y = some (.int .i64 (n : Int))) (hn : 0 < n) (hm : m ≤ 9223372036854775807) :
  I1 P Γ ⟨env, hp, G⟩ (.binOp .quo t x y t') ty (.int .i64 ((m / n : Nat) : Int)) := by
 have hd : m / n ≤ m := Nat.div_le_self _ _
 have e : ((m : Int).tdiv n) = ((m / n : Nat) : Int) := rfl
 have h := B0q (P := P) (Γ := Γ) (hp := hp) (G := G) (ty := ty) (t := t) (t' := t') hx hy (by omega) (by rw [e]; generalize m / n = q at *; omega) (by rw [e]; generalize m / n = q at *; omega)
 rwa [e] at h
end clawss
def dgi (k : Nat) : Int := 48 + ((k % 10 : Nat) : Int)
def A66 : Nat → Nat → ByteArray → ByteArray
 | 0, _, out => out
 | f + 1, k, out => if 0 < k then A66 f (k / 10) (strOfNums [dgi k] ++ out) else out
def B09 (k : Nat) : ByteArray := ⟨#[109]⟩ ++ A66 20 k ⟨⟨[]⟩⟩
def A3j (l : List Int) : List Value := l.map (Value.int .i64 ·)
mutual
def C6 : Tm → Nat
 | .mk _ _ _ _ _ _ ks => D4 ks + 1
def D4 : List Tm → Nat
 | [] => 0
 | t :: ts => C6 t + D4 ts
end
mutual
def A4d : Tm → List Int → List (List Int)
 | .mk _ _ _ _ _ _ ks, path => path :: A67 ks 0 path
def A67 : List Tm → Nat → List Int → List (List Int)
 | [], _, _ => []
 | t :: ts, i, path => A4d t (path ++ [(i : Int)]) ++ A67 ts (i + 1) path
end
theorem A5r : ∀ {ks : List Tm} {t : Tm}, t ∈ ks → C6 t ≤ D4 ks
 | [], t, h => by simp at h
 | t' :: ts, t, h => by
  rw [D4]
  rcases List.mem_cons.1 h with rfl | h
  ·omega
  ·have := A5r h; omega
theorem A4e : ∀ (a b : List Tm), D4 (a ++ b) = D4 a + D4 b
 | [], b => by simp [D4]
 | t :: a, b => by rw [List.cons_append, D4, D4, A4e a b]; omega
theorem A68 {ks : List Tm} {i : Nat} (hi : i < ks.length) : D4 (ks.take i) + C6 ks[i] ≤ D4 ks := by
 have h := A4e (ks.take (i + 1)) (ks.drop (i + 1))
 rw [List.take_append_drop, List.take_succ_eq_append_getElem hi, A4e] at h
 simp only [D4] at h
 omega
theorem A69 {ks : List Tm} {i : Nat} (hi : i < ks.length) : D4 (ks.take (i + 1)) = D4 (ks.take i) + C6 ks[i] := by
 rw [List.take_succ_eq_append_getElem hi, A4e]
 simp only [D4]; omega
theorem B1a (t : Tm) : 0 < C6 t := by cases t; rw [C6]; omega
theorem A7a : ∀ (ks : List Tm), ks.length ≤ D4 ks
 | [] => by simp
 | .mk _ _ _ _ _ _ _ :: ts => by have := A7a ts; simp only [List.length_cons, D4, C6]; omega

theorem Sl.nn {G : IM} {p : Option Addr} {n c sz : Nat} {cs : List Value} (h : Sl G p n c sz cs) : p = none → n = 0 := by
 rintro rfl
 rcases h.2.2.2 with h | ⟨b, o, full, h, _⟩
 ·exact h
 ·cases h
def SPs (G : IM) : List (List Int) → List Value → List Nat → Prop
 | [], es, F => es = [] ∧ F = []
 | l :: ls, es, F => ∃ p c r Fr, es = .slice p l.length c :: r ∧ F = J1 p ++ Fr ∧ Sl G p l.length c 1 (A3j l) ∧ (∀ b ∈ J1 p, G b ≠ none) ∧ (p = none → l.length = 0) ∧ SPs G ls r Fr
def RPs (G : IM) (ls : List (List Int)) (p : Option Addr) (c : Nat) : Prop := ∃ es F, Sl G p ls.length c 1 es ∧ (∀ b ∈ J1 p, G b ≠ none) ∧ SPs G ls es F ∧ (J1 p ++ F).Nodup
mutual
theorem A7b (M D N : Int) : ∀ (t : Tm) (deep c : Int), (R9 M D N t deep c).1 = true → (R9 M D N t deep c).2 = c + C6 t
 | .mk k nm num ty fr lb ks, deep, c, h => by
  rw [R9] at h ⊢
  split at h
  ·cases h
  ·rename_i hc
   rw [if_neg hc, A7c M D N ks (deep + 1) (c + 1) h, C6]
   omega
theorem A7c (M D N : Int) : ∀ (ts : List Tm) (deep c : Int), (T5 M D N ts deep c).1 = true → (T5 M D N ts deep c).2 = c + D4 ts
 | [], deep, c, h => by rw [T5, D4]; simp
 | t :: ts, deep, c, h => by
  rw [T5] at h ⊢
  split at h
  ·rename_i h1
   rw [if_pos h1, A7c M D N ts deep _ h, A7b M D N t deep c h1, D4]
   omega
  ·cases h
end
def B1b (t : Tm) : List (List Int) := if O3 t = true then A4d t [] else []
section slaws
variable {P : Program} {Γ : K6} {env : L6} {hp : List A4} {G : IM} {ty : TypeId}
end slaws
theorem Sl.kid {G : IM} {p : Option Addr} {n c : Nat} {cs : List Value} (h : Sl G p n c 1 cs) {i : Nat} (hi : i < n) :
  ∃ b o v, p = some ⟨b, o, none⟩ ∧ cs[i]? = some v ∧ (∀ hp, At hp G b (o + i * 1) [v]) ∧ G b ≠ none := by
 obtain ⟨h1, h2, h3, h4⟩ := h
 obtain ⟨b, o, full, rfl, hg, hv⟩ := h4.resolve_left (by omega)
 have hlt : i < cs.length := by omega
 refine ⟨b, o, cs[i], rfl, List.getElem?_eq_getElem hlt, fun hp => A3V hg ?_, by rw [hg]; simp⟩
 intro j v hj
 cases j with
 | zero => simp at hj; subst hj; simpa using hv i _ (List.getElem?_eq_getElem hlt)
 | succ j => simp at hj
theorem Sl.le {G : IM} {p : Option Addr} {n c sz : Nat} {cs : List Value} (h : Sl G p n c sz cs) : n ≤ 9223372036854775807 := by
 have h1 := h.2.1; have h2 := h.2.2.1; unfold maxLen at h2; omega


abbrev A0W := List (Nat × List Value)

mutual
def OTy : Ty → List Value → A0W → Prop
 | .mk k ks, cells, bs => ∃ p c, cells = [.int .i64 k, .slice p ks.length c] ∧ E3 k ∧ ks.length ≤ c ∧ c ≤ maxLen ∧ ((ks = [] ∧ bs = []) ∨ ∃ b A C es r, p = some ⟨b, A.length, none⟩ ∧ bs = (b, A ++ (es.flatten ++ C)) :: r ∧ A5s ks es r)
def A5s : List Ty → List (List Value) → A0W → Prop
 | [], es, bs => es = [] ∧ bs = []
 | t :: ts, es, bs => ∃ e e' r1 r2, es = e :: e' ∧ bs = r1 ++ r2 ∧ OTy t e r1 ∧ A5s ts e' r2
end
def A7d (ks : List Ty) (p : Option Addr) (c : Nat) (bs : A0W) : Prop :=
 ks.length ≤ c ∧ c ≤ maxLen ∧ ((ks = [] ∧ bs = []) ∨ ∃ b A C es r, p = some ⟨b, A.length, none⟩ ∧ bs = (b, A ++ (es.flatten ++ C)) :: r ∧ A5s ks es r)
mutual
def OTm : Tm → List Value → A0W → Prop
 | .mk k nm num ty fr lb ks, cells, bs => ∃ tc fc p c bt bf bk, cells = [.int .i64 k, .string nm, .int .i64 num] ++ tc ++ fc ++ [.int .i64 lb, .slice p ks.length c] ∧ E3 k ∧ E3 num ∧ E3 lb ∧ OTy ty tc bt ∧ OTy fr fc bf ∧
   ks.length ≤ c ∧ c ≤ maxLen ∧ ((ks = [] ∧ bk = []) ∨ ∃ b A C es r, p = some ⟨b, A.length, none⟩ ∧ bk = (b, A ++ (es.flatten ++ C)) :: r ∧ A5t ks es r) ∧ bs = bt ++ (bf ++ bk)
def A5t : List Tm → List (List Value) → A0W → Prop
 | [], es, bs => es = [] ∧ bs = []
 | t :: ts, es, bs => ∃ e e' r1 r2, es = e :: e' ∧ bs = r1 ++ r2 ∧ OTm t e r1 ∧ A5t ts e' r2
end
def B1c (ks : List Tm) (p : Option Addr) (c : Nat) (bs : A0W) : Prop :=
 ks.length ≤ c ∧ c ≤ maxLen ∧ ((ks = [] ∧ bs = []) ∨ ∃ b A C es r, p = some ⟨b, A.length, none⟩ ∧ bs = (b, A ++ (es.flatten ++ C)) :: r ∧ A5t ks es r)
mutual
def A7e : Ty → Int
 | .mk _ ks => 1 + Z6 ks
def Z6 : List Ty → Int
 | [] => 0
 | t :: ts => A7e t + Z6 ts
end
mutual
def B1d : Ty → Int → Ty
 | .mk _ ks, k => .mk k (A1Q ks (k + 1))
def A1Q : List Ty → Int → List Ty
 | [], _ => []
 | t :: ts, k => B1d t k :: A1Q ts (k + A7e t)
end
mutual
def A7f : Tm → Int
 | .mk _ _ _ ty fr _ ks => 6 + Z6 ty.ks + Z6 fr.ks + A7g ks
def A7g : List Tm → Int
 | [] => 0
 | t :: ts => A7f t + A7g ts
end
mutual
def B1e : Tm → Int → Tm
 | .mk _ _ _ ty fr _ ks, k => .mk k (B09 (k + 1).toNat) (k + 1 + 1) (.mk (k + 1 + 1 + 1) (A1Q ty.ks (k + 1 + 1 + 1 + 1))) (.mk (k + 1 + 1 + 1 + 1 + Z6 ty.ks) (A1Q fr.ks (k + 1 + 1 + 1 + 1 + Z6 ty.ks + 1))) (k + 1 + 1 + 1 + 1 + Z6 ty.ks + 1 + Z6 fr.ks) (A4f ks (k + 1 + 1 + 1 + 1 + Z6 ty.ks + 1 + Z6 fr.ks + 1))
def A4f : List Tm → Int → List Tm
 | [], _ => []
 | t :: ts, k => B1e t k :: A4f ts (k + A7f t)
end
section lend
variable {P : Program} {Γ : K6} {env : L6} {hp : List A4} {G : IM} {K : Po} {ops : Array Oper} {rest : List Oper} {ty : TypeId} {pos : String} {af : Array Edge} {gd : Option (Nat × Bool)}
def B6R (v0 : Value) (G : IM) (Φ : A0W → Prop) : IM → Value → List A4 → Prop := fun G' v outs => G' = G ∧ v = v0 ∧ ∃ bs', outs = A1A bs' ∧ Φ bs'
end lend
def MTm (t : Tm) (k : Int) (cells : List Value) (bs : A0W) : Prop := ∃ pt ct pf cf p c bt bf bk,
 cells = [.int .i64 t.k, .string t.nm, .int .i64 t.num, .int .i64 t.ty.k, .slice pt t.ty.ks.length ct, .int .i64 t.fr.k, .slice pf t.fr.ks.length cf, .int .i64 t.lb, .slice p t.ks.length c] ∧
 A7d (A1Q t.ty.ks k) pt ct bt ∧ A7d (A1Q t.fr.ks (k + Z6 t.ty.ks)) pf cf bf ∧ B1c (A4f t.ks (k + Z6 t.ty.ks + Z6 t.fr.ks)) p c bk ∧ bs = bt ++ (bf ++ bk)
def A7h : Nat → Int → List Int
 | 0, _ => []
 | n + 1, k => k :: A7h n (k + 1)
def OIs (l : List Int) (p : Option Addr) (c : Nat) (bs : A0W) : Prop :=
 l.length ≤ c ∧ c ≤ maxLen ∧ ((l = [] ∧ bs = []) ∨ ∃ b A C, p = some ⟨b, A.length, none⟩ ∧ bs = [(b, A ++ (A3j l ++ C))])
def OPs : List (List Int) → List Value → A0W → Prop
 | [], es, bs => es = [] ∧ bs = []
 | l :: ls, es, bs => ∃ p c e' r1 r2, es = .slice p l.length c :: e' ∧ bs = r1 ++ r2 ∧ OIs l p c r1 ∧ OPs ls e' r2
def B1f : List (List Int) → Int
 | [] => 0
 | l :: ls => l.length + B1f ls
def B1g : List (List Int) → Int → List (List Int)
 | [], _ => []
 | l :: ls, k => A7h l.length k :: B1g ls (k + l.length)
section lend0
variable {P : Program} {Γ : K6} {env : L6} {G : IM} {K : Po} {ops : Array Oper} {rest : List Oper} {ty : TypeId} {pos : String} {af : Array Edge} {gd : Option (Nat × Bool)}
end lend0
def QPs (G : IM) : List (List Int) → List Value → Prop
 | [], es => es = []
 | l :: ls, es => ∃ p c r, es = .slice p l.length c :: r ∧ Sl G p l.length c 1 (A3j l) ∧ QPs G ls r
mutual
def J8 : Ty → Int
 | .mk _ ks => ks.length + O6 ks
def O6 : List Ty → Int
 | [] => 0
 | t :: ts => J8 t + O6 ts
end
mutual
def Z7 : Tm → Int
 | .mk _ nm _ ty fr _ ks => nm.size + J8 ty + J8 fr + (ks.length + X0 ks)
def X0 : List Tm → Int
 | [] => 0
 | t :: ts => Z7 t + X0 ts
end
mutual
theorem A0X : ∀ t : Ty, 0 ≤ J8 t
 | .mk _ ks => by have := A1R ks; rw [J8]; omega
theorem A1R : ∀ ts : List Ty, 0 ≤ O6 ts
 | [] => by rw [O6]; omega
 | t :: ts => by have := A0X t; have := A1R ts; rw [O6]; omega
end
mutual
theorem A7i : ∀ t : Tm, 0 ≤ Z7 t
 | .mk _ _ _ ty fr _ ks => by have := A4g ks; have := A0X ty; have := A0X fr; rw [Z7]; omega
theorem A4g : ∀ ts : List Tm, 0 ≤ X0 ts
 | [] => by rw [X0]; omega
 | t :: ts => by have := A7i t; have := A4g ts; rw [X0]; omega
end
theorem A5u : ∀ a b : List Ty, O6 (a ++ b) = O6 a + O6 b
 | [], b => by simp [O6]
 | t :: a, b => by rw [List.cons_append, O6, O6, A5u a b]; omega
theorem B1h {ks : List Ty} {i : Nat} (hi : i < ks.length) : O6 (ks.take (i + 1)) = O6 (ks.take i) + J8 ks[i] := by
 rw [List.take_succ_eq_append_getElem hi, A5u, O6, O6]; omega
theorem A7j (ks : List Ty) (i : Nat) : O6 (ks.take i) ≤ O6 ks := by
 have h := A5u (ks.take i) (ks.drop i)
 rw [List.take_append_drop] at h
 have := A1R (ks.drop i); omega
mutual
def Tm.nok : Tm → Prop
 | .mk _ nm _ _ _ _ ks => nm.size ≤ 9223372036854775807 ∧ Tm.nokL ks
def Tm.nokL : List Tm → Prop
 | [] => True
 | t :: ts => t.nok ∧ Tm.nokL ts
end
def B6S (left s : Int) : Int := if s ≤ left then left - s else -1
end Gw
end Go.Proofs.YtfpgncjeejickaaGreat
namespace Go.Proofs.YtfpgncjeejickaaGreat
open Go Go.RowKit Go.ChangeShapes Go.WideShapes Go.ChangeAt
namespace Gw
def GW (w : World) : IM := fun b => match w.heap[b]? with
 | some (.cells c _ _) => some c.toList
 | _ => none
theorem B1i (w : World) : S5 [] (GW w) w := by
 refine ⟨?_, by simp, by simp [Fp], by simp [Fp]⟩
 intro b l h
 unfold GW at h
 split at h
 ·rename_i c e f hb; cases h; exact ⟨e, f, by simpa using hb⟩
 ·cases h
theorem A7k {w : World} {b o : Nat} {v : Value} (h : w.cell? ⟨b, o, none⟩ = some v) : ∃ full, GW w b = some full ∧ full[o]? = some v := by
 unfold World.cell? at h
 simp only at h
 split at h
 ·rename_i c e f hb
  exact ⟨c.toList, by simp [GW, hb], by simpa using h⟩
 ·cases h
theorem A7l {sz : Nat} : ∀ {es : List (List Value)}, (∀ e ∈ es, e.length = sz) → ∀ {j : Nat} {v : Value}, es.flatten[j]? = some v → ∃ i e r, es[i]? = some e ∧ e[r]? = some v ∧ j = i * sz + r
 | [], _, j, v, h => by simp at h
 | a :: es, hall, j, v, h => by
  have ha := hall a List.mem_cons_self
  rw [List.flatten_cons, List.getElem?_append] at h
  split at h
  ·exact ⟨0, a, j, rfl, h, by simp⟩
  ·rename_i hj
   obtain ⟨i, e, r, h1, h2, h3⟩ := A7l (fun x hx => hall x (List.mem_cons_of_mem _ hx)) h
   exact ⟨i + 1, e, r, by simpa using h1, h2, by rw [Nat.succ_mul]; omega⟩
theorem B1j {w : World} {a : Addr} {n c sz : Nat} {es : List (List Value)} (hl : es.length = n) (hsz : 0 < sz) (hc : n ≤ c) (hm : c ≤ maxLen) (h : ∀ i e, es[i]? = some e → w.cells? 0 (a.add (i * sz)) sz = some e) : Sl (GW w) (some a) n c sz es.flatten := by
 have hall : ∀ e ∈ es, e.length = sz := by
  intro e he
  obtain ⟨i, hi⟩ := List.getElem?_of_mem he
  exact (World.cells?_some (h i e hi)).2.1
 refine ⟨by rw [A08 hall, hl], hc, hm, ?_⟩
 rcases Nat.eq_zero_or_pos n with h0 | h0
 ·exact .inl h0
 ·right
  obtain ⟨b, o, s⟩ := a
  have hs : s = none := by
   have h1 := (World.cells?_some (h 0 es[0] (List.getElem?_eq_getElem (by omega)))).2
   have h2 := h1.2 0 hsz
   rw [List.getElem?_eq_getElem (by omega)] at h2
   simp only [Nat.zero_mul, Addr.add, if_true] at h2
   unfold World.cell? at h2
   split at h2
   ·split at h2
    ·cases h2
    ·rename_i hn; cases s with
     | none => rfl
     | some x => simp at hn
   ·cases h2
  subst hs
  have key : ∀ j v, es.flatten[j]? = some v → w.cell? ⟨b, o + j, none⟩ = some v := by
   intro j v hj
   obtain ⟨i, e, r, h1, h2, rfl⟩ := A7l hall hj
   have h3 := (World.cells?_some (h i e h1)).2
   have hr : r < e.length := (List.getElem?_eq_some_iff.1 h2).1
   have h4 := h3.2 r (by omega)
   rw [h2, A2A, A2A] at h4
   rw [← Nat.add_assoc]; exact h4
  have hpos : 0 < es.flatten.length := by rw [A08 hall, hl]; exact Nat.mul_pos h0 hsz
  obtain ⟨full, hg, _⟩ := A7k (key 0 es.flatten[0] (List.getElem?_eq_getElem hpos))
  refine ⟨b, o, full, rfl, hg, fun j v hj => ?_⟩
  obtain ⟨full', hg', hv⟩ := A7k (key j v hj)
  rw [hg] at hg'; cases hg'; exact hv
theorem E6.snoc {G : IM} : ∀ {ts : List Ty} {es : List (List Value)} {t : Ty} {e : List Value}, E6 G ts es → B5 G t e → E6 G (ts ++ [t]) (es ++ [e])
 | [], es, t, e, h, h2 => by
  simp only [E6] at h; subst h
  simp only [List.nil_append, E6]
  exact ⟨e, [], rfl, h2, rfl⟩
 | t' :: ts, es, t, e, h, h2 => by
  simp only [E6] at h
  obtain ⟨a, r, rfl, h3, h4⟩ := h
  simp only [List.cons_append, E6]
  exact ⟨a, r ++ [e], rfl, h3, E6.snoc h4 h2⟩
theorem D2.snoc {G : IM} : ∀ {ts : List Tm} {es : List (List Value)} {t : Tm} {e : List Value}, D2 G ts es → A6 G t e → D2 G (ts ++ [t]) (es ++ [e])
 | [], es, t, e, h, h2 => by
  simp only [D2] at h; subst h
  simp only [List.nil_append, D2]
  exact ⟨e, [], rfl, h2, rfl⟩
 | t' :: ts, es, t, e, h, h2 => by
  simp only [D2] at h
  obtain ⟨a, r, rfl, h3, h4⟩ := h
  simp only [List.cons_append, D2]
  exact ⟨a, r ++ [e], rfl, h3, D2.snoc h4 h2⟩
theorem E6.each {G : IM} {ts : List Ty} {es : List (List Value)} (h : E6 G ts es) : ∀ e ∈ es, e.length = 2 ∧ e.all (·.oneCell') = true := by
 intro e he
 obtain ⟨i, hi⟩ := List.getElem?_of_mem he
 have := (h.inv hi A8).2
 exact ⟨this.len, this.one⟩
theorem D2.each {G : IM} {ts : List Tm} {es : List (List Value)} (h : D2 G ts es) : ∀ e ∈ es, e.length = 9 ∧ e.all (·.oneCell') = true := by
 intro e he
 obtain ⟨i, hi⟩ := List.getElem?_of_mem he
 have := (h.inv hi (.mk 0 ⟨#[]⟩ 0 A8 A8 0 [])).2
 exact ⟨this.len, this.one⟩
section read
variable {H : Type} {enc : TypeId × Value → H} {w : World} {sp : Nat → Bool} {held : Bool}
end read
theorem Ext.below {w w' : World} (h : Ext (Fp []) w w') : Below w.heap.size w w' := ⟨h.os, h.tape, h.output, h.size, fun k hk => h.block k hk (by simp [Fp])⟩
section post
variable {H : Type} {enc : TypeId × Value → H} {P : Program}
theorem B1k {f : Func} {s : ChangeSpec} {apart fresh handsOn again : Bool} {W W' : World} {args : Array Value} {v : Value} {ds gs : List (DataW H)} {before : List MemPlace}
  (hW : DataW.Whole enc P f.params.toList s.vars apart W args.toList ds gs before) (hb : Below W.heap.size W W') (hgs : s.vars = [])
  (hres : ∀ (b : Nat) (sp : Nat → Bool) (hd : Bool), DataW.TrodAll enc P W' b sp hd f.resultTypes.toList (v.resultList f.resultTypes.size) (s.fn H (ds ++ gs)).results [])
  (hargs : ∀ sp : Nat → Bool, (∀ p ∈ before, sp p.block = true) → DataW.TrodAll enc P W' 0 sp true f.params.toList args.toList (s.fn H (ds ++ gs)).args before)
  (hv : (s.fn H (ds ++ gs)).vars = [])
  (hok : ∀ (j : Nat) (t : TypeId) (r : Value), f.resultTypes[j]? = some t → (v.resultList f.resultTypes.size)[j]? = some r → Value.okWide P W' .any 0 t r) :
  s.post enc P f apart fresh handsOn again W args v W' := by
 have hold : ∀ p ∈ before, (fun b => decide (b < W.heap.size)) p.block = true := fun p hp => by simpa using hW.lt p hp
 have hvars : ∀ sp : Nat → Bool, DataW.TrodVars enc P W' sp s.vars (s.fn H (ds ++ gs)).vars [] := fun sp => by rw [hgs, hv]; rfl
 have hkept : W.keptBut W' (fun _ => False) := by
  refine ⟨hb.os, hb.output, fun i hi => ?_⟩
  rw [hb.block i hi]
  split
  ·rename_i h1 h2; cases h1.symm.trans h2; exact ⟨rfl, rfl, rfl, fun _ _ => rfl⟩
  ·rename_i h1 h2; cases h1.symm.trans h2; exact .inr ⟨rfl, rfl⟩
  ·rfl
 refine ⟨ds, gs, before, [], before, [], hW, hres _ _ _, hargs _ hold, hvars _, World.keptBut_mono (fun p hp => hp.elim) hkept, fun _ => ?_⟩
 obtain ⟨_, _, _, _, _, hz, hn⟩ := hW
 refine ⟨hok, _, _, ([] ++ before) ++ [], ⟨[] ++ before, [], trodAll_append (hargs _ (fun _ _ => rfl)) (hres _ _ _), hvars _, rfl, ?_, ?_⟩, ?_⟩
 ·intro b off hp
  have hp' : MemPlace.cell b off ∈ before := by simpa using hp
  have hlt : b < W.heap.size := of_decide_eq_true (hold _ hp')
  have := hz b off hp'
  unfold World.frozen? at this ⊢
  simp only [hb.block b hlt]
  exact this
 ·intro ha; simpa using hn ha
 ·intro p hp _; simpa using hp
end post
end Gw
end Go.Proofs.YtfpgncjeejickaaGreat
namespace Go.Proofs.YtfpgncjeejickaaGreat
open Go Go.RowKit Go.ChangeShapes Go.WideShapes Go.ChangeAt
namespace Gw
section read2
variable {H : Type} {enc : TypeId × Value → H} {w : World} {sp : Nat → Bool} {held : Bool}
end read2
section rlaws
variable {P : Program} {Γ : K6} {env : L6} {hp : List A4} {G : IM} {ty : TypeId}
theorem B1l {m n : Nat} (hm : m < 4611686018427387904) (hn : n < 4611686018427387904) : m ^^^ n < 4611686018427387904 := by
 have := @Nat.xor_lt_two_pow m n 62 (by omega) (by omega)
 simpa using this
theorem B1m {x y : Operand} {t t' : TypeId} {m n : Nat} (hx : evo env x = some (.int .i64 (m : Int))) (hy : evo env y = some (.int .i64 (n : Int))) (hm : m < 4611686018427387904) (hn : n < 4611686018427387904) :
  I1 P Γ ⟨env, hp, G⟩ (.binOp .xor t x y t') ty (.int .i64 ((m ^^^ n : Nat) : Int)) := by
 refine ⟨fun a _ hs _ _ _ _ w => ?_⟩
 have hlt := B1l hm hn
 have e : (BitVec.ofInt 64 (m : Int) ^^^ BitVec.ofInt 64 (n : Int)).toNat = m ^^^ n := by
  rw [BitVec.toNat_xor, BitVec.toNat_ofInt, BitVec.toNat_ofInt]
  congr 1 <;> omega
 have hw : IntKind.i64.wrap (((BitVec.ofInt 64 (m : Int) ^^^ BitVec.ofInt 64 (n : Int)).toNat : Nat) : Int) = ((m ^^^ n : Nat) : Int) := by
  rw [e]; exact A2c _ rfl (by omega) (by omega)
 simp only [execOp, eqGuard, binOp, Op.intBits, (hs.evo hx : a.eval x = _), (hs.evo hy : a.eval y = _), ne_eq, not_true_eq_false, if_false, Sem.run_bind, Sem.run_pure, Result.andThen_ok]
 rw [show IntKind.bits .i64 = 64 from rfl] at *
 simp only [hw]
 simp
theorem A3k {x y : Operand} {t t' : TypeId} {m n : Nat} (hx : evo env x = some (.int .i64 (m : Int))) (hy : evo env y = some (.int .i64 (n : Int))) (h : m * n ≤ 9223372036854775807) :
  I1 P Γ ⟨env, hp, G⟩ (.binOp .mul t x y t') ty (.int .i64 ((m * n : Nat) : Int)) := by
 have e : ((m : Int) * (n : Int)) = ((m * n : Nat) : Int) := by simp
 have h2 := B0p (P := P) (Γ := Γ) (hp := hp) (G := G) (ty := ty) (t := t) (t' := t') hx hy (by rw [e]; omega) (by rw [e]; omega)
 rwa [e] at h2
theorem A1B {x y : Operand} {t t' : TypeId} {m n : Nat} (hx : evo env x = some (.int .i64 (m : Int))) (hy : evo env y = some (.int .i64 (n : Int))) (h : m + n ≤ 9223372036854775807) :
  I1 P Γ ⟨env, hp, G⟩ (.binOp .add t x y t') ty (.int .i64 ((m + n : Nat) : Int)) := by
 have e : ((m : Int) + (n : Int)) = ((m + n : Nat) : Int) := by simp
 have h2 := K4 (P := P) (Γ := Γ) (hp := hp) (G := G) (ty := ty) (t := t) (t' := t') hx hy (by rw [e]; omega) (by rw [e]; omega)
 rwa [e] at h2
theorem A4h {x y : Operand} {t t' : TypeId} {m : Nat} (hx : evo env x = some (.int .i64 ((m + 1 : Nat) : Int))) (hy : evo env y = some (.int .i64 1)) (h : m ≤ 9223372036854775807) :
  I1 P Γ ⟨env, hp, G⟩ (.binOp .sub t x y t') ty (.int .i64 (m : Int)) := by
 have e : (((m + 1 : Nat) : Int) - 1) = (m : Int) := by omega
 have h2 := P0 (P := P) (Γ := Γ) (hp := hp) (G := G) (ty := ty) (t := t) (t' := t') hx hy (by rw [e]; omega) (by rw [e]; omega)
 rwa [e] at h2
theorem A5v {s d : TypeId} {is id : L7} [hS : H9 P s is] [hD : H9 P d id] (hd : id.desc = .int .i64) {k : IntKind} (hs : is.desc = .int k) {x : Operand} {n : Int} (hx : evo env x = some (.int k n)) (h0 : -9223372036854775808 ≤ n) (h1 : n ≤ 9223372036854775807) :
  I1 P Γ ⟨env, hp, G⟩ (.convert s d x) ty (.int .i64 n) := by
 refine ⟨fun a _ hst _ _ _ _ w => ?_⟩
 have hu := hD.und
 rw [hd] at hu
 have hus := hS.und
 rw [hs] at hus
 have hw : IntKind.i64.wrap n = n := A2c n rfl h0 h1
 simp [execOp, convert, run_underlying hus, run_underlying hu, (hst.evo hx : a.eval x = _), Conv.intToInt, hw]
theorem A5w {x y : Operand} {t el : TypeId} {i : L7} {sz by' : Nat} {zs : List Value} [hI : H9 P t i] (hd' : i.desc = .slice el) [hE : W9 P el sz by' zs] {p : Option Addr} {n c l : Nat}
  (hx : evo env x = some (.slice p n c)) (hy : evo env y = some (.int .i64 (l : Int))) (hl : l ≤ c) :
  I1 P Γ ⟨env, hp, G⟩ (.slice t x none (some y) none) ty (.slice p l c) := by
 refine ⟨fun a _ hs _ _ _ _ w => ?_⟩
 have hu := hI.und
 rw [hd'] at hu
 obtain ⟨d, hE⟩ := hE.ok
 obtain ⟨inf, z, t1, t2, t3, _⟩ := A3d (P := P) (t := el)
 have e1 : a.eval x = _ := hs.evo hx
 have e2 : a.eval y = _ := hs.evo hy
 have hb : ∀ code, (Instr.sliceBound (.int .i64 (l : Int)) c code).run P w = .ok l w := fun code => by
  unfold Instr.sliceBound
  simp only [asIntOf, Sem.run_bind, Sem.run_pure, Result.andThen_ok]
  rw [if_pos ⟨by omega, by omega⟩]
  simp
 simp only [execOp, Option.map, e1, e2, Instr.sliceAt, Sem.run_bind, run_underlying hu, Result.andThen_ok, Instr.slice, Instr.sliceBounds, Sem.run_pure, hb, t3]
 by_cases h : c = 0
 ·subst h; simp
 ·rw [if_neg h]; simp; cases p <;> simp [Addr.add]
end rlaws
def N9 (bs : List UInt8) : List Value := bs.map fun b => .int .u8 (b.toNat : Int)
theorem A7m (bs : List UInt8) : (N9 bs).length = bs.length := by simp [N9]
theorem A5x {bs : List UInt8} {i : Nat} {v : Value} (h : (N9 bs)[i]? = some v) : ∃ b : Nat, b < 256 ∧ v = .int .u8 (b : Int) := by
 unfold N9 at h
 rw [List.getElem?_map] at h
 cases hb : bs[i]? with
 | none => rw [hb] at h; simp at h
 | some b => rw [hb] at h; simp at h; exact ⟨b.toNat, b.toNat_lt, h.symm⟩
def rd (br : Nat) (pb : Option Addr) (nb cb p : Nat) : A4 := .blk br [.slice pb nb cb, .int .i64 (p : Int)]
def Y7 (br : Nat) (pb : Option Addr) (nb cb p B : Nat) (Φ : IM → Value → Prop) : IM → Value → List A4 → Prop := fun G' v outs => ∃ p', p ≤ p' ∧ p' ≤ p + B ∧ outs = [rd br pb nb cb p'] ∧ Φ G' v
theorem W3 (G : IM) (br : Nat) (pb : Option Addr) (nb cb p : Nat) (bs : List UInt8) (n : Int) (hb : Sl G pb nb cb 1 (N9 bs)) (hnb : nb ≤ 2000) (hp : p < 1099511627776) :
  Fn Tryz.prog 109 [.pointer (some ⟨br, 0, none⟩), .int .i64 n] [rd br pb nb cb p] G (fun G' v outs => G' = G ∧ outs = [rd br pb nb cb (p + 1)] ∧ ∃ k, v = .int .i64 k ∧ 0 ≤ k ∧ (1 ≤ n → k < n)) := by
 unfold rd
 have hm1 : ∀ q, 0 < nb → q % nb < nb := fun q h => Nat.mod_lt _ h
 have hdv : p / nb ≤ p := Nat.div_le_self _ _
 refine B3 Tryz.func109 rfl Tryz.ntmps109 Tryz.results109 rfl ?_
 intro w0
 refine D9 ?_
 refine sQ (Y5 rfl) rfl ?_
 refine sQ (B0 rfl) rfl (sL (B9 rfl rfl) rfl rfl ?_)
 refine sP (A1B (n := 1) rfl rfl (by omega)) rfl rfl ?_
 refine sQ (Y5 rfl) rfl ?_
 refine D8 ?_
 refine sB (J9 rfl rfl) rfl rfl (fun h23 => ?_) (fun h23 => ?_)
 refine U6 ?_
 refine F8 (rT rfl) A0.refl ?_
 exact ⟨rfl, rfl, 0, rfl, Int.le_refl _, fun h => by omega⟩
 refine sQ (qM rfl) rfl (sQ (qM rfl) rfl ?_)
 refine sQ (Y5 rfl) rfl ?_
 refine L9 ?_
 refine sB (qE rfl rfl) rfl rfl (fun h50 => ?_) (fun h50 => ?_)
 refine J2 ?_
 refine F8 (rT rfl) A0.refl ?_
 exact ⟨rfl, rfl, 0, rfl, Int.le_refl _, fun h => by omega⟩
 refine D9 ?_
 refine sQ (Y5 rfl) rfl ?_
 refine sQ (B0 rfl) rfl (sL (B9 rfl rfl) rfl rfl ?_)
 refine sP (A4h rfl rfl (by omega)) rfl rfl ?_
 refine D8 ?_
 refine sQ (Y5 rfl) rfl ?_
 refine L9 ?_
 refine sB (J9 rfl rfl) rfl rfl (fun h89 => ?_) (fun h89 => ?_)
 refine sD (nS (qT rfl (tS (tR (sQ (qM rfl) rfl ?_)))))
 refine sQ (Y5 rfl) rfl ?_
 refine L9 ?_
 (obtain ⟨b, o, v, rfl, hv, hat, hgb⟩ := hb.kid (i := p) (by omega); obtain ⟨y, hy, rfl⟩ := A5x hv; refine sP (B2 rfl rfl rfl (by omega)) rfl rfl ?_)
 refine sL (A0h rfl rfl (hat _)) rfl rfl ?_
 refine sP (A5v rfl rfl rfl (by omega) (by omega)) rfl rfl ?_
 refine sQ (qM rfl) rfl ?_
 refine sP (A28 rfl rfl (by omega)) rfl rfl ?_
 refine sQ (qA rfl) rfl (sD (nS (tT (rS ?_))))
 refine F8 (rT rfl) A0.refl ?_
 exact ⟨rfl, rfl, _, rfl, Int.tmod_nonneg _ (by omega), fun h => Int.tmod_lt_of_pos _ (by omega)⟩
 refine sD (nS (cF rfl (tK (nS (tS ?_)))))
 (obtain ⟨b, o, v1, rfl, hv1, hat1, _⟩ := hb.kid (i := HMod.hMod p nb) (hm1 _ (by omega)); obtain ⟨y1, hy1, rfl⟩ := A5x hv1; obtain ⟨b', o', v2, hbb, hv2, hat2, _⟩ := hb.kid (i := HMod.hMod (p * 7 + 3) nb) (hm1 _ (by omega)); obtain ⟨y2, hy2, rfl⟩ := A5x hv2; cases hbb; have hl1 := hm1 p (by omega); have hl2 := hm1 (p * 7 + 3) (by omega); refine D5 D6 rfl ?_)
 refine I3 (i := 0) (l' := [tt,ff,ff,ff,ff,ff,ff,ff,ff,ff,ff,ff,ff,ff,ff,ff,ff,ff,ff,ff,ff,ff,ff,ff,ff,ff,ff,ff,ff,ff,ff,ff,ff,ff,ff,ff,ff,ff,ff,ff,ff,ff,ff,ff,ff,ff]) rfl D1 (qM rfl) rfl (by kernel_rfl) rfl rfl ?_
 refine aP 1 rfl (Y5 rfl) rfl ?_
 refine aP 2 rfl (B0 rfl) rfl ?_
 refine aL 3 rfl (B9 rfl rfl) rfl ?_
 refine aP 4 rfl (qM rfl) rfl ?_
 refine aP 5 rfl (qM rfl) rfl ?_
 refine aP 6 rfl (Y5 rfl) rfl ?_
 refine aP 7 rfl (B0 rfl) rfl ?_
 refine aL 8 rfl (B9 rfl rfl) rfl ?_
 refine aP 9 rfl (pLn rfl rfl) rfl ?_
 refine aP 10 rfl (A64 rfl rfl (by omega)) rfl ?_
 refine aP 11 rfl (B2 rfl rfl rfl (by first | exact hl1 | exact hl2)) rfl ?_
 refine aL 12 rfl (A0h rfl rfl (hat1 _)) rfl ?_
 refine aP 13 rfl (A5v rfl rfl rfl (by omega) (by omega)) rfl ?_
 refine aP 14 rfl (A3k (n := 131) rfl rfl (by omega)) rfl ?_
 refine aP 15 rfl (qM rfl) rfl ?_
 refine aP 16 rfl (Y5 rfl) rfl ?_
 refine aP 17 rfl (B0 rfl) rfl ?_
 refine aL 18 rfl (B9 rfl rfl) rfl ?_
 refine aP 19 rfl (qM rfl) rfl ?_
 refine aP 20 rfl (A3k (n := 7) rfl rfl (by omega)) rfl ?_
 refine aP 21 rfl (A1B (n := 3) rfl rfl (by omega)) rfl ?_
 refine aP 22 rfl (qM rfl) rfl ?_
 refine aP 23 rfl (Y5 rfl) rfl ?_
 refine aP 24 rfl (B0 rfl) rfl ?_
 refine aL 25 rfl (B9 rfl rfl) rfl ?_
 refine aP 26 rfl (pLn rfl rfl) rfl ?_
 refine aP 27 rfl (A64 rfl rfl (by omega)) rfl ?_
 refine aP 28 rfl (B2 rfl rfl rfl (by first | exact hl1 | exact hl2)) rfl ?_
 refine aL 29 rfl (A0h rfl rfl (hat2 _)) rfl ?_
 refine aP 30 rfl (A5v rfl rfl rfl (by omega) (by omega)) rfl ?_
 refine aP 31 rfl (A3k (n := 1117) rfl rfl (by omega)) rfl ?_
 refine aP 32 rfl (A1B rfl rfl (by omega)) rfl ?_
 refine aP 33 rfl (qM rfl) rfl ?_
 refine aP 34 rfl (A3k (n := 29) rfl rfl (by omega)) rfl ?_
 refine aP 35 rfl (A1B rfl rfl (by omega)) rfl ?_
 refine aP 36 rfl (qM rfl) rfl ?_
 refine aP 37 rfl (qM rfl) rfl ?_
 refine aP 38 rfl (Y5 rfl) rfl ?_
 refine aP 39 rfl (B0 rfl) rfl ?_
 refine aL 40 rfl (B9 rfl rfl) rfl ?_
 refine aP 41 rfl (pLn rfl rfl) rfl ?_
 refine aP 42 rfl (A65 rfl rfl (by omega) (by omega)) rfl ?_
 refine aP 43 rfl (A3k (n := 53) rfl rfl (by omega)) rfl ?_
 refine aP 44 rfl (A1B rfl rfl (by omega)) rfl ?_
 refine aP 45 rfl (qA rfl) rfl ?_
 refine C2 (nS (tS (tR (sQ (qM rfl) rfl (sQ (qM rfl) rfl ?_)))))
 refine sP (A65 (n := 64) rfl rfl (by omega) (by omega)) rfl rfl ?_
 refine sP (B1m rfl rfl (by omega) (by omega)) rfl rfl ?_
 refine C4 ?_
 refine sP (A28 rfl rfl (by omega)) rfl rfl ?_
 refine sQ (qA rfl) rfl (sD (nS (tT ?_)))
 refine F8 (rT rfl) A0.refl ?_
 exact ⟨rfl, rfl, _, rfl, Int.tmod_nonneg _ (by omega), fun h => Int.tmod_lt_of_pos _ (by omega)⟩
end Gw
end Go.Proofs.YtfpgncjeejickaaGreat
namespace Go.Proofs.YtfpgncjeejickaaGreat
open Go Go.RowKit Go.ChangeShapes Go.WideShapes Go.ChangeAt
namespace Gw
theorem B1n : Tryz.prog.cellsOf 5 = 1 := by kernel_rfl
theorem A7n {q : Nat → Value → Prop} : ∀ {n : Nat}, (∀ i, i < n → ∃ k : UInt8, q i (.int .u8 (k.toNat : Int))) → ∃ l : List UInt8, l.length = n ∧ ∀ i v, (N9 l)[i]? = some v → q i v
 | 0, _ => ⟨[], rfl, by simp [N9]⟩
 | n + 1, h => by
  obtain ⟨l, h1, h2⟩ := A7n (n := n) fun i hi => h i (by omega)
  obtain ⟨k, hk⟩ := h n (by omega)
  refine ⟨l ++ [k], by simp [h1], fun i v hv => ?_⟩
  rw [show N9 (l ++ [k]) = N9 l ++ [.int .u8 (k.toNat : Int)] from by simp [N9], List.getElem?_append] at hv
  split at hv
  ·exact h2 i v hv
  ·rename_i hi
   rw [A7m] at hi hv
   have : i - l.length = 0 := by
    have := (List.getElem?_eq_some_iff.1 hv).1; simp at this; omega
   rw [this] at hv; simp at hv; subst hv
   rw [show i = n by omega]; exact hk
section read2
variable {H : Type} {enc : TypeId × Value → H} {w : World} {sp : Nat → Bool} {held : Bool}
theorem B1o (n : Nat) (cs : List Value) (x : DataW H × List MemPlace) (h : DataW.trod enc Tryz.prog w 0 sp held n 22 cs = some x) : ∃ (l : List UInt8) (p : Option Addr) (c : Nat), cs = [.slice p l.length c] ∧ Sl (GW w) p l.length c 1 (N9 l) := by
 rcases DataW.trod_slice Tryz.underlying22 h with ⟨rfl, _⟩ | ⟨ad, len, cap, elems, rest, n', rfl, rfl, _, _, hlc, hcm, hel, hele, _, _⟩
 ·exact ⟨[], none, 0, rfl, Sl.nil _ _⟩
 ·rw [B1n] at hele
  obtain ⟨l, h1, h2⟩ := A7n (q := fun i v => w.cells? 0 (ad.add (i * 1)) 1 = some [v]) (n := len) fun i hi => by
   have := hele i hi
   rw [List.getElem?_eq_getElem (by omega)] at this
   obtain ⟨cs', c1, c2⟩ := Option.bind_eq_some_iff.1 this
   obtain ⟨k, rfl, _, hw⟩ := DataW.trod_int Tryz.underlying5 c2
   have hk : 0 ≤ k ∧ k < 256 := by
    have hw2 : (decide ((0 : Int) ≤ k) && decide (k ≤ (255 : Int))) = true := hw
    simp only [Bool.and_eq_true, decide_eq_true_eq] at hw2
    omega
   refine ⟨UInt8.ofNat k.toNat, ?_⟩
   rw [show ((UInt8.ofNat k.toNat).toNat : Int) = k from by
    rw [UInt8.toNat_ofNat']; omega]
   exact c1
  subst h1
  refine ⟨l, some ad, cap, rfl, ?_⟩
  have := B1j (w := w) (a := ad) (n := l.length) (c := cap) (sz := 1) (es := (N9 l).map fun v => [v]) (by simp [A7m]) (by omega) hlc hcm fun i e he => by
   rw [List.getElem?_map] at he
   cases hv : (N9 l)[i]? with
   | none => rw [hv] at he; simp at he
   | some v => rw [hv] at he; simp at he; subst he; exact h2 i v hv
  have hf : ((N9 l).map fun v => [v]).flatten = N9 l := by
   generalize N9 l = L
   induction L with
   | nil => rfl
   | cons a L ih => simp [ih]
  rwa [hf] at this
end read2
end Gw
end Go.Proofs.YtfpgncjeejickaaGreat
namespace Go.Proofs.YtfpgncjeejickaaGreat
namespace Gw
inductive GT where
 | any | int | bool
 | fn (a b : GT)
 | pr (a b : GT)
inductive GE where
 | var (x : ByteArray)
 | num (n : Int)
 | tru (b : Bool)
 | lam (x : ByteArray) (A : GT) (e : GE)
 | app (f a : GE)
 | ar (s : Bool) (a b : GE)
 | ite (c a b : GE)
 | pair (a b : GE)
 | part (s : Bool) (e : GE)
 | cast (A B : GT) (l : Int) (e : GE)
def GT.gr : GT → GT
 | .any => .any
 | .int => .int
 | .bool => .bool
 | .fn _ _ => .fn .any .any
 | .pr _ _ => .pr .any .any
def GT.Gd (t : GT) : Prop := t ≠ .any ∧ t.gr = t
inductive Co : GT → GT → Prop
 | l {b} : Co .any b
 | r {a} : Co a .any
 | int : Co .int .int
 | bool : Co .bool .bool
 | fn {a b a' b'} : Co a a' → Co b b' → Co (.fn a b) (.fn a' b')
 | pr {a b a' b'} : Co a a' → Co b b' → Co (.pr a b) (.pr a' b')
inductive Le : GT → GT → Prop
 | any {a} : Le a .any
 | int : Le .int .int
 | bool : Le .bool .bool
 | fn {a b a' b'} : Le a a' → Le b b' → Le (.fn a b) (.fn a' b')
 | pr {a b a' b'} : Le a a' → Le b b' → Le (.pr a b) (.pr a' b')
theorem Co.symm {a b : GT} (h : Co a b) : Co b a := by
 induction h with
 | l => exact .r
 | r => exact .l
 | int => exact .int
 | bool => exact .bool
 | fn _ _ i j => exact .fn i j
 | pr _ _ i j => exact .pr i j
theorem Co.refl : ∀ {a : GT}, Co a a
 | .any => .l
 | .int => .int
 | .bool => .bool
 | .fn _ _ => .fn Co.refl Co.refl
 | .pr _ _ => .pr Co.refl Co.refl
theorem Le.refl : ∀ {a : GT}, Le a a
 | .any => .any
 | .int => .int
 | .bool => .bool
 | .fn _ _ => .fn Le.refl Le.refl
 | .pr _ _ => .pr Le.refl Le.refl
theorem Le.gr {a : GT} : Le a a.gr := by
 cases a with
 | fn _ _ => exact .fn .any .any
 | pr _ _ => exact .pr .any .any
 | _ => exact Le.refl
theorem Co.gr {a : GT} : Co a a.gr := by
 cases a with
 | fn _ _ => exact .fn .r .r
 | pr _ _ => exact .pr .r .r
 | _ => exact Co.refl
theorem Le.trans {a b : GT} (h : Le a b) : ∀ {c : GT}, Le b c → Le a c := by
 induction h with
 | any => intro c h; cases h; exact .any
 | int => exact fun h => h
 | bool => exact fun h => h
 | fn _ _ i j =>
  intro c h
  cases h with
  | any => exact .any
  | fn h1 h2 => exact .fn (i h1) (j h2)
 | pr _ _ i j =>
  intro c h
  cases h with
  | any => exact .any
  | pr h1 h2 => exact .pr (i h1) (j h2)
theorem Co.up {a b : GT} (h : Co a b) : ∀ {a' b' : GT}, Le a a' → Le b b' → Co a' b' := by
 induction h with
 | l => intro a' b' h1 _; cases h1; exact .l
 | r => intro a' b' _ h2; cases h2; exact .r
 | int => intro a' b' h1 h2; cases h1 <;> cases h2 <;> first | exact .l | exact .r | exact .int
 | bool => intro a' b' h1 h2; cases h1 <;> cases h2 <;> first | exact .l | exact .r | exact .bool
 | fn _ _ i j =>
  intro a' b' h1 h2
  cases h1 with
  | any => exact .l
  | fn p q => cases h2 with
   | any => exact .r
   | fn r s => exact .fn (i p r) (j q s)
 | pr _ _ i j =>
  intro a' b' h1 h2
  cases h1 with
  | any => exact .l
  | pr p q => cases h2 with
   | any => exact .r
   | pr r s => exact .pr (i p r) (j q s)
theorem Le.co {a b : GT} (h : Le a b) : Co a b := Co.refl.up Le.refl h
theorem Le.gd {a g : GT} (h : Le a g) (hg : g.Gd) : a.gr = g := by
 cases h with
 | any => exact absurd rfl hg.1
 | int => rfl
 | bool => rfl
 | fn _ _ => exact hg.2
 | pr _ _ => exact hg.2
theorem A7o {a : GT} (h : a ≠ .any) : a.gr.Gd := by
 cases a with
 | any => exact absurd rfl h
 | int => exact ⟨(by intro h; cases h), rfl⟩
 | bool => exact ⟨(by intro h; cases h), rfl⟩
 | fn _ _ => exact ⟨(by intro h; cases h), rfl⟩
 | pr _ _ => exact ⟨(by intro h; cases h), rfl⟩
def GE.sub : GE → ByteArray → GE → GE
 | .var y, x, v => if y = x then v else .var y
 | .num n, _, _ => .num n
 | .tru b, _, _ => .tru b
 | .lam y A e, x, v => if y = x then .lam y A e else .lam y A (e.sub x v)
 | .app f a, x, v => .app (f.sub x v) (a.sub x v)
 | .ar s a b, x, v => .ar s (a.sub x v) (b.sub x v)
 | .ite c a b, x, v => .ite (c.sub x v) (a.sub x v) (b.sub x v)
 | .pair a b, x, v => .pair (a.sub x v) (b.sub x v)
 | .part s e, x, v => .part s (e.sub x v)
 | .cast A B l e, x, v => .cast A B l (e.sub x v)
inductive GV : GE → Prop
 | num {n} : GV (.num n)
 | tru {b} : GV (.tru b)
 | lam {x A e} : GV (.lam x A e)
 | pair {a b} : GV a → GV b → GV (.pair a b)
 | pf {a b c d l e} : GV e → GV (.cast (.fn a b) (.fn c d) l e)
 | pp {a b c d l e} : GV e → GV (.cast (.pr a b) (.pr c d) l e)
 | inj {A l e} : GV e → A.Gd → GV (.cast A .any l e)
def A1C (s : Bool) (m n : Int) : GE := if s = true then .tru (decide (m < n)) else .num ((m + n) % 1000)
inductive GS : GE → GE → Prop
 | app1 {f f' a} : GS f f' → GS (.app f a) (.app f' a)
 | app2 {f a a'} : GV f → GS a a' → GS (.app f a) (.app f a')
 | ar1 {s a a' b} : GS a a' → GS (.ar s a b) (.ar s a' b)
 | ar2 {s a b b'} : GV a → GS b b' → GS (.ar s a b) (.ar s a b')
 | ite1 {c c' a b} : GS c c' → GS (.ite c a b) (.ite c' a b)
 | pair1 {a a' b} : GS a a' → GS (.pair a b) (.pair a' b)
 | pair2 {a b b'} : GV a → GS b b' → GS (.pair a b) (.pair a b')
 | part1 {s e e'} : GS e e' → GS (.part s e) (.part s e')
 | cast1 {A B l e e'} : GS e e' → GS (.cast A B l e) (.cast A B l e')
 | beta {x A b v} : GV v → GS (.app (.lam x A b) v) (b.sub x v)
 | appx {a b c d l f v} : GV f → GV v → GS (.app (.cast (.fn a b) (.fn c d) l f) v) (.cast b d l (.app f (.cast c a (-l) v)))
 | ar {s m n} : GS (.ar s (.num m) (.num n)) (A1C s m n)
 | ite {b x y} : GS (.ite (.tru b) x y) (if b = true then x else y)
 | part {s a b} : GV a → GV b → GS (.part s (.pair a b)) (if s = true then b else a)
 | partx {s a b c d l e} : GV e → GS (.part s (.cast (.pr a b) (.pr c d) l e)) (.cast (if s = true then b else a) (if s = true then d else c) l (.part s e))
 | cid {A l v} : GV v → (A = .any ∨ A = .int ∨ A = .bool) → GS (.cast A A l v) v
 | up {A l v} : GV v → A ≠ .any → A.gr ≠ A → GS (.cast A .any l v) (.cast A.gr .any l (.cast A A.gr l v))
 | down {B l v} : GV v → B ≠ .any → B.gr ≠ B → GS (.cast .any B l v) (.cast B.gr B l (.cast .any B.gr l v))
 | hit {G l m w} : GV w → G.Gd → GS (.cast .any G l (.cast G .any m w)) w
theorem GV.noS {e : GE} (h : GV e) : ∀ r, ¬ GS e r := by
 induction h with
 | num => intro r s; cases s
 | tru => intro r s; cases s
 | lam => intro r s; cases s
 | pair _ _ i j =>
  intro r s
  cases s with
  | pair1 s => exact i _ s
  | pair2 _ s => exact j _ s
 | pf _ i =>
  intro r s
  cases s with
  | cast1 s => exact i _ s
  | cid _ h => rcases h with h | h | h <;> cases h
 | pp _ i =>
  intro r s
  cases s with
  | cast1 s => exact i _ s
  | cid _ h => rcases h with h | h | h <;> cases h
 | inj _ hg i =>
  intro r s
  cases s with
  | cast1 s => exact i _ s
  | cid _ h => exact hg.1 rfl
  | up _ _ h => exact h hg.2
  | down _ h => exact h rfl
  | hit _ h => exact h.1 rfl
theorem GV.ofCast {A B : GT} {l : Int} {e : GE} (h : GV (.cast A B l e)) : GV e := by cases h <;> assumption
inductive Ss : GE → GE → Prop
 | refl {e} : Ss e e
 | step {a b c} : GS a b → Ss b c → Ss a c
theorem Ss.trans {a b c : GE} (h : Ss a b) (h2 : Ss b c) : Ss a c := by
 induction h with
 | refl => exact h2
 | step s _ i => exact .step s (i h2)
theorem Ss.one {a b : GE} (h : GS a b) : Ss a b := .step h .refl
theorem Ss.ctx {a b : GE} (C : GE → GE) (hC : ∀ x y, GS x y → GS (C x) (C y)) (h : Ss a b) : Ss (C a) (C b) := by
 induction h with
 | refl => exact .refl
 | step s _ i => exact .step (hC _ _ s) i
abbrev GC := ByteArray → Option (GT × GT)
def N0 : GC := fun _ => none
def gup (Γ : GC) (x : ByteArray) (A A' : GT) : GC := fun y => if x = y then some (A, A') else Γ y
inductive GP : GC → GE → GE → GT → GT → Prop
 | var {Γ x A A'} : Γ x = some (A, A') → Le A A' → GP Γ (.var x) (.var x) A A'
 | num {Γ n} : GP Γ (.num n) (.num n) .int .int
 | tru {Γ b} : GP Γ (.tru b) (.tru b) .bool .bool
 | lam {Γ x A A' B B' e e'} : Le A A' → GP (gup Γ x A A') e e' B B' → GP Γ (.lam x A e) (.lam x A' e') (.fn A B) (.fn A' B')
 | app {Γ f f' a a' A A' B B'} : GP Γ f f' (.fn A B) (.fn A' B') → GP Γ a a' A A' → GP Γ (.app f a) (.app f' a') B B'
 | ar {Γ s a a' b b'} : GP Γ a a' .int .int → GP Γ b b' .int .int → GP Γ (.ar s a b) (.ar s a' b') (if s = true then .bool else .int) (if s = true then .bool else .int)
 | ite {Γ c c' a a' b b' A A'} : GP Γ c c' .bool .bool → GP Γ a a' A A' → GP Γ b b' A A' → GP Γ (.ite c a b) (.ite c' a' b') A A'
 | pair {Γ a a' b b' A A' B B'} : GP Γ a a' A A' → GP Γ b b' B B' → GP Γ (.pair a b) (.pair a' b') (.pr A B) (.pr A' B')
 | part {Γ s e e' A A' B B'} : GP Γ e e' (.pr A B) (.pr A' B') → GP Γ (.part s e) (.part s e') (if s = true then B else A) (if s = true then B' else A')
 | castL {Γ e e' A B A' l} : GP Γ e e' A A' → Co A B → Le B A' → GP Γ (.cast A B l e) e' B A'
 | castR {Γ e e' A A' B' l} : GP Γ e e' A A' → Co A' B' → Le A B' → GP Γ e (.cast A' B' l e') A B'
 | castB {Γ e e' A B A' B' l l'} : GP Γ e e' A A' → Co A B → Co A' B' → Le B B' → GP Γ (.cast A B l e) (.cast A' B' l' e') B B'
theorem GP.le {Γ : GC} {e e' : GE} {A A' : GT} (h : GP Γ e e' A A') : Le A A' := by
 induction h with
 | var _ h => exact h
 | num => exact .int
 | tru => exact .bool
 | lam h _ i => exact .fn h i
 | app _ _ i _ => cases i with | fn _ h => exact h
 | ar => exact Le.refl
 | ite _ _ _ _ i _ => exact i
 | pair _ _ i j => exact .pr i j
 | @part Γ s _ _ _ _ _ _ _ i => cases i with | pr h1 h2 => cases s <;> assumption
 | castL _ _ h _ => exact h
 | castR _ _ h _ => exact h
 | castB _ _ _ h _ => exact h
theorem GP.weak {Γ : GC} {e e' : GE} {A A' : GT} (h : GP Γ e e' A A') : ∀ {Δ : GC}, (∀ y p, Γ y = some p → Δ y = some p) → GP Δ e e' A A' := by
 induction h with
 | var hx hl => intro Δ hD; exact .var (hD _ _ hx) hl
 | num => intro _ _; exact .num
 | tru => intro _ _; exact .tru
 | lam hl _ i =>
  intro Δ hD
  refine .lam hl (i fun y p hy => ?_)
  unfold gup at hy ⊢
  split
  ·rename_i h; rw [if_pos h] at hy; exact hy
  ·rename_i h; rw [if_neg h] at hy; exact hD _ _ hy
 | app _ _ i j => intro Δ hD; exact .app (i hD) (j hD)
 | ar _ _ i j => intro Δ hD; exact .ar (i hD) (j hD)
 | ite _ _ _ i j k => intro Δ hD; exact .ite (i hD) (j hD) (k hD)
 | pair _ _ i j => intro Δ hD; exact .pair (i hD) (j hD)
 | part _ i => intro Δ hD; exact .part (i hD)
 | castL _ h1 h2 i => intro Δ hD; exact .castL (i hD) h1 h2
 | castR _ h1 h2 i => intro Δ hD; exact .castR (i hD) h1 h2
 | castB _ h1 h2 h3 i => intro Δ hD; exact .castB (i hD) h1 h2 h3
theorem GP.sub {x : ByteArray} {v v' : GE} {A A' : GT} (hv : GP N0 v v' A A') {Γ : GC} {e e' : GE} {B B' : GT} (h : GP Γ e e' B B') :
  ∀ {Δ : GC}, (∀ y, x ≠ y → Γ y = Δ y) → Γ x = some (A, A') → GP Δ (e.sub x v) (e'.sub x v') B B' := by
 induction h with
 | @var Γ y C C' hy hl =>
  intro Δ hD hx
  simp only [GE.sub]
  split
  ·rename_i he
   subst he
   rw [hx] at hy
   cases hy
   exact hv.weak fun z p hz => by cases hz
  ·rename_i he
   exact .var (by rw [← hD y (fun e => he e.symm)]; exact hy) hl
 | num => intro _ _ _; exact .num
 | tru => intro _ _ _; exact .tru
 | @lam Γ y C C' D D' e e' hl h i =>
  intro Δ hD hx
  simp only [GE.sub]
  by_cases he : y = x
  ·rw [if_pos he, if_pos he]
   refine .lam hl (h.weak fun z p hz => ?_)
   unfold gup at hz ⊢
   split
   ·rename_i h2; rw [if_pos h2] at hz; exact hz
   ·rename_i h2; rw [if_neg h2] at hz; rw [← hD z (fun e => h2 (he.trans e))]; exact hz
  ·rw [if_neg he, if_neg he]
   refine .lam hl (i (fun z hz => ?_) ?_)
   ·unfold gup
    split
    ·rfl
    ·exact hD z hz
   ·unfold gup; rw [if_neg he]; exact hx
 | app _ _ i j => intro Δ hD hx; exact .app (i hD hx) (j hD hx)
 | ar _ _ i j => intro Δ hD hx; exact .ar (i hD hx) (j hD hx)
 | ite _ _ _ i j k => intro Δ hD hx; exact .ite (i hD hx) (j hD hx) (k hD hx)
 | pair _ _ i j => intro Δ hD hx; exact .pair (i hD hx) (j hD hx)
 | part _ i => intro Δ hD hx; exact .part (i hD hx)
 | castL _ h1 h2 i => intro Δ hD hx; exact .castL (i hD hx) h1 h2
 | castR _ h1 h2 i => intro Δ hD hx; exact .castR (i hD hx) h1 h2
 | castB _ h1 h2 h3 i => intro Δ hD hx; exact .castB (i hD hx) h1 h2 h3
theorem B1p {Γ : GC} {v u : GE} {A U : GT} (h : GP Γ v u A U) : ∀ {H : GT} {l : Int} {w : GE}, u = .cast H .any l w → Γ = N0 → GV v → A ≠ .any → H.Gd → Le A H ∧ GP N0 v w A H := by
 induction h with
 | @castL Γ e e' A B A' m h hc hl i =>
  intro H l w hu hE hv hA hH
  subst hE
  have hU := hl
  subst hu
  obtain ⟨hle, hp⟩ : Le A H ∧ GP N0 e w A H := i rfl rfl hv.ofCast (by cases hv with | inj _ _ => exact absurd rfl hA | _ => intro h; cases h) hH
  have : Le B H := by
   cases hv with
   | inj _ _ => exact absurd rfl hA
   | pf _ =>
    cases hle with
    | any => exact absurd rfl hH.1
    | fn _ _ => have := hH.2; cases this; exact .fn .any .any
   | pp _ =>
    cases hle with
    | any => exact absurd rfl hH.1
    | pr _ _ => have := hH.2; cases this; exact .pr .any .any
  exact ⟨this, .castL hp hc this⟩
 | castR h hc hl _ =>
  intro H l w hu hE hv hA hH
  subst hE
  cases hu
  exact ⟨h.le, h⟩
 | @castB Γ e e' A B A' B' m m' h hc hc' hl _ =>
  intro H l w hu hE hv hA hH
  subst hE
  obtain ⟨rfl, rfl, _, rfl⟩ : A' = H ∧ B' = .any ∧ m' = l ∧ e' = w := by cases hu; exact ⟨rfl, rfl, rfl, rfl⟩
  have hle := h.le
  have : Le B A' := by
   cases hv with
   | inj _ _ => exact absurd rfl hA
   | pf _ =>
    cases hle with
    | any => exact absurd rfl hH.1
    | fn _ _ => have := hH.2; cases this; exact .fn .any .any
   | pp _ =>
    cases hle with
    | any => exact absurd rfl hH.1
    | pr _ _ => have := hH.2; cases this; exact .pr .any .any
  exact ⟨this, .castL h hc this⟩
 | _ => intro H l w hu; cases hu
theorem B1q {v' : GE} {v : GE} {A : GT} (h : GP N0 v v' A .any) (hv : GV v') : ∃ H l w, v' = .cast H .any l w ∧ GV w ∧ H.Gd := by
 suffices ∀ {Γ v v' A U}, GP Γ v v' A U → U = .any → Γ = N0 → GV v' → ∃ H l w, v' = .cast H .any l w ∧ GV w ∧ H.Gd from this h rfl rfl hv
 intro Γ v v' A U h
 induction h with
 | castL _ _ _ i => exact i
 | castR _ _ _ _ => intro hU _ hv; subst hU; cases hv with | inj h1 h2 => exact ⟨_, _, _, rfl, h1, h2⟩
 | castB _ _ _ _ _ => intro hU _ hv; subst hU; cases hv with | inj h1 h2 => exact ⟨_, _, _, rfl, h1, h2⟩
 | var hx _ => intro _ hE; subst hE; cases hx
 | app _ _ _ _ => intro _ _ hv; cases hv
 | ite _ _ _ _ _ _ => intro _ _ hv; cases hv
 | part _ _ => intro _ _ hv; cases hv
 | ar _ _ _ _ => intro _ _ hv; cases hv
 | _ => intro hU; cases hU
theorem A09 {A B : GT} {l : Int} {a b : GE} (h : Ss a b) : Ss (.cast A B l a) (.cast A B l b) := h.ctx _ fun _ _ => .cast1
theorem A7p {v v' : GE} {A G : GT} {l : Int} (hv : GV v) (hv' : GV v') (h : GP N0 v v' A .any) (hG : G.Gd) (hl : Le A G) (hA : A ≠ .any) :
  ∃ v'', Ss (.cast .any G l v') v'' ∧ GV v'' ∧ GP N0 v v'' A G := by
 obtain ⟨H, m, w, rfl, hw, hH⟩ := B1q h hv'
 obtain ⟨h1, h2⟩ := B1p h rfl rfl hv hA hH
 have : H = G := (h1.gd hH).symm.trans (hl.gd hG)
 subst this
 exact ⟨w, .one (.hit hw hG), hw, h2⟩
theorem B1r {A B : GT} (h : Le A B) (hB : B ≠ .any) : A ≠ .any := by rintro rfl; cases h; exact hB rfl
theorem A4i {v v' : GE} {A A' B' : GT} (l : Int) (hv : GV v) (hv' : GV v') (h : GP N0 v v' A A') (hl : Le A B') (hc : Co A' B') :
  ∃ v'', Ss (.cast A' B' l v') v'' ∧ GV v'' ∧ GP N0 v v'' A B' := by
 have hle := h.le
 by_cases hA : A' = .any
 ·subst hA
  by_cases hB : B' = .any
  ·subst hB; exact ⟨v', .one (.cid hv' (.inl rfl)), hv', h⟩
  ·have hA := B1r hl hB
   by_cases hg : B'.gr = B'
   ·exact A7p hv hv' h ⟨hB, hg⟩ hl hA
   ·have hgB := A7o hB
    obtain ⟨u, s, hu, hp⟩ := A7p (l := l) hv hv' h hgB (hl.trans Le.gr) hA
    refine ⟨.cast B'.gr B' l u, .step (.down hv' hB hg) (A09 s), ?_, .castR hp Co.gr.symm hl⟩
    cases B' with
    | fn _ _ => exact .pf hu
    | pr _ _ => exact .pp hu
    | any => exact absurd rfl hB
    | int => exact absurd rfl hg
    | bool => exact absurd rfl hg
 ·by_cases hB : B' = .any
  ·subst hB
   by_cases hg : A'.gr = A'
   ·exact ⟨_, .refl, .inj hv' ⟨hA, hg⟩, .castR h .r .any⟩
   ·refine ⟨_, .one (.up hv' hA hg), .inj ?_ (A7o hA), .castR (.castR h Co.gr (hle.trans Le.gr)) .r .any⟩
    cases A' with
    | fn _ _ => exact .pf hv'
    | pr _ _ => exact .pp hv'
    | any => exact absurd rfl hA
    | int => exact absurd rfl hg
    | bool => exact absurd rfl hg
  ·cases hc with
   | l => exact absurd rfl hA
   | r => exact absurd rfl hB
   | int => exact ⟨v', .one (.cid hv' (.inr (.inl rfl))), hv', h⟩
   | bool => exact ⟨v', .one (.cid hv' (.inr (.inr rfl))), hv', h⟩
   | fn h1 h2 => exact ⟨_, .refl, .pf hv', .castR h (.fn h1 h2) hl⟩
   | pr h1 h2 => exact ⟨_, .refl, .pp hv', .castR h (.pr h1 h2) hl⟩
theorem A0Y {Γ : GC} {e e' : GE} {A A' : GT} (h : GP Γ e e' A A') : Γ = N0 → GV e → ∃ v', Ss e' v' ∧ GV v' ∧ GP N0 e v' A A' := by
 induction h with
 | var _ _ => intro _ hv; cases hv
 | num => intro _ _; exact ⟨_, .refl, .num, .num⟩
 | tru => intro _ _; exact ⟨_, .refl, .tru, .tru⟩
 | lam hl h _ => intro hE _; subst hE; exact ⟨_, .refl, .lam, .lam hl h⟩
 | app _ _ _ _ => intro _ hv; cases hv
 | ar _ _ _ _ => intro _ hv; cases hv
 | ite _ _ _ _ _ _ => intro _ hv; cases hv
 | part _ _ => intro _ hv; cases hv
 | pair _ _ i j =>
  intro hE hv
  cases hv with
  | pair va vb =>
   obtain ⟨a', s1, v1, p1⟩ := i hE va
   obtain ⟨b', s2, v2, p2⟩ := j hE vb
   exact ⟨.pair a' b', (s1.ctx (fun x => .pair x _) fun _ _ => .pair1).trans (s2.ctx (fun x => .pair a' x) fun _ _ s => .pair2 v1 s), .pair v1 v2, .pair p1 p2⟩
 | castL _ h1 h2 i =>
  intro hE hv
  obtain ⟨v', s, hv', p⟩ := i hE hv.ofCast
  exact ⟨v', s, hv', .castL p h1 h2⟩
 | castR _ h1 h2 i =>
  intro hE hv
  obtain ⟨v', s, hv', p⟩ := i hE hv
  obtain ⟨u, s2, hu, p2⟩ := A4i _ hv hv' p h2 h1
  exact ⟨u, (A09 s).trans s2, hu, p2⟩
 | @castB Γ e e' A B A' B' l l' _ h1 h2 h3 i =>
  intro hE hv
  obtain ⟨w', s, hw', p⟩ := i hE hv.ofCast
  by_cases hB : B' = .any
  ·subst hB
   obtain ⟨u, s2, hu, p2⟩ := A4i l' hv.ofCast hw' p .any h2
   exact ⟨u, (A09 s).trans s2, hu, .castL p2 h1 .any⟩
  ·by_cases hA : A' = .any
   ·subst hA
    obtain ⟨u, s2, hu, p2⟩ := A4i l' hv hw' (.castL p h1 .any) h3 h2
    exact ⟨u, (A09 s).trans s2, hu, p2⟩
   ·have hle := p.le
    refine ⟨.cast A' B' l' w', A09 s, ?_, .castB p h1 h2 h3⟩
    cases hv with
    | inj _ _ => cases h3; exact absurd rfl hB
    | pf _ =>
     cases h3 with
     | any => exact absurd rfl hB
     | fn _ _ => cases hle with
      | any => exact absurd rfl hA
      | fn _ _ => exact .pf hw'
    | pp _ =>
     cases h3 with
     | any => exact absurd rfl hB
     | pr _ _ => cases hle with
      | any => exact absurd rfl hA
      | pr _ _ => exact .pp hw'
theorem B1s {Γ : GC} {f f' : GE} {U U' : GT} (h : GP Γ f f' U U') : ∀ {A B A' B' : GT}, Γ = N0 → U = .fn A B → U' = .fn A' B' → GV f → GV f' →
  ∀ {v v' r : GE}, GV v → GV v' → GP N0 v v' A A' → GS (.app f v) r → ∃ r', Ss (.app f' v') r' ∧ GP N0 r r' B B' := by
 induction h with
 | lam hl h _ =>
  intro A B A' B' hE hU hU' _ _ v v' r hv hv' hp s
  subst hE
  cases hU; cases hU'
  cases s with
  | app1 s => exact absurd s (GV.lam.noS _)
  | app2 _ s => exact absurd s (hv.noS _)
  | beta _ => exact ⟨_, .one (.beta hv'), GP.sub hp h (fun y hy => by unfold gup; rw [if_neg hy]) (by unfold gup; rw [if_pos rfl])⟩
 | castL h h1 h2 _ =>
  intro A B A' B' hE hU hU' hf hf' v v' r hv hv' hp s
  subst hE hU hU'
  cases hf with
  | pf hw =>
   cases s with
   | app1 s => exact absurd s ((GV.pf hw).noS _)
   | app2 _ s => exact absurd s (hv.noS _)
   | appx _ _ =>
    cases h1 with
    | fn c1 c2 =>
     have hle := h.le
     cases hle with
     | fn l1 l2 =>
      cases h2 with
      | fn l3 l4 => exact ⟨_, .refl, .castL (.app h (.castL hp c1.symm l1)) c2 l4⟩
 | @castR Γ0 f0 w' U0 C' D' l h h1 h2 i =>
  intro A B A' B' hE hU hU' hf hf' v v' r hv hv' hp s
  subst hE hU hU'
  cases hf' with
  | pf hw =>
   cases h1 with
   | fn c1 c2 =>
    have hle := h.le
    cases hle with
    | fn l1 l2 =>
     cases h2 with
     | fn l3 l4 =>
      obtain ⟨v'', s2, hv'', p2⟩ := A4i (-l) hv hv' hp l1 c1.symm
      obtain ⟨r', s3, p3⟩ := i rfl rfl rfl hf hw hv hv'' p2 s
      exact ⟨_, .step (.appx hw hv') (A09 ((s2.ctx (fun x => .app w' x) fun _ _ s => .app2 hw s).trans s3)), .castR p3 c2 l4⟩
 | castB h h1 h1' h2 _ =>
  intro A B A' B' hE hU hU' hf hf' v v' r hv hv' hp s
  subst hE hU hU'
  cases hf with
  | pf hw =>
   cases hf' with
   | pf hw' =>
    cases s with
    | app1 s => exact absurd s ((GV.pf hw).noS _)
    | app2 _ s => exact absurd s (hv.noS _)
    | appx _ _ =>
     cases h1 with
     | fn c1 c2 => cases h1' with
      | fn d1 d2 =>
       have hle := h.le
       cases hle with
       | fn l1 l2 =>
        cases h2 with
        | fn l3 l4 => exact ⟨_, .one (.appx hw' hv'), .castB (.app h (.castB hp c1.symm d1.symm l1)) c2 d2 l4⟩
 | app _ _ _ _ => intro _ _ _ _ _ _ _ hf; cases hf
 | ite _ _ _ _ _ _ => intro _ _ _ _ _ _ _ hf; cases hf
 | part _ _ => intro _ _ _ _ _ _ _ hf; cases hf
 | ar _ _ _ _ => intro _ _ _ _ _ _ _ hf; cases hf
 | var hx _ => intro _ _ _ _ hE; subst hE; cases hx
 | _ => intro _ _ _ _ _ hU; cases hU
theorem B1t {Γ : GC} {f f' : GE} {U U' : GT} (h : GP Γ f f' U U') : ∀ {A B A' B' : GT} {t : Bool}, Γ = N0 → U = .pr A B → U' = .pr A' B' → GV f → GV f' →
  ∀ {r : GE}, GS (.part t f) r → ∃ r', Ss (.part t f') r' ∧ GP N0 r r' (if t = true then B else A) (if t = true then B' else A') := by
 induction h with
 | pair ha hb _ _ =>
  intro A B A' B' t hE hU hU' hf hf' r s
  subst hE
  cases hU; cases hU'
  cases hf' with
  | pair va vb =>
   cases s with
   | part1 s => exact absurd s (hf.noS _)
   | part _ _ => exact ⟨_, .one (.part va vb), by cases t <;> assumption⟩
 | castL h h1 h2 _ =>
  intro A B A' B' t hE hU hU' hf hf' r s
  subst hE hU hU'
  cases hf with
  | pp hw =>
   cases s with
   | part1 s => exact absurd s ((GV.pp hw).noS _)
   | partx _ =>
    cases h1 with
    | pr c1 c2 =>
     have hle := h.le
     cases hle with
     | pr l1 l2 =>
      cases h2 with
      | pr l3 l4 => exact ⟨_, .refl, .castL (.part h) (by cases t <;> assumption) (by cases t <;> assumption)⟩
 | castR h h1 h2 i =>
  intro A B A' B' t hE hU hU' hf hf' r s
  subst hE hU hU'
  cases hf' with
  | pp hw =>
   cases h1 with
   | pr c1 c2 =>
    have hle := h.le
    cases hle with
    | pr l1 l2 =>
     cases h2 with
     | pr l3 l4 =>
      obtain ⟨r', s3, p3⟩ := i rfl rfl rfl hf hw s
      exact ⟨_, .step (.partx hw) (A09 s3), .castR p3 (by cases t <;> assumption) (by cases t <;> assumption)⟩
 | castB h h1 h1' h2 _ =>
  intro A B A' B' t hE hU hU' hf hf' r s
  subst hE hU hU'
  cases hf with
  | pp hw =>
   cases hf' with
   | pp hw' =>
    cases s with
    | part1 s => exact absurd s ((GV.pp hw).noS _)
    | partx _ =>
     cases h1 with
     | pr c1 c2 => cases h1' with
      | pr d1 d2 =>
       cases h2 with
       | pr l3 l4 => exact ⟨_, .one (.partx hw'), .castB (.part h) (by cases t <;> assumption) (by cases t <;> assumption) (by cases t <;> assumption)⟩
 | app _ _ _ _ => intro _ _ _ _ _ _ _ _ hf; cases hf
 | ite _ _ _ _ _ _ => intro _ _ _ _ _ _ _ _ hf; cases hf
 | part _ _ => intro _ _ _ _ _ _ _ _ hf; cases hf
 | ar _ _ _ _ => intro _ _ _ _ _ _ _ _ hf; cases hf
 | var hx _ => intro _ _ _ _ _ hE; subst hE; cases hx
 | _ => intro _ _ _ _ _ _ hU; cases hU
theorem A7q {e' : GE} {n : Int} {A A' : GT} (h : GP N0 (.num n) e' A A') (hv : GV e') : A' = .int → e' = .num n := by
 intro hA
 cases h with
 | num => rfl
 | castR _ _ _ => subst hA; cases hv
theorem B1u {e' : GE} {b : Bool} {A A' : GT} (h : GP N0 (.tru b) e' A A') (hv : GV e') : A' = .bool → e' = .tru b := by
 intro hA
 cases h with
 | tru => rfl
 | castR _ _ _ => subst hA; cases hv
theorem A7r {G : GT} {m : Int} {w v' : GE} (h : GP N0 (.cast G .any m w) v' .any .any) (hv' : GV v') : GP N0 w v' G .any := by
 cases h with
 | castL h _ _ => exact h
 | castR h _ _ =>
  have := h.le
  cases this
  cases hv' with
  | inj _ hg => exact absurd rfl hg.1
 | castB h _ hc _ => exact .castR h hc .any
theorem sim {Γ : GC} {e e' : GE} {A A' : GT} (h : GP Γ e e' A A') : Γ = N0 → ∀ {r : GE}, GS e r → ∃ r', Ss e' r' ∧ GP N0 r r' A A' := by
 induction h with
 | var _ _ => intro _ r s; cases s
 | num => intro _ r s; cases s
 | tru => intro _ r s; cases s
 | lam _ _ _ => intro _ r s; cases s
 | @app Γ f f' a a' A A' B B' hf ha i j =>
  intro hE r s
  have go : GV f → GV a → ∃ r', Ss (.app f' a') r' ∧ GP N0 r r' B B' := by
   intro vf va
   obtain ⟨F', s1, v1, p1⟩ := A0Y hf hE vf
   obtain ⟨V', s2, v2, p2⟩ := A0Y ha hE va
   obtain ⟨r', s3, p3⟩ := B1s p1 rfl rfl rfl vf v1 va v2 p2 s
   exact ⟨r', ((s1.ctx (fun x => .app x a') fun _ _ => .app1).trans (s2.ctx (fun x => .app F' x) fun _ _ s => .app2 v1 s)).trans s3, p3⟩
  cases s with
  | app1 s =>
   obtain ⟨r', s1, p⟩ := i hE s
   subst hE
   exact ⟨.app r' a', s1.ctx (fun x => .app x a') fun _ _ => .app1, .app p ha⟩
  | app2 vf s =>
   obtain ⟨F', s1, v1, p1⟩ := A0Y hf hE vf
   obtain ⟨r', s2, p⟩ := j hE s
   exact ⟨.app F' r', (s1.ctx (fun x => .app x a') fun _ _ => .app1).trans (s2.ctx (fun x => .app F' x) fun _ _ s => .app2 v1 s), .app p1 p⟩
  | beta va => exact go .lam va
  | appx vf va => exact go (.pf vf) va
 | @ar Γ t a a' b b' ha hb i j =>
  intro hE r s
  cases s with
  | ar1 s =>
   obtain ⟨r', s1, p⟩ := i hE s
   subst hE
   exact ⟨.ar t r' b', s1.ctx (fun x => .ar t x b') fun _ _ => .ar1, .ar p hb⟩
  | ar2 va s =>
   obtain ⟨A', s1, v1, p1⟩ := A0Y ha hE va
   obtain ⟨r', s2, p⟩ := j hE s
   exact ⟨.ar t A' r', (s1.ctx (fun x => .ar t x b') fun _ _ => .ar1).trans (s2.ctx (fun x => .ar t A' x) fun _ _ s => .ar2 v1 s), .ar p1 p⟩
  | ar =>
   obtain ⟨A', s1, v1, p1⟩ := A0Y ha hE .num
   obtain ⟨B', s2, v2, p2⟩ := A0Y hb hE .num
   obtain rfl := A7q p1 v1 rfl
   obtain rfl := A7q p2 v2 rfl
   refine ⟨_, ((s1.ctx (fun x => .ar t x b') fun _ _ => .ar1).trans (s2.ctx (fun x => .ar t _ x) fun _ _ s => .ar2 v1 s)).trans (.one .ar), ?_⟩
   unfold A1C
   cases t
   ·exact .num
   ·exact .tru
 | @ite Γ c c' a a' b b' A A' hc ha hb i _ _ =>
  intro hE r s
  cases s with
  | ite1 s =>
   obtain ⟨r', s1, p⟩ := i hE s
   subst hE
   exact ⟨.ite r' a' b', s1.ctx (fun x => .ite x a' b') fun _ _ => .ite1, .ite p ha hb⟩
  | ite =>
   obtain ⟨A', s1, v1, p1⟩ := A0Y hc hE .tru
   obtain rfl := B1u p1 v1 rfl
   subst hE
   refine ⟨_, (s1.ctx (fun x => .ite x a' b') fun _ _ => .ite1).trans (.one .ite), ?_⟩
   split
   ·exact ha
   ·exact hb
 | @pair Γ a a' b b' A A' B B' ha hb i j =>
  intro hE r s
  cases s with
  | pair1 s =>
   obtain ⟨r', s1, p⟩ := i hE s
   subst hE
   exact ⟨.pair r' b', s1.ctx (fun x => .pair x b') fun _ _ => .pair1, .pair p hb⟩
  | pair2 va s =>
   obtain ⟨A', s1, v1, p1⟩ := A0Y ha hE va
   obtain ⟨r', s2, p⟩ := j hE s
   exact ⟨.pair A' r', (s1.ctx (fun x => .pair x b') fun _ _ => .pair1).trans (s2.ctx (fun x => .pair A' x) fun _ _ s => .pair2 v1 s), .pair p1 p⟩
 | @part Γ t e e' A A' B B' h i =>
  intro hE r s
  have go : GV e → ∃ r', Ss (.part t e') r' ∧ GP N0 r r' (if t = true then B else A) (if t = true then B' else A') := by
   intro ve
   obtain ⟨E', s1, v1, p1⟩ := A0Y h hE ve
   obtain ⟨r', s3, p3⟩ := B1t p1 rfl rfl rfl ve v1 s
   exact ⟨r', (s1.ctx (fun x => .part t x) fun _ _ => .part1).trans s3, p3⟩
  cases s with
  | part1 s =>
   obtain ⟨r', s1, p⟩ := i hE s
   exact ⟨.part t r', s1.ctx (fun x => .part t x) fun _ _ => .part1, .part p⟩
  | part va vb => exact go (.pair va vb)
  | partx v => exact go (.pp v)
 | @castL Γ e e' A B A' l h h1 h2 i =>
  intro hE r s
  have hle := h.le
  cases s with
  | cast1 s =>
   obtain ⟨r', s1, p⟩ := i hE s
   exact ⟨r', s1, .castL p h1 h2⟩
  | cid v _ => subst hE; exact ⟨e', .refl, h⟩
  | up v hA hg =>
   subst hE
   cases h2
   exact ⟨e', .refl, .castL (.castL h Co.gr .any) .r .any⟩
  | down v hB hg =>
   subst hE
   cases hle
   exact ⟨e', .refl, .castL (.castL h .l .any) Co.gr.symm .any⟩
  | hit v hg =>
   obtain ⟨v', s1, v1, p1⟩ := A0Y h hE (.inj v hg)
   cases hle
   exact ⟨v', s1, A7r p1 v1⟩
 | @castR Γ e e' A A' B' l h h1 h2 i =>
  intro hE r s
  obtain ⟨r', s1, p⟩ := i hE s
  exact ⟨_, A09 s1, .castR p h1 h2⟩
 | @castB Γ e e' A B A' B' l l' h h1 h1' h2 i =>
  intro hE r s
  have hle := h.le
  cases s with
  | cast1 s =>
   obtain ⟨r', s1, p⟩ := i hE s
   exact ⟨_, A09 s1, .castB p h1 h1' h2⟩
  | cid v _ => subst hE; exact ⟨_, .refl, .castR h h1' h2⟩
  | up v hA hg =>
   subst hE
   cases h2
   exact ⟨_, .refl, .castL (.castL (.castR h h1' .any) Co.gr .any) .r .any⟩
  | down v hB hg =>
   subst hE
   cases hle
   exact ⟨_, .refl, .castR (.castL (.castL h .l .any) Co.gr.symm .any) .l h2⟩
  | hit v hg =>
   obtain ⟨v', s1, v1, p1⟩ := A0Y h hE (.inj v hg)
   cases hle
   exact ⟨_, A09 s1, .castR (A7r p1 v1) .l h2⟩
inductive GX where
 | n (n : Int) | b (b : Bool) | p | f
def GE.tx : GE → GX
 | .num n => .n n
 | .tru b => .b b
 | .pair _ _ => .p
 | .cast _ (.fn _ _) _ _ => .f
 | .cast _ (.pr _ _) _ _ => .p
 | .cast _ _ _ e => e.tx
 | _ => .f
theorem B1v (G : IM) (p : Option Addr) (n c : Nat) (es : List (List Value)) (hsl : C9 G p n c 2 es) (fid : FuncId) [B1 Tryz.prog fid] (us cs : List Value) (ins : List A4) (q : Nat → Bool)
  (hq : ∀ i e, es[i]? = some e → Fn Tryz.prog fid (us ++ [.agg ⟨e⟩] ++ cs) ins G (T9 (.bool (q i)) ins G)) :
  Fn Tryz.prog 116 [.slice p n c, .func (.func fid) ⟨us⟩ ⟨cs⟩] ins G (T9 (.int .i64 (A0y q n)) ins G) := by
 have hn := hsl.le
 refine B3 Tryz.func116 rfl Tryz.ntmps116 Tryz.results116 rfl ?_
 intro w0
 refine J3 ?_
 refine B7 ?_
 refine L3 (fun i : Nat => ⟨[(8, .int .i64 i), (7, .int .i64 n), (1, .func (.func fid) ⟨us⟩ ⟨cs⟩), (0, .slice p n c)], ins, G⟩) (fun i => i ≤ n ∧ ∀ j, j < i → q j = false) (fun i => n - i) 0 ?_ ?_ ?_
 exact D3
 exact ⟨by omega, by omega⟩
 rintro i ⟨hi, hf⟩
 refine tS (tR ?_)
 refine sB (J9 rfl rfl) rfl rfl (fun h21 => ?_) (fun h21 => ?_)
 refine sD (nS (tS (qT rfl (tK (nS (tS ?_))))))
 refine B7 ?_
 refine J2 ?_
 (obtain ⟨e, b, o, he, rfl, hl, _, hat, _⟩ := hsl.get (i := i) (by omega); refine sP (B2 rfl rfl rfl (by omega)) rfl rfl ?_)
 refine sL (A3 rfl rfl (hat _) hl) rfl rfl ?_
 refine A5m rfl rfl (hq i e he) Z4 rfl rfl (fun h43 => ?_) (fun h43 => ?_)
 refine I0 ?_
 refine F8 (rT rfl) A0.refl ?_
 exact ⟨rfl, by rw [A6X (by omega) hf (by assumption)], rfl⟩
 refine sD (nS (cF rfl (tK (N3 (nS (tR ?_))))))
 refine sP (K4 rfl rfl (by omega) (by omega)) rfl rfl ?_
 refine sQ (qM rfl) rfl (sD ?_)
 refine K7 (i + 1) ?_ ?_ ?_
 exact D3
 exact ⟨by omega, fun j hj => by by_cases hji : j = i; (subst hji; assumption); exact hf j (by omega)⟩
 omega
 refine I0 ?_
 refine F8 (rT rfl) A0.refl ?_
 exact ⟨rfl, by rw [A5q (fun j hj => hf j (by omega))], rfl⟩
theorem B1w (G : IM) (p : Option Addr) (n c : Nat) (es : List (List Value)) (hsl : C9 G p n c 2 es) (fid : FuncId) [B1 Tryz.prog fid] (us cs : List Value) (ins : List A4) (q : Nat → Bool)
  (hq : ∀ i e, es[i]? = some e → Fn Tryz.prog fid (us ++ [.agg ⟨e⟩] ++ cs) ins G (T9 (.bool (q i)) ins G)) :
  Fn Tryz.prog 80 [.slice p n c, .func (.func fid) ⟨us⟩ ⟨cs⟩] ins G (T9 (.bool (decide (0 ≤ A0y q n))) ins G) := by
 refine B3 Tryz.func80 rfl Tryz.ntmps80 Tryz.results80 rfl ?_
 intro w0
 refine D9 ?_
 refine A1z rfl (B1v G p n c es hsl fid us cs ins q hq) Z4 rfl rfl ?_
 refine sQ (A0R rfl rfl) rfl ?_
 refine sQ (qA rfl) rfl (sD (nS (tT ?_)))
 refine F8 (rT rfl) A0.refl ?_
 exact ⟨rfl, rfl, rfl⟩
theorem A3l (G : IM) (p : Option Addr) (n c : Nat) (es : List (List Value)) (hsl : C9 G p n c 2 es) (fid : FuncId) [B1 Tryz.prog fid] (us cs : List Value) (ins : List A4) (f : Ty → Bool) (ks : List Ty)
  (hn : ks.length = n) {A : Bool} (hA : ks.all f = A) (hq : ∀ i e, es[i]? = some e → Fn Tryz.prog fid (us ++ [.agg ⟨e⟩] ++ cs) ins G (T9 (.bool (!f (ks.getD i A8))) ins G)) :
  Fn Tryz.prog 80 [.slice p n c, .func (.func fid) ⟨us⟩ ⟨cs⟩] ins G (T9 (.bool (!A)) ins G) := by
 subst hn hA
 rw [← A6Z f ks A8]
 exact B1w G p _ c es hsl fid us cs ins _ hq
theorem A7s (G : IM) (p p' : Option Addr) (n c n' c' : Nat) (es es' : List (List Value)) (hsl : C9 G p n c 2 es) (hsl' : C9 G p' n' c' 2 es') (fid : FuncId) [B1 Tryz.prog fid] (us cs : List Value) (ins : List A4) (q : Nat → Bool)
  (A : Bool) (hA : A = true ↔ n = n' ∧ ∀ i, i < n → q i = true)
  (hq : ∀ i e e', es[i]? = some e → es'[i]? = some e' → Fn Tryz.prog fid (us ++ [.agg ⟨e⟩, .agg ⟨e'⟩] ++ cs) ins G (T9 (.bool (q i)) ins G)) :
  Fn Tryz.prog 190 [.slice p n c, .slice p' n' c', .func (.func fid) ⟨us⟩ ⟨cs⟩] ins G (T9 (.bool A) ins G) := by
 have hn := hsl.le
 have hn' := hsl'.le
 refine B3 Tryz.func190 rfl Tryz.ntmps190 Tryz.results190 rfl ?_
 intro w0
 refine M6 ?_
 refine sB (M8 rfl rfl) rfl rfl (fun h13 => ?_) (fun h13 => ?_)
 refine I7 ?_
 refine F8 (outs := ins) (rT rfl) (by first | exact A0.refl | exact A0.drop (A0.drop A0.refl)) ?_
 exact ⟨rfl, by (cases A with | false => rfl | true => exact absurd (hA.1 rfl).1 (by omega)), rfl⟩
 refine J3 ?_
 refine B7 (L3 (fun i : Nat => ⟨[(17, .int .i64 i), (16, .int .i64 n), (15, .slice p n c), (2, .func (.func fid) ⟨us⟩ ⟨cs⟩), (1, .slice p' n' c'), (0, .slice p n c)], ins, G⟩) (fun i => i ≤ n ∧ ∀ j, j < i → q j = true) (fun i => n - i) 0 ?_ ?_ ?_)
 exact D3
 exact ⟨by omega, by omega⟩
 rintro i ⟨hi, hf⟩
 refine tS (tR ?_)
 refine sB (J9 rfl rfl) rfl rfl (fun h46 => ?_) (fun h46 => ?_)
 refine sD (nS (tS (qT rfl (tK (nS (tS ?_))))))
 refine B7 ?_
 refine tS (tR (sQ (qM rfl) rfl ?_))
 (obtain ⟨e, b, o, he, rfl, hl, _, hat, _⟩ := hsl.get (i := i) (by omega); refine sP (B2 rfl rfl rfl (by omega)) rfl rfl ?_)
 refine sL (A3 rfl rfl (hat _) hl) rfl rfl ?_
 refine sE (A7 rfl) rfl (fun b60 => ?_)
 refine sQ (qA rfl) rfl ?_
 refine W1 rfl rfl rfl (by assumption) (by assumption) rfl (by repeat first | exact Sw.here | apply Sw.there) (by exact C3 (by symm; assumption)) ?_
 refine sD (nS (tS (tR (sQ (qM rfl) rfl (sQ (qM rfl) rfl ?_)))))
 (obtain ⟨e', b', o', he', rfl, hl', _, hat', _⟩ := hsl'.get (i := i) (by omega); refine sP (B2 rfl rfl rfl (by omega)) rfl rfl ?_)
 refine sL (A3 rfl rfl (hat' _) hl') rfl rfl ?_
 refine sE (A7 rfl) rfl (fun b71 => ?_)
 refine W1 rfl rfl rfl (by assumption) (by assumption) rfl (by repeat first | exact Sw.here | apply Sw.there) (by exact C3 (by symm; assumption)) ?_
 refine sD (nS (tS (tR (sQ (qM rfl) rfl ?_))))
 refine sL (A3 rfl rfl (A9 (by repeat first | exact mH | apply mT)) (by assumption)) rfl rfl ?_
 refine sL (A3 rfl rfl (A9 (by repeat first | exact mH | apply mT)) (by assumption)) rfl rfl ?_
 refine A5m rfl rfl (hq i e e' he he') B0V rfl rfl (fun h80 => ?_) (fun h80 => ?_)
 refine D8 ?_
 refine sP (K4 rfl rfl (by omega) (by omega)) rfl rfl ?_
 refine sQ (qM rfl) rfl (sD ?_)
 refine K7 (i + 1) ?_ ?_ ?_
 exact D3
 exact ⟨by omega, fun j hj => by by_cases hji : j = i; (subst hji; assumption); exact hf j (by omega)⟩
 omega
 refine I0 ?_
 refine F8 (outs := ins) (rT rfl) (by first | exact A0.refl | exact A0.drop (A0.drop A0.refl)) ?_
 exact ⟨rfl, by (cases A with | false => rfl | true => have h0 := (hA.1 rfl).2 i (by omega); simp_all), rfl⟩
 refine I0 ?_
 refine F8 (outs := ins) (rT rfl) (by first | exact A0.refl | exact A0.drop (A0.drop A0.refl)) ?_
 exact ⟨rfl, by rw [hA.2 ⟨by omega, fun j hj => hf j (by omega)⟩], rfl⟩
theorem A1a (n lo hi : Int) (G : IM) : Fn Tryz.prog 74 [.int .i64 n, .int .i64 lo, .int .i64 hi] [] G (H6 (.bool (P6 n lo hi)) G) := by
 refine B3 Tryz.func74 rfl Tryz.ntmps74 Tryz.results74 rfl ?_
 intro w0
 refine D9 ?_
 refine sB (A0g rfl rfl) rfl rfl (fun h10 => ?_) (fun h10 => ?_)
 refine sQ (qM rfl) rfl (sQ (qM rfl) rfl (sQ (qM rfl) rfl ?_))
 refine sB (A0g rfl rfl) rfl rfl (fun h14 => ?_) (fun h14 => ?_)
 refine J7 ?_
 exact ⟨rfl, by simp [P6]; omega, rfl⟩
 refine J7 ?_
 exact ⟨rfl, by simp [P6]; omega, rfl⟩
 refine I7 ?_
 exact ⟨rfl, by simp [P6]; omega, rfl⟩
theorem A0E (k : Int) (G : IM) : Fn Tryz.prog 44 [.int .i64 k] [] G (H6 (.agg ⟨[.int .i64 k, .slice none 0 0]⟩) G) := by
 refine B3 Tryz.func44 rfl Tryz.ntmps44 Tryz.results44 rfl ?_
 intro w0
 refine tS (tR ?_)
 refine sE (A7 rfl) rfl (fun b3 => ?_)
 refine I7 ?_
 refine E0 (rC rfl (A1 rfl rfl)) ?_
 exact ⟨rfl, rfl, rfl⟩
theorem B1x (n : Int) (G : IM) : Fn Tryz.prog 189 [.int .i64 n] [] G (H6 (.bool (A0z n)) G) := by
 refine B3 Tryz.func189 rfl Tryz.ntmps189 Tryz.results189 rfl ?_
 intro w0
 refine D8 ?_
 refine E2 rfl (A1a _ _ _ _) rfl rfl (fun h9 => ?_) (fun h9 => ?_)
 refine D9 ?_
 exact ⟨rfl, by simp [A0z, *], rfl⟩
 refine sQ (qM rfl) rfl (sQ (qM rfl) rfl ?_)
 refine E2 rfl (A1a _ _ _ _) rfl rfl (fun h22 => ?_) (fun h22 => ?_)
 refine J7 ?_
 exact ⟨rfl, by simp [A0z, *], rfl⟩
 refine J7 ?_
 exact ⟨rfl, by simp [A0z, *], rfl⟩
theorem A7t (t : Ty) (G : IM) (cells : List Value) (hr : B5 G t cells) : Fn Tryz.prog 187 [.agg ⟨cells⟩] [] G (H6 (.bool (X5 t)) G) := by
 obtain ⟨p, c, es, rfl, hk, hsl, hkl⟩ := hr.open
 refine B3 Tryz.func187 rfl Tryz.ntmps187 Tryz.results187 rfl ?_
 intro w0
 refine tS (tR ?_)
 refine sE (C0 rfl rfl) rfl (fun b3 => ?_)
 refine C4 ?_
 refine sB (qE rfl rfl) rfl rfl (fun h11 => ?_) (fun h11 => ?_)
 refine H1 ?_
 refine sB (qE rfl rfl) rfl rfl (fun h16 => ?_) (fun h16 => ?_)
 refine J7 ?_
 exact ⟨rfl, by simp only [X5]; (first | rw [decide_eq_true (by omega)] | rw [decide_eq_false (by omega)]), rfl⟩
 refine J7 ?_
 exact ⟨rfl, by simp only [X5]; (first | rw [decide_eq_true (by omega)] | rw [decide_eq_false (by omega)]), rfl⟩
 refine J2 ?_
 exact ⟨rfl, by simp only [X5]; (first | rw [decide_eq_true (by omega)] | rw [decide_eq_false (by omega)]), rfl⟩
theorem B1y (s : ByteArray) (G : IM) : Fn Tryz.prog 186 [.string s] [] G (H6 (.bool (X6 s)) G) := by
 refine B3 Tryz.func186 rfl Tryz.ntmps186 Tryz.results186 rfl ?_
 intro w0
 refine D8 ?_
 refine sQ (A2d rfl rfl) rfl (sB (qE rfl rfl) rfl rfl (fun h10 => ?_) (fun h10 => ?_))
 refine sQ (qM rfl) rfl (sQ (qM rfl) rfl ?_)
 refine sP (A3W rfl rfl rfl (by omega) (A4a (by omega))) rfl rfl ?_
 refine sB (A0R rfl rfl) rfl rfl (fun h14 => ?_) (fun h14 => ?_)
 refine sQ (K8 rfl rfl) rfl (sQ (qM rfl) rfl (sQ (qM rfl) rfl ?_))
 refine sP (A3W rfl rfl rfl (by omega) (A4a (by omega))) rfl rfl ?_
 refine sB (A0g rfl rfl) rfl rfl (fun h19 => ?_) (fun h19 => ?_)
 refine J7 ?_
 exact ⟨rfl, by simp only [X6]; (try simp only [Int.toNat_zero] at *); (first | rw [decide_eq_true (by omega)] | rw [decide_eq_false (by omega)]), rfl⟩
 refine J7 ?_
 exact ⟨rfl, by simp only [X6]; (try simp only [Int.toNat_zero] at *); (first | rw [decide_eq_true (by omega)] | rw [decide_eq_false (by omega)]), rfl⟩
 refine J2 ?_
 exact ⟨rfl, by simp only [X6]; (try simp only [Int.toNat_zero] at *); (first | rw [decide_eq_true (by omega)] | rw [decide_eq_false (by omega)]), rfl⟩
 refine I0 ?_
 exact ⟨rfl, by simp only [X6]; (try simp only [Int.toNat_zero] at *); (first | rw [decide_eq_true (by omega)] | rw [decide_eq_false (by omega)]), rfl⟩
theorem A3m (G : IM) (e : List Value) (d : Int) (b : Bool) (bd : Nat) (hl : e.length = 2) (hd : 0 ≤ d ∧ d ≤ 5) (h : Fn Tryz.prog 137 [.agg ⟨e⟩, .int .i64 (d + 1)] [] G (H6 (.bool b) G)) :
  Fn Tryz.prog 191 [.agg ⟨e⟩, .pointer (some ⟨bd, 0, none⟩)] [.blk bd [.int .i64 d]] G (T9 (.bool (!b)) [.blk bd [.int .i64 d]] G) := by
 refine B3 Tryz.func191 rfl Tryz.ntmps191 Tryz.results191 rfl ?_
 intro w0
 refine tS (tR ?_)
 refine sE (C0 rfl rfl) rfl (fun b3 => ?_)
 refine sQ (qA rfl) rfl (sD (nS (tS (tR ?_))))
 refine sL (A3 rfl rfl (A9 (by repeat first | exact mH | apply mT)) (by assumption)) rfl rfl ?_
 refine sL (B9 rfl rfl) rfl rfl ?_
 refine sP (K4 rfl rfl (by omega) (by omega)) rfl rfl ?_
 refine E2 rfl (h) rfl rfl (fun h12 => ?_) (fun h12 => ?_)
 refine sQ (W0 rfl) rfl (sQ (qA rfl) rfl (sD (nS (tT ?_))))
 refine F8 (rT rfl) (A0.cons (Pk.there Pk.here) A0.nil) ?_
 exact ⟨rfl, by simp [*], rfl⟩
 refine sQ (pNf rfl) rfl (sQ (qA rfl) rfl (sD (nS (tT ?_))))
 refine F8 (rT rfl) (A0.cons (Pk.there Pk.here) A0.nil) ?_
 exact ⟨rfl, by simp [*], rfl⟩
theorem B1z : ∀ (t : Ty) (d : Int) (G : IM) (cells : List Value), 0 ≤ d ∧ d ≤ 5 → B5 G t cells →
  Fn Tryz.prog 137 [.agg ⟨cells⟩, .int .i64 d] [] G (H6 (.bool (K0 t d)) G) := by
 refine Ty.ind fun k ks ih d G cells hd hr => ?_
 obtain ⟨p, c, es, rfl, hk, hsl, hkl⟩ := hr.open
 simp only [Ty.k, Ty.ks] at hk hsl hkl ⊢
 have hn := hsl.le
 obtain ⟨A, hA⟩ : ∃ A, ks.all (K0 · (d + 1)) = A := ⟨_, rfl⟩
 refine B3 Tryz.func137 rfl Tryz.ntmps137 Tryz.results137 rfl ?_
 intro w0
 refine tS (tR ?_)
 refine sE (C0 rfl rfl) rfl (fun b3 => ?_)
 (refine L4 (B0B rfl rfl rfl) rfl ?_; rintro _ ⟨b4, rfl⟩)
 refine I0 ?_
 refine B7 (tS (tS (tR (sB (qE rfl rfl) rfl rfl (fun h24 => ?_) (fun h24 => ?_)))))
 refine I0 ?_
 refine sB (A0g rfl rfl) rfl rfl (fun h40 => ?_) (fun h40 => ?_)
 refine Q3 ?_
 refine sB (qE rfl rfl) rfl rfl (fun h46 => ?_) (fun h46 => ?_)
 refine H1 ?_
 refine sQ (A29 rfl rfl) rfl (A3e rfl (A3l _ _ _ _ _ hsl _ [] _ [.blk b4 [.int .i64 d]] (K0 · (d + 1)) ks rfl hA (fun i e he => A3m _ _ _ _ _ (hsl.all e (List.mem_of_getElem? he)) hd (ih _ (hkl.inv he A8).1 _ _ _ (by omega) (hkl.inv he A8).2))) Z4 rfl rfl (fun h52 => ?_) (fun h52 => ?_))
 simp only [Bool.not_eq_true', Bool.not_eq_false'] at h52
 refine C4 ?_
 exact ⟨rfl, by (rw [K0, U7, hA]; have := M9 k; first | (rw [decide_eq_true (by omega), decide_eq_true (by omega)]; simp only [*]; done) | (rw [decide_eq_true (by omega), decide_eq_true (by omega)]; simp only [*]; rfl) | (rw [decide_eq_false (by omega)]; rfl) | (rw [decide_eq_true (by omega), decide_eq_false (by omega)]; rfl)), rfl⟩
 simp only [Bool.not_eq_true', Bool.not_eq_false'] at h52
 refine C4 ?_
 exact ⟨rfl, by (rw [K0, U7, hA]; have := M9 k; first | (rw [decide_eq_true (by omega), decide_eq_true (by omega)]; simp only [*]; done) | (rw [decide_eq_true (by omega), decide_eq_true (by omega)]; simp only [*]; rfl) | (rw [decide_eq_false (by omega)]; rfl) | (rw [decide_eq_true (by omega), decide_eq_false (by omega)]; rfl)), rfl⟩
 refine J3 ?_
 exact ⟨rfl, by (rw [K0, U7, hA]; have := M9 k; first | (rw [decide_eq_true (by omega), decide_eq_true (by omega)]; simp only [*]; done) | (rw [decide_eq_true (by omega), decide_eq_true (by omega)]; simp only [*]; rfl) | (rw [decide_eq_false (by omega)]; rfl) | (rw [decide_eq_true (by omega), decide_eq_false (by omega)]; rfl)), rfl⟩
 refine A0o ?_
 exact ⟨rfl, by (rw [K0, U7, hA]; have := M9 k; first | (rw [decide_eq_true (by omega), decide_eq_true (by omega)]; simp only [*]; done) | (rw [decide_eq_true (by omega), decide_eq_true (by omega)]; simp only [*]; rfl) | (rw [decide_eq_false (by omega)]; rfl) | (rw [decide_eq_true (by omega), decide_eq_false (by omega)]; rfl)), rfl⟩
 refine sQ (qA rfl) rfl (sD (nS (cF rfl (tS (tR ?_)))))
 refine sB (qE rfl rfl) rfl rfl (fun h109 => ?_) (fun h109 => ?_)
 refine I0 ?_
 refine sB (A0g rfl rfl) rfl rfl (fun h125 => ?_) (fun h125 => ?_)
 refine Q3 ?_
 refine sB (qE rfl rfl) rfl rfl (fun h131 => ?_) (fun h131 => ?_)
 refine H1 ?_
 refine sQ (A29 rfl rfl) rfl (A3e rfl (A3l _ _ _ _ _ hsl _ [] _ [.blk b4 [.int .i64 d]] (K0 · (d + 1)) ks rfl hA (fun i e he => A3m _ _ _ _ _ (hsl.all e (List.mem_of_getElem? he)) hd (ih _ (hkl.inv he A8).1 _ _ _ (by omega) (hkl.inv he A8).2))) Z4 rfl rfl (fun h137 => ?_) (fun h137 => ?_))
 simp only [Bool.not_eq_true', Bool.not_eq_false'] at h137
 refine C4 ?_
 exact ⟨rfl, by (rw [K0, U7, hA]; have := M9 k; first | (rw [decide_eq_true (by omega), decide_eq_true (by omega)]; simp only [*]; done) | (rw [decide_eq_true (by omega), decide_eq_true (by omega)]; simp only [*]; rfl) | (rw [decide_eq_false (by omega)]; rfl) | (rw [decide_eq_true (by omega), decide_eq_false (by omega)]; rfl)), rfl⟩
 simp only [Bool.not_eq_true', Bool.not_eq_false'] at h137
 refine C4 ?_
 exact ⟨rfl, by (rw [K0, U7, hA]; have := M9 k; first | (rw [decide_eq_true (by omega), decide_eq_true (by omega)]; simp only [*]; done) | (rw [decide_eq_true (by omega), decide_eq_true (by omega)]; simp only [*]; rfl) | (rw [decide_eq_false (by omega)]; rfl) | (rw [decide_eq_true (by omega), decide_eq_false (by omega)]; rfl)), rfl⟩
 refine J3 ?_
 exact ⟨rfl, by (rw [K0, U7, hA]; have := M9 k; first | (rw [decide_eq_true (by omega), decide_eq_true (by omega)]; simp only [*]; done) | (rw [decide_eq_true (by omega), decide_eq_true (by omega)]; simp only [*]; rfl) | (rw [decide_eq_false (by omega)]; rfl) | (rw [decide_eq_true (by omega), decide_eq_false (by omega)]; rfl)), rfl⟩
 refine A0o ?_
 exact ⟨rfl, by (rw [K0, U7, hA]; have := M9 k; first | (rw [decide_eq_true (by omega), decide_eq_true (by omega)]; simp only [*]; done) | (rw [decide_eq_true (by omega), decide_eq_true (by omega)]; simp only [*]; rfl) | (rw [decide_eq_false (by omega)]; rfl) | (rw [decide_eq_true (by omega), decide_eq_false (by omega)]; rfl)), rfl⟩
 refine sQ (qA rfl) rfl (sD (nS (cF rfl (tR ?_))))
 refine sB (qE rfl rfl) rfl rfl (fun h193 => ?_) (fun h193 => ?_)
 refine M6 ?_
 refine sB (A0g rfl rfl) rfl rfl (fun h206 => ?_) (fun h206 => ?_)
 refine Q3 ?_
 refine sB (qE rfl rfl) rfl rfl (fun h212 => ?_) (fun h212 => ?_)
 refine H1 ?_
 refine sQ (A29 rfl rfl) rfl (A3e rfl (A3l _ _ _ _ _ hsl _ [] _ [.blk b4 [.int .i64 d]] (K0 · (d + 1)) ks rfl hA (fun i e he => A3m _ _ _ _ _ (hsl.all e (List.mem_of_getElem? he)) hd (ih _ (hkl.inv he A8).1 _ _ _ (by omega) (hkl.inv he A8).2))) Z4 rfl rfl (fun h218 => ?_) (fun h218 => ?_))
 simp only [Bool.not_eq_true', Bool.not_eq_false'] at h218
 refine C4 ?_
 exact ⟨rfl, by (rw [K0, U7, hA]; have := M9 k; first | (rw [decide_eq_true (by omega), decide_eq_true (by omega)]; simp only [*]; done) | (rw [decide_eq_true (by omega), decide_eq_true (by omega)]; simp only [*]; rfl) | (rw [decide_eq_false (by omega)]; rfl) | (rw [decide_eq_true (by omega), decide_eq_false (by omega)]; rfl)), rfl⟩
 simp only [Bool.not_eq_true', Bool.not_eq_false'] at h218
 refine C4 ?_
 exact ⟨rfl, by (rw [K0, U7, hA]; have := M9 k; first | (rw [decide_eq_true (by omega), decide_eq_true (by omega)]; simp only [*]; done) | (rw [decide_eq_true (by omega), decide_eq_true (by omega)]; simp only [*]; rfl) | (rw [decide_eq_false (by omega)]; rfl) | (rw [decide_eq_true (by omega), decide_eq_false (by omega)]; rfl)), rfl⟩
 refine J3 ?_
 exact ⟨rfl, by (rw [K0, U7, hA]; have := M9 k; first | (rw [decide_eq_true (by omega), decide_eq_true (by omega)]; simp only [*]; done) | (rw [decide_eq_true (by omega), decide_eq_true (by omega)]; simp only [*]; rfl) | (rw [decide_eq_false (by omega)]; rfl) | (rw [decide_eq_true (by omega), decide_eq_false (by omega)]; rfl)), rfl⟩
 refine A0o ?_
 exact ⟨rfl, by (rw [K0, U7, hA]; have := M9 k; first | (rw [decide_eq_true (by omega), decide_eq_true (by omega)]; simp only [*]; done) | (rw [decide_eq_true (by omega), decide_eq_true (by omega)]; simp only [*]; rfl) | (rw [decide_eq_false (by omega)]; rfl) | (rw [decide_eq_true (by omega), decide_eq_false (by omega)]; rfl)), rfl⟩
 refine sQ (qA rfl) rfl (sD (nS (cF rfl (tS (tS (tR ?_))))))
 refine sB (qE rfl rfl) rfl rfl (fun h276 => ?_) (fun h276 => ?_)
 refine I0 ?_
 refine sB (A0g rfl rfl) rfl rfl (fun h292 => ?_) (fun h292 => ?_)
 refine Q3 ?_
 refine sB (qE rfl rfl) rfl rfl (fun h298 => ?_) (fun h298 => ?_)
 refine H1 ?_
 refine sQ (A29 rfl rfl) rfl (A3e rfl (A3l _ _ _ _ _ hsl _ [] _ [.blk b4 [.int .i64 d]] (K0 · (d + 1)) ks rfl hA (fun i e he => A3m _ _ _ _ _ (hsl.all e (List.mem_of_getElem? he)) hd (ih _ (hkl.inv he A8).1 _ _ _ (by omega) (hkl.inv he A8).2))) Z4 rfl rfl (fun h304 => ?_) (fun h304 => ?_))
 simp only [Bool.not_eq_true', Bool.not_eq_false'] at h304
 refine C4 ?_
 exact ⟨rfl, by (rw [K0, U7, hA]; have := M9 k; first | (rw [decide_eq_true (by omega), decide_eq_true (by omega)]; simp only [*]; done) | (rw [decide_eq_true (by omega), decide_eq_true (by omega)]; simp only [*]; rfl) | (rw [decide_eq_false (by omega)]; rfl) | (rw [decide_eq_true (by omega), decide_eq_false (by omega)]; rfl)), rfl⟩
 simp only [Bool.not_eq_true', Bool.not_eq_false'] at h304
 refine C4 ?_
 exact ⟨rfl, by (rw [K0, U7, hA]; have := M9 k; first | (rw [decide_eq_true (by omega), decide_eq_true (by omega)]; simp only [*]; done) | (rw [decide_eq_true (by omega), decide_eq_true (by omega)]; simp only [*]; rfl) | (rw [decide_eq_false (by omega)]; rfl) | (rw [decide_eq_true (by omega), decide_eq_false (by omega)]; rfl)), rfl⟩
 refine J3 ?_
 exact ⟨rfl, by (rw [K0, U7, hA]; have := M9 k; first | (rw [decide_eq_true (by omega), decide_eq_true (by omega)]; simp only [*]; done) | (rw [decide_eq_true (by omega), decide_eq_true (by omega)]; simp only [*]; rfl) | (rw [decide_eq_false (by omega)]; rfl) | (rw [decide_eq_true (by omega), decide_eq_false (by omega)]; rfl)), rfl⟩
 refine A0o ?_
 exact ⟨rfl, by (rw [K0, U7, hA]; have := M9 k; first | (rw [decide_eq_true (by omega), decide_eq_true (by omega)]; simp only [*]; done) | (rw [decide_eq_true (by omega), decide_eq_true (by omega)]; simp only [*]; rfl) | (rw [decide_eq_false (by omega)]; rfl) | (rw [decide_eq_true (by omega), decide_eq_false (by omega)]; rfl)), rfl⟩
 refine sQ (qA rfl) rfl (sD (nS (cF rfl (tR ?_))))
 refine sB (qE rfl rfl) rfl rfl (fun h360 => ?_) (fun h360 => ?_)
 refine M6 ?_
 refine sB (A0g rfl rfl) rfl rfl (fun h373 => ?_) (fun h373 => ?_)
 refine Q3 ?_
 refine sB (qE rfl rfl) rfl rfl (fun h379 => ?_) (fun h379 => ?_)
 refine H1 ?_
 refine sQ (A29 rfl rfl) rfl (A3e rfl (A3l _ _ _ _ _ hsl _ [] _ [.blk b4 [.int .i64 d]] (K0 · (d + 1)) ks rfl hA (fun i e he => A3m _ _ _ _ _ (hsl.all e (List.mem_of_getElem? he)) hd (ih _ (hkl.inv he A8).1 _ _ _ (by omega) (hkl.inv he A8).2))) Z4 rfl rfl (fun h385 => ?_) (fun h385 => ?_))
 simp only [Bool.not_eq_true', Bool.not_eq_false'] at h385
 refine C4 ?_
 exact ⟨rfl, by (rw [K0, U7, hA]; have := M9 k; first | (rw [decide_eq_true (by omega), decide_eq_true (by omega)]; simp only [*]; done) | (rw [decide_eq_true (by omega), decide_eq_true (by omega)]; simp only [*]; rfl) | (rw [decide_eq_false (by omega)]; rfl) | (rw [decide_eq_true (by omega), decide_eq_false (by omega)]; rfl)), rfl⟩
 simp only [Bool.not_eq_true', Bool.not_eq_false'] at h385
 refine C4 ?_
 exact ⟨rfl, by (rw [K0, U7, hA]; have := M9 k; first | (rw [decide_eq_true (by omega), decide_eq_true (by omega)]; simp only [*]; done) | (rw [decide_eq_true (by omega), decide_eq_true (by omega)]; simp only [*]; rfl) | (rw [decide_eq_false (by omega)]; rfl) | (rw [decide_eq_true (by omega), decide_eq_false (by omega)]; rfl)), rfl⟩
 refine J3 ?_
 exact ⟨rfl, by (rw [K0, U7, hA]; have := M9 k; first | (rw [decide_eq_true (by omega), decide_eq_true (by omega)]; simp only [*]; done) | (rw [decide_eq_true (by omega), decide_eq_true (by omega)]; simp only [*]; rfl) | (rw [decide_eq_false (by omega)]; rfl) | (rw [decide_eq_true (by omega), decide_eq_false (by omega)]; rfl)), rfl⟩
 refine A0o ?_
 exact ⟨rfl, by (rw [K0, U7, hA]; have := M9 k; first | (rw [decide_eq_true (by omega), decide_eq_true (by omega)]; simp only [*]; done) | (rw [decide_eq_true (by omega), decide_eq_true (by omega)]; simp only [*]; rfl) | (rw [decide_eq_false (by omega)]; rfl) | (rw [decide_eq_true (by omega), decide_eq_false (by omega)]; rfl)), rfl⟩
 refine I7 ?_
 refine sB (A0g rfl rfl) rfl rfl (fun h446 => ?_) (fun h446 => ?_)
 refine Q3 ?_
 refine sP (H0 rfl rfl (by omega)) rfl rfl ?_
 refine J3 ?_
 exact ⟨rfl, by (rw [K0, U7, hA]; have := M9 k; first | (rw [decide_eq_true (by omega), decide_eq_true (by omega)]; simp only [*]; done) | (rw [decide_eq_true (by omega), decide_eq_true (by omega)]; simp only [*]; rfl) | (rw [decide_eq_false (by omega)]; rfl) | (rw [decide_eq_true (by omega), decide_eq_false (by omega)]; rfl)), rfl⟩
 refine A0o ?_
 exact ⟨rfl, by (rw [K0, U7, hA]; have := M9 k; first | (rw [decide_eq_true (by omega), decide_eq_true (by omega)]; simp only [*]; done) | (rw [decide_eq_true (by omega), decide_eq_true (by omega)]; simp only [*]; rfl) | (rw [decide_eq_false (by omega)]; rfl) | (rw [decide_eq_true (by omega), decide_eq_false (by omega)]; rfl)), rfl⟩
theorem A3n (t : Ty) (G : IM) (cells : List Value) (hr : B5 G t cells) : Fn Tryz.prog 92 [.agg ⟨cells⟩] [] G (H6 (.bool (E8 t)) G) := by
 have hl := hr.len
 have hv := B1z t 1 G cells (by omega) hr
 refine B3 Tryz.func92 rfl Tryz.ntmps92 Tryz.results92 rfl ?_
 intro w0
 refine tS (tR ?_)
 refine sE (C0 rfl rfl) rfl (fun b3 => ?_)
 refine sQ (qA rfl) rfl (sD (nS (tS (tR ?_))))
 refine sL (A3 rfl rfl (A9 (by repeat first | exact mH | apply mT)) (by assumption)) rfl rfl ?_
 refine I5 rfl (hv) rfl rfl ?_
 refine sQ (qA rfl) rfl (sD (nS (tT (E0 (rT rfl) ?_))))
 exact ⟨rfl, rfl, rfl⟩
theorem Y8 : ∀ (t t' : Ty) (G : IM) (cells cells' : List Value), B5 G t cells → B5 G t' cells' →
  Fn Tryz.prog 135 [.agg ⟨cells⟩, .agg ⟨cells'⟩] [] G (H6 (.bool (J6 t t')) G) := by
 refine Ty.ind fun k ks ih t' G cells cells' hr hr' => ?_
 obtain ⟨k', ks'⟩ := t'
 obtain ⟨p, c, es, rfl, hk, hsl, hkl⟩ := hr.open
 obtain ⟨p', c', es', rfl, hk', hsl', hkl'⟩ := hr'.open
 simp only [Ty.k, Ty.ks] at hk hsl hkl hk' hsl' hkl' ⊢
 have hn := hsl.le
 have hn' := hsl'.le
 obtain ⟨A, hA⟩ : ∃ A, O0 ks ks' = A := ⟨_, rfl⟩
 have hA' : A = true ↔ ks.length = ks'.length ∧ ∀ i, i < ks.length → J6 (ks.getD i A8) (ks'.getD i A8) = true := by
  rw [← hA, A1P]
  constructor
  ·rintro ⟨h1, h2⟩
   refine ⟨h1, fun i hi => ?_⟩
   have := h2 i hi (by omega)
   simpa [List.getD_eq_getElem?_getD, List.getElem?_eq_getElem hi, List.getElem?_eq_getElem (show i < ks'.length by omega)] using this
  ·rintro ⟨h1, h2⟩
   refine ⟨h1, fun i hi hi' => ?_⟩
   have := h2 i hi
   simpa [List.getD_eq_getElem?_getD, List.getElem?_eq_getElem hi, List.getElem?_eq_getElem hi'] using this
 refine B3 Tryz.func135 rfl Tryz.ntmps135 Tryz.results135 rfl ?_
 intro w0
 refine tS (tR ?_)
 refine sE (C0 rfl rfl) rfl (fun b3 => ?_)
 refine sE (C0 rfl rfl) rfl (fun b4 => ?_)
 refine C4 ?_
 refine sB (qE rfl rfl) rfl rfl (fun h12 => ?_) (fun h12 => ?_)
 refine A2F ?_
 exact ⟨rfl, by (rw [S2, hA]; first | (rw [decide_eq_true (p := k = 1) (by omega)]; rfl) | (rw [decide_eq_false (p := k = 1) (by omega), decide_eq_true (p := k' = 1) (by omega)]; rfl) | (rw [decide_eq_false (p := k = 1) (by omega), decide_eq_false (p := k' = 1) (by omega), decide_eq_false (p := k = k') (by omega)]; rfl) | (rw [decide_eq_false (p := k = 1) (by omega), decide_eq_false (p := k' = 1) (by omega), decide_eq_true (p := k = k') (by omega)]; simp only [*]; rfl)), rfl⟩
 refine L9 ?_
 refine sB (qE rfl rfl) rfl rfl (fun h41 => ?_) (fun h41 => ?_)
 refine A0D ?_
 exact ⟨rfl, by (rw [S2, hA]; first | (rw [decide_eq_true (p := k = 1) (by omega)]; rfl) | (rw [decide_eq_false (p := k = 1) (by omega), decide_eq_true (p := k' = 1) (by omega)]; rfl) | (rw [decide_eq_false (p := k = 1) (by omega), decide_eq_false (p := k' = 1) (by omega), decide_eq_false (p := k = k') (by omega)]; rfl) | (rw [decide_eq_false (p := k = 1) (by omega), decide_eq_false (p := k' = 1) (by omega), decide_eq_true (p := k = k') (by omega)]; simp only [*]; rfl)), rfl⟩
 refine J7 ?_
 refine sB (qE rfl rfl) rfl rfl (fun h69 => ?_) (fun h69 => ?_)
 refine Q3 ?_
 refine E2 rfl (A7s _ _ _ _ _ _ _ _ _ hsl hsl' _ [] [] [] (fun i => J6 (ks.getD i A8) (ks'.getD i A8)) A hA' (fun i e e' he he' => ih _ (hkl.inv he A8).1 _ _ _ _ (hkl.inv he A8).2 (hkl'.inv he' A8).2)) rfl rfl (fun h75 => ?_) (fun h75 => ?_)
 refine C4 ?_
 exact ⟨rfl, by (rw [S2, hA]; first | (rw [decide_eq_true (p := k = 1) (by omega)]; rfl) | (rw [decide_eq_false (p := k = 1) (by omega), decide_eq_true (p := k' = 1) (by omega)]; rfl) | (rw [decide_eq_false (p := k = 1) (by omega), decide_eq_false (p := k' = 1) (by omega), decide_eq_false (p := k = k') (by omega)]; rfl) | (rw [decide_eq_false (p := k = 1) (by omega), decide_eq_false (p := k' = 1) (by omega), decide_eq_true (p := k = k') (by omega)]; simp only [*]; rfl)), rfl⟩
 refine C4 ?_
 exact ⟨rfl, by (rw [S2, hA]; first | (rw [decide_eq_true (p := k = 1) (by omega)]; rfl) | (rw [decide_eq_false (p := k = 1) (by omega), decide_eq_true (p := k' = 1) (by omega)]; rfl) | (rw [decide_eq_false (p := k = 1) (by omega), decide_eq_false (p := k' = 1) (by omega), decide_eq_false (p := k = k') (by omega)]; rfl) | (rw [decide_eq_false (p := k = 1) (by omega), decide_eq_false (p := k' = 1) (by omega), decide_eq_true (p := k = k') (by omega)]; simp only [*]; rfl)), rfl⟩
 refine J3 ?_
 exact ⟨rfl, by (rw [S2, hA]; first | (rw [decide_eq_true (p := k = 1) (by omega)]; rfl) | (rw [decide_eq_false (p := k = 1) (by omega), decide_eq_true (p := k' = 1) (by omega)]; rfl) | (rw [decide_eq_false (p := k = 1) (by omega), decide_eq_false (p := k' = 1) (by omega), decide_eq_false (p := k = k') (by omega)]; rfl) | (rw [decide_eq_false (p := k = 1) (by omega), decide_eq_false (p := k' = 1) (by omega), decide_eq_true (p := k = k') (by omega)]; simp only [*]; rfl)), rfl⟩
theorem B1A (t t' : Ty) (G : IM) (cells cells' : List Value) (hr : B5 G t cells) (hr' : B5 G t' cells') :
  Fn Tryz.prog 188 [.agg ⟨cells⟩, .agg ⟨cells'⟩] [] G (H6 (.bool (A0U t t')) G) := by
 have hl := hr.len
 have hl' := hr'.len
 have hv := A3n t G cells hr
 have hv' := A3n t' G cells' hr'
 have hc := Y8 t t' G cells cells' hr hr'
 refine B3 Tryz.func188 rfl Tryz.ntmps188 Tryz.results188 rfl ?_
 intro w0
 refine tS (tR ?_)
 refine sE (C0 rfl rfl) rfl (fun b3 => ?_)
 refine sE (C0 rfl rfl) rfl (fun b4 => ?_)
 refine sQ (qA rfl) rfl (sD (nS (tS (tR ?_))))
 refine sL (A3 rfl rfl (A9 (by repeat first | exact mH | apply mT)) (by assumption)) rfl rfl ?_
 refine E2 rfl (hv) rfl rfl (fun h11 => ?_) (fun h11 => ?_)
 refine sQ (qM rfl) rfl ?_
 refine sL (A3 rfl rfl (A9 (by repeat first | exact mH | apply mT)) (by assumption)) rfl rfl ?_
 refine E2 rfl (hv') rfl rfl (fun h14 => ?_) (fun h14 => ?_)
 refine sQ (K8 rfl rfl) rfl (sQ (qM rfl) rfl ?_)
 refine sL (A3 rfl rfl (A9 (by repeat first | exact mH | apply mT)) (by assumption)) rfl rfl ?_
 refine sL (A3 rfl rfl (A9 (by repeat first | exact mH | apply mT)) (by assumption)) rfl rfl ?_
 refine E2 rfl (hc) rfl rfl (fun h19 => ?_) (fun h19 => ?_)
 refine J7 ?_
 exact ⟨rfl, by simp only [A0U]; simp only [*, Bool.true_and, Bool.false_and, Bool.and_true], rfl⟩
 refine J7 ?_
 exact ⟨rfl, by simp only [A0U]; simp only [*, Bool.true_and, Bool.false_and, Bool.and_true], rfl⟩
 refine J2 ?_
 exact ⟨rfl, by simp only [A0U]; simp only [*, Bool.true_and, Bool.false_and, Bool.and_true], rfl⟩
 refine L5 ?_
 exact ⟨rfl, by simp only [A0U]; simp only [*, Bool.true_and, Bool.false_and, Bool.and_true], rfl⟩
end Gw
end Go.Proofs.YtfpgncjeejickaaGreat
