/-
  The data of the program: types and terms as trees, and how they lie in memory.
-/
import Derived.Test.YtlefgfdhlblahaaTab
namespace Go.Proofs.Ytlefgfdhlblahaa
open Go Go.RowKit
namespace Gw

/-- A slice of elements of sz cells each, in blocks that no longer change. -/
structure SlE (G : IM) (p : Option Addr) (n c sz : Nat) (es : List (List Value)) : Prop where
  sl : Sl G p n c sz es.flatten
  len : es.length = n
  all : ∀ e ∈ es, e.length = sz
  one : ∀ e ∈ es, e.all (·.oneCell') = true

theorem SlE.mono {G G' : IM} {p : Option Addr} {n c sz : Nat} {es : List (List Value)} (h : SlE G p n c sz es) (hg : IMle G G') : SlE G' p n c sz es := ⟨h.sl.mono hg, h.len, h.all, h.one⟩
theorem SlE.nil (G : IM) (sz : Nat) : SlE G none 0 0 sz [] := ⟨Sl.nil G sz, rfl, by simp, by simp⟩

theorem flat_get {sz : Nat} : ∀ {es : List (List Value)}, (∀ e ∈ es, e.length = sz) → ∀ {i : Nat} {e : List Value}, es[i]? = some e → ∀ j v, e[j]? = some v → es.flatten[i * sz + j]? = some v
  | [], _, i, e, h, _, _, _ => by simp at h
  | a :: r, hall, 0, e, h, j, v, hv => by
    simp at h; subst h
    have : j < a.length := (List.getElem?_eq_some_iff.1 hv).1
    simp [List.getElem?_append, this]
    simpa [List.getElem?_eq_getElem this] using hv
  | a :: r, hall, i + 1, e, h, j, v, hv => by
    have ih := flat_get (es := r) (fun x hx => hall x (List.mem_cons_of_mem _ hx)) (i := i) (e := e) (by simpa using h) j v hv
    have ha := hall a List.mem_cons_self
    rw [List.flatten_cons, List.getElem?_append, if_neg (by rw [ha, Nat.succ_mul]; omega)]
    rw [show (i + 1) * sz + j - a.length = i * sz + j by rw [ha, Nat.succ_mul]; omega]
    exact ih

theorem SlE.at {G : IM} {p : Option Addr} {n c sz : Nat} {es : List (List Value)} (h : SlE G p n c sz es) {i : Nat} {e : List Value} (hi : es[i]? = some e) :
    ∃ b o, p = some ⟨b, o, none⟩ ∧ ∀ hp, At hp G b (o + i * sz) e := by
  have hlt : i < es.length := (List.getElem?_eq_some_iff.1 hi).1
  obtain ⟨_, _, _, h4⟩ := h.sl
  have hn := h.len
  rcases h4 with h0 | ⟨b, o, full, hp, hg, hf⟩
  · omega
  · refine ⟨b, o, hp, fun hp => at_im hg fun j v hv => ?_⟩
    rw [Nat.add_assoc]
    exact hf _ v (flat_get h.all hi j v hv)

theorem SlE.get {G : IM} {p : Option Addr} {n c sz : Nat} {es : List (List Value)} (h : SlE G p n c sz es) {i : Nat} (hi : i < n) :
    ∃ e b o, es[i]? = some e ∧ p = some ⟨b, o, none⟩ ∧ e.length = sz ∧ e.all (·.oneCell') = true ∧ (∀ hp, At hp G b (o + i * sz) e) ∧ G b ≠ none := by
  have hlt : i < es.length := by rw [h.len]; exact hi
  have he : es[i]? = some es[i] := List.getElem?_eq_getElem hlt
  obtain ⟨b, o, h1, h2⟩ := h.at he
  refine ⟨es[i], b, o, he, h1, h.all _ (List.getElem_mem hlt), h.one _ (List.getElem_mem hlt), h2, ?_⟩
  obtain ⟨_, _, _, h4⟩ := h.sl
  rcases h4 with h0 | ⟨b', o', full, hp, hg, hf⟩
  · omega
  · rw [h1] at hp; cases hp; rw [hg]; simp
theorem SlE.le {G : IM} {p : Option Addr} {n c sz : Nat} {es : List (List Value)} (h : SlE G p n c sz es) : n ≤ 9223372036854775807 := by
  have h1 := h.sl.2.1; have h2 := h.sl.2.2.1; unfold maxLen at h2; omega

/-- An own slice, given up, element by element. -/
theorem SlE.of {G : IM} {p : Option Addr} {n c sz : Nat} {es : List (List Value)} (h : Sl G p n c sz es.flatten) (hl : es.length = n) (ha : ∀ e ∈ es, e.length = sz) (ho : ∀ e ∈ es, e.all (·.oneCell') = true) : SlE G p n c sz es := ⟨h, hl, ha, ho⟩

/-- Numbers that Go's int holds. -/
def I64 (n : Int) : Prop := -9223372036854775808 ≤ n ∧ n ≤ 9223372036854775807

inductive Ty where
  | mk (k : Int) (ks : List Ty)

def Ty.k : Ty → Int | .mk k _ => k
def Ty.ks : Ty → List Ty | .mk _ ks => ks

inductive Tm where
  | mk (k : Int) (nm : ByteArray) (num : Int) (ty fr : Ty) (lb : Int) (ks : List Tm)

def Tm.k : Tm → Int | .mk k _ _ _ _ _ _ => k
def Tm.nm : Tm → ByteArray | .mk _ n _ _ _ _ _ => n
def Tm.num : Tm → Int | .mk _ _ n _ _ _ _ => n
def Tm.ty : Tm → Ty | .mk _ _ _ t _ _ _ => t
def Tm.fr : Tm → Ty | .mk _ _ _ _ f _ _ => f
def Tm.lb : Tm → Int | .mk _ _ _ _ _ l _ => l
def Tm.ks : Tm → List Tm | .mk _ _ _ _ _ _ ks => ks

/- No list of the data is too long. -/
mutual
def Ty.small : Ty → Prop
  | .mk _ ks => ks.length ≤ 4294967296 ∧ Ty.smallL ks
def Ty.smallL : List Ty → Prop
  | [] => True
  | t :: ts => t.small ∧ Ty.smallL ts
end
mutual
def Tm.small : Tm → Prop
  | .mk _ nm _ ty fr _ ks => nm.size ≤ 4294967296 ∧ ty.small ∧ fr.small ∧ ks.length ≤ 4294967296 ∧ Tm.smallL ks
def Tm.smallL : List Tm → Prop
  | [] => True
  | t :: ts => t.small ∧ Tm.smallL ts
end
theorem Ty.smallL_mem : ∀ {ts : List Ty}, Ty.smallL ts → ∀ t ∈ ts, t.small
  | [], _, t, h => by simp at h
  | t' :: ts, h, t, ht => by
    simp only [Ty.smallL] at h
    rcases List.mem_cons.1 ht with rfl | ht
    · exact h.1
    · exact Ty.smallL_mem h.2 t ht
theorem Tm.smallL_mem : ∀ {ts : List Tm}, Tm.smallL ts → ∀ t ∈ ts, t.small
  | [], _, t, h => by simp at h
  | t' :: ts, h, t, ht => by
    simp only [Tm.smallL] at h
    rcases List.mem_cons.1 ht with rfl | ht
    · exact h.1
    · exact Tm.smallL_mem h.2 t ht

mutual
def RTy (G : IM) : Ty → List Value → Prop
  | .mk k ks, cells => ∃ p c es, cells = [.int .i64 k, .slice p ks.length c] ∧ I64 k ∧ SlE G p ks.length c 2 es ∧ RTyL G ks es
def RTyL (G : IM) : List Ty → List (List Value) → Prop
  | [], es => es = []
  | t :: ts, es => ∃ a r, es = a :: r ∧ RTy G t a ∧ RTyL G ts r
end

mutual
def RTm (G : IM) : Tm → List Value → Prop
  | .mk k nm num ty fr lb ks, cells => ∃ tc fc p c es, cells = [.int .i64 k, .string nm, .int .i64 num] ++ tc ++ fc ++ [.int .i64 lb, .slice p ks.length c] ∧ I64 k ∧ I64 num ∧ I64 lb ∧ RTy G ty tc ∧ RTy G fr fc ∧ SlE G p ks.length c 9 es ∧ RTmL G ks es
def RTmL (G : IM) : List Tm → List (List Value) → Prop
  | [], es => es = []
  | t :: ts, es => ∃ a r, es = a :: r ∧ RTm G t a ∧ RTmL G ts r
end

mutual
theorem RTy.mono {G G' : IM} (hg : IMle G G') : ∀ {t : Ty} {cells : List Value}, RTy G t cells → RTy G' t cells
  | .mk k ks, cells, h => by
    simp only [RTy] at h ⊢
    obtain ⟨p, c, es, h1, h2, h3, h4⟩ := h
    exact ⟨p, c, es, h1, h2, h3.mono hg, RTyL.mono hg h4⟩
theorem RTyL.mono {G G' : IM} (hg : IMle G G') : ∀ {ts : List Ty} {es : List (List Value)}, RTyL G ts es → RTyL G' ts es
  | [], es, h => by simpa only [RTyL] using h
  | t :: ts, es, h => by
    simp only [RTyL] at h ⊢
    obtain ⟨a, r, h1, h2, h3⟩ := h
    exact ⟨a, r, h1, RTy.mono hg h2, RTyL.mono hg h3⟩
end
mutual
theorem RTm.mono {G G' : IM} (hg : IMle G G') : ∀ {t : Tm} {cells : List Value}, RTm G t cells → RTm G' t cells
  | .mk k nm num ty fr lb ks, cells, h => by
    simp only [RTm] at h ⊢
    obtain ⟨tc, fc, p, c, es, h1, h2, h3, h4, h5, h6, h7, h8⟩ := h
    exact ⟨tc, fc, p, c, es, h1, h2, h3, h4, h5.mono hg, h6.mono hg, h7.mono hg, RTmL.mono hg h8⟩
theorem RTmL.mono {G G' : IM} (hg : IMle G G') : ∀ {ts : List Tm} {es : List (List Value)}, RTmL G ts es → RTmL G' ts es
  | [], es, h => by simpa only [RTmL] using h
  | t :: ts, es, h => by
    simp only [RTmL] at h ⊢
    obtain ⟨a, r, h1, h2, h3⟩ := h
    exact ⟨a, r, h1, RTm.mono hg h2, RTmL.mono hg h3⟩
end

theorem RTy.open {G : IM} {t : Ty} {cells : List Value} (h : RTy G t cells) : ∃ p c es, cells = [.int .i64 t.k, .slice p t.ks.length c] ∧ I64 t.k ∧ SlE G p t.ks.length c 2 es ∧ RTyL G t.ks es := by
  cases t; simpa only [RTy, Ty.k, Ty.ks] using h
theorem RTm.open {G : IM} {t : Tm} {cells : List Value} (h : RTm G t cells) : ∃ pt ct et pf cf ef p c es,
    cells = [.int .i64 t.k, .string t.nm, .int .i64 t.num, .int .i64 t.ty.k, .slice pt t.ty.ks.length ct, .int .i64 t.fr.k, .slice pf t.fr.ks.length cf, .int .i64 t.lb, .slice p t.ks.length c] ∧
    I64 t.k ∧ I64 t.num ∧ I64 t.lb ∧ (I64 t.ty.k ∧ SlE G pt t.ty.ks.length ct 2 et ∧ RTyL G t.ty.ks et) ∧ (I64 t.fr.k ∧ SlE G pf t.fr.ks.length cf 2 ef ∧ RTyL G t.fr.ks ef) ∧ SlE G p t.ks.length c 9 es ∧ RTmL G t.ks es := by
  obtain ⟨k, nm, num, ty, fr, lb, ks⟩ := t
  simp only [RTm] at h
  obtain ⟨tc, fc, p, c, es, h1, h2, h3, h4, h5, h6, h7, h8⟩ := h
  obtain ⟨pt, ct, et, rfl, t1, t2, t3⟩ := h5.open
  obtain ⟨pf, cf, ef, rfl, f1, f2, f3⟩ := h6.open
  exact ⟨pt, ct, et, pf, cf, ef, p, c, es, h1, h2, h3, h4, ⟨t1, t2, t3⟩, ⟨f1, f2, f3⟩, h7, h8⟩
theorem RTm.open9 {G : IM} {k : Int} {nm : ByteArray} {num : Int} {tk : Int} {tks : List Ty} {fk : Int} {fks : List Ty} {lb : Int} {ks : List Tm} {cells : List Value} (h : RTm G (.mk k nm num (.mk tk tks) (.mk fk fks) lb ks) cells) :
    ∃ pt ct pf cf p c es, cells = [.int .i64 k, .string nm, .int .i64 num, .int .i64 tk, .slice pt tks.length ct, .int .i64 fk, .slice pf fks.length cf, .int .i64 lb, .slice p ks.length c] ∧
    I64 k ∧ I64 num ∧ I64 lb ∧ RTy G (.mk tk tks) [.int .i64 tk, .slice pt tks.length ct] ∧ RTy G (.mk fk fks) [.int .i64 fk, .slice pf fks.length cf] ∧ SlE G p ks.length c 9 es ∧ RTmL G ks es := by
  obtain ⟨pt, ct, et, pf, cf, ef, p, c, es, h1, h2, h3, h4, ⟨t1, t2, t3⟩, ⟨f1, f2, f3⟩, h7, h8⟩ := h.open
  simp only [Tm.k, Tm.nm, Tm.num, Tm.ty, Tm.fr, Tm.lb, Tm.ks, Ty.k, Ty.ks] at h1 h2 h3 h4 t1 t2 t3 f1 f2 f3 h7 h8
  exact ⟨pt, ct, pf, cf, p, c, es, h1, h2, h3, h4, by simp only [RTy]; exact ⟨_, _, et, rfl, t1, t2, t3⟩, by simp only [RTy]; exact ⟨_, _, ef, rfl, f1, f2, f3⟩, h7, h8⟩
theorem RTy.len {G : IM} {t : Ty} {cells : List Value} (h : RTy G t cells) : cells.length = 2 := by
  obtain ⟨_, _, _, rfl, _⟩ := h.open; rfl
theorem RTm.len {G : IM} {t : Tm} {cells : List Value} (h : RTm G t cells) : cells.length = 9 := by
  obtain ⟨_, _, _, _, _, _, _, _, _, rfl, _⟩ := h.open; rfl

theorem RTyL.len {G : IM} : ∀ {ts : List Ty} {es : List (List Value)}, RTyL G ts es → es.length = ts.length
  | [], es, h => by simp only [RTyL] at h; subst h; rfl
  | t :: ts, es, h => by
    simp only [RTyL] at h
    obtain ⟨a, r, rfl, _, h3⟩ := h
    simp [h3.len]
theorem RTmL.len {G : IM} : ∀ {ts : List Tm} {es : List (List Value)}, RTmL G ts es → es.length = ts.length
  | [], es, h => by simp only [RTmL] at h; subst h; rfl
  | t :: ts, es, h => by
    simp only [RTmL] at h
    obtain ⟨a, r, rfl, _, h3⟩ := h
    simp [h3.len]
theorem RTyL.get {G : IM} : ∀ {ts : List Ty} {es : List (List Value)}, RTyL G ts es → ∀ {i : Nat} {t : Ty}, ts[i]? = some t → ∃ e, es[i]? = some e ∧ RTy G t e
  | [], es, h, i, t, hi => by simp at hi
  | t' :: ts, es, h, i, t, hi => by
    simp only [RTyL] at h
    obtain ⟨a, r, rfl, h2, h3⟩ := h
    cases i with
    | zero => simp at hi; subst hi; exact ⟨a, rfl, h2⟩
    | succ i => obtain ⟨e, he, hr⟩ := h3.get (i := i) (by simpa using hi); exact ⟨e, by simpa using he, hr⟩
theorem RTmL.get {G : IM} : ∀ {ts : List Tm} {es : List (List Value)}, RTmL G ts es → ∀ {i : Nat} {t : Tm}, ts[i]? = some t → ∃ e, es[i]? = some e ∧ RTm G t e
  | [], es, h, i, t, hi => by simp at hi
  | t' :: ts, es, h, i, t, hi => by
    simp only [RTmL] at h
    obtain ⟨a, r, rfl, h2, h3⟩ := h
    cases i with
    | zero => simp at hi; subst hi; exact ⟨a, rfl, h2⟩
    | succ i => obtain ⟨e, he, hr⟩ := h3.get (i := i) (by simpa using hi); exact ⟨e, by simpa using he, hr⟩
theorem RTyL.all {G : IM} {ts : List Ty} {es : List (List Value)} (h : RTyL G ts es) : ∀ e ∈ es, e.length = 2 := by
  intro e he
  obtain ⟨i, hi⟩ := List.getElem?_of_mem he
  have hlt : i < ts.length := by have := (List.getElem?_eq_some_iff.1 hi).1; rw [h.len] at this; exact this
  obtain ⟨e', he', hr⟩ := h.get (i := i) (t := ts[i]) (by simp [hlt])
  rw [hi] at he'; cases he'; exact hr.len
theorem RTmL.all {G : IM} {ts : List Tm} {es : List (List Value)} (h : RTmL G ts es) : ∀ e ∈ es, e.length = 9 := by
  intro e he
  obtain ⟨i, hi⟩ := List.getElem?_of_mem he
  have hlt : i < ts.length := by have := (List.getElem?_eq_some_iff.1 hi).1; rw [h.len] at this; exact this
  obtain ⟨e', he', hr⟩ := h.get (i := i) (t := ts[i]) (by simp [hlt])
  rw [hi] at he'; cases he'; exact hr.len

theorem RTy.one {G : IM} {t : Ty} {cells : List Value} (h : RTy G t cells) : cells.all (·.oneCell') = true := by
  obtain ⟨_, _, _, rfl, _⟩ := h.open; rfl
theorem RTm.one {G : IM} {t : Tm} {cells : List Value} (h : RTm G t cells) : cells.all (·.oneCell') = true := by
  obtain ⟨_, _, _, _, _, _, _, _, _, rfl, _⟩ := h.open; rfl

theorem Ty.ind {C : Ty → Prop} (h : ∀ k ks, (∀ t ∈ ks, C t) → C (.mk k ks)) : ∀ t, C t
  | .mk k ks => h k ks fun t ht => Ty.ind h t
termination_by t => SizeOf.sizeOf t
decreasing_by
  have := List.sizeOf_lt_of_mem ht
  simp only [Ty.mk.sizeOf_spec]; omega
theorem Tm.ind {C : Tm → Prop} (h : ∀ k nm num ty fr lb ks, (∀ t ∈ ks, C t) → C (.mk k nm num ty fr lb ks)) : ∀ t, C t
  | .mk k nm num ty fr lb ks => h k nm num ty fr lb ks fun t ht => Tm.ind h t
termination_by t => SizeOf.sizeOf t
decreasing_by
  have := List.sizeOf_lt_of_mem ht
  simp only [Tm.mk.sizeOf_spec]; omega

/-- What is in G' and not in G. -/
def Dif (G' G : IM) : IM := fun b => match G b with | none => G' b | some _ => none
theorem Dif.le (G' G : IM) : IMle (Dif G' G) G' := by
  intro b l h
  unfold Dif at h
  split at h
  · exact h
  · cases h
theorem Dif.mono {G' G'' G : IM} (h : IMle G' G'') : IMle (Dif G' G) (Dif G'' G) := by
  intro b l hb
  unfold Dif at hb ⊢
  split at hb
  · exact h b l hb
  · cases hb
theorem Dif.anti {G' G G0 : IM} (h : IMle G0 G) : IMle (Dif G' G) (Dif G' G0) := by
  intro b l hb
  unfold Dif at hb ⊢
  split at hb
  · rename_i h0
    cases h1 : G0 b with
    | none => exact hb
    | some l' => rw [h b l' h1] at h0; cases h0
  · cases hb
theorem Dif.out {G' G : IM} {b : Nat} (h : Dif G' G b ≠ none) : G b = none := by
  unfold Dif at h
  split at h
  · assumption
  · exact absurd rfl h
theorem Sl.dif {G' G G0 : IM} {p : Option Addr} {n c sz : Nat} {cs : List Value} (h : Sl G' p n c sz cs) (hp : ∀ b ∈ vfp p, G b = none) (hle : IMle G0 G) : Sl (Dif G' G0) p n c sz cs := by
  obtain ⟨h1, h2, h3, h4⟩ := h
  refine ⟨h1, h2, h3, h4.imp id ?_⟩
  rintro ⟨b, o, full, rfl, e2, e3⟩
  refine ⟨b, o, full, rfl, ?_, e3⟩
  have hb := hp b (by simp [vfp])
  have h0 : G0 b = none := by
    cases h1 : G0 b with
    | none => rfl
    | some l => rw [hle b l h1] at hb; cases hb
  simp [Dif, h0, e2]

/- Data in memory of its own: every slice in a block that nothing else of it lies in; F: these blocks. -/
mutual
def STy (G : IM) : Ty → List Value → List Nat → Prop
  | .mk k ks, cells, F => ∃ p c es Fs, cells = [.int .i64 k, .slice p ks.length c] ∧ I64 k ∧ SlE G p ks.length c 2 es ∧ STyL G ks es Fs ∧ F = vfp p ++ Fs ∧ (∀ b ∈ vfp p, G b ≠ none)
def STyL (G : IM) : List Ty → List (List Value) → List Nat → Prop
  | [], es, F => es = [] ∧ F = []
  | t :: ts, es, F => ∃ a r Fa Fr, es = a :: r ∧ STy G t a Fa ∧ STyL G ts r Fr ∧ F = Fa ++ Fr
end
mutual
theorem STy.R {G : IM} : ∀ {t : Ty} {cells : List Value} {F : List Nat}, STy G t cells F → RTy G t cells
  | .mk k ks, cells, F, h => by
    simp only [STy] at h
    obtain ⟨p, c, es, Fs, h1, h2, h3, h4, _⟩ := h
    simp only [RTy]
    exact ⟨p, c, es, h1, h2, h3, STyL.R h4⟩
theorem STyL.R {G : IM} : ∀ {ts : List Ty} {es : List (List Value)} {F : List Nat}, STyL G ts es F → RTyL G ts es
  | [], es, F, h => by simp only [STyL] at h; simp only [RTyL]; exact h.1
  | t :: ts, es, F, h => by
    simp only [STyL] at h
    obtain ⟨a, r, Fa, Fr, h1, h2, h3, _⟩ := h
    simp only [RTyL]
    exact ⟨a, r, h1, STy.R h2, STyL.R h3⟩
end
mutual
theorem STy.mono {G G' : IM} (hg : IMle G G') : ∀ {t : Ty} {cells : List Value} {F : List Nat}, STy G t cells F → STy G' t cells F
  | .mk k ks, cells, F, h => by
    simp only [STy] at h ⊢
    obtain ⟨p, c, es, Fs, h1, h2, h3, h4, h5, h6⟩ := h
    exact ⟨p, c, es, Fs, h1, h2, h3.mono hg, STyL.mono hg h4, h5, fun b hb => by cases hgb : G b with | none => exact absurd hgb (h6 b hb) | some l => rw [hg b l hgb]; simp⟩
theorem STyL.mono {G G' : IM} (hg : IMle G G') : ∀ {ts : List Ty} {es : List (List Value)} {F : List Nat}, STyL G ts es F → STyL G' ts es F
  | [], es, F, h => by simpa only [STyL] using h
  | t :: ts, es, F, h => by
    simp only [STyL] at h ⊢
    obtain ⟨a, r, Fa, Fr, h1, h2, h3, h4⟩ := h
    exact ⟨a, r, Fa, Fr, h1, STy.mono hg h2, STyL.mono hg h3, h4⟩
end
mutual
theorem STy.inG {G : IM} : ∀ {t : Ty} {cells : List Value} {F : List Nat}, STy G t cells F → ∀ b ∈ F, G b ≠ none
  | .mk k ks, cells, F, h => by
    simp only [STy] at h
    obtain ⟨p, c, es, Fs, h1, h2, h3, h4, rfl, h6⟩ := h
    intro b hb
    rcases List.mem_append.1 hb with hb | hb
    · exact h6 b hb
    · exact STyL.inG h4 b hb
theorem STyL.inG {G : IM} : ∀ {ts : List Ty} {es : List (List Value)} {F : List Nat}, STyL G ts es F → ∀ b ∈ F, G b ≠ none
  | [], es, F, h => by simp only [STyL] at h; rw [h.2]; simp
  | t :: ts, es, F, h => by
    simp only [STyL] at h
    obtain ⟨a, r, Fa, Fr, h1, h2, h3, rfl⟩ := h
    intro b hb
    rcases List.mem_append.1 hb with hb | hb
    · exact STy.inG h2 b hb
    · exact STyL.inG h3 b hb
end
theorem STyL.snoc {G : IM} : ∀ {ts : List Ty} {es : List (List Value)} {F : List Nat} {t : Ty} {a : List Value} {Fa : List Nat}, STyL G ts es F → STy G t a Fa → STyL G (ts ++ [t]) (es ++ [a]) (F ++ Fa)
  | [], es, F, t, a, Fa, h, h2 => by
    simp only [STyL] at h
    obtain ⟨rfl, rfl⟩ := h
    simp only [List.nil_append, STyL]
    exact ⟨a, [], Fa, [], rfl, h2, ⟨rfl, rfl⟩, by simp⟩
  | t' :: ts, es, F, t, a, Fa, h, h2 => by
    simp only [STyL] at h
    obtain ⟨a', r, Fa', Fr, rfl, h3, h4, rfl⟩ := h
    simp only [List.cons_append, STyL]
    exact ⟨a', r ++ [a], Fa', Fr ++ Fa, rfl, h3, STyL.snoc h4 h2, by simp⟩

theorem SlE.kidTy {G : IM} {p : Option Addr} {n c : Nat} {es : List (List Value)} {ks : List Ty} (h : SlE G p n c 2 es) (hk : RTyL G ks es) {i : Nat} (hi : i < n) (hn : i < ks.length) :
    ∃ b o p2 c2, p = some ⟨b, o, none⟩ ∧ (∀ hp, At hp G b (o + i * 2) [.int .i64 ks[i].k, .slice p2 ks[i].ks.length c2]) ∧ RTy G ks[i] [.int .i64 ks[i].k, .slice p2 ks[i].ks.length c2] ∧ G b ≠ none := by
  obtain ⟨e, b, o, he, h1, h2, h3, h4, h5⟩ := h.get hi
  obtain ⟨e', he', hr⟩ := hk.get (i := i) (t := ks[i]) (by simp [hn])
  rw [he] at he'; cases he'
  obtain ⟨p2, c2, _, rfl, _⟩ := hr.open
  exact ⟨b, o, p2, c2, h1, h4, hr, h5⟩

theorem STyL.step {G Gi G1 : IM} {ks : List Ty} {i : Nat} {es : List (List Value)} {F F' : List Nat} {a : List Value} (h : STyL (Dif Gi G) (ks.take i) es F) (hn : F.Nodup) (hle : IMle G Gi) (hle1 : IMle Gi G1) (hi : i < ks.length)
    (ha : STy (Dif G1 Gi) ks[i] a F') (hn' : F'.Nodup) : STyL (Dif G1 G) (ks.take (i + 1)) (es ++ [a]) (F ++ F') ∧ (F ++ F').Nodup := by
  constructor
  · rw [List.take_succ_eq_append_getElem hi]
    exact STyL.snoc (h.mono (Dif.mono hle1)) (ha.mono (Dif.anti hle))
  · rw [List.nodup_append]
    refine ⟨hn, hn', ?_⟩
    rintro x hx y hy rfl
    have h1 := h.inG x hx
    have h2 := Dif.out (ha.inG x hy)
    apply h1
    cases hd : Dif Gi G x with
    | none => rfl
    | some l => rw [Dif.le _ _ x l hd] at h2; cases h2
theorem STy.fin {G Gi G2 : IM} {k : Int} {ks : List Ty} {es : List (List Value)} {F : List Nat} {p : Option Addr} {c : Nat} (h : STyL (Dif Gi G) ks es F) (hn : F.Nodup) (hle : IMle G Gi) (hle2 : IMle Gi G2)
    (hsl : Sl G2 p ks.length c 2 es.flatten) (hnn : ∀ b ∈ vfp p, Gi b = none ∧ G2 b ≠ none) (hk : I64 k) :
    ∃ F', STy (Dif G2 G) (.mk k ks) [.int .i64 k, .slice p ks.length c] F' ∧ F'.Nodup := by
  have hno := fun b hb => (hnn b hb).1
  have hin := fun b hb => (hnn b hb).2
  have hR := h.R
  refine ⟨vfp p ++ F, ?_, ?_⟩
  · simp only [STy]
    refine ⟨p, c, es, F, rfl, hk, SlE.of (hsl.dif hno hle) hR.len hR.all ?_, h.mono (Dif.mono hle2), rfl, ?_⟩
    · intro e he
      obtain ⟨i, hi⟩ := List.getElem?_of_mem he
      have hlt : i < ks.length := by have := (List.getElem?_eq_some_iff.1 hi).1; rw [hR.len] at this; exact this
      obtain ⟨e', he', hr⟩ := hR.get (i := i) (t := ks[i]) (by simp [hlt])
      rw [hi] at he'; cases he'; exact hr.one
    · intro b hb
      have h0 := hno b hb
      cases hg : G b with
      | none => simpa [Dif, hg] using hin b hb
      | some l => rw [hle b l hg] at h0; cases h0
  · rw [List.nodup_append]
    refine ⟨by cases p <;> simp [vfp], hn, ?_⟩
    rintro x hx y hy rfl
    have h1 := h.inG x hy
    have h2 := hno x hx
    apply h1
    cases hd : Dif Gi G x with
    | none => rfl
    | some l => rw [Dif.le _ _ x l hd] at h2; cases h2

/-- The first index below n at which q says yes. -/
def firstIx (q : Nat → Bool) (n : Nat) : Int := match (List.range n).find? q with | some i => i | none => -1
theorem firstIx_none {q : Nat → Bool} {n : Nat} (h : ∀ j, j < n → q j = false) : firstIx q n = -1 := by
  have : (List.range n).find? q = none := by
    rw [List.find?_eq_none]
    intro x hx
    rw [h x (List.mem_range.1 hx)]; simp
  simp [firstIx, this]
theorem firstIx_some {q : Nat → Bool} {n i : Nat} (hi : i < n) (h : ∀ j, j < i → q j = false) (hq : q i = true) : firstIx q n = i := by
  have : (List.range n).find? q = some i := by
    rw [List.find?_eq_some_iff_append]
    refine ⟨hq, List.range i, (List.range n).drop (i + 1), ?_, ?_⟩
    · apply List.ext_getElem?
      intro k
      simp only [List.getElem?_append, List.length_range, List.getElem?_range', List.getElem?_cons, List.getElem?_drop]
      by_cases h1 : k < i
      · simp [h1, show k < n by omega]
      · by_cases h2 : k = i
        · subst h2; simp [hi]
        · have h3 : k - i ≠ 0 := by omega
          simp only [h1, if_false, h3]
          rw [show i + 1 + (k - i - 1) = k by omega]
    · intro a ha
      simp [h a (List.mem_range.1 ha)]
  simp [firstIx, this]
end Gw
end Go.Proofs.Ytlefgfdhlblahaa
