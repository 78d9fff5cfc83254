/-
  The data of the program: types and terms as trees, and how they lie in memory.
-/
import Derived.Test.YtfpgncjeejickaaGreatKf0
import Derived.Laws.BytesArg
import Derived.WalkKit
import Derived.ProofKit
import Derived.OpenShut
import Derived.Carry
set_option linter.unusedVariables false
set_option linter.unusedSimpArgs false
set_option maxHeartbeats 0
set_option maxRecDepth 100000
set_option synthInstance.maxSize 4000
set_option synthInstance.maxHeartbeats 0
namespace Go.Proofs.YtfpgncjeejickaaGreat
open Go Go.RowKit
namespace Gw

structure C4 (G : IM) (p : Option Addr) (n c sz : Nat) (es : List (List Value)) : Prop where
 sl : Sl G p n c sz es.flatten
 len : es.length = n
 all : ∀ e ∈ es, e.length = sz
 one : ∀ e ∈ es, e.all (·.oneCell') = true

theorem C4.mono {G G' : IM} {p : Option Addr} {n c sz : Nat} {es : List (List Value)} (h : C4 G p n c sz es) (hg : B7 G G') : C4 G' p n c sz es := ⟨h.sl.mono hg, h.len, h.all, h.one⟩
theorem C4.nil (G : IM) (sz : Nat) : C4 G none 0 0 sz [] := ⟨Sl.nil G sz, rfl, by simp, by simp⟩

theorem A6s {sz : Nat} : ∀ {es : List (List Value)}, (∀ e ∈ es, e.length = sz) → ∀ {i : Nat} {e : List Value}, es[i]? = some e → ∀ j v, e[j]? = some v → es.flatten[i * sz + j]? = some v
 | [], _, i, e, h, _, _, _ => by simp at h
 | a :: r, hall, 0, e, h, j, v, hv => by
  simp at h; subst h
  have : j < a.length := (List.getElem?_eq_some_iff.1 hv).1
  simp [List.getElem?_append, this]
  simpa [List.getElem?_eq_getElem this] using hv
 | a :: r, hall, i + 1, e, h, j, v, hv => by
  have ih := A6s (es := r) (fun x hx => hall x (List.mem_cons_of_mem _ hx)) (i := i) (e := e) (by simpa using h) j v hv
  have ha := hall a List.mem_cons_self
  rw [List.flatten_cons, List.getElem?_append, if_neg (by rw [ha, Nat.succ_mul]; omega)]
  rw [show (i + 1) * sz + j - a.length = i * sz + j by rw [ha, Nat.succ_mul]; omega]
  exact ih

theorem C4.at {G : IM} {p : Option Addr} {n c sz : Nat} {es : List (List Value)} (h : C4 G p n c sz es) {i : Nat} {e : List Value} (hi : es[i]? = some e) :
  ∃ b o, p = some ⟨b, o, none⟩ ∧ ∀ hp, At hp G b (o + i * sz) e := by
 have hlt : i < es.length := (List.getElem?_eq_some_iff.1 hi).1
 obtain ⟨_, _, _, h4⟩ := h.sl
 have hn := h.len
 rcases h4 with h0 | ⟨b, o, full, hp, hg, hf⟩
 ·omega
 ·refine ⟨b, o, hp, fun hp => A3D hg fun j v hv => ?_⟩
  rw [Nat.add_assoc]
  exact hf _ v (A6s h.all hi j v hv)

theorem C4.get {G : IM} {p : Option Addr} {n c sz : Nat} {es : List (List Value)} (h : C4 G p n c sz es) {i : Nat} (hi : i < n) :
  ∃ e b o, es[i]? = some e ∧ p = some ⟨b, o, none⟩ ∧ e.length = sz ∧ e.all (·.oneCell') = true ∧ (∀ hp, At hp G b (o + i * sz) e) ∧ G b ≠ none := by
 have hlt : i < es.length := by rw [h.len]; exact hi
 have he : es[i]? = some es[i] := List.getElem?_eq_getElem hlt
 obtain ⟨b, o, h1, h2⟩ := h.at he
 refine ⟨es[i], b, o, he, h1, h.all _ (List.getElem_mem hlt), h.one _ (List.getElem_mem hlt), h2, ?_⟩
 obtain ⟨_, _, _, h4⟩ := h.sl
 rcases h4 with h0 | ⟨b', o', full, hp, hg, hf⟩
 ·omega
 ·rw [h1] at hp; cases hp; rw [hg]; simp
theorem C4.le {G : IM} {p : Option Addr} {n c sz : Nat} {es : List (List Value)} (h : C4 G p n c sz es) : n ≤ 9223372036854775807 := by
 have h1 := h.sl.2.1; have h2 := h.sl.2.2.1; unfold maxLen at h2; omega

theorem C4.of {G : IM} {p : Option Addr} {n c sz : Nat} {es : List (List Value)} (h : Sl G p n c sz es.flatten) (hl : es.length = n) (ha : ∀ e ∈ es, e.length = sz) (ho : ∀ e ∈ es, e.all (·.oneCell') = true) : C4 G p n c sz es := ⟨h, hl, ha, ho⟩

def H1 (n : Int) : Prop := -9223372036854775808 ≤ n ∧ n ≤ 9223372036854775807

inductive Ty where
 | mk (k : Int) (ks : List Ty)

def Ty.k : Ty → Int | .mk k _ => k
def Ty.ks : Ty → List Ty | .mk _ ks => ks

inductive Tm where
 | mk (k : Int) (nm : ByteArray) (num : Int) (ty fr : Ty) (lb : Int) (ks : List Tm)

def Tm.k : Tm → Int | .mk k _ _ _ _ _ _ => k
def Tm.nm : Tm → ByteArray | .mk _ n _ _ _ _ _ => n
def Tm.num : Tm → Int | .mk _ _ n _ _ _ _ => n
def Tm.ty : Tm → Ty | .mk _ _ _ t _ _ _ => t
def Tm.fr : Tm → Ty | .mk _ _ _ _ f _ _ => f
def Tm.lb : Tm → Int | .mk _ _ _ _ _ l _ => l
def Tm.ks : Tm → List Tm | .mk _ _ _ _ _ _ ks => ks

mutual
def Ty.small : Ty → Prop
 | .mk _ ks => ks.length ≤ 4294967296 ∧ Ty.smallL ks
def Ty.smallL : List Ty → Prop
 | [] => True
 | t :: ts => t.small ∧ Ty.smallL ts
end
mutual
def Tm.small : Tm → Prop
 | .mk _ nm _ ty fr _ ks => nm.size ≤ 4294967296 ∧ ty.small ∧ fr.small ∧ ks.length ≤ 4294967296 ∧ Tm.smallL ks
def Tm.smallL : List Tm → Prop
 | [] => True
 | t :: ts => t.small ∧ Tm.smallL ts
end
theorem Ty.smallL_mem : ∀ {ts : List Ty}, Ty.smallL ts → ∀ t ∈ ts, t.small
 | [], _, t, h => by simp at h
 | t' :: ts, h, t, ht => by
  simp only [Ty.smallL] at h
  rcases List.mem_cons.1 ht with rfl | ht
  ·exact h.1
  ·exact Ty.smallL_mem h.2 t ht
theorem Tm.smallL_mem : ∀ {ts : List Tm}, Tm.smallL ts → ∀ t ∈ ts, t.small
 | [], _, t, h => by simp at h
 | t' :: ts, h, t, ht => by
  simp only [Tm.smallL] at h
  rcases List.mem_cons.1 ht with rfl | ht
  ·exact h.1
  ·exact Tm.smallL_mem h.2 t ht

mutual
def B6 (G : IM) : Ty → List Value → Prop
 | .mk k ks, cells => ∃ p c es, cells = [.int .i64 k, .slice p ks.length c] ∧ H1 k ∧ C4 G p ks.length c 2 es ∧ C2 G ks es
def C2 (G : IM) : List Ty → List (List Value) → Prop
 | [], es => es = []
 | t :: ts, es => ∃ a r, es = a :: r ∧ B6 G t a ∧ C2 G ts r
end

mutual
def A6 (G : IM) : Tm → List Value → Prop
 | .mk k nm num ty fr lb ks, cells => ∃ tc fc p c es, cells = [.int .i64 k, .string nm, .int .i64 num] ++ tc ++ fc ++ [.int .i64 lb, .slice p ks.length c] ∧ H1 k ∧ H1 num ∧ H1 lb ∧ B6 G ty tc ∧ B6 G fr fc ∧ C4 G p ks.length c 9 es ∧ C7 G ks es
def C7 (G : IM) : List Tm → List (List Value) → Prop
 | [], es => es = []
 | t :: ts, es => ∃ a r, es = a :: r ∧ A6 G t a ∧ C7 G ts r
end

mutual
theorem B6.mono {G G' : IM} (hg : B7 G G') : ∀ {t : Ty} {cells : List Value}, B6 G t cells → B6 G' t cells
 | .mk k ks, cells, h => by
  simp only [B6] at h ⊢
  obtain ⟨p, c, es, h1, h2, h3, h4⟩ := h
  exact ⟨p, c, es, h1, h2, h3.mono hg, C2.mono hg h4⟩
theorem C2.mono {G G' : IM} (hg : B7 G G') : ∀ {ts : List Ty} {es : List (List Value)}, C2 G ts es → C2 G' ts es
 | [], es, h => by simpa only [C2] using h
 | t :: ts, es, h => by
  simp only [C2] at h ⊢
  obtain ⟨a, r, h1, h2, h3⟩ := h
  exact ⟨a, r, h1, B6.mono hg h2, C2.mono hg h3⟩
end
mutual
theorem A6.mono {G G' : IM} (hg : B7 G G') : ∀ {t : Tm} {cells : List Value}, A6 G t cells → A6 G' t cells
 | .mk k nm num ty fr lb ks, cells, h => by
  simp only [A6] at h ⊢
  obtain ⟨tc, fc, p, c, es, h1, h2, h3, h4, h5, h6, h7, h8⟩ := h
  exact ⟨tc, fc, p, c, es, h1, h2, h3, h4, h5.mono hg, h6.mono hg, h7.mono hg, C7.mono hg h8⟩
theorem C7.mono {G G' : IM} (hg : B7 G G') : ∀ {ts : List Tm} {es : List (List Value)}, C7 G ts es → C7 G' ts es
 | [], es, h => by simpa only [C7] using h
 | t :: ts, es, h => by
  simp only [C7] at h ⊢
  obtain ⟨a, r, h1, h2, h3⟩ := h
  exact ⟨a, r, h1, A6.mono hg h2, C7.mono hg h3⟩
end

theorem B6.open {G : IM} {t : Ty} {cells : List Value} (h : B6 G t cells) : ∃ p c es, cells = [.int .i64 t.k, .slice p t.ks.length c] ∧ H1 t.k ∧ C4 G p t.ks.length c 2 es ∧ C2 G t.ks es := by
 cases t; simpa only [B6, Ty.k, Ty.ks] using h
theorem A6.open {G : IM} {t : Tm} {cells : List Value} (h : A6 G t cells) : ∃ pt ct et pf cf ef p c es,
  cells = [.int .i64 t.k, .string t.nm, .int .i64 t.num, .int .i64 t.ty.k, .slice pt t.ty.ks.length ct, .int .i64 t.fr.k, .slice pf t.fr.ks.length cf, .int .i64 t.lb, .slice p t.ks.length c] ∧
  H1 t.k ∧ H1 t.num ∧ H1 t.lb ∧ (H1 t.ty.k ∧ C4 G pt t.ty.ks.length ct 2 et ∧ C2 G t.ty.ks et) ∧ (H1 t.fr.k ∧ C4 G pf t.fr.ks.length cf 2 ef ∧ C2 G t.fr.ks ef) ∧ C4 G p t.ks.length c 9 es ∧ C7 G t.ks es := by
 obtain ⟨k, nm, num, ty, fr, lb, ks⟩ := t
 simp only [A6] at h
 obtain ⟨tc, fc, p, c, es, h1, h2, h3, h4, h5, h6, h7, h8⟩ := h
 obtain ⟨pt, ct, et, rfl, t1, t2, t3⟩ := h5.open
 obtain ⟨pf, cf, ef, rfl, f1, f2, f3⟩ := h6.open
 exact ⟨pt, ct, et, pf, cf, ef, p, c, es, h1, h2, h3, h4, ⟨t1, t2, t3⟩, ⟨f1, f2, f3⟩, h7, h8⟩
theorem A6.open9 {G : IM} {k : Int} {nm : ByteArray} {num : Int} {tk : Int} {tks : List Ty} {fk : Int} {fks : List Ty} {lb : Int} {ks : List Tm} {cells : List Value} (h : A6 G (.mk k nm num (.mk tk tks) (.mk fk fks) lb ks) cells) :
  ∃ pt ct pf cf p c es, cells = [.int .i64 k, .string nm, .int .i64 num, .int .i64 tk, .slice pt tks.length ct, .int .i64 fk, .slice pf fks.length cf, .int .i64 lb, .slice p ks.length c] ∧
  H1 k ∧ H1 num ∧ H1 lb ∧ B6 G (.mk tk tks) [.int .i64 tk, .slice pt tks.length ct] ∧ B6 G (.mk fk fks) [.int .i64 fk, .slice pf fks.length cf] ∧ C4 G p ks.length c 9 es ∧ C7 G ks es := by
 obtain ⟨pt, ct, et, pf, cf, ef, p, c, es, h1, h2, h3, h4, ⟨t1, t2, t3⟩, ⟨f1, f2, f3⟩, h7, h8⟩ := h.open
 simp only [Tm.k, Tm.nm, Tm.num, Tm.ty, Tm.fr, Tm.lb, Tm.ks, Ty.k, Ty.ks] at h1 h2 h3 h4 t1 t2 t3 f1 f2 f3 h7 h8
 exact ⟨pt, ct, pf, cf, p, c, es, h1, h2, h3, h4, by simp only [B6]; exact ⟨_, _, et, rfl, t1, t2, t3⟩, by simp only [B6]; exact ⟨_, _, ef, rfl, f1, f2, f3⟩, h7, h8⟩
theorem B6.len {G : IM} {t : Ty} {cells : List Value} (h : B6 G t cells) : cells.length = 2 := by
 obtain ⟨_, _, _, rfl, _⟩ := h.open; rfl
theorem A6.len {G : IM} {t : Tm} {cells : List Value} (h : A6 G t cells) : cells.length = 9 := by
 obtain ⟨_, _, _, _, _, _, _, _, _, rfl, _⟩ := h.open; rfl

theorem C2.len {G : IM} : ∀ {ts : List Ty} {es : List (List Value)}, C2 G ts es → es.length = ts.length
 | [], es, h => by simp only [C2] at h; subst h; rfl
 | t :: ts, es, h => by
  simp only [C2] at h
  obtain ⟨a, r, rfl, _, h3⟩ := h
  simp [h3.len]
theorem C7.len {G : IM} : ∀ {ts : List Tm} {es : List (List Value)}, C7 G ts es → es.length = ts.length
 | [], es, h => by simp only [C7] at h; subst h; rfl
 | t :: ts, es, h => by
  simp only [C7] at h
  obtain ⟨a, r, rfl, _, h3⟩ := h
  simp [h3.len]
theorem C2.get {G : IM} : ∀ {ts : List Ty} {es : List (List Value)}, C2 G ts es → ∀ {i : Nat} {t : Ty}, ts[i]? = some t → ∃ e, es[i]? = some e ∧ B6 G t e
 | [], es, h, i, t, hi => by simp at hi
 | t' :: ts, es, h, i, t, hi => by
  simp only [C2] at h
  obtain ⟨a, r, rfl, h2, h3⟩ := h
  cases i with
  | zero => simp at hi; subst hi; exact ⟨a, rfl, h2⟩
  | succ i => obtain ⟨e, he, hr⟩ := h3.get (i := i) (by simpa using hi); exact ⟨e, by simpa using he, hr⟩
theorem C7.get {G : IM} : ∀ {ts : List Tm} {es : List (List Value)}, C7 G ts es → ∀ {i : Nat} {t : Tm}, ts[i]? = some t → ∃ e, es[i]? = some e ∧ A6 G t e
 | [], es, h, i, t, hi => by simp at hi
 | t' :: ts, es, h, i, t, hi => by
  simp only [C7] at h
  obtain ⟨a, r, rfl, h2, h3⟩ := h
  cases i with
  | zero => simp at hi; subst hi; exact ⟨a, rfl, h2⟩
  | succ i => obtain ⟨e, he, hr⟩ := h3.get (i := i) (by simpa using hi); exact ⟨e, by simpa using he, hr⟩
theorem C2.all {G : IM} {ts : List Ty} {es : List (List Value)} (h : C2 G ts es) : ∀ e ∈ es, e.length = 2 := by
 intro e he
 obtain ⟨i, hi⟩ := List.getElem?_of_mem he
 have hlt : i < ts.length := by have := (List.getElem?_eq_some_iff.1 hi).1; rw [h.len] at this; exact this
 obtain ⟨e', he', hr⟩ := h.get (i := i) (t := ts[i]) (by simp [hlt])
 rw [hi] at he'; cases he'; exact hr.len
theorem C7.all {G : IM} {ts : List Tm} {es : List (List Value)} (h : C7 G ts es) : ∀ e ∈ es, e.length = 9 := by
 intro e he
 obtain ⟨i, hi⟩ := List.getElem?_of_mem he
 have hlt : i < ts.length := by have := (List.getElem?_eq_some_iff.1 hi).1; rw [h.len] at this; exact this
 obtain ⟨e', he', hr⟩ := h.get (i := i) (t := ts[i]) (by simp [hlt])
 rw [hi] at he'; cases he'; exact hr.len

theorem B6.one {G : IM} {t : Ty} {cells : List Value} (h : B6 G t cells) : cells.all (·.oneCell') = true := by
 obtain ⟨_, _, _, rfl, _⟩ := h.open; rfl
theorem A6.one {G : IM} {t : Tm} {cells : List Value} (h : A6 G t cells) : cells.all (·.oneCell') = true := by
 obtain ⟨_, _, _, _, _, _, _, _, _, rfl, _⟩ := h.open; rfl

theorem Ty.ind {C : Ty → Prop} (h : ∀ k ks, (∀ t ∈ ks, C t) → C (.mk k ks)) : ∀ t, C t
 | .mk k ks => h k ks fun t ht => Ty.ind h t
termination_by t => SizeOf.sizeOf t
decreasing_by
 have := List.sizeOf_lt_of_mem ht
 simp only [Ty.mk.sizeOf_spec]; omega
theorem Tm.ind {C : Tm → Prop} (h : ∀ k nm num ty fr lb ks, (∀ t ∈ ks, C t) → C (.mk k nm num ty fr lb ks)) : ∀ t, C t
 | .mk k nm num ty fr lb ks => h k nm num ty fr lb ks fun t ht => Tm.ind h t
termination_by t => SizeOf.sizeOf t
decreasing_by
 have := List.sizeOf_lt_of_mem ht
 simp only [Tm.mk.sizeOf_spec]; omega

def B2 (G' G : IM) : IM := fun b => match G b with | none => G' b | some _ => none
theorem B2.le (G' G : IM) : B7 (B2 G' G) G' := by
 intro b l h
 unfold B2 at h
 split at h
 ·exact h
 ·cases h
theorem B2.mono {G' G'' G : IM} (h : B7 G' G'') : B7 (B2 G' G) (B2 G'' G) := by
 intro b l hb
 unfold B2 at hb ⊢
 split at hb
 ·exact h b l hb
 ·cases hb
theorem B2.anti {G' G G0 : IM} (h : B7 G0 G) : B7 (B2 G' G) (B2 G' G0) := by
 intro b l hb
 unfold B2 at hb ⊢
 split at hb
 ·rename_i h0
  cases h1 : G0 b with
  | none => exact hb
  | some l' => rw [h b l' h1] at h0; cases h0
 ·cases hb
theorem B2.out {G' G : IM} {b : Nat} (h : B2 G' G b ≠ none) : G b = none := by
 unfold B2 at h
 split at h
 ·assumption
 ·exact absurd rfl h
theorem Sl.dif {G' G G0 : IM} {p : Option Addr} {n c sz : Nat} {cs : List Value} (h : Sl G' p n c sz cs) (hp : ∀ b ∈ H4 p, G b = none) (hle : B7 G0 G) : Sl (B2 G' G0) p n c sz cs := by
 obtain ⟨h1, h2, h3, h4⟩ := h
 refine ⟨h1, h2, h3, h4.imp id ?_⟩
 rintro ⟨b, o, full, rfl, e2, e3⟩
 refine ⟨b, o, full, rfl, ?_, e3⟩
 have hb := hp b (by simp [H4])
 have h0 : G0 b = none := by
  cases h1 : G0 b with
  | none => rfl
  | some l => rw [hle b l h1] at hb; cases hb
 simp [B2, h0, e2]

mutual
def N0 (G : IM) : Ty → List Value → List Nat → Prop
 | .mk k ks, cells, F => ∃ p c es Fs, cells = [.int .i64 k, .slice p ks.length c] ∧ H1 k ∧ C4 G p ks.length c 2 es ∧ L8 G ks es Fs ∧ F = H4 p ++ Fs ∧ (∀ b ∈ H4 p, G b ≠ none)
def L8 (G : IM) : List Ty → List (List Value) → List Nat → Prop
 | [], es, F => es = [] ∧ F = []
 | t :: ts, es, F => ∃ a r Fa Fr, es = a :: r ∧ N0 G t a Fa ∧ L8 G ts r Fr ∧ F = Fa ++ Fr
end
mutual
theorem N0.R {G : IM} : ∀ {t : Ty} {cells : List Value} {F : List Nat}, N0 G t cells F → B6 G t cells
 | .mk k ks, cells, F, h => by
  simp only [N0] at h
  obtain ⟨p, c, es, Fs, h1, h2, h3, h4, _⟩ := h
  simp only [B6]
  exact ⟨p, c, es, h1, h2, h3, L8.R h4⟩
theorem L8.R {G : IM} : ∀ {ts : List Ty} {es : List (List Value)} {F : List Nat}, L8 G ts es F → C2 G ts es
 | [], es, F, h => by simp only [L8] at h; simp only [C2]; exact h.1
 | t :: ts, es, F, h => by
  simp only [L8] at h
  obtain ⟨a, r, Fa, Fr, h1, h2, h3, _⟩ := h
  simp only [C2]
  exact ⟨a, r, h1, N0.R h2, L8.R h3⟩
end
mutual
theorem N0.mono {G G' : IM} (hg : B7 G G') : ∀ {t : Ty} {cells : List Value} {F : List Nat}, N0 G t cells F → N0 G' t cells F
 | .mk k ks, cells, F, h => by
  simp only [N0] at h ⊢
  obtain ⟨p, c, es, Fs, h1, h2, h3, h4, h5, h6⟩ := h
  exact ⟨p, c, es, Fs, h1, h2, h3.mono hg, L8.mono hg h4, h5, fun b hb => by cases hgb : G b with | none => exact absurd hgb (h6 b hb) | some l => rw [hg b l hgb]; simp⟩
theorem L8.mono {G G' : IM} (hg : B7 G G') : ∀ {ts : List Ty} {es : List (List Value)} {F : List Nat}, L8 G ts es F → L8 G' ts es F
 | [], es, F, h => by simpa only [L8] using h
 | t :: ts, es, F, h => by
  simp only [L8] at h ⊢
  obtain ⟨a, r, Fa, Fr, h1, h2, h3, h4⟩ := h
  exact ⟨a, r, Fa, Fr, h1, N0.mono hg h2, L8.mono hg h3, h4⟩
end
mutual
theorem N0.inG {G : IM} : ∀ {t : Ty} {cells : List Value} {F : List Nat}, N0 G t cells F → ∀ b ∈ F, G b ≠ none
 | .mk k ks, cells, F, h => by
  simp only [N0] at h
  obtain ⟨p, c, es, Fs, h1, h2, h3, h4, rfl, h6⟩ := h
  intro b hb
  rcases List.mem_append.1 hb with hb | hb
  ·exact h6 b hb
  ·exact L8.inG h4 b hb
theorem L8.inG {G : IM} : ∀ {ts : List Ty} {es : List (List Value)} {F : List Nat}, L8 G ts es F → ∀ b ∈ F, G b ≠ none
 | [], es, F, h => by simp only [L8] at h; rw [h.2]; simp
 | t :: ts, es, F, h => by
  simp only [L8] at h
  obtain ⟨a, r, Fa, Fr, h1, h2, h3, rfl⟩ := h
  intro b hb
  rcases List.mem_append.1 hb with hb | hb
  ·exact N0.inG h2 b hb
  ·exact L8.inG h3 b hb
end
theorem L8.snoc {G : IM} : ∀ {ts : List Ty} {es : List (List Value)} {F : List Nat} {t : Ty} {a : List Value} {Fa : List Nat}, L8 G ts es F → N0 G t a Fa → L8 G (ts ++ [t]) (es ++ [a]) (F ++ Fa)
 | [], es, F, t, a, Fa, h, h2 => by
  simp only [L8] at h
  obtain ⟨rfl, rfl⟩ := h
  simp only [List.nil_append, L8]
  exact ⟨a, [], Fa, [], rfl, h2, ⟨rfl, rfl⟩, by simp⟩
 | t' :: ts, es, F, t, a, Fa, h, h2 => by
  simp only [L8] at h
  obtain ⟨a', r, Fa', Fr, rfl, h3, h4, rfl⟩ := h
  simp only [List.cons_append, L8]
  exact ⟨a', r ++ [a], Fa', Fr ++ Fa, rfl, h3, L8.snoc h4 h2, by simp⟩

theorem C4.kidTy {G : IM} {p : Option Addr} {n c : Nat} {es : List (List Value)} {ks : List Ty} (h : C4 G p n c 2 es) (hk : C2 G ks es) {i : Nat} (hi : i < n) (hn : i < ks.length) :
  ∃ b o p2 c2, p = some ⟨b, o, none⟩ ∧ (∀ hp, At hp G b (o + i * 2) [.int .i64 ks[i].k, .slice p2 ks[i].ks.length c2]) ∧ B6 G ks[i] [.int .i64 ks[i].k, .slice p2 ks[i].ks.length c2] ∧ G b ≠ none := by
 obtain ⟨e, b, o, he, h1, h2, h3, h4, h5⟩ := h.get hi
 obtain ⟨e', he', hr⟩ := hk.get (i := i) (t := ks[i]) (by simp [hn])
 rw [he] at he'; cases he'
 obtain ⟨p2, c2, _, rfl, _⟩ := hr.open
 exact ⟨b, o, p2, c2, h1, h4, hr, h5⟩

theorem L8.step {G Gi G1 : IM} {ks : List Ty} {i : Nat} {es : List (List Value)} {F F' : List Nat} {a : List Value} (h : L8 (B2 Gi G) (ks.take i) es F) (hn : F.Nodup) (hle : B7 G Gi) (hle1 : B7 Gi G1) (hi : i < ks.length)
  (ha : N0 (B2 G1 Gi) ks[i] a F') (hn' : F'.Nodup) : L8 (B2 G1 G) (ks.take (i + 1)) (es ++ [a]) (F ++ F') ∧ (F ++ F').Nodup := by
 constructor
 ·rw [List.take_succ_eq_append_getElem hi]
  exact L8.snoc (h.mono (B2.mono hle1)) (ha.mono (B2.anti hle))
 ·rw [List.nodup_append]
  refine ⟨hn, hn', ?_⟩
  rintro x hx y hy rfl
  have h1 := h.inG x hx
  have h2 := B2.out (ha.inG x hy)
  apply h1
  cases hd : B2 Gi G x with
  | none => rfl
  | some l => rw [B2.le _ _ x l hd] at h2; cases h2
theorem N0.fin {G Gi G2 : IM} {k : Int} {ks : List Ty} {es : List (List Value)} {F : List Nat} {p : Option Addr} {c : Nat} (h : L8 (B2 Gi G) ks es F) (hn : F.Nodup) (hle : B7 G Gi) (hle2 : B7 Gi G2)
  (hsl : Sl G2 p ks.length c 2 es.flatten) (hnn : ∀ b ∈ H4 p, Gi b = none ∧ G2 b ≠ none) (hk : H1 k) :
  ∃ F', N0 (B2 G2 G) (.mk k ks) [.int .i64 k, .slice p ks.length c] F' ∧ F'.Nodup := by
 have hno := fun b hb => (hnn b hb).1
 have hin := fun b hb => (hnn b hb).2
 have hR := h.R
 refine ⟨H4 p ++ F, ?_, ?_⟩
 ·simp only [N0]
  refine ⟨p, c, es, F, rfl, hk, C4.of (hsl.dif hno hle) hR.len hR.all ?_, h.mono (B2.mono hle2), rfl, ?_⟩
  ·intro e he
   obtain ⟨i, hi⟩ := List.getElem?_of_mem he
   have hlt : i < ks.length := by have := (List.getElem?_eq_some_iff.1 hi).1; rw [hR.len] at this; exact this
   obtain ⟨e', he', hr⟩ := hR.get (i := i) (t := ks[i]) (by simp [hlt])
   rw [hi] at he'; cases he'; exact hr.one
  ·intro b hb
   have h0 := hno b hb
   cases hg : G b with
   | none => simpa [B2, hg] using hin b hb
   | some l => rw [hle b l hg] at h0; cases h0
 ·rw [List.nodup_append]
  refine ⟨by cases p <;> simp [H4], hn, ?_⟩
  rintro x hx y hy rfl
  have h1 := h.inG x hy
  have h2 := hno x hx
  apply h1
  cases hd : B2 Gi G x with
  | none => rfl
  | some l => rw [B2.le _ _ x l hd] at h2; cases h2

def A0q (q : Nat → Bool) (n : Nat) : Int := match (List.range n).find? q with | some i => i | none => -1
theorem A4K {q : Nat → Bool} {n : Nat} (h : ∀ j, j < n → q j = false) : A0q q n = -1 := by
 have : (List.range n).find? q = none := by
  rw [List.find?_eq_none]
  intro x hx
  rw [h x (List.mem_range.1 hx)]; simp
 simp [A0q, this]
theorem A6t {q : Nat → Bool} {n i : Nat} (hi : i < n) (h : ∀ j, j < i → q j = false) (hq : q i = true) : A0q q n = i := by
 have : (List.range n).find? q = some i := by
  rw [List.find?_eq_some_iff_append]
  refine ⟨hq, List.range i, (List.range n).drop (i + 1), ?_, ?_⟩
  ·apply List.ext_getElem?
   intro k
   simp only [List.getElem?_append, List.length_range, List.getElem?_range', List.getElem?_cons, List.getElem?_drop]
   by_cases h1 : k < i
   ·simp [h1, show k < n by omega]
   ·by_cases h2 : k = i
    ·subst h2; simp [hi]
    ·have h3 : k - i ≠ 0 := by omega
     simp only [h1, if_false, h3]
     rw [show i + 1 + (k - i - 1) = k by omega]
  ·intro a ha
   simp [h a (List.mem_range.1 ha)]
 simp [A0q, this]

def R4 (n lo hi : Int) : Bool := decide (lo ≤ n ∧ n ≤ hi)
theorem A4L {n lo hi : Int} (h : R4 n lo hi = true) : lo ≤ n ∧ n ≤ hi := by simpa [R4] using h
theorem A6u {n lo hi : Int} (h : R4 n lo hi = false) : ¬(lo ≤ n ∧ n ≤ hi) := by simpa [R4] using h
def A0r (k : Int) : Int := if k = 1 ∨ k = 2 ∨ k = 3 then 0 else if k = 4 ∨ k = 5 then 2 else -1
theorem M3 (k : Int) : (k = 1 ∨ k = 2 ∨ k = 3 → A0r k = 0) ∧ (k = 4 ∨ k = 5 → A0r k = 2) ∧ (k ≠ 1 → k ≠ 2 → k ≠ 3 → k ≠ 4 → k ≠ 5 → A0r k = -1) := by
 unfold A0r; split <;> try split
 all_goals omega
def D9 (k : Int) : Int := if k = 1 ∨ k = 2 ∨ k = 3 ∨ k = 4 then 0 else if k = 5 ∨ k = 11 ∨ k = 12 ∨ k = 13 ∨ k = 14 then 1 else if k = 6 ∨ k = 7 ∨ k = 8 ∨ k = 10 then 2 else if k = 9 then 3 else -1

mutual
def K4 : Ty → Int → Bool
 | .mk k ks, d => decide (d ≤ 4) && decide (A0r k = ks.length) && T3 ks (d + 1)
def T3 : List Ty → Int → Bool
 | [], _ => true
 | t :: ts, d => K4 t d && T3 ts d
end
theorem A3M : ∀ (ts : List Ty) (d : Int), T3 ts d = true ↔ ∀ i, (h : i < ts.length) → K4 ts[i] d = true
 | [], d => by simp [T3]
 | t :: ts, d => by
  simp only [T3, Bool.and_eq_true, A3M ts d]
  constructor
  ·rintro ⟨h1, h2⟩ i hi
   cases i with
   | zero => exact h1
   | succ i => exact h2 i (by simpa using hi)
  ·intro h
   exact ⟨h 0 (by simp), fun i hi => h (i + 1) (by simpa using hi)⟩
def F4 (t : Ty) : Bool := K4 t 1
def X0 (t : Ty) : Bool := decide (t.k = 0 ∧ t.ks.length = 0)

mutual
def J5 : Ty → Ty → Bool
 | .mk k ks, t => decide (k = 1) || decide (t.k = 1) || (decide (k = t.k) && O9 ks t.ks)
def O9 : List Ty → List Ty → Bool
 | [], [] => true
 | a :: xs, b :: ys => J5 a b && O9 xs ys
 | _, _ => false
end
theorem W0 (k k' : Int) (ks ks' : List Ty) : J5 (.mk k ks) (.mk k' ks') = (decide (k = 1) || decide (k' = 1) || (decide (k = k') && O9 ks ks')) := by rw [J5]; rfl
theorem A1v : ∀ (xs ys : List Ty), O9 xs ys = true ↔ xs.length = ys.length ∧ ∀ i, (h : i < xs.length) → (h' : i < ys.length) → J5 xs[i] ys[i] = true
 | [], [] => by simp [O9]
 | [], b :: ys => by simp [O9]
 | a :: xs, [] => by simp [O9]
 | a :: xs, b :: ys => by
  simp only [O9, Bool.and_eq_true, A1v xs ys, List.length_cons]
  constructor
  ·rintro ⟨h1, h2, h3⟩
   refine ⟨by omega, fun i hi hi' => ?_⟩
   cases i with
   | zero => exact h1
   | succ i => exact h3 i (by simpa using hi) (by simpa using hi')
  ·rintro ⟨h1, h2⟩
   exact ⟨h2 0 (by simp) (by simp), by omega, fun i hi hi' => h2 (i + 1) (by simpa using hi) (by simpa using hi')⟩
def A0L (a b : Ty) : Bool := F4 a && F4 b && J5 a b
def X1 (s : ByteArray) : Bool := decide (s.size = 1 ∧ 97 ≤ (s.data.getD 0 0).toNat ∧ (s.data.getD 0 0).toNat ≤ 122)
def A0M (n : Int) : Bool := R4 n 1 99 || R4 n (-99) (-1)

theorem A3N {s : ByteArray} {j : Int} (h : j.toNat < s.size) : s[j.toNat]? = some (s.data.getD j.toNat 0) := by
 rw [getElem?_pos s j.toNat h]
 show some (s.data[j.toNat]'h) = _
 rw [Array.getD_eq_getD_getElem?, getElem?_pos s.data j.toNat h]
 rfl
theorem B0h {q : Nat → Bool} {n : Nat} : A0q q n < 0 ↔ ∀ j, j < n → q j = false := by
 constructor
 ·intro h j hj
  unfold A0q at h
  split at h
  ·omega
  ·rename_i hf
   have := List.find?_eq_none.1 hf j (List.mem_range.2 hj)
   simpa using this
 ·intro h; rw [A4K h]; omega
theorem A6v {q : Nat → Bool} {n : Nat} : 0 ≤ A0q q n ↔ ∃ j, j < n ∧ q j = true := by
 have h := @B0h q n
 constructor
 ·intro h0
  apply Classical.byContradiction
  intro hn
  have : A0q q n < 0 := h.2 fun j hj => by cases hq : q j with | false => rfl | true => exact absurd ⟨j, hj, hq⟩ hn
  omega
 ·rintro ⟨j, hj, hq⟩
  apply Classical.byContradiction
  intro hn
  rw [h.1 (by omega) j hj] at hq
  exact absurd hq (by simp)
theorem A6w {α : Type} (f : α → Bool) (ks : List α) (a : α) : decide (0 ≤ A0q (fun i => !f (ks.getD i a)) ks.length) = !ks.all f := by
 cases h : ks.all f with
 | true =>
  rw [List.all_eq_true] at h
  apply decide_eq_false
  rw [A6v]
  rintro ⟨j, hj, hq⟩
  rw [List.getD_eq_getElem?_getD, List.getElem?_eq_getElem hj, Option.getD_some, h _ (List.getElem_mem hj)] at hq
  exact absurd hq (by simp)
 | false =>
  apply decide_eq_true
  rw [A6v]
  apply Classical.byContradiction
  intro hn
  have : ks.all f = true := by
   rw [List.all_eq_true]
   intro x hx
   obtain ⟨j, hj, rfl⟩ := List.getElem_of_mem hx
   cases hf : f ks[j] with
   | true => rfl
   | false => exact absurd ⟨j, hj, by rw [List.getD_eq_getElem?_getD, List.getElem?_eq_getElem hj, Option.getD_some, hf]; rfl⟩ hn
  rw [h] at this
  exact absurd this (by simp)
theorem T4 : ∀ (ks : List Ty) (d : Int), T3 ks d = ks.all (K4 · d)
 | [], d => rfl
 | t :: ts, d => by simp [T3, T4 ts d]
theorem C2.inv {G : IM} : ∀ {ts : List Ty} {es : List (List Value)}, C2 G ts es → ∀ {i : Nat} {e : List Value}, es[i]? = some e → ∀ a, ts.getD i a ∈ ts ∧ B6 G (ts.getD i a) e
 | [], es, h, i, e, he, a => by
  have := h.len
  simp only [List.length_nil, List.length_eq_zero_iff] at this
  subst this; simp at he
 | t :: ts, es, h, i, e, he, a => by
  have hi : i < es.length := by
   apply Classical.byContradiction; intro hn; rw [List.getElem?_eq_none (by omega)] at he; simp at he
  have hl := h.len
  obtain ⟨e', he', hr⟩ := h.get (i := i) (t := (t :: ts)[i]'(by omega)) (by rw [List.getElem?_eq_getElem])
  rw [he] at he'
  obtain rfl := Option.some.inj he'
  rw [List.getD_eq_getElem?_getD, List.getElem?_eq_getElem (by omega), Option.getD_some]
  exact ⟨List.getElem_mem _, hr⟩
theorem C7.inv {G : IM} : ∀ {ts : List Tm} {es : List (List Value)}, C7 G ts es → ∀ {i : Nat} {e : List Value}, es[i]? = some e → ∀ a, ts.getD i a ∈ ts ∧ A6 G (ts.getD i a) e
 | [], es, h, i, e, he, a => by
  have := h.len
  simp only [List.length_nil, List.length_eq_zero_iff] at this
  subst this; simp at he
 | t :: ts, es, h, i, e, he, a => by
  have hi : i < es.length := by
   apply Classical.byContradiction; intro hn; rw [List.getElem?_eq_none (by omega)] at he; simp at he
  have hl := h.len
  obtain ⟨e', he', hr⟩ := h.get (i := i) (t := (t :: ts)[i]'(by omega)) (by rw [List.getElem?_eq_getElem])
  rw [he] at he'
  obtain rfl := Option.some.inj he'
  rw [List.getD_eq_getElem?_getD, List.getElem?_eq_getElem (by omega), Option.getD_some]
  exact ⟨List.getElem_mem _, hr⟩
def B5 : Ty := .mk 0 []
theorem B0i {p : Prop} [Decidable p] {x y : Bool} : ((if p then x else y) = true) ↔ ((p → x = true) ∧ (¬p → y = true)) := by by_cases h : p <;> simp [h]
theorem B0j {k : Int} (h : 1 ≤ k ∧ k ≤ 14) : ([Value.int .i64 0, .int .i64 0, .int .i64 0, .int .i64 0, .int .i64 1, .int .i64 2, .int .i64 2, .int .i64 2, .int .i64 3, .int .i64 2, .int .i64 1, .int .i64 1, .int .i64 1, .int .i64 1])[(k - 1).toNat]? = some (.int .i64 (D9 k)) := by
 have : k = 1 ∨ k = 2 ∨ k = 3 ∨ k = 4 ∨ k = 5 ∨ k = 6 ∨ k = 7 ∨ k = 8 ∨ k = 9 ∨ k = 10 ∨ k = 11 ∨ k = 12 ∨ k = 13 ∨ k = 14 := by omega
 rcases this with rfl | rfl | rfl | rfl | rfl | rfl | rfl | rfl | rfl | rfl | rfl | rfl | rfl | rfl <;> rfl
theorem A4M {k : Int} (h : ¬(1 ≤ k ∧ k ≤ 14)) : D9 k = -1 := by
 unfold D9; repeat (split; omega)
 rfl
theorem B0k {cs : List Value} {o : Nat} {v : Value} (h : cs[o]? = some v) : ∀ j u, [v][j]? = some u → cs[o + j]? = some u := by
 intro j u hj
 cases j with
 | zero => simpa using hj ▸ h
 | succ j => simp at hj
def T5 (k : Int) (nm : ByteArray) (num : Int) (ty fr : Ty) (lb : Int) (n : Nat) : Bool :=
 decide (D9 k = n) && (if k = 1 ∨ k = 5 then X1 nm else decide (nm = ⟨#[]⟩)) && (if k = 2 then R4 num 0 999 else R4 num 0 0) &&
 (if k = 5 ∨ k = 13 ∨ k = 14 then F4 ty else X0 ty) && (if k = 14 then A0L fr ty && A0M lb else X0 fr && decide (lb = 0))
theorem U3 {k : Int} {nm : ByteArray} {num : Int} {ty fr : Ty} {lb : Int} {n : Nat} : T5 k nm num ty fr lb n = true ↔
  D9 k = n ∧ (k = 1 ∨ k = 5 → X1 nm = true) ∧ (¬(k = 1 ∨ k = 5) → nm = ⟨#[]⟩) ∧ (k = 2 → R4 num 0 999 = true) ∧ (k ≠ 2 → R4 num 0 0 = true) ∧
  (k = 5 ∨ k = 13 ∨ k = 14 → F4 ty = true) ∧ (¬(k = 5 ∨ k = 13 ∨ k = 14) → X0 ty = true) ∧ (k = 14 → A0L fr ty = true ∧ A0M lb = true) ∧ (k ≠ 14 → X0 fr = true ∧ lb = 0) := by
 simp only [T5, Bool.and_eq_true, B0i, decide_eq_true_eq, and_assoc, ne_eq]
mutual
def R5 (M D N : Int) : Tm → Int → Int → Bool × Int
 | .mk k nm num ty fr lb ks, deep, c => if c + 1 > M ∨ deep > D ∨ k = N ∨ T5 k nm num ty fr lb ks.length = false then (false, c + 1) else S4 M D N ks (deep + 1) (c + 1)
def S4 (M D N : Int) : List Tm → Int → Int → Bool × Int
 | [], _, c => (true, c)
 | t :: ts, deep, c => if (R5 M D N t deep c).1 = true then S4 M D N ts deep (R5 M D N t deep c).2 else (false, (R5 M D N t deep c).2)
end
mutual
theorem A4N (M D N : Int) : ∀ (t : Tm) (deep c : Int), 0 ≤ c → c ≤ M → c < (R5 M D N t deep c).2 ∧ (R5 M D N t deep c).2 ≤ M + 1 ∧ ((R5 M D N t deep c).1 = true → (R5 M D N t deep c).2 ≤ M)
 | .mk k nm num ty fr lb ks, deep, c, h0, h1 => by
  rw [R5]
  split
  ·simp; omega
  ·rename_i h
   have := A6x M D N ks (deep + 1) (c + 1) (by omega) (by omega)
   exact ⟨by omega, this.2⟩
theorem A6x (M D N : Int) : ∀ (ts : List Tm) (deep c : Int), 0 ≤ c → c ≤ M → c ≤ (S4 M D N ts deep c).2 ∧ (S4 M D N ts deep c).2 ≤ M + 1 ∧ ((S4 M D N ts deep c).1 = true → (S4 M D N ts deep c).2 ≤ M)
 | [], deep, c, h0, h1 => by rw [S4]; simp; omega
 | t :: ts, deep, c, h0, h1 => by
  have := A4N M D N t deep c h0 h1
  rw [S4]
  split
  ·rename_i h
   have h2 := A6x M D N ts deep (R5 M D N t deep c).2 (by omega) (this.2.2 h)
   exact ⟨by omega, h2.2⟩
  ·simp; omega
end
def P7 (t : Tm) : Bool := (R5 200 40 13 t 1 0).1
def P0 (t : Tm) : Bool := (R5 30 12 14 t 1 0).1
theorem C4.kidTm {G : IM} {p : Option Addr} {n c : Nat} {es : List (List Value)} {ks : List Tm} (h : C4 G p n c 9 es) (hk : C7 G ks es) {i : Nat} (hi : i < n) (hn : i < ks.length) :
  ∃ b o e, p = some ⟨b, o, none⟩ ∧ e.length = 9 ∧ (∀ hp, At hp G b (o + i * 9) e) ∧ A6 G ks[i] e ∧ G b ≠ none := by
 obtain ⟨e, b, o, he, hp, hl, _, hat, hg⟩ := h.get hi
 have := (hk.inv he (ks[i])).2
 rw [List.getD_eq_getElem?_getD, List.getElem?_eq_getElem hn, Option.getD_some] at this
 exact ⟨b, o, e, hp, hl, hat, this, hg⟩
theorem A3O {M D N : Int} {k : Int} {nm : ByteArray} {num : Int} {ty fr : Ty} {lb : Int} {ks : List Tm} {deep c : Int} (h : c + 1 > M ∨ deep > D ∨ k = N ∨ T5 k nm num ty fr lb ks.length = false) :
  R5 M D N (.mk k nm num ty fr lb ks) deep c = (false, c + 1) := by rw [R5, if_pos h]
theorem B0l {M D N : Int} {k : Int} {nm : ByteArray} {num : Int} {ty fr : Ty} {lb : Int} {ks : List Tm} {deep c : Int} (h1 : ¬(c + 1 > M ∨ deep > D ∨ k = N)) (h2 : T5 k nm num ty fr lb ks.length = true) :
  R5 M D N (.mk k nm num ty fr lb ks) deep c = S4 M D N ks (deep + 1) (c + 1) := by
 rw [R5, if_neg]
 rw [h2]
 intro h
 apply h1
 rcases h with h | h | h | h
 ·exact .inl h
 ·exact .inr (.inl h)
 ·exact .inr (.inr h)
 ·cases h
theorem B0m {M D N : Int} {ks : List Tm} {i : Nat} {deep c : Int} (hi : i < ks.length) (h : (R5 M D N ks[i] deep c).1 = true) : S4 M D N (ks.drop i) deep c = S4 M D N (ks.drop (i + 1)) deep (R5 M D N ks[i] deep c).2 := by
 rw [List.drop_eq_getElem_cons hi, S4, if_pos h]
theorem B0n {M D N : Int} {ks : List Tm} {i : Nat} {deep c : Int} (hi : i < ks.length) (h : (R5 M D N ks[i] deep c).1 = false) : S4 M D N (ks.drop i) deep c = (false, (R5 M D N ks[i] deep c).2) := by
 rw [List.drop_eq_getElem_cons hi, S4, if_neg (by rw [h]; simp)]
theorem B0o {M D N : Int} {ks : List Tm} {i : Nat} {deep c : Int} (hi : i = ks.length) : S4 M D N (ks.drop i) deep c = (true, c) := by
 rw [hi, List.drop_length, S4]
section blk
variable {P : Program} {Γ : L7} {env : M0} {hp : List A4} {G : IM} {K : Po} {ops : Array Oper} {rest : List Oper}
theorem St.slc_blk {a : Act} {w : World} {b el sz n : Nat} {cs : List Value} {hp' : List A4} (hs : St Γ ⟨env, hp, G⟩ a w) (hk : Pk hp (.slc (some ⟨b, 0, none⟩) n el sz n cs) hp') :
  St Γ ⟨env, .blk b cs :: hp', G⟩ a w := by
 have hown : R7 [.slc (some ⟨b, 0, none⟩) n el sz n cs] G w := hs.res.own.of_mem hk.perm
 have hr : O3 [.slc (some ⟨b, 0, none⟩) n el sz n cs] G w [.blk b cs] G w := by
  refine ⟨⟨hown.inn, ?_, by simp [Fp, A4.fp], ?_⟩, Z9.refl _ _, B7.refl _, fun _ _ h => .inl h, ?_, fun b l h h0 => absurd h (by rw [h0]; simp)⟩
  ·intro e he
   simp at he; subst he
   obtain ⟨hl, h⟩ := hown.ok _ List.mem_cons_self
   rcases h with ⟨hv, _⟩ | ⟨g, cap, cur, hv, _, hg, _, _, hsz, ht⟩
   ·cases hv
   ·cases hv
    refine ⟨el, ?_⟩
    rw [hg]
    have : cur.toList = cs := by rw [← ht, List.take_of_length_le]; simp [hsz]
    rw [← this]
  ·intro b' hb; exact hown.disj b' (by simpa [Fp, A4.fp, H4] using hb)
  ·intro b' hb; exact .inr (by simpa [Fp, A4.fp, H4] using hb)
 exact ⟨hs.size, hs.nod, hs.env, by have := (hs.res.perm hk.perm).frame hr; simpa using this⟩
theorem B0p {b el sz n : Nat} {cs : List Value} {hp' : List A4} (hk : Pk hp (.slc (some ⟨b, 0, none⟩) n el sz n cs) hp') (h : E0 P Γ ops rest K ⟨env, .blk b cs :: hp', G⟩) : E0 P Γ ops rest K ⟨env, hp, G⟩ :=
 ⟨fun a w hs => h.run a w (hs.slc_blk hk)⟩
theorem A6y {d : Nat} {t el : TypeId} {i : L0} {sz by' : Nat} {zs : List Value} {ty : TypeId} {pos : String} {af : Array Edge} {gd : Option (Nat × Bool)} [hI : H6 P t i] (hd' : i.desc = .slice el) [hE : T9 P el sz by' zs] {x : Operand} {n : Nat}
  (hd : Nat.blt d Γ.n = true) (hx : evo env x = some (.int .i64 (n : Int))) (hb : by' * n ≤ 281474976710656) (hm : n ≤ maxLen) (hw : K3 ops env gd = some true)
  (k : ∀ b, E0 P Γ ops rest K ⟨(d, .slice (some ⟨b, 0, none⟩) n n) :: env, .blk b (V2 n zs) :: hp, G⟩) :
  E0 P Γ ops (⟨some d, .makeSlice t x x, ty, pos, af, gd⟩ :: rest) K ⟨env, hp, G⟩ :=
 K6 (A93 hd' hd hx hb hm) hw (by rintro _ ⟨b, rfl⟩; exact B0p .here (k b))
end blk

theorem A24 : ∀ {A B C V : List Value} {o : Nat}, A.length = o → B.length = V.length → O5 (A ++ (B ++ C)) o V = some (A ++ (V ++ C))
 | [], B, C, V, o, h, hv => by
  simp at h; subst h
  simp only [List.nil_append]
  induction B generalizing V with
  | nil => cases V with
   | nil => cases C <;> rfl
   | cons v V => simp at hv
  | cons b B ih => cases V with
   | nil => simp at hv
   | cons v V =>
    simp only [List.cons_append, O5, ih (V := V) (by simpa using hv)]
 | a :: A, B, C, V, o, h, hv => by
  simp at h; subst h
  simp only [List.cons_append, O5, A24 (A := A) (B := B) (C := C) rfl hv]
theorem Z6 {sz : Nat} : ∀ {es : List (List Value)}, (∀ e ∈ es, e.length = sz) → es.flatten.length = es.length * sz
 | [], _ => by simp
 | e :: es, h => by
  rw [List.flatten_cons, List.length_append, h e List.mem_cons_self, Z6 (es := es) fun x hx => h x (List.mem_cons_of_mem _ hx), List.length_cons, Nat.succ_mul]; omega
theorem A6z {es : List (List Value)} {n i sz : Nat} {Z V : List Value} (hl : es.length = i) (ha : ∀ e ∈ es, e.length = sz) (hz : Z.length = sz) (hv : V.length = sz) (hi : i < n) :
  O5 (es.flatten ++ V2 (n - i) Z) (0 + i * sz) V = some ((es ++ [V]).flatten ++ V2 (n - (i + 1)) Z) := by
 have hz' : V2 (n - i) Z = Z ++ V2 (n - (i + 1)) Z := by
  rw [show n - i = (n - (i + 1)) + 1 by omega]; rfl
 rw [hz', A24 (by rw [Z6 ha, hl]; omega) (by rw [hz, hv])]
 simp
theorem A6A (X Z : List Value) (n : Nat) : X ++ V2 (n - n) Z = X := by rw [Nat.sub_self]; simp [V2]
theorem A6B {G : IM} {b n sz : Nat} {cs : List Value} (hl : cs.length = n * sz) (hn : n ≤ maxLen) : Sl (Wi G [(b, cs)]) (some ⟨b, 0, none⟩) n n sz cs :=
 ⟨hl, Nat.le_refl _, hn, .inr ⟨b, 0, cs, rfl, by simp [Wi, List.lookup], fun j v h => by simpa using h⟩⟩
theorem A6C {G : IM} {b : Nat} {cs : List Value} (hd : ∀ q ∈ [((b, cs) : Nat × List Value)], G q.1 = none) : ∀ x ∈ H4 (some ⟨b, 0, none⟩), G x = none ∧ Wi G [(b, cs)] x ≠ none := by
 intro x hx
 simp [H4] at hx; subst hx
 exact ⟨hd _ List.mem_cons_self, by simp [Wi, List.lookup]⟩

def A1Z (G : IM) (ks : List Ty) (p : Option Addr) (c : Nat) (F : List Nat) : Prop := ∃ es Fs, C4 G p ks.length c 2 es ∧ L8 G ks es Fs ∧ F = H4 p ++ Fs ∧ (∀ b ∈ H4 p, G b ≠ none)
theorem A1Z.ty {G : IM} {k : Int} {ks : List Ty} {p : Option Addr} {c : Nat} {F : List Nat} (h : A1Z G ks p c F) (hk : H1 k) : N0 G (.mk k ks) [.int .i64 k, .slice p ks.length c] F := by
 obtain ⟨es, Fs, h1, h2, h3, h4⟩ := h
 simp only [N0]
 exact ⟨p, c, es, Fs, rfl, hk, h1, h2, h3, h4⟩
theorem N0.open {G : IM} {t : Ty} {cells : List Value} {F : List Nat} (h : N0 G t cells F) : ∃ p c, cells = [.int .i64 t.k, .slice p t.ks.length c] ∧ H1 t.k ∧ A1Z G t.ks p c F := by
 cases t
 simp only [N0] at h
 obtain ⟨p, c, es, Fs, h0, hk, h1, h2, h3, h4⟩ := h
 exact ⟨p, c, h0, hk, es, Fs, h1, h2, h3, h4⟩
theorem A1Z.fin {G Gi G2 : IM} {ks : List Ty} {es : List (List Value)} {F : List Nat} {p : Option Addr} {c : Nat} (h : L8 (B2 Gi G) ks es F) (hn : F.Nodup) (hle : B7 G Gi) (hle2 : B7 Gi G2)
  (hsl : Sl G2 p ks.length c 2 es.flatten) (hnn : ∀ b ∈ H4 p, Gi b = none ∧ G2 b ≠ none) :
  ∃ F', A1Z (B2 G2 G) ks p c F' ∧ F'.Nodup := by
 obtain ⟨F', h1, h2⟩ := N0.fin (k := 0) h hn hle hle2 hsl hnn ⟨by omega, by omega⟩
 obtain ⟨p', c', h3, _, h4⟩ := h1.open
 simp only [Ty.ks, Ty.k, List.cons.injEq, Value.slice.injEq, true_and, and_true] at h3
 obtain ⟨rfl, rfl⟩ := h3
 exact ⟨F', h4, h2⟩

mutual
def N2 (G : IM) : Tm → List Value → List Nat → Prop
 | .mk k nm num ty fr lb ks, cells, F => ∃ tc fc p c es Ft Ff Fs, cells = [.int .i64 k, .string nm, .int .i64 num] ++ tc ++ fc ++ [.int .i64 lb, .slice p ks.length c] ∧ H1 k ∧ H1 num ∧ H1 lb ∧ N0 G ty tc Ft ∧ N0 G fr fc Ff ∧
   C4 G p ks.length c 9 es ∧ L9 G ks es Fs ∧ F = Ft ++ (Ff ++ (H4 p ++ Fs)) ∧ (∀ b ∈ H4 p, G b ≠ none)
def L9 (G : IM) : List Tm → List (List Value) → List Nat → Prop
 | [], es, F => es = [] ∧ F = []
 | t :: ts, es, F => ∃ a r Fa Fr, es = a :: r ∧ N2 G t a Fa ∧ L9 G ts r Fr ∧ F = Fa ++ Fr
end
def A1w (G : IM) (ks : List Tm) (p : Option Addr) (c : Nat) (F : List Nat) : Prop := ∃ es Fs, C4 G p ks.length c 9 es ∧ L9 G ks es Fs ∧ F = H4 p ++ Fs ∧ (∀ b ∈ H4 p, G b ≠ none)
mutual
theorem N2.R {G : IM} : ∀ {t : Tm} {cells : List Value} {F : List Nat}, N2 G t cells F → A6 G t cells
 | .mk k nm num ty fr lb ks, cells, F, h => by
  simp only [N2] at h
  obtain ⟨tc, fc, p, c, es, Ft, Ff, Fs, h1, h2, h3, h4, h5, h6, h7, h8, _⟩ := h
  simp only [A6]
  exact ⟨tc, fc, p, c, es, h1, h2, h3, h4, h5.R, h6.R, h7, L9.R h8⟩
theorem L9.R {G : IM} : ∀ {ts : List Tm} {es : List (List Value)} {F : List Nat}, L9 G ts es F → C7 G ts es
 | [], es, F, h => by simp only [L9] at h; simp only [C7]; exact h.1
 | t :: ts, es, F, h => by
  simp only [L9] at h
  obtain ⟨a, r, Fa, Fr, h1, h2, h3, _⟩ := h
  simp only [C7]
  exact ⟨a, r, h1, N2.R h2, L9.R h3⟩
end
theorem A2x {G G' : IM} (hg : B7 G G') {F : List Nat} (h : ∀ b ∈ F, G b ≠ none) : ∀ b ∈ F, G' b ≠ none := fun b hb => by
 cases hgb : G b with
 | none => exact absurd hgb (h b hb)
 | some l => rw [hg b l hgb]; simp
mutual
theorem N2.mono {G G' : IM} (hg : B7 G G') : ∀ {t : Tm} {cells : List Value} {F : List Nat}, N2 G t cells F → N2 G' t cells F
 | .mk k nm num ty fr lb ks, cells, F, h => by
  simp only [N2] at h ⊢
  obtain ⟨tc, fc, p, c, es, Ft, Ff, Fs, h1, h2, h3, h4, h5, h6, h7, h8, h9, h10⟩ := h
  exact ⟨tc, fc, p, c, es, Ft, Ff, Fs, h1, h2, h3, h4, h5.mono hg, h6.mono hg, h7.mono hg, L9.mono hg h8, h9, A2x hg h10⟩
theorem L9.mono {G G' : IM} (hg : B7 G G') : ∀ {ts : List Tm} {es : List (List Value)} {F : List Nat}, L9 G ts es F → L9 G' ts es F
 | [], es, F, h => by simpa only [L9] using h
 | t :: ts, es, F, h => by
  simp only [L9] at h ⊢
  obtain ⟨a, r, Fa, Fr, h1, h2, h3, h4⟩ := h
  exact ⟨a, r, Fa, Fr, h1, N2.mono hg h2, L9.mono hg h3, h4⟩
end
mutual
theorem N2.inG {G : IM} : ∀ {t : Tm} {cells : List Value} {F : List Nat}, N2 G t cells F → ∀ b ∈ F, G b ≠ none
 | .mk k nm num ty fr lb ks, cells, F, h => by
  simp only [N2] at h
  obtain ⟨tc, fc, p, c, es, Ft, Ff, Fs, h1, h2, h3, h4, h5, h6, h7, h8, rfl, h10⟩ := h
  intro b hb
  simp only [List.mem_append] at hb
  rcases hb with hb | hb | hb | hb
  ·exact h5.inG b hb
  ·exact h6.inG b hb
  ·exact h10 b hb
  ·exact L9.inG h8 b hb
theorem L9.inG {G : IM} : ∀ {ts : List Tm} {es : List (List Value)} {F : List Nat}, L9 G ts es F → ∀ b ∈ F, G b ≠ none
 | [], es, F, h => by simp only [L9] at h; rw [h.2]; simp
 | t :: ts, es, F, h => by
  simp only [L9] at h
  obtain ⟨a, r, Fa, Fr, h1, h2, h3, rfl⟩ := h
  intro b hb
  rcases List.mem_append.1 hb with hb | hb
  ·exact N2.inG h2 b hb
  ·exact L9.inG h3 b hb
end
theorem L9.snoc {G : IM} : ∀ {ts : List Tm} {es : List (List Value)} {F : List Nat} {t : Tm} {a : List Value} {Fa : List Nat}, L9 G ts es F → N2 G t a Fa → L9 G (ts ++ [t]) (es ++ [a]) (F ++ Fa)
 | [], es, F, t, a, Fa, h, h2 => by
  simp only [L9] at h
  obtain ⟨rfl, rfl⟩ := h
  simp only [List.nil_append, L9]
  exact ⟨a, [], Fa, [], rfl, h2, ⟨rfl, rfl⟩, by simp⟩
 | t' :: ts, es, F, t, a, Fa, h, h2 => by
  simp only [L9] at h
  obtain ⟨a', r, Fa', Fr, rfl, h3, h4, rfl⟩ := h
  simp only [List.cons_append, L9]
  exact ⟨a', r ++ [a], Fa', Fr ++ Fa, rfl, h3, L9.snoc h4 h2, by simp⟩
theorem A10 {G Gi : IM} {F F' : List Nat} {G1 : IM} (h : ∀ b ∈ F, B2 Gi G b ≠ none) (h' : ∀ b ∈ F', B2 G1 Gi b ≠ none) : ∀ x ∈ F, ∀ y ∈ F', x ≠ y := by
 rintro x hx y hy rfl
 have h1 := h x hx
 have h2 := B2.out (h' x hy)
 apply h1
 cases hd : B2 Gi G x with
 | none => rfl
 | some l => rw [B2.le _ _ x l hd] at h2; cases h2
theorem L9.step {G Gi G1 : IM} {ks : List Tm} {i : Nat} {es : List (List Value)} {F F' : List Nat} {a : List Value} (h : L9 (B2 Gi G) (ks.take i) es F) (hn : F.Nodup) (hle : B7 G Gi) (hle1 : B7 Gi G1) (hi : i < ks.length)
  (ha : N2 (B2 G1 Gi) ks[i] a F') (hn' : F'.Nodup) : L9 (B2 G1 G) (ks.take (i + 1)) (es ++ [a]) (F ++ F') ∧ (F ++ F').Nodup := by
 constructor
 ·rw [List.take_succ_eq_append_getElem hi]
  exact L9.snoc (h.mono (B2.mono hle1)) (ha.mono (B2.anti hle))
 ·rw [List.nodup_append]
  exact ⟨hn, hn', A10 h.inG ha.inG⟩
theorem A6D (p : Option Addr) : (H4 p).Nodup := by cases p <;> simp [H4]
theorem A1w.fin {G Gi G2 : IM} {ks : List Tm} {es : List (List Value)} {F : List Nat} {p : Option Addr} {c : Nat} (h : L9 (B2 Gi G) ks es F) (hn : F.Nodup) (hle : B7 G Gi) (hle2 : B7 Gi G2)
  (hsl : Sl G2 p ks.length c 9 es.flatten) (hnn : ∀ b ∈ H4 p, Gi b = none ∧ G2 b ≠ none) :
  ∃ F', A1w (B2 G2 G) ks p c F' ∧ F'.Nodup := by
 have hR := h.R
 have hin : ∀ b ∈ H4 p, B2 G2 G b ≠ none := by
  intro b hb
  have h0 := (hnn b hb).1
  cases hg : G b with
  | none => simpa [B2, hg] using (hnn b hb).2
  | some l => rw [hle b l hg] at h0; cases h0
 refine ⟨H4 p ++ F, ⟨es, F, C4.of (hsl.dif (fun b hb => (hnn b hb).1) hle) hR.len hR.all ?_, h.mono (B2.mono hle2), rfl, hin⟩, ?_⟩
 ·intro e he
  obtain ⟨i, hi⟩ := List.getElem?_of_mem he
  have hlt : i < ks.length := by have := (List.getElem?_eq_some_iff.1 hi).1; rw [hR.len] at this; exact this
  obtain ⟨e', he', hr⟩ := hR.get (i := i) (t := ks[i]) (by simp [hlt])
  rw [hi] at he'; cases he'; exact hr.one
 ·rw [List.nodup_append]
  refine ⟨A6D p, hn, ?_⟩
  rintro x hx y hy rfl
  have h1 := h.inG x hy
  have h2 := (hnn x hx).1
  apply h1
  cases hd : B2 Gi G x with
  | none => rfl
  | some l => rw [B2.le _ _ x l hd] at h2; cases h2
theorem N2.mk3 {G G1 G2 G3 : IM} {k : Int} {nm : ByteArray} {num : Int} {ty fr : Ty} {lb : Int} {ks : List Tm} {tc fc : List Value} {p : Option Addr} {c : Nat} {F1 F2 F3 : List Nat} (hk : H1 k) (hnum : H1 num) (hlb : H1 lb)
  (hl1 : B7 G G1) (hl2 : B7 G1 G2) (hl3 : B7 G2 G3) (h1 : N0 (B2 G1 G) ty tc F1) (n1 : F1.Nodup) (h2 : N0 (B2 G2 G1) fr fc F2) (n2 : F2.Nodup) (h3 : A1w (B2 G3 G2) ks p c F3) (n3 : F3.Nodup) :
  ∃ F, N2 (B2 G3 G) (.mk k nm num ty fr lb ks) ([.int .i64 k, .string nm, .int .i64 num] ++ tc ++ fc ++ [.int .i64 lb, .slice p ks.length c]) F ∧ F.Nodup := by
 obtain ⟨es, Fs, e1, e2, rfl, e4⟩ := h3
 have i3 : ∀ b ∈ H4 p ++ Fs, B2 G3 G2 b ≠ none := by
  intro b hb
  rcases List.mem_append.1 hb with hb | hb
  ·exact e4 b hb
  ·exact e2.inG b hb
 have a2 : B7 (B2 G2 G1) (B2 G3 G) := fun b l h => B2.mono hl3 b l (B2.anti hl1 b l h)
 have a3 : B7 (B2 G3 G2) (B2 G3 G) := B2.anti (hl1.trans hl2)
 refine ⟨F1 ++ (F2 ++ (H4 p ++ Fs)), ?_, ?_⟩
 ·simp only [N2]
  exact ⟨tc, fc, p, c, es, F1, F2, Fs, rfl, hk, hnum, hlb, h1.mono (B2.mono (hl2.trans hl3)), h2.mono a2, e1.mono a3, e2.mono a3, rfl, A2x a3 e4⟩
 ·rw [List.nodup_append, List.nodup_append]
  refine ⟨n1, ⟨n2, n3, A10 h2.inG i3⟩, ?_⟩
  rintro x hx y hy rfl
  rcases List.mem_append.1 hy with hy | hy
  ·exact A10 h1.inG h2.inG x hx x hy rfl
  ·have h1' : ∀ b ∈ F1, B2 G2 G b ≠ none := A2x (B2.mono hl2) h1.inG
   exact A10 h1' i3 x hx x hy rfl
section clawss
variable {P : Program} {Γ : L7} {env : M0} {hp : List A4} {G : IM} {ty : TypeId}
theorem B0q {s d : TypeId} {is id : L0} [hS : H6 P s is] [hD : H6 P d id] (hd : id.desc = .int .u8) {k : IntKind} (hs : is.desc = .int k) {x : Operand} {n : Int} (hx : evo env x = some (.int k n)) (h0 : 0 ≤ n) (h1 : n ≤ 255) :
  I9 P Γ ⟨env, hp, G⟩ (.convert s d x) ty (.int .u8 n) := by
 refine ⟨fun a _ hst _ _ _ _ w => ?_⟩
 have hu := hD.und
 rw [hd] at hu
 have hus := hS.und
 rw [hs] at hus
 have hw : IntKind.u8.wrap n = n := IntWalk.u8_in n ⟨h0, h1⟩
 simp [execOp, convert, run_underlying hus, run_underlying hu, (hst.evo hx : a.eval x = _), Conv.intToInt, hw]
theorem B0r {s d e : TypeId} {is id ie : L0} [hS : H6 P s is] [hD : H6 P d id] [hE : H6 P e ie] (hs : is.desc = .slice e) (he : ie.desc = .int .u8) (hd : id.desc = .string) {x : Operand} {b o n c : Nat} {xs : List Int}
  (hx : evo env x = some (.slice (some ⟨b, o, none⟩) n c)) (hl : xs.length = n) (hv : At hp G b o (xs.map (Value.int .u8))) : A09 P Γ ⟨env, hp, G⟩ (.convert s d x) ty b (.string (strOfNums xs)) := by
 refine ⟨fun a w hst => ?_⟩
 obtain ⟨full, e', f, hb, hf⟩ := hv.read hst
 refine ⟨A0H hb, fun w' hw' d' pos af gd => ?_⟩
 have hus := hS.und
 rw [hs] at hus
 have hue := hE.und
 rw [he] at hue
 have hud := hD.und
 rw [hd] at hud
 have hc := run_convert_bytes_arg (P := P) w' s e hus hue b o n c xs hl (fun i hi => by
  have := hf i (.int .u8 (xs.getD i 0)) (by simp [List.getD, List.getElem?_eq_getElem (show i < xs.length by omega)])
  simp [World.cell?, hw', hb, this]) d hud
 have hx' : a.eval x = _ := hst.evo hx
 simp only [execOp, hx', Sem.run_bind]
 rw [hc]
 rfl
theorem B0s {x y : Operand} {t t' : TypeId} {m n : Nat} (hx : evo env x = some (.int .i64 (m : Int))) (hy : evo env y = some (.int .i64 (n : Int))) (hn : 0 < n) :
  I9 P Γ ⟨env, hp, G⟩ (.binOp .rem t x y t') ty (.int .i64 ((m % n : Nat) : Int)) := by
 have h := A4v (P := P) (Γ := Γ) (hp := hp) (G := G) (ty := ty) (t := t) (t' := t') hx hy (by omega)
 rwa [show ((m : Int).tmod n) = ((m % n : Nat) : Int) from rfl] at h
theorem B0t {x y : Operand} {t t' : TypeId} {m n : Nat} (hx : evo env x = some (.int .i64 (m : Int))) (hy : evo env y = some (.int .i64 (n : Int))) (hn : 0 < n) (hm : m ≤ 9223372036854775807) :
  I9 P Γ ⟨env, hp, G⟩ (.binOp .quo t x y t') ty (.int .i64 ((m / n : Nat) : Int)) := by
 have hd : m / n ≤ m := Nat.div_le_self _ _
 have e : ((m : Int).tdiv n) = ((m / n : Nat) : Int) := rfl
 have h := A9H (P := P) (Γ := Γ) (hp := hp) (G := G) (ty := ty) (t := t) (t' := t') hx hy (by omega) (by rw [e]; generalize m / n = q at *; omega) (by rw [e]; generalize m / n = q at *; omega)
 rwa [e] at h
end clawss
def dgi (k : Nat) : Int := 48 + ((k % 10 : Nat) : Int)
def A1e : Nat → Nat → ByteArray → ByteArray
 | 0, _, out => out
 | f + 1, k, out => if 0 < k then A1e f (k / 10) (strOfNums [dgi k] ++ out) else out
theorem B0u {f k : Nat} {out : ByteArray} (h : 0 < k) : A1e (f + 1) k out = A1e f (k / 10) (strOfNums [dgi k] ++ out) := by rw [A1e, if_pos h]
theorem B0v {f k : Nat} {out : ByteArray} (h : ¬ 0 < k) : A1e f k out = out := by
 cases f with
 | zero => rfl
 | succ f => rw [A1e, if_neg h]
def A11 (k : Nat) : ByteArray := ⟨#[109]⟩ ++ A1e 20 k ⟨⟨[]⟩⟩
theorem B0w {f k : Nat} {out : ByteArray} (hk : k < 10 ^ f) (hs : out.size + f = 20) (h0 : 0 < k) : ∃ f', f = f' + 1 ∧ k / 10 < 10 ^ f' ∧ (strOfNums [dgi k] ++ out).size + f' = 20 := by
 cases f with
 | zero => simp at hk; omega
 | succ f =>
  refine ⟨f, rfl, ?_, ?_⟩
  ·rw [Nat.pow_succ] at hk
   exact Nat.div_lt_of_lt_mul (by omega)
  ·rw [ByteArray.size_append, strOfNums_size]
   simp; omega
theorem t20 (k : Nat) (h : k < 1000000000000000000) : k < 10 ^ 20 := by
 have : (10 : Nat) ^ 20 = 100000000000000000000 := by decide
 omega
theorem B0x (k : Nat) (h0 : 0 < k) (hk : k < 1000000000000000000) (G : IM) : Fn Tryz.prog 107 [.int .i64 (k : Int)] [] G (E4 (.string (A11 k)) G) := by
 have h20 := t20 k hk
 refine B4 Tryz.func107 rfl Tryz.ntmps107 Tryz.results107 rfl ?_
 intro w0
 refine D8 ?_
 refine sP (A9Z rfl rfl (by omega)) rfl rfl ?_
 refine F8 ?_
 refine B3 (I1 (fun (x : Nat × Nat × ByteArray) => ⟨[(0, .int .i64 (x.2.1 : Int)), (3, .string x.2.2)], [], G⟩) (fun x => x.2.1 < 1000000000000000000 ∧ x.2.1 < 10 ^ x.1 ∧ x.2.2.size + x.1 = 20 ∧ A1e x.1 x.2.1 x.2.2 = A1e 20 k ⟨⟨[]⟩⟩) (fun x => x.1) (20, k, ⟨⟨[]⟩⟩) ?_ ?_ ?_)
 (simp only [H5]; exact C9)
 exact ⟨hk, h20, rfl, rfl⟩
 (rintro ⟨f, j, out⟩ ⟨hj, hjf, hsz, hd⟩; simp only [] at hj hjf hsz hd ⊢)
 refine tS (tS (tR (sQ (qM rfl) rfl ?_)))
 refine sB (A0W rfl rfl) rfl rfl (fun h31 => ?_) (fun h31 => ?_)
 refine sD (nS (qT rfl (tK (nS ?_))))
 refine B3 ?_
 refine tS (tR (sQ (qM rfl) rfl ?_))
 refine sP (B0s (n := 10) rfl rfl (by omega)) rfl rfl ?_
 refine sP (E8 rfl rfl (by omega) (by omega)) rfl rfl ?_
 refine sP (B0q rfl rfl rfl (by omega) (by omega)) rfl rfl ?_
 (refine K6 (D7 rfl rfl rfl (by omega) (by unfold maxLen; omega) rfl) rfl ?_; rintro _ ⟨b44, rfl⟩)
 refine sL (B0r (xs := [dgi j]) rfl rfl rfl rfl rfl (N8 (by repeat first | exact mH | apply mT))) rfl rfl ?_
 refine sQ (qM rfl) rfl ?_
 (obtain ⟨f', rfl, hf1, hf2⟩ := B0w hjf hsz (by omega); have hf3 := hf2; rw [ByteArray.size_append] at hf3; refine sP (A54 rfl rfl (by omega)) rfl rfl ?_)
 refine sQ (qA rfl) rfl (sD (nS (tR (sQ (qM rfl) rfl ?_))))
 refine sP (B0t (n := 10) rfl rfl (by omega) (by omega)) rfl rfl ?_
 refine sQ (qA rfl) rfl (sD (P4 ?_))
 refine I4 (f', j / 10, strOfNums [dgi j] ++ out) ?_ ?_ ?_
 (simp only [H5]; exact C9)
 (dsimp only; exact ⟨by omega, hf1, hf2, by rw [← hd, B0u (by omega)]⟩)
 exact Nat.lt_succ_self _
 refine F8 ?_
 refine sP (A54 rfl rfl (by have : (⟨#[109]⟩ : ByteArray).size = 1 := rfl; omega)) rfl rfl ?_
 refine sQ (qA rfl) rfl (sD (nS (tT (E1 (rT rfl) ?_))))
 exact ⟨rfl, by rw [A11, ← hd, B0v (by omega)], rfl⟩
def N3 (l : List Int) : List Value := l.map (Value.int .i64 ·)
theorem A4O (l : List Int) : (N3 l).length = l.length := by simp [N3]
theorem A6E (l : List Int) (i : Int) : N3 (l ++ [i]) = N3 l ++ [.int .i64 i] := by simp [N3]
mutual
def D1 : Tm → Nat
 | .mk _ _ _ _ _ _ ks => E7 ks + 1
def E7 : List Tm → Nat
 | [] => 0
 | t :: ts => D1 t + E7 ts
end
mutual
def A3P : Tm → List Int → List (List Int)
 | .mk _ _ _ _ _ _ ks, path => path :: A6F ks 0 path
def A6F : List Tm → Nat → List Int → List (List Int)
 | [], _, _ => []
 | t :: ts, i, path => A3P t (path ++ [(i : Int)]) ++ A6F ts (i + 1) path
end
theorem A4P : ∀ {ks : List Tm} {t : Tm}, t ∈ ks → D1 t ≤ E7 ks
 | [], t, h => by simp at h
 | t' :: ts, t, h => by
  rw [E7]
  rcases List.mem_cons.1 h with rfl | h
  ·omega
  ·have := A4P h; omega
theorem A3Q : ∀ (a b : List Tm), E7 (a ++ b) = E7 a + E7 b
 | [], b => by simp [E7]
 | t :: a, b => by rw [List.cons_append, E7, E7, A3Q a b]; omega
theorem A0s {ks : List Tm} {i : Nat} (hi : i < ks.length) : E7 (ks.take i) + D1 ks[i] ≤ E7 ks := by
 have h := A3Q (ks.take (i + 1)) (ks.drop (i + 1))
 rw [List.take_append_drop, List.take_succ_eq_append_getElem hi, A3Q] at h
 simp only [E7] at h
 omega
theorem A0t {ks : List Tm} {i : Nat} (hi : i < ks.length) : E7 (ks.take (i + 1)) = E7 (ks.take i) + D1 ks[i] := by
 rw [List.take_succ_eq_append_getElem hi, A3Q]
 simp only [E7]; omega
theorem B0y (t : Tm) : 0 < D1 t := by cases t; rw [D1]; omega
theorem A3R : ∀ (ks : List Tm), ks.length ≤ E7 ks
 | [] => by simp
 | .mk _ _ _ _ _ _ _ :: ts => by have := A3R ts; simp only [List.length_cons, E7, D1]; omega

theorem Sl.nn {G : IM} {p : Option Addr} {n c sz : Nat} {cs : List Value} (h : Sl G p n c sz cs) : p = none → n = 0 := by
 rintro rfl
 rcases h.2.2.2 with h | ⟨b, o, full, h, _⟩
 ·exact h
 ·cases h
def SPs (G : IM) : List (List Int) → List Value → List Nat → Prop
 | [], es, F => es = [] ∧ F = []
 | l :: ls, es, F => ∃ p c r Fr, es = .slice p l.length c :: r ∧ F = H4 p ++ Fr ∧ Sl G p l.length c 1 (N3 l) ∧ (∀ b ∈ H4 p, G b ≠ none) ∧ (p = none → l.length = 0) ∧ SPs G ls r Fr
theorem A4Q {G Gi G2 : IM} {b : Nat} (hle : B7 G Gi) (h : Gi b = none ∧ G2 b ≠ none) : B2 G2 G b ≠ none := by
 cases hg : G b with
 | none => simpa [B2, hg] using h.2
 | some l => rw [hle b l hg] at h; exact absurd h.1 (by simp)
def RPs (G : IM) (ls : List (List Int)) (p : Option Addr) (c : Nat) : Prop := ∃ es F, Sl G p ls.length c 1 es ∧ (∀ b ∈ H4 p, G b ≠ none) ∧ SPs G ls es F ∧ (H4 p ++ F).Nodup
mutual
theorem A4R (M D N : Int) : ∀ (t : Tm) (deep c : Int), (R5 M D N t deep c).1 = true → (R5 M D N t deep c).2 = c + D1 t
 | .mk k nm num ty fr lb ks, deep, c, h => by
  rw [R5] at h ⊢
  split at h
  ·cases h
  ·rename_i hc
   rw [if_neg hc, A6G M D N ks (deep + 1) (c + 1) h, D1]
   omega
theorem A6G (M D N : Int) : ∀ (ts : List Tm) (deep c : Int), (S4 M D N ts deep c).1 = true → (S4 M D N ts deep c).2 = c + E7 ts
 | [], deep, c, h => by rw [S4, E7]; simp
 | t :: ts, deep, c, h => by
  rw [S4] at h ⊢
  split at h
  ·rename_i h1
   rw [if_pos h1, A6G M D N ts deep _ h, A4R M D N t deep c h1, E7]
   omega
  ·cases h
end
theorem B0z {t : Tm} (h : P7 t = true) : D1 t ≤ 200 := by
 have h1 := A4R 200 40 13 t 1 0 h
 have h2 := (A4N 200 40 13 t 1 0 (by omega) (by omega)).2.2 h
 omega
def B0A (t : Tm) : List (List Int) := if P7 t = true then A3P t [] else []
section slaws
variable {P : Program} {Γ : L7} {env : M0} {hp : List A4} {G : IM} {ty : TypeId}
theorem B0B {x y : Operand} {t t' : TypeId} {r : ByteArray} (hx : evo env x = some (.string r)) (hy : evo env y = some (.string r)) :
  I9 P Γ ⟨env, hp, G⟩ (.binOp .neq t x y t') ty (.bool false) := by
 have h := A1s (P := P) (Γ := Γ) (hp := hp) (G := G) (t := t) (t' := t') (ty := ty) hx hy
 rwa [decide_eq_false (by simp)] at h
end slaws
theorem Sl.kid {G : IM} {p : Option Addr} {n c : Nat} {cs : List Value} (h : Sl G p n c 1 cs) {i : Nat} (hi : i < n) :
  ∃ b o v, p = some ⟨b, o, none⟩ ∧ cs[i]? = some v ∧ (∀ hp, At hp G b (o + i * 1) [v]) ∧ G b ≠ none := by
 obtain ⟨h1, h2, h3, h4⟩ := h
 obtain ⟨b, o, full, rfl, hg, hv⟩ := h4.resolve_left (by omega)
 have hlt : i < cs.length := by omega
 refine ⟨b, o, cs[i], rfl, List.getElem?_eq_getElem hlt, fun hp => A3D hg ?_, by rw [hg]; simp⟩
 intro j v hj
 cases j with
 | zero => simp at hj; subst hj; simpa using hv i _ (List.getElem?_eq_getElem hlt)
 | succ j => simp at hj
theorem A3S {l : List Int} {i : Nat} {v : Value} (h : (N3 l)[i]? = some v) : ∃ hi : i < l.length, v = .int .i64 l[i] := by
 have hi : i < l.length := by have := (List.getElem?_eq_some_iff.1 h).1; rwa [A4O] at this
 refine ⟨hi, ?_⟩
 simp [N3, hi] at h
 exact h.symm
theorem Sl.le {G : IM} {p : Option Addr} {n c sz : Nat} {cs : List Value} (h : Sl G p n c sz cs) : n ≤ 9223372036854775807 := by
 have h1 := h.2.1; have h2 := h.2.2.1; unfold maxLen at h2; omega

theorem B0C (ks : List Ty) (ih : ∀ t ∈ ks, ∀ (G : IM) (cells cells' : List Value), B6 G t cells → B6 G t cells' → Fn Tryz.prog 58 [.agg ⟨cells⟩, .agg ⟨cells'⟩] [] G (E4 (.bool true) G))
  (G : IM) (p p' : Option Addr) (c c' : Nat) (es es' : List (List Value)) (hsl : C4 G p ks.length c 2 es) (hkl : C2 G ks es) (hsl' : C4 G p' ks.length c' 2 es') (hkl' : C2 G ks es') :
  Fn Tryz.prog 98 [.slice p ks.length c, .slice p' ks.length c'] [] G (E4 (.bool true) G) := by
 have hn := hsl.le
 refine B4 Tryz.func98 rfl Tryz.ntmps98 Tryz.results98 rfl ?_
 intro w0
 refine J9 ?_
 refine sP (X9 rfl rfl (by omega)) rfl rfl ?_
 refine F8 ?_
 refine B3 (I1 (fun (i : Nat) => ⟨[(5, .int .i64 i), (1, .slice p' ks.length c'), (0, .slice p ks.length c)], [], G⟩) (fun i => i ≤ ks.length) (fun i => ks.length - i) 0 ?_ ?_ ?_)
 exact C9
 exact Nat.zero_le _
 rintro i hi
 refine E2 ?_
 refine sB (I2 rfl rfl) rfl rfl (fun h36 => ?_) (fun h36 => ?_)
 refine sD (nS (qT rfl (tK (nS (tS ?_)))))
 refine B3 ?_
 refine tS ?_
 (obtain ⟨b, o, p2, c2, rfl, hat, hre, hgb⟩ := hsl.kidTy hkl (i := i) (by omega) (by omega); obtain ⟨b', o', p2', c2', rfl, hat', hre', hgb'⟩ := hsl'.kidTy hkl' (i := i) (by omega) (by omega); refine D5 D6 rfl ?_)
 refine J6 (i := 0) (l' := [tt,ff,ff,ff,ff,ff,ff,ff,ff,ff]) rfl D0 (qM rfl) rfl (by kernel_rfl) rfl rfl ?_
 refine aP 1 rfl (qM rfl) rfl ?_
 refine aP 2 rfl (A8 rfl rfl rfl (by omega)) rfl ?_
 refine aL 3 rfl (A0 rfl rfl (hat _) rfl) rfl ?_
 refine aP 4 rfl (qM rfl) rfl ?_
 refine aP 5 rfl (qM rfl) rfl ?_
 refine aP 6 rfl (A8 rfl rfl rfl (by omega)) rfl ?_
 refine aL 7 rfl (A0 rfl rfl (hat' _) rfl) rfl ?_
 refine A2 8 ?_
 refine M6 rfl rfl (ih ks[i] (List.getElem_mem (by omega)) _ _ _ hre hre') rfl rfl rfl ?_
 refine aP 9 rfl (U0 rfl) rfl ?_
 refine D3 ?_
 refine sP (E8 rfl rfl (by omega) (by omega)) rfl rfl ?_
 refine sQ (qA rfl) rfl (sD ?_)
 refine I4 (i + 1) ?_ ?_ ?_
 exact C9
 omega
 omega
 refine H3 ?_
 exact ⟨rfl, rfl, rfl⟩
theorem A6H : ∀ (t : Ty) (G : IM) (cells cells' : List Value), B6 G t cells → B6 G t cells' → Fn Tryz.prog 58 [.agg ⟨cells⟩, .agg ⟨cells'⟩] [] G (E4 (.bool true) G) := by
 refine Ty.ind fun k ks ih G cells cells' hr hr' => ?_
 obtain ⟨p, c, es, rfl, hk, hsl, hkl⟩ := hr.open
 obtain ⟨p', c', es', rfl, hk', hsl', hkl'⟩ := hr'.open
 simp only [Ty.k, Ty.ks] at hk hsl hkl hk' hsl' hkl' ⊢
 have hS := B0C ks ih G p p' c c' es es' hsl hkl hsl' hkl'
 refine B4 Tryz.func58 rfl Tryz.ntmps58 Tryz.results58 rfl ?_
 intro w0
 refine tS (tR ?_)
 refine sE (C1 rfl rfl) rfl (fun b3 => ?_)
 refine sE (C1 rfl rfl) rfl (fun b4 => ?_)
 refine I8 ?_
 refine sP (X9 rfl rfl (by omega)) rfl rfl ?_
 refine J9 ?_
 refine I3 rfl (hS) rfl rfl ?_
 refine K1 ?_
 exact ⟨rfl, rfl, rfl⟩
theorem B0D (ks : List Tm) (ih : ∀ t ∈ ks, ∀ (G : IM) (cells cells' : List Value), A6 G t cells → A6 G t cells' → Fn Tryz.prog 20 [.agg ⟨cells⟩, .agg ⟨cells'⟩] [] G (E4 (.bool true) G))
  (G : IM) (p p' : Option Addr) (c c' : Nat) (es es' : List (List Value)) (hsl : C4 G p ks.length c 9 es) (hkl : C7 G ks es) (hsl' : C4 G p' ks.length c' 9 es') (hkl' : C7 G ks es') :
  Fn Tryz.prog 59 [.slice p ks.length c, .slice p' ks.length c'] [] G (E4 (.bool true) G) := by
 have hn := hsl.le
 refine B4 Tryz.func59 rfl Tryz.ntmps59 Tryz.results59 rfl ?_
 intro w0
 refine J9 ?_
 refine sP (X9 rfl rfl (by omega)) rfl rfl ?_
 refine F8 ?_
 refine B3 (I1 (fun (i : Nat) => ⟨[(5, .int .i64 i), (1, .slice p' ks.length c'), (0, .slice p ks.length c)], [], G⟩) (fun i => i ≤ ks.length) (fun i => ks.length - i) 0 ?_ ?_ ?_)
 exact C9
 exact Nat.zero_le _
 rintro i hi
 refine E2 ?_
 refine sB (I2 rfl rfl) rfl rfl (fun h36 => ?_) (fun h36 => ?_)
 refine sD (nS (qT rfl (tK (nS (tS ?_)))))
 refine B3 ?_
 refine tS ?_
 (obtain ⟨b, o, e, rfl, hl, hat, hre, hgb⟩ := hsl.kidTm hkl (i := i) (by omega) (by omega); obtain ⟨b', o', e', rfl, hl', hat', hre', hgb'⟩ := hsl'.kidTm hkl' (i := i) (by omega) (by omega); refine D5 D6 rfl ?_)
 refine J6 (i := 0) (l' := [tt,ff,ff,ff,ff,ff,ff,ff,ff,ff]) rfl D0 (qM rfl) rfl (by kernel_rfl) rfl rfl ?_
 refine aP 1 rfl (qM rfl) rfl ?_
 refine aP 2 rfl (A8 rfl rfl rfl (by omega)) rfl ?_
 refine aL 3 rfl (A0 rfl rfl (hat _) hl) rfl ?_
 refine aP 4 rfl (qM rfl) rfl ?_
 refine aP 5 rfl (qM rfl) rfl ?_
 refine aP 6 rfl (A8 rfl rfl rfl (by omega)) rfl ?_
 refine aL 7 rfl (A0 rfl rfl (hat' _) hl') rfl ?_
 refine A2 8 ?_
 refine M6 rfl rfl (ih ks[i] (List.getElem_mem (by omega)) _ _ _ hre hre') rfl rfl rfl ?_
 refine aP 9 rfl (U0 rfl) rfl ?_
 refine D3 ?_
 refine sP (E8 rfl rfl (by omega) (by omega)) rfl rfl ?_
 refine sQ (qA rfl) rfl (sD ?_)
 refine I4 (i + 1) ?_ ?_ ?_
 exact C9
 omega
 omega
 refine H3 ?_
 exact ⟨rfl, rfl, rfl⟩
theorem A6I : ∀ (t : Tm) (G : IM) (cells cells' : List Value), A6 G t cells → A6 G t cells' → Fn Tryz.prog 20 [.agg ⟨cells⟩, .agg ⟨cells'⟩] [] G (E4 (.bool true) G) := by
 refine Tm.ind fun k nm num ty fr lb ks ih G cells cells' hr hr' => ?_
 obtain ⟨tk, tks⟩ := ty
 obtain ⟨fk, fks⟩ := fr
 obtain ⟨pt, ct, pf, cf, p, c, es, rfl, hk, hnum, hlb, hty, hfr, hsl, hkl⟩ := hr.open9
 obtain ⟨pt', ct', pf', cf', p', c', es', rfl, hk', hnum', hlb', hty', hfr', hsl', hkl'⟩ := hr'.open9
 have hS := B0D ks ih G p p' c c' es es' hsl hkl hsl' hkl'
 have hT := A6H _ G _ _ hty hty'
 have hF := A6H _ G _ _ hfr hfr'
 refine B4 Tryz.func20 rfl Tryz.ntmps20 Tryz.results20 rfl ?_
 intro w0
 refine tS (tR ?_)
 refine sE (C1 rfl rfl) rfl (fun b3 => ?_)
 refine sE (C1 rfl rfl) rfl (fun b4 => ?_)
 refine I8 ?_
 refine sP (X9 rfl rfl (by omega)) rfl rfl ?_
 refine J9 ?_
 refine sQ (B0B rfl rfl) rfl ?_
 refine J9 ?_
 refine sP (X9 rfl rfl (by omega)) rfl rfl ?_
 refine J9 ?_
 refine I3 rfl (hT) rfl rfl ?_
 refine K1 ?_
 refine I3 rfl (hF) rfl rfl ?_
 refine K1 ?_
 refine sP (X9 rfl rfl (by omega)) rfl rfl ?_
 refine J9 ?_
 refine I3 rfl (hS) rfl rfl ?_
 refine K1 ?_
 exact ⟨rfl, rfl, rfl⟩
theorem A4S (l : List Int) (G : IM) (p p' : Option Addr) (c c' : Nat) (h : Sl G p l.length c 1 (N3 l)) (h' : Sl G p' l.length c' 1 (N3 l)) :
  Fn Tryz.prog 23 [.slice p l.length c, .slice p' l.length c'] [] G (E4 (.bool true) G) := by
 have hn := h.le
 refine B4 Tryz.func23 rfl Tryz.ntmps23 Tryz.results23 rfl ?_
 intro w0
 refine J9 ?_
 refine sP (X9 rfl rfl (by omega)) rfl rfl ?_
 refine F8 ?_
 refine B3 (I1 (fun (i : Nat) => ⟨[(5, .int .i64 i), (1, .slice p' l.length c'), (0, .slice p l.length c)], [], G⟩) (fun i => i ≤ l.length) (fun i => l.length - i) 0 ?_ ?_ ?_)
 exact C9
 exact Nat.zero_le _
 rintro i hi
 refine E2 ?_
 refine sB (I2 rfl rfl) rfl rfl (fun h36 => ?_) (fun h36 => ?_)
 refine sD (nS (qT rfl (tK (nS (tS ?_)))))
 refine B3 ?_
 refine tS ?_
 (obtain ⟨b, o, v, rfl, hv, hat, hgb⟩ := h.kid (i := i) (by omega); obtain ⟨_, rfl⟩ := A3S hv; obtain ⟨b', o', v', rfl, hv', hat', hgb'⟩ := h'.kid (i := i) (by omega); obtain ⟨_, rfl⟩ := A3S hv'; refine D5 D6 rfl ?_)
 refine J6 (i := 0) (l' := [tt,ff,ff,ff,ff,ff,ff,ff,ff]) rfl D0 (qM rfl) rfl (by kernel_rfl) rfl rfl ?_
 refine aP 1 rfl (qM rfl) rfl ?_
 refine aP 2 rfl (A8 rfl rfl rfl (by omega)) rfl ?_
 refine aL 3 rfl (A0g rfl rfl (hat _)) rfl ?_
 refine aP 4 rfl (qM rfl) rfl ?_
 refine aP 5 rfl (qM rfl) rfl ?_
 refine aP 6 rfl (A8 rfl rfl rfl (by omega)) rfl ?_
 refine aL 7 rfl (A0g rfl rfl (hat' _)) rfl ?_
 refine aP 8 rfl (X9 rfl rfl (by omega)) rfl ?_
 refine D3 ?_
 refine sP (E8 rfl rfl (by omega) (by omega)) rfl rfl ?_
 refine sQ (qA rfl) rfl (sD ?_)
 refine I4 (i + 1) ?_ ?_ ?_
 exact C9
 omega
 omega
 refine H3 ?_
 exact ⟨rfl, rfl, rfl⟩

abbrev K5 := List (Nat × List Value)

mutual
def Y4 : Ty → List Value → K5 → Prop
 | .mk k ks, cells, bs => ∃ p c, cells = [.int .i64 k, .slice p ks.length c] ∧ H1 k ∧ ks.length ≤ c ∧ c ≤ maxLen ∧ ((ks = [] ∧ bs = []) ∨ ∃ b A C es r, p = some ⟨b, A.length, none⟩ ∧ bs = (b, A ++ (es.flatten ++ C)) :: r ∧ M8 ks es r)
def M8 : List Ty → List (List Value) → K5 → Prop
 | [], es, bs => es = [] ∧ bs = []
 | t :: ts, es, bs => ∃ e e' r1 r2, es = e :: e' ∧ bs = r1 ++ r2 ∧ Y4 t e r1 ∧ M8 ts e' r2
end
def U8 (ks : List Ty) (p : Option Addr) (c : Nat) (bs : K5) : Prop :=
 ks.length ≤ c ∧ c ≤ maxLen ∧ ((ks = [] ∧ bs = []) ∨ ∃ b A C es r, p = some ⟨b, A.length, none⟩ ∧ bs = (b, A ++ (es.flatten ++ C)) :: r ∧ M8 ks es r)
theorem Y4.open {t : Ty} {cells : List Value} {bs : K5} (h : Y4 t cells bs) : ∃ p c, cells = [.int .i64 t.k, .slice p t.ks.length c] ∧ H1 t.k ∧ U8 t.ks p c bs := by
 cases t
 simp only [Y4] at h
 obtain ⟨p, c, h1, h2, h3, h4, h5⟩ := h
 exact ⟨p, c, h1, h2, h3, h4, h5⟩
theorem U8.ty {k : Int} {ks : List Ty} {p : Option Addr} {c : Nat} {bs : K5} (h : U8 ks p c bs) (hk : H1 k) : Y4 (.mk k ks) [.int .i64 k, .slice p ks.length c] bs := by
 simp only [Y4]
 exact ⟨p, c, rfl, hk, h.1, h.2.1, h.2.2⟩
theorem Y4.len {t : Ty} {cells : List Value} {bs : K5} (h : Y4 t cells bs) : cells.length = 2 := by
 obtain ⟨_, _, rfl, _⟩ := h.open; rfl
theorem M8.len : ∀ {ts : List Ty} {es : List (List Value)} {bs : K5}, M8 ts es bs → es.length = ts.length
 | [], es, bs, h => by simp only [M8] at h; rw [h.1]; rfl
 | t :: ts, es, bs, h => by
  simp only [M8] at h
  obtain ⟨e, e', r1, r2, rfl, rfl, h1, h2⟩ := h
  simp [M8.len h2]
theorem M8.all : ∀ {ts : List Ty} {es : List (List Value)} {bs : K5}, M8 ts es bs → ∀ e ∈ es, e.length = 2
 | [], es, bs, h => by simp only [M8] at h; rw [h.1]; simp
 | t :: ts, es, bs, h => by
  simp only [M8] at h
  obtain ⟨e, e', r1, r2, rfl, rfl, h1, h2⟩ := h
  intro x hx
  rcases List.mem_cons.1 hx with rfl | hx
  ·exact h1.len
  ·exact M8.all h2 x hx
theorem M8.snoc : ∀ {ts : List Ty} {es : List (List Value)} {bs : K5} {t : Ty} {e : List Value} {r : K5}, M8 ts es bs → Y4 t e r → M8 (ts ++ [t]) (es ++ [e]) (bs ++ r)
 | [], es, bs, t, e, r, h, h2 => by
  simp only [M8] at h
  obtain ⟨rfl, rfl⟩ := h
  simp only [List.nil_append, M8]
  exact ⟨e, [], r, [], rfl, by simp, h2, rfl, rfl⟩
 | t' :: ts, es, bs, t, e, r, h, h2 => by
  simp only [M8] at h
  obtain ⟨a, a', r1, r2, rfl, rfl, h3, h4⟩ := h
  simp only [List.cons_append, M8]
  exact ⟨a, a' ++ [e], r1, r2 ++ r, rfl, by rw [List.append_assoc], h3, M8.snoc h4 h2⟩
theorem M8.cons {t : Ty} {ts : List Ty} {es : List (List Value)} {bs : K5} (h : M8 (t :: ts) es bs) : ∃ p c e' r1 r2, es = [.int .i64 t.k, .slice p t.ks.length c] :: e' ∧ bs = r1 ++ r2 ∧ U8 t.ks p c r1 ∧ M8 ts e' r2 := by
 simp only [M8] at h
 obtain ⟨e, e', r1, r2, rfl, rfl, h3, h4⟩ := h
 obtain ⟨p, c, rfl, _, h5⟩ := h3.open
 exact ⟨p, c, e', r1, r2, rfl, rfl, h5, h4⟩

mutual
def U9 : Tm → List Value → K5 → Prop
 | .mk k nm num ty fr lb ks, cells, bs => ∃ tc fc p c bt bf bk, cells = [.int .i64 k, .string nm, .int .i64 num] ++ tc ++ fc ++ [.int .i64 lb, .slice p ks.length c] ∧ H1 k ∧ H1 num ∧ H1 lb ∧ Y4 ty tc bt ∧ Y4 fr fc bf ∧
   ks.length ≤ c ∧ c ≤ maxLen ∧ ((ks = [] ∧ bk = []) ∨ ∃ b A C es r, p = some ⟨b, A.length, none⟩ ∧ bk = (b, A ++ (es.flatten ++ C)) :: r ∧ M9 ks es r) ∧ bs = bt ++ (bf ++ bk)
def M9 : List Tm → List (List Value) → K5 → Prop
 | [], es, bs => es = [] ∧ bs = []
 | t :: ts, es, bs => ∃ e e' r1 r2, es = e :: e' ∧ bs = r1 ++ r2 ∧ U9 t e r1 ∧ M9 ts e' r2
end
def A1f (ks : List Tm) (p : Option Addr) (c : Nat) (bs : K5) : Prop :=
 ks.length ≤ c ∧ c ≤ maxLen ∧ ((ks = [] ∧ bs = []) ∨ ∃ b A C es r, p = some ⟨b, A.length, none⟩ ∧ bs = (b, A ++ (es.flatten ++ C)) :: r ∧ M9 ks es r)
theorem U9.open {t : Tm} {cells : List Value} {bs : K5} (h : U9 t cells bs) : ∃ pt ct pf cf p c bt bf bk,
  cells = [.int .i64 t.k, .string t.nm, .int .i64 t.num, .int .i64 t.ty.k, .slice pt t.ty.ks.length ct, .int .i64 t.fr.k, .slice pf t.fr.ks.length cf, .int .i64 t.lb, .slice p t.ks.length c] ∧
  U8 t.ty.ks pt ct bt ∧ U8 t.fr.ks pf cf bf ∧ A1f t.ks p c bk ∧ bs = bt ++ (bf ++ bk) := by
 cases t
 simp only [U9] at h
 obtain ⟨tc, fc, p, c, bt, bf, bk, h1, _, _, _, h5, h6, h7, h8, h9, h10⟩ := h
 obtain ⟨pt, ct, rfl, _, ht⟩ := h5.open
 obtain ⟨pf, cf, rfl, _, hf⟩ := h6.open
 exact ⟨pt, ct, pf, cf, p, c, bt, bf, bk, h1, ht, hf, ⟨h7, h8, h9⟩, h10⟩
theorem U9.mk {k : Int} {nm : ByteArray} {num tk fk lb : Int} {tks fks : List Ty} {ks : List Tm} {pt pf p : Option Addr} {ct cf c : Nat} {bt bf bk : K5} (hk : H1 k) (hn : H1 num) (htk : H1 tk) (hfk : H1 fk) (hlb : H1 lb)
  (ht : U8 tks pt ct bt) (hf : U8 fks pf cf bf) (h : A1f ks p c bk) :
  U9 (.mk k nm num (.mk tk tks) (.mk fk fks) lb ks) [.int .i64 k, .string nm, .int .i64 num, .int .i64 tk, .slice pt tks.length ct, .int .i64 fk, .slice pf fks.length cf, .int .i64 lb, .slice p ks.length c] (bt ++ (bf ++ bk)) := by
 simp only [U9]
 exact ⟨_, _, p, c, bt, bf, bk, rfl, hk, hn, hlb, ht.ty htk, hf.ty hfk, h.1, h.2.1, h.2.2, rfl⟩
theorem U9.len {t : Tm} {cells : List Value} {bs : K5} (h : U9 t cells bs) : cells.length = 9 := by
 obtain ⟨_, _, _, _, _, _, _, _, _, rfl, _⟩ := h.open; rfl
theorem M9.len : ∀ {ts : List Tm} {es : List (List Value)} {bs : K5}, M9 ts es bs → es.length = ts.length
 | [], es, bs, h => by simp only [M9] at h; rw [h.1]; rfl
 | t :: ts, es, bs, h => by
  simp only [M9] at h
  obtain ⟨e, e', r1, r2, rfl, rfl, h1, h2⟩ := h
  simp [M9.len h2]
theorem M9.all : ∀ {ts : List Tm} {es : List (List Value)} {bs : K5}, M9 ts es bs → ∀ e ∈ es, e.length = 9
 | [], es, bs, h => by simp only [M9] at h; rw [h.1]; simp
 | t :: ts, es, bs, h => by
  simp only [M9] at h
  obtain ⟨e, e', r1, r2, rfl, rfl, h1, h2⟩ := h
  intro x hx
  rcases List.mem_cons.1 hx with rfl | hx
  ·exact h1.len
  ·exact M9.all h2 x hx
theorem M9.snoc : ∀ {ts : List Tm} {es : List (List Value)} {bs : K5} {t : Tm} {e : List Value} {r : K5}, M9 ts es bs → U9 t e r → M9 (ts ++ [t]) (es ++ [e]) (bs ++ r)
 | [], es, bs, t, e, r, h, h2 => by
  simp only [M9] at h
  obtain ⟨rfl, rfl⟩ := h
  simp only [List.nil_append, M9]
  exact ⟨e, [], r, [], rfl, by simp, h2, rfl, rfl⟩
 | t' :: ts, es, bs, t, e, r, h, h2 => by
  simp only [M9] at h
  obtain ⟨a, a', r1, r2, rfl, rfl, h3, h4⟩ := h
  simp only [List.cons_append, M9]
  exact ⟨a, a' ++ [e], r1, r2 ++ r, rfl, by rw [List.append_assoc], h3, M9.snoc h4 h2⟩
theorem M9.cons {t : Tm} {ts : List Tm} {es : List (List Value)} {bs : K5} (h : M9 (t :: ts) es bs) : ∃ e e' r1 r2, es = e :: e' ∧ bs = r1 ++ r2 ∧ U9 t e r1 ∧ M9 ts e' r2 := by
 simpa only [M9] using h

mutual
def A1g : Ty → Int
 | .mk _ ks => 1 + H9 ks
def H9 : List Ty → Int
 | [] => 0
 | t :: ts => A1g t + H9 ts
end
mutual
def A25 : Ty → Int → Ty
 | .mk _ ks, k => .mk k (P5 ks (k + 1))
def P5 : List Ty → Int → List Ty
 | [], _ => []
 | t :: ts, k => A25 t k :: P5 ts (k + A1g t)
end
mutual
def A1h : Tm → Int
 | .mk _ _ _ ty fr _ ks => 6 + H9 ty.ks + H9 fr.ks + P1 ks
def P1 : List Tm → Int
 | [] => 0
 | t :: ts => A1h t + P1 ts
end
mutual
def A26 : Tm → Int → Tm
 | .mk _ _ _ ty fr _ ks, k => .mk k (A11 (k + 1).toNat) (k + 1 + 1) (.mk (k + 1 + 1 + 1) (P5 ty.ks (k + 1 + 1 + 1 + 1))) (.mk (k + 1 + 1 + 1 + 1 + H9 ty.ks) (P5 fr.ks (k + 1 + 1 + 1 + 1 + H9 ty.ks + 1))) (k + 1 + 1 + 1 + 1 + H9 ty.ks + 1 + H9 fr.ks) (V0 ks (k + 1 + 1 + 1 + 1 + H9 ty.ks + 1 + H9 fr.ks + 1))
def V0 : List Tm → Int → List Tm
 | [], _ => []
 | t :: ts, k => A26 t k :: V0 ts (k + A1h t)
end
mutual
theorem B0E : ∀ t : Ty, 1 ≤ A1g t
 | .mk _ ks => by have := A0y ks; rw [A1g]; omega
theorem A0y : ∀ ts : List Ty, 0 ≤ H9 ts
 | [] => by rw [H9]; omega
 | t :: ts => by have := B0E t; have := A0y ts; rw [H9]; omega
end
mutual
theorem B0F : ∀ t : Tm, 6 ≤ A1h t
 | .mk _ _ _ ty fr _ ks => by have := A12 ks; have := A0y ty.ks; have := A0y fr.ks; rw [A1h]; omega
theorem A12 : ∀ ts : List Tm, 0 ≤ P1 ts
 | [] => by rw [P1]; omega
 | t :: ts => by have := B0F t; have := A12 ts; rw [P1]; omega
end
theorem A4T : ∀ a b : List Ty, H9 (a ++ b) = H9 a + H9 b
 | [], b => by simp [H9]
 | t :: a, b => by rw [List.cons_append, H9, H9, A4T a b]; omega
theorem A4U : ∀ a b : List Tm, P1 (a ++ b) = P1 a + P1 b
 | [], b => by simp [P1]
 | t :: a, b => by rw [List.cons_append, P1, P1, A4U a b]; omega
theorem B0G {ks : List Ty} {i : Nat} (hi : i < ks.length) : H9 (ks.take (i + 1)) = H9 (ks.take i) + A1g ks[i] := by
 rw [List.take_succ_eq_append_getElem hi, A4T, H9, H9]; omega
theorem B0H {ks : List Tm} {i : Nat} (hi : i < ks.length) : P1 (ks.take (i + 1)) = P1 (ks.take i) + A1h ks[i] := by
 rw [List.take_succ_eq_append_getElem hi, A4U, P1, P1]; omega
theorem A6J (ks : List Ty) (i : Nat) : H9 (ks.take i) ≤ H9 ks := by
 have h := A4T (ks.take i) (ks.drop i)
 rw [List.take_append_drop] at h
 have := A0y (ks.drop i); omega
theorem A6K (ks : List Tm) (i : Nat) : P1 (ks.take i) ≤ P1 ks := by
 have h := A4U (ks.take i) (ks.drop i)
 rw [List.take_append_drop] at h
 have := A12 (ks.drop i); omega
theorem B0I (t : Ty) : A1g t = 1 + H9 t.ks := by cases t; rw [A1g]; rfl
theorem A6L (t : Tm) : A1h t = 6 + H9 t.ty.ks + H9 t.fr.ks + P1 t.ks := by cases t; rw [A1h]; rfl
theorem A6M : ∀ (ts : List Ty) (t : Ty) (k : Int), P5 (ts ++ [t]) k = P5 ts k ++ [A25 t (k + H9 ts)]
 | [], t, k => by simp [P5, H9]
 | t' :: ts, t, k => by rw [List.cons_append, P5, A6M ts t, P5, H9, List.cons_append, Int.add_assoc]
theorem A6N : ∀ (ts : List Tm) (t : Tm) (k : Int), V0 (ts ++ [t]) k = V0 ts k ++ [A26 t (k + P1 ts)]
 | [], t, k => by simp [V0, P1]
 | t' :: ts, t, k => by rw [List.cons_append, V0, A6N ts t, V0, P1, List.cons_append, Int.add_assoc]
theorem B0J {ks : List Ty} {i : Nat} (hi : i < ks.length) (k : Int) : P5 (ks.take (i + 1)) k = P5 (ks.take i) k ++ [A25 ks[i] (k + H9 (ks.take i))] := by
 rw [List.take_succ_eq_append_getElem hi, A6M]
theorem B0K {ks : List Tm} {i : Nat} (hi : i < ks.length) (k : Int) : V0 (ks.take (i + 1)) k = V0 (ks.take i) k ++ [A26 ks[i] (k + P1 (ks.take i))] := by
 rw [List.take_succ_eq_append_getElem hi, A6N]
theorem A2y : ∀ (ts : List Ty) (k : Int), (P5 ts k).length = ts.length
 | [], k => rfl
 | t :: ts, k => by rw [P5, List.length_cons, A2y ts, List.length_cons]
theorem A3T : ∀ (ts : List Tm) (k : Int), (V0 ts k).length = ts.length
 | [], k => rfl
 | t :: ts, k => by rw [V0, List.length_cons, A3T ts, List.length_cons]
theorem B0L (t : Ty) (k : Int) : A25 t k = .mk k (P5 t.ks (k + 1)) := by cases t; rw [A25]; rfl
theorem B0M (t : Tm) (k : Int) : A26 t k = .mk k (A11 (k + 1).toNat) (k + 1 + 1) (.mk (k + 1 + 1 + 1) (P5 t.ty.ks (k + 1 + 1 + 1 + 1))) (.mk (k + 1 + 1 + 1 + 1 + H9 t.ty.ks) (P5 t.fr.ks (k + 1 + 1 + 1 + 1 + H9 t.ty.ks + 1))) (k + 1 + 1 + 1 + 1 + H9 t.ty.ks + 1 + H9 t.fr.ks) (V0 t.ks (k + 1 + 1 + 1 + 1 + H9 t.ty.ks + 1 + H9 t.fr.ks + 1)) := by cases t; rw [A26]; rfl

theorem A4V : ∀ {X e e' Y vs : List Value} {o : Nat}, O5 e o vs = some e' → O5 (X ++ (e ++ Y)) (X.length + o) vs = some (X ++ (e' ++ Y))
 | [], e, e', Y, vs, o, h => by
  obtain ⟨h1, h2⟩ := A1S h
  simp only [List.nil_append, List.length_nil, Nat.zero_add]
  have := A24 (A := e.take o) (B := (e.drop o).take vs.length) (C := (e.drop o).drop vs.length ++ Y) (V := vs) (o := o) (by simp; omega) (by simp; omega)
  rw [show e.take o ++ ((e.drop o).take vs.length ++ ((e.drop o).drop vs.length ++ Y)) = e ++ Y from by
   rw [← List.append_assoc ((e.drop o).take vs.length), List.take_append_drop, ← List.append_assoc, List.take_append_drop]] at this
  rw [this, h1, List.drop_drop]
  simp
 | x :: X, e, e', Y, vs, o, h => by
  have := A4V (X := X) (Y := Y) h
  rw [List.length_cons, show X.length + 1 + o = (X.length + o) + 1 by omega]
  simp only [List.cons_append, O5, this]
theorem A13 {A : List Value} {D : List (List Value)} {e e' R vs : List Value} {i sz off : Nat} (hD : D.length = i) (ha : ∀ x ∈ D, x.length = sz) (he : O5 e off vs = some e') :
  O5 (A ++ (D.flatten ++ (e ++ R))) (A.length + i * sz + off) vs = some (A ++ (D.flatten ++ (e' ++ R))) := by
 have := A4V (X := A ++ D.flatten) (Y := R) he
 rw [List.length_append, Z6 ha, hD, List.append_assoc, List.append_assoc] at this
 exact this
theorem B0N {A : List Value} {D : List (List Value)} {e R : List Value} {i sz off : Nat} {v : Value} (hD : D.length = i) (ha : ∀ x ∈ D, x.length = sz) (he : e[off]? = some v) :
  (A ++ (D.flatten ++ (e ++ R)))[A.length + i * sz + off]? = some v := by
 have hlt : off < e.length := (List.getElem?_eq_some_iff.1 he).1
 have hf := Z6 ha
 rw [hD] at hf
 rw [List.getElem?_append, if_neg (by omega), List.getElem?_append, if_neg (by omega), List.getElem?_append, if_pos (by omega)]
 rw [show A.length + i * sz + off - A.length - D.flatten.length = off by omega]
 exact he
theorem A4W {hp : List A4} {G : IM} {b : Nat} {A : List Value} {D : List (List Value)} {e R : List Value} {i sz off : Nat} {v : Value} (hm : A4.blk b (A ++ (D.flatten ++ (e ++ R))) ∈ hp) (hD : D.length = i) (ha : ∀ x ∈ D, x.length = sz) (he : e[off]? = some v) :
  At hp G b (A.length + i * sz + off) [v] := A53 hm (B0N hD ha he)

section lend
variable {P : Program} {Γ : L7} {env : M0} {hp : List A4} {G : IM} {K : Po} {ops : Array Oper} {rest : List Oper} {ty : TypeId} {pos : String} {af : Array Edge} {gd : Option (Nat × Bool)}
def A1x (v0 : Value) (G : IM) (Φ : K5 → Prop) : IM → Value → List A4 → Prop := fun G' v outs => G' = G ∧ v = v0 ∧ ∃ bs', outs = blks bs' ∧ Φ bs'
theorem A6O (x : A4) (r0 r1 r2 : K5) : (x :: blks (r0 ++ (r1 ++ r2))).Perm (blks r1 ++ (x :: blks (r0 ++ r2))) := by
 simp only [B0c]
 refine List.Perm.trans ?_ List.perm_middle.symm
 refine List.Perm.cons x ?_
 rw [← List.append_assoc, ← List.append_assoc]
 exact List.Perm.append_right _ List.perm_append_comm
theorem A1y {d : Nat} {f : FuncId} [hF : B1 P f] {xs : List Operand} {ats : Array TypeId} {vs : List Value} {v0 : Value} {Φ : K5 → Prop} {x : A4} {R r0 r1 r2 : K5}
  (hx : evl env xs = some vs) (h : Fn P f vs (blks r1) G (A1x v0 G Φ)) (hR : R = r0 ++ (r1 ++ r2)) (hw : K3 ops env gd = some true) (hd : Nat.blt d Γ.n = true)
  (k : ∀ r1', Φ r1' → E0 P Γ ops rest K ⟨(d, v0) :: env, x :: blks (r0 ++ (r1' ++ r2)), G⟩) : E0 P Γ ops (⟨some d, .call ⟨.value (.func f), ⟨xs⟩, ats⟩, ty, pos, af, gd⟩ :: rest) K ⟨env, x :: blks R, G⟩ := by
 subst hR
 refine K6 (A1T hx h (A6O x r0 r1 r2) hd) hw ?_
 rintro _ ⟨v, G', outs, rfl, _, rfl, rfl, r1', rfl, hΦ⟩
 exact A4G (A6O x r0 r1' r2).symm (k r1' hΦ)
end lend
theorem B0O (D : List (List Value)) (e R : List Value) : D.flatten ++ (e ++ R) = (D ++ [e]).flatten ++ R := by simp
theorem U8.ty_mk {k k' : Int} {ks : List Ty} {p : Option Addr} {c : Nat} {bs : K5} (h : U8 (P5 ks k') p c bs) (hk : H1 k) : Y4 (.mk k (P5 ks k')) [.int .i64 k, .slice p ks.length c] bs := by
 have := h.ty hk; rwa [A2y] at this
theorem M8.drop {ks : List Ty} {i : Nat} {T : List (List Value)} {r : K5} (hi : i < ks.length) (h : M8 (ks.drop i) T r) : ∃ p c e' r1 r2, T = [.int .i64 ks[i].k, .slice p ks[i].ks.length c] :: e' ∧ r = r1 ++ r2 ∧ U8 ks[i].ks p c r1 ∧ M8 (ks.drop (i + 1)) e' r2 := by
 rw [List.drop_eq_getElem_cons hi] at h; exact h.cons
theorem M8.fin {ks : List Ty} {T : List (List Value)} {r : K5} (h : M8 (ks.drop ks.length) T r) : T = [] ∧ r = [] := by
 rw [List.drop_length] at h; simpa only [M8] using h
theorem M8.done {ks : List Ty} {k : Int} {c : Nat} {b : Nat} {A C : List Value} {D T : List (List Value)} {r0 r1 : K5} (hc : ks.length ≤ c) (hm : c ≤ maxLen) (hD : M8 (P5 (ks.take ks.length) k) D r0) (hT : M8 (ks.drop ks.length) T r1) :
  ∃ bs', (A4.blk b (A ++ (D.flatten ++ (T.flatten ++ C))) :: blks (r0 ++ r1)) = blks bs' ∧ U8 (P5 ks k) (some ⟨b, A.length, none⟩) c bs' := by
 obtain ⟨rfl, rfl⟩ := hT.fin
 rw [List.take_length] at hD
 exact ⟨(b, A ++ (D.flatten ++ C)) :: r0, by simp [blks], by rw [A2y]; exact hc, hm, .inr ⟨b, A, C, D, r0, rfl, rfl, hD⟩⟩
theorem A4X : ∀ (t : Ty) (k : Int) (G : IM) (p : Option Addr) (c : Nat) (bs : K5), U8 t.ks p c bs → 0 < k → k + H9 t.ks ≤ 1099511627776 →
  Fn Tryz.prog 106 [.slice p t.ks.length c, .int .i64 k] (blks bs) G (A1x (.int .i64 (k + H9 t.ks)) G (U8 (P5 t.ks k) p c)) := by
 refine Ty.ind fun k0 ks ih k G p c bs ho hk hb => ?_
 simp only [Ty.ks] at ho hb ⊢
 obtain ⟨hc, hm, h⟩ := ho
 rcases h with ⟨rfl, rfl⟩ | ⟨b, A, C, es, r, rfl, rfl, hL⟩
 ·refine B4 Tryz.func106 rfl Tryz.ntmps106 Tryz.results106 rfl ?_
  intro w0
  refine F8 ?_
  refine B3 ?_
  refine I1 (fun (_ : Unit) => ⟨[(5, .int .i64 0), (1, .int .i64 k), (0, .slice p 0 c)], [], G⟩) (fun _ => True) (fun _ => 0) () ?_ ?_ ?_
  ·exact C9
  ·trivial
  ·(rintro _ _)
   refine E2 ?_
   refine sP (V1 rfl rfl (by omega)) rfl rfl ?_
   refine H3 ?_
   refine N9 (rT rfl) A7.refl ?_
   exact ⟨rfl, by rw [H9, Int.add_zero], [], rfl, ⟨hc, hm, .inl ⟨rfl, rfl⟩⟩⟩
 ·have hcm := hm
  unfold maxLen at hcm
  have hn : ks.length ≤ 9223372036854775807 := by omega
  refine B4 (ins := .blk b (A ++ (es.flatten ++ C)) :: blks r) Tryz.func106 rfl Tryz.ntmps106 Tryz.results106 rfl ?_
  intro w0
  refine F8 ?_
  refine B3 (I1 (fun (x : Nat × Int × List (List Value) × List (List Value) × K5 × K5) => ⟨[(5, .int .i64 x.1), (1, .int .i64 x.2.1), (0, .slice (some ⟨b, A.length, none⟩) ks.length c)], .blk b (A ++ (x.2.2.1.flatten ++ (x.2.2.2.1.flatten ++ C))) :: blks (x.2.2.2.2.1 ++ x.2.2.2.2.2), G⟩) (fun x => x.1 ≤ ks.length ∧ x.2.1 = k + H9 (ks.take x.1) ∧ M8 (P5 (ks.take x.1) k) x.2.2.1 x.2.2.2.2.1 ∧ M8 (ks.drop x.1) x.2.2.2.1 x.2.2.2.2.2) (fun x => ks.length - x.1) (0, k, [], es, [], r) ?_ ?_ ?_)
  (simp only [H5]; exact C9)
  exact ⟨by simp, by simp [H9], by simp [M8, P5], by simpa using hL⟩
  (rintro ⟨i, kk, D, T, r0, r1⟩ ⟨hi, hkk, hD, hT⟩; simp only [] at hi hkk hD hT ⊢; have hDl : D.length = i := (by rw [hD.len, A2y, List.length_take]; omega); have hall := hD.all; have hnn := A0y (ks.take i); have htk := A6J ks i)
  refine E2 ?_
  refine sB (I2 rfl rfl) rfl rfl (fun h23 => ?_) (fun h23 => ?_)
  refine sD (nS (qT rfl (tK (nS (tS ?_)))))
  refine B3 ?_
  refine O8 ?_
  refine sP (A8 rfl rfl rfl (by omega)) rfl rfl ?_
  refine sQ (qF rfl) rfl ?_
  (obtain ⟨p3, c3, T', r1a, r1b, rfl, rfl, hos, hT'⟩ := hT.drop (by omega); rw [List.flatten_cons, List.append_assoc]; refine S6 rfl rfl rfl rfl rfl rfl Sw.here (A13 hDl hall rfl) ?_)
  refine sD (nS (tS (tR (sQ (qM rfl) rfl ?_))))
  refine sP (E8 rfl rfl (by omega) (by omega)) rfl rfl ?_
  refine E2 ?_
  refine sP (A8 rfl rfl rfl (by omega)) rfl rfl ?_
  refine sQ (qF rfl) rfl ?_
  refine sL (A0g rfl rfl (A4W (List.Mem.head _) hDl hall rfl)) rfl rfl ?_
  refine sQ (qM rfl) rfl ?_
  (have hsu := B0G (ks := ks) (i := i) (by omega); have hta := A6J ks (i + 1); have hce := B0I ks[i]; refine A1y rfl (ih ks[i] (List.getElem_mem (by omega)) (kk + 1) G p3 c3 r1a hos (by omega) (by omega)) rfl rfl rfl (fun r1' hr1 => ?_))
  refine E2 ?_
  refine sP (E8 rfl rfl (by omega) (by omega)) rfl rfl ?_
  refine sQ (qA rfl) rfl (sD ?_)
  (rw [B0O D, ← List.append_assoc r0]; refine I4 (i + 1, kk + 1 + H9 ks[i].ks, D ++ [[.int .i64 kk, .slice p3 ks[i].ks.length c3]], T', r0 ++ r1', r1b) ?_ ?_ ?_)
  (simp only [H5]; exact C9)
  (dsimp only; exact ⟨by omega, by omega, by rw [B0J (by omega), B0L, ← hkk]; exact hD.snoc (hr1.ty_mk ⟨by omega, by omega⟩), hT'⟩)
  (show ks.length - (i + 1) < ks.length - i; omega)
  refine H3 ?_
  (obtain rfl : i = ks.length := (by omega); refine N9 (rT rfl) A7.refl ?_)
  exact ⟨rfl, by rw [hkk, List.take_length], M8.done hc hm hD hT⟩
theorem A6P (t : Ty) (k : Int) (G : IM) (cells : List Value) (bs : K5) (ho : Y4 t cells bs) (hk : 0 < k) (hb : k + H9 t.ks ≤ 1099511627776) :
  Fn Tryz.prog 67 [.agg ⟨cells⟩, .int .i64 k] (blks bs) G (A1x (.int .i64 (k + H9 t.ks)) G (fun bs' => ∃ p c, cells = [.int .i64 t.k, .slice p t.ks.length c] ∧ U8 (P5 t.ks k) p c bs')) := by
 obtain ⟨p, c, rfl, hi, ho⟩ := ho.open
 have hM := A4X t k G p c bs ho hk hb
 refine B4 Tryz.func67 rfl Tryz.ntmps67 Tryz.results67 rfl ?_
 intro w0
 refine tS (tR ?_)
 refine sE (C1 rfl rfl) rfl (fun b3 => ?_)
 refine D3 ?_
 (refine A1y (r0 := []) (r2 := []) rfl hM (by simp) rfl rfl (fun r1' hr1 => ?_); rw [List.nil_append, List.append_nil])
 refine I8 ?_
 refine N9 (rT rfl) (A7.drop A7.refl) ?_
 exact ⟨rfl, rfl, _, rfl, p, c, rfl, hr1⟩
theorem A6Q {hp : List A4} {G : IM} {b : Nat} {A : List Value} {D : List (List Value)} {e R : List Value} {i sz o1 o2 : Nat} {v : Value} (hm : A4.blk b (A ++ (D.flatten ++ (e ++ R))) ∈ hp) (hD : D.length = i) (ha : ∀ x ∈ D, x.length = sz) (he : e[o1 + o2]? = some v) :
  At hp G b (A.length + i * sz + o1 + o2) [v] := by rw [Nat.add_assoc]; exact A4W hm hD ha he
theorem U9.mkm {k : Int} {nm : ByteArray} {num tk fk lb ka kb kd : Int} {a d : List Ty} {ks : List Tm} {pt pf p : Option Addr} {ct cf c : Nat} {bt bf bk : K5} (ht : U8 (P5 a ka) pt ct bt) (hf : U8 (P5 d kb) pf cf bf) (h : A1f (V0 ks kd) p c bk)
  (hk : H1 k) (hn : H1 num) (htk : H1 tk) (hfk : H1 fk) (hlb : H1 lb) :
  U9 (.mk k nm num (.mk tk (P5 a ka)) (.mk fk (P5 d kb)) lb (V0 ks kd)) [.int .i64 k, .string nm, .int .i64 num, .int .i64 tk, .slice pt a.length ct, .int .i64 fk, .slice pf d.length cf, .int .i64 lb, .slice p ks.length c] (bt ++ (bf ++ bk)) := by
 have := U9.mk (nm := nm) hk hn htk hfk hlb ht hf h
 rwa [A2y a, A2y d, A3T] at this
theorem M9.drop {ks : List Tm} {i : Nat} {T : List (List Value)} {r : K5} (hi : i < ks.length) (h : M9 (ks.drop i) T r) : ∃ pt ct pf cf p c e' bt bf bk r2,
  T = [.int .i64 ks[i].k, .string ks[i].nm, .int .i64 ks[i].num, .int .i64 ks[i].ty.k, .slice pt ks[i].ty.ks.length ct, .int .i64 ks[i].fr.k, .slice pf ks[i].fr.ks.length cf, .int .i64 ks[i].lb, .slice p ks[i].ks.length c] :: e' ∧
  r = (bt ++ (bf ++ bk)) ++ r2 ∧ U8 ks[i].ty.ks pt ct bt ∧ U8 ks[i].fr.ks pf cf bf ∧ A1f ks[i].ks p c bk ∧ M9 (ks.drop (i + 1)) e' r2 := by
 rw [List.drop_eq_getElem_cons hi] at h
 obtain ⟨e, e', r1, r2, rfl, rfl, h1, h2⟩ := h.cons
 obtain ⟨pt, ct, pf, cf, p, c, bt, bf, bk, rfl, h3, h4, h5, rfl⟩ := h1.open
 exact ⟨pt, ct, pf, cf, p, c, e', bt, bf, bk, r2, rfl, rfl, h3, h4, h5, h2⟩
theorem M9.fin {ks : List Tm} {T : List (List Value)} {r : K5} (h : M9 (ks.drop ks.length) T r) : T = [] ∧ r = [] := by
 rw [List.drop_length] at h; simpa only [M9] using h
theorem M9.done {ks : List Tm} {k : Int} {c : Nat} {b : Nat} {A C : List Value} {D T : List (List Value)} {r0 r1 : K5} (hc : ks.length ≤ c) (hm : c ≤ maxLen) (hD : M9 (V0 (ks.take ks.length) k) D r0) (hT : M9 (ks.drop ks.length) T r1) :
  ∃ bs', (A4.blk b (A ++ (D.flatten ++ (T.flatten ++ C))) :: blks (r0 ++ r1)) = blks bs' ∧ A1f (V0 ks k) (some ⟨b, A.length, none⟩) c bs' := by
 obtain ⟨rfl, rfl⟩ := hT.fin
 rw [List.take_length] at hD
 exact ⟨(b, A ++ (D.flatten ++ C)) :: r0, by simp [blks], by rw [A3T]; exact hc, hm, .inr ⟨b, A, C, D, r0, rfl, rfl, hD⟩⟩
theorem B0P {P : Program} {Γ : L7} {env : M0} {hp hp' : List A4} {G : IM} {K : Po} {ops : Array Oper} {rest : List Oper} (e : hp = hp') (k : E0 P Γ ops rest K ⟨env, hp', G⟩) : E0 P Γ ops rest K ⟨env, hp, G⟩ := by rw [e]; exact k
theorem B0Q (k : Int) (h0 : 0 < k) (hk : k < 1000000000000000000) (G : IM) : Fn Tryz.prog 107 [.int .i64 k] [] G (E4 (.string (A11 k.toNat)) G) := by
 have h := B0x k.toNat (by omega) (by omega) G
 rwa [show ((k.toNat : Nat) : Int) = k by omega] at h
theorem B0R : ∀ (t : Tm) (k : Int) (G : IM) (p : Option Addr) (c : Nat) (bs : K5), A1f t.ks p c bs → 0 < k → k + P1 t.ks ≤ 1099511627776 →
  Fn Tryz.prog 68 [.slice p t.ks.length c, .int .i64 k] (blks bs) G (A1x (.int .i64 (k + P1 t.ks)) G (A1f (V0 t.ks k) p c)) := by
 refine Tm.ind fun k0 nm0 num0 B5 fr0 lb0 ks ih k G p c bs ho hk hb => ?_
 simp only [Tm.ks] at ho hb ⊢
 obtain ⟨hc, hm, h⟩ := ho
 rcases h with ⟨rfl, rfl⟩ | ⟨b, A, C, es, r, rfl, rfl, hL⟩
 ·refine B4 Tryz.func68 rfl Tryz.ntmps68 Tryz.results68 rfl ?_
  intro w0
  refine F8 ?_
  refine B3 ?_
  refine I1 (fun (_ : Unit) => ⟨[(5, .int .i64 0), (1, .int .i64 k), (0, .slice p 0 c)], [], G⟩) (fun _ => True) (fun _ => 0) () ?_ ?_ ?_
  ·exact C9
  ·trivial
  ·(rintro _ _)
   refine E2 ?_
   refine sP (V1 rfl rfl (by omega)) rfl rfl ?_
   refine H3 ?_
   refine N9 (rT rfl) A7.refl ?_
   exact ⟨rfl, by rw [P1, Int.add_zero], [], rfl, ⟨hc, hm, .inl ⟨rfl, rfl⟩⟩⟩
 ·have hcm := hm
  unfold maxLen at hcm
  have hn : ks.length ≤ 9223372036854775807 := by omega
  refine B4 (ins := .blk b (A ++ (es.flatten ++ C)) :: blks r) Tryz.func68 rfl Tryz.ntmps68 Tryz.results68 rfl ?_
  intro w0
  refine F8 ?_
  refine B3 (I1 (fun (x : Nat × Int × List (List Value) × List (List Value) × K5 × K5) => ⟨[(5, .int .i64 x.1), (1, .int .i64 x.2.1), (0, .slice (some ⟨b, A.length, none⟩) ks.length c)], .blk b (A ++ (x.2.2.1.flatten ++ (x.2.2.2.1.flatten ++ C))) :: blks (x.2.2.2.2.1 ++ x.2.2.2.2.2), G⟩) (fun x => x.1 ≤ ks.length ∧ x.2.1 = k + P1 (ks.take x.1) ∧ M9 (V0 (ks.take x.1) k) x.2.2.1 x.2.2.2.2.1 ∧ M9 (ks.drop x.1) x.2.2.2.1 x.2.2.2.2.2) (fun x => ks.length - x.1) (0, k, [], es, [], r) ?_ ?_ ?_)
  (simp only [H5]; exact C9)
  exact ⟨by simp, by simp [P1], by simp [M9, V0], by simpa using hL⟩
  (rintro ⟨i, kk, D, T, r0, r1⟩ ⟨hi, hkk, hD, hT⟩; simp only [] at hi hkk hD hT ⊢; have hDl : D.length = i := (by rw [hD.len, A3T, List.length_take]; omega); have hall := hD.all; have hnn := A12 (ks.take i); have htk := A6K ks i)
  refine E2 ?_
  refine sB (I2 rfl rfl) rfl rfl (fun h23 => ?_) (fun h23 => ?_)
  refine sD (nS (qT rfl (tK (nS (tS ?_)))))
  refine B3 ?_
  refine O8 ?_
  refine sP (A8 rfl rfl rfl (by omega)) rfl rfl ?_
  refine sQ (qF rfl) rfl ?_
  (obtain ⟨pt3, ct3, pf3, cf3, p3, c3, T', bt, bf, bk, r1b, rfl, rfl, hot, hof, hos, hT'⟩ := hT.drop (by omega); have hsu := B0H (ks := ks) (i := i) (by omega); have hta := A6K ks (i + 1); have hce := A6L ks[i]; have hn1 := A0y ks[i].ty.ks; have hn2 := A0y ks[i].fr.ks; have hn3 := A12 ks[i].ks; rw [List.flatten_cons, List.append_assoc]; refine S6 rfl rfl rfl rfl rfl rfl Sw.here (A13 hDl hall rfl) ?_)
  refine sD (nS (tS (tR (sQ (qM rfl) rfl ?_))))
  refine sP (E8 rfl rfl (by omega) (by omega)) rfl rfl ?_
  refine D3 ?_
  refine I3 rfl (B0Q _ (by omega) (by omega) _) rfl rfl ?_
  refine sP (A8 rfl rfl rfl (by omega)) rfl rfl ?_
  refine sQ (qF rfl) rfl ?_
  refine S6 rfl rfl rfl rfl rfl rfl Sw.here (A13 hDl hall rfl) ?_
  refine sD (nS (tS (tR (sQ (qM rfl) rfl ?_))))
  refine sP (E8 rfl rfl (by omega) (by omega)) rfl rfl ?_
  refine D3 ?_
  refine sP (A8 rfl rfl rfl (by omega)) rfl rfl ?_
  refine sQ (qF rfl) rfl ?_
  refine S6 rfl rfl rfl rfl rfl rfl Sw.here (A13 hDl hall rfl) ?_
  refine sD (nS (tS (tR (sQ (qM rfl) rfl ?_))))
  refine sP (E8 rfl rfl (by omega) (by omega)) rfl rfl ?_
  refine D3 ?_
  refine sP (A8 rfl rfl rfl (by omega)) rfl rfl ?_
  refine sQ (qF rfl) rfl (sQ (qF rfl) rfl ?_)
  refine S6 rfl rfl rfl rfl rfl rfl Sw.here (A13 hDl hall rfl) ?_
  refine sD (nS (tS (tR (sQ (qM rfl) rfl ?_))))
  refine sP (E8 rfl rfl (by omega) (by omega)) rfl rfl ?_
  refine C3 ?_
  refine sP (A8 rfl rfl rfl (by omega)) rfl rfl ?_
  refine sQ (qF rfl) rfl (sQ (qF rfl) rfl ?_)
  refine sL (A0g rfl rfl (A6Q (List.Mem.head _) hDl hall rfl)) rfl rfl ?_
  refine sQ (qM rfl) rfl ?_
  (refine A1y (r0 := r0) (r1 := bt) (r2 := bf ++ (bk ++ r1b)) rfl (A4X ks[i].ty (kk + 1 + 1 + 1 + 1) G pt3 ct3 bt hot (by omega) (by omega)) (by simp) rfl rfl (fun bt' hbt => ?_))
  refine D3 ?_
  refine sP (A8 rfl rfl rfl (by omega)) rfl rfl ?_
  refine sQ (qF rfl) rfl (sQ (qF rfl) rfl ?_)
  refine S6 rfl rfl rfl rfl rfl rfl Sw.here (A13 hDl hall rfl) ?_
  refine sD (nS (tS (tR (sQ (qM rfl) rfl ?_))))
  refine sP (E8 rfl rfl (by omega) (by omega)) rfl rfl ?_
  refine C3 ?_
  refine sP (A8 rfl rfl rfl (by omega)) rfl rfl ?_
  refine sQ (qF rfl) rfl (sQ (qF rfl) rfl ?_)
  refine sL (A0g rfl rfl (A6Q (List.Mem.head _) hDl hall rfl)) rfl rfl ?_
  refine sQ (qM rfl) rfl ?_
  (refine A1y (r0 := r0 ++ bt') (r1 := bf) (r2 := bk ++ r1b) rfl (A4X ks[i].fr (kk + 1 + 1 + 1 + 1 + H9 ks[i].ty.ks + 1) G pf3 cf3 bf hof (by omega) (by omega)) (by simp) rfl rfl (fun bf' hbf => ?_))
  refine D3 ?_
  refine sP (A8 rfl rfl rfl (by omega)) rfl rfl ?_
  refine sQ (qF rfl) rfl ?_
  refine S6 rfl rfl rfl rfl rfl rfl Sw.here (A13 hDl hall rfl) ?_
  refine sD (nS (tS (tR (sQ (qM rfl) rfl ?_))))
  refine sP (E8 rfl rfl (by omega) (by omega)) rfl rfl ?_
  refine E2 ?_
  refine sP (A8 rfl rfl rfl (by omega)) rfl rfl ?_
  refine sQ (qF rfl) rfl ?_
  refine sL (A0g rfl rfl (A4W (List.Mem.head _) hDl hall rfl)) rfl rfl ?_
  refine sQ (qM rfl) rfl ?_
  (refine A1y (r0 := r0 ++ bt' ++ bf') (r1 := bk) (r2 := r1b) rfl (ih ks[i] (List.getElem_mem (by omega)) (kk + 1 + 1 + 1 + 1 + H9 ks[i].ty.ks + 1 + H9 ks[i].fr.ks + 1) G p3 c3 bk hos (by omega) (by omega)) (by simp) rfl rfl (fun bk' hbk => ?_); refine B0P (hp' := .blk b (A ++ ((D ++ [([.int .i64 kk, .string (A11 (kk + 1).toNat), .int .i64 (kk + 1 + 1), .int .i64 (kk + 1 + 1 + 1), .slice pt3 ks[i].ty.ks.length ct3, .int .i64 (kk + 1 + 1 + 1 + 1 + H9 ks[i].ty.ks), .slice pf3 ks[i].fr.ks.length cf3, .int .i64 (kk + 1 + 1 + 1 + 1 + H9 ks[i].ty.ks + 1 + H9 ks[i].fr.ks), .slice p3 ks[i].ks.length c3] : List Value)]).flatten ++ (T'.flatten ++ C))) :: blks ((r0 ++ (bt' ++ (bf' ++ bk'))) ++ r1b)) (by simp) ?_)
  refine E2 ?_
  refine sP (E8 rfl rfl (by omega) (by omega)) rfl rfl ?_
  refine sQ (qA rfl) rfl (sD ?_)
  (refine I4 (i + 1, kk + 1 + 1 + 1 + 1 + H9 ks[i].ty.ks + 1 + H9 ks[i].fr.ks + 1 + P1 ks[i].ks, D ++ [[.int .i64 kk, .string (A11 (kk + 1).toNat), .int .i64 (kk + 1 + 1), .int .i64 (kk + 1 + 1 + 1), .slice pt3 ks[i].ty.ks.length ct3, .int .i64 (kk + 1 + 1 + 1 + 1 + H9 ks[i].ty.ks), .slice pf3 ks[i].fr.ks.length cf3, .int .i64 (kk + 1 + 1 + 1 + 1 + H9 ks[i].ty.ks + 1 + H9 ks[i].fr.ks), .slice p3 ks[i].ks.length c3]], T', r0 ++ (bt' ++ (bf' ++ bk')), r1b) ?_ ?_ ?_)
  (simp only [H5]; exact C9)
  (dsimp only; exact ⟨by omega, by omega, by rw [B0K (by omega), B0M, ← hkk]; exact hD.snoc (U9.mkm hbt hbf hbk ⟨by omega, by omega⟩ ⟨by omega, by omega⟩ ⟨by omega, by omega⟩ ⟨by omega, by omega⟩ ⟨by omega, by omega⟩), hT'⟩)
  (show ks.length - (i + 1) < ks.length - i; omega)
  refine H3 ?_
  (obtain rfl : i = ks.length := (by omega); refine N9 (rT rfl) A7.refl ?_)
  exact ⟨rfl, by rw [hkk, List.take_length], M9.done hc hm hD hT⟩
theorem U9.open9 {k : Int} {nm : ByteArray} {num tk fk lb : Int} {tks fks : List Ty} {ks : List Tm} {cells : List Value} {bs : K5} (h : U9 (.mk k nm num (.mk tk tks) (.mk fk fks) lb ks) cells bs) : ∃ pt ct pf cf p c bt bf bk,
  cells = [.int .i64 k, .string nm, .int .i64 num, .int .i64 tk, .slice pt tks.length ct, .int .i64 fk, .slice pf fks.length cf, .int .i64 lb, .slice p ks.length c] ∧
  Y4 (.mk tk tks) [.int .i64 tk, .slice pt tks.length ct] bt ∧ Y4 (.mk fk fks) [.int .i64 fk, .slice pf fks.length cf] bf ∧ A1f ks p c bk ∧ bs = bt ++ (bf ++ bk) := by
 simp only [U9] at h
 obtain ⟨tc, fc, p, c, bt, bf, bk, h1, _, _, _, h5, h6, h7, h8, h9, h10⟩ := h
 obtain ⟨pt, ct, rfl, _, _⟩ := h5.open
 obtain ⟨pf, cf, rfl, _, _⟩ := h6.open
 exact ⟨pt, ct, pf, cf, p, c, bt, bf, bk, h1, h5, h6, ⟨h7, h8, h9⟩, h10⟩
theorem B0S {P : Program} {Γ : L7} {env : M0} {x : A4} {R R' : K5} {G : IM} {K : Po} {ops : Array Oper} {rest : List Oper} (e : R = R') (k : E0 P Γ ops rest K ⟨env, x :: blks R', G⟩) : E0 P Γ ops rest K ⟨env, x :: blks R, G⟩ := by rw [e]; exact k
def MTm (t : Tm) (k : Int) (cells : List Value) (bs : K5) : Prop := ∃ pt ct pf cf p c bt bf bk,
 cells = [.int .i64 t.k, .string t.nm, .int .i64 t.num, .int .i64 t.ty.k, .slice pt t.ty.ks.length ct, .int .i64 t.fr.k, .slice pf t.fr.ks.length cf, .int .i64 t.lb, .slice p t.ks.length c] ∧
 U8 (P5 t.ty.ks k) pt ct bt ∧ U8 (P5 t.fr.ks (k + H9 t.ty.ks)) pf cf bf ∧ A1f (V0 t.ks (k + H9 t.ty.ks + H9 t.fr.ks)) p c bk ∧ bs = bt ++ (bf ++ bk)
theorem B0T (t : Tm) (k : Int) (G : IM) (cells : List Value) (bs : K5) (ho : U9 t cells bs) (hk : 0 < k) (hb : k + H9 t.ty.ks + H9 t.fr.ks + P1 t.ks ≤ 1099511627776) :
  Fn Tryz.prog 24 [.agg ⟨cells⟩, .int .i64 k] (blks bs) G (A1x (.int .i64 (k + H9 t.ty.ks + H9 t.fr.ks + P1 t.ks)) G (MTm t k cells)) := by
 obtain ⟨k0, nm, num, ⟨tk, tks⟩, ⟨fk, fks⟩, lb, ks⟩ := t
 obtain ⟨pt, ct, pf, cf, p, c, bt, bf, bk, rfl, hot, hof, hos, rfl⟩ := ho.open9
 simp only [Tm.ty, Tm.fr, Tm.ks, Ty.ks] at hb ⊢
 have h1 := A0y tks
 have h2 := A0y fks
 have h3 := A12 ks
 refine B4 Tryz.func24 rfl Tryz.ntmps24 Tryz.results24 rfl ?_
 intro w0
 refine tS (tR ?_)
 refine sE (C1 rfl rfl) rfl (fun b3 => ?_)
 refine D3 ?_
 (refine A1y (r0 := []) (r1 := bt) (r2 := bf ++ bk) rfl (A6P (.mk tk tks) k G _ bt hot hk (by simp only [Ty.ks]; omega)) rfl rfl rfl (fun bt' hbt => ?_); obtain ⟨p1, c1, he1, hbt⟩ := hbt; simp only [Ty.k, Ty.ks, List.cons.injEq, Value.slice.injEq, true_and, and_true] at he1 hbt ⊢; obtain ⟨rfl, rfl⟩ := he1)
 refine D3 ?_
 (refine A1y (r0 := bt') (r1 := bf) (r2 := bk) rfl (A6P (.mk fk fks) (k + H9 tks) G _ bf hof (by omega) (by simp only [Ty.ks]; omega)) rfl rfl rfl (fun bf' hbf => ?_); obtain ⟨p2, c2, he2, hbf⟩ := hbf; simp only [Ty.k, Ty.ks, List.cons.injEq, Value.slice.injEq, true_and, and_true] at he2 hbf ⊢; obtain ⟨rfl, rfl⟩ := he2)
 refine D3 ?_
 (refine A1y (r0 := bt' ++ bf') (r1 := bk) (r2 := []) rfl (B0R (.mk k0 nm num (.mk tk tks) (.mk fk fks) lb ks) (k + H9 tks + H9 fks) G p c bk hos (by omega) (by simp only [Tm.ks]; omega)) (by simp) rfl rfl (fun bk' hbk => ?_); simp only [Tm.ks] at hbk ⊢; refine B0S (R' := bt' ++ (bf' ++ bk')) (by simp) ?_)
 refine I8 ?_
 refine N9 (rT rfl) (A7.drop A7.refl) ?_
 exact ⟨rfl, rfl, _, rfl, _, _, _, _, _, _, _, _, _, rfl, hbt, hbf, hbk, rfl⟩

def Y5 : Nat → Int → List Int
 | 0, _ => []
 | n + 1, k => k :: Y5 n (k + 1)
theorem A27 : ∀ (n : Nat) (k : Int), (Y5 n k).length = n
 | 0, k => rfl
 | n + 1, k => by rw [Y5, List.length_cons, A27 n]
theorem A6R : ∀ (n : Nat) (k : Int) (i : Nat) (h : i < (Y5 n k).length), (Y5 n k)[i] = k + i
 | 0, k, i, h => by simp [Y5] at h
 | n + 1, k, 0, h => by simp [Y5]
 | n + 1, k, i + 1, h => by
  have := A6R n (k + 1) i (by rw [A27] at h ⊢; omega)
  simp only [Y5, List.getElem_cons_succ, this]; omega
theorem A6S : ∀ (n : Nat) (k : Int), Y5 (n + 1) k = Y5 n k ++ [k + n]
 | 0, k => by simp [Y5]
 | n + 1, k => by rw [Y5, A6S n, Y5, List.cons_append, show k + 1 + (n : Int) = k + ((n + 1 : Nat) : Int) by omega]
def OIs (l : List Int) (p : Option Addr) (c : Nat) (bs : K5) : Prop :=
 l.length ≤ c ∧ c ≤ maxLen ∧ ((l = [] ∧ bs = []) ∨ ∃ b A C, p = some ⟨b, A.length, none⟩ ∧ bs = [(b, A ++ (N3 l ++ C))])
theorem B0U {A D R : List Value} {v u : Value} {i : Nat} (h : D.length = i) : O5 (A ++ (D ++ (v :: R))) (A.length + i * 1) [u] = some (A ++ (D ++ (u :: R))) := by
 have := A4V (X := A ++ D) (e := [v]) (e' := [u]) (Y := R) (vs := [u]) (o := 0) rfl
 simpa [h] using this
theorem B0V {l : List Int} {i : Nat} (hi : i < l.length) : N3 (l.drop i) = .int .i64 l[i] :: N3 (l.drop (i + 1)) := by
 rw [List.drop_eq_getElem_cons hi]; rfl
theorem B0W (l : List Int) (k : Int) (G : IM) (p : Option Addr) (c : Nat) (bs : K5) (ho : OIs l p c bs) (hk : 0 < k) (hb : k + l.length ≤ 1099511627776) :
  Fn Tryz.prog 25 [.slice p l.length c, .int .i64 k] (blks bs) G (A1x (.int .i64 (k + l.length)) G (OIs (Y5 l.length k) p c)) := by
 obtain ⟨hc, hm, h⟩ := ho
 rcases h with ⟨rfl, rfl⟩ | ⟨b, A, C, rfl, rfl⟩
 ·refine B4 Tryz.func25 rfl Tryz.ntmps25 Tryz.results25 rfl ?_
  intro w0
  refine F8 ?_
  refine B3 ?_
  refine I1 (fun (_ : Unit) => ⟨[(5, .int .i64 0), (1, .int .i64 k), (0, .slice p 0 c)], [], G⟩) (fun _ => True) (fun _ => 0) () ?_ ?_ ?_
  ·exact C9
  ·trivial
  ·(rintro _ _)
   refine E2 ?_
   refine sP (V1 rfl rfl (by omega)) rfl rfl ?_
   refine H3 ?_
   refine N9 (rT rfl) A7.refl ?_
   exact ⟨rfl, by rw [List.length_nil]; simp, [], rfl, ⟨hc, hm, .inl ⟨rfl, rfl⟩⟩⟩
 ·refine B4 (ins := [.blk b (A ++ (N3 l ++ C))]) Tryz.func25 rfl Tryz.ntmps25 Tryz.results25 rfl ?_
  intro w0
  refine F8 ?_
  refine B3 (I1 (fun (x : Nat × Int × List Value × List Value) => ⟨[(5, .int .i64 x.1), (1, .int .i64 x.2.1), (0, .slice (some ⟨b, A.length, none⟩) l.length c)], [.blk b (A ++ (x.2.2.1 ++ (x.2.2.2 ++ C)))], G⟩) (fun x => x.1 ≤ l.length ∧ x.2.1 = k + x.1 ∧ x.2.2.1 = N3 (Y5 x.1 k) ∧ x.2.2.2 = N3 (l.drop x.1)) (fun x => l.length - x.1) (0, k, [], N3 l) ?_ ?_ ?_)
  (simp only [H5]; exact C9)
  exact ⟨by simp, by simp, rfl, rfl⟩
  (rintro ⟨i, kk, D, T⟩ ⟨hi, hkk, hD, hT⟩; simp only [] at hi hkk hD hT ⊢; have hDl : D.length = i := (by rw [hD, A4O, A27]))
  refine E2 ?_
  refine sB (I2 rfl rfl) rfl rfl (fun h23 => ?_) (fun h23 => ?_)
  refine sD (nS (qT rfl (tK (nS (tS ?_)))))
  refine B3 ?_
  refine O8 ?_
  refine sP (A8 rfl rfl rfl (by omega)) rfl rfl ?_
  (rw [B0V (by omega)] at hT; subst hT; rw [List.cons_append]; refine S6 rfl rfl rfl rfl rfl rfl Sw.here (B0U hDl) ?_)
  refine sD (nS (tR (sQ (qM rfl) rfl ?_)))
  refine sP (E8 rfl rfl (by omega) (by omega)) rfl rfl ?_
  refine E2 ?_
  refine sP (E8 rfl rfl (by omega) (by omega)) rfl rfl ?_
  refine sQ (qA rfl) rfl (sD ?_)
  (rw [show D ++ (Value.int .i64 kk :: (N3 (l.drop (i + 1)) ++ C)) = (D ++ [.int .i64 kk]) ++ (N3 (l.drop (i + 1)) ++ C) from by simp]; refine I4 (i + 1, kk + 1, D ++ [.int .i64 kk], N3 (l.drop (i + 1))) ?_ ?_ ?_)
  (simp only [H5]; exact C9)
  (dsimp only; exact ⟨by omega, by omega, by rw [A6S, hD, hkk]; simp [N3], rfl⟩)
  (show l.length - (i + 1) < l.length - i; omega)
  refine H3 ?_
  (obtain rfl : i = l.length := (by omega); refine N9 (rT rfl) A7.refl ?_)
  (rw [List.drop_length] at hT; exact ⟨rfl, by rw [hkk], [(b, A ++ (D ++ (T ++ C)))], rfl, by rw [A27]; exact hc, hm, .inr ⟨b, A, C, rfl, by rw [hD, hT]; rfl⟩⟩)
def OPs : List (List Int) → List Value → K5 → Prop
 | [], es, bs => es = [] ∧ bs = []
 | l :: ls, es, bs => ∃ p c e' r1 r2, es = .slice p l.length c :: e' ∧ bs = r1 ++ r2 ∧ OIs l p c r1 ∧ OPs ls e' r2
def B0X : List (List Int) → Int
 | [] => 0
 | l :: ls => l.length + B0X ls
def B0Y : List (List Int) → Int → List (List Int)
 | [], _ => []
 | l :: ls, k => Y5 l.length k :: B0Y ls (k + l.length)
section lend0
variable {P : Program} {Γ : L7} {env : M0} {G : IM} {K : Po} {ops : Array Oper} {rest : List Oper} {ty : TypeId} {pos : String} {af : Array Edge} {gd : Option (Nat × Bool)}
end lend0
def QPs (G : IM) : List (List Int) → List Value → Prop
 | [], es => es = []
 | l :: ls, es => ∃ p c r, es = .slice p l.length c :: r ∧ Sl G p l.length c 1 (N3 l) ∧ QPs G ls r
theorem A6T (n : Nat) (k : Int) (G : IM) (p : Option Addr) (c : Nat) (h : Sl G p n c 1 (N3 (Y5 n k))) (hk : 0 < k) (hb : k + n ≤ 1099511627776) :
  Fn Tryz.prog 26 [.slice p n c, .int .i64 k] [] G (E4 (.int .i64 (k + n)) G) := by
 refine B4 Tryz.func26 rfl Tryz.ntmps26 Tryz.results26 rfl ?_
 intro w0
 refine F8 ?_
 refine B3 (I1 (fun (x : Nat × Int) => ⟨[(5, .int .i64 x.1), (1, .int .i64 x.2), (0, .slice p n c)], [], G⟩) (fun x => x.1 ≤ n ∧ x.2 = k + x.1) (fun x => n - x.1) (0, k) ?_ ?_ ?_)
 (simp only [H5]; exact C9)
 exact ⟨by simp, by simp⟩
 (rintro ⟨i, kk⟩ ⟨hi, hkk⟩; simp only [] at hi hkk ⊢)
 refine E2 ?_
 refine sB (I2 rfl rfl) rfl rfl (fun h23 => ?_) (fun h23 => ?_)
 refine sD (nS (qT rfl (tK (nS (tS ?_)))))
 refine B3 ?_
 refine tS (tS (tR (sQ (qM rfl) rfl (sQ (qM rfl) rfl ?_))))
 (obtain ⟨b, o, v, rfl, hv, hat, hgb⟩ := h.kid (i := i) (by omega); obtain ⟨hi2, rfl⟩ := A3S hv; have hg := A6R n k i hi2; refine sP (A8 rfl rfl rfl (by omega)) rfl rfl ?_)
 refine sL (A0g rfl rfl (hat _)) rfl rfl ?_
 refine sQ (qM rfl) rfl ?_
 refine sP (X9 rfl rfl (by omega)) rfl rfl ?_
 refine sD (nS (cF rfl (tK (nS (tR (sQ (qM rfl) rfl ?_))))))
 refine sP (E8 rfl rfl (by omega) (by omega)) rfl rfl ?_
 refine E2 ?_
 refine sP (E8 rfl rfl (by omega) (by omega)) rfl rfl ?_
 refine sQ (qA rfl) rfl (sD ?_)
 refine I4 (i + 1, kk + 1) ?_ ?_ ?_
 (simp only [H5]; exact C9)
 (dsimp only; exact ⟨by omega, by omega⟩)
 (show n - (i + 1) < n - i; omega)
 refine J1 ?_
 (obtain rfl : i = n := (by omega); exact ⟨rfl, by rw [hkk], rfl⟩)
mutual
def P2 : Ty → Int
 | .mk _ ks => ks.length + Q2 ks
def Q2 : List Ty → Int
 | [] => 0
 | t :: ts => P2 t + Q2 ts
end
mutual
def X2 : Tm → Int
 | .mk _ nm _ ty fr _ ks => nm.size + P2 ty + P2 fr + (ks.length + R0 ks)
def R0 : List Tm → Int
 | [] => 0
 | t :: ts => X2 t + R0 ts
end
mutual
theorem A0z : ∀ t : Ty, 0 ≤ P2 t
 | .mk _ ks => by have := A14 ks; rw [P2]; omega
theorem A14 : ∀ ts : List Ty, 0 ≤ Q2 ts
 | [] => by rw [Q2]; omega
 | t :: ts => by have := A0z t; have := A14 ts; rw [Q2]; omega
end
mutual
theorem A3U : ∀ t : Tm, 0 ≤ X2 t
 | .mk _ _ _ ty fr _ ks => by have := A1z ks; have := A0z ty; have := A0z fr; rw [X2]; omega
theorem A1z : ∀ ts : List Tm, 0 ≤ R0 ts
 | [] => by rw [R0]; omega
 | t :: ts => by have := A3U t; have := A1z ts; rw [R0]; omega
end
theorem A4Y : ∀ a b : List Ty, Q2 (a ++ b) = Q2 a + Q2 b
 | [], b => by simp [Q2]
 | t :: a, b => by rw [List.cons_append, Q2, Q2, A4Y a b]; omega
theorem A4Z : ∀ a b : List Tm, R0 (a ++ b) = R0 a + R0 b
 | [], b => by simp [R0]
 | t :: a, b => by rw [List.cons_append, R0, R0, A4Z a b]; omega
theorem B0Z {ks : List Ty} {i : Nat} (hi : i < ks.length) : Q2 (ks.take (i + 1)) = Q2 (ks.take i) + P2 ks[i] := by
 rw [List.take_succ_eq_append_getElem hi, A4Y, Q2, Q2]; omega
theorem B00 {ks : List Tm} {i : Nat} (hi : i < ks.length) : R0 (ks.take (i + 1)) = R0 (ks.take i) + X2 ks[i] := by
 rw [List.take_succ_eq_append_getElem hi, A4Z, R0, R0]; omega
theorem B01 (ks : List Ty) (i : Nat) : Q2 (ks.take i) ≤ Q2 ks := by
 have h := A4Y (ks.take i) (ks.drop i)
 rw [List.take_append_drop] at h
 have := A14 (ks.drop i); omega
theorem B02 (ks : List Tm) (i : Nat) : R0 (ks.take i) ≤ R0 ks := by
 have h := A4Z (ks.take i) (ks.drop i)
 rw [List.take_append_drop] at h
 have := A1z (ks.drop i); omega
mutual
def Tm.nok : Tm → Prop
 | .mk _ nm _ _ _ _ ks => nm.size ≤ 9223372036854775807 ∧ Tm.nokL ks
def Tm.nokL : List Tm → Prop
 | [] => True
 | t :: ts => t.nok ∧ Tm.nokL ts
end
theorem Tm.nokL_mem : ∀ {ts : List Tm}, Tm.nokL ts → ∀ t ∈ ts, t.nok
 | [], _, t, h => by simp at h
 | t' :: ts, h, t, ht => by
  simp only [Tm.nokL] at h
  rcases List.mem_cons.1 ht with rfl | ht
  ·exact h.1
  ·exact Tm.nokL_mem h.2 t ht
def A0N (left s : Int) : Int := if s ≤ left then left - s else -1
theorem A1A (left s : Int) : (s ≤ left ∧ A0N left s = left - s) ∨ (left < s ∧ A0N left s = -1) := by
 unfold A0N; split
 ·exact .inl ⟨by omega, rfl⟩
 ·exact .inr ⟨by omega, rfl⟩
theorem A40 {left s : Int} (h : s ≤ left) : A0N left s = left - s := if_pos h
theorem A1B {left s : Int} (h : left < s) : A0N left s = -1 := if_neg (by omega)
theorem B03 (ks : List Ty) (ih : ∀ t ∈ ks, ∀ (left : Int) (G : IM) (cells : List Value), 0 ≤ left → left ≤ 1048576 → B6 G t cells → Fn Tryz.prog 52 [.agg ⟨cells⟩, .int .i64 left] [] G (E4 (.int .i64 (A0N left (P2 t))) G))
  (left : Int) (G : IM) (p : Option Addr) (c : Nat) (es : List (List Value)) (h0 : 0 ≤ left) (h1 : left ≤ 1048576) (hsl : C4 G p ks.length c 2 es) (hkl : C2 G ks es) :
  Fn Tryz.prog 96 [.slice p ks.length c, .int .i64 left] [] G (E4 (.int .i64 (A0N left (ks.length + Q2 ks))) G) := by
 have hn := hsl.le
 have hs := A14 ks
 refine B4 Tryz.func96 rfl Tryz.ntmps96 Tryz.results96 rfl ?_
 intro w0
 refine I8 ?_
 refine sP (W8 rfl rfl (by omega) (by omega)) rfl rfl ?_
 refine C3 ?_
 refine sB (I2 rfl rfl) rfl rfl (fun h19 => ?_) (fun h19 => ?_)
 refine F8 ?_
 exact ⟨rfl, by rw [A1B (by omega)], rfl⟩
 refine F8 ?_
 refine B3 (I1 (fun (x : Nat × Int) => ⟨[(5, .int .i64 x.1), (1, .int .i64 x.2), (0, .slice p ks.length c)], [], G⟩) (fun x => x.1 ≤ ks.length ∧ x.2 = left - ks.length - Q2 (ks.take x.1) ∧ 0 ≤ x.2) (fun x => ks.length - x.1) (0, left - ks.length) ?_ ?_ ?_)
 (simp only [H5]; exact C9)
 exact ⟨by simp, by simp [Q2], by omega⟩
 (rintro ⟨i, l⟩ ⟨hi, hl, hl0⟩; simp only [] at hi hl hl0 ⊢; have hsn := A14 (ks.take i))
 refine E2 ?_
 refine sB (I2 rfl rfl) rfl rfl (fun h54 => ?_) (fun h54 => ?_)
 refine sD (nS (qT rfl (tK (nS (tS ?_)))))
 refine B3 ?_
 refine tS (tR (sQ (qM rfl) rfl (sQ (qM rfl) rfl ?_)))
 (obtain ⟨b, o, p2, c2, rfl, hat, hre, hgb⟩ := hsl.kidTy hkl (i := i) (by omega) (by omega); refine sP (A8 rfl rfl rfl (by omega)) rfl rfl ?_)
 refine sL (A0 rfl rfl (hat _) rfl) rfl rfl ?_
 refine sQ (qM rfl) rfl ?_
 (have hih := ih ks[i] (List.getElem_mem (by omega)) l G _ hl0 (by omega) hre; have hsu := B0Z (ks := ks) (i := i) (by omega); have hta := B01 ks (i + 1); rcases A1A l (P2 ks[i]) with ⟨hc, hr⟩ | ⟨hc, hr⟩ <;> (rw [hr] at hih; refine I3 rfl hih rfl rfl ?_))
 refine sQ (qA rfl) rfl (sD (nS (tS (tR (sQ (qM rfl) rfl ?_)))))
 refine sP (V1 rfl rfl (by omega)) rfl rfl ?_
 refine D3 ?_
 refine sP (E8 rfl rfl (by omega) (by omega)) rfl rfl ?_
 refine sQ (qA rfl) rfl (sD ?_)
 refine I4 (i + 1, l - P2 ks[i]) ?_ ?_ ?_
 (simp only [H5]; exact C9)
 (dsimp only; exact ⟨by omega, by omega, by omega⟩)
 (show ks.length - (i + 1) < ks.length - i; omega)
 refine sQ (qA rfl) rfl (sD (nS (tS (tR (sQ (qM rfl) rfl ?_)))))
 refine sP (A1t rfl rfl (by omega)) rfl rfl ?_
 refine H3 ?_
 exact ⟨rfl, by rw [A1B (by omega)], rfl⟩
 refine J1 ?_
 (obtain rfl : i = ks.length := (by omega); rw [List.take_length] at hl; exact ⟨rfl, by rw [A40 (by omega), hl]; congr 1; omega, rfl⟩)
theorem A6U : ∀ (t : Ty) (left : Int) (G : IM) (cells : List Value), 0 ≤ left → left ≤ 1048576 → B6 G t cells → Fn Tryz.prog 52 [.agg ⟨cells⟩, .int .i64 left] [] G (E4 (.int .i64 (A0N left (P2 t))) G) := by
 refine Ty.ind fun k ks ih left G cells h0 h1 hr => ?_
 obtain ⟨p, c, es, rfl, hk, hsl, hkl⟩ := hr.open
 simp only [Ty.k, Ty.ks] at hk hsl hkl ⊢
 have hS := B03 ks ih left G p c es h0 h1 hsl hkl
 rw [P2]
 refine B4 Tryz.func52 rfl Tryz.ntmps52 Tryz.results52 rfl ?_
 intro w0
 refine tS (tR ?_)
 refine sE (C1 rfl rfl) rfl (fun b3 => ?_)
 refine D3 ?_
 (rcases A1A left (ks.length + Q2 ks) with ⟨hc, hr⟩ | ⟨hc, hr⟩ <;> (rw [hr] at hS; refine I3 rfl hS rfl rfl ?_))
 refine C3 ?_
 refine sP (V1 rfl rfl (by omega)) rfl rfl ?_
 refine K1 ?_
 exact ⟨rfl, by rw [hr], rfl⟩
 refine C3 ?_
 refine sP (A1t rfl rfl (by omega)) rfl rfl ?_
 refine F8 ?_
 exact ⟨rfl, by rw [hr], rfl⟩
theorem B04 (ks : List Tm) (ih : ∀ t ∈ ks, ∀ (left : Int) (G : IM) (cells : List Value), 0 ≤ left → left ≤ 1048576 → t.nok → A6 G t cells → Fn Tryz.prog 16 [.agg ⟨cells⟩, .int .i64 left] [] G (E4 (.int .i64 (A0N left (X2 t))) G))
  (left : Int) (G : IM) (p : Option Addr) (c : Nat) (es : List (List Value)) (h0 : 0 ≤ left) (h1 : left ≤ 1048576) (hnok : Tm.nokL ks) (hsl : C4 G p ks.length c 9 es) (hkl : C7 G ks es) :
  Fn Tryz.prog 53 [.slice p ks.length c, .int .i64 left] [] G (E4 (.int .i64 (A0N left (ks.length + R0 ks))) G) := by
 have hn := hsl.le
 have hs := A1z ks
 refine B4 Tryz.func53 rfl Tryz.ntmps53 Tryz.results53 rfl ?_
 intro w0
 refine I8 ?_
 refine sP (W8 rfl rfl (by omega) (by omega)) rfl rfl ?_
 refine C3 ?_
 refine sB (I2 rfl rfl) rfl rfl (fun h19 => ?_) (fun h19 => ?_)
 refine F8 ?_
 exact ⟨rfl, by rw [A1B (by omega)], rfl⟩
 refine F8 ?_
 refine B3 (I1 (fun (x : Nat × Int) => ⟨[(5, .int .i64 x.1), (1, .int .i64 x.2), (0, .slice p ks.length c)], [], G⟩) (fun x => x.1 ≤ ks.length ∧ x.2 = left - ks.length - R0 (ks.take x.1) ∧ 0 ≤ x.2) (fun x => ks.length - x.1) (0, left - ks.length) ?_ ?_ ?_)
 (simp only [H5]; exact C9)
 exact ⟨by simp, by simp [R0], by omega⟩
 (rintro ⟨i, l⟩ ⟨hi, hl, hl0⟩; simp only [] at hi hl hl0 ⊢; have hsn := A1z (ks.take i))
 refine E2 ?_
 refine sB (I2 rfl rfl) rfl rfl (fun h54 => ?_) (fun h54 => ?_)
 refine sD (nS (qT rfl (tK (nS (tS ?_)))))
 refine B3 ?_
 refine tS (tR (sQ (qM rfl) rfl (sQ (qM rfl) rfl ?_)))
 (obtain ⟨b, o, e, rfl, hle, hat, hre, hgb⟩ := hsl.kidTm hkl (i := i) (by omega) (by omega); refine sP (A8 rfl rfl rfl (by omega)) rfl rfl ?_)
 refine sL (A0 rfl rfl (hat _) hle) rfl rfl ?_
 refine sQ (qM rfl) rfl ?_
 (have hih := ih ks[i] (List.getElem_mem (by omega)) l G _ hl0 (by omega) (Tm.nokL_mem hnok _ (List.getElem_mem (by omega))) hre; have hsu := B00 (ks := ks) (i := i) (by omega); have hta := B02 ks (i + 1); rcases A1A l (X2 ks[i]) with ⟨hc, hr⟩ | ⟨hc, hr⟩ <;> (rw [hr] at hih; refine I3 rfl hih rfl rfl ?_))
 refine sQ (qA rfl) rfl (sD (nS (tS (tR (sQ (qM rfl) rfl ?_)))))
 refine sP (V1 rfl rfl (by omega)) rfl rfl ?_
 refine D3 ?_
 refine sP (E8 rfl rfl (by omega) (by omega)) rfl rfl ?_
 refine sQ (qA rfl) rfl (sD ?_)
 refine I4 (i + 1, l - X2 ks[i]) ?_ ?_ ?_
 (simp only [H5]; exact C9)
 (dsimp only; exact ⟨by omega, by omega, by omega⟩)
 (show ks.length - (i + 1) < ks.length - i; omega)
 refine sQ (qA rfl) rfl (sD (nS (tS (tR (sQ (qM rfl) rfl ?_)))))
 refine sP (A1t rfl rfl (by omega)) rfl rfl ?_
 refine H3 ?_
 exact ⟨rfl, by rw [A1B (by omega)], rfl⟩
 refine J1 ?_
 (obtain rfl : i = ks.length := (by omega); rw [List.take_length] at hl; exact ⟨rfl, by rw [A40 (by omega), hl]; congr 1; omega, rfl⟩)
theorem A6V : ∀ (t : Tm) (left : Int) (G : IM) (cells : List Value), 0 ≤ left → left ≤ 1048576 → t.nok → A6 G t cells → Fn Tryz.prog 16 [.agg ⟨cells⟩, .int .i64 left] [] G (E4 (.int .i64 (A0N left (X2 t))) G) := by
 refine Tm.ind fun k nm num ty fr lb ks ih left G cells h0 h1 hno hr => ?_
 simp only [Tm.nok] at hno
 obtain ⟨hnm, hno⟩ := hno
 obtain ⟨tk, tks⟩ := ty
 obtain ⟨fk, fks⟩ := fr
 obtain ⟨pt, ct, pf, cf, p, c, es, rfl, hk, hnum, hlb, hty, hfr, hsl, hkl⟩ := hr.open9
 have n1 := A0z (.mk tk tks)
 have n2 := A0z (.mk fk fks)
 have n3 := A1z ks
 rw [X2]
 generalize hs1 : P2 (.mk tk tks) = s1 at *
 generalize hs2 : P2 (.mk fk fks) = s2 at *
 refine B4 Tryz.func16 rfl Tryz.ntmps16 Tryz.results16 rfl ?_
 intro w0
 refine tS (tR ?_)
 refine sE (C1 rfl rfl) rfl (fun b3 => ?_)
 refine D3 ?_
 refine sQ (A4w rfl rfl) rfl ?_
 refine sP (W8 rfl rfl (by omega) (by omega)) rfl rfl ?_
 refine C3 ?_
 refine sB (I2 rfl rfl) rfl rfl (fun h21 => ?_) (fun h21 => ?_)
 refine F8 ?_
 exact ⟨rfl, by rw [A1B (by omega)], rfl⟩
 refine I8 ?_
 (have hT := A6U (.mk tk tks) (left - nm.size) G _ (by omega) (by omega) hty; rw [hs1] at hT; rcases A1A (left - nm.size) s1 with ⟨hc1, hr1⟩ | ⟨hc1, hr1⟩ <;> (rw [hr1] at hT; refine I3 rfl hT rfl rfl ?_))
 refine C3 ?_
 refine sP (V1 rfl rfl (by omega)) rfl rfl ?_
 refine I8 ?_
 (have hF := A6U (.mk fk fks) (left - nm.size - s1) G _ (by omega) (by omega) hfr; rw [hs2] at hF; rcases A1A (left - nm.size - s1) s2 with ⟨hc2, hr2⟩ | ⟨hc2, hr2⟩ <;> (rw [hr2] at hF; refine I3 rfl hF rfl rfl ?_))
 refine C3 ?_
 refine sP (V1 rfl rfl (by omega)) rfl rfl ?_
 refine I8 ?_
 (have hS := B04 ks ih (left - nm.size - s1 - s2) G p c es (by omega) (by omega) hno hsl hkl; rcases A1A (left - nm.size - s1 - s2) (ks.length + R0 ks) with ⟨hc3, hr3⟩ | ⟨hc3, hr3⟩ <;> (rw [hr3] at hS; refine I3 rfl hS rfl rfl ?_))
 refine C3 ?_
 refine sP (V1 rfl rfl (by omega)) rfl rfl ?_
 refine K1 ?_
 exact ⟨rfl, by rw [A40 (by omega)]; congr 1; omega, rfl⟩
 refine C3 ?_
 refine sP (A1t rfl rfl (by omega)) rfl rfl ?_
 refine F8 ?_
 exact ⟨rfl, by rw [A1B (by omega)], rfl⟩
 refine C3 ?_
 refine sP (A1t rfl rfl (by omega)) rfl rfl ?_
 refine F8 ?_
 exact ⟨rfl, by rw [A1B (by omega)], rfl⟩
 refine C3 ?_
 refine sP (A1t rfl rfl (by omega)) rfl rfl ?_
 refine F8 ?_
 exact ⟨rfl, by rw [A1B (by omega)], rfl⟩
end Gw
end Go.Proofs.YtfpgncjeejickaaGreat
namespace Go.Proofs.YtfpgncjeejickaaGreat
open Go Go.RowKit Go.ChangeShapes Go.WideShapes Go.ChangeAt
namespace Gw
def GW (w : World) : IM := fun b => match w.heap[b]? with
 | some (.cells c _ _) => some c.toList
 | _ => none
theorem A6W (w : World) : R7 [] (GW w) w := by
 refine ⟨?_, by simp, by simp [Fp], by simp [Fp]⟩
 intro b l h
 unfold GW at h
 split at h
 ·rename_i c e f hb; cases h; exact ⟨e, f, by simpa using hb⟩
 ·cases h
theorem A6X {w : World} {b o : Nat} {v : Value} (h : w.cell? ⟨b, o, none⟩ = some v) : ∃ full, GW w b = some full ∧ full[o]? = some v := by
 unfold World.cell? at h
 simp only at h
 split at h
 ·rename_i c e f hb
  exact ⟨c.toList, by simp [GW, hb], by simpa using h⟩
 ·cases h
theorem A6Y {sz : Nat} : ∀ {es : List (List Value)}, (∀ e ∈ es, e.length = sz) → ∀ {j : Nat} {v : Value}, es.flatten[j]? = some v → ∃ i e r, es[i]? = some e ∧ e[r]? = some v ∧ j = i * sz + r
 | [], _, j, v, h => by simp at h
 | a :: es, hall, j, v, h => by
  have ha := hall a List.mem_cons_self
  rw [List.flatten_cons, List.getElem?_append] at h
  split at h
  ·exact ⟨0, a, j, rfl, h, by simp⟩
  ·rename_i hj
   obtain ⟨i, e, r, h1, h2, h3⟩ := A6Y (fun x hx => hall x (List.mem_cons_of_mem _ hx)) h
   exact ⟨i + 1, e, r, by simpa using h1, h2, by rw [Nat.succ_mul]; omega⟩
theorem A6Z {w : World} {a : Addr} {n c sz : Nat} {es : List (List Value)} (hl : es.length = n) (hsz : 0 < sz) (hc : n ≤ c) (hm : c ≤ maxLen) (h : ∀ i e, es[i]? = some e → w.cells? 0 (a.add (i * sz)) sz = some e) : Sl (GW w) (some a) n c sz es.flatten := by
 have hall : ∀ e ∈ es, e.length = sz := by
  intro e he
  obtain ⟨i, hi⟩ := List.getElem?_of_mem he
  exact (World.cells?_some (h i e hi)).2.1
 refine ⟨by rw [Z6 hall, hl], hc, hm, ?_⟩
 rcases Nat.eq_zero_or_pos n with h0 | h0
 ·exact .inl h0
 ·right
  obtain ⟨b, o, s⟩ := a
  have hs : s = none := by
   have h1 := (World.cells?_some (h 0 es[0] (List.getElem?_eq_getElem (by omega)))).2
   have h2 := h1.2 0 hsz
   rw [List.getElem?_eq_getElem (by omega)] at h2
   simp only [Nat.zero_mul, Addr.add, if_true] at h2
   unfold World.cell? at h2
   split at h2
   ·split at h2
    ·cases h2
    ·rename_i hn; cases s with
     | none => rfl
     | some x => simp at hn
   ·cases h2
  subst hs
  have key : ∀ j v, es.flatten[j]? = some v → w.cell? ⟨b, o + j, none⟩ = some v := by
   intro j v hj
   obtain ⟨i, e, r, h1, h2, rfl⟩ := A6Y hall hj
   have h3 := (World.cells?_some (h i e h1)).2
   have hr : r < e.length := (List.getElem?_eq_some_iff.1 h2).1
   have h4 := h3.2 r (by omega)
   rw [h2, A1P, A1P] at h4
   rw [← Nat.add_assoc]; exact h4
  have hpos : 0 < es.flatten.length := by rw [Z6 hall, hl]; exact Nat.mul_pos h0 hsz
  obtain ⟨full, hg, _⟩ := A6X (key 0 es.flatten[0] (List.getElem?_eq_getElem hpos))
  refine ⟨b, o, full, rfl, hg, fun j v hj => ?_⟩
  obtain ⟨full', hg', hv⟩ := A6X (key j v hj)
  rw [hg] at hg'; cases hg'; exact hv
theorem C2.snoc {G : IM} : ∀ {ts : List Ty} {es : List (List Value)} {t : Ty} {e : List Value}, C2 G ts es → B6 G t e → C2 G (ts ++ [t]) (es ++ [e])
 | [], es, t, e, h, h2 => by
  simp only [C2] at h; subst h
  simp only [List.nil_append, C2]
  exact ⟨e, [], rfl, h2, rfl⟩
 | t' :: ts, es, t, e, h, h2 => by
  simp only [C2] at h
  obtain ⟨a, r, rfl, h3, h4⟩ := h
  simp only [List.cons_append, C2]
  exact ⟨a, r ++ [e], rfl, h3, C2.snoc h4 h2⟩
theorem C7.snoc {G : IM} : ∀ {ts : List Tm} {es : List (List Value)} {t : Tm} {e : List Value}, C7 G ts es → A6 G t e → C7 G (ts ++ [t]) (es ++ [e])
 | [], es, t, e, h, h2 => by
  simp only [C7] at h; subst h
  simp only [List.nil_append, C7]
  exact ⟨e, [], rfl, h2, rfl⟩
 | t' :: ts, es, t, e, h, h2 => by
  simp only [C7] at h
  obtain ⟨a, r, rfl, h3, h4⟩ := h
  simp only [List.cons_append, C7]
  exact ⟨a, r ++ [e], rfl, h3, C7.snoc h4 h2⟩
theorem Tm.nokL_snoc : ∀ {ts : List Tm} {t : Tm}, Tm.nokL ts → t.nok → Tm.nokL (ts ++ [t])
 | [], t, _, h => by simp only [List.nil_append, Tm.nokL]; exact ⟨h, trivial⟩
 | t' :: ts, t, h, h2 => by
  simp only [Tm.nokL] at h
  simp only [List.cons_append, Tm.nokL]
  exact ⟨h.1, Tm.nokL_snoc h.2 h2⟩
theorem A60 {G : IM} {q : Nat → List Value → Prop} : ∀ {n : Nat}, (∀ i, i < n → ∃ e t, q i e ∧ B6 G t e) → ∃ ts es, ts.length = n ∧ C2 G ts es ∧ ∀ i e, es[i]? = some e → q i e
 | 0, _ => ⟨[], [], rfl, by simp only [C2], by simp⟩
 | n + 1, h => by
  obtain ⟨ts, es, h1, h2, h3⟩ := A60 (n := n) fun i hi => h i (by omega)
  obtain ⟨e, t, h4, h5⟩ := h n (by omega)
  refine ⟨ts ++ [t], es ++ [e], by simp [h1], h2.snoc h5, fun i x hx => ?_⟩
  have hl := h2.len
  rw [List.getElem?_append] at hx
  split at hx
  ·exact h3 i x hx
  ·rename_i hi
   have : i - es.length = 0 := by
    have := (List.getElem?_eq_some_iff.1 hx).1; simp at this; omega
   rw [this] at hx; simp at hx; subst hx
   rw [show i = n by omega]; exact h4
theorem A61 {G : IM} {q : Nat → List Value → Prop} : ∀ {n : Nat}, (∀ i, i < n → ∃ e t, q i e ∧ A6 G t e ∧ t.nok) → ∃ ts es, ts.length = n ∧ C7 G ts es ∧ Tm.nokL ts ∧ ∀ i e, es[i]? = some e → q i e
 | 0, _ => ⟨[], [], rfl, by simp only [C7], by simp only [Tm.nokL], by simp⟩
 | n + 1, h => by
  obtain ⟨ts, es, h1, h2, hn, h3⟩ := A61 (n := n) fun i hi => h i (by omega)
  obtain ⟨e, t, h4, h5, h6⟩ := h n (by omega)
  refine ⟨ts ++ [t], es ++ [e], by simp [h1], h2.snoc h5, Tm.nokL_snoc hn h6, fun i x hx => ?_⟩
  have hl := h2.len
  rw [List.getElem?_append] at hx
  split at hx
  ·exact h3 i x hx
  ·rename_i hi
   have : i - es.length = 0 := by
    have := (List.getElem?_eq_some_iff.1 hx).1; simp at this; omega
   rw [this] at hx; simp at hx; subst hx
   rw [show i = n by omega]; exact h4
theorem C4.mk' {G : IM} {p : Option Addr} {n c sz : Nat} {es : List (List Value)} (h : Sl G p n c sz es.flatten) (hl : es.length = n) (ha : ∀ e ∈ es, e.length = sz ∧ e.all (·.oneCell') = true) : C4 G p n c sz es := ⟨h, hl, fun e he => (ha e he).1, fun e he => (ha e he).2⟩
theorem C2.each {G : IM} {ts : List Ty} {es : List (List Value)} (h : C2 G ts es) : ∀ e ∈ es, e.length = 2 ∧ e.all (·.oneCell') = true := by
 intro e he
 obtain ⟨i, hi⟩ := List.getElem?_of_mem he
 have := (h.inv hi B5).2
 exact ⟨this.len, this.one⟩
theorem C7.each {G : IM} {ts : List Tm} {es : List (List Value)} (h : C7 G ts es) : ∀ e ∈ es, e.length = 9 ∧ e.all (·.oneCell') = true := by
 intro e he
 obtain ⟨i, hi⟩ := List.getElem?_of_mem he
 have := (h.inv hi (.mk 0 ⟨#[]⟩ 0 B5 B5 0 [])).2
 exact ⟨this.len, this.one⟩
theorem A1C {n : Int} (h : (Lit.int .i64 n).wf = true) : H1 n := by
 simpa [Lit.wf, IntKind.min, IntKind.max, IntKind.signed, IntKind.bits, H1] using h
section read
variable {H : Type} {enc : TypeId × Value → H} {w : World} {sp : Nat → Bool} {held : Bool}
theorem A41 : Tryz.prog.cellsOf 41 = 2 := by kernel_rfl
theorem A3V : Tryz.prog.cellsOf 44 = 9 := by kernel_rfl
theorem A62 : Tryz.prog.cellsOf 3 = 1 := by kernel_rfl
theorem B05 : Tryz.prog.cellsOf 9 = 1 := by kernel_rfl
theorem B06 : Tryz.prog.cellsOf 39 = 1 := by kernel_rfl
theorem B07 : Tryz.prog.cellsOf 42 = 1 := by kernel_rfl
theorem A1i {α : Type} {xs : List α} {i : Nat} (h : i < xs.length) : ∃ y, xs[i]? = some y := ⟨_, List.getElem?_eq_getElem h⟩
theorem A63 : ∀ (n : Nat) (cs : List Value) (x : DataW H × List MemPlace), DataW.trod enc Tryz.prog w 0 sp held n 41 cs = some x → ∃ t, B6 (GW w) t cs := by
 intro n
 induction n using Nat.strongRecOn with
 | _ n ih =>
 intro cs x h
 obtain ⟨xs, m, rfl, _, hl, hxl, hf⟩ := DataW.trod_struct Tryz.underlying41 h
 rw [A41] at hl
 match cs, hl with
 | [a, b], _ =>
 obtain ⟨y0, e0⟩ := A1i (xs := xs) (i := 0) (by simp [hxl])
 obtain ⟨y1, e1⟩ := A1i (xs := xs) (i := 1) (by simp [hxl])
 have h0 := hf 0 _ rfl
 have h1 := hf 1 _ rfl
 rw [e0] at h0
 rw [e1] at h1
 simp only [List.getElem_toArray, List.getElem_cons_zero, List.getElem_cons_succ] at h0 h1
 simp only [A62, B06, List.drop, List.take] at h0 h1
 obtain ⟨k, hk, _, hwf⟩ := DataW.trod_int Tryz.underlying3 h0
 simp only [List.cons.injEq, and_true] at hk
 subst hk
 rcases DataW.trod_slice Tryz.underlying39 h1 with ⟨hb, _⟩ | ⟨ad, len, cap, elems, rest, n', rfl, hb, _, _, hlc, hcm, hel, hele, _, _⟩
 ·simp only [List.cons.injEq, and_true] at hb
  subst hb
  exact ⟨.mk k [], by simp only [B6]; exact ⟨none, 0, [], rfl, A1C hwf, C4.nil _ _, by simp only [C2]⟩⟩
 ·simp only [List.cons.injEq, and_true] at hb
  subst hb
  rw [A41] at hele
  obtain ⟨ts, es, t1, t2, t3⟩ := A60 (G := GW w) (q := fun i e => w.cells? 0 (ad.add (i * 2)) 2 = some e) (n := len) fun i hi => by
   have := hele i hi
   rw [List.getElem?_eq_getElem (by omega)] at this
   obtain ⟨cs', c1, c2⟩ := Option.bind_eq_some_iff.1 this
   obtain ⟨t, ht⟩ := ih n' (by omega) cs' _ c2
   exact ⟨cs', t, c1, ht⟩
  subst t1
  refine ⟨.mk k ts, ?_⟩
  simp only [B6]
  exact ⟨some ad, cap, es, rfl, A1C hwf, C4.mk' (A6Z t2.len (by omega) hlc hcm t3) t2.len t2.each, t2⟩
theorem A64 : ∀ (n : Nat) (cs : List Value) (x : DataW H × List MemPlace), DataW.trod enc Tryz.prog w 0 sp held n 44 cs = some x → ∃ t, A6 (GW w) t cs ∧ t.nok := by
 intro n
 induction n using Nat.strongRecOn with
 | _ n ih =>
 intro cs x h
 obtain ⟨xs, m, rfl, _, hl, hxl, hf⟩ := DataW.trod_struct Tryz.underlying44 h
 rw [A3V] at hl
 match cs, hl with
 | [a0, a1, a2, a3, a4, a5, a6, a7, a8], _ =>
 obtain ⟨y0, e0⟩ := A1i (xs := xs) (i := 0) (by simp [hxl])
 obtain ⟨y1, e1⟩ := A1i (xs := xs) (i := 1) (by simp [hxl])
 obtain ⟨y2, e2⟩ := A1i (xs := xs) (i := 2) (by simp [hxl])
 obtain ⟨y3, e3⟩ := A1i (xs := xs) (i := 3) (by simp [hxl])
 obtain ⟨y4, e4⟩ := A1i (xs := xs) (i := 4) (by simp [hxl])
 obtain ⟨y5, e5⟩ := A1i (xs := xs) (i := 5) (by simp [hxl])
 obtain ⟨y6, e6⟩ := A1i (xs := xs) (i := 6) (by simp [hxl])
 have h0 := hf 0 _ rfl
 have h1 := hf 1 _ rfl
 have h2 := hf 2 _ rfl
 have h3 := hf 3 _ rfl
 have h4 := hf 4 _ rfl
 have h5 := hf 5 _ rfl
 have h6 := hf 6 _ rfl
 rw [e0] at h0
 rw [e1] at h1
 rw [e2] at h2
 rw [e3] at h3
 rw [e4] at h4
 rw [e5] at h5
 rw [e6] at h6
 simp only [List.getElem_toArray, List.getElem_cons_zero, List.getElem_cons_succ] at h0 h1 h2 h3 h4 h5 h6
 simp only [A62, B05, A41, B07, List.drop, List.take] at h0 h1 h2 h3 h4 h5 h6
 obtain ⟨k, hk, _, hwk⟩ := DataW.trod_int Tryz.underlying3 h0
 obtain ⟨nm, hnm, _, hsz⟩ := DataW.trod_string Tryz.underlying9 h1
 obtain ⟨num, hnum, _, hwn⟩ := DataW.trod_int Tryz.underlying3 h2
 obtain ⟨ty, hty⟩ := A63 _ _ _ h3
 obtain ⟨fr, hfr⟩ := A63 _ _ _ h4
 obtain ⟨lb, hlb, _, hwl⟩ := DataW.trod_int Tryz.underlying3 h5
 simp only [List.cons.injEq, and_true] at hk hnm hnum hlb
 subst hk hnm hnum hlb
 have hsz' : nm.size ≤ 9223372036854775807 := by unfold maxLen at hsz; omega
 rcases DataW.trod_slice Tryz.underlying42 h6 with ⟨hb, _⟩ | ⟨ad, len, cap, elems, rest, n', rfl, hb, _, _, hlc, hcm, hel, hele, _, _⟩
 ·simp only [List.cons.injEq, and_true] at hb
  subst hb
  refine ⟨.mk k nm num ty fr lb [], ?_, by simp only [Tm.nok, Tm.nokL]; exact ⟨hsz', trivial⟩⟩
  simp only [A6]
  exact ⟨[a3, a4], [a5, a6], none, 0, [], rfl, A1C hwk, A1C hwn, A1C hwl, hty, hfr, C4.nil _ _, by simp only [C7]⟩
 ·simp only [List.cons.injEq, and_true] at hb
  subst hb
  rw [A3V] at hele
  obtain ⟨ts, es, t1, t2, t4, t3⟩ := A61 (G := GW w) (q := fun i e => w.cells? 0 (ad.add (i * 9)) 9 = some e) (n := len) fun i hi => by
   have := hele i hi
   rw [List.getElem?_eq_getElem (by omega)] at this
   obtain ⟨cs', c1, c2⟩ := Option.bind_eq_some_iff.1 this
   obtain ⟨t, ht, hno⟩ := ih n' (by omega) cs' _ c2
   exact ⟨cs', t, c1, ht, hno⟩
  subst t1
  refine ⟨.mk k nm num ty fr lb ts, ?_, by simp only [Tm.nok]; exact ⟨hsz', t4⟩⟩
  simp only [A6]
  exact ⟨[a3, a4], [a5, a6], some ad, cap, es, rfl, A1C hwk, A1C hwn, A1C hwl, hty, hfr, C4.mk' (A6Z t2.len (by omega) hlc hcm t3) t2.len t2.each, t2⟩
end read
theorem Z9.below {w w' : World} (h : Z9 (Fp []) w w') : Below w.heap.size w w' := ⟨h.os, h.tape, h.output, h.size, fun k hk => h.block k hk (by simp [Fp])⟩
section post
variable {H : Type} {enc : TypeId × Value → H} {P : Program}
theorem A65 {f : Func} {s : ChangeSpec} {apart fresh handsOn again : Bool} {W W' : World} {args : Array Value} {v : Value} {ds gs : List (DataW H)} {before : List MemPlace}
  (hW : DataW.Whole enc P f.params.toList s.vars apart W args.toList ds gs before) (hb : Below W.heap.size W W') (hgs : s.vars = [])
  (hres : ∀ (b : Nat) (sp : Nat → Bool) (hd : Bool), DataW.TrodAll enc P W' b sp hd f.resultTypes.toList (v.resultList f.resultTypes.size) (s.fn H (ds ++ gs)).results [])
  (hargs : ∀ sp : Nat → Bool, (∀ p ∈ before, sp p.block = true) → DataW.TrodAll enc P W' 0 sp true f.params.toList args.toList (s.fn H (ds ++ gs)).args before)
  (hv : (s.fn H (ds ++ gs)).vars = [])
  (hok : ∀ (j : Nat) (t : TypeId) (r : Value), f.resultTypes[j]? = some t → (v.resultList f.resultTypes.size)[j]? = some r → Value.okWide P W' .any 0 t r) :
  s.post enc P f apart fresh handsOn again W args v W' := by
 have hold : ∀ p ∈ before, (fun b => decide (b < W.heap.size)) p.block = true := fun p hp => by simpa using hW.lt p hp
 have hvars : ∀ sp : Nat → Bool, DataW.TrodVars enc P W' sp s.vars (s.fn H (ds ++ gs)).vars [] := fun sp => by rw [hgs, hv]; rfl
 have hkept : W.keptBut W' (fun _ => False) := by
  refine ⟨hb.os, hb.output, fun i hi => ?_⟩
  rw [hb.block i hi]
  split
  ·rename_i h1 h2; cases h1.symm.trans h2; exact ⟨rfl, rfl, rfl, fun _ _ => rfl⟩
  ·rename_i h1 h2; cases h1.symm.trans h2; exact .inr ⟨rfl, rfl⟩
  ·rfl
 refine ⟨ds, gs, before, [], before, [], hW, hres _ _ _, hargs _ hold, hvars _, World.keptBut_mono (fun p hp => hp.elim) hkept, fun _ => ?_⟩
 obtain ⟨_, _, _, _, _, hz, hn⟩ := hW
 refine ⟨hok, _, _, ([] ++ before) ++ [], ⟨[] ++ before, [], trodAll_append (hargs _ (fun _ _ => rfl)) (hres _ _ _), hvars _, rfl, ?_, ?_⟩, ?_⟩
 ·intro b off hp
  have hp' : MemPlace.cell b off ∈ before := by simpa using hp
  have hlt : b < W.heap.size := of_decide_eq_true (hold _ hp')
  have := hz b off hp'
  unfold World.frozen? at this ⊢
  simp only [hb.block b hlt]
  exact this
 ·intro ha; simpa using hn ha
 ·intro p hp _; simpa using hp
end post
theorem B08 {full cs : List Value} {o : Nat} (h : ∀ j v, cs[j]? = some v → full[o + j]? = some v) (hc : cs ≠ []) : full = full.take o ++ (cs ++ full.drop (o + cs.length)) ∧ (full.take o).length = o := by
 have hpos : 0 < cs.length := List.length_pos_iff.2 hc
 have hl : o + cs.length ≤ full.length := by
  have := h (cs.length - 1) cs[cs.length - 1] (List.getElem?_eq_getElem (by omega))
  have := (List.getElem?_eq_some_iff.1 this).1; omega
 have ho : (full.take o).length = o := by simp; omega
 refine ⟨?_, ho⟩
 apply List.ext_getElem?
 intro i
 rw [List.getElem?_append, ho]
 split
 ·rename_i hi; rw [List.getElem?_take, if_pos hi]
 ·rename_i hi
  rw [List.getElem?_append]
  split
  ·rename_i h2
   have := h (i - o) cs[i - o] (List.getElem?_eq_getElem h2)
   rw [show o + (i - o) = i by omega] at this
   rw [this, List.getElem?_eq_getElem h2]
  ·rename_i h2
   rw [List.getElem?_drop, show o + cs.length + (i - o - cs.length) = i by omega]
theorem Sl.blk {G : IM} {p : Option Addr} {n c sz : Nat} {cs : List Value} (h : Sl G p n c sz cs) (hc : cs ≠ []) : ∃ b A C, p = some ⟨b, A.length, none⟩ ∧ G b = some (A ++ (cs ++ C)) := by
 obtain ⟨h1, h2, h3, h4⟩ := h
 have hn : n ≠ 0 := by
  rintro rfl
  simp at h1; exact hc h1
 obtain ⟨b, o, full, rfl, hg, hv⟩ := h4.resolve_left hn
 obtain ⟨e1, e2⟩ := B08 hv hc
 exact ⟨b, full.take o, full.drop (o + cs.length), by rw [e2], by rw [← e1]; exact hg⟩
theorem Sl.of_blk {G : IM} {b n c sz : Nat} {A C cs : List Value} (hl : cs.length = n * sz) (hc : n ≤ c) (hm : c ≤ maxLen) (hg : G b = some (A ++ (cs ++ C))) : Sl G (some ⟨b, A.length, none⟩) n c sz cs := by
 refine ⟨hl, hc, hm, .inr ⟨b, A.length, _, rfl, hg, fun j v hj => ?_⟩⟩
 have hlt : j < cs.length := (List.getElem?_eq_some_iff.1 hj).1
 rw [List.getElem?_append, if_neg (by omega), List.getElem?_append, if_pos (by omega), show A.length + j - A.length = j by omega]
 exact hj
def Y6 (G : IM) (bs : K5) (F : List Nat) : Prop := (bs.map Prod.fst).Sublist F ∧ ∀ q ∈ bs, G q.1 = some q.2
theorem Y6.nil (G : IM) (F : List Nat) : Y6 G [] F := ⟨by simp, by simp⟩
theorem Y6.app {G : IM} {a b : K5} {F F' : List Nat} (h : Y6 G a F) (h' : Y6 G b F') : Y6 G (a ++ b) (F ++ F') := by
 refine ⟨by rw [List.map_append]; exact h.1.append h'.1, fun q hq => ?_⟩
 rcases List.mem_append.1 hq with hq | hq
 ·exact h.2 q hq
 ·exact h'.2 q hq
mutual
theorem N0.blks {G : IM} : ∀ {t : Ty} {cells : List Value} {F : List Nat}, N0 G t cells F → ∃ bs, Y4 t cells bs ∧ Y6 G bs F
 | .mk k ks, cells, F, h => by
  simp only [N0] at h
  obtain ⟨p, c, es, Fs, h1, hk, h2, h3, rfl, h5⟩ := h
  obtain ⟨r, hr1, hr2⟩ := L8.blks h3
  simp only [Y4]
  have hc := h2.sl.2.1
  have hm := h2.sl.2.2.1
  cases ks with
  | nil => exact ⟨[], ⟨p, c, h1, hk, hc, hm, .inl ⟨rfl, rfl⟩⟩, Y6.nil _ _⟩
  | cons t ts =>
   have hne : es.flatten ≠ [] := by
    intro h0
    have hl := h2.sl.1
    rw [h0] at hl; simp at hl
   obtain ⟨b, A, C, rfl, hg⟩ := h2.sl.blk hne
   refine ⟨(b, A ++ (es.flatten ++ C)) :: r, ⟨_, c, h1, hk, hc, hm, .inr ⟨b, A, C, es, r, rfl, rfl, hr1⟩⟩, ?_, ?_⟩
   ·simpa [H4] using hr2.1
   ·intro q hq
    rcases List.mem_cons.1 hq with rfl | hq
    ·exact hg
    ·exact hr2.2 q hq
theorem L8.blks {G : IM} : ∀ {ts : List Ty} {es : List (List Value)} {F : List Nat}, L8 G ts es F → ∃ bs, M8 ts es bs ∧ Y6 G bs F
 | [], es, F, h => by
  simp only [L8] at h
  exact ⟨[], by simp only [M8]; exact ⟨h.1, trivial⟩, Y6.nil _ _⟩
 | t :: ts, es, F, h => by
  simp only [L8] at h
  obtain ⟨a, r, Fa, Fr, rfl, h2, h3, rfl⟩ := h
  obtain ⟨b1, o1, i1⟩ := N0.blks h2
  obtain ⟨b2, o2, i2⟩ := L8.blks h3
  exact ⟨b1 ++ b2, by simp only [M8]; exact ⟨a, r, b1, b2, rfl, rfl, o1, o2⟩, i1.app i2⟩
end
mutual
theorem N2.blks {G : IM} : ∀ {t : Tm} {cells : List Value} {F : List Nat}, N2 G t cells F → ∃ bs, U9 t cells bs ∧ Y6 G bs F
 | .mk k nm num ty fr lb ks, cells, F, h => by
  simp only [N2] at h
  obtain ⟨tc, fc, p, c, es, Ft, Ff, Fs, h1, hk, hn, hl, h5, h6, h2, h3, rfl, h10⟩ := h
  obtain ⟨bt, ot, it⟩ := h5.blks
  obtain ⟨bf, of', if'⟩ := h6.blks
  obtain ⟨r, hr1, hr2⟩ := L9.blks h3
  simp only [U9]
  have hc := h2.sl.2.1
  have hm := h2.sl.2.2.1
  cases ks with
  | nil => exact ⟨bt ++ (bf ++ []), ⟨tc, fc, p, c, bt, bf, [], h1, hk, hn, hl, ot, of', hc, hm, .inl ⟨rfl, rfl⟩, rfl⟩, it.app (if'.app (Y6.nil _ _))⟩
  | cons t ts =>
   have hne : es.flatten ≠ [] := by
    intro h0
    have hl := h2.sl.1
    rw [h0] at hl; simp at hl
   obtain ⟨b, A, C, rfl, hg⟩ := h2.sl.blk hne
   refine ⟨bt ++ (bf ++ ((b, A ++ (es.flatten ++ C)) :: r)), ⟨tc, fc, _, c, bt, bf, _, h1, hk, hn, hl, ot, of', hc, hm, .inr ⟨b, A, C, es, r, rfl, rfl, hr1⟩, rfl⟩, it.app (if'.app ⟨?_, ?_⟩)⟩
   ·simpa [H4] using hr2.1
   ·intro q hq
    rcases List.mem_cons.1 hq with rfl | hq
    ·exact hg
    ·exact hr2.2 q hq
theorem L9.blks {G : IM} : ∀ {ts : List Tm} {es : List (List Value)} {F : List Nat}, L9 G ts es F → ∃ bs, M9 ts es bs ∧ Y6 G bs F
 | [], es, F, h => by
  simp only [L9] at h
  exact ⟨[], by simp only [M9]; exact ⟨h.1, trivial⟩, Y6.nil _ _⟩
 | t :: ts, es, F, h => by
  simp only [L9] at h
  obtain ⟨a, r, Fa, Fr, rfl, h2, h3, rfl⟩ := h
  obtain ⟨b1, o1, i1⟩ := N2.blks h2
  obtain ⟨b2, o2, i2⟩ := L9.blks h3
  exact ⟨b1 ++ b2, by simp only [M9]; exact ⟨a, r, b1, b2, rfl, rfl, o1, o2⟩, i1.app i2⟩
end
theorem OIs.sl {G : IM} {l : List Int} {p : Option Addr} {c : Nat} {bs : K5} (h : OIs l p c bs) (hg : ∀ q ∈ bs, G q.1 = some q.2) : Sl G p l.length c 1 (N3 l) := by
 obtain ⟨hc, hm, h⟩ := h
 rcases h with ⟨rfl, rfl⟩ | ⟨b, A, C, rfl, rfl⟩
 ·exact ⟨rfl, hc, hm, .inl rfl⟩
 ·exact Sl.of_blk (by rw [A4O]; omega) hc hm (hg _ List.mem_cons_self)
mutual
theorem A42 : ∀ t : Ty, P2 t ≤ 4294967296 → t.small
 | .mk _ ks, h => by
  rw [P2] at h
  have := A14 ks
  simp only [Ty.small]
  exact ⟨by omega, A66 ks (by omega)⟩
theorem A66 : ∀ ts : List Ty, Q2 ts ≤ 4294967296 → Ty.smallL ts
 | [], _ => by simp [Ty.smallL]
 | t :: ts, h => by
  rw [Q2] at h
  have := A0z t
  have := A14 ts
  simp only [Ty.smallL]
  exact ⟨A42 t (by omega), A66 ts (by omega)⟩
end
mutual
theorem A0u : ∀ t : Tm, X2 t ≤ 4294967296 → t.small
 | .mk _ nm _ ty fr _ ks, h => by
  rw [X2] at h
  have := A1z ks
  have := A0z ty
  have := A0z fr
  simp only [Tm.small]
  exact ⟨by omega, A42 ty (by omega), A42 fr (by omega), by omega, A67 ks (by omega)⟩
theorem A67 : ∀ ts : List Tm, R0 ts ≤ 4294967296 → Tm.smallL ts
 | [], _ => by simp [Tm.smallL]
 | t :: ts, h => by
  rw [R0] at h
  have := A3U t
  have := A1z ts
  simp only [Tm.smallL]
  exact ⟨A0u t (by omega), A67 ts (by omega)⟩
end
mutual
theorem A43 : ∀ t : Tm, (D1 t : Int) ≤ X2 t + 1
 | .mk _ nm _ ty fr _ ks => by
  have := A68 ks
  have := A0z ty
  have := A0z fr
  rw [X2, D1]; omega
theorem A68 : ∀ ts : List Tm, (E7 ts : Int) ≤ ts.length + R0 ts
 | [] => by rw [R0, E7]; simp
 | t :: ts => by
  have := A43 t
  have := A68 ts
  rw [R0, E7, List.length_cons]; omega
end
mutual
theorem B09 : ∀ t : Ty, A1g t = 1 + P2 t
 | .mk _ ks => by
  have := A3W ks
  rw [A1g, P2]; omega
theorem A3W : ∀ ts : List Ty, H9 ts = ts.length + Q2 ts
 | [] => by rw [H9, Q2]; simp
 | t :: ts => by
  have := B09 t
  have := A3W ts
  rw [H9, Q2, List.length_cons]; omega
end
theorem A69 (t : Ty) : P2 t = t.ks.length + Q2 t.ks := by cases t; rw [P2]; rfl
mutual
theorem A7a : ∀ t : Tm, A1h t ≤ 6 + 6 * X2 t
 | .mk _ nm _ ty fr _ ks => by
  have := A7b ks
  have := A3W ty.ks
  have := A3W fr.ks
  have := A69 ty
  have := A69 fr
  have := A0z ty
  have := A0z fr
  rw [A1h, X2]; omega
theorem A7b : ∀ ts : List Tm, P1 ts ≤ 6 * (ts.length + R0 ts)
 | [] => by rw [P1, R0]; simp
 | t :: ts => by
  have := A7a t
  have := A7b ts
  rw [P1, R0, List.length_cons]; omega
end
theorem B1a (t : Tm) : H9 t.ty.ks + H9 t.fr.ks + P1 t.ks ≤ 6 * X2 t := by
 have h := A7a t
 rw [A6L] at h; omega
def A44 (t : Ty) (G : IM) : IM → Value → List A4 → Prop := J8 fun G' v => ∃ cells' F, v = .agg ⟨cells'⟩ ∧ N0 (B2 G' G) t cells' F ∧ F.Nodup
def B1b (ks : List Ty) (G : IM) : IM → Value → List A4 → Prop := J8 fun G' v => ∃ p c F, v = .slice p ks.length c ∧ A1Z (B2 G' G) ks p c F ∧ F.Nodup
def A28 (t : Tm) (G : IM) : IM → Value → List A4 → Prop := J8 fun G' v => ∃ cells' F, v = .agg ⟨cells'⟩ ∧ N2 (B2 G' G) t cells' F ∧ F.Nodup
def B1c (ks : List Tm) (G : IM) : IM → Value → List A4 → Prop := J8 fun G' v => ∃ p c F, v = .slice p ks.length c ∧ A1w (B2 G' G) ks p c F ∧ F.Nodup
theorem B1d (ks : List Ty) (ih : ∀ t ∈ ks, ∀ (G : IM) (cells : List Value), t.small → B6 G t cells → Fn Tryz.prog 54 [.agg ⟨cells⟩] [] G (A44 t G)) (hks : Ty.smallL ks) (hsm : ks.length ≤ 4294967296)
  (G : IM) (p : Option Addr) (c : Nat) (es : List (List Value)) (hsl : C4 G p ks.length c 2 es) (hkl : C2 G ks es) :
  Fn Tryz.prog 97 [.slice p ks.length c] [] G (B1b ks G) := by
 have hn := hsl.le
 refine B4 Tryz.func97 rfl Tryz.ntmps97 Tryz.results97 rfl ?_
 intro w0
 refine D8 ?_
 (refine A6y rfl rfl rfl (by omega) (by unfold maxLen; omega) rfl (fun bm => ?_))
 refine D8 ?_
 refine B3 ?_
 (refine I1 (fun (x : Nat × List (List Value) × List Nat × IM) => ⟨[(4, .int .i64 x.1), (3, .slice (some ⟨bm, 0, none⟩) ks.length ks.length), (0, .slice p ks.length c)], [.blk bm (x.2.1.flatten ++ V2 (ks.length - x.1) [.int .i64 0, .slice none 0 0])], x.2.2.2⟩) (fun x => x.1 ≤ ks.length ∧ B7 G x.2.2.2 ∧ L8 (B2 x.2.2.2 G) (ks.take x.1) x.2.1 x.2.2.1 ∧ x.2.2.1.Nodup) (fun x => ks.length - x.1) (0, [], [], G) ?_ ?_ ?_)
 (simp only [H5]; exact C9)
 exact ⟨by simp, B7.refl _, by simp [L8], by simp⟩
 (rintro ⟨i, es', F, Gi⟩ ⟨hi, hle, hst, hnd⟩; simp only [] at hi hle hst hnd ⊢; replace hsl := hsl.mono hle; replace hkl := hkl.mono hle)
 refine E2 ?_
 refine sB (I2 rfl rfl) rfl rfl (fun h31 => ?_) (fun h31 => ?_)
 refine sD (nS (qT rfl (tK (nS (tS ?_)))))
 refine B3 ?_
 refine O8 ?_
 (obtain ⟨b, o, p2, c2, rfl, hat, hre, hgb⟩ := hsl.kidTy hkl (i := i) (by omega) (by omega); refine sP (A8 rfl rfl rfl (by omega)) rfl rfl ?_)
 refine sL (A0 rfl rfl (hat _) rfl) rfl rfl ?_
 (refine D2 rfl (ih ks[i] (List.getElem_mem (by omega)) _ _ (Ty.smallL_mem hks _ (List.getElem_mem (by omega))) hre) rfl rfl (fun v G1 hle1 hh => ?_); obtain ⟨cells', F', rfl, hs', hnd'⟩ := hh; obtain ⟨p3, c3, rfl, _⟩ := hs'.open)
 refine sP (A8 rfl rfl rfl (by omega)) rfl rfl ?_
 (refine S6 rfl rfl rfl rfl rfl rfl (by repeat first | exact Sw.here | apply Sw.there) (A6z (by rw [hst.R.len, List.length_take]; omega) hst.R.all rfl rfl (by omega)) ?_)
 refine sD (P4 (nS (tR (sQ (qM rfl) rfl ?_))))
 refine sP (E8 rfl rfl (by omega) (by omega)) rfl rfl ?_
 refine sQ (qA rfl) rfl (sD ?_)
 refine I4 (i + 1, es' ++ [[.int .i64 ks[i].k, .slice p3 ks[i].ks.length c3]], F ++ F', G1) ?_ ?_ ?_
 (simp only [H5]; exact C9)
 exact ⟨by omega, hle.trans hle1, L8.step hst hnd hle hle1 (by omega) hs' hnd'⟩
 (show ks.length - (i + 1) < ks.length - i; omega)
 refine L5 ?_
 (obtain rfl : i = ks.length := (by omega); rw [A6A]; refine A1d (bs := [(bm, es'.flatten)]) (List.Perm.refl _) (fun hn2 hd2 hle2 => ?_))
 refine tT (E1 (rT rfl) ?_)
 (rw [List.take_length] at hst; obtain ⟨F2, hf1, hf2⟩ := A1Z.fin hst hnd hle hle2 (A6B (by rw [Z6 hst.R.all, hst.R.len]) (by unfold maxLen; omega)) (A6C hd2); exact ⟨rfl, _, _, F2, rfl, hf1, hf2⟩)
theorem A7c : ∀ (t : Ty) (G : IM) (cells : List Value), t.small → B6 G t cells → Fn Tryz.prog 54 [.agg ⟨cells⟩] [] G (A44 t G) := by
 refine Ty.ind fun k ks ih G cells hts hr => ?_
 simp only [Ty.small] at hts
 obtain ⟨hsm, hks⟩ := hts
 obtain ⟨p, c, es, rfl, hk, hsl, hkl⟩ := hr.open
 simp only [Ty.k, Ty.ks] at hk hsl hkl ⊢
 have hS := B1d ks ih hks hsm G p c es hsl hkl
 refine B4 Tryz.func54 rfl Tryz.ntmps54 Tryz.results54 rfl ?_
 intro w0
 refine tS (tR ?_)
 refine sE (C1 rfl rfl) rfl (fun b3 => ?_)
 refine sE (A5 rfl) rfl (fun b4 => ?_)
 refine sD (nS (tS (tR ?_)))
 refine sE (A5 rfl) rfl (fun b9 => ?_)
 refine L5 ?_
 (refine D2 rfl hS rfl rfl (fun v G1 hle1 hh => ?_); obtain ⟨p1, c1, F1, rfl, hs1, hn1⟩ := hh)
 refine F8 ?_
 refine E1 (rC rfl (A3 rfl rfl)) ?_
 exact ⟨rfl, _, F1, rfl, hs1.ty hk, hn1⟩
theorem B1e (ks : List Tm) (ih : ∀ t ∈ ks, ∀ (G : IM) (cells : List Value), t.small → A6 G t cells → Fn Tryz.prog 18 [.agg ⟨cells⟩] [] G (A28 t G)) (hks : Tm.smallL ks) (hsm : ks.length ≤ 4294967296)
  (G : IM) (p : Option Addr) (c : Nat) (es : List (List Value)) (hsl : C4 G p ks.length c 9 es) (hkl : C7 G ks es) :
  Fn Tryz.prog 55 [.slice p ks.length c] [] G (B1c ks G) := by
 have hn := hsl.le
 refine B4 Tryz.func55 rfl Tryz.ntmps55 Tryz.results55 rfl ?_
 intro w0
 refine D8 ?_
 (refine A6y rfl rfl rfl (by omega) (by unfold maxLen; omega) rfl (fun bm => ?_))
 refine D8 ?_
 refine B3 ?_
 (refine I1 (fun (x : Nat × List (List Value) × List Nat × IM) => ⟨[(4, .int .i64 x.1), (3, .slice (some ⟨bm, 0, none⟩) ks.length ks.length), (0, .slice p ks.length c)], [.blk bm (x.2.1.flatten ++ V2 (ks.length - x.1) [.int .i64 0, .string ⟨⟨[]⟩⟩, .int .i64 0, .int .i64 0, .slice none 0 0, .int .i64 0, .slice none 0 0, .int .i64 0, .slice none 0 0])], x.2.2.2⟩) (fun x => x.1 ≤ ks.length ∧ B7 G x.2.2.2 ∧ L9 (B2 x.2.2.2 G) (ks.take x.1) x.2.1 x.2.2.1 ∧ x.2.2.1.Nodup) (fun x => ks.length - x.1) (0, [], [], G) ?_ ?_ ?_)
 (simp only [H5]; exact C9)
 exact ⟨by simp, B7.refl _, by simp [L9], by simp⟩
 (rintro ⟨i, es', F, Gi⟩ ⟨hi, hle, hst, hnd⟩; simp only [] at hi hle hst hnd ⊢; replace hsl := hsl.mono hle; replace hkl := hkl.mono hle)
 refine E2 ?_
 refine sB (I2 rfl rfl) rfl rfl (fun h31 => ?_) (fun h31 => ?_)
 refine sD (nS (qT rfl (tK (nS (tS ?_)))))
 refine B3 ?_
 refine O8 ?_
 (obtain ⟨b, o, e, rfl, hl, hat, hre, hgb⟩ := hsl.kidTm hkl (i := i) (by omega) (by omega); refine sP (A8 rfl rfl rfl (by omega)) rfl rfl ?_)
 refine sL (A0 rfl rfl (hat _) hl) rfl rfl ?_
 (refine D2 rfl (ih ks[i] (List.getElem_mem (by omega)) _ _ (Tm.smallL_mem hks _ (List.getElem_mem (by omega))) hre) rfl rfl (fun v G1 hle1 hh => ?_); obtain ⟨cells', F', rfl, hs', hnd'⟩ := hh; have hl9 := hs'.R.len; have hone := hs'.R.one)
 refine sP (A8 rfl rfl rfl (by omega)) rfl rfl ?_
 (refine S6 rfl rfl rfl hl9 hone rfl (by repeat first | exact Sw.here | apply Sw.there) (A6z (by rw [hst.R.len, List.length_take]; omega) hst.R.all rfl hl9 (by omega)) ?_)
 refine sD (P4 (nS (tR (sQ (qM rfl) rfl ?_))))
 refine sP (E8 rfl rfl (by omega) (by omega)) rfl rfl ?_
 refine sQ (qA rfl) rfl (sD ?_)
 refine I4 (i + 1, es' ++ [cells'], F ++ F', G1) ?_ ?_ ?_
 (simp only [H5]; exact C9)
 exact ⟨by omega, hle.trans hle1, L9.step hst hnd hle hle1 (by omega) hs' hnd'⟩
 (show ks.length - (i + 1) < ks.length - i; omega)
 refine L5 ?_
 (obtain rfl : i = ks.length := (by omega); rw [A6A]; refine A1d (bs := [(bm, es'.flatten)]) (List.Perm.refl _) (fun hn2 hd2 hle2 => ?_))
 refine tT (E1 (rT rfl) ?_)
 (rw [List.take_length] at hst; obtain ⟨F2, hf1, hf2⟩ := A1w.fin hst hnd hle hle2 (A6B (by rw [Z6 hst.R.all, hst.R.len]) (by unfold maxLen; omega)) (A6C hd2); exact ⟨rfl, _, _, F2, rfl, hf1, hf2⟩)
theorem A15 : ∀ (t : Tm) (G : IM) (cells : List Value), t.small → A6 G t cells → Fn Tryz.prog 18 [.agg ⟨cells⟩] [] G (A28 t G) := by
 refine Tm.ind fun k nm num ty fr lb ks ih G cells hts hr => ?_
 have hone := hr.one
 simp only [Tm.small] at hts
 obtain ⟨hnm, hty', hfr', hsm, hks⟩ := hts
 obtain ⟨tk, tks⟩ := ty
 obtain ⟨fk, fks⟩ := fr
 obtain ⟨pt, ct, pf, cf, p, c, es, rfl, hk, hnum, hlb, hty, hfr, hsl, hkl⟩ := hr.open9
 have hT := A7c (.mk tk tks) G _ hty' hty
 refine B4 Tryz.func18 rfl Tryz.ntmps18 Tryz.results18 rfl ?_
 intro w0
 refine tS (tR ?_)
 refine sE (C1 rfl rfl) rfl (fun b3 => ?_)
 refine sE (A5 rfl) rfl (fun b4 => ?_)
 refine sD (nS (tS (tR ?_)))
 refine sE (A5 rfl) rfl (fun b9 => ?_)
 refine Y1 ?_
 (refine D2 rfl hT rfl rfl (fun v G1 hle1 hh => ?_); obtain ⟨cs1, F1, rfl, hs1, hn1⟩ := hh; obtain ⟨p1, c1, rfl, _⟩ := hs1.open; have hF := A7c (.mk fk fks) G1 _ hfr' (hfr.mono hle1))
 refine D3 ?_
 (refine D2 rfl hF rfl rfl (fun v G2 hle2 hh => ?_); obtain ⟨cs2, F2, rfl, hs2, hn2⟩ := hh; obtain ⟨p2, c2, rfl, _⟩ := hs2.open; have hS := B1e ks ih hks hsm G2 p c es (hsl.mono (hle1.trans hle2)) (hkl.mono (hle1.trans hle2)))
 refine J1 ?_
 (refine D2 rfl hS rfl rfl (fun v G3 hle3 hh => ?_); obtain ⟨p3, c3, F3, rfl, hs3, hn3⟩ := hh)
 refine F8 ?_
 refine E1 (rC rfl (A3 rfl rfl)) ?_
 (obtain ⟨F, hf1, hf2⟩ := N2.mk3 (nm := nm) hk hnum hlb hle1 hle2 hle3 hs1 hn1 hs2 hn2 hs3 hn3; exact ⟨rfl, _, F, rfl, hf1, hf2⟩)
theorem B1f (G : IM) (p : Option Addr) (n c : Nat) (es : List (List Value)) (hsl : C4 G p n c 2 es) (fid : FuncId) [B1 Tryz.prog fid] (us cs : List Value) (ins : List A4) (q : Nat → Bool)
  (hq : ∀ i e, es[i]? = some e → Fn Tryz.prog fid (us ++ [.agg ⟨e⟩] ++ cs) ins G (T1 (.bool (q i)) ins G)) :
  Fn Tryz.prog 116 [.slice p n c, .func (.func fid) ⟨us⟩ ⟨cs⟩] ins G (T1 (.int .i64 (A0q q n)) ins G) := by
 have hn := hsl.le
 refine B4 Tryz.func116 rfl Tryz.ntmps116 Tryz.results116 rfl ?_
 intro w0
 refine K1 ?_
 refine B3 ?_
 refine I1 (fun i : Nat => ⟨[(8, .int .i64 i), (7, .int .i64 n), (1, .func (.func fid) ⟨us⟩ ⟨cs⟩), (0, .slice p n c)], ins, G⟩) (fun i => i ≤ n ∧ ∀ j, j < i → q j = false) (fun i => n - i) 0 ?_ ?_ ?_
 exact C9
 exact ⟨by omega, by omega⟩
 rintro i ⟨hi, hf⟩
 refine tS (tR ?_)
 refine sB (I2 rfl rfl) rfl rfl (fun h21 => ?_) (fun h21 => ?_)
 refine sD (nS (tS (qT rfl (tK (nS (tS ?_))))))
 refine B3 ?_
 refine F8 ?_
 (obtain ⟨e, b, o, he, rfl, hl, _, hat, _⟩ := hsl.get (i := i) (by omega); refine sP (A8 rfl rfl rfl (by omega)) rfl rfl ?_)
 refine sL (A0 rfl rfl (hat _) hl) rfl rfl ?_
 refine A4H rfl rfl (hq i e he) A0j rfl rfl (fun h43 => ?_) (fun h43 => ?_)
 refine H3 ?_
 refine N9 (rT rfl) A7.refl ?_
 exact ⟨rfl, by rw [A6t (by omega) hf (by assumption)], rfl⟩
 refine sD (nS (cF rfl (tK (P4 (nS (tR ?_))))))
 refine sP (E8 rfl rfl (by omega) (by omega)) rfl rfl ?_
 refine sQ (qM rfl) rfl (sD ?_)
 refine I4 (i + 1) ?_ ?_ ?_
 exact C9
 exact ⟨by omega, fun j hj => by by_cases hji : j = i; (subst hji; assumption); exact hf j (by omega)⟩
 omega
 refine H3 ?_
 refine N9 (rT rfl) A7.refl ?_
 exact ⟨rfl, by rw [A4K (fun j hj => hf j (by omega))], rfl⟩
theorem B1g (G : IM) (p : Option Addr) (n c : Nat) (es : List (List Value)) (hsl : C4 G p n c 2 es) (fid : FuncId) [B1 Tryz.prog fid] (us cs : List Value) (ins : List A4) (q : Nat → Bool)
  (hq : ∀ i e, es[i]? = some e → Fn Tryz.prog fid (us ++ [.agg ⟨e⟩] ++ cs) ins G (T1 (.bool (q i)) ins G)) :
  Fn Tryz.prog 80 [.slice p n c, .func (.func fid) ⟨us⟩ ⟨cs⟩] ins G (T1 (.bool (decide (0 ≤ A0q q n))) ins G) := by
 refine B4 Tryz.func80 rfl Tryz.ntmps80 Tryz.results80 rfl ?_
 intro w0
 refine D8 ?_
 refine A1Y rfl (B1f G p n c es hsl fid us cs ins q hq) A0j rfl rfl ?_
 refine sQ (A0X rfl rfl) rfl ?_
 refine sQ (qA rfl) rfl (sD (nS (tT ?_)))
 refine N9 (rT rfl) A7.refl ?_
 exact ⟨rfl, rfl, rfl⟩
theorem A29 (G : IM) (p : Option Addr) (n c : Nat) (es : List (List Value)) (hsl : C4 G p n c 2 es) (fid : FuncId) [B1 Tryz.prog fid] (us cs : List Value) (ins : List A4) (f : Ty → Bool) (ks : List Ty)
  (hn : ks.length = n) {A : Bool} (hA : ks.all f = A) (hq : ∀ i e, es[i]? = some e → Fn Tryz.prog fid (us ++ [.agg ⟨e⟩] ++ cs) ins G (T1 (.bool (!f (ks.getD i B5))) ins G)) :
  Fn Tryz.prog 80 [.slice p n c, .func (.func fid) ⟨us⟩ ⟨cs⟩] ins G (T1 (.bool (!A)) ins G) := by
 subst hn hA
 rw [← A6w f ks B5]
 exact B1g G p _ c es hsl fid us cs ins _ hq
theorem A7d (G : IM) (p p' : Option Addr) (n c n' c' : Nat) (es es' : List (List Value)) (hsl : C4 G p n c 2 es) (hsl' : C4 G p' n' c' 2 es') (fid : FuncId) [B1 Tryz.prog fid] (us cs : List Value) (ins : List A4) (q : Nat → Bool)
  (A : Bool) (hA : A = true ↔ n = n' ∧ ∀ i, i < n → q i = true)
  (hq : ∀ i e e', es[i]? = some e → es'[i]? = some e' → Fn Tryz.prog fid (us ++ [.agg ⟨e⟩, .agg ⟨e'⟩] ++ cs) ins G (T1 (.bool (q i)) ins G)) :
  Fn Tryz.prog 190 [.slice p n c, .slice p' n' c', .func (.func fid) ⟨us⟩ ⟨cs⟩] ins G (T1 (.bool A) ins G) := by
 have hn := hsl.le
 have hn' := hsl'.le
 refine B4 Tryz.func190 rfl Tryz.ntmps190 Tryz.results190 rfl ?_
 intro w0
 refine J9 ?_
 refine sB (N7 rfl rfl) rfl rfl (fun h13 => ?_) (fun h13 => ?_)
 refine I8 ?_
 refine N9 (outs := ins) (rT rfl) (by first | exact A7.refl | exact A7.drop (A7.drop A7.refl)) ?_
 exact ⟨rfl, by (cases A with | false => rfl | true => exact absurd (hA.1 rfl).1 (by omega)), rfl⟩
 refine K1 ?_
 refine B3 (I1 (fun i : Nat => ⟨[(17, .int .i64 i), (16, .int .i64 n), (15, .slice p n c), (2, .func (.func fid) ⟨us⟩ ⟨cs⟩), (1, .slice p' n' c'), (0, .slice p n c)], ins, G⟩) (fun i => i ≤ n ∧ ∀ j, j < i → q j = true) (fun i => n - i) 0 ?_ ?_ ?_)
 exact C9
 exact ⟨by omega, by omega⟩
 rintro i ⟨hi, hf⟩
 refine tS (tR ?_)
 refine sB (I2 rfl rfl) rfl rfl (fun h46 => ?_) (fun h46 => ?_)
 refine sD (nS (tS (qT rfl (tK (nS (tS ?_))))))
 refine B3 ?_
 refine tS (tR (sQ (qM rfl) rfl ?_))
 (obtain ⟨e, b, o, he, rfl, hl, _, hat, _⟩ := hsl.get (i := i) (by omega); refine sP (A8 rfl rfl rfl (by omega)) rfl rfl ?_)
 refine sL (A0 rfl rfl (hat _) hl) rfl rfl ?_
 refine sE (A5 rfl) rfl (fun b60 => ?_)
 refine sQ (qA rfl) rfl ?_
 refine S6 rfl rfl rfl (by assumption) (by assumption) rfl (by repeat first | exact Sw.here | apply Sw.there) (by exact D4 (by symm; assumption)) ?_
 refine sD (nS (tS (tR (sQ (qM rfl) rfl (sQ (qM rfl) rfl ?_)))))
 (obtain ⟨e', b', o', he', rfl, hl', _, hat', _⟩ := hsl'.get (i := i) (by omega); refine sP (A8 rfl rfl rfl (by omega)) rfl rfl ?_)
 refine sL (A0 rfl rfl (hat' _) hl') rfl rfl ?_
 refine sE (A5 rfl) rfl (fun b71 => ?_)
 refine S6 rfl rfl rfl (by assumption) (by assumption) rfl (by repeat first | exact Sw.here | apply Sw.there) (by exact D4 (by symm; assumption)) ?_
 refine sD (nS (tS (tR (sQ (qM rfl) rfl ?_))))
 refine sL (A0 rfl rfl (A9 (by repeat first | exact mH | apply mT)) (by assumption)) rfl rfl ?_
 refine sL (A0 rfl rfl (A9 (by repeat first | exact mH | apply mT)) (by assumption)) rfl rfl ?_
 refine A4H rfl rfl (hq i e e' he he') A98 rfl rfl (fun h80 => ?_) (fun h80 => ?_)
 refine D3 ?_
 refine sP (E8 rfl rfl (by omega) (by omega)) rfl rfl ?_
 refine sQ (qM rfl) rfl (sD ?_)
 refine I4 (i + 1) ?_ ?_ ?_
 exact C9
 exact ⟨by omega, fun j hj => by by_cases hji : j = i; (subst hji; assumption); exact hf j (by omega)⟩
 omega
 refine H3 ?_
 refine N9 (outs := ins) (rT rfl) (by first | exact A7.refl | exact A7.drop (A7.drop A7.refl)) ?_
 exact ⟨rfl, by (cases A with | false => rfl | true => have h0 := (hA.1 rfl).2 i (by omega); simp_all), rfl⟩
 refine H3 ?_
 refine N9 (outs := ins) (rT rfl) (by first | exact A7.refl | exact A7.drop (A7.drop A7.refl)) ?_
 exact ⟨rfl, by rw [hA.2 ⟨by omega, fun j hj => hf j (by omega)⟩], rfl⟩
theorem A0Z (n lo hi : Int) (G : IM) : Fn Tryz.prog 74 [.int .i64 n, .int .i64 lo, .int .i64 hi] [] G (E4 (.bool (R4 n lo hi)) G) := by
 refine B4 Tryz.func74 rfl Tryz.ntmps74 Tryz.results74 rfl ?_
 intro w0
 refine D8 ?_
 refine sB (W9 rfl rfl) rfl rfl (fun h10 => ?_) (fun h10 => ?_)
 refine sQ (qM rfl) rfl (sQ (qM rfl) rfl (sQ (qM rfl) rfl ?_))
 refine sB (W9 rfl rfl) rfl rfl (fun h14 => ?_) (fun h14 => ?_)
 refine E2 ?_
 exact ⟨rfl, by simp [R4]; omega, rfl⟩
 refine E2 ?_
 exact ⟨rfl, by simp [R4]; omega, rfl⟩
 refine I8 ?_
 exact ⟨rfl, by simp [R4]; omega, rfl⟩
theorem A00 (k : Int) (G : IM) : Fn Tryz.prog 44 [.int .i64 k] [] G (E4 (.agg ⟨[.int .i64 k, .slice none 0 0]⟩) G) := by
 refine B4 Tryz.func44 rfl Tryz.ntmps44 Tryz.results44 rfl ?_
 intro w0
 refine tS (tR ?_)
 refine sE (A5 rfl) rfl (fun b3 => ?_)
 refine I8 ?_
 refine E1 (rC rfl (A3 rfl rfl)) ?_
 exact ⟨rfl, rfl, rfl⟩
theorem B1h (n : Int) (G : IM) : Fn Tryz.prog 189 [.int .i64 n] [] G (E4 (.bool (A0M n)) G) := by
 refine B4 Tryz.func189 rfl Tryz.ntmps189 Tryz.results189 rfl ?_
 intro w0
 refine D3 ?_
 refine F0 rfl (A0Z _ _ _ _) rfl rfl (fun h9 => ?_) (fun h9 => ?_)
 refine D8 ?_
 exact ⟨rfl, by simp [A0M, *], rfl⟩
 refine sQ (qM rfl) rfl (sQ (qM rfl) rfl ?_)
 refine F0 rfl (A0Z _ _ _ _) rfl rfl (fun h22 => ?_) (fun h22 => ?_)
 refine E2 ?_
 exact ⟨rfl, by simp [A0M, *], rfl⟩
 refine E2 ?_
 exact ⟨rfl, by simp [A0M, *], rfl⟩
theorem A7e (t : Ty) (G : IM) (cells : List Value) (hr : B6 G t cells) : Fn Tryz.prog 187 [.agg ⟨cells⟩] [] G (E4 (.bool (X0 t)) G) := by
 obtain ⟨p, c, es, rfl, hk, hsl, hkl⟩ := hr.open
 refine B4 Tryz.func187 rfl Tryz.ntmps187 Tryz.results187 rfl ?_
 intro w0
 refine tS (tR ?_)
 refine sE (C1 rfl rfl) rfl (fun b3 => ?_)
 refine C3 ?_
 refine sB (qE rfl rfl) rfl rfl (fun h11 => ?_) (fun h11 => ?_)
 refine H8 ?_
 refine sB (qE rfl rfl) rfl rfl (fun h16 => ?_) (fun h16 => ?_)
 refine E2 ?_
 exact ⟨rfl, by simp only [X0]; (first | rw [decide_eq_true (by omega)] | rw [decide_eq_false (by omega)]), rfl⟩
 refine E2 ?_
 exact ⟨rfl, by simp only [X0]; (first | rw [decide_eq_true (by omega)] | rw [decide_eq_false (by omega)]), rfl⟩
 refine F8 ?_
 exact ⟨rfl, by simp only [X0]; (first | rw [decide_eq_true (by omega)] | rw [decide_eq_false (by omega)]), rfl⟩
theorem B1i (s : ByteArray) (G : IM) : Fn Tryz.prog 186 [.string s] [] G (E4 (.bool (X1 s)) G) := by
 refine B4 Tryz.func186 rfl Tryz.ntmps186 Tryz.results186 rfl ?_
 intro w0
 refine D3 ?_
 refine sQ (A4w rfl rfl) rfl (sB (qE rfl rfl) rfl rfl (fun h10 => ?_) (fun h10 => ?_))
 refine sQ (qM rfl) rfl (sQ (qM rfl) rfl ?_)
 refine sP (A3E rfl rfl rfl (by omega) (A3N (by omega))) rfl rfl ?_
 refine sB (A0X rfl rfl) rfl rfl (fun h14 => ?_) (fun h14 => ?_)
 refine sQ (L4 rfl rfl) rfl (sQ (qM rfl) rfl (sQ (qM rfl) rfl ?_))
 refine sP (A3E rfl rfl rfl (by omega) (A3N (by omega))) rfl rfl ?_
 refine sB (W9 rfl rfl) rfl rfl (fun h19 => ?_) (fun h19 => ?_)
 refine E2 ?_
 exact ⟨rfl, by simp only [X1]; (try simp only [Int.toNat_zero] at *); (first | rw [decide_eq_true (by omega)] | rw [decide_eq_false (by omega)]), rfl⟩
 refine E2 ?_
 exact ⟨rfl, by simp only [X1]; (try simp only [Int.toNat_zero] at *); (first | rw [decide_eq_true (by omega)] | rw [decide_eq_false (by omega)]), rfl⟩
 refine F8 ?_
 exact ⟨rfl, by simp only [X1]; (try simp only [Int.toNat_zero] at *); (first | rw [decide_eq_true (by omega)] | rw [decide_eq_false (by omega)]), rfl⟩
 refine H3 ?_
 exact ⟨rfl, by simp only [X1]; (try simp only [Int.toNat_zero] at *); (first | rw [decide_eq_true (by omega)] | rw [decide_eq_false (by omega)]), rfl⟩
end Gw
end Go.Proofs.YtfpgncjeejickaaGreat
