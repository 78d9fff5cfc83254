/-
  The data of the program: types and terms as trees, and how they lie in memory.
-/
import Derived.Test.YtmceanphadildaaGreatDoorKa0
import Derived.Laws.BytesArg
import Derived.WalkKit
import Derived.ProofKit
import Derived.OpenShut
import Derived.Carry
import Derived.Test.YtmceanphadildaaGreatDoorShelf
import Derived.Lib.ItoaNum
import Derived.Lib.LaidTab
import Derived.Test.YtmceanphadildaaGreatDoorRows
import Derived.Deep.DeepHandedRow
import Derived.Stop.LaidErr
set_option linter.unusedVariables false
set_option linter.unusedSimpArgs false
set_option maxHeartbeats 0
set_option maxRecDepth 100000
set_option synthInstance.maxSize 4000
set_option synthInstance.maxHeartbeats 0
namespace Go.Proofs.YtmceanphadildaaGreatDoor
open Go Go.RowKit
namespace Gw
theorem y0 {p : Prop} (h : p := by
  refine N4 ?_
  exact ⟨rfl, by rw [hi.2 ⟨by omega, fun _ => zL, fun _ => zL, fun _ => zL, fun _ => zL, fun _ => zL, fun _ => zL, fun _ => ⟨by (first | assumption | (exfalso; omega)), by (first | assumption | (exfalso; omega))⟩, fun _ => ⟨by (first | assumption | (exfalso; omega)), by (first | assumption | omega)⟩⟩], rfl⟩
) : p := h
theorem y1 {p : Prop} (h : p := by
  refine B5 ?_
  exact ⟨rfl, zE, rfl⟩
) : p := h

structure D0 (G : IM) (p : Option Addr) (n c sz : Nat) (es : List (List Value)) : Prop where
 sl : Sl G p n c sz es.flatten
 len : es.length = n
 all : ∀ e ∈ es, e.length = sz
 one : ∀ e ∈ es, e.all (·.oneCell') = true

theorem D0.mono {G G' : IM} {p : Option Addr} {n c sz : Nat} {es : List (List Value)} (h : D0 G p n c sz es) (hg : C1 G G') : D0 G' p n c sz es := ⟨h.sl.mono hg, h.len, h.all, h.one⟩
theorem D0.nil (G : IM) (sz : Nat) : D0 G none 0 0 sz [] := ⟨Sl.nil G sz, rfl, by simp, by simp⟩

theorem A8d {sz : Nat} : ∀ {es : List (List Value)}, (∀ e ∈ es, e.length = sz) → ∀ {i : Nat} {e : List Value}, es[i]? = some e → ∀ j v, e[j]? = some v → es.flatten[i * sz + j]? = some v
 | [], _, i, e, h, _, _, _ => by simp at h
 | a :: r, hall, 0, e, h, j, v, hv => by
  simp at h; subst h
  have : j < a.length := (List.getElem?_eq_some_iff.1 hv).1
  simp [List.getElem?_append, this]
  simpa [List.getElem?_eq_getElem this] using hv
 | a :: r, hall, i + 1, e, h, j, v, hv => by
  have ih := A8d (es := r) (fun x hx => hall x (List.mem_cons_of_mem _ hx)) (i := i) (e := e) (by simpa using h) j v hv
  have ha := hall a List.mem_cons_self
  rw [List.flatten_cons, List.getElem?_append, if_neg (by rw [ha, Nat.succ_mul]; omega)]
  rw [show (i + 1) * sz + j - a.length = i * sz + j by rw [ha, Nat.succ_mul]; omega]
  exact ih

theorem D0.at {G : IM} {p : Option Addr} {n c sz : Nat} {es : List (List Value)} (h : D0 G p n c sz es) {i : Nat} {e : List Value} (hi : es[i]? = some e) :
  ∃ b o, p = some ⟨b, o, none⟩ ∧ ∀ hp, At hp G b (o + i * sz) e := by
 have hlt : i < es.length := (List.getElem?_eq_some_iff.1 hi).1
 obtain ⟨_, _, _, h4⟩ := h.sl
 have hn := h.len
 rcases h4 with h0 | ⟨b, o, full, hp, hg, hf⟩
 ·omega
 ·refine ⟨b, o, hp, fun hp => A4v hg fun j v hv => ?_⟩
  rw [Nat.add_assoc]
  exact hf _ v (A8d h.all hi j v hv)

theorem D0.get {G : IM} {p : Option Addr} {n c sz : Nat} {es : List (List Value)} (h : D0 G p n c sz es) {i : Nat} (hi : i < n) :
  ∃ e b o, es[i]? = some e ∧ p = some ⟨b, o, none⟩ ∧ e.length = sz ∧ e.all (·.oneCell') = true ∧ (∀ hp, At hp G b (o + i * sz) e) ∧ G b ≠ none := by
 have hlt : i < es.length := by rw [h.len]; exact hi
 have he : es[i]? = some es[i] := List.getElem?_eq_getElem hlt
 obtain ⟨b, o, h1, h2⟩ := h.at he
 refine ⟨es[i], b, o, he, h1, h.all _ (List.getElem_mem hlt), h.one _ (List.getElem_mem hlt), h2, ?_⟩
 obtain ⟨_, _, _, h4⟩ := h.sl
 rcases h4 with h0 | ⟨b', o', full, hp, hg, hf⟩
 ·omega
 ·rw [h1] at hp; cases hp; rw [hg]; simp
theorem D0.le {G : IM} {p : Option Addr} {n c sz : Nat} {es : List (List Value)} (h : D0 G p n c sz es) : n ≤ 9223372036854775807 := by
 have h1 := h.sl.2.1; have h2 := h.sl.2.2.1; unfold maxLen at h2; omega

theorem D0.of {G : IM} {p : Option Addr} {n c sz : Nat} {es : List (List Value)} (h : Sl G p n c sz es.flatten) (hl : es.length = n) (ha : ∀ e ∈ es, e.length = sz) (ho : ∀ e ∈ es, e.all (·.oneCell') = true) : D0 G p n c sz es := ⟨h, hl, ha, ho⟩

def E8 (n : Int) : Prop := -9223372036854775808 ≤ n ∧ n ≤ 9223372036854775807

inductive Ty where
 | mk (k : Int) (ks : List Ty)

def Ty.k : Ty → Int | .mk k _ => k
def Ty.ks : Ty → List Ty | .mk _ ks => ks

inductive Tm where
 | mk (k : Int) (nm : ByteArray) (num : Int) (ty fr : Ty) (lb : Int) (ks : List Tm)

def Tm.k : Tm → Int | .mk k _ _ _ _ _ _ => k
def Tm.nm : Tm → ByteArray | .mk _ n _ _ _ _ _ => n
def Tm.num : Tm → Int | .mk _ _ n _ _ _ _ => n
def Tm.ty : Tm → Ty | .mk _ _ _ t _ _ _ => t
def Tm.fr : Tm → Ty | .mk _ _ _ _ f _ _ => f
def Tm.lb : Tm → Int | .mk _ _ _ _ _ l _ => l
def Tm.ks : Tm → List Tm | .mk _ _ _ _ _ _ ks => ks

mutual
def Ty.small : Ty → Prop
 | .mk _ ks => ks.length ≤ 4294967296 ∧ Ty.smallL ks
def Ty.smallL : List Ty → Prop
 | [] => True
 | t :: ts => t.small ∧ Ty.smallL ts
end
mutual
def Tm.small : Tm → Prop
 | .mk _ nm _ ty fr _ ks => nm.size ≤ 4294967296 ∧ ty.small ∧ fr.small ∧ ks.length ≤ 4294967296 ∧ Tm.smallL ks
def Tm.smallL : List Tm → Prop
 | [] => True
 | t :: ts => t.small ∧ Tm.smallL ts
end
theorem Ty.smallL_mem : ∀ {ts : List Ty}, Ty.smallL ts → ∀ t ∈ ts, t.small
 | [], _, t, h => by simp at h
 | t' :: ts, h, t, ht => by
  simp only [Ty.smallL] at h
  rcases List.mem_cons.1 ht with rfl | ht
  ·exact h.1
  ·exact Ty.smallL_mem h.2 t ht
theorem Tm.smallL_mem : ∀ {ts : List Tm}, Tm.smallL ts → ∀ t ∈ ts, t.small
 | [], _, t, h => by simp at h
 | t' :: ts, h, t, ht => by
  simp only [Tm.smallL] at h
  rcases List.mem_cons.1 ht with rfl | ht
  ·exact h.1
  ·exact Tm.smallL_mem h.2 t ht

mutual
def B8 (G : IM) : Ty → List Value → Prop
 | .mk k ks, cells => ∃ p c es, cells = [.int .i64 k, .slice p ks.length c] ∧ E8 k ∧ D0 G p ks.length c 2 es ∧ E9 G ks es
def E9 (G : IM) : List Ty → List (List Value) → Prop
 | [], es => es = []
 | t :: ts, es => ∃ a r, es = a :: r ∧ B8 G t a ∧ E9 G ts r
end

mutual
def B6 (G : IM) : Tm → List Value → Prop
 | .mk k nm num ty fr lb ks, cells => ∃ tc fc p c es, cells = [.int .i64 k, .string nm, .int .i64 num] ++ tc ++ fc ++ [.int .i64 lb, .slice p ks.length c] ∧ E8 k ∧ E8 num ∧ E8 lb ∧ B8 G ty tc ∧ B8 G fr fc ∧ D0 G p ks.length c 9 es ∧ H3 G ks es
def H3 (G : IM) : List Tm → List (List Value) → Prop
 | [], es => es = []
 | t :: ts, es => ∃ a r, es = a :: r ∧ B6 G t a ∧ H3 G ts r
end

mutual
theorem B8.mono {G G' : IM} (hg : C1 G G') : ∀ {t : Ty} {cells : List Value}, B8 G t cells → B8 G' t cells
 | .mk k ks, cells, h => by
  simp only [B8] at h ⊢
  obtain ⟨p, c, es, h1, h2, h3, h4⟩ := h
  exact ⟨p, c, es, h1, h2, h3.mono hg, E9.mono hg h4⟩
theorem E9.mono {G G' : IM} (hg : C1 G G') : ∀ {ts : List Ty} {es : List (List Value)}, E9 G ts es → E9 G' ts es
 | [], es, h => by simpa only [E9] using h
 | t :: ts, es, h => by
  simp only [E9] at h ⊢
  obtain ⟨a, r, h1, h2, h3⟩ := h
  exact ⟨a, r, h1, B8.mono hg h2, E9.mono hg h3⟩
end
mutual
theorem B6.mono {G G' : IM} (hg : C1 G G') : ∀ {t : Tm} {cells : List Value}, B6 G t cells → B6 G' t cells
 | .mk k nm num ty fr lb ks, cells, h => by
  simp only [B6] at h ⊢
  obtain ⟨tc, fc, p, c, es, h1, h2, h3, h4, h5, h6, h7, h8⟩ := h
  exact ⟨tc, fc, p, c, es, h1, h2, h3, h4, h5.mono hg, h6.mono hg, h7.mono hg, H3.mono hg h8⟩
theorem H3.mono {G G' : IM} (hg : C1 G G') : ∀ {ts : List Tm} {es : List (List Value)}, H3 G ts es → H3 G' ts es
 | [], es, h => by simpa only [H3] using h
 | t :: ts, es, h => by
  simp only [H3] at h ⊢
  obtain ⟨a, r, h1, h2, h3⟩ := h
  exact ⟨a, r, h1, B6.mono hg h2, H3.mono hg h3⟩
end

theorem B8.open {G : IM} {t : Ty} {cells : List Value} (h : B8 G t cells) : ∃ p c es, cells = [.int .i64 t.k, .slice p t.ks.length c] ∧ E8 t.k ∧ D0 G p t.ks.length c 2 es ∧ E9 G t.ks es := by
 cases t; simpa only [B8, Ty.k, Ty.ks] using h
theorem B6.open {G : IM} {t : Tm} {cells : List Value} (h : B6 G t cells) : ∃ pt ct et pf cf ef p c es,
  cells = [.int .i64 t.k, .string t.nm, .int .i64 t.num, .int .i64 t.ty.k, .slice pt t.ty.ks.length ct, .int .i64 t.fr.k, .slice pf t.fr.ks.length cf, .int .i64 t.lb, .slice p t.ks.length c] ∧
  E8 t.k ∧ E8 t.num ∧ E8 t.lb ∧ (E8 t.ty.k ∧ D0 G pt t.ty.ks.length ct 2 et ∧ E9 G t.ty.ks et) ∧ (E8 t.fr.k ∧ D0 G pf t.fr.ks.length cf 2 ef ∧ E9 G t.fr.ks ef) ∧ D0 G p t.ks.length c 9 es ∧ H3 G t.ks es := by
 obtain ⟨k, nm, num, ty, fr, lb, ks⟩ := t
 simp only [B6] at h
 obtain ⟨tc, fc, p, c, es, h1, h2, h3, h4, h5, h6, h7, h8⟩ := h
 obtain ⟨pt, ct, et, rfl, t1, t2, t3⟩ := h5.open
 obtain ⟨pf, cf, ef, rfl, f1, f2, f3⟩ := h6.open
 exact ⟨pt, ct, et, pf, cf, ef, p, c, es, h1, h2, h3, h4, ⟨t1, t2, t3⟩, ⟨f1, f2, f3⟩, h7, h8⟩
theorem B6.open9 {G : IM} {k : Int} {nm : ByteArray} {num : Int} {tk : Int} {tks : List Ty} {fk : Int} {fks : List Ty} {lb : Int} {ks : List Tm} {cells : List Value} (h : B6 G (.mk k nm num (.mk tk tks) (.mk fk fks) lb ks) cells) :
  ∃ pt ct pf cf p c es, cells = [.int .i64 k, .string nm, .int .i64 num, .int .i64 tk, .slice pt tks.length ct, .int .i64 fk, .slice pf fks.length cf, .int .i64 lb, .slice p ks.length c] ∧
  E8 k ∧ E8 num ∧ E8 lb ∧ B8 G (.mk tk tks) [.int .i64 tk, .slice pt tks.length ct] ∧ B8 G (.mk fk fks) [.int .i64 fk, .slice pf fks.length cf] ∧ D0 G p ks.length c 9 es ∧ H3 G ks es := by
 obtain ⟨pt, ct, et, pf, cf, ef, p, c, es, h1, h2, h3, h4, ⟨t1, t2, t3⟩, ⟨f1, f2, f3⟩, h7, h8⟩ := h.open
 simp only [Tm.k, Tm.nm, Tm.num, Tm.ty, Tm.fr, Tm.lb, Tm.ks, Ty.k, Ty.ks] at h1 h2 h3 h4 t1 t2 t3 f1 f2 f3 h7 h8
 exact ⟨pt, ct, pf, cf, p, c, es, h1, h2, h3, h4, by simp only [B8]; exact ⟨_, _, et, rfl, t1, t2, t3⟩, by simp only [B8]; exact ⟨_, _, ef, rfl, f1, f2, f3⟩, h7, h8⟩
theorem B8.len {G : IM} {t : Ty} {cells : List Value} (h : B8 G t cells) : cells.length = 2 := by
 obtain ⟨_, _, _, rfl, _⟩ := h.open; rfl
theorem B6.len {G : IM} {t : Tm} {cells : List Value} (h : B6 G t cells) : cells.length = 9 := by
 obtain ⟨_, _, _, _, _, _, _, _, _, rfl, _⟩ := h.open; rfl

theorem E9.len {G : IM} : ∀ {ts : List Ty} {es : List (List Value)}, E9 G ts es → es.length = ts.length
 | [], es, h => by simp only [E9] at h; subst h; rfl
 | t :: ts, es, h => by
  simp only [E9] at h
  obtain ⟨a, r, rfl, _, h3⟩ := h
  simp [h3.len]
theorem H3.len {G : IM} : ∀ {ts : List Tm} {es : List (List Value)}, H3 G ts es → es.length = ts.length
 | [], es, h => by simp only [H3] at h; subst h; rfl
 | t :: ts, es, h => by
  simp only [H3] at h
  obtain ⟨a, r, rfl, _, h3⟩ := h
  simp [h3.len]
theorem E9.get {G : IM} : ∀ {ts : List Ty} {es : List (List Value)}, E9 G ts es → ∀ {i : Nat} {t : Ty}, ts[i]? = some t → ∃ e, es[i]? = some e ∧ B8 G t e
 | [], es, h, i, t, hi => by simp at hi
 | t' :: ts, es, h, i, t, hi => by
  simp only [E9] at h
  obtain ⟨a, r, rfl, h2, h3⟩ := h
  cases i with
  | zero => simp at hi; subst hi; exact ⟨a, rfl, h2⟩
  | succ i => obtain ⟨e, he, hr⟩ := h3.get (i := i) (by simpa using hi); exact ⟨e, by simpa using he, hr⟩
theorem H3.get {G : IM} : ∀ {ts : List Tm} {es : List (List Value)}, H3 G ts es → ∀ {i : Nat} {t : Tm}, ts[i]? = some t → ∃ e, es[i]? = some e ∧ B6 G t e
 | [], es, h, i, t, hi => by simp at hi
 | t' :: ts, es, h, i, t, hi => by
  simp only [H3] at h
  obtain ⟨a, r, rfl, h2, h3⟩ := h
  cases i with
  | zero => simp at hi; subst hi; exact ⟨a, rfl, h2⟩
  | succ i => obtain ⟨e, he, hr⟩ := h3.get (i := i) (by simpa using hi); exact ⟨e, by simpa using he, hr⟩
theorem E9.all {G : IM} {ts : List Ty} {es : List (List Value)} (h : E9 G ts es) : ∀ e ∈ es, e.length = 2 := by
 intro e he
 obtain ⟨i, hi⟩ := List.getElem?_of_mem he
 have hlt : i < ts.length := by have := (List.getElem?_eq_some_iff.1 hi).1; rw [h.len] at this; exact this
 obtain ⟨e', he', hr⟩ := h.get (i := i) (t := ts[i]) (by simp [hlt])
 rw [hi] at he'; cases he'; exact hr.len
theorem H3.all {G : IM} {ts : List Tm} {es : List (List Value)} (h : H3 G ts es) : ∀ e ∈ es, e.length = 9 := by
 intro e he
 obtain ⟨i, hi⟩ := List.getElem?_of_mem he
 have hlt : i < ts.length := by have := (List.getElem?_eq_some_iff.1 hi).1; rw [h.len] at this; exact this
 obtain ⟨e', he', hr⟩ := h.get (i := i) (t := ts[i]) (by simp [hlt])
 rw [hi] at he'; cases he'; exact hr.len

theorem B8.one {G : IM} {t : Ty} {cells : List Value} (h : B8 G t cells) : cells.all (·.oneCell') = true := by
 obtain ⟨_, _, _, rfl, _⟩ := h.open; rfl
theorem B6.one {G : IM} {t : Tm} {cells : List Value} (h : B6 G t cells) : cells.all (·.oneCell') = true := by
 obtain ⟨_, _, _, _, _, _, _, _, _, rfl, _⟩ := h.open; rfl

theorem Ty.ind {C : Ty → Prop} (h : ∀ k ks, (∀ t ∈ ks, C t) → C (.mk k ks)) : ∀ t, C t
 | .mk k ks => h k ks fun t ht => Ty.ind h t
termination_by t => SizeOf.sizeOf t
decreasing_by
 have := List.sizeOf_lt_of_mem ht
 simp only [Ty.mk.sizeOf_spec]; omega
theorem Tm.ind {C : Tm → Prop} (h : ∀ k nm num ty fr lb ks, (∀ t ∈ ks, C t) → C (.mk k nm num ty fr lb ks)) : ∀ t, C t
 | .mk k nm num ty fr lb ks => h k nm num ty fr lb ks fun t ht => Tm.ind h t
termination_by t => SizeOf.sizeOf t
decreasing_by
 have := List.sizeOf_lt_of_mem ht
 simp only [Tm.mk.sizeOf_spec]; omega

def D7 (G' G : IM) : IM := fun b => match G b with | none => G' b | some _ => none
theorem D7.le (G' G : IM) : C1 (D7 G' G) G' := by
 intro b l h
 unfold D7 at h
 split at h
 ·exact h
 ·cases h
theorem D7.mono {G' G'' G : IM} (h : C1 G' G'') : C1 (D7 G' G) (D7 G'' G) := by
 intro b l hb
 unfold D7 at hb ⊢
 split at hb
 ·exact h b l hb
 ·cases hb
theorem D7.anti {G' G G0 : IM} (h : C1 G0 G) : C1 (D7 G' G) (D7 G' G0) := by
 intro b l hb
 unfold D7 at hb ⊢
 split at hb
 ·rename_i h0
  cases h1 : G0 b with
  | none => exact hb
  | some l' => rw [h b l' h1] at h0; cases h0
 ·cases hb
theorem D7.out {G' G : IM} {b : Nat} (h : D7 G' G b ≠ none) : G b = none := by
 unfold D7 at h
 split at h
 ·assumption
 ·exact absurd rfl h
theorem Sl.dif {G' G G0 : IM} {p : Option Addr} {n c sz : Nat} {cs : List Value} (h : Sl G' p n c sz cs) (hp : ∀ b ∈ J9 p, G b = none) (hle : C1 G0 G) : Sl (D7 G' G0) p n c sz cs := by
 obtain ⟨h1, h2, h3, h4⟩ := h
 refine ⟨h1, h2, h3, h4.imp id ?_⟩
 rintro ⟨b, o, full, rfl, e2, e3⟩
 refine ⟨b, o, full, rfl, ?_, e3⟩
 have hb := hp b (by simp [J9])
 have h0 : G0 b = none := by
  cases h1 : G0 b with
  | none => rfl
  | some l => rw [hle b l h1] at hb; cases hb
 simp [D7, h0, e2]

mutual
def P0 (G : IM) : Ty → List Value → List Nat → Prop
 | .mk k ks, cells, F => ∃ p c es Fs, cells = [.int .i64 k, .slice p ks.length c] ∧ E8 k ∧ D0 G p ks.length c 2 es ∧ M5 G ks es Fs ∧ F = J9 p ++ Fs ∧ (∀ b ∈ J9 p, G b ≠ none)
def M5 (G : IM) : List Ty → List (List Value) → List Nat → Prop
 | [], es, F => es = [] ∧ F = []
 | t :: ts, es, F => ∃ a r Fa Fr, es = a :: r ∧ P0 G t a Fa ∧ M5 G ts r Fr ∧ F = Fa ++ Fr
end
mutual
theorem P0.R {G : IM} : ∀ {t : Ty} {cells : List Value} {F : List Nat}, P0 G t cells F → B8 G t cells
 | .mk k ks, cells, F, h => by
  simp only [P0] at h
  obtain ⟨p, c, es, Fs, h1, h2, h3, h4, _⟩ := h
  simp only [B8]
  exact ⟨p, c, es, h1, h2, h3, M5.R h4⟩
theorem M5.R {G : IM} : ∀ {ts : List Ty} {es : List (List Value)} {F : List Nat}, M5 G ts es F → E9 G ts es
 | [], es, F, h => by simp only [M5] at h; simp only [E9]; exact h.1
 | t :: ts, es, F, h => by
  simp only [M5] at h
  obtain ⟨a, r, Fa, Fr, h1, h2, h3, _⟩ := h
  simp only [E9]
  exact ⟨a, r, h1, P0.R h2, M5.R h3⟩
end
mutual
theorem P0.mono {G G' : IM} (hg : C1 G G') : ∀ {t : Ty} {cells : List Value} {F : List Nat}, P0 G t cells F → P0 G' t cells F
 | .mk k ks, cells, F, h => by
  simp only [P0] at h ⊢
  obtain ⟨p, c, es, Fs, h1, h2, h3, h4, h5, h6⟩ := h
  exact ⟨p, c, es, Fs, h1, h2, h3.mono hg, M5.mono hg h4, h5, fun b hb => by cases hgb : G b with | none => exact absurd hgb (h6 b hb) | some l => rw [hg b l hgb]; simp⟩
theorem M5.mono {G G' : IM} (hg : C1 G G') : ∀ {ts : List Ty} {es : List (List Value)} {F : List Nat}, M5 G ts es F → M5 G' ts es F
 | [], es, F, h => by simpa only [M5] using h
 | t :: ts, es, F, h => by
  simp only [M5] at h ⊢
  obtain ⟨a, r, Fa, Fr, h1, h2, h3, h4⟩ := h
  exact ⟨a, r, Fa, Fr, h1, P0.mono hg h2, M5.mono hg h3, h4⟩
end
mutual
theorem P0.inG {G : IM} : ∀ {t : Ty} {cells : List Value} {F : List Nat}, P0 G t cells F → ∀ b ∈ F, G b ≠ none
 | .mk k ks, cells, F, h => by
  simp only [P0] at h
  obtain ⟨p, c, es, Fs, h1, h2, h3, h4, rfl, h6⟩ := h
  intro b hb
  rcases List.mem_append.1 hb with hb | hb
  ·exact h6 b hb
  ·exact M5.inG h4 b hb
theorem M5.inG {G : IM} : ∀ {ts : List Ty} {es : List (List Value)} {F : List Nat}, M5 G ts es F → ∀ b ∈ F, G b ≠ none
 | [], es, F, h => by simp only [M5] at h; rw [h.2]; simp
 | t :: ts, es, F, h => by
  simp only [M5] at h
  obtain ⟨a, r, Fa, Fr, h1, h2, h3, rfl⟩ := h
  intro b hb
  rcases List.mem_append.1 hb with hb | hb
  ·exact P0.inG h2 b hb
  ·exact M5.inG h3 b hb
end
theorem M5.snoc {G : IM} : ∀ {ts : List Ty} {es : List (List Value)} {F : List Nat} {t : Ty} {a : List Value} {Fa : List Nat}, M5 G ts es F → P0 G t a Fa → M5 G (ts ++ [t]) (es ++ [a]) (F ++ Fa)
 | [], es, F, t, a, Fa, h, h2 => by
  simp only [M5] at h
  obtain ⟨rfl, rfl⟩ := h
  simp only [List.nil_append, M5]
  exact ⟨a, [], Fa, [], rfl, h2, ⟨rfl, rfl⟩, by simp⟩
 | t' :: ts, es, F, t, a, Fa, h, h2 => by
  simp only [M5] at h
  obtain ⟨a', r, Fa', Fr, rfl, h3, h4, rfl⟩ := h
  simp only [List.cons_append, M5]
  exact ⟨a', r ++ [a], Fa', Fr ++ Fa, rfl, h3, M5.snoc h4 h2, by simp⟩

theorem D0.kidTy {G : IM} {p : Option Addr} {n c : Nat} {es : List (List Value)} {ks : List Ty} (h : D0 G p n c 2 es) (hk : E9 G ks es) {i : Nat} (hi : i < n) (hn : i < ks.length) :
  ∃ b o p2 c2, p = some ⟨b, o, none⟩ ∧ (∀ hp, At hp G b (o + i * 2) [.int .i64 ks[i].k, .slice p2 ks[i].ks.length c2]) ∧ B8 G ks[i] [.int .i64 ks[i].k, .slice p2 ks[i].ks.length c2] ∧ G b ≠ none := by
 obtain ⟨e, b, o, he, h1, h2, h3, h4, h5⟩ := h.get hi
 obtain ⟨e', he', hr⟩ := hk.get (i := i) (t := ks[i]) (by simp [hn])
 rw [he] at he'; cases he'
 obtain ⟨p2, c2, _, rfl, _⟩ := hr.open
 exact ⟨b, o, p2, c2, h1, h4, hr, h5⟩

theorem M5.step {G Gi G1 : IM} {ks : List Ty} {i : Nat} {es : List (List Value)} {F F' : List Nat} {a : List Value} (h : M5 (D7 Gi G) (ks.take i) es F) (hn : F.Nodup) (hle : C1 G Gi) (hle1 : C1 Gi G1) (hi : i < ks.length)
  (ha : P0 (D7 G1 Gi) ks[i] a F') (hn' : F'.Nodup) : M5 (D7 G1 G) (ks.take (i + 1)) (es ++ [a]) (F ++ F') ∧ (F ++ F').Nodup := by
 constructor
 ·rw [List.take_succ_eq_append_getElem hi]
  exact M5.snoc (h.mono (D7.mono hle1)) (ha.mono (D7.anti hle))
 ·rw [List.nodup_append]
  refine ⟨hn, hn', ?_⟩
  rintro x hx y hy rfl
  have h1 := h.inG x hx
  have h2 := D7.out (ha.inG x hy)
  apply h1
  cases hd : D7 Gi G x with
  | none => rfl
  | some l => rw [D7.le _ _ x l hd] at h2; cases h2
theorem P0.fin {G Gi G2 : IM} {k : Int} {ks : List Ty} {es : List (List Value)} {F : List Nat} {p : Option Addr} {c : Nat} (h : M5 (D7 Gi G) ks es F) (hn : F.Nodup) (hle : C1 G Gi) (hle2 : C1 Gi G2)
  (hsl : Sl G2 p ks.length c 2 es.flatten) (hnn : ∀ b ∈ J9 p, Gi b = none ∧ G2 b ≠ none) (hk : E8 k) :
  ∃ F', P0 (D7 G2 G) (.mk k ks) [.int .i64 k, .slice p ks.length c] F' ∧ F'.Nodup := by
 have hno := fun b hb => (hnn b hb).1
 have hin := fun b hb => (hnn b hb).2
 have hR := h.R
 refine ⟨J9 p ++ F, ?_, ?_⟩
 ·simp only [P0]
  refine ⟨p, c, es, F, rfl, hk, D0.of (hsl.dif hno hle) hR.len hR.all ?_, h.mono (D7.mono hle2), rfl, ?_⟩
  ·intro e he
   obtain ⟨i, hi⟩ := List.getElem?_of_mem he
   have hlt : i < ks.length := by have := (List.getElem?_eq_some_iff.1 hi).1; rw [hR.len] at this; exact this
   obtain ⟨e', he', hr⟩ := hR.get (i := i) (t := ks[i]) (by simp [hlt])
   rw [hi] at he'; cases he'; exact hr.one
  ·intro b hb
   have h0 := hno b hb
   cases hg : G b with
   | none => simpa [D7, hg] using hin b hb
   | some l => rw [hle b l hg] at h0; cases h0
 ·rw [List.nodup_append]
  refine ⟨by cases p <;> simp [J9], hn, ?_⟩
  rintro x hx y hy rfl
  have h1 := h.inG x hy
  have h2 := hno x hx
  apply h1
  cases hd : D7 Gi G x with
  | none => rfl
  | some l => rw [D7.le _ _ x l hd] at h2; cases h2

def A0d (q : Nat → Bool) (n : Nat) : Int := match (List.range n).find? q with | some i => i | none => -1
theorem A52 {q : Nat → Bool} {n : Nat} (h : ∀ j, j < n → q j = false) : A0d q n = -1 := by
 have : (List.range n).find? q = none := by
  rw [List.find?_eq_none]
  intro x hx
  rw [h x (List.mem_range.1 hx)]; simp
 simp [A0d, this]
theorem A8e {q : Nat → Bool} {n i : Nat} (hi : i < n) (h : ∀ j, j < i → q j = false) (hq : q i = true) : A0d q n = i := by
 have : (List.range n).find? q = some i := by
  rw [List.find?_eq_some_iff_append]
  refine ⟨hq, List.range i, (List.range n).drop (i + 1), ?_, ?_⟩
  ·apply List.ext_getElem?
   intro k
   simp only [List.getElem?_append, List.length_range, List.getElem?_range', List.getElem?_cons, List.getElem?_drop]
   by_cases h1 : k < i
   ·simp [h1, show k < n by omega]
   ·by_cases h2 : k = i
    ·subst h2; simp [hi]
    ·have h3 : k - i ≠ 0 := by omega
     simp only [h1, if_false, h3]
     rw [show i + 1 + (k - i - 1) = k by omega]
  ·intro a ha
   simp [h a (List.mem_range.1 ha)]
 simp [A0d, this]

def U1 (n lo hi : Int) : Bool := decide (lo ≤ n ∧ n ≤ hi)
theorem A8f {n lo hi : Int} (h : U1 n lo hi = true) : lo ≤ n ∧ n ≤ hi := by simpa [U1] using h
theorem A8g {n lo hi : Int} (h : U1 n lo hi = false) : ¬(lo ≤ n ∧ n ≤ hi) := by simpa [U1] using h
def U2 (k : Int) : Int := if k = 1 ∨ k = 2 ∨ k = 3 then 0 else if k = 4 ∨ k = 5 then 2 else -1
theorem M8 (k : Int) : (k = 1 ∨ k = 2 ∨ k = 3 → U2 k = 0) ∧ (k = 4 ∨ k = 5 → U2 k = 2) ∧ (k ≠ 1 → k ≠ 2 → k ≠ 3 → k ≠ 4 → k ≠ 5 → U2 k = -1) := by
 unfold U2; split <;> try split
 all_goals omega
def F7 (k : Int) : Int := if k = 1 ∨ k = 2 ∨ k = 3 ∨ k = 4 then 0 else if k = 5 ∨ k = 11 ∨ k = 12 ∨ k = 13 ∨ k = 14 then 1 else if k = 6 ∨ k = 7 ∨ k = 8 ∨ k = 10 then 2 else if k = 9 then 3 else -1

mutual
def L8 : Ty → Int → Bool
 | .mk k ks, d => decide (d ≤ 4) && decide (U2 k = ks.length) && Y7 ks (d + 1)
def Y7 : List Ty → Int → Bool
 | [], _ => true
 | t :: ts, d => L8 t d && Y7 ts d
end
theorem A4H : ∀ (ts : List Ty) (d : Int), Y7 ts d = true ↔ ∀ i, (h : i < ts.length) → L8 ts[i] d = true
 | [], d => by simp [Y7]
 | t :: ts, d => by
  simp only [Y7, Bool.and_eq_true, A4H ts d]
  constructor
  ·rintro ⟨h1, h2⟩ i hi
   cases i with
   | zero => exact h1
   | succ i => exact h2 i (by simpa using hi)
  ·intro h
   exact ⟨h 0 zX, fun i hi => h (i + 1) (by simpa using hi)⟩
def M1 (t : Ty) : Bool := L8 t 1
def X2 (t : Ty) : Bool := decide (t.k = 0 ∧ t.ks.length = 0)

mutual
def O8 : Ty → Ty → Bool
 | .mk k ks, t => decide (k = 1) || decide (t.k = 1) || (decide (k = t.k) && T0 ks t.ks)
def T0 : List Ty → List Ty → Bool
 | [], [] => true
 | a :: xs, b :: ys => O8 a b && T0 xs ys
 | _, _ => false
end
theorem V1 (k k' : Int) (ks ks' : List Ty) : O8 (.mk k ks) (.mk k' ks') = (decide (k = 1) || decide (k' = 1) || (decide (k = k') && T0 ks ks')) := by rw [O8]; rfl
theorem A2u : ∀ (xs ys : List Ty), T0 xs ys = true ↔ xs.length = ys.length ∧ ∀ i, (h : i < xs.length) → (h' : i < ys.length) → O8 xs[i] ys[i] = true
 | [], [] => by simp [T0]
 | [], b :: ys => by simp [T0]
 | a :: xs, [] => by simp [T0]
 | a :: xs, b :: ys => by
  simp only [T0, Bool.and_eq_true, A2u xs ys, List.length_cons]
  constructor
  ·rintro ⟨h1, h2, h3⟩
   refine ⟨by omega, fun i hi hi' => ?_⟩
   cases i with
   | zero => exact h1
   | succ i => exact h3 i (by simpa using hi) (by simpa using hi')
  ·rintro ⟨h1, h2⟩
   exact ⟨h2 0 zX zX, by omega, fun i hi hi' => h2 (i + 1) (by simpa using hi) (by simpa using hi')⟩
def A0F (a b : Ty) : Bool := M1 a && M1 b && O8 a b
def X3 (s : ByteArray) : Bool := decide (s.size = 1 ∧ 97 ≤ (s.data.getD 0 0).toNat ∧ (s.data.getD 0 0).toNat ≤ 122)
def A0e (n : Int) : Bool := U1 n 1 99 || U1 n (-99) (-1)

theorem A4I {s : ByteArray} {j : Int} (h : j.toNat < s.size) : s[j.toNat]? = some (s.data.getD j.toNat 0) := by
 rw [getElem?_pos s j.toNat h]
 show some (s.data[j.toNat]'h) = _
 rw [Array.getD_eq_getD_getElem?, getElem?_pos s.data j.toNat h]
 rfl
theorem B20 {q : Nat → Bool} {n : Nat} : A0d q n < 0 ↔ ∀ j, j < n → q j = false := by
 constructor
 ·intro h j hj
  unfold A0d at h
  split at h
  ·omega
  ·rename_i hf
   have := List.find?_eq_none.1 hf j (List.mem_range.2 hj)
   simpa using this
 ·intro h; rw [A52 h]; omega
theorem A8h {q : Nat → Bool} {n : Nat} : 0 ≤ A0d q n ↔ ∃ j, j < n ∧ q j = true := by
 have h := @B20 q n
 constructor
 ·intro h0
  apply Classical.byContradiction
  intro hn
  have : A0d q n < 0 := h.2 fun j hj => by cases hq : q j with | false => rfl | true => exact absurd ⟨j, hj, hq⟩ hn
  omega
 ·rintro ⟨j, hj, hq⟩
  apply Classical.byContradiction
  intro hn
  rw [h.1 zW j hj] at hq
  exact absurd hq zX
theorem B21 {α : Type} (f : α → Bool) (ks : List α) (a : α) : decide (0 ≤ A0d (fun i => !f (ks.getD i a)) ks.length) = !ks.all f := by
 cases h : ks.all f with
 | true =>
  rw [List.all_eq_true] at h
  apply decide_eq_false
  rw [A8h]
  rintro ⟨j, hj, hq⟩
  rw [List.getD_eq_getElem?_getD, List.getElem?_eq_getElem hj, Option.getD_some, h _ (List.getElem_mem hj)] at hq
  exact absurd hq zX
 | false =>
  apply decide_eq_true
  rw [A8h]
  apply Classical.byContradiction
  intro hn
  have : ks.all f = true := by
   rw [List.all_eq_true]
   intro x hx
   obtain ⟨j, hj, rfl⟩ := List.getElem_of_mem hx
   cases hf : f ks[j] with
   | true => rfl
   | false => exact absurd ⟨j, hj, by rw [List.getD_eq_getElem?_getD, List.getElem?_eq_getElem hj, Option.getD_some, hf]; rfl⟩ hn
  rw [h] at this
  exact absurd this zX
theorem U3 : ∀ (ks : List Ty) (d : Int), Y7 ks d = ks.all (L8 · d)
 | [], d => rfl
 | t :: ts, d => by simp [Y7, U3 ts d]
theorem E9.inv {G : IM} : ∀ {ts : List Ty} {es : List (List Value)}, E9 G ts es → ∀ {i : Nat} {e : List Value}, es[i]? = some e → ∀ a, ts.getD i a ∈ ts ∧ B8 G (ts.getD i a) e
 | [], es, h, i, e, he, a => by
  have := h.len
  simp only [List.length_nil, List.length_eq_zero_iff] at this
  subst this; simp at he
 | t :: ts, es, h, i, e, he, a => by
  have hi : i < es.length := by
   apply Classical.byContradiction; intro hn; rw [List.getElem?_eq_none zW] at he; simp at he
  have hl := h.len
  obtain ⟨e', he', hr⟩ := h.get (i := i) (t := (t :: ts)[i]'zW) (by rw [List.getElem?_eq_getElem])
  rw [he] at he'
  obtain rfl := Option.some.inj he'
  rw [List.getD_eq_getElem?_getD, List.getElem?_eq_getElem zW, Option.getD_some]
  exact ⟨List.getElem_mem _, hr⟩
theorem H3.inv {G : IM} : ∀ {ts : List Tm} {es : List (List Value)}, H3 G ts es → ∀ {i : Nat} {e : List Value}, es[i]? = some e → ∀ a, ts.getD i a ∈ ts ∧ B6 G (ts.getD i a) e
 | [], es, h, i, e, he, a => by
  have := h.len
  simp only [List.length_nil, List.length_eq_zero_iff] at this
  subst this; simp at he
 | t :: ts, es, h, i, e, he, a => by
  have hi : i < es.length := by
   apply Classical.byContradiction; intro hn; rw [List.getElem?_eq_none zW] at he; simp at he
  have hl := h.len
  obtain ⟨e', he', hr⟩ := h.get (i := i) (t := (t :: ts)[i]'zW) (by rw [List.getElem?_eq_getElem])
  rw [he] at he'
  obtain rfl := Option.some.inj he'
  rw [List.getD_eq_getElem?_getD, List.getElem?_eq_getElem zW, Option.getD_some]
  exact ⟨List.getElem_mem _, hr⟩
def B4 : Ty := .mk 0 []
theorem B22 {p : Prop} [Decidable p] {x y : Bool} : ((if p then x else y) = true) ↔ ((p → x = true) ∧ (¬p → y = true)) := by by_cases h : p <;> simp [h]
theorem B23 {k : Int} (h : 1 ≤ k ∧ k ≤ 14) : ([Value.int .i64 0, .int .i64 0, .int .i64 0, .int .i64 0, .int .i64 1, .int .i64 2, .int .i64 2, .int .i64 2, .int .i64 3, .int .i64 2, .int .i64 1, .int .i64 1, .int .i64 1, .int .i64 1])[(k - 1).toNat]? = some (.int .i64 (F7 k)) := by
 have : k = 1 ∨ k = 2 ∨ k = 3 ∨ k = 4 ∨ k = 5 ∨ k = 6 ∨ k = 7 ∨ k = 8 ∨ k = 9 ∨ k = 10 ∨ k = 11 ∨ k = 12 ∨ k = 13 ∨ k = 14 := by omega
 rcases this with rfl | rfl | rfl | rfl | rfl | rfl | rfl | rfl | rfl | rfl | rfl | rfl | rfl | rfl <;> rfl
theorem A3L {k : Int} (h : ¬(1 ≤ k ∧ k ≤ 14)) : F7 k = -1 := by
 unfold F7; repeat (split; omega)
 rfl
theorem B24 {cs : List Value} {o : Nat} {v : Value} (h : cs[o]? = some v) : ∀ j u, [v][j]? = some u → cs[o + j]? = some u := by
 intro j u hj
 cases j with
 | zero => simpa using hj ▸ h
 | succ j => simp at hj
def T3 (k : Int) (nm : ByteArray) (num : Int) (ty fr : Ty) (lb : Int) (n : Nat) : Bool :=
 decide (F7 k = n) && (if k = 1 ∨ k = 5 then X3 nm else decide (nm = ⟨#[]⟩)) && (if k = 2 then U1 num 0 999 else U1 num 0 0) &&
 (if k = 5 ∨ k = 13 ∨ k = 14 then M1 ty else X2 ty) && (if k = 14 then A0F fr ty && A0e lb else X2 fr && decide (lb = 0))
theorem X4 {k : Int} {nm : ByteArray} {num : Int} {ty fr : Ty} {lb : Int} {n : Nat} : T3 k nm num ty fr lb n = true ↔
  F7 k = n ∧ (k = 1 ∨ k = 5 → X3 nm = true) ∧ (¬(k = 1 ∨ k = 5) → nm = ⟨#[]⟩) ∧ (k = 2 → U1 num 0 999 = true) ∧ (k ≠ 2 → U1 num 0 0 = true) ∧
  (k = 5 ∨ k = 13 ∨ k = 14 → M1 ty = true) ∧ (¬(k = 5 ∨ k = 13 ∨ k = 14) → X2 ty = true) ∧ (k = 14 → A0F fr ty = true ∧ A0e lb = true) ∧ (k ≠ 14 → X2 fr = true ∧ lb = 0) := by
 simp only [T3, Bool.and_eq_true, B22, decide_eq_true_eq, and_assoc, ne_eq]
mutual
def R3 (M D N : Int) : Tm → Int → Int → Bool × Int
 | .mk k nm num ty fr lb ks, deep, c => if c + 1 > M ∨ deep > D ∨ k = N ∨ T3 k nm num ty fr lb ks.length = false then (false, c + 1) else S1 M D N ks (deep + 1) (c + 1)
def S1 (M D N : Int) : List Tm → Int → Int → Bool × Int
 | [], _, c => (true, c)
 | t :: ts, deep, c => if (R3 M D N t deep c).1 = true then S1 M D N ts deep (R3 M D N t deep c).2 else (false, (R3 M D N t deep c).2)
end
mutual
theorem A8i (M D N : Int) : ∀ (t : Tm) (deep c : Int), 0 ≤ c → c ≤ M → c < (R3 M D N t deep c).2 ∧ (R3 M D N t deep c).2 ≤ M + 1 ∧ ((R3 M D N t deep c).1 = true → (R3 M D N t deep c).2 ≤ M)
 | .mk k nm num ty fr lb ks, deep, c, h0, h1 => by
  rw [R3]
  split
  ·simp; omega
  ·rename_i h
   have := A8j M D N ks (deep + 1) (c + 1) zW zW
   exact ⟨by omega, this.2⟩
theorem A8j (M D N : Int) : ∀ (ts : List Tm) (deep c : Int), 0 ≤ c → c ≤ M → c ≤ (S1 M D N ts deep c).2 ∧ (S1 M D N ts deep c).2 ≤ M + 1 ∧ ((S1 M D N ts deep c).1 = true → (S1 M D N ts deep c).2 ≤ M)
 | [], deep, c, h0, h1 => by rw [S1]; simp; omega
 | t :: ts, deep, c, h0, h1 => by
  have := A8i M D N t deep c h0 h1
  rw [S1]
  split
  ·rename_i h
   have h2 := A8j M D N ts deep (R3 M D N t deep c).2 zW (this.2.2 h)
   exact ⟨by omega, h2.2⟩
  ·simp; omega
end
def K2 (t : Tm) : Bool := (R3 200 40 13 t 1 0).1
def A0G (t : Tm) : Bool := (R3 30 12 14 t 1 0).1
theorem D0.kidTm {G : IM} {p : Option Addr} {n c : Nat} {es : List (List Value)} {ks : List Tm} (h : D0 G p n c 9 es) (hk : H3 G ks es) {i : Nat} (hi : i < n) (hn : i < ks.length) :
  ∃ b o e, p = some ⟨b, o, none⟩ ∧ e.length = 9 ∧ (∀ hp, At hp G b (o + i * 9) e) ∧ B6 G ks[i] e ∧ G b ≠ none := by
 obtain ⟨e, b, o, he, hp, hl, _, hat, hg⟩ := h.get hi
 have := (hk.inv he (ks[i])).2
 rw [List.getD_eq_getElem?_getD, List.getElem?_eq_getElem hn, Option.getD_some] at this
 exact ⟨b, o, e, hp, hl, hat, this, hg⟩
theorem A4J {M D N : Int} {k : Int} {nm : ByteArray} {num : Int} {ty fr : Ty} {lb : Int} {ks : List Tm} {deep c : Int} (h : c + 1 > M ∨ deep > D ∨ k = N ∨ T3 k nm num ty fr lb ks.length = false) :
  R3 M D N (.mk k nm num ty fr lb ks) deep c = (false, c + 1) := by rw [R3, if_pos h]
theorem B25 {M D N : Int} {k : Int} {nm : ByteArray} {num : Int} {ty fr : Ty} {lb : Int} {ks : List Tm} {deep c : Int} (h1 : ¬(c + 1 > M ∨ deep > D ∨ k = N)) (h2 : T3 k nm num ty fr lb ks.length = true) :
  R3 M D N (.mk k nm num ty fr lb ks) deep c = S1 M D N ks (deep + 1) (c + 1) := by
 rw [R3, if_neg]
 rw [h2]
 intro h
 apply h1
 rcases h with h | h | h | h
 ·exact .inl h
 ·exact .inr (.inl h)
 ·exact .inr (.inr h)
 ·cases h
theorem B26 {M D N : Int} {ks : List Tm} {i : Nat} {deep c : Int} (hi : i < ks.length) (h : (R3 M D N ks[i] deep c).1 = true) : S1 M D N (ks.drop i) deep c = S1 M D N (ks.drop (i + 1)) deep (R3 M D N ks[i] deep c).2 := by
 rw [List.drop_eq_getElem_cons hi, S1, if_pos h]
theorem B27 {M D N : Int} {ks : List Tm} {i : Nat} {deep c : Int} (hi : i < ks.length) (h : (R3 M D N ks[i] deep c).1 = false) : S1 M D N (ks.drop i) deep c = (false, (R3 M D N ks[i] deep c).2) := by
 rw [List.drop_eq_getElem_cons hi, S1, if_neg (by rw [h]; simp)]
theorem B28 {M D N : Int} {ks : List Tm} {i : Nat} {deep c : Int} (hi : i = ks.length) : S1 M D N (ks.drop i) deep c = (true, c) := by
 rw [hi, List.drop_length, S1]
section blk
variable {P : Program} {Γ : L3} {env : M0} {hp : List A6} {G : IM} {K : Po} {ops : Array Oper} {rest : List Oper}
end blk

theorem A53 : ∀ {A B C V : List Value} {o : Nat}, A.length = o → B.length = V.length → Q2 (A ++ (B ++ C)) o V = some (A ++ (V ++ C))
 | [], B, C, V, o, h, hv => by
  simp at h; subst h
  simp only [List.nil_append]
  induction B generalizing V with
  | nil => cases V with
   | nil => cases C <;> rfl
   | cons v V => simp at hv
  | cons b B ih => cases V with
   | nil => simp at hv
   | cons v V =>
    simp only [List.cons_append, Q2, ih (V := V) (by simpa using hv)]
 | a :: A, B, C, V, o, h, hv => by
  simp at h; subst h
  simp only [List.cons_append, Q2, A53 (A := A) (B := B) (C := C) rfl hv]
theorem A1E {sz : Nat} : ∀ {es : List (List Value)}, (∀ e ∈ es, e.length = sz) → es.flatten.length = es.length * sz
 | [], _ => by simp
 | e :: es, h => by
  rw [List.flatten_cons, List.length_append, h e List.mem_cons_self, A1E (es := es) fun x hx => h x (List.mem_cons_of_mem _ hx), List.length_cons, Nat.succ_mul]; omega
def A8k (G : IM) (ks : List Ty) (p : Option Addr) (c : Nat) (F : List Nat) : Prop := ∃ es Fs, D0 G p ks.length c 2 es ∧ M5 G ks es Fs ∧ F = J9 p ++ Fs ∧ (∀ b ∈ J9 p, G b ≠ none)
theorem P0.open {G : IM} {t : Ty} {cells : List Value} {F : List Nat} (h : P0 G t cells F) : ∃ p c, cells = [.int .i64 t.k, .slice p t.ks.length c] ∧ E8 t.k ∧ A8k G t.ks p c F := by
 cases t
 simp only [P0] at h
 obtain ⟨p, c, es, Fs, h0, hk, h1, h2, h3, h4⟩ := h
 exact ⟨p, c, h0, hk, es, Fs, h1, h2, h3, h4⟩
mutual
def Q4 (G : IM) : Tm → List Value → List Nat → Prop
 | .mk k nm num ty fr lb ks, cells, F => ∃ tc fc p c es Ft Ff Fs, cells = [.int .i64 k, .string nm, .int .i64 num] ++ tc ++ fc ++ [.int .i64 lb, .slice p ks.length c] ∧ E8 k ∧ E8 num ∧ E8 lb ∧ P0 G ty tc Ft ∧ P0 G fr fc Ff ∧
   D0 G p ks.length c 9 es ∧ O6 G ks es Fs ∧ F = Ft ++ (Ff ++ (J9 p ++ Fs)) ∧ (∀ b ∈ J9 p, G b ≠ none)
def O6 (G : IM) : List Tm → List (List Value) → List Nat → Prop
 | [], es, F => es = [] ∧ F = []
 | t :: ts, es, F => ∃ a r Fa Fr, es = a :: r ∧ Q4 G t a Fa ∧ O6 G ts r Fr ∧ F = Fa ++ Fr
end
def A3M (G : IM) (ks : List Tm) (p : Option Addr) (c : Nat) (F : List Nat) : Prop := ∃ es Fs, D0 G p ks.length c 9 es ∧ O6 G ks es Fs ∧ F = J9 p ++ Fs ∧ (∀ b ∈ J9 p, G b ≠ none)
mutual
theorem Q4.R {G : IM} : ∀ {t : Tm} {cells : List Value} {F : List Nat}, Q4 G t cells F → B6 G t cells
 | .mk k nm num ty fr lb ks, cells, F, h => by
  simp only [Q4] at h
  obtain ⟨tc, fc, p, c, es, Ft, Ff, Fs, h1, h2, h3, h4, h5, h6, h7, h8, _⟩ := h
  simp only [B6]
  exact ⟨tc, fc, p, c, es, h1, h2, h3, h4, h5.R, h6.R, h7, O6.R h8⟩
theorem O6.R {G : IM} : ∀ {ts : List Tm} {es : List (List Value)} {F : List Nat}, O6 G ts es F → H3 G ts es
 | [], es, F, h => by simp only [O6] at h; simp only [H3]; exact h.1
 | t :: ts, es, F, h => by
  simp only [O6] at h
  obtain ⟨a, r, Fa, Fr, h1, h2, h3, _⟩ := h
  simp only [H3]
  exact ⟨a, r, h1, Q4.R h2, O6.R h3⟩
end
theorem A54 {G G' : IM} (hg : C1 G G') {F : List Nat} (h : ∀ b ∈ F, G b ≠ none) : ∀ b ∈ F, G' b ≠ none := fun b hb => by
 cases hgb : G b with
 | none => exact absurd hgb (h b hb)
 | some l => rw [hg b l hgb]; simp
mutual
theorem Q4.mono {G G' : IM} (hg : C1 G G') : ∀ {t : Tm} {cells : List Value} {F : List Nat}, Q4 G t cells F → Q4 G' t cells F
 | .mk k nm num ty fr lb ks, cells, F, h => by
  simp only [Q4] at h ⊢
  obtain ⟨tc, fc, p, c, es, Ft, Ff, Fs, h1, h2, h3, h4, h5, h6, h7, h8, h9, h10⟩ := h
  exact ⟨tc, fc, p, c, es, Ft, Ff, Fs, h1, h2, h3, h4, h5.mono hg, h6.mono hg, h7.mono hg, O6.mono hg h8, h9, A54 hg h10⟩
theorem O6.mono {G G' : IM} (hg : C1 G G') : ∀ {ts : List Tm} {es : List (List Value)} {F : List Nat}, O6 G ts es F → O6 G' ts es F
 | [], es, F, h => by simpa only [O6] using h
 | t :: ts, es, F, h => by
  simp only [O6] at h ⊢
  obtain ⟨a, r, Fa, Fr, h1, h2, h3, h4⟩ := h
  exact ⟨a, r, Fa, Fr, h1, Q4.mono hg h2, O6.mono hg h3, h4⟩
end
mutual
theorem Q4.inG {G : IM} : ∀ {t : Tm} {cells : List Value} {F : List Nat}, Q4 G t cells F → ∀ b ∈ F, G b ≠ none
 | .mk k nm num ty fr lb ks, cells, F, h => by
  simp only [Q4] at h
  obtain ⟨tc, fc, p, c, es, Ft, Ff, Fs, h1, h2, h3, h4, h5, h6, h7, h8, rfl, h10⟩ := h
  intro b hb
  simp only [List.mem_append] at hb
  rcases hb with hb | hb | hb | hb
  ·exact h5.inG b hb
  ·exact h6.inG b hb
  ·exact h10 b hb
  ·exact O6.inG h8 b hb
theorem O6.inG {G : IM} : ∀ {ts : List Tm} {es : List (List Value)} {F : List Nat}, O6 G ts es F → ∀ b ∈ F, G b ≠ none
 | [], es, F, h => by simp only [O6] at h; rw [h.2]; simp
 | t :: ts, es, F, h => by
  simp only [O6] at h
  obtain ⟨a, r, Fa, Fr, h1, h2, h3, rfl⟩ := h
  intro b hb
  rcases List.mem_append.1 hb with hb | hb
  ·exact Q4.inG h2 b hb
  ·exact O6.inG h3 b hb
end
theorem O6.snoc {G : IM} : ∀ {ts : List Tm} {es : List (List Value)} {F : List Nat} {t : Tm} {a : List Value} {Fa : List Nat}, O6 G ts es F → Q4 G t a Fa → O6 G (ts ++ [t]) (es ++ [a]) (F ++ Fa)
 | [], es, F, t, a, Fa, h, h2 => by
  simp only [O6] at h
  obtain ⟨rfl, rfl⟩ := h
  simp only [List.nil_append, O6]
  exact ⟨a, [], Fa, [], rfl, h2, ⟨rfl, rfl⟩, by simp⟩
 | t' :: ts, es, F, t, a, Fa, h, h2 => by
  simp only [O6] at h
  obtain ⟨a', r, Fa', Fr, rfl, h3, h4, rfl⟩ := h
  simp only [List.cons_append, O6]
  exact ⟨a', r ++ [a], Fa', Fr ++ Fa, rfl, h3, O6.snoc h4 h2, by simp⟩
theorem A4K {G Gi : IM} {F F' : List Nat} {G1 : IM} (h : ∀ b ∈ F, D7 Gi G b ≠ none) (h' : ∀ b ∈ F', D7 G1 Gi b ≠ none) : ∀ x ∈ F, ∀ y ∈ F', x ≠ y := by
 rintro x hx y hy rfl
 have h1 := h x hx
 have h2 := D7.out (h' x hy)
 apply h1
 cases hd : D7 Gi G x with
 | none => rfl
 | some l => rw [D7.le _ _ x l hd] at h2; cases h2
theorem O6.step {G Gi G1 : IM} {ks : List Tm} {i : Nat} {es : List (List Value)} {F F' : List Nat} {a : List Value} (h : O6 (D7 Gi G) (ks.take i) es F) (hn : F.Nodup) (hle : C1 G Gi) (hle1 : C1 Gi G1) (hi : i < ks.length)
  (ha : Q4 (D7 G1 Gi) ks[i] a F') (hn' : F'.Nodup) : O6 (D7 G1 G) (ks.take (i + 1)) (es ++ [a]) (F ++ F') ∧ (F ++ F').Nodup := by
 constructor
 ·rw [List.take_succ_eq_append_getElem hi]
  exact O6.snoc (h.mono (D7.mono hle1)) (ha.mono (D7.anti hle))
 ·rw [List.nodup_append]
  exact ⟨hn, hn', A4K h.inG ha.inG⟩
theorem B29 (p : Option Addr) : (J9 p).Nodup := by cases p <;> simp [J9]
theorem A3M.fin {G Gi G2 : IM} {ks : List Tm} {es : List (List Value)} {F : List Nat} {p : Option Addr} {c : Nat} (h : O6 (D7 Gi G) ks es F) (hn : F.Nodup) (hle : C1 G Gi) (hle2 : C1 Gi G2)
  (hsl : Sl G2 p ks.length c 9 es.flatten) (hnn : ∀ b ∈ J9 p, Gi b = none ∧ G2 b ≠ none) :
  ∃ F', A3M (D7 G2 G) ks p c F' ∧ F'.Nodup := by
 have hR := h.R
 have hin : ∀ b ∈ J9 p, D7 G2 G b ≠ none := by
  intro b hb
  have h0 := (hnn b hb).1
  cases hg : G b with
  | none => simpa [D7, hg] using (hnn b hb).2
  | some l => rw [hle b l hg] at h0; cases h0
 refine ⟨J9 p ++ F, ⟨es, F, D0.of (hsl.dif (fun b hb => (hnn b hb).1) hle) hR.len hR.all ?_, h.mono (D7.mono hle2), rfl, hin⟩, ?_⟩
 ·intro e he
  obtain ⟨i, hi⟩ := List.getElem?_of_mem he
  have hlt : i < ks.length := by have := (List.getElem?_eq_some_iff.1 hi).1; rw [hR.len] at this; exact this
  obtain ⟨e', he', hr⟩ := hR.get (i := i) (t := ks[i]) (by simp [hlt])
  rw [hi] at he'; cases he'; exact hr.one
 ·rw [List.nodup_append]
  refine ⟨B29 p, hn, ?_⟩
  rintro x hx y hy rfl
  have h1 := h.inG x hy
  have h2 := (hnn x hx).1
  apply h1
  cases hd : D7 Gi G x with
  | none => rfl
  | some l => rw [D7.le _ _ x l hd] at h2; cases h2
theorem Q4.mk3 {G G1 G2 G3 : IM} {k : Int} {nm : ByteArray} {num : Int} {ty fr : Ty} {lb : Int} {ks : List Tm} {tc fc : List Value} {p : Option Addr} {c : Nat} {F1 F2 F3 : List Nat} (hk : E8 k) (hnum : E8 num) (hlb : E8 lb)
  (hl1 : C1 G G1) (hl2 : C1 G1 G2) (hl3 : C1 G2 G3) (h1 : P0 (D7 G1 G) ty tc F1) (n1 : F1.Nodup) (h2 : P0 (D7 G2 G1) fr fc F2) (n2 : F2.Nodup) (h3 : A3M (D7 G3 G2) ks p c F3) (n3 : F3.Nodup) :
  ∃ F, Q4 (D7 G3 G) (.mk k nm num ty fr lb ks) ([.int .i64 k, .string nm, .int .i64 num] ++ tc ++ fc ++ [.int .i64 lb, .slice p ks.length c]) F ∧ F.Nodup := by
 obtain ⟨es, Fs, e1, e2, rfl, e4⟩ := h3
 have i3 : ∀ b ∈ J9 p ++ Fs, D7 G3 G2 b ≠ none := by
  intro b hb
  rcases List.mem_append.1 hb with hb | hb
  ·exact e4 b hb
  ·exact e2.inG b hb
 have a2 : C1 (D7 G2 G1) (D7 G3 G) := fun b l h => D7.mono hl3 b l (D7.anti hl1 b l h)
 have a3 : C1 (D7 G3 G2) (D7 G3 G) := D7.anti (hl1.trans hl2)
 refine ⟨F1 ++ (F2 ++ (J9 p ++ Fs)), ?_, ?_⟩
 ·simp only [Q4]
  exact ⟨tc, fc, p, c, es, F1, F2, Fs, rfl, hk, hnum, hlb, h1.mono (D7.mono (hl2.trans hl3)), h2.mono a2, e1.mono a3, e2.mono a3, rfl, A54 a3 e4⟩
 ·rw [List.nodup_append, List.nodup_append]
  refine ⟨n1, ⟨n2, n3, A4K h2.inG i3⟩, ?_⟩
  rintro x hx y hy rfl
  rcases List.mem_append.1 hy with hy | hy
  ·exact A4K h1.inG h2.inG x hx x hy rfl
  ·have h1' : ∀ b ∈ F1, D7 G2 G b ≠ none := A54 (D7.mono hl2) h1.inG
   exact A4K h1' i3 x hx x hy rfl
section clawss
variable {P : Program} {Γ : L3} {env : M0} {hp : List A6} {G : IM} {ty : TypeId}
theorem A8l {x y : Operand} {t t' : TypeId} {m n : Nat} (hx : evo env x = some (.int .i64 (m : Int))) (hy : evo env y = some (.int .i64 (n : Int))) (hn : 0 < n) :
  I5 P Γ ⟨env, hp, G⟩ (.binOp .rem t x y t') ty (.int .i64 ((m % n : Nat) : Int)) := by
 have h := A4u (P := P) (Γ := Γ) (hp := hp) (G := G) (ty := ty) (t := t) (t' := t') hx hy zW
 rwa [show ((m : Int).tmod n) = ((m % n : Nat) : Int) from rfl] at h
theorem A8m {x y : Operand} {t t' : TypeId} {m n : Nat} (hx : evo env x = some (.int .i64 (m : Int))) (hy : evo env y = some (.int .i64 (n : Int))) (hn : 0 < n) (hm : m ≤ 9223372036854775807) :
  I5 P Γ ⟨env, hp, G⟩ (.binOp .quo t x y t') ty (.int .i64 ((m / n : Nat) : Int)) := by
 have hd : m / n ≤ m := Nat.div_le_self _ _
 have e : ((m : Int).tdiv n) = ((m / n : Nat) : Int) := rfl
 have h := B2p (P := P) (Γ := Γ) (hp := hp) (G := G) (ty := ty) (t := t) (t' := t') hx hy zW (by rw [e]; generalize m / n = q at *; omega) (by rw [e]; generalize m / n = q at *; omega)
 rwa [e] at h
end clawss
def dgi (k : Nat) : Int := 48 + ((k % 10 : Nat) : Int)
def A8n : Nat → Nat → ByteArray → ByteArray
 | 0, _, out => out
 | f + 1, k, out => if 0 < k then A8n f (k / 10) (strOfNums [dgi k] ++ out) else out
def B3a (k : Nat) : ByteArray := ⟨#[109]⟩ ++ A8n 20 k ⟨⟨[]⟩⟩
def ints (l : List Int) : List Value := l.map (Value.int .i64 ·)
mutual
def F4 : Tm → Nat
 | .mk _ _ _ _ _ _ ks => H4 ks + 1
def H4 : List Tm → Nat
 | [] => 0
 | t :: ts => F4 t + H4 ts
end
mutual
def A4L : Tm → List Int → List (List Int)
 | .mk _ _ _ _ _ _ ks, path => path :: A8o ks 0 path
def A8o : List Tm → Nat → List Int → List (List Int)
 | [], _, _ => []
 | t :: ts, i, path => A4L t (path ++ [(i : Int)]) ++ A8o ts (i + 1) path
end
theorem A4M : ∀ (a b : List Tm), H4 (a ++ b) = H4 a + H4 b
 | [], b => by simp [H4]
 | t :: a, b => by rw [List.cons_append, H4, H4, A4M a b]; omega
theorem A55 {ks : List Tm} {i : Nat} (hi : i < ks.length) : H4 (ks.take i) + F4 ks[i] ≤ H4 ks := by
 have h := A4M (ks.take (i + 1)) (ks.drop (i + 1))
 rw [List.take_append_drop, List.take_succ_eq_append_getElem hi, A4M] at h
 simp only [H4] at h
 omega
theorem A4N {ks : List Tm} {i : Nat} (hi : i < ks.length) : H4 (ks.take (i + 1)) = H4 (ks.take i) + F4 ks[i] := by
 rw [List.take_succ_eq_append_getElem hi, A4M]
 simp only [H4]; omega
theorem Sl.nn {G : IM} {p : Option Addr} {n c sz : Nat} {cs : List Value} (h : Sl G p n c sz cs) : p = none → n = 0 := by
 rintro rfl
 rcases h.2.2.2 with h | ⟨b, o, full, h, _⟩
 ·exact h
 ·cases h
def SPs (G : IM) : List (List Int) → List Value → List Nat → Prop
 | [], es, F => es = [] ∧ F = []
 | l :: ls, es, F => ∃ p c r Fr, es = .slice p l.length c :: r ∧ F = J9 p ++ Fr ∧ Sl G p l.length c 1 (ints l) ∧ (∀ b ∈ J9 p, G b ≠ none) ∧ (p = none → l.length = 0) ∧ SPs G ls r Fr
def RPs (G : IM) (ls : List (List Int)) (p : Option Addr) (c : Nat) : Prop := ∃ es F, Sl G p ls.length c 1 es ∧ (∀ b ∈ J9 p, G b ≠ none) ∧ SPs G ls es F ∧ (J9 p ++ F).Nodup
mutual
theorem A8p (M D N : Int) : ∀ (t : Tm) (deep c : Int), (R3 M D N t deep c).1 = true → (R3 M D N t deep c).2 = c + F4 t
 | .mk k nm num ty fr lb ks, deep, c, h => by
  rw [R3] at h ⊢
  split at h
  ·cases h
  ·rename_i hc
   rw [if_neg hc, A8q M D N ks (deep + 1) (c + 1) h, F4]
   omega
theorem A8q (M D N : Int) : ∀ (ts : List Tm) (deep c : Int), (S1 M D N ts deep c).1 = true → (S1 M D N ts deep c).2 = c + H4 ts
 | [], deep, c, h => by rw [S1, H4]; simp
 | t :: ts, deep, c, h => by
  rw [S1] at h ⊢
  split at h
  ·rename_i h1
   rw [if_pos h1, A8q M D N ts deep _ h, A8p M D N t deep c h1, H4]
   omega
  ·cases h
end
def B3b (t : Tm) : List (List Int) := if K2 t = true then A4L t [] else []
section slaws
variable {P : Program} {Γ : L3} {env : M0} {hp : List A6} {G : IM} {ty : TypeId}
end slaws
theorem Sl.kid {G : IM} {p : Option Addr} {n c : Nat} {cs : List Value} (h : Sl G p n c 1 cs) {i : Nat} (hi : i < n) :
  ∃ b o v, p = some ⟨b, o, none⟩ ∧ cs[i]? = some v ∧ (∀ hp, At hp G b (o + i * 1) [v]) ∧ G b ≠ none := by
 obtain ⟨h1, h2, h3, h4⟩ := h
 obtain ⟨b, o, full, rfl, hg, hv⟩ := h4.resolve_left zW
 have hlt : i < cs.length := by omega
 refine ⟨b, o, cs[i], rfl, List.getElem?_eq_getElem hlt, fun hp => A4v hg ?_, by rw [hg]; simp⟩
 intro j v hj
 cases j with
 | zero => simp at hj; subst hj; simpa using hv i _ (List.getElem?_eq_getElem hlt)
 | succ j => simp at hj
theorem Sl.le {G : IM} {p : Option Addr} {n c sz : Nat} {cs : List Value} (h : Sl G p n c sz cs) : n ≤ 9223372036854775807 := by
 have h1 := h.2.1; have h2 := h.2.2.1; unfold maxLen at h2; omega


abbrev A03 := List (Nat × List Value)

mutual
def OTy : Ty → List Value → A03 → Prop
 | .mk k ks, cells, bs => ∃ p c, cells = [.int .i64 k, .slice p ks.length c] ∧ E8 k ∧ ks.length ≤ c ∧ c ≤ maxLen ∧ ((ks = [] ∧ bs = []) ∨ ∃ b A C es r, p = some ⟨b, A.length, none⟩ ∧ bs = (b, A ++ (es.flatten ++ C)) :: r ∧ A56 ks es r)
def A56 : List Ty → List (List Value) → A03 → Prop
 | [], es, bs => es = [] ∧ bs = []
 | t :: ts, es, bs => ∃ e e' r1 r2, es = e :: e' ∧ bs = r1 ++ r2 ∧ OTy t e r1 ∧ A56 ts e' r2
end
def A8r (ks : List Ty) (p : Option Addr) (c : Nat) (bs : A03) : Prop :=
 ks.length ≤ c ∧ c ≤ maxLen ∧ ((ks = [] ∧ bs = []) ∨ ∃ b A C es r, p = some ⟨b, A.length, none⟩ ∧ bs = (b, A ++ (es.flatten ++ C)) :: r ∧ A56 ks es r)
mutual
def OTm : Tm → List Value → A03 → Prop
 | .mk k nm num ty fr lb ks, cells, bs => ∃ tc fc p c bt bf bk, cells = [.int .i64 k, .string nm, .int .i64 num] ++ tc ++ fc ++ [.int .i64 lb, .slice p ks.length c] ∧ E8 k ∧ E8 num ∧ E8 lb ∧ OTy ty tc bt ∧ OTy fr fc bf ∧
   ks.length ≤ c ∧ c ≤ maxLen ∧ ((ks = [] ∧ bk = []) ∨ ∃ b A C es r, p = some ⟨b, A.length, none⟩ ∧ bk = (b, A ++ (es.flatten ++ C)) :: r ∧ A57 ks es r) ∧ bs = bt ++ (bf ++ bk)
def A57 : List Tm → List (List Value) → A03 → Prop
 | [], es, bs => es = [] ∧ bs = []
 | t :: ts, es, bs => ∃ e e' r1 r2, es = e :: e' ∧ bs = r1 ++ r2 ∧ OTm t e r1 ∧ A57 ts e' r2
end
def B3c (ks : List Tm) (p : Option Addr) (c : Nat) (bs : A03) : Prop :=
 ks.length ≤ c ∧ c ≤ maxLen ∧ ((ks = [] ∧ bs = []) ∨ ∃ b A C es r, p = some ⟨b, A.length, none⟩ ∧ bs = (b, A ++ (es.flatten ++ C)) :: r ∧ A57 ks es r)
mutual
def A8s : Ty → Int
 | .mk _ ks => 1 + Y8 ks
def Y8 : List Ty → Int
 | [] => 0
 | t :: ts => A8s t + Y8 ts
end
mutual
def B3d : Ty → Int → Ty
 | .mk _ ks, k => .mk k (A1W ks (k + 1))
def A1W : List Ty → Int → List Ty
 | [], _ => []
 | t :: ts, k => B3d t k :: A1W ts (k + A8s t)
end
mutual
def A8t : Tm → Int
 | .mk _ _ _ ty fr _ ks => 6 + Y8 ty.ks + Y8 fr.ks + A8u ks
def A8u : List Tm → Int
 | [] => 0
 | t :: ts => A8t t + A8u ts
end
mutual
def B3e : Tm → Int → Tm
 | .mk _ _ _ ty fr _ ks, k => .mk k (B3a (k + 1).toNat) (k + 1 + 1) (.mk (k + 1 + 1 + 1) (A1W ty.ks (k + 1 + 1 + 1 + 1))) (.mk (k + 1 + 1 + 1 + 1 + Y8 ty.ks) (A1W fr.ks (k + 1 + 1 + 1 + 1 + Y8 ty.ks + 1))) (k + 1 + 1 + 1 + 1 + Y8 ty.ks + 1 + Y8 fr.ks) (A4O ks (k + 1 + 1 + 1 + 1 + Y8 ty.ks + 1 + Y8 fr.ks + 1))
def A4O : List Tm → Int → List Tm
 | [], _ => []
 | t :: ts, k => B3e t k :: A4O ts (k + A8t t)
end
theorem A8v : ∀ {X e e' Y vs : List Value} {o : Nat}, Q2 e o vs = some e' → Q2 (X ++ (e ++ Y)) (X.length + o) vs = some (X ++ (e' ++ Y))
 | [], e, e', Y, vs, o, h => by
  obtain ⟨h1, h2⟩ := A3G h
  simp only [List.nil_append, List.length_nil, Nat.zero_add]
  have := A53 (A := e.take o) (B := (e.drop o).take vs.length) (C := (e.drop o).drop vs.length ++ Y) (V := vs) (o := o) (by simp; omega) (by simp; omega)
  rw [show e.take o ++ ((e.drop o).take vs.length ++ ((e.drop o).drop vs.length ++ Y)) = e ++ Y from by
   rw [← List.append_assoc ((e.drop o).take vs.length), List.take_append_drop, ← List.append_assoc, List.take_append_drop]] at this
  rw [this, h1, List.drop_drop]
  simp
 | x :: X, e, e', Y, vs, o, h => by
  have := A8v (X := X) (Y := Y) h
  rw [List.length_cons, show X.length + 1 + o = (X.length + o) + 1 by omega]
  simp only [List.cons_append, Q2, this]
theorem B3f {A : List Value} {D : List (List Value)} {e e' R vs : List Value} {i sz off : Nat} (hD : D.length = i) (ha : ∀ x ∈ D, x.length = sz) (he : Q2 e off vs = some e') :
  Q2 (A ++ (D.flatten ++ (e ++ R))) (A.length + i * sz + off) vs = some (A ++ (D.flatten ++ (e' ++ R))) := by
 have := A8v (X := A ++ D.flatten) (Y := R) he
 rw [List.length_append, A1E ha, hD, List.append_assoc, List.append_assoc] at this
 exact this
section lend
variable {P : Program} {Γ : L3} {env : M0} {hp : List A6} {G : IM} {K : Po} {ops : Array Oper} {rest : List Oper} {ty : TypeId} {pos : String} {af : Array Edge} {gd : Option (Nat × Bool)}
def B8p (v0 : Value) (G : IM) (Φ : A03 → Prop) : IM → Value → List A6 → Prop := fun G' v outs => G' = G ∧ v = v0 ∧ ∃ bs', outs = A0E bs' ∧ Φ bs'
end lend
def MTm (t : Tm) (k : Int) (cells : List Value) (bs : A03) : Prop := ∃ pt ct pf cf p c bt bf bk,
 cells = [.int .i64 t.k, .string t.nm, .int .i64 t.num, .int .i64 t.ty.k, .slice pt t.ty.ks.length ct, .int .i64 t.fr.k, .slice pf t.fr.ks.length cf, .int .i64 t.lb, .slice p t.ks.length c] ∧
 A8r (A1W t.ty.ks k) pt ct bt ∧ A8r (A1W t.fr.ks (k + Y8 t.ty.ks)) pf cf bf ∧ B3c (A4O t.ks (k + Y8 t.ty.ks + Y8 t.fr.ks)) p c bk ∧ bs = bt ++ (bf ++ bk)
def A8w : Nat → Int → List Int
 | 0, _ => []
 | n + 1, k => k :: A8w n (k + 1)
def OIs (l : List Int) (p : Option Addr) (c : Nat) (bs : A03) : Prop :=
 l.length ≤ c ∧ c ≤ maxLen ∧ ((l = [] ∧ bs = []) ∨ ∃ b A C, p = some ⟨b, A.length, none⟩ ∧ bs = [(b, A ++ (ints l ++ C))])
def OPs : List (List Int) → List Value → A03 → Prop
 | [], es, bs => es = [] ∧ bs = []
 | l :: ls, es, bs => ∃ p c e' r1 r2, es = .slice p l.length c :: e' ∧ bs = r1 ++ r2 ∧ OIs l p c r1 ∧ OPs ls e' r2
def B3g : List (List Int) → Int
 | [] => 0
 | l :: ls => l.length + B3g ls
def B3h : List (List Int) → Int → List (List Int)
 | [], _ => []
 | l :: ls, k => A8w l.length k :: B3h ls (k + l.length)
section lend0
variable {P : Program} {Γ : L3} {env : M0} {G : IM} {K : Po} {ops : Array Oper} {rest : List Oper} {ty : TypeId} {pos : String} {af : Array Edge} {gd : Option (Nat × Bool)}
end lend0
def QPs (G : IM) : List (List Int) → List Value → Prop
 | [], es => es = []
 | l :: ls, es => ∃ p c r, es = .slice p l.length c :: r ∧ Sl G p l.length c 1 (ints l) ∧ QPs G ls r
mutual
def H6 : Ty → Int
 | .mk _ ks => ks.length + L5 ks
def L5 : List Ty → Int
 | [] => 0
 | t :: ts => H6 t + L5 ts
end
mutual
def A0f : Tm → Int
 | .mk _ nm _ ty fr _ ks => nm.size + H6 ty + H6 fr + (ks.length + W4 ks)
def W4 : List Tm → Int
 | [] => 0
 | t :: ts => A0f t + W4 ts
end
mutual
theorem A0g : ∀ t : Ty, 0 ≤ H6 t
 | .mk _ ks => by have := A1c ks; rw [H6]; omega
theorem A1c : ∀ ts : List Ty, 0 ≤ L5 ts
 | [] => by rw [L5]; omega
 | t :: ts => by have := A0g t; have := A1c ts; rw [L5]; omega
end
mutual
theorem A8x : ∀ t : Tm, 0 ≤ A0f t
 | .mk _ _ _ ty fr _ ks => by have := A4P ks; have := A0g ty; have := A0g fr; rw [A0f]; omega
theorem A4P : ∀ ts : List Tm, 0 ≤ W4 ts
 | [] => by rw [W4]; omega
 | t :: ts => by have := A8x t; have := A4P ts; rw [W4]; omega
end
theorem A58 : ∀ a b : List Ty, L5 (a ++ b) = L5 a + L5 b
 | [], b => by simp [L5]
 | t :: a, b => by rw [List.cons_append, L5, L5, A58 a b]; omega
theorem A3N {ks : List Ty} {i : Nat} (hi : i < ks.length) : L5 (ks.take (i + 1)) = L5 (ks.take i) + H6 ks[i] := by
 rw [List.take_succ_eq_append_getElem hi, A58, L5, L5]; omega
theorem A4Q (ks : List Ty) (i : Nat) : L5 (ks.take i) ≤ L5 ks := by
 have h := A58 (ks.take i) (ks.drop i)
 rw [List.take_append_drop] at h
 have := A1c (ks.drop i); omega
mutual
def Tm.nok : Tm → Prop
 | .mk _ nm _ _ _ _ ks => nm.size ≤ 9223372036854775807 ∧ Tm.nokL ks
def Tm.nokL : List Tm → Prop
 | [] => True
 | t :: ts => t.nok ∧ Tm.nokL ts
end
def B8q (left s : Int) : Int := if s ≤ left then left - s else -1
end Gw
end Go.Proofs.YtmceanphadildaaGreatDoor
namespace Go.Proofs.YtmceanphadildaaGreatDoor
open Go Go.RowKit Go.ChangeShapes Go.WideShapes Go.ChangeAt
namespace Gw
def GW (w : World) : IM := fun b => match w.heap[b]? with
 | some (.cells c _ _) => some c.toList
 | _ => none
theorem B3i (w : World) : R6 [] (GW w) w := by
 refine ⟨?_, by simp, by simp [Fp], by simp [Fp]⟩
 intro b l h
 unfold GW at h
 split at h
 ·rename_i c e f hb; cases h; exact ⟨e, f, by simpa using hb⟩
 ·cases h
theorem A8y {w : World} {b o : Nat} {v : Value} (h : w.cell? ⟨b, o, none⟩ = some v) : ∃ full, GW w b = some full ∧ full[o]? = some v := by
 unfold World.cell? at h
 simp only at h
 split at h
 ·rename_i c e f hb
  exact ⟨c.toList, by simp [GW, hb], by simpa using h⟩
 ·cases h
theorem A8z {sz : Nat} : ∀ {es : List (List Value)}, (∀ e ∈ es, e.length = sz) → ∀ {j : Nat} {v : Value}, es.flatten[j]? = some v → ∃ i e r, es[i]? = some e ∧ e[r]? = some v ∧ j = i * sz + r
 | [], _, j, v, h => by simp at h
 | a :: es, hall, j, v, h => by
  have ha := hall a List.mem_cons_self
  rw [List.flatten_cons, List.getElem?_append] at h
  split at h
  ·exact ⟨0, a, j, rfl, h, by simp⟩
  ·rename_i hj
   obtain ⟨i, e, r, h1, h2, h3⟩ := A8z (fun x hx => hall x (List.mem_cons_of_mem _ hx)) h
   exact ⟨i + 1, e, r, by simpa using h1, h2, by rw [Nat.succ_mul]; omega⟩
theorem B3j {w : World} {a : Addr} {n c sz : Nat} {es : List (List Value)} (hl : es.length = n) (hsz : 0 < sz) (hc : n ≤ c) (hm : c ≤ maxLen) (h : ∀ i e, es[i]? = some e → w.cells? 0 (a.add (i * sz)) sz = some e) : Sl (GW w) (some a) n c sz es.flatten := by
 have hall : ∀ e ∈ es, e.length = sz := by
  intro e he
  obtain ⟨i, hi⟩ := List.getElem?_of_mem he
  exact (World.cells?_some (h i e hi)).2.1
 refine ⟨by rw [A1E hall, hl], hc, hm, ?_⟩
 rcases Nat.eq_zero_or_pos n with h0 | h0
 ·exact .inl h0
 ·right
  obtain ⟨b, o, s⟩ := a
  have hs : s = none := by
   have h1 := (World.cells?_some (h 0 es[0] (List.getElem?_eq_getElem zW))).2
   have h2 := h1.2 0 hsz
   rw [List.getElem?_eq_getElem zW] at h2
   simp only [Nat.zero_mul, Addr.add, if_true] at h2
   unfold World.cell? at h2
   split at h2
   ·split at h2
    ·cases h2
    ·rename_i hn; cases s with
     | none => rfl
     | some x => simp at hn
   ·cases h2
  subst hs
  have key : ∀ j v, es.flatten[j]? = some v → w.cell? ⟨b, o + j, none⟩ = some v := by
   intro j v hj
   obtain ⟨i, e, r, h1, h2, rfl⟩ := A8z hall hj
   have h3 := (World.cells?_some (h i e h1)).2
   have hr : r < e.length := (List.getElem?_eq_some_iff.1 h2).1
   have h4 := h3.2 r zW
   rw [h2, A2R, A2R] at h4
   rw [← Nat.add_assoc]; exact h4
  have hpos : 0 < es.flatten.length := by rw [A1E hall, hl]; exact Nat.mul_pos h0 hsz
  obtain ⟨full, hg, _⟩ := A8y (key 0 es.flatten[0] (List.getElem?_eq_getElem hpos))
  refine ⟨b, o, full, rfl, hg, fun j v hj => ?_⟩
  obtain ⟨full', hg', hv⟩ := A8y (key j v hj)
  rw [hg] at hg'; cases hg'; exact hv
theorem E9.snoc {G : IM} : ∀ {ts : List Ty} {es : List (List Value)} {t : Ty} {e : List Value}, E9 G ts es → B8 G t e → E9 G (ts ++ [t]) (es ++ [e])
 | [], es, t, e, h, h2 => by
  simp only [E9] at h; subst h
  simp only [List.nil_append, E9]
  exact ⟨e, [], rfl, h2, rfl⟩
 | t' :: ts, es, t, e, h, h2 => by
  simp only [E9] at h
  obtain ⟨a, r, rfl, h3, h4⟩ := h
  simp only [List.cons_append, E9]
  exact ⟨a, r ++ [e], rfl, h3, E9.snoc h4 h2⟩
theorem H3.snoc {G : IM} : ∀ {ts : List Tm} {es : List (List Value)} {t : Tm} {e : List Value}, H3 G ts es → B6 G t e → H3 G (ts ++ [t]) (es ++ [e])
 | [], es, t, e, h, h2 => by
  simp only [H3] at h; subst h
  simp only [List.nil_append, H3]
  exact ⟨e, [], rfl, h2, rfl⟩
 | t' :: ts, es, t, e, h, h2 => by
  simp only [H3] at h
  obtain ⟨a, r, rfl, h3, h4⟩ := h
  simp only [List.cons_append, H3]
  exact ⟨a, r ++ [e], rfl, h3, H3.snoc h4 h2⟩
theorem E9.each {G : IM} {ts : List Ty} {es : List (List Value)} (h : E9 G ts es) : ∀ e ∈ es, e.length = 2 ∧ e.all (·.oneCell') = true := by
 intro e he
 obtain ⟨i, hi⟩ := List.getElem?_of_mem he
 have := (h.inv hi B4).2
 exact ⟨this.len, this.one⟩
theorem H3.each {G : IM} {ts : List Tm} {es : List (List Value)} (h : H3 G ts es) : ∀ e ∈ es, e.length = 9 ∧ e.all (·.oneCell') = true := by
 intro e he
 obtain ⟨i, hi⟩ := List.getElem?_of_mem he
 have := (h.inv hi (.mk 0 ⟨#[]⟩ 0 B4 B4 0 [])).2
 exact ⟨this.len, this.one⟩
section read
variable {H : Type} {enc : TypeId × Value → H} {w : World} {sp : Nat → Bool} {held : Bool}
end read
theorem Ext.below {w w' : World} (h : Ext (Fp []) w w') : Below w.heap.size w w' := ⟨h.os, h.tape, h.output, h.size, fun k hk => h.block k hk (by simp [Fp])⟩
section post
variable {H : Type} {enc : TypeId × Value → H} {P : Program}
theorem B3k {f : Func} {s : ChangeSpec} {apart fresh handsOn again : Bool} {W W' : World} {args : Array Value} {v : Value} {ds gs : List (DataW H)} {before : List MemPlace}
  (hW : DataW.Whole enc P f.params.toList s.vars apart W args.toList ds gs before) (hb : Below W.heap.size W W') (hgs : s.vars = [])
  (hres : ∀ (b : Nat) (sp : Nat → Bool) (hd : Bool), DataW.TrodAll enc P W' b sp hd f.resultTypes.toList (v.resultList f.resultTypes.size) (s.fn H (ds ++ gs)).results [])
  (hargs : ∀ sp : Nat → Bool, (∀ p ∈ before, sp p.block = true) → DataW.TrodAll enc P W' 0 sp true f.params.toList args.toList (s.fn H (ds ++ gs)).args before)
  (hv : (s.fn H (ds ++ gs)).vars = [])
  (hok : ∀ (j : Nat) (t : TypeId) (r : Value), f.resultTypes[j]? = some t → (v.resultList f.resultTypes.size)[j]? = some r → Value.okWide P W' .any 0 t r) :
  s.post enc P f apart fresh handsOn again W args v W' := by
 have hold : ∀ p ∈ before, (fun b => decide (b < W.heap.size)) p.block = true := fun p hp => by simpa using hW.lt p hp
 have hvars : ∀ sp : Nat → Bool, DataW.TrodVars enc P W' sp s.vars (s.fn H (ds ++ gs)).vars [] := fun sp => by rw [hgs, hv]; rfl
 have hkept : W.keptBut W' (fun _ => False) := by
  refine ⟨hb.os, hb.output, fun i hi => ?_⟩
  rw [hb.block i hi]
  split
  ·rename_i h1 h2; cases h1.symm.trans h2; exact ⟨rfl, rfl, rfl, fun _ _ => rfl⟩
  ·rename_i h1 h2; cases h1.symm.trans h2; exact .inr ⟨rfl, rfl⟩
  ·rfl
 refine ⟨ds, gs, before, [], before, [], hW, hres _ _ _, hargs _ hold, hvars _, World.keptBut_mono (fun p hp => hp.elim) hkept, fun _ => ?_⟩
 obtain ⟨_, _, _, _, _, hz, hn⟩ := hW
 refine ⟨hok, _, _, ([] ++ before) ++ [], ⟨[] ++ before, [], trodAll_append (hargs _ (fun _ _ => rfl)) (hres _ _ _), hvars _, rfl, ?_, ?_⟩, ?_⟩
 ·intro b off hp
  have hp' : MemPlace.cell b off ∈ before := by simpa using hp
  have hlt : b < W.heap.size := of_decide_eq_true (hold _ hp')
  have := hz b off hp'
  unfold World.frozen? at this ⊢
  simp only [hb.block b hlt]
  exact this
 ·intro ha; simpa using hn ha
 ·intro p hp _; simpa using hp
end post
def A1d (G : IM) : Prop := ∃ g, Tryz.prog.globalNamed "internal/strconv.uint64pow10" = some g ∧ G g = some (Lib.pow10Tab.map fun z => Value.int .u64 z)
theorem A1d.mono {G G' : IM} (h : A1d G) (hg : C1 G G') : A1d G' := by
 obtain ⟨g, h1, h2⟩ := h
 exact ⟨g, h1, hg g _ h2⟩
theorem B3l {G : IM} {w : World} (hw : R6 [] G w) (k : Nat) (os : Array Obj) : P7 [] G w [] G (Sort.grow (w.drewN k) os) := by
 have hb : ∀ b, b < w.heap.size → (Sort.grow (w.drewN k) os).heap[b]? = w.heap[b]? := by
  intro b h
  show (w.heap ++ os)[b]? = _
  rw [Array.getElem?_append_left h]
 refine ⟨⟨?_, by simp, by simp [Fp], by simp [Fp]⟩, ⟨rfl, rfl, rfl, ?_, fun b h _ => hb b h⟩, C1.refl _, fun _ _ h => .inl h, by simp [Fp], fun b l h h0 => absurd h (by rw [h0]; simp)⟩
 ·intro b l h
  obtain ⟨e, f, hh⟩ := hw.inn b l h
  exact ⟨e, f, by rw [hb b (A0S hh)]; exact hh⟩
 ·show w.heap.size ≤ (w.heap ++ os).size
  simp
theorem B3m (n : Int) (G : IM) (h : A1d G) (h0 : 0 ≤ n) (h1 : n ≤ 999) : Fn Tryz.prog 124 [.int .i64 n] [] G (J5 (.string ⟨(Lib.decDigits n.toNat).toArray⟩) G) := by
 refine ⟨fun w hw => ?_⟩
 have ht : Lib.TabIs Tryz.prog w "internal/strconv.uint64pow10" .u64 Lib.pow10Tab := by
  obtain ⟨g, hg, hG⟩ := h
  obtain ⟨e, f, hh⟩ := hw.inn g _ hG
  unfold Lib.TabIs World.var?
  rw [hg]
  simp only [Option.bind_some, hh]
 refine (Tryz.strconv_Itoa n zW zW w ht).mono ?_
 rintro e w' ⟨rfl, k, os, rfl⟩
 refine ⟨_, G, [], rfl, B3l hw k os, rfl, ?_, rfl⟩
 unfold Lib.itoa
 rw [if_neg zW]
end Gw
end Go.Proofs.YtmceanphadildaaGreatDoor
namespace Go.Proofs.YtmceanphadildaaGreatDoor
open Go Go.RowKit Go.ChangeShapes Go.WideShapes Go.ChangeAt
namespace Gw
theorem A59 : Tryz.prog.globalNamed "internal/strconv.uint64pow10" = some 0 := by kernel_rfl
theorem B3n : (Tryz.prog.globals[0]?).map (·.type) = some 201 := by kernel_rfl
theorem B3o : Tryz.prog.cellsOf 201 = 20 := by kernel_rfl
theorem B3p : Tryz.prog.cellsOf 194 = 1 := by kernel_rfl
def A8A : List (String × DataW Unit) := [("math/bits.deBruijn32tab", Rows.laid_math_bits_deBruijn32tab), ("math/bits.deBruijn64tab", Rows.laid_math_bits_deBruijn64tab), ("internal/strconv.uint64pow10", Rows.laid_internal_strconv_uint64pow10)]
theorem B3q {W : World} (h : laidMetH Tryz.prog A8A W) : A1d (GW W) := by
 have h1 : laidMet Tryz.prog A8A W := h
 have h3 := h1.tail.tail
 have ht : Lib.TabIs Tryz.prog W "internal/strconv.uint64pow10" .u64 Lib.pow10Tab :=
  Lib.tabIs_of_head (rest := []) A59 B3n Tryz.underlying201 Tryz.underlying194 B3p B3o h3
 refine ⟨0, A59, ?_⟩
 unfold Lib.TabIs World.var? at ht
 rw [A59] at ht
 simp only [Option.bind_some] at ht
 unfold GW
 split at ht
 ·rename_i c e f hb
  rw [hb]
  have := Option.some.inj ht
  simp [this]
 ·cases ht
def A6a : DataW Unit → Array Value
 | .agg xs => (xs.map fun | .lit (.int k n) => Value.int k n | _ => .int .i64 0).toArray
 | _ => #[]
def A6b (xs : Array Value) : Obj → Obj
 | .cells _ t f => .cells xs t f
 | o => o
noncomputable def A6c (os : Os) : World :=
 { World.holding Tryz.prog os ⟨#[], #[], []⟩ with heap := (((World.holding Tryz.prog os ⟨#[], #[], []⟩).heap.modify 0 (A6b (A6a Rows.laid_internal_strconv_uint64pow10))).modify 1 (A6b (A6a Rows.laid_math_bits_deBruijn32tab))).modify 2 (A6b (A6a Rows.laid_math_bits_deBruijn64tab)) }
end Gw
end Go.Proofs.YtmceanphadildaaGreatDoor
namespace Go.Proofs.YtmceanphadildaaGreatDoor
open Go Go.RowKit Go.ChangeShapes Go.WideShapes Go.ChangeAt
namespace Gw
section read2
variable {H : Type} {enc : TypeId × Value → H} {w : World} {sp : Nat → Bool} {held : Bool}
end read2
section rlaws
variable {P : Program} {Γ : L3} {env : M0} {hp : List A6} {G : IM} {ty : TypeId}
theorem B3r {m n : Nat} (hm : m < 4611686018427387904) (hn : n < 4611686018427387904) : m ^^^ n < 4611686018427387904 := by
 have := @Nat.xor_lt_two_pow m n 62 zW zW
 simpa using this
theorem B3s {x y : Operand} {t t' : TypeId} {m n : Nat} (hx : evo env x = some (.int .i64 (m : Int))) (hy : evo env y = some (.int .i64 (n : Int))) (hm : m < 4611686018427387904) (hn : n < 4611686018427387904) :
  I5 P Γ ⟨env, hp, G⟩ (.binOp .xor t x y t') ty (.int .i64 ((m ^^^ n : Nat) : Int)) := by
 refine ⟨fun a _ hs _ _ _ _ w => ?_⟩
 have hlt := B3r hm hn
 have e : (BitVec.ofInt 64 (m : Int) ^^^ BitVec.ofInt 64 (n : Int)).toNat = m ^^^ n := by
  rw [BitVec.toNat_xor, BitVec.toNat_ofInt, BitVec.toNat_ofInt]
  congr 1 <;> omega
 have hw : IntKind.i64.wrap (((BitVec.ofInt 64 (m : Int) ^^^ BitVec.ofInt 64 (n : Int)).toNat : Nat) : Int) = ((m ^^^ n : Nat) : Int) := by
  rw [e]; exact A2n _ rfl zW zW
 simp only [execOp, eqGuard, binOp, Op.intBits, (hs.evo hx : a.eval x = _), (hs.evo hy : a.eval y = _), ne_eq, not_true_eq_false, if_false, Sem.run_bind, Sem.run_pure, Result.andThen_ok]
 rw [show IntKind.bits .i64 = 64 from rfl] at *
 simp only [hw]
 simp
theorem A3O {x y : Operand} {t t' : TypeId} {m n : Nat} (hx : evo env x = some (.int .i64 (m : Int))) (hy : evo env y = some (.int .i64 (n : Int))) (h : m * n ≤ 9223372036854775807) :
  I5 P Γ ⟨env, hp, G⟩ (.binOp .mul t x y t') ty (.int .i64 ((m * n : Nat) : Int)) := by
 have e : ((m : Int) * (n : Int)) = ((m * n : Nat) : Int) := by simp
 have h2 := B2o (P := P) (Γ := Γ) (hp := hp) (G := G) (ty := ty) (t := t) (t' := t') hx hy (by rw [e]; omega) (by rw [e]; omega)
 rwa [e] at h2
theorem A1F {x y : Operand} {t t' : TypeId} {m n : Nat} (hx : evo env x = some (.int .i64 (m : Int))) (hy : evo env y = some (.int .i64 (n : Int))) (h : m + n ≤ 9223372036854775807) :
  I5 P Γ ⟨env, hp, G⟩ (.binOp .add t x y t') ty (.int .i64 ((m + n : Nat) : Int)) := by
 have e : ((m : Int) + (n : Int)) = ((m + n : Nat) : Int) := by simp
 have h2 := K9 (P := P) (Γ := Γ) (hp := hp) (G := G) (ty := ty) (t := t) (t' := t') hx hy (by rw [e]; omega) (by rw [e]; omega)
 rwa [e] at h2
theorem A1e {x y : Operand} {t t' : TypeId} {m : Nat} (hx : evo env x = some (.int .i64 ((m + 1 : Nat) : Int))) (hy : evo env y = some (.int .i64 1)) (h : m ≤ 9223372036854775807) :
  I5 P Γ ⟨env, hp, G⟩ (.binOp .sub t x y t') ty (.int .i64 (m : Int)) := by
 have e : (((m + 1 : Nat) : Int) - 1) = (m : Int) := by omega
 have h2 := O7 (P := P) (Γ := Γ) (hp := hp) (G := G) (ty := ty) (t := t) (t' := t') hx hy (by rw [e]; omega) (by rw [e]; omega)
 rwa [e] at h2
theorem A6d {s d : TypeId} {is id : L6} [hS : I1 P s is] [hD : I1 P d id] (hd : id.desc = .int .i64) {k : IntKind} (hs : is.desc = .int k) {x : Operand} {n : Int} (hx : evo env x = some (.int k n)) (h0 : -9223372036854775808 ≤ n) (h1 : n ≤ 9223372036854775807) :
  I5 P Γ ⟨env, hp, G⟩ (.convert s d x) ty (.int .i64 n) := by
 refine ⟨fun a _ hst _ _ _ _ w => ?_⟩
 have hu := hD.und
 rw [hd] at hu
 have hus := hS.und
 rw [hs] at hus
 have hw : IntKind.i64.wrap n = n := A2n n rfl h0 h1
 simp [execOp, convert, run_underlying hus, run_underlying hu, (hst.evo hx : a.eval x = _), Conv.intToInt, hw]
theorem A6e {x y : Operand} {t el : TypeId} {i : L6} {sz by' : Nat} {zs : List Value} [hI : I1 P t i] (hd' : i.desc = .slice el) [hE : V6 P el sz by' zs] {p : Option Addr} {n c l : Nat}
  (hx : evo env x = some (.slice p n c)) (hy : evo env y = some (.int .i64 (l : Int))) (hl : l ≤ c) :
  I5 P Γ ⟨env, hp, G⟩ (.slice t x none (some y) none) ty (.slice p l c) := by
 refine ⟨fun a _ hs _ _ _ _ w => ?_⟩
 have hu := hI.und
 rw [hd'] at hu
 obtain ⟨d, hE⟩ := hE.ok
 obtain ⟨inf, z, t1, t2, t3, _⟩ := A3H (P := P) (t := el)
 have e1 : a.eval x = _ := hs.evo hx
 have e2 : a.eval y = _ := hs.evo hy
 have hb : ∀ code, (Instr.sliceBound (.int .i64 (l : Int)) c code).run P w = .ok l w := fun code => by
  unfold Instr.sliceBound
  simp only [asIntOf, Sem.run_bind, Sem.run_pure, Result.andThen_ok]
  rw [if_pos ⟨by omega, by omega⟩]
  simp
 simp only [execOp, Option.map, e1, e2, Instr.sliceAt, Sem.run_bind, run_underlying hu, Result.andThen_ok, Instr.slice, Instr.sliceBounds, Sem.run_pure, hb, t3]
 by_cases h : c = 0
 ·subst h; simp
 ·rw [if_neg h]; simp; cases p <;> simp [Addr.add]
end rlaws
def N5 (bs : List UInt8) : List Value := bs.map fun b => .int .u8 (b.toNat : Int)
theorem A8B (bs : List UInt8) : (N5 bs).length = bs.length := by simp [N5]
theorem A6f {bs : List UInt8} {i : Nat} {v : Value} (h : (N5 bs)[i]? = some v) : ∃ b : Nat, b < 256 ∧ v = .int .u8 (b : Int) := by
 unfold N5 at h
 rw [List.getElem?_map] at h
 cases hb : bs[i]? with
 | none => rw [hb] at h; simp at h
 | some b => rw [hb] at h; simp at h; exact ⟨b.toNat, b.toNat_lt, h.symm⟩
def rd (br : Nat) (pb : Option Addr) (nb cb p : Nat) : A6 := .blk br [.slice pb nb cb, .int .i64 (p : Int)]
def Y9 (br : Nat) (pb : Option Addr) (nb cb p B : Nat) (Φ : IM → Value → Prop) : IM → Value → List A6 → Prop := fun G' v outs => ∃ p', p ≤ p' ∧ p' ≤ p + B ∧ outs = [rd br pb nb cb p'] ∧ Φ G' v
theorem S2 (G : IM) (br : Nat) (pb : Option Addr) (nb cb p : Nat) (bs : List UInt8) (n : Int) (hb : Sl G pb nb cb 1 (N5 bs)) (hnb : nb ≤ 2000) (hp : p < 1099511627776) :
  Fn Tryz.prog 52 [.pointer (some ⟨br, 0, none⟩), .int .i64 n] [rd br pb nb cb p] G (fun G' v outs => G' = G ∧ outs = [rd br pb nb cb (p + 1)] ∧ ∃ k, v = .int .i64 k ∧ 0 ≤ k ∧ (1 ≤ n → k < n)) := by
 unfold rd
 have hm1 : ∀ q, 0 < nb → q % nb < nb := fun q h => Nat.mod_lt _ h
 have hdv : p / nb ≤ p := Nat.div_le_self _ _
 refine C7 Tryz.func52 rfl Tryz.ntmps52 Tryz.results52 rfl ?_
 intro w0
 refine D9 ?_
 refine sQ (A0k rfl) rfl ?_
 refine A4 ?_
 refine sP (A1F (n := 1) rfl rfl zW) rfl rfl ?_
 refine sQ (A0k rfl) rfl ?_
 refine E7 ?_
 refine sB (K6 rfl rfl) rfl rfl (fun h23 => ?_) (fun h23 => ?_)
 refine X8 ?_
 refine H7 (rT rfl) A2.refl ?_
 exact ⟨rfl, rfl, 0, rfl, Int.le_refl _, fun h => by omega⟩
 refine A4 ?_
 refine sQ (A0k rfl) rfl ?_
 refine B3 ?_
 refine sB (qE rfl rfl) rfl rfl (fun h50 => ?_) (fun h50 => ?_)
 refine I3 ?_
 refine H7 (rT rfl) A2.refl ?_
 exact ⟨rfl, rfl, 0, rfl, Int.le_refl _, fun h => by omega⟩
 refine D9 ?_
 refine sQ (A0k rfl) rfl ?_
 refine A4 ?_
 refine sP (A1e rfl rfl zW) rfl rfl ?_
 refine E7 ?_
 refine sQ (A0k rfl) rfl ?_
 refine B3 ?_
 refine sB (K6 rfl rfl) rfl rfl (fun h89 => ?_) (fun h89 => ?_)
 refine A7 ?_
 refine sQ (A0k rfl) rfl ?_
 refine B3 ?_
 (obtain ⟨b, o, v, rfl, hv, hat, hgb⟩ := hb.kid (i := p) zW; obtain ⟨y, hy, rfl⟩ := A6f hv; refine sP (B1 rfl rfl rfl zW) rfl rfl ?_)
 refine sL (S0 rfl rfl (hat _)) rfl rfl ?_
 refine sP (A6d rfl rfl rfl zW zW) rfl rfl ?_
 refine F8 ?_
 refine sP (A4u rfl rfl zW) rfl rfl ?_
 refine A9 ?_
 refine H7 (rT rfl) A2.refl ?_
 exact ⟨rfl, rfl, _, rfl, Int.tmod_nonneg _ zW, fun h => Int.tmod_lt_of_pos _ zW⟩
 refine A7 ?_
 (obtain ⟨b, o, v1, rfl, hv1, hat1, _⟩ := hb.kid (i := HMod.hMod p nb) (hm1 _ zW); obtain ⟨y1, hy1, rfl⟩ := A6f hv1; obtain ⟨b', o', v2, hbb, hv2, hat2, _⟩ := hb.kid (i := HMod.hMod (p * 7 + 3) nb) (hm1 _ zW); obtain ⟨y2, hy2, rfl⟩ := A6f hv2; cases hbb; have hl1 := hm1 p zW; have hl2 := hm1 (p * 7 + 3) zW; refine D2 D3 rfl ?_)
 refine H1 (i := 0) (l' := [tt,ff,ff,ff,ff,ff,ff,ff,ff,ff,ff,ff,ff,ff,ff,ff,ff,ff,ff,ff,ff,ff,ff,ff,ff,ff,ff,ff,ff,ff,ff,ff,ff,ff,ff,ff,ff,ff,ff,ff,ff,ff,ff,ff,ff,ff]) rfl C8 (qM rfl) rfl zU rfl rfl ?_
 refine aP 1 rfl (A0k rfl) rfl ?_
 refine aP 2 rfl (C0 rfl) rfl ?_
 refine aL 3 rfl (D4 rfl rfl) rfl ?_
 refine aP 4 rfl (qM rfl) rfl ?_
 refine aP 5 rfl (qM rfl) rfl ?_
 refine aP 6 rfl (A0k rfl) rfl ?_
 refine aP 7 rfl (C0 rfl) rfl ?_
 refine aL 8 rfl (D4 rfl rfl) rfl ?_
 refine aP 9 rfl (pLn rfl rfl) rfl ?_
 refine aP 10 rfl (A8l rfl rfl zW) rfl ?_
 refine aP 11 rfl (B1 rfl rfl rfl (by first | exact hl1 | exact hl2)) rfl ?_
 refine aL 12 rfl (S0 rfl rfl (hat1 _)) rfl ?_
 refine aP 13 rfl (A6d rfl rfl rfl zW zW) rfl ?_
 refine aP 14 rfl (A3O (n := 131) rfl rfl zW) rfl ?_
 refine aP 15 rfl (qM rfl) rfl ?_
 refine aP 16 rfl (A0k rfl) rfl ?_
 refine aP 17 rfl (C0 rfl) rfl ?_
 refine aL 18 rfl (D4 rfl rfl) rfl ?_
 refine aP 19 rfl (qM rfl) rfl ?_
 refine aP 20 rfl (A3O (n := 7) rfl rfl zW) rfl ?_
 refine aP 21 rfl (A1F (n := 3) rfl rfl zW) rfl ?_
 refine aP 22 rfl (qM rfl) rfl ?_
 refine aP 23 rfl (A0k rfl) rfl ?_
 refine aP 24 rfl (C0 rfl) rfl ?_
 refine aL 25 rfl (D4 rfl rfl) rfl ?_
 refine aP 26 rfl (pLn rfl rfl) rfl ?_
 refine aP 27 rfl (A8l rfl rfl zW) rfl ?_
 refine aP 28 rfl (B1 rfl rfl rfl (by first | exact hl1 | exact hl2)) rfl ?_
 refine aL 29 rfl (S0 rfl rfl (hat2 _)) rfl ?_
 refine aP 30 rfl (A6d rfl rfl rfl zW zW) rfl ?_
 refine aP 31 rfl (A3O (n := 1117) rfl rfl zW) rfl ?_
 refine aP 32 rfl (A1F rfl rfl zW) rfl ?_
 refine aP 33 rfl (qM rfl) rfl ?_
 refine aP 34 rfl (A3O (n := 29) rfl rfl zW) rfl ?_
 refine aP 35 rfl (A1F rfl rfl zW) rfl ?_
 refine aP 36 rfl (qM rfl) rfl ?_
 refine aP 37 rfl (qM rfl) rfl ?_
 refine aP 38 rfl (A0k rfl) rfl ?_
 refine aP 39 rfl (C0 rfl) rfl ?_
 refine aL 40 rfl (D4 rfl rfl) rfl ?_
 refine aP 41 rfl (pLn rfl rfl) rfl ?_
 refine aP 42 rfl (A8m rfl rfl zW zW) rfl ?_
 refine aP 43 rfl (A3O (n := 53) rfl rfl zW) rfl ?_
 refine aP 44 rfl (A1F rfl rfl zW) rfl ?_
 refine aP 45 rfl (qA rfl) rfl ?_
 refine A7 ?_
 refine sP (A8m (n := 64) rfl rfl zW zW) rfl rfl ?_
 refine sP (B3s rfl rfl zW zW) rfl rfl ?_
 refine B5 ?_
 refine sP (A4u rfl rfl zW) rfl rfl ?_
 refine C3 ?_
 refine H7 (rT rfl) A2.refl ?_
 exact ⟨rfl, rfl, _, rfl, Int.tmod_nonneg _ zW, fun h => Int.tmod_lt_of_pos _ zW⟩
end Gw
end Go.Proofs.YtmceanphadildaaGreatDoor
namespace Go.Proofs.YtmceanphadildaaGreatDoor
open Go Go.RowKit Go.ChangeShapes Go.WideShapes Go.ChangeAt
namespace Gw
theorem B3t : Tryz.prog.cellsOf 5 = 1 := by kernel_rfl
theorem A8C {q : Nat → Value → Prop} : ∀ {n : Nat}, (∀ i, i < n → ∃ k : UInt8, q i (.int .u8 (k.toNat : Int))) → ∃ l : List UInt8, l.length = n ∧ ∀ i v, (N5 l)[i]? = some v → q i v
 | 0, _ => ⟨[], rfl, by simp [N5]⟩
 | n + 1, h => by
  obtain ⟨l, h1, h2⟩ := A8C (n := n) fun i hi => h i zW
  obtain ⟨k, hk⟩ := h n zW
  refine ⟨l ++ [k], by simp [h1], fun i v hv => ?_⟩
  rw [show N5 (l ++ [k]) = N5 l ++ [.int .u8 (k.toNat : Int)] from by simp [N5], List.getElem?_append] at hv
  split at hv
  ·exact h2 i v hv
  ·rename_i hi
   rw [A8B] at hi hv
   have : i - l.length = 0 := by
    have := (List.getElem?_eq_some_iff.1 hv).1; simp at this; omega
   rw [this] at hv; simp at hv; subst hv
   rw [show i = n by omega]; exact hk
section read2
variable {H : Type} {enc : TypeId × Value → H} {w : World} {sp : Nat → Bool} {held : Bool}
theorem B3u (n : Nat) (cs : List Value) (x : DataW H × List MemPlace) (h : DataW.trod enc Tryz.prog w 0 sp held n 22 cs = some x) : ∃ (l : List UInt8) (p : Option Addr) (c : Nat), cs = [.slice p l.length c] ∧ Sl (GW w) p l.length c 1 (N5 l) := by
 rcases DataW.trod_slice Tryz.underlying22 h with ⟨rfl, _⟩ | ⟨ad, len, cap, elems, rest, n', rfl, rfl, _, _, hlc, hcm, hel, hele, _, _⟩
 ·exact ⟨[], none, 0, rfl, Sl.nil _ _⟩
 ·rw [B3t] at hele
  obtain ⟨l, h1, h2⟩ := A8C (q := fun i v => w.cells? 0 (ad.add (i * 1)) 1 = some [v]) (n := len) fun i hi => by
   have := hele i hi
   rw [List.getElem?_eq_getElem zW] at this
   obtain ⟨cs', c1, c2⟩ := Option.bind_eq_some_iff.1 this
   obtain ⟨k, rfl, _, hw⟩ := DataW.trod_int Tryz.underlying5 c2
   have hk : 0 ≤ k ∧ k < 256 := by
    have hw2 : (decide ((0 : Int) ≤ k) && decide (k ≤ (255 : Int))) = true := hw
    simp only [Bool.and_eq_true, decide_eq_true_eq] at hw2
    omega
   refine ⟨UInt8.ofNat k.toNat, ?_⟩
   rw [show ((UInt8.ofNat k.toNat).toNat : Int) = k from by
    rw [UInt8.toNat_ofNat']; omega]
   exact c1
  subst h1
  refine ⟨l, some ad, cap, rfl, ?_⟩
  have := B3j (w := w) (a := ad) (n := l.length) (c := cap) (sz := 1) (es := (N5 l).map fun v => [v]) (by simp [A8B]) zW hlc hcm fun i e he => by
   rw [List.getElem?_map] at he
   cases hv : (N5 l)[i]? with
   | none => rw [hv] at he; simp at he
   | some v => rw [hv] at he; simp at he; subst he; exact h2 i v hv
  have hf : ((N5 l).map fun v => [v]).flatten = N5 l := by
   generalize N5 l = L
   induction L with
   | nil => rfl
   | cons a L ih => simp [ih]
  rwa [hf] at this
end read2
theorem A2X : ∀ (t : Ty) (G : IM) (cells : List Value), t.small → B8 G t cells →
  Fn Tryz.prog 28 [.agg ⟨cells⟩] [] G (K1 fun G' v => ∃ cells' F, v = .agg ⟨cells'⟩ ∧ P0 (D7 G' G) t cells' F ∧ F.Nodup) := by
 refine Ty.ind fun k ks ih G cells hts hr => ?_
 simp only [Ty.small] at hts
 obtain ⟨hsm, hks⟩ := hts
 obtain ⟨p, c, es, rfl, hk, hsl, hkl⟩ := hr.open
 simp only [Ty.k, Ty.ks] at hk hsl hkl ⊢
 have hn := hsl.le
 refine C7 Tryz.func28 rfl Tryz.ntmps28 Tryz.results28 rfl ?_
 intro w0
 refine A4 ?_
 refine sE (D5 rfl rfl) rfl (fun b3 => ?_)
 refine sE (A8 rfl) rfl (fun b4 => ?_)
 refine B5 ?_
 refine sE (A8 rfl) rfl (fun b12 => ?_)
 refine N8 ?_
 refine C2 ?_
 (refine X0 25 2 ?_; refine L4 (fun (x : Nat × Option Addr × Nat × List (List Value) × List Nat × IM) => ⟨[(12, .int .i64 x.1), (11, .int .i64 ks.length), (10, .slice p ks.length c), (3, .pointer (some ⟨b12, 0, none⟩)), (2, .pointer (some ⟨b4, 0, none⟩))], [.blk b12 [.int .i64 k, .slice x.2.1 x.1 x.2.2.1], .slc x.2.1 x.2.2.1 25 2 x.1 x.2.2.2.1.flatten, .blk b4 [.int .i64 0, .slice none 0 0]], x.2.2.2.2.2⟩) (fun x => x.1 ≤ ks.length ∧ C1 G x.2.2.2.2.2 ∧ M5 (D7 x.2.2.2.2.2 G) (ks.take x.1) x.2.2.2.1 x.2.2.2.2.1 ∧ x.2.2.2.2.1.Nodup) (fun x => ks.length - x.1) (0, none, 0, [], [], G) ?_ ?_ ?_)
 (simp only [J7]; exact O3 zM zJ)
 exact ⟨by simp, C1.refl _, by simp [M5], by simp⟩
 (rintro ⟨i, pn, cn, es', F, Gi⟩ ⟨hi, hle, hst, hnd⟩; simp only [] at hi hle hst hnd ⊢; replace hsl := hsl.mono hle; replace hkl := hkl.mono hle)
 refine A4 ?_
 refine sB (K6 rfl rfl) rfl rfl (fun h32 => ?_) (fun h32 => ?_)
 refine B5 ?_
 refine C2 ?_
 refine A4 ?_
 (obtain ⟨b, o, p2, c2, rfl, hat, hre, hgb⟩ := hsl.kidTy hkl (i := i) zW zW; refine sP (B1 rfl rfl rfl zW) rfl rfl ?_)
 refine sL (A5 rfl rfl (hat _) rfl) rfl rfl ?_
 refine sE (A8 rfl) rfl (fun b45 => ?_)
 refine B3 ?_
 refine D2 D3 rfl ?_
 refine H1 (i := 0) (l' := [tt,ff,ff,ff,ff,ff,ff,ff]) rfl C8 (C0 rfl) rfl zU rfl rfl ?_
 refine aL 1 rfl (D4 rfl rfl) rfl ?_
 refine aL 2 rfl (A3 rfl rfl) rfl ?_
 refine A1 3 ?_
 (refine E1 rfl rfl (ih _ (List.getElem_mem zW) _ _ (Ty.smallL_mem hks _ (List.getElem_mem zW)) hre) rfl rfl rfl (fun v G1 hle1 hh => ?_); obtain ⟨cells', F', rfl, hs', hnd'⟩ := hh; obtain ⟨p3, c3, es3, rfl, _⟩ := hs'.R.open)
 refine A1 4 ?_
 (refine D1 rfl (C9 rfl rfl rfl zW zR rfl) rfl rfl ?_; rintro _ ⟨b56, rfl⟩)
 refine A1 5 ?_
 refine T9 rfl rfl rfl rfl rfl rfl (fun _ _ => by repeat (first | exact Sw.here | apply Sw.there)) (R2 zP) rfl zQ zR zW rfl rfl (by repeat (first | exact B2.nil | apply B2.dep zU | apply B2.blk zU zN zP)) (fun pn' cn' => ?_)
 refine aP 6 rfl (C0 rfl) rfl ?_
 refine A1 7 ?_
 refine N9 rfl rfl rfl rfl rfl rfl rfl rfl zU zO (by rfl) ?_
 refine C3 ?_
 refine sP (K9 rfl rfl zW zW) rfl rfl ?_
 refine A4 ?_
 refine K3 (i + 1, pn', cn', es' ++ [[.int .i64 ks[i].k, .slice p3 ks[i].ks.length c3]], F ++ F', G1) ?_ ?_ ?_
 (simp only [J7]; exact O3 zM zJ)
 exact ⟨by omega, hle.trans hle1, M5.step hst hnd hle hle1 zW hs' hnd'⟩
 (show ks.length - (i + 1) < ks.length - i; omega)
 refine K4 ?_
 (refine F6 zN (fun G2 hle2 hsl2 hno2 => ?_); obtain rfl : i = ks.length := by omega)
 refine tT ?_
 refine L0 (rC rfl (A3 rfl rfl)) ?_
 (rw [List.take_length] at hst; obtain ⟨F2, hf1, hf2⟩ := P0.fin hst hnd hle hle2 hsl2 hno2 hk; exact ⟨rfl, _, F2, rfl, hf1, hf2⟩)
def B3v (t : Ty) (G : IM) : IM → Value → List A6 → Prop := K1 fun G' v => ∃ cells' F, v = .agg ⟨cells'⟩ ∧ P0 (D7 G' G) t cells' F ∧ F.Nodup
def B8r (ks : List Ty) (G : IM) : IM → Value → List A6 → Prop := K1 fun G' v => ∃ p c F, v = .slice p ks.length c ∧ A8k (D7 G' G) ks p c F ∧ F.Nodup
def B3w (t : Tm) (G : IM) : IM → Value → List A6 → Prop := K1 fun G' v => ∃ cells' F, v = .agg ⟨cells'⟩ ∧ Q4 (D7 G' G) t cells' F ∧ F.Nodup
def B8s (ks : List Tm) (G : IM) : IM → Value → List A6 → Prop := K1 fun G' v => ∃ p c F, v = .slice p ks.length c ∧ A3M (D7 G' G) ks p c F ∧ F.Nodup
theorem B3x {full cs : List Value} {o : Nat} (h : ∀ j v, cs[j]? = some v → full[o + j]? = some v) (hc : cs ≠ []) : full = full.take o ++ (cs ++ full.drop (o + cs.length)) ∧ (full.take o).length = o := by
 have hpos : 0 < cs.length := List.length_pos_iff.2 hc
 have hl : o + cs.length ≤ full.length := by
  have := h (cs.length - 1) cs[cs.length - 1] (List.getElem?_eq_getElem zW)
  have := (List.getElem?_eq_some_iff.1 this).1; omega
 have ho : (full.take o).length = o := by simp; omega
 refine ⟨?_, ho⟩
 apply List.ext_getElem?
 intro i
 rw [List.getElem?_append, ho]
 split
 ·rename_i hi; rw [List.getElem?_take, if_pos hi]
 ·rename_i hi
  rw [List.getElem?_append]
  split
  ·rename_i h2
   have := h (i - o) cs[i - o] (List.getElem?_eq_getElem h2)
   rw [show o + (i - o) = i by omega] at this
   rw [this, List.getElem?_eq_getElem h2]
  ·rename_i h2
   rw [List.getElem?_drop, show o + cs.length + (i - o - cs.length) = i by omega]
theorem Sl.blk {G : IM} {p : Option Addr} {n c sz : Nat} {cs : List Value} (h : Sl G p n c sz cs) (hc : cs ≠ []) : ∃ b A C, p = some ⟨b, A.length, none⟩ ∧ G b = some (A ++ (cs ++ C)) := by
 obtain ⟨h1, h2, h3, h4⟩ := h
 have hn : n ≠ 0 := by
  rintro rfl
  simp at h1; exact hc h1
 obtain ⟨b, o, full, rfl, hg, hv⟩ := h4.resolve_left hn
 obtain ⟨e1, e2⟩ := B3x hv hc
 exact ⟨b, full.take o, full.drop (o + cs.length), by rw [e2], by rw [← e1]; exact hg⟩
theorem Sl.of_blk {G : IM} {b n c sz : Nat} {A C cs : List Value} (hl : cs.length = n * sz) (hc : n ≤ c) (hm : c ≤ maxLen) (hg : G b = some (A ++ (cs ++ C))) : Sl G (some ⟨b, A.length, none⟩) n c sz cs := by
 refine ⟨hl, hc, hm, .inr ⟨b, A.length, _, rfl, hg, fun j v hj => ?_⟩⟩
 have hlt : j < cs.length := (List.getElem?_eq_some_iff.1 hj).1
 rw [List.getElem?_append, if_neg zW, List.getElem?_append, if_pos zW, show A.length + j - A.length = j by omega]
 exact hj
def InG (G : IM) (bs : A03) (F : List Nat) : Prop := (bs.map Prod.fst).Sublist F ∧ ∀ q ∈ bs, G q.1 = some q.2
mutual
theorem A2Y : ∀ t : Ty, H6 t ≤ 4294967296 → t.small
 | .mk _ ks, h => by
  rw [H6] at h
  have := A1c ks
  simp only [Ty.small]
  exact ⟨by omega, A8D ks zW⟩
theorem A8D : ∀ ts : List Ty, L5 ts ≤ 4294967296 → Ty.smallL ts
 | [], _ => by simp [Ty.smallL]
 | t :: ts, h => by
  rw [L5] at h
  have := A0g t
  have := A1c ts
  simp only [Ty.smallL]
  exact ⟨A2Y t zW, A8D ts zW⟩
end
mutual
theorem A8E : ∀ t : Tm, A0f t ≤ 4294967296 → t.small
 | .mk _ nm _ ty fr _ ks, h => by
  rw [A0f] at h
  have := A4P ks
  have := A0g ty
  have := A0g fr
  simp only [Tm.small]
  exact ⟨by omega, A2Y ty zW, A2Y fr zW, by omega, A8F ks zW⟩
theorem A8F : ∀ ts : List Tm, W4 ts ≤ 4294967296 → Tm.smallL ts
 | [], _ => by simp [Tm.smallL]
 | t :: ts, h => by
  rw [W4] at h
  have := A8x t
  have := A4P ts
  simp only [Tm.smallL]
  exact ⟨A8E t zW, A8F ts zW⟩
end
mutual
theorem A6g : ∀ t : Tm, (F4 t : Int) ≤ A0f t + 1
 | .mk _ nm _ ty fr _ ks => by
  have := A8G ks
  have := A0g ty
  have := A0g fr
  rw [A0f, F4]; omega
theorem A8G : ∀ ts : List Tm, (H4 ts : Int) ≤ ts.length + W4 ts
 | [] => by rw [W4, H4]; simp
 | t :: ts => by
  have := A6g t
  have := A8G ts
  rw [W4, H4, List.length_cons]; omega
end
theorem P8 : ∀ (t : Ty) (G : IM) (cells : List Value), t.small → B8 G t cells → Fn Tryz.prog 105 [.agg ⟨cells⟩] [] G (B3v t G) := by
 refine Ty.ind fun k ks ih G cells hts hr => ?_
 simp only [Ty.small] at hts
 obtain ⟨hsm, hks⟩ := hts
 obtain ⟨p, c, es, rfl, hk, hsl, hkl⟩ := hr.open
 simp only [Ty.k, Ty.ks] at hk hsl hkl ⊢
 have hn := hsl.le
 refine C7 Tryz.func105 rfl Tryz.ntmps105 Tryz.results105 rfl ?_
 intro w0
 refine A4 ?_
 refine sE (D5 rfl rfl) rfl (fun b3 => ?_)
 refine sE (A8 rfl) rfl (fun b4 => ?_)
 refine B5 ?_
 refine sE (A8 rfl) rfl (fun b12 => ?_)
 refine D9 ?_
 refine C2 ?_
 (refine X0 25 2 ?_; refine L4 (fun (x : Nat × Option Addr × Nat × List (List Value) × List Nat × IM) => ⟨[(4, .int .i64 x.1), (3, .pointer (some ⟨b12, 0, none⟩)), (1, .pointer (some ⟨b3, 0, none⟩)), (2, .pointer (some ⟨b4, 0, none⟩))], [.blk b12 [.int .i64 k, .slice x.2.1 x.1 x.2.2.1], .slc x.2.1 x.2.2.1 25 2 x.1 x.2.2.2.1.flatten, .blk b4 [.int .i64 0, .slice none 0 0], .blk b3 [.int .i64 k, .slice p ks.length c]], x.2.2.2.2.2⟩) (fun x => x.1 ≤ ks.length ∧ C1 G x.2.2.2.2.2 ∧ M5 (D7 x.2.2.2.2.2 G) (ks.take x.1) x.2.2.2.1 x.2.2.2.2.1 ∧ x.2.2.2.2.1.Nodup) (fun x => ks.length - x.1) (0, none, 0, [], [], G) ?_ ?_ ?_)
 (simp only [J7]; exact E3)
 exact ⟨by simp, C1.refl _, by simp [M5], by simp⟩
 (rintro ⟨i, pn, cn, es', F, Gi⟩ ⟨hi, hle, hst, hnd⟩; simp only [] at hi hle hst hnd ⊢; replace hsl := hsl.mono hle; replace hkl := hkl.mono hle)
 refine B5 ?_
 refine sB (K6 rfl rfl) rfl rfl (fun h34 => ?_) (fun h34 => ?_)
 refine A7 ?_
 refine C2 ?_
 (obtain ⟨b, o, p2, c2, rfl, hat, hre, hgb⟩ := hsl.kidTy hkl (i := i) zW zW; refine D2 D3 rfl ?_)
 refine H1 (i := 0) (l' := [tt,ff,ff,ff,ff,ff,ff,ff,ff,ff,ff,ff]) rfl C8 (C0 rfl) rfl zU rfl rfl ?_
 refine aL 1 rfl (D4 rfl rfl) rfl ?_
 refine aP 2 rfl (C0 rfl) rfl ?_
 refine aL 3 rfl (D4 rfl rfl) rfl ?_
 refine aP 4 rfl (qM rfl) rfl ?_
 refine aP 5 rfl (B1 rfl rfl rfl zW) rfl ?_
 refine aL 6 rfl (A5 rfl rfl (hat _) rfl) rfl ?_
 refine A1 7 ?_
 (refine E1 rfl rfl (ih ks[i] (List.getElem_mem zW) _ _ (Ty.smallL_mem hks _ (List.getElem_mem zW)) hre) rfl rfl rfl (fun v G1 hle1 hh => ?_); obtain ⟨cells', F', rfl, hs', hnd'⟩ := hh; obtain ⟨p3, c3, es3, rfl, _⟩ := hs'.R.open)
 refine A1 8 ?_
 (refine D1 rfl (C9 rfl rfl rfl zW zR rfl) rfl rfl ?_; rintro _ ⟨b53, rfl⟩)
 refine A1 9 ?_
 refine T9 rfl rfl rfl rfl rfl rfl (fun _ _ => by repeat (first | exact Sw.here | apply Sw.there)) (R2 zP) rfl zQ zR zW rfl rfl zG (fun pn' cn' => ?_)
 refine aP 10 rfl (C0 rfl) rfl ?_
 refine A1 11 ?_
 refine N9 rfl rfl rfl rfl rfl rfl rfl rfl zU zO (by rfl) ?_
 refine A9 ?_
 refine sP (K9 rfl rfl zW zW) rfl rfl ?_
 refine A4 ?_
 refine K3 (i + 1, pn', cn', es' ++ [[.int .i64 ks[i].k, .slice p3 ks[i].ks.length c3]], F ++ F', G1) ?_ ?_ ?_
 (simp only [J7]; exact E3)
 exact ⟨by omega, hle.trans hle1, M5.step hst hnd hle hle1 zW hs' hnd'⟩
 (show ks.length - (i + 1) < ks.length - i; omega)
 refine N1 ?_
 (refine F6 zN (fun G2 hle2 hsl2 hno2 => ?_); obtain rfl : i = ks.length := zW)
 refine tT ?_
 refine L0 (rC rfl (A3 rfl rfl)) ?_
 (rw [List.take_length] at hst; obtain ⟨F2, hf1, hf2⟩ := P0.fin hst hnd hle hle2 hsl2 hno2 hk; exact ⟨rfl, _, F2, rfl, hf1, hf2⟩)
theorem A4R : ∀ (t : Tm) (G : IM) (cells : List Value), t.small → B6 G t cells → Fn Tryz.prog 59 [.agg ⟨cells⟩] [] G (B3w t G) := by
 refine Tm.ind fun k nm num ty fr lb ks ih G cells hts hr => ?_
 have hone := hr.one
 simp only [Tm.small] at hts
 obtain ⟨hnm, hty', hfr', hsm, hks⟩ := hts
 obtain ⟨tk, tks⟩ := ty
 obtain ⟨fk, fks⟩ := fr
 obtain ⟨pt, ct, pf, cf, p, c, es, rfl, hk, hnum, hlb, hty, hfr, hsl, hkl⟩ := hr.open9
 have hn := hsl.le
 have hT := P8 (.mk tk tks) G _ hty' hty
 refine C7 Tryz.func59 rfl Tryz.ntmps59 Tryz.results59 rfl ?_
 intro w0
 refine A4 ?_
 refine sE (D5 rfl rfl) rfl (fun b3 => ?_)
 refine sE (A8 rfl) rfl (fun b4 => ?_)
 refine A9 ?_
 refine sE (A8 rfl) rfl (fun b10 => ?_)
 refine B5 ?_
 (refine F9 rfl hT rfl rfl (fun v G1 hle1 hh => ?_); obtain ⟨L7, F1, rfl, hs1, hn1⟩ := hh; obtain ⟨p1, c1, rfl, _⟩ := hs1.open; have hF := P8 (.mk fk fks) G1 _ hfr' (hfr.mono hle1))
 refine E7 ?_
 (refine F9 rfl hF rfl rfl (fun v G2 hle2 hh => ?_); obtain ⟨cs2, F2, rfl, hs2, hn2⟩ := hh; obtain ⟨p2, c2, rfl, _⟩ := hs2.open; replace hsl := hsl.mono (hle1.trans hle2); replace hkl := hkl.mono (hle1.trans hle2))
 refine N4 ?_
 refine C2 ?_
 (refine X0 28 9 ?_; refine L4 (fun (x : Nat × Option Addr × Nat × List (List Value) × List Nat × IM) => ⟨[(4, .int .i64 x.1), (3, .pointer (some ⟨b10, 0, none⟩)), (1, .pointer (some ⟨b3, 0, none⟩)), (2, .pointer (some ⟨b4, 0, none⟩))], [.blk b10 [.int .i64 k, .string nm, .int .i64 num, .int .i64 tk, .slice p1 tks.length c1, .int .i64 fk, .slice p2 fks.length c2, .int .i64 lb, .slice x.2.1 x.1 x.2.2.1], .slc x.2.1 x.2.2.1 28 9 x.1 x.2.2.2.1.flatten, .blk b4 [.int .i64 0, .string ⟨⟨[]⟩⟩, .int .i64 0, .int .i64 0, .slice none 0 0, .int .i64 0, .slice none 0 0, .int .i64 0, .slice none 0 0], .blk b3 [.int .i64 k, .string nm, .int .i64 num, .int .i64 tk, .slice pt tks.length ct, .int .i64 fk, .slice pf fks.length cf, .int .i64 lb, .slice p ks.length c]], x.2.2.2.2.2⟩) (fun x => x.1 ≤ ks.length ∧ C1 G2 x.2.2.2.2.2 ∧ O6 (D7 x.2.2.2.2.2 G2) (ks.take x.1) x.2.2.2.1 x.2.2.2.2.1 ∧ x.2.2.2.2.1.Nodup) (fun x => ks.length - x.1) (0, none, 0, [], [], G2) ?_ ?_ ?_)
 (simp only [J7]; exact E3)
 exact ⟨by simp, C1.refl _, by simp [O6], by simp⟩
 (rintro ⟨i, pn, cn, es', F, Gi⟩ ⟨hi, hle, hst, hnd⟩; simp only [] at hi hle hst hnd ⊢; replace hsl := hsl.mono hle; replace hkl := hkl.mono hle)
 refine B5 ?_
 refine sB (K6 rfl rfl) rfl rfl (fun h56 => ?_) (fun h56 => ?_)
 refine A7 ?_
 refine C2 ?_
 (obtain ⟨b, o, e, rfl, hl, hat, hre, hgb⟩ := hsl.kidTm hkl (i := i) zW zW; have hone := hre.one; refine D2 D3 rfl ?_)
 refine H1 (i := 0) (l' := [tt,ff,ff,ff,ff,ff,ff,ff,ff,ff,ff,ff]) rfl C8 (C0 rfl) rfl zU rfl rfl ?_
 refine aL 1 rfl (D4 rfl rfl) rfl ?_
 refine aP 2 rfl (C0 rfl) rfl ?_
 refine aL 3 rfl (D4 rfl rfl) rfl ?_
 refine aP 4 rfl (qM rfl) rfl ?_
 refine aP 5 rfl (B1 rfl rfl rfl zW) rfl ?_
 refine aL 6 rfl (A5 rfl rfl (hat _) hl) rfl ?_
 refine A1 7 ?_
 (refine E1 rfl rfl (ih ks[i] (List.getElem_mem zW) _ _ (Tm.smallL_mem hks _ (List.getElem_mem zW)) hre) rfl rfl rfl (fun v G3 hle3 hh => ?_); obtain ⟨cells', F', rfl, hs', hnd'⟩ := hh; obtain ⟨qt, dt, et', qf, df, ef', q3, d3, es3, rfl, _⟩ := hs'.R.open)
 refine A1 8 ?_
 (refine D1 rfl (C9 rfl rfl rfl zW zR rfl) rfl rfl ?_; rintro _ ⟨b75, rfl⟩)
 refine A1 9 ?_
 refine T9 rfl rfl rfl rfl rfl rfl (fun _ _ => by repeat (first | exact Sw.here | apply Sw.there)) (R2 zP) rfl zQ zR zW rfl rfl zG (fun pn' cn' => ?_)
 refine aP 10 rfl (C0 rfl) rfl ?_
 refine A1 11 ?_
 refine N9 rfl rfl rfl rfl rfl rfl rfl rfl zU zO (by rfl) ?_
 refine A9 ?_
 refine sP (K9 rfl rfl zW zW) rfl rfl ?_
 refine A4 ?_
 refine K3 (i + 1, pn', cn', es' ++ [[.int .i64 ks[i].k, .string ks[i].nm, .int .i64 ks[i].num, .int .i64 ks[i].ty.k, .slice qt ks[i].ty.ks.length dt, .int .i64 ks[i].fr.k, .slice qf ks[i].fr.ks.length df, .int .i64 ks[i].lb, .slice q3 ks[i].ks.length d3]], F ++ F', G3) ?_ ?_ ?_
 (simp only [J7]; exact E3)
 exact ⟨by omega, hle.trans hle3, O6.step hst hnd hle hle3 zW hs' hnd'⟩
 (show ks.length - (i + 1) < ks.length - i; omega)
 refine N1 ?_
 (refine F6 zN (fun G4 hle4 hsl4 hno4 => ?_); obtain rfl : i = ks.length := zW)
 refine tT ?_
 refine L0 (rC rfl (A3 rfl rfl)) ?_
 (rw [List.take_length] at hst; obtain ⟨F3, hf1, hf2⟩ := A3M.fin hst hnd hle hle4 hsl4 hno4; obtain ⟨F5, hg1, hg2⟩ := Q4.mk3 (nm := nm) hk hnum hlb hle1 hle2 (hle.trans hle4) hs1 hn1 hs2 hn2 hf1 hf2; exact ⟨rfl, _, F5, rfl, hg1, hg2⟩)
mutual
def Q0 (g : Tm → Tm) : Tm → Tm
 | .mk k nm num ty fr lb ks => g (.mk k nm num ty fr lb (O0 g ks))
def O0 (g : Tm → Tm) : List Tm → List Tm
 | [] => []
 | t :: ts => Q0 g t :: O0 g ts
end
theorem A3P (g : Tm → Tm) : ∀ ks, O0 g ks = ks.map (Q0 g)
 | [] => rfl
 | t :: ts => by rw [O0, A3P g ts, List.map_cons]
mutual
def mOk (Q : Tm → Prop) (g : Tm → Tm) : Tm → Prop
 | .mk k nm num ty fr lb ks => A2v Q g ks ∧ Q (.mk k nm num ty fr lb (O0 g ks))
def A2v (Q : Tm → Prop) (g : Tm → Tm) : List Tm → Prop
 | [] => True
 | t :: ts => mOk Q g t ∧ A2v Q g ts
end
def B8t (g : Tm → Tm) (Q : Tm → Prop) (fid : FuncId) (us cs : List Value) : Prop := ∀ (t : Tm) (G0 G1 : IM) (cells : List Value) (F : List Nat), Q t → C1 G0 G1 → Q4 (D7 G1 G0) t cells F → F.Nodup →
 Fn Tryz.prog fid (us ++ [.agg ⟨cells⟩] ++ cs) [] G1 (K1 fun G2 v => ∃ cells' F', v = .agg ⟨cells'⟩ ∧ Q4 (D7 G2 G0) (g t) cells' F' ∧ F'.Nodup)
theorem B3y (G : IM) (p : Option Addr) (n c : Nat) (es : List (List Value)) (hsl : D0 G p n c 2 es) (fid : FuncId) [C4 Tryz.prog fid] (us cs : List Value) (ins : List A6) (q : Nat → Bool)
  (hq : ∀ i e, es[i]? = some e → Fn Tryz.prog fid (us ++ [.agg ⟨e⟩] ++ cs) ins G (T8 (.bool (q i)) ins G)) :
  Fn Tryz.prog 191 [.slice p n c, .func (.func fid) ⟨us⟩ ⟨cs⟩] ins G (T8 (.int .i64 (A0d q n)) ins G) := by
 have hn := hsl.le
 refine C7 Tryz.func191 rfl Tryz.ntmps191 Tryz.results191 rfl ?_
 intro w0
 refine J2 ?_
 refine C2 ?_
 refine L4 (fun i : Nat => ⟨[(8, .int .i64 i), (7, .int .i64 n), (1, .func (.func fid) ⟨us⟩ ⟨cs⟩), (0, .slice p n c)], ins, G⟩) (fun i => i ≤ n ∧ ∀ j, j < i → q j = false) (fun i => n - i) 0 ?_ ?_ ?_
 exact E3
 exact ⟨by omega, by omega⟩
 rintro i ⟨hi, hf⟩
 refine A4 ?_
 refine sB (K6 rfl rfl) rfl rfl (fun h21 => ?_) (fun h21 => ?_)
 refine B5 ?_
 refine C2 ?_
 refine I3 ?_
 (obtain ⟨e, b, o, he, rfl, hl, _, hat, _⟩ := hsl.get (i := i) zW; refine sP (B1 rfl rfl rfl zW) rfl rfl ?_)
 refine sL (A5 rfl rfl (hat _) hl) rfl rfl ?_
 refine A4E rfl rfl (hq i e he) A00 rfl rfl (fun h43 => ?_) (fun h43 => ?_)
 refine K4 ?_
 refine H7 (rT rfl) A2.refl ?_
 exact ⟨rfl, by rw [A8e zW hf zT], rfl⟩
 refine B5 ?_
 refine sP (K9 rfl rfl zW zW) rfl rfl ?_
 refine A4 ?_
 refine K3 (i + 1) ?_ ?_ ?_
 exact E3
 exact ⟨by omega, fun j hj => by by_cases hji : j = i; (subst hji; assumption); exact hf j zW⟩
 omega
 refine K4 ?_
 refine H7 (rT rfl) A2.refl ?_
 exact ⟨rfl, by rw [A52 (fun j hj => hf j zW)], rfl⟩
theorem B3z (G : IM) (p : Option Addr) (n c : Nat) (es : List (List Value)) (hsl : D0 G p n c 2 es) (fid : FuncId) [C4 Tryz.prog fid] (us cs : List Value) (ins : List A6) (q : Nat → Bool)
  (hq : ∀ i e, es[i]? = some e → Fn Tryz.prog fid (us ++ [.agg ⟨e⟩] ++ cs) ins G (T8 (.bool (q i)) ins G)) :
  Fn Tryz.prog 160 [.slice p n c, .func (.func fid) ⟨us⟩ ⟨cs⟩] ins G (T8 (.bool (decide (0 ≤ A0d q n))) ins G) := by
 refine C7 Tryz.func160 rfl Tryz.ntmps160 Tryz.results160 rfl ?_
 intro w0
 refine D9 ?_
 refine A3I rfl (B3y G p n c es hsl fid us cs ins q hq) A00 rfl rfl ?_
 refine sQ (A0W rfl rfl) rfl ?_
 refine C3 ?_
 refine H7 (rT rfl) A2.refl ?_
 exact ⟨rfl, rfl, rfl⟩
theorem A3Q (G : IM) (p : Option Addr) (n c : Nat) (es : List (List Value)) (hsl : D0 G p n c 2 es) (fid : FuncId) [C4 Tryz.prog fid] (us cs : List Value) (ins : List A6) (f : Ty → Bool) (ks : List Ty)
  (hn : ks.length = n) {A : Bool} (hA : ks.all f = A) (hq : ∀ i e, es[i]? = some e → Fn Tryz.prog fid (us ++ [.agg ⟨e⟩] ++ cs) ins G (T8 (.bool (!f (ks.getD i B4))) ins G)) :
  Fn Tryz.prog 160 [.slice p n c, .func (.func fid) ⟨us⟩ ⟨cs⟩] ins G (T8 (.bool (!A)) ins G) := by
 subst hn hA
 rw [← B21 f ks B4]
 exact B3z G p _ c es hsl fid us cs ins _ hq
theorem A6h (G : IM) (p p' : Option Addr) (n c n' c' : Nat) (es es' : List (List Value)) (hsl : D0 G p n c 2 es) (hsl' : D0 G p' n' c' 2 es') (fid : FuncId) [C4 Tryz.prog fid] (us cs : List Value) (ins : List A6) (q : Nat → Bool)
  (A : Bool) (hA : A = true ↔ n = n' ∧ ∀ i, i < n → q i = true)
  (hq : ∀ i e e', es[i]? = some e → es'[i]? = some e' → Fn Tryz.prog fid (us ++ [.agg ⟨e⟩, .agg ⟨e'⟩] ++ cs) ins G (T8 (.bool (q i)) ins G)) :
  Fn Tryz.prog 65 [.slice p n c, .slice p' n' c', .func (.func fid) ⟨us⟩ ⟨cs⟩] ins G (T8 (.bool A) ins G) := by
 have hn := hsl.le
 have hn' := hsl'.le
 refine C7 Tryz.func65 rfl Tryz.ntmps65 Tryz.results65 rfl ?_
 intro w0
 refine N8 ?_
 refine sB (R7 rfl rfl) rfl rfl (fun h13 => ?_) (fun h13 => ?_)
 refine I2 ?_
 refine H7 (outs := ins) (rT rfl) (by first | exact A2.refl | exact A2.drop (A2.drop A2.refl)) ?_
 exact ⟨rfl, by (cases A with | false => rfl | true => exact absurd (hA.1 rfl).1 zW), rfl⟩
 refine J2 ?_
 refine C2 (L4 (fun i : Nat => ⟨[(17, .int .i64 i), (16, .int .i64 n), (15, .slice p n c), (2, .func (.func fid) ⟨us⟩ ⟨cs⟩), (1, .slice p' n' c'), (0, .slice p n c)], ins, G⟩) (fun i => i ≤ n ∧ ∀ j, j < i → q j = true) (fun i => n - i) 0 ?_ ?_ ?_)
 exact E3
 exact ⟨by omega, by omega⟩
 rintro i ⟨hi, hf⟩
 refine A4 ?_
 refine sB (K6 rfl rfl) rfl rfl (fun h46 => ?_) (fun h46 => ?_)
 refine B5 ?_
 refine C2 ?_
 refine B3 ?_
 (obtain ⟨e, b, o, he, rfl, hl, _, hat, _⟩ := hsl.get (i := i) zW; refine sP (B1 rfl rfl rfl zW) rfl rfl ?_)
 refine sL (A5 rfl rfl (hat _) hl) rfl rfl ?_
 refine sE (A8 rfl) rfl (fun b60 => ?_)
 refine F8 ?_
 refine P3 rfl rfl rfl zT zT rfl zO (by exact C6 (by symm; assumption)) ?_
 refine A7 ?_
 (obtain ⟨e', b', o', he', rfl, hl', _, hat', _⟩ := hsl'.get (i := i) zW; refine sP (B1 rfl rfl rfl zW) rfl rfl ?_)
 refine sL (A5 rfl rfl (hat' _) hl') rfl rfl ?_
 refine sE (A8 rfl) rfl (fun b71 => ?_)
 refine P3 rfl rfl rfl zT zT rfl zO (by exact C6 (by symm; assumption)) ?_
 refine A9 ?_
 refine sL (A5 rfl rfl (B7 zP) zT) rfl rfl ?_
 refine sL (A5 rfl rfl (B7 zP) zT) rfl rfl ?_
 refine A4E rfl rfl (hq i e e' he he') A79 rfl rfl (fun h80 => ?_) (fun h80 => ?_)
 refine E7 ?_
 refine sP (K9 rfl rfl zW zW) rfl rfl ?_
 refine A4 ?_
 refine K3 (i + 1) ?_ ?_ ?_
 exact E3
 exact ⟨by omega, fun j hj => by by_cases hji : j = i; (subst hji; assumption); exact hf j zW⟩
 omega
 refine K4 ?_
 refine H7 (outs := ins) (rT rfl) (by first | exact A2.refl | exact A2.drop (A2.drop A2.refl)) ?_
 exact ⟨rfl, by (cases A with | false => rfl | true => have h0 := (hA.1 rfl).2 i zW; simp_all), rfl⟩
 refine K4 ?_
 refine H7 (outs := ins) (rT rfl) (by first | exact A2.refl | exact A2.drop (A2.drop A2.refl)) ?_
 exact ⟨rfl, by rw [hA.2 ⟨by omega, fun j hj => hf j zW⟩], rfl⟩
theorem A1f (n lo hi : Int) (G : IM) : Fn Tryz.prog 66 [.int .i64 n, .int .i64 lo, .int .i64 hi] [] G (J5 (.bool (U1 n lo hi)) G) := by
 refine C7 Tryz.func66 rfl Tryz.ntmps66 Tryz.results66 rfl ?_
 intro w0
 refine D9 ?_
 refine sB (A0b rfl rfl) rfl rfl (fun h10 => ?_) (fun h10 => ?_)
 refine B3 ?_
 refine sB (A0b rfl rfl) rfl rfl (fun h14 => ?_) (fun h14 => ?_)
 refine A7 ?_
 exact ⟨rfl, by simp [U1]; omega, rfl⟩
 refine A7 ?_
 exact ⟨rfl, by simp [U1]; omega, rfl⟩
 refine I2 ?_
 exact ⟨rfl, by simp [U1]; omega, rfl⟩
theorem A1G (k : Int) (G : IM) : Fn Tryz.prog 112 [.int .i64 k] [] G (J5 (.agg ⟨[.int .i64 k, .slice none 0 0]⟩) G) := by
 refine C7 Tryz.func112 rfl Tryz.ntmps112 Tryz.results112 rfl ?_
 intro w0
 refine A4 ?_
 refine sE (A8 rfl) rfl (fun b3 => ?_)
 refine I2 ?_
 refine L0 (rC rfl (A3 rfl rfl)) ?_
 exact ⟨rfl, rfl, rfl⟩
theorem B3A (n : Int) (G : IM) : Fn Tryz.prog 155 [.int .i64 n] [] G (J5 (.bool (A0e n)) G) := by
 refine C7 Tryz.func155 rfl Tryz.ntmps155 Tryz.results155 rfl ?_
 intro w0
 refine E7 ?_
 refine J0 rfl (A1f _ _ _ _) rfl rfl (fun h9 => ?_) (fun h9 => ?_)
 refine D9 ?_
 exact ⟨rfl, by simp [A0e, *], rfl⟩
 refine A4 ?_
 refine J0 rfl (A1f _ _ _ _) rfl rfl (fun h22 => ?_) (fun h22 => ?_)
 refine A7 ?_
 exact ⟨rfl, by simp [A0e, *], rfl⟩
 refine A7 ?_
 exact ⟨rfl, by simp [A0e, *], rfl⟩
theorem A8H (t : Ty) (G : IM) (cells : List Value) (hr : B8 G t cells) : Fn Tryz.prog 153 [.agg ⟨cells⟩] [] G (J5 (.bool (X2 t)) G) := by
 obtain ⟨p, c, es, rfl, hk, hsl, hkl⟩ := hr.open
 refine C7 Tryz.func153 rfl Tryz.ntmps153 Tryz.results153 rfl ?_
 intro w0
 refine A4 ?_
 refine sE (D5 rfl rfl) rfl (fun b3 => ?_)
 refine B5 ?_
 refine sB (qE rfl rfl) rfl rfl (fun h11 => ?_) (fun h11 => ?_)
 refine C3 ?_
 refine sB (qE rfl rfl) rfl rfl (fun h16 => ?_) (fun h16 => ?_)
 refine A7 ?_
 exact ⟨rfl, by simp only [X2]; (first | rw [decide_eq_true zW] | rw [decide_eq_false zW]), rfl⟩
 refine A7 ?_
 exact ⟨rfl, by simp only [X2]; (first | rw [decide_eq_true zW] | rw [decide_eq_false zW]), rfl⟩
 refine I3 ?_
 exact ⟨rfl, by simp only [X2]; (first | rw [decide_eq_true zW] | rw [decide_eq_false zW]), rfl⟩
theorem B3B (s : ByteArray) (G : IM) : Fn Tryz.prog 152 [.string s] [] G (J5 (.bool (X3 s)) G) := by
 refine C7 Tryz.func152 rfl Tryz.ntmps152 Tryz.results152 rfl ?_
 intro w0
 refine E7 ?_
 refine sQ (A2o rfl rfl) rfl (sB (qE rfl rfl) rfl rfl (fun h10 => ?_) (fun h10 => ?_))
 refine A4 ?_
 refine sP (A4w rfl rfl rfl zW (A4I zW)) rfl rfl ?_
 refine sB (A0W rfl rfl) rfl rfl (fun h14 => ?_) (fun h14 => ?_)
 refine B3 ?_
 refine sP (A4w rfl rfl rfl zW (A4I zW)) rfl rfl ?_
 refine sB (A0b rfl rfl) rfl rfl (fun h19 => ?_) (fun h19 => ?_)
 refine A7 ?_
 exact ⟨rfl, by simp only [X3]; (try simp only [Int.toNat_zero] at *); (first | rw [decide_eq_true zW] | rw [decide_eq_false zW]), rfl⟩
 refine A7 ?_
 exact ⟨rfl, by simp only [X3]; (try simp only [Int.toNat_zero] at *); (first | rw [decide_eq_true zW] | rw [decide_eq_false zW]), rfl⟩
 refine I3 ?_
 exact ⟨rfl, by simp only [X3]; (try simp only [Int.toNat_zero] at *); (first | rw [decide_eq_true zW] | rw [decide_eq_false zW]), rfl⟩
 refine K4 ?_
 exact ⟨rfl, by simp only [X3]; (try simp only [Int.toNat_zero] at *); (first | rw [decide_eq_true zW] | rw [decide_eq_false zW]), rfl⟩
theorem A3R (G : IM) (e : List Value) (d : Int) (b : Bool) (bd : Nat) (hl : e.length = 2) (hd : 0 ≤ d ∧ d ≤ 5) (h : Fn Tryz.prog 118 [.agg ⟨e⟩, .int .i64 (d + 1)] [] G (J5 (.bool b) G)) :
  Fn Tryz.prog 161 [.agg ⟨e⟩, .pointer (some ⟨bd, 0, none⟩)] [.blk bd [.int .i64 d]] G (T8 (.bool (!b)) [.blk bd [.int .i64 d]] G) := by
 refine C7 Tryz.func161 rfl Tryz.ntmps161 Tryz.results161 rfl ?_
 intro w0
 refine A4 ?_
 refine sE (D5 rfl rfl) rfl (fun b3 => ?_)
 refine A9 ?_
 refine sL (A5 rfl rfl (B7 zP) zT) rfl rfl ?_
 refine F8 ?_
 refine sP (K9 rfl rfl zW zW) rfl rfl ?_
 refine J0 rfl (h) rfl rfl (fun h12 => ?_) (fun h12 => ?_)
 refine A9 ?_
 refine H7 (rT rfl) (A2.cons (Pk.there Pk.here) A2.nil) ?_
 exact ⟨rfl, by simp [*], rfl⟩
 refine A9 ?_
 refine H7 (rT rfl) (A2.cons (Pk.there Pk.here) A2.nil) ?_
 exact ⟨rfl, by simp [*], rfl⟩
theorem B3C : ∀ (t : Ty) (d : Int) (G : IM) (cells : List Value), 0 ≤ d ∧ d ≤ 5 → B8 G t cells →
  Fn Tryz.prog 118 [.agg ⟨cells⟩, .int .i64 d] [] G (J5 (.bool (L8 t d)) G) := by
 refine Ty.ind fun k ks ih d G cells hd hr => ?_
 obtain ⟨p, c, es, rfl, hk, hsl, hkl⟩ := hr.open
 simp only [Ty.k, Ty.ks] at hk hsl hkl ⊢
 have hn := hsl.le
 obtain ⟨A, hA⟩ : ∃ A, ks.all (L8 · (d + 1)) = A := ⟨_, rfl⟩
 refine C7 Tryz.func118 rfl Tryz.ntmps118 Tryz.results118 rfl ?_
 intro w0
 refine A4 ?_
 refine sE (D5 rfl rfl) rfl (fun b3 => ?_)
 (refine J1 (B2A rfl rfl rfl) rfl ?_; rintro _ ⟨b4, rfl⟩)
 refine K4 ?_
 refine C2 (tS (tS (tR (sB (qE rfl rfl) rfl rfl (fun h24 => ?_) (fun h24 => ?_)))))
 refine K4 ?_
 refine sB (A0b rfl rfl) rfl rfl (fun h40 => ?_) (fun h40 => ?_)
 refine A9 ?_
 refine sB (qE rfl rfl) rfl rfl (fun h46 => ?_) (fun h46 => ?_)
 refine C3 ?_
 refine sQ (A2S rfl rfl) rfl (A3J rfl (A3Q _ _ _ _ _ hsl _ [] _ [.blk b4 [.int .i64 d]] (L8 · (d + 1)) ks rfl hA (fun i e he => A3R _ _ _ _ _ (hsl.all e (List.mem_of_getElem? he)) hd (ih _ (hkl.inv he B4).1 _ _ _ zW (hkl.inv he B4).2))) A00 rfl rfl (fun h52 => ?_) (fun h52 => ?_))
 simp only [Bool.not_eq_true', Bool.not_eq_false'] at h52
 exact y1
 simp only [Bool.not_eq_true', Bool.not_eq_false'] at h52
 exact y1
 refine J2 ?_
 exact ⟨rfl, zE, rfl⟩
 refine A01 ?_
 exact ⟨rfl, zE, rfl⟩
 refine A7 ?_
 refine sB (qE rfl rfl) rfl rfl (fun h109 => ?_) (fun h109 => ?_)
 refine K4 ?_
 refine sB (A0b rfl rfl) rfl rfl (fun h125 => ?_) (fun h125 => ?_)
 refine A9 ?_
 refine sB (qE rfl rfl) rfl rfl (fun h131 => ?_) (fun h131 => ?_)
 refine C3 ?_
 refine sQ (A2S rfl rfl) rfl (A3J rfl (A3Q _ _ _ _ _ hsl _ [] _ [.blk b4 [.int .i64 d]] (L8 · (d + 1)) ks rfl hA (fun i e he => A3R _ _ _ _ _ (hsl.all e (List.mem_of_getElem? he)) hd (ih _ (hkl.inv he B4).1 _ _ _ zW (hkl.inv he B4).2))) A00 rfl rfl (fun h137 => ?_) (fun h137 => ?_))
 simp only [Bool.not_eq_true', Bool.not_eq_false'] at h137
 exact y1
 simp only [Bool.not_eq_true', Bool.not_eq_false'] at h137
 exact y1
 refine J2 ?_
 exact ⟨rfl, zE, rfl⟩
 refine A01 ?_
 exact ⟨rfl, zE, rfl⟩
 refine A9 ?_
 refine sB (qE rfl rfl) rfl rfl (fun h193 => ?_) (fun h193 => ?_)
 refine N8 ?_
 refine sB (A0b rfl rfl) rfl rfl (fun h206 => ?_) (fun h206 => ?_)
 refine A9 ?_
 refine sB (qE rfl rfl) rfl rfl (fun h212 => ?_) (fun h212 => ?_)
 refine C3 ?_
 refine sQ (A2S rfl rfl) rfl (A3J rfl (A3Q _ _ _ _ _ hsl _ [] _ [.blk b4 [.int .i64 d]] (L8 · (d + 1)) ks rfl hA (fun i e he => A3R _ _ _ _ _ (hsl.all e (List.mem_of_getElem? he)) hd (ih _ (hkl.inv he B4).1 _ _ _ zW (hkl.inv he B4).2))) A00 rfl rfl (fun h218 => ?_) (fun h218 => ?_))
 simp only [Bool.not_eq_true', Bool.not_eq_false'] at h218
 exact y1
 simp only [Bool.not_eq_true', Bool.not_eq_false'] at h218
 exact y1
 refine J2 ?_
 exact ⟨rfl, zE, rfl⟩
 refine A01 ?_
 exact ⟨rfl, zE, rfl⟩
 refine B5 ?_
 refine sB (qE rfl rfl) rfl rfl (fun h276 => ?_) (fun h276 => ?_)
 refine K4 ?_
 refine sB (A0b rfl rfl) rfl rfl (fun h292 => ?_) (fun h292 => ?_)
 refine A9 ?_
 refine sB (qE rfl rfl) rfl rfl (fun h298 => ?_) (fun h298 => ?_)
 refine C3 ?_
 refine sQ (A2S rfl rfl) rfl (A3J rfl (A3Q _ _ _ _ _ hsl _ [] _ [.blk b4 [.int .i64 d]] (L8 · (d + 1)) ks rfl hA (fun i e he => A3R _ _ _ _ _ (hsl.all e (List.mem_of_getElem? he)) hd (ih _ (hkl.inv he B4).1 _ _ _ zW (hkl.inv he B4).2))) A00 rfl rfl (fun h304 => ?_) (fun h304 => ?_))
 simp only [Bool.not_eq_true', Bool.not_eq_false'] at h304
 exact y1
 simp only [Bool.not_eq_true', Bool.not_eq_false'] at h304
 exact y1
 refine J2 ?_
 exact ⟨rfl, zE, rfl⟩
 refine A01 ?_
 exact ⟨rfl, zE, rfl⟩
 refine A9 ?_
 refine sB (qE rfl rfl) rfl rfl (fun h360 => ?_) (fun h360 => ?_)
 refine N8 ?_
 refine sB (A0b rfl rfl) rfl rfl (fun h373 => ?_) (fun h373 => ?_)
 refine A9 ?_
 refine sB (qE rfl rfl) rfl rfl (fun h379 => ?_) (fun h379 => ?_)
 refine C3 ?_
 refine sQ (A2S rfl rfl) rfl (A3J rfl (A3Q _ _ _ _ _ hsl _ [] _ [.blk b4 [.int .i64 d]] (L8 · (d + 1)) ks rfl hA (fun i e he => A3R _ _ _ _ _ (hsl.all e (List.mem_of_getElem? he)) hd (ih _ (hkl.inv he B4).1 _ _ _ zW (hkl.inv he B4).2))) A00 rfl rfl (fun h385 => ?_) (fun h385 => ?_))
 simp only [Bool.not_eq_true', Bool.not_eq_false'] at h385
 exact y1
 simp only [Bool.not_eq_true', Bool.not_eq_false'] at h385
 exact y1
 refine J2 ?_
 exact ⟨rfl, zE, rfl⟩
 refine A01 ?_
 exact ⟨rfl, zE, rfl⟩
 refine I2 ?_
 refine sB (A0b rfl rfl) rfl rfl (fun h446 => ?_) (fun h446 => ?_)
 refine A9 ?_
 refine sP (F0 rfl rfl zW) rfl rfl ?_
 refine J2 ?_
 exact ⟨rfl, zE, rfl⟩
 refine A01 ?_
 exact ⟨rfl, zE, rfl⟩
theorem A4S (t : Ty) (G : IM) (cells : List Value) (hr : B8 G t cells) : Fn Tryz.prog 64 [.agg ⟨cells⟩] [] G (J5 (.bool (M1 t)) G) := by
 have hl := hr.len
 have hv := B3C t 1 G cells zW hr
 refine C7 Tryz.func64 rfl Tryz.ntmps64 Tryz.results64 rfl ?_
 intro w0
 refine A4 ?_
 refine sE (D5 rfl rfl) rfl (fun b3 => ?_)
 refine A9 ?_
 refine sL (A5 rfl rfl (B7 zP) zT) rfl rfl ?_
 refine E6 rfl (hv) rfl rfl ?_
 refine A9 ?_
 exact ⟨rfl, rfl, rfl⟩
theorem Y0 : ∀ (t t' : Ty) (G : IM) (cells cells' : List Value), B8 G t cells → B8 G t' cells' →
  Fn Tryz.prog 116 [.agg ⟨cells⟩, .agg ⟨cells'⟩] [] G (J5 (.bool (O8 t t')) G) := by
 refine Ty.ind fun k ks ih t' G cells cells' hr hr' => ?_
 obtain ⟨k', ks'⟩ := t'
 obtain ⟨p, c, es, rfl, hk, hsl, hkl⟩ := hr.open
 obtain ⟨p', c', es', rfl, hk', hsl', hkl'⟩ := hr'.open
 simp only [Ty.k, Ty.ks] at hk hsl hkl hk' hsl' hkl' ⊢
 have hn := hsl.le
 have hn' := hsl'.le
 obtain ⟨A, hA⟩ : ∃ A, T0 ks ks' = A := ⟨_, rfl⟩
 have hA' : A = true ↔ ks.length = ks'.length ∧ ∀ i, i < ks.length → O8 (ks.getD i B4) (ks'.getD i B4) = true := by
  rw [← hA, A2u]
  constructor
  ·rintro ⟨h1, h2⟩
   refine ⟨h1, fun i hi => ?_⟩
   have := h2 i hi zW
   simpa [List.getD_eq_getElem?_getD, List.getElem?_eq_getElem hi, List.getElem?_eq_getElem (show i < ks'.length by omega)] using this
  ·rintro ⟨h1, h2⟩
   refine ⟨h1, fun i hi hi' => ?_⟩
   have := h2 i hi
   simpa [List.getD_eq_getElem?_getD, List.getElem?_eq_getElem hi, List.getElem?_eq_getElem hi'] using this
 refine C7 Tryz.func116 rfl Tryz.ntmps116 Tryz.results116 rfl ?_
 intro w0
 refine A4 ?_
 refine sE (D5 rfl rfl) rfl (fun b3 => ?_)
 refine sE (D5 rfl rfl) rfl (fun b4 => ?_)
 refine B5 ?_
 refine sB (qE rfl rfl) rfl rfl (fun h12 => ?_) (fun h12 => ?_)
 refine A1U ?_
 exact ⟨rfl, zB, rfl⟩
 refine B3 ?_
 refine sB (qE rfl rfl) rfl rfl (fun h41 => ?_) (fun h41 => ?_)
 refine A0n ?_
 exact ⟨rfl, zB, rfl⟩
 refine A7 ?_
 refine sB (qE rfl rfl) rfl rfl (fun h69 => ?_) (fun h69 => ?_)
 refine A9 ?_
 refine J0 rfl (A6h _ _ _ _ _ _ _ _ _ hsl hsl' _ [] [] [] (fun i => O8 (ks.getD i B4) (ks'.getD i B4)) A hA' (fun i e e' he he' => ih _ (hkl.inv he B4).1 _ _ _ _ (hkl.inv he B4).2 (hkl'.inv he' B4).2)) rfl rfl (fun h75 => ?_) (fun h75 => ?_)
 refine B5 ?_
 exact ⟨rfl, zB, rfl⟩
 refine B5 ?_
 exact ⟨rfl, zB, rfl⟩
 refine J2 ?_
 exact ⟨rfl, zB, rfl⟩
theorem B3D (t t' : Ty) (G : IM) (cells cells' : List Value) (hr : B8 G t cells) (hr' : B8 G t' cells') :
  Fn Tryz.prog 154 [.agg ⟨cells⟩, .agg ⟨cells'⟩] [] G (J5 (.bool (A0F t t')) G) := by
 have hl := hr.len
 have hl' := hr'.len
 have hv := A4S t G cells hr
 have hv' := A4S t' G cells' hr'
 have hc := Y0 t t' G cells cells' hr hr'
 refine C7 Tryz.func154 rfl Tryz.ntmps154 Tryz.results154 rfl ?_
 intro w0
 refine A4 ?_
 refine sE (D5 rfl rfl) rfl (fun b3 => ?_)
 refine sE (D5 rfl rfl) rfl (fun b4 => ?_)
 refine A9 ?_
 refine sL (A5 rfl rfl (B7 zP) zT) rfl rfl ?_
 refine J0 rfl (hv) rfl rfl (fun h11 => ?_) (fun h11 => ?_)
 refine F8 ?_
 refine sL (A5 rfl rfl (B7 zP) zT) rfl rfl ?_
 refine J0 rfl (hv') rfl rfl (fun h14 => ?_) (fun h14 => ?_)
 refine A4 ?_
 refine sL (A5 rfl rfl (B7 zP) zT) rfl rfl ?_
 refine sL (A5 rfl rfl (B7 zP) zT) rfl rfl ?_
 refine J0 rfl (hc) rfl rfl (fun h19 => ?_) (fun h19 => ?_)
 refine A7 ?_
 exact ⟨rfl, by simp only [A0F]; simp only [*, Bool.true_and, Bool.false_and, Bool.and_true], rfl⟩
 refine A7 ?_
 exact ⟨rfl, by simp only [A0F]; simp only [*, Bool.true_and, Bool.false_and, Bool.and_true], rfl⟩
 refine I3 ?_
 exact ⟨rfl, by simp only [A0F]; simp only [*, Bool.true_and, Bool.false_and, Bool.and_true], rfl⟩
 refine N1 ?_
 exact ⟨rfl, by simp only [A0F]; simp only [*, Bool.true_and, Bool.false_and, Bool.and_true], rfl⟩
theorem B3E (k : Int) (G : IM) (hk : E8 k) : Fn Tryz.prog 151 [.int .i64 k] [] G (J5 (.int .i64 (F7 k)) G) := by
 unfold E8 at hk
 refine C7 Tryz.func151 rfl Tryz.ntmps151 Tryz.results151 rfl ?_
 intro w0
 refine D9 ?_
 refine J0 rfl (A1f _ _ _ _) rfl rfl (fun h10 => ?_) (fun h10 => ?_)
 refine E7 ?_
 (refine J1 (C9 rfl rfl rfl zW zR rfl) rfl ?_; rintro _ ⟨b19, rfl⟩)
 refine F8 ?_
 (have hkk : 1 ≤ k ∧ k ≤ 14 := A8f zT; refine sP (O7 rfl rfl zW zW) rfl rfl ?_)
 refine sP (A7T rfl rfl rfl zW zW) rfl rfl ?_
 refine sL (S0 rfl rfl (B2w zP (B24 (by rw [Nat.zero_add, Nat.mul_one]; exact B23 hkk)))) rfl rfl ?_
 refine A9 ?_
 exact ⟨rfl, rfl, rfl⟩
 refine N8 ?_
 exact ⟨rfl, by rw [A3L (A8g zT)], rfl⟩
theorem B3F (k : Int) (nm : ByteArray) (num : Int) (ty fr : Ty) (lb : Int) (ks : List Tm) (G : IM) (cells : List Value) (hr : B6 G (.mk k nm num ty fr lb ks) cells) :
  Fn Tryz.prog 108 [.agg ⟨cells⟩] [] G (J5 (.bool (T3 k nm num ty fr lb ks.length)) G) := by
 obtain ⟨tk, tks⟩ := ty
 obtain ⟨fk, fks⟩ := fr
 obtain ⟨pt, ct, pf, cf, p, c, es, rfl, hk, hnum, hlb, hty, hfr, hsl, hkl⟩ := hr.open9
 have hi := @X4 k nm num (.mk tk tks) (.mk fk fks) lb ks.length
 obtain ⟨R, hR⟩ : ∃ R, T3 k nm num (.mk tk tks) (.mk fk fks) lb ks.length = R := ⟨_, rfl⟩
 rw [hR] at hi ⊢
 clear hR hr
 have o1 := B3E k G hk
 have o2 := B3B nm G
 have o3 := A4S _ G _ hty
 have o4 := A8H _ G _ hty
 have o5 := B3D _ _ G _ _ hfr hty
 have o6 := B3A lb G
 have o7 := A8H _ G _ hfr
 refine C7 Tryz.func108 rfl Tryz.ntmps108 Tryz.results108 rfl ?_
 intro w0
 refine A4 ?_
 refine sE (D5 rfl rfl) rfl (fun b3 => ?_)
 refine A9 ?_
 refine D2 D3 rfl ?_
 refine H1 (i := 0) (l' := [tt,ff,ff,ff,ff,ff,ff]) rfl C8 (C0 rfl) rfl zU rfl rfl ?_
 refine aL 1 rfl (D4 rfl rfl) rfl ?_
 refine aP 3 rfl (C0 rfl) rfl ?_
 refine aL 4 rfl (D4 rfl rfl) rfl ?_
 refine aP 5 rfl (pLn rfl rfl) rfl ?_
 refine A1 2 ?_
 refine L1 rfl rfl (o1) rfl rfl rfl ?_
 refine A0x (i := 6) (l' := [tt,tt,tt,tt,tt,tt,tt]) rfl C8 (R7 rfl rfl) rfl zU rfl rfl (fun h17 => ?_) (fun h17 => ?_)
 refine I3 ?_
 exact ⟨rfl, zA, rfl⟩
 refine D9 ?_
 refine sB (qE rfl rfl) rfl rfl (fun h39 => ?_) (fun h39 => ?_)
 refine N8 ?_
 refine sP (F0 rfl rfl zW) rfl rfl ?_
 refine B3 ?_
 refine sP (F0 rfl rfl zW) rfl rfl ?_
 refine C3 ?_
 refine sP (F0 rfl rfl zW) rfl rfl ?_
 refine E7 ?_
 refine sP (F0 rfl rfl zW) rfl rfl ?_
 refine J2 ?_
 refine sP (F0 rfl rfl zW) rfl rfl ?_
 refine A7 ?_
 refine C2 ?_
 refine B5 ?_
 refine J0 rfl (o2) rfl rfl (fun h99 => ?_) (fun h99 => ?_)
 refine A2s ?_
 refine J0 rfl (A1f _ _ _ _) rfl rfl (fun h123 => ?_) (fun h123 => ?_)
 refine A5Z ?_
 refine J0 rfl (o4) rfl rfl (fun h149 => ?_) (fun h149 => ?_)
 refine X9 ?_
 refine C3 ?_
 refine J0 rfl (o7) rfl rfl (fun h184 => ?_) (fun h184 => ?_)
 refine C3 ?_
 refine sB (R7 rfl rfl) rfl rfl (fun h189 => ?_) (fun h189 => ?_)
 refine K4 ?_
 exact ⟨rfl, zA, rfl⟩
 exact y0
 refine A0n ?_
 exact ⟨rfl, zA, rfl⟩
 refine K4 ?_
 exact ⟨rfl, zA, rfl⟩
 refine N1 ?_
 exact ⟨rfl, zA, rfl⟩
 refine X8 ?_
 exact ⟨rfl, zA, rfl⟩
 refine B3 ?_
 refine sB (qE rfl rfl) rfl rfl (fun h297 => ?_) (fun h297 => ?_)
 refine E7 ?_
 refine sP (L9 rfl rfl zW) rfl rfl ?_
 refine P6 ?_
 refine sP (F0 rfl rfl zW) rfl rfl ?_
 refine J2 ?_
 refine sP (F0 rfl rfl zW) rfl rfl ?_
 refine A7 ?_
 refine C2 ?_
 refine B5 ?_
 refine J0 rfl (o2) rfl rfl (fun h353 => ?_) (fun h353 => ?_)
 refine A2s ?_
 refine J0 rfl (A1f _ _ _ _) rfl rfl (fun h377 => ?_) (fun h377 => ?_)
 refine N8 ?_
 refine J0 rfl (o3) rfl rfl (fun h390 => ?_) (fun h390 => ?_)
 refine X9 ?_
 refine P6 ?_
 refine J0 rfl (o7) rfl rfl (fun h438 => ?_) (fun h438 => ?_)
 refine C3 ?_
 refine sB (R7 rfl rfl) rfl rfl (fun h443 => ?_) (fun h443 => ?_)
 refine K4 ?_
 exact ⟨rfl, zA, rfl⟩
 exact y0
 refine A0n ?_
 exact ⟨rfl, zA, rfl⟩
 refine X8 ?_
 exact ⟨rfl, zA, rfl⟩
 refine N1 ?_
 exact ⟨rfl, zA, rfl⟩
 refine X8 ?_
 exact ⟨rfl, zA, rfl⟩
 refine E7 ?_
 refine sP (F0 rfl rfl zW) rfl rfl ?_
 refine B3 ?_
 refine sB (qE rfl rfl) rfl rfl (fun h563 => ?_) (fun h563 => ?_)
 refine J2 ?_
 refine sP (F0 rfl rfl zW) rfl rfl ?_
 refine J2 ?_
 refine sP (F0 rfl rfl zW) rfl rfl ?_
 refine A7 ?_
 refine C2 ?_
 refine A0c ?_
 refine sB (A2p rfl rfl) rfl rfl (fun h620 => ?_) (fun h620 => ?_)
 refine P6 ?_
 exact ⟨rfl, zA, rfl⟩
 refine D9 ?_
 refine J0 rfl (A1f _ _ _ _) rfl rfl (fun h648 => ?_) (fun h648 => ?_)
 refine N8 ?_
 refine J0 rfl (o3) rfl rfl (fun h661 => ?_) (fun h661 => ?_)
 refine X9 ?_
 refine P6 ?_
 refine J0 rfl (o7) rfl rfl (fun h709 => ?_) (fun h709 => ?_)
 refine C3 ?_
 refine sB (R7 rfl rfl) rfl rfl (fun h714 => ?_) (fun h714 => ?_)
 refine K4 ?_
 exact ⟨rfl, zA, rfl⟩
 exact y0
 refine A0n ?_
 exact ⟨rfl, zA, rfl⟩
 refine X8 ?_
 exact ⟨rfl, zA, rfl⟩
 refine N1 ?_
 exact ⟨rfl, zA, rfl⟩
 refine C3 ?_
 refine sB (qE rfl rfl) rfl rfl (fun h807 => ?_) (fun h807 => ?_)
 refine E7 ?_
 refine sP (L9 rfl rfl zW) rfl rfl ?_
 refine J2 ?_
 refine sP (F0 rfl rfl zW) rfl rfl ?_
 refine A7 ?_
 refine C2 ?_
 refine A0c ?_
 refine sB (A2p rfl rfl) rfl rfl (fun h859 => ?_) (fun h859 => ?_)
 refine P6 ?_
 exact ⟨rfl, zA, rfl⟩
 refine D9 ?_
 refine J0 rfl (A1f _ _ _ _) rfl rfl (fun h887 => ?_) (fun h887 => ?_)
 refine N8 ?_
 refine J0 rfl (o3) rfl rfl (fun h900 => ?_) (fun h900 => ?_)
 refine A8b ?_
 refine J0 rfl (o5) rfl rfl (fun h929 => ?_) (fun h929 => ?_)
 refine C3 ?_
 refine J0 rfl (o6) rfl rfl (fun h934 => ?_) (fun h934 => ?_)
 refine X9 ?_
 refine A9 ?_
 exact ⟨rfl, by rw [hi.2 ⟨by omega, fun _ => zL, fun _ => zL, fun _ => zL, fun _ => zL, fun _ => zL, fun _ => zL, fun _ => ⟨by (first | assumption | (exfalso; omega)), by (first | assumption | (exfalso; omega))⟩, fun _ => ⟨by (first | assumption | (exfalso; omega)), by (first | assumption | omega)⟩⟩], rfl⟩
 refine A01 ?_
 exact ⟨rfl, zA, rfl⟩
 refine A1U ?_
 exact ⟨rfl, zA, rfl⟩
 refine X8 ?_
 exact ⟨rfl, zA, rfl⟩
 refine N1 ?_
 exact ⟨rfl, zA, rfl⟩
 refine E7 ?_
 refine sP (F0 rfl rfl zW) rfl rfl ?_
 refine J2 ?_
 refine sB (qE rfl rfl) rfl rfl (fun h1072 => ?_) (fun h1072 => ?_)
 refine E7 ?_
 refine C2 ?_
 refine A0c ?_
 refine sB (A2p rfl rfl) rfl rfl (fun h1103 => ?_) (fun h1103 => ?_)
 refine P6 ?_
 exact ⟨rfl, zA, rfl⟩
 refine D9 ?_
 refine J0 rfl (A1f _ _ _ _) rfl rfl (fun h1131 => ?_) (fun h1131 => ?_)
 refine A5Z ?_
 refine J0 rfl (o4) rfl rfl (fun h1157 => ?_) (fun h1157 => ?_)
 refine X9 ?_
 refine C3 ?_
 refine J0 rfl (o7) rfl rfl (fun h1192 => ?_) (fun h1192 => ?_)
 refine C3 ?_
 refine sB (R7 rfl rfl) rfl rfl (fun h1197 => ?_) (fun h1197 => ?_)
 refine K4 ?_
 exact ⟨rfl, zA, rfl⟩
 exact y0
 refine A0n ?_
 exact ⟨rfl, zA, rfl⟩
 refine K4 ?_
 exact ⟨rfl, zA, rfl⟩
 refine N1 ?_
 exact ⟨rfl, zA, rfl⟩
 refine A7 ?_
 refine C2 ?_
 refine A0c ?_
 refine sB (A2p rfl rfl) rfl rfl (fun h1311 => ?_) (fun h1311 => ?_)
 refine P6 ?_
 exact ⟨rfl, zA, rfl⟩
 refine D9 ?_
 refine J0 rfl (A1f _ _ _ _) rfl rfl (fun h1339 => ?_) (fun h1339 => ?_)
 refine A5Z ?_
 refine J0 rfl (o4) rfl rfl (fun h1365 => ?_) (fun h1365 => ?_)
 refine X9 ?_
 refine C3 ?_
 refine J0 rfl (o7) rfl rfl (fun h1400 => ?_) (fun h1400 => ?_)
 refine C3 ?_
 refine sB (R7 rfl rfl) rfl rfl (fun h1405 => ?_) (fun h1405 => ?_)
 refine K4 ?_
 exact ⟨rfl, zA, rfl⟩
 exact y0
 refine A0n ?_
 exact ⟨rfl, zA, rfl⟩
 refine K4 ?_
 exact ⟨rfl, zA, rfl⟩
 refine N1 ?_
 exact ⟨rfl, zA, rfl⟩
end Gw
end Go.Proofs.YtmceanphadildaaGreatDoor
