/-
  The data of the program: types and terms as trees, and how they lie in memory.
-/
import Derived.Test.YtbdacdnffkhgeaaGreatDoorKz510
import Derived.Laws.BytesArg
import Derived.WalkKit
import Derived.ProofKit
import Derived.OpenShut
import Derived.Carry
import Derived.Test.YtbdacdnffkhgeaaGreatDoorShelf
import Derived.Lib.ItoaNum
import Derived.Lib.LaidTab
import Derived.Test.YtbdacdnffkhgeaaGreatDoorRows
import Derived.Deep.DeepHandedRow
import Derived.Stop.LaidErr
set_option linter.unusedVariables false
set_option linter.unusedSimpArgs false
set_option maxHeartbeats 0
set_option maxRecDepth 100000
set_option synthInstance.maxSize 4000
set_option synthInstance.maxHeartbeats 0
namespace Go.Proofs.YtbdacdnffkhgeaaGreatDoor
open Go Go.RowKit
namespace Gw
theorem y0 {p : Prop} (h : p := by
  refine N3 ?_
  exact ⟨rfl, by rw [hi.2 ⟨by omega, fun _ => zB0, fun _ => zB0, fun _ => zB0, fun _ => zB0, fun _ => zB0, fun _ => zB0, fun _ => ⟨zH0, zH0⟩, fun _ => ⟨zH0, by (first | assumption | omega)⟩⟩], rfl⟩
) : p := h
theorem y1 {p : Prop} (h : p := by
  refine B0 ?_
  exact ⟨rfl, zH, rfl⟩
) : p := h

structure D7 (G : IM) (p : Option Addr) (n c sz : Nat) (es : List (List Value)) : Prop where
 sl : Sl G p n c sz es.flatten
 len : es.length = n
 all : ∀ e ∈ es, e.length = sz
 one : ∀ e ∈ es, e.all (·.oneCell') = true

theorem D7.mono {G G' : IM} {p : Option Addr} {n c sz : Nat} {es : List (List Value)} (h : D7 G p n c sz es) (hg : B9 G G') : D7 G' p n c sz es := ⟨h.sl.mono hg, h.len, h.all, h.one⟩
theorem D7.nil (G : IM) (sz : Nat) : D7 G none 0 0 sz [] := ⟨Sl.nil G sz, rfl, by simp, by simp⟩

theorem A8Y {sz : Nat} : ∀ {es : List (List Value)}, (∀ e ∈ es, e.length = sz) → ∀ {i : Nat} {e : List Value}, es[i]? = some e → ∀ j v, e[j]? = some v → es.flatten[i * sz + j]? = some v
 | [], _, i, e, h, _, _, _ => by simp at h
 | a :: r, hall, 0, e, h, j, v, hv => by
  simp at h; subst h
  have : j < a.length := (List.getElem?_eq_some_iff.1 hv).1
  simp [List.getElem?_append, this]
  simpa [List.getElem?_eq_getElem this] using hv
 | a :: r, hall, i + 1, e, h, j, v, hv => by
  have ih := A8Y (es := r) (fun x hx => hall x (List.mem_cons_of_mem _ hx)) (i := i) (e := e) (by simpa using h) j v hv
  have ha := hall a List.mem_cons_self
  rw [List.flatten_cons, List.getElem?_append, if_neg (by rw [ha, Nat.succ_mul]; omega)]
  rw [show (i + 1) * sz + j - a.length = i * sz + j by rw [ha, Nat.succ_mul]; omega]
  exact ih

theorem D7.at {G : IM} {p : Option Addr} {n c sz : Nat} {es : List (List Value)} (h : D7 G p n c sz es) {i : Nat} {e : List Value} (hi : es[i]? = some e) :
  ∃ b o, p = some ⟨b, o, none⟩ ∧ ∀ hp, At hp G b (o + i * sz) e := by
 have hlt : i < es.length := (List.getElem?_eq_some_iff.1 hi).1
 obtain ⟨_, _, _, h4⟩ := h.sl
 have hn := h.len
 rcases h4 with h0 | ⟨b, o, full, hp, hg, hf⟩
 ·omega
 ·refine ⟨b, o, hp, fun hp => A2Z hg fun j v hv => ?_⟩
  rw [Nat.add_assoc]
  exact hf _ v (A8Y h.all hi j v hv)

theorem D7.get {G : IM} {p : Option Addr} {n c sz : Nat} {es : List (List Value)} (h : D7 G p n c sz es) {i : Nat} (hi : i < n) :
  ∃ e b o, es[i]? = some e ∧ p = some ⟨b, o, none⟩ ∧ e.length = sz ∧ e.all (·.oneCell') = true ∧ (∀ hp, At hp G b (o + i * sz) e) ∧ G b ≠ none := by
 have hlt : i < es.length := by rw [h.len]; exact hi
 have he : es[i]? = some es[i] := List.getElem?_eq_getElem hlt
 obtain ⟨b, o, h1, h2⟩ := h.at he
 refine ⟨es[i], b, o, he, h1, h.all _ (List.getElem_mem hlt), h.one _ (List.getElem_mem hlt), h2, ?_⟩
 obtain ⟨_, _, _, h4⟩ := h.sl
 rcases h4 with h0 | ⟨b', o', full, hp, hg, hf⟩
 ·omega
 ·rw [h1] at hp; cases hp; rw [hg]; simp
theorem D7.le {G : IM} {p : Option Addr} {n c sz : Nat} {es : List (List Value)} (h : D7 G p n c sz es) : n ≤ 9223372036854775807 := by
 have h1 := h.sl.2.1; have h2 := h.sl.2.2.1; unfold maxLen at h2; omega

theorem D7.of {G : IM} {p : Option Addr} {n c sz : Nat} {es : List (List Value)} (h : Sl G p n c sz es.flatten) (hl : es.length = n) (ha : ∀ e ∈ es, e.length = sz) (ho : ∀ e ∈ es, e.all (·.oneCell') = true) : D7 G p n c sz es := ⟨h, hl, ha, ho⟩

def H6 (n : Int) : Prop := -9223372036854775808 ≤ n ∧ n ≤ 9223372036854775807

inductive Ty where
 | mk (k : Int) (ks : List Ty)

def Ty.k : Ty → Int | .mk k _ => k
def Ty.ks : Ty → List Ty | .mk _ ks => ks

inductive Tm where
 | mk (k : Int) (nm : ByteArray) (num : Int) (ty fr : Ty) (lb : Int) (ks : List Tm)

def Tm.k : Tm → Int | .mk k _ _ _ _ _ _ => k
def Tm.nm : Tm → ByteArray | .mk _ n _ _ _ _ _ => n
def Tm.num : Tm → Int | .mk _ _ n _ _ _ _ => n
def Tm.ty : Tm → Ty | .mk _ _ _ t _ _ _ => t
def Tm.fr : Tm → Ty | .mk _ _ _ _ f _ _ => f
def Tm.lb : Tm → Int | .mk _ _ _ _ _ l _ => l
def Tm.ks : Tm → List Tm | .mk _ _ _ _ _ _ ks => ks

mutual
def Ty.small : Ty → Prop
 | .mk _ ks => ks.length ≤ 4294967296 ∧ Ty.smallL ks
def Ty.smallL : List Ty → Prop
 | [] => True
 | t :: ts => t.small ∧ Ty.smallL ts
end
mutual
def Tm.small : Tm → Prop
 | .mk _ nm _ ty fr _ ks => nm.size ≤ 4294967296 ∧ ty.small ∧ fr.small ∧ ks.length ≤ 4294967296 ∧ Tm.smallL ks
def Tm.smallL : List Tm → Prop
 | [] => True
 | t :: ts => t.small ∧ Tm.smallL ts
end
theorem Ty.smallL_mem : ∀ {ts : List Ty}, Ty.smallL ts → ∀ t ∈ ts, t.small
 | [], _, t, h => by simp at h
 | t' :: ts, h, t, ht => by
  simp only [Ty.smallL] at h
  rcases List.mem_cons.1 ht with rfl | ht
  ·exact h.1
  ·exact Ty.smallL_mem h.2 t ht
theorem Tm.smallL_mem : ∀ {ts : List Tm}, Tm.smallL ts → ∀ t ∈ ts, t.small
 | [], _, t, h => by simp at h
 | t' :: ts, h, t, ht => by
  simp only [Tm.smallL] at h
  rcases List.mem_cons.1 ht with rfl | ht
  ·exact h.1
  ·exact Tm.smallL_mem h.2 t ht

mutual
def C7 (G : IM) : Ty → List Value → Prop
 | .mk k ks, cells => ∃ p c es, cells = [.int .i64 k, .slice p ks.length c] ∧ H6 k ∧ D7 G p ks.length c 2 es ∧ D9 G ks es
def D9 (G : IM) : List Ty → List (List Value) → Prop
 | [], es => es = []
 | t :: ts, es => ∃ a r, es = a :: r ∧ C7 G t a ∧ D9 G ts r
end

mutual
def B7 (G : IM) : Tm → List Value → Prop
 | .mk k nm num ty fr lb ks, cells => ∃ tc fc p c es, cells = [.int .i64 k, .string nm, .int .i64 num] ++ tc ++ fc ++ [.int .i64 lb, .slice p ks.length c] ∧ H6 k ∧ H6 num ∧ H6 lb ∧ C7 G ty tc ∧ C7 G fr fc ∧ D7 G p ks.length c 9 es ∧ F9 G ks es
def F9 (G : IM) : List Tm → List (List Value) → Prop
 | [], es => es = []
 | t :: ts, es => ∃ a r, es = a :: r ∧ B7 G t a ∧ F9 G ts r
end

mutual
theorem C7.mono {G G' : IM} (hg : B9 G G') : ∀ {t : Ty} {cells : List Value}, C7 G t cells → C7 G' t cells
 | .mk k ks, cells, h => by
  simp only [C7] at h ⊢
  obtain ⟨p, c, es, h1, h2, h3, h4⟩ := h
  exact ⟨p, c, es, h1, h2, h3.mono hg, D9.mono hg h4⟩
theorem D9.mono {G G' : IM} (hg : B9 G G') : ∀ {ts : List Ty} {es : List (List Value)}, D9 G ts es → D9 G' ts es
 | [], es, h => by simpa only [D9] using h
 | t :: ts, es, h => by
  simp only [D9] at h ⊢
  obtain ⟨a, r, h1, h2, h3⟩ := h
  exact ⟨a, r, h1, C7.mono hg h2, D9.mono hg h3⟩
end
mutual
theorem B7.mono {G G' : IM} (hg : B9 G G') : ∀ {t : Tm} {cells : List Value}, B7 G t cells → B7 G' t cells
 | .mk k nm num ty fr lb ks, cells, h => by
  simp only [B7] at h ⊢
  obtain ⟨tc, fc, p, c, es, h1, h2, h3, h4, h5, h6, h7, h8⟩ := h
  exact ⟨tc, fc, p, c, es, h1, h2, h3, h4, h5.mono hg, h6.mono hg, h7.mono hg, F9.mono hg h8⟩
theorem F9.mono {G G' : IM} (hg : B9 G G') : ∀ {ts : List Tm} {es : List (List Value)}, F9 G ts es → F9 G' ts es
 | [], es, h => by simpa only [F9] using h
 | t :: ts, es, h => by
  simp only [F9] at h ⊢
  obtain ⟨a, r, h1, h2, h3⟩ := h
  exact ⟨a, r, h1, B7.mono hg h2, F9.mono hg h3⟩
end

theorem C7.open {G : IM} {t : Ty} {cells : List Value} (h : C7 G t cells) : ∃ p c es, cells = [.int .i64 t.k, .slice p t.ks.length c] ∧ H6 t.k ∧ D7 G p t.ks.length c 2 es ∧ D9 G t.ks es := by
 cases t; simpa only [C7, Ty.k, Ty.ks] using h
theorem B7.open {G : IM} {t : Tm} {cells : List Value} (h : B7 G t cells) : ∃ pt ct et pf cf ef p c es,
  cells = [.int .i64 t.k, .string t.nm, .int .i64 t.num, .int .i64 t.ty.k, .slice pt t.ty.ks.length ct, .int .i64 t.fr.k, .slice pf t.fr.ks.length cf, .int .i64 t.lb, .slice p t.ks.length c] ∧
  H6 t.k ∧ H6 t.num ∧ H6 t.lb ∧ (H6 t.ty.k ∧ D7 G pt t.ty.ks.length ct 2 et ∧ D9 G t.ty.ks et) ∧ (H6 t.fr.k ∧ D7 G pf t.fr.ks.length cf 2 ef ∧ D9 G t.fr.ks ef) ∧ D7 G p t.ks.length c 9 es ∧ F9 G t.ks es := by
 obtain ⟨k, nm, num, ty, fr, lb, ks⟩ := t
 simp only [B7] at h
 obtain ⟨tc, fc, p, c, es, h1, h2, h3, h4, h5, h6, h7, h8⟩ := h
 obtain ⟨pt, ct, et, rfl, t1, t2, t3⟩ := h5.open
 obtain ⟨pf, cf, ef, rfl, f1, f2, f3⟩ := h6.open
 exact ⟨pt, ct, et, pf, cf, ef, p, c, es, h1, h2, h3, h4, ⟨t1, t2, t3⟩, ⟨f1, f2, f3⟩, h7, h8⟩
theorem B7.open9 {G : IM} {k : Int} {nm : ByteArray} {num : Int} {tk : Int} {tks : List Ty} {fk : Int} {fks : List Ty} {lb : Int} {ks : List Tm} {cells : List Value} (h : B7 G (.mk k nm num (.mk tk tks) (.mk fk fks) lb ks) cells) :
  ∃ pt ct pf cf p c es, cells = [.int .i64 k, .string nm, .int .i64 num, .int .i64 tk, .slice pt tks.length ct, .int .i64 fk, .slice pf fks.length cf, .int .i64 lb, .slice p ks.length c] ∧
  H6 k ∧ H6 num ∧ H6 lb ∧ C7 G (.mk tk tks) [.int .i64 tk, .slice pt tks.length ct] ∧ C7 G (.mk fk fks) [.int .i64 fk, .slice pf fks.length cf] ∧ D7 G p ks.length c 9 es ∧ F9 G ks es := by
 obtain ⟨pt, ct, et, pf, cf, ef, p, c, es, h1, h2, h3, h4, ⟨t1, t2, t3⟩, ⟨f1, f2, f3⟩, h7, h8⟩ := h.open
 simp only [Tm.k, Tm.nm, Tm.num, Tm.ty, Tm.fr, Tm.lb, Tm.ks, Ty.k, Ty.ks] at h1 h2 h3 h4 t1 t2 t3 f1 f2 f3 h7 h8
 exact ⟨pt, ct, pf, cf, p, c, es, h1, h2, h3, h4, by simp only [C7]; exact ⟨_, _, et, rfl, t1, t2, t3⟩, by simp only [C7]; exact ⟨_, _, ef, rfl, f1, f2, f3⟩, h7, h8⟩
theorem C7.len {G : IM} {t : Ty} {cells : List Value} (h : C7 G t cells) : cells.length = 2 := by
 obtain ⟨_, _, _, rfl, _⟩ := h.open; rfl
theorem B7.len {G : IM} {t : Tm} {cells : List Value} (h : B7 G t cells) : cells.length = 9 := by
 obtain ⟨_, _, _, _, _, _, _, _, _, rfl, _⟩ := h.open; rfl

theorem D9.len {G : IM} : ∀ {ts : List Ty} {es : List (List Value)}, D9 G ts es → es.length = ts.length
 | [], es, h => by simp only [D9] at h; subst h; rfl
 | t :: ts, es, h => by
  simp only [D9] at h
  obtain ⟨a, r, rfl, _, h3⟩ := h
  simp [h3.len]
theorem F9.len {G : IM} : ∀ {ts : List Tm} {es : List (List Value)}, F9 G ts es → es.length = ts.length
 | [], es, h => by simp only [F9] at h; subst h; rfl
 | t :: ts, es, h => by
  simp only [F9] at h
  obtain ⟨a, r, rfl, _, h3⟩ := h
  simp [h3.len]
theorem D9.get {G : IM} : ∀ {ts : List Ty} {es : List (List Value)}, D9 G ts es → ∀ {i : Nat} {t : Ty}, ts[i]? = some t → ∃ e, es[i]? = some e ∧ C7 G t e
 | [], es, h, i, t, hi => by simp at hi
 | t' :: ts, es, h, i, t, hi => by
  simp only [D9] at h
  obtain ⟨a, r, rfl, h2, h3⟩ := h
  cases i with
  | zero => simp at hi; subst hi; exact ⟨a, rfl, h2⟩
  | succ i => obtain ⟨e, he, hr⟩ := h3.get (i := i) (by simpa using hi); exact ⟨e, by simpa using he, hr⟩
theorem F9.get {G : IM} : ∀ {ts : List Tm} {es : List (List Value)}, F9 G ts es → ∀ {i : Nat} {t : Tm}, ts[i]? = some t → ∃ e, es[i]? = some e ∧ B7 G t e
 | [], es, h, i, t, hi => by simp at hi
 | t' :: ts, es, h, i, t, hi => by
  simp only [F9] at h
  obtain ⟨a, r, rfl, h2, h3⟩ := h
  cases i with
  | zero => simp at hi; subst hi; exact ⟨a, rfl, h2⟩
  | succ i => obtain ⟨e, he, hr⟩ := h3.get (i := i) (by simpa using hi); exact ⟨e, by simpa using he, hr⟩
theorem D9.all {G : IM} {ts : List Ty} {es : List (List Value)} (h : D9 G ts es) : ∀ e ∈ es, e.length = 2 := by
 intro e he
 obtain ⟨i, hi⟩ := List.getElem?_of_mem he
 have hlt : i < ts.length := by have := (List.getElem?_eq_some_iff.1 hi).1; rw [h.len] at this; exact this
 obtain ⟨e', he', hr⟩ := h.get (i := i) (t := ts[i]) (by simp [hlt])
 rw [hi] at he'; cases he'; exact hr.len
theorem F9.all {G : IM} {ts : List Tm} {es : List (List Value)} (h : F9 G ts es) : ∀ e ∈ es, e.length = 9 := by
 intro e he
 obtain ⟨i, hi⟩ := List.getElem?_of_mem he
 have hlt : i < ts.length := by have := (List.getElem?_eq_some_iff.1 hi).1; rw [h.len] at this; exact this
 obtain ⟨e', he', hr⟩ := h.get (i := i) (t := ts[i]) (by simp [hlt])
 rw [hi] at he'; cases he'; exact hr.len

theorem C7.one {G : IM} {t : Ty} {cells : List Value} (h : C7 G t cells) : cells.all (·.oneCell') = true := by
 obtain ⟨_, _, _, rfl, _⟩ := h.open; rfl
theorem B7.one {G : IM} {t : Tm} {cells : List Value} (h : B7 G t cells) : cells.all (·.oneCell') = true := by
 obtain ⟨_, _, _, _, _, _, _, _, _, rfl, _⟩ := h.open; rfl

theorem Ty.ind {C : Ty → Prop} (h : ∀ k ks, (∀ t ∈ ks, C t) → C (.mk k ks)) : ∀ t, C t
 | .mk k ks => h k ks fun t ht => Ty.ind h t
termination_by t => SizeOf.sizeOf t
decreasing_by
 have := List.sizeOf_lt_of_mem ht
 simp only [Ty.mk.sizeOf_spec]; omega
theorem Tm.ind {C : Tm → Prop} (h : ∀ k nm num ty fr lb ks, (∀ t ∈ ks, C t) → C (.mk k nm num ty fr lb ks)) : ∀ t, C t
 | .mk k nm num ty fr lb ks => h k nm num ty fr lb ks fun t ht => Tm.ind h t
termination_by t => SizeOf.sizeOf t
decreasing_by
 have := List.sizeOf_lt_of_mem ht
 simp only [Tm.mk.sizeOf_spec]; omega

def E0 (G' G : IM) : IM := fun b => match G b with | none => G' b | some _ => none
theorem E0.le (G' G : IM) : B9 (E0 G' G) G' := by
 intro b l h
 unfold E0 at h
 split at h
 ·exact h
 ·cases h
theorem E0.mono {G' G'' G : IM} (h : B9 G' G'') : B9 (E0 G' G) (E0 G'' G) := by
 intro b l hb
 unfold E0 at hb ⊢
 split at hb
 ·exact h b l hb
 ·cases hb
theorem E0.anti {G' G G0 : IM} (h : B9 G0 G) : B9 (E0 G' G) (E0 G' G0) := by
 intro b l hb
 unfold E0 at hb ⊢
 split at hb
 ·rename_i h0
  cases h1 : G0 b with
  | none => exact hb
  | some l' => rw [h b l' h1] at h0; cases h0
 ·cases hb
theorem E0.out {G' G : IM} {b : Nat} (h : E0 G' G b ≠ none) : G b = none := by
 unfold E0 at h
 split at h
 ·assumption
 ·exact absurd rfl h
theorem Sl.dif {G' G G0 : IM} {p : Option Addr} {n c sz : Nat} {cs : List Value} (h : Sl G' p n c sz cs) (hp : ∀ b ∈ K5 p, G b = none) (hle : B9 G0 G) : Sl (E0 G' G0) p n c sz cs := by
 obtain ⟨h1, h2, h3, h4⟩ := h
 refine ⟨h1, h2, h3, h4.imp id ?_⟩
 rintro ⟨b, o, full, rfl, e2, e3⟩
 refine ⟨b, o, full, rfl, ?_, e3⟩
 have hb := hp b (by simp [K5])
 have h0 : G0 b = none := by
  cases h1 : G0 b with
  | none => rfl
  | some l => rw [hle b l h1] at hb; cases hb
 simp [E0, h0, e2]

mutual
def R9 (G : IM) : Ty → List Value → List Nat → Prop
 | .mk k ks, cells, F => ∃ p c es Fs, cells = [.int .i64 k, .slice p ks.length c] ∧ H6 k ∧ D7 G p ks.length c 2 es ∧ Q2 G ks es Fs ∧ F = K5 p ++ Fs ∧ (∀ b ∈ K5 p, G b ≠ none)
def Q2 (G : IM) : List Ty → List (List Value) → List Nat → Prop
 | [], es, F => es = [] ∧ F = []
 | t :: ts, es, F => ∃ a r Fa Fr, es = a :: r ∧ R9 G t a Fa ∧ Q2 G ts r Fr ∧ F = Fa ++ Fr
end
mutual
theorem R9.R {G : IM} : ∀ {t : Ty} {cells : List Value} {F : List Nat}, R9 G t cells F → C7 G t cells
 | .mk k ks, cells, F, h => by
  simp only [R9] at h
  obtain ⟨p, c, es, Fs, h1, h2, h3, h4, _⟩ := h
  simp only [C7]
  exact ⟨p, c, es, h1, h2, h3, Q2.R h4⟩
theorem Q2.R {G : IM} : ∀ {ts : List Ty} {es : List (List Value)} {F : List Nat}, Q2 G ts es F → D9 G ts es
 | [], es, F, h => by simp only [Q2] at h; simp only [D9]; exact h.1
 | t :: ts, es, F, h => by
  simp only [Q2] at h
  obtain ⟨a, r, Fa, Fr, h1, h2, h3, _⟩ := h
  simp only [D9]
  exact ⟨a, r, h1, R9.R h2, Q2.R h3⟩
end
mutual
theorem R9.mono {G G' : IM} (hg : B9 G G') : ∀ {t : Ty} {cells : List Value} {F : List Nat}, R9 G t cells F → R9 G' t cells F
 | .mk k ks, cells, F, h => by
  simp only [R9] at h ⊢
  obtain ⟨p, c, es, Fs, h1, h2, h3, h4, h5, h6⟩ := h
  exact ⟨p, c, es, Fs, h1, h2, h3.mono hg, Q2.mono hg h4, h5, fun b hb => by cases hgb : G b with | none => exact absurd hgb (h6 b hb) | some l => rw [hg b l hgb]; simp⟩
theorem Q2.mono {G G' : IM} (hg : B9 G G') : ∀ {ts : List Ty} {es : List (List Value)} {F : List Nat}, Q2 G ts es F → Q2 G' ts es F
 | [], es, F, h => by simpa only [Q2] using h
 | t :: ts, es, F, h => by
  simp only [Q2] at h ⊢
  obtain ⟨a, r, Fa, Fr, h1, h2, h3, h4⟩ := h
  exact ⟨a, r, Fa, Fr, h1, R9.mono hg h2, Q2.mono hg h3, h4⟩
end
mutual
theorem R9.inG {G : IM} : ∀ {t : Ty} {cells : List Value} {F : List Nat}, R9 G t cells F → ∀ b ∈ F, G b ≠ none
 | .mk k ks, cells, F, h => by
  simp only [R9] at h
  obtain ⟨p, c, es, Fs, h1, h2, h3, h4, rfl, h6⟩ := h
  intro b hb
  rcases List.mem_append.1 hb with hb | hb
  ·exact h6 b hb
  ·exact Q2.inG h4 b hb
theorem Q2.inG {G : IM} : ∀ {ts : List Ty} {es : List (List Value)} {F : List Nat}, Q2 G ts es F → ∀ b ∈ F, G b ≠ none
 | [], es, F, h => by simp only [Q2] at h; rw [h.2]; simp
 | t :: ts, es, F, h => by
  simp only [Q2] at h
  obtain ⟨a, r, Fa, Fr, h1, h2, h3, rfl⟩ := h
  intro b hb
  rcases List.mem_append.1 hb with hb | hb
  ·exact R9.inG h2 b hb
  ·exact Q2.inG h3 b hb
end
theorem Q2.snoc {G : IM} : ∀ {ts : List Ty} {es : List (List Value)} {F : List Nat} {t : Ty} {a : List Value} {Fa : List Nat}, Q2 G ts es F → R9 G t a Fa → Q2 G (ts ++ [t]) (es ++ [a]) (F ++ Fa)
 | [], es, F, t, a, Fa, h, h2 => by
  simp only [Q2] at h
  obtain ⟨rfl, rfl⟩ := h
  simp only [List.nil_append, Q2]
  exact ⟨a, [], Fa, [], rfl, h2, ⟨rfl, rfl⟩, by simp⟩
 | t' :: ts, es, F, t, a, Fa, h, h2 => by
  simp only [Q2] at h
  obtain ⟨a', r, Fa', Fr, rfl, h3, h4, rfl⟩ := h
  simp only [List.cons_append, Q2]
  exact ⟨a', r ++ [a], Fa', Fr ++ Fa, rfl, h3, Q2.snoc h4 h2, by simp⟩

theorem D7.kidTy {G : IM} {p : Option Addr} {n c : Nat} {es : List (List Value)} {ks : List Ty} (h : D7 G p n c 2 es) (hk : D9 G ks es) {i : Nat} (hi : i < n) (hn : i < ks.length) :
  ∃ b o p2 c2, p = some ⟨b, o, none⟩ ∧ (∀ hp, At hp G b (o + i * 2) [.int .i64 ks[i].k, .slice p2 ks[i].ks.length c2]) ∧ C7 G ks[i] [.int .i64 ks[i].k, .slice p2 ks[i].ks.length c2] ∧ G b ≠ none := by
 obtain ⟨e, b, o, he, h1, h2, h3, h4, h5⟩ := h.get hi
 obtain ⟨e', he', hr⟩ := hk.get (i := i) (t := ks[i]) (by simp [hn])
 rw [he] at he'; cases he'
 obtain ⟨p2, c2, _, rfl, _⟩ := hr.open
 exact ⟨b, o, p2, c2, h1, h4, hr, h5⟩

theorem Q2.step {G Gi G1 : IM} {ks : List Ty} {i : Nat} {es : List (List Value)} {F F' : List Nat} {a : List Value} (h : Q2 (E0 Gi G) (ks.take i) es F) (hn : F.Nodup) (hle : B9 G Gi) (hle1 : B9 Gi G1) (hi : i < ks.length)
  (ha : R9 (E0 G1 Gi) ks[i] a F') (hn' : F'.Nodup) : Q2 (E0 G1 G) (ks.take (i + 1)) (es ++ [a]) (F ++ F') ∧ (F ++ F').Nodup := by
 constructor
 ·rw [List.take_succ_eq_append_getElem hi]
  exact Q2.snoc (h.mono (E0.mono hle1)) (ha.mono (E0.anti hle))
 ·rw [List.nodup_append]
  refine ⟨hn, hn', ?_⟩
  rintro x hx y hy rfl
  have h1 := h.inG x hx
  have h2 := E0.out (ha.inG x hy)
  apply h1
  cases hd : E0 Gi G x with
  | none => rfl
  | some l => rw [E0.le _ _ x l hd] at h2; cases h2
theorem R9.fin {G Gi G2 : IM} {k : Int} {ks : List Ty} {es : List (List Value)} {F : List Nat} {p : Option Addr} {c : Nat} (h : Q2 (E0 Gi G) ks es F) (hn : F.Nodup) (hle : B9 G Gi) (hle2 : B9 Gi G2)
  (hsl : Sl G2 p ks.length c 2 es.flatten) (hnn : ∀ b ∈ K5 p, Gi b = none ∧ G2 b ≠ none) (hk : H6 k) :
  ∃ F', R9 (E0 G2 G) (.mk k ks) [.int .i64 k, .slice p ks.length c] F' ∧ F'.Nodup := by
 have hno := fun b hb => (hnn b hb).1
 have hin := fun b hb => (hnn b hb).2
 have hR := h.R
 refine ⟨K5 p ++ F, ?_, ?_⟩
 ·simp only [R9]
  refine ⟨p, c, es, F, rfl, hk, D7.of (hsl.dif hno hle) hR.len hR.all ?_, h.mono (E0.mono hle2), rfl, ?_⟩
  ·intro e he
   obtain ⟨i, hi⟩ := List.getElem?_of_mem he
   have hlt : i < ks.length := by have := (List.getElem?_eq_some_iff.1 hi).1; rw [hR.len] at this; exact this
   obtain ⟨e', he', hr⟩ := hR.get (i := i) (t := ks[i]) (by simp [hlt])
   rw [hi] at he'; cases he'; exact hr.one
  ·intro b hb
   have h0 := hno b hb
   cases hg : G b with
   | none => simpa [E0, hg] using hin b hb
   | some l => rw [hle b l hg] at h0; cases h0
 ·rw [List.nodup_append]
  refine ⟨by cases p <;> simp [K5], hn, ?_⟩
  rintro x hx y hy rfl
  have h1 := h.inG x hy
  have h2 := hno x hx
  apply h1
  cases hd : E0 Gi G x with
  | none => rfl
  | some l => rw [E0.le _ _ x l hd] at h2; cases h2

def A1n (q : Nat → Bool) (n : Nat) : Int := match (List.range n).find? q with | some i => i | none => -1
theorem A6X {q : Nat → Bool} {n : Nat} (h : ∀ j, j < n → q j = false) : A1n q n = -1 := by
 have : (List.range n).find? q = none := by
  rw [List.find?_eq_none]
  intro x hx
  rw [h x (List.mem_range.1 hx)]; simp
 simp [A1n, this]
theorem A8Z {q : Nat → Bool} {n i : Nat} (hi : i < n) (h : ∀ j, j < i → q j = false) (hq : q i = true) : A1n q n = i := by
 have : (List.range n).find? q = some i := by
  rw [List.find?_eq_some_iff_append]
  refine ⟨hq, List.range i, (List.range n).drop (i + 1), ?_, ?_⟩
  ·apply List.ext_getElem?
   intro k
   simp only [List.getElem?_append, List.length_range, List.getElem?_range', List.getElem?_cons, List.getElem?_drop]
   by_cases h1 : k < i
   ·simp [h1, show k < n by omega]
   ·by_cases h2 : k = i
    ·subst h2; simp [hi]
    ·have h3 : k - i ≠ 0 := by omega
     simp only [h1, if_false, h3]
     rw [show i + 1 + (k - i - 1) = k by omega]
  ·intro a ha
   simp [h a (List.mem_range.1 ha)]
 simp [A1n, this]

def V1 (n lo hi : Int) : Bool := decide (lo ≤ n ∧ n ≤ hi)
theorem A3Y {n lo hi : Int} (h : V1 n lo hi = true) : lo ≤ n ∧ n ≤ hi := by simpa [V1] using h
theorem A6Y {n lo hi : Int} (h : V1 n lo hi = false) : ¬(lo ≤ n ∧ n ≤ hi) := by simpa [V1] using h
def Y6 (k : Int) : Int := if k = 1 ∨ k = 2 ∨ k = 3 then 0 else if k = 4 ∨ k = 5 then 2 else -1
theorem Q0 (k : Int) : (k = 1 ∨ k = 2 ∨ k = 3 → Y6 k = 0) ∧ (k = 4 ∨ k = 5 → Y6 k = 2) ∧ (k ≠ 1 → k ≠ 2 → k ≠ 3 → k ≠ 4 → k ≠ 5 → Y6 k = -1) := by
 unfold Y6; split <;> try split
 all_goals omega
def E8 (k : Int) : Int := if k = 1 ∨ k = 2 ∨ k = 3 ∨ k = 4 then 0 else if k = 5 ∨ k = 11 ∨ k = 12 ∨ k = 13 ∨ k = 14 then 1 else if k = 6 ∨ k = 7 ∨ k = 8 ∨ k = 10 then 2 else if k = 9 then 3 else -1

mutual
def M9 : Ty → Int → Bool
 | .mk k ks, d => decide (d ≤ 4) && decide (Y6 k = ks.length) && U4 ks (d + 1)
def U4 : List Ty → Int → Bool
 | [], _ => true
 | t :: ts, d => M9 t d && U4 ts d
end
theorem A5E : ∀ (ts : List Ty) (d : Int), U4 ts d = true ↔ ∀ i, (h : i < ts.length) → M9 ts[i] d = true
 | [], d => by simp [U4]
 | t :: ts, d => by
  simp only [U4, Bool.and_eq_true, A5E ts d]
  constructor
  ·rintro ⟨h1, h2⟩ i hi
   cases i with
   | zero => exact h1
   | succ i => exact h2 i (by simpa using hi)
  ·intro h
   exact ⟨h 0 zS0, fun i hi => h (i + 1) (by simpa using hi)⟩
def H9 (t : Ty) : Bool := M9 t 1
def A0A (t : Ty) : Bool := decide (t.k = 0 ∧ t.ks.length = 0)

mutual
def N6 : Ty → Ty → Bool
 | .mk k ks, t => decide (k = 1) || decide (t.k = 1) || (decide (k = t.k) && P7 ks t.ks)
def P7 : List Ty → List Ty → Bool
 | [], [] => true
 | a :: xs, b :: ys => N6 a b && P7 xs ys
 | _, _ => false
end
theorem V9 (k k' : Int) (ks ks' : List Ty) : N6 (.mk k ks) (.mk k' ks') = (decide (k = 1) || decide (k' = 1) || (decide (k = k') && P7 ks ks')) := by rw [N6]; rfl
theorem A3v : ∀ (xs ys : List Ty), P7 xs ys = true ↔ xs.length = ys.length ∧ ∀ i, (h : i < xs.length) → (h' : i < ys.length) → N6 xs[i] ys[i] = true
 | [], [] => by simp [P7]
 | [], b :: ys => by simp [P7]
 | a :: xs, [] => by simp [P7]
 | a :: xs, b :: ys => by
  simp only [P7, Bool.and_eq_true, A3v xs ys, List.length_cons]
  constructor
  ·rintro ⟨h1, h2, h3⟩
   refine ⟨by omega, fun i hi hi' => ?_⟩
   cases i with
   | zero => exact h1
   | succ i => exact h3 i (by simpa using hi) (by simpa using hi')
  ·rintro ⟨h1, h2⟩
   exact ⟨h2 0 zS0 zS0, by omega, fun i hi hi' => h2 (i + 1) (by simpa using hi) (by simpa using hi')⟩
def A2f (a b : Ty) : Bool := H9 a && H9 b && N6 a b
def A0B (s : ByteArray) : Bool := decide (s.size = 1 ∧ 97 ≤ (s.data.getD 0 0).toNat ∧ (s.data.getD 0 0).toNat ≤ 122)
def A2K (n : Int) : Bool := V1 n 1 99 || V1 n (-99) (-1)

theorem A5F {s : ByteArray} {j : Int} (h : j.toNat < s.size) : s[j.toNat]? = some (s.data.getD j.toNat 0) := by
 rw [getElem?_pos s j.toNat h]
 show some (s.data[j.toNat]'h) = _
 rw [Array.getD_eq_getD_getElem?, getElem?_pos s.data j.toNat h]
 rfl
theorem B3t {q : Nat → Bool} {n : Nat} : A1n q n < 0 ↔ ∀ j, j < n → q j = false := by
 constructor
 ·intro h j hj
  unfold A1n at h
  split at h
  ·omega
  ·rename_i hf
   have := List.find?_eq_none.1 hf j (List.mem_range.2 hj)
   simpa using this
 ·intro h; rw [A6X h]; omega
theorem A80 {q : Nat → Bool} {n : Nat} : 0 ≤ A1n q n ↔ ∃ j, j < n ∧ q j = true := by
 have h := @B3t q n
 constructor
 ·intro h0
  apply Classical.byContradiction
  intro hn
  have : A1n q n < 0 := h.2 fun j hj => by cases hq : q j with | false => rfl | true => exact absurd ⟨j, hj, hq⟩ hn
  omega
 ·rintro ⟨j, hj, hq⟩
  apply Classical.byContradiction
  intro hn
  rw [h.1 zR0 j hj] at hq
  exact absurd hq zS0
theorem A81 {α : Type} (f : α → Bool) (ks : List α) (a : α) : decide (0 ≤ A1n (fun i => !f (ks.getD i a)) ks.length) = !ks.all f := by
 cases h : ks.all f with
 | true =>
  rw [List.all_eq_true] at h
  apply decide_eq_false
  rw [A80]
  rintro ⟨j, hj, hq⟩
  rw [List.getD_eq_getElem?_getD, List.getElem?_eq_getElem hj, Option.getD_some, h _ (List.getElem_mem hj)] at hq
  exact absurd hq zS0
 | false =>
  apply decide_eq_true
  rw [A80]
  apply Classical.byContradiction
  intro hn
  have : ks.all f = true := by
   rw [List.all_eq_true]
   intro x hx
   obtain ⟨j, hj, rfl⟩ := List.getElem_of_mem hx
   cases hf : f ks[j] with
   | true => rfl
   | false => exact absurd ⟨j, hj, by rw [List.getD_eq_getElem?_getD, List.getElem?_eq_getElem hj, Option.getD_some, hf]; rfl⟩ hn
  rw [h] at this
  exact absurd this zS0
theorem Z1 : ∀ (ks : List Ty) (d : Int), U4 ks d = ks.all (M9 · d)
 | [], d => rfl
 | t :: ts, d => by simp [U4, Z1 ts d]
theorem D9.inv {G : IM} : ∀ {ts : List Ty} {es : List (List Value)}, D9 G ts es → ∀ {i : Nat} {e : List Value}, es[i]? = some e → ∀ a, ts.getD i a ∈ ts ∧ C7 G (ts.getD i a) e
 | [], es, h, i, e, he, a => by
  have := h.len
  simp only [List.length_nil, List.length_eq_zero_iff] at this
  subst this; simp at he
 | t :: ts, es, h, i, e, he, a => by
  have hi : i < es.length := by
   apply Classical.byContradiction; intro hn; rw [List.getElem?_eq_none zR0] at he; simp at he
  have hl := h.len
  obtain ⟨e', he', hr⟩ := h.get (i := i) (t := (t :: ts)[i]'zR0) (by rw [List.getElem?_eq_getElem])
  rw [he] at he'
  obtain rfl := Option.some.inj he'
  rw [List.getD_eq_getElem?_getD, List.getElem?_eq_getElem zR0, Option.getD_some]
  exact ⟨List.getElem_mem _, hr⟩
theorem F9.inv {G : IM} : ∀ {ts : List Tm} {es : List (List Value)}, F9 G ts es → ∀ {i : Nat} {e : List Value}, es[i]? = some e → ∀ a, ts.getD i a ∈ ts ∧ B7 G (ts.getD i a) e
 | [], es, h, i, e, he, a => by
  have := h.len
  simp only [List.length_nil, List.length_eq_zero_iff] at this
  subst this; simp at he
 | t :: ts, es, h, i, e, he, a => by
  have hi : i < es.length := by
   apply Classical.byContradiction; intro hn; rw [List.getElem?_eq_none zR0] at he; simp at he
  have hl := h.len
  obtain ⟨e', he', hr⟩ := h.get (i := i) (t := (t :: ts)[i]'zR0) (by rw [List.getElem?_eq_getElem])
  rw [he] at he'
  obtain rfl := Option.some.inj he'
  rw [List.getD_eq_getElem?_getD, List.getElem?_eq_getElem zR0, Option.getD_some]
  exact ⟨List.getElem_mem _, hr⟩
def B4 : Ty := .mk 0 []
theorem B3u {p : Prop} [Decidable p] {x y : Bool} : ((if p then x else y) = true) ↔ ((p → x = true) ∧ (¬p → y = true)) := by by_cases h : p <;> simp [h]
theorem B3v {k : Int} (h : 1 ≤ k ∧ k ≤ 14) : ([Value.int .i64 0, .int .i64 0, .int .i64 0, .int .i64 0, .int .i64 1, .int .i64 2, .int .i64 2, .int .i64 2, .int .i64 3, .int .i64 2, .int .i64 1, .int .i64 1, .int .i64 1, .int .i64 1])[(k - 1).toNat]? = some (.int .i64 (E8 k)) := by
 have : k = 1 ∨ k = 2 ∨ k = 3 ∨ k = 4 ∨ k = 5 ∨ k = 6 ∨ k = 7 ∨ k = 8 ∨ k = 9 ∨ k = 10 ∨ k = 11 ∨ k = 12 ∨ k = 13 ∨ k = 14 := by omega
 rcases this with rfl | rfl | rfl | rfl | rfl | rfl | rfl | rfl | rfl | rfl | rfl | rfl | rfl | rfl <;> rfl
theorem A5G {k : Int} (h : ¬(1 ≤ k ∧ k ≤ 14)) : E8 k = -1 := by
 unfold E8; repeat (split; omega)
 rfl
theorem B3w {cs : List Value} {o : Nat} {v : Value} (h : cs[o]? = some v) : ∀ j u, [v][j]? = some u → cs[o + j]? = some u := by
 intro j u hj
 cases j with
 | zero => simpa using hj ▸ h
 | succ j => simp at hj
def Z2 (k : Int) (nm : ByteArray) (num : Int) (ty fr : Ty) (lb : Int) (n : Nat) : Bool :=
 decide (E8 k = n) && (if k = 1 ∨ k = 5 then A0B nm else decide (nm = ⟨#[]⟩)) && (if k = 2 then V1 num 0 999 else V1 num 0 0) &&
 (if k = 5 ∨ k = 13 ∨ k = 14 then H9 ty else A0A ty) && (if k = 14 then A2f fr ty && A2K lb else A0A fr && decide (lb = 0))
theorem X5 {k : Int} {nm : ByteArray} {num : Int} {ty fr : Ty} {lb : Int} {n : Nat} : Z2 k nm num ty fr lb n = true ↔
  E8 k = n ∧ (k = 1 ∨ k = 5 → A0B nm = true) ∧ (¬(k = 1 ∨ k = 5) → nm = ⟨#[]⟩) ∧ (k = 2 → V1 num 0 999 = true) ∧ (k ≠ 2 → V1 num 0 0 = true) ∧
  (k = 5 ∨ k = 13 ∨ k = 14 → H9 ty = true) ∧ (¬(k = 5 ∨ k = 13 ∨ k = 14) → A0A ty = true) ∧ (k = 14 → A2f fr ty = true ∧ A2K lb = true) ∧ (k ≠ 14 → A0A fr = true ∧ lb = 0) := by
 simp only [Z2, Bool.and_eq_true, B3u, decide_eq_true_eq, and_assoc, ne_eq]
mutual
def W0 (M D N : Int) : Tm → Int → Int → Bool × Int
 | .mk k nm num ty fr lb ks, deep, c => if c + 1 > M ∨ deep > D ∨ k = N ∨ Z2 k nm num ty fr lb ks.length = false then (false, c + 1) else Y1 M D N ks (deep + 1) (c + 1)
def Y1 (M D N : Int) : List Tm → Int → Int → Bool × Int
 | [], _, c => (true, c)
 | t :: ts, deep, c => if (W0 M D N t deep c).1 = true then Y1 M D N ts deep (W0 M D N t deep c).2 else (false, (W0 M D N t deep c).2)
end
mutual
theorem A82 (M D N : Int) : ∀ (t : Tm) (deep c : Int), 0 ≤ c → c ≤ M → c < (W0 M D N t deep c).2 ∧ (W0 M D N t deep c).2 ≤ M + 1 ∧ ((W0 M D N t deep c).1 = true → (W0 M D N t deep c).2 ≤ M)
 | .mk k nm num ty fr lb ks, deep, c, h0, h1 => by
  rw [W0]
  split
  ·simp; omega
  ·rename_i h
   have := A83 M D N ks (deep + 1) (c + 1) zR0 zR0
   exact ⟨by omega, this.2⟩
theorem A83 (M D N : Int) : ∀ (ts : List Tm) (deep c : Int), 0 ≤ c → c ≤ M → c ≤ (Y1 M D N ts deep c).2 ∧ (Y1 M D N ts deep c).2 ≤ M + 1 ∧ ((Y1 M D N ts deep c).1 = true → (Y1 M D N ts deep c).2 ≤ M)
 | [], deep, c, h0, h1 => by rw [Y1]; simp; omega
 | t :: ts, deep, c, h0, h1 => by
  have := A82 M D N t deep c h0 h1
  rw [Y1]
  split
  ·rename_i h
   have h2 := A83 M D N ts deep (W0 M D N t deep c).2 zR0 (this.2.2 h)
   exact ⟨by omega, h2.2⟩
  ·simp; omega
end
def O9 (t : Tm) : Bool := (W0 200 40 13 t 1 0).1
def M3 (t : Tm) : Bool := (W0 30 12 14 t 1 0).1
theorem D7.kidTm {G : IM} {p : Option Addr} {n c : Nat} {es : List (List Value)} {ks : List Tm} (h : D7 G p n c 9 es) (hk : F9 G ks es) {i : Nat} (hi : i < n) (hn : i < ks.length) :
  ∃ b o e, p = some ⟨b, o, none⟩ ∧ e.length = 9 ∧ (∀ hp, At hp G b (o + i * 9) e) ∧ B7 G ks[i] e ∧ G b ≠ none := by
 obtain ⟨e, b, o, he, hp, hl, _, hat, hg⟩ := h.get hi
 have := (hk.inv he (ks[i])).2
 rw [List.getD_eq_getElem?_getD, List.getElem?_eq_getElem hn, Option.getD_some] at this
 exact ⟨b, o, e, hp, hl, hat, this, hg⟩
theorem A5H {M D N : Int} {k : Int} {nm : ByteArray} {num : Int} {ty fr : Ty} {lb : Int} {ks : List Tm} {deep c : Int} (h : c + 1 > M ∨ deep > D ∨ k = N ∨ Z2 k nm num ty fr lb ks.length = false) :
  W0 M D N (.mk k nm num ty fr lb ks) deep c = (false, c + 1) := by rw [W0, if_pos h]
theorem B3x {M D N : Int} {k : Int} {nm : ByteArray} {num : Int} {ty fr : Ty} {lb : Int} {ks : List Tm} {deep c : Int} (h1 : ¬(c + 1 > M ∨ deep > D ∨ k = N)) (h2 : Z2 k nm num ty fr lb ks.length = true) :
  W0 M D N (.mk k nm num ty fr lb ks) deep c = Y1 M D N ks (deep + 1) (c + 1) := by
 rw [W0, if_neg]
 rw [h2]
 intro h
 apply h1
 rcases h with h | h | h | h
 ·exact .inl h
 ·exact .inr (.inl h)
 ·exact .inr (.inr h)
 ·cases h
theorem B3y {M D N : Int} {ks : List Tm} {i : Nat} {deep c : Int} (hi : i < ks.length) (h : (W0 M D N ks[i] deep c).1 = true) : Y1 M D N (ks.drop i) deep c = Y1 M D N (ks.drop (i + 1)) deep (W0 M D N ks[i] deep c).2 := by
 rw [List.drop_eq_getElem_cons hi, Y1, if_pos h]
theorem B3z {M D N : Int} {ks : List Tm} {i : Nat} {deep c : Int} (hi : i < ks.length) (h : (W0 M D N ks[i] deep c).1 = false) : Y1 M D N (ks.drop i) deep c = (false, (W0 M D N ks[i] deep c).2) := by
 rw [List.drop_eq_getElem_cons hi, Y1, if_neg (by rw [h]; simp)]
theorem B3A {M D N : Int} {ks : List Tm} {i : Nat} {deep c : Int} (hi : i = ks.length) : Y1 M D N (ks.drop i) deep c = (true, c) := by
 rw [hi, List.drop_length, Y1]
section blk
variable {P : Program} {Γ : N7} {env : O6} {hp : List A7} {G : IM} {K : Po} {ops : Array Oper} {rest : List Oper}
end blk

theorem A6Z : ∀ {A B C V : List Value} {o : Nat}, A.length = o → B.length = V.length → V8 (A ++ (B ++ C)) o V = some (A ++ (V ++ C))
 | [], B, C, V, o, h, hv => by
  simp at h; subst h
  simp only [List.nil_append]
  induction B generalizing V with
  | nil => cases V with
   | nil => cases C <;> rfl
   | cons v V => simp at hv
  | cons b B ih => cases V with
   | nil => simp at hv
   | cons v V =>
    simp only [List.cons_append, V8, ih (V := V) (by simpa using hv)]
 | a :: A, B, C, V, o, h, hv => by
  simp at h; subst h
  simp only [List.cons_append, V8, A6Z (A := A) (B := B) (C := C) rfl hv]
theorem A1y {sz : Nat} : ∀ {es : List (List Value)}, (∀ e ∈ es, e.length = sz) → es.flatten.length = es.length * sz
 | [], _ => by simp
 | e :: es, h => by
  rw [List.flatten_cons, List.length_append, h e List.mem_cons_self, A1y (es := es) fun x hx => h x (List.mem_cons_of_mem _ hx), List.length_cons, Nat.succ_mul]; omega
def A84 (G : IM) (ks : List Ty) (p : Option Addr) (c : Nat) (F : List Nat) : Prop := ∃ es Fs, D7 G p ks.length c 2 es ∧ Q2 G ks es Fs ∧ F = K5 p ++ Fs ∧ (∀ b ∈ K5 p, G b ≠ none)
theorem R9.open {G : IM} {t : Ty} {cells : List Value} {F : List Nat} (h : R9 G t cells F) : ∃ p c, cells = [.int .i64 t.k, .slice p t.ks.length c] ∧ H6 t.k ∧ A84 G t.ks p c F := by
 cases t
 simp only [R9] at h
 obtain ⟨p, c, es, Fs, h0, hk, h1, h2, h3, h4⟩ := h
 exact ⟨p, c, h0, hk, es, Fs, h1, h2, h3, h4⟩
mutual
def Q3 (G : IM) : Tm → List Value → List Nat → Prop
 | .mk k nm num ty fr lb ks, cells, F => ∃ tc fc p c es Ft Ff Fs, cells = [.int .i64 k, .string nm, .int .i64 num] ++ tc ++ fc ++ [.int .i64 lb, .slice p ks.length c] ∧ H6 k ∧ H6 num ∧ H6 lb ∧ R9 G ty tc Ft ∧ R9 G fr fc Ff ∧
   D7 G p ks.length c 9 es ∧ P1 G ks es Fs ∧ F = Ft ++ (Ff ++ (K5 p ++ Fs)) ∧ (∀ b ∈ K5 p, G b ≠ none)
def P1 (G : IM) : List Tm → List (List Value) → List Nat → Prop
 | [], es, F => es = [] ∧ F = []
 | t :: ts, es, F => ∃ a r Fa Fr, es = a :: r ∧ Q3 G t a Fa ∧ P1 G ts r Fr ∧ F = Fa ++ Fr
end
def A1V (G : IM) (ks : List Tm) (p : Option Addr) (c : Nat) (F : List Nat) : Prop := ∃ es Fs, D7 G p ks.length c 9 es ∧ P1 G ks es Fs ∧ F = K5 p ++ Fs ∧ (∀ b ∈ K5 p, G b ≠ none)
mutual
theorem Q3.R {G : IM} : ∀ {t : Tm} {cells : List Value} {F : List Nat}, Q3 G t cells F → B7 G t cells
 | .mk k nm num ty fr lb ks, cells, F, h => by
  simp only [Q3] at h
  obtain ⟨tc, fc, p, c, es, Ft, Ff, Fs, h1, h2, h3, h4, h5, h6, h7, h8, _⟩ := h
  simp only [B7]
  exact ⟨tc, fc, p, c, es, h1, h2, h3, h4, h5.R, h6.R, h7, P1.R h8⟩
theorem P1.R {G : IM} : ∀ {ts : List Tm} {es : List (List Value)} {F : List Nat}, P1 G ts es F → F9 G ts es
 | [], es, F, h => by simp only [P1] at h; simp only [F9]; exact h.1
 | t :: ts, es, F, h => by
  simp only [P1] at h
  obtain ⟨a, r, Fa, Fr, h1, h2, h3, _⟩ := h
  simp only [F9]
  exact ⟨a, r, h1, Q3.R h2, P1.R h3⟩
end
theorem A3Z {G G' : IM} (hg : B9 G G') {F : List Nat} (h : ∀ b ∈ F, G b ≠ none) : ∀ b ∈ F, G' b ≠ none := fun b hb => by
 cases hgb : G b with
 | none => exact absurd hgb (h b hb)
 | some l => rw [hg b l hgb]; simp
mutual
theorem Q3.mono {G G' : IM} (hg : B9 G G') : ∀ {t : Tm} {cells : List Value} {F : List Nat}, Q3 G t cells F → Q3 G' t cells F
 | .mk k nm num ty fr lb ks, cells, F, h => by
  simp only [Q3] at h ⊢
  obtain ⟨tc, fc, p, c, es, Ft, Ff, Fs, h1, h2, h3, h4, h5, h6, h7, h8, h9, h10⟩ := h
  exact ⟨tc, fc, p, c, es, Ft, Ff, Fs, h1, h2, h3, h4, h5.mono hg, h6.mono hg, h7.mono hg, P1.mono hg h8, h9, A3Z hg h10⟩
theorem P1.mono {G G' : IM} (hg : B9 G G') : ∀ {ts : List Tm} {es : List (List Value)} {F : List Nat}, P1 G ts es F → P1 G' ts es F
 | [], es, F, h => by simpa only [P1] using h
 | t :: ts, es, F, h => by
  simp only [P1] at h ⊢
  obtain ⟨a, r, Fa, Fr, h1, h2, h3, h4⟩ := h
  exact ⟨a, r, Fa, Fr, h1, Q3.mono hg h2, P1.mono hg h3, h4⟩
end
mutual
theorem Q3.inG {G : IM} : ∀ {t : Tm} {cells : List Value} {F : List Nat}, Q3 G t cells F → ∀ b ∈ F, G b ≠ none
 | .mk k nm num ty fr lb ks, cells, F, h => by
  simp only [Q3] at h
  obtain ⟨tc, fc, p, c, es, Ft, Ff, Fs, h1, h2, h3, h4, h5, h6, h7, h8, rfl, h10⟩ := h
  intro b hb
  simp only [List.mem_append] at hb
  rcases hb with hb | hb | hb | hb
  ·exact h5.inG b hb
  ·exact h6.inG b hb
  ·exact h10 b hb
  ·exact P1.inG h8 b hb
theorem P1.inG {G : IM} : ∀ {ts : List Tm} {es : List (List Value)} {F : List Nat}, P1 G ts es F → ∀ b ∈ F, G b ≠ none
 | [], es, F, h => by simp only [P1] at h; rw [h.2]; simp
 | t :: ts, es, F, h => by
  simp only [P1] at h
  obtain ⟨a, r, Fa, Fr, h1, h2, h3, rfl⟩ := h
  intro b hb
  rcases List.mem_append.1 hb with hb | hb
  ·exact Q3.inG h2 b hb
  ·exact P1.inG h3 b hb
end
theorem P1.snoc {G : IM} : ∀ {ts : List Tm} {es : List (List Value)} {F : List Nat} {t : Tm} {a : List Value} {Fa : List Nat}, P1 G ts es F → Q3 G t a Fa → P1 G (ts ++ [t]) (es ++ [a]) (F ++ Fa)
 | [], es, F, t, a, Fa, h, h2 => by
  simp only [P1] at h
  obtain ⟨rfl, rfl⟩ := h
  simp only [List.nil_append, P1]
  exact ⟨a, [], Fa, [], rfl, h2, ⟨rfl, rfl⟩, by simp⟩
 | t' :: ts, es, F, t, a, Fa, h, h2 => by
  simp only [P1] at h
  obtain ⟨a', r, Fa', Fr, rfl, h3, h4, rfl⟩ := h
  simp only [List.cons_append, P1]
  exact ⟨a', r ++ [a], Fa', Fr ++ Fa, rfl, h3, P1.snoc h4 h2, by simp⟩
theorem A3w {G Gi : IM} {F F' : List Nat} {G1 : IM} (h : ∀ b ∈ F, E0 Gi G b ≠ none) (h' : ∀ b ∈ F', E0 G1 Gi b ≠ none) : ∀ x ∈ F, ∀ y ∈ F', x ≠ y := by
 rintro x hx y hy rfl
 have h1 := h x hx
 have h2 := E0.out (h' x hy)
 apply h1
 cases hd : E0 Gi G x with
 | none => rfl
 | some l => rw [E0.le _ _ x l hd] at h2; cases h2
theorem P1.step {G Gi G1 : IM} {ks : List Tm} {i : Nat} {es : List (List Value)} {F F' : List Nat} {a : List Value} (h : P1 (E0 Gi G) (ks.take i) es F) (hn : F.Nodup) (hle : B9 G Gi) (hle1 : B9 Gi G1) (hi : i < ks.length)
  (ha : Q3 (E0 G1 Gi) ks[i] a F') (hn' : F'.Nodup) : P1 (E0 G1 G) (ks.take (i + 1)) (es ++ [a]) (F ++ F') ∧ (F ++ F').Nodup := by
 constructor
 ·rw [List.take_succ_eq_append_getElem hi]
  exact P1.snoc (h.mono (E0.mono hle1)) (ha.mono (E0.anti hle))
 ·rw [List.nodup_append]
  exact ⟨hn, hn', A3w h.inG ha.inG⟩
theorem B3B (p : Option Addr) : (K5 p).Nodup := by cases p <;> simp [K5]
theorem A1V.fin {G Gi G2 : IM} {ks : List Tm} {es : List (List Value)} {F : List Nat} {p : Option Addr} {c : Nat} (h : P1 (E0 Gi G) ks es F) (hn : F.Nodup) (hle : B9 G Gi) (hle2 : B9 Gi G2)
  (hsl : Sl G2 p ks.length c 9 es.flatten) (hnn : ∀ b ∈ K5 p, Gi b = none ∧ G2 b ≠ none) :
  ∃ F', A1V (E0 G2 G) ks p c F' ∧ F'.Nodup := by
 have hR := h.R
 have hin : ∀ b ∈ K5 p, E0 G2 G b ≠ none := by
  intro b hb
  have h0 := (hnn b hb).1
  cases hg : G b with
  | none => simpa [E0, hg] using (hnn b hb).2
  | some l => rw [hle b l hg] at h0; cases h0
 refine ⟨K5 p ++ F, ⟨es, F, D7.of (hsl.dif (fun b hb => (hnn b hb).1) hle) hR.len hR.all ?_, h.mono (E0.mono hle2), rfl, hin⟩, ?_⟩
 ·intro e he
  obtain ⟨i, hi⟩ := List.getElem?_of_mem he
  have hlt : i < ks.length := by have := (List.getElem?_eq_some_iff.1 hi).1; rw [hR.len] at this; exact this
  obtain ⟨e', he', hr⟩ := hR.get (i := i) (t := ks[i]) (by simp [hlt])
  rw [hi] at he'; cases he'; exact hr.one
 ·rw [List.nodup_append]
  refine ⟨B3B p, hn, ?_⟩
  rintro x hx y hy rfl
  have h1 := h.inG x hy
  have h2 := (hnn x hx).1
  apply h1
  cases hd : E0 Gi G x with
  | none => rfl
  | some l => rw [E0.le _ _ x l hd] at h2; cases h2
theorem Q3.mk3 {G G1 G2 G3 : IM} {k : Int} {nm : ByteArray} {num : Int} {ty fr : Ty} {lb : Int} {ks : List Tm} {tc fc : List Value} {p : Option Addr} {c : Nat} {F1 F2 F3 : List Nat} (hk : H6 k) (hnum : H6 num) (hlb : H6 lb)
  (hl1 : B9 G G1) (hl2 : B9 G1 G2) (hl3 : B9 G2 G3) (h1 : R9 (E0 G1 G) ty tc F1) (n1 : F1.Nodup) (h2 : R9 (E0 G2 G1) fr fc F2) (n2 : F2.Nodup) (h3 : A1V (E0 G3 G2) ks p c F3) (n3 : F3.Nodup) :
  ∃ F, Q3 (E0 G3 G) (.mk k nm num ty fr lb ks) ([.int .i64 k, .string nm, .int .i64 num] ++ tc ++ fc ++ [.int .i64 lb, .slice p ks.length c]) F ∧ F.Nodup := by
 obtain ⟨es, Fs, e1, e2, rfl, e4⟩ := h3
 have i3 : ∀ b ∈ K5 p ++ Fs, E0 G3 G2 b ≠ none := by
  intro b hb
  rcases List.mem_append.1 hb with hb | hb
  ·exact e4 b hb
  ·exact e2.inG b hb
 have a2 : B9 (E0 G2 G1) (E0 G3 G) := fun b l h => E0.mono hl3 b l (E0.anti hl1 b l h)
 have a3 : B9 (E0 G3 G2) (E0 G3 G) := E0.anti (hl1.trans hl2)
 refine ⟨F1 ++ (F2 ++ (K5 p ++ Fs)), ?_, ?_⟩
 ·simp only [Q3]
  exact ⟨tc, fc, p, c, es, F1, F2, Fs, rfl, hk, hnum, hlb, h1.mono (E0.mono (hl2.trans hl3)), h2.mono a2, e1.mono a3, e2.mono a3, rfl, A3Z a3 e4⟩
 ·rw [List.nodup_append, List.nodup_append]
  refine ⟨n1, ⟨n2, n3, A3w h2.inG i3⟩, ?_⟩
  rintro x hx y hy rfl
  rcases List.mem_append.1 hy with hy | hy
  ·exact A3w h1.inG h2.inG x hx x hy rfl
  ·have h1' : ∀ b ∈ F1, E0 G2 G b ≠ none := A3Z (E0.mono hl2) h1.inG
   exact A3w h1' i3 x hx x hy rfl
section clawss
variable {P : Program} {Γ : N7} {env : O6} {hp : List A7} {G : IM} {ty : TypeId}
theorem A85 {x y : Operand} {t t' : TypeId} {m n : Nat} (hx : evo env x = some (.int .i64 (m : Int))) (hy : evo env y = some (.int .i64 (n : Int))) (hn : 0 < n) :
  J9 P Γ ⟨env, hp, G⟩ (.binOp .rem t x y t') ty (.int .i64 ((m % n : Nat) : Int)) := by
 have h := A5u (P := P) (Γ := Γ) (hp := hp) (G := G) (ty := ty) (t := t) (t' := t') hx hy zR0
 rwa [show ((m : Int).tmod n) = ((m % n : Nat) : Int) from rfl] at h
theorem A86 {x y : Operand} {t t' : TypeId} {m n : Nat} (hx : evo env x = some (.int .i64 (m : Int))) (hy : evo env y = some (.int .i64 (n : Int))) (hn : 0 < n) (hm : m ≤ 9223372036854775807) :
  J9 P Γ ⟨env, hp, G⟩ (.binOp .quo t x y t') ty (.int .i64 ((m / n : Nat) : Int)) := by
 have hd : m / n ≤ m := Nat.div_le_self _ _
 have e : ((m : Int).tdiv n) = ((m / n : Nat) : Int) := rfl
 have h := B2T (P := P) (Γ := Γ) (hp := hp) (G := G) (ty := ty) (t := t) (t' := t') hx hy zR0 (by rw [e]; generalize m / n = q at *; omega) (by rw [e]; generalize m / n = q at *; omega)
 rwa [e] at h
end clawss
def dgi (k : Nat) : Int := 48 + ((k % 10 : Nat) : Int)
def A87 : Nat → Nat → ByteArray → ByteArray
 | 0, _, out => out
 | f + 1, k, out => if 0 < k then A87 f (k / 10) (strOfNums [dgi k] ++ out) else out
def B3C (k : Nat) : ByteArray := ⟨#[109]⟩ ++ A87 20 k ⟨⟨[]⟩⟩
def A5I (l : List Int) : List Value := l.map (Value.int .i64 ·)
mutual
def E4 : Tm → Nat
 | .mk _ _ _ _ _ _ ks => H0 ks + 1
def H0 : List Tm → Nat
 | [] => 0
 | t :: ts => E4 t + H0 ts
end
mutual
def A5J : Tm → List Int → List (List Int)
 | .mk _ _ _ _ _ _ ks, path => path :: A88 ks 0 path
def A88 : List Tm → Nat → List Int → List (List Int)
 | [], _, _ => []
 | t :: ts, i, path => A5J t (path ++ [(i : Int)]) ++ A88 ts (i + 1) path
end
theorem A89 : ∀ {ks : List Tm} {t : Tm}, t ∈ ks → E4 t ≤ H0 ks
 | [], t, h => by simp at h
 | t' :: ts, t, h => by
  rw [H0]
  rcases List.mem_cons.1 h with rfl | h
  ·omega
  ·have := A89 h; omega
theorem A5K : ∀ (a b : List Tm), H0 (a ++ b) = H0 a + H0 b
 | [], b => by simp [H0]
 | t :: a, b => by rw [List.cons_append, H0, H0, A5K a b]; omega
theorem A1z {ks : List Tm} {i : Nat} (hi : i < ks.length) : H0 (ks.take i) + E4 ks[i] ≤ H0 ks := by
 have h := A5K (ks.take (i + 1)) (ks.drop (i + 1))
 rw [List.take_append_drop, List.take_succ_eq_append_getElem hi, A5K] at h
 simp only [H0] at h
 omega
theorem A1A {ks : List Tm} {i : Nat} (hi : i < ks.length) : H0 (ks.take (i + 1)) = H0 (ks.take i) + E4 ks[i] := by
 rw [List.take_succ_eq_append_getElem hi, A5K]
 simp only [H0]; omega
theorem B3D (t : Tm) : 0 < E4 t := by cases t; rw [E4]; omega
theorem A30 : ∀ (ks : List Tm), ks.length ≤ H0 ks
 | [] => by simp
 | .mk _ _ _ _ _ _ _ :: ts => by have := A30 ts; simp only [List.length_cons, H0, E4]; omega

theorem Sl.nn {G : IM} {p : Option Addr} {n c sz : Nat} {cs : List Value} (h : Sl G p n c sz cs) : p = none → n = 0 := by
 rintro rfl
 rcases h.2.2.2 with h | ⟨b, o, full, h, _⟩
 ·exact h
 ·cases h
def SPs (G : IM) : List (List Int) → List Value → List Nat → Prop
 | [], es, F => es = [] ∧ F = []
 | l :: ls, es, F => ∃ p c r Fr, es = .slice p l.length c :: r ∧ F = K5 p ++ Fr ∧ Sl G p l.length c 1 (A5I l) ∧ (∀ b ∈ K5 p, G b ≠ none) ∧ (p = none → l.length = 0) ∧ SPs G ls r Fr
def RPs (G : IM) (ls : List (List Int)) (p : Option Addr) (c : Nat) : Prop := ∃ es F, Sl G p ls.length c 1 es ∧ (∀ b ∈ K5 p, G b ≠ none) ∧ SPs G ls es F ∧ (K5 p ++ F).Nodup
mutual
theorem A9a (M D N : Int) : ∀ (t : Tm) (deep c : Int), (W0 M D N t deep c).1 = true → (W0 M D N t deep c).2 = c + E4 t
 | .mk k nm num ty fr lb ks, deep, c, h => by
  rw [W0] at h ⊢
  split at h
  ·cases h
  ·rename_i hc
   rw [if_neg hc, A9b M D N ks (deep + 1) (c + 1) h, E4]
   omega
theorem A9b (M D N : Int) : ∀ (ts : List Tm) (deep c : Int), (Y1 M D N ts deep c).1 = true → (Y1 M D N ts deep c).2 = c + H0 ts
 | [], deep, c, h => by rw [Y1, H0]; simp
 | t :: ts, deep, c, h => by
  rw [Y1] at h ⊢
  split at h
  ·rename_i h1
   rw [if_pos h1, A9b M D N ts deep _ h, A9a M D N t deep c h1, H0]
   omega
  ·cases h
end
def B3E (t : Tm) : List (List Int) := if O9 t = true then A5J t [] else []
section slaws
variable {P : Program} {Γ : N7} {env : O6} {hp : List A7} {G : IM} {ty : TypeId}
end slaws
theorem Sl.kid {G : IM} {p : Option Addr} {n c : Nat} {cs : List Value} (h : Sl G p n c 1 cs) {i : Nat} (hi : i < n) :
  ∃ b o v, p = some ⟨b, o, none⟩ ∧ cs[i]? = some v ∧ (∀ hp, At hp G b (o + i * 1) [v]) ∧ G b ≠ none := by
 obtain ⟨h1, h2, h3, h4⟩ := h
 obtain ⟨b, o, full, rfl, hg, hv⟩ := h4.resolve_left zR0
 have hlt : i < cs.length := by omega
 refine ⟨b, o, cs[i], rfl, List.getElem?_eq_getElem hlt, fun hp => A2Z hg ?_, by rw [hg]; simp⟩
 intro j v hj
 cases j with
 | zero => simp at hj; subst hj; simpa using hv i _ (List.getElem?_eq_getElem hlt)
 | succ j => simp at hj
theorem Sl.le {G : IM} {p : Option Addr} {n c sz : Nat} {cs : List Value} (h : Sl G p n c sz cs) : n ≤ 9223372036854775807 := by
 have h1 := h.2.1; have h2 := h.2.2.1; unfold maxLen at h2; omega


abbrev A1W := List (Nat × List Value)

mutual
def OTy : Ty → List Value → A1W → Prop
 | .mk k ks, cells, bs => ∃ p c, cells = [.int .i64 k, .slice p ks.length c] ∧ H6 k ∧ ks.length ≤ c ∧ c ≤ maxLen ∧ ((ks = [] ∧ bs = []) ∨ ∃ b A C es r, p = some ⟨b, A.length, none⟩ ∧ bs = (b, A ++ (es.flatten ++ C)) :: r ∧ A60 ks es r)
def A60 : List Ty → List (List Value) → A1W → Prop
 | [], es, bs => es = [] ∧ bs = []
 | t :: ts, es, bs => ∃ e e' r1 r2, es = e :: e' ∧ bs = r1 ++ r2 ∧ OTy t e r1 ∧ A60 ts e' r2
end
def A9c (ks : List Ty) (p : Option Addr) (c : Nat) (bs : A1W) : Prop :=
 ks.length ≤ c ∧ c ≤ maxLen ∧ ((ks = [] ∧ bs = []) ∨ ∃ b A C es r, p = some ⟨b, A.length, none⟩ ∧ bs = (b, A ++ (es.flatten ++ C)) :: r ∧ A60 ks es r)
mutual
def OTm : Tm → List Value → A1W → Prop
 | .mk k nm num ty fr lb ks, cells, bs => ∃ tc fc p c bt bf bk, cells = [.int .i64 k, .string nm, .int .i64 num] ++ tc ++ fc ++ [.int .i64 lb, .slice p ks.length c] ∧ H6 k ∧ H6 num ∧ H6 lb ∧ OTy ty tc bt ∧ OTy fr fc bf ∧
   ks.length ≤ c ∧ c ≤ maxLen ∧ ((ks = [] ∧ bk = []) ∨ ∃ b A C es r, p = some ⟨b, A.length, none⟩ ∧ bk = (b, A ++ (es.flatten ++ C)) :: r ∧ A61 ks es r) ∧ bs = bt ++ (bf ++ bk)
def A61 : List Tm → List (List Value) → A1W → Prop
 | [], es, bs => es = [] ∧ bs = []
 | t :: ts, es, bs => ∃ e e' r1 r2, es = e :: e' ∧ bs = r1 ++ r2 ∧ OTm t e r1 ∧ A61 ts e' r2
end
def B3F (ks : List Tm) (p : Option Addr) (c : Nat) (bs : A1W) : Prop :=
 ks.length ≤ c ∧ c ≤ maxLen ∧ ((ks = [] ∧ bs = []) ∨ ∃ b A C es r, p = some ⟨b, A.length, none⟩ ∧ bs = (b, A ++ (es.flatten ++ C)) :: r ∧ A61 ks es r)
mutual
def A9d : Ty → Int
 | .mk _ ks => 1 + A0U ks
def A0U : List Ty → Int
 | [] => 0
 | t :: ts => A9d t + A0U ts
end
mutual
def B3G : Ty → Int → Ty
 | .mk _ ks, k => .mk k (A20 ks (k + 1))
def A20 : List Ty → Int → List Ty
 | [], _ => []
 | t :: ts, k => B3G t k :: A20 ts (k + A9d t)
end
mutual
def A9e : Tm → Int
 | .mk _ _ _ ty fr _ ks => 6 + A0U ty.ks + A0U fr.ks + A9f ks
def A9f : List Tm → Int
 | [] => 0
 | t :: ts => A9e t + A9f ts
end
mutual
def B3H : Tm → Int → Tm
 | .mk _ _ _ ty fr _ ks, k => .mk k (B3C (k + 1).toNat) (k + 1 + 1) (.mk (k + 1 + 1 + 1) (A20 ty.ks (k + 1 + 1 + 1 + 1))) (.mk (k + 1 + 1 + 1 + 1 + A0U ty.ks) (A20 fr.ks (k + 1 + 1 + 1 + 1 + A0U ty.ks + 1))) (k + 1 + 1 + 1 + 1 + A0U ty.ks + 1 + A0U fr.ks) (A5L ks (k + 1 + 1 + 1 + 1 + A0U ty.ks + 1 + A0U fr.ks + 1))
def A5L : List Tm → Int → List Tm
 | [], _ => []
 | t :: ts, k => B3H t k :: A5L ts (k + A9e t)
end
section lend
variable {P : Program} {Γ : N7} {env : O6} {hp : List A7} {G : IM} {K : Po} {ops : Array Oper} {rest : List Oper} {ty : TypeId} {pos : String} {af : Array Edge} {gd : Option (Nat × Bool)}
def B9q (v0 : Value) (G : IM) (Φ : A1W → Prop) : IM → Value → List A7 → Prop := fun G' v outs => G' = G ∧ v = v0 ∧ ∃ bs', outs = A0T bs' ∧ Φ bs'
end lend
def MTm (t : Tm) (k : Int) (cells : List Value) (bs : A1W) : Prop := ∃ pt ct pf cf p c bt bf bk,
 cells = [.int .i64 t.k, .string t.nm, .int .i64 t.num, .int .i64 t.ty.k, .slice pt t.ty.ks.length ct, .int .i64 t.fr.k, .slice pf t.fr.ks.length cf, .int .i64 t.lb, .slice p t.ks.length c] ∧
 A9c (A20 t.ty.ks k) pt ct bt ∧ A9c (A20 t.fr.ks (k + A0U t.ty.ks)) pf cf bf ∧ B3F (A5L t.ks (k + A0U t.ty.ks + A0U t.fr.ks)) p c bk ∧ bs = bt ++ (bf ++ bk)
def A9g : Nat → Int → List Int
 | 0, _ => []
 | n + 1, k => k :: A9g n (k + 1)
def OIs (l : List Int) (p : Option Addr) (c : Nat) (bs : A1W) : Prop :=
 l.length ≤ c ∧ c ≤ maxLen ∧ ((l = [] ∧ bs = []) ∨ ∃ b A C, p = some ⟨b, A.length, none⟩ ∧ bs = [(b, A ++ (A5I l ++ C))])
def OPs : List (List Int) → List Value → A1W → Prop
 | [], es, bs => es = [] ∧ bs = []
 | l :: ls, es, bs => ∃ p c e' r1 r2, es = .slice p l.length c :: e' ∧ bs = r1 ++ r2 ∧ OIs l p c r1 ∧ OPs ls e' r2
def B3I : List (List Int) → Int
 | [] => 0
 | l :: ls => l.length + B3I ls
def B3J : List (List Int) → Int → List (List Int)
 | [], _ => []
 | l :: ls, k => A9g l.length k :: B3J ls (k + l.length)
section lend0
variable {P : Program} {Γ : N7} {env : O6} {G : IM} {K : Po} {ops : Array Oper} {rest : List Oper} {ty : TypeId} {pos : String} {af : Array Edge} {gd : Option (Nat × Bool)}
end lend0
def QPs (G : IM) : List (List Int) → List Value → Prop
 | [], es => es = []
 | l :: ls, es => ∃ p c r, es = .slice p l.length c :: r ∧ Sl G p l.length c 1 (A5I l) ∧ QPs G ls r
mutual
def M4 : Ty → Int
 | .mk _ ks => ks.length + Q8 ks
def Q8 : List Ty → Int
 | [] => 0
 | t :: ts => M4 t + Q8 ts
end
mutual
def A00 : Tm → Int
 | .mk _ nm _ ty fr _ ks => nm.size + M4 ty + M4 fr + (ks.length + A0u ks)
def A0u : List Tm → Int
 | [] => 0
 | t :: ts => A00 t + A0u ts
end
mutual
theorem A1X : ∀ t : Ty, 0 ≤ M4 t
 | .mk _ ks => by have := A2L ks; rw [M4]; omega
theorem A2L : ∀ ts : List Ty, 0 ≤ Q8 ts
 | [] => by rw [Q8]; omega
 | t :: ts => by have := A1X t; have := A2L ts; rw [Q8]; omega
end
mutual
theorem A9h : ∀ t : Tm, 0 ≤ A00 t
 | .mk _ _ _ ty fr _ ks => by have := A5M ks; have := A1X ty; have := A1X fr; rw [A00]; omega
theorem A5M : ∀ ts : List Tm, 0 ≤ A0u ts
 | [] => by rw [A0u]; omega
 | t :: ts => by have := A9h t; have := A5M ts; rw [A0u]; omega
end
theorem A62 : ∀ a b : List Ty, Q8 (a ++ b) = Q8 a + Q8 b
 | [], b => by simp [Q8]
 | t :: a, b => by rw [List.cons_append, Q8, Q8, A62 a b]; omega
theorem B3K {ks : List Ty} {i : Nat} (hi : i < ks.length) : Q8 (ks.take (i + 1)) = Q8 (ks.take i) + M4 ks[i] := by
 rw [List.take_succ_eq_append_getElem hi, A62, Q8, Q8]; omega
theorem A9i (ks : List Ty) (i : Nat) : Q8 (ks.take i) ≤ Q8 ks := by
 have h := A62 (ks.take i) (ks.drop i)
 rw [List.take_append_drop] at h
 have := A2L (ks.drop i); omega
mutual
def Tm.nok : Tm → Prop
 | .mk _ nm _ _ _ _ ks => nm.size ≤ 9223372036854775807 ∧ Tm.nokL ks
def Tm.nokL : List Tm → Prop
 | [] => True
 | t :: ts => t.nok ∧ Tm.nokL ts
end
def B9r (left s : Int) : Int := if s ≤ left then left - s else -1
end Gw
end Go.Proofs.YtbdacdnffkhgeaaGreatDoor
namespace Go.Proofs.YtbdacdnffkhgeaaGreatDoor
open Go Go.RowKit Go.ChangeShapes Go.WideShapes Go.ChangeAt
namespace Gw
def GW (w : World) : IM := fun b => match w.heap[b]? with
 | some (.cells c _ _) => some c.toList
 | _ => none
theorem B3L (w : World) : X0 [] (GW w) w := by
 refine ⟨?_, by simp, by simp [Fp], by simp [Fp]⟩
 intro b l h
 unfold GW at h
 split at h
 ·rename_i c e f hb; cases h; exact ⟨e, f, by simpa using hb⟩
 ·cases h
theorem A9j {w : World} {b o : Nat} {v : Value} (h : w.cell? ⟨b, o, none⟩ = some v) : ∃ full, GW w b = some full ∧ full[o]? = some v := by
 unfold World.cell? at h
 simp only at h
 split at h
 ·rename_i c e f hb
  exact ⟨c.toList, by simp [GW, hb], by simpa using h⟩
 ·cases h
theorem A9k {sz : Nat} : ∀ {es : List (List Value)}, (∀ e ∈ es, e.length = sz) → ∀ {j : Nat} {v : Value}, es.flatten[j]? = some v → ∃ i e r, es[i]? = some e ∧ e[r]? = some v ∧ j = i * sz + r
 | [], _, j, v, h => by simp at h
 | a :: es, hall, j, v, h => by
  have ha := hall a List.mem_cons_self
  rw [List.flatten_cons, List.getElem?_append] at h
  split at h
  ·exact ⟨0, a, j, rfl, h, by simp⟩
  ·rename_i hj
   obtain ⟨i, e, r, h1, h2, h3⟩ := A9k (fun x hx => hall x (List.mem_cons_of_mem _ hx)) h
   exact ⟨i + 1, e, r, by simpa using h1, h2, by rw [Nat.succ_mul]; omega⟩
theorem B3M {w : World} {a : Addr} {n c sz : Nat} {es : List (List Value)} (hl : es.length = n) (hsz : 0 < sz) (hc : n ≤ c) (hm : c ≤ maxLen) (h : ∀ i e, es[i]? = some e → w.cells? 0 (a.add (i * sz)) sz = some e) : Sl (GW w) (some a) n c sz es.flatten := by
 have hall : ∀ e ∈ es, e.length = sz := by
  intro e he
  obtain ⟨i, hi⟩ := List.getElem?_of_mem he
  exact (World.cells?_some (h i e hi)).2.1
 refine ⟨by rw [A1y hall, hl], hc, hm, ?_⟩
 rcases Nat.eq_zero_or_pos n with h0 | h0
 ·exact .inl h0
 ·right
  obtain ⟨b, o, s⟩ := a
  have hs : s = none := by
   have h1 := (World.cells?_some (h 0 es[0] (List.getElem?_eq_getElem zR0))).2
   have h2 := h1.2 0 hsz
   rw [List.getElem?_eq_getElem zR0] at h2
   simp only [Nat.zero_mul, Addr.add, if_true] at h2
   unfold World.cell? at h2
   split at h2
   ·split at h2
    ·cases h2
    ·rename_i hn; cases s with
     | none => rfl
     | some x => simp at hn
   ·cases h2
  subst hs
  have key : ∀ j v, es.flatten[j]? = some v → w.cell? ⟨b, o + j, none⟩ = some v := by
   intro j v hj
   obtain ⟨i, e, r, h1, h2, rfl⟩ := A9k hall hj
   have h3 := (World.cells?_some (h i e h1)).2
   have hr : r < e.length := (List.getElem?_eq_some_iff.1 h2).1
   have h4 := h3.2 r zR0
   rw [h2, A3q, A3q] at h4
   rw [← Nat.add_assoc]; exact h4
  have hpos : 0 < es.flatten.length := by rw [A1y hall, hl]; exact Nat.mul_pos h0 hsz
  obtain ⟨full, hg, _⟩ := A9j (key 0 es.flatten[0] (List.getElem?_eq_getElem hpos))
  refine ⟨b, o, full, rfl, hg, fun j v hj => ?_⟩
  obtain ⟨full', hg', hv⟩ := A9j (key j v hj)
  rw [hg] at hg'; cases hg'; exact hv
theorem D9.snoc {G : IM} : ∀ {ts : List Ty} {es : List (List Value)} {t : Ty} {e : List Value}, D9 G ts es → C7 G t e → D9 G (ts ++ [t]) (es ++ [e])
 | [], es, t, e, h, h2 => by
  simp only [D9] at h; subst h
  simp only [List.nil_append, D9]
  exact ⟨e, [], rfl, h2, rfl⟩
 | t' :: ts, es, t, e, h, h2 => by
  simp only [D9] at h
  obtain ⟨a, r, rfl, h3, h4⟩ := h
  simp only [List.cons_append, D9]
  exact ⟨a, r ++ [e], rfl, h3, D9.snoc h4 h2⟩
theorem F9.snoc {G : IM} : ∀ {ts : List Tm} {es : List (List Value)} {t : Tm} {e : List Value}, F9 G ts es → B7 G t e → F9 G (ts ++ [t]) (es ++ [e])
 | [], es, t, e, h, h2 => by
  simp only [F9] at h; subst h
  simp only [List.nil_append, F9]
  exact ⟨e, [], rfl, h2, rfl⟩
 | t' :: ts, es, t, e, h, h2 => by
  simp only [F9] at h
  obtain ⟨a, r, rfl, h3, h4⟩ := h
  simp only [List.cons_append, F9]
  exact ⟨a, r ++ [e], rfl, h3, F9.snoc h4 h2⟩
theorem D9.each {G : IM} {ts : List Ty} {es : List (List Value)} (h : D9 G ts es) : ∀ e ∈ es, e.length = 2 ∧ e.all (·.oneCell') = true := by
 intro e he
 obtain ⟨i, hi⟩ := List.getElem?_of_mem he
 have := (h.inv hi B4).2
 exact ⟨this.len, this.one⟩
theorem F9.each {G : IM} {ts : List Tm} {es : List (List Value)} (h : F9 G ts es) : ∀ e ∈ es, e.length = 9 ∧ e.all (·.oneCell') = true := by
 intro e he
 obtain ⟨i, hi⟩ := List.getElem?_of_mem he
 have := (h.inv hi (.mk 0 ⟨#[]⟩ 0 B4 B4 0 [])).2
 exact ⟨this.len, this.one⟩
section read
variable {H : Type} {enc : TypeId × Value → H} {w : World} {sp : Nat → Bool} {held : Bool}
end read
theorem Ext.below {w w' : World} (h : Ext (Fp []) w w') : Below w.heap.size w w' := ⟨h.os, h.tape, h.output, h.size, fun k hk => h.block k hk (by simp [Fp])⟩
section post
variable {H : Type} {enc : TypeId × Value → H} {P : Program}
theorem B3N {f : Func} {s : ChangeSpec} {apart fresh handsOn again : Bool} {W W' : World} {args : Array Value} {v : Value} {ds gs : List (DataW H)} {before : List MemPlace}
  (hW : DataW.Whole enc P f.params.toList s.vars apart W args.toList ds gs before) (hb : Below W.heap.size W W') (hgs : s.vars = [])
  (hres : ∀ (b : Nat) (sp : Nat → Bool) (hd : Bool), DataW.TrodAll enc P W' b sp hd f.resultTypes.toList (v.resultList f.resultTypes.size) (s.fn H (ds ++ gs)).results [])
  (hargs : ∀ sp : Nat → Bool, (∀ p ∈ before, sp p.block = true) → DataW.TrodAll enc P W' 0 sp true f.params.toList args.toList (s.fn H (ds ++ gs)).args before)
  (hv : (s.fn H (ds ++ gs)).vars = [])
  (hok : ∀ (j : Nat) (t : TypeId) (r : Value), f.resultTypes[j]? = some t → (v.resultList f.resultTypes.size)[j]? = some r → Value.okWide P W' .any 0 t r) :
  s.post enc P f apart fresh handsOn again W args v W' := by
 have hold : ∀ p ∈ before, (fun b => decide (b < W.heap.size)) p.block = true := fun p hp => by simpa using hW.lt p hp
 have hvars : ∀ sp : Nat → Bool, DataW.TrodVars enc P W' sp s.vars (s.fn H (ds ++ gs)).vars [] := fun sp => by rw [hgs, hv]; rfl
 have hkept : W.keptBut W' (fun _ => False) := by
  refine ⟨hb.os, hb.output, fun i hi => ?_⟩
  rw [hb.block i hi]
  split
  ·rename_i h1 h2; cases h1.symm.trans h2; exact ⟨rfl, rfl, rfl, fun _ _ => rfl⟩
  ·rename_i h1 h2; cases h1.symm.trans h2; exact .inr ⟨rfl, rfl⟩
  ·rfl
 refine ⟨ds, gs, before, [], before, [], hW, hres _ _ _, hargs _ hold, hvars _, World.keptBut_mono (fun p hp => hp.elim) hkept, fun _ => ?_⟩
 obtain ⟨_, _, _, _, _, hz, hn⟩ := hW
 refine ⟨hok, _, _, ([] ++ before) ++ [], ⟨[] ++ before, [], trodAll_append (hargs _ (fun _ _ => rfl)) (hres _ _ _), hvars _, rfl, ?_, ?_⟩, ?_⟩
 ·intro b off hp
  have hp' : MemPlace.cell b off ∈ before := by simpa using hp
  have hlt : b < W.heap.size := of_decide_eq_true (hold _ hp')
  have := hz b off hp'
  unfold World.frozen? at this ⊢
  simp only [hb.block b hlt]
  exact this
 ·intro ha; simpa using hn ha
 ·intro p hp _; simpa using hp
end post
def A1Y (G : IM) : Prop := ∃ g, Tryz.prog.globalNamed "internal/strconv.uint64pow10" = some g ∧ G g = some (Lib.pow10Tab.map fun z => Value.int .u64 z)
theorem A1Y.mono {G G' : IM} (h : A1Y G) (hg : B9 G G') : A1Y G' := by
 obtain ⟨g, h1, h2⟩ := h
 exact ⟨g, h1, hg g _ h2⟩
theorem B3O {G : IM} {w : World} (hw : X0 [] G w) (k : Nat) (os : Array Obj) : U8 [] G w [] G (Sort.grow (w.drewN k) os) := by
 have hb : ∀ b, b < w.heap.size → (Sort.grow (w.drewN k) os).heap[b]? = w.heap[b]? := by
  intro b h
  show (w.heap ++ os)[b]? = _
  rw [Array.getElem?_append_left h]
 refine ⟨⟨?_, by simp, by simp [Fp], by simp [Fp]⟩, ⟨rfl, rfl, rfl, ?_, fun b h _ => hb b h⟩, B9.refl _, fun _ _ h => .inl h, by simp [Fp], fun b l h h0 => absurd h (by rw [h0]; simp)⟩
 ·intro b l h
  obtain ⟨e, f, hh⟩ := hw.inn b l h
  exact ⟨e, f, by rw [hb b (A1P hh)]; exact hh⟩
 ·show w.heap.size ≤ (w.heap ++ os).size
  simp
theorem B3P (n : Int) (G : IM) (h : A1Y G) (h0 : 0 ≤ n) (h1 : n ≤ 999) : Fn Tryz.prog 100 [.int .i64 n] [] G (K7 (.string ⟨(Lib.decDigits n.toNat).toArray⟩) G) := by
 refine ⟨fun w hw => ?_⟩
 have ht : Lib.TabIs Tryz.prog w "internal/strconv.uint64pow10" .u64 Lib.pow10Tab := by
  obtain ⟨g, hg, hG⟩ := h
  obtain ⟨e, f, hh⟩ := hw.inn g _ hG
  unfold Lib.TabIs World.var?
  rw [hg]
  simp only [Option.bind_some, hh]
 refine (Tryz.strconv_Itoa n zR0 zR0 w ht).mono ?_
 rintro e w' ⟨rfl, k, os, rfl⟩
 refine ⟨_, G, [], rfl, B3O hw k os, rfl, ?_, rfl⟩
 unfold Lib.itoa
 rw [if_neg zR0]
end Gw
end Go.Proofs.YtbdacdnffkhgeaaGreatDoor
namespace Go.Proofs.YtbdacdnffkhgeaaGreatDoor
open Go Go.RowKit Go.ChangeShapes Go.WideShapes Go.ChangeAt
namespace Gw
theorem A63 : Tryz.prog.globalNamed "internal/strconv.uint64pow10" = some 0 := by kernel_rfl
theorem B3Q : (Tryz.prog.globals[0]?).map (·.type) = some 178 := by kernel_rfl
theorem B3R : Tryz.prog.cellsOf 178 = 20 := by kernel_rfl
theorem B3S : Tryz.prog.cellsOf 172 = 1 := by kernel_rfl
def A9l : List (String × DataW Unit) := [("math/bits.deBruijn32tab", Rows.laid_math_bits_deBruijn32tab), ("math/bits.deBruijn64tab", Rows.laid_math_bits_deBruijn64tab), ("internal/strconv.uint64pow10", Rows.laid_internal_strconv_uint64pow10)]
theorem B3T {W : World} (h : laidMetH Tryz.prog A9l W) : A1Y (GW W) := by
 have h1 : laidMet Tryz.prog A9l W := h
 have h3 := h1.tail.tail
 have ht : Lib.TabIs Tryz.prog W "internal/strconv.uint64pow10" .u64 Lib.pow10Tab :=
  Lib.tabIs_of_head (rest := []) A63 B3Q Tryz.underlying178 Tryz.underlying172 B3S B3R h3
 refine ⟨0, A63, ?_⟩
 unfold Lib.TabIs World.var? at ht
 rw [A63] at ht
 simp only [Option.bind_some] at ht
 unfold GW
 split at ht
 ·rename_i c e f hb
  rw [hb]
  have := Option.some.inj ht
  simp [this]
 ·cases ht
def A64 : DataW Unit → Array Value
 | .agg xs => (xs.map fun | .lit (.int k n) => Value.int k n | _ => .int .i64 0).toArray
 | _ => #[]
def A65 (xs : Array Value) : Obj → Obj
 | .cells _ t f => .cells xs t f
 | o => o
noncomputable def A66 (os : Os) : World :=
 { World.holding Tryz.prog os ⟨#[], #[], []⟩ with heap := (((World.holding Tryz.prog os ⟨#[], #[], []⟩).heap.modify 0 (A65 (A64 Rows.laid_internal_strconv_uint64pow10))).modify 1 (A65 (A64 Rows.laid_math_bits_deBruijn32tab))).modify 2 (A65 (A64 Rows.laid_math_bits_deBruijn64tab)) }
end Gw
end Go.Proofs.YtbdacdnffkhgeaaGreatDoor
namespace Go.Proofs.YtbdacdnffkhgeaaGreatDoor
open Go Go.RowKit Go.ChangeShapes Go.WideShapes Go.ChangeAt
namespace Gw
section read2
variable {H : Type} {enc : TypeId × Value → H} {w : World} {sp : Nat → Bool} {held : Bool}
end read2
section rlaws
variable {P : Program} {Γ : N7} {env : O6} {hp : List A7} {G : IM} {ty : TypeId}
theorem B3U {m n : Nat} (hm : m < 4611686018427387904) (hn : n < 4611686018427387904) : m ^^^ n < 4611686018427387904 := by
 have := @Nat.xor_lt_two_pow m n 62 zR0 zR0
 simpa using this
theorem B3V {x y : Operand} {t t' : TypeId} {m n : Nat} (hx : evo env x = some (.int .i64 (m : Int))) (hy : evo env y = some (.int .i64 (n : Int))) (hm : m < 4611686018427387904) (hn : n < 4611686018427387904) :
  J9 P Γ ⟨env, hp, G⟩ (.binOp .xor t x y t') ty (.int .i64 ((m ^^^ n : Nat) : Int)) := by
 refine ⟨fun a _ hs _ _ _ _ w => ?_⟩
 have hlt := B3U hm hn
 have e : (BitVec.ofInt 64 (m : Int) ^^^ BitVec.ofInt 64 (n : Int)).toNat = m ^^^ n := by
  rw [BitVec.toNat_xor, BitVec.toNat_ofInt, BitVec.toNat_ofInt]
  congr 1 <;> omega
 have hw : IntKind.i64.wrap (((BitVec.ofInt 64 (m : Int) ^^^ BitVec.ofInt 64 (n : Int)).toNat : Nat) : Int) = ((m ^^^ n : Nat) : Int) := by
  rw [e]; exact A3r _ rfl zR0 zR0
 simp only [execOp, eqGuard, binOp, Op.intBits, (hs.evo hx : a.eval x = _), (hs.evo hy : a.eval y = _), ne_eq, not_true_eq_false, if_false, Sem.run_bind, Sem.run_pure, Result.andThen_ok]
 rw [show IntKind.bits .i64 = 64 from rfl] at *
 simp only [hw]
 simp
theorem A4F {x y : Operand} {t t' : TypeId} {m n : Nat} (hx : evo env x = some (.int .i64 (m : Int))) (hy : evo env y = some (.int .i64 (n : Int))) (h : m * n ≤ 9223372036854775807) :
  J9 P Γ ⟨env, hp, G⟩ (.binOp .mul t x y t') ty (.int .i64 ((m * n : Nat) : Int)) := by
 have e : ((m : Int) * (n : Int)) = ((m * n : Nat) : Int) := by simp
 have h2 := B2S (P := P) (Γ := Γ) (hp := hp) (G := G) (ty := ty) (t := t) (t' := t') hx hy (by rw [e]; omega) (by rw [e]; omega)
 rwa [e] at h2
theorem A2g {x y : Operand} {t t' : TypeId} {m n : Nat} (hx : evo env x = some (.int .i64 (m : Int))) (hy : evo env y = some (.int .i64 (n : Int))) (h : m + n ≤ 9223372036854775807) :
  J9 P Γ ⟨env, hp, G⟩ (.binOp .add t x y t') ty (.int .i64 ((m + n : Nat) : Int)) := by
 have e : ((m : Int) + (n : Int)) = ((m + n : Nat) : Int) := by simp
 have h2 := K0 (P := P) (Γ := Γ) (hp := hp) (G := G) (ty := ty) (t := t) (t' := t') hx hy (by rw [e]; omega) (by rw [e]; omega)
 rwa [e] at h2
theorem A5N {x y : Operand} {t t' : TypeId} {m : Nat} (hx : evo env x = some (.int .i64 ((m + 1 : Nat) : Int))) (hy : evo env y = some (.int .i64 1)) (h : m ≤ 9223372036854775807) :
  J9 P Γ ⟨env, hp, G⟩ (.binOp .sub t x y t') ty (.int .i64 (m : Int)) := by
 have e : (((m + 1 : Nat) : Int) - 1) = (m : Int) := by omega
 have h2 := Q7 (P := P) (Γ := Γ) (hp := hp) (G := G) (ty := ty) (t := t) (t' := t') hx hy (by rw [e]; omega) (by rw [e]; omega)
 rwa [e] at h2
theorem A67 {s d : TypeId} {is id : M6} [hS : I3 P s is] [hD : I3 P d id] (hd : id.desc = .int .i64) {k : IntKind} (hs : is.desc = .int k) {x : Operand} {n : Int} (hx : evo env x = some (.int k n)) (h0 : -9223372036854775808 ≤ n) (h1 : n ≤ 9223372036854775807) :
  J9 P Γ ⟨env, hp, G⟩ (.convert s d x) ty (.int .i64 n) := by
 refine ⟨fun a _ hst _ _ _ _ w => ?_⟩
 have hu := hD.und
 rw [hd] at hu
 have hus := hS.und
 rw [hs] at hus
 have hw : IntKind.i64.wrap n = n := A3r n rfl h0 h1
 simp [execOp, convert, run_underlying hus, run_underlying hu, (hst.evo hx : a.eval x = _), Conv.intToInt, hw]
theorem A68 {x y : Operand} {t el : TypeId} {i : M6} {sz by' : Nat} {zs : List Value} [hI : I3 P t i] (hd' : i.desc = .slice el) [hE : Z7 P el sz by' zs] {p : Option Addr} {n c l : Nat}
  (hx : evo env x = some (.slice p n c)) (hy : evo env y = some (.int .i64 (l : Int))) (hl : l ≤ c) :
  J9 P Γ ⟨env, hp, G⟩ (.slice t x none (some y) none) ty (.slice p l c) := by
 refine ⟨fun a _ hs _ _ _ _ w => ?_⟩
 have hu := hI.und
 rw [hd'] at hu
 obtain ⟨d, hE⟩ := hE.ok
 obtain ⟨inf, z, t1, t2, t3, _⟩ := A3T (P := P) (t := el)
 have e1 : a.eval x = _ := hs.evo hx
 have e2 : a.eval y = _ := hs.evo hy
 have hb : ∀ code, (Instr.sliceBound (.int .i64 (l : Int)) c code).run P w = .ok l w := fun code => by
  unfold Instr.sliceBound
  simp only [asIntOf, Sem.run_bind, Sem.run_pure, Result.andThen_ok]
  rw [if_pos ⟨by omega, by omega⟩]
  simp
 simp only [execOp, Option.map, e1, e2, Instr.sliceAt, Sem.run_bind, run_underlying hu, Result.andThen_ok, Instr.slice, Instr.sliceBounds, Sem.run_pure, hb, t3]
 by_cases h : c = 0
 ·subst h; simp
 ·rw [if_neg h]; simp; cases p <;> simp [Addr.add]
end rlaws
def R4 (bs : List UInt8) : List Value := bs.map fun b => .int .u8 (b.toNat : Int)
theorem A9m (bs : List UInt8) : (R4 bs).length = bs.length := by simp [R4]
theorem A69 {bs : List UInt8} {i : Nat} {v : Value} (h : (R4 bs)[i]? = some v) : ∃ b : Nat, b < 256 ∧ v = .int .u8 (b : Int) := by
 unfold R4 at h
 rw [List.getElem?_map] at h
 cases hb : bs[i]? with
 | none => rw [hb] at h; simp at h
 | some b => rw [hb] at h; simp at h; exact ⟨b.toNat, b.toNat_lt, h.symm⟩
def rd (br : Nat) (pb : Option Addr) (nb cb p : Nat) : A7 := .blk br [.slice pb nb cb, .int .i64 (p : Int)]
def A1o (br : Nat) (pb : Option Addr) (nb cb p B : Nat) (Φ : IM → Value → Prop) : IM → Value → List A7 → Prop := fun G' v outs => ∃ p', p ≤ p' ∧ p' ≤ p + B ∧ outs = [rd br pb nb cb p'] ∧ Φ G' v
theorem A0C (G : IM) (br : Nat) (pb : Option Addr) (nb cb p : Nat) (bs : List UInt8) (n : Int) (hb : Sl G pb nb cb 1 (R4 bs)) (hnb : nb ≤ 2000) (hp : p < 1099511627776) :
  Fn Tryz.prog 71 [.pointer (some ⟨br, 0, none⟩), .int .i64 n] [rd br pb nb cb p] G (fun G' v outs => G' = G ∧ outs = [rd br pb nb cb (p + 1)] ∧ ∃ k, v = .int .i64 k ∧ 0 ≤ k ∧ (1 ≤ n → k < n)) := by
 unfold rd
 have hm1 : ∀ q, 0 < nb → q % nb < nb := fun q h => Nat.mod_lt _ h
 have hdv : p / nb ≤ p := Nat.div_le_self _ _
 refine C0 Tryz.func71 rfl Tryz.ntmps71 Tryz.results71 rfl ?_
 intro w0
 refine E7 ?_
 refine sQ (K6 rfl) rfl ?_
 refine A4 ?_
 refine sP (A2g (n := 1) rfl rfl zR0) rfl rfl ?_
 refine sQ (K6 rfl) rfl ?_
 refine E1 ?_
 refine sB (N5 rfl rfl) rfl rfl (fun h23 => ?_) (fun h23 => ?_)
 refine Z8 ?_
 refine H8 (rT rfl) A0.refl ?_
 exact ⟨rfl, rfl, 0, rfl, Int.le_refl _, fun h => by omega⟩
 refine A4 ?_
 refine sQ (K6 rfl) rfl ?_
 refine C1 ?_
 refine sB (qE rfl rfl) rfl rfl (fun h50 => ?_) (fun h50 => ?_)
 refine M7 ?_
 refine H8 (rT rfl) A0.refl ?_
 exact ⟨rfl, rfl, 0, rfl, Int.le_refl _, fun h => by omega⟩
 refine E7 ?_
 refine sQ (K6 rfl) rfl ?_
 refine A4 ?_
 refine sP (A5N rfl rfl zR0) rfl rfl ?_
 refine E1 ?_
 refine sQ (K6 rfl) rfl ?_
 refine C1 ?_
 refine sB (N5 rfl rfl) rfl rfl (fun h89 => ?_) (fun h89 => ?_)
 refine A9 ?_
 refine sQ (K6 rfl) rfl ?_
 refine C1 ?_
 (obtain ⟨b, o, v, rfl, hv, hat, hgb⟩ := hb.kid (i := p) zR0; obtain ⟨y, hy, rfl⟩ := A69 hv; refine sP (B8 rfl rfl rfl zR0) rfl rfl ?_)
 refine sL (I7 rfl rfl (hat _)) rfl rfl ?_
 refine sP (A67 rfl rfl rfl zR0 zR0) rfl rfl ?_
 refine D8 ?_
 refine sP (A5u rfl rfl zR0) rfl rfl ?_
 refine A8 ?_
 refine H8 (rT rfl) A0.refl ?_
 exact ⟨rfl, rfl, _, rfl, Int.tmod_nonneg _ zR0, fun h => Int.tmod_lt_of_pos _ zR0⟩
 refine A9 ?_
 (obtain ⟨b, o, v1, rfl, hv1, hat1, _⟩ := hb.kid (i := HMod.hMod p nb) (hm1 _ zR0); obtain ⟨y1, hy1, rfl⟩ := A69 hv1; obtain ⟨b', o', v2, hbb, hv2, hat2, _⟩ := hb.kid (i := HMod.hMod (p * 7 + 3) nb) (hm1 _ zR0); obtain ⟨y2, hy2, rfl⟩ := A69 hv2; cases hbb; have hl1 := hm1 p zR0; have hl2 := hm1 (p * 7 + 3) zR0; refine D3 D4 rfl ?_)
 refine J4 (i := 0) (l' := [tt,ff,ff,ff,ff,ff,ff,ff,ff,ff,ff,ff,ff,ff,ff,ff,ff,ff,ff,ff,ff,ff,ff,ff,ff,ff,ff,ff,ff,ff,ff,ff,ff,ff,ff,ff,ff,ff,ff,ff,ff,ff,ff,ff,ff,ff]) rfl C8 (qM rfl) rfl zP0 rfl rfl ?_
 refine aP 1 rfl (K6 rfl) rfl ?_
 refine aP 2 rfl (C3 rfl) rfl ?_
 refine aL 3 rfl (F0 rfl rfl) rfl ?_
 refine aP 4 rfl (qM rfl) rfl ?_
 refine aP 5 rfl (qM rfl) rfl ?_
 refine aP 6 rfl (K6 rfl) rfl ?_
 refine aP 7 rfl (C3 rfl) rfl ?_
 refine aL 8 rfl (F0 rfl rfl) rfl ?_
 refine aP 9 rfl (pLn rfl rfl) rfl ?_
 refine aP 10 rfl (A85 rfl rfl zR0) rfl ?_
 refine aP 11 rfl (B8 rfl rfl rfl (by first | exact hl1 | exact hl2)) rfl ?_
 refine aL 12 rfl (I7 rfl rfl (hat1 _)) rfl ?_
 refine aP 13 rfl (A67 rfl rfl rfl zR0 zR0) rfl ?_
 refine aP 14 rfl (A4F (n := 131) rfl rfl zR0) rfl ?_
 refine aP 15 rfl (qM rfl) rfl ?_
 refine aP 16 rfl (K6 rfl) rfl ?_
 refine aP 17 rfl (C3 rfl) rfl ?_
 refine aL 18 rfl (F0 rfl rfl) rfl ?_
 refine aP 19 rfl (qM rfl) rfl ?_
 refine aP 20 rfl (A4F (n := 7) rfl rfl zR0) rfl ?_
 refine aP 21 rfl (A2g (n := 3) rfl rfl zR0) rfl ?_
 refine aP 22 rfl (qM rfl) rfl ?_
 refine aP 23 rfl (K6 rfl) rfl ?_
 refine aP 24 rfl (C3 rfl) rfl ?_
 refine aL 25 rfl (F0 rfl rfl) rfl ?_
 refine aP 26 rfl (pLn rfl rfl) rfl ?_
 refine aP 27 rfl (A85 rfl rfl zR0) rfl ?_
 refine aP 28 rfl (B8 rfl rfl rfl (by first | exact hl1 | exact hl2)) rfl ?_
 refine aL 29 rfl (I7 rfl rfl (hat2 _)) rfl ?_
 refine aP 30 rfl (A67 rfl rfl rfl zR0 zR0) rfl ?_
 refine aP 31 rfl (A4F (n := 1117) rfl rfl zR0) rfl ?_
 refine aP 32 rfl (A2g rfl rfl zR0) rfl ?_
 refine aP 33 rfl (qM rfl) rfl ?_
 refine aP 34 rfl (A4F (n := 29) rfl rfl zR0) rfl ?_
 refine aP 35 rfl (A2g rfl rfl zR0) rfl ?_
 refine aP 36 rfl (qM rfl) rfl ?_
 refine aP 37 rfl (qM rfl) rfl ?_
 refine aP 38 rfl (K6 rfl) rfl ?_
 refine aP 39 rfl (C3 rfl) rfl ?_
 refine aL 40 rfl (F0 rfl rfl) rfl ?_
 refine aP 41 rfl (pLn rfl rfl) rfl ?_
 refine aP 42 rfl (A86 rfl rfl zR0 zR0) rfl ?_
 refine aP 43 rfl (A4F (n := 53) rfl rfl zR0) rfl ?_
 refine aP 44 rfl (A2g rfl rfl zR0) rfl ?_
 refine aP 45 rfl (qA rfl) rfl ?_
 refine A9 ?_
 refine sP (A86 (n := 64) rfl rfl zR0 zR0) rfl rfl ?_
 refine sP (B3V rfl rfl zR0 zR0) rfl rfl ?_
 refine B0 ?_
 refine sP (A5u rfl rfl zR0) rfl rfl ?_
 refine B5 ?_
 refine H8 (rT rfl) A0.refl ?_
 exact ⟨rfl, rfl, _, rfl, Int.tmod_nonneg _ zR0, fun h => Int.tmod_lt_of_pos _ zR0⟩
end Gw
end Go.Proofs.YtbdacdnffkhgeaaGreatDoor
namespace Go.Proofs.YtbdacdnffkhgeaaGreatDoor
open Go Go.RowKit Go.ChangeShapes Go.WideShapes Go.ChangeAt
namespace Gw
theorem B3W : Tryz.prog.cellsOf 5 = 1 := by kernel_rfl
theorem A9n {q : Nat → Value → Prop} : ∀ {n : Nat}, (∀ i, i < n → ∃ k : UInt8, q i (.int .u8 (k.toNat : Int))) → ∃ l : List UInt8, l.length = n ∧ ∀ i v, (R4 l)[i]? = some v → q i v
 | 0, _ => ⟨[], rfl, by simp [R4]⟩
 | n + 1, h => by
  obtain ⟨l, h1, h2⟩ := A9n (n := n) fun i hi => h i zR0
  obtain ⟨k, hk⟩ := h n zR0
  refine ⟨l ++ [k], by simp [h1], fun i v hv => ?_⟩
  rw [show R4 (l ++ [k]) = R4 l ++ [.int .u8 (k.toNat : Int)] from by simp [R4], List.getElem?_append] at hv
  split at hv
  ·exact h2 i v hv
  ·rename_i hi
   rw [A9m] at hi hv
   have : i - l.length = 0 := by
    have := (List.getElem?_eq_some_iff.1 hv).1; simp at this; omega
   rw [this] at hv; simp at hv; subst hv
   rw [show i = n by omega]; exact hk
section read2
variable {H : Type} {enc : TypeId × Value → H} {w : World} {sp : Nat → Bool} {held : Bool}
theorem B3X (n : Nat) (cs : List Value) (x : DataW H × List MemPlace) (h : DataW.trod enc Tryz.prog w 0 sp held n 22 cs = some x) : ∃ (l : List UInt8) (p : Option Addr) (c : Nat), cs = [.slice p l.length c] ∧ Sl (GW w) p l.length c 1 (R4 l) := by
 rcases DataW.trod_slice Tryz.underlying22 h with ⟨rfl, _⟩ | ⟨ad, len, cap, elems, rest, n', rfl, rfl, _, _, hlc, hcm, hel, hele, _, _⟩
 ·exact ⟨[], none, 0, rfl, Sl.nil _ _⟩
 ·rw [B3W] at hele
  obtain ⟨l, h1, h2⟩ := A9n (q := fun i v => w.cells? 0 (ad.add (i * 1)) 1 = some [v]) (n := len) fun i hi => by
   have := hele i hi
   rw [List.getElem?_eq_getElem zR0] at this
   obtain ⟨cs', c1, c2⟩ := Option.bind_eq_some_iff.1 this
   obtain ⟨k, rfl, _, hw⟩ := DataW.trod_int Tryz.underlying5 c2
   have hk : 0 ≤ k ∧ k < 256 := by
    have hw2 : (decide ((0 : Int) ≤ k) && decide (k ≤ (255 : Int))) = true := hw
    simp only [Bool.and_eq_true, decide_eq_true_eq] at hw2
    omega
   refine ⟨UInt8.ofNat k.toNat, ?_⟩
   rw [show ((UInt8.ofNat k.toNat).toNat : Int) = k from by
    rw [UInt8.toNat_ofNat']; omega]
   exact c1
  subst h1
  refine ⟨l, some ad, cap, rfl, ?_⟩
  have := B3M (w := w) (a := ad) (n := l.length) (c := cap) (sz := 1) (es := (R4 l).map fun v => [v]) (by simp [A9m]) zR0 hlc hcm fun i e he => by
   rw [List.getElem?_map] at he
   cases hv : (R4 l)[i]? with
   | none => rw [hv] at he; simp at he
   | some v => rw [hv] at he; simp at he; subst he; exact h2 i v hv
  have hf : ((R4 l).map fun v => [v]).flatten = R4 l := by
   generalize R4 l = L
   induction L with
   | nil => rfl
   | cons a L ih => simp [ih]
  rwa [hf] at this
end read2
inductive SV where
 | v (n : Nat)
 | b (c : Bool)
 | t (c : Bool) (x y : SV)
def SV.kd : SV → Int
 | .v _ => 0
 | .b c => if c = true then 3 else 2
 | .t c _ _ => if c = true then 5 else 4
abbrev BV := Nat → Option SV
def A01 (B : BV) (n : Nat) (s : SV) : BV := fun m => if m = n then some s else B m
def SV.nv : SV → Bool
 | .v _ => false
 | _ => true
inductive Hd (B : BV) : SV → SV → Prop
 | free {n} : B n = none → Hd B (.v n) (.v n)
 | link {n s r} : B n = some s → Hd B s r → Hd B (.v n) r
 | nv {s} : s.nv = true → Hd B s s
inductive Q9 (B : BV) : SV → SV → Prop
 | free {n} : B n = none → Q9 B (.v n) (.v n)
 | link {n s r} : B n = some s → Q9 B s r → Q9 B (.v n) r
 | b {c} : Q9 B (.b c) (.b c)
 | t {c x y p q} : Q9 B x p → Q9 B y q → Q9 B (.t c x y) (.t c p q)
def occ (n : Nat) : SV → Bool
 | .v m => decide (m = n)
 | .b _ => false
 | .t _ x y => occ n x || occ n y
theorem Hd.det {B : BV} {s r r' : SV} (h : Hd B s r) (h' : Hd B s r') : r = r' := by
 induction h with
 | free h1 => cases h' with
  | free _ => rfl
  | link h2 _ => rw [h1] at h2; cases h2
  | nv h2 => cases h2
 | link h1 _ i => cases h' with
  | free h2 => rw [h1] at h2; cases h2
  | link h2 h3 => rw [h1] at h2; cases h2; exact i h3
  | nv h2 => cases h2
 | nv h1 => cases h' with
  | free _ => cases h1
  | link _ _ => cases h1
  | nv _ => rfl
def B3Y (B : BV) : SV → SV → Prop
 | .v n, h => h = .v n ∧ B n = none
 | .b c, h => h = .b c
 | .t c p q, h => ∃ x y, h = .t c x y ∧ Q9 B x p ∧ Q9 B y q
theorem Q9.hd {B : BV} {s r : SV} (h : Q9 B s r) : ∃ k, Hd B s k ∧ B3Y B r k := by
 induction h with
 | free h1 => exact ⟨_, .free h1, rfl, h1⟩
 | link h1 _ i => obtain ⟨k, h2, h3⟩ := i; exact ⟨k, .link h1 h2, h3⟩
 | b => exact ⟨_, .nv rfl, rfl⟩
 | t h1 h2 => exact ⟨_, .nv rfl, _, _, rfl, h1, h2⟩
theorem Hd.fr {B : BV} {s : SV} {n : Nat} (h : Hd B s (.v n)) : B n = none := by
 generalize hr : SV.v n = r at h
 induction h with
 | free h1 => cases hr; exact h1
 | link _ _ i => exact i hr
 | nv h1 => subst hr; cases h1
inductive Q4 : BV → SV → SV → BV → Bool → Prop
 | self {B a b n} : Hd B a (.v n) → Hd B b (.v n) → Q4 B a b B true
 | occ {B a b n s r} : Hd B a (.v n) → Hd B b s → s ≠ .v n → Q9 B s r → occ n r = true → Q4 B a b B false
 | bind {B a b n s r} : Hd B a (.v n) → Hd B b s → s ≠ .v n → Q9 B s r → occ n r = false → Q4 B a b (A01 B n s) true
 | occ' {B a b n s r} : Hd B a s → s.nv = true → Hd B b (.v n) → Q9 B s r → Gw.occ n r = true → Q4 B a b B false
 | bind' {B a b n s r} : Hd B a s → s.nv = true → Hd B b (.v n) → Q9 B s r → Gw.occ n r = false → Q4 B a b (A01 B n s) true
 | clash {B a b s s'} : Hd B a s → s.nv = true → Hd B b s' → s'.nv = true → s.kd ≠ s'.kd → Q4 B a b B false
 | base {B a b c} : Hd B a (.b c) → Hd B b (.b c) → Q4 B a b B true
 | two0 {B a b c x y x' y' B1} : Hd B a (.t c x y) → Hd B b (.t c x' y') → Q4 B x x' B1 false → Q4 B a b B1 false
 | two {B a b c x y x' y' B1 B2 ok} : Hd B a (.t c x y) → Hd B b (.t c x' y') → Q4 B x x' B1 true → Q4 B1 y y' B2 ok → Q4 B a b B2 ok
theorem Q4.hds {B B' : BV} {a b : SV} {ok : Bool} (h : Q4 B a b B' ok) : (∃ s, Hd B a s) ∧ ∃ s, Hd B b s := by
 cases h with
 | self h1 h2 => exact ⟨⟨_, h1⟩, _, h2⟩
 | occ h1 h2 _ _ _ => exact ⟨⟨_, h1⟩, _, h2⟩
 | bind h1 h2 _ _ _ => exact ⟨⟨_, h1⟩, _, h2⟩
 | occ' h1 _ h2 _ _ => exact ⟨⟨_, h1⟩, _, h2⟩
 | bind' h1 _ h2 _ _ => exact ⟨⟨_, h1⟩, _, h2⟩
 | clash h1 _ h2 _ _ => exact ⟨⟨_, h1⟩, _, h2⟩
 | base h1 h2 => exact ⟨⟨_, h1⟩, _, h2⟩
 | two0 h1 h2 _ => exact ⟨⟨_, h1⟩, _, h2⟩
 | two h1 h2 _ _ => exact ⟨⟨_, h1⟩, _, h2⟩
theorem Q4.same {B B' : BV} {a b : SV} {ok : Bool} (h : Q4 B a b B' ok) : ∀ s, Hd B a s → Hd B b s → B' = B ∧ ok = true := by
 induction h with
 | self _ _ => intro s _ _; exact ⟨rfl, rfl⟩
 | occ h1 h2 h3 _ _ => intro s g1 g2; exact absurd ((h2.det g2).trans (g1.det h1)) h3
 | bind h1 h2 h3 _ _ => intro s g1 g2; exact absurd ((h2.det g2).trans (g1.det h1)) h3
 | occ' h1 h2 h3 _ _ => intro s g1 g2; have := (h1.det g1).trans (g2.det h3); subst this; cases h2
 | bind' h1 h2 h3 _ _ => intro s g1 g2; have := (h1.det g1).trans (g2.det h3); subst this; cases h2
 | clash h1 _ h2 _ h3 => intro s g1 g2; exact absurd (by rw [(h1.det g1).trans (g2.det h2)]) h3
 | base _ _ => intro s _ _; exact ⟨rfl, rfl⟩
 | two0 h1 h2 h3 i =>
  intro s g1 g2
  have := (h1.det g1).trans (g2.det h2)
  cases this
  obtain ⟨⟨r, hr⟩, _⟩ := h3.hds
  exact absurd (i r hr hr).2 zS0
 | two h1 h2 h3 h4 i j =>
  intro s g1 g2
  have := (h1.det g1).trans (g2.det h2)
  cases this
  obtain ⟨⟨r, hr⟩, _⟩ := h3.hds
  obtain ⟨e1, _⟩ := i r hr hr
  subst e1
  obtain ⟨⟨r2, hr2⟩, _⟩ := h4.hds
  exact j r2 hr2 hr2
def SV.In (m : Nat) : SV → Prop
 | .v n => m = n
 | .b _ => False
 | .t _ x y => x.In m ∨ y.In m
def SV.sz : SV → Nat
 | .v _ => 1
 | .b _ => 1
 | .t _ x y => x.sz + y.sz + 1
structure WB (B : BV) (c : Nat) : Prop where
 hi : ∀ n, c ≤ n → B n = none
 rk : ∃ r : Nat → Nat, ∀ n s, B n = some s → ∀ m, s.In m → r m < r n ∧ m < c
def SV.lt (s : SV) (c : Nat) : Prop := ∀ m, s.In m → m < c
theorem A7a {n : Nat} : ∀ {s : SV}, occ n s = true ↔ s.In n
 | .v m => by simp only [occ, SV.In, decide_eq_true_eq]; exact eq_comm
 | .b _ => by simp [occ, SV.In]
 | .t _ x y => by rw [occ, Bool.or_eq_true, A7a, A7a]; rfl
theorem SV.sz_pos (s : SV) : 0 < s.sz := by cases s <;> simp [SV.sz]
theorem A5O (r : Nat → Nat) : ∀ s : SV, ∃ k, ∀ m, s.In m → r m < k
 | .v n => ⟨r n + 1, fun m h => by cases h; omega⟩
 | .b _ => ⟨0, fun m h => by cases h⟩
 | .t _ x y => by
  obtain ⟨k1, h1⟩ := A5O r x
  obtain ⟨k2, h2⟩ := A5O r y
  refine ⟨k1 + k2, fun m h => ?_⟩
  rcases h with h | h
  ·have := h1 m h; omega
  ·have := h2 m h; omega
theorem WB.den {B : BV} {c : Nat} (h : WB B c) (s : SV) : ∃ r, Q9 B s r := by
 obtain ⟨r, hr⟩ := h.rk
 have key : ∀ (k : Nat) (s : SV), (∀ m, s.In m → r m < k) → ∃ t, Q9 B s t := by
  intro k
  induction k with
  | zero =>
   intro s
   induction s with
   | v n => intro h; exact absurd (h n rfl) zR0
   | b c => intro _; exact ⟨_, .b⟩
   | t c x y i j => intro h; obtain ⟨p, hp⟩ := i fun m hm => h m (.inl hm); obtain ⟨q, hq⟩ := j fun m hm => h m (.inr hm); exact ⟨_, .t hp hq⟩
  | succ k ih =>
   intro s
   induction s with
   | v n =>
    intro h
    cases hb : B n with
    | none => exact ⟨_, .free hb⟩
    | some u =>
     obtain ⟨t, ht⟩ := ih u fun m hm => by have h1 := (hr n u hb m hm).1; have h2 := h n rfl; omega
     exact ⟨t, .link hb ht⟩
   | b c => intro _; exact ⟨_, .b⟩
   | t c x y i j => intro h; obtain ⟨p, hp⟩ := i fun m hm => h m (.inl hm); obtain ⟨q, hq⟩ := j fun m hm => h m (.inr hm); exact ⟨_, .t hp hq⟩
 obtain ⟨k, hk⟩ := A5O r s
 exact key k s hk
theorem Q9.det {B : BV} {s r r' : SV} (h : Q9 B s r) (h' : Q9 B s r') : r = r' := by
 induction h generalizing r' with
 | free h1 => cases h' with
  | free _ => rfl
  | link h2 _ => rw [h1] at h2; cases h2
 | link h1 _ i => cases h' with
  | free h2 => rw [h1] at h2; cases h2
  | link h2 h3 => rw [h1] at h2; cases h2; exact i h3
 | b => cases h'; rfl
 | t _ _ i j => cases h' with
  | t h1 h2 => rw [i h1, j h2]
theorem Q9.sub {B : BV} {s r : SV} (h : Q9 B s r) : ∀ {m q}, s.In m → Q9 B (.v m) q → ∀ n, q.In n → r.In n := by
 induction h with
 | free h1 => intro m q hm hq n hn; cases hm; have := hq.det (.free h1); subst this; exact hn
 | link h1 h2 _ => intro m q hm hq n hn; cases hm; have := hq.det (.link h1 h2); subst this; exact hn
 | b => intro m q hm; cases hm
 | t _ _ i j =>
  intro m q hm hq n hn
  rcases hm with hm | hm
  ·exact .inl (i hm hq n hn)
  ·exact .inr (j hm hq n hn)
theorem Hd.lt {B : BV} {c : Nat} (hB : WB B c) {s k : SV} (h : Hd B s k) : s.lt c → k.lt c := by
 induction h with
 | free _ => exact id
 | link h1 _ i => intro _; obtain ⟨_, hr⟩ := hB.rk; exact i fun m hm => (hr _ _ h1 m hm).2
 | nv _ => exact id
open Classical in
theorem WB.put {B : BV} {c n : Nat} {s r : SV} (hB : WB B c) (hn : B n = none) (hc : n < c) (hs : s.lt c) (hd : Q9 B s r) (ho : occ n r = false) : WB (A01 B n s) c := by
 obtain ⟨rk, hr⟩ := hB.rk
 obtain ⟨K, hK⟩ := A5O rk s
 refine ⟨fun m hm => ?_, fun m => if ∃ q, Q9 B (.v m) q ∧ q.In n then rk m + K else rk m, fun m u hu p hp => ?_⟩
 ·show (if m = n then some s else B m) = none
  rw [if_neg zR0]
  exact hB.hi m hm
 ·have hu' : (if m = n then some s else B m) = some u := hu
  by_cases hmn : m = n
  ·rw [if_pos hmn] at hu'
   cases hu'
   subst hmn
   refine ⟨?_, hs p hp⟩
   dsimp only
   have h1 : ¬ ∃ q, Q9 B (.v p) q ∧ q.In m := fun ⟨q, hq, hqn⟩ => by
    have := A7a.2 (hd.sub hp hq m hqn)
    rw [ho] at this; cases this
   have h2 : ∃ q, Q9 B (.v m) q ∧ q.In m := ⟨_, .free hn, rfl⟩
   rw [if_neg h1, if_pos h2]
   have := hK p hp
   omega
  ·rw [if_neg hmn] at hu'
   obtain ⟨h1, h2⟩ := hr m u hu' p hp
   refine ⟨?_, h2⟩
   dsimp only
   by_cases h3 : ∃ q, Q9 B (.v p) q ∧ q.In n
   ·obtain ⟨q, hq, hqn⟩ := h3
    obtain ⟨w, hw⟩ := hB.den u
    have h4 : ∃ q, Q9 B (.v m) q ∧ q.In n := ⟨w, .link hu' hw, hw.sub hp hq n hqn⟩
    rw [if_pos ⟨q, hq, hqn⟩, if_pos h4]
    omega
   ·rw [if_neg h3]
    split <;> omega
def nfr (B : BV) : Nat → Nat
 | 0 => 0
 | c + 1 => nfr B c + (if (B c).isNone then 1 else 0)
theorem A7b {B : BV} {n : Nat} {s : SV} (hn : B n = none) : ∀ c, nfr (A01 B n s) c + (if n < c then 1 else 0) = nfr B c
 | 0 => by simp [nfr]
 | c + 1 => by
  have ih := A7b (s := s) hn c
  rw [nfr, nfr]
  have hb : A01 B n s c = if c = n then some s else B c := rfl
  rw [hb]
  by_cases h : c = n
  ·subst h
   have e1 : (if c < c then 1 else 0) = 0 := if_neg (Nat.lt_irrefl c)
   have e2 : (if c < c + 1 then 1 else 0) = 1 := if_pos (Nat.lt_succ_self c)
   rw [e1] at ih
   rw [e2, if_pos rfl, hn]
   have e3 : (if (some s).isNone = true then 1 else 0) = 0 := rfl
   have e4 : (if (none : Option SV).isNone = true then 1 else 0) = 1 := rfl
   rw [e3, e4]
   omega
  ·rw [if_neg h]
   by_cases h2 : n < c
   ·have e1 : (if n < c then 1 else 0) = 1 := if_pos h2
    have e2 : (if n < c + 1 then 1 else 0) = 1 := if_pos (Nat.lt_succ_of_lt h2)
    rw [e1] at ih
    rw [e2]
    omega
   ·have e1 : (if n < c then 1 else 0) = 0 := if_neg h2
    have e2 : (if n < c + 1 then 1 else 0) = 0 := if_neg (fun h3 => h2 (Nat.lt_of_le_of_ne (Nat.le_of_lt_succ h3) (fun e => h e.symm)))
    rw [e1] at ih
    rw [e2]
    omega
theorem B3Z : ∀ (u N : Nat) (B : BV) (c : Nat) (a b r : SV), WB B c → nfr B c ≤ u → a.lt c → b.lt c → Q9 B a r → r.sz ≤ N →
  ∃ B' ok, Q4 B a b B' ok ∧ WB B' c ∧ (B' = B ∨ nfr B' c < nfr B c) := by
 intro u
 induction u with
 | zero =>
  intro N
  induction N with
  | zero => intro B c a b r _ _ _ _ _ h; have := r.sz_pos; omega
  | succ N ihN => intro B c a b r hB hu ha hb hr hN; exact step (fun _ _ _ _ _ _ h => absurd h zR0) ihN hB hu ha hb hr hN
 | succ u ihu =>
  intro N
  induction N with
  | zero => intro B c a b r _ _ _ _ _ h; have := r.sz_pos; omega
  | succ N ihN => intro B c a b r hB hu ha hb hr hN; exact step (fun B c a b r hB h ha hb hr => ihu r.sz B c a b r hB zR0 ha hb hr (Nat.le_refl _)) ihN hB hu ha hb hr hN
where
 step {u N : Nat} (ih1 : ∀ (B : BV) (c : Nat) (a b r : SV), WB B c → nfr B c < u → a.lt c → b.lt c → Q9 B a r → ∃ B' ok, Q4 B a b B' ok ∧ WB B' c ∧ (B' = B ∨ nfr B' c < nfr B c))
   (ih2 : ∀ (B : BV) (c : Nat) (a b r : SV), WB B c → nfr B c ≤ u → a.lt c → b.lt c → Q9 B a r → r.sz ≤ N → ∃ B' ok, Q4 B a b B' ok ∧ WB B' c ∧ (B' = B ∨ nfr B' c < nfr B c))
   {B : BV} {c : Nat} {a b r : SV} (hB : WB B c) (hu : nfr B c ≤ u) (ha : a.lt c) (hb : b.lt c) (hr : Q9 B a r) (hN : r.sz ≤ N + 1) : ∃ B' ok, Q4 B a b B' ok ∧ WB B' c ∧ (B' = B ∨ nfr B' c < nfr B c) := by
  obtain ⟨h, hh, hD⟩ := hr.hd
  obtain ⟨r', hr'⟩ := hB.den b
  obtain ⟨h', hh', hD'⟩ := hr'.hd
  have hl := hh.lt hB ha
  have hl' := hh'.lt hB hb
  by_cases hv : ∃ n, h = .v n
  ·obtain ⟨n, rfl⟩ := hv
   by_cases he : h' = .v n
   ·subst he
    exact ⟨B, true, .self hh hh', hB, .inl rfl⟩
   ·have hn := hh.fr
    obtain ⟨q, hq⟩ := hB.den h'
    cases ho : occ n q with
    | true => exact ⟨B, false, .occ hh hh' he hq ho, hB, .inl rfl⟩
    | false =>
     have hlt := hl n rfl
     refine ⟨_, true, .bind hh hh' he hq ho, hB.put hn hlt hl' hq ho, .inr ?_⟩
     have := A7b (s := h') hn c
     rw [if_pos hlt] at this
     omega
  ·have hnv : h.nv = true := by
    cases h with
    | v n => exact absurd ⟨n, rfl⟩ hv
    | _ => rfl
   by_cases hv' : ∃ n, h' = .v n
   ·obtain ⟨n, rfl⟩ := hv'
    have hn := hh'.fr
    obtain ⟨q, hq⟩ := hB.den h
    cases ho : occ n q with
    | true => exact ⟨B, false, .occ' hh hnv hh' hq ho, hB, .inl rfl⟩
    | false =>
     have hlt := hl' n rfl
     refine ⟨_, true, .bind' hh hnv hh' hq ho, hB.put hn hlt hl hq ho, .inr ?_⟩
     have := A7b (s := h) hn c
     rw [if_pos hlt] at this
     omega
   ·have hnv' : h'.nv = true := by
     cases h' with
     | v n => exact absurd ⟨n, rfl⟩ hv'
     | _ => rfl
    by_cases hk : h.kd = h'.kd
    ·cases h with
     | v n => cases hnv
     | b d =>
      cases h' with
      | v n => cases hnv'
      | b d' =>
       have : d = d' := by revert hk; cases d <;> cases d' <;> simp [SV.kd]
       subst this
       exact ⟨B, true, .base hh hh', hB, .inl rfl⟩
      | t d' _ _ => exact absurd hk (by cases d <;> cases d' <;> simp [SV.kd])
     | t d x y =>
      cases h' with
      | v n => cases hnv'
      | b d' => exact absurd hk (by cases d <;> cases d' <;> simp [SV.kd])
      | t d' x' y' =>
       have : d = d' := by revert hk; cases d <;> cases d' <;> simp [SV.kd]
       subst this
       cases r with
       | v n => cases hD.1
       | b e => cases hD
       | t e p q =>
        obtain ⟨x2, y2, he, hx, hy⟩ := hD
        cases he
        simp only [SV.sz] at hN
        obtain ⟨B1, ok1, hu1, hB1, hc1⟩ := ih2 B c x x' p hB hu (fun m hm => hl m (.inl hm)) (fun m hm => hl' m (.inl hm)) hx zR0
        cases ok1 with
        | false => exact ⟨B1, false, .two0 hh hh' hu1, hB1, hc1⟩
        | true =>
         have hly : y.lt c := fun m hm => hl m (.inr hm)
         have hly' : y'.lt c := fun m hm => hl' m (.inr hm)
         rcases hc1 with hc1 | hc1
         ·subst hc1
          obtain ⟨B2, ok2, hu2, hB2, hc2⟩ := ih2 B1 c y y' q hB hu hly hly' hy zR0
          exact ⟨B2, ok2, .two hh hh' hu1 hu2, hB2, hc2⟩
         ·obtain ⟨q1, hq1⟩ := hB1.den y
          obtain ⟨B2, ok2, hu2, hB2, hc2⟩ := ih1 B1 c y y' q1 hB1 zR0 hly hly' hq1
          refine ⟨B2, ok2, .two hh hh' hu1 hu2, hB2, .inr ?_⟩
          rcases hc2 with hc2 | hc2
          ·rw [hc2]; exact hc1
          ·omega
    ·exact ⟨B, false, .clash hh hnv hh' hnv' hk, hB, .inl rfl⟩
theorem Sl.of_blk {G : IM} {b n c sz : Nat} {A C cs : List Value} (hl : cs.length = n * sz) (hc : n ≤ c) (hm : c ≤ maxLen) (hg : G b = some (A ++ (cs ++ C))) : Sl G (some ⟨b, A.length, none⟩) n c sz cs := by
 refine ⟨hl, hc, hm, .inr ⟨b, A.length, _, rfl, hg, fun j v hj => ?_⟩⟩
 have hlt : j < cs.length := (List.getElem?_eq_some_iff.1 hj).1
 rw [List.getElem?_append, if_neg zR0, List.getElem?_append, if_pos zR0, show A.length + j - A.length = j by omega]
 exact hj
def InG (G : IM) (bs : A1W) (F : List Nat) : Prop := (bs.map Prod.fst).Sublist F ∧ ∀ q ∈ bs, G q.1 = some q.2
mutual
theorem A4G : ∀ t : Ty, M4 t ≤ 4294967296 → t.small
 | .mk _ ks, h => by
  rw [M4] at h
  have := A2L ks
  simp only [Ty.small]
  exact ⟨by omega, A9o ks zR0⟩
theorem A9o : ∀ ts : List Ty, Q8 ts ≤ 4294967296 → Ty.smallL ts
 | [], _ => by simp [Ty.smallL]
 | t :: ts, h => by
  rw [Q8] at h
  have := A1X t
  have := A2L ts
  simp only [Ty.smallL]
  exact ⟨A4G t zR0, A9o ts zR0⟩
end
mutual
theorem A7c : ∀ t : Tm, A00 t ≤ 4294967296 → t.small
 | .mk _ nm _ ty fr _ ks, h => by
  rw [A00] at h
  have := A5M ks
  have := A1X ty
  have := A1X fr
  simp only [Tm.small]
  exact ⟨by omega, A4G ty zR0, A4G fr zR0, by omega, A9p ks zR0⟩
theorem A9p : ∀ ts : List Tm, A0u ts ≤ 4294967296 → Tm.smallL ts
 | [], _ => by simp [Tm.smallL]
 | t :: ts, h => by
  rw [A0u] at h
  have := A9h t
  have := A5M ts
  simp only [Tm.smallL]
  exact ⟨A7c t zR0, A9p ts zR0⟩
end
mutual
theorem A5P : ∀ t : Tm, (E4 t : Int) ≤ A00 t + 1
 | .mk _ nm _ ty fr _ ks => by
  have := A9q ks
  have := A1X ty
  have := A1X fr
  rw [A00, E4]; omega
theorem A9q : ∀ ts : List Tm, (H0 ts : Int) ≤ ts.length + A0u ts
 | [] => by rw [A0u, H0]; simp
 | t :: ts => by
  have := A5P t
  have := A9q ts
  rw [A0u, H0, List.length_cons]; omega
end
theorem At.sub {hp : List A7} {G : IM} {b o j : Nat} {vs : List Value} {v : Value} (h : At hp G b o vs) (hj : vs[j]? = some v) : At hp G b (o + j) [v] := by
 have key : ∀ {cs : List Value}, (∀ i u, vs[i]? = some u → cs[o + i]? = some u) → ∀ i u, [v][i]? = some u → cs[o + j + i]? = some u := by
  intro cs hc i u hu
  cases i with
  | zero => simp at hu; subst hu; simpa using hc j v hj
  | succ i => simp at hu
 rcases h with ⟨cs, hm, hv⟩ | ⟨n, c, el, sz, cs, hm, hv⟩ | ⟨full, hg, hv⟩
 ·exact .inl ⟨cs, hm, key hv⟩
 ·exact .inr (.inl ⟨n, c, el, sz, cs, hm, key hv⟩)
 ·exact .inr (.inr ⟨full, hg, key hv⟩)
def HTm (G : IM) (t : Tm) (k : Int) (cells : List Value) : Prop := ∃ pt ct et pf cf ef p c es,
 cells = [.int .i64 t.k, .string t.nm, .int .i64 t.num, .int .i64 t.ty.k, .slice pt t.ty.ks.length ct, .int .i64 t.fr.k, .slice pf t.fr.ks.length cf, .int .i64 t.lb, .slice p t.ks.length c] ∧
 D7 G pt t.ty.ks.length ct 2 et ∧ D9 G (A20 t.ty.ks k) et ∧ D7 G pf t.fr.ks.length cf 2 ef ∧ D9 G (A20 t.fr.ks (k + A0U t.ty.ks)) ef ∧ D7 G p t.ks.length c 9 es ∧ F9 G (A5L t.ks (k + A0U t.ty.ks + A0U t.fr.ks)) es
theorem B30 (G : IM) (p : Option Addr) (n c : Nat) (es : List (List Value)) (hsl : D7 G p n c 2 es) (fid : FuncId) [C4 Tryz.prog fid] (us cs : List Value) (ins : List A7) (q : Nat → Bool)
  (hq : ∀ i e, es[i]? = some e → Fn Tryz.prog fid (us ++ [.agg ⟨e⟩] ++ cs) ins G (X2 (.bool (q i)) ins G)) :
  Fn Tryz.prog 156 [.slice p n c, .func (.func fid) ⟨us⟩ ⟨cs⟩] ins G (X2 (.int .i64 (A1n q n)) ins G) := by
 have hn := hsl.le
 refine C0 Tryz.func156 rfl Tryz.ntmps156 Tryz.results156 rfl ?_
 intro w0
 refine N0 ?_
 refine C2 ?_
 refine L8 (fun i : Nat => ⟨[(8, .int .i64 i), (7, .int .i64 n), (1, .func (.func fid) ⟨us⟩ ⟨cs⟩), (0, .slice p n c)], ins, G⟩) (fun i => i ≤ n ∧ ∀ j, j < i → q j = false) (fun i => n - i) 0 ?_ ?_ ?_
 exact F8
 exact ⟨by omega, by omega⟩
 rintro i ⟨hi, hf⟩
 refine A4 ?_
 refine sB (N5 rfl rfl) rfl rfl (fun h21 => ?_) (fun h21 => ?_)
 refine B0 ?_
 refine C2 ?_
 refine M7 ?_
 (obtain ⟨e, b, o, he, rfl, hl, _, hat, _⟩ := hsl.get (i := i) zR0; refine sP (B8 rfl rfl rfl zR0) rfl rfl ?_)
 refine sL (A5 rfl rfl (hat _) hl) rfl rfl ?_
 refine A5z rfl rfl (hq i e he) A0S rfl rfl (fun h43 => ?_) (fun h43 => ?_)
 refine J0 ?_
 refine H8 (rT rfl) A0.refl ?_
 exact ⟨rfl, by rw [A8Z zR0 hf zO0], rfl⟩
 refine B0 ?_
 refine sP (K0 rfl rfl zR0 zR0) rfl rfl ?_
 refine A4 ?_
 refine J7 (i + 1) ?_ ?_ ?_
 exact F8
 exact ⟨by omega, fun j hj => by by_cases hji : j = i; (subst hji; assumption); exact hf j zR0⟩
 omega
 refine J0 ?_
 refine H8 (rT rfl) A0.refl ?_
 exact ⟨rfl, by rw [A6X (fun j hj => hf j zR0)], rfl⟩
theorem B31 (G : IM) (p : Option Addr) (n c : Nat) (es : List (List Value)) (hsl : D7 G p n c 2 es) (fid : FuncId) [C4 Tryz.prog fid] (us cs : List Value) (ins : List A7) (q : Nat → Bool)
  (hq : ∀ i e, es[i]? = some e → Fn Tryz.prog fid (us ++ [.agg ⟨e⟩] ++ cs) ins G (X2 (.bool (q i)) ins G)) :
  Fn Tryz.prog 143 [.slice p n c, .func (.func fid) ⟨us⟩ ⟨cs⟩] ins G (X2 (.bool (decide (0 ≤ A1n q n))) ins G) := by
 refine C0 Tryz.func143 rfl Tryz.ntmps143 Tryz.results143 rfl ?_
 intro w0
 refine E7 ?_
 refine A2J rfl (B30 G p n c es hsl fid us cs ins q hq) A0S rfl rfl ?_
 refine sQ (A1w rfl rfl) rfl ?_
 refine B5 ?_
 refine H8 (rT rfl) A0.refl ?_
 exact ⟨rfl, rfl, rfl⟩
theorem A4H (G : IM) (p : Option Addr) (n c : Nat) (es : List (List Value)) (hsl : D7 G p n c 2 es) (fid : FuncId) [C4 Tryz.prog fid] (us cs : List Value) (ins : List A7) (f : Ty → Bool) (ks : List Ty)
  (hn : ks.length = n) {A : Bool} (hA : ks.all f = A) (hq : ∀ i e, es[i]? = some e → Fn Tryz.prog fid (us ++ [.agg ⟨e⟩] ++ cs) ins G (X2 (.bool (!f (ks.getD i B4))) ins G)) :
  Fn Tryz.prog 143 [.slice p n c, .func (.func fid) ⟨us⟩ ⟨cs⟩] ins G (X2 (.bool (!A)) ins G) := by
 subst hn hA
 rw [← A81 f ks B4]
 exact B31 G p _ c es hsl fid us cs ins _ hq
theorem A7d (G : IM) (p p' : Option Addr) (n c n' c' : Nat) (es es' : List (List Value)) (hsl : D7 G p n c 2 es) (hsl' : D7 G p' n' c' 2 es') (fid : FuncId) [C4 Tryz.prog fid] (us cs : List Value) (ins : List A7) (q : Nat → Bool)
  (A : Bool) (hA : A = true ↔ n = n' ∧ ∀ i, i < n → q i = true)
  (hq : ∀ i e e', es[i]? = some e → es'[i]? = some e' → Fn Tryz.prog fid (us ++ [.agg ⟨e⟩, .agg ⟨e'⟩] ++ cs) ins G (X2 (.bool (q i)) ins G)) :
  Fn Tryz.prog 61 [.slice p n c, .slice p' n' c', .func (.func fid) ⟨us⟩ ⟨cs⟩] ins G (X2 (.bool A) ins G) := by
 have hn := hsl.le
 have hn' := hsl'.le
 refine C0 Tryz.func61 rfl Tryz.ntmps61 Tryz.results61 rfl ?_
 intro w0
 refine O3 ?_
 refine sB (U3 rfl rfl) rfl rfl (fun h13 => ?_) (fun h13 => ?_)
 refine J2 ?_
 refine H8 (outs := ins) (rT rfl) (by first | exact A0.refl | exact A0.drop (A0.drop A0.refl)) ?_
 exact ⟨rfl, by (cases A with | false => rfl | true => exact absurd (hA.1 rfl).1 zR0), rfl⟩
 refine N0 ?_
 refine C2 (L8 (fun i : Nat => ⟨[(17, .int .i64 i), (16, .int .i64 n), (15, .slice p n c), (2, .func (.func fid) ⟨us⟩ ⟨cs⟩), (1, .slice p' n' c'), (0, .slice p n c)], ins, G⟩) (fun i => i ≤ n ∧ ∀ j, j < i → q j = true) (fun i => n - i) 0 ?_ ?_ ?_)
 exact F8
 exact ⟨by omega, by omega⟩
 rintro i ⟨hi, hf⟩
 refine A4 ?_
 refine sB (N5 rfl rfl) rfl rfl (fun h46 => ?_) (fun h46 => ?_)
 refine B0 ?_
 refine C2 ?_
 refine C1 ?_
 (obtain ⟨e, b, o, he, rfl, hl, _, hat, _⟩ := hsl.get (i := i) zR0; refine sP (B8 rfl rfl rfl zR0) rfl rfl ?_)
 refine sL (A5 rfl rfl (hat _) hl) rfl rfl ?_
 refine sE (A6 rfl) rfl (fun b60 => ?_)
 refine D8 ?_
 refine Q1 rfl rfl rfl zO0 zO0 rfl zF0 (by exact C6 (by symm; assumption)) ?_
 refine A9 ?_
 (obtain ⟨e', b', o', he', rfl, hl', _, hat', _⟩ := hsl'.get (i := i) zR0; refine sP (B8 rfl rfl rfl zR0) rfl rfl ?_)
 refine sL (A5 rfl rfl (hat' _) hl') rfl rfl ?_
 refine sE (A6 rfl) rfl (fun b71 => ?_)
 refine Q1 rfl rfl rfl zO0 zO0 rfl zF0 (by exact C6 (by symm; assumption)) ?_
 refine A8 ?_
 refine sL (A5 rfl rfl (B3 zI0) zO0) rfl rfl ?_
 refine sL (A5 rfl rfl (B3 zI0) zO0) rfl rfl ?_
 refine A5z rfl rfl (hq i e e' he he') A8T rfl rfl (fun h80 => ?_) (fun h80 => ?_)
 refine E1 ?_
 refine sP (K0 rfl rfl zR0 zR0) rfl rfl ?_
 refine A4 ?_
 refine J7 (i + 1) ?_ ?_ ?_
 exact F8
 exact ⟨by omega, fun j hj => by by_cases hji : j = i; (subst hji; assumption); exact hf j zR0⟩
 omega
 refine J0 ?_
 refine H8 (outs := ins) (rT rfl) (by first | exact A0.refl | exact A0.drop (A0.drop A0.refl)) ?_
 exact ⟨rfl, by (cases A with | false => rfl | true => have h0 := (hA.1 rfl).2 i zR0; simp_all), rfl⟩
 refine J0 ?_
 refine H8 (outs := ins) (rT rfl) (by first | exact A0.refl | exact A0.drop (A0.drop A0.refl)) ?_
 exact ⟨rfl, by rw [hA.2 ⟨by omega, fun j hj => hf j zR0⟩], rfl⟩
theorem A2h (n lo hi : Int) (G : IM) : Fn Tryz.prog 97 [.int .i64 n, .int .i64 lo, .int .i64 hi] [] G (K7 (.bool (V1 n lo hi)) G) := by
 refine C0 Tryz.func97 rfl Tryz.ntmps97 Tryz.results97 rfl ?_
 intro w0
 refine E7 ?_
 refine sB (A1k rfl rfl) rfl rfl (fun h10 => ?_) (fun h10 => ?_)
 refine C1 ?_
 refine sB (A1k rfl rfl) rfl rfl (fun h14 => ?_) (fun h14 => ?_)
 refine A9 ?_
 exact ⟨rfl, by simp [V1]; omega, rfl⟩
 refine A9 ?_
 exact ⟨rfl, by simp [V1]; omega, rfl⟩
 refine J2 ?_
 exact ⟨rfl, by simp [V1]; omega, rfl⟩
theorem A1B (k : Int) (G : IM) : Fn Tryz.prog 31 [.int .i64 k] [] G (K7 (.agg ⟨[.int .i64 k, .slice none 0 0]⟩) G) := by
 refine C0 Tryz.func31 rfl Tryz.ntmps31 Tryz.results31 rfl ?_
 intro w0
 refine A4 ?_
 refine sE (A6 rfl) rfl (fun b3 => ?_)
 refine J2 ?_
 refine P5 (rC rfl (A3 rfl rfl)) ?_
 exact ⟨rfl, rfl, rfl⟩
theorem B32 (n : Int) (G : IM) : Fn Tryz.prog 116 [.int .i64 n] [] G (K7 (.bool (A2K n)) G) := by
 refine C0 Tryz.func116 rfl Tryz.ntmps116 Tryz.results116 rfl ?_
 intro w0
 refine E1 ?_
 refine J5 rfl (A2h _ _ _ _) rfl rfl (fun h9 => ?_) (fun h9 => ?_)
 refine E7 ?_
 exact ⟨rfl, by simp [A2K, *], rfl⟩
 refine A4 ?_
 refine J5 rfl (A2h _ _ _ _) rfl rfl (fun h22 => ?_) (fun h22 => ?_)
 refine A9 ?_
 exact ⟨rfl, by simp [A2K, *], rfl⟩
 refine A9 ?_
 exact ⟨rfl, by simp [A2K, *], rfl⟩
theorem A9r (t : Ty) (G : IM) (cells : List Value) (hr : C7 G t cells) : Fn Tryz.prog 114 [.agg ⟨cells⟩] [] G (K7 (.bool (A0A t)) G) := by
 obtain ⟨p, c, es, rfl, hk, hsl, hkl⟩ := hr.open
 refine C0 Tryz.func114 rfl Tryz.ntmps114 Tryz.results114 rfl ?_
 intro w0
 refine A4 ?_
 refine sE (B6 rfl rfl) rfl (fun b3 => ?_)
 refine B0 ?_
 refine sB (qE rfl rfl) rfl rfl (fun h11 => ?_) (fun h11 => ?_)
 refine B5 ?_
 refine sB (qE rfl rfl) rfl rfl (fun h16 => ?_) (fun h16 => ?_)
 refine A9 ?_
 exact ⟨rfl, by simp only [A0A]; (first | rw [decide_eq_true zR0] | rw [decide_eq_false zR0]), rfl⟩
 refine A9 ?_
 exact ⟨rfl, by simp only [A0A]; (first | rw [decide_eq_true zR0] | rw [decide_eq_false zR0]), rfl⟩
 refine M7 ?_
 exact ⟨rfl, by simp only [A0A]; (first | rw [decide_eq_true zR0] | rw [decide_eq_false zR0]), rfl⟩
theorem B33 (s : ByteArray) (G : IM) : Fn Tryz.prog 113 [.string s] [] G (K7 (.bool (A0B s)) G) := by
 refine C0 Tryz.func113 rfl Tryz.ntmps113 Tryz.results113 rfl ?_
 intro w0
 refine E1 ?_
 refine sQ (A2E rfl rfl) rfl (sB (qE rfl rfl) rfl rfl (fun h10 => ?_) (fun h10 => ?_))
 refine A4 ?_
 refine sP (A5w rfl rfl rfl zR0 (A5F zR0)) rfl rfl ?_
 refine sB (A1w rfl rfl) rfl rfl (fun h14 => ?_) (fun h14 => ?_)
 refine C1 ?_
 refine sP (A5w rfl rfl rfl zR0 (A5F zR0)) rfl rfl ?_
 refine sB (A1k rfl rfl) rfl rfl (fun h19 => ?_) (fun h19 => ?_)
 refine A9 ?_
 exact ⟨rfl, by simp only [A0B]; (try simp only [Int.toNat_zero] at *); (first | rw [decide_eq_true zR0] | rw [decide_eq_false zR0]), rfl⟩
 refine A9 ?_
 exact ⟨rfl, by simp only [A0B]; (try simp only [Int.toNat_zero] at *); (first | rw [decide_eq_true zR0] | rw [decide_eq_false zR0]), rfl⟩
 refine M7 ?_
 exact ⟨rfl, by simp only [A0B]; (try simp only [Int.toNat_zero] at *); (first | rw [decide_eq_true zR0] | rw [decide_eq_false zR0]), rfl⟩
 refine J0 ?_
 exact ⟨rfl, by simp only [A0B]; (try simp only [Int.toNat_zero] at *); (first | rw [decide_eq_true zR0] | rw [decide_eq_false zR0]), rfl⟩
theorem A4I (G : IM) (e : List Value) (d : Int) (b : Bool) (bd : Nat) (hl : e.length = 2) (hd : 0 ≤ d ∧ d ≤ 5) (h : Fn Tryz.prog 130 [.agg ⟨e⟩, .int .i64 (d + 1)] [] G (K7 (.bool b) G)) :
  Fn Tryz.prog 144 [.agg ⟨e⟩, .pointer (some ⟨bd, 0, none⟩)] [.blk bd [.int .i64 d]] G (X2 (.bool (!b)) [.blk bd [.int .i64 d]] G) := by
 refine C0 Tryz.func144 rfl Tryz.ntmps144 Tryz.results144 rfl ?_
 intro w0
 refine A4 ?_
 refine sE (B6 rfl rfl) rfl (fun b3 => ?_)
 refine A8 ?_
 refine sL (A5 rfl rfl (B3 zI0) zO0) rfl rfl ?_
 refine D8 ?_
 refine sP (K0 rfl rfl zR0 zR0) rfl rfl ?_
 refine J5 rfl (h) rfl rfl (fun h12 => ?_) (fun h12 => ?_)
 refine A8 ?_
 refine H8 (rT rfl) (A0.cons (Pk.there Pk.here) A0.nil) ?_
 exact ⟨rfl, by simp [*], rfl⟩
 refine A8 ?_
 refine H8 (rT rfl) (A0.cons (Pk.there Pk.here) A0.nil) ?_
 exact ⟨rfl, by simp [*], rfl⟩
theorem B34 : ∀ (t : Ty) (d : Int) (G : IM) (cells : List Value), 0 ≤ d ∧ d ≤ 5 → C7 G t cells →
  Fn Tryz.prog 130 [.agg ⟨cells⟩, .int .i64 d] [] G (K7 (.bool (M9 t d)) G) := by
 refine Ty.ind fun k ks ih d G cells hd hr => ?_
 obtain ⟨p, c, es, rfl, hk, hsl, hkl⟩ := hr.open
 simp only [Ty.k, Ty.ks] at hk hsl hkl ⊢
 have hn := hsl.le
 obtain ⟨A, hA⟩ : ∃ A, ks.all (M9 · (d + 1)) = A := ⟨_, rfl⟩
 refine C0 Tryz.func130 rfl Tryz.ntmps130 Tryz.results130 rfl ?_
 intro w0
 refine A4 ?_
 refine sE (B6 rfl rfl) rfl (fun b3 => ?_)
 (refine J8 (B22 rfl rfl rfl) rfl ?_; rintro _ ⟨b4, rfl⟩)
 refine J0 ?_
 refine C2 (tS (tS (tR (sB (qE rfl rfl) rfl rfl (fun h24 => ?_) (fun h24 => ?_)))))
 refine J0 ?_
 refine sB (A1k rfl rfl) rfl rfl (fun h40 => ?_) (fun h40 => ?_)
 refine A8 ?_
 refine sB (qE rfl rfl) rfl rfl (fun h46 => ?_) (fun h46 => ?_)
 refine B5 ?_
 refine sQ (A3P rfl rfl) rfl (A4D rfl (A4H _ _ _ _ _ hsl _ [] _ [.blk b4 [.int .i64 d]] (M9 · (d + 1)) ks rfl hA (fun i e he => A4I _ _ _ _ _ (hsl.all e (List.mem_of_getElem? he)) hd (ih _ (hkl.inv he B4).1 _ _ _ zR0 (hkl.inv he B4).2))) A0S rfl rfl (fun h52 => ?_) (fun h52 => ?_))
 simp only [Bool.not_eq_true', Bool.not_eq_false'] at h52
 exact y1
 simp only [Bool.not_eq_true', Bool.not_eq_false'] at h52
 exact y1
 refine N0 ?_
 exact ⟨rfl, zH, rfl⟩
 refine A1m ?_
 exact ⟨rfl, zH, rfl⟩
 refine A9 ?_
 refine sB (qE rfl rfl) rfl rfl (fun h109 => ?_) (fun h109 => ?_)
 refine J0 ?_
 refine sB (A1k rfl rfl) rfl rfl (fun h125 => ?_) (fun h125 => ?_)
 refine A8 ?_
 refine sB (qE rfl rfl) rfl rfl (fun h131 => ?_) (fun h131 => ?_)
 refine B5 ?_
 refine sQ (A3P rfl rfl) rfl (A4D rfl (A4H _ _ _ _ _ hsl _ [] _ [.blk b4 [.int .i64 d]] (M9 · (d + 1)) ks rfl hA (fun i e he => A4I _ _ _ _ _ (hsl.all e (List.mem_of_getElem? he)) hd (ih _ (hkl.inv he B4).1 _ _ _ zR0 (hkl.inv he B4).2))) A0S rfl rfl (fun h137 => ?_) (fun h137 => ?_))
 simp only [Bool.not_eq_true', Bool.not_eq_false'] at h137
 exact y1
 simp only [Bool.not_eq_true', Bool.not_eq_false'] at h137
 exact y1
 refine N0 ?_
 exact ⟨rfl, zH, rfl⟩
 refine A1m ?_
 exact ⟨rfl, zH, rfl⟩
 refine A8 ?_
 refine sB (qE rfl rfl) rfl rfl (fun h193 => ?_) (fun h193 => ?_)
 refine O3 ?_
 refine sB (A1k rfl rfl) rfl rfl (fun h206 => ?_) (fun h206 => ?_)
 refine A8 ?_
 refine sB (qE rfl rfl) rfl rfl (fun h212 => ?_) (fun h212 => ?_)
 refine B5 ?_
 refine sQ (A3P rfl rfl) rfl (A4D rfl (A4H _ _ _ _ _ hsl _ [] _ [.blk b4 [.int .i64 d]] (M9 · (d + 1)) ks rfl hA (fun i e he => A4I _ _ _ _ _ (hsl.all e (List.mem_of_getElem? he)) hd (ih _ (hkl.inv he B4).1 _ _ _ zR0 (hkl.inv he B4).2))) A0S rfl rfl (fun h218 => ?_) (fun h218 => ?_))
 simp only [Bool.not_eq_true', Bool.not_eq_false'] at h218
 exact y1
 simp only [Bool.not_eq_true', Bool.not_eq_false'] at h218
 exact y1
 refine N0 ?_
 exact ⟨rfl, zH, rfl⟩
 refine A1m ?_
 exact ⟨rfl, zH, rfl⟩
 refine B0 ?_
 refine sB (qE rfl rfl) rfl rfl (fun h276 => ?_) (fun h276 => ?_)
 refine J0 ?_
 refine sB (A1k rfl rfl) rfl rfl (fun h292 => ?_) (fun h292 => ?_)
 refine A8 ?_
 refine sB (qE rfl rfl) rfl rfl (fun h298 => ?_) (fun h298 => ?_)
 refine B5 ?_
 refine sQ (A3P rfl rfl) rfl (A4D rfl (A4H _ _ _ _ _ hsl _ [] _ [.blk b4 [.int .i64 d]] (M9 · (d + 1)) ks rfl hA (fun i e he => A4I _ _ _ _ _ (hsl.all e (List.mem_of_getElem? he)) hd (ih _ (hkl.inv he B4).1 _ _ _ zR0 (hkl.inv he B4).2))) A0S rfl rfl (fun h304 => ?_) (fun h304 => ?_))
 simp only [Bool.not_eq_true', Bool.not_eq_false'] at h304
 exact y1
 simp only [Bool.not_eq_true', Bool.not_eq_false'] at h304
 exact y1
 refine N0 ?_
 exact ⟨rfl, zH, rfl⟩
 refine A1m ?_
 exact ⟨rfl, zH, rfl⟩
 refine A8 ?_
 refine sB (qE rfl rfl) rfl rfl (fun h360 => ?_) (fun h360 => ?_)
 refine O3 ?_
 refine sB (A1k rfl rfl) rfl rfl (fun h373 => ?_) (fun h373 => ?_)
 refine A8 ?_
 refine sB (qE rfl rfl) rfl rfl (fun h379 => ?_) (fun h379 => ?_)
 refine B5 ?_
 refine sQ (A3P rfl rfl) rfl (A4D rfl (A4H _ _ _ _ _ hsl _ [] _ [.blk b4 [.int .i64 d]] (M9 · (d + 1)) ks rfl hA (fun i e he => A4I _ _ _ _ _ (hsl.all e (List.mem_of_getElem? he)) hd (ih _ (hkl.inv he B4).1 _ _ _ zR0 (hkl.inv he B4).2))) A0S rfl rfl (fun h385 => ?_) (fun h385 => ?_))
 simp only [Bool.not_eq_true', Bool.not_eq_false'] at h385
 exact y1
 simp only [Bool.not_eq_true', Bool.not_eq_false'] at h385
 exact y1
 refine N0 ?_
 exact ⟨rfl, zH, rfl⟩
 refine A1m ?_
 exact ⟨rfl, zH, rfl⟩
 refine J2 ?_
 refine sB (A1k rfl rfl) rfl rfl (fun h446 => ?_) (fun h446 => ?_)
 refine A8 ?_
 refine sP (D0 rfl rfl zR0) rfl rfl ?_
 refine N0 ?_
 exact ⟨rfl, zH, rfl⟩
 refine A1m ?_
 exact ⟨rfl, zH, rfl⟩
theorem A4J (t : Ty) (G : IM) (cells : List Value) (hr : C7 G t cells) : Fn Tryz.prog 95 [.agg ⟨cells⟩] [] G (K7 (.bool (H9 t)) G) := by
 have hl := hr.len
 have hv := B34 t 1 G cells zR0 hr
 refine C0 Tryz.func95 rfl Tryz.ntmps95 Tryz.results95 rfl ?_
 intro w0
 refine A4 ?_
 refine sE (B6 rfl rfl) rfl (fun b3 => ?_)
 refine A8 ?_
 refine sL (A5 rfl rfl (B3 zI0) zO0) rfl rfl ?_
 refine H4 rfl (hv) rfl rfl ?_
 refine A8 ?_
 exact ⟨rfl, rfl, rfl⟩
theorem A0L : ∀ (t t' : Ty) (G : IM) (cells cells' : List Value), C7 G t cells → C7 G t' cells' →
  Fn Tryz.prog 128 [.agg ⟨cells⟩, .agg ⟨cells'⟩] [] G (K7 (.bool (N6 t t')) G) := by
 refine Ty.ind fun k ks ih t' G cells cells' hr hr' => ?_
 obtain ⟨k', ks'⟩ := t'
 obtain ⟨p, c, es, rfl, hk, hsl, hkl⟩ := hr.open
 obtain ⟨p', c', es', rfl, hk', hsl', hkl'⟩ := hr'.open
 simp only [Ty.k, Ty.ks] at hk hsl hkl hk' hsl' hkl' ⊢
 have hn := hsl.le
 have hn' := hsl'.le
 obtain ⟨A, hA⟩ : ∃ A, P7 ks ks' = A := ⟨_, rfl⟩
 have hA' : A = true ↔ ks.length = ks'.length ∧ ∀ i, i < ks.length → N6 (ks.getD i B4) (ks'.getD i B4) = true := by
  rw [← hA, A3v]
  constructor
  ·rintro ⟨h1, h2⟩
   refine ⟨h1, fun i hi => ?_⟩
   have := h2 i hi zR0
   simpa [List.getD_eq_getElem?_getD, List.getElem?_eq_getElem hi, List.getElem?_eq_getElem (show i < ks'.length by omega)] using this
  ·rintro ⟨h1, h2⟩
   refine ⟨h1, fun i hi hi' => ?_⟩
   have := h2 i hi
   simpa [List.getD_eq_getElem?_getD, List.getElem?_eq_getElem hi, List.getElem?_eq_getElem hi'] using this
 refine C0 Tryz.func128 rfl Tryz.ntmps128 Tryz.results128 rfl ?_
 intro w0
 refine A4 ?_
 refine sE (B6 rfl rfl) rfl (fun b3 => ?_)
 refine sE (B6 rfl rfl) rfl (fun b4 => ?_)
 refine B0 ?_
 refine sB (qE rfl rfl) rfl rfl (fun h12 => ?_) (fun h12 => ?_)
 refine A2e ?_
 exact ⟨rfl, zB, rfl⟩
 refine C1 ?_
 refine sB (qE rfl rfl) rfl rfl (fun h41 => ?_) (fun h41 => ?_)
 refine X3 ?_
 exact ⟨rfl, zB, rfl⟩
 refine A9 ?_
 refine sB (qE rfl rfl) rfl rfl (fun h69 => ?_) (fun h69 => ?_)
 refine A8 ?_
 refine J5 rfl (A7d _ _ _ _ _ _ _ _ _ hsl hsl' _ [] [] [] (fun i => N6 (ks.getD i B4) (ks'.getD i B4)) A hA' (fun i e e' he he' => ih _ (hkl.inv he B4).1 _ _ _ _ (hkl.inv he B4).2 (hkl'.inv he' B4).2)) rfl rfl (fun h75 => ?_) (fun h75 => ?_)
 refine B0 ?_
 exact ⟨rfl, zB, rfl⟩
 refine B0 ?_
 exact ⟨rfl, zB, rfl⟩
 refine N0 ?_
 exact ⟨rfl, zB, rfl⟩
theorem B35 (t t' : Ty) (G : IM) (cells cells' : List Value) (hr : C7 G t cells) (hr' : C7 G t' cells') :
  Fn Tryz.prog 115 [.agg ⟨cells⟩, .agg ⟨cells'⟩] [] G (K7 (.bool (A2f t t')) G) := by
 have hl := hr.len
 have hl' := hr'.len
 have hv := A4J t G cells hr
 have hv' := A4J t' G cells' hr'
 have hc := A0L t t' G cells cells' hr hr'
 refine C0 Tryz.func115 rfl Tryz.ntmps115 Tryz.results115 rfl ?_
 intro w0
 refine A4 ?_
 refine sE (B6 rfl rfl) rfl (fun b3 => ?_)
 refine sE (B6 rfl rfl) rfl (fun b4 => ?_)
 refine A8 ?_
 refine sL (A5 rfl rfl (B3 zI0) zO0) rfl rfl ?_
 refine J5 rfl (hv) rfl rfl (fun h11 => ?_) (fun h11 => ?_)
 refine D8 ?_
 refine sL (A5 rfl rfl (B3 zI0) zO0) rfl rfl ?_
 refine J5 rfl (hv') rfl rfl (fun h14 => ?_) (fun h14 => ?_)
 refine A4 ?_
 refine sL (A5 rfl rfl (B3 zI0) zO0) rfl rfl ?_
 refine sL (A5 rfl rfl (B3 zI0) zO0) rfl rfl ?_
 refine J5 rfl (hc) rfl rfl (fun h19 => ?_) (fun h19 => ?_)
 refine A9 ?_
 exact ⟨rfl, by simp only [A2f]; simp only [*, Bool.true_and, Bool.false_and, Bool.and_true], rfl⟩
 refine A9 ?_
 exact ⟨rfl, by simp only [A2f]; simp only [*, Bool.true_and, Bool.false_and, Bool.and_true], rfl⟩
 refine M7 ?_
 exact ⟨rfl, by simp only [A2f]; simp only [*, Bool.true_and, Bool.false_and, Bool.and_true], rfl⟩
 refine M8 ?_
 exact ⟨rfl, by simp only [A2f]; simp only [*, Bool.true_and, Bool.false_and, Bool.and_true], rfl⟩
theorem B36 (k : Int) (G : IM) (hk : H6 k) : Fn Tryz.prog 112 [.int .i64 k] [] G (K7 (.int .i64 (E8 k)) G) := by
 unfold H6 at hk
 refine C0 Tryz.func112 rfl Tryz.ntmps112 Tryz.results112 rfl ?_
 intro w0
 refine E7 ?_
 refine J5 rfl (A2h _ _ _ _) rfl rfl (fun h10 => ?_) (fun h10 => ?_)
 refine E1 ?_
 (refine J8 (D1 rfl rfl rfl zR0 zL0 rfl) rfl ?_; rintro _ ⟨b19, rfl⟩)
 refine D8 ?_
 (have hkk : 1 ≤ k ∧ k ≤ 14 := A3Y zO0; refine sP (Q7 rfl rfl zR0 zR0) rfl rfl ?_)
 refine sP (A5v rfl rfl rfl zR0 zR0) rfl rfl ?_
 refine sL (I7 rfl rfl (A8E zI0 (B3w (by rw [Nat.zero_add, Nat.mul_one]; exact B3v hkk)))) rfl rfl ?_
 refine A8 ?_
 exact ⟨rfl, rfl, rfl⟩
 refine O3 ?_
 exact ⟨rfl, by rw [A5G (A6Y zO0)], rfl⟩
theorem B37 (k : Int) (nm : ByteArray) (num : Int) (ty fr : Ty) (lb : Int) (ks : List Tm) (G : IM) (cells : List Value) (hr : B7 G (.mk k nm num ty fr lb ks) cells) :
  Fn Tryz.prog 79 [.agg ⟨cells⟩] [] G (K7 (.bool (Z2 k nm num ty fr lb ks.length)) G) := by
 obtain ⟨tk, tks⟩ := ty
 obtain ⟨fk, fks⟩ := fr
 obtain ⟨pt, ct, pf, cf, p, c, es, rfl, hk, hnum, hlb, hty, hfr, hsl, hkl⟩ := hr.open9
 have hi := @X5 k nm num (.mk tk tks) (.mk fk fks) lb ks.length
 obtain ⟨R, hR⟩ : ∃ R, Z2 k nm num (.mk tk tks) (.mk fk fks) lb ks.length = R := ⟨_, rfl⟩
 rw [hR] at hi ⊢
 clear hR hr
 have o1 := B36 k G hk
 have o2 := B33 nm G
 have o3 := A4J _ G _ hty
 have o4 := A9r _ G _ hty
 have o5 := B35 _ _ G _ _ hfr hty
 have o6 := B32 lb G
 have o7 := A9r _ G _ hfr
 refine C0 Tryz.func79 rfl Tryz.ntmps79 Tryz.results79 rfl ?_
 intro w0
 refine A4 ?_
 refine sE (B6 rfl rfl) rfl (fun b3 => ?_)
 refine A8 ?_
 refine D3 D4 rfl ?_
 refine J4 (i := 0) (l' := [tt,ff,ff,ff,ff,ff,ff]) rfl C8 (C3 rfl) rfl zP0 rfl rfl ?_
 refine aL 1 rfl (F0 rfl rfl) rfl ?_
 refine aP 3 rfl (C3 rfl) rfl ?_
 refine aL 4 rfl (F0 rfl rfl) rfl ?_
 refine aP 5 rfl (pLn rfl rfl) rfl ?_
 refine A2 2 ?_
 refine T2 rfl rfl (o1) rfl rfl rfl ?_
 refine A2B (i := 6) (l' := [tt,tt,tt,tt,tt,tt,tt]) rfl C8 (U3 rfl rfl) rfl zP0 rfl rfl (fun h17 => ?_) (fun h17 => ?_)
 refine M7 ?_
 exact ⟨rfl, zA, rfl⟩
 refine E7 ?_
 refine sB (qE rfl rfl) rfl rfl (fun h39 => ?_) (fun h39 => ?_)
 refine O3 ?_
 refine sP (D0 rfl rfl zR0) rfl rfl ?_
 refine C1 ?_
 refine sP (D0 rfl rfl zR0) rfl rfl ?_
 refine B5 ?_
 refine sP (D0 rfl rfl zR0) rfl rfl ?_
 refine E1 ?_
 refine sP (D0 rfl rfl zR0) rfl rfl ?_
 refine N0 ?_
 refine sP (D0 rfl rfl zR0) rfl rfl ?_
 refine A9 ?_
 refine C2 ?_
 refine B0 ?_
 refine J5 rfl (o2) rfl rfl (fun h99 => ?_) (fun h99 => ?_)
 refine A2d ?_
 refine J5 rfl (A2h _ _ _ _) rfl rfl (fun h123 => ?_) (fun h123 => ?_)
 refine A6V ?_
 refine J5 rfl (o4) rfl rfl (fun h149 => ?_) (fun h149 => ?_)
 refine A07 ?_
 refine B5 ?_
 refine J5 rfl (o7) rfl rfl (fun h184 => ?_) (fun h184 => ?_)
 refine B5 ?_
 refine sB (U3 rfl rfl) rfl rfl (fun h189 => ?_) (fun h189 => ?_)
 refine J0 ?_
 exact ⟨rfl, zA, rfl⟩
 exact y0
 refine X3 ?_
 exact ⟨rfl, zA, rfl⟩
 refine J0 ?_
 exact ⟨rfl, zA, rfl⟩
 refine M8 ?_
 exact ⟨rfl, zA, rfl⟩
 refine Z8 ?_
 exact ⟨rfl, zA, rfl⟩
 refine C1 ?_
 refine sB (qE rfl rfl) rfl rfl (fun h297 => ?_) (fun h297 => ?_)
 refine E1 ?_
 refine sP (O1 rfl rfl zR0) rfl rfl ?_
 refine V0 ?_
 refine sP (D0 rfl rfl zR0) rfl rfl ?_
 refine N0 ?_
 refine sP (D0 rfl rfl zR0) rfl rfl ?_
 refine A9 ?_
 refine C2 ?_
 refine B0 ?_
 refine J5 rfl (o2) rfl rfl (fun h353 => ?_) (fun h353 => ?_)
 refine A2d ?_
 refine J5 rfl (A2h _ _ _ _) rfl rfl (fun h377 => ?_) (fun h377 => ?_)
 refine O3 ?_
 refine J5 rfl (o3) rfl rfl (fun h390 => ?_) (fun h390 => ?_)
 refine A07 ?_
 refine V0 ?_
 refine J5 rfl (o7) rfl rfl (fun h438 => ?_) (fun h438 => ?_)
 refine B5 ?_
 refine sB (U3 rfl rfl) rfl rfl (fun h443 => ?_) (fun h443 => ?_)
 refine J0 ?_
 exact ⟨rfl, zA, rfl⟩
 exact y0
 refine X3 ?_
 exact ⟨rfl, zA, rfl⟩
 refine Z8 ?_
 exact ⟨rfl, zA, rfl⟩
 refine M8 ?_
 exact ⟨rfl, zA, rfl⟩
 refine Z8 ?_
 exact ⟨rfl, zA, rfl⟩
 refine E1 ?_
 refine sP (D0 rfl rfl zR0) rfl rfl ?_
 refine C1 ?_
 refine sB (qE rfl rfl) rfl rfl (fun h563 => ?_) (fun h563 => ?_)
 refine N0 ?_
 refine sP (D0 rfl rfl zR0) rfl rfl ?_
 refine N0 ?_
 refine sP (D0 rfl rfl zR0) rfl rfl ?_
 refine A9 ?_
 refine C2 ?_
 refine Z0 ?_
 refine sB (A3s rfl rfl) rfl rfl (fun h620 => ?_) (fun h620 => ?_)
 refine V0 ?_
 exact ⟨rfl, zA, rfl⟩
 refine E7 ?_
 refine J5 rfl (A2h _ _ _ _) rfl rfl (fun h648 => ?_) (fun h648 => ?_)
 refine O3 ?_
 refine J5 rfl (o3) rfl rfl (fun h661 => ?_) (fun h661 => ?_)
 refine A07 ?_
 refine V0 ?_
 refine J5 rfl (o7) rfl rfl (fun h709 => ?_) (fun h709 => ?_)
 refine B5 ?_
 refine sB (U3 rfl rfl) rfl rfl (fun h714 => ?_) (fun h714 => ?_)
 refine J0 ?_
 exact ⟨rfl, zA, rfl⟩
 exact y0
 refine X3 ?_
 exact ⟨rfl, zA, rfl⟩
 refine Z8 ?_
 exact ⟨rfl, zA, rfl⟩
 refine M8 ?_
 exact ⟨rfl, zA, rfl⟩
 refine B5 ?_
 refine sB (qE rfl rfl) rfl rfl (fun h807 => ?_) (fun h807 => ?_)
 refine E1 ?_
 refine sP (O1 rfl rfl zR0) rfl rfl ?_
 refine N0 ?_
 refine sP (D0 rfl rfl zR0) rfl rfl ?_
 refine A9 ?_
 refine C2 ?_
 refine Z0 ?_
 refine sB (A3s rfl rfl) rfl rfl (fun h859 => ?_) (fun h859 => ?_)
 refine V0 ?_
 exact ⟨rfl, zA, rfl⟩
 refine E7 ?_
 refine J5 rfl (A2h _ _ _ _) rfl rfl (fun h887 => ?_) (fun h887 => ?_)
 refine O3 ?_
 refine J5 rfl (o3) rfl rfl (fun h900 => ?_) (fun h900 => ?_)
 refine A3V ?_
 refine J5 rfl (o5) rfl rfl (fun h929 => ?_) (fun h929 => ?_)
 refine B5 ?_
 refine J5 rfl (o6) rfl rfl (fun h934 => ?_) (fun h934 => ?_)
 refine A07 ?_
 refine A8 ?_
 exact ⟨rfl, by rw [hi.2 ⟨by omega, fun _ => zB0, fun _ => zB0, fun _ => zB0, fun _ => zB0, fun _ => zB0, fun _ => zB0, fun _ => ⟨zH0, zH0⟩, fun _ => ⟨zH0, by (first | assumption | omega)⟩⟩], rfl⟩
 refine A1m ?_
 exact ⟨rfl, zA, rfl⟩
 refine A2e ?_
 exact ⟨rfl, zA, rfl⟩
 refine Z8 ?_
 exact ⟨rfl, zA, rfl⟩
 refine M8 ?_
 exact ⟨rfl, zA, rfl⟩
 refine E1 ?_
 refine sP (D0 rfl rfl zR0) rfl rfl ?_
 refine N0 ?_
 refine sB (qE rfl rfl) rfl rfl (fun h1072 => ?_) (fun h1072 => ?_)
 refine E1 ?_
 refine C2 ?_
 refine Z0 ?_
 refine sB (A3s rfl rfl) rfl rfl (fun h1103 => ?_) (fun h1103 => ?_)
 refine V0 ?_
 exact ⟨rfl, zA, rfl⟩
 refine E7 ?_
 refine J5 rfl (A2h _ _ _ _) rfl rfl (fun h1131 => ?_) (fun h1131 => ?_)
 refine A6V ?_
 refine J5 rfl (o4) rfl rfl (fun h1157 => ?_) (fun h1157 => ?_)
 refine A07 ?_
 refine B5 ?_
 refine J5 rfl (o7) rfl rfl (fun h1192 => ?_) (fun h1192 => ?_)
 refine B5 ?_
 refine sB (U3 rfl rfl) rfl rfl (fun h1197 => ?_) (fun h1197 => ?_)
 refine J0 ?_
 exact ⟨rfl, zA, rfl⟩
 exact y0
 refine X3 ?_
 exact ⟨rfl, zA, rfl⟩
 refine J0 ?_
 exact ⟨rfl, zA, rfl⟩
 refine M8 ?_
 exact ⟨rfl, zA, rfl⟩
 refine A9 ?_
 refine C2 ?_
 refine Z0 ?_
 refine sB (A3s rfl rfl) rfl rfl (fun h1311 => ?_) (fun h1311 => ?_)
 refine V0 ?_
 exact ⟨rfl, zA, rfl⟩
 refine E7 ?_
 refine J5 rfl (A2h _ _ _ _) rfl rfl (fun h1339 => ?_) (fun h1339 => ?_)
 refine A6V ?_
 refine J5 rfl (o4) rfl rfl (fun h1365 => ?_) (fun h1365 => ?_)
 refine A07 ?_
 refine B5 ?_
 refine J5 rfl (o7) rfl rfl (fun h1400 => ?_) (fun h1400 => ?_)
 refine B5 ?_
 refine sB (U3 rfl rfl) rfl rfl (fun h1405 => ?_) (fun h1405 => ?_)
 refine J0 ?_
 exact ⟨rfl, zA, rfl⟩
 exact y0
 refine X3 ?_
 exact ⟨rfl, zA, rfl⟩
 refine J0 ?_
 exact ⟨rfl, zA, rfl⟩
 refine M8 ?_
 exact ⟨rfl, zA, rfl⟩
end Gw
end Go.Proofs.YtbdacdnffkhgeaaGreatDoor
