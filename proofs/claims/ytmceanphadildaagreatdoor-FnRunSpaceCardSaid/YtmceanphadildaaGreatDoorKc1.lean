/-
  The data of the program: types and terms as trees, and how they lie in memory.
-/
import Derived.Test.YtmceanphadildaaGreatDoorKc0
import Derived.Laws.BytesArg
import Derived.WalkKit
import Derived.ProofKit
import Derived.OpenShut
import Derived.Carry
import Derived.Test.YtmceanphadildaaGreatDoorShelf
import Derived.Lib.ItoaNum
import Derived.Lib.LaidTab
import Derived.Test.YtmceanphadildaaGreatDoorRows
import Derived.Deep.DeepHandedRow
import Derived.Stop.LaidErr
import Init
set_option linter.unusedVariables false
set_option linter.unusedSimpArgs false
set_option linter.ambiguousOpen false
set_option maxHeartbeats 0
set_option maxRecDepth 100000
set_option synthInstance.maxSize 4000
set_option synthInstance.maxHeartbeats 0
namespace Go.Proofs.YtmceanphadildaaGreatDoor
open Go Go.RowKit Tryz Go.Proofs.Tryz
namespace Gw
theorem y0 {p : Prop} (h : p := by
  refine A7 ?_
  exact ⟨rfl, by simp only [Z0]; (try simp only [Int.toNat_zero] at *); (first | rw [decide_eq_true zO0] | rw [decide_eq_false zO0]), rfl⟩
) : p := h

structure D7 (G : IM) (p : Option Addr) (n c sz : Nat) (es : List (List Value)) : Prop where
 sl : Sl G p n c sz es.flatten
 len : es.length = n
 all : ∀ e ∈ es, e.length = sz
 one : ∀ e ∈ es, e.all (·.oneCell') = true

theorem D7.mono {G G' : IM} {p : Option Addr} {n c sz : Nat} {es : List (List Value)} (h : D7 G p n c sz es) (hg : C3 G G') : D7 G' p n c sz es := ⟨h.sl.mono hg, h.len, h.all, h.one⟩
theorem D7.nil (G : IM) (sz : Nat) : D7 G none 0 0 sz [] := ⟨Sl.nil G sz, rfl, by simp, by simp⟩

theorem A9i {sz : Nat} : ∀ {es : List (List Value)}, (∀ e ∈ es, e.length = sz) → ∀ {i : Nat} {e : List Value}, es[i]? = some e → ∀ j v, e[j]? = some v → es.flatten[i * sz + j]? = some v
 | [], _, i, e, h, _, _, _ => by simp at h
 | a :: r, hall, 0, e, h, j, v, hv => by
  simp at h; subst h
  have : j < a.length := (List.getElem?_eq_some_iff.1 hv).1
  simp [List.getElem?_append, this]
  simpa [List.getElem?_eq_getElem this] using hv
 | a :: r, hall, i + 1, e, h, j, v, hv => by
  have ih := A9i (es := r) (fun x hx => hall x (List.mem_cons_of_mem _ hx)) (i := i) (e := e) (by simpa using h) j v hv
  have ha := hall a List.mem_cons_self
  rw [List.flatten_cons, List.getElem?_append, if_neg (by rw [ha, Nat.succ_mul]; omega)]
  rw [show (i + 1) * sz + j - a.length = i * sz + j by rw [ha, Nat.succ_mul]; omega]
  exact ih

variable {i n : Nat} {es : List (List Value)} {p : Option Addr} {G : IM}
theorem D7.at {c sz : Nat} (h : D7 G p n c sz es) {e : List Value} (hi : es[i]? = some e) :
  ∃ b o, p = some ⟨b, o, none⟩ ∧ ∀ hp, At hp G b (o + i * sz) e := by
 have hlt : i < es.length := (List.getElem?_eq_some_iff.1 hi).1
 obtain ⟨_, _, _, h4⟩ := h.sl
 have hn := h.len
 rcases h4 with h0 | ⟨b, o, full, hp, hg, hf⟩
 ·omega
 ·refine ⟨b, o, hp, fun hp => A4q hg fun j v hv => ?_⟩
  rw [Nat.add_assoc]
  exact hf _ v (A9i h.all hi j v hv)

theorem D7.get {c sz : Nat} (h : D7 G p n c sz es) (hi : i < n) :
  ∃ e b o, es[i]? = some e ∧ p = some ⟨b, o, none⟩ ∧ e.length = sz ∧ e.all (·.oneCell') = true ∧ (∀ hp, At hp G b (o + i * sz) e) ∧ G b ≠ none := by
 have hlt : i < es.length := by rw [h.len]; exact hi
 have he : es[i]? = some es[i] := List.getElem?_eq_getElem hlt
 obtain ⟨b, o, h1, h2⟩ := h.at he
 refine ⟨es[i], b, o, he, h1, h.all _ (List.getElem_mem hlt), h.one _ (List.getElem_mem hlt), h2, ?_⟩
 obtain ⟨_, _, _, h4⟩ := h.sl
 rcases h4 with h0 | ⟨b', o', full, hp, hg, hf⟩
 ·omega
 ·rw [h1] at hp; cases hp; rw [hg]; simp
theorem D7.le {c sz : Nat} (h : D7 G p n c sz es) : n ≤ 9223372036854775807 := by
 have h1 := h.sl.2.1; have h2 := h.sl.2.2.1; unfold maxLen at h2; omega

theorem D7.of {c sz : Nat} (h : Sl G p n c sz es.flatten) (hl : es.length = n) (ha : ∀ e ∈ es, e.length = sz) (ho : ∀ e ∈ es, e.all (·.oneCell') = true) : D7 G p n c sz es := ⟨h, hl, ha, ho⟩

def F8 (n : Int) : Prop := -9223372036854775808 ≤ n ∧ n ≤ 9223372036854775807

inductive Ty where
 | mk (k : Int) (ks : List Ty)

def Ty.k : Ty → Int | .mk k _ => k
def Ty.ks : Ty → List Ty | .mk _ ks => ks

inductive Tm where
 | mk (k : Int) (nm : ByteArray) (num : Int) (ty fr : Ty) (lb : Int) (ks : List Tm)

def Tm.k : Tm → Int | .mk k _ _ _ _ _ _ => k
def Tm.nm : Tm → ByteArray | .mk _ n _ _ _ _ _ => n
def Tm.num : Tm → Int | .mk _ _ n _ _ _ _ => n
def Tm.ty : Tm → Ty | .mk _ _ _ t _ _ _ => t
def Tm.fr : Tm → Ty | .mk _ _ _ _ f _ _ => f
def Tm.lb : Tm → Int | .mk _ _ _ _ _ l _ => l
def Tm.ks : Tm → List Tm | .mk _ _ _ _ _ _ ks => ks

mutual
def Ty.small : Ty → Prop
 | .mk _ ks => ks.length ≤ 4294967296 ∧ Ty.smallL ks
def Ty.smallL : List Ty → Prop
 | [] => True
 | t :: ts => t.small ∧ Ty.smallL ts
end
mutual
def Tm.small : Tm → Prop
 | .mk _ nm _ ty fr _ ks => nm.size ≤ 4294967296 ∧ ty.small ∧ fr.small ∧ ks.length ≤ 4294967296 ∧ Tm.smallL ks
def Tm.smallL : List Tm → Prop
 | [] => True
 | t :: ts => t.small ∧ Tm.smallL ts
end
theorem Ty.smallL_mem : ∀ {ts : List Ty}, Ty.smallL ts → ∀ t ∈ ts, t.small
 | [], _, t, h => by simp at h
 | t' :: ts, h, t, ht => by
  simp only [Ty.smallL] at h
  rcases List.mem_cons.1 ht with rfl | ht
  ·exact h.1
  ·exact Ty.smallL_mem h.2 t ht
theorem Tm.smallL_mem : ∀ {ts : List Tm}, Tm.smallL ts → ∀ t ∈ ts, t.small
 | [], _, t, h => by simp at h
 | t' :: ts, h, t, ht => by
  simp only [Tm.smallL] at h
  rcases List.mem_cons.1 ht with rfl | ht
  ·exact h.1
  ·exact Tm.smallL_mem h.2 t ht

mutual
def C6 (G : IM) : Ty → List Value → Prop
 | .mk k ks, cells => ∃ p c es, cells = [.int .i64 k, .slice p ks.length c] ∧ F8 k ∧ D7 G p ks.length c 2 es ∧ E7 G ks es
def E7 (G : IM) : List Ty → List (List Value) → Prop
 | [], es => es = []
 | t :: ts, es => ∃ a r, es = a :: r ∧ C6 G t a ∧ E7 G ts r
end

mutual
def B7 (G : IM) : Tm → List Value → Prop
 | .mk k nm num ty fr lb ks, cells => ∃ tc fc p c es, cells = [.int .i64 k, .string nm, .int .i64 num] ++ tc ++ fc ++ [.int .i64 lb, .slice p ks.length c] ∧ F8 k ∧ F8 num ∧ F8 lb ∧ C6 G ty tc ∧ C6 G fr fc ∧ D7 G p ks.length c 9 es ∧ H4 G ks es
def H4 (G : IM) : List Tm → List (List Value) → Prop
 | [], es => es = []
 | t :: ts, es => ∃ a r, es = a :: r ∧ B7 G t a ∧ H4 G ts r
end

mutual
theorem C6.mono {G G' : IM} (hg : C3 G G') : ∀ {t : Ty} {cells : List Value}, C6 G t cells → C6 G' t cells
 | .mk k ks, cells, h => by
  simp only [C6] at h ⊢
  obtain ⟨p, c, es, h1, h2, h3, h4⟩ := h
  exact ⟨p, c, es, h1, h2, h3.mono hg, E7.mono hg h4⟩
theorem E7.mono {G G' : IM} (hg : C3 G G') : ∀ {ts : List Ty} {es : List (List Value)}, E7 G ts es → E7 G' ts es
 | [], es, h => by simpa only [E7] using h
 | t :: ts, es, h => by
  simp only [E7] at h ⊢
  obtain ⟨a, r, h1, h2, h3⟩ := h
  exact ⟨a, r, h1, C6.mono hg h2, E7.mono hg h3⟩
end
mutual
theorem B7.mono {G G' : IM} (hg : C3 G G') : ∀ {t : Tm} {cells : List Value}, B7 G t cells → B7 G' t cells
 | .mk k nm num ty fr lb ks, cells, h => by
  simp only [B7] at h ⊢
  obtain ⟨tc, fc, p, c, es, h1, h2, h3, h4, h5, h6, h7, h8⟩ := h
  exact ⟨tc, fc, p, c, es, h1, h2, h3, h4, h5.mono hg, h6.mono hg, h7.mono hg, H4.mono hg h8⟩
theorem H4.mono {G G' : IM} (hg : C3 G G') : ∀ {ts : List Tm} {es : List (List Value)}, H4 G ts es → H4 G' ts es
 | [], es, h => by simpa only [H4] using h
 | t :: ts, es, h => by
  simp only [H4] at h ⊢
  obtain ⟨a, r, h1, h2, h3⟩ := h
  exact ⟨a, r, h1, B7.mono hg h2, H4.mono hg h3⟩
end

variable {cells : List Value}
theorem C6.open {t : Ty} (h : C6 G t cells) : ∃ p c es, cells = [.int .i64 t.k, .slice p t.ks.length c] ∧ F8 t.k ∧ D7 G p t.ks.length c 2 es ∧ E7 G t.ks es := by
 cases t; simpa only [C6, Ty.k, Ty.ks] using h
theorem B7.open {G : IM} {t : Tm} {cells : List Value} (h : B7 G t cells) : ∃ pt ct et pf cf ef p c es,
  cells = [.int .i64 t.k, .string t.nm, .int .i64 t.num, .int .i64 t.ty.k, .slice pt t.ty.ks.length ct, .int .i64 t.fr.k, .slice pf t.fr.ks.length cf, .int .i64 t.lb, .slice p t.ks.length c] ∧
  F8 t.k ∧ F8 t.num ∧ F8 t.lb ∧ (F8 t.ty.k ∧ D7 G pt t.ty.ks.length ct 2 et ∧ E7 G t.ty.ks et) ∧ (F8 t.fr.k ∧ D7 G pf t.fr.ks.length cf 2 ef ∧ E7 G t.fr.ks ef) ∧ D7 G p t.ks.length c 9 es ∧ H4 G t.ks es := by
 obtain ⟨k, nm, num, ty, fr, lb, ks⟩ := t
 simp only [B7] at h
 obtain ⟨tc, fc, p, c, es, h1, h2, h3, h4, h5, h6, h7, h8⟩ := h
 obtain ⟨pt, ct, et, rfl, t1, t2, t3⟩ := h5.open
 obtain ⟨pf, cf, ef, rfl, f1, f2, f3⟩ := h6.open
 exact ⟨pt, ct, et, pf, cf, ef, p, c, es, h1, h2, h3, h4, ⟨t1, t2, t3⟩, ⟨f1, f2, f3⟩, h7, h8⟩
theorem B7.open9 {k : Int} {nm : ByteArray} {num : Int} {tk : Int} {tks : List Ty} {fk : Int} {fks : List Ty} {lb : Int} {ks : List Tm} (h : B7 G (.mk k nm num (.mk tk tks) (.mk fk fks) lb ks) cells) :
  ∃ pt ct pf cf p c es, cells = [.int .i64 k, .string nm, .int .i64 num, .int .i64 tk, .slice pt tks.length ct, .int .i64 fk, .slice pf fks.length cf, .int .i64 lb, .slice p ks.length c] ∧
  F8 k ∧ F8 num ∧ F8 lb ∧ C6 G (.mk tk tks) [.int .i64 tk, .slice pt tks.length ct] ∧ C6 G (.mk fk fks) [.int .i64 fk, .slice pf fks.length cf] ∧ D7 G p ks.length c 9 es ∧ H4 G ks es := by
 obtain ⟨pt, ct, et, pf, cf, ef, p, c, es, h1, h2, h3, h4, ⟨t1, t2, t3⟩, ⟨f1, f2, f3⟩, h7, h8⟩ := h.open
 simp only [Tm.k, Tm.nm, Tm.num, Tm.ty, Tm.fr, Tm.lb, Tm.ks, Ty.k, Ty.ks] at h1 h2 h3 h4 t1 t2 t3 f1 f2 f3 h7 h8
 exact ⟨pt, ct, pf, cf, p, c, es, h1, h2, h3, h4, by simp only [C6]; exact ⟨_, _, et, rfl, t1, t2, t3⟩, by simp only [C6]; exact ⟨_, _, ef, rfl, f1, f2, f3⟩, h7, h8⟩
theorem C6.len {t : Ty} (h : C6 G t cells) : cells.length = 2 := by
 obtain ⟨_, _, _, rfl, _⟩ := h.open; rfl
theorem B7.len {t : Tm} (h : B7 G t cells) : cells.length = 9 := by
 obtain ⟨_, _, _, _, _, _, _, _, _, rfl, _⟩ := h.open; rfl

theorem E7.len {G : IM} : ∀ {ts : List Ty} {es : List (List Value)}, E7 G ts es → es.length = ts.length
 | [], es, h => by simp only [E7] at h; subst h; rfl
 | t :: ts, es, h => by
  simp only [E7] at h
  obtain ⟨a, r, rfl, _, h3⟩ := h
  simp [h3.len]
theorem H4.len {G : IM} : ∀ {ts : List Tm} {es : List (List Value)}, H4 G ts es → es.length = ts.length
 | [], es, h => by simp only [H4] at h; subst h; rfl
 | t :: ts, es, h => by
  simp only [H4] at h
  obtain ⟨a, r, rfl, _, h3⟩ := h
  simp [h3.len]
theorem E7.get {G : IM} : ∀ {ts : List Ty} {es : List (List Value)}, E7 G ts es → ∀ {i : Nat} {t : Ty}, ts[i]? = some t → ∃ e, es[i]? = some e ∧ C6 G t e
 | [], es, h, i, t, hi => by simp at hi
 | t' :: ts, es, h, i, t, hi => by
  simp only [E7] at h
  obtain ⟨a, r, rfl, h2, h3⟩ := h
  cases i with
  | zero => simp at hi; subst hi; exact ⟨a, rfl, h2⟩
  | succ i => obtain ⟨e, he, hr⟩ := h3.get (i := i) (by simpa using hi); exact ⟨e, by simpa using he, hr⟩
theorem H4.get {G : IM} : ∀ {ts : List Tm} {es : List (List Value)}, H4 G ts es → ∀ {i : Nat} {t : Tm}, ts[i]? = some t → ∃ e, es[i]? = some e ∧ B7 G t e
 | [], es, h, i, t, hi => by simp at hi
 | t' :: ts, es, h, i, t, hi => by
  simp only [H4] at h
  obtain ⟨a, r, rfl, h2, h3⟩ := h
  cases i with
  | zero => simp at hi; subst hi; exact ⟨a, rfl, h2⟩
  | succ i => obtain ⟨e, he, hr⟩ := h3.get (i := i) (by simpa using hi); exact ⟨e, by simpa using he, hr⟩
theorem E7.all {ts : List Ty} (h : E7 G ts es) : ∀ e ∈ es, e.length = 2 := by
 intro e he
 obtain ⟨i, hi⟩ := List.getElem?_of_mem he
 have hlt : i < ts.length := by have := (List.getElem?_eq_some_iff.1 hi).1; rw [h.len] at this; exact this
 obtain ⟨e', he', hr⟩ := h.get (i := i) (t := ts[i]) (by simp [hlt])
 rw [hi] at he'; cases he'; exact hr.len
theorem H4.all {ts : List Tm} (h : H4 G ts es) : ∀ e ∈ es, e.length = 9 := by
 intro e he
 obtain ⟨i, hi⟩ := List.getElem?_of_mem he
 have hlt : i < ts.length := by have := (List.getElem?_eq_some_iff.1 hi).1; rw [h.len] at this; exact this
 obtain ⟨e', he', hr⟩ := h.get (i := i) (t := ts[i]) (by simp [hlt])
 rw [hi] at he'; cases he'; exact hr.len

theorem C6.one {t : Ty} (h : C6 G t cells) : cells.all (·.oneCell') = true := by
 obtain ⟨_, _, _, rfl, _⟩ := h.open; rfl
theorem B7.one {t : Tm} (h : B7 G t cells) : cells.all (·.oneCell') = true := by
 obtain ⟨_, _, _, _, _, _, _, _, _, rfl, _⟩ := h.open; rfl

theorem Ty.ind {C : Ty → Prop} (h : ∀ k ks, (∀ t ∈ ks, C t) → C (.mk k ks)) : ∀ t, C t
 | .mk k ks => h k ks fun t ht => Ty.ind h t
termination_by t => SizeOf.sizeOf t
decreasing_by
 have := List.sizeOf_lt_of_mem ht
 simp only [Ty.mk.sizeOf_spec]; omega
theorem Tm.ind {C : Tm → Prop} (h : ∀ k nm num ty fr lb ks, (∀ t ∈ ks, C t) → C (.mk k nm num ty fr lb ks)) : ∀ t, C t
 | .mk k nm num ty fr lb ks => h k nm num ty fr lb ks fun t ht => Tm.ind h t
termination_by t => SizeOf.sizeOf t
decreasing_by
 have := List.sizeOf_lt_of_mem ht
 simp only [Tm.mk.sizeOf_spec]; omega

def E8 (G' G : IM) : IM := fun b => match G b with | none => G' b | some _ => none
theorem E8.le (G' G : IM) : C3 (E8 G' G) G' := by
 intro b l h
 unfold E8 at h
 split at h
 ·exact h
 ·cases h
variable {G' : IM}
theorem E8.mono {G'' : IM} (h : C3 G' G'') : C3 (E8 G' G) (E8 G'' G) := by
 intro b l hb
 unfold E8 at hb ⊢
 split at hb
 ·exact h b l hb
 ·cases hb
theorem E8.anti {G0 : IM} (h : C3 G0 G) : C3 (E8 G' G) (E8 G' G0) := by
 intro b l hb
 unfold E8 at hb ⊢
 split at hb
 ·rename_i h0
  cases h1 : G0 b with
  | none => exact hb
  | some l' => rw [h b l' h1] at h0; cases h0
 ·cases hb
theorem E8.out {b : Nat} (h : E8 G' G b ≠ none) : G b = none := by
 unfold E8 at h
 split at h
 ·assumption
 ·exact absurd rfl h
variable {cs : List Value}
theorem Sl.dif {G0 : IM} {c sz : Nat} (h : Sl G' p n c sz cs) (hp : ∀ b ∈ K0 p, G b = none) (hle : C3 G0 G) : Sl (E8 G' G0) p n c sz cs := by
 obtain ⟨h1, h2, h3, h4⟩ := h
 refine ⟨h1, h2, h3, h4.imp id ?_⟩
 rintro ⟨b, o, full, rfl, e2, e3⟩
 refine ⟨b, o, full, rfl, ?_, e3⟩
 have hb := hp b (by simp [K0])
 have h0 : G0 b = none := by
  cases h1 : G0 b with
  | none => rfl
  | some l => rw [hle b l h1] at hb; cases hb
 simp [E8, h0, e2]

mutual
def R5 (G : IM) : Ty → List Value → List Nat → Prop
 | .mk k ks, cells, F => ∃ p c es Fs, cells = [.int .i64 k, .slice p ks.length c] ∧ F8 k ∧ D7 G p ks.length c 2 es ∧ O5 G ks es Fs ∧ F = K0 p ++ Fs ∧ (∀ b ∈ K0 p, G b ≠ none)
def O5 (G : IM) : List Ty → List (List Value) → List Nat → Prop
 | [], es, F => es = [] ∧ F = []
 | t :: ts, es, F => ∃ a r Fa Fr, es = a :: r ∧ R5 G t a Fa ∧ O5 G ts r Fr ∧ F = Fa ++ Fr
end
mutual
theorem R5.R {G : IM} : ∀ {t : Ty} {cells : List Value} {F : List Nat}, R5 G t cells F → C6 G t cells
 | .mk k ks, cells, F, h => by
  simp only [R5] at h
  obtain ⟨p, c, es, Fs, h1, h2, h3, h4, _⟩ := h
  simp only [C6]
  exact ⟨p, c, es, h1, h2, h3, O5.R h4⟩
theorem O5.R {G : IM} : ∀ {ts : List Ty} {es : List (List Value)} {F : List Nat}, O5 G ts es F → E7 G ts es
 | [], es, F, h => by simp only [O5] at h; simp only [E7]; exact h.1
 | t :: ts, es, F, h => by
  simp only [O5] at h
  obtain ⟨a, r, Fa, Fr, h1, h2, h3, _⟩ := h
  simp only [E7]
  exact ⟨a, r, h1, R5.R h2, O5.R h3⟩
end
mutual
theorem R5.mono {G G' : IM} (hg : C3 G G') : ∀ {t : Ty} {cells : List Value} {F : List Nat}, R5 G t cells F → R5 G' t cells F
 | .mk k ks, cells, F, h => by
  simp only [R5] at h ⊢
  obtain ⟨p, c, es, Fs, h1, h2, h3, h4, h5, h6⟩ := h
  exact ⟨p, c, es, Fs, h1, h2, h3.mono hg, O5.mono hg h4, h5, fun b hb => by cases hgb : G b with | none => exact absurd hgb (h6 b hb) | some l => rw [hg b l hgb]; simp⟩
theorem O5.mono {G G' : IM} (hg : C3 G G') : ∀ {ts : List Ty} {es : List (List Value)} {F : List Nat}, O5 G ts es F → O5 G' ts es F
 | [], es, F, h => by simpa only [O5] using h
 | t :: ts, es, F, h => by
  simp only [O5] at h ⊢
  obtain ⟨a, r, Fa, Fr, h1, h2, h3, h4⟩ := h
  exact ⟨a, r, Fa, Fr, h1, R5.mono hg h2, O5.mono hg h3, h4⟩
end
mutual
theorem R5.inG {G : IM} : ∀ {t : Ty} {cells : List Value} {F : List Nat}, R5 G t cells F → ∀ b ∈ F, G b ≠ none
 | .mk k ks, cells, F, h => by
  simp only [R5] at h
  obtain ⟨p, c, es, Fs, h1, h2, h3, h4, rfl, h6⟩ := h
  intro b hb
  rcases List.mem_append.1 hb with hb | hb
  ·exact h6 b hb
  ·exact O5.inG h4 b hb
theorem O5.inG {G : IM} : ∀ {ts : List Ty} {es : List (List Value)} {F : List Nat}, O5 G ts es F → ∀ b ∈ F, G b ≠ none
 | [], es, F, h => by simp only [O5] at h; rw [h.2]; simp
 | t :: ts, es, F, h => by
  simp only [O5] at h
  obtain ⟨a, r, Fa, Fr, h1, h2, h3, rfl⟩ := h
  intro b hb
  rcases List.mem_append.1 hb with hb | hb
  ·exact R5.inG h2 b hb
  ·exact O5.inG h3 b hb
end
theorem O5.snoc {G : IM} : ∀ {ts : List Ty} {es : List (List Value)} {F : List Nat} {t : Ty} {a : List Value} {Fa : List Nat}, O5 G ts es F → R5 G t a Fa → O5 G (ts ++ [t]) (es ++ [a]) (F ++ Fa)
 | [], es, F, t, a, Fa, h, h2 => by
  simp only [O5] at h
  obtain ⟨rfl, rfl⟩ := h
  simp only [List.nil_append, O5]
  exact ⟨a, [], Fa, [], rfl, h2, ⟨rfl, rfl⟩, by simp⟩
 | t' :: ts, es, F, t, a, Fa, h, h2 => by
  simp only [O5] at h
  obtain ⟨a', r, Fa', Fr, rfl, h3, h4, rfl⟩ := h
  simp only [List.cons_append, O5]
  exact ⟨a', r ++ [a], Fa', Fr ++ Fa, rfl, h3, O5.snoc h4 h2, by simp⟩

theorem D7.kidTy {c : Nat} {ks : List Ty} (h : D7 G p n c 2 es) (hk : E7 G ks es) (hi : i < n) (hn : i < ks.length) :
  ∃ b o p2 c2, p = some ⟨b, o, none⟩ ∧ (∀ hp, At hp G b (o + i * 2) [.int .i64 ks[i].k, .slice p2 ks[i].ks.length c2]) ∧ C6 G ks[i] [.int .i64 ks[i].k, .slice p2 ks[i].ks.length c2] ∧ G b ≠ none := by
 obtain ⟨e, b, o, he, h1, h2, h3, h4, h5⟩ := h.get hi
 obtain ⟨e', he', hr⟩ := hk.get (i := i) (t := ks[i]) (by simp [hn])
 rw [he] at he'; cases he'
 obtain ⟨p2, c2, _, rfl, _⟩ := hr.open
 exact ⟨b, o, p2, c2, h1, h4, hr, h5⟩

variable {F F' : List Nat} {Gi G1 : IM}
theorem O5.step {ks : List Ty} {a : List Value} (h : O5 (E8 Gi G) (ks.take i) es F) (hn : F.Nodup) (hle : C3 G Gi) (hle1 : C3 Gi G1) (hi : i < ks.length)
  (ha : R5 (E8 G1 Gi) ks[i] a F') (hn' : F'.Nodup) : O5 (E8 G1 G) (ks.take (i + 1)) (es ++ [a]) (F ++ F') ∧ (F ++ F').Nodup := by
 constructor
 ·rw [List.take_succ_eq_append_getElem hi]
  exact O5.snoc (h.mono (E8.mono hle1)) (ha.mono (E8.anti hle))
 ·rw [List.nodup_append]
  refine ⟨hn, hn', ?_⟩
  rintro x hx y hy rfl
  have h1 := h.inG x hx
  have h2 := E8.out (ha.inG x hy)
  apply h1
  cases hd : E8 Gi G x with
  | none => rfl
  | some l => rw [E8.le _ _ x l hd] at h2; cases h2
variable {G2 : IM}
theorem R5.fin {k : Int} {ks : List Ty} {c : Nat} (h : O5 (E8 Gi G) ks es F) (hn : F.Nodup) (hle : C3 G Gi) (hle2 : C3 Gi G2)
  (hsl : Sl G2 p ks.length c 2 es.flatten) (hnn : ∀ b ∈ K0 p, Gi b = none ∧ G2 b ≠ none) (hk : F8 k) :
  ∃ F', R5 (E8 G2 G) (.mk k ks) [.int .i64 k, .slice p ks.length c] F' ∧ F'.Nodup := by
 have hno := fun b hb => (hnn b hb).1
 have hin := fun b hb => (hnn b hb).2
 have hR := h.R
 refine ⟨K0 p ++ F, ?_, ?_⟩
 ·simp only [R5]
  refine ⟨p, c, es, F, rfl, hk, D7.of (hsl.dif hno hle) hR.len hR.all ?_, h.mono (E8.mono hle2), rfl, ?_⟩
  ·intro e he
   obtain ⟨i, hi⟩ := List.getElem?_of_mem he
   have hlt : i < ks.length := by have := (List.getElem?_eq_some_iff.1 hi).1; rw [hR.len] at this; exact this
   obtain ⟨e', he', hr⟩ := hR.get (i := i) (t := ks[i]) (by simp [hlt])
   rw [hi] at he'; cases he'; exact hr.one
  ·intro b hb
   have h0 := hno b hb
   cases hg : G b with
   | none => simpa [E8, hg] using hin b hb
   | some l => rw [hle b l hg] at h0; cases h0
 ·rw [List.nodup_append]
  refine ⟨by cases p <;> simp [K0], hn, ?_⟩
  rintro x hx y hy rfl
  have h1 := h.inG x hy
  have h2 := hno x hx
  apply h1
  cases hd : E8 Gi G x with
  | none => rfl
  | some l => rw [E8.le _ _ x l hd] at h2; cases h2

def A0v (q : Nat → Bool) (n : Nat) : Int := match (List.range n).find? q with | some i => i | none => -1
variable {q : Nat → Bool}
theorem A5w (h : ∀ j, j < n → q j = false) : A0v q n = -1 := by
 have : (List.range n).find? q = none := by
  rw [List.find?_eq_none]
  intro x hx
  rw [h x (List.mem_range.1 hx)]; simp
 simp [A0v, this]
theorem A66 (hi : i < n) (h : ∀ j, j < i → q j = false) (hq : q i = true) : A0v q n = i := by
 have : (List.range n).find? q = some i := by
  rw [List.find?_eq_some_iff_append]
  refine ⟨hq, List.range i, (List.range n).drop (i + 1), ?_, ?_⟩
  ·apply List.ext_getElem?
   intro k
   simp only [List.getElem?_append, List.length_range, List.getElem?_range', List.getElem?_cons, List.getElem?_drop]
   by_cases h1 : k < i
   ·simp [h1, show k < n by omega]
   ·by_cases h2 : k = i
    ·subst h2; simp [hi]
    ·have h3 : k - i ≠ 0 := by omega
     simp only [h1, if_false, h3]
     rw [show i + 1 + (k - i - 1) = k by omega]
  ·intro a ha
   simp [h a (List.mem_range.1 ha)]
 simp [A0v, this]

def Q5 (n lo hi : Int) : Bool := decide (lo ≤ n ∧ n ≤ hi)
theorem A2J {n lo hi : Int} (h : Q5 n lo hi = true) : lo ≤ n ∧ n ≤ hi := by simpa [Q5] using h
theorem A67 {n lo hi : Int} (h : Q5 n lo hi = false) : ¬(lo ≤ n ∧ n ≤ hi) := by simpa [Q5] using h
def V9 (k : Int) : Int := if k = 1 ∨ k = 2 ∨ k = 3 then 0 else if k = 4 ∨ k = 5 then 2 else -1
theorem T5 (k : Int) : (k = 1 ∨ k = 2 ∨ k = 3 → V9 k = 0) ∧ (k = 4 ∨ k = 5 → V9 k = 2) ∧ (k ≠ 1 → k ≠ 2 → k ≠ 3 → k ≠ 4 → k ≠ 5 → V9 k = -1) := by
 unfold V9; split <;> try split
 all_goals omega
def E4 (k : Int) : Int := if k = 1 ∨ k = 2 ∨ k = 3 ∨ k = 4 then 0 else if k = 5 ∨ k = 11 ∨ k = 12 ∨ k = 13 ∨ k = 14 then 1 else if k = 6 ∨ k = 7 ∨ k = 8 ∨ k = 10 then 2 else if k = 9 then 3 else -1

mutual
def Q9 : Ty → Int → Bool
 | .mk k ks, d => decide (d ≤ 4) && decide (V9 k = ks.length) && W9 ks (d + 1)
def W9 : List Ty → Int → Bool
 | [], _ => true
 | t :: ts, d => Q9 t d && W9 ts d
end
theorem A5x : ∀ (ts : List Ty) (d : Int), W9 ts d = true ↔ ∀ i, (h : i < ts.length) → Q9 ts[i] d = true
 | [], d => by simp [W9]
 | t :: ts, d => by
  simp only [W9, Bool.and_eq_true, A5x ts d]
  constructor
  ·rintro ⟨h1, h2⟩ i hi
   cases i with
   | zero => exact h1
   | succ i => exact h2 i (by simpa using hi)
  ·intro h
   exact ⟨h 0 zP0, fun i hi => h (i + 1) (by simpa using hi)⟩
def H7 (t : Ty) : Bool := Q9 t 1
def Y4 (t : Ty) : Bool := decide (t.k = 0 ∧ t.ks.length = 0)

mutual
def K8 : Ty → Ty → Bool
 | .mk k ks, t => decide (k = 1) || decide (t.k = 1) || (decide (k = t.k) && O0 ks t.ks)
def O0 : List Ty → List Ty → Bool
 | [], [] => true
 | a :: xs, b :: ys => K8 a b && O0 xs ys
 | _, _ => false
end
theorem T6 (k k' : Int) (ks ks' : List Ty) : K8 (.mk k ks) (.mk k' ks') = (decide (k = 1) || decide (k' = 1) || (decide (k = k') && O0 ks ks')) := by rw [K8]; rfl
theorem A2K : ∀ (xs ys : List Ty), O0 xs ys = true ↔ xs.length = ys.length ∧ ∀ i, (h : i < xs.length) → (h' : i < ys.length) → K8 xs[i] ys[i] = true
 | [], [] => by simp [O0]
 | [], b :: ys => by simp [O0]
 | a :: xs, [] => by simp [O0]
 | a :: xs, b :: ys => by
  simp only [O0, Bool.and_eq_true, A2K xs ys, List.length_cons]
  constructor
  ·rintro ⟨h1, h2, h3⟩
   refine ⟨by omega, fun i hi hi' => ?_⟩
   cases i with
   | zero => exact h1
   | succ i => exact h3 i (by simpa using hi) (by simpa using hi')
  ·rintro ⟨h1, h2⟩
   exact ⟨h2 0 zP0 zP0, by omega, fun i hi hi' => h2 (i + 1) (by simpa using hi) (by simpa using hi')⟩
def A0R (a b : Ty) : Bool := H7 a && H7 b && K8 a b
def Z0 (s : ByteArray) : Bool := decide (s.size = 1 ∧ 97 ≤ (s.data.getD 0 0).toNat ∧ (s.data.getD 0 0).toNat ≤ 122)
def A0C (n : Int) : Bool := Q5 n 1 99 || Q5 n (-99) (-1)

theorem A5y {s : ByteArray} {j : Int} (h : j.toNat < s.size) : s[j.toNat]? = some (s.data.getD j.toNat 0) := by
 rw [getElem?_pos s j.toNat h]
 show some (s.data[j.toNat]'h) = _
 rw [Array.getD_eq_getD_getElem?, getElem?_pos s.data j.toNat h]
 rfl
theorem B4M {q : Nat → Bool} {n : Nat} : A0v q n < 0 ↔ ∀ j, j < n → q j = false := by
 constructor
 ·intro h j hj
  unfold A0v at h
  split at h
  ·omega
  ·rename_i hf
   have := List.find?_eq_none.1 hf j (List.mem_range.2 hj)
   simpa using this
 ·intro h; rw [A5w h]; omega
theorem A9j : 0 ≤ A0v q n ↔ ∃ j, j < n ∧ q j = true := by
 have h := @B4M q n
 constructor
 ·intro h0
  apply Classical.byContradiction
  intro hn
  have : A0v q n < 0 := h.2 fun j hj => by cases hq : q j with | false => rfl | true => exact absurd ⟨j, hj, hq⟩ hn
  omega
 ·rintro ⟨j, hj, hq⟩
  apply Classical.byContradiction
  intro hn
  rw [h.1 zO0 j hj] at hq
  exact absurd hq zP0
theorem A9k {α : Type} (f : α → Bool) (ks : List α) (a : α) : decide (0 ≤ A0v (fun i => !f (ks.getD i a)) ks.length) = !ks.all f := by
 cases h : ks.all f with
 | true =>
  rw [List.all_eq_true] at h
  apply decide_eq_false
  rw [A9j]
  rintro ⟨j, hj, hq⟩
  rw [List.getD_eq_getElem?_getD, List.getElem?_eq_getElem hj, Option.getD_some, h _ (List.getElem_mem hj)] at hq
  exact absurd hq zP0
 | false =>
  apply decide_eq_true
  rw [A9j]
  apply Classical.byContradiction
  intro hn
  have : ks.all f = true := by
   rw [List.all_eq_true]
   intro x hx
   obtain ⟨j, hj, rfl⟩ := List.getElem_of_mem hx
   cases hf : f ks[j] with
   | true => rfl
   | false => exact absurd ⟨j, hj, by rw [List.getD_eq_getElem?_getD, List.getElem?_eq_getElem hj, Option.getD_some, hf]; rfl⟩ hn
  rw [h] at this
  exact absurd this zP0
theorem A4v : ∀ (ks : List Ty) (d : Int), W9 ks d = ks.all (Q9 · d)
 | [], d => rfl
 | t :: ts, d => by simp [W9, A4v ts d]
theorem E7.inv : ∀ {ts : List Ty} {es : List (List Value)}, E7 G ts es → ∀ {i : Nat} {e : List Value}, es[i]? = some e → ∀ a, ts.getD i a ∈ ts ∧ C6 G (ts.getD i a) e
 | [], es, h, i, e, he, a => by
  have := h.len
  simp only [List.length_nil, List.length_eq_zero_iff] at this
  subst this; simp at he
 | t :: ts, es, h, i, e, he, a => by
  have hi : i < es.length := by
   apply Classical.byContradiction; intro hn; rw [List.getElem?_eq_none zO0] at he; simp at he
  have hl := h.len
  obtain ⟨e', he', hr⟩ := h.get (i := i) (t := (t :: ts)[i]'zO0) (by rw [List.getElem?_eq_getElem])
  rw [he] at he'
  obtain rfl := Option.some.inj he'
  rw [List.getD_eq_getElem?_getD, List.getElem?_eq_getElem zO0, Option.getD_some]
  exact ⟨List.getElem_mem _, hr⟩
theorem H4.inv : ∀ {ts : List Tm} {es : List (List Value)}, H4 G ts es → ∀ {i : Nat} {e : List Value}, es[i]? = some e → ∀ a, ts.getD i a ∈ ts ∧ B7 G (ts.getD i a) e
 | [], es, h, i, e, he, a => by
  have := h.len
  simp only [List.length_nil, List.length_eq_zero_iff] at this
  subst this; simp at he
 | t :: ts, es, h, i, e, he, a => by
  have hi : i < es.length := by
   apply Classical.byContradiction; intro hn; rw [List.getElem?_eq_none zO0] at he; simp at he
  have hl := h.len
  obtain ⟨e', he', hr⟩ := h.get (i := i) (t := (t :: ts)[i]'zO0) (by rw [List.getElem?_eq_getElem])
  rw [he] at he'
  obtain rfl := Option.some.inj he'
  rw [List.getD_eq_getElem?_getD, List.getElem?_eq_getElem zO0, Option.getD_some]
  exact ⟨List.getElem_mem _, hr⟩
def C5 : Ty := .mk 0 []
theorem B4N {p : Prop} [Decidable p] {x y : Bool} : ((if p then x else y) = true) ↔ ((p → x = true) ∧ (¬p → y = true)) := by by_cases h : p <;> simp [h]
theorem B4O {k : Int} (h : 1 ≤ k ∧ k ≤ 14) : ([Value.int .i64 0, .int .i64 0, .int .i64 0, .int .i64 0, .int .i64 1, .int .i64 2, .int .i64 2, .int .i64 2, .int .i64 3, .int .i64 2, .int .i64 1, .int .i64 1, .int .i64 1, .int .i64 1])[(k - 1).toNat]? = some (.int .i64 (E4 k)) := by
 have : k = 1 ∨ k = 2 ∨ k = 3 ∨ k = 4 ∨ k = 5 ∨ k = 6 ∨ k = 7 ∨ k = 8 ∨ k = 9 ∨ k = 10 ∨ k = 11 ∨ k = 12 ∨ k = 13 ∨ k = 14 := by omega
 rcases this with rfl | rfl | rfl | rfl | rfl | rfl | rfl | rfl | rfl | rfl | rfl | rfl | rfl | rfl <;> rfl
theorem A5z {k : Int} (h : ¬(1 ≤ k ∧ k ≤ 14)) : E4 k = -1 := by
 unfold E4; repeat (split; omega)
 rfl
variable {v : Value} {o : Nat}
theorem B4P (h : cs[o]? = some v) : ∀ j u, [v][j]? = some u → cs[o + j]? = some u := by
 intro j u hj
 cases j with
 | zero => simpa using hj ▸ h
 | succ j => simp at hj
def X0 (k : Int) (nm : ByteArray) (num : Int) (ty fr : Ty) (lb : Int) (n : Nat) : Bool :=
 decide (E4 k = n) && (if k = 1 ∨ k = 5 then Z0 nm else decide (nm = ⟨#[]⟩)) && (if k = 2 then Q5 num 0 999 else Q5 num 0 0) &&
 (if k = 5 ∨ k = 13 ∨ k = 14 then H7 ty else Y4 ty) && (if k = 14 then A0R fr ty && A0C lb else Y4 fr && decide (lb = 0))
theorem W0 {k : Int} {nm : ByteArray} {num : Int} {ty fr : Ty} {lb : Int} {n : Nat} : X0 k nm num ty fr lb n = true ↔
  E4 k = n ∧ (k = 1 ∨ k = 5 → Z0 nm = true) ∧ (¬(k = 1 ∨ k = 5) → nm = ⟨#[]⟩) ∧ (k = 2 → Q5 num 0 999 = true) ∧ (k ≠ 2 → Q5 num 0 0 = true) ∧
  (k = 5 ∨ k = 13 ∨ k = 14 → H7 ty = true) ∧ (¬(k = 5 ∨ k = 13 ∨ k = 14) → Y4 ty = true) ∧ (k = 14 → A0R fr ty = true ∧ A0C lb = true) ∧ (k ≠ 14 → Y4 fr = true ∧ lb = 0) := by
 simp only [X0, Bool.and_eq_true, B4N, decide_eq_true_eq, and_assoc, ne_eq]
mutual
def T7 (M D N : Int) : Tm → Int → Int → Bool × Int
 | .mk k nm num ty fr lb ks, deep, c => if c + 1 > M ∨ deep > D ∨ k = N ∨ X0 k nm num ty fr lb ks.length = false then (false, c + 1) else V3 M D N ks (deep + 1) (c + 1)
def V3 (M D N : Int) : List Tm → Int → Int → Bool × Int
 | [], _, c => (true, c)
 | t :: ts, deep, c => if (T7 M D N t deep c).1 = true then V3 M D N ts deep (T7 M D N t deep c).2 else (false, (T7 M D N t deep c).2)
end
mutual
theorem A9l (M D N : Int) : ∀ (t : Tm) (deep c : Int), 0 ≤ c → c ≤ M → c < (T7 M D N t deep c).2 ∧ (T7 M D N t deep c).2 ≤ M + 1 ∧ ((T7 M D N t deep c).1 = true → (T7 M D N t deep c).2 ≤ M)
 | .mk k nm num ty fr lb ks, deep, c, h0, h1 => by
  rw [T7]
  split
  ·simp; omega
  ·rename_i h
   have := A9m M D N ks (deep + 1) (c + 1) zO0 zO0
   exact ⟨by omega, this.2⟩
theorem A9m (M D N : Int) : ∀ (ts : List Tm) (deep c : Int), 0 ≤ c → c ≤ M → c ≤ (V3 M D N ts deep c).2 ∧ (V3 M D N ts deep c).2 ≤ M + 1 ∧ ((V3 M D N ts deep c).1 = true → (V3 M D N ts deep c).2 ≤ M)
 | [], deep, c, h0, h1 => by rw [V3]; simp; omega
 | t :: ts, deep, c, h0, h1 => by
  have := A9l M D N t deep c h0 h1
  rw [V3]
  split
  ·rename_i h
   have h2 := A9m M D N ts deep (T7 M D N t deep c).2 zO0 (this.2.2 h)
   exact ⟨by omega, h2.2⟩
  ·simp; omega
end
def P7 (t : Tm) : Bool := (T7 200 40 13 t 1 0).1
def S6 (t : Tm) : Bool := (T7 30 12 14 t 1 0).1
theorem D7.kidTm {c : Nat} {ks : List Tm} (h : D7 G p n c 9 es) (hk : H4 G ks es) (hi : i < n) (hn : i < ks.length) :
  ∃ b o e, p = some ⟨b, o, none⟩ ∧ e.length = 9 ∧ (∀ hp, At hp G b (o + i * 9) e) ∧ B7 G ks[i] e ∧ G b ≠ none := by
 obtain ⟨e, b, o, he, hp, hl, _, hat, hg⟩ := h.get hi
 have := (hk.inv he (ks[i])).2
 rw [List.getD_eq_getElem?_getD, List.getElem?_eq_getElem hn, Option.getD_some] at this
 exact ⟨b, o, e, hp, hl, hat, this, hg⟩
variable {deep M D N : Int}
theorem A5A {k : Int} {nm : ByteArray} {num : Int} {ty fr : Ty} {lb : Int} {ks : List Tm} {c : Int} (h : c + 1 > M ∨ deep > D ∨ k = N ∨ X0 k nm num ty fr lb ks.length = false) :
  T7 M D N (.mk k nm num ty fr lb ks) deep c = (false, c + 1) := by rw [T7, if_pos h]
theorem B4Q {k : Int} {nm : ByteArray} {num : Int} {ty fr : Ty} {lb : Int} {ks : List Tm} {c : Int} (h1 : ¬(c + 1 > M ∨ deep > D ∨ k = N)) (h2 : X0 k nm num ty fr lb ks.length = true) :
  T7 M D N (.mk k nm num ty fr lb ks) deep c = V3 M D N ks (deep + 1) (c + 1) := by
 rw [T7, if_neg]
 rw [h2]
 intro h
 apply h1
 rcases h with h | h | h | h
 ·exact .inl h
 ·exact .inr (.inl h)
 ·exact .inr (.inr h)
 ·cases h
theorem B4R {ks : List Tm} {c : Int} (hi : i < ks.length) (h : (T7 M D N ks[i] deep c).1 = true) : V3 M D N (ks.drop i) deep c = V3 M D N (ks.drop (i + 1)) deep (T7 M D N ks[i] deep c).2 := by
 rw [List.drop_eq_getElem_cons hi, V3, if_pos h]
theorem B4S {ks : List Tm} {c : Int} (hi : i < ks.length) (h : (T7 M D N ks[i] deep c).1 = false) : V3 M D N (ks.drop i) deep c = (false, (T7 M D N ks[i] deep c).2) := by
 rw [List.drop_eq_getElem_cons hi, V3, if_neg (by rw [h]; simp)]
theorem B4T {ks : List Tm} {c : Int} (hi : i = ks.length) : V3 M D N (ks.drop i) deep c = (true, c) := by
 rw [hi, List.drop_length, V3]
section blk
variable {P : Program} {Γ : M5} {env : M8} {hp : List A9} {G : IM} {K : Po} {ops : Array Oper} {rest : List Oper}
end blk

theorem A68 : ∀ {A B C V : List Value} {o : Nat}, A.length = o → B.length = V.length → T4 (A ++ (B ++ C)) o V = some (A ++ (V ++ C))
 | [], B, C, V, o, h, hv => by
  simp at h; subst h
  simp only [List.nil_append]
  induction B generalizing V with
  | nil => cases V with
   | nil => cases C <;> rfl
   | cons v V => simp at hv
  | cons b B ih => cases V with
   | nil => simp at hv
   | cons v V =>
    simp only [List.cons_append, T4, ih (V := V) (by simpa using hv)]
 | a :: A, B, C, V, o, h, hv => by
  simp at h; subst h
  simp only [List.cons_append, T4, A68 (A := A) (B := B) (C := C) rfl hv]
theorem A0S {sz : Nat} : ∀ {es : List (List Value)}, (∀ e ∈ es, e.length = sz) → es.flatten.length = es.length * sz
 | [], _ => by simp
 | e :: es, h => by
  rw [List.flatten_cons, List.length_append, h e List.mem_cons_self, A0S (es := es) fun x hx => h x (List.mem_cons_of_mem _ hx), List.length_cons, Nat.succ_mul]; omega
def A9n (G : IM) (ks : List Ty) (p : Option Addr) (c : Nat) (F : List Nat) : Prop := ∃ es Fs, D7 G p ks.length c 2 es ∧ O5 G ks es Fs ∧ F = K0 p ++ Fs ∧ (∀ b ∈ K0 p, G b ≠ none)
theorem R5.open {t : Ty} (h : R5 G t cells F) : ∃ p c, cells = [.int .i64 t.k, .slice p t.ks.length c] ∧ F8 t.k ∧ A9n G t.ks p c F := by
 cases t
 simp only [R5] at h
 obtain ⟨p, c, es, Fs, h0, hk, h1, h2, h3, h4⟩ := h
 exact ⟨p, c, h0, hk, es, Fs, h1, h2, h3, h4⟩
mutual
def Q6 (G : IM) : Tm → List Value → List Nat → Prop
 | .mk k nm num ty fr lb ks, cells, F => ∃ tc fc p c es Ft Ff Fs, cells = [.int .i64 k, .string nm, .int .i64 num] ++ tc ++ fc ++ [.int .i64 lb, .slice p ks.length c] ∧ F8 k ∧ F8 num ∧ F8 lb ∧ R5 G ty tc Ft ∧ R5 G fr fc Ff ∧
   D7 G p ks.length c 9 es ∧ O6 G ks es Fs ∧ F = Ft ++ (Ff ++ (K0 p ++ Fs)) ∧ (∀ b ∈ K0 p, G b ≠ none)
def O6 (G : IM) : List Tm → List (List Value) → List Nat → Prop
 | [], es, F => es = [] ∧ F = []
 | t :: ts, es, F => ∃ a r Fa Fr, es = a :: r ∧ Q6 G t a Fa ∧ O6 G ts r Fr ∧ F = Fa ++ Fr
end
def A3b (G : IM) (ks : List Tm) (p : Option Addr) (c : Nat) (F : List Nat) : Prop := ∃ es Fs, D7 G p ks.length c 9 es ∧ O6 G ks es Fs ∧ F = K0 p ++ Fs ∧ (∀ b ∈ K0 p, G b ≠ none)
mutual
theorem Q6.R {G : IM} : ∀ {t : Tm} {cells : List Value} {F : List Nat}, Q6 G t cells F → B7 G t cells
 | .mk k nm num ty fr lb ks, cells, F, h => by
  simp only [Q6] at h
  obtain ⟨tc, fc, p, c, es, Ft, Ff, Fs, h1, h2, h3, h4, h5, h6, h7, h8, _⟩ := h
  simp only [B7]
  exact ⟨tc, fc, p, c, es, h1, h2, h3, h4, h5.R, h6.R, h7, O6.R h8⟩
theorem O6.R {G : IM} : ∀ {ts : List Tm} {es : List (List Value)} {F : List Nat}, O6 G ts es F → H4 G ts es
 | [], es, F, h => by simp only [O6] at h; simp only [H4]; exact h.1
 | t :: ts, es, F, h => by
  simp only [O6] at h
  obtain ⟨a, r, Fa, Fr, h1, h2, h3, _⟩ := h
  simp only [H4]
  exact ⟨a, r, h1, Q6.R h2, O6.R h3⟩
end
theorem A3J (hg : C3 G G') (h : ∀ b ∈ F, G b ≠ none) : ∀ b ∈ F, G' b ≠ none := fun b hb => by
 cases hgb : G b with
 | none => exact absurd hgb (h b hb)
 | some l => rw [hg b l hgb]; simp
mutual
theorem Q6.mono {G G' : IM} (hg : C3 G G') : ∀ {t : Tm} {cells : List Value} {F : List Nat}, Q6 G t cells F → Q6 G' t cells F
 | .mk k nm num ty fr lb ks, cells, F, h => by
  simp only [Q6] at h ⊢
  obtain ⟨tc, fc, p, c, es, Ft, Ff, Fs, h1, h2, h3, h4, h5, h6, h7, h8, h9, h10⟩ := h
  exact ⟨tc, fc, p, c, es, Ft, Ff, Fs, h1, h2, h3, h4, h5.mono hg, h6.mono hg, h7.mono hg, O6.mono hg h8, h9, A3J hg h10⟩
theorem O6.mono {G G' : IM} (hg : C3 G G') : ∀ {ts : List Tm} {es : List (List Value)} {F : List Nat}, O6 G ts es F → O6 G' ts es F
 | [], es, F, h => by simpa only [O6] using h
 | t :: ts, es, F, h => by
  simp only [O6] at h ⊢
  obtain ⟨a, r, Fa, Fr, h1, h2, h3, h4⟩ := h
  exact ⟨a, r, Fa, Fr, h1, Q6.mono hg h2, O6.mono hg h3, h4⟩
end
mutual
theorem Q6.inG {G : IM} : ∀ {t : Tm} {cells : List Value} {F : List Nat}, Q6 G t cells F → ∀ b ∈ F, G b ≠ none
 | .mk k nm num ty fr lb ks, cells, F, h => by
  simp only [Q6] at h
  obtain ⟨tc, fc, p, c, es, Ft, Ff, Fs, h1, h2, h3, h4, h5, h6, h7, h8, rfl, h10⟩ := h
  intro b hb
  simp only [List.mem_append] at hb
  rcases hb with hb | hb | hb | hb
  ·exact h5.inG b hb
  ·exact h6.inG b hb
  ·exact h10 b hb
  ·exact O6.inG h8 b hb
theorem O6.inG {G : IM} : ∀ {ts : List Tm} {es : List (List Value)} {F : List Nat}, O6 G ts es F → ∀ b ∈ F, G b ≠ none
 | [], es, F, h => by simp only [O6] at h; rw [h.2]; simp
 | t :: ts, es, F, h => by
  simp only [O6] at h
  obtain ⟨a, r, Fa, Fr, h1, h2, h3, rfl⟩ := h
  intro b hb
  rcases List.mem_append.1 hb with hb | hb
  ·exact Q6.inG h2 b hb
  ·exact O6.inG h3 b hb
end
theorem O6.snoc {G : IM} : ∀ {ts : List Tm} {es : List (List Value)} {F : List Nat} {t : Tm} {a : List Value} {Fa : List Nat}, O6 G ts es F → Q6 G t a Fa → O6 G (ts ++ [t]) (es ++ [a]) (F ++ Fa)
 | [], es, F, t, a, Fa, h, h2 => by
  simp only [O6] at h
  obtain ⟨rfl, rfl⟩ := h
  simp only [List.nil_append, O6]
  exact ⟨a, [], Fa, [], rfl, h2, ⟨rfl, rfl⟩, by simp⟩
 | t' :: ts, es, F, t, a, Fa, h, h2 => by
  simp only [O6] at h
  obtain ⟨a', r, Fa', Fr, rfl, h3, h4, rfl⟩ := h
  simp only [List.cons_append, O6]
  exact ⟨a', r ++ [a], Fa', Fr ++ Fa, rfl, h3, O6.snoc h4 h2, by simp⟩
theorem A3c (h : ∀ b ∈ F, E8 Gi G b ≠ none) (h' : ∀ b ∈ F', E8 G1 Gi b ≠ none) : ∀ x ∈ F, ∀ y ∈ F', x ≠ y := by
 rintro x hx y hy rfl
 have h1 := h x hx
 have h2 := E8.out (h' x hy)
 apply h1
 cases hd : E8 Gi G x with
 | none => rfl
 | some l => rw [E8.le _ _ x l hd] at h2; cases h2
theorem O6.step {ks : List Tm} {a : List Value} (h : O6 (E8 Gi G) (ks.take i) es F) (hn : F.Nodup) (hle : C3 G Gi) (hle1 : C3 Gi G1) (hi : i < ks.length)
  (ha : Q6 (E8 G1 Gi) ks[i] a F') (hn' : F'.Nodup) : O6 (E8 G1 G) (ks.take (i + 1)) (es ++ [a]) (F ++ F') ∧ (F ++ F').Nodup := by
 constructor
 ·rw [List.take_succ_eq_append_getElem hi]
  exact O6.snoc (h.mono (E8.mono hle1)) (ha.mono (E8.anti hle))
 ·rw [List.nodup_append]
  exact ⟨hn, hn', A3c h.inG ha.inG⟩
theorem B4U (p : Option Addr) : (K0 p).Nodup := by cases p <;> simp [K0]
theorem A3b.fin {ks : List Tm} {c : Nat} (h : O6 (E8 Gi G) ks es F) (hn : F.Nodup) (hle : C3 G Gi) (hle2 : C3 Gi G2)
  (hsl : Sl G2 p ks.length c 9 es.flatten) (hnn : ∀ b ∈ K0 p, Gi b = none ∧ G2 b ≠ none) :
  ∃ F', A3b (E8 G2 G) ks p c F' ∧ F'.Nodup := by
 have hR := h.R
 have hin : ∀ b ∈ K0 p, E8 G2 G b ≠ none := by
  intro b hb
  have h0 := (hnn b hb).1
  cases hg : G b with
  | none => simpa [E8, hg] using (hnn b hb).2
  | some l => rw [hle b l hg] at h0; cases h0
 refine ⟨K0 p ++ F, ⟨es, F, D7.of (hsl.dif (fun b hb => (hnn b hb).1) hle) hR.len hR.all ?_, h.mono (E8.mono hle2), rfl, hin⟩, ?_⟩
 ·intro e he
  obtain ⟨i, hi⟩ := List.getElem?_of_mem he
  have hlt : i < ks.length := by have := (List.getElem?_eq_some_iff.1 hi).1; rw [hR.len] at this; exact this
  obtain ⟨e', he', hr⟩ := hR.get (i := i) (t := ks[i]) (by simp [hlt])
  rw [hi] at he'; cases he'; exact hr.one
 ·rw [List.nodup_append]
  refine ⟨B4U p, hn, ?_⟩
  rintro x hx y hy rfl
  have h1 := h.inG x hy
  have h2 := (hnn x hx).1
  apply h1
  cases hd : E8 Gi G x with
  | none => rfl
  | some l => rw [E8.le _ _ x l hd] at h2; cases h2
theorem Q6.mk3 {G3 : IM} {k : Int} {nm : ByteArray} {num : Int} {ty fr : Ty} {lb : Int} {ks : List Tm} {tc fc : List Value} {c : Nat} {F1 F2 F3 : List Nat} (hk : F8 k) (hnum : F8 num) (hlb : F8 lb)
  (hl1 : C3 G G1) (hl2 : C3 G1 G2) (hl3 : C3 G2 G3) (h1 : R5 (E8 G1 G) ty tc F1) (n1 : F1.Nodup) (h2 : R5 (E8 G2 G1) fr fc F2) (n2 : F2.Nodup) (h3 : A3b (E8 G3 G2) ks p c F3) (n3 : F3.Nodup) :
  ∃ F, Q6 (E8 G3 G) (.mk k nm num ty fr lb ks) ([.int .i64 k, .string nm, .int .i64 num] ++ tc ++ fc ++ [.int .i64 lb, .slice p ks.length c]) F ∧ F.Nodup := by
 obtain ⟨es, Fs, e1, e2, rfl, e4⟩ := h3
 have i3 : ∀ b ∈ K0 p ++ Fs, E8 G3 G2 b ≠ none := by
  intro b hb
  rcases List.mem_append.1 hb with hb | hb
  ·exact e4 b hb
  ·exact e2.inG b hb
 have a2 : C3 (E8 G2 G1) (E8 G3 G) := fun b l h => E8.mono hl3 b l (E8.anti hl1 b l h)
 have a3 : C3 (E8 G3 G2) (E8 G3 G) := E8.anti (hl1.trans hl2)
 refine ⟨F1 ++ (F2 ++ (K0 p ++ Fs)), ?_, ?_⟩
 ·simp only [Q6]
  exact ⟨tc, fc, p, c, es, F1, F2, Fs, rfl, hk, hnum, hlb, h1.mono (E8.mono (hl2.trans hl3)), h2.mono a2, e1.mono a3, e2.mono a3, rfl, A3J a3 e4⟩
 ·rw [List.nodup_append, List.nodup_append]
  refine ⟨n1, ⟨n2, n3, A3c h2.inG i3⟩, ?_⟩
  rintro x hx y hy rfl
  rcases List.mem_append.1 hy with hy | hy
  ·exact A3c h1.inG h2.inG x hx x hy rfl
  ·have h1' : ∀ b ∈ F1, E8 G2 G b ≠ none := A3J (E8.mono hl2) h1.inG
   exact A3c h1' i3 x hx x hy rfl
section clawss
variable {P : Program} {Γ : M5} {env : M8} {hp : List A9} {G : IM} {ty : TypeId}
variable {x : Operand} {is id : L8} {s d : TypeId}
theorem A9o [hS : I4 P s is] [hD : I4 P d id] (hd : id.desc = .int .u8) {k : IntKind} (hs : is.desc = .int k) {n : Int} (hx : evo env x = some (.int k n)) (h0 : 0 ≤ n) (h1 : n ≤ 255) :
  J6 P Γ ⟨env, hp, G⟩ (.convert s d x) ty (.int .u8 n) := by
 refine ⟨fun a _ hst _ _ _ _ w => ?_⟩
 have hu := hD.und
 rw [hd] at hu
 have hus := hS.und
 rw [hs] at hus
 have hw : IntKind.u8.wrap n = n := IntWalk.u8_in n ⟨h0, h1⟩
 simp [execOp, convert, run_underlying hus, run_underlying hu, (hst.evo hx : a.eval x = _), Conv.intToInt, hw]
theorem A9p {e : TypeId} {ie : L8} [hS : I4 P s is] [hD : I4 P d id] [hE : I4 P e ie] (hs : is.desc = .slice e) (he : ie.desc = .int .u8) (hd : id.desc = .string) {b c : Nat} {xs : List Int}
  (hx : evo env x = some (.slice (some ⟨b, o, none⟩) n c)) (hl : xs.length = n) (hv : At hp G b o (xs.map (Value.int .u8))) : A18 P Γ ⟨env, hp, G⟩ (.convert s d x) ty b (.string (strOfNums xs)) := by
 refine ⟨fun a w hst => ?_⟩
 obtain ⟨full, e', f, hb, hf⟩ := hv.read hst
 refine ⟨A1f hb, fun w' hw' d' pos af gd => ?_⟩
 have hus := hS.und
 rw [hs] at hus
 have hue := hE.und
 rw [he] at hue
 have hud := hD.und
 rw [hd] at hud
 have hc := run_convert_bytes_arg (P := P) w' s e hus hue b o n c xs hl (fun i hi => by
  have := hf i (.int .u8 (xs.getD i 0)) (by simp [List.getD, List.getElem?_eq_getElem (show i < xs.length by omega)])
  simp [World.cell?, hw', hb, this]) d hud
 have hx' : a.eval x = _ := hst.evo hx
 simp only [execOp, hx', Sem.run_bind]
 rw [hc]
 rfl
variable {t t' : TypeId} {y : Operand}
theorem A69 {m : Nat} (hx : evo env x = some (.int .i64 (m : Int))) (hy : evo env y = some (.int .i64 (n : Int))) (hn : 0 < n) :
  J6 P Γ ⟨env, hp, G⟩ (.binOp .rem t x y t') ty (.int .i64 ((m % n : Nat) : Int)) := by
 have h := A3C (P := P) (Γ := Γ) (hp := hp) (G := G) (ty := ty) (t := t) (t' := t') hx hy zO0
 rwa [show ((m : Int).tmod n) = ((m % n : Nat) : Int) from rfl] at h
theorem A7a {m : Nat} (hx : evo env x = some (.int .i64 (m : Int))) (hy : evo env y = some (.int .i64 (n : Int))) (hn : 0 < n) (hm : m ≤ 9223372036854775807) :
  J6 P Γ ⟨env, hp, G⟩ (.binOp .quo t x y t') ty (.int .i64 ((m / n : Nat) : Int)) := by
 have hd : m / n ≤ m := Nat.div_le_self _ _
 have e : ((m : Int).tdiv n) = ((m / n : Nat) : Int) := rfl
 have h := B38 (P := P) (Γ := Γ) (hp := hp) (G := G) (ty := ty) (t := t) (t' := t') hx hy zO0 (by rw [e]; generalize m / n = q at *; omega) (by rw [e]; generalize m / n = q at *; omega)
 rwa [e] at h
end clawss
def dgi (k : Nat) : Int := 48 + ((k % 10 : Nat) : Int)
def A9q : Nat → Nat → ByteArray → ByteArray
 | 0, _, out => out
 | f + 1, k, out => if 0 < k then A9q f (k / 10) (strOfNums [dgi k] ++ out) else out
def B4V (k : Nat) : ByteArray := ⟨#[109]⟩ ++ A9q 20 k ⟨⟨[]⟩⟩
def ints (l : List Int) : List Value := l.map (Value.int .i64 ·)
mutual
def H9 : Tm → Nat
 | .mk _ _ _ _ _ _ ks => I3 ks + 1
def I3 : List Tm → Nat
 | [] => 0
 | t :: ts => H9 t + I3 ts
end
mutual
def A9r : Tm → List Int → List (List Int)
 | .mk _ _ _ _ _ _ ks, path => path :: A9s ks 0 path
def A9s : List Tm → Nat → List Int → List (List Int)
 | [], _, _ => []
 | t :: ts, i, path => A9r t (path ++ [(i : Int)]) ++ A9s ts (i + 1) path
end
theorem A9t : ∀ {ks : List Tm} {t : Tm}, t ∈ ks → H9 t ≤ I3 ks
 | [], t, h => by simp at h
 | t' :: ts, t, h => by
  rw [I3]
  rcases List.mem_cons.1 h with rfl | h
  ·omega
  ·have := A9t h; omega
theorem A5B : ∀ (a b : List Tm), I3 (a ++ b) = I3 a + I3 b
 | [], b => by simp [I3]
 | t :: a, b => by rw [List.cons_append, I3, I3, A5B a b]; omega
theorem A3K {ks : List Tm} (hi : i < ks.length) : I3 (ks.take i) + H9 ks[i] ≤ I3 ks := by
 have h := A5B (ks.take (i + 1)) (ks.drop (i + 1))
 rw [List.take_append_drop, List.take_succ_eq_append_getElem hi, A5B] at h
 simp only [I3] at h
 omega
theorem A3L {ks : List Tm} (hi : i < ks.length) : I3 (ks.take (i + 1)) = I3 (ks.take i) + H9 ks[i] := by
 rw [List.take_succ_eq_append_getElem hi, A5B]
 simp only [I3]; omega
theorem B4W (t : Tm) : 0 < H9 t := by cases t; rw [H9]; omega
theorem A7b : ∀ (ks : List Tm), ks.length ≤ I3 ks
 | [] => by simp
 | .mk _ _ _ _ _ _ _ :: ts => by have := A7b ts; simp only [List.length_cons, I3, H9]; omega

theorem Sl.nn {c sz : Nat} (h : Sl G p n c sz cs) : p = none → n = 0 := by
 rintro rfl
 rcases h.2.2.2 with h | ⟨b, o, full, h, _⟩
 ·exact h
 ·cases h
def SPs (G : IM) : List (List Int) → List Value → List Nat → Prop
 | [], es, F => es = [] ∧ F = []
 | l :: ls, es, F => ∃ p c r Fr, es = .slice p l.length c :: r ∧ F = K0 p ++ Fr ∧ Sl G p l.length c 1 (ints l) ∧ (∀ b ∈ K0 p, G b ≠ none) ∧ (p = none → l.length = 0) ∧ SPs G ls r Fr
def RPs (G : IM) (ls : List (List Int)) (p : Option Addr) (c : Nat) : Prop := ∃ es F, Sl G p ls.length c 1 es ∧ (∀ b ∈ K0 p, G b ≠ none) ∧ SPs G ls es F ∧ (K0 p ++ F).Nodup
mutual
theorem A9u (M D N : Int) : ∀ (t : Tm) (deep c : Int), (T7 M D N t deep c).1 = true → (T7 M D N t deep c).2 = c + H9 t
 | .mk k nm num ty fr lb ks, deep, c, h => by
  rw [T7] at h ⊢
  split at h
  ·cases h
  ·rename_i hc
   rw [if_neg hc, A9v M D N ks (deep + 1) (c + 1) h, H9]
   omega
theorem A9v (M D N : Int) : ∀ (ts : List Tm) (deep c : Int), (V3 M D N ts deep c).1 = true → (V3 M D N ts deep c).2 = c + I3 ts
 | [], deep, c, h => by rw [V3, I3]; simp
 | t :: ts, deep, c, h => by
  rw [V3] at h ⊢
  split at h
  ·rename_i h1
   rw [if_pos h1, A9v M D N ts deep _ h, A9u M D N t deep c h1, I3]
   omega
  ·cases h
end
def B4X (t : Tm) : List (List Int) := if P7 t = true then A9r t [] else []
section slaws
variable {P : Program} {Γ : M5} {env : M8} {hp : List A9} {G : IM} {ty : TypeId}
end slaws
theorem Sl.kid {c : Nat} (h : Sl G p n c 1 cs) (hi : i < n) :
  ∃ b o v, p = some ⟨b, o, none⟩ ∧ cs[i]? = some v ∧ (∀ hp, At hp G b (o + i * 1) [v]) ∧ G b ≠ none := by
 obtain ⟨h1, h2, h3, h4⟩ := h
 obtain ⟨b, o, full, rfl, hg, hv⟩ := h4.resolve_left zO0
 have hlt : i < cs.length := by omega
 refine ⟨b, o, cs[i], rfl, List.getElem?_eq_getElem hlt, fun hp => A4q hg ?_, by rw [hg]; simp⟩
 intro j v hj
 cases j with
 | zero => simp at hj; subst hj; simpa using hv i _ (List.getElem?_eq_getElem hlt)
 | succ j => simp at hj
theorem Sl.le {c sz : Nat} (h : Sl G p n c sz cs) : n ≤ 9223372036854775807 := by
 have h1 := h.2.1; have h2 := h.2.2.1; unfold maxLen at h2; omega


abbrev A1B := List (Nat × List Value)

mutual
def OTy : Ty → List Value → A1B → Prop
 | .mk k ks, cells, bs => ∃ p c, cells = [.int .i64 k, .slice p ks.length c] ∧ F8 k ∧ ks.length ≤ c ∧ c ≤ maxLen ∧ ((ks = [] ∧ bs = []) ∨ ∃ b A C es r, p = some ⟨b, A.length, none⟩ ∧ bs = (b, A ++ (es.flatten ++ C)) :: r ∧ A7c ks es r)
def A7c : List Ty → List (List Value) → A1B → Prop
 | [], es, bs => es = [] ∧ bs = []
 | t :: ts, es, bs => ∃ e e' r1 r2, es = e :: e' ∧ bs = r1 ++ r2 ∧ OTy t e r1 ∧ A7c ts e' r2
end
def A9w (ks : List Ty) (p : Option Addr) (c : Nat) (bs : A1B) : Prop :=
 ks.length ≤ c ∧ c ≤ maxLen ∧ ((ks = [] ∧ bs = []) ∨ ∃ b A C es r, p = some ⟨b, A.length, none⟩ ∧ bs = (b, A ++ (es.flatten ++ C)) :: r ∧ A7c ks es r)
mutual
def OTm : Tm → List Value → A1B → Prop
 | .mk k nm num ty fr lb ks, cells, bs => ∃ tc fc p c bt bf bk, cells = [.int .i64 k, .string nm, .int .i64 num] ++ tc ++ fc ++ [.int .i64 lb, .slice p ks.length c] ∧ F8 k ∧ F8 num ∧ F8 lb ∧ OTy ty tc bt ∧ OTy fr fc bf ∧
   ks.length ≤ c ∧ c ≤ maxLen ∧ ((ks = [] ∧ bk = []) ∨ ∃ b A C es r, p = some ⟨b, A.length, none⟩ ∧ bk = (b, A ++ (es.flatten ++ C)) :: r ∧ A7d ks es r) ∧ bs = bt ++ (bf ++ bk)
def A7d : List Tm → List (List Value) → A1B → Prop
 | [], es, bs => es = [] ∧ bs = []
 | t :: ts, es, bs => ∃ e e' r1 r2, es = e :: e' ∧ bs = r1 ++ r2 ∧ OTm t e r1 ∧ A7d ts e' r2
end
def B4Y (ks : List Tm) (p : Option Addr) (c : Nat) (bs : A1B) : Prop :=
 ks.length ≤ c ∧ c ≤ maxLen ∧ ((ks = [] ∧ bs = []) ∨ ∃ b A C es r, p = some ⟨b, A.length, none⟩ ∧ bs = (b, A ++ (es.flatten ++ C)) :: r ∧ A7d ks es r)
mutual
def A9x : Ty → Int
 | .mk _ ks => 1 + A0D ks
def A0D : List Ty → Int
 | [] => 0
 | t :: ts => A9x t + A0D ts
end
mutual
def B4Z : Ty → Int → Ty
 | .mk _ ks, k => .mk k (A2L ks (k + 1))
def A2L : List Ty → Int → List Ty
 | [], _ => []
 | t :: ts, k => B4Z t k :: A2L ts (k + A9x t)
end
mutual
def A9y : Tm → Int
 | .mk _ _ _ ty fr _ ks => 6 + A0D ty.ks + A0D fr.ks + A9z ks
def A9z : List Tm → Int
 | [] => 0
 | t :: ts => A9y t + A9z ts
end
mutual
def B40 : Tm → Int → Tm
 | .mk _ _ _ ty fr _ ks, k => .mk k (B4V (k + 1).toNat) (k + 1 + 1) (.mk (k + 1 + 1 + 1) (A2L ty.ks (k + 1 + 1 + 1 + 1))) (.mk (k + 1 + 1 + 1 + 1 + A0D ty.ks) (A2L fr.ks (k + 1 + 1 + 1 + 1 + A0D ty.ks + 1))) (k + 1 + 1 + 1 + 1 + A0D ty.ks + 1 + A0D fr.ks) (A5C ks (k + 1 + 1 + 1 + 1 + A0D ty.ks + 1 + A0D fr.ks + 1))
def A5C : List Tm → Int → List Tm
 | [], _ => []
 | t :: ts, k => B40 t k :: A5C ts (k + A9y t)
end
section lend
variable {P : Program} {Γ : M5} {env : M8} {hp : List A9} {G : IM} {K : Po} {ops : Array Oper} {rest : List Oper} {ty : TypeId} {pos : String} {af : Array Edge} {gd : Option (Nat × Bool)}
def C0s (v0 : Value) (G : IM) (Φ : A1B → Prop) : IM → Value → List A9 → Prop := fun G' v outs => G' = G ∧ v = v0 ∧ ∃ bs', outs = A2h bs' ∧ Φ bs'
end lend
def MTm (t : Tm) (k : Int) (cells : List Value) (bs : A1B) : Prop := ∃ pt ct pf cf p c bt bf bk,
 cells = [.int .i64 t.k, .string t.nm, .int .i64 t.num, .int .i64 t.ty.k, .slice pt t.ty.ks.length ct, .int .i64 t.fr.k, .slice pf t.fr.ks.length cf, .int .i64 t.lb, .slice p t.ks.length c] ∧
 A9w (A2L t.ty.ks k) pt ct bt ∧ A9w (A2L t.fr.ks (k + A0D t.ty.ks)) pf cf bf ∧ B4Y (A5C t.ks (k + A0D t.ty.ks + A0D t.fr.ks)) p c bk ∧ bs = bt ++ (bf ++ bk)
def A9A : Nat → Int → List Int
 | 0, _ => []
 | n + 1, k => k :: A9A n (k + 1)
def OIs (l : List Int) (p : Option Addr) (c : Nat) (bs : A1B) : Prop :=
 l.length ≤ c ∧ c ≤ maxLen ∧ ((l = [] ∧ bs = []) ∨ ∃ b A C, p = some ⟨b, A.length, none⟩ ∧ bs = [(b, A ++ (ints l ++ C))])
def OPs : List (List Int) → List Value → A1B → Prop
 | [], es, bs => es = [] ∧ bs = []
 | l :: ls, es, bs => ∃ p c e' r1 r2, es = .slice p l.length c :: e' ∧ bs = r1 ++ r2 ∧ OIs l p c r1 ∧ OPs ls e' r2
def B41 : List (List Int) → Int
 | [] => 0
 | l :: ls => l.length + B41 ls
def B42 : List (List Int) → Int → List (List Int)
 | [], _ => []
 | l :: ls, k => A9A l.length k :: B42 ls (k + l.length)
section lend0
variable {P : Program} {Γ : M5} {env : M8} {G : IM} {K : Po} {ops : Array Oper} {rest : List Oper} {ty : TypeId} {pos : String} {af : Array Edge} {gd : Option (Nat × Bool)}
end lend0
def QPs (G : IM) : List (List Int) → List Value → Prop
 | [], es => es = []
 | l :: ls, es => ∃ p c r, es = .slice p l.length c :: r ∧ Sl G p l.length c 1 (ints l) ∧ QPs G ls r
mutual
def L3 : Ty → Int
 | .mk _ ks => ks.length + P8 ks
def P8 : List Ty → Int
 | [] => 0
 | t :: ts => L3 t + P8 ts
end
mutual
def A0I : Tm → Int
 | .mk _ nm _ ty fr _ ks => nm.size + L3 ty + L3 fr + (ks.length + Z8 ks)
def Z8 : List Tm → Int
 | [] => 0
 | t :: ts => A0I t + Z8 ts
end
mutual
theorem A1C : ∀ t : Ty, 0 ≤ L3 t
 | .mk _ ks => by have := A2M ks; rw [L3]; omega
theorem A2M : ∀ ts : List Ty, 0 ≤ P8 ts
 | [] => by rw [P8]; omega
 | t :: ts => by have := A1C t; have := A2M ts; rw [P8]; omega
end
mutual
theorem A9B : ∀ t : Tm, 0 ≤ A0I t
 | .mk _ _ _ ty fr _ ks => by have := A5D ks; have := A1C ty; have := A1C fr; rw [A0I]; omega
theorem A5D : ∀ ts : List Tm, 0 ≤ Z8 ts
 | [] => by rw [Z8]; omega
 | t :: ts => by have := A9B t; have := A5D ts; rw [Z8]; omega
end
theorem A7e : ∀ a b : List Ty, P8 (a ++ b) = P8 a + P8 b
 | [], b => by simp [P8]
 | t :: a, b => by rw [List.cons_append, P8, P8, A7e a b]; omega
theorem B43 {ks : List Ty} (hi : i < ks.length) : P8 (ks.take (i + 1)) = P8 (ks.take i) + L3 ks[i] := by
 rw [List.take_succ_eq_append_getElem hi, A7e, P8, P8]; omega
theorem A9C (ks : List Ty) (i : Nat) : P8 (ks.take i) ≤ P8 ks := by
 have h := A7e (ks.take i) (ks.drop i)
 rw [List.take_append_drop] at h
 have := A2M (ks.drop i); omega
mutual
def Tm.nok : Tm → Prop
 | .mk _ nm _ _ _ _ ks => nm.size ≤ 9223372036854775807 ∧ Tm.nokL ks
def Tm.nokL : List Tm → Prop
 | [] => True
 | t :: ts => t.nok ∧ Tm.nokL ts
end
def C0t (left s : Int) : Int := if s ≤ left then left - s else -1
end Gw
end Go.Proofs.YtmceanphadildaaGreatDoor
namespace Go.Proofs.YtmceanphadildaaGreatDoor
open Go Go.RowKit Go.ChangeShapes Go.WideShapes Go.ChangeAt Tryz Go.Proofs.Tryz
namespace Gw
def GW (w : World) : IM := fun b => match w.heap[b]? with
 | some (.cells c _ _) => some c.toList
 | _ => none
theorem B44 (w : World) : U5 [] (GW w) w := by
 refine ⟨?_, by simp, by simp [Fp], by simp [Fp]⟩
 intro b l h
 unfold GW at h
 split at h
 ·rename_i c e f hb; cases h; exact ⟨e, f, by simpa using hb⟩
 ·cases h
variable {v : Value} {o : Nat} {w : World}
theorem A9D {b : Nat} (h : w.cell? ⟨b, o, none⟩ = some v) : ∃ full, GW w b = some full ∧ full[o]? = some v := by
 unfold World.cell? at h
 simp only at h
 split at h
 ·rename_i c e f hb
  exact ⟨c.toList, by simp [GW, hb], by simpa using h⟩
 ·cases h
theorem A9E {sz : Nat} : ∀ {es : List (List Value)}, (∀ e ∈ es, e.length = sz) → ∀ {j : Nat} {v : Value}, es.flatten[j]? = some v → ∃ i e r, es[i]? = some e ∧ e[r]? = some v ∧ j = i * sz + r
 | [], _, j, v, h => by simp at h
 | a :: es, hall, j, v, h => by
  have ha := hall a List.mem_cons_self
  rw [List.flatten_cons, List.getElem?_append] at h
  split at h
  ·exact ⟨0, a, j, rfl, h, by simp⟩
  ·rename_i hj
   obtain ⟨i, e, r, h1, h2, h3⟩ := A9E (fun x hx => hall x (List.mem_cons_of_mem _ hx)) h
   exact ⟨i + 1, e, r, by simpa using h1, h2, by rw [Nat.succ_mul]; omega⟩
variable {es : List (List Value)} {n : Nat}
theorem B45 {a : Addr} {c sz : Nat} (hl : es.length = n) (hsz : 0 < sz) (hc : n ≤ c) (hm : c ≤ maxLen) (h : ∀ i e, es[i]? = some e → w.cells? 0 (a.add (i * sz)) sz = some e) : Sl (GW w) (some a) n c sz es.flatten := by
 have hall : ∀ e ∈ es, e.length = sz := by
  intro e he
  obtain ⟨i, hi⟩ := List.getElem?_of_mem he
  exact (World.cells?_some (h i e hi)).2.1
 refine ⟨by rw [A0S hall, hl], hc, hm, ?_⟩
 rcases Nat.eq_zero_or_pos n with h0 | h0
 ·exact .inl h0
 ·right
  obtain ⟨b, o, s⟩ := a
  have hs : s = none := by
   have h1 := (World.cells?_some (h 0 es[0] (List.getElem?_eq_getElem zO0))).2
   have h2 := h1.2 0 hsz
   rw [List.getElem?_eq_getElem zO0] at h2
   simp only [Nat.zero_mul, Addr.add, if_true] at h2
   unfold World.cell? at h2
   split at h2
   ·split at h2
    ·cases h2
    ·rename_i hn; cases s with
     | none => rfl
     | some x => simp at hn
   ·cases h2
  subst hs
  have key : ∀ j v, es.flatten[j]? = some v → w.cell? ⟨b, o + j, none⟩ = some v := by
   intro j v hj
   obtain ⟨i, e, r, h1, h2, rfl⟩ := A9E hall hj
   have h3 := (World.cells?_some (h i e h1)).2
   have hr : r < e.length := (List.getElem?_eq_some_iff.1 h2).1
   have h4 := h3.2 r zO0
   rw [h2, A3A, A3A] at h4
   rw [← Nat.add_assoc]; exact h4
  have hpos : 0 < es.flatten.length := by rw [A0S hall, hl]; exact Nat.mul_pos h0 hsz
  obtain ⟨full, hg, _⟩ := A9D (key 0 es.flatten[0] (List.getElem?_eq_getElem hpos))
  refine ⟨b, o, full, rfl, hg, fun j v hj => ?_⟩
  obtain ⟨full', hg', hv⟩ := A9D (key j v hj)
  rw [hg] at hg'; cases hg'; exact hv
theorem E7.snoc {G : IM} : ∀ {ts : List Ty} {es : List (List Value)} {t : Ty} {e : List Value}, E7 G ts es → C6 G t e → E7 G (ts ++ [t]) (es ++ [e])
 | [], es, t, e, h, h2 => by
  simp only [E7] at h; subst h
  simp only [List.nil_append, E7]
  exact ⟨e, [], rfl, h2, rfl⟩
 | t' :: ts, es, t, e, h, h2 => by
  simp only [E7] at h
  obtain ⟨a, r, rfl, h3, h4⟩ := h
  simp only [List.cons_append, E7]
  exact ⟨a, r ++ [e], rfl, h3, E7.snoc h4 h2⟩
theorem H4.snoc {G : IM} : ∀ {ts : List Tm} {es : List (List Value)} {t : Tm} {e : List Value}, H4 G ts es → B7 G t e → H4 G (ts ++ [t]) (es ++ [e])
 | [], es, t, e, h, h2 => by
  simp only [H4] at h; subst h
  simp only [List.nil_append, H4]
  exact ⟨e, [], rfl, h2, rfl⟩
 | t' :: ts, es, t, e, h, h2 => by
  simp only [H4] at h
  obtain ⟨a, r, rfl, h3, h4⟩ := h
  simp only [List.cons_append, H4]
  exact ⟨a, r ++ [e], rfl, h3, H4.snoc h4 h2⟩
variable {G : IM}
theorem E7.each {ts : List Ty} (h : E7 G ts es) : ∀ e ∈ es, e.length = 2 ∧ e.all (·.oneCell') = true := by
 intro e he
 obtain ⟨i, hi⟩ := List.getElem?_of_mem he
 have := (h.inv hi C5).2
 exact ⟨this.len, this.one⟩
theorem H4.each {ts : List Tm} (h : H4 G ts es) : ∀ e ∈ es, e.length = 9 ∧ e.all (·.oneCell') = true := by
 intro e he
 obtain ⟨i, hi⟩ := List.getElem?_of_mem he
 have := (h.inv hi (.mk 0 ⟨#[]⟩ 0 C5 C5 0 [])).2
 exact ⟨this.len, this.one⟩
section read
variable {H : Type} {enc : TypeId × Value → H} {w : World} {sp : Nat → Bool} {held : Bool}
end read
theorem Ext.below {w' : World} (h : Ext (Fp []) w w') : Below w.heap.size w w' := ⟨h.os, h.tape, h.output, h.size, fun k hk => h.block k hk (by simp [Fp])⟩
section post
variable {H : Type} {enc : TypeId × Value → H} {P : Program}
theorem B46 {f : Func} {s : ChangeSpec} {apart fresh handsOn again : Bool} {W W' : World} {args : Array Value} {ds gs : List (DataW H)} {before : List MemPlace}
  (hW : DataW.Whole enc P f.params.toList s.vars apart W args.toList ds gs before) (hb : Below W.heap.size W W') (hgs : s.vars = [])
  (hres : ∀ (b : Nat) (sp : Nat → Bool) (hd : Bool), DataW.TrodAll enc P W' b sp hd f.resultTypes.toList (v.resultList f.resultTypes.size) (s.fn H (ds ++ gs)).results [])
  (hargs : ∀ sp : Nat → Bool, (∀ p ∈ before, sp p.block = true) → DataW.TrodAll enc P W' 0 sp true f.params.toList args.toList (s.fn H (ds ++ gs)).args before)
  (hv : (s.fn H (ds ++ gs)).vars = [])
  (hok : ∀ (j : Nat) (t : TypeId) (r : Value), f.resultTypes[j]? = some t → (v.resultList f.resultTypes.size)[j]? = some r → Value.okWide P W' .any 0 t r) :
  s.post enc P f apart fresh handsOn again W args v W' := by
 have hold : ∀ p ∈ before, (fun b => decide (b < W.heap.size)) p.block = true := fun p hp => by simpa using hW.lt p hp
 have hvars : ∀ sp : Nat → Bool, DataW.TrodVars enc P W' sp s.vars (s.fn H (ds ++ gs)).vars [] := fun sp => by rw [hgs, hv]; rfl
 have hkept : W.keptBut W' (fun _ => False) := by
  refine ⟨hb.os, hb.output, fun i hi => ?_⟩
  rw [hb.block i hi]
  split
  ·rename_i h1 h2; cases h1.symm.trans h2; exact ⟨rfl, rfl, rfl, fun _ _ => rfl⟩
  ·rename_i h1 h2; cases h1.symm.trans h2; exact .inr ⟨rfl, rfl⟩
  ·rfl
 refine ⟨ds, gs, before, [], before, [], hW, hres _ _ _, hargs _ hold, hvars _, World.keptBut_mono (fun p hp => hp.elim) hkept, fun _ => ?_⟩
 obtain ⟨_, _, _, _, _, hz, hn⟩ := hW
 refine ⟨hok, _, _, ([] ++ before) ++ [], ⟨[] ++ before, [], trodAll_append (hargs _ (fun _ _ => rfl)) (hres _ _ _), hvars _, rfl, ?_, ?_⟩, ?_⟩
 ·intro b off hp
  have hp' : MemPlace.cell b off ∈ before := by simpa using hp
  have hlt : b < W.heap.size := of_decide_eq_true (hold _ hp')
  have := hz b off hp'
  unfold World.frozen? at this ⊢
  simp only [hb.block b hlt]
  exact this
 ·intro ha; simpa using hn ha
 ·intro p hp _; simpa using hp
end post
def A05 (G : IM) : Prop := ∃ g, prog.globalNamed "internal/strconv.uint64pow10" = some g ∧ G g = some (Lib.pow10Tab.map fun z => Value.int .u64 z)
variable {G' : IM}
theorem A05.mono (h : A05 G) (hg : C3 G G') : A05 G' := by
 obtain ⟨g, h1, h2⟩ := h
 exact ⟨g, h1, hg g _ h2⟩
theorem B47 (hw : U5 [] G w) (k : Nat) (os : Array Obj) : S0 [] G w [] G (Sort.grow (w.drewN k) os) := by
 have hb : ∀ b, b < w.heap.size → (Sort.grow (w.drewN k) os).heap[b]? = w.heap[b]? := by
  intro b h
  show (w.heap ++ os)[b]? = _
  rw [Array.getElem?_append_left h]
 refine ⟨⟨?_, by simp, by simp [Fp], by simp [Fp]⟩, ⟨rfl, rfl, rfl, ?_, fun b h _ => hb b h⟩, C3.refl _, fun _ _ h => .inl h, by simp [Fp], fun b l h h0 => absurd h (by rw [h0]; simp)⟩
 ·intro b l h
  obtain ⟨e, f, hh⟩ := hw.inn b l h
  exact ⟨e, f, by rw [hb b (A1f hh)]; exact hh⟩
 ·show w.heap.size ≤ (w.heap ++ os).size
  simp
theorem B48 (n : Int) (G : IM) (h : A05 G) (h0 : 0 ≤ n) (h1 : n ≤ 999) : Fn prog 124 [.int .i64 n] [] G (I1 (.string ⟨(Lib.decDigits n.toNat).toArray⟩) G) := by
 refine ⟨fun w hw => ?_⟩
 have ht : Lib.TabIs prog w "internal/strconv.uint64pow10" .u64 Lib.pow10Tab := by
  obtain ⟨g, hg, hG⟩ := h
  obtain ⟨e, f, hh⟩ := hw.inn g _ hG
  unfold Lib.TabIs World.var?
  rw [hg]
  simp only [Option.bind_some, hh]
 refine (strconv_Itoa n zO0 zO0 w ht).mono ?_
 rintro e w' ⟨rfl, k, os, rfl⟩
 refine ⟨_, G, [], rfl, B47 hw k os, rfl, ?_, rfl⟩
 unfold Lib.itoa
 rw [if_neg zO0]
end Gw
end Go.Proofs.YtmceanphadildaaGreatDoor
namespace Go.Proofs.YtmceanphadildaaGreatDoor
open Go Go.RowKit Go.ChangeShapes Go.WideShapes Go.ChangeAt Tryz Go.Proofs.Tryz
namespace Gw
theorem A7f : prog.globalNamed "internal/strconv.uint64pow10" = some 0 := by kernel_rfl
theorem B49 : (prog.globals[0]?).map (·.type) = some 201 := by kernel_rfl
theorem B5a : prog.cellsOf 201 = 20 := by kernel_rfl
theorem B5b : prog.cellsOf 194 = 1 := by kernel_rfl
def A9F : List (String × DataW Unit) := [("math/bits.deBruijn32tab", Rows.laid_math_bits_deBruijn32tab), ("math/bits.deBruijn64tab", Rows.laid_math_bits_deBruijn64tab), ("internal/strconv.uint64pow10", Rows.laid_internal_strconv_uint64pow10)]
theorem B5c {W : World} (h : laidMetH prog A9F W) : A05 (GW W) := by
 have h1 : laidMet prog A9F W := h
 have h3 := h1.tail.tail
 have ht : Lib.TabIs prog W "internal/strconv.uint64pow10" .u64 Lib.pow10Tab :=
  Lib.tabIs_of_head (rest := []) A7f B49 underlying201 underlying194 B5b B5a h3
 refine ⟨0, A7f, ?_⟩
 unfold Lib.TabIs World.var? at ht
 rw [A7f] at ht
 simp only [Option.bind_some] at ht
 unfold GW
 split at ht
 ·rename_i c e f hb
  rw [hb]
  have := Option.some.inj ht
  simp [this]
 ·cases ht
def A7g : DataW Unit → Array Value
 | .agg xs => (xs.map fun | .lit (.int k n) => Value.int k n | _ => .int .i64 0).toArray
 | _ => #[]
def A7h (xs : Array Value) : Obj → Obj
 | .cells _ t f => .cells xs t f
 | o => o
noncomputable def A7i (os : Os) : World :=
 { World.holding prog os ⟨#[], #[], []⟩ with heap := (((World.holding prog os ⟨#[], #[], []⟩).heap.modify 0 (A7h (A7g Rows.laid_internal_strconv_uint64pow10))).modify 1 (A7h (A7g Rows.laid_math_bits_deBruijn32tab))).modify 2 (A7h (A7g Rows.laid_math_bits_deBruijn64tab)) }
end Gw
end Go.Proofs.YtmceanphadildaaGreatDoor
namespace Go.Proofs.YtmceanphadildaaGreatDoor
open Go Go.RowKit Go.ChangeShapes Go.WideShapes Go.ChangeAt Tryz Go.Proofs.Tryz
namespace Gw
section read2
variable {H : Type} {enc : TypeId × Value → H} {w : World} {sp : Nat → Bool} {held : Bool}
end read2
section rlaws
variable {P : Program} {Γ : M5} {env : M8} {hp : List A9} {G : IM} {ty : TypeId}
variable {n : Nat}
theorem B5d {m : Nat} (hm : m < 4611686018427387904) (hn : n < 4611686018427387904) : m ^^^ n < 4611686018427387904 := by
 have := @Nat.xor_lt_two_pow m n 62 zO0 zO0
 simpa using this
variable {t t' : TypeId} {x y : Operand}
theorem B5e {m : Nat} (hx : evo env x = some (.int .i64 (m : Int))) (hy : evo env y = some (.int .i64 (n : Int))) (hm : m < 4611686018427387904) (hn : n < 4611686018427387904) :
  J6 P Γ ⟨env, hp, G⟩ (.binOp .xor t x y t') ty (.int .i64 ((m ^^^ n : Nat) : Int)) := by
 refine ⟨fun a _ hs _ _ _ _ w => ?_⟩
 have hlt := B5d hm hn
 have e : (BitVec.ofInt 64 (m : Int) ^^^ BitVec.ofInt 64 (n : Int)).toNat = m ^^^ n := by
  rw [BitVec.toNat_xor, BitVec.toNat_ofInt, BitVec.toNat_ofInt]
  congr 1 <;> omega
 have hw : IntKind.i64.wrap (((BitVec.ofInt 64 (m : Int) ^^^ BitVec.ofInt 64 (n : Int)).toNat : Nat) : Int) = ((m ^^^ n : Nat) : Int) := by
  rw [e]; exact A27 _ rfl zO0 zO0
 simp only [execOp, eqGuard, binOp, Op.intBits, (hs.evo hx : a.eval x = _), (hs.evo hy : a.eval y = _), ne_eq, not_true_eq_false, if_false, Sem.run_bind, Sem.run_pure, Result.andThen_ok]
 rw [show IntKind.bits .i64 = 64 from rfl] at *
 simp only [hw]
 simp
theorem A4w {m : Nat} (hx : evo env x = some (.int .i64 (m : Int))) (hy : evo env y = some (.int .i64 (n : Int))) (h : m * n ≤ 9223372036854775807) :
  J6 P Γ ⟨env, hp, G⟩ (.binOp .mul t x y t') ty (.int .i64 ((m * n : Nat) : Int)) := by
 have e : ((m : Int) * (n : Int)) = ((m * n : Nat) : Int) := by simp
 have h2 := B37 (P := P) (Γ := Γ) (hp := hp) (G := G) (ty := ty) (t := t) (t' := t') hx hy (by rw [e]; omega) (by rw [e]; omega)
 rwa [e] at h2
theorem A2j {m : Nat} (hx : evo env x = some (.int .i64 (m : Int))) (hy : evo env y = some (.int .i64 (n : Int))) (h : m + n ≤ 9223372036854775807) :
  J6 P Γ ⟨env, hp, G⟩ (.binOp .add t x y t') ty (.int .i64 ((m + n : Nat) : Int)) := by
 have e : ((m : Int) + (n : Int)) = ((m + n : Nat) : Int) := by simp
 have h2 := J1 (P := P) (Γ := Γ) (hp := hp) (G := G) (ty := ty) (t := t) (t' := t') hx hy (by rw [e]; omega) (by rw [e]; omega)
 rwa [e] at h2
theorem A5E {m : Nat} (hx : evo env x = some (.int .i64 ((m + 1 : Nat) : Int))) (hy : evo env y = some (.int .i64 1)) (h : m ≤ 9223372036854775807) :
  J6 P Γ ⟨env, hp, G⟩ (.binOp .sub t x y t') ty (.int .i64 (m : Int)) := by
 have e : (((m + 1 : Nat) : Int) - 1) = (m : Int) := by omega
 have h2 := N7 (P := P) (Γ := Γ) (hp := hp) (G := G) (ty := ty) (t := t) (t' := t') hx hy (by rw [e]; omega) (by rw [e]; omega)
 rwa [e] at h2
variable {is id : L8} {s d : TypeId}
theorem A7j [hS : I4 P s is] [hD : I4 P d id] (hd : id.desc = .int .i64) {k : IntKind} (hs : is.desc = .int k) {n : Int} (hx : evo env x = some (.int k n)) (h0 : -9223372036854775808 ≤ n) (h1 : n ≤ 9223372036854775807) :
  J6 P Γ ⟨env, hp, G⟩ (.convert s d x) ty (.int .i64 n) := by
 refine ⟨fun a _ hst _ _ _ _ w => ?_⟩
 have hu := hD.und
 rw [hd] at hu
 have hus := hS.und
 rw [hs] at hus
 have hw : IntKind.i64.wrap n = n := A27 n rfl h0 h1
 simp [execOp, convert, run_underlying hus, run_underlying hu, (hst.evo hx : a.eval x = _), Conv.intToInt, hw]
variable {p : Option Addr}
theorem A7k {el : TypeId} {i : L8} {sz by' : Nat} {zs : List Value} [hI : I4 P t i] (hd' : i.desc = .slice el) [hE : Y1 P el sz by' zs] {c l : Nat}
  (hx : evo env x = some (.slice p n c)) (hy : evo env y = some (.int .i64 (l : Int))) (hl : l ≤ c) :
  J6 P Γ ⟨env, hp, G⟩ (.slice t x none (some y) none) ty (.slice p l c) := by
 refine ⟨fun a _ hs _ _ _ _ w => ?_⟩
 have hu := hI.und
 rw [hd'] at hu
 obtain ⟨d, hE⟩ := hE.ok
 obtain ⟨inf, z, t1, t2, t3, _⟩ := A4r (P := P) (t := el)
 have e1 : a.eval x = _ := hs.evo hx
 have e2 : a.eval y = _ := hs.evo hy
 have hb : ∀ code, (Instr.sliceBound (.int .i64 (l : Int)) c code).run P w = .ok l w := fun code => by
  unfold Instr.sliceBound
  simp only [asIntOf, Sem.run_bind, Sem.run_pure, Result.andThen_ok]
  rw [if_pos ⟨by omega, by omega⟩]
  simp
 simp only [execOp, Option.map, e1, e2, Instr.sliceAt, Sem.run_bind, run_underlying hu, Result.andThen_ok, Instr.slice, Instr.sliceBounds, Sem.run_pure, hb, t3]
 by_cases h : c = 0
 ·subst h; simp
 ·rw [if_neg h]; simp; cases p <;> simp [Addr.add]
end rlaws
def O7 (bs : List UInt8) : List Value := bs.map fun b => .int .u8 (b.toNat : Int)
theorem A9G (bs : List UInt8) : (O7 bs).length = bs.length := by simp [O7]
variable {v : Value} {i : Nat}
theorem A7l {bs : List UInt8} (h : (O7 bs)[i]? = some v) : ∃ b : Nat, b < 256 ∧ v = .int .u8 (b : Int) := by
 unfold O7 at h
 rw [List.getElem?_map] at h
 cases hb : bs[i]? with
 | none => rw [hb] at h; simp at h
 | some b => rw [hb] at h; simp at h; exact ⟨b.toNat, b.toNat_lt, h.symm⟩
def rd (br : Nat) (pb : Option Addr) (nb cb p : Nat) : A9 := .blk br [.slice pb nb cb, .int .i64 (p : Int)]
def A0J (br : Nat) (pb : Option Addr) (nb cb p B : Nat) (Φ : IM → Value → Prop) : IM → Value → List A9 → Prop := fun G' v outs => ∃ p', p ≤ p' ∧ p' ≤ p + B ∧ outs = [rd br pb nb cb p'] ∧ Φ G' v
theorem A0i (G : IM) (br : Nat) (pb : Option Addr) (nb cb p : Nat) (bs : List UInt8) (n : Int) (hb : Sl G pb nb cb 1 (O7 bs)) (hnb : nb ≤ 2000) (hp : p < 1099511627776) :
  Fn prog 52 [.pointer (some ⟨br, 0, none⟩), .int .i64 n] [rd br pb nb cb p] G (fun G' v outs => G' = G ∧ outs = [rd br pb nb cb (p + 1)] ∧ ∃ k, v = .int .i64 k ∧ 0 ≤ k ∧ (1 ≤ n → k < n)) := by
 unfold rd
 have hm1 : ∀ q, 0 < nb → q % nb < nb := fun q h => Nat.mod_lt _ h
 have hdv : p / nb ≤ p := Nat.div_le_self _ _
 refine C4 func52 rfl ntmps52 results52 rfl ?_
 intro w0
 refine E1 ?_
 refine sQ (A0s rfl) rfl ?_
 refine A5 ?_
 refine sP (A2j (n := 1) rfl rfl zO0) rfl rfl ?_
 refine sQ (A0s rfl) rfl ?_
 refine D4 ?_
 refine zf8 (fun h23 => ?_) (fun h23 => ?_)
 refine A0H ?_
 refine I6 (rT rfl) A1.refl ?_
 exact ⟨rfl, rfl, 0, rfl, Int.le_refl _, fun h => by omega⟩
 refine A5 ?_
 refine sQ (A0s rfl) rfl ?_
 refine B5 ?_
 refine zf0 (fun h50 => ?_) (fun h50 => ?_)
 refine J3 ?_
 refine I6 (rT rfl) A1.refl ?_
 exact ⟨rfl, rfl, 0, rfl, Int.le_refl _, fun h => by omega⟩
 refine E1 ?_
 refine sQ (A0s rfl) rfl ?_
 refine A5 ?_
 refine sP (A5E rfl rfl zO0) rfl rfl ?_
 refine D4 ?_
 refine sQ (A0s rfl) rfl ?_
 refine B5 ?_
 refine zf8 (fun h89 => ?_) (fun h89 => ?_)
 refine A7 ?_
 refine sQ (A0s rfl) rfl ?_
 refine B5 ?_
 (obtain ⟨b, o, v, rfl, hv, hat, hgb⟩ := hb.kid (i := p) zO0; obtain ⟨y, hy, rfl⟩ := A7l hv; refine sP (B2 rfl rfl rfl zO0) rfl rfl ?_)
 refine sL (A0t rfl rfl (hat _)) rfl rfl ?_
 refine sP (A7j rfl rfl rfl zO0 zO0) rfl rfl ?_
 refine I0 ?_
 refine sP (A3C rfl rfl zO0) rfl rfl ?_
 refine B1 ?_
 refine I6 (rT rfl) A1.refl ?_
 exact ⟨rfl, rfl, _, rfl, Int.tmod_nonneg _ zO0, fun h => Int.tmod_lt_of_pos _ zO0⟩
 refine A7 ?_
 (obtain ⟨b, o, v1, rfl, hv1, hat1, _⟩ := hb.kid (i := HMod.hMod p nb) (hm1 _ zO0); obtain ⟨y1, hy1, rfl⟩ := A7l hv1; obtain ⟨b', o', v2, hbb, hv2, hat2, _⟩ := hb.kid (i := HMod.hMod (p * 7 + 3) nb) (hm1 _ zO0); obtain ⟨y2, hy2, rfl⟩ := A7l hv2; cases hbb; have hl1 := hm1 p zO0; have hl2 := hm1 (p * 7 + 3) zO0; refine zdd D9 rfl ?_)
 refine xx10 0 1 2 3 4 5 6 7 8 9 ?_
 refine aP 10 rfl (A69 rfl rfl zO0) rfl ?_
 refine aP 11 rfl (B2 rfl rfl rfl (by first | exact hl1 | exact hl2)) rfl ?_
 refine aL 12 rfl (A0t rfl rfl (hat1 _)) rfl ?_
 refine aP 13 rfl (A7j rfl rfl rfl zO0 zO0) rfl ?_
 refine aP 14 rfl (A4w (n := 131) rfl rfl zO0) rfl ?_
 refine xx5 15 16 17 18 19 ?_
 refine aP 20 rfl (A4w (n := 7) rfl rfl zO0) rfl ?_
 refine aP 21 rfl (A2j (n := 3) rfl rfl zO0) rfl ?_
 refine xx5 22 23 24 25 26 ?_
 refine aP 27 rfl (A69 rfl rfl zO0) rfl ?_
 refine aP 28 rfl (B2 rfl rfl rfl (by first | exact hl1 | exact hl2)) rfl ?_
 refine aL 29 rfl (A0t rfl rfl (hat2 _)) rfl ?_
 refine aP 30 rfl (A7j rfl rfl rfl zO0 zO0) rfl ?_
 refine aP 31 rfl (A4w (n := 1117) rfl rfl zO0) rfl ?_
 refine aP 32 rfl (A2j rfl rfl zO0) rfl ?_
 refine xx1 33 ?_
 refine aP 34 rfl (A4w (n := 29) rfl rfl zO0) rfl ?_
 refine aP 35 rfl (A2j rfl rfl zO0) rfl ?_
 refine xx6 36 37 38 39 40 41 ?_
 refine aP 42 rfl (A7a rfl rfl zO0 zO0) rfl ?_
 refine aP 43 rfl (A4w (n := 53) rfl rfl zO0) rfl ?_
 refine aP 44 rfl (A2j rfl rfl zO0) rfl ?_
 refine xx1 45 ?_
 refine A7 ?_
 refine sP (A7a (n := 64) rfl rfl zO0 zO0) rfl rfl ?_
 refine sP (B5e rfl rfl zO0 zO0) rfl rfl ?_
 refine B8 ?_
 refine sP (A3C rfl rfl zO0) rfl rfl ?_
 refine B6 ?_
 refine I6 (rT rfl) A1.refl ?_
 exact ⟨rfl, rfl, _, rfl, Int.tmod_nonneg _ zO0, fun h => Int.tmod_lt_of_pos _ zO0⟩
end Gw
end Go.Proofs.YtmceanphadildaaGreatDoor
namespace Go.Proofs.YtmceanphadildaaGreatDoor
open Go Go.RowKit Go.ChangeShapes Go.WideShapes Go.ChangeAt Tryz Go.Proofs.Tryz
namespace Gw
theorem B5f : prog.cellsOf 5 = 1 := by kernel_rfl
theorem A9H {q : Nat → Value → Prop} : ∀ {n : Nat}, (∀ i, i < n → ∃ k : UInt8, q i (.int .u8 (k.toNat : Int))) → ∃ l : List UInt8, l.length = n ∧ ∀ i v, (O7 l)[i]? = some v → q i v
 | 0, _ => ⟨[], rfl, by simp [O7]⟩
 | n + 1, h => by
  obtain ⟨l, h1, h2⟩ := A9H (n := n) fun i hi => h i zO0
  obtain ⟨k, hk⟩ := h n zO0
  refine ⟨l ++ [k], by simp [h1], fun i v hv => ?_⟩
  rw [show O7 (l ++ [k]) = O7 l ++ [.int .u8 (k.toNat : Int)] from by simp [O7], List.getElem?_append] at hv
  split at hv
  ·exact h2 i v hv
  ·rename_i hi
   rw [A9G] at hi hv
   have : i - l.length = 0 := by
    have := (List.getElem?_eq_some_iff.1 hv).1; simp at this; omega
   rw [this] at hv; simp at hv; subst hv
   rw [show i = n by omega]; exact hk
section read2
variable {H : Type} {enc : TypeId × Value → H} {w : World} {sp : Nat → Bool} {held : Bool}
theorem B5g (n : Nat) (cs : List Value) (x : DataW H × List MemPlace) (h : DataW.trod enc prog w 0 sp held n 22 cs = some x) : ∃ (l : List UInt8) (p : Option Addr) (c : Nat), cs = [.slice p l.length c] ∧ Sl (GW w) p l.length c 1 (O7 l) := by
 rcases DataW.trod_slice underlying22 h with ⟨rfl, _⟩ | ⟨ad, len, cap, elems, rest, n', rfl, rfl, _, _, hlc, hcm, hel, hele, _, _⟩
 ·exact ⟨[], none, 0, rfl, Sl.nil _ _⟩
 ·rw [B5f] at hele
  obtain ⟨l, h1, h2⟩ := A9H (q := fun i v => w.cells? 0 (ad.add (i * 1)) 1 = some [v]) (n := len) fun i hi => by
   have := hele i hi
   rw [List.getElem?_eq_getElem zO0] at this
   obtain ⟨cs', c1, c2⟩ := Option.bind_eq_some_iff.1 this
   obtain ⟨k, rfl, _, hw⟩ := DataW.trod_int underlying5 c2
   have hk : 0 ≤ k ∧ k < 256 := by
    have hw2 : (decide ((0 : Int) ≤ k) && decide (k ≤ (255 : Int))) = true := hw
    simp only [Bool.and_eq_true, decide_eq_true_eq] at hw2
    omega
   refine ⟨UInt8.ofNat k.toNat, ?_⟩
   rw [show ((UInt8.ofNat k.toNat).toNat : Int) = k from by
    rw [UInt8.toNat_ofNat']; omega]
   exact c1
  subst h1
  refine ⟨l, some ad, cap, rfl, ?_⟩
  have := B45 (w := w) (a := ad) (n := l.length) (c := cap) (sz := 1) (es := (O7 l).map fun v => [v]) (by simp [A9G]) zO0 hlc hcm fun i e he => by
   rw [List.getElem?_map] at he
   cases hv : (O7 l)[i]? with
   | none => rw [hv] at he; simp at he
   | some v => rw [hv] at he; simp at he; subst he; exact h2 i v hv
  have hf : ((O7 l).map fun v => [v]).flatten = O7 l := by
   generalize O7 l = L
   induction L with
   | nil => rfl
   | cons a L ih => simp [ih]
  rwa [hf] at this
end read2
end Gw
end Go.Proofs.YtmceanphadildaaGreatDoor
namespace Go.Proofs.YtmceanphadildaaGreatDoor
namespace Gw
inductive GT where
 | any | int | bool
 | fn (a b : GT)
 | pr (a b : GT)
inductive GE where
 | var (x : ByteArray)
 | num (n : Int)
 | tru (b : Bool)
 | lam (x : ByteArray) (A : GT) (e : GE)
 | app (f a : GE)
 | ar (s : Bool) (a b : GE)
 | ite (c a b : GE)
 | pair (a b : GE)
 | part (s : Bool) (e : GE)
 | cast (A B : GT) (l : Int) (e : GE)
def GT.gr : GT → GT
 | .any => .any
 | .int => .int
 | .bool => .bool
 | .fn _ _ => .fn .any .any
 | .pr _ _ => .pr .any .any
def GT.Gd (t : GT) : Prop := t ≠ .any ∧ t.gr = t
inductive Co : GT → GT → Prop
 | l {b : _} : Co .any b
 | r {a : _} : Co a .any
 | int : Co .int .int
 | bool : Co .bool .bool
 | fn {a b a' b' : _} : Co a a' → Co b b' → Co (.fn a b) (.fn a' b')
 | pr {a b a' b' : _} : Co a a' → Co b b' → Co (.pr a b) (.pr a' b')
inductive Le : GT → GT → Prop
 | any {a : _} : Le a .any
 | int : Le .int .int
 | bool : Le .bool .bool
 | fn {a b a' b' : _} : Le a a' → Le b b' → Le (.fn a b) (.fn a' b')
 | pr {a b a' b' : _} : Le a a' → Le b b' → Le (.pr a b) (.pr a' b')
theorem Co.symm {a b : GT} (h : Co a b) : Co b a := by
 induction h with
 | l => exact .r
 | r => exact .l
 | int => exact .int
 | bool => exact .bool
 | fn _ _ i j => exact .fn i j
 | pr _ _ i j => exact .pr i j
theorem Co.refl : ∀ {a : GT}, Co a a
 | .any => .l
 | .int => .int
 | .bool => .bool
 | .fn _ _ => .fn Co.refl Co.refl
 | .pr _ _ => .pr Co.refl Co.refl
theorem Le.refl : ∀ {a : GT}, Le a a
 | .any => .any
 | .int => .int
 | .bool => .bool
 | .fn _ _ => .fn Le.refl Le.refl
 | .pr _ _ => .pr Le.refl Le.refl
theorem Le.gr {a : GT} : Le a a.gr := by
 cases a with
 | fn _ _ => exact .fn .any .any
 | pr _ _ => exact .pr .any .any
 | _ => exact Le.refl
theorem Co.gr {a : GT} : Co a a.gr := by
 cases a with
 | fn _ _ => exact .fn .r .r
 | pr _ _ => exact .pr .r .r
 | _ => exact Co.refl
theorem Le.trans {a b : GT} (h : Le a b) : ∀ {c : GT}, Le b c → Le a c := by
 induction h with
 | any => intro c h; cases h; exact .any
 | int => exact fun h => h
 | bool => exact fun h => h
 | fn _ _ i j =>
  intro c h
  cases h with
  | any => exact .any
  | fn h1 h2 => exact .fn (i h1) (j h2)
 | pr _ _ i j =>
  intro c h
  cases h with
  | any => exact .any
  | pr h1 h2 => exact .pr (i h1) (j h2)
theorem Le.gd {a g : GT} (h : Le a g) (hg : g.Gd) : a.gr = g := by
 cases h with
 | any => exact absurd rfl hg.1
 | int => rfl
 | bool => rfl
 | fn _ _ => exact hg.2
 | pr _ _ => exact hg.2
theorem A9I {a : GT} (h : a ≠ .any) : a.gr.Gd := by
 cases a with
 | any => exact absurd rfl h
 | int => exact ⟨(by intro h; cases h), rfl⟩
 | bool => exact ⟨(by intro h; cases h), rfl⟩
 | fn _ _ => exact ⟨(by intro h; cases h), rfl⟩
 | pr _ _ => exact ⟨(by intro h; cases h), rfl⟩
def GE.sub : GE → ByteArray → GE → GE
 | .var y, x, v => if y = x then v else .var y
 | .num n, _, _ => .num n
 | .tru b, _, _ => .tru b
 | .lam y A e, x, v => if y = x then .lam y A e else .lam y A (e.sub x v)
 | .app f a, x, v => .app (f.sub x v) (a.sub x v)
 | .ar s a b, x, v => .ar s (a.sub x v) (b.sub x v)
 | .ite c a b, x, v => .ite (c.sub x v) (a.sub x v) (b.sub x v)
 | .pair a b, x, v => .pair (a.sub x v) (b.sub x v)
 | .part s e, x, v => .part s (e.sub x v)
 | .cast A B l e, x, v => .cast A B l (e.sub x v)
inductive GV : GE → Prop
 | num {n : _} : GV (.num n)
 | tru {b : _} : GV (.tru b)
 | lam {x A e : _} : GV (.lam x A e)
 | pair {a b : _} : GV a → GV b → GV (.pair a b)
 | pf {a b c d l e : _} : GV e → GV (.cast (.fn a b) (.fn c d) l e)
 | pp {a b c d l e : _} : GV e → GV (.cast (.pr a b) (.pr c d) l e)
 | inj {A l e : _} : GV e → A.Gd → GV (.cast A .any l e)
def A3M (s : Bool) (m n : Int) : GE := if s = true then .tru (decide (m < n)) else .num ((m + n) % 1000)
inductive GS : GE → GE → Prop
 | app1 {f f' a : _} : GS f f' → GS (.app f a) (.app f' a)
 | app2 {f a a' : _} : GV f → GS a a' → GS (.app f a) (.app f a')
 | ar1 {s a a' b : _} : GS a a' → GS (.ar s a b) (.ar s a' b)
 | ar2 {s a b b' : _} : GV a → GS b b' → GS (.ar s a b) (.ar s a b')
 | ite1 {c c' a b : _} : GS c c' → GS (.ite c a b) (.ite c' a b)
 | pair1 {a a' b : _} : GS a a' → GS (.pair a b) (.pair a' b)
 | pair2 {a b b' : _} : GV a → GS b b' → GS (.pair a b) (.pair a b')
 | part1 {s e e' : _} : GS e e' → GS (.part s e) (.part s e')
 | cast1 {A B l e e' : _} : GS e e' → GS (.cast A B l e) (.cast A B l e')
 | beta {x A b v : _} : GV v → GS (.app (.lam x A b) v) (b.sub x v)
 | appx {a b c d l f v : _} : GV f → GV v → GS (.app (.cast (.fn a b) (.fn c d) l f) v) (.cast b d l (.app f (.cast c a (-l) v)))
 | ar {s m n : _} : GS (.ar s (.num m) (.num n)) (A3M s m n)
 | ite {b x y : _} : GS (.ite (.tru b) x y) (if b = true then x else y)
 | part {s a b : _} : GV a → GV b → GS (.part s (.pair a b)) (if s = true then b else a)
 | partx {s a b c d l e : _} : GV e → GS (.part s (.cast (.pr a b) (.pr c d) l e)) (.cast (if s = true then b else a) (if s = true then d else c) l (.part s e))
 | cid {A l v : _} : GV v → (A = .any ∨ A = .int ∨ A = .bool) → GS (.cast A A l v) v
 | up {A l v : _} : GV v → A ≠ .any → A.gr ≠ A → GS (.cast A .any l v) (.cast A.gr .any l (.cast A A.gr l v))
 | down {B l v : _} : GV v → B ≠ .any → B.gr ≠ B → GS (.cast .any B l v) (.cast B.gr B l (.cast .any B.gr l v))
 | hit {G l m w : _} : GV w → G.Gd → GS (.cast .any G l (.cast G .any m w)) w
variable {e : GE}
theorem GV.noS (h : GV e) : ∀ r, ¬ GS e r := by
 induction h with
 | num => intro r s; cases s
 | tru => intro r s; cases s
 | lam => intro r s; cases s
 | pair _ _ i j =>
  intro r s
  cases s with
  | pair1 s => exact i _ s
  | pair2 _ s => exact j _ s
 | pf _ i =>
  intro r s
  cases s with
  | cast1 s => exact i _ s
  | cid _ h => rcases h with h | h | h <;> cases h
 | pp _ i =>
  intro r s
  cases s with
  | cast1 s => exact i _ s
  | cid _ h => rcases h with h | h | h <;> cases h
 | inj _ hg i =>
  intro r s
  cases s with
  | cast1 s => exact i _ s
  | cid _ h => exact hg.1 rfl
  | up _ _ h => exact h hg.2
  | down _ h => exact h rfl
  | hit _ h => exact h.1 rfl
variable {l : Int} {A B : GT}
theorem GV.ofCast (h : GV (.cast A B l e)) : GV e := by cases h <;> assumption
inductive Ss : GE → GE → Prop
 | refl {e : _} : Ss e e
 | step {a b c : _} : GS a b → Ss b c → Ss a c
theorem Ss.trans {a b c : GE} (h : Ss a b) (h2 : Ss b c) : Ss a c := by
 induction h with
 | refl => exact h2
 | step s _ i => exact .step s (i h2)
theorem Ss.one {a b : GE} (h : GS a b) : Ss a b := .step h .refl
theorem Ss.ctx {a b : GE} (C : GE → GE) (hC : ∀ x y, GS x y → GS (C x) (C y)) (h : Ss a b) : Ss (C a) (C b) := by
 induction h with
 | refl => exact .refl
 | step s _ i => exact .step (hC _ _ s) i
abbrev GC := ByteArray → Option (GT × GT)
def D1 : GC := fun _ => none
def O8 (Γ : GC) (x : ByteArray) (A A' : GT) : GC := fun y => if x = y then some (A, A') else Γ y
inductive GP : GC → GE → GE → GT → GT → Prop
 | var {Γ x A A'} : Γ x = some (A, A') → Le A A' → GP Γ (.var x) (.var x) A A'
 | num {Γ n} : GP Γ (.num n) (.num n) .int .int
 | tru {Γ b} : GP Γ (.tru b) (.tru b) .bool .bool
 | lam {Γ x A A' B B' e e'} : Le A A' → GP (O8 Γ x A A') e e' B B' → GP Γ (.lam x A e) (.lam x A' e') (.fn A B) (.fn A' B')
 | app {Γ f f' a a' A A' B B'} : GP Γ f f' (.fn A B) (.fn A' B') → GP Γ a a' A A' → GP Γ (.app f a) (.app f' a') B B'
 | ar {Γ s a a' b b'} : GP Γ a a' .int .int → GP Γ b b' .int .int → GP Γ (.ar s a b) (.ar s a' b') (if s = true then .bool else .int) (if s = true then .bool else .int)
 | ite {Γ c c' a a' b b' A A'} : GP Γ c c' .bool .bool → GP Γ a a' A A' → GP Γ b b' A A' → GP Γ (.ite c a b) (.ite c' a' b') A A'
 | pair {Γ a a' b b' A A' B B'} : GP Γ a a' A A' → GP Γ b b' B B' → GP Γ (.pair a b) (.pair a' b') (.pr A B) (.pr A' B')
 | part {Γ s e e' A A' B B'} : GP Γ e e' (.pr A B) (.pr A' B') → GP Γ (.part s e) (.part s e') (if s = true then B else A) (if s = true then B' else A')
 | castL {Γ e e' A B A' l} : GP Γ e e' A A' → Co A B → Le B A' → GP Γ (.cast A B l e) e' B A'
 | castR {Γ e e' A A' B' l} : GP Γ e e' A A' → Co A' B' → Le A B' → GP Γ e (.cast A' B' l e') A B'
 | castB {Γ e e' A B A' B' l l'} : GP Γ e e' A A' → Co A B → Co A' B' → Le B B' → GP Γ (.cast A B l e) (.cast A' B' l' e') B B'
variable {A' : GT} {e' : GE} {Γ : GC}
theorem GP.le (h : GP Γ e e' A A') : Le A A' := by
 induction h with
 | var _ h => exact h
 | num => exact .int
 | tru => exact .bool
 | lam h _ i => exact .fn h i
 | app _ _ i _ => cases i with | fn _ h => exact h
 | ar => exact Le.refl
 | ite _ _ _ _ i _ => exact i
 | pair _ _ i j => exact .pr i j
 | @part Γ s _ _ _ _ _ _ _ i => cases i with | pr h1 h2 => cases s <;> assumption
 | castL _ _ h _ => exact h
 | castR _ _ h _ => exact h
 | castB _ _ _ h _ => exact h
theorem GP.weak (h : GP Γ e e' A A') : ∀ {Δ : GC}, (∀ y p, Γ y = some p → Δ y = some p) → GP Δ e e' A A' := by
 induction h with
 | var hx hl => intro Δ hD; exact .var (hD _ _ hx) hl
 | num => intro _ _; exact .num
 | tru => intro _ _; exact .tru
 | lam hl _ i =>
  intro Δ hD
  refine .lam hl (i fun y p hy => ?_)
  unfold O8 at hy ⊢
  split
  ·rename_i h; rw [if_pos h] at hy; exact hy
  ·rename_i h; rw [if_neg h] at hy; exact hD _ _ hy
 | app _ _ i j => intro Δ hD; exact .app (i hD) (j hD)
 | ar _ _ i j => intro Δ hD; exact .ar (i hD) (j hD)
 | ite _ _ _ i j k => intro Δ hD; exact .ite (i hD) (j hD) (k hD)
 | pair _ _ i j => intro Δ hD; exact .pair (i hD) (j hD)
 | part _ i => intro Δ hD; exact .part (i hD)
 | castL _ h1 h2 i => intro Δ hD; exact .castL (i hD) h1 h2
 | castR _ h1 h2 i => intro Δ hD; exact .castR (i hD) h1 h2
 | castB _ h1 h2 h3 i => intro Δ hD; exact .castB (i hD) h1 h2 h3
theorem GP.sub {x : ByteArray} {v v' : GE} {A A' : GT} (hv : GP D1 v v' A A') {Γ : GC} {e e' : GE} {B B' : GT} (h : GP Γ e e' B B') :
  ∀ {Δ : GC}, (∀ y, x ≠ y → Γ y = Δ y) → Γ x = some (A, A') → GP Δ (e.sub x v) (e'.sub x v') B B' := by
 induction h with
 | @var Γ y C C' hy hl =>
  intro Δ hD hx
  simp only [GE.sub]
  split
  ·rename_i he
   subst he
   rw [hx] at hy
   cases hy
   exact hv.weak fun z p hz => by cases hz
  ·rename_i he
   exact .var (by rw [← hD y (fun e => he e.symm)]; exact hy) hl
 | num => intro _ _ _; exact .num
 | tru => intro _ _ _; exact .tru
 | @lam Γ y C C' D D' e e' hl h i =>
  intro Δ hD hx
  simp only [GE.sub]
  by_cases he : y = x
  ·rw [if_pos he, if_pos he]
   refine .lam hl (h.weak fun z p hz => ?_)
   unfold O8 at hz ⊢
   split
   ·rename_i h2; rw [if_pos h2] at hz; exact hz
   ·rename_i h2; rw [if_neg h2] at hz; rw [← hD z (fun e => h2 (he.trans e))]; exact hz
  ·rw [if_neg he, if_neg he]
   refine .lam hl (i (fun z hz => ?_) ?_)
   ·unfold O8
    split
    ·rfl
    ·exact hD z hz
   ·unfold O8; rw [if_neg he]; exact hx
 | app _ _ i j => intro Δ hD hx; exact .app (i hD hx) (j hD hx)
 | ar _ _ i j => intro Δ hD hx; exact .ar (i hD hx) (j hD hx)
 | ite _ _ _ i j k => intro Δ hD hx; exact .ite (i hD hx) (j hD hx) (k hD hx)
 | pair _ _ i j => intro Δ hD hx; exact .pair (i hD hx) (j hD hx)
 | part _ i => intro Δ hD hx; exact .part (i hD hx)
 | castL _ h1 h2 i => intro Δ hD hx; exact .castL (i hD hx) h1 h2
 | castR _ h1 h2 i => intro Δ hD hx; exact .castR (i hD hx) h1 h2
 | castB _ h1 h2 h3 i => intro Δ hD hx; exact .castB (i hD hx) h1 h2 h3
theorem B5h {v u : GE} {U : GT} (h : GP Γ v u A U) : ∀ {H : GT} {l : Int} {w : GE}, u = .cast H .any l w → Γ = D1 → GV v → A ≠ .any → H.Gd → Le A H ∧ GP D1 v w A H := by
 induction h with
 | @castL Γ e e' A B A' m h hc hl i =>
  intro H l w hu hE hv hA hH
  subst hE
  have hU := hl
  subst hu
  obtain ⟨hle, hp⟩ : Le A H ∧ GP D1 e w A H := i rfl rfl hv.ofCast (by cases hv with | inj _ _ => exact absurd rfl hA | _ => intro h; cases h) hH
  have : Le B H := by
   cases hv with
   | inj _ _ => exact absurd rfl hA
   | pf _ =>
    cases hle with
    | any => exact absurd rfl hH.1
    | fn _ _ => have := hH.2; cases this; exact .fn .any .any
   | pp _ =>
    cases hle with
    | any => exact absurd rfl hH.1
    | pr _ _ => have := hH.2; cases this; exact .pr .any .any
  exact ⟨this, .castL hp hc this⟩
 | castR h hc hl _ =>
  intro H l w hu hE hv hA hH
  subst hE
  cases hu
  exact ⟨h.le, h⟩
 | @castB Γ e e' A B A' B' m m' h hc hc' hl _ =>
  intro H l w hu hE hv hA hH
  subst hE
  obtain ⟨rfl, rfl, _, rfl⟩ : A' = H ∧ B' = .any ∧ m' = l ∧ e' = w := by cases hu; exact ⟨rfl, rfl, rfl, rfl⟩
  have hle := h.le
  have : Le B A' := by
   cases hv with
   | inj _ _ => exact absurd rfl hA
   | pf _ =>
    cases hle with
    | any => exact absurd rfl hH.1
    | fn _ _ => have := hH.2; cases this; exact .fn .any .any
   | pp _ =>
    cases hle with
    | any => exact absurd rfl hH.1
    | pr _ _ => have := hH.2; cases this; exact .pr .any .any
  exact ⟨this, .castL h hc this⟩
 | _ => intro H l w hu; cases hu
variable {v' : GE}
theorem B5i {v : GE} (h : GP D1 v v' A .any) (hv : GV v') : ∃ H l w, v' = .cast H .any l w ∧ GV w ∧ H.Gd := by
 suffices ∀ {Γ v v' A U}, GP Γ v v' A U → U = .any → Γ = D1 → GV v' → ∃ H l w, v' = .cast H .any l w ∧ GV w ∧ H.Gd from this h rfl rfl hv
 intro Γ v v' A U h
 induction h with
 | castL _ _ _ i => exact i
 | castR _ _ _ _ => intro hU _ hv; subst hU; cases hv with | inj h1 h2 => exact ⟨_, _, _, rfl, h1, h2⟩
 | castB _ _ _ _ _ => intro hU _ hv; subst hU; cases hv with | inj h1 h2 => exact ⟨_, _, _, rfl, h1, h2⟩
 | var hx _ => intro _ hE; subst hE; cases hx
 | app _ _ _ _ => intro _ _ hv; cases hv
 | ite _ _ _ _ _ _ => intro _ _ hv; cases hv
 | part _ _ => intro _ _ hv; cases hv
 | ar _ _ _ _ => intro _ _ hv; cases hv
 | _ => intro hU; cases hU
theorem A1N {a b : GE} (h : Ss a b) : Ss (.cast A B l a) (.cast A B l b) := h.ctx _ fun _ _ => .cast1
theorem A9J {v : GE} {G : GT} (hv : GV v) (hv' : GV v') (h : GP D1 v v' A .any) (hG : G.Gd) (hl : Le A G) (hA : A ≠ .any) :
  ∃ v'', Ss (.cast .any G l v') v'' ∧ GV v'' ∧ GP D1 v v'' A G := by
 obtain ⟨H, m, w, rfl, hw, hH⟩ := B5i h hv'
 obtain ⟨h1, h2⟩ := B5h h rfl rfl hv hA hH
 have : H = G := (h1.gd hH).symm.trans (hl.gd hG)
 subst this
 exact ⟨w, .one (.hit hw hG), hw, h2⟩
theorem B5j (h : Le A B) (hB : B ≠ .any) : A ≠ .any := by rintro rfl; cases h; exact hB rfl
theorem A5F {v : GE} {B' : GT} (l : Int) (hv : GV v) (hv' : GV v') (h : GP D1 v v' A A') (hl : Le A B') (hc : Co A' B') :
  ∃ v'', Ss (.cast A' B' l v') v'' ∧ GV v'' ∧ GP D1 v v'' A B' := by
 have hle := h.le
 by_cases hA : A' = .any
 ·subst hA
  by_cases hB : B' = .any
  ·subst hB; exact ⟨v', .one (.cid hv' (.inl rfl)), hv', h⟩
  ·have hA := B5j hl hB
   by_cases hg : B'.gr = B'
   ·exact A9J hv hv' h ⟨hB, hg⟩ hl hA
   ·have hgB := A9I hB
    obtain ⟨u, s, hu, hp⟩ := A9J (l := l) hv hv' h hgB (hl.trans Le.gr) hA
    refine ⟨.cast B'.gr B' l u, .step (.down hv' hB hg) (A1N s), ?_, .castR hp Co.gr.symm hl⟩
    cases B' with
    | fn _ _ => exact .pf hu
    | pr _ _ => exact .pp hu
    | any => exact absurd rfl hB
    | int => exact absurd rfl hg
    | bool => exact absurd rfl hg
 ·by_cases hB : B' = .any
  ·subst hB
   by_cases hg : A'.gr = A'
   ·exact ⟨_, .refl, .inj hv' ⟨hA, hg⟩, .castR h .r .any⟩
   ·refine ⟨_, .one (.up hv' hA hg), .inj ?_ (A9I hA), .castR (.castR h Co.gr (hle.trans Le.gr)) .r .any⟩
    cases A' with
    | fn _ _ => exact .pf hv'
    | pr _ _ => exact .pp hv'
    | any => exact absurd rfl hA
    | int => exact absurd rfl hg
    | bool => exact absurd rfl hg
  ·cases hc with
   | l => exact absurd rfl hA
   | r => exact absurd rfl hB
   | int => exact ⟨v', .one (.cid hv' (.inr (.inl rfl))), hv', h⟩
   | bool => exact ⟨v', .one (.cid hv' (.inr (.inr rfl))), hv', h⟩
   | fn h1 h2 => exact ⟨_, .refl, .pf hv', .castR h (.fn h1 h2) hl⟩
   | pr h1 h2 => exact ⟨_, .refl, .pp hv', .castR h (.pr h1 h2) hl⟩
theorem A1D (h : GP Γ e e' A A') : Γ = D1 → GV e → ∃ v', Ss e' v' ∧ GV v' ∧ GP D1 e v' A A' := by
 induction h with
 | var _ _ => intro _ hv; cases hv
 | num => intro _ _; exact ⟨_, .refl, .num, .num⟩
 | tru => intro _ _; exact ⟨_, .refl, .tru, .tru⟩
 | lam hl h _ => intro hE _; subst hE; exact ⟨_, .refl, .lam, .lam hl h⟩
 | app _ _ _ _ => intro _ hv; cases hv
 | ar _ _ _ _ => intro _ hv; cases hv
 | ite _ _ _ _ _ _ => intro _ hv; cases hv
 | part _ _ => intro _ hv; cases hv
 | pair _ _ i j =>
  intro hE hv
  cases hv with
  | pair va vb =>
   obtain ⟨a', s1, v1, p1⟩ := i hE va
   obtain ⟨b', s2, v2, p2⟩ := j hE vb
   exact ⟨.pair a' b', (s1.ctx (fun x => .pair x _) fun _ _ => .pair1).trans (s2.ctx (fun x => .pair a' x) fun _ _ s => .pair2 v1 s), .pair v1 v2, .pair p1 p2⟩
 | castL _ h1 h2 i =>
  intro hE hv
  obtain ⟨v', s, hv', p⟩ := i hE hv.ofCast
  exact ⟨v', s, hv', .castL p h1 h2⟩
 | castR _ h1 h2 i =>
  intro hE hv
  obtain ⟨v', s, hv', p⟩ := i hE hv
  obtain ⟨u, s2, hu, p2⟩ := A5F _ hv hv' p h2 h1
  exact ⟨u, (A1N s).trans s2, hu, p2⟩
 | @castB Γ e e' A B A' B' l l' _ h1 h2 h3 i =>
  intro hE hv
  obtain ⟨w', s, hw', p⟩ := i hE hv.ofCast
  by_cases hB : B' = .any
  ·subst hB
   obtain ⟨u, s2, hu, p2⟩ := A5F l' hv.ofCast hw' p .any h2
   exact ⟨u, (A1N s).trans s2, hu, .castL p2 h1 .any⟩
  ·by_cases hA : A' = .any
   ·subst hA
    obtain ⟨u, s2, hu, p2⟩ := A5F l' hv hw' (.castL p h1 .any) h3 h2
    exact ⟨u, (A1N s).trans s2, hu, p2⟩
   ·have hle := p.le
    refine ⟨.cast A' B' l' w', A1N s, ?_, .castB p h1 h2 h3⟩
    cases hv with
    | inj _ _ => cases h3; exact absurd rfl hB
    | pf _ =>
     cases h3 with
     | any => exact absurd rfl hB
     | fn _ _ => cases hle with
      | any => exact absurd rfl hA
      | fn _ _ => exact .pf hw'
    | pp _ =>
     cases h3 with
     | any => exact absurd rfl hB
     | pr _ _ => cases hle with
      | any => exact absurd rfl hA
      | pr _ _ => exact .pp hw'
theorem B5k {f f' : GE} {U U' : GT} (h : GP Γ f f' U U') : ∀ {A B A' B' : GT}, Γ = D1 → U = .fn A B → U' = .fn A' B' → GV f → GV f' →
  ∀ {v v' r : GE}, GV v → GV v' → GP D1 v v' A A' → GS (.app f v) r → ∃ r', Ss (.app f' v') r' ∧ GP D1 r r' B B' := by
 induction h with
 | lam hl h _ =>
  intro A B A' B' hE hU hU' _ _ v v' r hv hv' hp s
  subst hE
  cases hU; cases hU'
  cases s with
  | app1 s => exact absurd s (GV.lam.noS _)
  | app2 _ s => exact absurd s (hv.noS _)
  | beta _ => exact ⟨_, .one (.beta hv'), GP.sub hp h (fun y hy => by unfold O8; rw [if_neg hy]) (by unfold O8; rw [if_pos rfl])⟩
 | castL h h1 h2 _ =>
  intro A B A' B' hE hU hU' hf hf' v v' r hv hv' hp s
  subst hE hU hU'
  cases hf with
  | pf hw =>
   cases s with
   | app1 s => exact absurd s ((GV.pf hw).noS _)
   | app2 _ s => exact absurd s (hv.noS _)
   | appx _ _ =>
    cases h1 with
    | fn c1 c2 =>
     have hle := h.le
     cases hle with
     | fn l1 l2 =>
      cases h2 with
      | fn l3 l4 => exact ⟨_, .refl, .castL (.app h (.castL hp c1.symm l1)) c2 l4⟩
 | @castR Γ0 f0 w' U0 C' D' l h h1 h2 i =>
  intro A B A' B' hE hU hU' hf hf' v v' r hv hv' hp s
  subst hE hU hU'
  cases hf' with
  | pf hw =>
   cases h1 with
   | fn c1 c2 =>
    have hle := h.le
    cases hle with
    | fn l1 l2 =>
     cases h2 with
     | fn l3 l4 =>
      obtain ⟨v'', s2, hv'', p2⟩ := A5F (-l) hv hv' hp l1 c1.symm
      obtain ⟨r', s3, p3⟩ := i rfl rfl rfl hf hw hv hv'' p2 s
      exact ⟨_, .step (.appx hw hv') (A1N ((s2.ctx (fun x => .app w' x) fun _ _ s => .app2 hw s).trans s3)), .castR p3 c2 l4⟩
 | castB h h1 h1' h2 _ =>
  intro A B A' B' hE hU hU' hf hf' v v' r hv hv' hp s
  subst hE hU hU'
  cases hf with
  | pf hw =>
   cases hf' with
   | pf hw' =>
    cases s with
    | app1 s => exact absurd s ((GV.pf hw).noS _)
    | app2 _ s => exact absurd s (hv.noS _)
    | appx _ _ =>
     cases h1 with
     | fn c1 c2 => cases h1' with
      | fn d1 d2 =>
       have hle := h.le
       cases hle with
       | fn l1 l2 =>
        cases h2 with
        | fn l3 l4 => exact ⟨_, .one (.appx hw' hv'), .castB (.app h (.castB hp c1.symm d1.symm l1)) c2 d2 l4⟩
 | app _ _ _ _ => intro _ _ _ _ _ _ _ hf; cases hf
 | ite _ _ _ _ _ _ => intro _ _ _ _ _ _ _ hf; cases hf
 | part _ _ => intro _ _ _ _ _ _ _ hf; cases hf
 | ar _ _ _ _ => intro _ _ _ _ _ _ _ hf; cases hf
 | var hx _ => intro _ _ _ _ hE; subst hE; cases hx
 | _ => intro _ _ _ _ _ hU; cases hU
theorem B5l {f f' : GE} {U U' : GT} (h : GP Γ f f' U U') : ∀ {A B A' B' : GT} {t : Bool}, Γ = D1 → U = .pr A B → U' = .pr A' B' → GV f → GV f' →
  ∀ {r : GE}, GS (.part t f) r → ∃ r', Ss (.part t f') r' ∧ GP D1 r r' (if t = true then B else A) (if t = true then B' else A') := by
 induction h with
 | pair ha hb _ _ =>
  intro A B A' B' t hE hU hU' hf hf' r s
  subst hE
  cases hU; cases hU'
  cases hf' with
  | pair va vb =>
   cases s with
   | part1 s => exact absurd s (hf.noS _)
   | part _ _ => exact ⟨_, .one (.part va vb), by cases t <;> assumption⟩
 | castL h h1 h2 _ =>
  intro A B A' B' t hE hU hU' hf hf' r s
  subst hE hU hU'
  cases hf with
  | pp hw =>
   cases s with
   | part1 s => exact absurd s ((GV.pp hw).noS _)
   | partx _ =>
    cases h1 with
    | pr c1 c2 =>
     have hle := h.le
     cases hle with
     | pr l1 l2 =>
      cases h2 with
      | pr l3 l4 => exact ⟨_, .refl, .castL (.part h) (by cases t <;> assumption) (by cases t <;> assumption)⟩
 | castR h h1 h2 i =>
  intro A B A' B' t hE hU hU' hf hf' r s
  subst hE hU hU'
  cases hf' with
  | pp hw =>
   cases h1 with
   | pr c1 c2 =>
    have hle := h.le
    cases hle with
    | pr l1 l2 =>
     cases h2 with
     | pr l3 l4 =>
      obtain ⟨r', s3, p3⟩ := i rfl rfl rfl hf hw s
      exact ⟨_, .step (.partx hw) (A1N s3), .castR p3 (by cases t <;> assumption) (by cases t <;> assumption)⟩
 | castB h h1 h1' h2 _ =>
  intro A B A' B' t hE hU hU' hf hf' r s
  subst hE hU hU'
  cases hf with
  | pp hw =>
   cases hf' with
   | pp hw' =>
    cases s with
    | part1 s => exact absurd s ((GV.pp hw).noS _)
    | partx _ =>
     cases h1 with
     | pr c1 c2 => cases h1' with
      | pr d1 d2 =>
       cases h2 with
       | pr l3 l4 => exact ⟨_, .one (.partx hw'), .castB (.part h) (by cases t <;> assumption) (by cases t <;> assumption) (by cases t <;> assumption)⟩
 | app _ _ _ _ => intro _ _ _ _ _ _ _ _ hf; cases hf
 | ite _ _ _ _ _ _ => intro _ _ _ _ _ _ _ _ hf; cases hf
 | part _ _ => intro _ _ _ _ _ _ _ _ hf; cases hf
 | ar _ _ _ _ => intro _ _ _ _ _ _ _ _ hf; cases hf
 | var hx _ => intro _ _ _ _ _ hE; subst hE; cases hx
 | _ => intro _ _ _ _ _ _ hU; cases hU
theorem A9K {n : Int} (h : GP D1 (.num n) e' A A') (hv : GV e') : A' = .int → e' = .num n := by
 intro hA
 cases h with
 | num => rfl
 | castR _ _ _ => subst hA; cases hv
theorem B5m {b : Bool} (h : GP D1 (.tru b) e' A A') (hv : GV e') : A' = .bool → e' = .tru b := by
 intro hA
 cases h with
 | tru => rfl
 | castR _ _ _ => subst hA; cases hv
theorem A9L {G : GT} {m : Int} {w : GE} (h : GP D1 (.cast G .any m w) v' .any .any) (hv' : GV v') : GP D1 w v' G .any := by
 cases h with
 | castL h _ _ => exact h
 | castR h _ _ =>
  have := h.le
  cases this
  cases hv' with
  | inj _ hg => exact absurd rfl hg.1
 | castB h _ hc _ => exact .castR h hc .any
theorem sim (h : GP Γ e e' A A') : Γ = D1 → ∀ {r : GE}, GS e r → ∃ r', Ss e' r' ∧ GP D1 r r' A A' := by
 induction h with
 | var _ _ => intro _ r s; cases s
 | num => intro _ r s; cases s
 | tru => intro _ r s; cases s
 | lam _ _ _ => intro _ r s; cases s
 | @app Γ f f' a a' A A' B B' hf ha i j =>
  intro hE r s
  have go : GV f → GV a → ∃ r', Ss (.app f' a') r' ∧ GP D1 r r' B B' := by
   intro vf va
   obtain ⟨F', s1, v1, p1⟩ := A1D hf hE vf
   obtain ⟨V', s2, v2, p2⟩ := A1D ha hE va
   obtain ⟨r', s3, p3⟩ := B5k p1 rfl rfl rfl vf v1 va v2 p2 s
   exact ⟨r', ((s1.ctx (fun x => .app x a') fun _ _ => .app1).trans (s2.ctx (fun x => .app F' x) fun _ _ s => .app2 v1 s)).trans s3, p3⟩
  cases s with
  | app1 s =>
   obtain ⟨r', s1, p⟩ := i hE s
   subst hE
   exact ⟨.app r' a', s1.ctx (fun x => .app x a') fun _ _ => .app1, .app p ha⟩
  | app2 vf s =>
   obtain ⟨F', s1, v1, p1⟩ := A1D hf hE vf
   obtain ⟨r', s2, p⟩ := j hE s
   exact ⟨.app F' r', (s1.ctx (fun x => .app x a') fun _ _ => .app1).trans (s2.ctx (fun x => .app F' x) fun _ _ s => .app2 v1 s), .app p1 p⟩
  | beta va => exact go .lam va
  | appx vf va => exact go (.pf vf) va
 | @ar Γ t a a' b b' ha hb i j =>
  intro hE r s
  cases s with
  | ar1 s =>
   obtain ⟨r', s1, p⟩ := i hE s
   subst hE
   exact ⟨.ar t r' b', s1.ctx (fun x => .ar t x b') fun _ _ => .ar1, .ar p hb⟩
  | ar2 va s =>
   obtain ⟨A', s1, v1, p1⟩ := A1D ha hE va
   obtain ⟨r', s2, p⟩ := j hE s
   exact ⟨.ar t A' r', (s1.ctx (fun x => .ar t x b') fun _ _ => .ar1).trans (s2.ctx (fun x => .ar t A' x) fun _ _ s => .ar2 v1 s), .ar p1 p⟩
  | ar =>
   obtain ⟨A', s1, v1, p1⟩ := A1D ha hE .num
   obtain ⟨B', s2, v2, p2⟩ := A1D hb hE .num
   obtain rfl := A9K p1 v1 rfl
   obtain rfl := A9K p2 v2 rfl
   refine ⟨_, ((s1.ctx (fun x => .ar t x b') fun _ _ => .ar1).trans (s2.ctx (fun x => .ar t _ x) fun _ _ s => .ar2 v1 s)).trans (.one .ar), ?_⟩
   unfold A3M
   cases t
   ·exact .num
   ·exact .tru
 | @ite Γ c c' a a' b b' A A' hc ha hb i _ _ =>
  intro hE r s
  cases s with
  | ite1 s =>
   obtain ⟨r', s1, p⟩ := i hE s
   subst hE
   exact ⟨.ite r' a' b', s1.ctx (fun x => .ite x a' b') fun _ _ => .ite1, .ite p ha hb⟩
  | ite =>
   obtain ⟨A', s1, v1, p1⟩ := A1D hc hE .tru
   obtain rfl := B5m p1 v1 rfl
   subst hE
   refine ⟨_, (s1.ctx (fun x => .ite x a' b') fun _ _ => .ite1).trans (.one .ite), ?_⟩
   split
   ·exact ha
   ·exact hb
 | @pair Γ a a' b b' A A' B B' ha hb i j =>
  intro hE r s
  cases s with
  | pair1 s =>
   obtain ⟨r', s1, p⟩ := i hE s
   subst hE
   exact ⟨.pair r' b', s1.ctx (fun x => .pair x b') fun _ _ => .pair1, .pair p hb⟩
  | pair2 va s =>
   obtain ⟨A', s1, v1, p1⟩ := A1D ha hE va
   obtain ⟨r', s2, p⟩ := j hE s
   exact ⟨.pair A' r', (s1.ctx (fun x => .pair x b') fun _ _ => .pair1).trans (s2.ctx (fun x => .pair A' x) fun _ _ s => .pair2 v1 s), .pair p1 p⟩
 | @part Γ t e e' A A' B B' h i =>
  intro hE r s
  have go : GV e → ∃ r', Ss (.part t e') r' ∧ GP D1 r r' (if t = true then B else A) (if t = true then B' else A') := by
   intro ve
   obtain ⟨E', s1, v1, p1⟩ := A1D h hE ve
   obtain ⟨r', s3, p3⟩ := B5l p1 rfl rfl rfl ve v1 s
   exact ⟨r', (s1.ctx (fun x => .part t x) fun _ _ => .part1).trans s3, p3⟩
  cases s with
  | part1 s =>
   obtain ⟨r', s1, p⟩ := i hE s
   exact ⟨.part t r', s1.ctx (fun x => .part t x) fun _ _ => .part1, .part p⟩
  | part va vb => exact go (.pair va vb)
  | partx v => exact go (.pp v)
 | @castL Γ e e' A B A' l h h1 h2 i =>
  intro hE r s
  have hle := h.le
  cases s with
  | cast1 s =>
   obtain ⟨r', s1, p⟩ := i hE s
   exact ⟨r', s1, .castL p h1 h2⟩
  | cid v _ => subst hE; exact ⟨e', .refl, h⟩
  | up v hA hg =>
   subst hE
   cases h2
   exact ⟨e', .refl, .castL (.castL h Co.gr .any) .r .any⟩
  | down v hB hg =>
   subst hE
   cases hle
   exact ⟨e', .refl, .castL (.castL h .l .any) Co.gr.symm .any⟩
  | hit v hg =>
   obtain ⟨v', s1, v1, p1⟩ := A1D h hE (.inj v hg)
   cases hle
   exact ⟨v', s1, A9L p1 v1⟩
 | @castR Γ e e' A A' B' l h h1 h2 i =>
  intro hE r s
  obtain ⟨r', s1, p⟩ := i hE s
  exact ⟨_, A1N s1, .castR p h1 h2⟩
 | @castB Γ e e' A B A' B' l l' h h1 h1' h2 i =>
  intro hE r s
  have hle := h.le
  cases s with
  | cast1 s =>
   obtain ⟨r', s1, p⟩ := i hE s
   exact ⟨_, A1N s1, .castB p h1 h1' h2⟩
  | cid v _ => subst hE; exact ⟨_, .refl, .castR h h1' h2⟩
  | up v hA hg =>
   subst hE
   cases h2
   exact ⟨_, .refl, .castL (.castL (.castR h h1' .any) Co.gr .any) .r .any⟩
  | down v hB hg =>
   subst hE
   cases hle
   exact ⟨_, .refl, .castR (.castL (.castL h .l .any) Co.gr.symm .any) .l h2⟩
  | hit v hg =>
   obtain ⟨v', s1, v1, p1⟩ := A1D h hE (.inj v hg)
   cases hle
   exact ⟨_, A1N s1, .castR (A9L p1 v1) .l h2⟩
inductive GX where
 | n (n : Int) | b (b : Bool) | p | f
def GE.tx : GE → GX
 | .num n => .n n
 | .tru b => .b b
 | .pair _ _ => .p
 | .cast _ (.fn _ _) _ _ => .f
 | .cast _ (.pr _ _) _ _ => .p
 | .cast _ _ _ e => e.tx
 | _ => .f
end Gw
end Go.Proofs.YtmceanphadildaaGreatDoor
namespace Go.Proofs.YtmceanphadildaaGreatDoor
namespace Gw
inductive GK where
 | ida | idi | idb
 | fn (c d : GK)
 | pr (c d : GK)
 | inj (c : GK)
 | prj (l : Int) (c : GK)
 | fl (l t : Int)
def GK.tg : GK → Int
 | .ida => 1
 | .idi => 2
 | .idb => 3
 | .fn _ _ => 4
 | .pr _ _ => 5
 | .inj c => c.tg
 | .prj _ _ => 0
 | .fl _ t => t
def GK.pl : GK → Bool
 | .idi => true
 | .idb => true
 | .fn _ _ => true
 | .pr _ _ => true
 | _ => false
def GK.md : GK → Bool
 | .ida => false
 | .prj _ _ => false
 | _ => true
def cmp : GK → GK → GK
 | .ida, b => b
 | .idi, b => b
 | .idb, b => b
 | .prj l a, b => .prj l (cmp a b)
 | .fl l t, _ => .fl l t
 | .inj a, .prj l d => if a.tg = d.tg then cmp a d else .fl l a.tg
 | .inj a, _ => .inj a
 | .fn c d, .fn c' d' => .fn (cmp c' c) (cmp d d')
 | .fn c d, .inj e => .inj (cmp (.fn c d) e)
 | .fn _ _, b => b
 | .pr c d, .pr c' d' => .pr (cmp c c') (cmp d d')
 | .pr c d, .inj e => .inj (cmp (.pr c d) e)
 | .pr _ _, b => b
termination_by a b => SizeOf.sizeOf a + SizeOf.sizeOf b
def fit : GK → GK → Bool
 | .ida, b => !b.md
 | .prj _ a, b => fit a b
 | .fl _ _, _ => true
 | .inj a, .prj _ d => if a.tg = d.tg then fit a d else true
 | .inj _, .ida => true
 | .inj _, _ => false
 | .idi, .fl _ t => decide (2 = t)
 | .idi, .inj e => fit .idi e
 | .idi, .idi => true
 | .idb, .fl _ t => decide (3 = t)
 | .idb, .inj e => fit .idb e
 | .idb, .idb => true
 | .fn _ _, .fl _ t => decide (4 = t)
 | .fn c d, .inj e => fit (.fn c d) e
 | .fn c d, .fn c' d' => fit c' c && fit d d'
 | .pr _ _, .fl _ t => decide (5 = t)
 | .pr c d, .inj e => fit (.pr c d) e
 | .pr c d, .pr c' d' => fit c c' && fit d d'
 | _, _ => false
termination_by a b => SizeOf.sizeOf a + SizeOf.sizeOf b
theorem A2N (a : GK) : cmp (.inj a) .ida = .inj a := by rw [cmp]; simp
theorem A9M (c d : GK) (l t : Int) : cmp (.fn c d) (.fl l t) = .fl l t := by rw [cmp] <;> simp
theorem A9N (c d : GK) (l t : Int) : cmp (.pr c d) (.fl l t) = .fl l t := by rw [cmp] <;> simp
def GT.tg : GT → Int
 | .any => 1
 | .int => 2
 | .bool => 3
 | .fn _ _ => 4
 | .pr _ _ => 5
inductive CT : GK → GT → GT → Prop
 | ida : CT .ida .any .any
 | idi : CT .idi .int .int
 | idb : CT .idb .bool .bool
 | fn {c d a b a' b' : _} : CT c a' a → CT d b b' → CT (.fn c d) (.fn a b) (.fn a' b')
 | pr {c d a b a' b' : _} : CT c a a' → CT d b b' → CT (.pr c d) (.pr a b) (.pr a' b')
 | inj {c A G : _} : CT c A G → c.pl = true → G.Gd → CT (.inj c) A .any
 | prj {l c G B : _} : CT c G B → c.md = true → G.Gd → l ≠ 0 → CT (.prj l c) .any B
 | fl {l t A B : _} : A ≠ .any → A.tg = t → l ≠ 0 → CT (.fl l t) A B
variable {c : GK}
theorem B5n (h : c.pl = true) : c.md = true := by cases c <;> first | rfl | cases h
variable {A B : GT}
theorem CT.plg (h : CT c A B) (hp : c.pl = true) : A ≠ .any ∧ B ≠ .any ∧ A.gr = B.gr ∧ c.tg = A.tg ∧ A.tg = B.tg := by
 cases h with
 | idi => exact ⟨by simp, by simp, rfl, rfl, rfl⟩
 | idb => exact ⟨by simp, by simp, rfl, rfl, rfl⟩
 | fn _ _ => exact ⟨by simp, by simp, rfl, rfl, rfl⟩
 | pr _ _ => exact ⟨by simp, by simp, rfl, rfl, rfl⟩
 | _ => cases hp
theorem CT.src (h : CT c A B) (hm : c.md = true) : A ≠ .any ∧ c.tg = A.tg := by
 cases h with
 | inj h hp _ => have := h.plg hp; exact ⟨this.1, this.2.2.2.1⟩
 | fl h1 h2 _ => exact ⟨h1, h2.symm⟩
 | idi => exact ⟨by simp, rfl⟩
 | idb => exact ⟨by simp, rfl⟩
 | fn _ _ => exact ⟨by simp, rfl⟩
 | pr _ _ => exact ⟨by simp, rfl⟩
 | _ => cases hm
theorem CT.any {c : GK} {B : GT} (h : CT c .any B) : c.md = false := by
 cases h with
 | ida => rfl
 | prj _ _ _ _ => rfl
 | inj h hp _ => exact absurd rfl (h.plg hp).1
 | fl h _ _ => exact absurd rfl h
theorem CT.mid (h : CT c A B) (hA : A ≠ .any) : c.md = true := by
 cases h <;> first | rfl | exact absurd rfl hA
theorem A4x {G H : GT} (hG : G.Gd) (hH : H.Gd) (h : G.tg = H.tg) : G = H := by
 rw [← hG.2, ← hH.2]
 cases G <;> cases H <;> first | rfl | (simp [GT.tg] at h)
theorem sz_pos (c : GK) : 0 < SizeOf.sizeOf c := by cases c <;> simp <;> omega
theorem A5G : ∀ (n : Nat) {a b : GK} {A B C : GT}, SizeOf.sizeOf a + SizeOf.sizeOf b ≤ n → CT a A B → CT b B C → fit a b = true ∧ CT (cmp a b) A C ∧ (a.pl = true → b.pl = true → (cmp a b).pl = true) ∧ (a.md = true → (cmp a b).md = true) := by
 intro n
 induction n with
 | zero => intro a b A B C h _ _; have := sz_pos a; have := sz_pos b; omega
 | succ n ih =>
  intro a b A B C hn ha hb
  cases ha with
  | ida => rw [fit, cmp]; exact ⟨by rw [hb.any]; rfl, hb, fun h => (by cases h), fun h => (by cases h)⟩
  | idi =>
   rw [cmp]
   refine ⟨?_, hb, fun _ h => h, fun _ => hb.mid zP0⟩
   cases hb with
   | idi => rw [fit]
   | inj h hp hG =>
    rw [fit]
    have := (ih (a := .idi) (by simp at hn ⊢; omega) .idi h).1
    exact this
   | fl _ h _ => rw [fit]; exact decide_eq_true h
  | idb =>
   rw [cmp]
   refine ⟨?_, hb, fun _ h => h, fun _ => hb.mid zP0⟩
   cases hb with
   | idb => rw [fit]
   | inj h hp hG =>
    rw [fit]
    have := (ih (a := .idb) (by simp at hn ⊢; omega) .idb h).1
    exact this
   | fl _ h _ => rw [fit]; exact decide_eq_true h
  | prj h hm hG hl =>
   rw [fit, cmp]
   obtain ⟨h1, h2, h3, h4⟩ := ih (by simp at hn ⊢; omega) h hb
   exact ⟨h1, .prj h2 (h4 hm) hG hl, fun h => (by cases h), fun h => (by cases h)⟩
  | fl h1 h2 h3 => rw [fit, cmp]; exact ⟨rfl, .fl h1 h2 h3, fun h => (by cases h), fun _ => rfl⟩
  | @inj c _ G h hp hG =>
   have hb0 := hb.any
   cases hb with
   | ida => rw [fit, A2N]; exact ⟨rfl, .inj h hp hG, fun h => (by cases h), fun _ => rfl⟩
   | @prj l d H _ hd hm hH hl =>
    rw [fit, cmp]
    by_cases ht : c.tg = d.tg
    ·rw [if_pos ht, if_pos ht]
     obtain ⟨p1, p2, p3, p4, p5⟩ := h.plg hp
     obtain ⟨q1, q2⟩ := hd.src hm
     have : G = H := A4x hG hH (by rw [← p5, ← p4, ht, q2])
     subst this
     obtain ⟨h1, h2, h3, h4⟩ := ih (by simp at hn ⊢; omega) h hd
     exact ⟨h1, h2, fun h => (by cases h), fun _ => h4 (B5n hp)⟩
    ·rw [if_neg ht, if_neg ht]
     have := h.plg hp
     exact ⟨rfl, .fl this.1 this.2.2.2.1.symm hl, fun h => (by cases h), fun _ => rfl⟩
   | inj _ _ _ => cases hb0
   | fl _ _ _ => cases hb0
  | @fn c d a b a' b' hc hd =>
   cases hb with
   | @fn c' d' _ _ a2 b2 hc' hd' =>
    rw [fit, cmp]
    obtain ⟨h1, h2, _, _⟩ := ih (a := c') (b := c) (by simp at hn ⊢; omega) hc' hc
    obtain ⟨h3, h4, _, _⟩ := ih (a := d) (b := d') (by simp at hn ⊢; omega) hd hd'
    exact ⟨by rw [h1, h3]; rfl, .fn h2 h4, fun _ _ => rfl, fun _ => rfl⟩
   | inj h hp hG =>
    rw [fit, cmp]
    obtain ⟨h1, h2, h3, h4⟩ := ih (by simp at hn ⊢; omega) (CT.fn hc hd) h
    exact ⟨h1, .inj h2 (h3 rfl hp) hG, fun _ h => (by cases h), fun _ => rfl⟩
   | fl h1 h2 h3 => rw [fit, A9M]; exact ⟨decide_eq_true h2, .fl zP0 h2 h3, fun _ h => (by cases h), fun _ => rfl⟩
  | @pr c d a b a' b' hc hd =>
   cases hb with
   | @pr c' d' _ _ a2 b2 hc' hd' =>
    rw [fit, cmp]
    obtain ⟨h1, h2, _, _⟩ := ih (a := c) (b := c') (by simp at hn ⊢; omega) hc hc'
    obtain ⟨h3, h4, _, _⟩ := ih (a := d) (b := d') (by simp at hn ⊢; omega) hd hd'
    exact ⟨by rw [h1, h3]; rfl, .pr h2 h4, fun _ _ => rfl, fun _ => rfl⟩
   | inj h hp hG =>
    rw [fit, cmp]
    obtain ⟨h1, h2, h3, h4⟩ := ih (by simp at hn ⊢; omega) (CT.pr hc hd) h
    exact ⟨h1, .inj h2 (h3 rfl hp) hG, fun _ h => (by cases h), fun _ => rfl⟩
   | fl h1 h2 h3 => rw [fit, A9N]; exact ⟨decide_eq_true h2, .fl zP0 h2 h3, fun _ h => (by cases h), fun _ => rfl⟩
theorem CT.cmp {a b : GK} {A B C : GT} (ha : CT a A B) (hb : CT b B C) : CT (cmp a b) A C := (A5G _ (Nat.le_refl _) ha hb).2.1
theorem CT.fit {a b : GK} {A B C : GT} (ha : CT a A B) (hb : CT b B C) : fit a b = true := (A5G _ (Nat.le_refl _) ha hb).1
variable {C : GT} {a b : GK}
theorem A9O (ha : CT a A B) (hb : CT b B C) (h1 : a.pl = true) (h2 : b.pl = true) : (Gw.cmp a b).pl = true := (A5G _ (Nat.le_refl _) ha hb).2.2.1 h1 h2
theorem B5o (ha : CT a A B) (hb : CT b B C) (h1 : a.md = true) : (Gw.cmp a b).md = true := (A5G _ (Nat.le_refl _) ha hb).2.2.2 h1
variable {l : Int}
theorem A1E {t : Int} (h : a.pl = true) : Gw.cmp a (.fl l t) = .fl l t := by
 cases a with
 | idi => rw [Gw.cmp]
 | idb => rw [Gw.cmp]
 | fn _ _ => exact A9M _ _ _ _
 | pr _ _ => exact A9N _ _ _ _
 | _ => cases h
theorem A0T {d : GK} (h : a.pl = true) : Gw.cmp a (.inj d) = .inj (Gw.cmp a d) := by
 cases a with
 | idi => rw [Gw.cmp, Gw.cmp]
 | idb => rw [Gw.cmp, Gw.cmp]
 | fn _ _ => rw [Gw.cmp]
 | pr _ _ => rw [Gw.cmp]
 | _ => cases h
theorem B5p : ∀ (n : Nat) {a b c : GK} {A B C D : GT}, SizeOf.sizeOf a + SizeOf.sizeOf b + SizeOf.sizeOf c ≤ n → CT a A B → CT b B C → CT c C D → Gw.cmp (Gw.cmp a b) c = Gw.cmp a (Gw.cmp b c) := by
 intro n
 induction n with
 | zero => intro a b c A B C D h _ _ _; have := sz_pos a; omega
 | succ n ih =>
  intro a b c A B C D hn ha hb hc
  
  have plain : a.pl = true → Gw.cmp (Gw.cmp a b) c = Gw.cmp a (Gw.cmp b c) := by
   intro hp
   obtain ⟨a1, a2, a3, a4, a5⟩ := ha.plg hp
   by_cases hbp : b.pl = true
   ·have hab := A9O ha hb hp hbp
    obtain ⟨b1, b2, b3, b4, b5⟩ := hb.plg hbp
    cases hc with
    | ida => exact absurd rfl b2
    | prj _ _ _ _ => exact absurd rfl b2
    | fl h1 h2 h3 => rw [A1E hab, A1E hbp, A1E hp]
    | inj h hcp hG => rw [A0T hab, A0T hbp, A0T hp, ih (by simp at hn ⊢; omega) ha hb h]
    | idi => cases hb with
     | idi => cases ha with
      | idi => rw [Gw.cmp, Gw.cmp]
      | _ => cases hp
     | _ => cases hbp
    | idb => cases hb with
     | idb => cases ha with
      | idb => rw [Gw.cmp, Gw.cmp]
      | _ => cases hp
     | _ => cases hbp
    | fn h1 h2 => cases hb with
     | fn h3 h4 => cases ha with
      | fn h5 h6 =>
       rw [Gw.cmp, Gw.cmp, Gw.cmp, Gw.cmp, ih (by simp at hn ⊢; omega) h1 h3 h5, ih (by simp at hn ⊢; omega) h6 h4 h2]
      | _ => cases hp
     | _ => cases hbp
    | pr h1 h2 => cases hb with
     | pr h3 h4 => cases ha with
      | pr h5 h6 =>
       rw [Gw.cmp, Gw.cmp, Gw.cmp, Gw.cmp, ih (by simp at hn ⊢; omega) h5 h3 h1, ih (by simp at hn ⊢; omega) h6 h4 h2]
      | _ => cases hp
     | _ => cases hbp
   ·cases hb with
    | ida => exact absurd rfl a2
    | prj _ _ _ _ => exact absurd rfl a2
    | fl h1 h2 h3 => rw [A1E hp, Gw.cmp, A1E hp]
    | @inj d _ G h hdp hG =>
     rw [A0T hp]
     have had := A9O ha h hp hdp
     cases hc with
     | ida => rw [A2N, A2N, A0T hp]
     | @prj l e H _ he hm hH hl =>
      rw [Gw.cmp, Gw.cmp]
      obtain ⟨d1, d2, d3, d4, d5⟩ := h.plg hdp
      have t1 : (Gw.cmp a d).tg = d.tg := by rw [((ha.cmp h).plg had).2.2.2.1, d4, a5]
      by_cases ht : d.tg = e.tg
      ·rw [if_pos (t1.trans ht), if_pos ht]
       obtain ⟨q1, q2⟩ := he.src hm
       have : G = H := A4x hG hH (by rw [← d5, ← d4, ht, q2])
       subst this
       exact ih (by simp at hn ⊢; omega) ha h he
      ·rw [if_neg (by rw [t1]; exact ht), if_neg ht, A1E hp, t1]
     | inj h4 h5 _ => exact absurd rfl (h4.plg h5).1
     | fl h4 _ _ => exact absurd rfl h4
    | idi => exact absurd rfl hbp
    | idb => exact absurd rfl hbp
    | fn _ _ => exact absurd rfl hbp
    | pr _ _ => exact absurd rfl hbp
  cases ha with
  | ida => rw [Gw.cmp, Gw.cmp]
  | idi => exact plain rfl
  | idb => exact plain rfl
  | fn _ _ => exact plain rfl
  | pr _ _ => exact plain rfl
  | fl _ _ _ => rw [Gw.cmp, Gw.cmp, Gw.cmp]
  | prj h hm hG hl => rw [Gw.cmp, Gw.cmp, Gw.cmp, ih (by simp at hn ⊢; omega) h hb hc]
  | @inj a' _ G h hp hG =>
   cases hb with
   | ida => rw [A2N, Gw.cmp.eq_1]
   | @prj l d H _ hd hm hH hl =>
    rw [Gw.cmp, Gw.cmp, Gw.cmp]
    obtain ⟨q1, q2⟩ := hd.src hm
    have hdc := B5o hd hc hm
    have t1 : (Gw.cmp d c).tg = d.tg := by rw [((hd.cmp hc).src hdc).2, q2]
    by_cases ht : a'.tg = d.tg
    ·rw [if_pos ht, if_pos (ht.trans t1.symm)]
     obtain ⟨p1, p2, p3, p4, p5⟩ := h.plg hp
     have : G = H := A4x hG hH (by rw [← p5, ← p4, ht, q2])
     subst this
     exact ih (by simp at hn ⊢; omega) h hd hc
    ·rw [if_neg ht, if_neg (by rw [t1]; exact ht), Gw.cmp]
   | inj h4 h5 _ => exact absurd rfl (h4.plg h5).1
   | fl h4 _ _ => exact absurd rfl h4
theorem B5q {D : GT} (ha : CT a A B) (hb : CT b B C) (hc : CT c C D) : Gw.cmp (Gw.cmp a b) c = Gw.cmp a (Gw.cmp b c) := B5p _ (Nat.le_refl _) ha hb hc
theorem A5H (h : CT c A B) : B = .any → Gw.cmp c .ida = c := by
 induction h with
 | ida => intro _; rw [Gw.cmp]
 | inj _ _ _ _ => intro _; exact A2N _
 | prj _ _ _ _ i => intro h; rw [Gw.cmp, i h]
 | fl _ _ _ => intro _; rw [Gw.cmp]
 | _ => intro h; cases h
mutual
def R9 : GT → Int → GK
 | .any, _ => .ida
 | .int, _ => .inj .idi
 | .bool, _ => .inj .idb
 | .fn a b, l => .inj (.fn (R0 a (-l)) (R9 b l))
 | .pr a b, l => .inj (.pr (R9 a l) (R9 b l))
def R0 : GT → Int → GK
 | .any, _ => .ida
 | .int, l => .prj l .idi
 | .bool, l => .prj l .idb
 | .fn a b, l => .prj l (.fn (R9 a (-l)) (R0 b l))
 | .pr a b, l => .prj l (.pr (R0 a l) (R0 b l))
end
def kc : GT → GT → Int → GK
 | .any, B, l => R0 B l
 | A, .any, l => R9 A l
 | .int, _, _ => .idi
 | .bool, _, _ => .idb
 | .fn a b, .fn c d, l => .fn (kc c a (-l)) (kc b d l)
 | .pr a b, .pr c d, l => .pr (kc a c l) (kc b d l)
 | _, _, _ => .ida
termination_by A B => SizeOf.sizeOf A + SizeOf.sizeOf B
theorem A9P : GT.int.Gd := ⟨by simp, rfl⟩
theorem A9Q : GT.bool.Gd := ⟨by simp, rfl⟩
theorem A9R : (GT.fn .any .any).Gd := ⟨by simp, rfl⟩
theorem A9S : (GT.pr .any .any).Gd := ⟨by simp, rfl⟩
mutual
theorem A1O : ∀ (A : GT) (l : Int), l ≠ 0 → CT (R9 A l) A .any
 | .any, l, _ => by rw [R9]; exact .ida
 | .int, l, _ => by rw [R9]; exact .inj .idi rfl A9P
 | .bool, l, _ => by rw [R9]; exact .inj .idb rfl A9Q
 | .fn a b, l, h => by rw [R9]; exact .inj (.fn (A3N a (-l) zO0) (A1O b l h)) rfl A9R
 | .pr a b, l, h => by rw [R9]; exact .inj (.pr (A1O a l h) (A1O b l h)) rfl A9S
theorem A3N : ∀ (A : GT) (l : Int), l ≠ 0 → CT (R0 A l) .any A
 | .any, l, _ => by rw [R0]; exact .ida
 | .int, l, h => by rw [R0]; exact .prj .idi rfl A9P h
 | .bool, l, h => by rw [R0]; exact .prj .idb rfl A9Q h
 | .fn a b, l, h => by rw [R0]; exact .prj (.fn (A1O a (-l) zO0) (A3N b l h)) rfl A9R h
 | .pr a b, l, h => by rw [R0]; exact .prj (.pr (A3N a l h) (A3N b l h)) rfl A9S h
end
theorem Z1 (B : GT) (l : Int) : kc .any B l = R0 B l := by rw [kc]
theorem A0w (A : GT) (l : Int) : kc A .any l = R9 A l := by cases A <;> first | (rw [kc, R0, R9]; done) | rw [kc] <;> simp
theorem A1j (a b c d : GT) (l : Int) : kc (.fn a b) (.fn c d) l = .fn (kc c a (-l)) (kc b d l) := by rw [kc]
theorem A1k (a b c d : GT) (l : Int) : kc (.pr a b) (.pr c d) l = .pr (kc a c l) (kc b d l) := by rw [kc]
theorem A4y (l : Int) : kc .int .int l = .idi := by rw [kc]; simp
theorem A4z (l : Int) : kc .bool .bool l = .idb := by rw [kc]; simp
theorem B5r (h : Co A B) : ∀ (l : Int), l ≠ 0 → CT (kc A B l) A B ∧ CT (kc B A l) B A := by
 induction h with
 | l => intro l h; rw [Z1, A0w]; exact ⟨A3N _ l h, A1O _ l h⟩
 | r => intro l h; rw [Z1, A0w]; exact ⟨A1O _ l h, A3N _ l h⟩
 | int => intro l _; rw [A4y]; exact ⟨.idi, .idi⟩
 | bool => intro l _; rw [A4z]; exact ⟨.idb, .idb⟩
 | fn h1 h2 i j =>
  intro l h
  rw [A1j, A1j]
  exact ⟨.fn (i (-l) zO0).2 (j l h).1, .fn (i (-l) zO0).1 (j l h).2⟩
 | pr _ _ i j => intro l h; rw [A1k, A1k]; exact ⟨.pr (i l h).1 (j l h).1, .pr (i l h).2 (j l h).2⟩
theorem A0j (h : Co A B) (l : Int) (hl : l ≠ 0) : CT (kc A B l) A B := (B5r h l hl).1
theorem B5s (l : Int) (hl : l ≠ 0) (hA : A ≠ .any) (hg : A.gr ≠ A) : cmp (kc A A.gr l) (kc A.gr .any l) = kc A .any l := by
 cases A with
 | any => exact absurd rfl hA
 | int => exact absurd rfl hg
 | bool => exact absurd rfl hg
 | fn a b =>
  rw [A0w, A0w, show (GT.fn a b).gr = .fn .any .any from rfl, A1j, Z1, A0w, R9, R9, R0, R9, A0T rfl, Gw.cmp, Gw.cmp, A5H (A1O b l hl) rfl]
 | pr a b =>
  rw [A0w, A0w, show (GT.pr a b).gr = .pr .any .any from rfl, A1k, A0w, A0w, R9, R9, R9, A0T rfl, Gw.cmp, A5H (A1O a l hl) rfl, A5H (A1O b l hl) rfl]
theorem B5t (l : Int) (hl : l ≠ 0) (hB : B ≠ .any) (hg : B.gr ≠ B) : cmp (kc .any B.gr l) (kc B.gr B l) = kc .any B l := by
 cases B with
 | any => exact absurd rfl hB
 | int => exact absurd rfl hg
 | bool => exact absurd rfl hg
 | fn a b =>
  rw [Z1, Z1, show (GT.fn a b).gr = .fn .any .any from rfl, A1j, Z1, A0w, R0, R0, R9, R0, Gw.cmp, Gw.cmp, Gw.cmp, A5H (A1O a (-l) zO0) rfl]
 | pr a b =>
  rw [Z1, Z1, show (GT.pr a b).gr = .pr .any .any from rfl, A1k, Z1, Z1, R0, R0, R0, Gw.cmp, Gw.cmp, Gw.cmp, Gw.cmp]
theorem A9T {G : GT} (m : Int) (hG : G.Gd) : ∃ d, kc G .any m = .inj d ∧ d.pl = true ∧ d.tg = G.tg := by
 rw [A0w]
 cases G with
 | any => exact absurd rfl hG.1
 | _ => rw [R9]; exact ⟨_, rfl, rfl, rfl⟩
theorem B5u {G : GT} (m : Int) (hG : G.Gd) : ∃ d, kc .any G m = .prj m d ∧ d.pl = true ∧ d.tg = G.tg := by
 rw [Z1]
 cases G with
 | any => exact absurd rfl hG.1
 | _ => rw [R0]; exact ⟨_, rfl, rfl, rfl⟩
end Gw
end Go.Proofs.YtmceanphadildaaGreatDoor
namespace Go.Proofs.YtmceanphadildaaGreatDoor
namespace Gw
inductive TH where
 | var (x : ByteArray)
 | num (n : Int)
 | tru (b : Bool)
 | lam (x : ByteArray) (A : GT) (e : TH)
 | app (f a : TH)
 | ar (s : Bool) (a b : TH)
 | ite (c a b : TH)
 | pair (a b : TH)
 | part (s : Bool) (e : TH)
 | conv (c : GK) (e : TH)
def TH.sub : TH → ByteArray → TH → TH
 | .var y, x, v => if y = x then v else .var y
 | .num n, _, _ => .num n
 | .tru b, _, _ => .tru b
 | .lam y A e, x, v => if y = x then .lam y A e else .lam y A (e.sub x v)
 | .app f a, x, v => .app (f.sub x v) (a.sub x v)
 | .ar s a b, x, v => .ar s (a.sub x v) (b.sub x v)
 | .ite c a b, x, v => .ite (c.sub x v) (a.sub x v) (b.sub x v)
 | .pair a b, x, v => .pair (a.sub x v) (b.sub x v)
 | .part s e, x, v => .part s (e.sub x v)
 | .conv c e, x, v => .conv c (e.sub x v)
def GK.vl : GK → Bool
 | .inj _ => true
 | .fn _ _ => true
 | .pr _ _ => true
 | _ => false
mutual
def TH.pln : TH → Bool
 | .var _ => false
 | .num _ => true
 | .tru _ => true
 | .lam _ _ _ => true
 | .app _ _ => false
 | .ar _ _ _ => false
 | .ite _ _ _ => false
 | .pair a b => a.val && b.val
 | .part _ _ => false
 | .conv _ _ => false
def TH.val : TH → Bool
 | .var _ => false
 | .num _ => true
 | .tru _ => true
 | .lam _ _ _ => true
 | .app _ _ => false
 | .ar _ _ _ => false
 | .ite _ _ _ => false
 | .pair a b => a.val && b.val
 | .part _ _ => false
 | .conv c e => c.vl && e.pln
end
def TH.cnv : TH → Bool
 | .conv _ _ => true
 | _ => false
theorem A5I {t : TH} (h : t.pln = true) : t.val = true := by
 cases t <;> first | rfl | (rw [TH.pln] at h; rw [TH.val]; exact h) | (rw [TH.pln] at h; cases h)
theorem A1l {t : TH} (h : t.pln = true) : t.cnv = false := by cases t <;> first | rfl | (rw [TH.pln] at h; cases h)
theorem A0U {t : TH} (h : t.val = true) (hc : t.cnv = false) : t.pln = true := by
 cases t <;> first | rfl | (rw [TH.val] at h; rw [TH.pln]; exact h) | (rw [TH.val] at h; cases h) | cases hc
def arT (s : Bool) (m n : Int) : TH := if s = true then .tru (decide (m < n)) else .num ((m + n) % 1000)
abbrev A0k := TH × Int × Int
def TH.nul : TH := .num 0
def Y5 (C : TH → TH) (r : A0k) : A0k := (C r.1, r.2.1, r.2.2)
def plS (e : TH) : GK → A0k
 | .ida => (e, 1, 0)
 | .idi => (e, 1, 0)
 | .idb => (e, 1, 0)
 | .fl l _ => (.nul, 2, l)
 | _ => (.nul, 3, 0)
def cvS (c : GK) : TH → A0k → A0k
 | .conv c0 u, _ => if fit c0 c = true then (.conv (cmp c0 c) u, 1, 0) else (.nul, 3, 0)
 | e, r => if e.pln = false then Y5 (fun x => .conv c x) r else plS e c
variable {c : GK}
theorem Y6 {e : TH} {r : A0k} (h : e.cnv = false) : cvS c e r = if e.pln = false then Y5 (fun x => .conv c x) r else plS e c := by
 cases e <;> first | rfl | cases h
variable {u : TH}
theorem A5J {c0 : GK} {r : A0k} (h : fit c0 c = true) : cvS c (.conv c0 u) r = (.conv (cmp c0 c) u, 1, 0) := if_pos h
def apS (a : TH) : TH → A0k
 | .lam x _ b => (b.sub x a, 1, 0)
 | .conv (.fn c d) (.lam x A b) => (.conv d (.app (.lam x A b) (.conv c a)), 1, 0)
 | _ => (.nul, 3, 0)
def arS (s : Bool) : TH → TH → A0k
 | .num m, .num n => (arT s m n, 1, 0)
 | _, _ => (.nul, 3, 0)
def itS (a b : TH) : TH → A0k
 | .tru s => (if s = true then a else b, 1, 0)
 | _ => (.nul, 3, 0)
def ptS (s : Bool) : TH → A0k
 | .pair a b => (if s = true then b else a, 1, 0)
 | .conv (.pr c d) (.pair a b) => (.conv (if s = true then d else c) (.part s (.pair a b)), 1, 0)
 | _ => (.nul, 3, 0)
def TH.stp : TH → A0k
 | .app f a => if f.val = false then Y5 (fun x => .app x a) f.stp else if a.val = false then Y5 (fun x => .app f x) a.stp else apS a f
 | .ar s a b => if a.val = false then Y5 (fun x => .ar s x b) a.stp else if b.val = false then Y5 (fun x => .ar s a x) b.stp else arS s a b
 | .ite c a b => if c.val = false then Y5 (fun x => .ite x a b) c.stp else itS a b c
 | .pair a b => if a.val = false then Y5 (fun x => .pair x b) a.stp else Y5 (fun x => .pair a x) b.stp
 | .part s e => if e.val = false then Y5 (fun x => .part s x) e.stp else ptS s e
 | .conv c e => cvS c e e.stp
 | .var _ => (.nul, 3, 0)
 | .num _ => (.nul, 3, 0)
 | .tru _ => (.nul, 3, 0)
 | .lam _ _ _ => (.nul, 3, 0)
def A3O (s : Bool) : GT := if s = true then .bool else .int
inductive ST : GC → TH → GT → Prop
 | var {Γ x A} : Γ x = some (A, A) → ST Γ (.var x) A
 | num {Γ n} : ST Γ (.num n) .int
 | tru {Γ b} : ST Γ (.tru b) .bool
 | lam {Γ x A B e} : ST (O8 Γ x A A) e B → ST Γ (.lam x A e) (.fn A B)
 | app {Γ f a A B} : ST Γ f (.fn A B) → ST Γ a A → ST Γ (.app f a) B
 | ar {Γ s a b T} : ST Γ a .int → ST Γ b .int → T = A3O s → ST Γ (.ar s a b) T
 | ite {Γ c a b A} : ST Γ c .bool → ST Γ a A → ST Γ b A → ST Γ (.ite c a b) A
 | pair {Γ a b A B} : ST Γ a A → ST Γ b B → ST Γ (.pair a b) (.pr A B)
 | part {Γ s e A B T} : ST Γ e (.pr A B) → T = (if s = true then B else A) → ST Γ (.part s e) T
 | conv {Γ c e A B} : ST Γ e A → CT c A B → ST Γ (.conv c e) B
variable {A : GT} {Γ : GC}
theorem ST.weak {e : TH} (h : ST Γ e A) : ∀ {Δ : GC}, (∀ y p, Γ y = some p → Δ y = some p) → ST Δ e A := by
 induction h with
 | var h => intro Δ hD; exact .var (hD _ _ h)
 | num => intro _ _; exact .num
 | tru => intro _ _; exact .tru
 | lam _ i =>
  intro Δ hD
  refine .lam (i fun z p hz => ?_)
  unfold O8 at hz ⊢
  split
  ·rename_i h2; rw [if_pos h2] at hz; exact hz
  ·rename_i h2; rw [if_neg h2] at hz; exact hD z p hz
 | app _ _ i j => intro Δ hD; exact .app (i hD) (j hD)
 | ar _ _ hT i j => intro Δ hD; exact .ar (i hD) (j hD) hT
 | ite _ _ _ i j k => intro Δ hD; exact .ite (i hD) (j hD) (k hD)
 | pair _ _ i j => intro Δ hD; exact .pair (i hD) (j hD)
 | part _ hT i => intro Δ hD; exact .part (i hD) hT
 | conv _ c i => intro Δ hD; exact .conv (i hD) c
theorem ST.sub {x : ByteArray} {v : TH} {A : GT} (hv : ST D1 v A) {Γ : GC} {e : TH} {B : GT} (h : ST Γ e B) :
  ∀ {Δ : GC}, (∀ y, x ≠ y → Γ y = Δ y) → Γ x = some (A, A) → ST Δ (e.sub x v) B := by
 induction h with
 | @var Γ y C hy =>
  intro Δ hD hx
  simp only [TH.sub]
  split
  ·rename_i he
   subst he
   rw [hx] at hy
   cases hy
   exact hv.weak fun z p hz => by cases hz
  ·rename_i he
   exact .var (by rw [← hD y (fun e => he e.symm)]; exact hy)
 | num => intro _ _ _; exact .num
 | tru => intro _ _ _; exact .tru
 | @lam Γ y C D e h i =>
  intro Δ hD hx
  simp only [TH.sub]
  by_cases he : y = x
  ·rw [if_pos he]
   refine .lam (h.weak fun z p hz => ?_)
   unfold O8 at hz ⊢
   split
   ·rename_i h2; rw [if_pos h2] at hz; exact hz
   ·rename_i h2; rw [if_neg h2] at hz; rw [← hD z (fun e => h2 (he.trans e))]; exact hz
  ·rw [if_neg he]
   refine .lam (i (fun z hz => ?_) ?_)
   ·unfold O8
    split
    ·rfl
    ·exact hD z hz
   ·unfold O8; rw [if_neg he]; exact hx
 | app _ _ i j => intro Δ hD hx; exact .app (i hD hx) (j hD hx)
 | ar _ _ hT i j => intro Δ hD hx; exact .ar (i hD hx) (j hD hx) hT
 | ite _ _ _ i j k => intro Δ hD hx; exact .ite (i hD hx) (j hD hx) (k hD hx)
 | pair _ _ i j => intro Δ hD hx; exact .pair (i hD hx) (j hD hx)
 | part _ hT i => intro Δ hD hx; exact .part (i hD hx) hT
 | conv _ c i => intro Δ hD hx; exact .conv (i hD hx) c
theorem A3P (h : ST D1 u A) (hp : u.pln = true) : A ≠ .any := by
 cases h <;> first | (simp; done) | (rw [TH.pln] at hp; cases hp)
theorem B5v (h : ST D1 u .int) (hp : u.pln = true) : ∃ n, u = .num n := by
 cases h <;> first | exact ⟨_, rfl⟩ | (rw [TH.pln] at hp; cases hp)
theorem B5w (h : ST D1 u .bool) (hp : u.pln = true) : ∃ n, u = .tru n := by
 cases h <;> first | exact ⟨_, rfl⟩ | (rw [TH.pln] at hp; cases hp)
variable {B : GT}
theorem A9U (h : ST D1 u (.fn A B)) (hp : u.pln = true) : ∃ x e, u = .lam x A e ∧ ST (O8 D1 x A A) e B := by
 cases h <;> first | exact ⟨_, _, rfl, by assumption⟩ | (rw [TH.pln] at hp; cases hp)
theorem A9V (h : ST D1 u (.pr A B)) (hp : u.pln = true) : ∃ a b, u = .pair a b ∧ a.val = true ∧ b.val = true ∧ ST D1 a A ∧ ST D1 b B := by
 cases h <;> first | (rw [TH.pln, Bool.and_eq_true] at hp; exact ⟨_, _, rfl, hp.1, hp.2, by assumption, by assumption⟩) | (rw [TH.pln] at hp; cases hp)
theorem A9W (h : CT c A B) (hv : c.vl = true) : B ≠ .int ∧ B ≠ .bool := by
 cases h <;> first | (cases hv; done) | (exact ⟨by simp, by simp⟩)
theorem A3Q {v : TH} (h : ST D1 v .int) (hv : v.val = true) : ∃ n, v = .num n := by
 by_cases hc : v.cnv = false
 ·exact B5v h (A0U hv hc)
 ·cases h with
  | conv hu hk =>
   rw [TH.val, Bool.and_eq_true] at hv
   exact absurd rfl (A9W hk hv.1).1
  | _ => exact absurd rfl hc
theorem A7m {v : TH} (h : ST D1 v .bool) (hv : v.val = true) : ∃ n, v = .tru n := by
 by_cases hc : v.cnv = false
 ·exact B5w h (A0U hv hc)
 ·cases h with
  | conv hu hk =>
   rw [TH.val, Bool.and_eq_true] at hv
   exact absurd rfl (A9W hk hv.1).2
  | _ => exact absurd rfl hc
theorem A4A {v : TH} (h : ST D1 v (.fn A B)) (hv : v.val = true) : (∃ x e, v = .lam x A e ∧ ST (O8 D1 x A A) e B) ∨
  ∃ c d x e A' B', v = .conv (.fn c d) (.lam x A' e) ∧ CT c A A' ∧ CT d B' B ∧ ST (O8 D1 x A' A') e B' := by
 by_cases hc : v.cnv = false
 ·exact .inl (A9U h (A0U hv hc))
 ·cases h with
  | @conv _ c u C _ hu hk =>
   rw [TH.val, Bool.and_eq_true] at hv
   cases hk with
   | fn h1 h2 =>
    obtain ⟨x, e, rfl, he⟩ := A9U hu hv.2
    exact .inr ⟨_, _, _, _, _, _, rfl, h1, h2, he⟩
   | _ => cases hv.1
  | _ => exact absurd rfl hc
theorem A4B {v : TH} (h : ST D1 v (.pr A B)) (hv : v.val = true) : (∃ a b, v = .pair a b ∧ a.val = true ∧ b.val = true ∧ ST D1 a A ∧ ST D1 b B) ∨
  ∃ c d a b A' B', v = .conv (.pr c d) (.pair a b) ∧ CT c A' A ∧ CT d B' B ∧ a.val = true ∧ b.val = true ∧ ST D1 a A' ∧ ST D1 b B' := by
 by_cases hc : v.cnv = false
 ·exact .inl (A9V h (A0U hv hc))
 ·cases h with
  | @conv _ c u C _ hu hk =>
   rw [TH.val, Bool.and_eq_true] at hv
   cases hk with
   | pr h1 h2 =>
    obtain ⟨a, b, rfl, h3, h4, h5, h6⟩ := A9V hu hv.2
    exact .inr ⟨_, _, _, _, _, _, rfl, h1, h2, h3, h4, h5, h6⟩
   | _ => cases hv.1
  | _ => exact absurd rfl hc
def A5K (A : GT) (r : A0k) : Prop := (r.2.1 = 1 ∧ r.2.2 = 0 ∧ ST D1 r.1 A) ∨ (r.2.1 = 2 ∧ r.2.2 ≠ 0)
theorem A5K.lift {r : A0k} (C : TH → TH) (h : A5K A r) (hC : ∀ t, ST D1 t A → ST D1 (C t) B) : A5K B (Y5 C r) := by
 rcases h with ⟨h1, h2, h3⟩ | ⟨h1, h2⟩
 ·exact .inl ⟨h1, h2, hC _ h3⟩
 ·exact .inr ⟨h1, h2⟩
theorem nf {b : Bool} (h : ¬ b = false) : b = true := by cases b <;> first | rfl | exact absurd rfl h
theorem A7n {t : TH} (h : ST Γ t A) : Γ = D1 → t.val = false → A5K A t.stp := by
 induction h with
 | var hx => intro hE; subst hE; cases hx
 | num => intro _ hv; cases hv
 | tru => intro _ hv; cases hv
 | lam _ _ => intro _ hv; cases hv
 | @app Γ f a A B hf ha i j =>
  intro hE _
  subst hE
  rw [TH.stp]
  split
  ·rename_i h1; exact (i rfl h1).lift _ fun t ht => .app ht ha
  ·split
   ·rename_i h1; exact (j rfl h1).lift _ fun t ht => .app hf ht
   ·rename_i h1 h2
    rcases A4A hf (nf h1) with ⟨x, e, rfl, he⟩ | ⟨c, d, x, e, A', B', rfl, hc, hd, he⟩
    ·exact .inl ⟨rfl, rfl, ha.sub he (fun y hy => by unfold O8; rw [if_neg hy]) (by unfold O8; rw [if_pos rfl])⟩
    ·exact .inl ⟨rfl, rfl, .conv (.app (.lam he) (.conv ha hc)) hd⟩
 | @ar Γ s a b T ha hb hT i j =>
  intro hE _
  subst hE hT
  rw [TH.stp]
  split
  ·rename_i h1; exact (i rfl h1).lift _ fun t ht => (.ar ht hb rfl)
  ·split
   ·rename_i h1; exact (j rfl h1).lift _ fun t ht => (.ar ha ht rfl)
   ·rename_i h1 h2
    obtain ⟨m, rfl⟩ := A3Q ha (nf h1)
    obtain ⟨n, rfl⟩ := A3Q hb (nf h2)
    refine .inl ⟨rfl, rfl, ?_⟩
    show ST D1 (arT s m n) (A3O s)
    unfold arT
    cases s
    ·exact .num
    ·exact .tru
 | @ite Γ c a b A hc ha hb i _ _ =>
  intro hE _
  subst hE
  rw [TH.stp]
  split
  ·rename_i h1; exact (i rfl h1).lift _ fun t ht => .ite ht ha hb
  ·rename_i h1
   obtain ⟨m, rfl⟩ := A7m hc (nf h1)
   refine .inl ⟨rfl, rfl, ?_⟩
   cases m
   ·exact hb
   ·exact ha
 | @pair Γ a b A B ha hb i j =>
  intro hE hv
  subst hE
  rw [TH.stp]
  split
  ·rename_i h1; exact (i rfl h1).lift _ fun t ht => .pair ht hb
  ·rename_i h1
   refine (j rfl ?_).lift _ fun t ht => .pair ha ht
   rw [TH.val, nf h1, Bool.true_and] at hv
   exact hv
 | @part Γ s e A B T he hT i =>
  intro hE _
  subst hE hT
  rw [TH.stp]
  by_cases h1 : e.val = false
  ·rw [if_pos h1]; exact (i rfl h1).lift _ fun t ht => .part ht rfl
  ·rw [if_neg h1]
   rcases A4B he (nf h1) with ⟨a, b, rfl, _, _, ha, hb⟩ | ⟨c, d, a, b, A', B', rfl, hc, hd, _, _, ha, hb⟩
   ·refine .inl ⟨rfl, rfl, ?_⟩
    cases s
    ·exact ha
    ·exact hb
   ·refine .inl ⟨rfl, rfl, ?_⟩
    have := ST.part (s := s) (ST.pair ha hb) rfl
    cases s
    ·exact .conv this hc
    ·exact .conv this hd
 | @conv Γ c e A B he hc i =>
  intro hE hv
  subst hE
  rw [TH.stp]
  by_cases hcn : e.cnv = false
  ·rw [Y6 hcn]
   split
   ·rename_i h1
    refine (i rfl ?_).lift _ fun t ht => .conv ht hc
    cases hv2 : e.val with
    | false => rfl
    | true => rw [A0U hv2 hcn] at h1; cases h1
   ·rename_i h1
    have hp := nf h1
    cases hc with
    | ida => exact absurd rfl (A3P he hp)
    | idi => exact .inl ⟨rfl, rfl, he⟩
    | idb => exact .inl ⟨rfl, rfl, he⟩
    | fl _ _ hl => exact .inr ⟨rfl, hl⟩
    | prj _ _ _ _ => exact absurd rfl (A3P he hp)
    | _ => rw [TH.val] at hv; rw [hp] at hv; cases hv
  ·cases he with
   | conv hu h0 =>
    rw [A5J (h0.fit hc)]
    exact .inl ⟨rfl, rfl, .conv hu (h0.cmp hc)⟩
   | _ => exact absurd rfl hcn
end Gw
end Go.Proofs.YtmceanphadildaaGreatDoor
namespace Go.Proofs.YtmceanphadildaaGreatDoor
namespace Gw
inductive Rs where
 | v (t : TH)
 | b (l : Int)
def fin (u : TH) : GK → Option Rs
 | .ida => some (.v u)
 | .idi => some (.v u)
 | .idb => some (.v u)
 | .fl l _ => some (.b l)
 | .prj _ _ => none
 | .inj c => some (.v (.conv (.inj c) u))
 | .fn c d => some (.v (.conv (.fn c d) u))
 | .pr c d => some (.v (.conv (.pr c d) u))
def Z2 (c : GK) : TH → Option Rs
 | .conv c0 u => fin u (cmp c0 c)
 | u => fin u c
def after (d : GK) : Rs → Option Rs
 | .v t => Z2 d t
 | .b l => some (.b l)
variable {u : TH} {c : GK}
theorem A0V (h : u.cnv = false) : Z2 c u = fin u c := by cases u <;> first | rfl | cases h
theorem A4C (h : u.cnv = false) (hc : c.vl = true) : Z2 c u = some (.v (.conv c u)) := by
 rw [A0V h]
 cases c <;> first | rfl | cases hc
theorem A9X {w : TH} (hu : u.pln = true) (h : fin u c = some (.v w)) : w.val = true := by
 cases c <;> simp only [fin, Option.some.injEq, Rs.v.injEq, reduceCtorEq] at h <;> subst h <;> first | exact A5I hu | (rw [TH.val, hu]; rfl)
theorem A5L {w : TH} (hu : u.val = true) (h : Z2 c u = some (.v w)) : w.val = true := by
 cases hc : u.cnv with
 | false => rw [A0V hc] at h; exact A9X (A0U hu hc) h
 | true =>
  cases u <;> first | cases hc | skip
  rw [TH.val, Bool.and_eq_true] at hu
  exact A9X hu.2 h
variable {A B : GT}
theorem A9Y (hu : u.pln = true) (ht : ST D1 u A) (hc : CT c A B) : ∃ r, fin u c = some r ∧ ∀ w, r = .v w → ST D1 w B := by
 have hA := A3P ht hu
 cases hc with
 | ida => exact absurd rfl hA
 | idi => exact ⟨_, rfl, fun w h => by cases h; exact ht⟩
 | idb => exact ⟨_, rfl, fun w h => by cases h; exact ht⟩
 | fn h1 h2 => exact ⟨_, rfl, fun w h => by cases h; exact .conv ht (.fn h1 h2)⟩
 | pr h1 h2 => exact ⟨_, rfl, fun w h => by cases h; exact .conv ht (.pr h1 h2)⟩
 | inj h1 h2 h3 => exact ⟨_, rfl, fun w h => by cases h; exact .conv ht (.inj h1 h2 h3)⟩
 | prj _ _ _ _ => exact absurd rfl hA
 | fl _ _ _ => exact ⟨_, rfl, fun w h => by cases h⟩
variable {Γ : GC}
theorem A0K (h : ST Γ (.conv c u) B) : ∃ A, ST Γ u A ∧ CT c A B := by
 cases h with
 | conv h1 h2 => exact ⟨_, h1, h2⟩
theorem A1P (hu : u.val = true) (ht : ST D1 u A) (hc : CT c A B) : ∃ r, Z2 c u = some r ∧ ∀ w, r = .v w → ST D1 w B := by
 cases hcn : u.cnv with
 | false => rw [A0V hcn]; exact A9Y (A0U hu hcn) ht hc
 | true =>
  cases u <;> first | cases hcn | skip
  rw [TH.val, Bool.and_eq_true] at hu
  obtain ⟨C, h1, h2⟩ := A0K ht
  exact A9Y hu.2 h1 (h2.cmp hc)
variable {a b : GK}
theorem A9Z (hu : u.pln = true) (ht : ST D1 u A) (ha : CT a A B) : fin u (cmp a b) = (fin u a).bind (after b) := by
 have hA := A3P ht hu
 have hcn := A1l hu
 cases ha with
 | ida => exact absurd rfl hA
 | prj _ _ _ _ => exact absurd rfl hA
 | idi => rw [cmp]; exact (A0V hcn).symm
 | idb => rw [cmp]; exact (A0V hcn).symm
 | fl _ _ _ => rw [cmp]; rfl
 | inj _ _ _ => rfl
 | fn _ _ => rfl
 | pr _ _ => rfl
variable {C : GT}
theorem A5M (hu : u.val = true) (ht : ST D1 u A) (ha : CT a A B) (hb : CT b B C) : Z2 (cmp a b) u = (Z2 a u).bind (after b) := by
 cases hcn : u.cnv with
 | false => rw [A0V hcn, A0V hcn]; exact A9Z (A0U hu hcn) ht ha
 | true =>
  cases u <;> first | cases hcn | skip
  rename_i c0 w
  rw [TH.val, Bool.and_eq_true] at hu
  obtain ⟨D, h1, h2⟩ := A0K ht
  show fin w (cmp c0 (cmp a b)) = (fin w (cmp c0 a)).bind (after b)
  rw [← B5q h2 ha hb]
  exact A9Z hu.2 h1 (h2.cmp ha)
inductive F9 : TH → Rs → Prop
 | num {n : _} : F9 (.num n) (.v (.num n))
 | tru {n : _} : F9 (.tru n) (.v (.tru n))
 | lam {x A e : _} : F9 (.lam x A e) (.v (.lam x A e))
 | pair {a b x y : _} : F9 a (.v x) → F9 b (.v y) → F9 (.pair a b) (.v (.pair x y))
 | pair1 {a b l : _} : F9 a (.b l) → F9 (.pair a b) (.b l)
 | pair2 {a b x l : _} : F9 a (.v x) → F9 b (.b l) → F9 (.pair a b) (.b l)
 | conv {c e x r : _} : F9 e (.v x) → Z2 c x = some r → F9 (.conv c e) r
 | conv1 {c e l : _} : F9 e (.b l) → F9 (.conv c e) (.b l)
 | app {f a x A e w r : _} : F9 f (.v (.lam x A e)) → F9 a (.v w) → F9 (e.sub x w) r → F9 (.app f a) r
 | appc {f a c d x A e w z r r' : _} : F9 f (.v (.conv (.fn c d) (.lam x A e))) → F9 a (.v w) → Z2 c w = some (.v z) → F9 (e.sub x z) r → after d r = some r' → F9 (.app f a) r'
 | appb {f a c d x A e w l : _} : F9 f (.v (.conv (.fn c d) (.lam x A e))) → F9 a (.v w) → Z2 c w = some (.b l) → F9 (.app f a) (.b l)
 | app1 {f a l : _} : F9 f (.b l) → F9 (.app f a) (.b l)
 | app2 {f a w l : _} : F9 f (.v w) → F9 a (.b l) → F9 (.app f a) (.b l)
 | ar {s a b m n : _} : F9 a (.v (.num m)) → F9 b (.v (.num n)) → F9 (.ar s a b) (.v (arT s m n))
 | ar1 {s a b l : _} : F9 a (.b l) → F9 (.ar s a b) (.b l)
 | ar2 {s a b w l : _} : F9 a (.v w) → F9 b (.b l) → F9 (.ar s a b) (.b l)
 | ite {c a b s r : _} : F9 c (.v (.tru s)) → F9 (if s = true then a else b) r → F9 (.ite c a b) r
 | ite1 {c a b l : _} : F9 c (.b l) → F9 (.ite c a b) (.b l)
 | part {s e a b r : _} : F9 e (.v (.pair a b)) → r = .v (if s = true then b else a) → F9 (.part s e) r
 | partc {s e c d a b r : _} : F9 e (.v (.conv (.pr c d) (.pair a b))) → Z2 (if s = true then d else c) (if s = true then b else a) = some r → F9 (.part s e) r
 | part1 {s e l : _} : F9 e (.b l) → F9 (.part s e) (.b l)
variable {r : Rs}
theorem F9.det {t : TH} (h : F9 t r) : ∀ {r'}, F9 t r' → r' = r := by
 induction h with
 | num => intro r' h; cases h; rfl
 | tru => intro r' h; cases h; rfl
 | lam => intro r' h; cases h; rfl
 | pair _ _ i j =>
  intro r' h
  cases h with
  | pair h1 h2 => cases i h1; cases j h2; rfl
  | pair1 h1 => cases i h1
  | pair2 _ h2 => cases j h2
 | pair1 _ i =>
  intro r' h
  cases h with
  | pair h1 h2 => cases i h1
  | pair1 h1 => cases i h1; rfl
  | pair2 h1 _ => cases i h1
 | pair2 _ _ i j =>
  intro r' h
  cases h with
  | pair h1 h2 => cases j h2
  | pair1 h1 => cases i h1
  | pair2 _ h2 => cases j h2; rfl
 | conv _ hc i =>
  intro r' h
  cases h with
  | conv h1 h2 => cases i h1; rw [hc] at h2; cases h2; rfl
  | conv1 h1 => cases i h1
 | conv1 _ i =>
  intro r' h
  cases h with
  | conv h1 h2 => cases i h1
  | conv1 h1 => cases i h1; rfl
 | app _ _ _ i j k =>
  intro r' h
  cases h with
  | app h1 h2 h3 => cases i h1; cases j h2; exact k h3
  | appc h1 _ _ _ _ => cases i h1
  | appb h1 _ _ => cases i h1
  | app1 h1 => cases i h1
  | app2 _ h2 => cases j h2
 | appc _ _ hc _ hd i j k =>
  intro r' h
  cases h with
  | app h1 h2 h3 => cases i h1
  | appc h1 h2 h3 h4 h5 => cases i h1; cases j h2; rw [hc] at h3; cases h3; cases k h4; rw [hd] at h5; cases h5; rfl
  | appb h1 h2 h3 => cases i h1; cases j h2; rw [hc] at h3; cases h3
  | app1 h1 => cases i h1
  | app2 _ h2 => cases j h2
 | appb _ _ hc i j =>
  intro r' h
  cases h with
  | app h1 h2 h3 => cases i h1
  | appc h1 h2 h3 h4 h5 => cases i h1; cases j h2; rw [hc] at h3; cases h3
  | appb h1 h2 h3 => cases i h1; cases j h2; rw [hc] at h3; cases h3; rfl
  | app1 h1 => cases i h1
  | app2 _ h2 => cases j h2
 | app1 _ i =>
  intro r' h
  cases h with
  | app h1 h2 h3 => cases i h1
  | appc h1 _ _ _ _ => cases i h1
  | appb h1 _ _ => cases i h1
  | app1 h1 => cases i h1; rfl
  | app2 h1 h2 => cases i h1
 | app2 _ _ i j =>
  intro r' h
  cases h with
  | app h1 h2 h3 => cases j h2
  | appc _ h2 _ _ _ => cases j h2
  | appb _ h2 _ => cases j h2
  | app1 h1 => cases i h1
  | app2 h1 h2 => cases j h2; rfl
 | ar _ _ i j =>
  intro r' h
  cases h with
  | ar h1 h2 => cases i h1; cases j h2; rfl
  | ar1 h1 => cases i h1
  | ar2 _ h2 => cases j h2
 | ar1 _ i =>
  intro r' h
  cases h with
  | ar h1 h2 => cases i h1
  | ar1 h1 => cases i h1; rfl
  | ar2 h1 h2 => cases i h1
 | ar2 _ _ i j =>
  intro r' h
  cases h with
  | ar h1 h2 => cases j h2
  | ar1 h1 => cases i h1
  | ar2 h1 h2 => cases j h2; rfl
 | ite _ _ i j =>
  intro r' h
  cases h with
  | ite h1 h2 => cases i h1; exact j h2
  | ite1 h1 => cases i h1
 | ite1 _ i =>
  intro r' h
  cases h with
  | ite h1 h2 => cases i h1
  | ite1 h1 => cases i h1; rfl
 | part _ hr i =>
  intro r' h
  cases h with
  | part h1 h2 => cases i h1; rw [h2, hr]
  | partc h1 _ => cases i h1
  | part1 h1 => cases i h1
 | partc _ hr i =>
  intro r' h
  cases h with
  | part h1 h2 => cases i h1
  | partc h1 h2 => cases i h1; rw [hr] at h2; cases h2; rfl
  | part1 h1 => cases i h1
 | part1 _ i =>
  intro r' h
  cases h with
  | part h1 h2 => cases i h1
  | partc h1 h2 => cases i h1
  | part1 h1 => cases i h1; rfl
theorem Y7 : ∀ (t : TH), t.val = true → F9 t (.v t) := by
 intro t
 induction t with
 | num _ => intro _; exact .num
 | tru _ => intro _; exact .tru
 | lam _ _ _ _ => intro _; exact .lam
 | pair a b i j => intro h; rw [TH.val, Bool.and_eq_true] at h; exact .pair (i h.1) (j h.2)
 | conv c e i => intro h; rw [TH.val, Bool.and_eq_true] at h; exact .conv (i (A5I h.2)) (A4C (A1l h.2) h.1)
 | _ => intro h; cases h
theorem F9.T {t : TH} (h : F9 t r) : ∀ {A}, ST D1 t A → ∀ w, r = .v w → ST D1 w A ∧ w.val = true := by
 induction h with
 | num => intro A h w e; cases e; exact ⟨h, rfl⟩
 | tru => intro A h w e; cases e; exact ⟨h, rfl⟩
 | lam => intro A h w e; cases e; exact ⟨h, rfl⟩
 | pair _ _ i j =>
  intro A h w e
  cases e
  cases h with
  | pair h1 h2 => exact ⟨.pair (i h1 _ rfl).1 (j h2 _ rfl).1, by rw [TH.val, (i h1 _ rfl).2, (j h2 _ rfl).2]; rfl⟩
 | conv _ hc i =>
  intro A h w e
  subst e
  obtain ⟨B, h1, h2⟩ := A0K h
  obtain ⟨h3, h4⟩ := i h1 _ rfl
  obtain ⟨r, h5, h6⟩ := A1P h4 h3 h2
  rw [hc] at h5
  cases h5
  exact ⟨h6 _ rfl, A5L h4 hc⟩
 | app _ _ _ i j k =>
  intro A h w e
  subst e
  cases h with
  | app h1 h2 =>
   have hf := (i h1 _ rfl).1
   have ha := (j h2 _ rfl).1
   cases hf with
   | lam he => exact k (ha.sub he (fun y hy => by unfold O8; rw [if_neg hy]) (by unfold O8; rw [if_pos rfl])) _ rfl
 | @appc _ _ _ _ _ _ _ _ _ r0 _ _ _ hc _ hd i j k =>
  intro A h w e
  subst e
  cases h with
  | app h1 h2 =>
   have hf := (i h1 _ rfl).1
   obtain ⟨ha, hav⟩ := j h2 _ rfl
   obtain ⟨C, hl, hk⟩ := A0K hf
   cases hl with
   | lam he => cases hk with
    | fn k1 k2 =>
     obtain ⟨r1, h5, h6⟩ := A1P hav ha k1
     rw [hc] at h5
     cases h5
     have hs := (h6 _ rfl).sub he (Δ := D1) (fun y hy => by unfold O8; rw [if_neg hy]) (by unfold O8; rw [if_pos rfl])
     cases r0 with
     | b l => cases hd
     | v t =>
      obtain ⟨g1, g2⟩ := k hs _ rfl
      obtain ⟨r2, h7, h8⟩ := A1P g2 g1 k2
      have hd' : Z2 _ t = some (.v w) := hd
      rw [hd'] at h7
      cases h7
      exact ⟨h8 _ rfl, A5L g2 hd'⟩
 | @ar s _ _ _ _ _ _ i j =>
  intro A h w e
  cases e
  cases h with
  | ar h1 h2 hT =>
   subst hT
   unfold arT
   cases s
   ·exact ⟨.num, rfl⟩
   ·exact ⟨.tru, rfl⟩
 | ite _ _ i j =>
  intro A h w e
  cases h with
  | ite h1 h2 h3 => exact j (by split <;> assumption) w e
 | @part s _ _ _ _ _ hr i =>
  intro A h w e
  subst hr
  cases e
  cases h with
  | part h1 hT =>
   subst hT
   obtain ⟨h2, h3⟩ := i h1 _ rfl
   rw [TH.val, Bool.and_eq_true] at h3
   cases h2 with
   | pair h4 h5 =>
    cases s
    ·exact ⟨h4, h3.1⟩
    ·exact ⟨h5, h3.2⟩
 | @partc s _ _ _ _ _ _ _ hr i =>
  intro A h w e
  subst e
  cases h with
  | part h1 hT =>
   subst hT
   obtain ⟨h2, h3⟩ := i h1 _ rfl
   rw [TH.val, TH.pln, Bool.and_eq_true, Bool.and_eq_true] at h3
   obtain ⟨C, hl, hk⟩ := A0K h2
   cases hl with
   | pair h4 h5 => cases hk with
    | pr k1 k2 =>
     cases s
     ·obtain ⟨r1, g1, g2⟩ := A1P h3.2.1 h4 k1
      have hr' : some r1 = some (.v w) := g1.symm.trans hr
      cases hr'
      exact ⟨g2 _ rfl, A5L h3.2.1 hr⟩
     ·obtain ⟨r1, g1, g2⟩ := A1P h3.2.2 h5 k2
      have hr' : some r1 = some (.v w) := g1.symm.trans hr
      cases hr'
      exact ⟨g2 _ rfl, A5L h3.2.2 hr⟩
 | _ => intro A h w e; cases e
end Gw
end Go.Proofs.YtmceanphadildaaGreatDoor
namespace Go.Proofs.YtmceanphadildaaGreatDoor
namespace Gw
variable {A : GT} {Γ : GC}
theorem A90 {t : TH} (h : ST Γ t A) : Γ = D1 → t.val = false → (t.stp.2.1 = 1 → ∀ r, F9 t.stp.1 r → F9 t r) ∧ (t.stp.2.1 = 2 → F9 t (.b t.stp.2.2)) := by
 induction h with
 | var hx => intro hE; subst hE; cases hx
 | num => intro _ hv; cases hv
 | tru => intro _ hv; cases hv
 | lam _ _ => intro _ hv; cases hv
 | @app Γ f a A B hf ha i j =>
  intro hE _
  subst hE
  rw [TH.stp]
  split
  ·rename_i h1
   obtain ⟨i1, i2⟩ := i rfl h1
   refine ⟨fun hc r hr => ?_, fun hc => .app1 (i2 hc)⟩
   cases hr with
   | app g1 g2 g3 => exact .app (i1 hc _ g1) g2 g3
   | appc g1 g2 g3 g4 g5 => exact .appc (i1 hc _ g1) g2 g3 g4 g5
   | appb g1 g2 g3 => exact .appb (i1 hc _ g1) g2 g3
   | app1 g1 => exact .app1 (i1 hc _ g1)
   | app2 g1 g2 => exact .app2 (i1 hc _ g1) g2
  ·rename_i h1
   split
   ·rename_i h2
    obtain ⟨j1, j2⟩ := j rfl h2
    refine ⟨fun hc r hr => ?_, fun hc => .app2 (Y7 f (nf h1)) (j2 hc)⟩
    cases hr with
    | app g1 g2 g3 => exact .app g1 (j1 hc _ g2) g3
    | appc g1 g2 g3 g4 g5 => exact .appc g1 (j1 hc _ g2) g3 g4 g5
    | appb g1 g2 g3 => exact .appb g1 (j1 hc _ g2) g3
    | app1 g1 => exact .app1 g1
    | app2 g1 g2 => exact .app2 g1 (j1 hc _ g2)
   ·rename_i h2
    have hva := Y7 a (nf h2)
    rcases A4A hf (nf h1) with ⟨x, e, rfl, he⟩ | ⟨c, d, x, e, A', B', rfl, hc, hd, he⟩
    ·refine ⟨fun _ r hr => .app .lam hva hr, fun hc => ?_⟩
     exact absurd hc (by simp [apS])
    ·refine ⟨fun _ r hr => ?_, fun hc => absurd hc (by simp [apS])⟩
     have hf2 : F9 (.conv (.fn c d) (.lam x A' e)) (.v (.conv (.fn c d) (.lam x A' e))) := Y7 _ rfl
     cases hr with
     | conv g1 g2 =>
      cases g1 with
      | app k1 k2 k3 =>
       cases k1
       cases k2 with
       | conv m1 m2 =>
        have := hva.det m1
        cases this
        exact .appc hf2 hva m2 k3 g2
      | appc k1 => cases k1
     | conv1 g1 =>
      cases g1 with
      | app k1 k2 k3 =>
       cases k1
       cases k2 with
       | conv m1 m2 =>
        have := hva.det m1
        cases this
        exact .appc hf2 hva m2 k3 rfl
      | appc k1 => cases k1
      | appb k1 => cases k1
      | app1 k1 => cases k1
      | app2 k1 k2 =>
       cases k2 with
       | conv m1 m2 =>
        have := hva.det m1
        cases this
        exact .appb hf2 hva m2
       | conv1 m1 => exact absurd (hva.det m1) zP0
 | @ar Γ s a b T ha hb hT i j =>
  intro hE _
  subst hE hT
  rw [TH.stp]
  split
  ·rename_i h1
   obtain ⟨i1, i2⟩ := i rfl h1
   refine ⟨fun hc r hr => ?_, fun hc => .ar1 (i2 hc)⟩
   cases hr with
   | ar g1 g2 => exact .ar (i1 hc _ g1) g2
   | ar1 g1 => exact .ar1 (i1 hc _ g1)
   | ar2 g1 g2 => exact .ar2 (i1 hc _ g1) g2
  ·rename_i h1
   split
   ·rename_i h2
    obtain ⟨j1, j2⟩ := j rfl h2
    refine ⟨fun hc r hr => ?_, fun hc => .ar2 (Y7 a (nf h1)) (j2 hc)⟩
    cases hr with
    | ar g1 g2 => exact .ar g1 (j1 hc _ g2)
    | ar1 g1 => exact .ar1 g1
    | ar2 g1 g2 => exact .ar2 g1 (j1 hc _ g2)
   ·rename_i h2
    obtain ⟨m, rfl⟩ := A3Q ha (nf h1)
    obtain ⟨n, rfl⟩ := A3Q hb (nf h2)
    refine ⟨fun _ r hr => ?_, fun hc => absurd hc (by simp [arS])⟩
    have hv : F9 (arT s m n) (.v (arT s m n)) := Y7 _ (by unfold arT; split <;> rfl)
    have := hv.det hr
    rw [this]
    exact .ar .num .num
 | @ite Γ c a b A hc ha hb i _ _ =>
  intro hE _
  subst hE
  rw [TH.stp]
  split
  ·rename_i h1
   obtain ⟨i1, i2⟩ := i rfl h1
   refine ⟨fun hc r hr => ?_, fun hc => .ite1 (i2 hc)⟩
   cases hr with
   | ite g1 g2 => exact .ite (i1 hc _ g1) g2
   | ite1 g1 => exact .ite1 (i1 hc _ g1)
  ·rename_i h1
   obtain ⟨m, rfl⟩ := A7m hc (nf h1)
   exact ⟨fun _ r hr => .ite .tru hr, fun hc => absurd hc (by simp [itS])⟩
 | @pair Γ a b A B ha hb i j =>
  intro hE hv
  subst hE
  rw [TH.stp]
  split
  ·rename_i h1
   obtain ⟨i1, i2⟩ := i rfl h1
   refine ⟨fun hc r hr => ?_, fun hc => .pair1 (i2 hc)⟩
   cases hr with
   | pair g1 g2 => exact .pair (i1 hc _ g1) g2
   | pair1 g1 => exact .pair1 (i1 hc _ g1)
   | pair2 g1 g2 => exact .pair2 (i1 hc _ g1) g2
  ·rename_i h1
   have h2 : b.val = false := by rw [TH.val, nf h1, Bool.true_and] at hv; exact hv
   obtain ⟨j1, j2⟩ := j rfl h2
   refine ⟨fun hc r hr => ?_, fun hc => .pair2 (Y7 a (nf h1)) (j2 hc)⟩
   cases hr with
   | pair g1 g2 => exact .pair g1 (j1 hc _ g2)
   | pair1 g1 => exact .pair1 g1
   | pair2 g1 g2 => exact .pair2 g1 (j1 hc _ g2)
 | @part Γ s e A B T he hT i =>
  intro hE _
  subst hE hT
  rw [TH.stp]
  by_cases h1 : e.val = false
  ·rw [if_pos h1]
   obtain ⟨i1, i2⟩ := i rfl h1
   refine ⟨fun hc r hr => ?_, fun hc => .part1 (i2 hc)⟩
   cases hr with
   | part g1 g2 => exact .part (i1 hc _ g1) g2
   | partc g1 g2 => exact .partc (i1 hc _ g1) g2
   | part1 g1 => exact .part1 (i1 hc _ g1)
  ·rw [if_neg h1]
   have hve := Y7 e (nf h1)
   rcases A4B he (nf h1) with ⟨a, b, rfl, hav, hbv, ha, hb⟩ | ⟨c, d, a, b, A', B', rfl, hc, hd, hav, hbv, ha, hb⟩
   ·refine ⟨fun _ r hr => ?_, fun hc => absurd hc (by simp [ptS])⟩
    have hv : F9 (if s = true then b else a) (.v (if s = true then b else a)) := by
     cases s
     ·exact Y7 a hav
     ·exact Y7 b hbv
    have := hv.det hr
    exact .part hve this
   ·refine ⟨fun _ r hr => ?_, fun hc => absurd hc (by simp [ptS])⟩
    have hp : F9 (.pair a b) (.v (.pair a b)) := .pair (Y7 a hav) (Y7 b hbv)
    have hq : F9 (.part s (.pair a b)) (.v (if s = true then b else a)) := .part hp rfl
    cases hr with
    | conv g1 g2 =>
     have := hq.det g1
     cases this
     exact .partc hve g2
    | conv1 g1 => exact absurd (hq.det g1) zP0
 | @conv Γ c e A B he hc i =>
  intro hE hv
  subst hE
  rw [TH.stp]
  by_cases hcn : e.cnv = false
  ·rw [Y6 hcn]
   split
   ·rename_i h1
    have h2 : e.val = false := by
     cases hv2 : e.val with
     | false => rfl
     | true => rw [A0U hv2 hcn] at h1; cases h1
    obtain ⟨i1, i2⟩ := i rfl h2
    refine ⟨fun hc r hr => ?_, fun hc => .conv1 (i2 hc)⟩
    cases hr with
    | conv g1 g2 => exact .conv (i1 hc _ g1) g2
    | conv1 g1 => exact .conv1 (i1 hc _ g1)
   ·rename_i h1
    have hp := nf h1
    have hve := Y7 e (A5I hp)
    have hcap : Z2 c e = fin e c := A0V (A1l hp)
    cases hc with
    | ida => exact absurd rfl (A3P he hp)
    | idi => exact ⟨fun _ r hr => by have := hve.det hr; rw [this]; exact .conv hve (by rw [hcap]; rfl), fun hc => absurd hc (by simp [plS])⟩
    | idb => exact ⟨fun _ r hr => by have := hve.det hr; rw [this]; exact .conv hve (by rw [hcap]; rfl), fun hc => absurd hc (by simp [plS])⟩
    | fl _ _ hl => exact ⟨fun hc => absurd hc (by simp [plS]), fun _ => .conv hve (by rw [hcap]; rfl)⟩
    | prj _ _ _ _ => exact absurd rfl (A3P he hp)
    | _ => rw [TH.val] at hv; rw [hp] at hv; cases hv
  ·cases he with
   | @conv _ c0 u A0 _ hu h0 =>
    rw [A5J (h0.fit hc)]
    refine ⟨fun _ r hr => ?_, fun h2 => absurd h2 zP0⟩
    cases hr with
    | conv g1 g2 =>
     obtain ⟨t1, t2⟩ := g1.T hu _ rfl
     rw [A5M t2 t1 h0 hc] at g2
     cases h3 : Z2 c0 _ with
     | none => rw [h3] at g2; cases g2
     | some r0 =>
      rw [h3] at g2
      cases r0 with
      | v y => exact .conv (.conv g1 h3) g2
      | b l =>
       have : r = .b l := by cases g2; rfl
       rw [this]
       exact .conv1 (.conv g1 h3)
    | conv1 g1 => exact .conv1 (.conv1 g1)
   | _ => exact absurd rfl hcn
end Gw
end Go.Proofs.YtmceanphadildaaGreatDoor
namespace Go.Proofs.YtmceanphadildaaGreatDoor
open Tryz Go.Proofs.Tryz
namespace Gw
def GK.idn : GK → Bool
 | .ida => true
 | .idi => true
 | .idb => true
 | .fn c d => c.idn && d.idn
 | .pr c d => c.idn && d.idn
 | _ => false
theorem A3d : ∀ {c : GK} {A B : GT}, CT c A B → c.idn = true → A = B := by
 intro c A B h
 induction h with
 | ida => intro _; rfl
 | idi => intro _; rfl
 | idb => intro _; rfl
 | fn _ _ i j => intro h; rw [GK.idn, Bool.and_eq_true] at h; rw [i h.1, j h.2]
 | pr _ _ i j => intro h; rw [GK.idn, Bool.and_eq_true] at h; rw [i h.1, j h.2]
 | inj _ _ _ _ => intro h; cases h
 | prj _ _ _ _ _ => intro h; cases h
 | fl _ _ _ => intro h; cases h
variable {B : GT} {c : GK}
theorem A7o (h : CT c .any B) (hi : c.idn = true) : c = .ida := by
 cases h <;> first | rfl | cases hi
variable {A : GT}
theorem A91 (h : CT c A .any) (hi : c.idn = true) : c = .ida := by
 have := A3d h hi
 subst this
 exact A7o h hi
theorem A92 (h : CT c A B) (hi : c.idn = true) (hA : A ≠ .any) : c.pl = true := by
 cases h <;> first | rfl | (cases hi; done) | exact absurd rfl hA
theorem A93 : ∀ {k : GK} {A B : GT}, CT k A B → (∀ {c : GK} {C : GT}, CT c B C → c.idn = true → cmp k c = k) ∧ (∀ {d : GK} {D : GT}, CT d D A → d.idn = true → cmp d k = k) := by
 intro k A B h
 induction h with
 | ida => exact ⟨fun hc hi => by rw [A7o hc hi, cmp], fun hc hi => by rw [A91 hc hi, cmp]⟩
 | idi =>
  refine ⟨fun hc hi => ?_, fun hc hi => ?_⟩
  ·have := A3d hc hi; subst this; cases hc <;> first | (cases hi; done) | rw [cmp]
  ·have := A3d hc hi; subst this; cases hc <;> first | (cases hi; done) | rw [cmp]
 | idb =>
  refine ⟨fun hc hi => ?_, fun hc hi => ?_⟩
  ·have := A3d hc hi; subst this; cases hc <;> first | (cases hi; done) | rw [cmp]
  ·have := A3d hc hi; subst this; cases hc <;> first | (cases hi; done) | rw [cmp]
 | fn h1 h2 i j =>
  refine ⟨fun hc hi => ?_, fun hc hi => ?_⟩
  ·cases hc with
   | fn h3 h4 => rw [GK.idn, Bool.and_eq_true] at hi; rw [cmp, i.2 h3 hi.1, j.1 h4 hi.2]
   | _ => cases hi
  ·cases hc with
   | fn h3 h4 => rw [GK.idn, Bool.and_eq_true] at hi; rw [cmp, i.1 h3 hi.1, j.2 h4 hi.2]
   | _ => cases hi
 | pr h1 h2 i j =>
  refine ⟨fun hc hi => ?_, fun hc hi => ?_⟩
  ·cases hc with
   | pr h3 h4 => rw [GK.idn, Bool.and_eq_true] at hi; rw [cmp, i.1 h3 hi.1, j.1 h4 hi.2]
   | _ => cases hi
  ·cases hc with
   | pr h3 h4 => rw [GK.idn, Bool.and_eq_true] at hi; rw [cmp, i.2 h3 hi.1, j.2 h4 hi.2]
   | _ => cases hi
 | inj h1 h2 h3 i =>
  refine ⟨fun hc hi => by rw [A7o hc hi, A2N], fun hc hi => ?_⟩
  have := A3d hc hi; subst this
  rw [A0T (A92 hc hi (h1.plg h2).1), i.2 hc hi]
 | prj h1 h2 h3 h4 i => exact ⟨fun hc hi => by rw [cmp, i.1 hc hi], fun hc hi => by rw [A91 hc hi, cmp]⟩
 | fl h1 h2 h3 =>
  refine ⟨fun hc hi => by rw [cmp], fun hc hi => ?_⟩
  have := A3d hc hi; subst this
  exact A1E (A92 hc hi h1)
variable {C : GT}
theorem B5x {k : GK} (h : CT k A B) (hc : CT c B C) (hi : c.idn = true) : cmp k c = k := (A93 h).1 hc hi
theorem A94 {k d : GK} {D : GT} (h : CT k A B) (hd : CT d D A) (hi : d.idn = true) : cmp d k = k := (A93 h).2 hd hi
inductive U : TH → TH → Prop
 | var {x : _} : U (.var x) (.var x)
 | num {n : _} : U (.num n) (.num n)
 | tru {b : _} : U (.tru b) (.tru b)
 | lam {x A e e' : _} : U e e' → U (.lam x A e) (.lam x A e')
 | app {f a f' a' : _} : U f f' → U a a' → U (.app f a) (.app f' a')
 | ar {s a b a' b' : _} : U a a' → U b b' → U (.ar s a b) (.ar s a' b')
 | ite {c a b c' a' b' : _} : U c c' → U a a' → U b b' → U (.ite c a b) (.ite c' a' b')
 | pair {a b a' b' : _} : U a a' → U b b' → U (.pair a b) (.pair a' b')
 | part {s e e' : _} : U e e' → U (.part s e) (.part s e')
 | conv {c e e' : _} : U e e' → U (.conv c e) (.conv c e')
 | mrg {c d e u : _} : U e (.conv d u) → U (.conv c e) (.conv (cmp d c) u)
 | idn {c e e' : _} : U e e' → c.idn = true → U (.conv c e) e'
 | back {c d e u : _} : U e (.conv d u) → (cmp d c).idn = true → U (.conv c e) u
inductive UR : Rs → Rs → Prop
 | v {t t' : _} : U t t' → UR (.v t) (.v t')
 | b {l : _} : UR (.b l) (.b l)
variable {u : TH}
theorem A0x (h : (TH.conv c u).val = true) : c.vl = true ∧ u.pln = true := by rw [TH.val, Bool.and_eq_true] at h; exact h
variable {r : Rs}
theorem B5y {x : TH} (hv : x.val = true) (ht : ST D1 x A) (hc : CT c A B) (hi : c.idn = true) (hf : Z2 c x = some r) : r = .v x ∨ (r = .v (.conv c x) ∧ x.cnv = false) := by
 cases hcn : x.cnv with
 | false =>
  rw [A0V hcn] at hf
  cases c <;> first | (cases hi; done) | (simp only [fin, Option.some.injEq] at hf; subst hf; first | exact .inl rfl | exact .inr ⟨rfl, rfl⟩)
 | true =>
  cases x <;> first | cases hcn | skip
  rename_i d u
  obtain ⟨h3, h4⟩ := A0x hv
  obtain ⟨C, h1, h2⟩ := A0K ht
  have e : Z2 c (.conv d u) = fin u (cmp d c) := rfl
  rw [e, B5x h2 hc hi, ← A0V (A1l h4), A4C (A1l h4) h3] at hf
  cases hf
  exact .inl rfl
theorem A7p {d : GK} (hu : ST D1 u A) (hd : CT d A B) (hc : CT c B C) (h : F9 (.conv c (.conv d u)) r) : F9 (.conv (cmp d c) u) r := by
 cases h with
 | conv g1 g2 =>
  cases g1 with
  | conv k1 k2 =>
   obtain ⟨t1, t2⟩ := k1.T hu _ rfl
   exact .conv k1 (by rw [A5M t2 t1 hd hc, k2]; exact g2)
 | conv1 g1 =>
  cases g1 with
  | conv k1 k2 =>
   obtain ⟨t1, t2⟩ := k1.T hu _ rfl
   exact .conv k1 (by rw [A5M t2 t1 hd hc, k2]; rfl)
  | conv1 k1 => exact .conv1 k1
theorem A2O {x : Bool} {p : Prop} (h : x = true ↔ p) : (x = true ∧ p) ∨ (x = false ∧ ¬p) := by
 cases x
 ·exact .inr ⟨rfl, fun q => absurd (h.2 q) Bool.noConfusion⟩
 ·exact .inl ⟨rfl, h.1 rfl⟩
structure A5N {ι : Type} (S : ι → Sy) (φ : ι → Prop) (e : Exit) (σ : Sy) : Prop where
 run : match e with
  | .normal => ∃ i, φ i ∧ Sub σ (S i)
  | _ => False
section cut
variable {P : Program} {Γ : M5} {K : Po} {σ : Sy} {ι : Type}
theorem P4 {c y : Code} (S : ι → Sy) (φ : ι → Prop) (h : J9 P Γ c (A5N S φ) σ) (k : ∀ i, φ i → J9 P Γ y K (S i)) : J9 P Γ c (A1v P Γ y K) σ := by
 refine tri_post h ?_
 rintro e σ ⟨hk⟩
 cases e with
 | normal => obtain ⟨i, hi, hs⟩ := hk; exact ⟨A8U hs (k i hi)⟩
 | _ => exact hk.elim
where
 tri_post {c : Code} {K K' : Po} {σ : Sy} (h : J9 P Γ c K σ) (hk : ∀ e σ, K e σ → K' e σ) : J9 P Γ c K' σ := A6P h hk
variable {σ : Sy}
theorem E2 {S : ι → Sy} {φ : ι → Prop} (i : ι) (hs : Sub σ (S i)) (h : φ i) : A5N S φ .normal σ := ⟨⟨i, h, hs⟩⟩
theorem B5z {S : ι → Sy} {φ : ι → Prop} : A0q (A5N S φ) := fun _ _ h => h.run
instance npC5 {S : ι → Sy} {φ : ι → Prop} : NpC (A5N S φ) := ⟨B5z⟩
end cut
structure A4D {ι : Type} (S : ι → Sy) (φ : ι → Prop) (K : Po) (e : Exit) (σ : Sy) : Prop where
 run : match e with
  | .normal => ∃ i, φ i ∧ Sub σ (S i)
  | e => K e σ
section cutr
variable {P : Program} {Γ : M5} {K : Po} {σ : Sy} {ι : Type}
theorem A3R {c y : Code} (S : ι → Sy) (φ : ι → Prop) (h : J9 P Γ c (A4D S φ K) σ) (k : ∀ i, φ i → J9 P Γ y K (S i)) : J9 P Γ c (A1v P Γ y K) σ := by
 refine A6P h ?_
 rintro e σ ⟨hk⟩
 cases e with
 | normal => obtain ⟨i, hi, hs⟩ := hk; exact ⟨A8U hs (k i hi)⟩
 | _ => exact ⟨hk⟩
variable {σ : Sy}
theorem A0L {S : ι → Sy} {φ : ι → Prop} (i : ι) (hs : Sub σ (S i)) (h : φ i) : A4D S φ K .normal σ := ⟨⟨i, h, hs⟩⟩
theorem A0l {S : ι → Sy} {φ : ι → Prop} (h : K .ret σ) : A4D S φ K .ret σ := ⟨h⟩
theorem B5A {S : ι → Sy} {φ : ι → Prop} (h : A0q K) : A0q (A4D S φ K) := fun c σ hk => h c σ hk.run
instance npC6 {S : ι → Sy} {φ : ι → Prop} [h : NpC K] : NpC (A4D S φ K) := ⟨B5A h.h⟩
end cutr
theorem B5B (G : IM) (p : Option Addr) (n c : Nat) (es : List (List Value)) (hsl : D7 G p n c 2 es) (fid : FuncId) [C1 prog fid] (us cs : List Value) (ins : List A9) (q : Nat → Bool)
  (hq : ∀ i e, es[i]? = some e → Fn prog fid (us ++ [.agg ⟨e⟩] ++ cs) ins G (S5 (.bool (q i)) ins G)) :
  Fn prog 191 [.slice p n c, .func (.func fid) ⟨us⟩ ⟨cs⟩] ins G (S5 (.int .i64 (A0v q n)) ins G) := by
 have hn := hsl.le
 refine C4 func191 rfl ntmps191 results191 rfl ?_
 intro w0
 refine K7 ?_
 refine C2 ?_
 refine K2 (fun i : Nat => ⟨[(8, .int .i64 i), (7, .int .i64 n), (1, .func (.func fid) ⟨us⟩ ⟨cs⟩), (0, .slice p n c)], ins, G⟩) (fun i => i ≤ n ∧ ∀ j, j < i → q j = false) (fun i => n - i) 0 ?_ ?_ ?_
 exact E3
 exact ⟨by omega, by omega⟩
 rintro i ⟨hi, hf⟩
 refine A5 ?_
 refine zf8 (fun h21 => ?_) (fun h21 => ?_)
 refine B8 ?_
 refine C2 ?_
 refine J3 ?_
 (obtain ⟨e, b, o, he, rfl, hl, _, hat, _⟩ := hsl.get (i := i) zO0; refine sP (B2 rfl rfl rfl zO0) rfl rfl ?_)
 refine sL (A3 rfl rfl (hat _) hl) rfl rfl ?_
 refine A5t rfl rfl (hq i e he) A04 rfl rfl (fun h43 => ?_) (fun h43 => ?_)
 refine K1 ?_
 refine I6 (rT rfl) A1.refl ?_
 exact ⟨rfl, by rw [A66 zO0 hf zL0], rfl⟩
 refine B8 ?_
 refine zf4 ?_
 refine A5 ?_
 refine J7 (i + 1) ?_ ?_ ?_
 exact E3
 exact ⟨by omega, fun j hj => by by_cases hji : j = i; (subst hji; assumption); exact hf j zO0⟩
 omega
 refine K1 ?_
 refine I6 (rT rfl) A1.refl ?_
 exact ⟨rfl, by rw [A5w (fun j hj => hf j zO0)], rfl⟩
theorem B5C (G : IM) (p : Option Addr) (n c : Nat) (es : List (List Value)) (hsl : D7 G p n c 2 es) (fid : FuncId) [C1 prog fid] (us cs : List Value) (ins : List A9) (q : Nat → Bool)
  (hq : ∀ i e, es[i]? = some e → Fn prog fid (us ++ [.agg ⟨e⟩] ++ cs) ins G (S5 (.bool (q i)) ins G)) :
  Fn prog 160 [.slice p n c, .func (.func fid) ⟨us⟩ ⟨cs⟩] ins G (S5 (.bool (decide (0 ≤ A0v q n))) ins G) := by
 refine C4 func160 rfl ntmps160 results160 rfl ?_
 intro w0
 refine E1 ?_
 refine A2f rfl (B5B G p n c es hsl fid us cs ins q hq) A04 rfl rfl ?_
 refine sQ (A1g rfl rfl) rfl ?_
 refine B6 ?_
 refine I6 (rT rfl) A1.refl ?_
 exact ⟨rfl, rfl, rfl⟩
theorem B5D (G : IM) (p : Option Addr) (n c : Nat) (es : List (List Value)) (hsl : D7 G p n c 2 es) (fid : FuncId) [C1 prog fid] (us cs : List Value) (ins : List A9) (f : Ty → Bool) (ks : List Ty)
  (hn : ks.length = n) {A : Bool} (hA : ks.all f = A) (hq : ∀ i e, es[i]? = some e → Fn prog fid (us ++ [.agg ⟨e⟩] ++ cs) ins G (S5 (.bool (!f (ks.getD i C5))) ins G)) :
  Fn prog 160 [.slice p n c, .func (.func fid) ⟨us⟩ ⟨cs⟩] ins G (S5 (.bool (!A)) ins G) := by
 subst hn hA
 rw [← A9k f ks C5]
 exact B5C G p _ c es hsl fid us cs ins _ hq
theorem A95 (G : IM) (p p' : Option Addr) (n c n' c' : Nat) (es es' : List (List Value)) (hsl : D7 G p n c 2 es) (hsl' : D7 G p' n' c' 2 es') (fid : FuncId) [C1 prog fid] (us cs : List Value) (ins : List A9) (q : Nat → Bool)
  (A : Bool) (hA : A = true ↔ n = n' ∧ ∀ i, i < n → q i = true)
  (hq : ∀ i e e', es[i]? = some e → es'[i]? = some e' → Fn prog fid (us ++ [.agg ⟨e⟩, .agg ⟨e'⟩] ++ cs) ins G (S5 (.bool (q i)) ins G)) :
  Fn prog 65 [.slice p n c, .slice p' n' c', .func (.func fid) ⟨us⟩ ⟨cs⟩] ins G (S5 (.bool A) ins G) := by
 have hn := hsl.le
 have hn' := hsl'.le
 refine C4 func65 rfl ntmps65 results65 rfl ?_
 intro w0
 refine P3 ?_
 refine zf16 (fun h13 => ?_) (fun h13 => ?_)
 refine I9 ?_
 refine I6 (outs := ins) (rT rfl) (by first | exact A1.refl | exact A1.drop (A1.drop A1.refl)) ?_
 exact ⟨rfl, by (cases A with | false => rfl | true => exact absurd (hA.1 rfl).1 zO0), rfl⟩
 refine K7 ?_
 refine C2 (K2 (fun i : Nat => ⟨[(17, .int .i64 i), (16, .int .i64 n), (15, .slice p n c), (2, .func (.func fid) ⟨us⟩ ⟨cs⟩), (1, .slice p' n' c'), (0, .slice p n c)], ins, G⟩) (fun i => i ≤ n ∧ ∀ j, j < i → q j = true) (fun i => n - i) 0 ?_ ?_ ?_)
 exact E3
 exact ⟨by omega, by omega⟩
 rintro i ⟨hi, hf⟩
 refine A5 ?_
 refine zf8 (fun h46 => ?_) (fun h46 => ?_)
 refine B8 ?_
 refine C2 ?_
 refine B5 ?_
 (obtain ⟨e, b, o, he, rfl, hl, _, hat, _⟩ := hsl.get (i := i) zO0; refine sP (B2 rfl rfl rfl zO0) rfl rfl ?_)
 refine sL (A3 rfl rfl (hat _) hl) rfl rfl ?_
 refine zf1 (fun b60 => ?_)
 refine I0 ?_
 refine Y2 rfl rfl rfl zL0 zL0 rfl zC0 (by exact E0 (by symm; assumption)) ?_
 refine A7 ?_
 (obtain ⟨e', b', o', he', rfl, hl', _, hat', _⟩ := hsl'.get (i := i) zO0; refine sP (B2 rfl rfl rfl zO0) rfl rfl ?_)
 refine sL (A3 rfl rfl (hat' _) hl') rfl rfl ?_
 refine zf1 (fun b71 => ?_)
 refine Y2 rfl rfl rfl zL0 zL0 rfl zC0 (by exact E0 (by symm; assumption)) ?_
 refine B1 ?_
 refine sL (A3 rfl rfl (B9 zG0) zL0) rfl rfl ?_
 refine sL (A3 rfl rfl (B9 zG0) zL0) rfl rfl ?_
 refine A5t rfl rfl (hq i e e' he he') B4F rfl rfl (fun h80 => ?_) (fun h80 => ?_)
 refine D4 ?_
 refine zf4 ?_
 refine A5 ?_
 refine J7 (i + 1) ?_ ?_ ?_
 exact E3
 exact ⟨by omega, fun j hj => by by_cases hji : j = i; (subst hji; assumption); exact hf j zO0⟩
 omega
 refine K1 ?_
 refine I6 (outs := ins) (rT rfl) (by first | exact A1.refl | exact A1.drop (A1.drop A1.refl)) ?_
 exact ⟨rfl, by (cases A with | false => rfl | true => have h0 := (hA.1 rfl).2 i zO0; simp_all), rfl⟩
 refine K1 ?_
 refine I6 (outs := ins) (rT rfl) (by first | exact A1.refl | exact A1.drop (A1.drop A1.refl)) ?_
 exact ⟨rfl, by rw [hA.2 ⟨by omega, fun j hj => hf j zO0⟩], rfl⟩
theorem A3S (n lo hi : Int) (G : IM) : Fn prog 66 [.int .i64 n, .int .i64 lo, .int .i64 hi] [] G (I1 (.bool (Q5 n lo hi)) G) := by
 refine C4 func66 rfl ntmps66 results66 rfl ?_
 intro w0
 refine E1 ?_
 refine sB (A1y rfl rfl) rfl rfl (fun h10 => ?_) (fun h10 => ?_)
 refine B5 ?_
 refine sB (A1y rfl rfl) rfl rfl (fun h14 => ?_) (fun h14 => ?_)
 refine A7 ?_
 exact ⟨rfl, by simp [Q5]; omega, rfl⟩
 refine A7 ?_
 exact ⟨rfl, by simp [Q5]; omega, rfl⟩
 refine I9 ?_
 exact ⟨rfl, by simp [Q5]; omega, rfl⟩
theorem A2k (k : Int) (G : IM) : Fn prog 112 [.int .i64 k] [] G (I1 (.agg ⟨[.int .i64 k, .slice none 0 0]⟩) G) := by
 refine C4 func112 rfl ntmps112 results112 rfl ?_
 intro w0
 refine A5 ?_
 refine zf1 (fun b3 => ?_)
 refine I9 ?_
 refine zf9 ?_
 exact ⟨rfl, rfl, rfl⟩
theorem B5E (n : Int) (G : IM) : Fn prog 155 [.int .i64 n] [] G (I1 (.bool (A0C n)) G) := by
 refine C4 func155 rfl ntmps155 results155 rfl ?_
 intro w0
 refine D4 ?_
 refine L4 rfl (A3S _ _ _ _) rfl rfl (fun h9 => ?_) (fun h9 => ?_)
 refine E1 ?_
 exact ⟨rfl, by simp [A0C, *], rfl⟩
 refine A5 ?_
 refine L4 rfl (A3S _ _ _ _) rfl rfl (fun h22 => ?_) (fun h22 => ?_)
 refine A7 ?_
 exact ⟨rfl, by simp [A0C, *], rfl⟩
 refine A7 ?_
 exact ⟨rfl, by simp [A0C, *], rfl⟩
theorem A96 (t : Ty) (G : IM) (cells : List Value) (hr : C6 G t cells) : Fn prog 153 [.agg ⟨cells⟩] [] G (I1 (.bool (Y4 t)) G) := by
 obtain ⟨p, c, es, rfl, hk, hsl, hkl⟩ := hr.open
 refine C4 func153 rfl ntmps153 results153 rfl ?_
 intro w0
 refine A5 ?_
 refine zf2 (fun b3 => ?_)
 refine B8 ?_
 refine zf0 (fun h11 => ?_) (fun h11 => ?_)
 refine B6 ?_
 refine zf0 (fun h16 => ?_) (fun h16 => ?_)
 refine A7 ?_
 exact ⟨rfl, by simp only [Y4]; (first | rw [decide_eq_true zO0] | rw [decide_eq_false zO0]), rfl⟩
 refine A7 ?_
 exact ⟨rfl, by simp only [Y4]; (first | rw [decide_eq_true zO0] | rw [decide_eq_false zO0]), rfl⟩
 refine J3 ?_
 exact ⟨rfl, by simp only [Y4]; (first | rw [decide_eq_true zO0] | rw [decide_eq_false zO0]), rfl⟩
theorem B5F (s : ByteArray) (G : IM) : Fn prog 152 [.string s] [] G (I1 (.bool (Z0 s)) G) := by
 refine C4 func152 rfl ntmps152 results152 rfl ?_
 intro w0
 refine D4 ?_
 refine sQ (A28 rfl rfl) rfl (sB (qE rfl rfl) rfl rfl (fun h10 => ?_) (fun h10 => ?_))
 refine A5 ?_
 refine sP (A5n rfl rfl rfl zO0 (A5y zO0)) rfl rfl ?_
 refine sB (A1g rfl rfl) rfl rfl (fun h14 => ?_) (fun h14 => ?_)
 refine B5 ?_
 refine sP (A5n rfl rfl rfl zO0 (A5y zO0)) rfl rfl ?_
 refine sB (A1y rfl rfl) rfl rfl (fun h19 => ?_) (fun h19 => ?_)
 exact y0
 exact y0
 refine J3 ?_
 exact ⟨rfl, by simp only [Z0]; (try simp only [Int.toNat_zero] at *); (first | rw [decide_eq_true zO0] | rw [decide_eq_false zO0]), rfl⟩
 refine K1 ?_
 exact ⟨rfl, by simp only [Z0]; (try simp only [Int.toNat_zero] at *); (first | rw [decide_eq_true zO0] | rw [decide_eq_false zO0]), rfl⟩
end Gw
end Go.Proofs.YtmceanphadildaaGreatDoor
